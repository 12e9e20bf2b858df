/- OWN LIBRARY: as InC; what is told behind it is one of many. -/
import Derived.Test.YtdhnjmepgafeiaaDoorCA
set_option linter.unusedVariables false
set_option linter.unusedSimpArgs false
set_option maxRecDepth 100000
namespace Go.Proofs.YtdhnjmepgafeiaaDoor.Abs
open Go

section
variable {P : Program} {T : Tab} {X : Ctx} {s : St} {σ : Env} {w : World} {a : Act}

def InCE (P : Program) (X : Ctx) (f : FuncId) (args : List SV) (b : List (Nat × Nat × Blk)) (c0 : Nat) (Q : SV → List (Nat × Nat × Blk) → Nat → Prop) : Prop :=
  ∀ (σ : Env) (w : World) (vals : Array Value), R X ⟨args, b, ⟨c0, [], 0⟩⟩ σ w ⟨vals, []⟩ →
    Calls P f vals w fun e w' => ∃ v σ' x b' c1, e = .returned v ∧ Q x b' c1 ∧ V2 X b' ⟨c1, [], 0⟩ σ' w' x v ∧ R X ⟨[], b', ⟨c1, [], 0⟩⟩ σ' w' ⟨#[], []⟩ ∧ Tr X b ⟨c0, [], 0⟩ σ w b' ⟨c1, [], 0⟩ σ' w'

/-- What such a contract asks of the state at the end. -/
def endQ (T : Tab) (rv : Array ResultVar) (Q : SV → List (Nat × Nat × Blk) → Nat → Prop) (s' : St) : Prop := ∃ x b' c1, Q x b' c1 ∧ retC T rv x b' c1 s'

theorem inCE_go (TO : TabOk P T) (off : Nat) {f : FuncId} {fn : Func} {c : Code} {args : List SV} {b : List (Nat × Nat × Blk)} {c0 : Nat} {Q : SV → List (Nat × Nat × Blk) → Nat → Prop} (hf : P.funcs[f]? = some fn) (hb : fn.body = some c)
    (h : HRun P X [.code c] ⟨args ++ List.replicate (fn.ntmps - args.length) .any, b, ⟨c0, [], off⟩⟩ (endQ T fn.results Q)) : InCE P X f args b c0 Q := by
  intro σ w vals hR
  have hvs : vals.size = args.length := hR.sz
  refine calls_of_fin hf hb ?_
  have hb2 : R X ⟨args, b, ⟨c0, [], off⟩⟩ σ w ⟨vals, []⟩ := R_off hR
  have hR2 : R X ⟨args ++ List.replicate (fn.ntmps - args.length) .any, b, ⟨c0, [], off⟩⟩ σ w { tmps := vals ++ Array.replicate (fn.ntmps - vals.size) undef, defers := [] } := by
    refine { hb2 with sz := by simp [hvs], tm := fun j hj => ?_, df := rfl }
    show V X b ⟨c0, [], off⟩ σ w ((args ++ List.replicate (fn.ntmps - args.length) SV.any).getD j .any) _
    by_cases hlt : j < args.length
    · have hV := hb2.tm j hlt
      have e1 : (args ++ List.replicate (fn.ntmps - args.length) SV.any).getD j .any = args.getD j .any := by
        simp only [List.getD]; rw [List.getElem?_append_left (by omega)]
      have e2 : (vals ++ Array.replicate (fn.ntmps - vals.size) undef).getD j undef = vals.getD j undef := by
        rw [Array.getD_eq_getD_getElem?, Array.getElem?_append_left (by omega), Array.getD_eq_getD_getElem?]
      rw [e1, e2]
      exact hV
    · have e1 : (args ++ List.replicate (fn.ntmps - args.length) SV.any).getD j .any = .any := by
        simp only [List.getD]; rw [List.getElem?_append_right (by omega)]
        rw [List.getElem?_replicate]; split <;> rfl
      rw [e1]; exact V.any _
  refine (h σ w _ hR2).mono ?_
  rintro a' w' ⟨s', σ', ⟨x, b', c1, hQ, hsub, hcc, hi⟩, hR', hT'⟩
  refine ⟨hR'.df, ?_⟩
  have hT : Tr X b ⟨c0, [], 0⟩ σ w b' ⟨c1, [], 0⟩ σ' w' := by
    have t1 : Tr X b ⟨c0, [], 0⟩ σ w b ⟨c0, [], off⟩ σ w := ⟨fun _ _ h => h, fun _ _ h _ => ⟨h, rfl⟩, fun _ _ h => ⟨rfl, h⟩, fun _ _ _ _ _ _ => Nat.le_refl _⟩
    exact t1.trans (hT'.trans ((Tr_raise hcc).trans (Tr_sub hsub)))
  have tv : Tr X s'.b s'.c σ' w' b' ⟨c1, [], 0⟩ σ' w' := (Tr_raise hcc).trans (Tr_sub hsub)
  obtain ⟨rv, hrv⟩ : ∃ l : List ResultVar, fn.results = l.toArray := ⟨fn.results.toList, by simp⟩
  rw [hrv] at hi
  match rv, hrv with
  | [], hrv =>
    simp only [List.map_nil] at hi
    subst hi
    exact ⟨.tuple #[], by simp [results, hrv], .tuple #[], σ', _, _, _, rfl, hQ, ⟨#[], rfl, rfl⟩, R_tm0 hR' hcc hsub, hT⟩
  | [r1], hrv =>
    simp only [List.map_cons, List.map_nil] at hi
    cases e1 : resV T s' r1 <;> simp only [e1] at hi
    rename_i q1
    obtain ⟨p1, x1⟩ := q1
    simp only at hi
    obtain ⟨v1, hr1, hv1⟩ := resV_ok TO hR' e1 hi.1
    refine ⟨v1, run_results1 hrv hr1, v1, σ', _, _, _, rfl, hQ, rI_ok hi.2.1 ?_, R_tm0 hR' hcc hsub, hT⟩
    exact (V2_of_V' hv1 hi.2.2).tr tv
  | [r1, r2], hrv =>
    simp only [List.map_cons, List.map_nil] at hi
    cases e1 : resV T s' r1 <;> simp only [e1] at hi
    rename_i q1
    obtain ⟨p1, x1⟩ := q1
    cases e2 : resV T s' r2 <;> simp only [e2] at hi
    rename_i q2
    obtain ⟨p2, x2⟩ := q2
    simp only at hi
    obtain ⟨v1, hr1, hv1⟩ := resV_ok TO hR' e1 hi.1
    obtain ⟨v2, hr2, hv2⟩ := resV_ok TO hR' e2 hi.2.1
    obtain ⟨_, _, hx, f1, f2⟩ := hi
    split at hx
    · obtain ⟨h1, h2⟩ := hx
      exact ⟨_, run_results2 hrv hr1 hr2, _, σ', _, _, _, rfl, hQ, ⟨_, rfl, v1, _, rfl, rI_ok1 h1 ((V1_of_V hv1 f1).tr tv), v2, _, rfl, rI_ok1 h2 ((V1_of_V hv2 f2).tr tv), rfl⟩, R_tm0 hR' hcc hsub, hT⟩
    · exact hx.elim
  | _ :: _ :: _ :: _, hrv =>
    exfalso
    simp only [List.map_cons] at hi
    split at hi <;> simp_all

theorem inCE_call (hR : R X s σ w a) {f : FuncId} {xs : List Operand} {args : List SV} {d : Nat} {Q : SV → List (Nat × Nat × Blk) → Nat → Prop} (hC : InCE P X f args s.b (s.c.c + 1) Q)
    (hgd : gdPs s.t true xs) (ha : argC s.t xs = args) :
    Calls P f (xs.map a.eval).toArray w fun e w' => ∃ v σ' x b' c1, e = .returned v ∧ Q x b' c1 ∧ R X ⟨s.t.set d x, b', ⟨c1, [], s.c.o⟩⟩ σ' w' (a.put (some d) v) ∧ Tr X s.b s.c σ w b' ⟨c1, [], s.c.o⟩ σ' w' := by
  have hb := R_raise (c1 := s.c.c + 1) (o := 0) hR (Nat.lt_succ_self _)
  have hlen : args.length = xs.length := by rw [← ha]; simp [argC]
  have hin : R X ⟨args, s.b, ⟨s.c.c + 1, [], 0⟩⟩ σ w ⟨(xs.map a.eval).toArray, []⟩ := by
    refine { hb with sz := by simp [hlen], tm := fun j hj => ?_, df := rfl }
    obtain ⟨y, hy⟩ : ∃ y, args[j]? = some y := ⟨args[j], by simp⟩
    obtain ⟨v, hv, hV⟩ := evalsC hR hgd (by rw [ha]; exact hy)
    have e1 : (⟨args, s.b, ⟨s.c.c + 1, [], 0⟩⟩ : St).t.getD j .any = y := by simp only [List.getD]; rw [hy]; rfl
    have e2 : ((xs.map a.eval).toArray).getD j undef = v := by
      rw [Array.getD_eq_getD_getElem?, List.getElem?_toArray, hv]; rfl
    show V X s.b ⟨s.c.c + 1, [], 0⟩ σ w (args.getD j .any) (((xs.map a.eval).toArray).getD j undef)
    rw [show args.getD j .any = y from e1, e2]
    exact V_of_V2 (hV.tr (Tr_raise (Nat.lt_succ_self _)))
  refine (hC σ w _ hin).mono ?_
  rintro e w' ⟨v, σ', x, b', c1, rfl, hQ, hv, hR', hT⟩
  have hT2 : Tr X s.b s.c σ w b' ⟨c1, [], s.c.o⟩ σ' w' := by
    have t1 : Tr X b' ⟨c1, [], 0⟩ σ' w' b' ⟨c1, [], s.c.o⟩ σ' w' := ⟨fun _ _ h => h, fun _ _ h _ => ⟨h, rfl⟩, fun _ _ h => ⟨rfl, h⟩, fun _ _ _ _ _ _ => Nat.le_refl _⟩
    exact (Tr_raise (Nat.lt_succ_self _)).trans (hT.trans t1)
  have t3 : Tr X b' ⟨c1, [], 0⟩ σ' w' b' ⟨c1, [], s.c.o⟩ σ' w' := ⟨fun _ _ h => h, fun _ _ h _ => ⟨h, rfl⟩, fun _ _ h => ⟨rfl, h⟩, fun _ _ _ _ _ _ => Nat.le_refl _⟩
  have ht := put_tm (dst := some d) hR.sz (fun i hi => (hR.tm i hi).tr hT2) (V_of_V2 (hv.tr t3))
  have hR2 := R_off (o := s.c.o) hR'
  exact ⟨v, σ', x, b', c1, rfl, hQ, { hR2 with sz := ht.1, tm := ht.2, df := hR.df }, hT2⟩

theorem inCE_ops (TO : TabOk P T) {ops : Array Oper} {o : Oper} {rest : List Oper} {k : List Item} {Φ : St → Prop} {f : FuncId} {fn : Func} {xs : Array Operand} {ts : Array TypeId} {d : Nat} {args : List SV} {Q : SV → List (Nat × Nat × Blk) → Nat → Prop} (n : Nat)
    (hC : InCE P X f args s.b (s.c.c + 1) Q) (hf : P.funcs[f]? = some fn) (hname : (fn.name == "runtime.NumGoroutine") = false) (hb : fn.body.isSome = true)
    (ho : o.op = .call { callee := .value (.func f), args := xs, argTypes := ts }) (hd : o.dst = some d)
    (h : (argC s.t xs.toList = args ∧ guardIs ops s.t true o.guard ∧ gdPs s.t true xs.toList) ∧ ∀ x b' c1, Q x b' c1 → absOps P X T ops k Φ (absRun P X T Φ n k) rest ⟨s.t.set d x, b', ⟨c1, [], s.c.o⟩⟩) : HOps P X ops (o :: rest) k s Φ := by
  obtain ⟨⟨ha, hg, hgd⟩, h⟩ := h
  intro i hi σ w a hR
  obtain ⟨ho', hrest⟩ := ops_at hi
  have hw : Region.wanted o (yielded ops a.tmps) = true := by
    cases e : o.guard with
    | none => simp [Region.wanted, e]
    | some jw => obtain ⟨j, w'⟩ := jw; rw [e] at hg; simp only [Region.wanted, e]; exact guardOf_ok hR hg
  rw [List.length_cons, List.range'_succ]
  refine Fins.opCall (f := f) (args := (xs.toList.map a.eval).toArray) (w' := w) ho' hw ?_ ?_
  · simp only [execOp, ho, resolve]
    have e1 : a.eval (.func f) = .func (.func f) #[] #[] := rfl
    have e2 : (xs.toList.map a.eval).toArray = xs.map a.eval := Array.ext' (by rw [Array.toList_map])
    simp [e1, Deferred.ofValue, invoke, run_callFunc hf hb hname, e2]
  · refine (inCE_call (d := d) hR hC hgd ha).mono ?_
    rintro e w' ⟨v, σ', x, b', c1, rfl, hQ, hR', hT⟩
    exact ⟨v, rfl, by rw [hd]; exact (HOps_go TO n (h x b' c1 hQ) (i + 1) hrest).after hR' hT⟩

end

theorem subB0 {b : List (Nat × Nat × Blk)} : SubB [] b := fun n x h => by simp only [fnd] at h; cases h
theorem subBc {b l : List (Nat × Nat × Blk)} {n g : Nat} {x : Blk} (h : fnd l n = some (g, x)) (hb : SubB b l) : SubB ((n, g, x) :: b) l := by
  intro m y hy
  simp only [fnd] at hy
  split at hy
  · rename_i e; subst e; rw [h]; exact hy
  · exact hb m y hy

/-- Marks raised. -/
theorem lift_go {P : Program} {X : Ctx} {todo : List Item} {s : St} {Φ : St → Prop} (c1 : Nat) (hc : s.c.c < c1) (h : HRun P X todo ⟨s.t, s.b, ⟨c1, [], s.c.o⟩⟩ Φ) : HRun P X todo s Φ :=
  fun σ w a hR => h.after (R_raise hR hc) (Tr_raise hc)
theorem lift_ops {P : Program} {X : Ctx} {ops : Array Oper} {rest : List Oper} {k : List Item} {s : St} {Φ : St → Prop} (c1 : Nat) (hc : s.c.c < c1) (h : HOps P X ops rest k ⟨s.t, s.b, ⟨c1, [], s.c.o⟩⟩ Φ) : HOps P X ops rest k s Φ :=
  fun i hi => lift_go c1 hc (h i hi)

end Go.Proofs.YtdhnjmepgafeiaaDoor.Abs
