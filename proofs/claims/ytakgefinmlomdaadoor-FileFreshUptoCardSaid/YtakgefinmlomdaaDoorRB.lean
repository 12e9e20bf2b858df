/- OWN LIBRARY: one operation at a time; structs told as entries, as locks; cells told otherwise. -/
import Derived.Test.YtakgefinmlomdaaDoorUX
set_option linter.unusedVariables false
set_option linter.unusedSimpArgs false
set_option maxRecDepth 100000
namespace Go.Proofs.YtakgefinmlomdaaDoor.Abs
open Go

section
variable {P : Program} {T : Tab} {X : Ctx} {s : St} {σ : Env} {w : World} {a : Act}

/-- A block, told otherwise. -/
theorem tell_go {todo : List Item} {Φ : St → Prop} (m : Nat) {gm : Nat} {x : Blk} (x' : Blk)
    (h : (fnd s.b m = some (gm, x) ∧ ∀ σ w, BlkOk X s.b s.c σ w m x → BlkOk X s.b s.c σ w m x') ∧ HRun P X todo ⟨s.t, upd s.b m gm x', s.c⟩ Φ) : HRun P X todo s Φ := by
  obtain ⟨⟨hm, hw⟩, h⟩ := h
  intro σ w a hR
  have T : Tr X s.b s.c σ w (upd s.b m gm x') s.c σ w := Tr_upd hm
  have hf : ∀ k y, fnd (upd s.b m gm x') k = some y → ∃ z, fnd s.b k = some z := by
    intro k y hk
    rw [fnd_upd] at hk
    split at hk
    · rename_i e; subst e; exact ⟨_, hm⟩
    · exact ⟨_, hk⟩
  have hR' : R X ⟨s.t, upd s.b m gm x', s.c⟩ σ w a := by
    refine { sz := hR.sz, tm := fun j hj => (hR.tm j hj).tr T, df := hR.df, bl := ?_, inj := ?_, fr := hR.fr, st := hR.st, ro := hR.ro, gl := hR.gl }
    · intro k gk x hk
      simp only at hk
      rw [fnd_upd] at hk
      split at hk
      · rename_i e
        subst e
        simp only [Option.some.injEq, Prod.mk.injEq] at hk
        obtain ⟨rfl, rfl⟩ := hk
        obtain ⟨h1, h2, h3⟩ := hR.bl k gm _ hm
        exact ⟨h1, (hw σ w h2).tr T rfl (fun _ _ => rfl), h3⟩
      · obtain ⟨h1, h2, h3⟩ := hR.bl k gk x hk
        exact ⟨h1, h2.tr T rfl (fun _ _ => rfl), h3⟩
    · intro k k' x x' B hk hk' hs hs'
      obtain ⟨z, hz⟩ := hf k x hk
      obtain ⟨z', hz'⟩ := hf k' x' hk'
      exact hR.inj k k' z z' B hz hz' hs hs'
  exact (h σ w a hR').mono fun a' w' ⟨s', σ', h1, h2, h3⟩ => ⟨s', σ', h1, h2, T.trans h3⟩

theorem tell_ops {ops : Array Oper} {rest : List Oper} {k : List Item} {Φ : St → Prop} (m : Nat) {gm : Nat} {x : Blk} (x' : Blk)
    (h : (fnd s.b m = some (gm, x) ∧ ∀ σ w, BlkOk X s.b s.c σ w m x → BlkOk X s.b s.c σ w m x') ∧ HOps P X ops rest k ⟨s.t, upd s.b m gm x', s.c⟩ Φ) : HOps P X ops rest k s Φ :=
  fun i hi => tell_go m x' ⟨h.1, h.2 i hi⟩

theorem blk_locks {b : List (Nat × Nat × Blk)} {c : Lim} {n : Nat} {op at_ len mode : Int} (h : BlkOk X b c σ w n (.cells [.int .i64 op, .int .u64 at_, .int .u64 len, .int .u16 mode])) : BlkOk X b c σ w n (.vec (.locks [⟨op, at_, len, mode⟩])) := by
  obtain ⟨B, cs, t, fr, hs, hheap, hfree, v1, r1, e1, h1, v2, r2, e2, h2, v3, r3, e3, h3, v4, r4, e4, h4, h5⟩ := h
  have h1 : v1 = .int .i64 op := h1
  have h2 : v2 = .int .u64 at_ := h2
  have h3 : v3 = .int .u64 len := h3
  have h4 : v4 = .int .u16 mode := h4
  have h5 : r4 = [] := h5
  subst h1 h2 h3 h4 h5 e4 e3 e2
  have hsz : cs.size = 4 := by rw [← Array.length_toList, e1]; rfl
  refine .inr ⟨B, cs, t, fr, hs, hheap, hfree, by simp [Data.len, Data.esz, hsz], ?_, trivial⟩
  intro i j hi hj
  simp only [Data.len, List.length_cons, List.length_nil] at hi
  simp only [Data.esz] at hj
  obtain rfl : i = 0 := by omega
  have g : ∀ q, w.cell? ⟨B, q, none⟩ = cs.toList[q]? := fun q => by rw [cell_block hheap, Array.getElem?_toList]
  rcases (show j = 0 ∨ j = 1 ∨ j = 2 ∨ j = 3 by omega) with rfl | rfl | rfl | rfl
  all_goals
    refine ⟨_, by rw [g, e1]; rfl, ?_⟩
    simp [CellOk]

/-- A contract, with its answer told otherwise. -/
theorem Meets.weaken {f : FuncId} {args rs rs' : List AV} (hM : Meets P f args rs) (h : retQ ⟨svs 0 rs, blks 0 rs, ⟨1, [], 0⟩⟩ (svs 0 rs) rs') : Meets P f args rs' := by
  intro X σ vals hR
  refine (hM X σ vals hR).mono ?_
  rintro e w' ⟨vs, σ', rfl, hR'⟩
  have hl : vs.length = (svs 0 rs).length := by have := hR'.sz; simpa using this
  obtain ⟨σ2, h2⟩ := retQ_ok hR' h (vs := vs) hl (fun j x v hx hv => by
    have hj : j < (svs 0 rs).length := (List.getElem?_eq_some_iff.1 hx).1
    have := hR'.tm j hj
    have e1 : (svs 0 rs).getD j .any = x := by simp [List.getD, hx]
    have e2 : vs.toArray.getD j undef = v := by rw [Array.getD_eq_getD_getElem?, List.getElem?_toArray, hv]; rfl
    simp only [e1, e2] at this
    exact this)
  exact ⟨vs, σ2, rfl, h2⟩

/-- A function that works on the caller's memory, called in a region that draws its order. -/
theorem inCD_go (TO : TabOk P T) {ops : Array Oper} {b0 : List (Nat × Nat × Blk)} {Q next : St → Prop} (hn : ∀ s, next s → Q s) {o : Oper} {rest : List Oper} {f : FuncId} {fn : Func} {xs : Array Operand} {ts : Array TypeId} {d : Nat} {args : List SV} {b' : List (Nat × Nat × Blk)} {c1 : Nat} {x : SV}
    (hC : InC P X f args s.b (s.c.c + 1) x b' c1) (hf : P.funcs[f]? = some fn) (hname : (fn.name == "runtime.NumGoroutine") = false) (hb : fn.body.isSome = true)
    (ho : o.op = .call { callee := .value (.func f), args := xs, argTypes := ts }) (hd : o.dst = some d)
    (h : (argC s.t xs.toList = args ∧ guardIs ops s.t true o.guard ∧ gdPs s.t true xs.toList) ∧ subB b0 b' ∧ absD P X T ops b0 Q next rest ⟨s.t.set d x, b', ⟨c1, [], s.c.o⟩⟩) :
    lexT P X T ops (SubB b0) Q (o :: rest) s := by
  obtain ⟨⟨ha, hg, hgd⟩, hy, h⟩ := h
  have he : isEff T o.op = true := by rw [ho]; rfl
  unfold lexT
  rw [he]
  refine ⟨x, b', ⟨c1, [], s.c.o⟩, fun t' hag σ w a hR => ?_, subB_ok hy, ?_⟩
  · obtain ⟨hA, hG⟩ := argC_agree hag ho
    have hw : Region.wanted o (yielded ops a.tmps) = true := by
      cases e : o.guard with
      | none => simp [Region.wanted, e]
      | some jw =>
        obtain ⟨j, w'⟩ := jw
        rw [e] at hg
        simp only [Region.wanted, e]
        exact guardOf_ok (s := ⟨t', s.b, s.c⟩) hR (by rw [guardOf_agree hag e]; exact hg)
    refine .inr (.inr ⟨hw, f, (xs.toList.map a.eval).toArray, ?_, ?_⟩)
    · simp only [execOp, ho, resolve]
      have e1 : a.eval (.func f) = .func (.func f) #[] #[] := rfl
      have e2 : (xs.toList.map a.eval).toArray = xs.map a.eval := Array.ext' (by rw [Array.toList_map])
      simp [e1, Deferred.ofValue, invoke, run_callFunc hf hb hname, e2]
    · rw [hd]
      exact inC_call (s := ⟨t', s.b, s.c⟩) (d := d) hR hC (hG hgd) (hA.trans ha)
  · have := absD_ok TO hn rest _ h
    rw [hd]
    exact this

/-- So many operations of a region, then the others. -/
def absOpsN (P : Program) (X : Ctx) (T : Tab) (ops : Array Oper) (k : List Item) (Φ : St → Prop) : Nat → List Oper → St → Prop
  | 0, rest, s => HOps P X ops rest k s Φ
  | _ + 1, [], s => HOps P X ops [] k s Φ
  | n + 1, o :: rest, s => match absOp T ops s o with
    | .go p s' => p ∧ absOpsN P X T ops k Φ n rest s'
    | .stop => HOps P X ops (o :: rest) k s Φ

theorem part_ops (TO : TabOk P T) {ops : Array Oper} {k : List Item} {Φ : St → Prop} : ∀ (n : Nat) {rest : List Oper} {s : St}, absOpsN P X T ops k Φ n rest s → HOps P X ops rest k s Φ
  | 0, _, _, h => by unfold absOpsN at h; exact h
  | _ + 1, [], _, h => by unfold absOpsN at h; exact h
  | n + 1, o :: rest, s, h => by
    unfold absOpsN at h
    cases e : absOp T ops s o with
    | go p s' => simp only [e] at h; exact HOps_step TO e h.1 (part_ops TO n h.2)
    | stop => simp only [e] at h; exact h

/-- Less is told of the slots. -/
theorem weak_ops {ops : Array Oper} {rest : List Oper} {k : List Item} {Φ : St → Prop} (t : List SV) (hl : LeT s.t t) (h : HOps P X ops rest k ⟨t, s.b, s.c⟩ Φ) : HOps P X ops rest k s Φ :=
  fun i hi σ w a hR => h i hi σ w a (hR.weak hl)

theorem newb_ops {ops : Array Oper} {rest : List Oper} {k : List Item} {Φ : St → Prop} (n : Nat) (d : Data) (hd : d.len = 0)
    (h : HOps P X ops rest k ⟨s.t, upd s.b n (s.c.c + 1) (.vec d), ⟨s.c.c + 1 + 1, [], s.c.o⟩⟩ Φ) : HOps P X ops rest k s Φ := fun i hi => newb_go n d hd (h i hi)
theorem cells_ops {ops : Array Oper} {rest : List Oper} {k : List Item} {Φ : St → Prop} (m : Nat) {gm : Nat} {l : List SV} (l' : List SV)
    (h : (fnd s.b m = some (gm, .cells l) ∧ ∀ σ w cs, CellsOk X s.b s.c σ w l cs → CellsOk X s.b s.c σ w l' cs) ∧ HOps P X ops rest k ⟨s.t, upd s.b m gm (.cells l'), s.c⟩ Φ) : HOps P X ops rest k s Φ := fun i hi => cells_go m l' ⟨h.1, h.2 i hi⟩

/-- A slice that is nil, in the first cell of a block: told as an empty one of a name. -/
theorem nilC_ops {ops : Array Oper} {rest : List Oper} {k : List Item} {Φ : St → Prop} (n m c1 : Nat) {g : Nat} {tail : List SV} (d : Data) (hd : d.len = 0)
    (h : (s.c.c < c1 ∧ fnd s.b n = some (g, .cells (.nil :: tail)) ∧ n ≠ m) ∧ HOps P X ops rest k ⟨s.t, upd (upd s.b m (c1 + 1) (.vec d)) n g (.cells (.sl m (c1 + 1) 0 d.esz 0 0 :: tail)), ⟨c1 + 1 + 1, [], s.c.o⟩⟩ Φ) : HOps P X ops rest k s Φ := by
  obtain ⟨⟨h1, h2, h3⟩, h⟩ := h
  refine raise_ops c1 h1 (newb_ops m d hd (cells_ops n (.sl m (c1 + 1) 0 d.esz 0 0 :: tail) ⟨⟨by simp only; rw [fnd_upd, if_neg h3]; exact h2, ?_⟩, h⟩))
  rintro σ w cs ⟨w1, r1, rfl, p1, p2⟩
  exact ⟨w1, r1, rfl, V0_nil_sl (.inl (by simp only; omega)) p1, p2⟩

theorem CellsOk.repl {b : List (Nat × Nat × Blk)} {c : Lim} {x x' : SV} (hx : ∀ v, V0 X b c σ w x v → V0 X b c σ w x' v) (hn : ∀ k m q, x ≠ .arr k m q) (hn' : ∀ k m q, x' ≠ .arr k m q) :
    ∀ {l : List SV} {cs : List Value} {j : Nat}, CellsOk X b c σ w l cs → l[j]? = some x → CellsOk X b c σ w (l.set j x') cs := by
  intro l
  induction l with
  | nil => intro cs j h e; simp at e
  | cons y r ih =>
    intro cs j h ej
    cases j with
    | zero =>
      simp only [List.getElem?_cons_zero, Option.some.injEq] at ej
      subst ej
      simp only [List.set_cons_zero]
      cases y with
      | arr k m q => exact absurd rfl (hn k m q)
      | _ =>
        obtain ⟨v, cs', e, h1, h2⟩ := h
        have h3 := hx v h1
        cases x' with
        | arr k m q => exact absurd rfl (hn' k m q)
        | _ => exact ⟨v, cs', e, h3, h2⟩
    | succ j =>
      simp only [List.getElem?_cons_succ] at ej
      simp only [List.set_cons_succ]
      cases y with
      | arr k n' l' => obtain ⟨h1, cs', e, h2⟩ := h; exact ⟨h1, cs', e, ih h2 ej⟩
      | _ => obtain ⟨v, cs', e, h1, h2⟩ := h; exact ⟨v, cs', e, h1, ih h2 ej⟩

/-- A slice that is nil, in a cell of a block: told as an empty one of a name. -/
theorem nilJ_go {todo : List Item} {Φ : St → Prop} (n m c1 j : Nat) {g : Nat} {l : List SV} (d : Data) (hd : d.len = 0)
    (h : (s.c.c < c1 ∧ fnd s.b n = some (g, .cells l) ∧ l[j]? = some .nil ∧ n ≠ m) ∧ HRun P X todo ⟨s.t, upd (upd s.b m (c1 + 1) (.vec d)) n g (.cells (l.set j (.sl m (c1 + 1) 0 d.esz 0 0))), ⟨c1 + 1 + 1, [], s.c.o⟩⟩ Φ) : HRun P X todo s Φ := by
  obtain ⟨⟨h1, h2, h4, h3⟩, h⟩ := h
  refine raise_go c1 h1 (newb_go m d hd (cells_go n (l.set j (.sl m (c1 + 1) 0 d.esz 0 0)) ⟨⟨by simp only; rw [fnd_upd, if_neg h3]; exact h2, ?_⟩, h⟩))
  intro σ w cs hc
  exact CellsOk.repl (fun v hv => V0_nil_sl (.inl (by simp only; omega)) hv) (fun _ _ _ h => by cases h) (fun _ _ _ h => by cases h) hc h4

end

end Go.Proofs.YtakgefinmlomdaaDoor.Abs
