/- OWN LIBRARY, part 13: regions, and what lies between them, told step by step. -/
import Derived.Test.YtbnjdnahpnjofaaA12
set_option linter.unusedVariables false
set_option linter.unusedSimpArgs false
namespace Go.Proofs.Ytbnjdnahpnjofaa.Abs
open Go

section
variable {P : Program} {T : Tab} {X : Ctx} {s : St} {σ : Env} {w : World} {a : Act}

theorem R_set (hR : R X s σ w a) {dst : Option Nat} {sv : SV} {u : Value} (hv : V X s.b s.c σ w sv u) : R X { s with t := setD s.t dst sv } σ w (a.put dst u) := by
  have h := put_tm (dst := dst) hR.sz hR.tm hv
  exact { hR with sz := h.1, tm := h.2, df := by cases dst <;> exact hR.df }

theorem ok_bump {l : Lim} {o n g : Nat} (h : l.ok n g) : Lim.ok ⟨l.c + 1, [], o⟩ n g := by
  rcases h with h | ⟨h, _⟩
  · exact .inl (by show g < l.c + 1; omega)
  · exact .inl (by show g < l.c + 1; omega)

theorem Tr_bump {o : Nat} : Tr X s.b s.c σ w s.b ⟨s.c.c + 1, [], o⟩ σ w := ⟨fun _ _ => ok_bump, fun n g h _ => ⟨h, rfl⟩, fun tag B hv => ⟨rfl, hv⟩, fun _ _ _ _ _ _ => Nat.le_refl _⟩

theorem R_bump {o : Nat} (hR : R X s σ w a) : R X ⟨s.t, s.b, ⟨s.c.c + 1, [], o⟩⟩ σ w a := by
  have hl : ∀ n g, s.c.ok n g → Lim.ok ⟨s.c.c + 1, [], o⟩ n g := fun _ _ => ok_bump
  have hT : Tr X s.b s.c σ w s.b ⟨s.c.c + 1, [], o⟩ σ w := Tr_bump
  exact { hR with
    tm := fun i hi => (hR.tm i hi).tr hT
    bl := fun n g x hx => let ⟨h1, h2, h3⟩ := hR.bl n g x hx; ⟨hl _ _ h1, h2.tr hT rfl (fun _ _ => rfl), h3⟩ }

theorem tmps_get (hR : R X s σ w a) {d : Nat} {x : SV} (h : s.t.getD d .any = x) (hx : x ≠ .any) : ∃ v, a.tmps[d]? = some v ∧ V X s.b s.c σ w x v := by
  have hd : d < s.t.length := by
    rcases Nat.lt_or_ge d s.t.length with h' | h'
    · exact h'
    · simp [List.getD, List.getElem?_eq_none h'] at h; exact absurd h.symm hx
  have := hR.tm d hd
  rw [h] at this
  have hd' : d < a.tmps.size := by rw [hR.sz]; exact hd
  refine ⟨a.tmps[d], by simp [hd'], ?_⟩
  simpa [Array.getD, hd'] using this

theorem guardOf_ok (hR : R X s σ w a) {ops : Array Oper} {j : Nat} {want g : Bool} (h : guardOf ops s.t j want = some g) : (yielded ops a.tmps j == some want) = g := by
  unfold guardOf at h
  cases ed : (ops[j]?).bind (·.dst) <;> simp only [ed, reduceCtorEq] at h
  rename_i d
  cases ex : s.t.getD d .any <;> simp only [ex, reduceCtorEq, Option.some.injEq] at h
  case bool b =>
    obtain ⟨v, hv, hV⟩ := tmps_get hR ex (by simp)
    obtain rfl : v = .bool b := hV
    simp only [yielded, ed, Option.bind_some, hv]
    subst h
    cases want <;> cases b <;> rfl
  case gd c x =>
    cases x <;> simp only [reduceCtorEq, Option.some.injEq] at h
    rename_i b
    obtain ⟨v, hv, hV1, hV2⟩ := tmps_get hR ex (by simp)
    subst h
    cases c
    · rw [hV2 rfl] at hv
      simp only [yielded, ed, Option.bind_some, hv]
      rfl
    · obtain rfl : v = .bool b := hV1 rfl
      simp only [yielded, ed, Option.bind_some, hv]
      cases want <;> cases b <;> rfl

theorem run_pick {o : Oper} {c x y : Operand} {t : Bool} (ho : o.op = .pick c x y) (hc : a.eval c = .bool t) : (execOp a.eval o).run P w = .ok (.value (if t then a.eval x else a.eval y)) w := by
  simp only [execOp, ho, hc]
  cases t <;> simp [asBool]

theorem pickV_ok {b : List (Nat × Nat × Blk)} {cl : Lim} {t : Bool} {x y v : SV} {x' y' : Value} (h : pickV t x y = some v) (hx : t = true → V2 X b cl σ w x x') (hy : t = false → V2 X b cl σ w y y') : V2 X b cl σ w v (if t then x' else y') := by
  cases x <;> cases y <;> simp only [pickV, reduceCtorEq, Option.some.injEq] at h
  subst h
  cases t
  · exact hy rfl
  · exact hx rfl

/-- One operation, told: it is done so, or it is passed by. -/
theorem absOp_ok (TO : TabOk P T) (hR : R X s σ w a) {ops : Array Oper} {o : Oper} {p : Prop} {s' : St} (h : absOp T ops s o = .go p s') (hp : p) :
    (Region.wanted o (yielded ops a.tmps) = true ∧ Does P X s σ s' w a o) ∨ (Region.wanted o (yielded ops a.tmps) = false ∧ ∃ σ', R X s' σ' w (a.put o.dst undef) ∧ Tr X s.b s.c σ w s'.b s'.c σ' w) := by
  unfold absOp at h
  cases hg : o.guard with
  | none =>
    left
    refine ⟨by simp [Region.wanted, hg], ?_⟩
    simp only [hg] at h
    have other : (match pureOpC T s (fun x => ungd (evO s.t x)) o.op with
        | some (p, v) => Res.go (gdPs s.t true o.op.operands.toList ∧ p) { s with t := setD s.t o.dst v }
        | none => match memOp T s o.dst (fun x => unc (ungd (evO s.t x))) o.op with
          | .go p s' => .go (gdPs s.t true o.op.operands.toList ∧ p) s'
          | .stop => .stop) = .go p s' → Does P X s σ s' w a o := by
      intro h
      cases e : pureOpC T s (fun x => ungd (evO s.t x)) o.op with
      | some q =>
        obtain ⟨p', v⟩ := q
        simp only [e, Res.go.injEq] at h
        obtain ⟨rfl, rfl⟩ := h
        obtain ⟨u, hu, hv⟩ := pureOpC_ok TO hR (fun x hx => V_ungd (V_evO hR x) (gdPs_mem hp.1 x hx) rfl) e hp.2
        exact ⟨.value u, u, w, σ, hu, .inl rfl, R_set hR (V_of_V2 hv), Tr.refl⟩
      | none =>
        simp only [e] at h
        cases e2 : memOp T s o.dst (fun x => unc (ungd (evO s.t x))) o.op <;> simp only [e2, reduceCtorEq, Res.go.injEq] at h
        obtain ⟨rfl, rfl⟩ := h
        exact memOp_ok TO hR (fun x hx => V2_unc (V_ungd (V_evO hR x) (gdPs_mem hp.1 x hx) rfl)) e2 hp.2
    cases ho : o.op <;> (try (rw [ho] at other h; exact other h))
    rename_i c x y
    rw [ho] at h
    simp only at h
    cases ec : evO s.t c <;> simp only [ec, reduceCtorEq] at h
    rename_i t
    cases e1 : pickV t (ungd (evO s.t x)) (ungd (evO s.t y)) <;> simp only [e1, reduceCtorEq, Res.go.injEq] at h
    obtain ⟨rfl, rfl⟩ := h
    have hc := V_evO hR c
    rw [ec] at hc
    have hv := pickV_ok (X := X) (b := s.b) (cl := s.c) (σ := σ) (w := w) (x' := a.eval x) (y' := a.eval y) e1 (fun ht => V_ungd (V_evO hR x) hp.1 ht) (fun ht => V_ungd (V_evO hR y) hp.2 (by rw [ht]; rfl))
    exact ⟨_, _, w, σ, run_pick ho hc, .inl rfl, R_set hR (V_of_V2 hv), Tr.refl⟩
  | some jw =>
    obtain ⟨j, want⟩ := jw
    simp only [hg] at h
    cases eg : guardOf ops s.t j want <;> simp only [eg, reduceCtorEq] at h
    rename_i g
    have hgd := guardOf_ok hR eg
    have hw : Region.wanted o (yielded ops a.tmps) = g := by simp only [Region.wanted, hg]; exact hgd
    -- what is told of the value, in either case
    have fin : ∀ v, (g = true → ∃ u, (execOp a.eval o).run P w = .ok (.value u) w ∧ V2 X s.b s.c σ w v u) → s' = { s with t := setD s.t o.dst (.gd g v) } →
        (Region.wanted o (yielded ops a.tmps) = true ∧ Does P X s σ s' w a o) ∨ (Region.wanted o (yielded ops a.tmps) = false ∧ ∃ σ', R X s' σ' w (a.put o.dst undef) ∧ Tr X s.b s.c σ w s'.b s'.c σ' w) := by
      rintro v hv rfl
      rw [hw]
      cases g with
      | true =>
        obtain ⟨u, hu, hv⟩ := hv rfl
        exact .inl ⟨rfl, .value u, u, w, σ, hu, .inl rfl, R_set hR ⟨fun _ => hv, fun h => by simp at h⟩, Tr.refl⟩
      | false => exact .inr ⟨rfl, σ, R_set hR ⟨fun h => by simp at h, fun _ => rfl⟩, Tr.refl⟩
    have other : (match pureOpC T s (fun x => ungd (evO s.t x)) o.op with
        | some (p, v) => Res.go (gdPs s.t g o.op.operands.toList ∧ (g = true → p)) { s with t := setD s.t o.dst (.gd g v) }
        | none => .stop) = .go p s' → (Region.wanted o (yielded ops a.tmps) = true ∧ Does P X s σ s' w a o) ∨ (Region.wanted o (yielded ops a.tmps) = false ∧ ∃ σ', R X s' σ' w (a.put o.dst undef) ∧ Tr X s.b s.c σ w s'.b s'.c σ' w) := by
      intro h
      cases e : pureOpC T s (fun x => ungd (evO s.t x)) o.op with
      | none => simp [e] at h
      | some q =>
        obtain ⟨p', v⟩ := q
        simp only [e, Res.go.injEq] at h
        obtain ⟨rfl, rfl⟩ := h
        refine fin v (fun hgt => ?_) rfl
        exact pureOpC_ok TO hR (fun x hx => V_ungd (V_evO hR x) (gdPs_mem hp.1 x hx) hgt) e (hp.2 hgt)
    cases ho : o.op <;> (try (rw [ho] at other h; exact other h))
    rename_i c x y
    rw [ho] at h
    simp only at h
    cases ec : ungd (evO s.t c) <;> simp only [ec, reduceCtorEq] at h
    rename_i t
    cases e1 : pickV t (ungd (evO s.t x)) (ungd (evO s.t y)) <;> simp only [e1, reduceCtorEq, Res.go.injEq] at h
    obtain ⟨rfl, rfl⟩ := h
    refine fin _ (fun hgt => ?_) rfl
    have hc := V_ungd (V_evO hR c) hp.1 hgt
    rw [ec] at hc
    have hv := pickV_ok (X := X) (b := s.b) (cl := s.c) (σ := σ) (w := w) (x' := a.eval x) (y' := a.eval y) e1 (fun ht => V_ungd (V_evO hR x) hp.2.1 (by rw [hgt, ht]; rfl)) (fun ht => V_ungd (V_evO hR y) hp.2.2 (by rw [hgt, ht]; rfl))
    exact ⟨_, run_pick ho hc, hv⟩

theorem HOps_step (TO : TabOk P T) {ops : Array Oper} {o : Oper} {rest : List Oper} {k : List Item} {Φ : St → Prop} {p : Prop} {s' : St} (h : absOp T ops s o = .go p s') (hp : p) (hn : HOps P X ops rest k s' Φ) : HOps P X ops (o :: rest) k s Φ := by
  intro i hi σ w a hR
  have ho : ops[i]? = some o := by
    have := congrArg (fun l : List Oper => l[0]?) hi
    simpa using this
  have hrest : ops.toList.drop (i + 1) = rest := by
    have := congrArg List.tail hi
    simpa using this
  rw [List.length_cons, List.range'_succ]
  rcases absOp_ok TO hR h hp with ⟨hw, nx, u, w', σ', hr, hnx, hR', hT⟩ | ⟨hw, σ', hR', hT⟩
  · refine Fins.opValue (v := u) ho hw ?_ ((hn (i + 1) hrest).after hR' hT)
    rcases hnx with rfl | ⟨rfl, rfl⟩
    · exact .inl hr
    · exact .inr ⟨hr, rfl⟩
  · exact Fins.opSkip ho hw ((hn (i + 1) hrest).after hR' hT)

theorem HOps_nil {ops : Array Oper} {k : List Item} {Φ : St → Prop} (h : HRun P X k s Φ) : HOps P X ops [] k s Φ := by
  intro i _ σ w a hR
  exact Fins.region_end (h σ w a hR)

theorem absOps_ok (TO : TabOk P T) {ops : Array Oper} {k : List Item} {Φ : St → Prop} {next : St → Prop} (hn : ∀ s, next s → HRun P X k s Φ) : ∀ (rest : List Oper) (s : St), absOps P X T ops k Φ next rest s → HOps P X ops rest k s Φ
  | [], s, h => HOps_nil (hn s h)
  | o :: rest, s, h => by
    simp only [absOps] at h
    cases e : absOp T ops s o with
    | go p s' =>
      simp only [e] at h
      exact HOps_step TO e h.1 (absOps_ok TO hn rest s' h.2)
    | stop => simp only [e] at h; exact h

theorem HRun_region {id : Nat} {ops : Array Oper} {k : List Item} {Φ : St → Prop} (h : HOps P X ops ops.toList k ⟨s.t, s.b, ⟨s.c.c + 1, [], s.c.o⟩⟩ Φ) : HRun P X (.code (.region id ops false) :: k) s Φ := by
  intro σ w a hR
  refine Fins.region ?_
  have := (h 0 (by simp)).after (s := s) (R_bump hR) (Tr_bump (s := s))
  rw [List.range_eq_range']
  simpa using this

theorem absRun_ok (TO : TabOk P T) {Φ : St → Prop} : ∀ (n : Nat) (todo : List Item) (s : St), absRun P X T Φ n todo s → HRun P X todo s Φ
  | 0, todo, s, h => by simpa only [absRun] using h
  | n + 1, todo, s, h => by
    unfold absRun at h
    split at h
    · intro σ w a hR; exact Fins.done ⟨s, σ, h, hR, Tr.refl⟩
    · intro σ w a hR; exact Fins.ret ⟨s, σ, h, hR, Tr.refl⟩
    · intro σ w a hR; exact Fins.skip (absRun_ok TO n _ s h σ w a hR)
    · intro σ w a hR; exact Fins.inBlock (absRun_ok TO n _ s h σ w a hR)
    · intro σ w a hR; exact Fins.seq (absRun_ok TO n _ s h σ w a hR)
    · intro σ w a hR; exact Fins.block (absRun_ok TO n _ s h σ w a hR)
    · rename_i id k
      cases e : exitTo id k with
      | some k' =>
        simp only [e] at h
        intro σ w a hR; exact Fins.exit e (absRun_ok TO n _ s h σ w a hR)
      | none => simp only [e] at h; exact h
    · rename_i c x y k
      cases e : evO s.t c <;> simp only [e] at h <;> try exact h
      rename_i b
      intro σ w a hR
      have hc := V_evO hR c
      rw [e] at hc
      refine Fins.cond hc ?_
      cases b
      · rw [if_neg (by simp)] at h ⊢; exact absRun_ok TO n _ s h σ w a hR
      · rw [if_pos rfl] at h ⊢; exact absRun_ok TO n _ s h σ w a hR
    · exact HRun_region (absOps_ok TO (fun s' h' => absRun_ok TO n _ s' h') _ _ h)
    · exact h
end

end Go.Proofs.Ytbnjdnahpnjofaa.Abs
