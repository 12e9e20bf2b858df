/- OWN LIBRARY, part 24: an empty slice gets a name. -/
import Derived.Test.YtbnjdnahpnjofaaA23
set_option linter.unusedVariables false
set_option linter.unusedSimpArgs false
namespace Go.Proofs.Ytbnjdnahpnjofaa.Abs
open Go

/-- An empty slice, as an own one that holds nothing, under a free name. -/
theorem nil_go {P : Program} {X : Ctx} {todo : List Item} {s : St} {Φ : St → Prop} (i n : Nat) (d : Data) (hd : d.len = 0) (ht : i < s.t.length ∧ s.t.getD i .any = .nil)
    (h : HRun P X todo ⟨s.t.set i (.sl n (s.c.c + 1) 0 d.esz 0 0), upd s.b n (s.c.c + 1) (.vec d), ⟨s.c.c + 1 + 1, [], s.c.o⟩⟩ Φ) : HRun P X todo s Φ := by
  intro σ w a hR
  have hR1 := R_bump (o := s.c.o) hR
  have hv := hR1.tm i ht.1
  have ht2 : (⟨s.t, s.b, ⟨s.c.c + 1, [], s.c.o⟩⟩ : St).t.getD i .any = .nil := ht.2
  rw [ht2] at hv
  have hv : a.tmps.getD i undef = .slice none 0 0 := hv
  have hput : a.put (some i) (a.tmps.getD i undef) = a := by
    have hi' : i < a.tmps.size := by rw [hR.sz]; exact ht.1
    obtain ⟨tm, df⟩ := a
    simp only [Act.put]
    congr 1
    apply Array.ext_getElem?
    intro j
    rw [Array.getElem?_setIfInBounds]
    have hi'' : i < tm.size := hi'
    by_cases e : i = j
    · subst e; simp [Array.getD, hi'']
    · simp [e]
  obtain ⟨hR2, hT2⟩ := R_none (n := n) (x := .vec d) (dst := some i) (sv := .sl n (s.c.c + 1) 0 d.esz 0 0) (v := a.tmps.getD i undef) hR1 (by simp)
    (.inl ⟨by simp, hd⟩) ⟨Lim.ok_new _ _, fun _ => ⟨none, 0, hv, Nat.le_refl _, fun h => absurd rfl h⟩⟩
  rw [hput] at hR2
  have hR3 := R_bump (o := s.c.o) hR2
  refine (h _ w a hR3).mono fun a' w' ⟨s', σ', h1, h2, h3⟩ => ⟨s', σ', h1, h2, ?_⟩
  exact (Tr_bump (o := s.c.o)).trans (hT2.trans ((Tr_bump (s := ⟨s.t, upd s.b n (s.c.c + 1) (.vec d), (⟨s.c.c + 1, [], s.c.o⟩ : Lim).add n⟩) (o := s.c.o)).trans h3))

/-- The mark is raised. -/
theorem bump_go {P : Program} {X : Ctx} {todo : List Item} {s : St} {Φ : St → Prop} (h : HRun P X todo ⟨s.t, s.b, ⟨s.c.c + 1, [], s.c.o⟩⟩ Φ) : HRun P X todo s Φ := by
  intro σ w a hR
  exact (h σ w a (R_bump (o := s.c.o) hR)).mono fun a' w' ⟨s', σ', h1, h2, h3⟩ => ⟨s', σ', h1, h2, (Tr_bump (o := s.c.o)).trans h3⟩

/-- A loop, told; the mark is raised at each round's head. -/
theorem loop_up {P : Program} {X : Ctx} {s : St} {c : Code} {k : List Item} {Φ : St → Prop} {α : Type} (I : α → Prop) (S : α → St) (μ : α → Nat) (x0 : α) (h0 : I x0)
    (hs : (S x0).c = ⟨s.c.c + 1, [], s.c.o⟩ ∧ LeT s.t (S x0).t ∧ ∀ n x, fnd (S x0).b n = some x → fnd s.b n = some x)
    (round : ∀ x, I x → (∀ y s', I y → μ y < μ x → (S y).c = ⟨s'.c.c + 1, [], s'.c.o⟩ → LeT s'.t (S y).t → (∀ n x, fnd (S y).b n = some x → fnd s'.b n = some x) → HRun P X (.inLoop c :: k) s' Φ) → HRun P X (.code c :: .inLoop c :: k) (S x) Φ) :
    HRun P X (.code (.loop c) :: k) s Φ := by
  refine bump_go (loop_go I S μ x0 h0 ⟨hs.1.symm, hs.2.1, hs.2.2⟩ (fun x hx ih => round x hx (fun y s' hy hm hc ht hb => ?_)))
  exact bump_go (ih y _ hy hm hc.symm ht hb)

theorem ne_eqs {n m : Nat} (h : n ≠ m) : (n = m) = False ∧ (m = n) = False := ⟨eq_false h, eq_false (Ne.symm h)⟩

end Go.Proofs.Ytbnjdnahpnjofaa.Abs
