/- info: asks, in plain words. -/
import Derived.Test.YtgipkhjpedpedaaDoorIX
set_option linter.unusedVariables false
set_option linter.unusedSimpArgs false
set_option maxRecDepth 100000
namespace Go.Proofs.YtgipkhjpedpedaaDoor.Abs
open Go Go.Proofs

theorem iaW_len (c : Int) (a : Ask) : (iaW c a).dialects.length ≤ 1000000000 ∧ (iaW c a).data.length ≤ 1000000000 ∧ (iaW c a).locks.length ≤ 1000000000 := by
  unfold iaW; repeat' split
  all_goals simp [askZ]

def iaBad (c : Int) (a : Ask) (sw : Bool) : Bool := !sw || (c == 17 && (decide (a.cls < 1) || decide (3 < a.cls)))

theorem iaE_bad {c : Int} {a : Ask} (h : ikB c = false ∨ iaBad c a (decide (iaW c a = a)) = true) : iaE c a = 2 ∧ iaL c a = [] := by
  have e : iaE c a = 2 := by
    unfold iaE
    rw [if_pos]
    rcases h with h | h
    · exact .inl h
    · unfold iaBad at h
      simp only [Bool.or_eq_true, Bool.not_eq_true', decide_eq_false_iff_not, Bool.and_eq_true, beq_iff_eq, decide_eq_true_eq] at h
      rcases h with h | h
      · exact .inr (.inl h)
      · exact .inr (.inr h)
  exact ⟨e, by unfold iaL; rw [if_pos (by rw [e]; decide)]⟩

theorem iaE_good {c : Int} {a : Ask} (h1 : ikB c = true) (h2 : iaBad c a (decide (iaW c a = a)) = false) : (iaE c a = if c = 14 then (if ptE a.pattern ≠ 0 then ptE a.pattern else ptE a.after) else if c = 17 ∧ a.cls = 3 then ptE a.name else 0) ∧ (c = 17 → a.cls = 1 ∨ a.cls = 2 ∨ a.cls = 3) := by
  unfold iaBad at h2
  simp only [Bool.or_eq_false_iff, Bool.not_eq_false', decide_eq_true_eq, Bool.and_eq_false_iff, beq_eq_false_iff_ne, decide_eq_false_iff_not] at h2
  obtain ⟨h3, h4⟩ := h2
  constructor
  · unfold iaE
    rw [if_neg]
    rintro (g | g | ⟨g1, g2⟩)
    · rw [h1] at g; cases g
    · exact g h3
    · rcases h4 with h4 | h4
      · exact h4 g1
      · omega
  · intro g
    rcases h4 with h4 | h4
    · exact absurd g h4
    · omega

end Go.Proofs.YtgipkhjpedpedaaDoor.Abs
