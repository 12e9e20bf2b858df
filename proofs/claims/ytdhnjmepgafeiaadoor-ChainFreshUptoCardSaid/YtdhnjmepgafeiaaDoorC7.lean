/- The laws ChainSplits and ChainCover answer true. -/
import Derived.Test.YtdhnjmepgafeiaaDoorC6
import Derived.Test.YtdhnjmepgafeiaaDoorFX
set_option linter.unusedVariables false
set_option linter.unusedSimpArgs false
set_option maxRecDepth 100000
namespace Go.Proofs.YtdhnjmepgafeiaaDoor.Abs
open Go Go.Proofs

theorem mem_flatten_len {l : List (List Int)} {x : List Int} (h : x ∈ l) : x.length ≤ l.flatten.length := by
  induction l with
  | nil => simp at h
  | cons y l ih =>
    simp only [List.flatten_cons, List.length_append]
    rcases List.mem_cons.1 h with rfl | h
    · omega
    · have := ih h; omega

theorem split_rows (b : List Int) : (∀ x ∈ splitL b, x.length ≤ b.length) ∧ (splitL b).length ≤ 8 ∧ (splitE b = 0 → (splitL b).flatten = b ∧ 1 ≤ (splitL b).length) ∧ (splitE b ≠ 0 → splitL b = []) := by
  by_cases h : splitE b = 0
  · obtain ⟨e1, e2, e3⟩ := splitF_cover 9 b [] h (by decide)
    have e1 : (splitL b).flatten = b := by unfold splitL; rw [e1]; simp
    refine ⟨fun x hx => ?_, e3, fun _ => ⟨e1, e2⟩, fun hn => absurd h hn⟩
    have := mem_flatten_len hx
    rw [e1] at this
    exact this
  · have e := splitF_err 9 b [] h
    have e : splitL b = [] := e
    rw [e]
    exact ⟨by simp, by simp, fun hn => absurd hn h, fun _ => rfl⟩

end Go.Proofs.YtdhnjmepgafeiaaDoor.Abs
