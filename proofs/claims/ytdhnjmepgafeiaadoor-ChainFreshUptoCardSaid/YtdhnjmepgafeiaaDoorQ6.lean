/- PLAIN LAWS of heads: what is got is put as the same bytes; unlike heads have unlike bytes; too few bytes. -/
import Derived.Test.YtdhnjmepgafeiaaDoorQ5
set_option linter.unusedVariables false
set_option linter.unusedSimpArgs false
set_option maxRecDepth 100000
namespace Go.Proofs.YtdhnjmepgafeiaaDoor.Abs
open Go Go.Proofs

theorem digs_get (b : List Int) (hB : Bytes b) (j k : Nat) (hk : szB k = true) (h : j + k ≤ b.length) : digs k (getV b j k) = (b.drop j).take k := by
  have e : cutE b.length j k = 0 := by unfold cutE; rw [if_neg (by omega), if_neg (by omega)]
  have eg : getE b.length j k = 0 := by unfold getE; rw [if_pos hk, e]
  have ec : cutL b j k = (b.drop j).take k := by unfold cutL; rw [if_pos e, Int.toNat_natCast, Int.toNat_natCast]
  have hv : getV b j k = val ((b.drop j).take k) := by unfold getV; rw [if_pos eg, ec]
  have hl : ((b.drop j).take k).length = k := by rw [List.length_take, List.length_drop]; omega
  rw [hv]
  have := digs_val ((hB.drop j).take k)
  rw [hl] at this
  exact this

theorem take_cat (b : List Int) (i k : Nat) : b.take i ++ (b.drop i).take k = b.take (i + k) := List.take_add.symm

theorem take_cat' (b : List Int) (j i k : Nat) : (b.drop j).take (i + k) = (b.drop j).take i ++ (b.drop (j + i)).take k := by
  rw [List.take_add, List.drop_drop]

theorem once_ok (b : List Int) (hB : Bytes b) (h : gotE b 0 = 0) : gotH b 0 = getH b 0 ∧ (getH b 0).ok ∧ mayB (getH b 0) = true ∧ 64 ≤ b.length ∧ headL (getH b 0) = b.take 64 := by
  have hlen : 64 ≤ b.length := by
    unfold gotE at h
    split at h
    · cases h
    · split at h
      · cases h
      · omega
  have hf : formB b 0 = true := by
    unfold gotE at h
    rw [if_neg (by omega), if_neg (by omega)] at h
    split at h
    · assumption
    · cases h
  have hok := getH_ok b 0 hB (Int.le_refl _) (by omega)
  have hH : gotH b 0 = getH b 0 := by unfold gotH; rw [if_pos h]
  simp only [formB, Bool.and_eq_true, Bool.or_eq_true, beq_iff_eq, Int.zero_add] at hf
  obtain ⟨⟨⟨f0, f4⟩, fm⟩, f32⟩ := hf
  have d0 := digs_get b hB 0 4 (by decide) (by omega)
  have d4 := digs_get b hB 4 2 (by decide) (by omega)
  have d6 := digs_get b hB 6 2 (by decide) (by omega)
  have d8 := digs_get b hB 8 4 (by decide) (by omega)
  have d12 := digs_get b hB 12 2 (by decide) (by omega)
  have d14 := digs_get b hB 14 2 (by decide) (by omega)
  have d16 := digs_get b hB 16 4 (by decide) (by omega)
  have d20 := digs_get b hB 20 4 (by decide) (by omega)
  have d24 := digs_get b hB 24 8 (by decide) (by omega)
  have d32 := digs_get b hB 32 8 (by decide) (by omega)
  have d32' := digs_get b hB 32 4 (by decide) (by omega)
  have d36 := digs_get b hB 36 4 (by decide) (by omega)
  have d40 := digs_get b hB 40 8 (by decide) (by omega)
  simp only [Int.cast_ofNat_Int] at d0 d4 d6 d8 d12 d14 d16 d20 d24 d32 d32' d36 d40
  rw [f0] at d0
  rw [f4] at d4
  have hg36 := getV_lt b 36 4 hB
  simp only [Int.cast_ofNat_Int] at hg36
  have dA : digs 8 (atV (getH b 0)) = (b.drop 32).take 8 := by
    unfold atV
    have hh : hasB (getH b 0) = flB (getV b 16 4) := rfl
    rw [hh]
    cases hs : flB (getV b 16 4) with
    | true =>
      simp only [getH, Int.zero_add, hs, if_true]
      exact d32
    | false =>
      have f32' : getV b 32 4 = 0 := by
        rcases f32 with h | h
        · rw [hs] at h; cases h
        · exact h
      rw [f32'] at d32'
      simp only [getH, Int.zero_add, hs, Bool.false_eq_true, if_false]
      rw [digs_split _ hg36.1, d32', d36, show (8 : Nat) = 4 + 4 from rfl, take_cat' b 32 4 4]
  refine ⟨hH, hok, fm, hlen, ?_⟩
  unfold headL
  rw [dA]
  simp only [getH, Int.zero_add]
  rw [d0, d4, d6, d8, d12, d14, d16, d20, d24, d40]
  rw [show ((48 : Int).toNat) = 48 from rfl, List.drop_zero]
  simp only [take_cat]

/-- Heads that may be, have like bytes if and only if they are alike. -/
theorem unlike_ok (a b : Hd) (ha : a.ok) (hb : b.ok) (ma : mayB a = true) (mb : mayB b = true) : headL a = headL b ↔ a = b := by
  constructor
  · intro h
    have e1 := (back_ok a ha ma [] []).1
    have e2 := (back_ok b hb mb [] []).1
    rw [← e1, ← e2, h]
  · intro h; rw [h]

theorem short_ok (b : List Int) (a : Int) (h0 : 0 ≤ a) (h1 : a ≤ b.length) (h : (b.length : Int) - a < 64) : gotE b a = 4 := by
  unfold gotE
  rw [if_neg (by omega), if_pos h]

theorem out_ok (b : List Int) (a : Int) (h : a < 0 ∨ (b.length : Int) < a) : gotE b a = 2 := by
  unfold gotE
  rw [if_pos h]

end Go.Proofs.YtdhnjmepgafeiaaDoor.Abs
