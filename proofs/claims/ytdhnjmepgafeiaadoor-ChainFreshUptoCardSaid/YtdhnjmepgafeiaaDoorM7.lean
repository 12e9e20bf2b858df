/- What the laws of layer 4 need of sums by a key. -/
import Derived.Test.YtdhnjmepgafeiaaDoorM6
import Derived.Test.YtdhnjmepgafeiaaDoorFX
set_option linter.unusedVariables false
set_option linter.unusedSimpArgs false
set_option maxRecDepth 100000
namespace Go.Proofs.YtdhnjmepgafeiaaDoor.Abs
open Go Go.Proofs

theorem signL_length (key m : List Int) : (signL key m).length = if m.length < 64 then 0 else m.length := by
  have := sigL_length key m
  unfold signL
  split
  · rfl
  · simp; omega

theorem signL_bytes {key m : List Int} (hM : Bytes m) : Bytes (signL key m) := by
  unfold signL
  split
  · intro x hx; cases hx
  · exact (hM.take _).app ((sigL_bytes _ _).app (hM.drop _))

theorem nonL_put {m q : List Int} (h : 64 ≤ m.length) (hq : q.length = 16) : nonL (m.take 48 ++ (q ++ m.drop 64)) = nonL m := by
  have hl : (m.take 48).length = 48 := by rw [List.length_take]; omega
  unfold nonL
  rw [List.take_append_of_le_length (by omega), List.take_of_length_le (by omega), List.drop_append, hl, List.drop_eq_nil_of_le (by omega), List.nil_append, List.drop_append, hq, List.drop_eq_nil_of_le (by omega)]
  rfl

theorem signL_non {key m : List Int} (h : 64 ≤ m.length) : nonL (signL key m) = nonL m := by
  unfold signL
  rw [if_neg (by omega)]
  exact nonL_put h (sigL_length key m)

theorem sigL_sign {key m : List Int} (h : 64 ≤ m.length) : sigL key (signL key m) = sigL key m := by
  unfold sigL; rw [signL_non h]

theorem put_drop {m q : List Int} (h : 64 ≤ m.length) (hq : q.length = 16) : ((m.take 48 ++ (q ++ m.drop 64)).drop 48).take 16 = q ∧ (m.take 48 ++ (q ++ m.drop 64)).take 48 = m.take 48 ∧ (m.take 48 ++ (q ++ m.drop 64)).drop 64 = m.drop 64 := by
  have hl : (m.take 48).length = 48 := by rw [List.length_take]; omega
  refine ⟨?_, ?_, ?_⟩
  · rw [List.drop_append, hl, List.drop_eq_nil_of_le (by omega), List.nil_append, Nat.sub_self, List.drop_zero, List.take_append_of_le_length (by omega), List.take_of_length_le (by omega)]
  · rw [List.take_append_of_le_length (by omega), List.take_of_length_le (by omega)]
  · rw [List.drop_append, hl, List.drop_eq_nil_of_le (by omega), List.nil_append, List.drop_append, hq, List.drop_eq_nil_of_le (by omega)]
    rfl

theorem checkE_sign {key m : List Int} (h : 64 ≤ m.length) : checkE key (signL key m) = 0 := by
  have hl := signL_length key m
  rw [if_neg (by omega)] at hl
  unfold checkE
  rw [if_neg (by omega), sigL_sign h, if_pos]
  unfold signL
  rw [if_neg (by omega)]
  exact (put_drop h (sigL_length key m)).1

theorem signL_eq {key m : List Int} (h : 64 ≤ m.length) : signL key m = m.take 48 ++ (sigL key m ++ m.drop 64) := by unfold signL; rw [if_neg (by omega)]

theorem signL_sign {key m : List Int} (h : 64 ≤ m.length) : signL key (signL key m) = signL key m := by
  have hl := signL_length key m
  rw [if_neg (by omega)] at hl
  have e := signL_eq (key := key) h
  have hp := put_drop h (sigL_length key m)
  rw [← e] at hp
  rw [signL_eq (m := signL key m) (by omega), hp.2.1, hp.2.2, sigL_sign h, ← e]

theorem xor_ne {x y : Int} (hx : 0 ≤ x ∧ x < 256) (hy : 0 ≤ y ∧ y < 256) (h : y ≠ 0) : bitsI .xor .u8 x y ≠ x := by
  intro he
  have e : bitsI .xor .u8 x y = IntKind.u8.wrap ((BitVec.ofInt 8 x ^^^ BitVec.ofInt 8 y).toNat : Int) := rfl
  rw [e, wu8] at he
  have lt := (BitVec.ofInt 8 x ^^^ BitVec.ofInt 8 y).isLt
  have h1 : ((BitVec.ofInt 8 x ^^^ BitVec.ofInt 8 y).toNat : Int) = x := by omega
  have h2 : (BitVec.ofInt 8 x).toNat = x.toNat := by rw [BitVec.toNat_ofInt]; congr 1; exact Int.emod_eq_of_lt hx.1 hx.2
  have h3 : BitVec.ofInt 8 x ^^^ BitVec.ofInt 8 y = BitVec.ofInt 8 x := by apply BitVec.eq_of_toNat_eq; omega
  have h4 : BitVec.ofInt 8 y = 0#8 := by
    have := congrArg (fun z => BitVec.ofInt 8 x ^^^ z) h3
    simp only [← BitVec.xor_assoc, BitVec.xor_self, BitVec.zero_xor] at this
    exact this
  have h5 : (BitVec.ofInt 8 y).toNat = y.toNat := by rw [BitVec.toNat_ofInt]; congr 1; exact Int.emod_eq_of_lt hy.1 hy.2
  rw [h4] at h5
  simp at h5
  omega

theorem checkE_one {key m : List Int} (h : 64 ≤ m.length) {k : Nat} (hk : k < 16) {v : Int} (hv : v ≠ (sigL key m)[k]?.getD 0) : checkE key ((signL key m).set (48 + k) v) = 6 := by
  have hq := sigL_length key m
  have hl : (m.take 48).length = 48 := by rw [List.length_take]; omega
  have e : (signL key m).set (48 + k) v = m.take 48 ++ ((sigL key m).set k v ++ m.drop 64) := by
    unfold signL
    rw [if_neg (by omega), List.set_append_right _ _ (by omega), hl, Nat.add_sub_cancel_left, List.set_append_left _ _ (by omega)]
  rw [e]
  generalize hg : (sigL key m).set k v = q
  have hq2 : q.length = 16 := by rw [← hg, List.length_set]; exact hq
  unfold checkE
  rw [if_neg (by simp; omega), (put_drop h hq2).1, if_neg]
  intro hc
  have e2 : sigL key (m.take 48 ++ (q ++ m.drop 64)) = sigL key m := by unfold sigL; rw [nonL_put h hq2]
  rw [e2, ← hg] at hc
  apply hv
  rw [← hc]
  simp [hq, hk]

theorem macL_noughts {key b : List Int} {i : Nat} (h : key.length + i ≤ 64) : macL (key ++ List.replicate i 0) b = macL key b := by
  have e : fillL (keyL (key ++ List.replicate i 0)) = fillL (keyL key) := by
    unfold keyL
    rw [if_neg (by simp; omega), if_neg (by omega)]
    unfold fillL
    rw [List.append_assoc, List.replicate_append_replicate]
    congr 2
    simp; omega
  unfold macL
  rw [e]

end Go.Proofs.YtdhnjmepgafeiaaDoor.Abs
