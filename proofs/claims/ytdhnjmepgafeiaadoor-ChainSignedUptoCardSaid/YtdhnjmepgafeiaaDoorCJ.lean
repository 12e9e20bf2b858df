/- What both Seals answer, by a key or by none; long; the law ChainSeals answers true. -/
import Derived.Test.YtdhnjmepgafeiaaDoorCG
set_option linter.unusedVariables false
set_option linter.unusedSimpArgs false
set_option maxRecDepth 100000
namespace Go.Proofs.YtdhnjmepgafeiaaDoor.Abs
open Go Go.Proofs

theorem rSealN_meets (l : List (List Int)) (hl : l.length ≤ 1048576) (hr : ∀ b ∈ l, b.length ≤ 1048576 ∧ Bytes b) : Meets Tryd.prog 10 [.v (.view false (.ints .u8 [])), .v (.view false (.rows false l))] [.own (.ints .u8 (joinL l)), .v (.int .i64 (partsE l))] := by
  have hP := rparts_meets l hl hr
  obtain ⟨h8, hj⟩ := joinL_len l hr
  have hJ := joined_meets (partsL l) (by omega) (by show (joinL l).length ≤ _; omega)
  rw [show (partsL l).flatten = joinL l from rfl] at hJ
  refine meets_go TO 100 Tryd.func10 rfl (fun X => ?_)
  simp only [Tryd.ntmps10, Tryd.results10, pureOpC, svs, blks, AV.sv, absRun, absOps, absOp, evO, constSV, ungd, gdP, gdPs, setD, pureOp, memOp, Op.operands, List.getD, List.getElem?_cons_zero, List.getElem?_cons_succ, Option.getD_some, List.set, List.toList_toArray, true_and, and_self, Nat.zero_add, List.cons_append, List.nil_append, List.length_cons, List.length_nil, Nat.reduceAdd, Nat.reduceSub, List.replicate_succ, List.replicate_zero]
  refine call_go TO 100 hP Tryd.func24 (by decide +kernel) rfl rfl rfl ?_
  simp only [pureOpC, unc, absRun, absOps, absOp, evO, constSV, ungd, gdP, gdPs, setD, binI, binV, ptrE, T_ty, tTy, extractV, pureOp, memOp, lenV, notIn, upd, Data.len, Data.esz, retP, resV, retQ, rAs, rA, rA0, ownN, nodup, bares, bare, bare0, bareD, guardIs, callP, callS, argS, mAs, mA, mA0, mB0, lowD, allNotIn, nm, impN, impB, impT, packS, delL, Op.operands, Call.operands, List.getD, List.getElem?_cons_zero, List.getElem?_cons_succ, Option.getD_some, List.set, List.map, List.toList_toArray, true_and, and_true, and_self, if_true, eq_self, Nat.zero_add, Nat.add_zero, Int.cast_ofNat_Int, List.append_toArray, List.nil_append, List.append_nil, List.length_nil, Nat.reduceAdd, Nat.reduceMul, beq_self_eq_true, Bool.and_self]
  by_cases h0 : partsE l = 0
  · have h1 : (partsE l != 0) = false := by simp [h0]
    simp only [h1, if_false, Bool.false_eq_true]
    refine call_go TO 100 hJ Tryd.func25 (by decide +kernel) rfl rfl rfl ?_
    simp only [h0, List.drop_zero, pureOpC, unc, absRun, absOps, absOp, evO, constSV, ungd, gdP, gdPs, setD, notIn, blkAt, fnd, upd, Data.len, Data.esz, Data.sub, retP, resV, retQ, rAs, rA, rA0, ownN, nodup, bares, bare, bare0, bareD, guardIs, callP, callS, argS, mAs, mA, mA0, mB0, lowD, allNotIn, nm, impN, impB, impT, packS, delL, Op.operands, List.getD, List.getElem?_cons_zero, List.getElem?_cons_succ, Option.getD_some, List.set, List.map, List.toList_toArray, and_self, if_true, if_false, eq_self, List.take_length, Nat.zero_add, Nat.add_zero, Nat.le_refl, List.append_nil, Nat.reduceAdd, Nat.reduceMul, Nat.reduceEqDiff, Bool.and_self]
  · have h1 : (partsE l != 0) = true := by simpa using h0
    have e2 : joinL l = [] := by unfold joinL partsL; rw [if_neg h0]; rfl
    rw [e2]
    simp only [h1, if_true, eq_self, List.length_nil]

theorem sealL_len (K : List Int) (l : List (List Int)) (hr : ∀ b ∈ l, b.length ≤ 1048576 ∧ Bytes b) : (sealL K l).length ≤ 8388672 := by
  unfold sealL
  split
  · rename_i h0
    obtain ⟨hg, hne, h8, hF⟩ := partsE_ok h0
    have hP := partsF_64 l (fun b hb => ⟨hg b hb, hr b hb⟩)
    have := flatten_len (n := 1048584) (l := sealF K l) (fun y hy => by
      obtain ⟨p, hp, rfl⟩ := List.mem_map.1 hy
      have := hP p hp
      unfold sealP
      rw [signL_length, orF_length]; split <;> omega)
    have hlen : (sealF K l).length = l.length := by simp [sealF, partsF_length]
    rw [hlen] at this
    have hm : l.length * 1048584 ≤ 8 * 1048584 := Nat.mul_le_mul_right _ (by omega)
    omega
  · simp

/-- What the parts of a chain are sealed into, by a key or by none. -/
def sealA (K : List Int) (l : List (List Int)) : List Int := if K.length = 0 then joinL l else sealL K l
theorem sealA_len (K : List Int) (l : List (List Int)) (hr : ∀ b ∈ l, b.length ≤ 1048576 ∧ Bytes b) : (sealA K l).length ≤ 8388672 := by
  unfold sealA
  split
  · exact (joinL_len l hr).2
  · exact sealL_len K l hr

theorem sealA_meets (K : List Int) (l : List (List Int)) (hK : K.length ≤ 1048576) (hKB : Bytes K) (hl : l.length ≤ 1048576) (hr : ∀ b ∈ l, b.length ≤ 1048576 ∧ Bytes b) :
    Meets Tryd.prog 9 [.v (.view false (.ints .u8 K)), .v (.view false (.rows false l))] [.own (.ints .u8 (sealA K l)), .v (.int .i64 (partsE l))] := by
  unfold sealA
  split
  · rename_i h
    obtain rfl : K = [] := List.length_eq_zero_iff.1 h
    exact sealN_meets l hl hr
  · exact sealK_meets K l (by omega) hK hKB hl hr

theorem rsealA_meets (K : List Int) (l : List (List Int)) (hK : K.length ≤ 1048576) (hKB : Bytes K) (hl : l.length ≤ 1048576) (hr : ∀ b ∈ l, b.length ≤ 1048576 ∧ Bytes b) :
    Meets Tryd.prog 10 [.v (.view false (.ints .u8 K)), .v (.view false (.rows false l))] [.own (.ints .u8 (sealA K l)), .v (.int .i64 (partsE l))] := by
  unfold sealA
  split
  · rename_i h
    obtain rfl : K = [] := List.length_eq_zero_iff.1 h
    exact rSealN_meets l hl hr
  · exact rSealK_meets K l (by omega) hK hKB hl hr

def longB (l : List (List Int)) (K : List Int) : Bool := decide (20 < l.length) || decide (1000 < K.length) || l.any fun b => decide (5000 < b.length)

set_option maxHeartbeats 4000000 in
theorem long_meets (l : List (List Int)) (K : List Int) (hl : l.length ≤ 1048576) (hr : ∀ b ∈ l, b.length ≤ 1048576 ∧ Bytes b) (hK : K.length ≤ 1048576) : Meets Tryd.prog 6 [.v (.view false (.rows false l)), .v (.view false (.ints .u8 K))] [.v (.bool (longB l K))] := by
  refine meets_go TO 100 Tryd.func6 rfl (fun X => ?_)
  simp only [Tryd.ntmps6, Tryd.results6, pureOpC, unc, svs, blks, AV.sv, absRun, absOps, absOp, evO, constSV, ungd, gdP, gdPs, setD, binI, binV, ptrE, T_ty, tTy, pickV, pureOp, guardOf, lenV, Data.len, retP, resV, retQ, rAs, rA, rA0, ownN, nodup, bares, bare, bare0, Op.operands, Call.operands, List.getD, List.getElem?_cons_zero, List.getElem?_cons_succ, Option.getD_some, List.set, List.map, List.toList_toArray, List.getElem?_toArray, Option.bind_some, true_and, and_true, and_self, implies_true, imp_self, eq_self, Nat.zero_add, Bool.cond_true_left, List.append_toArray, List.cons_append, List.nil_append, List.length_cons, List.length_nil, Nat.reduceAdd, Nat.reduceSub, List.replicate_succ, List.replicate_zero, Bool.and_self, gt_iff_lt]
  split
  · rename_i hc
    have : longB l K = true := by
      have hc : (decide (20 < (l.length : Int)) || decide (1000 < (K.length : Int))) = true := hc
      unfold longB
      rw [Bool.or_eq_true] at hc
      rcases hc with h | h
      · have := of_decide_eq_true h
        rw [decide_eq_true (show 20 < l.length by omega)]; rfl
      · have := of_decide_eq_true h
        rw [decide_eq_true (show 1000 < K.length by omega)]; simp
    rw [this]
  rename_i hc
  have hl20 : l.length ≤ 20 := by
    rcases Nat.lt_or_ge 20 l.length with h | h
    · exact absurd (by rw [decide_eq_true (show (20 : Int) < l.length by omega)]; rfl) hc
    · exact h
  have hK0 : K.length ≤ 1000 := by
    rcases Nat.lt_or_ge 1000 K.length with h | h
    · exact absurd (by rw [decide_eq_true (show (1000 : Int) < K.length by omega)]; simp) hc
    · exact h
  clear hc
  have eL : longB l K = l.any fun b => decide (5000 < b.length) := by
    unfold longB
    rw [decide_eq_false (show ¬ 20 < l.length by omega), decide_eq_false (show ¬ 1000 < K.length by omega)]; rfl
  refine loop_up (fun x : Nat × Nat => x.1 ≤ l.length ∧ ∀ j, j < x.1 → (l[j]?.getD []).length ≤ 5000) (fun x => ⟨tl 26 0 [(0, .view false (.rows false l)), (5, .int .i64 x.1)], [], ⟨x.2, [], 0⟩⟩) (fun x => l.length - x.1) (0, _) ⟨Nat.zero_le _, by simp⟩ ⟨rfl, ?_, ?_⟩ ?_
  · simp [LeT, tl]
  · intro m x hx; simp [fnd] at hx
  rintro ⟨i, c⟩ ⟨hi, hm⟩ ih
  simp only at hi hm
  refine absRun_ok TO 100 _ _ ?_
  simp only [pureOpC, unc, absRun, absOps, absOp, evO, constSV, ungd, gdP, gdPs, setD, binI, binV, ptrE, T_ty, T_size, tTy, tSize, iaddrV, pureOp, lenV, loadV, elemV, Data.len, Data.esz, retP, resV, retQ, rAs, rA, rA0, ownN, nodup, bares, bare, bare0, Op.operands, Call.operands, List.getD, List.getElem?_cons_zero, List.getElem?_cons_succ, Option.getD_some, List.set, List.map, List.toList_toArray, exitTo, true_and, and_true, and_self, if_true, eq_self, ne_eq, not_false_eq_true, Nat.zero_add, Int.toNat_natCast, List.append_toArray, List.cons_append, List.nil_append, Nat.reduceAdd, Nat.reduceSub, Nat.reduceLT, Nat.succ_ne_self, beq_self_eq_true, List.replicate_succ, List.replicate_zero, Bool.and_self, tl, gt_iff_lt]
  split
  · rename_i hc
    have hil : i < l.length := by have := of_decide_eq_true hc; omega
    refine ⟨by omega, ?_⟩
    split
    · rename_i h5
      have h5 := of_decide_eq_true h5
      have : (l.any fun b => decide (5000 < b.length)) = true := by
        rw [List.any_eq_true]
        refine ⟨l[i], List.getElem_mem hil, ?_⟩
        rw [List.getElem?_eq_getElem hil] at h5
        simp only [Option.getD_some] at h5
        exact decide_eq_true (by omega)
      rw [eL, this]
    · rename_i h5
      have h5 : (l[i]?.getD []).length ≤ 5000 := by
        rcases Nat.lt_or_ge 5000 (l[i]?.getD []).length with h | h
        · exact absurd (decide_eq_true (by omega)) h5
        · exact h
      rw [w64 (by omega) (by omega)]
      refine ih (i + 1, _) _ ⟨hil, fun j hj => ?_⟩ (by simp only; omega) rfl ?_ ?_
      · rcases Nat.lt_succ_iff_lt_or_eq.1 hj with h | h
        · exact hm j h
        · rw [h]; exact h5
      · simp [LeT, tl]
      · intro n x hx; simp [fnd] at hx
  · rename_i hc
    have hil : i = l.length := by
      have : ¬ ((i : Int) < l.length) := fun h => hc (decide_eq_true h)
      omega
    have : (l.any fun b => decide (5000 < b.length)) = false := by
      rw [List.any_eq_false]
      intro x hx
      obtain ⟨j, hj, rfl⟩ := List.getElem_of_mem hx
      have := hm j (by omega)
      rw [List.getElem?_eq_getElem hj] at this
      simp only [Option.getD_some] at this
      simp; omega
    rw [eL, this]

set_option maxHeartbeats 4000000 in
theorem ChainSeals_law (K : List Int) (l : List (List Int)) (hK : K.length ≤ 1048576 ∧ Bytes K) (hl : l.length ≤ 1048576 ∧ ∀ b ∈ l, b.length ≤ 1048576 ∧ Bytes b) : Meets Tryd.prog 3 ([.view false (.ints .u8 K), .view false (.rows false l)].map .v) [.v (.bool true)] := by
  obtain ⟨hK, hKB⟩ := hK
  obtain ⟨hl, hr⟩ := hl
  have hLo := long_meets l K hl hr hK
  have hC := copied_meets l hl hr
  have hJ := sealA_meets K l hK hKB hl hr
  have hR := rsealA_meets K l hK hKB hl hr
  have hS := Same_meets (sealA K l) (sealA K l) (by have := sealA_len K l hr; omega)
  rw [show decide (sealA K l = sealA K l) = true by simp] at hS
  have hL := lists12_meets l l (by omega) (fun x hx => by have := (hr x hx).1; omega)
  rw [show decide (l = l) = true by simp] at hL
  refine meets_go TO 100 Tryd.func3 rfl (fun X => ?_)
  simp only [Tryd.ntmps3, Tryd.results3, pureOpC, svs, blks, AV.sv, absRun, absOps, absOp, evO, constSV, ungd, gdP, gdPs, setD, pureOp, memOp, Op.operands, List.getD, List.getElem?_cons_zero, List.getElem?_cons_succ, Option.getD_some, List.set, List.map, List.toList_toArray, true_and, and_self, Nat.zero_add, List.cons_append, List.nil_append, List.length_cons, List.length_nil, Nat.reduceAdd, Nat.reduceSub, List.replicate_succ, List.replicate_zero]
  refine call_go TO 100 hLo Tryd.func6 (by decide +kernel) rfl rfl rfl ?_
  simp only [pureOpC, unc, absRun, absOps, absOp, evO, ungd, gdP, gdPs, setD, pureOp, memOp, ownN, nodup, bares, bare, bare0, guardIs, callP, callS, argS, mAs, mA, mA0, mB0, lowD, allNotIn, impN, impB, impT, packS, delL, Op.operands, List.getD, List.getElem?_cons_zero, List.getElem?_cons_succ, Option.getD_some, List.set, List.map, List.toList_toArray, true_and, and_self, eq_self, List.append_nil, Nat.reduceAdd, Bool.and_self]
  cases hlo : longB l K with
  | true =>
    rw [if_pos rfl]
    refine call_go TO 100 lives12_meets Tryd.func7 (by decide +kernel) rfl rfl rfl ?_
    simp only [pureOpC, unc, absRun, absOps, absOp, evO, ungd, gdP, gdPs, setD, retP, resV, retQ, rAs, rA, rA0, ownN, nodup, bares, bare, bare0, guardIs, callP, callS, argS, mAs, allNotIn, impN, impB, impT, packS, delL, Op.operands, List.getD, List.getElem?_cons_zero, List.getElem?_cons_succ, Option.getD_some, List.set, List.map, List.toList_toArray, and_self, eq_self, List.append_nil, Bool.and_self]
  | false =>
    rw [if_neg (by decide)]
    refine call_go TO 100 hC Tryd.func8 (by decide +kernel) rfl rfl rfl ?_
    simp only [pureOpC, unc, absRun, absOps, absOp, evO, ungd, gdP, gdPs, setD, pureOp, memOp, notIn, upd, Data.len, Data.esz, ownN, nodup, bares, bare, bareD, guardIs, callP, callS, argS, mAs, mA, mA0, mB0, lowD, allNotIn, nm, impN, impB, impT, packS, delL, Op.operands, List.getD, List.getElem?_cons_zero, List.getElem?_cons_succ, Option.getD_some, List.set, List.map, List.toList_toArray, true_and, and_self, eq_self, Nat.zero_add, Nat.add_zero, List.append_nil, Nat.reduceAdd, Nat.reduceMul, Bool.and_self]
    refine call_go TO 100 hJ Tryd.func9 (by decide +kernel) rfl rfl rfl ?_
    simp only [List.drop_zero, pureOpC, unc, absRun, absOps, absOp, evO, ungd, gdP, gdPs, setD, extractV, pureOp, memOp, notIn, blkAt, fnd, upd, Data.len, Data.esz, Data.sub, ownN, nodup, bares, bare, bare0, bareD, guardIs, callP, callS, argS, mAs, mA, mA0, mB0, lowD, allNotIn, nm, impN, impB, impT, packS, delL, Op.operands, List.getD, List.getElem?_cons_zero, List.getElem?_cons_succ, Option.getD_some, List.set, List.map, List.toList_toArray, true_and, and_self, if_true, if_false, eq_self, List.take_length, Nat.zero_add, Nat.add_zero, Nat.le_refl, List.append_nil, Nat.reduceAdd, Nat.reduceMul, Nat.reduceEqDiff, Bool.and_self]
    refine call_go TO 100 hR Tryd.func10 (by decide +kernel) rfl rfl rfl ?_
    simp only [pureOpC, unc, absRun, absOps, absOp, evO, ungd, gdP, gdPs, setD, extractV, pureOp, memOp, notIn, upd, Data.len, Data.esz, ownN, nodup, bares, bare, bare0, bareD, guardIs, callP, callS, argS, mAs, mA, mA0, mB0, lowD, allNotIn, nm, impN, impB, impT, packS, delL, Op.operands, List.getD, List.getElem?_cons_zero, List.getElem?_cons_succ, Option.getD_some, List.set, List.map, List.toList_toArray, true_and, and_self, if_false, eq_self, Nat.zero_add, Nat.add_zero, List.append_nil, Nat.reduceAdd, Nat.reduceMul, Nat.reduceEqDiff, Bool.and_self]
    refine call_go TO 100 hS Tryd.func11 (by decide +kernel) rfl rfl rfl ?_
    simp only [List.drop_zero, pureOpC, unc, absOps, absOp, evO, constSV, ungd, gdP, gdPs, setD, binI, binV, ptrE, pickV, pureOp, guardOf, notIn, blkAt, fnd, Data.len, Data.esz, Data.sub, ownN, nodup, bares, bare, bare0, guardIs, callP, callS, argS, mAs, mA, mA0, mB0, lowD, allNotIn, impN, impB, impT, packS, delL, Op.operands, List.getD, List.getElem?_cons_zero, List.getElem?_cons_succ, Option.getD_some, List.set, List.map, List.toList_toArray, List.getElem?_toArray, Option.bind_some, true_and, and_self, implies_true, if_true, if_false, eq_self, List.take_length, Nat.zero_add, Nat.le_refl, Bool.cond_true, List.append_nil, Nat.reduceEqDiff, beq_self_eq_true, Bool.and_self]
    refine call_go TO 100 hL Tryd.func12 (by decide +kernel) rfl rfl rfl ?_
    simp only [List.drop_zero, pureOpC, unc, absOps, absOp, evO, constSV, ungd, gdP, gdPs, setD, pickV, pureOp, guardOf, notIn, blkAt, fnd, Data.len, Data.esz, Data.sub, ownN, nodup, bares, bare, bare0, guardIs, callP, callS, argS, mAs, mA, mA0, mB0, lowD, allNotIn, impN, impB, impT, packS, delL, Op.operands, List.getD, List.getElem?_cons_zero, List.getElem?_cons_succ, Option.getD_some, List.set, List.map, List.toList_toArray, List.getElem?_toArray, Option.bind_some, true_and, and_self, implies_true, if_true, if_false, eq_self, List.take_length, Nat.zero_add, Nat.le_refl, Bool.cond_true, List.append_nil, Nat.reduceEqDiff, Bool.and_self]
    refine call_go TO 100 lives12_meets Tryd.func7 (by decide +kernel) rfl rfl rfl ?_
    simp only [pureOpC, unc, absRun, absOps, absOp, evO, constSV, ungd, gdP, gdPs, setD, pickV, guardOf, retP, resV, retQ, rAs, rA, rA0, ownN, nodup, bares, bare, bare0, guardIs, callP, callS, argS, mAs, allNotIn, impN, impB, impT, packS, delL, Op.operands, List.getD, List.getElem?_cons_zero, List.getElem?_cons_succ, Option.getD_some, List.set, List.map, List.toList_toArray, List.getElem?_toArray, Option.bind_some, and_self, eq_self, Bool.cond_true, List.append_nil, Bool.and_self]

end Go.Proofs.YtdhnjmepgafeiaaDoor.Abs
