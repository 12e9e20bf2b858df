/- Rows and texts: PutRow, GetRow, PutText, GetText, of the program and of the document. -/
import Derived.Test.YtakgefinmlomdaaDoorU4
import Derived.Test.YtakgefinmlomdaaDoorU7
import Derived.Test.YtakgefinmlomdaaDoorFX
set_option linter.unusedVariables false
set_option linter.unusedSimpArgs false
set_option maxRecDepth 100000
namespace Go.Proofs.YtakgefinmlomdaaDoor.Abs
open Go Go.Proofs

theorem putE_k {n : Int} {k : Nat} (hk : szB k = true) (h : n < 256 ^ k) : putE n k = 0 := by unfold putE; rw [if_pos ⟨hk, by simpa using h⟩]
theorem putL_k {n : Int} {k : Nat} (hk : szB k = true) (h : n < 256 ^ k) : putL n k = digs k n := by unfold putL; rw [if_pos (putE_k hk h)]; simp

theorem clone8_meets (b : List Int) (hb : b.length ≤ 140737488355328) : Meets Tryd.prog 66 [.v (.view false (.ints .u8 b))] [.own (.ints .u8 b)] := by
  refine meets_go TO 100 Tryd.func66 rfl (fun X => ?_)
  simp only [Tryd.ntmps66, Tryd.results66, pureOpC, unc, svs, blks, AV.sv, absRun, absOps, absOp, evO, constSV, ungd, gdP, gdPs, setD, binV, ptrE, pureOp, memOp, Op.operands, List.getD, List.getElem?_cons_zero, List.getElem?_cons_succ, Option.getD_some, List.set, List.toList_toArray, true_and, and_self, Nat.zero_add, List.cons_append, List.nil_append, List.length_cons, List.length_nil, Nat.reduceAdd, Nat.reduceSub, List.replicate_succ, List.replicate_zero]
  refine nilcmp_ops TO rfl rfl rfl rfl rfl (fun r hr => HOps_go TO 100 ?_)
  cases r with
  | true =>
    have h0 : b.length = 0 := hr rfl
    simp only [pureOpC, unc, fitT, absRun, absOps, absOp, evO, constSV, ungd, gdP, gdPs, setD, T_ty, T_size, T_bytes, T_zero, tTy, tSize, tBytes, tZero, pureOp, memOp, newV, notIn, dataOf, appD, isSrc, elemsOf, intsOf, zI, blkAt, fnd, upd, del, mv, Data.len, Data.esz, Lim.add, retP, resV, retQ, rAs, rA, ownN, nodup, bares, bare, bareD, Op.operands, Call.operands, List.getD, List.getElem?_cons_zero, List.getElem?_cons_succ, Option.getD_some, List.set, List.map, List.toList_toArray, true_and, and_true, and_self, if_true, if_false, eq_self, Nat.zero_add, List.append_toArray, List.nil_append, List.length_nil, Nat.reduceAdd, Nat.reduceEqDiff, Nat.reduceLeDiff, Bool.and_self]
    exact h0
  | false =>
    simp only [pureOpC, unc, fitT, absRun, absOps, absOp, evO, constSV, ungd, gdP, gdPs, setD, T_ty, T_size, T_bytes, T_zero, tTy, tSize, tBytes, tZero, pureOp, memOp, newV, notIn, dataOf, appD, isSrc, elemsOf, intsOf, zI, blkAt, fnd, upd, del, mv, Data.len, Data.esz, Lim.add, retP, resV, retQ, rAs, rA, ownN, nodup, bares, bare, bareD, Op.operands, Call.operands, List.getD, List.getElem?_cons_zero, List.getElem?_cons_succ, Option.getD_some, List.set, List.map, List.toList_toArray, true_and, and_true, and_self, if_true, if_false, eq_self, Bool.false_eq_true, Nat.zero_add, List.append_toArray, List.nil_append, List.length_nil, Nat.reduceAdd, Nat.reduceEqDiff, Nat.reduceLeDiff, Bool.and_self]
    exact ⟨by omega, by omega⟩

theorem copy8_meets (b : List Int) (hb : b.length ≤ 140737488355328) : Meets Tryd.prog 29 [.v (.view false (.ints .u8 b))] [.own (.ints .u8 b)] := by
  refine meets_go TO 100 Tryd.func29 rfl (fun X => ?_)
  simp only [Tryd.ntmps29, Tryd.results29, pureOpC, unc, fitT, svs, blks, AV.sv, absRun, absOps, absOp, evO, constSV, ungd, gdP, gdPs, setD, T_ty, T_size, T_bytes, T_zero, tTy, tSize, tBytes, tZero, pureOp, memOp, notIn, dataOf, isSrc, zI, blkAt, fnd, upd, Data.len, Data.esz, Lim.add, retP, resV, retQ, rAs, rA, ownN, nodup, bares, bare, bareD, Op.operands, Call.operands, List.getD, List.getElem?_cons_zero, List.getElem?_cons_succ, Option.getD_some, List.set, List.map, List.toList_toArray, true_and, and_true, and_self, if_true, eq_self, Nat.zero_add, List.append_toArray, List.cons_append, List.nil_append, List.length_cons, List.length_nil, Nat.reduceAdd, Nat.reduceSub, List.replicate_succ, List.replicate_zero, Bool.and_self]
  exact ⟨by omega, by omega⟩

def rowE (b : List Int) : Int := if 65535 < b.length then 3 else 0
def rowL (b : List Int) : List Int := if 65535 < b.length then [] else digs 2 b.length ++ b

theorem PutRow_meets (b : List Int) : Meets Tryd.prog 71 [.v (.view false (.ints .u8 b))] [.own (.ints .u8 (rowL b)), .v (.int .i64 (rowE b))] := by
  refine meets_go TO 100 Tryd.func71 rfl (fun X => ?_)
  simp only [Tryd.ntmps71, Tryd.results71, pureOpC, unc, svs, blks, AV.sv, absRun, absOps, absOp, evO, constSV, ungd, gdP, gdPs, setD, binI, binV, ptrE, convV, T_ty, tTy, pureOp, memOp, lenV, known, Data.len, retP, resV, retQ, rAs, rA, rA0, ownN, nodup, bares, bare, bare0, bareD, Op.operands, Call.operands, List.getD, List.getElem?_cons_zero, List.getElem?_cons_succ, Option.getD_some, List.set, List.map, List.toList_toArray, true_and, and_true, and_self, eq_self, Nat.zero_add, List.append_toArray, List.cons_append, List.nil_append, List.length_cons, List.length_nil, Nat.reduceAdd, Nat.reduceSub, List.replicate_succ, List.replicate_zero, Bool.and_self, gt_iff_lt]
  unfold rowL rowE
  by_cases h : 65535 < b.length
  · rw [if_pos (decide_eq_true (by omega)), if_pos h, if_pos h]
    exact ⟨rfl, rfl⟩
  rw [if_neg (by simp; omega), if_neg h, if_neg h, wu64 (by omega) (by omega)]
  have hQ := Put_meets (b.length : Nat) (2 : Nat) (by omega) (by omega)
  rw [putL_k (by decide) (by omega), putE_k (by decide) (by omega)] at hQ
  simp only [Int.cast_ofNat_Int] at hQ
  refine call_go TO 100 hQ Tryd.func60 (by decide +kernel) rfl rfl rfl ?_
  simp only [pureOpC, unc, fitT, absRun, absOps, absOp, evO, constSV, ungd, gdP, gdPs, setD, T_ty, T_size, T_bytes, T_zero, tTy, tSize, tBytes, tZero, extractV, pureOp, memOp, notIn, dataOf, appD, isSrc, zI, blkAt, fnd, upd, del, mv, Data.len, Data.esz, Lim.add, retP, resV, retQ, rAs, rA, rA0, ownN, nodup, bares, bare, bare0, bareD, guardIs, callP, callS, argS, mAs, mA, mA0, mB0, allNotIn, nm, impN, impB, impT, packS, delL, Op.operands, Call.operands, List.getD, List.getElem?_cons_zero, List.getElem?_cons_succ, Option.getD_some, List.set, List.map, List.toList_toArray, true_and, and_true, and_self, if_true, eq_self, Nat.zero_add, Nat.add_zero, List.append_toArray, List.nil_append, List.append_nil, Nat.reduceAdd, Nat.reduceMul, Bool.and_self, digs_length]
  exact ⟨by omega, by omega⟩

theorem rPutRow_meets (b : List Int) : Meets Tryd.prog 63 [.v (.view false (.ints .u8 b))] [.own (.ints .u8 (rowL b)), .v (.int .i64 (rowE b))] := by
  refine meets_go TO 100 Tryd.func63 rfl (fun X => ?_)
  simp only [Tryd.ntmps63, Tryd.results63, pureOpC, unc, svs, blks, AV.sv, absRun, absOps, absOp, evO, constSV, ungd, gdP, gdPs, setD, binI, binV, ptrE, convV, T_ty, tTy, pureOp, memOp, lenV, known, Data.len, retP, resV, retQ, rAs, rA, rA0, ownN, nodup, bares, bare, bare0, bareD, Op.operands, Call.operands, List.getD, List.getElem?_cons_zero, List.getElem?_cons_succ, Option.getD_some, List.set, List.map, List.toList_toArray, true_and, and_true, and_self, eq_self, Nat.zero_add, List.append_toArray, List.cons_append, List.nil_append, List.length_cons, List.length_nil, Nat.reduceAdd, Nat.reduceSub, List.replicate_succ, List.replicate_zero, Bool.and_self, gt_iff_lt]
  unfold rowL rowE
  by_cases h : 65535 < b.length
  · rw [if_pos (decide_eq_true (by omega)), if_pos h, if_pos h]
    exact ⟨rfl, rfl⟩
  rw [if_neg (by simp; omega), if_neg h, if_neg h, wu64 (by omega) (by omega)]
  have hQ := rPut_meets (b.length : Nat) (2 : Nat) (by omega) (by omega)
  rw [putL_k (by decide) (by omega), putE_k (by decide) (by omega)] at hQ
  simp only [Int.cast_ofNat_Int] at hQ
  refine call_go TO 100 hQ Tryd.func61 (by decide +kernel) rfl rfl rfl ?_
  simp only [pureOpC, unc, fitT, absRun, absOps, absOp, evO, constSV, ungd, gdP, gdPs, setD, T_ty, T_size, T_bytes, T_zero, tTy, tSize, tBytes, tZero, extractV, pureOp, memOp, notIn, dataOf, appD, isSrc, zI, blkAt, fnd, upd, del, mv, Data.len, Data.esz, Lim.add, retP, resV, retQ, rAs, rA, rA0, ownN, nodup, bares, bare, bare0, bareD, guardIs, callP, callS, argS, mAs, mA, mA0, mB0, allNotIn, nm, impN, impB, impT, packS, delL, Op.operands, Call.operands, List.getD, List.getElem?_cons_zero, List.getElem?_cons_succ, Option.getD_some, List.set, List.map, List.toList_toArray, true_and, and_true, and_self, if_true, eq_self, Nat.zero_add, Nat.add_zero, List.append_toArray, List.nil_append, List.append_nil, Nat.reduceAdd, Nat.reduceMul, Bool.and_self, digs_length]
  exact ⟨by omega, by omega⟩

def rowN (b : List Int) (at_ : Int) : Int := getV b at_ 2
def grE (b : List Int) (at_ most : Int) : Int := if getE b.length at_ 2 ≠ 0 then getE b.length at_ 2 else if most < rowN b at_ then 3 else if (b.length : Int) - at_ - 2 < rowN b at_ then 4 else 0
def grL (b : List Int) (at_ most : Int) : List Int := if grE b at_ most = 0 then (b.drop (at_ + 2).toNat).take (rowN b at_).toNat else []
def grX (b : List Int) (at_ most : Int) : Int := if grE b at_ most = 0 then at_ + 2 + rowN b at_ else 0

theorem getE2 (len : Nat) (at_ : Int) : getE len at_ 2 = cutE len at_ 2 := by unfold getE; rw [if_pos (by decide)]

theorem getE2_zero {len : Nat} {at_ : Int} (h : getE len at_ 2 = 0) : 0 ≤ at_ ∧ at_ + 2 ≤ len := by
  rw [getE2] at h
  have := cutE_zero h
  omega

theorem getE2_cases (len : Nat) (at_ : Int) : (getE len at_ 2 = 2 ∧ (at_ < 0 ∨ (len : Int) < at_)) ∨ (getE len at_ 2 = 4 ∧ 0 ≤ at_ ∧ at_ ≤ len ∧ (len : Int) - at_ < 2) ∨ (getE len at_ 2 = 0 ∧ 0 ≤ at_ ∧ at_ + 2 ≤ len) := by
  rw [getE2]
  unfold cutE
  by_cases c1 : at_ < 0 ∨ (len : Int) < at_
  · rw [if_pos (by omega)]; exact .inl ⟨rfl, c1⟩
  · rw [if_neg (by omega)]
    by_cases c2 : (len : Int) - at_ < 2
    · rw [if_pos c2]; exact .inr (.inl ⟨rfl, by omega, by omega, c2⟩)
    · rw [if_neg c2]; exact .inr (.inr ⟨rfl, by omega, by omega⟩)

theorem rowN_lt (b : List Int) (at_ : Int) (hB : Bytes b) : 0 ≤ rowN b at_ ∧ rowN b at_ < 65536 := by
  unfold rowN getV
  split
  · rename_i h
    have h2 := h
    rw [getE2] at h2
    have hl := cutL_length_eq h2
    have hv := val_bounds (hB.cut at_ 2)
    rw [show (cutL b at_ 2).length = 2 by omega] at hv
    exact ⟨hv.1, by have := hv.2; simpa using this⟩
  · omega

theorem gr_bad {b : List Int} {at_ most : Int} (h : grE b at_ most ≠ 0) : grL b at_ most = [] ∧ grX b at_ most = 0 := by
  unfold grL grX; rw [if_neg h, if_neg h]; exact ⟨rfl, rfl⟩

set_option maxHeartbeats 1000000 in
theorem GetRow_meets (b : List Int) (at_ most : Int) (hb : b.length ≤ 140737488351232) (hB : Bytes b) (ha : -9223372036854775808 ≤ at_ ∧ at_ ≤ 9223372036854775807) : Meets Tryd.prog 76 [.v (.view false (.ints .u8 b)), .v (.int .i64 at_), .v (.int .i64 most)] [.own (.ints .u8 (grL b at_ most)), .v (.int .i64 (grX b at_ most)), .v (.int .i64 (grE b at_ most))] := by
  have hG := Get_meets b at_ 2 hb hB
  refine meets_go TO 100 Tryd.func76 rfl (fun X => ?_)
  simp only [Tryd.ntmps76, Tryd.results76, pureOpC, svs, blks, AV.sv, absRun, absOps, absOp, evO, constSV, ungd, gdP, gdPs, setD, pureOp, memOp, Op.operands, List.getD, List.getElem?_cons_zero, List.getElem?_cons_succ, Option.getD_some, List.set, List.toList_toArray, true_and, and_self, Nat.zero_add, List.cons_append, List.nil_append, List.length_cons, List.length_nil, Nat.reduceAdd, Nat.reduceSub, List.replicate_succ, List.replicate_zero]
  refine call_go TO 100 hG Tryd.func78 (by decide +kernel) rfl rfl rfl ?_
  have hn := rowN_lt b at_ hB
  have hN : getV b at_ 2 = rowN b at_ := rfl
  rw [hN]
  have gE : grE b at_ most = if getE b.length at_ 2 ≠ 0 then getE b.length at_ 2 else if most < rowN b at_ then 3 else if (b.length : Int) - at_ - 2 < rowN b at_ then 4 else 0 := rfl
  rcases getE2_cases b.length at_ with ⟨e, c⟩ | ⟨e, c⟩ | ⟨e, c⟩
  · rw [e] at gE ⊢
    rw [if_pos (by decide)] at gE
    obtain ⟨g1, g2⟩ := gr_bad (show grE b at_ most ≠ 0 by rw [gE]; decide)
    have d1 : (at_ != (b.length : Int)) = true := by simp; omega
    simp only [pureOpC, unc, absRun, absOps, absOp, evO, constSV, ungd, gdP, gdPs, setD, binI, binV, ptrE, convV, T_ty, tTy, extractV, pickV, pureOp, guardOf, memOp, lenV, known, Data.len, retP, resV, retQ, rAs, rA, rA0, ownN, nodup, bares, bare, bare0, bareD, guardIs, callP, callS, argS, mAs, mA, mA0, mB0, lowD, allNotIn, impN, impB, impT, packS, delL, Op.operands, Call.operands, List.getD, List.getElem?_cons_zero, List.getElem?_cons_succ, Option.getD_some, List.set, List.map, List.toList_toArray, List.getElem?_toArray, Option.bind_some, true_and, and_true, and_false, and_self, implies_true, if_true, eq_self, Int.reduceBNe, Bool.cond_true, List.append_toArray, List.nil_append, List.append_nil, List.length_nil, Nat.reduceAdd, Bool.and_self, Int.reduceEq, gt_iff_lt, d1, gE, g1, g2]
  · rw [e] at gE ⊢
    rw [if_pos (by decide)] at gE
    obtain ⟨g1, g2⟩ := gr_bad (show grE b at_ most ≠ 0 by rw [gE]; decide)
    simp only [pureOpC, unc, absRun, absOps, absOp, evO, constSV, ungd, gdP, gdPs, setD, binI, binV, ptrE, convV, T_ty, tTy, extractV, pickV, pureOp, guardOf, memOp, lenV, known, Data.len, retP, resV, retQ, rAs, rA, rA0, ownN, nodup, bares, bare, bare0, bareD, guardIs, callP, callS, argS, mAs, mA, mA0, mB0, lowD, allNotIn, impN, impB, impT, packS, delL, Op.operands, Call.operands, List.getD, List.getElem?_cons_zero, List.getElem?_cons_succ, Option.getD_some, List.set, List.map, List.toList_toArray, List.getElem?_toArray, Option.bind_some, true_and, and_true, and_false, and_self, implies_true, if_true, ite_self, eq_self, Int.reduceBNe, Bool.cond_true, List.append_toArray, List.nil_append, List.append_nil, List.length_nil, Nat.reduceAdd, Bool.and_self, Int.reduceEq, gt_iff_lt, gE, g1, g2]
  · rw [e] at gE ⊢
    rw [if_neg (by decide)] at gE
    generalize hr : rowN b at_ = n at *
    have wn : IntKind.i64.wrap n = n := w64 (by omega) (by omega)
    have k2 : IntKind.i64.wrap (at_ + 2) = at_ + 2 := w64 (by omega) (by omega)
    simp only [pureOpC, unc, absRun, absOps, absOp, evO, constSV, ungd, gdP, gdPs, setD, binI, binV, ptrE, convV, T_ty, tTy, extractV, pickV, pureOp, guardOf, memOp, lenV, known, Data.len, retP, resV, retQ, rAs, rA, rA0, ownN, nodup, bares, bare, bare0, bareD, guardIs, callP, callS, argS, mAs, mA, mA0, mB0, lowD, allNotIn, impN, impB, impT, packS, delL, Op.operands, Call.operands, List.getD, List.getElem?_cons_zero, List.getElem?_cons_succ, Option.getD_some, List.set, List.map, List.toList_toArray, List.getElem?_toArray, Option.bind_some, true_and, and_true, and_self, implies_true, imp_self, if_false, eq_self, Bool.false_eq_true, Int.reduceBNe, Bool.cond_false, List.append_toArray, List.nil_append, List.append_nil, Nat.reduceAdd, Bool.and_self, gt_iff_lt, wn, k2]
    by_cases c1 : most < n
    · rw [if_pos c1] at gE
      obtain ⟨g1, g2⟩ := gr_bad (show grE b at_ most ≠ 0 by rw [gE]; decide)
      rw [if_pos (decide_eq_true c1), gE, g1, g2]
      exact ⟨rfl, rfl, rfl⟩
    rw [if_neg c1] at gE
    rw [if_neg (by simpa using c1)]
    have hP := Part_meets b (at_ + 2) n hb
    refine call_go TO 100 hP Tryd.func84 (by decide +kernel) rfl rfl rfl ?_
    by_cases c2 : (b.length : Int) - at_ - 2 < n
    · have eP : cutE b.length (at_ + 2) n = 4 := by unfold cutE; rw [if_neg (by omega), if_pos (by omega)]
      rw [if_pos c2] at gE
      obtain ⟨g1, g2⟩ := gr_bad (show grE b at_ most ≠ 0 by rw [gE]; decide)
      rw [eP]
      simp only [pureOpC, unc, absRun, absOps, absOp, evO, constSV, ungd, gdP, gdPs, setD, binI, binV, ptrE, extractV, pureOp, memOp, notIn, upd, Data.len, Data.esz, retP, resV, retQ, rAs, rA, rA0, ownN, nodup, bares, bare, bare0, bareD, guardIs, callP, callS, argS, mAs, mA, mA0, mB0, lowD, allNotIn, nm, impN, impB, impT, packS, delL, Op.operands, List.getD, List.getElem?_cons_zero, List.getElem?_cons_succ, Option.getD_some, List.set, List.map, List.toList_toArray, true_and, and_self, if_true, eq_self, Nat.zero_add, Nat.add_zero, Int.reduceBNe, List.append_nil, List.length_nil, Nat.reduceAdd, Nat.reduceMul, Bool.and_self, gE, g1, g2]
    have eP : cutE b.length (at_ + 2) n = 0 := by unfold cutE; rw [if_neg (by omega), if_neg (by omega)]
    rw [if_neg c2] at gE
    have g1 : grL b at_ most = cutL b (at_ + 2) n := by unfold grL cutL; rw [if_pos gE, if_pos eP, hr]
    have g2 : grX b at_ most = at_ + 2 + n := by unfold grX; rw [if_pos gE, hr]
    have hcl := cutL_length b (at_ + 2) n
    have k3 : IntKind.i64.wrap (at_ + 2 + n) = at_ + 2 + n := w64 (by omega) (by omega)
    rw [eP, gE, g1, g2]
    generalize cutL b (at_ + 2) n = p at *
    have hC := clone8_meets p (by omega)
    simp only [pureOpC, unc, absRun, absOps, absOp, evO, constSV, ungd, gdP, gdPs, setD, binI, binV, ptrE, extractV, pureOp, memOp, notIn, upd, Data.len, Data.esz, retP, resV, retQ, rAs, rA, rA0, ownN, nodup, bares, bare, bare0, bareD, guardIs, callP, callS, argS, mAs, mA, mA0, mB0, lowD, allNotIn, nm, impN, impB, impT, packS, delL, Op.operands, List.getD, List.getElem?_cons_zero, List.getElem?_cons_succ, Option.getD_some, List.set, List.map, List.toList_toArray, true_and, and_true, and_self, if_false, eq_self, Bool.false_eq_true, Nat.zero_add, Nat.add_zero, Int.reduceBNe, List.append_nil, Nat.reduceAdd, Nat.reduceMul, Bool.and_self]
    refine call_go TO 100 hC Tryd.func66 (by decide +kernel) rfl rfl rfl ?_
    simp only [List.drop_zero, pureOpC, unc, absRun, absOps, absOp, evO, constSV, ungd, gdP, gdPs, setD, binI, binV, ptrE, convV, T_ty, tTy, pureOp, notIn, known, blkAt, fnd, upd, Data.len, Data.esz, Data.sub, retP, resV, retQ, rAs, rA, rA0, ownN, nodup, bares, bare, bare0, bareD, guardIs, callP, callS, argS, mAs, mA, mA0, mB0, lowD, allNotIn, nm, impN, impB, impT, packS, delL, Op.operands, List.getD, List.getElem?_cons_zero, List.getElem?_cons_succ, Option.getD_some, List.set, List.map, List.toList_toArray, and_self, if_true, if_false, eq_self, List.take_length, Nat.zero_add, Nat.add_zero, Nat.le_refl, List.append_nil, Nat.reduceAdd, Nat.reduceMul, Nat.reduceEqDiff, Bool.and_self, k2, wn, k3]

set_option maxHeartbeats 1000000 in
theorem rGetRow_meets (b : List Int) (at_ most : Int) (hb : b.length ≤ 140737488351232) (hB : Bytes b) (ha : -9223372036854775808 ≤ at_ ∧ at_ ≤ 9223372036854775807) : Meets Tryd.prog 79 [.v (.view false (.ints .u8 b)), .v (.int .i64 at_), .v (.int .i64 most)] [.own (.ints .u8 (grL b at_ most)), .v (.int .i64 (grX b at_ most)), .v (.int .i64 (grE b at_ most))] := by
  refine meets_go TO 100 Tryd.func79 rfl (fun X => ?_)
  simp only [Tryd.ntmps79, Tryd.results79, pureOpC, unc, svs, blks, AV.sv, absRun, absOps, absOp, evO, constSV, ungd, gdP, gdPs, setD, binI, binV, ptrE, T_ty, tTy, pickV, pureOp, guardOf, lenV, Data.len, retP, resV, retQ, rAs, rA, rA0, ownN, nodup, bares, bare, bare0, bareD, Op.operands, Call.operands, List.getD, List.getElem?_cons_zero, List.getElem?_cons_succ, Option.getD_some, List.set, List.map, List.toList_toArray, List.getElem?_toArray, Option.bind_some, true_and, and_true, and_self, implies_true, imp_self, eq_self, Nat.zero_add, Bool.cond_true_left, List.append_toArray, List.cons_append, List.nil_append, List.length_cons, List.length_nil, Nat.reduceAdd, Nat.reduceSub, List.replicate_succ, List.replicate_zero, Bool.and_self, gt_iff_lt]
  have hn := rowN_lt b at_ hB
  have gE : grE b at_ most = if getE b.length at_ 2 ≠ 0 then getE b.length at_ 2 else if most < rowN b at_ then 3 else if (b.length : Int) - at_ - 2 < rowN b at_ then 4 else 0 := rfl
  rcases getE2_cases b.length at_ with ⟨e, c⟩ | ⟨e, c⟩ | ⟨e, c⟩
  · rw [e, if_pos (by decide)] at gE
    obtain ⟨g1, g2⟩ := gr_bad (show grE b at_ most ≠ 0 by rw [gE]; decide)
    rw [if_pos (by simp only [Bool.or_eq_true, decide_eq_true_eq]; omega), gE, g1, g2]
    exact ⟨rfl, rfl, rfl⟩
  · rw [e, if_pos (by decide)] at gE
    obtain ⟨g1, g2⟩ := gr_bad (show grE b at_ most ≠ 0 by rw [gE]; decide)
    rw [if_neg (by simp only [Bool.or_eq_true, decide_eq_true_eq]; omega), w64 (x := (b.length : Int) - at_) (by omega) (by omega), if_pos (decide_eq_true c.2.2), gE, g1, g2]
    exact ⟨rfl, rfl, rfl⟩
  · rw [e, if_neg (by decide)] at gE
    rw [if_neg (by simp only [Bool.or_eq_true, decide_eq_true_eq]; omega), w64 (x := (b.length : Int) - at_) (by omega) (by omega), if_neg (by simp; omega)]
    obtain ⟨i, rfl⟩ : ∃ i : Nat, at_ = i := ⟨at_.toNat, by omega⟩
    obtain ⟨g1, g2, g3⟩ := getV_two (b := b) (i := i) (by omega)
    have hr : rowN b i = b[i]?.getD 0 + 256 * b[i + 1]?.getD 0 := g2
    have b0 := hB.getD i
    have b1 := hB.getD (i + 1)
    simp only [List.getD] at b0 b1
    have k1 : IntKind.i64.wrap ((i : Int) + 1) = ((i + 1 : Nat) : Int) := by rw [w64 (by omega) (by omega)]; omega
    have k2 : IntKind.i64.wrap ((i : Int) + 2) = (i : Int) + 2 := w64 (by omega) (by omega)
    have kd : IntKind.i64.wrap ((b.length : Int) - i) = (b.length : Int) - i := w64 (by omega) (by omega)
    have kd2 : IntKind.i64.wrap ((b.length : Int) - i - 2) = (b.length : Int) - i - 2 := w64 (by omega) (by omega)
    have wv : IntKind.i64.wrap (IntKind.i64.wrap (b[i]?.getD 0) + IntKind.i64.wrap (256 * IntKind.i64.wrap (b[i + 1]?.getD 0))) = rowN b i := by
      rw [w64 (x := b[i]?.getD 0) (by omega) (by omega), w64 (x := b[i + 1]?.getD 0) (by omega) (by omega), w64 (x := 256 * b[i + 1]?.getD 0) (by omega) (by omega), w64 (by omega) (by omega), hr]
    refine draw_go TO 14 100 mixed_ok (by decide +kernel) ?_
    simp only [k1, List.take_succ_cons, List.take_zero, List.drop_succ_cons, List.drop_zero, pureOpC, unc, isEff, absD, pureStep, absRun, absOps, absOp, evO, constSV, ungd, gdP, gdPs, setD, binI, binV, ptrE, convV, binS, T_ty, T_size, tTy, tSize, iaddrV, lowI, highI, maxP, sliceV, pureOp, memOp, lenV, loadV, known, blkAt, elemV, Data.len, Data.esz, Data.sub, retP, resV, retQ, rAs, rA, rA0, ownN, nodup, bares, bare, bare0, bareD, Op.operands, Call.operands, List.getD, List.getElem?_cons_zero, List.getElem?_cons_succ, Option.getD_some, List.set, List.map, List.toList_toArray, Option.map_some, Option.map_none, true_and, and_true, and_self, implies_true, imp_self, eq_self, ne_eq, not_false_eq_true, forall_const, reduceCtorEq, Int.toNat_natCast, Int.cast_ofNat_Int, Option.toArray_some, Option.toArray_none, List.append_toArray, List.cons_append, List.nil_append, List.append_nil, Nat.reduceAdd, Nat.reduceLT, Nat.succ_ne_self, Bool.and_self, gt_iff_lt, wv]
    refine ⟨⟨by omega, by omega⟩, ⟨by omega, by omega⟩, ?_⟩
    have g3 : grL b i most = if grE b i most = 0 then (b.drop ((i : Int) + 2).toNat).take (rowN b i).toNat else [] := rfl
    have g4 : grX b i most = if grE b i most = 0 then (i : Int) + 2 + rowN b i else 0 := rfl
    generalize rowN b i = n at *
    by_cases c1 : most < n
    · rw [if_pos c1] at gE
      obtain ⟨g1, g2⟩ := gr_bad (show grE b i most ≠ 0 by rw [gE]; decide)
      rw [if_pos (decide_eq_true c1), gE, g1, g2]
      exact ⟨rfl, rfl, rfl⟩
    rw [if_neg c1] at gE
    rw [if_neg (by simpa using c1)]
    simp only [kd, kd2]
    by_cases c2 : (b.length : Int) - i - 2 < n
    · rw [if_pos c2] at gE
      obtain ⟨g1, g2⟩ := gr_bad (show grE b i most ≠ 0 by rw [gE]; decide)
      rw [if_pos (decide_eq_true c2), gE, g1, g2]
      exact ⟨rfl, rfl, rfl⟩
    rw [if_neg c2] at gE
    rw [if_neg (by simpa using c2)]
    have k3 : IntKind.i64.wrap ((i : Int) + 2 + n) = (i : Int) + 2 + n := w64 (by omega) (by omega)
    rw [gE, if_pos rfl] at g3 g4
    rw [gE, g3, g4]
    simp only [k2, k3]
    rw [show ((i : Int) + 2 + n - ((i : Int) + 2)).toNat = n.toNat by congr 1; omega]
    have hC := copy8_meets ((b.drop ((i : Int) + 2).toNat).take n.toNat) (by rw [List.length_take, List.length_drop]; omega)
    refine ⟨⟨by omega, by omega, by omega⟩, ?_⟩
    refine call_go TO 100 hC Tryd.func29 (by decide +kernel) rfl rfl rfl ?_
    simp only [pureOpC, unc, absRun, absOps, absOp, evO, constSV, ungd, gdP, gdPs, setD, binI, binV, ptrE, pureOp, notIn, blkAt, fnd, upd, Data.len, Data.esz, retP, resV, retQ, rAs, rA, rA0, ownN, nodup, bares, bare, bare0, bareD, guardIs, callP, callS, argS, mAs, mA, mA0, mB0, lowD, allNotIn, nm, impN, impB, impT, packS, delL, Op.operands, List.getD, List.getElem?_cons_zero, List.getElem?_cons_succ, Option.getD_some, List.set, List.map, List.toList_toArray, and_self, if_true, eq_self, Nat.zero_add, Nat.add_zero, List.append_nil, Nat.reduceAdd, Nat.reduceMul, Bool.and_self, k2, k3]

def ptE (s : ByteArray) : Int := if utfE s ≠ 0 then utfE s else if 512 < (utfL s).length then 3 else 0
def ptL (s : ByteArray) : List Int := if ptE s = 0 then digs 2 (utfL s).length ++ utfL s else []

theorem PutText_meets (s : ByteArray) (hs : s.size ≤ 1099511627776) : Meets Tryd.prog 59 [.v (.str s)] [.own (.ints .u8 (ptL s)), .v (.int .i64 (ptE s))] := by
  have hU := Put02_meets s hs
  have hR := PutRow_meets (utfL s)
  refine meets_go TO 100 Tryd.func59 rfl (fun X => ?_)
  simp only [Tryd.ntmps59, Tryd.results59, pureOpC, svs, blks, AV.sv, absRun, absOps, absOp, evO, constSV, ungd, gdP, gdPs, setD, pureOp, memOp, Op.operands, List.getD, List.getElem?_cons_zero, Option.getD_some, List.set, List.toList_toArray, true_and, and_self, Nat.zero_add, List.cons_append, List.nil_append, List.length_cons, List.length_nil, Nat.reduceAdd, Nat.reduceSub, List.replicate_succ, List.replicate_zero]
  refine call_go TO 100 hU Tryd.func70 (by decide +kernel) rfl rfl rfl ?_
  unfold ptL ptE
  by_cases h : utfE s = 0
  · rw [h]
    simp only [pureOpC, unc, absRun, absOps, absOp, evO, constSV, ungd, gdP, gdPs, setD, binI, binV, ptrE, T_ty, tTy, extractV, pureOp, memOp, lenV, notIn, blkAt, fnd, upd, Data.len, Data.esz, retP, resV, retQ, rAs, rA, rA0, ownN, nodup, bares, bare, bare0, bareD, guardIs, callP, callS, argS, mAs, mA, mA0, mB0, allNotIn, nm, impN, impB, impT, packS, delL, Op.operands, Call.operands, List.getD, List.getElem?_cons_zero, List.getElem?_cons_succ, Option.getD_some, List.set, List.map, List.toList_toArray, true_and, and_true, and_self, if_true, if_false, eq_self, ne_eq, not_true_eq_false, Bool.false_eq_true, Nat.zero_add, Nat.add_zero, Int.reduceBNe, List.append_toArray, List.nil_append, List.append_nil, Nat.reduceAdd, Nat.reduceMul, Bool.and_self, gt_iff_lt]
    by_cases h2 : 512 < (utfL s).length
    · rw [if_pos (decide_eq_true (by omega)), if_pos h2]
      exact ⟨rfl, rfl⟩
    · rw [if_neg (by simp; omega), if_neg h2]
      have e1 : rowE (utfL s) = 0 := by unfold rowE; rw [if_neg (by omega)]
      have e2 : rowL (utfL s) = digs 2 (utfL s).length ++ utfL s := by unfold rowL; rw [if_neg (by omega)]
      rw [e1, e2] at hR
      refine call_go TO 100 hR Tryd.func71 (by decide +kernel) rfl rfl rfl ?_
      simp only [List.drop_zero, pureOpC, unc, absRun, absOps, absOp, evO, ungd, gdP, gdPs, setD, extractV, pureOp, notIn, blkAt, fnd, upd, Data.len, Data.esz, Data.sub, retP, resV, retQ, rAs, rA, rA0, ownN, nodup, bares, bare, bare0, bareD, guardIs, callP, callS, argS, mAs, mA, mA0, mB0, lowD, allNotIn, nm, impN, impB, impT, packS, delL, Op.operands, List.getD, List.getElem?_cons_zero, List.getElem?_cons_succ, Option.getD_some, List.set, List.map, List.toList_toArray, and_self, if_true, if_false, eq_self, List.take_length, Nat.zero_add, Nat.add_zero, Nat.le_refl, List.append_nil, Nat.reduceAdd, Nat.reduceMul, Nat.reduceEqDiff, Bool.and_self]
  · have hb : (utfE s != 0) = true := by simpa using h
    simp only [pureOpC, unc, absRun, absOps, absOp, evO, constSV, ungd, gdP, gdPs, setD, binI, binV, ptrE, T_ty, tTy, extractV, pureOp, memOp, lenV, notIn, blkAt, fnd, upd, Data.len, Data.esz, retP, resV, retQ, rAs, rA, rA0, ownN, nodup, bares, bare, bare0, bareD, guardIs, callP, callS, argS, mAs, mA, mA0, mB0, allNotIn, nm, impN, impB, impT, packS, delL, Op.operands, Call.operands, List.getD, List.getElem?_cons_zero, List.getElem?_cons_succ, Option.getD_some, List.set, List.map, List.toList_toArray, true_and, and_true, and_self, if_true, eq_self, ne_eq, Nat.zero_add, Nat.add_zero, List.append_toArray, List.nil_append, List.append_nil, List.length_nil, Nat.reduceAdd, Nat.reduceMul, Bool.and_self, gt_iff_lt, hb, if_pos h, if_neg h]

theorem rPutText_meets (s : ByteArray) (hs : s.size ≤ 1099511627776) : Meets Tryd.prog 40 [.v (.str s)] [.own (.ints .u8 (ptL s)), .v (.int .i64 (ptE s))] := by
  have hU := r2Put_meets s hs
  have hR := rPutRow_meets (utfL s)
  refine meets_go TO 100 Tryd.func40 rfl (fun X => ?_)
  simp only [Tryd.ntmps40, Tryd.results40, pureOpC, svs, blks, AV.sv, absRun, absOps, absOp, evO, constSV, ungd, gdP, gdPs, setD, pureOp, memOp, Op.operands, List.getD, List.getElem?_cons_zero, Option.getD_some, List.set, List.toList_toArray, true_and, and_self, Nat.zero_add, List.cons_append, List.nil_append, List.length_cons, List.length_nil, Nat.reduceAdd, Nat.reduceSub, List.replicate_succ, List.replicate_zero]
  refine call_go TO 100 hU Tryd.func62 (by decide +kernel) rfl rfl rfl ?_
  unfold ptL ptE
  by_cases h : utfE s = 0
  · rw [h]
    simp only [pureOpC, unc, absRun, absOps, absOp, evO, constSV, ungd, gdP, gdPs, setD, binI, binV, ptrE, T_ty, tTy, extractV, pureOp, memOp, lenV, notIn, blkAt, fnd, upd, Data.len, Data.esz, retP, resV, retQ, rAs, rA, rA0, ownN, nodup, bares, bare, bare0, bareD, guardIs, callP, callS, argS, mAs, mA, mA0, mB0, allNotIn, nm, impN, impB, impT, packS, delL, Op.operands, Call.operands, List.getD, List.getElem?_cons_zero, List.getElem?_cons_succ, Option.getD_some, List.set, List.map, List.toList_toArray, true_and, and_true, and_self, if_true, if_false, eq_self, ne_eq, not_true_eq_false, Bool.false_eq_true, Nat.zero_add, Nat.add_zero, Int.reduceBNe, List.append_toArray, List.nil_append, List.append_nil, Nat.reduceAdd, Nat.reduceMul, Bool.and_self, gt_iff_lt]
    by_cases h2 : 512 < (utfL s).length
    · rw [if_pos (decide_eq_true (by omega)), if_pos h2]
      exact ⟨rfl, rfl⟩
    · rw [if_neg (by simp; omega), if_neg h2]
      have e1 : rowE (utfL s) = 0 := by unfold rowE; rw [if_neg (by omega)]
      have e2 : rowL (utfL s) = digs 2 (utfL s).length ++ utfL s := by unfold rowL; rw [if_neg (by omega)]
      rw [e1, e2] at hR
      refine call_go TO 100 hR Tryd.func63 (by decide +kernel) rfl rfl rfl ?_
      simp only [List.drop_zero, pureOpC, unc, absRun, absOps, absOp, evO, ungd, gdP, gdPs, setD, extractV, pureOp, notIn, blkAt, fnd, upd, Data.len, Data.esz, Data.sub, retP, resV, retQ, rAs, rA, rA0, ownN, nodup, bares, bare, bare0, bareD, guardIs, callP, callS, argS, mAs, mA, mA0, mB0, lowD, allNotIn, nm, impN, impB, impT, packS, delL, Op.operands, List.getD, List.getElem?_cons_zero, List.getElem?_cons_succ, Option.getD_some, List.set, List.map, List.toList_toArray, and_self, if_true, if_false, eq_self, List.take_length, Nat.zero_add, Nat.add_zero, Nat.le_refl, List.append_nil, Nat.reduceAdd, Nat.reduceMul, Nat.reduceEqDiff, Bool.and_self]
  · have hb : (utfE s != 0) = true := by simpa using h
    simp only [pureOpC, unc, absRun, absOps, absOp, evO, constSV, ungd, gdP, gdPs, setD, binI, binV, ptrE, T_ty, tTy, extractV, pureOp, memOp, lenV, notIn, blkAt, fnd, upd, Data.len, Data.esz, retP, resV, retQ, rAs, rA, rA0, ownN, nodup, bares, bare, bare0, bareD, guardIs, callP, callS, argS, mAs, mA, mA0, mB0, allNotIn, nm, impN, impB, impT, packS, delL, Op.operands, Call.operands, List.getD, List.getElem?_cons_zero, List.getElem?_cons_succ, Option.getD_some, List.set, List.map, List.toList_toArray, true_and, and_true, and_self, if_true, eq_self, ne_eq, Nat.zero_add, Nat.add_zero, List.append_toArray, List.nil_append, List.append_nil, List.length_nil, Nat.reduceAdd, Nat.reduceMul, Bool.and_self, gt_iff_lt, hb, if_pos h, if_neg h]

def gtE (b : List Int) (at_ : Int) : Int := if grE b at_ 512 ≠ 0 then grE b at_ 512 else ugetE (grL b at_ 512)
def gtS (b : List Int) (at_ : Int) : ByteArray := if gtE b at_ = 0 then ugetS (grL b at_ 512) else ByteArray.empty
def gtX (b : List Int) (at_ : Int) : Int := if gtE b at_ = 0 then grX b at_ 512 else 0

theorem grL_len (b : List Int) (at_ most : Int) : (grL b at_ most).length ≤ b.length := by
  unfold grL
  split
  · rw [List.length_take, List.length_drop]; omega
  · simp
theorem grL_bytes (b : List Int) (at_ most : Int) (hB : Bytes b) : Bytes (grL b at_ most) := by
  unfold grL
  split
  · exact (hB.drop _).take _
  · intro x hx; simp at hx

theorem GetText_meets (b : List Int) (at_ : Int) (hb : b.length ≤ 274877906944) (hB : Bytes b) (ha : -9223372036854775808 ≤ at_ ∧ at_ ≤ 9223372036854775807) : Meets Tryd.prog 64 [.v (.view false (.ints .u8 b)), .v (.int .i64 at_)] [.v (.str (gtS b at_)), .v (.int .i64 (gtX b at_)), .v (.int .i64 (gtE b at_))] := by
  have hG := GetRow_meets b at_ 512 (by omega) hB ha
  have hl := grL_len b at_ 512
  have hU := uGet_meets (grL b at_ 512) (by omega) (grL_bytes b at_ 512 hB)
  refine meets_go TO 100 Tryd.func64 rfl (fun X => ?_)
  simp only [Tryd.ntmps64, Tryd.results64, pureOpC, svs, blks, AV.sv, absRun, absOps, absOp, evO, constSV, ungd, gdP, gdPs, setD, pureOp, memOp, Op.operands, List.getD, List.getElem?_cons_zero, List.getElem?_cons_succ, Option.getD_some, List.set, List.toList_toArray, true_and, and_self, Nat.zero_add, List.cons_append, List.nil_append, List.length_cons, List.length_nil, Nat.reduceAdd, Nat.reduceSub, List.replicate_succ, List.replicate_zero]
  refine call_go TO 100 hG Tryd.func76 (by decide +kernel) rfl rfl rfl ?_
  unfold gtS gtX gtE
  by_cases h : grE b at_ 512 = 0
  · rw [h]
    simp only [pureOpC, unc, absRun, absOps, absOp, evO, constSV, ungd, gdP, gdPs, setD, binI, binV, ptrE, extractV, pureOp, memOp, notIn, upd, Data.len, Data.esz, retP, resV, retQ, rAs, rA, rA0, ownN, nodup, bares, bare, bare0, bareD, guardIs, callP, callS, argS, mAs, mA, mA0, mB0, lowD, allNotIn, nm, impN, impB, impT, packS, delL, Op.operands, List.getD, List.getElem?_cons_zero, List.getElem?_cons_succ, Option.getD_some, List.set, List.map, List.toList_toArray, true_and, and_true, and_self, if_false, eq_self, ne_eq, not_true_eq_false, Bool.false_eq_true, Nat.zero_add, Nat.add_zero, Int.reduceBNe, List.append_nil, Nat.reduceAdd, Nat.reduceMul, Bool.and_self]
    generalize grL b at_ 512 = l at *
    refine call_go TO 100 hU Tryd.func77 (by decide +kernel) rfl rfl rfl ?_
    by_cases h2 : ugetE l = 0
    · rw [h2]
      simp only [List.drop_zero, pureOpC, unc, absRun, absOps, absOp, evO, constSV, ungd, gdP, gdPs, setD, binI, binV, ptrE, extractV, pureOp, notIn, blkAt, fnd, Data.len, Data.esz, Data.sub, retP, resV, retQ, rAs, rA, rA0, ownN, nodup, bares, bare, bare0, guardIs, callP, callS, argS, mAs, mA, mA0, mB0, lowD, allNotIn, impN, impB, impT, packS, delL, Op.operands, List.getD, List.getElem?_cons_zero, List.getElem?_cons_succ, Option.getD_some, List.set, List.map, List.toList_toArray, true_and, and_true, and_self, if_true, if_false, eq_self, Bool.false_eq_true, List.take_length, Nat.zero_add, Nat.le_refl, Int.reduceBNe, List.append_nil, Nat.reduceAdd, Bool.and_self]
    · have hb : (ugetE l != 0) = true := by simpa using h2
      simp only [List.drop_zero, pureOpC, unc, absRun, absOps, absOp, evO, constSV, ungd, gdP, gdPs, setD, binI, binV, ptrE, extractV, pureOp, notIn, blkAt, fnd, Data.len, Data.esz, Data.sub, retP, resV, retQ, rAs, rA, rA0, ownN, nodup, bares, bare, bare0, guardIs, callP, callS, argS, mAs, mA, mA0, mB0, lowD, allNotIn, impN, impB, impT, packS, delL, Op.operands, List.getD, List.getElem?_cons_zero, List.getElem?_cons_succ, Option.getD_some, List.set, List.map, List.toList_toArray, true_and, and_true, and_self, if_true, eq_self, List.take_length, Nat.zero_add, Nat.le_refl, List.append_nil, Nat.reduceAdd, Bool.and_self, hb, if_neg h2]
      rfl
  · have hb : (grE b at_ 512 != 0) = true := by simpa using h
    simp only [pureOpC, unc, absRun, absOps, absOp, evO, constSV, ungd, gdP, gdPs, setD, binI, binV, ptrE, extractV, pureOp, memOp, notIn, upd, Data.len, Data.esz, retP, resV, retQ, rAs, rA, rA0, ownN, nodup, bares, bare, bare0, bareD, guardIs, callP, callS, argS, mAs, mA, mA0, mB0, lowD, allNotIn, nm, impN, impB, impT, packS, delL, Op.operands, List.getD, List.getElem?_cons_zero, List.getElem?_cons_succ, Option.getD_some, List.set, List.map, List.toList_toArray, true_and, and_true, and_self, if_true, eq_self, ne_eq, Nat.zero_add, Nat.add_zero, List.append_nil, Nat.reduceAdd, Nat.reduceMul, Bool.and_self, hb, if_pos h, if_neg h]
    rfl

theorem rGetText_meets (b : List Int) (at_ : Int) (hb : b.length ≤ 274877906944) (hB : Bytes b) (ha : -9223372036854775808 ≤ at_ ∧ at_ ≤ 9223372036854775807) : Meets Tryd.prog 68 [.v (.view false (.ints .u8 b)), .v (.int .i64 at_)] [.v (.str (gtS b at_)), .v (.int .i64 (gtX b at_)), .v (.int .i64 (gtE b at_))] := by
  have hG := rGetRow_meets b at_ 512 (by omega) hB ha
  have hl := grL_len b at_ 512
  have hU := rGet02_meets (grL b at_ 512) (by omega) (grL_bytes b at_ 512 hB)
  refine meets_go TO 100 Tryd.func68 rfl (fun X => ?_)
  simp only [Tryd.ntmps68, Tryd.results68, pureOpC, svs, blks, AV.sv, absRun, absOps, absOp, evO, constSV, ungd, gdP, gdPs, setD, pureOp, memOp, Op.operands, List.getD, List.getElem?_cons_zero, List.getElem?_cons_succ, Option.getD_some, List.set, List.toList_toArray, true_and, and_self, Nat.zero_add, List.cons_append, List.nil_append, List.length_cons, List.length_nil, Nat.reduceAdd, Nat.reduceSub, List.replicate_succ, List.replicate_zero]
  refine call_go TO 100 hG Tryd.func79 (by decide +kernel) rfl rfl rfl ?_
  unfold gtS gtX gtE
  by_cases h : grE b at_ 512 = 0
  · rw [h]
    simp only [pureOpC, unc, absRun, absOps, absOp, evO, constSV, ungd, gdP, gdPs, setD, binI, binV, ptrE, extractV, pureOp, memOp, notIn, upd, Data.len, Data.esz, retP, resV, retQ, rAs, rA, rA0, ownN, nodup, bares, bare, bare0, bareD, guardIs, callP, callS, argS, mAs, mA, mA0, mB0, lowD, allNotIn, nm, impN, impB, impT, packS, delL, Op.operands, List.getD, List.getElem?_cons_zero, List.getElem?_cons_succ, Option.getD_some, List.set, List.map, List.toList_toArray, true_and, and_true, and_self, if_false, eq_self, ne_eq, not_true_eq_false, Bool.false_eq_true, Nat.zero_add, Nat.add_zero, Int.reduceBNe, List.append_nil, Nat.reduceAdd, Nat.reduceMul, Bool.and_self]
    generalize grL b at_ 512 = l at *
    refine call_go TO 100 hU Tryd.func80 (by decide +kernel) rfl rfl rfl ?_
    by_cases h2 : ugetE l = 0
    · rw [h2]
      simp only [List.drop_zero, pureOpC, unc, absRun, absOps, absOp, evO, constSV, ungd, gdP, gdPs, setD, binI, binV, ptrE, extractV, pureOp, notIn, blkAt, fnd, Data.len, Data.esz, Data.sub, retP, resV, retQ, rAs, rA, rA0, ownN, nodup, bares, bare, bare0, guardIs, callP, callS, argS, mAs, mA, mA0, mB0, lowD, allNotIn, impN, impB, impT, packS, delL, Op.operands, List.getD, List.getElem?_cons_zero, List.getElem?_cons_succ, Option.getD_some, List.set, List.map, List.toList_toArray, true_and, and_true, and_self, if_true, if_false, eq_self, Bool.false_eq_true, List.take_length, Nat.zero_add, Nat.le_refl, Int.reduceBNe, List.append_nil, Nat.reduceAdd, Bool.and_self]
    · have hb : (ugetE l != 0) = true := by simpa using h2
      simp only [List.drop_zero, pureOpC, unc, absRun, absOps, absOp, evO, constSV, ungd, gdP, gdPs, setD, binI, binV, ptrE, extractV, pureOp, notIn, blkAt, fnd, Data.len, Data.esz, Data.sub, retP, resV, retQ, rAs, rA, rA0, ownN, nodup, bares, bare, bare0, guardIs, callP, callS, argS, mAs, mA, mA0, mB0, lowD, allNotIn, impN, impB, impT, packS, delL, Op.operands, List.getD, List.getElem?_cons_zero, List.getElem?_cons_succ, Option.getD_some, List.set, List.map, List.toList_toArray, true_and, and_true, and_self, if_true, eq_self, List.take_length, Nat.zero_add, Nat.le_refl, List.append_nil, Nat.reduceAdd, Bool.and_self, hb, if_neg h2]
      rfl
  · have hb : (grE b at_ 512 != 0) = true := by simpa using h
    simp only [pureOpC, unc, absRun, absOps, absOp, evO, constSV, ungd, gdP, gdPs, setD, binI, binV, ptrE, extractV, pureOp, memOp, notIn, upd, Data.len, Data.esz, retP, resV, retQ, rAs, rA, rA0, ownN, nodup, bares, bare, bare0, bareD, guardIs, callP, callS, argS, mAs, mA, mA0, mB0, lowD, allNotIn, nm, impN, impB, impT, packS, delL, Op.operands, List.getD, List.getElem?_cons_zero, List.getElem?_cons_succ, Option.getD_some, List.set, List.map, List.toList_toArray, true_and, and_true, and_self, if_true, eq_self, ne_eq, Nat.zero_add, Nat.add_zero, List.append_nil, Nat.reduceAdd, Nat.reduceMul, Bool.and_self, hb, if_pos h, if_neg h]
    rfl

end Go.Proofs.YtakgefinmlomdaaDoor.Abs
