/- The document's texts, truth. -/
import Derived.Test.YtgipkhjpedpedaaDoorKF
import Derived.Test.YtgipkhjpedpedaaDoorUX
set_option linter.unusedVariables false
set_option linter.unusedSimpArgs false
set_option maxRecDepth 100000
namespace Go.Proofs.YtgipkhjpedpedaaDoor.Abs
open Go Go.Proofs

theorem rtruth_meets (on : Bool) : Meets Tryd.prog 40 [.v (.bool on)] [.v (.int .u64 (onV on))] := by
  refine meets_go TO 100 Tryd.func40 rfl (fun X => ?_)
  cases on <;> simp only [Tryd.ntmps40, Tryd.results40, onV, pureOpC, unc, svs, blks, AV.sv, absRun, absOps, absOp, evO, constSV, ungd, gdP, gdPs, setD, retP, resV, retQ, rAs, rA, rA0, ownN, nodup, bares, bare, bare0, Op.operands, List.getD, List.getElem?_cons_zero, List.getElem?_cons_succ, Option.getD_some, List.set, List.map, List.toList_toArray, and_true, and_false, and_self, if_true, if_false, eq_self, Bool.false_eq_true, Nat.zero_add, List.cons_append, List.nil_append, List.length_cons, List.length_nil, Nat.reduceAdd, Nat.reduceSub, List.replicate_succ, List.replicate_zero, Bool.and_self, Int.reduceEq]

def tx1L (l : List Int) (a1 : ByteArray) : List Int := if ptE a1 ≠ 0 then [] else l ++ ptL a1
def tx2E (a1 a2 : ByteArray) : Int := if ptE a1 ≠ 0 then ptE a1 else ptE a2
def tx2L (l : List Int) (a1 a2 : ByteArray) : List Int := if tx2E a1 a2 ≠ 0 then [] else l ++ ptL a1 ++ ptL a2

set_option maxHeartbeats 4000000 in
theorem rtx1_meets (l : List Int) (a1 : ByteArray) (hl : l.length ≤ 1000000000) (h1 : a1.size ≤ 1048576) : Meets Tryd.prog 39 [.own (.ints .u8 l), .v (.view false (.strs [a1]))] [.own (.ints .u8 (tx1L l a1)), .v (.int .i64 (ptE a1))] := by
  have hz := pt_len a1
  have w1 : IntKind.i64.wrap 1 = 1 := by decide
  refine meets_go TO 100 Tryd.func39 rfl (fun X => ?_)
  simp only [Tryd.ntmps39, Tryd.results39, pureOpC, svs, blks, AV.sv, absRun, absOps, absOp, evO, constSV, ungd, gdP, gdPs, setD, Data.len, Data.esz, Op.operands, List.set, List.toList_toArray, true_and, and_self, Nat.zero_add, List.cons_append, List.nil_append, List.length_cons, List.length_nil, Nat.reduceAdd, Nat.reduceSub, List.replicate_succ, List.replicate_zero]
  refine loop_in (absRun_ok TO 100 _ _ ?_)
  simp only [pureOpC, unc, absRun, absOps, absOp, evO, constSV, ungd, gdP, gdPs, setD, binI, binV, ptrE, T_ty, T_size, tTy, tSize, iaddrV, pureOp, memOp, lenV, loadV, notIn, blkAt, fnd, elemV, Data.len, Data.esz, retP, resV, retQ, rAs, rA, rA0, ownN, nodup, bares, bare, bare0, bareD, Op.operands, Call.operands, List.getD, List.getElem?_cons_zero, List.getElem?_cons_succ, Option.getD_some, List.set, List.map, List.toList_toArray, exitTo, true_and, and_true, and_self, if_true, eq_self, ne_eq, not_false_eq_true, Nat.zero_add, Int.cast_ofNat_Int, Int.le_refl, Int.toNat_zero, List.append_toArray, List.nil_append, List.length_cons, List.length_nil, Nat.reduceAdd, Nat.reduceLT, Nat.succ_ne_self, beq_self_eq_true, Bool.and_self, Data.ints.injEq, Int.reduceLT, decide_true]
  refine call_go TO 100 (rPutText_meets a1 (by omega)) Tryd.func61 (by decide +kernel) rfl rfl rfl ?_
  by_cases hE : ptE a1 = 0
  · have hL : tx1L l a1 = l ++ ptL a1 := by unfold tx1L; rw [if_neg (fun g => g hE)]
    rw [hL, hE]
    simp only [List.drop_zero, pureOpC, unc, fitT, absRun, absOps, absOp, evO, constSV, ungd, gdP, gdPs, setD, binI, binV, ptrE, T_ty, T_size, T_bytes, T_zero, tTy, tSize, tBytes, tZero, extractV, pureOp, memOp, notIn, dataOf, appD, isSrc, zI, blkAt, fnd, upd, del, mv, Data.len, Data.esz, Data.sub, Lim.add, retP, resV, retQ, rAs, rA, rA0, ownN, nodup, bares, bare, bare0, bareD, guardIs, callP, callS, argS, mAs, mA, mA0, mB0, allNotIn, nm, impN, impB, impT, packS, delL, Op.operands, Call.operands, List.getD, List.getElem?_cons_zero, List.getElem?_cons_succ, Option.getD_some, List.set, List.map, List.toList_toArray, true_and, and_true, and_self, if_true, if_false, eq_self, Bool.false_eq_true, List.take_length, Nat.zero_add, Nat.add_zero, Int.zero_add, Nat.le_refl, Int.reduceBNe, List.append_toArray, List.nil_append, List.append_nil, Nat.reduceAdd, Nat.reduceMul, Nat.reduceEqDiff, Bool.and_self]
    refine ⟨⟨by omega, by omega⟩, ?_⟩
    refine loop_more (absRun_ok TO 100 _ _ ?_)
    simp only [w1, pureOpC, unc, absRun, absOps, absOp, evO, constSV, ungd, gdP, gdPs, setD, binI, binV, ptrE, T_ty, T_size, tTy, tSize, iaddrV, pureOp, memOp, lenV, loadV, notIn, blkAt, fnd, elemV, Data.len, Data.esz, retP, resV, retQ, rAs, rA, rA0, ownN, nodup, bares, bare, bare0, bareD, Op.operands, Call.operands, List.getD, List.getElem?_cons_zero, List.getElem?_cons_succ, List.getElem?_nil, Option.getD_some, Option.getD_none, List.set, List.map, List.toList_toArray, exitTo, true_and, false_and, and_false, and_self, if_true, if_false, eq_self, ne_eq, not_false_eq_true, Bool.false_eq_true, Nat.zero_add, Int.cast_ofNat_Int, Int.reduceToNat, List.append_toArray, List.nil_append, List.length_cons, List.length_nil, Nat.reduceAdd, Nat.reduceEqDiff, Nat.reduceLT, Nat.succ_ne_self, beq_self_eq_true, Bool.and_self, Int.reduceLT, Int.reduceLE, decide_false]
  · have hL : tx1L l a1 = [] := by unfold tx1L; rw [if_pos hE]
    have hE' : (ptE a1 != 0) = true := by simpa using hE
    rw [hL]
    simp only [hE', List.drop_zero, pureOpC, unc, fitT, absRun, absOps, absOp, evO, constSV, ungd, gdP, gdPs, setD, binI, binV, ptrE, T_ty, T_size, T_bytes, T_zero, tTy, tSize, tBytes, tZero, extractV, pureOp, memOp, notIn, dataOf, appD, isSrc, zI, blkAt, fnd, upd, del, mv, Data.len, Data.esz, Data.sub, Lim.add, retP, resV, retQ, rAs, rA, rA0, ownN, nodup, bares, bare, bare0, bareD, guardIs, callP, callS, argS, mAs, mA, mA0, mB0, allNotIn, nm, impN, impB, impT, packS, delL, Op.operands, Call.operands, List.getD, List.getElem?_cons_zero, List.getElem?_cons_succ, Option.getD_some, List.set, List.map, List.toList_toArray, true_and, and_self, if_true, if_false, eq_self, List.take_length, Nat.zero_add, Nat.add_zero, Int.zero_add, Nat.le_refl, List.append_toArray, List.nil_append, List.append_nil, List.length_nil, Nat.reduceAdd, Nat.reduceMul, Nat.reduceEqDiff, Bool.and_self]

set_option maxHeartbeats 4000000 in
theorem rtx2_meets (l : List Int) (a1 a2 : ByteArray) (hl : l.length ≤ 1000000000) (h1 : a1.size ≤ 1048576) (h2 : a2.size ≤ 1048576) : Meets Tryd.prog 39 [.own (.ints .u8 l), .v (.view false (.strs [a1, a2]))] [.own (.ints .u8 (tx2L l a1 a2)), .v (.int .i64 (tx2E a1 a2))] := by
  have hz := pt_len a1
  have hz2 := pt_len a2
  have w1 : IntKind.i64.wrap 1 = 1 := by decide
  have w2 : IntKind.i64.wrap 2 = 2 := by decide
  refine meets_go TO 100 Tryd.func39 rfl (fun X => ?_)
  simp only [Tryd.ntmps39, Tryd.results39, pureOpC, svs, blks, AV.sv, absRun, absOps, absOp, evO, constSV, ungd, gdP, gdPs, setD, Data.len, Data.esz, Op.operands, List.set, List.toList_toArray, true_and, and_self, Nat.zero_add, List.cons_append, List.nil_append, List.length_cons, List.length_nil, Nat.reduceAdd, Nat.reduceSub, List.replicate_succ, List.replicate_zero]
  refine loop_in (absRun_ok TO 100 _ _ ?_)
  simp only [pureOpC, unc, absRun, absOps, absOp, evO, constSV, ungd, gdP, gdPs, setD, binI, binV, ptrE, T_ty, T_size, tTy, tSize, iaddrV, pureOp, memOp, lenV, loadV, notIn, blkAt, fnd, elemV, Data.len, Data.esz, retP, resV, retQ, rAs, rA, rA0, ownN, nodup, bares, bare, bare0, bareD, Op.operands, Call.operands, List.getD, List.getElem?_cons_zero, List.getElem?_cons_succ, Option.getD_some, List.set, List.map, List.toList_toArray, exitTo, true_and, and_true, and_self, if_true, eq_self, ne_eq, not_false_eq_true, Nat.zero_add, Int.cast_ofNat_Int, Int.le_refl, Int.toNat_zero, List.append_toArray, List.nil_append, List.length_cons, List.length_nil, Nat.reduceAdd, Nat.reduceLT, Nat.succ_ne_self, beq_self_eq_true, Bool.and_self, Data.ints.injEq, Int.reduceLT, decide_true]
  refine call_go TO 100 (rPutText_meets a1 (by omega)) Tryd.func61 (by decide +kernel) rfl rfl rfl ?_
  by_cases hE : ptE a1 = 0
  · rw [hE]
    simp only [List.drop_zero, pureOpC, unc, fitT, absRun, absOps, absOp, evO, constSV, ungd, gdP, gdPs, setD, binI, binV, ptrE, T_ty, T_size, T_bytes, T_zero, tTy, tSize, tBytes, tZero, extractV, pureOp, memOp, notIn, dataOf, appD, isSrc, zI, blkAt, fnd, upd, del, mv, Data.len, Data.esz, Data.sub, Lim.add, retP, resV, retQ, rAs, rA, rA0, ownN, nodup, bares, bare, bare0, bareD, guardIs, callP, callS, argS, mAs, mA, mA0, mB0, allNotIn, nm, impN, impB, impT, packS, delL, Op.operands, Call.operands, List.getD, List.getElem?_cons_zero, List.getElem?_cons_succ, Option.getD_some, List.set, List.map, List.toList_toArray, true_and, and_true, and_self, if_true, if_false, eq_self, Bool.false_eq_true, List.take_length, Nat.zero_add, Nat.add_zero, Int.zero_add, Nat.le_refl, Int.reduceBNe, List.append_toArray, List.nil_append, List.append_nil, Nat.reduceAdd, Nat.reduceMul, Nat.reduceEqDiff, Bool.and_self]
    refine ⟨⟨by omega, by omega⟩, ?_⟩
    refine loop_more (absRun_ok TO 100 _ _ ?_)
    simp only [w1, pureOpC, unc, absRun, absOps, absOp, evO, constSV, ungd, gdP, gdPs, setD, binI, binV, ptrE, T_ty, T_size, tTy, tSize, iaddrV, pureOp, memOp, lenV, loadV, notIn, blkAt, fnd, elemV, Data.len, Data.esz, retP, resV, retQ, rAs, rA, rA0, ownN, nodup, bares, bare, bare0, bareD, Op.operands, Call.operands, List.getD, List.getElem?_cons_zero, List.getElem?_cons_succ, Option.getD_some, List.set, List.map, List.toList_toArray, exitTo, true_and, and_true, and_self, if_true, if_false, eq_self, ne_eq, not_false_eq_true, Nat.zero_add, Int.cast_ofNat_Int, Int.reduceToNat, List.append_toArray, List.nil_append, List.length_cons, List.length_nil, Nat.reduceAdd, Nat.reduceEqDiff, Nat.reduceLT, Nat.succ_ne_self, beq_self_eq_true, Bool.and_self, Data.ints.injEq, Int.reduceLT, Int.reduceLE, decide_true]
    have eE : tx2E a1 a2 = ptE a2 := by unfold tx2E; rw [if_neg (fun g => g hE)]
    refine call_go TO 100 (rPutText_meets a2 (by omega)) Tryd.func61 (by decide +kernel) rfl rfl rfl ?_
    by_cases hE2 : ptE a2 = 0
    · have hL : tx2L l a1 a2 = l ++ ptL a1 ++ ptL a2 := by unfold tx2L; rw [if_neg (fun g => g (by rw [eE, hE2]))]
      have hll : (l ++ ptL a1).length = l.length + (ptL a1).length := List.length_append
      rw [hL, eE, hE2]
      generalize l ++ ptL a1 = l2 at *
      simp only [List.drop_zero, pureOpC, unc, fitT, absRun, absOps, absOp, evO, constSV, ungd, gdP, gdPs, setD, binI, binV, ptrE, T_ty, T_size, T_bytes, T_zero, tTy, tSize, tBytes, tZero, extractV, pureOp, memOp, notIn, dataOf, appD, isSrc, zI, blkAt, fnd, upd, del, mv, Data.len, Data.esz, Data.sub, Lim.add, retP, resV, retQ, rAs, rA, rA0, ownN, nodup, bares, bare, bare0, bareD, guardIs, callP, callS, argS, mAs, mA, mA0, mB0, allNotIn, nm, impN, impB, impT, packS, delL, Op.operands, Call.operands, List.getD, List.getElem?_cons_zero, List.getElem?_cons_succ, Option.getD_some, List.set, List.map, List.toList_toArray, true_and, and_true, and_self, if_true, if_false, eq_self, Bool.false_eq_true, List.take_length, Nat.zero_add, Nat.add_zero, Int.reduceAdd, Nat.le_refl, Int.reduceBNe, List.append_toArray, List.nil_append, List.append_nil, Nat.reduceAdd, Nat.reduceMul, Nat.reduceEqDiff, Bool.and_self]
      refine ⟨⟨by omega, by omega⟩, ?_⟩
      refine loop_more (absRun_ok TO 100 _ _ ?_)
      simp only [w2, pureOpC, unc, absRun, absOps, absOp, evO, constSV, ungd, gdP, gdPs, setD, binI, binV, ptrE, T_ty, T_size, tTy, tSize, iaddrV, pureOp, memOp, lenV, loadV, notIn, blkAt, fnd, elemV, Data.len, Data.esz, retP, resV, retQ, rAs, rA, rA0, ownN, nodup, bares, bare, bare0, bareD, Op.operands, Call.operands, List.getD, List.getElem?_cons_zero, List.getElem?_cons_succ, List.getElem?_nil, Option.getD_some, Option.getD_none, List.set, List.map, List.toList_toArray, exitTo, true_and, false_and, and_false, and_self, if_true, if_false, eq_self, ne_eq, not_false_eq_true, Bool.false_eq_true, Nat.zero_add, Int.cast_ofNat_Int, Int.reduceToNat, List.append_toArray, List.nil_append, List.length_cons, List.length_nil, Nat.reduceAdd, Nat.reduceEqDiff, Nat.reduceLT, Nat.succ_ne_self, beq_self_eq_true, Bool.and_self, Int.reduceLT, Int.reduceLE, decide_false]
    · have hL : tx2L l a1 a2 = [] := by unfold tx2L; rw [if_pos (by rw [eE]; exact hE2)]
      have hE' : (ptE a2 != 0) = true := by simpa using hE2
      rw [hL, eE]
      simp only [hE', List.drop_zero, pureOpC, unc, fitT, absRun, absOps, absOp, evO, constSV, ungd, gdP, gdPs, setD, binI, binV, ptrE, T_ty, T_size, T_bytes, T_zero, tTy, tSize, tBytes, tZero, extractV, pureOp, memOp, notIn, dataOf, appD, isSrc, zI, blkAt, fnd, upd, del, mv, Data.len, Data.esz, Data.sub, Lim.add, retP, resV, retQ, rAs, rA, rA0, ownN, nodup, bares, bare, bare0, bareD, guardIs, callP, callS, argS, mAs, mA, mA0, mB0, allNotIn, nm, impN, impB, impT, packS, delL, Op.operands, Call.operands, List.getD, List.getElem?_cons_zero, List.getElem?_cons_succ, Option.getD_some, List.set, List.map, List.toList_toArray, true_and, and_self, if_true, if_false, eq_self, List.take_length, Nat.zero_add, Nat.add_zero, Int.reduceAdd, Nat.le_refl, List.append_toArray, List.nil_append, List.append_nil, List.length_nil, Nat.reduceAdd, Nat.reduceMul, Nat.reduceEqDiff, Bool.and_self]
  · have eE : tx2E a1 a2 = ptE a1 := by unfold tx2E; rw [if_pos hE]
    have hL : tx2L l a1 a2 = [] := by unfold tx2L; rw [if_pos (by rw [eE]; exact hE)]
    have hE' : (ptE a1 != 0) = true := by simpa using hE
    rw [hL, eE]
    simp only [hE', List.drop_zero, pureOpC, unc, fitT, absRun, absOps, absOp, evO, constSV, ungd, gdP, gdPs, setD, binI, binV, ptrE, T_ty, T_size, T_bytes, T_zero, tTy, tSize, tBytes, tZero, extractV, pureOp, memOp, notIn, dataOf, appD, isSrc, zI, blkAt, fnd, upd, del, mv, Data.len, Data.esz, Data.sub, Lim.add, retP, resV, retQ, rAs, rA, rA0, ownN, nodup, bares, bare, bare0, bareD, guardIs, callP, callS, argS, mAs, mA, mA0, mB0, allNotIn, nm, impN, impB, impT, packS, delL, Op.operands, Call.operands, List.getD, List.getElem?_cons_zero, List.getElem?_cons_succ, Option.getD_some, List.set, List.map, List.toList_toArray, true_and, and_self, if_true, if_false, eq_self, List.take_length, Nat.zero_add, Nat.add_zero, Int.zero_add, Nat.le_refl, List.append_toArray, List.nil_append, List.append_nil, List.length_nil, Nat.reduceAdd, Nat.reduceMul, Nat.reduceEqDiff, Bool.and_self]

end Go.Proofs.YtgipkhjpedpedaaDoor.Abs
