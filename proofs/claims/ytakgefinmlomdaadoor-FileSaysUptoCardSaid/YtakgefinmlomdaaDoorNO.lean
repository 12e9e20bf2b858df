/- The law FileSays answers true. -/
import Derived.Test.YtakgefinmlomdaaDoorNL
import Derived.Test.YtakgefinmlomdaaDoorNJ
set_option linter.unusedVariables false
set_option linter.unusedSimpArgs false
set_option maxRecDepth 100000
namespace Go.Proofs.YtakgefinmlomdaaDoor.Abs
open Go Go.Proofs

set_option maxHeartbeats 4000000 in
theorem FileSays_law (c : Int) (s : Say) (hc : 0 ≤ c ∧ c < 65536) (ha : s.ok ∧ s.small 1048576) : Meets Tryd.prog 7 ([.int .u16 c, s.sv false].map .v) [.v (.bool true)] := by
  obtain ⟨ha, hs⟩ := ha
  have hC := CopySay_meets s hs
  have hP := fPutSay_meets c s hc.1 ha hs.data
  have hR := rPutSay9_meets c s hc.1 ha hs.data
  have hl := fsL_len c s ha
  have hS := Same_meets (fsL c s) (fsL c s) (by omega)
  rw [decide_eq_true rfl] at hS
  have hA := Says_meets s s (by have := hs.data; omega) (by have := hs.entries; omega)
  rw [says_dec, decide_eq_true rfl] at hA
  have ht : (fsL c s).take (fsL c s).length = fsL c s := List.take_length
  have he : (fsE c s == fsE c s) = true := by simp
  generalize fsL c s = l at *
  generalize fsE c s = e at *
  simp only [Say.sv, Say.cells] at hC hP hR hA
  refine meets_go TO 100 Tryd.func7 rfl (fun X => ?_)
  simp only [Tryd.ntmps7, Tryd.results7, Say.sv, Say.cells, pureOpC, unc, svs, blks, AV.sv, absRun, absOps, absOp, evO, constSV, ungd, gdP, gdPs, setD, T_ty, T_size, tTy, tSize, pureOp, memOp, loadV, newV, notIn, cellsOf, takeC, dropC, blkAt, fnd, upd, Lim.add, Op.operands, List.getD, List.getElem?_cons_zero, List.getElem?_cons_succ, Option.getD_some, List.set, List.map, List.toList_toArray, Option.bind_some, Option.map_some, true_and, and_self, if_true, eq_self, ne_eq, not_false_eq_true, reduceCtorEq, Nat.zero_add, List.cons_append, List.nil_append, List.length_cons, List.length_nil, Nat.reduceAdd, Nat.reduceSub, Nat.reduceLeDiff, List.replicate_succ, List.replicate_zero]
  refine call_go TO 100 hC Tryd.func26 (by decide +kernel) rfl rfl rfl ?_
  simp only [pureOpC, cntC, unc, absRun, absOps, absOp, evO, ungd, gdP, gdPs, setD, T_ty, T_size, T_zero, tTy, tSize, tZero, pureOp, memOp, loadV, newV, notIn, scal, okC, takeC, dropC, blkAt, fnd, upd, Lim.add, ownN, nodup, bares, bare, bare0, bareL, bareD, guardIs, callP, callS, argS, mAs, mA, mA0, mB0, mAl, lowD, allNotIn, impN, impB, impT, packS, delL, Op.operands, List.getD, List.getElem?_cons_zero, List.getElem?_cons_succ, Option.getD_some, List.set, List.map, List.toList_toArray, Option.bind_some, Option.map_some, true_and, and_self, if_true, if_false, eq_self, ne_eq, not_false_eq_true, reduceCtorEq, Nat.zero_add, Nat.add_zero, List.nil_append, List.append_nil, Nat.reduceAdd, Nat.reduceSub, Nat.reduceEqDiff, Nat.reduceLeDiff, List.replicate_succ, List.replicate_zero, Bool.and_self]
  refine call_go TO 100 hP Tryd.func27 (by decide +kernel) rfl rfl rfl ?_
  simp only [pureOpC, unc, absRun, absOps, absOp, evO, ungd, gdP, gdPs, setD, T_ty, T_size, tTy, tSize, extractV, pureOp, memOp, loadV, notIn, takeC, dropC, blkAt, fnd, upd, Data.len, Data.esz, ownN, nodup, bares, bare, bare0, bareD, guardIs, callP, callS, argS, mAs, mA, mA0, mB0, mAl, lowD, allNotIn, nm, impN, impB, impT, packS, delL, Op.operands, List.getD, List.getElem?_cons_zero, List.getElem?_cons_succ, Option.getD_some, List.set, List.map, List.toList_toArray, Option.bind_some, Option.map_some, true_and, and_self, if_true, if_false, eq_self, ne_eq, not_false_eq_true, reduceCtorEq, Nat.zero_add, Nat.add_zero, List.append_nil, Nat.reduceAdd, Nat.reduceSub, Nat.reduceMul, Nat.reduceEqDiff, Nat.reduceLeDiff, Bool.and_self]
  refine call_go TO 100 hR Tryd.func28 (by decide +kernel) rfl rfl rfl ?_
  simp only [pureOpC, unc, absRun, absOps, absOp, evO, ungd, gdP, gdPs, setD, extractV, pureOp, memOp, notIn, upd, Data.len, Data.esz, ownN, nodup, bares, bare, bare0, bareD, guardIs, callP, callS, argS, mAs, mA, mA0, mB0, mAl, lowD, allNotIn, nm, impN, impB, impT, packS, delL, Op.operands, List.getD, List.getElem?_cons_zero, List.getElem?_cons_succ, Option.getD_some, List.set, List.map, List.toList_toArray, true_and, and_self, if_false, eq_self, Nat.zero_add, Nat.add_zero, List.append_nil, Nat.reduceAdd, Nat.reduceMul, Nat.reduceEqDiff, Bool.and_self]
  refine call_go TO 100 hS Tryd.func14 (by decide +kernel) rfl rfl rfl ?_
  simp only [ht, he, List.drop_zero, pureOpC, unc, absOps, absOp, evO, constSV, ungd, gdP, gdPs, setD, binI, binV, ptrE, T_ty, T_size, tTy, tSize, pickV, pureOp, guardOf, loadV, notIn, takeC, dropC, blkAt, fnd, Data.len, Data.esz, Data.sub, ownN, nodup, bares, bare, bare0, guardIs, callP, callS, argS, mAs, mA, mA0, mB0, lowD, allNotIn, impN, impB, impT, packS, delL, Op.operands, List.getD, List.getElem?_cons_zero, List.getElem?_cons_succ, Option.getD_some, List.set, List.map, List.toList_toArray, List.getElem?_toArray, Option.bind_some, Option.map_some, true_and, and_self, implies_true, if_true, if_false, eq_self, ne_eq, not_false_eq_true, reduceCtorEq, Nat.zero_add, Nat.le_refl, Bool.cond_true, List.append_nil, Nat.reduceAdd, Nat.reduceSub, Nat.reduceEqDiff, Nat.reduceLeDiff, Bool.and_self]
  refine call_go TO 100 hA Tryd.func22 (by decide +kernel) rfl rfl rfl ?_
  simp only [pureOpC, unc, absOps, absOp, evO, constSV, ungd, gdP, gdPs, setD, pickV, pureOp, guardOf, ownN, nodup, bares, bare, bare0, guardIs, callP, callS, argS, mAs, mA, mA0, mB0, mAl, lowD, allNotIn, impN, impB, impT, packS, delL, Op.operands, List.getD, List.getElem?_cons_zero, List.getElem?_cons_succ, Option.getD_some, List.set, List.map, List.toList_toArray, List.getElem?_toArray, Option.bind_some, true_and, and_self, implies_true, eq_self, Bool.cond_true, List.append_nil, Bool.and_self]
  refine call_go TO 100 lives9_meets Tryd.func16 (by decide +kernel) rfl rfl rfl ?_
  simp only [pureOpC, unc, absRun, absOps, absOp, evO, constSV, ungd, gdP, gdPs, setD, pickV, guardOf, retP, resV, retQ, rAs, rA, rA0, ownN, nodup, bares, bare, bare0, guardIs, callP, callS, argS, mAs, allNotIn, impN, impB, impT, packS, delL, Op.operands, List.getD, List.getElem?_cons_zero, List.getElem?_cons_succ, Option.getD_some, List.set, List.map, List.toList_toArray, List.getElem?_toArray, Option.bind_some, and_self, eq_self, Bool.cond_true, List.append_nil, Bool.and_self]

end Go.Proofs.YtakgefinmlomdaaDoor.Abs
