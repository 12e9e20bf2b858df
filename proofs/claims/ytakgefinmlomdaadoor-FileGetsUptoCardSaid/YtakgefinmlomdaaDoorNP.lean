/- The law FileGets answers true. -/
import Derived.Test.YtakgefinmlomdaaDoorNL
import Derived.Test.YtakgefinmlomdaaDoorNU
import Derived.Test.YtakgefinmlomdaaDoorFX
set_option linter.unusedVariables false
set_option linter.unusedSimpArgs false
set_option maxRecDepth 100000
namespace Go.Proofs.YtakgefinmlomdaaDoor.Abs
open Go Go.Proofs

set_option maxHeartbeats 4000000 in
theorem FileGets_law (c : Int) (b : List Int) (hc : 0 ≤ c ∧ c < 65536) (hb : b.length ≤ 1048576 ∧ Bytes b) : Meets Tryd.prog 4 ([.int .u16 c, .view false (.ints .u8 b)].map .v) [.v (.bool true)] := by
  obtain ⟨hb, hB⟩ := hb
  have ht : (b ++ [7, 7, 7]).take b.length = b := List.take_left
  have hwl : (b ++ [7, 7, 7]).length = b.length + 3 := by simp
  have h1 := fGetAsk2_meets c b hc.1 (by omega) hB
  have h2 := rGetAsk92_meets c b hc.1 (by omega) hB
  have h3 := fGetSay2_meets c b hc.1 (by omega) hB
  have h4 := rGetSay92_meets c b hc.1 (by omega) hB
  have qs := fg_small c b hB
  have qt := ft_small c b hB
  have hA := Asks_meets (fgA c b) (fgA c b) (by have := qs.dialects; omega) (by have := qs.data; omega) (by have := qs.locks; omega)
  rw [asks_dec, decide_eq_true rfl] at hA
  have hS := Says_meets (ftS c b) (ftS c b) (by have := qt.data; omega) (by have := qt.entries; omega)
  rw [says_dec, decide_eq_true rfl] at hS
  generalize fgA c b = A at *
  generalize ftS c b = S at *
  have he : (fgE c b == fgE c b) = true := by simp
  have hf : (ftE c b == ftE c b) = true := by simp
  generalize fgE c b = e at *
  generalize ftE c b = f at *
  simp only [Ask.sv, Ask.cells] at h1 h2 hA
  simp only [Say.sv, Say.cells] at h3 h4 hS
  refine meets_go TO 100 Tryd.func4 rfl (fun X => ?_)
  simp only [Tryd.ntmps4, Tryd.results4, pureOpC, svs, blks, AV.sv, absRun, absOps, absOp, evO, constSV, ungd, gdP, gdPs, setD, pureOp, memOp, Op.operands, List.getD, List.getElem?_cons_zero, List.getElem?_cons_succ, Option.getD_some, List.set, List.map, List.toList_toArray, true_and, and_self, Nat.zero_add, List.cons_append, List.nil_append, List.length_cons, List.length_nil, Nat.reduceAdd, Nat.reduceSub, List.replicate_succ, List.replicate_zero]
  refine wide_go 200 (by omega) hB rfl rfl ⟨rfl, rfl⟩ ?_
  simp only [pureOpC, absRun, absOps, absOp, evO, ungd, gdP, gdPs, setD, pureOp, memOp, upd, guardIs, Op.operands, List.getD, List.getElem?_cons_zero, List.getElem?_cons_succ, Option.getD_some, List.set, List.toList_toArray, true_and, and_self, eq_self, Nat.zero_add, List.length_cons, List.length_nil, Nat.reduceAdd, Nat.reduceLT]
  refine call_go TO 100 h1 Tryd.func18 (by decide +kernel) rfl rfl rfl ?_
  simp only [List.drop_zero, pureOpC, cntC, unc, absRun, absOps, absOp, evO, ungd, gdP, gdPs, setD, T_ty, T_size, T_zero, tTy, tSize, tZero, extractV, pureOp, memOp, newV, notIn, scal, okC, takeC, dropC, blkAt, fnd, upd, Data.len, Data.esz, Data.sub, Lim.add, ownN, nodup, bares, bare, bare0, bareL, bareD, guardIs, callP, callS, argS, mAs, mA, mA0, mB0, lowD, allNotIn, impN, impB, impT, packS, delL, Op.operands, List.getD, List.getElem?_cons_zero, List.getElem?_cons_succ, Option.getD_some, List.set, List.map, List.toList_toArray, true_and, and_true, and_self, if_true, if_false, eq_self, ne_eq, not_false_eq_true, reduceCtorEq, Nat.zero_add, Nat.add_zero, List.nil_append, List.append_nil, Nat.reduceAdd, Nat.reduceSub, Nat.reduceEqDiff, Nat.reduceLeDiff, List.replicate_succ, List.replicate_zero, Bool.and_self, ht, hwl]
  refine ⟨by omega, ?_⟩
  refine call_go TO 100 h2 Tryd.func19 (by decide +kernel) rfl rfl rfl ?_
  simp only [pureOpC, cntC, unc, absRun, absOps, absOp, evO, ungd, gdP, gdPs, setD, T_ty, T_size, T_zero, tTy, tSize, tZero, extractV, pureOp, memOp, newV, notIn, scal, okC, takeC, dropC, blkAt, fnd, upd, Lim.add, ownN, nodup, bares, bare, bare0, bareL, bareD, guardIs, callP, callS, argS, mAs, mA, mA0, mB0, lowD, allNotIn, impN, impB, impT, packS, delL, Op.operands, List.getD, List.getElem?_cons_zero, List.getElem?_cons_succ, Option.getD_some, List.set, List.map, List.toList_toArray, true_and, and_self, if_true, if_false, eq_self, ne_eq, not_false_eq_true, reduceCtorEq, Nat.zero_add, Nat.add_zero, List.nil_append, List.append_nil, Nat.reduceAdd, Nat.reduceSub, Nat.reduceEqDiff, Nat.reduceLeDiff, List.replicate_succ, List.replicate_zero, Bool.and_self]
  refine call_go TO 100 h3 Tryd.func20 (by decide +kernel) rfl rfl rfl ?_
  simp only [List.drop_zero, pureOpC, cntC, unc, absRun, absOps, absOp, evO, ungd, gdP, gdPs, setD, T_ty, T_size, T_zero, tTy, tSize, tZero, extractV, pureOp, memOp, newV, notIn, scal, okC, takeC, dropC, blkAt, fnd, upd, Data.len, Data.esz, Data.sub, Lim.add, ownN, nodup, bares, bare, bare0, bareL, bareD, guardIs, callP, callS, argS, mAs, mA, mA0, mB0, lowD, allNotIn, impN, impB, impT, packS, delL, Op.operands, List.getD, List.getElem?_cons_zero, List.getElem?_cons_succ, Option.getD_some, List.set, List.map, List.toList_toArray, true_and, and_true, and_self, if_true, if_false, eq_self, ne_eq, not_false_eq_true, reduceCtorEq, Nat.zero_add, Nat.add_zero, List.nil_append, List.append_nil, Nat.reduceAdd, Nat.reduceSub, Nat.reduceEqDiff, Nat.reduceLeDiff, List.replicate_succ, List.replicate_zero, Bool.and_self, ht, hwl]
  refine ⟨by omega, ?_⟩
  refine call_go TO 100 h4 Tryd.func21 (by decide +kernel) rfl rfl rfl ?_
  simp only [pureOpC, cntC, unc, absRun, absOps, absOp, evO, ungd, gdP, gdPs, setD, T_ty, T_size, T_zero, tTy, tSize, tZero, extractV, pureOp, memOp, loadV, newV, notIn, scal, okC, takeC, dropC, blkAt, fnd, upd, Lim.add, ownN, nodup, bares, bare, bare0, bareL, bareD, guardIs, callP, callS, argS, mAs, mA, mA0, mB0, lowD, allNotIn, impN, impB, impT, packS, delL, Op.operands, List.getD, List.getElem?_cons_zero, List.getElem?_cons_succ, Option.getD_some, List.set, List.map, List.toList_toArray, Option.bind_some, Option.map_some, true_and, and_self, if_true, if_false, eq_self, ne_eq, not_false_eq_true, reduceCtorEq, Nat.zero_add, Nat.add_zero, List.nil_append, List.append_nil, Nat.reduceAdd, Nat.reduceSub, Nat.reduceEqDiff, Nat.reduceLeDiff, List.replicate_succ, List.replicate_zero, Bool.and_self]
  refine call_go TO 100 hA Tryd.func15 (by decide +kernel) rfl rfl rfl ?_
  simp only [pureOpC, unc, absOps, absOp, evO, constSV, ungd, gdP, gdPs, setD, binI, binV, ptrE, T_ty, T_size, tTy, tSize, pickV, pureOp, guardOf, loadV, takeC, dropC, blkAt, fnd, ownN, nodup, bares, bare, bare0, guardIs, callP, callS, argS, mAs, mA, mA0, mB0, mAl, lowD, allNotIn, impN, impB, impT, packS, delL, Op.operands, List.getD, List.getElem?_cons_zero, List.getElem?_cons_succ, Option.getD_some, List.set, List.map, List.toList_toArray, List.getElem?_toArray, Option.bind_some, Option.map_some, true_and, and_self, implies_true, if_true, if_false, eq_self, ne_eq, not_false_eq_true, reduceCtorEq, Bool.cond_true, List.append_nil, Nat.reduceAdd, Nat.reduceSub, Nat.reduceEqDiff, Nat.reduceLeDiff, beq_self_eq_true, Bool.and_self]
  refine call_go TO 100 hS Tryd.func22 (by decide +kernel) rfl rfl rfl ?_
  simp only [pureOpC, unc, absOps, absOp, evO, constSV, ungd, gdP, gdPs, setD, binI, binV, ptrE, pickV, pureOp, guardOf, ownN, nodup, bares, bare, bare0, guardIs, callP, callS, argS, mAs, mA, mA0, mB0, mAl, lowD, allNotIn, impN, impB, impT, packS, delL, Op.operands, List.getD, List.getElem?_cons_zero, List.getElem?_cons_succ, Option.getD_some, List.set, List.map, List.toList_toArray, List.getElem?_toArray, Option.bind_some, true_and, and_self, implies_true, eq_self, Bool.cond_true, List.append_nil, beq_self_eq_true, Bool.and_self]
  refine left_go 200 (by omega) hB rfl rfl ⟨rfl, rfl, rfl⟩ ?_
  simp only [pureOpC, absOps, absOp, evO, constSV, ungd, gdP, gdPs, setD, pickV, pureOp, guardOf, guardIs, Op.operands, List.getD, List.getElem?_cons_zero, List.getElem?_cons_succ, Option.getD_some, List.set, List.toList_toArray, List.getElem?_toArray, Option.bind_some, true_and, and_self, implies_true, eq_self, Nat.zero_add, Bool.cond_true, List.length_cons, List.length_nil, Nat.reduceAdd, Nat.reduceLT]
  refine call_go TO 100 lives9_meets Tryd.func16 (by decide +kernel) rfl rfl rfl ?_
  simp only [pureOpC, unc, absRun, absOps, absOp, evO, constSV, ungd, gdP, gdPs, setD, pickV, guardOf, retP, resV, retQ, rAs, rA, rA0, ownN, nodup, bares, bare, bare0, guardIs, callP, callS, argS, mAs, allNotIn, impN, impB, impT, packS, delL, Op.operands, List.getD, List.getElem?_cons_zero, List.getElem?_cons_succ, Option.getD_some, List.set, List.map, List.toList_toArray, List.getElem?_toArray, Option.bind_some, and_self, eq_self, Bool.cond_true, List.append_nil, Bool.and_self]

end Go.Proofs.YtakgefinmlomdaaDoor.Abs
