/- info: what lives answers. -/
import Derived.Test.YtgipkhjpedpedaaDoorKA
import Derived.Test.YtgipkhjpedpedaaDoorK2
set_option linter.unusedVariables false
set_option linter.unusedSimpArgs false
set_option maxRecDepth 100000
namespace Go.Proofs.YtgipkhjpedpedaaDoor.Abs
open Go Go.Proofs

def askS10 : Ask := { askZ with file := 1, cls := 2, on := true }

set_option maxHeartbeats 4000000 in
theorem lives10_meets : Meets Tryd.prog 15 [] [.v (.bool true)] := by
  have o : askS10.ok := { askZ_ok with file := ⟨by decide, by decide⟩, cls := ⟨by decide, by decide⟩ }
  have m : askS10.small 1048576 := { askZ_small with }
  have w : iaW 17 askS10 = askS10 := rfl
  have e1 : iaE 17 askS10 = 0 := by
    unfold iaE
    rw [if_neg (by
      rw [w]
      rintro (h | h | ⟨_, h⟩)
      · exact absurd h (by decide)
      · exact h rfl
      · revert h; decide), if_neg (by decide), if_neg (by decide)]
  have e2 : iaL 17 askS10 = [1, 0, 0, 0, 0, 0, 0, 0, 2, 0, 1, 0] := by
    unfold iaL
    rw [if_neg (by rw [e1]; decide)]
    decide +kernel
  have h1 := iPutAsk_meets 17 askS10 (by decide) o m
  rw [e1, e2] at h1
  have h2 := iGetSay2_meets 16 [7, 0, 0, 0, 0, 0, 0, 0, 2, 0, 1, 0] (by decide) (by decide) (by unfold Bytes; decide)
  have f1 : itE 16 [7, 0, 0, 0, 0, 0, 0, 0, 2, 0, 1, 0] = 0 := by decide +kernel
  have f2 : (itS 16 [7, 0, 0, 0, 0, 0, 0, 0, 2, 0, 1, 0]).size = 7 := by decide +kernel
  have f3 : (itS 16 [7, 0, 0, 0, 0, 0, 0, 0, 2, 0, 1, 0]).kind = 2 := by decide +kernel
  have f4 : (itS 16 [7, 0, 0, 0, 0, 0, 0, 0, 2, 0, 1, 0]).gone = true := by decide +kernel
  have h3 := iGetSay2_meets 12 [0, 0, 0, 0] (by decide) (by decide) (by unfold Bytes; decide)
  have g1 : itE 12 [0, 0, 0, 0] = 2 := by decide +kernel
  have h4 := iGetAsk2_meets 12 [0, 0, 0, 0] (by decide) (by decide) (by unfold Bytes; decide)
  have k1 : igE 12 [0, 0, 0, 0] = 0 := by decide +kernel
  rw [f1] at h2
  rw [g1] at h3
  rw [k1] at h4
  have hS := Same_meets [1, 0, 0, 0, 0, 0, 0, 0, 2, 0, 1, 0] [1, 0, 0, 0, 0, 0, 0, 0, 2, 0, 1, 0] (by decide)
  rw [decide_eq_true rfl] at hS
  generalize itS 16 [7, 0, 0, 0, 0, 0, 0, 0, 2, 0, 1, 0] = S at *
  generalize itS 12 [0, 0, 0, 0] = S2 at *
  generalize igA 12 [0, 0, 0, 0] = A at *
  simp only [Ask.sv, Ask.cells, askS10, askZ] at h1
  simp only [Say.sv, Say.cells, f2, f3, f4] at h2
  simp only [Say.sv, Say.cells] at h3
  simp only [Ask.sv, Ask.cells] at h4
  refine meets_go TO 100 Tryd.func15 rfl (fun X => ?_)
  simp only [Tryd.ntmps15, Tryd.results15, pureOpC, buildV, fillC, cntC, unc, svs, blks, absRun, absOps, absOp, evO, constSV, ungd, gdP, gdPs, setD, T_ty, T_size, T_zero, tTy, tSize, tZero, fieldOf, pureOp, memOp, scal, cellsOf, takeC, dropC, Op.operands, List.getElem?_cons_zero, List.getElem?_cons_succ, List.set, List.map, List.all, List.toList_toArray, Option.map_some, true_and, and_self, if_true, eq_self, ne_eq, not_false_eq_true, reduceCtorEq, Nat.add_zero, List.cons_append, List.nil_append, List.append_nil, List.length_nil, Nat.reduceAdd, Nat.reduceSub, Nat.reduceLeDiff, List.replicate_succ, List.replicate_zero, Bool.and_self, Nat.reduceBNe]
  refine call_go TO 100 h1 Tryd.func11 (by decide +kernel) rfl rfl rfl ?_
  simp only [pureOpC, unc, absRun, absOps, absOp, evO, constSV, ungd, gdP, gdPs, setD, T_ty, T_size, tTy, tSize, extractV, pureOp, memOp, newV, notIn, elemsOf, intsOf, upd, Data.len, Data.esz, Lim.add, ownN, nodup, bares, bare, bare0, bareD, guardIs, callP, callS, argS, mAs, mA, mA0, mB0, mAl, allNotIn, nm, impN, impB, impT, packS, delL, Op.operands, List.getD, List.getElem?_cons_zero, List.getElem?_cons_succ, Option.getD_some, List.set, List.map, List.toList_toArray, Option.map_some, true_and, and_self, if_true, if_false, eq_self, Nat.zero_add, Nat.add_zero, List.append_nil, List.length_cons, List.length_nil, Nat.reduceAdd, Nat.reduceMul, Nat.reduceEqDiff, Nat.reduceLeDiff, List.replicate_succ, List.replicate_zero, Bool.and_self]
  refine call_go TO 100 h2 Tryd.func19 (by decide +kernel) rfl rfl rfl ?_
  simp only [List.take_succ_cons, List.take_zero, List.drop_zero, pureOpC, cntC, unc, absRun, absOps, absOp, evO, constSV, ungd, gdP, gdPs, setD, T_ty, T_size, T_zero, tTy, tSize, tZero, extractV, pureOp, memOp, newV, notIn, scal, elemsOf, intsOf, okC, takeC, dropC, blkAt, fnd, upd, Data.len, Data.esz, Data.sub, Lim.add, ownN, nodup, bares, bare, bare0, bareL, bareD, guardIs, callP, callS, argS, mAs, mA, mA0, mB0, lowD, allNotIn, impN, impB, impT, packS, delL, Op.operands, List.getD, List.getElem?_cons_zero, List.getElem?_cons_succ, Option.getD_some, List.set, List.map, List.toList_toArray, Option.map_some, true_and, and_self, if_true, if_false, eq_self, ne_eq, not_false_eq_true, reduceCtorEq, Nat.zero_add, Nat.add_zero, Nat.le_refl, List.nil_append, List.append_nil, List.length_cons, List.length_nil, Nat.reduceAdd, Nat.reduceSub, Nat.reduceEqDiff, Nat.reduceLeDiff, List.replicate_succ, List.replicate_zero, Bool.and_self]
  refine call_go TO 100 h3 Tryd.func19 (by decide +kernel) rfl rfl rfl ?_
  simp only [List.take_succ_cons, List.take_zero, List.drop_zero, pureOpC, cntC, unc, absRun, absOps, absOp, evO, constSV, ungd, gdP, gdPs, setD, T_ty, T_size, T_zero, tTy, tSize, tZero, extractV, pureOp, memOp, newV, notIn, scal, elemsOf, intsOf, okC, takeC, dropC, blkAt, fnd, upd, Data.len, Data.esz, Data.sub, Lim.add, ownN, nodup, bares, bare, bare0, bareL, bareD, guardIs, callP, callS, argS, mAs, mA, mA0, mB0, lowD, allNotIn, impN, impB, impT, packS, delL, Op.operands, List.getD, List.getElem?_cons_zero, List.getElem?_cons_succ, Option.getD_some, List.set, List.map, List.toList_toArray, Option.map_some, true_and, and_self, if_true, if_false, eq_self, ne_eq, not_false_eq_true, reduceCtorEq, Nat.zero_add, Nat.add_zero, Nat.le_refl, List.nil_append, List.append_nil, List.length_cons, List.length_nil, Nat.reduceAdd, Nat.reduceSub, Nat.reduceEqDiff, Nat.reduceLeDiff, List.replicate_succ, List.replicate_zero, Bool.and_self]
  refine call_go TO 100 h4 Tryd.func17 (by decide +kernel) rfl rfl rfl ?_
  simp only [List.take_succ_cons, List.take_zero, List.drop_zero, pureOpC, cntC, unc, absRun, absOps, absOp, evO, constSV, ungd, gdP, gdPs, setD, binI, binV, ptrE, T_ty, T_size, T_zero, tTy, tSize, tZero, extractV, pureOp, guardOf, memOp, newV, notIn, scal, okC, takeC, dropC, blkAt, fnd, upd, Data.len, Data.esz, Data.sub, Lim.add, ownN, nodup, bares, bare, bare0, bareL, bareD, guardIs, callP, callS, argS, mAs, mA, mA0, mB0, lowD, allNotIn, impN, impB, impT, packS, delL, Op.operands, List.getD, List.getElem?_cons_zero, List.getElem?_cons_succ, Option.getD_some, List.set, List.map, List.toList_toArray, List.getElem?_toArray, Option.bind_some, true_and, and_self, implies_true, if_true, if_false, eq_self, ne_eq, not_false_eq_true, reduceCtorEq, Nat.zero_add, Nat.add_zero, Nat.le_refl, List.nil_append, List.append_nil, List.length_cons, List.length_nil, Nat.reduceAdd, Nat.reduceSub, Nat.reduceEqDiff, Nat.reduceLeDiff, beq_self_eq_true, List.replicate_succ, List.replicate_zero, Bool.and_self]
  refine guard_go TO 100 ?_
  simp only [pureOpC, unc, absOps, absOp, evO, constSV, ungd, gdP, gdPs, T_ty, T_size, tTy, tSize, pureOp, guardOf, memOp, newV, notIn, elemsOf, intsOf, upd, Lim.add, guardIs, Op.operands, List.getD, List.getElem?_cons_zero, List.getElem?_cons_succ, Option.getD_some, List.set, List.map, List.toList_toArray, List.getElem?_toArray, Option.bind_some, Option.map_some, true_and, and_self, if_true, if_false, eq_self, Nat.zero_add, List.length_cons, List.length_nil, Nat.reduceAdd, Nat.reduceEqDiff, Nat.reduceLeDiff]
  refine call_go TO 100 hS Tryd.func13 (by decide +kernel) rfl rfl rfl ?_
  simp only [List.take_succ_cons, List.take_zero, List.drop_zero, pureOpC, unc, absRun, absOps, absOp, evO, constSV, ungd, gdP, gdPs, setD, binI, binV, ptrE, T_ty, T_size, tTy, tSize, fieldOf, faddrV, pickV, pureOp, guardOf, loadV, notIn, cellAt, blkAt, fnd, Data.len, Data.esz, Data.sub, retP, resV, retQ, rAs, rA, rA0, ownN, nodup, bares, bare, bare0, guardIs, callP, callS, argS, mAs, mA, mA0, mB0, lowD, allNotIn, impN, impB, impT, packS, delL, Op.operands, List.getD, List.getElem?_cons_zero, List.getElem?_cons_succ, Option.getD_some, List.set, List.map, List.toList_toArray, List.getElem?_toArray, Option.bind_some, and_self, implies_true, if_true, if_false, eq_self, ne_eq, not_false_eq_true, reduceCtorEq, Nat.zero_add, Nat.le_refl, Bool.cond_true, List.nil_append, List.length_cons, List.length_nil, Nat.reduceAdd, Nat.reduceSub, Nat.reduceEqDiff, Nat.reduceLT, Nat.succ_ne_self, beq_self_eq_true, Bool.and_self]

end Go.Proofs.YtgipkhjpedpedaaDoor.Abs
