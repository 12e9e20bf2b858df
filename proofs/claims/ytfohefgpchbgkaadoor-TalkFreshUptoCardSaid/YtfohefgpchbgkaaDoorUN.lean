/- Copies; what lives answers. -/
import Derived.Test.YtfohefgpchbgkaaDoorUM
set_option linter.unusedVariables false
set_option linter.unusedSimpArgs false
set_option maxRecDepth 100000
namespace Go.Proofs.YtfohefgpchbgkaaDoor.Abs
open Go Go.Proofs

theorem CopyLocks_meets (l : List LockR) (hl : l.length ≤ 1048576) : Meets Tryd.prog 37 [.v (.view false (.locks l))] [.own (.locks l)] := by
  refine meets_go TO 100 Tryd.func37 rfl (fun X => ?_)
  simp only [Tryd.ntmps37, Tryd.results37, pureOpC, unc, fitT, svs, blks, AV.sv, absRun, absOps, absOp, evO, constSV, ungd, gdP, gdPs, setD, T_ty, T_size, T_bytes, tTy, tSize, tBytes, pureOp, memOp, notIn, dataOf, isSrc, blkAt, fnd, upd, Data.len, Data.esz, Lim.add, retP, resV, retQ, rAs, rA, ownN, nodup, bares, bare, bareD, Op.operands, Call.operands, List.getD, List.getElem?_cons_zero, List.getElem?_cons_succ, Option.getD_some, List.set, List.map, List.toList_toArray, true_and, and_true, and_self, if_true, eq_self, Nat.zero_add, List.append_toArray, List.cons_append, List.nil_append, List.length_cons, List.length_nil, Nat.reduceAdd, Nat.reduceSub, List.replicate_succ, List.replicate_zero, Bool.and_self]
  exact ⟨by omega, by omega⟩

set_option maxHeartbeats 4000000 in
theorem CopyAsk_meets (a : Ask) (hs : a.small 1048576) : Meets Tryd.prog 11 [.v (a.sv false)] [.v (a.sv true)] := by
  have h1 := hs.dialects
  have h2 := hs.data
  have h3 := hs.locks
  have hC := copy8_meets a.data (by omega)
  have hL := CopyLocks_meets a.locks h3
  refine meets_go TO 100 Tryd.func11 rfl (fun X => ?_)
  simp only [Tryd.ntmps11, Tryd.results11, Ask.sv, Ask.cells, pureOpC, unc, fitT, svs, blks, AV.sv, absRun, absOps, absOp, evO, constSV, ungd, gdP, gdPs, setD, T_ty, T_size, T_bytes, T_zero, tTy, tSize, tBytes, tZero, fieldOf, faddrV, pureOp, memOp, loadV, newV, notIn, dataOf, isSrc, scal, cellsOf, zI, cellAt, setC, blkAt, fnd, upd, Data.len, Data.esz, Lim.add, Op.operands, Call.operands, List.getD, List.getElem?_cons_zero, List.getElem?_cons_succ, Option.getD_some, List.set, List.toList_toArray, Option.map_some, Option.map_none, Option.isSome, true_and, and_self, if_true, if_false, ite_self, eq_self, ne_eq, not_false_eq_true, reduceCtorEq, Nat.zero_add, Nat.add_zero, List.append_toArray, List.cons_append, List.nil_append, List.length_cons, List.length_nil, Nat.reduceAdd, Nat.reduceSub, Nat.reduceEqDiff, Nat.reduceLT, Nat.succ_ne_self, List.replicate_succ, List.replicate_zero]
  refine ⟨⟨by omega, by omega⟩, ?_⟩
  refine call_go TO 100 hC Tryd.func35 (by decide +kernel) rfl rfl rfl ?_
  simp only [pureOpC, unc, absRun, absOps, absOp, evO, ungd, gdP, gdPs, setD, T_ty, T_size, tTy, tSize, fieldOf, faddrV, pureOp, memOp, loadV, notIn, scal, cellAt, setC, blkAt, fnd, upd, Data.len, Data.esz, ownN, nodup, bares, bare, bareD, guardIs, callP, callS, argS, mAs, mA, mA0, mB0, lowD, allNotIn, nm, impN, impB, impT, packS, delL, Op.operands, List.getD, List.getElem?_cons_zero, List.getElem?_cons_succ, Option.getD_some, List.set, List.map, List.toList_toArray, Option.map_some, Option.map_none, Option.isSome, true_and, and_self, if_true, if_false, eq_self, ne_eq, not_false_eq_true, reduceCtorEq, Nat.zero_add, Nat.add_zero, List.append_nil, Nat.reduceAdd, Nat.reduceSub, Nat.reduceMul, Nat.reduceEqDiff, Nat.reduceLT, Nat.succ_ne_self, Bool.and_self]
  refine call_go TO 0 hL Tryd.func37 (by decide +kernel) rfl rfl rfl ?_
  simp only [pureOpC, unc, absRun, absOps, absOp, evO, ungd, gdP, gdPs, setD, T_ty, T_size, tTy, tSize, fieldOf, faddrV, pureOp, memOp, notIn, scal, setC, blkAt, fnd, upd, Data.len, Data.esz, ownN, nodup, bares, bare, bareD, guardIs, callP, callS, argS, mAs, mA, mA0, mB0, lowD, allNotIn, nm, impN, impB, impT, packS, delL, Op.operands, List.getD, List.getElem?_cons_zero, List.getElem?_cons_succ, Option.getD_some, List.set, List.map, List.toList_toArray, Option.map_some, Option.map_none, Option.isSome, true_and, and_self, if_true, if_false, eq_self, ne_eq, not_false_eq_true, reduceCtorEq, Nat.zero_add, Nat.add_zero, List.append_nil, Nat.reduceAdd, Nat.reduceSub, Nat.reduceMul, Nat.reduceEqDiff, Nat.reduceLT, Nat.succ_ne_self, Bool.and_self]
  refine freezeC_go 1 0 7 (.ints .u16 a.dialects) ⟨⟨rfl, rfl, by simp [fnd], by decide, by simp [Data.len]⟩, ?_⟩
  simp only [List.drop_zero, upd, del, Data.sub, List.set, if_true, if_false, eq_self, List.take_length, Nat.reduceEqDiff]
  refine freezeC_go 1 15 10176 (.ints .u8 a.data) ⟨⟨rfl, rfl, by simp [fnd], by decide, by simp [Data.len]⟩, ?_⟩
  simp only [List.drop_zero, upd, del, Data.sub, List.set, if_true, if_false, eq_self, List.take_length, Nat.reduceEqDiff]
  refine freezeC_go 1 16 10240 (.locks a.locks) ⟨⟨rfl, rfl, by simp [fnd], by decide, by simp [Data.len]⟩, ?_⟩
  refine absRun_ok TO 100 _ _ ?_
  simp only [List.drop_zero, pureOpC, cntC, unc, absRun, absOps, absOp, evO, ungd, gdP, gdPs, setD, T_ty, T_size, tTy, tSize, pureOp, memOp, loadV, scal, okC, takeC, dropC, blkAt, fnd, upd, del, Data.sub, retP, resV, retQ, rAs, rA, rA0, rAl, ownN, nodup, bares, bare, bare0, bareL, bareD, Op.operands, List.getD, List.getElem?_cons_zero, List.getElem?_cons_succ, Option.getD_some, List.set, List.map, List.toList_toArray, Option.bind_some, Option.map_some, and_self, implies_true, if_true, if_false, ite_self, eq_self, ne_eq, not_false_eq_true, reduceCtorEq, List.take_length, Nat.zero_add, Nat.add_zero, List.nil_append, List.append_nil, Nat.reduceAdd, Nat.reduceSub, Nat.reduceEqDiff, Nat.reduceLeDiff, Nat.succ_ne_self, Bool.and_self]

set_option maxHeartbeats 4000000 in
theorem CopySay_meets (s : Say) (hs : s.small 1048576) : Meets Tryd.prog 32 [.v (s.sv false)] [.v (s.sv true)] := by
  have h1 := hs.data
  have h2 := hs.entries
  have hC := copy8_meets s.data (by omega)
  refine meets_go TO 100 Tryd.func32 rfl (fun X => ?_)
  simp only [Tryd.ntmps32, Tryd.results32, Say.sv, Say.cells, pureOpC, unc, svs, blks, AV.sv, absRun, absOps, absOp, evO, ungd, gdP, gdPs, setD, T_ty, T_size, T_zero, tTy, tSize, tZero, fieldOf, faddrV, pureOp, memOp, loadV, newV, notIn, cellsOf, cellAt, blkAt, fnd, upd, Lim.add, Op.operands, List.getD, List.getElem?_cons_zero, List.getElem?_cons_succ, Option.getD_some, List.set, List.toList_toArray, true_and, and_self, if_true, if_false, eq_self, ne_eq, not_false_eq_true, reduceCtorEq, Nat.zero_add, List.cons_append, List.nil_append, List.length_cons, List.length_nil, Nat.reduceAdd, Nat.reduceSub, Nat.reduceEqDiff, Nat.reduceLT, Nat.succ_ne_self, List.replicate_succ, List.replicate_zero]
  refine call_go TO 2 hC Tryd.func35 (by decide +kernel) rfl rfl rfl ?_
  simp only [pureOpC, unc, absRun, absOps, absOp, evO, constSV, ungd, gdP, gdPs, setD, T_ty, T_size, tTy, tSize, fieldOf, faddrV, pureOp, memOp, notIn, scal, setC, blkAt, fnd, upd, Data.len, Data.esz, ownN, nodup, bares, bare, bareD, guardIs, callP, callS, argS, mAs, mA, mA0, mB0, lowD, allNotIn, nm, impN, impB, impT, packS, delL, Op.operands, List.getD, List.getElem?_cons_zero, List.getElem?_cons_succ, Option.getD_some, List.set, List.map, List.toList_toArray, Option.map_some, Option.map_none, Option.isSome, true_and, and_self, if_true, if_false, eq_self, ne_eq, not_false_eq_true, reduceCtorEq, Nat.zero_add, Nat.add_zero, List.append_nil, Nat.reduceAdd, Nat.reduceSub, Nat.reduceMul, Nat.reduceEqDiff, Nat.reduceLT, Nat.succ_ne_self, Bool.and_self]
  refine freezeC_go 1 8 10096 (.ints .u8 s.data) ⟨⟨rfl, rfl, by simp [fnd], by decide, by simp [Data.len]⟩, ?_⟩
  refine absRun_ok TO 2 _ _ ?_
  simp only [List.drop_zero, pureOpC, unc, fitT, absRun, absOps, absOp, evO, ungd, gdP, gdPs, setD, T_ty, T_size, T_bytes, tTy, tSize, tBytes, fieldOf, faddrV, pureOp, memOp, loadV, notIn, dataOf, isSrc, scal, cellAt, setC, blkAt, fnd, upd, del, Data.len, Data.esz, Data.sub, Lim.add, Op.operands, Call.operands, List.getD, List.getElem?_cons_zero, List.getElem?_cons_succ, Option.getD_some, List.set, List.toList_toArray, Option.map_some, Option.map_none, Option.isSome, true_and, and_self, if_true, if_false, eq_self, ne_eq, not_false_eq_true, reduceCtorEq, List.take_length, Nat.zero_add, List.append_toArray, List.nil_append, Nat.reduceAdd, Nat.reduceSub, Nat.reduceEqDiff, Nat.reduceLT, Nat.succ_ne_self]
  refine ⟨⟨by omega, by omega⟩, ?_⟩
  refine freezeC_go 1 10 11 (.ents s.entries) ⟨⟨rfl, rfl, by simp [fnd], by decide, by simp [Data.len]⟩, ?_⟩
  refine absRun_ok TO 100 _ _ ?_
  simp only [List.drop_zero, pureOpC, cntC, unc, absRun, absOps, absOp, evO, ungd, gdP, gdPs, setD, T_ty, T_size, tTy, tSize, pureOp, memOp, loadV, scal, okC, takeC, dropC, blkAt, fnd, upd, del, Data.sub, retP, resV, retQ, rAs, rA, rA0, rAl, ownN, nodup, bares, bare, bare0, bareL, bareD, Op.operands, List.getD, List.getElem?_cons_zero, List.getElem?_cons_succ, Option.getD_some, List.set, List.map, List.toList_toArray, Option.bind_some, Option.map_some, and_self, implies_true, if_true, if_false, ite_self, eq_self, ne_eq, not_false_eq_true, reduceCtorEq, List.take_length, Nat.zero_add, Nat.add_zero, List.nil_append, List.append_nil, Nat.reduceAdd, Nat.reduceSub, Nat.reduceEqDiff, Nat.reduceLeDiff, Nat.succ_ne_self, Bool.and_self]

def shA : ByteArray := ⟨#[97]⟩
def askS : Ask := { askZ with share := shA }

theorem askZ_ok : askZ.ok := by
  refine ⟨by simp [askZ], ⟨rfl, by unfold Bytes askZ; decide⟩, ⟨rfl, by unfold Bytes askZ; decide⟩, ?_, ?_, ?_, ?_, ?_, ?_, ?_, ?_, ?_, by unfold Bytes askZ; decide, by simp [askZ], ?_, ?_, ?_⟩ <;> (unfold askZ; first | unfold U32 | unfold U8 | unfold U64 | unfold U16) <;> simp
theorem askZ_small : askZ.small 1048576 := by
  refine ⟨?_, ?_, ?_, ?_, ?_, ?_, ?_, ?_⟩ <;> simp [askZ]

set_option maxHeartbeats 4000000 in
theorem lives8_meets : Meets Tryd.prog 16 [] [.v (.bool true)] := by
  have h1 := PutAsk_meets 3 askS (by decide) { askZ_ok with } { askZ_small with share := by decide }
  rw [show paE 3 askS = 0 by decide +kernel, show paL 3 askS = [2, 0, 97, 0] by decide +kernel] at h1
  have h2 := GetAsk_meets 13 [0, 0, 0, 0, 0] (by decide) (by decide) (by unfold Bytes; decide)
  have e2 : gaE 13 [0, 0, 0, 0, 0] = 5 := by decide +kernel
  rw [e2, show gaA 13 [0, 0, 0, 0, 0] = askZ by unfold gaA; rw [if_pos (by rw [e2]; decide)]] at h2
  have h3 := PutAsk_meets 8 askZ (by decide) askZ_ok askZ_small
  rw [show paE 8 askZ = 2 by decide +kernel, show paL 8 askZ = [] by decide +kernel] at h3
  have h4 := GetSay_meets 0 [0, 0, 0, 0, 0, 0, 0, 0, 0, 0, 0, 0, 0, 0, 0, 0] (by decide) (by decide) (by unfold Bytes; decide)
  have e4 : gsE 0 [0, 0, 0, 0, 0, 0, 0, 0, 0, 0, 0, 0, 0, 0, 0, 0] = 0 := by decide +kernel
  have e5 : (gsS 0 [0, 0, 0, 0, 0, 0, 0, 0, 0, 0, 0, 0, 0, 0, 0, 0]).size = 0 := by decide +kernel
  rw [e4] at h4
  have hS := Same_meets [2, 0, 97, 0] [2, 0, 97, 0] (by decide)
  rw [show decide (([2, 0, 97, 0] : List Int) = [2, 0, 97, 0]) = true by decide] at hS
  generalize gsS 0 [0, 0, 0, 0, 0, 0, 0, 0, 0, 0, 0, 0, 0, 0, 0, 0] = S at *
  simp only [Ask.sv, Ask.cells, askS, askZ, shA] at h1 h2 h3
  simp only [Say.sv, Say.cells, e5] at h4
  refine meets_go TO 100 Tryd.func16 rfl (fun X => ?_)
  simp only [Tryd.ntmps16, Tryd.results16, pureOpC, buildV, fillC, cntC, unc, svs, blks, absRun, absOps, absOp, evO, constSV, ungd, gdP, gdPs, setD, T_ty, T_size, T_zero, tTy, tSize, tZero, fieldOf, pureOp, memOp, scal, cellsOf, takeC, dropC, Op.operands, List.getElem?_cons_zero, List.getElem?_cons_succ, List.set, List.map, List.all, List.toList_toArray, Option.map_some, true_and, and_self, if_true, eq_self, ne_eq, not_false_eq_true, reduceCtorEq, Nat.add_zero, List.cons_append, List.nil_append, List.length_nil, Nat.reduceAdd, Nat.reduceSub, Nat.reduceLeDiff, List.replicate_succ, List.replicate_zero, Bool.and_self, Nat.reduceBNe]
  refine call_go TO 100 h1 Tryd.func12 (by decide +kernel) rfl rfl rfl ?_
  simp only [pureOpC, unc, absRun, absOps, absOp, evO, constSV, ungd, gdP, gdPs, setD, T_ty, T_size, tTy, tSize, extractV, pureOp, memOp, newV, notIn, elemsOf, intsOf, upd, Data.len, Data.esz, Lim.add, ownN, nodup, bares, bare, bare0, bareD, guardIs, callP, callS, argS, mAs, mA, mA0, mB0, mAl, allNotIn, nm, impN, impB, impT, packS, delL, Op.operands, List.getD, List.getElem?_cons_zero, List.getElem?_cons_succ, Option.getD_some, List.set, List.map, List.toList_toArray, Option.map_some, true_and, and_self, if_true, if_false, eq_self, Nat.zero_add, Nat.add_zero, List.append_nil, List.length_cons, List.length_nil, Nat.reduceAdd, Nat.reduceMul, Nat.reduceEqDiff, Nat.reduceLeDiff, List.replicate_succ, List.replicate_zero, Bool.and_self]
  refine call_go TO 100 h2 Tryd.func18 (by decide +kernel) rfl rfl rfl ?_
  simp only [List.take_succ_cons, List.take_zero, List.drop_zero, pureOpC, buildV, fillC, cntC, unc, absRun, absOps, absOp, evO, constSV, ungd, gdP, gdPs, setD, T_ty, T_size, T_zero, tTy, tSize, tZero, extractV, pureOp, memOp, newV, notIn, scal, okC, takeC, dropC, blkAt, fnd, upd, Data.len, Data.esz, Data.sub, Lim.add, ownN, nodup, bares, bare, bare0, bareL, bareD, guardIs, callP, callS, argS, mAs, mA, mA0, mB0, lowD, allNotIn, impN, impB, impT, packS, delL, Op.operands, List.getD, List.getElem?_cons_zero, List.getElem?_cons_succ, Option.getD_some, List.set, List.map, List.all, List.toList_toArray, true_and, and_self, if_true, if_false, eq_self, ne_eq, not_false_eq_true, reduceCtorEq, Nat.zero_add, Nat.add_zero, Nat.le_refl, List.nil_append, List.append_nil, List.length_cons, List.length_nil, Nat.reduceAdd, Nat.reduceSub, Nat.reduceEqDiff, Nat.reduceLeDiff, List.replicate_succ, List.replicate_zero, Bool.and_self, Nat.reduceBNe]
  refine call_go TO 100 h3 Tryd.func12 (by decide +kernel) rfl rfl rfl ?_
  simp only [pureOpC, unc, absRun, absOps, absOp, evO, constSV, ungd, gdP, gdPs, setD, T_ty, T_size, T_bytes, T_zero, tTy, tSize, tBytes, tZero, extractV, pureOp, memOp, newV, notIn, zI, upd, Data.len, Data.esz, Lim.add, ownN, nodup, bares, bare, bare0, bareD, guardIs, callP, callS, argS, mAs, mA, mA0, mB0, mAl, allNotIn, nm, impN, impB, impT, packS, delL, Op.operands, List.getD, List.getElem?_cons_zero, List.getElem?_cons_succ, Option.getD_some, List.set, List.map, List.toList_toArray, true_and, and_self, if_false, eq_self, Nat.zero_add, Nat.add_zero, Int.cast_ofNat_Int, Int.reduceToNat, List.append_nil, List.length_nil, Nat.reduceAdd, Nat.reduceMul, Nat.reduceEqDiff, List.replicate_succ, List.replicate_zero, Bool.and_self, Int.reduceLE, Int.reduceMul]
  refine call_go TO 100 h4 Tryd.func20 (by decide +kernel) rfl rfl rfl ?_
  simp only [List.take_succ_cons, List.take_zero, List.drop_zero, pureOpC, cntC, unc, absRun, absOps, absOp, evO, constSV, ungd, gdP, gdPs, setD, binI, binV, ptrE, T_ty, T_size, T_zero, tTy, tSize, tZero, extractV, pureOp, guardOf, memOp, newV, notIn, scal, okC, takeC, dropC, blkAt, fnd, upd, Data.len, Data.esz, Data.sub, Lim.add, ownN, nodup, bares, bare, bare0, bareL, bareD, guardIs, callP, callS, argS, mAs, mA, mA0, mB0, lowD, allNotIn, impN, impB, impT, packS, delL, Op.operands, List.getD, List.getElem?_cons_zero, List.getElem?_cons_succ, Option.getD_some, List.set, List.map, List.toList_toArray, List.getElem?_toArray, Option.bind_some, true_and, and_self, implies_true, if_true, if_false, eq_self, ne_eq, not_false_eq_true, reduceCtorEq, Nat.zero_add, Nat.add_zero, Nat.le_refl, List.nil_append, List.append_nil, List.length_cons, List.length_nil, Nat.reduceAdd, Nat.reduceSub, Nat.reduceEqDiff, Nat.reduceLeDiff, beq_self_eq_true, List.replicate_succ, List.replicate_zero, Bool.and_self]
  refine guard_go TO 100 ?_
  simp only [pureOpC, unc, absOps, absOp, evO, constSV, ungd, gdP, gdPs, T_ty, T_size, tTy, tSize, pureOp, guardOf, memOp, newV, notIn, elemsOf, intsOf, upd, Lim.add, guardIs, Op.operands, List.getD, List.getElem?_cons_zero, List.getElem?_cons_succ, Option.getD_some, List.set, List.map, List.toList_toArray, List.getElem?_toArray, Option.bind_some, Option.map_some, true_and, and_self, if_true, if_false, eq_self, Nat.zero_add, List.length_cons, List.length_nil, Nat.reduceAdd, Nat.reduceEqDiff, Nat.reduceLeDiff]
  refine call_go TO 100 hS Tryd.func14 (by decide +kernel) rfl rfl rfl ?_
  simp only [List.take_succ_cons, List.take_zero, List.drop_zero, pureOpC, unc, absRun, absOps, absOp, evO, constSV, ungd, gdP, gdPs, setD, binI, binV, ptrE, T_ty, T_size, tTy, tSize, fieldOf, faddrV, pickV, pureOp, guardOf, loadV, notIn, cellAt, blkAt, fnd, Data.len, Data.esz, Data.sub, retP, resV, retQ, rAs, rA, rA0, ownN, nodup, bares, bare, bare0, guardIs, callP, callS, argS, mAs, mA, mA0, mB0, lowD, allNotIn, impN, impB, impT, packS, delL, Op.operands, List.getD, List.getElem?_cons_zero, List.getElem?_cons_succ, Option.getD_some, List.set, List.map, List.toList_toArray, List.getElem?_toArray, Option.bind_some, and_self, implies_true, if_true, if_false, eq_self, ne_eq, not_false_eq_true, Nat.zero_add, Nat.le_refl, Bool.cond_true, List.nil_append, List.length_cons, List.length_nil, Nat.reduceAdd, Nat.reduceSub, Nat.reduceEqDiff, Nat.reduceLT, Nat.succ_ne_self, beq_self_eq_true, Bool.and_self]

end Go.Proofs.YtfohefgpchbgkaaDoor.Abs
