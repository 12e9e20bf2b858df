/- Asks and Says, compared; bare ones. -/
import Derived.Test.YtfohefgpchbgkaaDoorUG
import Derived.Test.YtfohefgpchbgkaaDoorRX
set_option linter.unusedVariables false
set_option linter.unusedSimpArgs false
set_option maxRecDepth 100000
namespace Go.Proofs.YtfohefgpchbgkaaDoor.Abs
open Go Go.Proofs

def emB (s : ByteArray) : Bool := s.toList == (ByteArray.mk #[]).toList

def bareB (a : Ask) : Bool := (bitsI .or .u32 (bitsI .or .u32 (bitsI .or .u32 (bitsI .or .u32 a.access a.sharing) a.way) a.options) a.n == 0) && (bitsI .or .u8 a.level a.durable == 0) && (bitsI .or .u64 (bitsI .or .u64 a.file a.at_) a.size == 0) &&
  (a.name.toList == (ByteArray.mk #[]).toList) && ((a.data.length : Int) == 0) && ((a.locks.length : Int) == 0) && (bitsI .or .u16 a.most a.cls == 0) && (a.pattern.toList == (ByteArray.mk #[]).toList) && (a.after.toList == (ByteArray.mk #[]).toList) && !a.on

set_option maxHeartbeats 2000000 in
theorem bare_meets (a : Ask) : Meets Tryd.prog 67 [.v (a.sv false)] [.v (.bool (bareB a))] := by
  refine meets_go TO 100 Tryd.func67 rfl (fun X => ?_)
  simp only [Tryd.ntmps67, Tryd.results67, Ask.sv, Ask.cells, bareB, List.append_eq, pureOpC, unc, svs, blks, AV.sv, absRun, absOps, absOp, evO, constSV, ungd, gdP, gdPs, setD, binI, binV, ptrE, unV, binS, T_ty, T_size, tTy, tSize, fieldOf, faddrV, pickV, pureOp, guardOf, memOp, lenV, loadV, newV, notIn, cellsOf, cellAt, blkAt, fnd, upd, Data.len, Lim.add, retP, resV, retQ, rAs, rA, rA0, ownN, nodup, bares, bare, bare0, Op.operands, Call.operands, List.getD, List.getElem?_cons_zero, List.getElem?_cons_succ, Option.getD_some, List.set, List.map, List.toList_toArray, List.getElem?_toArray, Option.bind_some, true_and, and_true, and_self, implies_true, imp_self, if_true, if_false, eq_self, ne_eq, not_false_eq_true, reduceCtorEq, Nat.zero_add, Bool.cond_false_right, List.append_toArray, List.cons_append, List.nil_append, List.length_cons, List.length_nil, Nat.reduceAdd, Nat.reduceSub, Nat.reduceLT, Nat.succ_ne_self, List.replicate_succ, List.replicate_zero, Bool.and_self]

def sameB (a b : Ask) : Bool := decide (a.dialects = b.dialects) && (a.guid == b.guid) && (a.proof == b.proof) && (a.user.toList == b.user.toList) && (a.share.toList == b.share.toList) && bareB a && bareB b

set_option maxHeartbeats 2000000 in
theorem sameAsk_meets (a b : Ask) (hl : a.dialects.length ≤ 1000000000) : Meets Tryd.prog 39 [.v (a.sv false), .v (b.sv false)] [.v (.bool (sameB a b))] := by
  have hE := Equal_meets a.dialects b.dialects hl
  have hA := bare_meets a
  have hB := bare_meets b
  simp only [Ask.sv, Ask.cells] at hA hB
  refine meets_go TO 100 Tryd.func39 rfl (fun X => ?_)
  simp only [Tryd.ntmps39, Tryd.results39, Ask.sv, Ask.cells, sameB, pureOpC, unc, svs, blks, AV.sv, absRun, absOps, absOp, evO, constSV, ungd, gdP, gdPs, setD, T_ty, T_size, tTy, tSize, fieldOf, faddrV, pureOp, memOp, loadV, newV, notIn, cellsOf, cellAt, blkAt, fnd, upd, Lim.add, Op.operands, List.getD, List.getElem?_cons_zero, List.getElem?_cons_succ, Option.getD_some, List.set, List.toList_toArray, true_and, and_self, if_true, if_false, eq_self, ne_eq, not_false_eq_true, Nat.zero_add, Nat.add_zero, List.cons_append, List.nil_append, List.length_cons, List.length_nil, Nat.reduceAdd, Nat.reduceSub, Nat.reduceEqDiff, Nat.reduceLT, Nat.succ_ne_self, List.replicate_succ, List.replicate_zero]
  refine call_go TO 100 hE Tryd.func66 (by decide +kernel) rfl rfl rfl ?_
  generalize bareB a = ba at *
  generalize bareB b = bb at *
  simp only [pureOpC, unc, absOps, absOp, evO, constSV, ungd, gdP, gdPs, setD, binV, ptrE, binS, T_ty, T_size, tTy, tSize, fieldOf, faddrV, pickV, pureOp, guardOf, loadV, isI, isA, cellAt, arrAt, takeC, dropC, blkAt, fnd, ownN, nodup, bares, bare, bare0, guardIs, callP, callS, argS, mAs, mA, mA0, mB0, lowD, allNotIn, impN, impB, impT, packS, delL, Op.operands, List.getD, List.getElem?_cons_zero, List.getElem?_cons_succ, Option.getD_some, List.set, List.map, List.toList_toArray, List.getElem?_toArray, Option.bind_some, Option.map_some, true_and, and_self, implies_true, imp_self, if_true, if_false, ite_self, eq_self, ne_eq, not_false_eq_true, reduceCtorEq, Nat.zero_add, Nat.le_refl, Bool.cond_false_right, List.append_nil, Nat.reduceAdd, Nat.reduceSub, Nat.reduceEqDiff, Nat.reduceLeDiff, Nat.reduceLT, Nat.succ_ne_self, Bool.and_self]
  refine callG_go TO 100 hA Tryd.func67 (by decide +kernel) rfl rfl rfl rfl rfl rfl ?_
  simp only [pureOpC, unc, absOps, absOp, evO, constSV, ungd, gdP, gdPs, setD, T_ty, T_size, tTy, tSize, pickV, pureOp, guardOf, loadV, takeC, dropC, blkAt, fnd, ownN, nodup, bares, bare, bare0, callP, argS, mAs, mA, mA0, mB0, mAl, lowD, allNotIn, impN, Op.operands, List.getD, List.getElem?_cons_zero, List.getElem?_cons_succ, Option.getD_some, List.set, List.map, List.toList_toArray, List.getElem?_toArray, Option.bind_some, Option.map_some, true_and, and_true, and_self, implies_true, imp_self, if_true, if_false, eq_self, ne_eq, not_false_eq_true, forall_const, reduceCtorEq, Bool.cond_false_right, Nat.reduceAdd, Nat.reduceSub, Nat.reduceLeDiff, Nat.succ_ne_self, Bool.and_self]
  refine callG_go TO 100 hB Tryd.func67 (by decide +kernel) rfl rfl rfl rfl rfl rfl ?_
  simp only [pureOpC, unc, absRun, absOps, absOp, evO, constSV, ungd, gdP, gdPs, setD, pickV, retP, resV, retQ, rAs, rA, rA0, ownN, nodup, bares, bare, bare0, callP, argS, mAs, mA, mA0, mB0, mAl, lowD, allNotIn, impN, Op.operands, List.getD, List.getElem?_cons_zero, List.getElem?_cons_succ, Option.getD_some, List.set, List.map, List.toList_toArray, and_true, and_self, imp_self, eq_self, forall_const, Bool.cond_false_right, Bool.and_self]

end Go.Proofs.YtfohefgpchbgkaaDoor.Abs
