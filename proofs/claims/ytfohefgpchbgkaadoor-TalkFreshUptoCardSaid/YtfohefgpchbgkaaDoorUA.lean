/- Readers: parts. -/
import Derived.Test.YtfohefgpchbgkaaDoorU9
set_option linter.unusedVariables false
set_option linter.unusedSimpArgs false
set_option maxRecDepth 100000
namespace Go.Proofs.YtfohefgpchbgkaaDoor.Abs
open Go Go.Proofs

theorem rP_len (b : List Int) (k : Nat) (r : Nat × Int) : (rP b k r).length ≤ k := by
  unfold rP
  split
  · simp
  · split
    · simp
    · rw [List.length_take]; omega

set_option maxHeartbeats 1000000 in
theorem tp_inC {X : Ctx} {b0 : List (Nat × Nat × Blk)} {n g c0 : Nat} {b : List Int} {r : Nat × Int} {k : Nat} {tail : List SV} (hn : fnd b0 n = some (g, rdC b r tail)) (hN : fnd b0 90352 = none)
    (hb : b.length ≤ 140737488351232) (hr : r.1 ≤ b.length) (hk : k ≤ 1000) :
    InC Tryd.prog X 47 [.ptr n g 0, .int .i64 k] b0 c0 (.view true (.ints .u8 (rP b k r))) (upd b0 n g (rdC b (rN b k r) tail)) (c0 + 12) := by
  refine inC_go TO 5000 Tryd.func47 rfl (absRun_ok TO 100 _ _ ?_)
  simp only [Tryd.ntmps47, Tryd.results47, hn, rdC, retC, rI, pureOpC, unc, absRun, absOps, absOp, evO, constSV, ungd, gdP, gdPs, setD, binI, binV, ptrE, T_ty, T_size, tTy, tSize, fieldOf, faddrV, pureOp, loadV, cellAt, blkAt, Data.len, resV, flatV, flat2, Op.operands, List.getD, List.getElem?_cons_zero, List.getElem?_cons_succ, Option.getD_some, List.set, List.map, List.toList_toArray, true_and, and_true, and_self, if_true, if_false, eq_self, ne_eq, not_false_eq_true, reduceCtorEq, Nat.zero_add, List.cons_append, List.nil_append, List.length_cons, List.length_nil, Nat.reduceAdd, Nat.reduceSub, Nat.succ_ne_self, List.replicate_succ, List.replicate_zero]
  by_cases h0 : r.2 = 0
  rotate_left
  · have e1 : rN b k r = r := by unfold rN; rw [if_pos h0]
    have e2 : rP b k r = [] := by unfold rP; rw [if_pos h0]
    rw [if_pos (by simpa using h0), e1, e2]
    exact ⟨SubB_same hn, by omega, rfl⟩
  rw [if_neg (by simpa using h0)]
  have hne : n ≠ 90352 := by rintro rfl; rw [hN] at hn; cases hn
  have hP := Part_meets b r.1 k hb
  refine draw_go TO 15 100 mixed_ok (by decide +kernel) ?_
  simp only [hn, rdC, retC, rI, List.take_succ_cons, List.take_zero, List.drop_succ_cons, List.drop_zero, pureOpC, gloadV, GT, unc, isEff, absD, pureStep, absRun, absOps, absOp, evO, constSV, ungd, gdP, gdPs, setD, binI, binV, ptrE, binS, T_ty, T_size, tTy, tSize, fieldOf, faddrV, pureOp, memOp, loadV, scal, isB, isA, cellAt, blkAt, elemV, Data.len, Data.esz, resV, flatV, flat2, Op.operands, List.getD, List.getElem?_cons_zero, List.getElem?_cons_succ, Option.getD_some, List.set, List.map, List.toList_toArray, Option.isSome, true_and, and_true, and_false, and_self, implies_true, imp_self, if_true, if_false, eq_self, ne_eq, not_false_eq_true, forall_const, reduceCtorEq, Nat.zero_add, Nat.add_zero, Nat.reduceSub, Nat.succ_ne_self]
  refine callDS_go TO (fun s' h' => h') hP Tryd.func59 (by decide +kernel) rfl rfl rfl (SubB_new hN) ?_
  simp only [pureOpC, unc, isEff, absD, pureStep, evO, ungd, gdP, gdPs, setD, extractV, pureOp, notIn, Data.len, Data.esz, ownN, nodup, bares, bare, bare0, bareD, guardIs, callP, callS, argS, mAs, mA, mA0, mB0, lowD, allNotIn, nm, impN, impB, impT, packS, delL, Op.operands, List.getD, List.getElem?_cons_zero, List.getElem?_cons_succ, Option.getD_some, List.set, List.map, List.toList_toArray, true_and, and_self, eq_self, Nat.add_zero, List.append_nil, Nat.reduceAdd, Nat.reduceMul, Bool.and_self]
  refine freeze_ops 5 90352 ⟨⟨by simp, rfl, fnd_same _ _ _ _, by simp⟩, fun i hi => ?_⟩
  refine HRun.dropB (b := b0) (SubB_del_new hN) (HOps_go TO 100 ?_ i hi)
  simp only [hn, rdC, retC, rI, List.drop_zero, pureOpC, unc, absRun, absOps, absOp, evO, constSV, ungd, gdP, gdPs, setD, binI, binV, ptrE, T_ty, T_size, tTy, tSize, fieldOf, faddrV, pureOp, memOp, loadV, scal, cellAt, setC, blkAt, Data.len, resV, flatV, flat2, Op.operands, List.getD, List.getElem?_cons_zero, List.getElem?_cons_succ, Option.getD_some, List.set, List.map, List.toList_toArray, Option.map_some, true_and, and_true, and_self, if_true, if_false, eq_self, ne_eq, not_false_eq_true, reduceCtorEq, List.take_length, Nat.zero_add, Nat.reduceSub, Nat.succ_ne_self]
  by_cases h1 : b.length < r.1 + k
  · have e1 : rN b k r = (r.1, 4) := by unfold rN; rw [if_neg (by simpa using h0), if_pos h1]
    have e2 : rP b k r = [] := by unfold rP; rw [if_neg (by simpa using h0), if_pos h1]
    have e3 : cutE b.length r.1 k = 4 := by unfold cutE; rw [if_neg (by omega), if_pos (by omega)]
    simp only [e1, e2, e3, and_true, if_true, eq_self, Int.reduceBNe, List.length_nil]
    exact ⟨SubB_refl, by omega⟩
  · have e1 : rN b k r = (r.1 + k, 0) := by unfold rN; rw [if_neg (by simpa using h0), if_neg h1]
    have e2 : rP b k r = (b.drop r.1).take k := by unfold rP; rw [if_neg (by simpa using h0), if_neg h1]
    have e3 : cutE b.length r.1 k = 0 := cutE_ok (by omega) (by omega) (by omega)
    have e4 : cutL b r.1 k = (b.drop r.1).take k := by rw [cutL_ok (by omega) (by omega) (by omega)]; simp
    have wa : IntKind.i64.wrap ((r.1 : Int) + k) = ((r.1 + k : Nat) : Int) := by rw [w64 (by omega) (by omega)]; omega
    simp only [e1, e2, e3, e4, wa, h0, and_true, if_false, eq_self, Bool.false_eq_true, Int.reduceBNe]
    exact ⟨SubB_refl, by omega⟩

set_option maxHeartbeats 1000000 in
theorem rp_inC {X : Ctx} {b0 : List (Nat × Nat × Blk)} {n g c0 : Nat} {b : List Int} {r : Nat × Int} {k : Nat} {tail : List SV} (hn : fnd b0 n = some (g, rdC b r tail)) (hN : fnd b0 90656 = none)
    (hb : b.length ≤ 140737488351232) (hr : r.1 ≤ b.length) (hk : k ≤ 1000000000) :
    InC Tryd.prog X 53 [.ptr n g 0, .int .i64 k] b0 c0 (.view true (.ints .u8 (rP b k r))) (upd b0 n g (rdC b (rN b k r) tail)) (c0 + 12) := by
  refine inC_go TO 5000 Tryd.func53 rfl (absRun_ok TO 100 _ _ ?_)
  simp only [Tryd.ntmps53, Tryd.results53, hn, rdC, retC, rI, pureOpC, unc, absRun, absOps, absOp, evO, constSV, ungd, gdP, gdPs, setD, binI, binV, ptrE, T_ty, T_size, tTy, tSize, fieldOf, faddrV, pureOp, loadV, cellAt, blkAt, Data.len, resV, flatV, flat2, Op.operands, List.getD, List.getElem?_cons_zero, List.getElem?_cons_succ, Option.getD_some, List.set, List.map, List.toList_toArray, true_and, and_true, and_self, if_true, if_false, eq_self, ne_eq, not_false_eq_true, reduceCtorEq, Nat.zero_add, List.cons_append, List.nil_append, List.length_cons, List.length_nil, Nat.reduceAdd, Nat.reduceSub, Nat.succ_ne_self, List.replicate_succ, List.replicate_zero]
  by_cases h0 : r.2 = 0
  rotate_left
  · have e1 : rN b k r = r := by unfold rN; rw [if_pos h0]
    have e2 : rP b k r = [] := by unfold rP; rw [if_pos h0]
    rw [if_pos (by simpa using h0), e1, e2]
    exact ⟨SubB_same hn, by omega, rfl⟩
  rw [if_neg (by simpa using h0)]
  have wd : IntKind.i64.wrap ((b.length : Int) - r.1) = (b.length : Int) - r.1 := w64 (by omega) (by omega)
  refine draw_go TO 12 100 mixed_ok (by decide +kernel) ?_
  simp only [hn, rdC, retC, rI, wd, List.take_succ_cons, List.take_zero, List.drop_succ_cons, List.drop_zero, pureOpC, unc, isEff, absD, pureStep, absRun, absOps, absOp, evO, constSV, ungd, gdP, gdPs, setD, binI, binV, ptrE, T_ty, T_size, tTy, tSize, fieldOf, faddrV, pureOp, memOp, lenV, loadV, scal, cellAt, setC, blkAt, Data.len, resV, flatV, flat2, Op.operands, Call.operands, List.getD, List.getElem?_cons_zero, List.getElem?_cons_succ, Option.getD_some, List.set, List.map, List.toList_toArray, Option.map_some, true_and, and_true, and_self, if_true, if_false, eq_self, ne_eq, not_false_eq_true, forall_const, reduceCtorEq, Nat.zero_add, Nat.add_zero, List.append_toArray, List.nil_append, Nat.reduceSub, Nat.succ_ne_self]
  by_cases h1 : b.length < r.1 + k
  · have e1 : rN b k r = (r.1, 4) := by unfold rN; rw [if_neg (by simpa using h0), if_pos h1]
    have e2 : rP b k r = [] := by unfold rP; rw [if_neg (by simpa using h0), if_pos h1]
    rw [if_pos (decide_eq_true (by omega)), e1, e2]
    exact ⟨SubB_refl, by omega, rfl⟩
  rw [if_neg (by simp; omega)]
  have e1 : rN b k r = (r.1 + k, 0) := by unfold rN; rw [if_neg (by simpa using h0), if_neg h1]
  have e2 : rP b k r = (b.drop r.1).take k := by unfold rP; rw [if_neg (by simpa using h0), if_neg h1]
  have hne : n ≠ 90656 := by rintro rfl; rw [hN] at hn; cases hn
  have wa : IntKind.i64.wrap ((r.1 : Int) + k) = ((r.1 + k : Nat) : Int) := by rw [w64 (by omega) (by omega)]; omega
  have tk : (((r.1 + k : Nat) : Int) - (r.1 : Int)).toNat = k := by omega
  have hP := copy8_meets ((b.drop r.1).take k) (by rw [List.length_take, List.length_drop]; omega)
  refine draw_go TO 17 100 mixed_ok (by decide +kernel) ?_
  simp only [hn, rdC, retC, rI, wa, tk, List.take_succ_cons, List.take_zero, List.drop_succ_cons, List.drop_zero, pureOpC, gloadV, GT, unc, isEff, absD, pureStep, absRun, absOps, absOp, evO, constSV, ungd, gdP, gdPs, setD, binI, binV, ptrE, binS, T_ty, T_size, tTy, tSize, fieldOf, faddrV, lowI, highI, maxP, sliceV, pureOp, memOp, loadV, scal, cellAt, blkAt, elemV, Data.len, Data.esz, Data.sub, resV, flatV, flat2, Op.operands, List.getD, List.getElem?_cons_zero, List.getElem?_cons_succ, Option.getD_some, List.set, List.map, List.toList_toArray, Option.map_some, Option.map_none, Option.isSome, true_and, and_true, and_self, if_true, if_false, eq_self, ne_eq, not_false_eq_true, forall_const, Nat.zero_add, Nat.add_zero, Int.toNat_natCast, Option.toArray_some, Option.toArray_none, List.append_toArray, List.cons_append, List.nil_append, List.append_nil, Nat.reduceSub, Nat.succ_ne_self]
  refine ⟨⟨by omega, by omega, by omega⟩, ?_⟩
  refine callDS_go TO (fun s' h' => h') hP Tryd.func35 (by decide +kernel) rfl rfl rfl (SubB_new hN) ?_
  simp only [pureOpC, unc, isEff, absD, pureStep, evO, ungd, gdP, gdPs, setD, notIn, Data.len, Data.esz, ownN, nodup, bares, bare, bareD, guardIs, callP, callS, argS, mAs, mA, mA0, mB0, lowD, allNotIn, nm, impN, impB, impT, packS, delL, Op.operands, List.getD, List.getElem?_cons_zero, List.getElem?_cons_succ, Option.getD_some, List.set, List.map, List.toList_toArray, true_and, and_self, eq_self, Nat.add_zero, List.append_nil, Nat.reduceAdd, Nat.reduceMul, Bool.and_self]
  refine freeze_ops 5 90656 ⟨⟨by simp, rfl, fnd_same _ _ _ _, by simp⟩, fun i hi => ?_⟩
  refine HRun.dropB (b := b0) (SubB_del_new hN) (HOps_go TO 100 ?_ i hi)
  simp only [e1, e2, wa, h0, hn, rdC, retC, rI, List.drop_zero, pureOpC, unc, absRun, absOps, absOp, evO, ungd, gdP, gdPs, setD, binI, binV, ptrE, T_ty, T_size, tTy, tSize, fieldOf, faddrV, pureOp, memOp, loadV, scal, cellAt, setC, blkAt, resV, flatV, flat2, Op.operands, List.getD, List.getElem?_cons_zero, List.getElem?_cons_succ, Option.getD_some, List.set, List.map, List.toList_toArray, Option.map_some, true_and, and_true, and_self, if_true, if_false, eq_self, ne_eq, not_false_eq_true, List.take_length, Nat.zero_add, Int.reduceBNe, Nat.reduceSub, Nat.succ_ne_self]
  exact ⟨SubB_refl, by omega⟩

end Go.Proofs.YtfohefgpchbgkaaDoor.Abs
