/- The sum of bytes: sha.Sum. -/
import Derived.Test.YtcbeacpikgilnaaDoorS5
set_option linter.unusedVariables false
set_option linter.unusedSimpArgs false
set_option maxRecDepth 100000
namespace Go.Proofs.YtcbeacpikgilnaaDoor.Abs
open Go Go.Proofs

/-- A state, into which so many blocks were pressed. -/
def foldE (st l : List Int) : Nat → List Int
  | 0 => st
  | k + 1 => pressL G0 (foldE st l k) ((l.drop (64 * k)).take 64)

theorem foldE_length {st l : List Int} (h : st.length = 8) : ∀ k, (foldE st l k).length = 8
  | 0 => h
  | k + 1 => pressL_length (foldE_length h k)

theorem foldE_app {st l m : List Int} : ∀ k, 64 * k ≤ l.length → foldE st (l ++ m) k = foldE st l k
  | 0, _ => rfl
  | k + 1, h => by
    simp only [foldE]
    rw [foldE_app k (by omega), List.drop_append, List.take_append, List.length_drop, show 64 - (l.length - 64 * k) = 0 by omega, List.take_zero, List.append_nil]

/-- A byte of the sum. -/
def out1 (st : List Int) (i : Nat) : Int := IntKind.u8.wrap (shrI .u32 (st[i / 4]?.getD 0) ((24 - (i % 4) * 8 : Nat) : Int))
def outL (st : List Int) : Nat → List Int
  | 0 => []
  | i + 1 => outL st i ++ [out1 st i]
theorem outL_length (st : List Int) : ∀ i, (outL st i).length = i
  | 0 => rfl
  | i + 1 => by simp [outL, outL_length st i]
theorem outL_set {st : List Int} {i : Nat} (h : i < 32) : (outL st i ++ List.replicate (32 - i) 0).set i (out1 st i) = outL st (i + 1) ++ List.replicate (32 - (i + 1)) 0 := by
  obtain ⟨r, hr⟩ : ∃ r, 32 - i = r + 1 := ⟨32 - i - 1, by omega⟩
  rw [hr, show 32 - (i + 1) = r by omega, List.replicate_succ, List.set_append_right _ _ (by rw [outL_length]; exact Nat.le_refl _), outL_length]
  simp [outL]

/-- Bytes, and what stands behind them. -/
def allL (b : List Int) : List Int := b ++ behL b.length
/-- The sum of bytes. -/
def sumL (b : List Int) : List Int := outL (foldE beginL (allL b) ((allL b).length / 64)) 32

theorem allL_mod {b : List Int} (h : b.length ≤ 140737488355000) : (allL b).length % 64 = 0 := by
  have h1 := behL_length_eq (n := b.length) (by omega)
  have h2 := (zN_le b.length).2
  simp only [allL, List.length_append]
  omega

theorem behL_bytes (n : Int) : Bytes (behL n) := by
  unfold behL; split
  · intro x hx
    simp only [List.mem_cons, List.mem_append, List.mem_replicate, List.mem_reverse] at hx
    rcases hx with rfl | ⟨_, rfl⟩ | hx
    · decide
    · decide
    · exact digs_bytes _ _ x hx
  · intro x hx; cases hx

theorem allL_bytes {b : List Int} (h : Bytes b) : Bytes (allL b) := h.app (behL_bytes _)
theorem sumL_length (b : List Int) : (sumL b).length = 32 := outL_length _ _

set_option maxHeartbeats 4000000 in
theorem Sum_meets (b : List Int) (hb : b.length ≤ 140737488355000) (hB : Bytes b) : Meets Tryd.prog 23 [.v (.view false (.ints .u8 b))] [.v (.arr .u8 32 (sumL b))] := by
  refine meets_go TO 100 Tryd.func23 rfl (fun X => ?_)
  simp only [Tryd.ntmps23, Tryd.results23, List.take_succ_cons, List.take_zero, List.drop_succ_cons, List.drop_zero, pureOpC, buildV, fillC, intsP, cntC, arrPV, fieldV, gloadV, GT, unc, capV, sliceC, fitT, isEff, absD, pureStep, subB, svs, blks, AV.sv, absRun, absOps, absOp, evO, constSV, ungd, gdP, gdPs, setD, binI, binV, unV, convV, binS, T_ty, T_size, T_bytes, T_zero, tTy, tSize, tBytes, tZero, fieldOf, faddrV, iaddrV, indexV, extractV, lowI, highI, maxP, sliceV, pickV, pureOp, guardOf, memOp, lenV, loadV, newV, notIn, dataOf, nilD, appD, isSrc, scal, cellsOf, elemsOf, intsOf, strsOf, rowsOf, rowOf, zI, isStr, isB, isI, isA, known, cellAt, arrAt, takeC, dropC, setC, setA, blkAt, fnd, upd, del, mv, elemV, one, Data.len, Data.esz, Data.sub, Lim.add, retP, resV, retQ, rAs, rA, rA0, rAl, ownN, nodup, bares, bare, bare0, bareL, bareD, inRet, flats, flatV, flat1, flat2, guardIs, callP, callS, argS, argC, mAs, mA, mA0, mB0, rowsM, mAl, lowD, allNotIn, nm, impN, impB, impT, packS, delL, Op.operands, Call.operands, List.getD, List.getElem?_cons_zero, List.getElem?_cons_succ, List.getElem?_nil, Option.getD_some, Option.getD_none, List.set, List.map, List.all, List.toList_toArray, List.getElem?_toArray, Option.bind_some, Option.bind_none, Option.map_some, Option.map_none, Option.isSome, exitTo, true_and, and_true, false_and, and_false, and_self, implies_true, reduceIte, imp_self, if_true, if_false, ite_self, eq_self, ne_eq, not_false_eq_true, not_true_eq_false, false_implies, true_implies, forall_const, reduceCtorEq, Bool.false_eq_true, List.take_length, Nat.zero_add, Nat.add_zero, Int.sub_zero, Int.zero_add, Int.add_zero, Int.toNat_natCast, Int.cast_ofNat_Int, Int.reduceToNat, Int.reduceSub, Int.reduceAdd, Nat.le_refl, Int.le_refl, Int.toNat_zero, Int.reduceBNe, Int.reduceBEq, Bool.cond_true_left, Bool.cond_false_right, Bool.cond_true, Bool.cond_false, Option.toArray_some, Option.toArray_none, List.append_toArray, List.cons_append, List.nil_append, List.append_nil, List.size_toArray, List.length_cons, List.length_nil, Nat.reduceAdd, Nat.reduceSub, Nat.reduceMul, Nat.reduceDiv, Nat.reduceEqDiff, Nat.reduceBEq, Nat.reduceLeDiff, Nat.reduceLT, Nat.succ_ne_self, Bool.not_true, Bool.not_false, beq_self_eq_true, List.replicate_succ, List.replicate_zero, Bool.and_true, Bool.true_and, Bool.and_self, Bool.and_false, Bool.false_and, Bool.or_false, Bool.or_true, Bool.false_or, Bool.true_or, SV.sl.injEq, SV.int.injEq, Data.ints.injEq, tl, Int.reduceLT, Int.reduceLE, Int.reduceGT, Int.reduceGE, Int.reduceEq, Int.reduceNe, Int.reduceMul, Int.reduceNeg, decide_true, decide_false, gt_iff_lt, ge_iff_le]
  refine call_go TO 100 Begin_meets Tryd.func17 (by decide +kernel) rfl rfl rfl ?_
  simp only [List.take_succ_cons, List.take_zero, List.drop_succ_cons, List.drop_zero, pureOpC, buildV, fillC, intsP, cntC, arrPV, fieldV, gloadV, GT, unc, capV, sliceC, fitT, isEff, absD, pureStep, subB, svs, blks, AV.sv, absRun, absOps, absOp, evO, constSV, ungd, gdP, gdPs, setD, binI, binV, unV, convV, binS, T_ty, T_size, T_bytes, T_zero, tTy, tSize, tBytes, tZero, fieldOf, faddrV, iaddrV, indexV, extractV, lowI, highI, maxP, sliceV, pickV, pureOp, guardOf, memOp, lenV, loadV, newV, notIn, dataOf, nilD, appD, isSrc, scal, cellsOf, elemsOf, intsOf, strsOf, rowsOf, rowOf, zI, isStr, isB, isI, isA, known, cellAt, arrAt, takeC, dropC, setC, setA, blkAt, fnd, upd, del, mv, elemV, one, Data.len, Data.esz, Data.sub, Lim.add, retP, resV, retQ, rAs, rA, rA0, rAl, ownN, nodup, bares, bare, bare0, bareL, bareD, inRet, flats, flatV, flat1, flat2, guardIs, callP, callS, argS, argC, mAs, mA, mA0, mB0, rowsM, mAl, lowD, allNotIn, nm, impN, impB, impT, packS, delL, Op.operands, Call.operands, List.getD, List.getElem?_cons_zero, List.getElem?_cons_succ, List.getElem?_nil, Option.getD_some, Option.getD_none, List.set, List.map, List.all, List.toList_toArray, List.getElem?_toArray, Option.bind_some, Option.bind_none, Option.map_some, Option.map_none, Option.isSome, exitTo, true_and, and_true, false_and, and_false, and_self, implies_true, reduceIte, imp_self, if_true, if_false, ite_self, eq_self, ne_eq, not_false_eq_true, not_true_eq_false, false_implies, true_implies, forall_const, reduceCtorEq, Bool.false_eq_true, List.take_length, Nat.zero_add, Nat.add_zero, Int.sub_zero, Int.zero_add, Int.add_zero, Int.toNat_natCast, Int.cast_ofNat_Int, Int.reduceToNat, Int.reduceSub, Int.reduceAdd, Nat.le_refl, Int.le_refl, Int.toNat_zero, Int.reduceBNe, Int.reduceBEq, Bool.cond_true_left, Bool.cond_false_right, Bool.cond_true, Bool.cond_false, Option.toArray_some, Option.toArray_none, List.append_toArray, List.cons_append, List.nil_append, List.append_nil, List.size_toArray, List.length_cons, List.length_nil, Nat.reduceAdd, Nat.reduceSub, Nat.reduceMul, Nat.reduceDiv, Nat.reduceEqDiff, Nat.reduceBEq, Nat.reduceLeDiff, Nat.reduceLT, Nat.succ_ne_self, Bool.not_true, Bool.not_false, beq_self_eq_true, List.replicate_succ, List.replicate_zero, Bool.and_true, Bool.true_and, Bool.and_self, Bool.and_false, Bool.false_and, Bool.or_false, Bool.or_true, Bool.false_or, Bool.true_or, SV.sl.injEq, SV.int.injEq, Data.ints.injEq, tl, Int.reduceLT, Int.reduceLE, Int.reduceGT, Int.reduceGE, Int.reduceEq, Int.reduceNe, Int.reduceMul, Int.reduceNeg, decide_true, decide_false, gt_iff_lt, ge_iff_le]
  have hmod := allL_mod hb
  have hbl : (allL b).length = b.length + (behL b.length).length := by simp [allL]
  have hb8 : beginL.length = 8 := rfl
  refine loop_up (fun x : Nat × Nat => 64 * x.1 ≤ b.length) (fun x => ⟨tl 55 0 [(0, .view false (.ints .u8 (b.drop (64 * x.1)))), (2, .ptr 2 2 0), (3, .ptr 3 3 0), (4, .int .i64 b.length)],
    [(2, 2, .cells [.arr .u8 32 (List.replicate 32 0)]), (3, 3, .cells [.arr .u32 8 (foldE beginL b x.1)])], ⟨x.2, [], 0⟩⟩) (fun x => b.length - 64 * x.1) (0, _) (Nat.zero_le _) ⟨rfl, ?_, ?_⟩ ?_
  · simp [tl, LeT]
  · intro m x hx; simpa [fnd, foldE] using hx
  · rintro ⟨k, c⟩ hk ih
    have hk : 64 * k ≤ b.length := hk
    have hdl : (b.drop (64 * k)).length = b.length - 64 * k := List.length_drop
    refine absRun_ok TO 100 _ _ ?_
    simp only [List.take_succ_cons, List.take_zero, List.drop_succ_cons, List.drop_zero, pureOpC, buildV, fillC, intsP, cntC, arrPV, fieldV, gloadV, GT, unc, capV, sliceC, fitT, isEff, absD, pureStep, subB, svs, blks, AV.sv, absRun, absOps, absOp, evO, constSV, ungd, gdP, gdPs, setD, binI, binV, unV, convV, binS, T_ty, T_size, T_bytes, T_zero, tTy, tSize, tBytes, tZero, fieldOf, faddrV, iaddrV, indexV, extractV, lowI, highI, maxP, sliceV, pickV, pureOp, guardOf, memOp, lenV, loadV, newV, notIn, dataOf, nilD, appD, isSrc, scal, cellsOf, elemsOf, intsOf, strsOf, rowsOf, rowOf, zI, isStr, isB, isI, isA, known, cellAt, arrAt, takeC, dropC, setC, setA, blkAt, fnd, upd, del, mv, elemV, one, Data.len, Data.esz, Data.sub, Lim.add, retP, resV, retQ, rAs, rA, rA0, rAl, ownN, nodup, bares, bare, bare0, bareL, bareD, inRet, flats, flatV, flat1, flat2, guardIs, callP, callS, argS, argC, mAs, mA, mA0, mB0, rowsM, mAl, lowD, allNotIn, nm, impN, impB, impT, packS, delL, Op.operands, Call.operands, List.getD, List.getElem?_cons_zero, List.getElem?_cons_succ, List.getElem?_nil, Option.getD_some, Option.getD_none, List.set, List.map, List.all, List.toList_toArray, List.getElem?_toArray, Option.bind_some, Option.bind_none, Option.map_some, Option.map_none, Option.isSome, exitTo, true_and, and_true, false_and, and_false, and_self, implies_true, reduceIte, imp_self, if_true, if_false, ite_self, eq_self, ne_eq, not_false_eq_true, not_true_eq_false, false_implies, true_implies, forall_const, reduceCtorEq, Bool.false_eq_true, List.take_length, Nat.zero_add, Nat.add_zero, Int.sub_zero, Int.zero_add, Int.add_zero, Int.toNat_natCast, Int.cast_ofNat_Int, Int.reduceToNat, Int.reduceSub, Int.reduceAdd, Nat.le_refl, Int.le_refl, Int.toNat_zero, Int.reduceBNe, Int.reduceBEq, Bool.cond_true_left, Bool.cond_false_right, Bool.cond_true, Bool.cond_false, Option.toArray_some, Option.toArray_none, List.append_toArray, List.cons_append, List.nil_append, List.append_nil, List.size_toArray, List.length_cons, List.length_nil, Nat.reduceAdd, Nat.reduceSub, Nat.reduceMul, Nat.reduceDiv, Nat.reduceEqDiff, Nat.reduceBEq, Nat.reduceLeDiff, Nat.reduceLT, Nat.succ_ne_self, Bool.not_true, Bool.not_false, beq_self_eq_true, List.replicate_succ, List.replicate_zero, Bool.and_true, Bool.true_and, Bool.and_self, Bool.and_false, Bool.false_and, Bool.or_false, Bool.or_true, Bool.false_or, Bool.true_or, SV.sl.injEq, SV.int.injEq, Data.ints.injEq, tl, Int.reduceLT, Int.reduceLE, Int.reduceGT, Int.reduceGE, Int.reduceEq, Int.reduceNe, Int.reduceMul, Int.reduceNeg, decide_true, decide_false, gt_iff_lt, ge_iff_le]
    split
    · rename_i hc
      have hk' : 64 * k + 64 ≤ b.length := by simp at hc; omega
      refine draw_go TO 5 100 mixed_ok (by decide +kernel) ?_
      have hP := Press_meets (foldE beginL b k) ((b.drop (64 * k)).take 64) (foldE_length hb8 k) (by rw [List.length_take]; omega) ((hB.drop _).take _)
      simp only [List.take_succ_cons, List.take_zero, List.drop_succ_cons, List.drop_zero, pureOpC, buildV, fillC, intsP, cntC, arrPV, fieldV, gloadV, GT, unc, capV, sliceC, fitT, isEff, absD, pureStep, subB, svs, blks, AV.sv, absRun, absOps, absOp, evO, constSV, ungd, gdP, gdPs, setD, binI, binV, unV, convV, binS, T_ty, T_size, T_bytes, T_zero, tTy, tSize, tBytes, tZero, fieldOf, faddrV, iaddrV, indexV, extractV, lowI, highI, maxP, sliceV, pickV, pureOp, guardOf, memOp, lenV, loadV, newV, notIn, dataOf, nilD, appD, isSrc, scal, cellsOf, elemsOf, intsOf, strsOf, rowsOf, rowOf, zI, isStr, isB, isI, isA, known, cellAt, arrAt, takeC, dropC, setC, setA, blkAt, fnd, upd, del, mv, elemV, one, Data.len, Data.esz, Data.sub, Lim.add, retP, resV, retQ, rAs, rA, rA0, rAl, ownN, nodup, bares, bare, bare0, bareL, bareD, inRet, flats, flatV, flat1, flat2, guardIs, callP, callS, argS, argC, mAs, mA, mA0, mB0, rowsM, mAl, lowD, allNotIn, nm, impN, impB, impT, packS, delL, Op.operands, Call.operands, List.getD, List.getElem?_cons_zero, List.getElem?_cons_succ, List.getElem?_nil, Option.getD_some, Option.getD_none, List.set, List.map, List.all, List.toList_toArray, List.getElem?_toArray, Option.bind_some, Option.bind_none, Option.map_some, Option.map_none, Option.isSome, exitTo, true_and, and_true, false_and, and_false, and_self, implies_true, reduceIte, imp_self, if_true, if_false, ite_self, eq_self, ne_eq, not_false_eq_true, not_true_eq_false, false_implies, true_implies, forall_const, reduceCtorEq, Bool.false_eq_true, List.take_length, Nat.zero_add, Nat.add_zero, Int.sub_zero, Int.zero_add, Int.add_zero, Int.toNat_natCast, Int.cast_ofNat_Int, Int.reduceToNat, Int.reduceSub, Int.reduceAdd, Nat.le_refl, Int.le_refl, Int.toNat_zero, Int.reduceBNe, Int.reduceBEq, Bool.cond_true_left, Bool.cond_false_right, Bool.cond_true, Bool.cond_false, Option.toArray_some, Option.toArray_none, List.append_toArray, List.cons_append, List.nil_append, List.append_nil, List.size_toArray, List.length_cons, List.length_nil, Nat.reduceAdd, Nat.reduceSub, Nat.reduceMul, Nat.reduceDiv, Nat.reduceEqDiff, Nat.reduceBEq, Nat.reduceLeDiff, Nat.reduceLT, Nat.succ_ne_self, Bool.not_true, Bool.not_false, beq_self_eq_true, List.replicate_succ, List.replicate_zero, Bool.and_true, Bool.true_and, Bool.and_self, Bool.and_false, Bool.false_and, Bool.or_false, Bool.or_true, Bool.false_or, Bool.true_or, SV.sl.injEq, SV.int.injEq, Data.ints.injEq, tl, Int.reduceLT, Int.reduceLE, Int.reduceGT, Int.reduceGE, Int.reduceEq, Int.reduceNe, Int.reduceMul, Int.reduceNeg, decide_true, decide_false, gt_iff_lt, ge_iff_le]
      refine ⟨by omega, by omega, ?_⟩
      refine callD_go TO (fun s' h' => HOps_go TO 100 h') hP Tryd.func15 (by decide +kernel) rfl rfl rfl ?_
      simp only [List.take_succ_cons, List.take_zero, List.drop_succ_cons, List.drop_zero, pureOpC, buildV, fillC, intsP, cntC, arrPV, fieldV, gloadV, GT, unc, capV, sliceC, fitT, isEff, absD, pureStep, subB, svs, blks, AV.sv, absRun, absOps, absOp, evO, constSV, ungd, gdP, gdPs, setD, binI, binV, unV, convV, binS, T_ty, T_size, T_bytes, T_zero, tTy, tSize, tBytes, tZero, fieldOf, faddrV, iaddrV, indexV, extractV, lowI, highI, maxP, sliceV, pickV, pureOp, guardOf, memOp, lenV, loadV, newV, notIn, dataOf, nilD, appD, isSrc, scal, cellsOf, elemsOf, intsOf, strsOf, rowsOf, rowOf, zI, isStr, isB, isI, isA, known, cellAt, arrAt, takeC, dropC, setC, setA, blkAt, fnd, upd, del, mv, elemV, one, Data.len, Data.esz, Data.sub, Lim.add, retP, resV, retQ, rAs, rA, rA0, rAl, ownN, nodup, bares, bare, bare0, bareL, bareD, inRet, flats, flatV, flat1, flat2, guardIs, callP, callS, argS, argC, mAs, mA, mA0, mB0, rowsM, mAl, lowD, allNotIn, nm, impN, impB, impT, packS, delL, Op.operands, Call.operands, List.getD, List.getElem?_cons_zero, List.getElem?_cons_succ, List.getElem?_nil, Option.getD_some, Option.getD_none, List.set, List.map, List.all, List.toList_toArray, List.getElem?_toArray, Option.bind_some, Option.bind_none, Option.map_some, Option.map_none, Option.isSome, exitTo, true_and, and_true, false_and, and_false, and_self, implies_true, reduceIte, imp_self, if_true, if_false, ite_self, eq_self, ne_eq, not_false_eq_true, not_true_eq_false, false_implies, true_implies, forall_const, reduceCtorEq, Bool.false_eq_true, List.take_length, Nat.zero_add, Nat.add_zero, Int.sub_zero, Int.zero_add, Int.add_zero, Int.toNat_natCast, Int.cast_ofNat_Int, Int.reduceToNat, Int.reduceSub, Int.reduceAdd, Nat.le_refl, Int.le_refl, Int.toNat_zero, Int.reduceBNe, Int.reduceBEq, Bool.cond_true_left, Bool.cond_false_right, Bool.cond_true, Bool.cond_false, Option.toArray_some, Option.toArray_none, List.append_toArray, List.cons_append, List.nil_append, List.append_nil, List.size_toArray, List.length_cons, List.length_nil, Nat.reduceAdd, Nat.reduceSub, Nat.reduceMul, Nat.reduceDiv, Nat.reduceEqDiff, Nat.reduceBEq, Nat.reduceLeDiff, Nat.reduceLT, Nat.succ_ne_self, Bool.not_true, Bool.not_false, beq_self_eq_true, List.replicate_succ, List.replicate_zero, Bool.and_true, Bool.true_and, Bool.and_self, Bool.and_false, Bool.false_and, Bool.or_false, Bool.or_true, Bool.false_or, Bool.true_or, SV.sl.injEq, SV.int.injEq, Data.ints.injEq, tl, Int.reduceLT, Int.reduceLE, Int.reduceGT, Int.reduceGE, Int.reduceEq, Int.reduceNe, Int.reduceMul, Int.reduceNeg, decide_true, decide_false, gt_iff_lt, ge_iff_le]
      refine ⟨by omega, ?_⟩
      have hdr : ((b.drop (64 * k)).drop 64).take (((b.drop (64 * k)).length : Int) - 64).toNat = b.drop (64 * (k + 1)) := by
        rw [List.drop_drop, List.take_of_length_le (by rw [List.length_drop]; omega)]
        congr 1
      rw [hdr]
      refine ih (k + 1, _) _ (by simp only; omega) (by simp only; omega) rfl ?_ ?_
      · simp [tl, LeT]
      · intro m x hx; simpa [fnd, foldE] using hx
    · rename_i hc
      have hq : b.length / 64 = k := by simp at hc; omega
      have hfa : ∀ j, 64 * j ≤ b.length → foldE beginL (allL b) j = foldE beginL b j := fun j hj => foldE_app j hj
      refine ⟨⟨by omega, by omega⟩, ?_⟩
      have f1 : IntKind.u64.wrap (b.length : Int) = b.length := wu64 (by omega) (by omega)
      rw [f1]
      refine call_go TO 100 (Behind_meets b.length (by omega) (by omega)) Tryd.func20 (by decide +kernel) rfl rfl rfl ?_
      simp only [List.take_succ_cons, List.take_zero, List.drop_succ_cons, List.drop_zero, pureOpC, buildV, fillC, intsP, cntC, arrPV, fieldV, gloadV, GT, unc, capV, sliceC, fitT, isEff, absD, pureStep, subB, svs, blks, AV.sv, absRun, absOps, absOp, evO, constSV, ungd, gdP, gdPs, setD, binI, binV, unV, convV, binS, T_ty, T_size, T_bytes, T_zero, tTy, tSize, tBytes, tZero, fieldOf, faddrV, iaddrV, indexV, extractV, lowI, highI, maxP, sliceV, pickV, pureOp, guardOf, memOp, lenV, loadV, newV, notIn, dataOf, nilD, appD, isSrc, scal, cellsOf, elemsOf, intsOf, strsOf, rowsOf, rowOf, zI, isStr, isB, isI, isA, known, cellAt, arrAt, takeC, dropC, setC, setA, blkAt, fnd, upd, del, mv, elemV, one, Data.len, Data.esz, Data.sub, Lim.add, retP, resV, retQ, rAs, rA, rA0, rAl, ownN, nodup, bares, bare, bare0, bareL, bareD, inRet, flats, flatV, flat1, flat2, guardIs, callP, callS, argS, argC, mAs, mA, mA0, mB0, rowsM, mAl, lowD, allNotIn, nm, impN, impB, impT, packS, delL, Op.operands, Call.operands, List.getD, List.getElem?_cons_zero, List.getElem?_cons_succ, List.getElem?_nil, Option.getD_some, Option.getD_none, List.set, List.map, List.all, List.toList_toArray, List.getElem?_toArray, Option.bind_some, Option.bind_none, Option.map_some, Option.map_none, Option.isSome, exitTo, true_and, and_true, false_and, and_false, and_self, implies_true, reduceIte, imp_self, if_true, if_false, ite_self, eq_self, ne_eq, not_false_eq_true, not_true_eq_false, false_implies, true_implies, forall_const, reduceCtorEq, Bool.false_eq_true, List.take_length, Nat.zero_add, Nat.add_zero, Int.sub_zero, Int.zero_add, Int.add_zero, Int.toNat_natCast, Int.cast_ofNat_Int, Int.reduceToNat, Int.reduceSub, Int.reduceAdd, Nat.le_refl, Int.le_refl, Int.toNat_zero, Int.reduceBNe, Int.reduceBEq, Bool.cond_true_left, Bool.cond_false_right, Bool.cond_true, Bool.cond_false, Option.toArray_some, Option.toArray_none, List.append_toArray, List.cons_append, List.nil_append, List.append_nil, List.size_toArray, List.length_cons, List.length_nil, Nat.reduceAdd, Nat.reduceSub, Nat.reduceMul, Nat.reduceDiv, Nat.reduceEqDiff, Nat.reduceBEq, Nat.reduceLeDiff, Nat.reduceLT, Nat.succ_ne_self, Bool.not_true, Bool.not_false, beq_self_eq_true, List.replicate_succ, List.replicate_zero, Bool.and_true, Bool.true_and, Bool.and_self, Bool.and_false, Bool.false_and, Bool.or_false, Bool.or_true, Bool.false_or, Bool.true_or, SV.sl.injEq, SV.int.injEq, Data.ints.injEq, tl, Int.reduceLT, Int.reduceLE, Int.reduceGT, Int.reduceGE, Int.reduceEq, Int.reduceNe, Int.reduceMul, Int.reduceNeg, decide_true, decide_false, gt_iff_lt, ge_iff_le]
      have hbh := behL_length b.length
      refine ⟨by omega, ?_⟩
      have hlast : b.drop (64 * k) ++ behL b.length = (allL b).drop (64 * k) := by
        unfold allL; rw [List.drop_append, show 64 * k - b.length = 0 by omega, List.drop_zero]
      have hll : ((allL b).drop (64 * k)).length = (allL b).length - 64 * k := List.length_drop
      rw [hlast, ← hfa k hk]
      have haB := allL_bytes hB
      have hsum : sumL b = outL (foldE beginL (allL b) ((allL b).length / 64)) 32 := rfl
      rw [hsum]
      generalize allL b = a at *
      clear ih
      have hbe : foldE beginL a k = foldE beginL a (k + 0) := rfl
      rw [hbe]
      have hka : 64 * k ≤ a.length := by omega
      generalize c + 1 + 1 = g at *
      refine loop_up (fun x : Nat × Nat => 64 * (k + x.1) ≤ a.length) (fun x => ⟨tl 55 0 [(2, .ptr 2 2 0), (3, .ptr 3 3 0), (5, .sl 26 g 0 1 (64 * x.1) ((a.drop (64 * k)).length - 64 * x.1))],
        [(2, 2, .cells [.arr .u8 32 (List.replicate 32 0)]), (3, 3, .cells [.arr .u32 8 (foldE beginL a (k + x.1))]), (10400, g, .vec (.ints .u8 (behL b.length))), (26, g, .vec (.ints .u8 (a.drop (64 * k))))], ⟨x.2, [], 0⟩⟩) (fun x => a.length - 64 * (k + x.1)) (0, _) (by simp only; omega) ⟨rfl, ?_, ?_⟩ ?_
      · simp [tl, LeT]
      · intro m x hx; simpa [fnd] using hx
      · rintro ⟨j, c⟩ hj ih
        have hj : 64 * (k + j) ≤ a.length := hj
        refine absRun_ok TO 100 _ _ ?_
        simp only [List.take_succ_cons, List.take_zero, List.drop_succ_cons, List.drop_zero, pureOpC, buildV, fillC, intsP, cntC, arrPV, fieldV, gloadV, GT, unc, capV, sliceC, fitT, isEff, absD, pureStep, subB, svs, blks, AV.sv, absRun, absOps, absOp, evO, constSV, ungd, gdP, gdPs, setD, binI, binV, unV, convV, binS, T_ty, T_size, T_bytes, T_zero, tTy, tSize, tBytes, tZero, fieldOf, faddrV, iaddrV, indexV, extractV, lowI, highI, maxP, sliceV, pickV, pureOp, guardOf, memOp, lenV, loadV, newV, notIn, dataOf, nilD, appD, isSrc, scal, cellsOf, elemsOf, intsOf, strsOf, rowsOf, rowOf, zI, isStr, isB, isI, isA, known, cellAt, arrAt, takeC, dropC, setC, setA, blkAt, fnd, upd, del, mv, elemV, one, Data.len, Data.esz, Data.sub, Lim.add, retP, resV, retQ, rAs, rA, rA0, rAl, ownN, nodup, bares, bare, bare0, bareL, bareD, inRet, flats, flatV, flat1, flat2, guardIs, callP, callS, argS, argC, mAs, mA, mA0, mB0, rowsM, mAl, lowD, allNotIn, nm, impN, impB, impT, packS, delL, Op.operands, Call.operands, List.getD, List.getElem?_cons_zero, List.getElem?_cons_succ, List.getElem?_nil, Option.getD_some, Option.getD_none, List.set, List.map, List.all, List.toList_toArray, List.getElem?_toArray, Option.bind_some, Option.bind_none, Option.map_some, Option.map_none, Option.isSome, exitTo, true_and, and_true, false_and, and_false, and_self, implies_true, reduceIte, imp_self, if_true, if_false, ite_self, eq_self, ne_eq, not_false_eq_true, not_true_eq_false, false_implies, true_implies, forall_const, reduceCtorEq, Bool.false_eq_true, List.take_length, Nat.zero_add, Nat.add_zero, Int.sub_zero, Int.zero_add, Int.add_zero, Int.toNat_natCast, Int.cast_ofNat_Int, Int.reduceToNat, Int.reduceSub, Int.reduceAdd, Nat.le_refl, Int.le_refl, Int.toNat_zero, Int.reduceBNe, Int.reduceBEq, Bool.cond_true_left, Bool.cond_false_right, Bool.cond_true, Bool.cond_false, Option.toArray_some, Option.toArray_none, List.append_toArray, List.cons_append, List.nil_append, List.append_nil, List.size_toArray, List.length_cons, List.length_nil, Nat.reduceAdd, Nat.reduceSub, Nat.reduceMul, Nat.reduceDiv, Nat.reduceEqDiff, Nat.reduceBEq, Nat.reduceLeDiff, Nat.reduceLT, Nat.succ_ne_self, Bool.not_true, Bool.not_false, beq_self_eq_true, List.replicate_succ, List.replicate_zero, Bool.and_true, Bool.true_and, Bool.and_self, Bool.and_false, Bool.false_and, Bool.or_false, Bool.or_true, Bool.false_or, Bool.true_or, SV.sl.injEq, SV.int.injEq, Data.ints.injEq, tl, Int.reduceLT, Int.reduceLE, Int.reduceGT, Int.reduceGE, Int.reduceEq, Int.reduceNe, Int.reduceMul, Int.reduceNeg, decide_true, decide_false, gt_iff_lt, ge_iff_le]
        split
        · rename_i hc2
          have hj' : 64 * (k + j) + 64 ≤ a.length := by simp at hc2; omega
          have hblk : ((a.drop (64 * k)).drop (64 * j)).take 64 = (a.drop (64 * (k + j))).take 64 := by rw [List.drop_drop, Nat.mul_add]
          have hP := Press_meets (foldE beginL a (k + j)) ((a.drop (64 * (k + j))).take 64) (foldE_length hb8 _) (by rw [List.length_take, List.length_drop]; omega) ((haB.drop _).take _)
          refine draw_go TO 5 100 mixed_ok (by decide +kernel) ?_
          simp only [List.take_succ_cons, List.take_zero, List.drop_succ_cons, List.drop_zero, pureOpC, buildV, fillC, intsP, cntC, arrPV, fieldV, gloadV, GT, unc, capV, sliceC, fitT, isEff, absD, pureStep, subB, svs, blks, AV.sv, absRun, absOps, absOp, evO, constSV, ungd, gdP, gdPs, setD, binI, binV, unV, convV, binS, T_ty, T_size, T_bytes, T_zero, tTy, tSize, tBytes, tZero, fieldOf, faddrV, iaddrV, indexV, extractV, lowI, highI, maxP, sliceV, pickV, pureOp, guardOf, memOp, lenV, loadV, newV, notIn, dataOf, nilD, appD, isSrc, scal, cellsOf, elemsOf, intsOf, strsOf, rowsOf, rowOf, zI, isStr, isB, isI, isA, known, cellAt, arrAt, takeC, dropC, setC, setA, blkAt, fnd, upd, del, mv, elemV, one, Data.len, Data.esz, Data.sub, Lim.add, retP, resV, retQ, rAs, rA, rA0, rAl, ownN, nodup, bares, bare, bare0, bareL, bareD, inRet, flats, flatV, flat1, flat2, guardIs, callP, callS, argS, argC, mAs, mA, mA0, mB0, rowsM, mAl, lowD, allNotIn, nm, impN, impB, impT, packS, delL, Op.operands, Call.operands, List.getD, List.getElem?_cons_zero, List.getElem?_cons_succ, List.getElem?_nil, Option.getD_some, Option.getD_none, List.set, List.map, List.all, List.toList_toArray, List.getElem?_toArray, Option.bind_some, Option.bind_none, Option.map_some, Option.map_none, Option.isSome, exitTo, true_and, and_true, false_and, and_false, and_self, implies_true, reduceIte, imp_self, if_true, if_false, ite_self, eq_self, ne_eq, not_false_eq_true, not_true_eq_false, false_implies, true_implies, forall_const, reduceCtorEq, Bool.false_eq_true, List.take_length, Nat.zero_add, Nat.add_zero, Int.sub_zero, Int.zero_add, Int.add_zero, Int.toNat_natCast, Int.cast_ofNat_Int, Int.reduceToNat, Int.reduceSub, Int.reduceAdd, Nat.le_refl, Int.le_refl, Int.toNat_zero, Int.reduceBNe, Int.reduceBEq, Bool.cond_true_left, Bool.cond_false_right, Bool.cond_true, Bool.cond_false, Option.toArray_some, Option.toArray_none, List.append_toArray, List.cons_append, List.nil_append, List.append_nil, List.size_toArray, List.length_cons, List.length_nil, Nat.reduceAdd, Nat.reduceSub, Nat.reduceMul, Nat.reduceDiv, Nat.reduceEqDiff, Nat.reduceBEq, Nat.reduceLeDiff, Nat.reduceLT, Nat.succ_ne_self, Bool.not_true, Bool.not_false, beq_self_eq_true, List.replicate_succ, List.replicate_zero, Bool.and_true, Bool.true_and, Bool.and_self, Bool.and_false, Bool.false_and, Bool.or_false, Bool.or_true, Bool.false_or, Bool.true_or, SV.sl.injEq, SV.int.injEq, Data.ints.injEq, tl, Int.reduceLT, Int.reduceLE, Int.reduceGT, Int.reduceGE, Int.reduceEq, Int.reduceNe, Int.reduceMul, Int.reduceNeg, decide_true, decide_false, gt_iff_lt, ge_iff_le, hblk]
          repeat refine ⟨by omega, ?_⟩
          refine callD_go TO (fun s' h' => HOps_go TO 100 h') hP Tryd.func15 (by decide +kernel) rfl rfl rfl ?_
          simp only [List.take_succ_cons, List.take_zero, List.drop_succ_cons, List.drop_zero, pureOpC, buildV, fillC, intsP, cntC, arrPV, fieldV, gloadV, GT, unc, capV, sliceC, fitT, isEff, absD, pureStep, subB, svs, blks, AV.sv, absRun, absOps, absOp, evO, constSV, ungd, gdP, gdPs, setD, binI, binV, unV, convV, binS, T_ty, T_size, T_bytes, T_zero, tTy, tSize, tBytes, tZero, fieldOf, faddrV, iaddrV, indexV, extractV, lowI, highI, maxP, sliceV, pickV, pureOp, guardOf, memOp, lenV, loadV, newV, notIn, dataOf, nilD, appD, isSrc, scal, cellsOf, elemsOf, intsOf, strsOf, rowsOf, rowOf, zI, isStr, isB, isI, isA, known, cellAt, arrAt, takeC, dropC, setC, setA, blkAt, fnd, upd, del, mv, elemV, one, Data.len, Data.esz, Data.sub, Lim.add, retP, resV, retQ, rAs, rA, rA0, rAl, ownN, nodup, bares, bare, bare0, bareL, bareD, inRet, flats, flatV, flat1, flat2, guardIs, callP, callS, argS, argC, mAs, mA, mA0, mB0, rowsM, mAl, lowD, allNotIn, nm, impN, impB, impT, packS, delL, Op.operands, Call.operands, List.getD, List.getElem?_cons_zero, List.getElem?_cons_succ, List.getElem?_nil, Option.getD_some, Option.getD_none, List.set, List.map, List.all, List.toList_toArray, List.getElem?_toArray, Option.bind_some, Option.bind_none, Option.map_some, Option.map_none, Option.isSome, exitTo, true_and, and_true, false_and, and_false, and_self, implies_true, reduceIte, imp_self, if_true, if_false, ite_self, eq_self, ne_eq, not_false_eq_true, not_true_eq_false, false_implies, true_implies, forall_const, reduceCtorEq, Bool.false_eq_true, List.take_length, Nat.zero_add, Nat.add_zero, Int.sub_zero, Int.zero_add, Int.add_zero, Int.toNat_natCast, Int.cast_ofNat_Int, Int.reduceToNat, Int.reduceSub, Int.reduceAdd, Nat.le_refl, Int.le_refl, Int.toNat_zero, Int.reduceBNe, Int.reduceBEq, Bool.cond_true_left, Bool.cond_false_right, Bool.cond_true, Bool.cond_false, Option.toArray_some, Option.toArray_none, List.append_toArray, List.cons_append, List.nil_append, List.append_nil, List.size_toArray, List.length_cons, List.length_nil, Nat.reduceAdd, Nat.reduceSub, Nat.reduceMul, Nat.reduceDiv, Nat.reduceEqDiff, Nat.reduceBEq, Nat.reduceLeDiff, Nat.reduceLT, Nat.succ_ne_self, Bool.not_true, Bool.not_false, beq_self_eq_true, List.replicate_succ, List.replicate_zero, Bool.and_true, Bool.true_and, Bool.and_self, Bool.and_false, Bool.false_and, Bool.or_false, Bool.or_true, Bool.false_or, Bool.true_or, SV.sl.injEq, SV.int.injEq, Data.ints.injEq, tl, Int.reduceLT, Int.reduceLE, Int.reduceGT, Int.reduceGE, Int.reduceEq, Int.reduceNe, Int.reduceMul, Int.reduceNeg, decide_true, decide_false, gt_iff_lt, ge_iff_le]
          refine ⟨by omega, ?_⟩
          refine ih (j + 1, _) _ (by simp only; omega) (by simp only; omega) rfl ?_ ?_
          · simp [tl, LeT]; omega
          · intro m x hx; simpa [fnd, foldE, Nat.add_assoc] using hx
        · rename_i hc2
          have hj' : a.length / 64 = k + j := by simp at hc2; omega
          rw [hj']
          have hstl := foldE_length (st := beginL) (l := a) hb8 (k + j)
          generalize foldE beginL a (k + j) = st at *
          clear ih
          generalize c + 1 + 1 = g2 at *
          refine loop_up (fun x : Nat × Nat => x.1 ≤ 32) (fun x => ⟨tl 55 0 [(2, .ptr 2 2 0), (3, .ptr 3 3 0), (6, .ptr 6 g2 0), (37, .int .i64 x.1)],
            [(2, 2, .cells [.arr .u8 32 (List.replicate 32 0)]), (3, 3, .cells [.arr .u32 8 st]), (10400, g, .vec (.ints .u8 (behL b.length))), (26, g, .vec (.ints .u8 (a.drop (64 * k)))), (6, g2, .cells [.arr .u8 32 (outL st x.1 ++ List.replicate (32 - x.1) 0)])], ⟨x.2, [], 0⟩⟩) (fun x => 32 - x.1) (0, _) (Nat.zero_le _) ⟨rfl, ?_, ?_⟩ ?_
          · simp [tl, LeT]
          · intro m x hx; simpa [fnd, outL] using hx
          · rintro ⟨i, c⟩ hi ih
            have hi : i ≤ 32 := hi
            refine absRun_ok TO 100 _ _ ?_
            have e1 : quoI .i64 (i : Int) 4 = ((i / 4 : Nat) : Int) := by
              unfold quoI
              rw [Int.tdiv_eq_ediv_of_nonneg (by omega), w64 (by omega) (by omega)]
              omega
            have e2 : remI (i : Int) 4 = ((i % 4 : Nat) : Int) := by unfold remI; rw [Int.tmod_eq_emod_of_nonneg (by omega)]; omega
            have e3 : IntKind.i64.wrap (((i % 4 : Nat) : Int) * 8) = ((i % 4 * 8 : Nat) : Int) := by rw [w64 (by omega) (by omega)]; omega
            have e4 : IntKind.i64.wrap (24 - ((i % 4 * 8 : Nat) : Int)) = ((24 - i % 4 * 8 : Nat) : Int) := by rw [w64 (by omega) (by omega)]; omega
            have e5 : IntKind.u64.wrap ((24 - i % 4 * 8 : Nat) : Int) = ((24 - i % 4 * 8 : Nat) : Int) := wu64 (by omega) (by omega)
            simp only [List.take_succ_cons, List.take_zero, List.drop_succ_cons, List.drop_zero, pureOpC, buildV, fillC, intsP, cntC, arrPV, fieldV, gloadV, GT, unc, capV, sliceC, fitT, isEff, absD, pureStep, subB, svs, blks, AV.sv, absRun, absOps, absOp, evO, constSV, ungd, gdP, gdPs, setD, binI, binV, unV, convV, binS, T_ty, T_size, T_bytes, T_zero, tTy, tSize, tBytes, tZero, fieldOf, faddrV, iaddrV, indexV, extractV, lowI, highI, maxP, sliceV, pickV, pureOp, guardOf, memOp, lenV, loadV, newV, notIn, dataOf, nilD, appD, isSrc, scal, cellsOf, elemsOf, intsOf, strsOf, rowsOf, rowOf, zI, isStr, isB, isI, isA, known, cellAt, arrAt, takeC, dropC, setC, setA, blkAt, fnd, upd, del, mv, elemV, one, Data.len, Data.esz, Data.sub, Lim.add, retP, resV, retQ, rAs, rA, rA0, rAl, ownN, nodup, bares, bare, bare0, bareL, bareD, inRet, flats, flatV, flat1, flat2, guardIs, callP, callS, argS, argC, mAs, mA, mA0, mB0, rowsM, mAl, lowD, allNotIn, nm, impN, impB, impT, packS, delL, Op.operands, Call.operands, List.getD, List.getElem?_cons_zero, List.getElem?_cons_succ, List.getElem?_nil, Option.getD_some, Option.getD_none, List.set, List.map, List.all, List.toList_toArray, List.getElem?_toArray, Option.bind_some, Option.bind_none, Option.map_some, Option.map_none, Option.isSome, exitTo, true_and, and_true, false_and, and_false, and_self, implies_true, reduceIte, imp_self, if_true, if_false, ite_self, eq_self, ne_eq, not_false_eq_true, not_true_eq_false, false_implies, true_implies, forall_const, reduceCtorEq, Bool.false_eq_true, List.take_length, Nat.zero_add, Nat.add_zero, Int.sub_zero, Int.zero_add, Int.add_zero, Int.toNat_natCast, Int.cast_ofNat_Int, Int.reduceToNat, Int.reduceSub, Int.reduceAdd, Nat.le_refl, Int.le_refl, Int.toNat_zero, Int.reduceBNe, Int.reduceBEq, Bool.cond_true_left, Bool.cond_false_right, Bool.cond_true, Bool.cond_false, Option.toArray_some, Option.toArray_none, List.append_toArray, List.cons_append, List.nil_append, List.append_nil, List.size_toArray, List.length_cons, List.length_nil, Nat.reduceAdd, Nat.reduceSub, Nat.reduceMul, Nat.reduceDiv, Nat.reduceEqDiff, Nat.reduceBEq, Nat.reduceLeDiff, Nat.reduceLT, Nat.succ_ne_self, Bool.not_true, Bool.not_false, beq_self_eq_true, List.replicate_succ, List.replicate_zero, Bool.and_true, Bool.true_and, Bool.and_self, Bool.and_false, Bool.false_and, Bool.or_false, Bool.or_true, Bool.false_or, Bool.true_or, SV.sl.injEq, SV.int.injEq, Data.ints.injEq, tl, Int.reduceLT, Int.reduceLE, Int.reduceGT, Int.reduceGE, Int.reduceEq, Int.reduceNe, Int.reduceMul, Int.reduceNeg, decide_true, decide_false, gt_iff_lt, ge_iff_le, e1, e2, e3, e4, e5, Int.toNat_natCast]
            split
            · rename_i hc3
              have h32 : i < 32 := by simp at hc3; omega
              repeat refine ⟨by omega, ?_⟩
              rw [w64 (by omega) (by omega)]
              refine ih (i + 1, _) _ (by simp only; omega) (by simp only; omega) rfl ?_ ?_
              · simp [tl, LeT]
              · intro m x hx
                simp only at hx
                rw [← outL_set h32] at hx
                simpa [fnd, out1] using hx
            · rename_i hc3
              obtain rfl : i = 32 := by simp at hc3; omega
              simp

end Go.Proofs.YtcbeacpikgilnaaDoor.Abs
