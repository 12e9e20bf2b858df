/- What stands behind bytes: sha.Behind and the document's. -/
import Derived.Test.YtcbeacpikgilnaaDoorS4
set_option linter.unusedVariables false
set_option linter.unusedSimpArgs false
set_option maxRecDepth 100000
namespace Go.Proofs.YtcbeacpikgilnaaDoor.Abs
open Go Go.Proofs

/-- How many noughts. -/
def zN (n : Int) : Nat := ((119 - n % 64) % 64).toNat
def behL (n : Int) : List Int := if n < 1152921504606846976 then 128 :: (List.replicate (zN n) 0 ++ (digs 8 (8 * n)).reverse) else []

theorem zN_le (n : Int) : zN n < 64 ∧ (n + 1 + zN n) % 64 = 56 := by unfold zN; omega
theorem behL_length (n : Int) : (behL n).length ≤ 72 := by
  unfold behL; split
  · have := (zN_le n).1; simp [digs_length]; omega
  · simp
theorem behL_length_eq {n : Int} (h : n < 1152921504606846976) : (behL n).length = 9 + zN n := by
  unfold behL; rw [if_pos h]; simp [digs_length]; omega

theorem shr60 (n : Int) (h0 : 0 ≤ n) : (shrI .u64 n 60 = 0) ↔ n < 1152921504606846976 := by
  unfold shrI
  rw [show min (60 : Int).toNat IntKind.u64.bits = 60 from rfl, Int.fdiv_eq_ediv_of_nonneg _ (by decide)]
  have : (2 : Int) ^ 60 = 1152921504606846976 := rfl
  rw [this]; omega

theorem shl3 {n : Int} (h0 : 0 ≤ n) (h : n < 1152921504606846976) : shlI .u64 n 3 = 8 * n := by
  unfold shlI
  rw [show min (3 : Int).toNat IntKind.u64.bits = 3 from rfl, show (2 : Int) ^ 3 = 8 from rfl, wu64 (by omega) (by omega)]
  omega

theorem digs_get (k : Nat) : ∀ (n : Int) (i : Nat), i < k → (digs k n)[i]? = some (n / 256 ^ i % 256) := by
  induction k with
  | zero => intro n i h; omega
  | succ k ih =>
    intro n i h
    cases i with
    | zero => simp [digs]
    | succ i =>
      simp only [digs, List.getElem?_cons_succ]
      rw [ih (n / 256) i (by omega), Int.ediv_ediv_of_nonneg (by omega), Int.pow_succ, Int.mul_comm (256 ^ i)]

theorem rem64 {x : Int} (h : 0 ≤ x) : remI x 64 = x % 64 := Int.tmod_eq_emod_of_nonneg h

theorem Behind_meets (n : Int) (h0 : 0 ≤ n) (hn : n < 18446744073709551616) : Meets Tryd.prog 20 [.v (.int .u64 n)] [.own (.ints .u8 (behL n))] := by
  refine meets_go TO 100 Tryd.func20 rfl (fun X => ?_)
  simp only [Tryd.ntmps20, Tryd.results20, List.take_succ_cons, List.take_zero, List.drop_succ_cons, List.drop_zero, pureOpC, buildV, fillC, intsP, cntC, arrPV, fieldV, gloadV, GT, unc, capV, sliceC, fitT, isEff, absD, pureStep, subB, svs, blks, AV.sv, absRun, absOps, absOp, evO, constSV, ungd, gdP, gdPs, setD, binI, binV, unV, convV, binS, T_ty, T_size, T_bytes, T_zero, tTy, tSize, tBytes, tZero, fieldOf, faddrV, iaddrV, indexV, extractV, lowI, highI, maxP, sliceV, pickV, pureOp, guardOf, memOp, lenV, loadV, newV, notIn, dataOf, nilD, appD, isSrc, scal, cellsOf, elemsOf, intsOf, strsOf, rowsOf, rowOf, zI, isStr, isB, isI, isA, known, cellAt, arrAt, takeC, dropC, setC, setA, blkAt, fnd, upd, del, mv, elemV, one, Data.len, Data.esz, Data.sub, Lim.add, retP, resV, retQ, rAs, rA, rA0, rAl, ownN, nodup, bares, bare, bare0, bareL, bareD, inRet, flats, flatV, flat1, flat2, guardIs, callP, callS, argS, argC, mAs, mA, mA0, mB0, rowsM, mAl, lowD, allNotIn, nm, impN, impB, impT, packS, delL, Op.operands, Call.operands, List.getD, List.getElem?_cons_zero, List.getElem?_cons_succ, List.getElem?_nil, Option.getD_some, Option.getD_none, List.set, List.map, List.all, List.toList_toArray, List.getElem?_toArray, Option.bind_some, Option.bind_none, Option.map_some, Option.map_none, Option.isSome, exitTo, true_and, and_true, false_and, and_false, and_self, implies_true, reduceIte, imp_self, if_true, if_false, ite_self, eq_self, ne_eq, not_false_eq_true, not_true_eq_false, false_implies, true_implies, forall_const, reduceCtorEq, Bool.false_eq_true, List.take_length, Nat.zero_add, Nat.add_zero, Int.sub_zero, Int.zero_add, Int.add_zero, Int.toNat_natCast, Int.cast_ofNat_Int, Int.reduceToNat, Int.reduceSub, Int.reduceAdd, Nat.le_refl, Int.le_refl, Int.toNat_zero, Int.reduceBNe, Int.reduceBEq, Bool.cond_true_left, Bool.cond_false_right, Bool.cond_true, Bool.cond_false, Option.toArray_some, Option.toArray_none, List.append_toArray, List.cons_append, List.nil_append, List.append_nil, List.size_toArray, List.length_cons, List.length_nil, Nat.reduceAdd, Nat.reduceSub, Nat.reduceMul, Nat.reduceDiv, Nat.reduceEqDiff, Nat.reduceBEq, Nat.reduceLeDiff, Nat.reduceLT, Nat.succ_ne_self, Bool.not_true, Bool.not_false, beq_self_eq_true, List.replicate_succ, List.replicate_zero, Bool.and_true, Bool.true_and, Bool.and_self, Bool.and_false, Bool.false_and, Bool.or_false, Bool.or_true, Bool.false_or, Bool.true_or, SV.sl.injEq, SV.int.injEq, Data.ints.injEq, tl, Int.reduceLT, Int.reduceLE, Int.reduceGT, Int.reduceGE, Int.reduceEq, Int.reduceNe, Int.reduceMul, Int.reduceNeg, decide_true, decide_false, gt_iff_lt, ge_iff_le]
  have e1 : (shrI .u64 n 60 != 0) = !decide (n < 1152921504606846976) := by
    rw [Bool.eq_iff_iff]
    simp [shr60 n h0]
  rw [e1]
  by_cases hlt : n < 1152921504606846976
  · simp only [hlt, decide_true, Bool.not_true, Bool.false_eq_true, if_false]
    have e2 : IntKind.u64.wrap (119 - n % 64) = 119 - n % 64 := wu64 (by omega) (by omega)
    have e3 : IntKind.u64.wrap (9 + (119 - n % 64) % 64) = 9 + zN n := by rw [wu64 (by omega) (by omega)]; unfold zN; omega
    have e4 : ((9 : Int) + zN n).toNat = 9 + zN n := by omega
    rw [rem64 h0, e2, rem64 (by omega), e3, e4]
    have hz := (zN_le n).1
    repeat refine ⟨by omega, ?_⟩
    have hset : (List.replicate (9 + zN n) (0 : Int)).set 0 128 = 128 :: (List.replicate (zN n + 8) 0) := by
      rw [show 9 + zN n = (zN n + 8) + 1 by omega, List.replicate_succ, List.set_cons_zero]
    refine ⟨by simp, ?_⟩
    rw [hset]
    have hb : behL n = 128 :: (List.replicate (zN n) 0 ++ (digs 8 (8 * n)).reverse) := by unfold behL; rw [if_pos hlt]
    generalize zN n = z at *
    refine loop_go (fun x : Nat × Nat => x.1 ≤ 8) (fun x => ⟨tl 35 0 [(0, .int .u64 n), (3, .slc 13 4 1 (9 + z) (9 + z)), (16, .int .i64 x.1)],
      [(13, 4, .vec (.ints .u8 (128 :: (List.replicate (z + 8 - x.1) 0 ++ (digs x.1 (8 * n)).reverse))))], ⟨x.2, [], 0⟩⟩) (fun x => 8 - x.1) (0, _) (Nat.zero_le _) ⟨rfl, ?_, ?_⟩ ?_
    · simp [tl, LeT]
    · intro m x hx; simpa [fnd, digs] using hx
    · rintro ⟨i, c⟩ hi ih
      have hi : i ≤ 8 := hi
      have hll : ∀ i, i ≤ 8 → (128 :: (List.replicate (z + 8 - i) (0 : Int) ++ (digs i (8 * n)).reverse)).length = 9 + z := by intro i hi; simp [digs_length]; omega
      refine absRun_ok TO 100 _ _ ?_
      simp only [List.take_succ_cons, List.take_zero, List.drop_succ_cons, List.drop_zero, pureOpC, buildV, fillC, intsP, cntC, arrPV, fieldV, gloadV, GT, unc, capV, sliceC, fitT, isEff, absD, pureStep, subB, svs, blks, AV.sv, absRun, absOps, absOp, evO, constSV, ungd, gdP, gdPs, setD, binI, binV, unV, convV, binS, T_ty, T_size, T_bytes, T_zero, tTy, tSize, tBytes, tZero, fieldOf, faddrV, iaddrV, indexV, extractV, lowI, highI, maxP, sliceV, pickV, pureOp, guardOf, memOp, lenV, loadV, newV, notIn, dataOf, nilD, appD, isSrc, scal, cellsOf, elemsOf, intsOf, strsOf, rowsOf, rowOf, zI, isStr, isB, isI, isA, known, cellAt, arrAt, takeC, dropC, setC, setA, blkAt, fnd, upd, del, mv, elemV, one, Data.len, Data.esz, Data.sub, Lim.add, retP, resV, retQ, rAs, rA, rA0, rAl, ownN, nodup, bares, bare, bare0, bareL, bareD, inRet, flats, flatV, flat1, flat2, guardIs, callP, callS, argS, argC, mAs, mA, mA0, mB0, rowsM, mAl, lowD, allNotIn, nm, impN, impB, impT, packS, delL, Op.operands, Call.operands, List.getD, List.getElem?_cons_zero, List.getElem?_cons_succ, List.getElem?_nil, Option.getD_some, Option.getD_none, List.set, List.map, List.all, List.toList_toArray, List.getElem?_toArray, Option.bind_some, Option.bind_none, Option.map_some, Option.map_none, Option.isSome, exitTo, true_and, and_true, false_and, and_false, and_self, implies_true, reduceIte, imp_self, if_true, if_false, ite_self, eq_self, ne_eq, not_false_eq_true, not_true_eq_false, false_implies, true_implies, forall_const, reduceCtorEq, Bool.false_eq_true, List.take_length, Nat.zero_add, Nat.add_zero, Int.sub_zero, Int.zero_add, Int.add_zero, Int.toNat_natCast, Int.cast_ofNat_Int, Int.reduceToNat, Int.reduceSub, Int.reduceAdd, Nat.le_refl, Int.le_refl, Int.toNat_zero, Int.reduceBNe, Int.reduceBEq, Bool.cond_true_left, Bool.cond_false_right, Bool.cond_true, Bool.cond_false, Option.toArray_some, Option.toArray_none, List.append_toArray, List.cons_append, List.nil_append, List.append_nil, List.size_toArray, List.length_cons, List.length_nil, Nat.reduceAdd, Nat.reduceSub, Nat.reduceMul, Nat.reduceDiv, Nat.reduceEqDiff, Nat.reduceBEq, Nat.reduceLeDiff, Nat.reduceLT, Nat.succ_ne_self, Bool.not_true, Bool.not_false, beq_self_eq_true, List.replicate_succ, List.replicate_zero, Bool.and_true, Bool.true_and, Bool.and_self, Bool.and_false, Bool.false_and, Bool.or_false, Bool.or_true, Bool.false_or, Bool.true_or, SV.sl.injEq, SV.int.injEq, Data.ints.injEq, tl, Int.reduceLT, Int.reduceLE, Int.reduceGT, Int.reduceGE, Int.reduceEq, Int.reduceNe, Int.reduceMul, Int.reduceNeg, decide_true, decide_false, gt_iff_lt, ge_iff_le, shl3 h0 hlt]
      split
      · rename_i hc
        have h8 : i < 8 := by simp at hc; omega
        have f1 : IntKind.i64.wrap (8 * (i : Int)) = 8 * i := w64 (by omega) (by omega)
        have f2 : IntKind.u64.wrap (8 * (i : Int)) = 8 * i := wu64 (by omega) (by omega)
        have f3 : IntKind.i64.wrap (((9 + z : Nat) : Int) - 1) = 8 + z := by rw [w64 (by omega) (by omega)]; omega
        have f4 : IntKind.i64.wrap (8 + (z : Int) - i) = 8 + z - i := w64 (by omega) (by omega)
        simp only [f1, f2, f3, f4, shr_bytes _ i (by omega), wu8, show (8 + (z : Int) - i).toNat = z + 8 - i by omega]
        rw [w64 (by omega) (by omega)]
        repeat refine ⟨by omega, ?_⟩
        refine ⟨by have := hll i hi; rw [List.length_cons] at this; omega, ?_⟩
        refine ih (i + 1, _) _ (by simp only; omega) (by simp only; omega) rfl ?_ ?_
        · simp [tl, LeT]
        · intro m x hx
          have hstep : (128 :: (List.replicate (z + 8 - i) (0 : Int) ++ (digs i (8 * n)).reverse)).set (z + 8 - i) (8 * n / 256 ^ i % 256) = 128 :: (List.replicate (z + 8 - (i + 1)) 0 ++ (digs (i + 1) (8 * n)).reverse) := by
            obtain ⟨r, hr⟩ : ∃ r, z + 8 - i = r + 1 := ⟨z + 8 - i - 1, by omega⟩
            rw [hr, show z + 8 - (i + 1) = r by omega, digs_snoc, List.set_cons_succ, List.replicate_succ', List.append_assoc, List.set_append_right _ _ (by simp)]
            simp
          simp only at hx
          rw [hstep]
          simpa [fnd] using hx
      · rename_i hc
        obtain rfl : i = 8 := by simp at hc; omega
        rw [hb]
        have := hll 8 (Nat.le_refl _)
        rw [List.length_cons] at this
        simp only [Nat.add_sub_cancel] at this ⊢
        simp only [List.length_cons, Nat.add_eq, this, and_self]
  · simp [hlt, behL]

theorem rBehind_meets (n : Int) (h0 : 0 ≤ n) (hn : n < 18446744073709551616) : Meets Tryd.prog 22 [.v (.int .u64 n)] [.own (.ints .u8 (behL n))] := by
  refine meets_go TO 100 Tryd.func22 rfl (fun X => ?_)
  simp only [Tryd.ntmps22, Tryd.results22, List.take_succ_cons, List.take_zero, List.drop_succ_cons, List.drop_zero, pureOpC, buildV, fillC, intsP, cntC, arrPV, fieldV, gloadV, GT, unc, capV, sliceC, fitT, isEff, absD, pureStep, subB, svs, blks, AV.sv, absRun, absOps, absOp, evO, constSV, ungd, gdP, gdPs, setD, binI, binV, unV, convV, binS, T_ty, T_size, T_bytes, T_zero, tTy, tSize, tBytes, tZero, fieldOf, faddrV, iaddrV, indexV, extractV, lowI, highI, maxP, sliceV, pickV, pureOp, guardOf, memOp, lenV, loadV, newV, notIn, dataOf, nilD, appD, isSrc, scal, cellsOf, elemsOf, intsOf, strsOf, rowsOf, rowOf, zI, isStr, isB, isI, isA, known, cellAt, arrAt, takeC, dropC, setC, setA, blkAt, fnd, upd, del, mv, elemV, one, Data.len, Data.esz, Data.sub, Lim.add, retP, resV, retQ, rAs, rA, rA0, rAl, ownN, nodup, bares, bare, bare0, bareL, bareD, inRet, flats, flatV, flat1, flat2, guardIs, callP, callS, argS, argC, mAs, mA, mA0, mB0, rowsM, mAl, lowD, allNotIn, nm, impN, impB, impT, packS, delL, Op.operands, Call.operands, List.getD, List.getElem?_cons_zero, List.getElem?_cons_succ, List.getElem?_nil, Option.getD_some, Option.getD_none, List.set, List.map, List.all, List.toList_toArray, List.getElem?_toArray, Option.bind_some, Option.bind_none, Option.map_some, Option.map_none, Option.isSome, exitTo, true_and, and_true, false_and, and_false, and_self, implies_true, reduceIte, imp_self, if_true, if_false, ite_self, eq_self, ne_eq, not_false_eq_true, not_true_eq_false, false_implies, true_implies, forall_const, reduceCtorEq, Bool.false_eq_true, List.take_length, Nat.zero_add, Nat.add_zero, Int.sub_zero, Int.zero_add, Int.add_zero, Int.toNat_natCast, Int.cast_ofNat_Int, Int.reduceToNat, Int.reduceSub, Int.reduceAdd, Nat.le_refl, Int.le_refl, Int.toNat_zero, Int.reduceBNe, Int.reduceBEq, Bool.cond_true_left, Bool.cond_false_right, Bool.cond_true, Bool.cond_false, Option.toArray_some, Option.toArray_none, List.append_toArray, List.cons_append, List.nil_append, List.append_nil, List.size_toArray, List.length_cons, List.length_nil, Nat.reduceAdd, Nat.reduceSub, Nat.reduceMul, Nat.reduceDiv, Nat.reduceEqDiff, Nat.reduceBEq, Nat.reduceLeDiff, Nat.reduceLT, Nat.succ_ne_self, Bool.not_true, Bool.not_false, beq_self_eq_true, List.replicate_succ, List.replicate_zero, Bool.and_true, Bool.true_and, Bool.and_self, Bool.and_false, Bool.false_and, Bool.or_false, Bool.or_true, Bool.false_or, Bool.true_or, SV.sl.injEq, SV.int.injEq, Data.ints.injEq, tl, Int.reduceLT, Int.reduceLE, Int.reduceGT, Int.reduceGE, Int.reduceEq, Int.reduceNe, Int.reduceMul, Int.reduceNeg, decide_true, decide_false, gt_iff_lt, ge_iff_le]
  by_cases hlt : n < 1152921504606846976
  · have hge : ¬ 1152921504606846976 ≤ n := by omega
    simp only [hge, decide_false, Bool.false_eq_true, if_false]
    have hb : behL n = 128 :: (List.replicate (zN n) 0 ++ (digs 8 (8 * n)).reverse) := by unfold behL; rw [if_pos hlt]
    have hz := zN_le n
    have hz2 : ∀ k : Nat, k ≤ zN n → (((n + 1 + k) % 64 = 56) ↔ k = zN n) := by intro k hk; omega
    rw [hb]
    generalize zN n = z at *
    refine loop_up (fun x : Nat × Nat × Nat × Nat => x.1 ≤ z ∧ x.2.2.2 ≠ 16 ∧ x.2.2.2 ≠ 30) (fun x => ⟨tl 33 0 [(0, .int .u64 n), (3, .sl x.2.2.2 x.2.2.1 0 1 0 (1 + x.1))],
      [(x.2.2.2, x.2.2.1, .vec (.ints .u8 (128 :: List.replicate x.1 0)))], ⟨x.2.1, [], 0⟩⟩) (fun x => z - x.1) (0, _, 4, 7) ⟨Nat.zero_le _, by simp, by simp⟩ ⟨rfl, ?_, ?_⟩ ?_
    · simp [tl, LeT]
    · intro m x hx; simpa [fnd] using hx
    · rintro ⟨i, c, g, q⟩ ⟨hi, hnm, hnm30⟩ ih
      have hi : i ≤ z := hi
      obtain ⟨h1, h2⟩ := ne_eqs hnm
      refine absRun_ok TO 100 _ _ ?_
      have f1 : IntKind.u64.wrap ((1 + i : Nat) : Int) = ((1 + i : Nat) : Int) := wu64 (by omega) (by omega)
      have f2 : IntKind.u64.wrap (n + ((1 + i : Nat) : Int)) = n + 1 + i := by rw [wu64 (by omega) (by omega)]; omega
      have f3 : remI (n + 1 + i) 64 = (n + 1 + i) % 64 := rem64 (by omega)
      have hrep : (128 :: (List.replicate i (0 : Int) ++ [0])) = 128 :: List.replicate (i + 1) 0 := by rw [List.replicate_succ']
      simp only [List.take_succ_cons, List.take_zero, List.drop_succ_cons, List.drop_zero, pureOpC, buildV, fillC, intsP, cntC, arrPV, fieldV, gloadV, GT, unc, capV, sliceC, fitT, isEff, absD, pureStep, subB, svs, blks, AV.sv, absRun, absOps, absOp, evO, constSV, ungd, gdP, gdPs, setD, binI, binV, unV, convV, binS, T_ty, T_size, T_bytes, T_zero, tTy, tSize, tBytes, tZero, fieldOf, faddrV, iaddrV, indexV, extractV, lowI, highI, maxP, sliceV, pickV, pureOp, guardOf, memOp, lenV, loadV, newV, notIn, dataOf, nilD, appD, isSrc, scal, cellsOf, elemsOf, intsOf, strsOf, rowsOf, rowOf, zI, isStr, isB, isI, isA, known, cellAt, arrAt, takeC, dropC, setC, setA, blkAt, fnd, upd, del, mv, elemV, one, Data.len, Data.esz, Data.sub, Lim.add, retP, resV, retQ, rAs, rA, rA0, rAl, ownN, nodup, bares, bare, bare0, bareL, bareD, inRet, flats, flatV, flat1, flat2, guardIs, callP, callS, argS, argC, mAs, mA, mA0, mB0, rowsM, mAl, lowD, allNotIn, nm, impN, impB, impT, packS, delL, Op.operands, Call.operands, List.getD, List.getElem?_cons_zero, List.getElem?_cons_succ, List.getElem?_nil, Option.getD_some, Option.getD_none, List.set, List.map, List.all, List.toList_toArray, List.getElem?_toArray, Option.bind_some, Option.bind_none, Option.map_some, Option.map_none, Option.isSome, exitTo, true_and, and_true, false_and, and_false, and_self, implies_true, reduceIte, imp_self, if_true, if_false, ite_self, eq_self, ne_eq, not_false_eq_true, not_true_eq_false, false_implies, true_implies, forall_const, reduceCtorEq, Bool.false_eq_true, List.take_length, Nat.zero_add, Nat.add_zero, Int.sub_zero, Int.zero_add, Int.add_zero, Int.toNat_natCast, Int.cast_ofNat_Int, Int.reduceToNat, Int.reduceSub, Int.reduceAdd, Nat.le_refl, Int.le_refl, Int.toNat_zero, Int.reduceBNe, Int.reduceBEq, Bool.cond_true_left, Bool.cond_false_right, Bool.cond_true, Bool.cond_false, Option.toArray_some, Option.toArray_none, List.append_toArray, List.cons_append, List.nil_append, List.append_nil, List.size_toArray, List.length_cons, List.length_nil, Nat.reduceAdd, Nat.reduceSub, Nat.reduceMul, Nat.reduceDiv, Nat.reduceEqDiff, Nat.reduceBEq, Nat.reduceLeDiff, Nat.reduceLT, Nat.succ_ne_self, Bool.not_true, Bool.not_false, beq_self_eq_true, List.replicate_succ, List.replicate_zero, Bool.and_true, Bool.true_and, Bool.and_self, Bool.and_false, Bool.false_and, Bool.or_false, Bool.or_true, Bool.false_or, Bool.true_or, SV.sl.injEq, SV.int.injEq, Data.ints.injEq, tl, Int.reduceLT, Int.reduceLE, Int.reduceGT, Int.reduceGE, Int.reduceEq, Int.reduceNe, Int.reduceMul, Int.reduceNeg, decide_true, decide_false, gt_iff_lt, ge_iff_le, h1, h2, f1, f2, f3]
      split
      · rename_i hc
        have hne : ¬ (n + 1 + i) % 64 = 56 := by simpa using hc
        have hiz : i < z := by
          rcases Nat.lt_or_ge i z with h | h
          · exact h
          · exact absurd ((hz2 i hi).2 (by omega)) hne
        rw [hrep]
        refine ⟨⟨by simp; omega, by omega, by omega⟩, ?_⟩
        refine ih (i + 1, _, c + 1 + 1, 17) _ ⟨by simp only; omega, by simp, by simp⟩ (by simp only; omega) rfl ?_ ?_
        · simp [tl, LeT]; omega
        · intro m x hx
          simp [fnd] at hx ⊢
          obtain ⟨rfl, rfl⟩ := hx
          simp
      · rename_i hc
        have he : (n + 1 + i) % 64 = 56 := by simpa using hc
        obtain rfl : i = z := (hz2 i hi).1 he
        clear ih
        have h8n : IntKind.u64.wrap (8 * n) = 8 * n := wu64 (by omega) (by omega)
        have hl8 : (digs 8 (8 * n)).length = 8 := digs_length _ _
        have hg : ∀ k, k < 8 → (digs 8 (8 * n)).reverse[k]? = some (8 * n / 256 ^ (7 - k) % 256) := by
          intro k hk
          rw [List.getElem?_reverse (by omega), hl8, digs_get 8 (8 * n) _ (by omega)]
        have hDl : (digs 8 (8 * n)).reverse.length = 8 := by simp [hl8]
        generalize (digs 8 (8 * n)).reverse = D at *
        refine loop_up (fun x : Nat × Nat × Nat × Nat => x.1 ≤ 8 ∧ x.2.2.2 ≠ 30) (fun x => ⟨tl 33 0 [(0, .int .u64 n), (3, .sl x.2.2.2 x.2.2.1 0 1 0 (1 + i + x.1)), (4, .int .i64 (7 - (x.1 : Int)))],
          [(x.2.2.2, x.2.2.1, .vec (.ints .u8 (128 :: (List.replicate i 0 ++ D.take x.1))))], ⟨x.2.1, [], 0⟩⟩) (fun x => 8 - x.1) (0, _, g, q) ⟨Nat.zero_le _, by simpa using hnm30⟩ ⟨rfl, ?_, ?_⟩ ?_
        · simp [tl, LeT]
        · intro m x hx; simpa [fnd] using hx
        · rintro ⟨k, c, g, q⟩ ⟨hk, hnm⟩ ih
          have hk : k ≤ 8 := hk
          obtain ⟨h1, h2⟩ := ne_eqs hnm
          refine absRun_ok TO 100 _ _ ?_
          simp only [List.take_succ_cons, List.take_zero, List.drop_succ_cons, List.drop_zero, pureOpC, buildV, fillC, intsP, cntC, arrPV, fieldV, gloadV, GT, unc, capV, sliceC, fitT, isEff, absD, pureStep, subB, svs, blks, AV.sv, absRun, absOps, absOp, evO, constSV, ungd, gdP, gdPs, setD, binI, binV, unV, convV, binS, T_ty, T_size, T_bytes, T_zero, tTy, tSize, tBytes, tZero, fieldOf, faddrV, iaddrV, indexV, extractV, lowI, highI, maxP, sliceV, pickV, pureOp, guardOf, memOp, lenV, loadV, newV, notIn, dataOf, nilD, appD, isSrc, scal, cellsOf, elemsOf, intsOf, strsOf, rowsOf, rowOf, zI, isStr, isB, isI, isA, known, cellAt, arrAt, takeC, dropC, setC, setA, blkAt, fnd, upd, del, mv, elemV, one, Data.len, Data.esz, Data.sub, Lim.add, retP, resV, retQ, rAs, rA, rA0, rAl, ownN, nodup, bares, bare, bare0, bareL, bareD, inRet, flats, flatV, flat1, flat2, guardIs, callP, callS, argS, argC, mAs, mA, mA0, mB0, rowsM, mAl, lowD, allNotIn, nm, impN, impB, impT, packS, delL, Op.operands, Call.operands, List.getD, List.getElem?_cons_zero, List.getElem?_cons_succ, List.getElem?_nil, Option.getD_some, Option.getD_none, List.set, List.map, List.all, List.toList_toArray, List.getElem?_toArray, Option.bind_some, Option.bind_none, Option.map_some, Option.map_none, Option.isSome, exitTo, true_and, and_true, false_and, and_false, and_self, implies_true, reduceIte, imp_self, if_true, if_false, ite_self, eq_self, ne_eq, not_false_eq_true, not_true_eq_false, false_implies, true_implies, forall_const, reduceCtorEq, Bool.false_eq_true, List.take_length, Nat.zero_add, Nat.add_zero, Int.sub_zero, Int.zero_add, Int.add_zero, Int.toNat_natCast, Int.cast_ofNat_Int, Int.reduceToNat, Int.reduceSub, Int.reduceAdd, Nat.le_refl, Int.le_refl, Int.toNat_zero, Int.reduceBNe, Int.reduceBEq, Bool.cond_true_left, Bool.cond_false_right, Bool.cond_true, Bool.cond_false, Option.toArray_some, Option.toArray_none, List.append_toArray, List.cons_append, List.nil_append, List.append_nil, List.size_toArray, List.length_cons, List.length_nil, Nat.reduceAdd, Nat.reduceSub, Nat.reduceMul, Nat.reduceDiv, Nat.reduceEqDiff, Nat.reduceBEq, Nat.reduceLeDiff, Nat.reduceLT, Nat.succ_ne_self, Bool.not_true, Bool.not_false, beq_self_eq_true, List.replicate_succ, List.replicate_zero, Bool.and_true, Bool.true_and, Bool.and_self, Bool.and_false, Bool.false_and, Bool.or_false, Bool.or_true, Bool.false_or, Bool.true_or, SV.sl.injEq, SV.int.injEq, Data.ints.injEq, tl, Int.reduceLT, Int.reduceLE, Int.reduceGT, Int.reduceGE, Int.reduceEq, Int.reduceNe, Int.reduceMul, Int.reduceNeg, decide_true, decide_false, gt_iff_lt, ge_iff_le, h1, h2, h8n]
          split
          · rename_i hc
            have hk8 : k < 8 := by simp at hc; omega
            have e1 : IntKind.i64.wrap (8 * (7 - (k : Int))) = 8 * ((7 - k : Nat) : Int) := by rw [w64 (by omega) (by omega)]; omega
            have e2 : IntKind.u64.wrap (8 * ((7 - k : Nat) : Int)) = 8 * ((7 - k : Nat) : Int) := wu64 (by omega) (by omega)
            have e3 : D.take k ++ [8 * n / 256 ^ (7 - k) % 256] = D.take (k + 1) := by rw [List.take_add_one, hg k hk8]; rfl
            rw [e1, e2, shr_bytes _ _ (by omega), wu8, List.append_assoc, e3, w64 (by omega) (by omega)]
            refine ⟨by omega, ⟨by simp; omega, by omega, by omega⟩, ?_⟩
            refine ih (k + 1, _, c + 1 + 1, 31) _ ⟨by simp only; omega, by simp⟩ (by simp only; omega) rfl ?_ ?_
            · simp [tl, LeT, hDl]; omega
            · intro m x hx
              simp [fnd] at hx ⊢
              obtain ⟨rfl, rfl⟩ := hx
              simp
          · rename_i hc
            obtain rfl : k = 8 := by simp at hc; omega
            rw [List.take_of_length_le (by omega)]
            simp [hDl]; omega
  · have hge : 1152921504606846976 ≤ n := by omega
    simp [hlt, hge, behL]

end Go.Proofs.YtcbeacpikgilnaaDoor.Abs
