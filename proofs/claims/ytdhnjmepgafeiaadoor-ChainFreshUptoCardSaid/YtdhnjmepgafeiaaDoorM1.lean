/- What mac.Mac does. -/
import Derived.Test.YtdhnjmepgafeiaaDoorSX
import Derived.Test.YtdhnjmepgafeiaaDoorM0
set_option linter.unusedVariables false
set_option linter.unusedSimpArgs false
set_option maxRecDepth 100000
namespace Go.Proofs.YtdhnjmepgafeiaaDoor.Abs
open Go Go.Proofs

def xorL (c : Int) (k : List Int) : List Int := k.map fun x => bitsI .xor .u8 x c
def xorTo (c : Int) (k : List Int) (i : Nat) : List Int := xorL c (k.take i) ++ k.drop i
def keyL (key : List Int) : List Int := if 64 < key.length then sumL key else key
def fillL (k : List Int) : List Int := k ++ List.replicate (64 - k.length) 0
def macK (k b : List Int) : List Int := sumL (xorL 92 k ++ sumL (xorL 54 k ++ b))
def macL (key b : List Int) : List Int := macK (fillL (keyL key)) b

theorem xorTo_set {c : Int} {k : List Int} {i : Nat} (h : i < k.length) : (xorTo c k i).set i (bitsI .xor .u8 ((xorTo c k i)[i]?.getD 0) c) = xorTo c k (i + 1) := by
  have hl : (xorL c (k.take i)).length = i := by simp [xorL]; omega
  have e1 : (xorTo c k i)[i]?.getD 0 = k[i] := by
    unfold xorTo
    rw [List.getElem?_append_right (by omega), hl]
    simp [h]
  rw [e1]
  unfold xorTo
  rw [List.set_append, if_neg (by omega), hl, Nat.sub_self, List.drop_eq_getElem_cons h, List.set_cons_zero]
  unfold xorL
  rw [List.take_add_one, List.getElem?_eq_getElem h, List.map_append, List.append_assoc]
  rfl

theorem xorTo_length {c : Int} {k : List Int} (i : Nat) : (xorTo c k i).length = k.length := by
  simp [xorTo, xorL]; omega

theorem xorTo_all {c : Int} {k : List Int} {i : Nat} (h : k.length = i) : xorTo c k i = xorL c k := by
  unfold xorTo; rw [List.take_of_length_le (by omega), List.drop_eq_nil_of_le (by omega), List.append_nil]

theorem xorL_length {c : Int} {k : List Int} : (xorL c k).length = k.length := List.length_map ..

theorem xorL_bytes {c : Int} {k : List Int} : Bytes (xorL c k) := by
  intro x hx
  obtain ⟨y, _, rfl⟩ := List.mem_map.1 hx
  have e : bitsI .xor .u8 y c = IntKind.u8.wrap ((BitVec.ofInt 8 y ^^^ BitVec.ofInt 8 c).toNat : Int) := rfl
  rw [e, wu8]
  omega

theorem outL_bytes (st : List Int) : ∀ i, Bytes (outL st i)
  | 0 => by intro x hx; cases hx
  | i + 1 => by
    intro x hx
    rcases List.mem_append.1 hx with h | h
    · exact outL_bytes st i x h
    · simp at h; subst h; unfold out1; rw [wu8]; omega

theorem sumL_bytes (b : List Int) : Bytes (sumL b) := outL_bytes _ _

theorem keyL_le (key : List Int) : (keyL key).length ≤ 64 := by
  unfold keyL; split
  · rw [sumL_length]; omega
  · omega

theorem fillL_length {k : List Int} (h : k.length ≤ 64) : (fillL k).length = 64 := by simp [fillL]; omega

theorem overI_fill {k : List Int} (h : k.length ≤ 64) : overI [0, 0, 0, 0, 0, 0, 0, 0, 0, 0, 0, 0, 0, 0, 0, 0, 0, 0, 0, 0, 0, 0, 0, 0, 0, 0, 0, 0, 0, 0, 0, 0, 0, 0, 0, 0, 0, 0, 0, 0, 0, 0, 0, 0, 0, 0, 0, 0, 0, 0, 0, 0, 0, 0, 0, 0, 0, 0, 0, 0, 0, 0, 0, 0] 0 64 k = fillL k := by
  rw [show ([0, 0, 0, 0, 0, 0, 0, 0, 0, 0, 0, 0, 0, 0, 0, 0, 0, 0, 0, 0, 0, 0, 0, 0, 0, 0, 0, 0, 0, 0, 0, 0, 0, 0, 0, 0, 0, 0, 0, 0, 0, 0, 0, 0, 0, 0, 0, 0, 0, 0, 0, 0, 0, 0, 0, 0, 0, 0, 0, 0, 0, 0, 0, 0] : List Int) = List.replicate 64 0 from rfl]
  unfold overI fillL
  rw [Nat.min_eq_left h, List.take_zero, List.nil_append, List.take_length, Nat.zero_add, List.drop_replicate]

def Mac_S (k b : List Int) (x : Nat × Nat × Nat × Nat) : St :=
  ⟨tl 44 0 [(1, .view false (.ints .u8 b)), (4, .ptr 4 2 0), (6, .ptr 6 x.2.1 0), (7, .ptr 7 x.2.2.1 0), (20, .int .i64 x.1)],
    [(4, 2, .cells [.arr .u8 32 (List.replicate 32 0)]), (6, x.2.1, .cells [.arr .u8 64 (xorTo 54 k x.1)]), (7, x.2.2.1, .cells [.arr .u8 64 (xorTo 92 k x.1)])], ⟨x.2.2.2, [], 0⟩⟩

set_option maxHeartbeats 4000000 in
theorem Mac_meets (key b : List Int) (hk : key.length ≤ 140737488355000) (hK : Bytes key) (hb : b.length ≤ 140737488354900) (hB : Bytes b) :
    Meets Tryd.prog 44 [.v (.view false (.ints .u8 key)), .v (.view false (.ints .u8 b))] [.v (.arr .u8 32 (macL key b))] := by
  refine meets_go TO 100 Tryd.func44 rfl (fun X => ?_)
  simp only [Tryd.ntmps44, Tryd.results44, pureOpC, unc, svs, blks, AV.sv, absRun, absOps, absOp, evO, constSV, ungd, gdP, gdPs, setD, binI, binV, ptrE, T_ty, T_size, T_zero, tTy, tSize, tZero, lowI, highI, maxP, sliceV, pureOp, memOp, lenV, loadV, newV, notIn, dataOf, arrAt, setA, blkAt, fnd, upd, Data.len, Lim.add, Op.operands, Call.operands, List.getD, List.getElem?_cons_zero, List.getElem?_cons_succ, Option.getD_some, List.set, List.toList_toArray, Option.map_none, true_and, and_self, if_true, if_false, ite_self, eq_self, ne_eq, not_false_eq_true, reduceCtorEq, Nat.zero_add, Int.sub_zero, Int.cast_ofNat_Int, Int.reduceToNat, Nat.le_refl, Int.le_refl, Int.toNat_zero, Option.toArray_none, List.append_toArray, List.cons_append, List.nil_append, List.append_nil, List.length_cons, List.length_nil, Nat.reduceAdd, Nat.reduceSub, Nat.reduceEqDiff, Nat.reduceLeDiff, Nat.succ_ne_self, List.replicate_succ, List.replicate_zero, Int.reduceLE, gt_iff_lt]
  have h0 : macL key b = macK (fillL (keyL key)) b := rfl
  have hkl : (fillL (keyL key)).length = 64 := fillL_length (keyL_le key)
  rw [h0]
  split
  case' isTrue hc =>
    have hc : 64 < key.length := by simp at hc; omega
    refine call_go TO 100 (Sum_meets key (by omega) hK) Tryd.func52 (by decide +kernel) rfl rfl rfl ?_
    simp only [List.drop_zero, pureOpC, unc, absRun, absOps, absOp, evO, constSV, ungd, gdP, gdPs, setD, T_ty, T_size, T_zero, tTy, tSize, tZero, lowI, highI, maxP, sliceV, pureOp, memOp, loadV, newV, notIn, dataOf, arrAt, setA, blkAt, fnd, upd, Lim.add, ownN, nodup, bares, bare, guardIs, callP, callS, argS, mAs, mA, mA0, mB0, lowD, allNotIn, impN, impB, impT, packS, delL, Op.operands, Call.operands, List.getD, List.getElem?_cons_zero, List.getElem?_cons_succ, Option.getD_some, List.set, List.map, List.toList_toArray, Option.map_none, true_and, and_self, if_true, if_false, ite_self, eq_self, ne_eq, not_false_eq_true, reduceCtorEq, Nat.zero_add, Int.sub_zero, Int.cast_ofNat_Int, Int.reduceToNat, Nat.le_refl, Int.le_refl, Int.toNat_zero, Option.toArray_none, List.append_toArray, List.nil_append, List.append_nil, Nat.reduceAdd, Nat.reduceEqDiff, Nat.reduceLeDiff, Nat.succ_ne_self, List.replicate_succ, List.replicate_zero, Bool.and_self, Int.reduceLE]
    rw [List.take_of_length_le (by rw [sumL_length]; omega), overI_fill (by rw [sumL_length]; omega), show fillL (sumL key) = fillL (keyL key) by unfold keyL; rw [if_pos hc]]
    generalize fillL (keyL key) = k at *
    refine loop_up (fun x => x.1 ≤ 64) (Mac_S k b) (fun x => 64 - x.1) (0, 6, 8, _) (Nat.zero_le _) ⟨rfl, by simp [Mac_S, tl, LeT], by
      intro n x hx
      simp only [Mac_S, fnd] at hx ⊢
      split at hx
      · rename_i h; subst h; simpa using hx
      split at hx
      · rename_i h; subst h; simpa [xorTo, xorL] using hx
      split at hx
      · rename_i h; subst h; simpa [xorTo, xorL] using hx
      · cases hx⟩ ?_
  case' isFalse hc =>
    have hc : ¬ 64 < key.length := by simp at hc; omega
    rw [overI_fill (by omega), show fillL key = fillL (keyL key) by unfold keyL; rw [if_neg hc]]
    generalize fillL (keyL key) = k at *
    refine loop_up (fun x => x.1 ≤ 64) (Mac_S k b) (fun x => 64 - x.1) (0, 4, 6, _) (Nat.zero_le _) ⟨rfl, by simp [Mac_S, tl, LeT], by intro n x hx; simpa [Mac_S, fnd, xorTo, xorL] using hx⟩ ?_
  all_goals
    clear hc
    rintro ⟨i, g6, g7, c⟩ hi ih
    have hi : i ≤ 64 := hi
    refine absRun_ok TO 100 _ _ ?_
    simp only [Mac_S, pureOpC, unc, absRun, absOps, absOp, evO, constSV, ungd, gdP, gdPs, setD, binI, binV, ptrE, T_ty, T_size, tTy, tSize, iaddrV, lowI, highI, maxP, sliceV, pureOp, memOp, loadV, newV, notIn, scal, elemsOf, rowsOf, rowOf, arrAt, setA, blkAt, fnd, upd, Lim.add, Op.operands, List.getD, List.getElem?_cons_zero, List.getElem?_cons_succ, Option.getD_some, List.set, List.map, List.all, List.toList_toArray, Option.map_some, Option.map_none, Option.isSome, exitTo, true_and, and_self, if_true, if_false, ite_self, eq_self, ne_eq, not_false_eq_true, Nat.zero_add, Int.sub_zero, Int.toNat_natCast, Int.cast_ofNat_Int, Int.reduceToNat, Nat.le_refl, Int.le_refl, Int.toNat_zero, Option.toArray_none, List.append_toArray, List.cons_append, List.nil_append, List.append_nil, List.length_cons, List.length_nil, Nat.reduceAdd, Nat.reduceSub, Nat.reduceEqDiff, Nat.reduceLeDiff, Nat.succ_ne_self, beq_self_eq_true, List.replicate_succ, List.replicate_zero, Bool.and_true, Bool.and_self, tl, Int.reduceLE]
    split
    · rename_i hc
      have hi' : i < 64 := by simp at hc; omega
      repeat refine ⟨by omega, ?_⟩
      rw [w64 (by omega) (by omega)]
      refine ih (i + 1, g6, g7, _) _ (by simp only; omega) (by simp only; omega) rfl ?_ ?_
      · simp [Mac_S, tl, LeT]
      · intro n x hx
        simp only [Mac_S] at hx
        rw [← xorTo_set (by omega), ← xorTo_set (by omega)] at hx
        simpa [fnd] using hx
    · rename_i hc
      have hi' : i = 64 := by simp at hc; omega
      subst hi'
      rw [xorTo_all hkl, xorTo_all hkl]
      have l54 := xorL_length (c := 54) (k := k)
      have l92 := xorL_length (c := 92) (k := k)
      have b54 := xorL_bytes (c := 54) (k := k)
      have b92 := xorL_bytes (c := 92) (k := k)
      have hm : macK k b = sumL (xorL 92 k ++ sumL (xorL 54 k ++ b)) := rfl
      rw [hm]
      generalize xorL 54 k = k1 at *
      generalize xorL 92 k = k2 at *
      have e1 : ∀ a b : List Int, [a, b].flatten = a ++ b := by simp
      have hA := all_meets [k1, b] (by rw [e1, List.length_append]; omega) (by simp)
      rw [e1] at hA
      refine call_go TO 100 hA Tryd.func35 (by decide +kernel) rfl rfl rfl ?_
      simp only [List.drop_zero, pureOpC, unc, absOps, absOp, evO, ungd, gdP, gdPs, pureOp, memOp, notIn, arrAt, blkAt, fnd, upd, Data.len, Data.esz, ownN, nodup, bares, bare, bareD, guardIs, callP, callS, argS, mAs, mA, mA0, mB0, rowsM, lowD, allNotIn, nm, impN, impB, impT, packS, delL, List.getD, List.getElem?_cons_zero, List.getElem?_cons_succ, Option.getD_some, List.set, List.map, true_and, and_true, and_self, if_true, if_false, ite_self, eq_self, Nat.zero_add, Nat.add_zero, Int.cast_ofNat_Int, Nat.le_refl, List.cons_append, List.nil_append, List.length_cons, List.length_nil, Nat.reduceAdd, Nat.reduceMul, Nat.reduceEqDiff, Nat.reduceLeDiff, Bool.and_self, Data.ints.injEq, Int.reduceLT, decide_false]
      refine ⟨List.take_of_length_le (by omega), ?_⟩
      refine call_go TO 100 (Sum_meets (k1 ++ b) (by rw [List.length_append]; omega) (b54.app hB)) Tryd.func52 (by decide +kernel) rfl rfl rfl ?_
      simp only [List.drop_zero, pureOpC, unc, absRun, absOps, absOp, evO, ungd, gdP, gdPs, setD, T_ty, T_size, T_zero, tTy, tSize, tZero, pureOp, memOp, newV, notIn, arrAt, setA, blkAt, fnd, upd, Data.len, Data.esz, Data.sub, Lim.add, ownN, nodup, bares, bare, guardIs, callP, callS, argS, mAs, mA, mA0, mB0, lowD, allNotIn, impN, impB, impT, packS, delL, Op.operands, List.getD, List.getElem?_cons_zero, List.getElem?_cons_succ, Option.getD_some, List.set, List.map, List.toList_toArray, Option.map_none, true_and, and_self, if_true, if_false, ite_self, eq_self, ne_eq, not_false_eq_true, reduceCtorEq, List.take_length, Nat.zero_add, Nat.le_refl, List.nil_append, Nat.reduceEqDiff, Nat.reduceLeDiff, List.replicate_succ, List.replicate_zero, Bool.and_self]
      have ls := sumL_length (k1 ++ b)
      have bs := sumL_bytes (k1 ++ b)
      generalize sumL (k1 ++ b) = q at *
      refine draw_go TO 5 100 mixed_ok (by decide +kernel) ?_
      simp only [List.take_succ_cons, List.take_zero, List.drop_succ_cons, List.drop_zero, pureOpC, gloadV, GT, unc, isEff, absD, pureStep, subB, absRun, absOps, absOp, evO, constSV, ungd, gdP, gdPs, setD, T_ty, T_size, tTy, tSize, lowI, highI, maxP, sliceV, pureOp, memOp, loadV, newV, notIn, scal, elemsOf, rowsOf, rowOf, arrAt, blkAt, fnd, upd, Data.len, Data.esz, Lim.add, retP, resV, retQ, rAs, rA, rA0, ownN, nodup, bares, bare, Op.operands, List.getD, List.getElem?_cons_zero, List.getElem?_cons_succ, Option.getD_some, List.set, List.map, List.all, List.toList_toArray, Option.map_some, Option.map_none, Option.isSome, true_and, and_true, and_false, and_self, implies_true, imp_self, if_true, if_false, ite_self, eq_self, ne_eq, not_false_eq_true, forall_const, reduceCtorEq, Nat.zero_add, Int.sub_zero, Int.cast_ofNat_Int, Int.reduceToNat, Int.le_refl, Int.toNat_zero, Option.toArray_none, List.append_toArray, List.append_nil, List.length_cons, List.length_nil, Nat.reduceAdd, Nat.reduceEqDiff, Nat.reduceLeDiff, Nat.succ_ne_self, Bool.and_self, Int.reduceLE]
      have hA2 := all_meets [k2, q] (by rw [e1, List.length_append]; omega) (by simp)
      rw [e1] at hA2
      refine callD_go TO (fun s' h' => HOps_go TO 100 h') hA2 Tryd.func35 (by decide +kernel) rfl rfl rfl ?_
      simp only [List.drop_zero, pureOpC, unc, isEff, absD, subB, absOp, evO, ungd, gdP, gdPs, pureOp, memOp, notIn, arrAt, blkAt, fnd, upd, Data.len, Data.esz, ownN, nodup, bares, bare, bareD, guardIs, callP, callS, argS, mAs, mA, mA0, mB0, rowsM, allNotIn, nm, impN, impB, impT, packS, delL, List.getD, List.getElem?_cons_zero, List.getElem?_cons_succ, Option.getD_some, List.set, List.map, true_and, and_true, and_self, if_true, if_false, ite_self, eq_self, Nat.zero_add, Nat.add_zero, Nat.le_refl, List.cons_append, List.nil_append, List.length_cons, List.length_nil, Nat.reduceAdd, Nat.reduceMul, Nat.reduceEqDiff, Nat.reduceLeDiff, Nat.succ_ne_self, Bool.and_self, Data.ints.injEq]
      refine ⟨⟨List.take_of_length_le (by omega), List.take_of_length_le (by omega)⟩, ?_⟩
      refine callD_go TO (fun s' h' => HOps_go TO 100 h') (Sum_meets (k2 ++ q) (by rw [List.length_append]; omega) (b92.app bs)) Tryd.func52 (by decide +kernel) rfl rfl rfl ?_
      simp only [List.drop_zero, pureOpC, unc, absD, subB, absRun, absOps, absOp, evO, ungd, gdP, gdPs, setD, T_ty, T_size, tTy, tSize, pureOp, memOp, loadV, notIn, arrAt, setA, blkAt, fnd, upd, Data.len, Data.esz, Data.sub, retP, resV, retQ, rAs, rA, ownN, nodup, bares, bare, guardIs, callP, callS, argS, mAs, mA, mA0, mB0, lowD, allNotIn, impN, impB, impT, packS, delL, Op.operands, List.getD, List.getElem?_cons_zero, List.getElem?_cons_succ, Option.getD_some, List.set, List.map, List.toList_toArray, Option.map_none, and_self, if_true, if_false, ite_self, eq_self, ne_eq, not_false_eq_true, reduceCtorEq, List.take_length, Nat.zero_add, Nat.le_refl, List.nil_append, Nat.reduceEqDiff, Nat.reduceLeDiff, Nat.succ_ne_self, Bool.and_self]

end Go.Proofs.YtdhnjmepgafeiaaDoor.Abs
