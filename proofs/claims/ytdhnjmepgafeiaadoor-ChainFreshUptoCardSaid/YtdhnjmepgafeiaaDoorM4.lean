/- What the document's Mac does. -/
import Derived.Test.YtdhnjmepgafeiaaDoorM3
set_option linter.unusedVariables false
set_option linter.unusedSimpArgs false
set_option maxRecDepth 100000
namespace Go.Proofs.YtdhnjmepgafeiaaDoor.Abs
open Go Go.Proofs

def rMac_S (b K : List Int) (x : Nat × Nat × Nat × Nat) : St :=
  ⟨tl 74 0 [(1, .view false (.ints .u8 b)), (4, .ptr 4 2 0), (5, .sl x.2.1 x.2.2.1 0 1 0 (K.length + x.1))],
    [(4, 2, .cells [.arr .u8 32 (List.replicate 32 0)]), (x.2.1, x.2.2.1, .vec (.ints .u8 (K ++ List.replicate x.1 0)))], ⟨x.2.2.2, [], 0⟩⟩

theorem rMac_meets (key b : List Int) (hk : key.length ≤ 140737488355000) (hK : Bytes key) (hb : b.length ≤ 140737488354900) (hB : Bytes b) :
    Meets Tryd.prog 49 [.v (.view false (.ints .u8 key)), .v (.view false (.ints .u8 b))] [.v (.arr .u8 32 (macL key b))] := by
  have h0 : macL key b = macK (fillL (keyL key)) b := rfl
  have hkl : (keyL key).length ≤ 64 := keyL_le key
  have hfl := fillL_length hkl
  rw [h0]
  refine meets_go TO 100 Tryd.func49 rfl (fun X => ?_)
  simp only [Tryd.ntmps49, Tryd.results49, pureOpC, unc, fitT, svs, blks, AV.sv, absRun, absOps, absOp, evO, constSV, ungd, gdP, gdPs, setD, binI, binV, ptrE, T_ty, T_size, T_bytes, T_zero, tTy, tSize, tBytes, tZero, pureOp, memOp, lenV, newV, notIn, dataOf, isSrc, zI, upd, Data.len, Data.esz, Lim.add, Op.operands, Call.operands, List.getD, List.getElem?_cons_zero, List.getElem?_cons_succ, Option.getD_some, List.set, List.toList_toArray, true_and, and_self, if_false, eq_self, ne_eq, not_false_eq_true, reduceCtorEq, Nat.zero_add, List.append_toArray, List.cons_append, List.nil_append, List.length_cons, List.length_nil, Nat.reduceAdd, Nat.reduceSub, Nat.reduceEqDiff, List.replicate_succ, List.replicate_zero, gt_iff_lt]
  split
  case' isTrue hc =>
    have hc : 64 < key.length := by simp at hc; omega
    refine call_go TO 100 (rSum_meets key (by omega) hK) Tryd.func53 (by decide +kernel) rfl rfl rfl ?_
    have e0 : keyL key = sumL key := by unfold keyL; rw [if_pos hc]
    have hs := sumL_length key
    rw [e0] at h0 hkl hfl ⊢
    simp only [pureOpC, unc, absRun, absOps, absOp, evO, constSV, ungd, gdP, gdPs, setD, T_ty, T_size, T_zero, tTy, tSize, tZero, pureOp, memOp, newV, notIn, arrAt, setA, blkAt, fnd, upd, Lim.add, ownN, nodup, bares, bare, guardIs, callP, callS, argS, mAs, mA, mA0, mB0, lowD, allNotIn, impN, impB, impT, packS, delL, Op.operands, List.getD, List.getElem?_cons_zero, List.getElem?_cons_succ, Option.getD_some, List.set, List.map, List.toList_toArray, Option.map_none, true_and, and_self, if_true, if_false, ite_self, eq_self, ne_eq, not_false_eq_true, reduceCtorEq, Nat.zero_add, List.append_nil, Nat.reduceAdd, Nat.reduceEqDiff, Nat.reduceLeDiff, List.replicate_succ, List.replicate_zero, Bool.and_self]
    refine nil_go 5 27 (.ints .u8 []) rfl ⟨by simp, rfl⟩ ?_
    generalize sumL key = K at *
    refine loop_up (fun x : Nat × Nat × Nat => x.1 ≤ 32) (fun x =>
      ⟨tl 74 0 [(1, .view false (.ints .u8 b)), (4, .ptr 4 2 0), (5, .sl 27 x.2.1 0 1 0 x.1), (6, .ptr 6 5 0), (7, .int .i64 x.1)],
        [(4, 2, .cells [.arr .u8 32 (List.replicate 32 0)]), (6, 5, .cells [.arr .u8 32 K]), (27, x.2.1, .vec (.ints .u8 (K.take x.1)))], ⟨x.2.2, [], 0⟩⟩) (fun x => 32 - x.1) (0, 7, _) (Nat.zero_le _) ⟨rfl, by simp [tl, LeT, Data.esz], by intro n x hx; simpa [fnd, upd] using hx⟩ ?_
    rintro ⟨i, g, c⟩ hi ih
    have hi : i ≤ 32 := hi
    refine absRun_ok TO 100 _ _ ?_
    simp only [List.take_succ_cons, List.take_zero, List.drop_zero, pureOpC, unc, fitT, absRun, absOps, absOp, evO, constSV, ungd, gdP, gdPs, setD, binI, binV, ptrE, T_ty, T_size, T_bytes, T_zero, tTy, tSize, tBytes, tZero, iaddrV, pureOp, memOp, loadV, newV, notIn, dataOf, appD, isSrc, elemsOf, intsOf, zI, arrAt, blkAt, fnd, upd, del, mv, Data.len, Data.esz, Data.sub, Lim.add, Op.operands, Call.operands, List.getD, List.getElem?_cons_zero, List.getElem?_cons_succ, Option.getD_some, List.set, List.map, List.toList_toArray, Option.map_some, exitTo, true_and, and_self, if_true, if_false, ite_self, eq_self, ne_eq, not_false_eq_true, Nat.zero_add, Int.toNat_natCast, Int.cast_ofNat_Int, Nat.le_refl, List.append_toArray, List.cons_append, List.nil_append, List.length_cons, List.length_nil, Nat.reduceAdd, Nat.reduceSub, Nat.reduceEqDiff, Nat.reduceLeDiff, Nat.succ_ne_self, beq_self_eq_true, List.replicate_succ, List.replicate_zero, tl]
    split
    · rename_i hc2
      have hi' : i < 32 := by simp at hc2; omega
      have ht : K.take (i + 1) = K.take i ++ [K[i]?.getD 0] := by
        rw [List.take_add_one, List.getElem?_eq_getElem (by omega)]; simp
      have hti : (K.take i).length = i := by rw [List.length_take]; omega
      repeat refine ⟨by omega, ?_⟩
      rw [w64 (by omega) (by omega), ← ht]
      refine ih (i + 1, c + 1 + 1, _) _ (by simp only; omega) (by simp only; omega) rfl ?_ ?_
      · simp [tl, LeT]; omega
      · intro n x hx
        simp only [fnd] at hx ⊢
        split at hx
        · rename_i h; subst h; simpa using hx
        split at hx
        · rename_i h; subst h; simpa using hx
        split at hx
        · rename_i h; subst h; simpa using hx
        · cases hx
    rename_i hc2
    have hi' : i = 32 := by simp at hc2; omega
    subst hi'
    rw [List.take_of_length_le (by omega)]
    clear ih hi hc2
    refine loop_up (fun x : Nat × Nat × Nat × Nat => x.1 ≤ 64 - K.length ∧ (x.2.1 = 27 ∨ x.2.1 = 30 ∨ x.2.1 = 36)) (rMac_S b K) (fun x => 64 - K.length - x.1) (0, 27, g, _) ⟨Nat.zero_le _, by simp⟩ ⟨rfl, by simp [rMac_S, tl, LeT, hs], by
      intro n x hx
      simp only [rMac_S, fnd] at hx ⊢
      split at hx
      · rename_i h; subst h; simpa using hx
      split at hx
      · rename_i h; subst h; simpa using hx
      · cases hx⟩ ?_
    clear hs
  case' isFalse hc =>
    have hc : ¬ 64 < key.length := by simp at hc; omega
    have e0 : keyL key = key := by unfold keyL; rw [if_neg hc]
    rw [e0] at h0 hkl hfl ⊢
    refine ⟨⟨by omega, by omega⟩, ?_⟩
    refine loop_up (fun x : Nat × Nat × Nat × Nat => x.1 ≤ 64 - key.length ∧ (x.2.1 = 27 ∨ x.2.1 = 30 ∨ x.2.1 = 36)) (rMac_S b key) (fun x => 64 - key.length - x.1) (0, 30, 5, _) ⟨Nat.zero_le _, by simp⟩ ⟨rfl, by simp [rMac_S, tl, LeT], by
      intro n x hx
      simp only [rMac_S, fnd] at hx ⊢
      split at hx
      · rename_i h; subst h; simpa using hx
      split at hx
      · rename_i h; subst h; simpa using hx
      · cases hx⟩ ?_
    generalize key = K at *
  all_goals
    clear h0 e0 hc
    rintro ⟨j, q, g, c⟩ ⟨hj, hq⟩ ih
    have hj : j ≤ 64 - K.length := hj
    have hq : q = 27 ∨ q = 30 ∨ q = 36 := hq
    refine absRun_ok TO 100 _ _ ?_
    have hq4 := ne_eqs (show q ≠ 4 by omega)
    have hr : (K ++ List.replicate j 0).length = K.length + j := by simp
    simp only [rMac_S, List.drop_zero, pureOpC, unc, fitT, absRun, absOps, absOp, evO, constSV, ungd, gdP, gdPs, setD, binI, binV, ptrE, T_ty, T_size, T_bytes, T_zero, tTy, tSize, tBytes, tZero, pureOp, memOp, lenV, newV, notIn, dataOf, appD, isSrc, elemsOf, intsOf, zI, blkAt, fnd, upd, del, mv, Data.len, Data.esz, Data.sub, Lim.add, Op.operands, Call.operands, List.getD, List.getElem?_cons_zero, List.getElem?_cons_succ, Option.getD_some, List.set, List.map, List.toList_toArray, Option.map_some, exitTo, true_and, and_true, and_self, if_true, if_false, eq_self, forall_const, Nat.zero_add, List.append_toArray, List.cons_append, List.nil_append, List.length_cons, List.length_nil, Nat.reduceAdd, Nat.reduceSub, Nat.reduceEqDiff, Nat.reduceLeDiff, Nat.succ_ne_self, beq_self_eq_true, List.replicate_succ, List.replicate_zero, tl, hq4]
    split
    · rename_i hc
      have hj' : K.length + j < 64 := by simp at hc; omega
      rcases hq with rfl | rfl | rfl
      all_goals
        simp only [List.take_succ_cons, List.take_zero, fnd, upd, del, List.getElem?_cons_zero, List.getElem?_cons_succ, Option.getD_some, List.set, true_and, and_self, if_true, if_false, eq_self, Nat.zero_add, Nat.le_refl, List.length_cons, List.length_nil, Nat.reduceEqDiff, Nat.reduceLeDiff, Nat.succ_ne_self]
        refine ⟨⟨by omega, by omega, by omega⟩, ?_⟩
        have hs1 : K ++ List.replicate j 0 ++ [(0 : Int)] = K ++ List.replicate (j + 1) 0 := by
          rw [List.append_assoc, ← List.replicate_succ']
        have hr1 : (K ++ List.replicate (j + 1) (0 : Int)).length = K.length + (j + 1) := by simp
        rw [hs1, hr1]
        refine ih (j + 1, 36, c + 1 + 1, _) _ ⟨by simp only; omega, by simp⟩ (by simp only; omega) rfl ?_ ?_
        · simp [rMac_S, tl, LeT]
        · intro n x hx
          simp only [rMac_S, fnd] at hx ⊢
          split at hx
          · rename_i h; subst h; simpa using hx
          split at hx
          · rename_i h; subst h; simpa using hx
          · cases hx
    · rename_i hc
      have hj' : j = 64 - K.length := by simp at hc; omega
      subst hj'
      have hK : K ++ List.replicate (64 - K.length) 0 = fillL K := rfl
      rw [hK] at hr ⊢
      rw [show K.length + (64 - K.length) = 64 by omega] at hr ⊢
      refine nil_go 8 48 (.ints .u8 []) rfl ⟨by simp, rfl⟩ ?_
      refine nil_go 9 56 (.ints .u8 []) rfl ⟨by simp, rfl⟩ ?_
      clear ih hj hK hc
      generalize fillL K = k at *
      have n1 := ne_eqs (show q ≠ 47 by omega)
      have n2 := ne_eqs (show q ≠ 48 by omega)
      have n3 := ne_eqs (show q ≠ 55 by omega)
      have n4 := ne_eqs (show q ≠ 56 by omega)
      have n5 := ne_eqs (show q ≠ 59 by omega)
      have n6 := ne_eqs (show q ≠ 11 by omega)
      have hx : ∀ (c : Int) (i : Nat), i < 64 → xorL c (k.take (i + 1)) = xorL c (k.take i) ++ [bitsI .xor .u8 (k[i]?.getD 0) c] := by
        intro c i hi
        unfold xorL
        rw [List.take_add_one, List.getElem?_eq_getElem (by omega), List.map_append]
        rfl
      have hxl : ∀ (c : Int) (i : Nat), i ≤ 64 → (xorL c (k.take i)).length = i := by
        intro c i hi
        rw [xorL_length, List.length_take]; omega
      refine loop_up (fun x : Nat × Nat × Nat × Nat => x.1 ≤ 64) (fun x =>
        ⟨tl 74 0 [(1, .view false (.ints .u8 b)), (4, .ptr 4 2 0), (5, .sl q g 0 1 0 64), (8, .sl 48 x.2.1 0 1 0 x.1), (9, .sl 56 x.2.2.1 0 1 0 x.1), (10, .int .i64 x.1)],
          [(4, 2, .cells [.arr .u8 32 (List.replicate 32 0)]), (q, g, .vec (.ints .u8 k)), (48, x.2.1, .vec (.ints .u8 (xorL 54 (k.take x.1)))), (56, x.2.2.1, .vec (.ints .u8 (xorL 92 (k.take x.1))))], ⟨x.2.2.2, [], 0⟩⟩) (fun x => 64 - x.1)
        (0, c + 1 + 1 + 1 + 1, c + 1 + 1 + 1 + 1 + 1 + 1, _) (Nat.zero_le _) ⟨rfl, ?_, ?_⟩ ?_
      · simp [tl, LeT, Data.esz]
      · intro n x hx
        simpa [fnd, upd, n2, n4, hq4, xorL] using hx
      rintro ⟨i, g8, g9, c⟩ hi ih
      have hi : i ≤ 64 := hi
      refine absRun_ok TO 100 _ _ ?_
      simp only [List.take_succ_cons, List.take_zero, List.drop_zero, pureOpC, unc, fitT, absRun, absOps, absOp, evO, constSV, ungd, gdP, gdPs, setD, binI, binV, ptrE, T_ty, T_size, T_bytes, T_zero, tTy, tSize, tBytes, tZero, iaddrV, pureOp, memOp, loadV, newV, notIn, dataOf, appD, isSrc, elemsOf, intsOf, zI, blkAt, fnd, upd, del, mv, elemV, Data.len, Data.esz, Data.sub, Lim.add, Op.operands, Call.operands, List.getD, List.getElem?_cons_zero, List.getElem?_cons_succ, Option.getD_some, List.set, List.map, List.toList_toArray, Option.map_some, exitTo, true_and, and_self, if_true, if_false, eq_self, ne_eq, not_false_eq_true, Nat.zero_add, Int.toNat_natCast, Int.cast_ofNat_Int, Nat.le_refl, List.append_toArray, List.cons_append, List.nil_append, List.length_cons, List.length_nil, Nat.reduceAdd, Nat.reduceSub, Nat.reduceEqDiff, Nat.reduceLeDiff, Nat.succ_ne_self, beq_self_eq_true, List.replicate_succ, List.replicate_zero, tl, hq4, n1, n2, n3, n4, n5]
      split
      · rename_i hc
        have hi' : i < 64 := by simp at hc; omega
        have l1 := hxl 54 i hi
        have l2 := hxl 92 i hi
        refine ⟨by omega, by omega, by omega, by omega, by omega, by omega, ?_⟩
        rw [w64 (by omega) (by omega), ← hx 54 i hi', ← hx 92 i hi', hxl 54 (i + 1) hi', hxl 92 (i + 1) hi']
        refine ih (i + 1, c + 1 + 1, c + 1 + 1 + 1, _) _ (by simp only; omega) (by simp only; omega) rfl ?_ ?_
        · simp [tl, LeT]
        · intro n x hx
          simp only [fnd] at hx ⊢
          split at hx
          · rename_i h; subst h; simpa using hx
          split at hx
          · rename_i h; subst h; simpa [hq4] using hx
          split at hx
          · rename_i h; subst h; simpa [n2] using hx
          split at hx
          · rename_i h; subst h; simpa [n4] using hx
          · cases hx
      · rename_i hc
        have hi' : i = 64 := by simp at hc; omega
        subst hi'
        rw [List.take_of_length_le (by omega)]
        clear ih hi hc hx hxl
        have l54 := xorL_length (c := 54) (k := k)
        have l92 := xorL_length (c := 92) (k := k)
        have b54 := xorL_bytes (c := 54) (k := k)
        have b92 := xorL_bytes (c := 92) (k := k)
        have hm : macK k b = sumL (xorL 92 k ++ sumL (xorL 54 k ++ b)) := rfl
        rw [hm]
        generalize xorL 54 k = k1 at *
        generalize xorL 92 k = k2 at *
        refine ⟨by omega, ?_⟩
        refine call_go TO 100 (rSum_meets (k1 ++ b) (by rw [List.length_append]; omega) (b54.app hB)) Tryd.func53 (by decide +kernel) rfl rfl rfl ?_
        simp only [List.drop_zero, pureOpC, unc, absRun, absOps, absOp, evO, constSV, ungd, gdP, gdPs, setD, T_ty, T_size, T_zero, tTy, tSize, tZero, pureOp, memOp, newV, notIn, arrAt, setA, blkAt, fnd, upd, Data.len, Data.esz, Data.sub, Lim.add, ownN, nodup, bares, bare, guardIs, callP, callS, argS, mAs, mA, mA0, mB0, lowD, allNotIn, impN, impB, impT, packS, delL, Op.operands, List.getD, List.getElem?_cons_zero, List.getElem?_cons_succ, Option.getD_some, List.set, List.map, List.toList_toArray, Option.map_none, true_and, and_self, if_true, if_false, ite_self, eq_self, ne_eq, not_false_eq_true, reduceCtorEq, List.take_length, Nat.zero_add, Int.cast_ofNat_Int, Nat.le_refl, List.append_nil, Nat.reduceEqDiff, Nat.reduceLeDiff, List.replicate_succ, List.replicate_zero, Bool.and_self, Int.reduceLT, decide_false, n5, n6]
        have ls := sumL_length (k1 ++ b)
        have bs := sumL_bytes (k1 ++ b)
        generalize sumL (k1 ++ b) = s at *
        generalize hg11 : c + 1 + 1 + 1 = g11
        clear n1 n2 n3 n5
        refine loop_up (fun x : Nat × Nat × Nat × Nat => x.1 ≤ 32 ∧ (x.2.1 = 56 ∨ x.2.1 = 71)) (fun x =>
          ⟨tl 74 0 [(4, .ptr 4 2 0), (9, .sl x.2.1 x.2.2.1 0 1 0 (64 + x.1)), (11, .ptr 11 g11 0), (12, .int .i64 x.1)],
            [(4, 2, .cells [.arr .u8 32 (List.replicate 32 0)]), (11, g11, .cells [.arr .u8 32 s]), (x.2.1, x.2.2.1, .vec (.ints .u8 (k2 ++ s.take x.1)))], ⟨x.2.2.2, [], 0⟩⟩) (fun x => 32 - x.1)
          (0, 56, g9, _) ⟨Nat.zero_le _, by simp⟩ ⟨rfl, ?_, ?_⟩ ?_
        · simp [tl, LeT]
        · intro n x hx
          simp only [fnd] at hx ⊢
          split at hx
          · rename_i h; subst h; simpa using hx
          split at hx
          · rename_i h; subst h; simpa [n6] using hx
          split at hx
          · rename_i h; subst h; simpa [n4] using hx
          · cases hx
        rintro ⟨j, q2, g10, c⟩ ⟨hj, hq2⟩ ih
        have hj : j ≤ 32 := hj
        have hq2 : q2 = 56 ∨ q2 = 71 := hq2
        have m1 := ne_eqs (show q2 ≠ 4 by omega)
        have m2 := ne_eqs (show q2 ≠ 11 by omega)
        have hlj : (k2 ++ s.take j).length = 64 + j := by rw [List.length_append, List.length_take]; omega
        refine absRun_ok TO 100 _ _ ?_
        simp only [List.drop_zero, pureOpC, unc, fitT, absRun, absOps, absOp, evO, constSV, ungd, gdP, gdPs, setD, binI, binV, ptrE, binS, T_ty, T_size, T_bytes, T_zero, tTy, tSize, tBytes, tZero, iaddrV, pureOp, memOp, loadV, newV, notIn, dataOf, appD, isSrc, elemsOf, intsOf, zI, arrAt, blkAt, fnd, upd, del, mv, Data.len, Data.esz, Data.sub, Lim.add, Op.operands, Call.operands, List.getD, List.getElem?_cons_zero, List.getElem?_cons_succ, Option.getD_some, List.set, List.map, List.toList_toArray, Option.map_some, exitTo, true_and, and_true, and_self, implies_true, imp_self, if_true, if_false, ite_self, eq_self, ne_eq, not_false_eq_true, forall_const, reduceCtorEq, Nat.zero_add, Int.toNat_natCast, Int.cast_ofNat_Int, Nat.le_refl, List.append_toArray, List.cons_append, List.nil_append, List.length_cons, List.length_nil, Nat.reduceAdd, Nat.reduceSub, Nat.reduceEqDiff, Nat.reduceLeDiff, Nat.succ_ne_self, beq_self_eq_true, List.replicate_succ, List.replicate_zero, tl, m1, m2]
        split
        · rename_i hc
          have hj' : j < 32 := by simp at hc; omega
          have hs1 : k2 ++ s.take (j + 1) = k2 ++ s.take j ++ [s[j]?.getD 0] := by
            rw [List.take_add_one, List.getElem?_eq_getElem (by omega), List.append_assoc]; simp
          have hlj1 : (k2 ++ s.take (j + 1)).length = 64 + (j + 1) := by rw [List.length_append, List.length_take]; omega
          rcases hq2 with rfl | rfl
          all_goals
            simp only [List.take_succ_cons, List.take_zero, fnd, upd, del, List.getElem?_cons_zero, List.getElem?_cons_succ, Option.getD_some, List.set, true_and, and_self, if_true, if_false, eq_self, Nat.zero_add, Nat.le_refl, List.length_cons, List.length_nil, Nat.reduceEqDiff, Nat.reduceLeDiff, Nat.succ_ne_self, ← hs1]
            repeat refine ⟨by omega, ?_⟩
            rw [w64 (by omega) (by omega), hlj1]
            refine ih (j + 1, 71, c + 1 + 1, _) _ ⟨by simp only; omega, by simp⟩ (by simp only; omega) rfl ?_ ?_
            · simp [tl, LeT]
            · intro n x hx
              simp only [fnd] at hx ⊢
              split at hx
              · rename_i h; subst h; simpa using hx
              split at hx
              · rename_i h; subst h; simpa using hx
              split at hx
              · rename_i h; subst h; simpa using hx
              · cases hx
        · rename_i hc
          have hj' : j = 32 := by simp at hc; omega
          subst hj'
          rw [List.take_of_length_le (by omega)] at hlj ⊢
          refine call_go TO 100 (rSum_meets (k2 ++ s) (by omega) (b92.app bs)) Tryd.func53 (by decide +kernel) rfl rfl rfl ?_
          simp only [List.drop_zero, pureOpC, unc, absRun, absOps, absOp, evO, ungd, gdP, gdPs, setD, T_ty, T_size, tTy, tSize, pureOp, memOp, loadV, notIn, arrAt, setA, blkAt, fnd, upd, Data.len, Data.esz, Data.sub, retP, resV, retQ, rAs, rA, ownN, nodup, bares, bare, guardIs, callP, callS, argS, mAs, mA, mA0, mB0, lowD, allNotIn, impN, impB, impT, packS, delL, Op.operands, List.getD, List.getElem?_cons_zero, List.getElem?_cons_succ, Option.getD_some, List.set, List.map, List.toList_toArray, Option.map_none, true_and, and_true, and_self, if_true, if_false, ite_self, eq_self, ne_eq, not_false_eq_true, reduceCtorEq, Nat.zero_add, Int.cast_ofNat_Int, List.append_nil, Nat.reduceAdd, Nat.reduceEqDiff, Nat.reduceLeDiff, Bool.and_self, Data.ints.injEq, Int.reduceLT, decide_false, m1, m2]
          exact ⟨by omega, List.take_of_length_le (by omega)⟩

end Go.Proofs.YtdhnjmepgafeiaaDoor.Abs
