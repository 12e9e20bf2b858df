/- What the document's half, signature, Sign, Check do. -/
import Derived.Test.YtdhnjmepgafeiaaDoorM4
set_option linter.unusedVariables false
set_option linter.unusedSimpArgs false
set_option maxRecDepth 100000
namespace Go.Proofs.YtdhnjmepgafeiaaDoor.Abs
open Go Go.Proofs

theorem half_meets (s : List Int) (hs : s.length = 32) : Meets Tryd.prog 48 [.v (.arr .u8 32 s)] [.v (.arr .u8 16 (s.take 16))] := by
  refine meets_go TO 100 Tryd.func48 rfl (fun X => ?_)
  simp only [Tryd.ntmps48, Tryd.results48, pureOpC, unc, svs, blks, AV.sv, absRun, absOps, absOp, evO, constSV, ungd, gdP, gdPs, setD, T_size, T_zero, tSize, tZero, pureOp, memOp, newV, notIn, cellsOf, upd, Lim.add, Op.operands, List.getD, List.getElem?_cons_zero, Option.getD_some, List.set, List.toList_toArray, true_and, and_self, if_false, ne_eq, not_false_eq_true, reduceCtorEq, Nat.zero_add, List.cons_append, List.nil_append, List.length_cons, List.length_nil, Nat.reduceAdd, Nat.reduceSub, Nat.reduceEqDiff, Nat.succ_ne_self, List.replicate_succ, List.replicate_zero]
  refine loop_up (fun x : Nat × Nat => x.1 ≤ 16) (fun x => ⟨tl 15 0 [(1, .ptr 1 2 0), (2, .ptr 2 2 0), (3, .ptr 3 3 0), (4, .int .i64 x.1)],
    [(1, 2, .cells [.arr .u8 32 s]), (2, 2, .cells [.arr .u8 16 (List.replicate 16 0)]), (3, 3, .cells [.arr .u8 16 (s.take x.1 ++ List.replicate (16 - x.1) 0)])], ⟨x.2, [], 0⟩⟩) (fun x => 16 - x.1) (0, _) (Nat.zero_le _) ⟨rfl, ?_, ?_⟩ ?_
  · simp [tl, LeT]
  · intro n x hx; simpa [fnd] using hx
  rintro ⟨i, c⟩ hi ih
  have hi : i ≤ 16 := hi
  refine absRun_ok TO 100 _ _ ?_
  simp only [pureOpC, unc, absRun, absOps, absOp, evO, constSV, ungd, gdP, gdPs, setD, binI, binV, ptrE, T_ty, T_size, tTy, tSize, iaddrV, pureOp, memOp, loadV, arrAt, setA, blkAt, fnd, upd, retP, resV, retQ, rAs, rA, ownN, nodup, bares, bare, Op.operands, List.getD, List.getElem?_cons_zero, List.getElem?_cons_succ, Option.getD_some, List.set, List.map, List.toList_toArray, Option.map_none, exitTo, true_and, and_true, and_self, if_true, if_false, ite_self, eq_self, ne_eq, not_false_eq_true, reduceCtorEq, Int.toNat_natCast, Int.cast_ofNat_Int, Nat.le_refl, List.cons_append, List.nil_append, Nat.reduceAdd, Nat.reduceSub, Nat.reduceEqDiff, Nat.reduceLeDiff, Nat.succ_ne_self, beq_self_eq_true, List.replicate_succ, List.replicate_zero, Bool.and_self, tl]
  split
  · rename_i hc
    have hi' : i < 16 := by simp at hc; omega
    have hst : (s.take i ++ List.replicate (16 - i) 0).set i (s[i]?.getD 0) = s.take (i + 1) ++ List.replicate (16 - (i + 1)) 0 := by
      obtain ⟨r, hr⟩ : ∃ r, 16 - i = r + 1 := ⟨16 - i - 1, by omega⟩
      have hl : (s.take i).length = i := by rw [List.length_take]; omega
      have ht : s.take (i + 1) = s.take i ++ [s[i]?.getD 0] := by rw [List.take_add_one, List.getElem?_eq_getElem (by omega)]; rfl
      rw [hr, show 16 - (i + 1) = r by omega, List.replicate_succ, List.set_append_right _ _ (by omega), hl, ht, List.append_assoc, Nat.sub_self]
      rfl
    rw [hst, w64 (by omega) (by omega)]
    repeat refine ⟨by omega, ?_⟩
    refine ih (i + 1, _) _ (by simp only; omega) (by simp only; omega) rfl ?_ ?_
    · simp [tl, LeT]
    · intro n x hx; simpa [fnd] using hx
  · rename_i hc
    have hi' : i = 16 := by simp at hc; omega
    subst hi'
    simp

theorem overI_none {m : List Int} (h : 64 ≤ m.length) (j : Nat) (hj : j < 16) : (m.take 48 ++ (List.replicate j 0 ++ m.drop (48 + j))).set (48 + j) 0 = m.take 48 ++ (List.replicate (j + 1) 0 ++ m.drop (48 + (j + 1))) := by
  have hl : (m.take 48).length = 48 := by rw [List.length_take]; omega
  rw [List.set_append_right _ _ (by omega), hl, Nat.add_sub_cancel_left, List.set_append_right _ _ (by simp), List.length_replicate, Nat.sub_self, List.drop_eq_getElem_cons (by omega), List.set_cons_zero, List.replicate_succ', List.append_assoc]
  rfl

set_option maxHeartbeats 4000000 in
theorem rsignature_meets (key m : List Int) (hk : key.length ≤ 140737488355000) (hK : Bytes key) (hm : 64 ≤ m.length ∧ m.length ≤ 140737488354900) (hM : Bytes m) :
    Meets Tryd.prog 38 [.v (.view false (.ints .u8 key)), .v (.view false (.ints .u8 m))] [.v (.arr .u8 16 (sigL key m))] := by
  have hn : (nonL m).length ≤ 140737488354900 := by simp [nonL]; omega
  have hMac := rMac_meets key (nonL m) hk hK hn (((hM.take _).app ((bytes_zeros _).app (hM.drop _))))
  have hl := macL_length key (nonL m)
  have hH := half_meets _ hl
  unfold sigL
  refine meets_go TO 100 Tryd.func38 rfl (fun X => ?_)
  simp only [Tryd.ntmps38, Tryd.results38, pureOpC, unc, fitT, svs, blks, AV.sv, absRun, absOps, absOp, evO, constSV, ungd, gdP, gdPs, setD, T_ty, T_size, T_bytes, T_zero, tTy, tSize, tBytes, tZero, pureOp, memOp, newV, notIn, dataOf, isSrc, zI, upd, Data.len, Data.esz, Lim.add, Op.operands, Call.operands, List.getD, List.getElem?_cons_zero, List.getElem?_cons_succ, Option.getD_some, List.set, List.toList_toArray, true_and, and_self, if_false, eq_self, ne_eq, not_false_eq_true, reduceCtorEq, Nat.zero_add, List.append_toArray, List.cons_append, List.nil_append, List.length_cons, List.length_nil, Nat.reduceAdd, Nat.reduceSub, Nat.reduceEqDiff, List.replicate_succ, List.replicate_zero]
  refine ⟨⟨by omega, by omega⟩, ?_⟩
  refine loop_up (fun x : Nat × Nat => x.1 ≤ 16) (fun x => ⟨tl 21 0 [(0, .view false (.ints .u8 key)), (4, .ptr 4 2 0), (5, .sl 9 4 0 1 0 m.length), (6, .int .i64 (48 + x.1 : Nat))],
    [(4, 2, .cells [.arr .u8 16 (List.replicate 16 0)]), (9, 4, .vec (.ints .u8 (m.take 48 ++ (List.replicate x.1 0 ++ m.drop (48 + x.1)))))], ⟨x.2, [], 0⟩⟩) (fun x => 16 - x.1) (0, _) (Nat.zero_le _) ⟨rfl, ?_, ?_⟩ ?_
  · simp [tl, LeT]
  · intro n x hx; simpa [fnd] using hx
  rintro ⟨i, c⟩ hi ih
  have hi : i ≤ 16 := hi
  have hll : (m.take 48 ++ (List.replicate i 0 ++ m.drop (48 + i))).length = m.length := by simp; omega
  refine absRun_ok TO 100 _ _ ?_
  simp only [pureOpC, unc, absRun, absOps, absOp, evO, constSV, ungd, gdP, gdPs, setD, binI, binV, ptrE, T_ty, T_size, tTy, tSize, iaddrV, pureOp, memOp, blkAt, fnd, upd, Op.operands, List.getD, List.getElem?_cons_zero, List.getElem?_cons_succ, Option.getD_some, List.set, List.toList_toArray, exitTo, true_and, and_true, and_self, if_true, if_false, eq_self, ne_eq, not_false_eq_true, Nat.zero_add, Int.toNat_natCast, List.cons_append, List.nil_append, Nat.reduceAdd, Nat.reduceSub, Nat.reduceEqDiff, Nat.succ_ne_self, beq_self_eq_true, List.replicate_succ, List.replicate_zero, tl]
  split
  · rename_i hc
    have hi' : i < 16 := by simp at hc; omega
    repeat refine ⟨by omega, ?_⟩
    rw [w64 (by omega) (by omega)]
    rw [overI_none hm.1 i hi']
    refine ih (i + 1, _) _ (by simp only; omega) (by simp only; omega) rfl ?_ ?_
    · simp [tl, LeT]; omega
    · intro n x hx; simpa [fnd] using hx
  · rename_i hc
    have hi' : i = 16 := by simp at hc; omega
    subst hi'
    have e1 : m.take 48 ++ (List.replicate 16 0 ++ m.drop (48 + 16)) = nonL m := rfl
    rw [e1] at hll ⊢
    refine call_go TO 100 hMac Tryd.func49 (by decide +kernel) rfl rfl rfl ?_
    simp only [List.drop_zero, pureOpC, unc, absOps, absOp, evO, ungd, gdP, gdPs, pureOp, memOp, notIn, blkAt, fnd, Data.len, Data.esz, Data.sub, ownN, nodup, bares, bare, guardIs, callP, callS, argS, mAs, mA, mA0, mB0, lowD, allNotIn, impN, impB, impT, packS, delL, List.getD, List.getElem?_cons_zero, List.getElem?_cons_succ, Option.getD_some, List.set, List.map, true_and, and_true, and_self, if_true, if_false, eq_self, Nat.zero_add, Int.cast_ofNat_Int, List.append_nil, Nat.reduceAdd, Nat.reduceEqDiff, Bool.and_self, Data.ints.injEq, Int.reduceLT, decide_false]
    refine ⟨⟨by omega, List.take_of_length_le (by omega)⟩, ?_⟩
    refine call_go TO 100 hH Tryd.func48 (by decide +kernel) rfl rfl rfl ?_
    simp only [pureOpC, unc, absRun, absOps, absOp, evO, ungd, gdP, gdPs, setD, T_ty, T_size, tTy, tSize, pureOp, memOp, loadV, arrAt, setA, blkAt, fnd, upd, retP, resV, retQ, rAs, rA, ownN, nodup, bares, bare, guardIs, callP, callS, argS, mAs, mA, allNotIn, impN, impB, impT, packS, delL, Op.operands, List.getD, List.getElem?_cons_zero, List.getElem?_cons_succ, Option.getD_some, List.set, List.map, List.toList_toArray, Option.map_none, and_self, if_true, if_false, ite_self, eq_self, ne_eq, not_false_eq_true, reduceCtorEq, List.append_nil, Nat.reduceEqDiff, Nat.reduceLeDiff, Bool.and_self]

theorem overI_sig {m q : List Int} (h : 64 ≤ m.length) (hq : q.length = 16) (j : Nat) (hj : j < 16) : (m.take 48 ++ (q.take j ++ m.drop (48 + j))).set (48 + j) (q[j]?.getD 0) = m.take 48 ++ (q.take (j + 1) ++ m.drop (48 + (j + 1))) := by
  have hl : (m.take 48).length = 48 := by rw [List.length_take]; omega
  have hl2 : (q.take j).length = j := by rw [List.length_take]; omega
  have ht : q.take (j + 1) = q.take j ++ [q[j]?.getD 0] := by rw [List.take_add_one, List.getElem?_eq_getElem (by omega)]; rfl
  rw [List.set_append_right _ _ (by omega), hl, Nat.add_sub_cancel_left, List.set_append_right _ _ (by omega), hl2, Nat.sub_self, List.drop_eq_getElem_cons (by omega), List.set_cons_zero, ht, List.append_assoc]
  rfl

set_option maxHeartbeats 4000000 in
theorem rSign_meets (key m : List Int) (hk : key.length ≤ 140737488355000) (hK : Bytes key) (hm : m.length ≤ 140737488354900) (hM : Bytes m) :
    Meets Tryd.prog 26 [.v (.view false (.ints .u8 key)), .v (.view false (.ints .u8 m))] [.own (.ints .u8 (signL key m)), .v (.int .i64 (signE m))] := by
  refine meets_go TO 100 Tryd.func26 rfl (fun X => ?_)
  simp only [Tryd.ntmps26, Tryd.results26, pureOpC, unc, svs, blks, AV.sv, absRun, absOps, absOp, evO, constSV, ungd, gdP, gdPs, setD, binI, binV, ptrE, T_ty, tTy, pureOp, memOp, lenV, Data.len, retP, resV, retQ, rAs, rA, rA0, ownN, nodup, bares, bare, bare0, bareD, Op.operands, Call.operands, List.getD, List.getElem?_cons_zero, List.getElem?_cons_succ, Option.getD_some, List.set, List.map, List.toList_toArray, true_and, and_true, and_self, eq_self, Nat.zero_add, List.append_toArray, List.cons_append, List.nil_append, List.length_cons, List.length_nil, Nat.reduceAdd, Nat.reduceSub, List.replicate_succ, List.replicate_zero, Bool.and_self]
  split
  · rename_i hc
    have hc : m.length < 64 := by simp at hc; omega
    simp [signL, signE, hc]
  · rename_i hc
    have hc : ¬ m.length < 64 := by simp at hc; omega
    refine call_go TO 100 (rsignature_meets key m hk hK ⟨by omega, hm⟩ hM) Tryd.func38 (by decide +kernel) rfl rfl rfl ?_
    have hl := sigL_length key m
    have e1 : signL key m = m.take 48 ++ (sigL key m ++ m.drop 64) := by unfold signL; rw [if_neg hc]
    have e2 : signE m = 0 := by unfold signE; rw [if_neg hc]
    rw [e1, e2]
    generalize sigL key m = q at *
    simp only [pureOpC, unc, fitT, absRun, absOps, absOp, evO, constSV, ungd, gdP, gdPs, setD, T_ty, T_size, T_bytes, T_zero, tTy, tSize, tBytes, tZero, pureOp, memOp, newV, notIn, dataOf, isSrc, zI, arrAt, setA, blkAt, fnd, upd, Data.len, Data.esz, Lim.add, ownN, nodup, bares, bare, guardIs, callP, callS, argS, mAs, mA, mA0, mB0, lowD, allNotIn, impN, impB, impT, packS, delL, Op.operands, Call.operands, List.getD, List.getElem?_cons_zero, List.getElem?_cons_succ, Option.getD_some, List.set, List.map, List.toList_toArray, Option.map_none, true_and, and_self, if_true, if_false, ite_self, eq_self, ne_eq, not_false_eq_true, reduceCtorEq, Nat.zero_add, List.append_toArray, List.nil_append, List.append_nil, Nat.reduceAdd, Nat.reduceEqDiff, Nat.reduceLeDiff, List.replicate_succ, List.replicate_zero, Bool.and_self]
    refine ⟨⟨by omega, by omega⟩, ?_⟩
    refine loop_up (fun x : Nat × Nat => x.1 ≤ 16) (fun x => ⟨tl 30 0 [(6, .ptr 6 4 0), (7, .sl 17 6 0 1 0 m.length), (8, .int .i64 x.1)],
      [(6, 4, .cells [.arr .u8 16 q]), (17, 6, .vec (.ints .u8 (m.take 48 ++ (q.take x.1 ++ m.drop (48 + x.1)))))], ⟨x.2, [], 0⟩⟩) (fun x => 16 - x.1) (0, _) (Nat.zero_le _) ⟨rfl, ?_, ?_⟩ ?_
    · simp [tl, LeT]
    · intro n x hx; simpa [fnd] using hx
    rintro ⟨i, c⟩ hi ih
    have hi : i ≤ 16 := hi
    have hll : (m.take 48 ++ (q.take i ++ m.drop (48 + i))).length = m.length := by simp; omega
    refine absRun_ok TO 100 _ _ ?_
    simp only [pureOpC, unc, absRun, absOps, absOp, evO, constSV, ungd, gdP, gdPs, setD, binI, binV, ptrE, T_ty, T_size, tTy, tSize, iaddrV, pureOp, memOp, loadV, notIn, arrAt, blkAt, fnd, upd, Data.len, Data.esz, retP, resV, retQ, rAs, rA, rA0, ownN, nodup, bares, bare, bare0, bareD, Op.operands, List.getD, List.getElem?_cons_zero, List.getElem?_cons_succ, Option.getD_some, List.set, List.map, List.toList_toArray, exitTo, true_and, and_true, and_self, if_true, if_false, ite_self, eq_self, ne_eq, not_false_eq_true, Nat.zero_add, Int.toNat_natCast, Int.cast_ofNat_Int, Nat.le_refl, List.cons_append, List.nil_append, Nat.reduceAdd, Nat.reduceSub, Nat.reduceEqDiff, Nat.reduceLeDiff, Nat.succ_ne_self, beq_self_eq_true, List.replicate_succ, List.replicate_zero, Bool.and_self, Data.ints.injEq, tl]
    split
    · rename_i hc2
      have hi' : i < 16 := by simp at hc2; omega
      have w1 : IntKind.i64.wrap (48 + (i : Int)) = ((48 + i : Nat) : Int) := by rw [w64 (by omega) (by omega)]; omega
      rw [w1]
      repeat refine ⟨by omega, ?_⟩
      rw [w64 (by omega) (by omega)]
      rw [Int.toNat_natCast, overI_sig (by omega) hl i hi']
      refine ih (i + 1, _) _ (by simp only; omega) (by simp only; omega) rfl ?_ ?_
      · simp [tl, LeT]
      · intro n x hx; simpa [fnd] using hx
    · rename_i hc2
      have hi' : i = 16 := by simp at hc2; omega
      subst hi'
      have hq : q.take 16 = q := List.take_of_length_le (by omega)
      have e4 : m.take 48 ++ (q.take 16 ++ m.drop (48 + 16)) = m.take 48 ++ (q ++ m.drop 64) := by rw [hq]
      rw [e4] at hll ⊢
      generalize m.take 48 ++ (q ++ m.drop 64) = z at *
      simp [hll]

theorem Check_step {m q : List Int} (h : 64 ≤ m.length) (hq : q.length = 16) {i : Nat} (hi : i < 16) (hp : (m.drop 48).take i = q.take i) :
    (m[48 + i]?.getD 0 = q[i]?.getD 0 → (m.drop 48).take (i + 1) = q.take (i + 1)) ∧ (m[48 + i]?.getD 0 ≠ q[i]?.getD 0 → (m.drop 48).take 16 ≠ q) := by
  have hd : (m.drop 48)[i]? = m[48 + i]? := by rw [List.getElem?_drop]
  constructor
  · intro he
    rw [List.take_add_one, List.take_add_one, hp, hd]
    rw [List.getElem?_eq_getElem (by omega), List.getElem?_eq_getElem (by omega)] at he ⊢
    have he : m[48 + i] = q[i] := he
    rw [he]
  · intro hne he
    apply hne
    rw [← he, List.getElem?_take, if_pos hi, hd]

end Go.Proofs.YtdhnjmepgafeiaaDoor.Abs
