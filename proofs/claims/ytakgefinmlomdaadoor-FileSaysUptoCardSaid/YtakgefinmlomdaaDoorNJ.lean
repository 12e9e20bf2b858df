/- What the document's PutSay of file answers. -/
import Derived.Test.YtakgefinmlomdaaDoorNI
set_option linter.unusedVariables false
set_option linter.unusedSimpArgs false
set_option maxRecDepth 100000
namespace Go.Proofs.YtakgefinmlomdaaDoor.Abs
open Go Go.Proofs

theorem fsW_len (c : Int) (s : Say) : (fsW c s).data.length ≤ s.data.length ∧ (fsW c s).entries.length ≤ 0 := by
  unfold fsW; repeat' split
  all_goals exact ⟨by simp [sayZ], by simp [sayZ]⟩

set_option maxHeartbeats 8000000 in
theorem rPutSay9_meets (c : Int) (s : Say) (hc : 0 ≤ c) (s1 : s.ok) (hs : s.data.length ≤ 1048576) : Meets Tryd.prog 28 [.v (.int .u16 c), .v (s.sv false)] [.own (.ints .u8 (fsL c s)), .v (.int .i64 (fsE c s))] := by
  have hK := fK_meets c hc
  have hw := fsW_len c s
  have hS := Says_meets (fsW c s) s (by omega) (by omega)
  rw [says_dec] at hS
  clear hw
  have hbad := fsE_bad (c := c) (s := s)
  have hgood := fsE_good (c := c) (s := s)
  have hL : fsL c s = if fsE c s ≠ 0 then []
    else if c = 5 then digs 1 s.level ++ (digs 1 s.durable ++ (digs 2 s.made ++ (digs 8 s.file ++ (digs 8 s.size ++ (digs 2 s.kind ++ digs 2 0)))))
    else if c = 8 then digs 4 s.data.length ++ s.data else if c = 9 then digs 4 s.n else digs 4 0 := rfl
  have eW : fsW c s = if c = 5 then { sayZ with level := s.level, durable := s.durable, made := s.made, file := s.file, size := s.size, kind := s.kind }
    else if c = 8 then { sayZ with data := s.data } else if c = 9 then { sayZ with n := s.n } else sayZ := rfl
  generalize hsw : decide (fsW c s = s) = sw at *
  generalize fsE c s = E at *
  generalize fsL c s = L at *
  generalize fsW c s = w at *
  have l0 := s1.level.1
  have l1 := s1.level.2
  have d0 := s1.durable.1
  have d1 := s1.durable.2
  have m0 := s1.made.1
  have m1 := s1.made.2
  have f0 := s1.file.1
  have f1 := s1.file.2
  have z0 := s1.size.1
  have z1 := s1.size.2
  have k0 := s1.kind.1
  have k1 := s1.kind.2
  have n0 := s1.n.1
  have n1 := s1.n.2
  have w1 : IntKind.u64.wrap s.level = s.level := wu64 (by omega) (by omega)
  have w2 : IntKind.u64.wrap s.durable = s.durable := wu64 (by omega) (by omega)
  have w3 : IntKind.u64.wrap s.made = s.made := wu64 (by omega) (by omega)
  have w4 : IntKind.u64.wrap s.kind = s.kind := wu64 (by omega) (by omega)
  have w5 : IntKind.u64.wrap s.n = s.n := wu64 (by omega) (by omega)
  have w6 : IntKind.u64.wrap (s.data.length : Int) = s.data.length := wu64 (by omega) (by omega)
  have lay : ∀ (l : List Int) (n : Int) (k : Nat), l.length ≤ 1000000000 → szB k = true → 0 ≤ n → n < 256 ^ k → n < 18446744073709551616 → Meets Tryd.prog 39 [.own (.ints .u8 l), .v (.int .u64 n), .v (.int .i64 k)] [.own (.ints .u8 (l ++ digs k n))] := Lay_meets
  refine meets_go TO 100 Tryd.func28 rfl (fun X => ?_)
  simp only [Tryd.ntmps28, Tryd.results28, Say.sv, Say.cells, pureOpC, buildV, fillC, cntC, unc, svs, blks, AV.sv, absRun, absOps, absOp, evO, constSV, ungd, gdP, gdPs, setD, binI, binV, ptrE, T_ty, T_size, T_zero, tTy, tSize, tZero, fieldOf, faddrV, pureOp, memOp, loadV, newV, notIn, scal, cellsOf, okC, cellAt, takeC, dropC, setC, blkAt, fnd, upd, Lim.add, Op.operands, List.getD, List.getElem?_cons_zero, List.getElem?_cons_succ, Option.getD_some, List.set, List.map, List.all, List.toList_toArray, Option.map_some, Option.map_none, true_and, and_self, if_true, if_false, eq_self, ne_eq, not_false_eq_true, reduceCtorEq, Nat.zero_add, Nat.add_zero, Nat.le_refl, List.cons_append, List.nil_append, List.append_nil, List.length_cons, List.length_nil, Nat.reduceAdd, Nat.reduceSub, Nat.reduceEqDiff, Nat.reduceLeDiff, Nat.reduceLT, Nat.succ_ne_self, List.replicate_succ, List.replicate_zero, Bool.and_self, Nat.reduceBNe]
  by_cases c5 : c = 5
  · subst c5
    rw [if_pos rfl] at eW
    subst eW
    simp only [Say.sv, Say.cells, sayZ] at hS
    have hk : fkB 5 = true := by decide
    rw [hk] at hK
    simp only [if_true, if_false, eq_self, Bool.false_eq_true, Int.reduceBEq, beq_self_eq_true]
    refine call_go TO 100 hK Tryd.func37 (by decide +kernel) rfl rfl rfl ?_
    simp only [pureOpC, unc, absOps, absOp, evO, ungd, gdP, gdPs, setD, unV, T_ty, T_size, tTy, tSize, pureOp, guardOf, loadV, takeC, dropC, blkAt, fnd, ownN, nodup, bares, bare, bare0, guardIs, callP, callS, argS, mAs, mA, mA0, mB0, allNotIn, impN, impB, impT, packS, delL, Op.operands, List.getD, List.getElem?_cons_zero, List.getElem?_cons_succ, Option.getD_some, List.set, List.map, List.toList_toArray, List.getElem?_toArray, Option.bind_some, Option.map_some, true_and, and_self, implies_true, if_true, if_false, eq_self, ne_eq, not_false_eq_true, reduceCtorEq, List.append_nil, Nat.reduceAdd, Nat.reduceSub, Nat.reduceEqDiff, Nat.reduceLeDiff, Bool.not_true, Bool.not_false, Bool.and_self]
    refine call_go TO 100 hS Tryd.func22 (by decide +kernel) rfl rfl rfl ?_
    cases hsv : sw with
    | false =>
      obtain ⟨rfl, rfl⟩ := hbad (.inr (.inl hsv))
      simp only [w3, w5, w6, List.take_succ_cons, List.take_zero, List.drop_zero, pureOpC, unc, fitT, absRun, absOps, absOp, evO, constSV, ungd, gdP, gdPs, setD, binI, binV, ptrE, unV, convV, T_ty, T_size, T_bytes, T_zero, tTy, tSize, tBytes, tZero, fieldOf, faddrV, pickV, pureOp, guardOf, memOp, lenV, loadV, newV, notIn, dataOf, isSrc, elemsOf, intsOf, zI, known, cellAt, blkAt, fnd, upd, Data.len, Data.esz, Data.sub, Lim.add, retP, resV, retQ, rAs, rA, rA0, ownN, nodup, bares, bare, bare0, bareD, guardIs, callP, callS, argS, mAs, mA, mA0, mB0, mAl, lowD, allNotIn, impN, impB, impT, packS, delL, Op.operands, Call.operands, List.getD, List.getElem?_cons_zero, List.getElem?_cons_succ, Option.getD_some, List.set, List.map, List.toList_toArray, List.getElem?_toArray, Option.bind_some, Option.map_some, true_and, and_true, and_false, and_self, implies_true, imp_self, if_true, if_false, eq_self, ne_eq, not_false_eq_true, reduceCtorEq, Bool.false_eq_true, Nat.zero_add, Nat.le_refl, Int.reduceBEq, Bool.cond_true, Bool.cond_false, List.append_toArray, List.nil_append, List.append_nil, List.length_cons, List.length_nil, Nat.reduceAdd, Nat.reduceSub, Nat.reduceMul, Nat.reduceEqDiff, Nat.reduceLeDiff, Nat.reduceLT, Nat.succ_ne_self, Bool.not_true, Bool.not_false, beq_self_eq_true, List.replicate_succ, List.replicate_zero, Bool.and_self, Int.reduceEq, gt_iff_lt]
    | true =>
    simp only [w3, w5, w6, List.take_succ_cons, List.take_zero, List.drop_zero, pureOpC, unc, fitT, absRun, absOps, absOp, evO, constSV, ungd, gdP, gdPs, setD, binI, binV, ptrE, unV, convV, T_ty, T_size, T_bytes, T_zero, tTy, tSize, tBytes, tZero, fieldOf, faddrV, pickV, pureOp, guardOf, memOp, lenV, loadV, newV, notIn, dataOf, isSrc, elemsOf, intsOf, zI, known, cellAt, blkAt, fnd, upd, Data.len, Data.esz, Data.sub, Lim.add, retP, resV, retQ, rAs, rA, rA0, ownN, nodup, bares, bare, bare0, bareD, guardIs, callP, callS, argS, mAs, mA, mA0, mB0, mAl, lowD, allNotIn, impN, impB, impT, packS, delL, Op.operands, Call.operands, List.getD, List.getElem?_cons_zero, List.getElem?_cons_succ, Option.getD_some, List.set, List.map, List.toList_toArray, List.getElem?_toArray, Option.bind_some, Option.map_some, true_and, and_true, and_self, implies_true, imp_self, if_true, if_false, eq_self, ne_eq, not_false_eq_true, reduceCtorEq, Bool.false_eq_true, Nat.zero_add, Nat.le_refl, Int.reduceBEq, Bool.cond_true_left, Bool.cond_false, List.append_toArray, List.nil_append, List.append_nil, List.length_cons, List.length_nil, Nat.reduceAdd, Nat.reduceSub, Nat.reduceMul, Nat.reduceEqDiff, Nat.reduceLeDiff, Nat.reduceLT, Nat.succ_ne_self, Bool.not_true, Bool.not_false, beq_self_eq_true, List.replicate_succ, List.replicate_zero, Bool.and_self, gt_iff_lt]
    refine ite_both (fun hb => ?_) (fun hb => ?_)
    · obtain ⟨rfl, rfl⟩ := hbad (.inr (.inr (by simpa using hb)))
      exact ⟨rfl, rfl⟩
    have hb2 : s.made ≤ 2 ∧ s.kind ≤ 2 := by simp at hb; omega
    have hE := hgood hk hsv hb2.1 hb2.2
    clear hbad hgood hS hK
    refine ite_both (fun hb => ?_) (fun hb => ?_)
    · have hE2 : E = 3 := by rw [hE, if_pos (by simp at hb; omega)]
      have hL2 : L = [] := by rw [hL, if_pos (by rw [hE2]; decide)]
      rw [hE2, hL2]
      exact ⟨rfl, rfl⟩
    have hb3 : s.data.length ≤ 32768 := by simp at hb; omega
    rw [if_neg (by omega)] at hE
    subst hE
    rw [if_neg (by decide)] at hL
    rw [if_pos rfl] at hL
    have hL2 : [s.level, s.durable] ++ digs 2 s.made ++ digs 8 s.file ++ digs 8 s.size ++ digs 2 s.kind ++ digs 2 0 = L := by
      have e : [s.level, s.durable] = digs 1 s.level ++ digs 1 s.durable := by
        simp only [digs, List.cons_append, List.nil_append, List.cons.injEq, and_true]
        omega
      rw [hL, e]; simp only [List.append_assoc]
    rw [← hL2]
    clear hL hL2
    have hQ := lay ([s.level, s.durable]) s.made 2 (by first | (simp; done) | (simp only [List.length_append, digs_length, List.length_cons, List.length_nil]; omega)) rfl (by omega) (by omega) (by omega)
    refine call_go TO 100 hQ Tryd.func39 (by decide +kernel) rfl rfl rfl ?_
    clear hQ
    simp only [pureOpC, unc, absRun, absOps, absOp, evO, constSV, ungd, gdP, gdPs, setD, T_ty, T_size, tTy, tSize, fieldOf, faddrV, pureOp, memOp, loadV, notIn, cellAt, blkAt, fnd, upd, del, Data.len, Data.esz, ownN, nodup, bares, bare, bareD, guardIs, callP, callS, argS, mAs, mA, mA0, mB0, lowD, allNotIn, nm, impN, impB, impT, packS, delL, Op.operands, List.getD, List.getElem?_cons_zero, List.getElem?_cons_succ, Option.getD_some, List.set, List.map, List.toList_toArray, true_and, and_self, if_true, if_false, ite_self, eq_self, ne_eq, not_false_eq_true, reduceCtorEq, Nat.zero_add, Nat.add_zero, Int.cast_ofNat_Int, List.cons_append, List.nil_append, List.append_nil, List.length_cons, List.length_nil, Nat.reduceAdd, Nat.reduceSub, Nat.reduceMul, Nat.reduceEqDiff, Nat.reduceLT, Nat.succ_ne_self, Bool.and_self]
    have hQ := lay (([s.level, s.durable] ++ digs 2 s.made)) s.file 8 (by first | (simp; done) | (simp only [List.length_append, digs_length, List.length_cons, List.length_nil]; omega)) rfl (by omega) (by omega) (by omega)
    refine call_go TO 100 hQ Tryd.func39 (by decide +kernel) rfl rfl rfl ?_
    clear hQ
    simp only [pureOpC, unc, absRun, absOps, absOp, evO, constSV, ungd, gdP, gdPs, setD, T_ty, T_size, tTy, tSize, fieldOf, faddrV, pureOp, memOp, loadV, notIn, cellAt, blkAt, fnd, upd, del, Data.len, Data.esz, ownN, nodup, bares, bare, bareD, guardIs, callP, callS, argS, mAs, mA, mA0, mB0, lowD, allNotIn, nm, impN, impB, impT, packS, delL, Op.operands, List.getD, List.getElem?_cons_zero, List.getElem?_cons_succ, Option.getD_some, List.set, List.map, List.toList_toArray, true_and, and_self, if_true, if_false, eq_self, ne_eq, not_false_eq_true, Nat.zero_add, Nat.add_zero, Int.cast_ofNat_Int, List.cons_append, List.nil_append, List.append_nil, List.length_cons, Nat.reduceAdd, Nat.reduceSub, Nat.reduceMul, Nat.reduceEqDiff, Nat.reduceLT, Nat.succ_ne_self, Bool.and_self]
    have hQ := lay ((([s.level, s.durable] ++ digs 2 s.made) ++ digs 8 s.file)) s.size 8 (by first | (simp; done) | (simp only [List.length_append, digs_length, List.length_cons, List.length_nil]; omega)) rfl (by omega) (by omega) (by omega)
    refine call_go TO 100 hQ Tryd.func39 (by decide +kernel) rfl rfl rfl ?_
    clear hQ
    simp only [w4, pureOpC, unc, absRun, absOps, absOp, evO, constSV, ungd, gdP, gdPs, setD, convV, T_ty, T_size, tTy, tSize, fieldOf, faddrV, pureOp, memOp, loadV, notIn, known, cellAt, blkAt, fnd, upd, del, Data.len, Data.esz, ownN, nodup, bares, bare, bareD, guardIs, callP, callS, argS, mAs, mA, mA0, mB0, lowD, allNotIn, nm, impN, impB, impT, packS, delL, Op.operands, List.getD, List.getElem?_cons_zero, List.getElem?_cons_succ, Option.getD_some, List.set, List.map, List.toList_toArray, true_and, and_self, if_true, if_false, eq_self, ne_eq, not_false_eq_true, reduceCtorEq, Nat.zero_add, Nat.add_zero, Int.cast_ofNat_Int, List.cons_append, List.nil_append, List.append_nil, List.length_cons, Nat.reduceAdd, Nat.reduceSub, Nat.reduceMul, Nat.reduceEqDiff, Nat.reduceLT, Nat.succ_ne_self, Bool.and_self]
    have hQ := lay (((([s.level, s.durable] ++ digs 2 s.made) ++ digs 8 s.file) ++ digs 8 s.size)) s.kind 2 (by first | (simp; done) | (simp only [List.length_append, digs_length, List.length_cons, List.length_nil]; omega)) rfl (by omega) (by omega) (by omega)
    refine call_go TO 100 hQ Tryd.func39 (by decide +kernel) rfl rfl rfl ?_
    clear hQ
    simp only [pureOpC, unc, absRun, absOps, absOp, evO, constSV, ungd, gdP, gdPs, setD, pureOp, memOp, notIn, blkAt, fnd, upd, del, Data.len, Data.esz, ownN, nodup, bares, bare, bareD, guardIs, callP, callS, argS, mAs, mA, mA0, mB0, lowD, allNotIn, nm, impN, impB, impT, packS, delL, Op.operands, List.getD, List.getElem?_cons_zero, List.getElem?_cons_succ, Option.getD_some, List.set, List.map, List.toList_toArray, true_and, and_self, if_true, if_false, eq_self, Nat.zero_add, Nat.add_zero, Int.cast_ofNat_Int, List.cons_append, List.nil_append, List.append_nil, List.length_cons, Nat.reduceAdd, Nat.reduceMul, Nat.reduceEqDiff, Bool.and_self]
    have hQ := lay ((((([s.level, s.durable] ++ digs 2 s.made) ++ digs 8 s.file) ++ digs 8 s.size) ++ digs 2 s.kind)) 0 2 (by first | (simp; done) | (simp only [List.length_append, digs_length, List.length_cons, List.length_nil]; omega)) rfl (by omega) (by omega) (by omega)
    refine call_go TO 100 hQ Tryd.func39 (by decide +kernel) rfl rfl rfl ?_
    clear hQ
    simp only [pureOpC, unc, absRun, absOps, absOp, evO, constSV, ungd, gdP, gdPs, setD, notIn, blkAt, fnd, upd, del, Data.len, Data.esz, retP, resV, retQ, rAs, rA, rA0, ownN, nodup, bares, bare, bare0, bareD, guardIs, callP, callS, argS, mAs, mA, mA0, mB0, lowD, allNotIn, nm, impN, impB, impT, packS, delL, Op.operands, List.getD, List.getElem?_cons_zero, List.getElem?_cons_succ, Option.getD_some, List.set, List.map, List.toList_toArray, and_self, if_true, if_false, eq_self, Nat.zero_add, Nat.add_zero, Int.cast_ofNat_Int, List.cons_append, List.nil_append, List.append_nil, List.length_cons, Nat.reduceAdd, Nat.reduceMul, Nat.reduceEqDiff, Bool.and_self]
  have d5 : (c == 5) = false := by simpa using c5
  rw [if_neg c5] at hL
  by_cases c8 : c = 8
  · subst c8
    rw [if_neg c5, if_pos rfl] at eW
    subst eW
    simp only [Say.sv, Say.cells, sayZ] at hS
    have hk : fkB 8 = true := by decide
    rw [hk] at hK
    simp only [if_true, if_false, eq_self, Bool.false_eq_true, Int.reduceBEq, beq_self_eq_true]
    refine call_go TO 100 hK Tryd.func37 (by decide +kernel) rfl rfl rfl ?_
    simp only [pureOpC, unc, absOps, absOp, evO, ungd, gdP, gdPs, setD, unV, T_ty, T_size, tTy, tSize, pureOp, guardOf, loadV, takeC, dropC, blkAt, fnd, ownN, nodup, bares, bare, bare0, guardIs, callP, callS, argS, mAs, mA, mA0, mB0, allNotIn, impN, impB, impT, packS, delL, Op.operands, List.getD, List.getElem?_cons_zero, List.getElem?_cons_succ, Option.getD_some, List.set, List.map, List.toList_toArray, List.getElem?_toArray, Option.bind_some, Option.map_some, true_and, and_self, implies_true, if_true, if_false, eq_self, ne_eq, not_false_eq_true, reduceCtorEq, List.append_nil, Nat.reduceAdd, Nat.reduceSub, Nat.reduceEqDiff, Nat.reduceLeDiff, Bool.not_true, Bool.not_false, Bool.and_self]
    refine call_go TO 100 hS Tryd.func22 (by decide +kernel) rfl rfl rfl ?_
    cases hsv : sw with
    | false =>
      obtain ⟨rfl, rfl⟩ := hbad (.inr (.inl hsv))
      simp only [w3, w5, w6, List.take_succ_cons, List.take_zero, List.drop_zero, pureOpC, unc, fitT, absRun, absOps, absOp, evO, constSV, ungd, gdP, gdPs, setD, binI, binV, ptrE, unV, convV, T_ty, T_size, T_bytes, T_zero, tTy, tSize, tBytes, tZero, fieldOf, faddrV, pickV, pureOp, guardOf, memOp, lenV, loadV, newV, notIn, dataOf, isSrc, elemsOf, intsOf, zI, known, cellAt, blkAt, fnd, upd, Data.len, Data.esz, Data.sub, Lim.add, retP, resV, retQ, rAs, rA, rA0, ownN, nodup, bares, bare, bare0, bareD, guardIs, callP, callS, argS, mAs, mA, mA0, mB0, mAl, lowD, allNotIn, impN, impB, impT, packS, delL, Op.operands, Call.operands, List.getD, List.getElem?_cons_zero, List.getElem?_cons_succ, Option.getD_some, List.set, List.map, List.toList_toArray, List.getElem?_toArray, Option.bind_some, Option.map_some, true_and, and_true, and_false, and_self, implies_true, imp_self, if_true, if_false, eq_self, ne_eq, not_false_eq_true, reduceCtorEq, Bool.false_eq_true, Nat.zero_add, Nat.le_refl, Int.reduceBEq, Bool.cond_true, Bool.cond_false, List.append_toArray, List.nil_append, List.append_nil, List.length_cons, List.length_nil, Nat.reduceAdd, Nat.reduceSub, Nat.reduceMul, Nat.reduceEqDiff, Nat.reduceLeDiff, Nat.reduceLT, Nat.succ_ne_self, Bool.not_true, Bool.not_false, beq_self_eq_true, List.replicate_succ, List.replicate_zero, Bool.and_self, Int.reduceEq, gt_iff_lt]
    | true =>
    simp only [w3, w5, w6, List.take_succ_cons, List.take_zero, List.drop_zero, pureOpC, unc, fitT, absRun, absOps, absOp, evO, constSV, ungd, gdP, gdPs, setD, binI, binV, ptrE, unV, convV, T_ty, T_size, T_bytes, T_zero, tTy, tSize, tBytes, tZero, fieldOf, faddrV, pickV, pureOp, guardOf, memOp, lenV, loadV, newV, notIn, dataOf, isSrc, elemsOf, intsOf, zI, known, cellAt, blkAt, fnd, upd, Data.len, Data.esz, Data.sub, Lim.add, retP, resV, retQ, rAs, rA, rA0, ownN, nodup, bares, bare, bare0, bareD, guardIs, callP, callS, argS, mAs, mA, mA0, mB0, mAl, lowD, allNotIn, impN, impB, impT, packS, delL, Op.operands, Call.operands, List.getD, List.getElem?_cons_zero, List.getElem?_cons_succ, Option.getD_some, List.set, List.map, List.toList_toArray, List.getElem?_toArray, Option.bind_some, Option.map_some, true_and, and_true, and_self, implies_true, imp_self, if_true, if_false, eq_self, ne_eq, not_false_eq_true, reduceCtorEq, Bool.false_eq_true, Nat.zero_add, Nat.le_refl, Int.reduceBEq, Bool.cond_true_left, Bool.cond_false, List.append_toArray, List.nil_append, List.append_nil, List.length_cons, List.length_nil, Nat.reduceAdd, Nat.reduceSub, Nat.reduceMul, Nat.reduceEqDiff, Nat.reduceLeDiff, Nat.reduceLT, Nat.succ_ne_self, Bool.not_true, Bool.not_false, beq_self_eq_true, List.replicate_succ, List.replicate_zero, Bool.and_self, gt_iff_lt]
    refine ite_both (fun hb => ?_) (fun hb => ?_)
    · obtain ⟨rfl, rfl⟩ := hbad (.inr (.inr (by simpa using hb)))
      exact ⟨rfl, rfl⟩
    have hb2 : s.made ≤ 2 ∧ s.kind ≤ 2 := by simp at hb; omega
    have hE := hgood hk hsv hb2.1 hb2.2
    clear hbad hgood hS hK
    refine ite_both (fun hb => ?_) (fun hb => ?_)
    · have hE2 : E = 3 := by rw [hE, if_pos (by simp at hb; omega)]
      have hL2 : L = [] := by rw [hL, if_pos (by rw [hE2]; decide)]
      rw [hE2, hL2]
      exact ⟨rfl, rfl⟩
    have hb3 : s.data.length ≤ 32768 := by simp at hb; omega
    rw [if_neg (by omega)] at hE
    subst hE
    rw [if_neg (by decide)] at hL
    rw [if_pos rfl] at hL
    subst hL
    have hz : (digs 4 (s.data.length : Int)).length = 4 := digs_length _ _
    have hQ := lay ([]) (s.data.length : Int) 4 (by first | (simp; done) | (simp only [List.length_append, digs_length, List.length_cons, List.length_nil]; omega)) rfl (by omega) (by omega) (by omega)
    rw [List.nil_append] at hQ
    refine call_go TO 100 hQ Tryd.func39 (by decide +kernel) rfl rfl rfl ?_
    clear hQ
    simp only [pureOpC, unc, fitT, absRun, absOps, absOp, evO, constSV, ungd, gdP, gdPs, setD, T_ty, T_size, T_bytes, T_zero, tTy, tSize, tBytes, tZero, fieldOf, faddrV, pureOp, memOp, loadV, notIn, dataOf, appD, isSrc, zI, cellAt, blkAt, fnd, upd, del, mv, Data.len, Data.esz, Lim.add, retP, resV, retQ, rAs, rA, rA0, ownN, nodup, bares, bare, bare0, bareD, guardIs, callP, callS, argS, mAs, mA, mA0, mB0, allNotIn, nm, impN, impB, impT, packS, delL, Op.operands, Call.operands, List.getD, List.getElem?_cons_zero, List.getElem?_cons_succ, Option.getD_some, List.set, List.map, List.toList_toArray, true_and, and_true, and_self, if_true, if_false, eq_self, ne_eq, not_false_eq_true, reduceCtorEq, Nat.zero_add, Nat.add_zero, Int.cast_ofNat_Int, List.append_toArray, List.nil_append, List.append_nil, List.length_nil, Nat.reduceAdd, Nat.reduceSub, Nat.reduceMul, Nat.reduceEqDiff, Nat.reduceLT, Nat.succ_ne_self, Bool.and_self]
    exact ⟨by rw [hz]; omega, by rw [hz]; omega⟩
  have d8 : (c == 8) = false := by simpa using c8
  rw [if_neg c8] at hL
  by_cases c9 : c = 9
  · subst c9
    rw [if_neg c5, if_neg c8, if_pos rfl] at eW
    subst eW
    simp only [Say.sv, Say.cells, sayZ] at hS
    have hk : fkB 9 = true := by decide
    rw [hk] at hK
    simp only [if_true, if_false, eq_self, Bool.false_eq_true, Int.reduceBEq, beq_self_eq_true]
    refine call_go TO 100 hK Tryd.func37 (by decide +kernel) rfl rfl rfl ?_
    simp only [pureOpC, unc, absOps, absOp, evO, ungd, gdP, gdPs, setD, unV, T_ty, T_size, tTy, tSize, pureOp, guardOf, loadV, takeC, dropC, blkAt, fnd, ownN, nodup, bares, bare, bare0, guardIs, callP, callS, argS, mAs, mA, mA0, mB0, allNotIn, impN, impB, impT, packS, delL, Op.operands, List.getD, List.getElem?_cons_zero, List.getElem?_cons_succ, Option.getD_some, List.set, List.map, List.toList_toArray, List.getElem?_toArray, Option.bind_some, Option.map_some, true_and, and_self, implies_true, if_true, if_false, eq_self, ne_eq, not_false_eq_true, reduceCtorEq, List.append_nil, Nat.reduceAdd, Nat.reduceSub, Nat.reduceEqDiff, Nat.reduceLeDiff, Bool.not_true, Bool.not_false, Bool.and_self]
    refine call_go TO 100 hS Tryd.func22 (by decide +kernel) rfl rfl rfl ?_
    cases hsv : sw with
    | false =>
      obtain ⟨rfl, rfl⟩ := hbad (.inr (.inl hsv))
      simp only [w3, w5, w6, List.take_succ_cons, List.take_zero, List.drop_zero, pureOpC, unc, fitT, absRun, absOps, absOp, evO, constSV, ungd, gdP, gdPs, setD, binI, binV, ptrE, unV, convV, T_ty, T_size, T_bytes, T_zero, tTy, tSize, tBytes, tZero, fieldOf, faddrV, pickV, pureOp, guardOf, memOp, lenV, loadV, newV, notIn, dataOf, isSrc, elemsOf, intsOf, zI, known, cellAt, blkAt, fnd, upd, Data.len, Data.esz, Data.sub, Lim.add, retP, resV, retQ, rAs, rA, rA0, ownN, nodup, bares, bare, bare0, bareD, guardIs, callP, callS, argS, mAs, mA, mA0, mB0, mAl, lowD, allNotIn, impN, impB, impT, packS, delL, Op.operands, Call.operands, List.getD, List.getElem?_cons_zero, List.getElem?_cons_succ, Option.getD_some, List.set, List.map, List.toList_toArray, List.getElem?_toArray, Option.bind_some, Option.map_some, true_and, and_true, and_false, and_self, implies_true, imp_self, if_true, if_false, eq_self, ne_eq, not_false_eq_true, reduceCtorEq, Bool.false_eq_true, Nat.zero_add, Nat.le_refl, Int.reduceBEq, Bool.cond_true, Bool.cond_false, List.append_toArray, List.nil_append, List.append_nil, List.length_cons, List.length_nil, Nat.reduceAdd, Nat.reduceSub, Nat.reduceMul, Nat.reduceEqDiff, Nat.reduceLeDiff, Nat.reduceLT, Nat.succ_ne_self, Bool.not_true, Bool.not_false, beq_self_eq_true, List.replicate_succ, List.replicate_zero, Bool.and_self, Int.reduceEq, gt_iff_lt]
    | true =>
    simp only [w3, w5, w6, List.take_succ_cons, List.take_zero, List.drop_zero, pureOpC, unc, fitT, absRun, absOps, absOp, evO, constSV, ungd, gdP, gdPs, setD, binI, binV, ptrE, unV, convV, T_ty, T_size, T_bytes, T_zero, tTy, tSize, tBytes, tZero, fieldOf, faddrV, pickV, pureOp, guardOf, memOp, lenV, loadV, newV, notIn, dataOf, isSrc, elemsOf, intsOf, zI, known, cellAt, blkAt, fnd, upd, Data.len, Data.esz, Data.sub, Lim.add, retP, resV, retQ, rAs, rA, rA0, ownN, nodup, bares, bare, bare0, bareD, guardIs, callP, callS, argS, mAs, mA, mA0, mB0, mAl, lowD, allNotIn, impN, impB, impT, packS, delL, Op.operands, Call.operands, List.getD, List.getElem?_cons_zero, List.getElem?_cons_succ, Option.getD_some, List.set, List.map, List.toList_toArray, List.getElem?_toArray, Option.bind_some, Option.map_some, true_and, and_true, and_self, implies_true, imp_self, if_true, if_false, eq_self, ne_eq, not_false_eq_true, reduceCtorEq, Bool.false_eq_true, Nat.zero_add, Nat.le_refl, Int.reduceBEq, Bool.cond_true_left, Bool.cond_false, List.append_toArray, List.nil_append, List.append_nil, List.length_cons, List.length_nil, Nat.reduceAdd, Nat.reduceSub, Nat.reduceMul, Nat.reduceEqDiff, Nat.reduceLeDiff, Nat.reduceLT, Nat.succ_ne_self, Bool.not_true, Bool.not_false, beq_self_eq_true, List.replicate_succ, List.replicate_zero, Bool.and_self, gt_iff_lt]
    refine ite_both (fun hb => ?_) (fun hb => ?_)
    · obtain ⟨rfl, rfl⟩ := hbad (.inr (.inr (by simpa using hb)))
      exact ⟨rfl, rfl⟩
    have hb2 : s.made ≤ 2 ∧ s.kind ≤ 2 := by simp at hb; omega
    have hE := hgood hk hsv hb2.1 hb2.2
    clear hbad hgood hS hK
    refine ite_both (fun hb => ?_) (fun hb => ?_)
    · have hE2 : E = 3 := by rw [hE, if_pos (by simp at hb; omega)]
      have hL2 : L = [] := by rw [hL, if_pos (by rw [hE2]; decide)]
      rw [hE2, hL2]
      exact ⟨rfl, rfl⟩
    have hb3 : s.data.length ≤ 32768 := by simp at hb; omega
    rw [if_neg (by omega)] at hE
    subst hE
    rw [if_neg (by decide)] at hL
    rw [if_pos rfl] at hL
    subst hL
    have hQ := lay ([]) s.n 4 (by first | (simp; done) | (simp only [List.length_append, digs_length, List.length_cons, List.length_nil]; omega)) rfl (by omega) (by omega) (by omega)
    rw [List.nil_append] at hQ
    refine call_go TO 100 hQ Tryd.func39 (by decide +kernel) rfl rfl rfl ?_
    clear hQ
    simp only [pureOpC, unc, absRun, absOps, absOp, evO, constSV, ungd, gdP, gdPs, setD, notIn, blkAt, fnd, upd, Data.len, Data.esz, retP, resV, retQ, rAs, rA, rA0, ownN, nodup, bares, bare, bare0, bareD, guardIs, callP, callS, argS, mAs, mA, mA0, mB0, allNotIn, nm, impN, impB, impT, packS, delL, Op.operands, List.getD, List.getElem?_cons_zero, List.getElem?_cons_succ, Option.getD_some, List.set, List.map, List.toList_toArray, and_self, if_true, if_false, eq_self, Nat.zero_add, Nat.add_zero, Int.cast_ofNat_Int, List.append_nil, List.length_nil, Nat.reduceAdd, Nat.reduceMul, Nat.reduceEqDiff, Bool.and_self]
  have d9 : (c == 9) = false := by simpa using c9
  rw [if_neg c9] at hL
  rw [if_neg c5, if_neg c8, if_neg c9] at eW
  subst eW
  simp only [Say.sv, Say.cells, sayZ] at hS
  simp only [d5, d8, d9, if_false, Bool.false_eq_true]
  cases hk : fkB c with
  | false =>
    obtain ⟨rfl, rfl⟩ := hbad (.inl hk)
    rw [hk] at hK
    refine call_go TO 100 hK Tryd.func37 (by decide +kernel) rfl rfl rfl ?_
    simp only [pureOpC, unc, absOps, absOp, evO, ungd, gdP, gdPs, setD, unV, T_ty, T_size, tTy, tSize, pureOp, guardOf, loadV, takeC, dropC, blkAt, fnd, ownN, nodup, bares, bare, bare0, guardIs, callP, callS, argS, mAs, mA, mA0, mB0, allNotIn, impN, impB, impT, packS, delL, Op.operands, List.getD, List.getElem?_cons_zero, List.getElem?_cons_succ, Option.getD_some, List.set, List.map, List.toList_toArray, List.getElem?_toArray, Option.bind_some, Option.map_some, true_and, and_self, implies_true, if_true, if_false, eq_self, ne_eq, not_false_eq_true, reduceCtorEq, Bool.false_eq_true, List.append_nil, Nat.reduceAdd, Nat.reduceSub, Nat.reduceEqDiff, Nat.reduceLeDiff, Bool.not_true, Bool.not_false, Bool.and_self]
    refine skip_go TO 100 (.bool false) ?_
    simp only [d5, d8, d9, w3, w5, w6, List.take_succ_cons, List.take_zero, List.drop_zero, pureOpC, unc, fitT, absRun, absOps, absOp, evO, constSV, ungd, gdP, gdPs, setD, binI, binV, ptrE, unV, convV, T_ty, T_size, T_bytes, T_zero, tTy, tSize, tBytes, tZero, fieldOf, faddrV, pickV, pureOp, guardOf, memOp, lenV, loadV, newV, notIn, dataOf, isSrc, elemsOf, intsOf, zI, known, cellAt, blkAt, fnd, upd, Data.len, Data.esz, Data.sub, Lim.add, retP, resV, retQ, rAs, rA, rA0, ownN, nodup, bares, bare, bare0, bareD, guardIs, Op.operands, Call.operands, List.getD, List.getElem?_cons_zero, List.getElem?_cons_succ, Option.getD_some, List.set, List.map, List.toList_toArray, List.getElem?_toArray, Option.bind_some, Option.map_some, true_and, and_true, and_false, and_self, implies_true, imp_self, if_true, if_false, eq_self, ne_eq, not_false_eq_true, reduceCtorEq, Bool.false_eq_true, Nat.zero_add, Nat.le_refl, Bool.cond_true, List.append_toArray, List.nil_append, List.length_cons, List.length_nil, Nat.reduceAdd, Nat.reduceSub, Nat.reduceMul, Nat.reduceEqDiff, Nat.reduceLeDiff, Nat.reduceLT, Nat.succ_ne_self, Bool.not_true, Bool.not_false, Bool.and_self, Int.reduceEq, gt_iff_lt]
  | true =>
  rw [hk] at hK
  refine call_go TO 100 hK Tryd.func37 (by decide +kernel) rfl rfl rfl ?_
  simp only [pureOpC, unc, absOps, absOp, evO, ungd, gdP, gdPs, setD, unV, T_ty, T_size, tTy, tSize, pureOp, guardOf, loadV, takeC, dropC, blkAt, fnd, ownN, nodup, bares, bare, bare0, guardIs, callP, callS, argS, mAs, mA, mA0, mB0, allNotIn, impN, impB, impT, packS, delL, Op.operands, List.getD, List.getElem?_cons_zero, List.getElem?_cons_succ, Option.getD_some, List.set, List.map, List.toList_toArray, List.getElem?_toArray, Option.bind_some, Option.map_some, true_and, and_self, implies_true, if_true, if_false, eq_self, ne_eq, not_false_eq_true, reduceCtorEq, List.append_nil, Nat.reduceAdd, Nat.reduceSub, Nat.reduceEqDiff, Nat.reduceLeDiff, Bool.not_true, Bool.not_false, Bool.and_self]
  refine call_go TO 100 hS Tryd.func22 (by decide +kernel) rfl rfl rfl ?_
  cases hsv : sw with
  | false =>
    obtain ⟨rfl, rfl⟩ := hbad (.inr (.inl hsv))
    simp only [d5, d8, d9, w3, w5, w6, List.take_succ_cons, List.take_zero, List.drop_zero, pureOpC, unc, fitT, absRun, absOps, absOp, evO, constSV, ungd, gdP, gdPs, setD, binI, binV, ptrE, unV, convV, T_ty, T_size, T_bytes, T_zero, tTy, tSize, tBytes, tZero, fieldOf, faddrV, pickV, pureOp, guardOf, memOp, lenV, loadV, newV, notIn, dataOf, isSrc, elemsOf, intsOf, zI, known, cellAt, blkAt, fnd, upd, Data.len, Data.esz, Data.sub, Lim.add, retP, resV, retQ, rAs, rA, rA0, ownN, nodup, bares, bare, bare0, bareD, guardIs, callP, callS, argS, mAs, mA, mA0, mB0, mAl, lowD, allNotIn, impN, impB, impT, packS, delL, Op.operands, Call.operands, List.getD, List.getElem?_cons_zero, List.getElem?_cons_succ, Option.getD_some, List.set, List.map, List.toList_toArray, List.getElem?_toArray, Option.bind_some, Option.map_some, true_and, and_true, and_false, and_self, implies_true, imp_self, if_true, if_false, eq_self, ne_eq, not_false_eq_true, reduceCtorEq, Bool.false_eq_true, Nat.zero_add, Nat.le_refl, Bool.cond_true, Bool.cond_false, List.append_toArray, List.nil_append, List.append_nil, List.length_cons, List.length_nil, Nat.reduceAdd, Nat.reduceSub, Nat.reduceMul, Nat.reduceEqDiff, Nat.reduceLeDiff, Nat.reduceLT, Nat.succ_ne_self, Bool.not_true, Bool.not_false, List.replicate_succ, List.replicate_zero, Bool.and_self, Int.reduceEq, gt_iff_lt]
  | true =>
  simp only [d5, d8, d9, w3, w5, w6, List.take_succ_cons, List.take_zero, List.drop_zero, pureOpC, unc, fitT, absRun, absOps, absOp, evO, constSV, ungd, gdP, gdPs, setD, binI, binV, ptrE, unV, convV, T_ty, T_size, T_bytes, T_zero, tTy, tSize, tBytes, tZero, fieldOf, faddrV, pickV, pureOp, guardOf, memOp, lenV, loadV, newV, notIn, dataOf, isSrc, elemsOf, intsOf, zI, known, cellAt, blkAt, fnd, upd, Data.len, Data.esz, Data.sub, Lim.add, retP, resV, retQ, rAs, rA, rA0, ownN, nodup, bares, bare, bare0, bareD, guardIs, callP, callS, argS, mAs, mA, mA0, mB0, mAl, lowD, allNotIn, impN, impB, impT, packS, delL, Op.operands, Call.operands, List.getD, List.getElem?_cons_zero, List.getElem?_cons_succ, Option.getD_some, List.set, List.map, List.toList_toArray, List.getElem?_toArray, Option.bind_some, Option.map_some, true_and, and_true, and_self, implies_true, imp_self, if_true, if_false, eq_self, ne_eq, not_false_eq_true, reduceCtorEq, Bool.false_eq_true, Nat.zero_add, Nat.le_refl, Bool.cond_true_left, Bool.cond_false, List.append_toArray, List.nil_append, List.append_nil, List.length_cons, List.length_nil, Nat.reduceAdd, Nat.reduceSub, Nat.reduceMul, Nat.reduceEqDiff, Nat.reduceLeDiff, Nat.reduceLT, Nat.succ_ne_self, Bool.not_true, Bool.not_false, List.replicate_succ, List.replicate_zero, Bool.and_self, gt_iff_lt]
  refine ite_both (fun hb => ?_) (fun hb => ?_)
  · obtain ⟨rfl, rfl⟩ := hbad (.inr (.inr (by simpa using hb)))
    exact ⟨rfl, rfl⟩
  have hb2 : s.made ≤ 2 ∧ s.kind ≤ 2 := by simp at hb; omega
  have hE := hgood hk hsv hb2.1 hb2.2
  clear hbad hgood hS hK
  refine ite_both (fun hb => ?_) (fun hb => ?_)
  · have hE2 : E = 3 := by rw [hE, if_pos (by simp at hb; omega)]
    have hL2 : L = [] := by rw [hL, if_pos (by rw [hE2]; decide)]
    rw [hE2, hL2]
    exact ⟨rfl, rfl⟩
  have hb3 : s.data.length ≤ 32768 := by simp at hb; omega
  rw [if_neg (by omega)] at hE
  subst hE
  rw [if_neg (by decide)] at hL
  subst hL
  have hQ := lay ([]) 0 4 (by first | (simp; done) | (simp only [List.length_append, digs_length, List.length_cons, List.length_nil]; omega)) rfl (by omega) (by omega) (by omega)
  rw [List.nil_append] at hQ
  refine call_go TO 100 hQ Tryd.func39 (by decide +kernel) rfl rfl rfl ?_
  clear hQ
  simp only [pureOpC, unc, absRun, absOps, absOp, evO, constSV, ungd, gdP, gdPs, setD, notIn, blkAt, fnd, upd, Data.len, Data.esz, retP, resV, retQ, rAs, rA, rA0, ownN, nodup, bares, bare, bare0, bareD, guardIs, callP, callS, argS, mAs, mA, mA0, mB0, allNotIn, nm, impN, impB, impT, packS, delL, Op.operands, List.getD, List.getElem?_cons_zero, List.getElem?_cons_succ, Option.getD_some, List.set, List.map, List.toList_toArray, and_self, if_true, if_false, eq_self, Nat.zero_add, Nat.add_zero, Int.cast_ofNat_Int, List.append_nil, List.length_nil, Nat.reduceAdd, Nat.reduceMul, Nat.reduceEqDiff, Bool.and_self]

end Go.Proofs.YtakgefinmlomdaaDoor.Abs
