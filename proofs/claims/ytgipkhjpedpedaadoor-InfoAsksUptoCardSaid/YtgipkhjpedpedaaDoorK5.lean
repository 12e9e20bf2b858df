/- What the document's PutAsk of info answers. -/
import Derived.Test.YtgipkhjpedpedaaDoorKG
import Derived.Test.YtgipkhjpedpedaaDoorKH
import Derived.Test.YtgipkhjpedpedaaDoorRB
set_option linter.unusedVariables false
set_option linter.unusedSimpArgs false
set_option maxRecDepth 100000
namespace Go.Proofs.YtgipkhjpedpedaaDoor.Abs
open Go Go.Proofs

set_option maxHeartbeats 8000000 in
theorem rPutAsk10_meets (c : Int) (a : Ask) (hc : 0 ≤ c) (ha : a.ok) (hs : a.small 1048576) : Meets Tryd.prog 12 [.v (.int .u16 c), .v (a.sv false)] [.own (.ints .u8 (iaL c a)), .v (.int .i64 (iaE c a))] := by
  have hK := iK_meets c hc
  have hA := rasked_meets c a hc
  have hS := Asks_meets (iaW c a) a (iaW_len c a).1 (by have := (iaW_len c a).2.1; omega) (iaW_len c a).2.2
  rw [asks_dec] at hS
  have hbad := iaE_bad (c := c) (a := a)
  have hgood := iaE_good (c := c) (a := a)
  have hL : iaL c a = if iaE c a ≠ 0 then [] else if c = 12 then digs 4 0
    else if c = 14 then digs 8 a.file ++ (digs 2 a.most ++ (digs 2 0 ++ (ptL a.pattern ++ ptL a.after)))
    else if c = 17 then digs 8 a.file ++ (digs 2 a.cls ++ (if a.cls = 1 then digs 8 a.size else digs 2 (onV a.on) ++ (if a.cls = 3 then ptL a.name else [])))
    else if c = 18 then digs 8 a.file ++ (digs 1 a.level ++ (digs 1 0 ++ digs 2 0)) else digs 8 a.file := rfl
  generalize hsw : decide (iaW c a = a) = sw at *
  generalize iaW c a = w at *
  generalize iaE c a = E at *
  generalize iaL c a = L at *
  simp only [Ask.sv, Ask.cells] at hA hS
  refine meets_go TO 100 Tryd.func12 rfl (fun X => ?_)
  simp only [Tryd.ntmps12, Tryd.results12, Ask.sv, Ask.cells, pureOpC, unc, svs, blks, AV.sv, absRun, absOps, absOp, evO, constSV, ungd, gdP, gdPs, setD, pureOp, memOp, newV, notIn, cellsOf, upd, Lim.add, Op.operands, List.getD, List.getElem?_cons_zero, List.getElem?_cons_succ, Option.getD_some, List.set, List.toList_toArray, true_and, and_self, Nat.zero_add, List.cons_append, List.nil_append, List.length_cons, List.length_nil, Nat.reduceAdd, Nat.reduceSub, List.replicate_succ, List.replicate_zero]
  refine draw_go TO 24 100 mixed_ok (by decide +kernel) ?_
  simp only [List.take_succ_cons, List.take_zero, List.drop_succ_cons, List.drop_zero, pureOpC, gloadV, GT, unc, isEff, absD, pureStep, absRun, absOps, absOp, evO, constSV, ungd, gdP, gdPs, setD, binI, binV, ptrE, binS, T_ty, T_size, tTy, tSize, fieldOf, faddrV, pickV, pureOp, memOp, loadV, isB, isA, blkAt, elemV, Data.len, Data.esz, retP, resV, retQ, rAs, rA, rA0, bares, bare, bare0, bareD, Op.operands, List.getD, List.getElem?_cons_zero, List.getElem?_cons_succ, Option.getD_some, List.set, List.map, List.toList_toArray, true_and, and_true, and_false, and_self, implies_true, imp_self, eq_self, ne_eq, not_false_eq_true, forall_const, reduceCtorEq, Nat.reduceAdd, Nat.succ_ne_self, Bool.and_self]
  refine callD_go TO (fun s' h' => HOps_go TO 100 h') hK Tryd.func36 (by decide +kernel) rfl rfl rfl ?_
  cases hk : ikB c with
  | false =>
    obtain ⟨rfl, rfl⟩ := hbad (.inl hk)
    simp only [pureOpC, unc, isEff, absD, pureStep, subB, absOp, evO, ungd, gdP, gdPs, setD, unV, T_ty, T_size, tTy, tSize, pureOp, guardOf, loadV, takeC, dropC, blkAt, fnd, ownN, nodup, bares, bare, bare0, guardIs, callP, callS, argS, mAs, mA, mA0, mB0, allNotIn, impN, impB, impT, packS, delL, Op.operands, List.getD, List.getElem?_cons_zero, List.getElem?_cons_succ, Option.getD_some, List.set, List.map, List.toList_toArray, List.getElem?_toArray, Option.bind_some, Option.map_some, true_and, and_self, implies_true, if_true, eq_self, ne_eq, not_false_eq_true, reduceCtorEq, Bool.false_eq_true, List.append_nil, Nat.reduceAdd, Nat.reduceSub, Nat.reduceLeDiff, Bool.not_true, Bool.not_false, Bool.and_self]
    refine skipD_go TO (.bool false) (fun s' h' => HOps_go TO 100 h') rfl ?_
    simp only [pureOpC, unc, isEff, absD, pureStep, subB, absOp, evO, ungd, gdP, gdPs, setD, T_ty, T_size, tTy, tSize, pureOp, guardOf, loadV, takeC, dropC, blkAt, fnd, guardIs, Op.operands, List.getD, List.getElem?_cons_zero, List.getElem?_cons_succ, Option.getD_some, List.set, List.toList_toArray, List.getElem?_toArray, Option.bind_some, Option.map_some, true_and, and_self, implies_true, if_true, eq_self, ne_eq, not_false_eq_true, reduceCtorEq, Bool.false_eq_true, Nat.reduceAdd, Nat.reduceSub, Nat.reduceLeDiff, Bool.not_true]
    refine skipD_go TO (.bool false) (fun s' h' => HOps_go TO 100 h') rfl ?_
    simp only [pureOpC, unc, isEff, absD, pureStep, subB, absRun, absOps, absOp, evO, constSV, ungd, gdP, gdPs, setD, binI, binV, ptrE, unV, T_ty, T_size, tTy, tSize, fieldOf, faddrV, pickV, pureOp, guardOf, memOp, loadV, cellAt, blkAt, fnd, Data.len, retP, resV, retQ, rAs, rA, rA0, ownN, nodup, bares, bare, bare0, bareD, guardIs, Op.operands, List.getD, List.getElem?_cons_zero, List.getElem?_cons_succ, Option.getD_some, List.set, List.map, List.toList_toArray, List.getElem?_toArray, Option.bind_some, true_and, and_self, implies_true, imp_self, if_true, if_false, eq_self, ne_eq, not_false_eq_true, reduceCtorEq, Bool.false_eq_true, Nat.zero_add, Bool.cond_true_left, Bool.cond_false_right, Bool.cond_true, List.length_nil, Nat.reduceAdd, Nat.reduceSub, Nat.reduceLT, Nat.succ_ne_self, Bool.not_true, Bool.not_false, Bool.and_self, Bool.false_and, gt_iff_lt]
  | true =>
    simp only [pureOpC, unc, isEff, absD, pureStep, subB, absOp, evO, ungd, gdP, gdPs, setD, unV, T_ty, T_size, tTy, tSize, pureOp, guardOf, loadV, takeC, dropC, blkAt, fnd, ownN, nodup, bares, bare, bare0, guardIs, callP, callS, argS, mAs, mA, mA0, mB0, allNotIn, impN, impB, impT, packS, delL, Op.operands, List.getD, List.getElem?_cons_zero, List.getElem?_cons_succ, Option.getD_some, List.set, List.map, List.toList_toArray, List.getElem?_toArray, Option.bind_some, Option.map_some, true_and, and_self, implies_true, if_true, eq_self, ne_eq, not_false_eq_true, reduceCtorEq, List.append_nil, Nat.reduceAdd, Nat.reduceSub, Nat.reduceLeDiff, Bool.not_true, Bool.not_false, Bool.and_self]
    refine callD_go TO (fun s' h' => HOps_go TO 100 h') hA Tryd.func37 (by decide +kernel) rfl rfl rfl ?_
    simp only [pureOpC, unc, isEff, absD, pureStep, subB, absOp, evO, ungd, gdP, gdPs, setD, T_ty, T_size, tTy, tSize, pureOp, guardOf, loadV, takeC, dropC, blkAt, fnd, ownN, nodup, bares, bare, bare0, bareL, bareD, guardIs, callP, callS, argS, mAs, mA, mA0, mB0, mAl, lowD, allNotIn, impN, impB, impT, packS, delL, Op.operands, List.getD, List.getElem?_cons_zero, List.getElem?_cons_succ, Option.getD_some, List.set, List.map, List.toList_toArray, List.getElem?_toArray, Option.bind_some, Option.map_some, true_and, and_self, implies_true, if_true, eq_self, ne_eq, not_false_eq_true, reduceCtorEq, List.append_nil, Nat.reduceAdd, Nat.reduceSub, Nat.reduceLeDiff, Bool.not_false, Bool.and_self]
    refine callD_go TO (fun s' h' => HOps_go TO 100 h') hS Tryd.func14 (by decide +kernel) rfl rfl rfl ?_
    simp only [pureOpC, unc, isEff, absD, pureStep, subB, absRun, absOps, absOp, evO, constSV, ungd, gdP, gdPs, setD, binI, binV, ptrE, unV, T_ty, T_size, tTy, tSize, fieldOf, faddrV, pickV, pureOp, guardOf, memOp, loadV, cellAt, blkAt, fnd, Data.len, retP, resV, retQ, rAs, rA, rA0, ownN, nodup, bares, bare, bare0, bareD, guardIs, callP, callS, argS, mAs, mA, mA0, mB0, mAl, lowD, allNotIn, impN, impB, impT, packS, delL, Op.operands, List.getD, List.getElem?_cons_zero, List.getElem?_cons_succ, Option.getD_some, List.set, List.map, List.toList_toArray, List.getElem?_toArray, Option.bind_some, true_and, and_true, and_self, implies_true, imp_self, if_true, if_false, eq_self, ne_eq, not_false_eq_true, reduceCtorEq, Nat.zero_add, Bool.cond_true_left, Bool.cond_false_right, Bool.cond_false, List.append_nil, Nat.reduceAdd, Nat.reduceSub, Nat.reduceLT, Nat.succ_ne_self, Bool.not_false, Bool.and_self, gt_iff_lt]
    refine ite_both (fun hb => ?_) (fun hb => ?_)
    · obtain ⟨rfl, rfl⟩ := hbad (.inr hb)
      exact ⟨rfl, rfl⟩
    have hb' : iaBad c a sw = false := by unfold iaBad; simpa using hb
    obtain ⟨hE, hcl⟩ := hgood hk hb'
    clear hbad hgood hA hS hK hb hb'
    have f0 := ha.file.1
    have f1 := ha.file.2
    have m0 := ha.most.1
    have m1 := ha.most.2
    have l0 := ha.level.1
    have l1 := ha.level.2
    have k0 := ha.cls.1
    have k1 := ha.cls.2
    have z0 := ha.size.1
    have z1 := ha.size.2
    have s1 := hs.pattern
    have s2 := hs.after
    have s3 := hs.name
    have wm : IntKind.u64.wrap a.most = a.most := wu64 (by omega) (by omega)
    have wc : IntKind.u64.wrap a.cls = a.cls := wu64 (by omega) (by omega)
    have on0 := (on_ok a.on).1
    have on1 := (on_ok a.on).2.1
    have lay : ∀ (l : List Int) (n : Int) (k : Nat), l.length ≤ 1000000000 → szB k = true → 0 ≤ n → n < 256 ^ k → n < 18446744073709551616 → Meets Tryd.prog 38 [.own (.ints .u8 l), .v (.int .u64 n), .v (.int .i64 k)] [.own (.ints .u8 (l ++ digs k n))] := Lay_meets
    have q8 := digs_length 8 a.file
    by_cases c12 : c = 12
    · subst c12
      rw [if_neg (by decide), if_neg (by omega)] at hE
      subst hE
      rw [if_neg (by decide), if_pos rfl] at hL
      subst hL
      have hQ := lay [] 0 4 (by simp) rfl (by decide) (by decide) (by decide)
      rw [List.nil_append] at hQ
      simp only [if_true, eq_self, Int.reduceBEq, beq_self_eq_true, Bool.and_false, Bool.false_and, Bool.or_false]
      refine call_go TO 100 hQ Tryd.func38 (by decide +kernel) rfl rfl rfl ?_
      simp only [pureOpC, unc, absRun, absOps, absOp, evO, constSV, ungd, gdP, gdPs, setD, notIn, blkAt, fnd, upd, Data.len, Data.esz, retP, resV, retQ, rAs, rA, rA0, ownN, nodup, bares, bare, bare0, bareD, guardIs, callP, callS, argS, mAs, mA, mA0, mB0, allNotIn, nm, impN, impB, impT, packS, delL, Op.operands, List.getD, List.getElem?_cons_zero, List.getElem?_cons_succ, Option.getD_some, List.set, List.map, List.toList_toArray, and_self, if_true, if_false, eq_self, Nat.zero_add, Nat.add_zero, Int.cast_ofNat_Int, List.append_nil, List.length_nil, Nat.reduceAdd, Nat.reduceMul, Nat.reduceEqDiff, Bool.and_self]
    have d12 : (c != 12) = true := by simpa using c12
    have d12' : (c == 12) = false := by simpa using c12
    have h8 := lay [] a.file 8 (by simp) rfl (by omega) (by omega) (by omega)
    rw [List.nil_append] at h8
    simp only [d12', if_false, Bool.false_eq_true]
    refine call_go TO 100 h8 Tryd.func38 (by decide +kernel) rfl rfl rfl ?_
    by_cases c14 : c = 14
    · subst c14
      rw [if_pos rfl] at hE
      rw [if_neg c12, if_pos rfl] at hL
      have hE2 : tx2E a.pattern a.after = E := by rw [hE]; rfl
      have hL2 : tx2L (digs 8 a.file ++ digs 2 a.most ++ digs 2 0) a.pattern a.after = L := by
        rw [hL]; unfold tx2L; rw [hE2]
        simp only [List.append_assoc]
      have h1 := lay (digs 8 a.file) a.most 2 (by omega) rfl (by omega) (by omega) (by omega)
      have h2 := lay (digs 8 a.file ++ digs 2 a.most) 0 2 (by simp only [List.length_append, digs_length]; omega) rfl (by decide) (by decide) (by decide)
      have h3 := rtx2_meets (digs 8 a.file ++ digs 2 a.most ++ digs 2 0) a.pattern a.after (by simp only [List.length_append, digs_length]; omega) s1 s2
      rw [hE2, hL2] at h3
      simp only [wm, List.take_succ_cons, List.take_zero, List.drop_zero, pureOpC, unc, fitT, absRun, absOps, absOp, evO, constSV, ungd, gdP, gdPs, setD, binI, binV, ptrE, convV, T_ty, T_size, T_bytes, T_zero, tTy, tSize, tBytes, tZero, fieldOf, faddrV, pureOp, memOp, loadV, newV, notIn, dataOf, appD, isSrc, elemsOf, intsOf, zI, known, cellAt, blkAt, fnd, upd, del, mv, Data.len, Data.esz, Data.sub, Lim.add, retP, resV, retQ, rAs, rA, rA0, ownN, nodup, bares, bare, bare0, bareD, guardIs, callP, callS, argS, mAs, mA, mA0, mB0, allNotIn, nm, impN, impB, impT, packS, delL, Op.operands, Call.operands, List.getD, List.getElem?_cons_zero, List.getElem?_cons_succ, Option.getD_some, List.set, List.map, List.toList_toArray, Option.map_some, true_and, and_true, and_self, if_true, if_false, eq_self, ne_eq, not_false_eq_true, reduceCtorEq, Bool.false_eq_true, Nat.zero_add, Nat.add_zero, Int.cast_ofNat_Int, Nat.le_refl, Int.reduceBEq, List.append_toArray, List.nil_append, List.append_nil, List.length_cons, List.length_nil, Nat.reduceAdd, Nat.reduceSub, Nat.reduceMul, Nat.reduceEqDiff, Nat.reduceLeDiff, Nat.reduceLT, Nat.succ_ne_self, beq_self_eq_true, Bool.and_self, Bool.and_false, Bool.false_and, Bool.or_false, Data.ints.injEq]
      refine call_go TO 100 h1 Tryd.func38 (by decide +kernel) rfl rfl rfl ?_
      simp only [pureOpC, unc, absRun, absOps, absOp, evO, constSV, ungd, gdP, gdPs, setD, pureOp, memOp, notIn, blkAt, fnd, upd, del, Data.len, Data.esz, ownN, nodup, bares, bare, bareD, guardIs, callP, callS, argS, mAs, mA, mA0, mB0, lowD, allNotIn, nm, impN, impB, impT, packS, delL, Op.operands, List.getD, List.getElem?_cons_zero, List.getElem?_cons_succ, Option.getD_some, List.set, List.map, List.toList_toArray, true_and, and_self, if_true, if_false, eq_self, Nat.zero_add, Nat.add_zero, Int.cast_ofNat_Int, List.append_nil, Nat.reduceAdd, Nat.reduceMul, Nat.reduceEqDiff, Bool.and_self]
      refine call_go TO 100 h2 Tryd.func38 (by decide +kernel) rfl rfl rfl ?_
      simp only [pureOpC, unc, absRun, absOps, absOp, evO, constSV, ungd, gdP, gdPs, setD, T_ty, T_size, tTy, tSize, fieldOf, faddrV, pureOp, memOp, loadV, newV, notIn, elemsOf, strsOf, cellAt, blkAt, fnd, upd, del, Data.len, Data.esz, Lim.add, ownN, nodup, bares, bare, bareD, guardIs, callP, callS, argS, mAs, mA, mA0, mB0, lowD, allNotIn, nm, impN, impB, impT, packS, delL, Op.operands, List.getD, List.getElem?_cons_zero, List.getElem?_cons_succ, Option.getD_some, List.set, List.map, List.toList_toArray, Option.map_some, true_and, and_self, if_true, if_false, eq_self, ne_eq, not_false_eq_true, reduceCtorEq, Nat.zero_add, Nat.add_zero, Int.cast_ofNat_Int, List.append_nil, List.length_cons, List.length_nil, Nat.reduceAdd, Nat.reduceSub, Nat.reduceMul, Nat.reduceEqDiff, Nat.reduceLeDiff, Nat.reduceLT, Nat.succ_ne_self, Bool.and_self]
      refine call_go TO 100 h3 Tryd.func39 (by decide +kernel) rfl rfl rfl ?_
      simp only [List.take_succ_cons, List.take_zero, List.drop_zero, pureOpC, unc, absRun, absOps, absOp, evO, ungd, gdP, gdPs, setD, extractV, pureOp, notIn, blkAt, fnd, upd, del, Data.len, Data.esz, Data.sub, retP, resV, retQ, rAs, rA, rA0, ownN, nodup, bares, bare, bare0, bareD, guardIs, callP, callS, argS, mAs, mA, mA0, mB0, lowD, allNotIn, nm, impN, impB, impT, packS, delL, Op.operands, List.getD, List.getElem?_cons_zero, List.getElem?_cons_succ, Option.getD_some, List.set, List.map, List.toList_toArray, and_self, if_true, if_false, eq_self, Nat.zero_add, Nat.add_zero, Nat.le_refl, List.cons_append, List.nil_append, List.length_cons, List.length_nil, Nat.reduceAdd, Nat.reduceMul, Nat.reduceEqDiff, Bool.and_self]
    rw [if_neg c14] at hE
    rw [if_neg c12, if_neg c14] at hL
    have d14 : (c == 14) = false := by simpa using c14
    by_cases c17 : c = 17
    · subst c17
      rw [if_pos rfl] at hL
      have h1 := lay (digs 8 a.file) a.cls 2 (by omega) rfl (by omega) (by omega) (by omega)
      have hlen : (digs 8 a.file ++ digs 2 a.cls).length = 10 := by rw [List.length_append, digs_length, digs_length]
      simp only [wc, List.take_succ_cons, List.take_zero, List.drop_zero, pureOpC, unc, fitT, absRun, absOps, absOp, evO, constSV, ungd, gdP, gdPs, setD, binI, binV, ptrE, convV, T_ty, T_size, T_bytes, T_zero, tTy, tSize, tBytes, tZero, fieldOf, faddrV, pureOp, memOp, loadV, newV, notIn, dataOf, appD, isSrc, elemsOf, intsOf, zI, known, cellAt, blkAt, fnd, upd, del, mv, Data.len, Data.esz, Data.sub, Lim.add, retP, resV, retQ, rAs, rA, rA0, ownN, nodup, bares, bare, bare0, bareD, guardIs, callP, callS, argS, mAs, mA, mA0, mB0, allNotIn, nm, impN, impB, impT, packS, delL, Op.operands, Call.operands, List.getD, List.getElem?_cons_zero, List.getElem?_cons_succ, Option.getD_some, List.set, List.map, List.toList_toArray, Option.map_some, true_and, and_true, and_self, if_true, if_false, eq_self, ne_eq, not_false_eq_true, reduceCtorEq, Bool.false_eq_true, Nat.zero_add, Nat.add_zero, Int.cast_ofNat_Int, Nat.le_refl, Int.reduceBEq, List.append_toArray, List.nil_append, List.append_nil, List.length_cons, List.length_nil, Nat.reduceAdd, Nat.reduceSub, Nat.reduceMul, Nat.reduceEqDiff, Nat.reduceLeDiff, Nat.reduceLT, Nat.succ_ne_self, beq_self_eq_true, Bool.and_true, Bool.true_and, Bool.and_self, Data.ints.injEq]
      refine call_go TO 100 h1 Tryd.func38 (by decide +kernel) rfl rfl rfl ?_
      simp only [pureOpC, unc, absRun, absOps, absOp, evO, constSV, ungd, gdP, gdPs, setD, binI, binV, ptrE, T_ty, T_size, tTy, tSize, fieldOf, faddrV, pureOp, memOp, loadV, notIn, cellAt, blkAt, fnd, upd, del, Data.len, Data.esz, ownN, nodup, bares, bare, bareD, guardIs, callP, callS, argS, mAs, mA, mA0, mB0, lowD, allNotIn, nm, impN, impB, impT, packS, delL, Op.operands, List.getD, List.getElem?_cons_zero, List.getElem?_cons_succ, Option.getD_some, List.set, List.map, List.toList_toArray, true_and, and_self, if_true, if_false, eq_self, ne_eq, not_false_eq_true, reduceCtorEq, Nat.zero_add, Nat.add_zero, Int.cast_ofNat_Int, List.append_nil, Nat.reduceAdd, Nat.reduceSub, Nat.reduceMul, Nat.reduceEqDiff, Nat.reduceLT, Nat.succ_ne_self, Bool.and_self]
      rcases hcl rfl with g | g | g
      · rw [if_neg (by omega)] at hE
        subst hE
        rw [if_neg (by decide), if_pos g] at hL
        rw [← List.append_assoc] at hL
        subst hL
        have e1 : (a.cls == 1) = true := by simpa using g
        have h2 := lay (digs 8 a.file ++ digs 2 a.cls) a.size 8 (by omega) rfl (by omega) (by omega) (by omega)
        simp only [e1, if_true, eq_self]
        refine call_go TO 100 h2 Tryd.func38 (by decide +kernel) rfl rfl rfl ?_
        simp only [pureOpC, unc, absRun, absOps, absOp, evO, constSV, ungd, gdP, gdPs, setD, notIn, blkAt, fnd, upd, del, Data.len, Data.esz, retP, resV, retQ, rAs, rA, rA0, ownN, nodup, bares, bare, bare0, bareD, guardIs, callP, callS, argS, mAs, mA, mA0, mB0, lowD, allNotIn, nm, impN, impB, impT, packS, delL, Op.operands, List.getD, List.getElem?_cons_zero, List.getElem?_cons_succ, Option.getD_some, List.set, List.map, List.toList_toArray, and_self, if_true, if_false, eq_self, Nat.zero_add, Nat.add_zero, Int.cast_ofNat_Int, List.append_nil, Nat.reduceAdd, Nat.reduceMul, Nat.reduceEqDiff, Bool.and_self]
      · rw [if_neg (by omega)] at hE
        subst hE
        rw [if_neg (by decide), if_neg (by omega), if_neg (by omega), List.append_nil] at hL
        rw [← List.append_assoc] at hL
        subst hL
        have e1 : (a.cls == 1) = false := by simp; omega
        have e3 : (a.cls == 3) = false := by simp; omega
        have h2 := lay (digs 8 a.file ++ digs 2 a.cls) (onV a.on) 2 (by omega) rfl (by omega) (by omega) (by omega)
        simp only [e1, if_false, Bool.false_eq_true]
        refine call_go TO 100 (rtruth_meets a.on) Tryd.func40 (by decide +kernel) rfl rfl rfl ?_
        simp only [pureOpC, unc, absOps, absOp, evO, ungd, gdP, gdPs, pureOp, memOp, ownN, nodup, bares, bare, bare0, guardIs, callP, callS, argS, mAs, mA, mA0, mB0, allNotIn, impN, impB, impT, packS, delL, List.getD, List.getElem?_cons_zero, List.getElem?_cons_succ, Option.getD_some, List.set, List.map, true_and, and_self, eq_self, List.append_nil, Bool.and_self]
        refine call_go TO 100 h2 Tryd.func38 (by decide +kernel) rfl rfl rfl ?_
        simp only [e3, pureOpC, unc, absRun, absOps, absOp, evO, constSV, ungd, gdP, gdPs, setD, binI, binV, ptrE, T_ty, T_size, tTy, tSize, fieldOf, faddrV, pureOp, memOp, loadV, newV, notIn, elemsOf, strsOf, cellAt, blkAt, fnd, upd, del, Data.len, Data.esz, Lim.add, retP, resV, retQ, rAs, rA, rA0, ownN, nodup, bares, bare, bare0, bareD, guardIs, callP, callS, argS, mAs, mA, mA0, mB0, lowD, allNotIn, nm, impN, impB, impT, packS, delL, Op.operands, List.getD, List.getElem?_cons_zero, List.getElem?_cons_succ, Option.getD_some, List.set, List.map, List.toList_toArray, Option.map_some, true_and, and_self, if_true, if_false, eq_self, ne_eq, not_false_eq_true, reduceCtorEq, Bool.false_eq_true, Nat.zero_add, Nat.add_zero, Int.cast_ofNat_Int, List.append_nil, List.length_cons, List.length_nil, Nat.reduceAdd, Nat.reduceSub, Nat.reduceMul, Nat.reduceEqDiff, Nat.reduceLeDiff, Nat.reduceLT, Nat.succ_ne_self, Bool.and_self]
      · rw [if_pos ⟨rfl, g⟩] at hE
        rw [if_neg (show ¬ a.cls = 1 by omega), if_pos g] at hL
        have hL2 : tx1L (digs 8 a.file ++ digs 2 a.cls ++ digs 2 (onV a.on)) a.name = L := by
          rw [hL, hE]; unfold tx1L; simp only [List.append_assoc]
        have e1 : (a.cls == 1) = false := by simp; omega
        have e3 : (a.cls == 3) = true := by simpa using g
        have h2 := lay (digs 8 a.file ++ digs 2 a.cls) (onV a.on) 2 (by omega) rfl (by omega) (by omega) (by omega)
        have h3 := rtx1_meets (digs 8 a.file ++ digs 2 a.cls ++ digs 2 (onV a.on)) a.name (by simp only [List.length_append, digs_length]; omega) s3
        rw [hL2, ← hE] at h3
        simp only [e1, if_false, Bool.false_eq_true]
        refine call_go TO 100 (rtruth_meets a.on) Tryd.func40 (by decide +kernel) rfl rfl rfl ?_
        simp only [pureOpC, unc, absOps, absOp, evO, ungd, gdP, gdPs, pureOp, memOp, ownN, nodup, bares, bare, bare0, guardIs, callP, callS, argS, mAs, mA, mA0, mB0, allNotIn, impN, impB, impT, packS, delL, List.getD, List.getElem?_cons_zero, List.getElem?_cons_succ, Option.getD_some, List.set, List.map, true_and, and_self, eq_self, List.append_nil, Bool.and_self]
        refine call_go TO 100 h2 Tryd.func38 (by decide +kernel) rfl rfl rfl ?_
        simp only [e3, pureOpC, unc, absRun, absOps, absOp, evO, constSV, ungd, gdP, gdPs, setD, binI, binV, ptrE, T_ty, T_size, tTy, tSize, fieldOf, faddrV, pureOp, memOp, loadV, newV, notIn, elemsOf, strsOf, cellAt, blkAt, fnd, upd, del, Data.len, Data.esz, Lim.add, retP, resV, retQ, rAs, rA, rA0, ownN, nodup, bares, bare, bare0, bareD, guardIs, callP, callS, argS, mAs, mA, mA0, mB0, lowD, allNotIn, nm, impN, impB, impT, packS, delL, Op.operands, List.getD, List.getElem?_cons_zero, List.getElem?_cons_succ, Option.getD_some, List.set, List.map, List.toList_toArray, Option.map_some, true_and, and_true, and_self, if_true, if_false, eq_self, ne_eq, not_false_eq_true, reduceCtorEq, Nat.zero_add, Nat.add_zero, Int.cast_ofNat_Int, List.append_nil, List.length_cons, List.length_nil, Nat.reduceAdd, Nat.reduceSub, Nat.reduceMul, Nat.reduceEqDiff, Nat.reduceLeDiff, Nat.reduceLT, Nat.succ_ne_self, Bool.and_self, Data.ints.injEq]
        refine call_go TO 100 h3 Tryd.func39 (by decide +kernel) rfl rfl rfl ?_
        simp only [List.take_succ_cons, List.take_zero, List.drop_zero, pureOpC, unc, absRun, absOps, absOp, evO, ungd, gdP, gdPs, setD, extractV, pureOp, notIn, blkAt, fnd, upd, del, Data.len, Data.esz, Data.sub, retP, resV, retQ, rAs, rA, rA0, ownN, nodup, bares, bare, bare0, bareD, guardIs, callP, callS, argS, mAs, mA, mA0, mB0, lowD, allNotIn, nm, impN, impB, impT, packS, delL, Op.operands, List.getD, List.getElem?_cons_zero, List.getElem?_cons_succ, Option.getD_some, List.set, List.map, List.toList_toArray, and_self, if_true, if_false, eq_self, Nat.zero_add, Nat.add_zero, Nat.le_refl, List.cons_append, List.nil_append, List.length_cons, List.length_nil, Nat.reduceAdd, Nat.reduceMul, Nat.reduceEqDiff, Bool.and_self]
    rw [if_neg (fun h => c17 h.1)] at hE
    subst hE
    rw [if_neg (by decide), if_neg c17] at hL
    have d17 : (c == 17) = false := by simpa using c17
    by_cases c18 : c = 18
    · subst c18
      have e4 : digs 1 a.level ++ (digs 1 0 ++ digs 2 0) = [a.level, 0, 0, 0] := by
        simp only [digs, List.cons_append, List.nil_append, List.cons.injEq, and_true]
        omega
      rw [if_pos rfl, e4] at hL
      subst hL
      simp only [List.take_succ_cons, List.take_zero, List.drop_zero, pureOpC, unc, fitT, absRun, absOps, absOp, evO, constSV, ungd, gdP, gdPs, setD, binI, binV, ptrE, convV, T_ty, T_size, T_bytes, T_zero, tTy, tSize, tBytes, tZero, fieldOf, faddrV, pureOp, memOp, loadV, newV, notIn, dataOf, appD, isSrc, elemsOf, intsOf, zI, known, cellAt, blkAt, fnd, upd, del, mv, Data.len, Data.esz, Data.sub, Lim.add, retP, resV, retQ, rAs, rA, rA0, ownN, nodup, bares, bare, bare0, bareD, guardIs, callP, callS, argS, mAs, mA, mA0, mB0, allNotIn, nm, impN, impB, impT, packS, delL, Op.operands, Call.operands, List.getD, List.getElem?_cons_zero, List.getElem?_cons_succ, Option.getD_some, List.set, List.map, List.toList_toArray, Option.map_some, true_and, and_true, and_self, if_true, if_false, eq_self, ne_eq, not_false_eq_true, reduceCtorEq, Bool.false_eq_true, Nat.zero_add, Nat.add_zero, Int.cast_ofNat_Int, Nat.le_refl, Int.reduceBEq, List.append_toArray, List.nil_append, List.append_nil, List.length_cons, List.length_nil, Nat.reduceAdd, Nat.reduceSub, Nat.reduceMul, Nat.reduceEqDiff, Nat.reduceLeDiff, Nat.reduceLT, Nat.succ_ne_self, beq_self_eq_true, Bool.and_self, Bool.and_false, Bool.false_and, Bool.or_false, Data.ints.injEq]
      first | done | (refine ⟨by omega, by omega⟩) | (rw [q8]; simp)
    · rw [if_neg c18] at hL
      subst hL
      have d18 : (c == 18) = false := by simpa using c18
      simp only [d14, d17, d18, List.take_succ_cons, List.take_zero, List.drop_zero, pureOpC, unc, fitT, absRun, absOps, absOp, evO, constSV, ungd, gdP, gdPs, setD, binI, binV, ptrE, convV, T_ty, T_size, T_bytes, T_zero, tTy, tSize, tBytes, tZero, fieldOf, faddrV, pureOp, memOp, loadV, newV, notIn, dataOf, appD, isSrc, elemsOf, intsOf, zI, known, cellAt, blkAt, fnd, upd, del, mv, Data.len, Data.esz, Data.sub, Lim.add, retP, resV, retQ, rAs, rA, rA0, ownN, nodup, bares, bare, bare0, bareD, guardIs, callP, callS, argS, mAs, mA, mA0, mB0, allNotIn, nm, impN, impB, impT, packS, delL, Op.operands, Call.operands, List.getD, List.getElem?_cons_zero, List.getElem?_cons_succ, Option.getD_some, List.set, List.map, List.toList_toArray, Option.map_some, true_and, and_true, and_self, if_true, if_false, eq_self, ne_eq, not_false_eq_true, reduceCtorEq, Bool.false_eq_true, Nat.zero_add, Nat.add_zero, Int.cast_ofNat_Int, Nat.le_refl, List.append_toArray, List.nil_append, List.append_nil, List.length_cons, List.length_nil, Nat.reduceAdd, Nat.reduceSub, Nat.reduceMul, Nat.reduceEqDiff, Nat.reduceLeDiff, Nat.reduceLT, Nat.succ_ne_self, Bool.and_self, Bool.and_false, Bool.false_and, Bool.or_false, Data.ints.injEq]

end Go.Proofs.YtgipkhjpedpedaaDoor.Abs
