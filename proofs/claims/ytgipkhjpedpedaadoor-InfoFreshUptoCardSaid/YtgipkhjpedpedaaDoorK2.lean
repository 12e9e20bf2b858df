/- What info's PutAsk answers. -/
import Derived.Test.YtgipkhjpedpedaaDoorKH
import Derived.Test.YtgipkhjpedpedaaDoorK0
import Derived.Test.YtgipkhjpedpedaaDoorK1
set_option linter.unusedVariables false
set_option linter.unusedSimpArgs false
set_option maxRecDepth 100000
namespace Go.Proofs.YtgipkhjpedpedaaDoor.Abs
open Go Go.Proofs

set_option maxHeartbeats 8000000 in
theorem iPutAsk_meets (c : Int) (a : Ask) (hc : 0 ≤ c) (ha : a.ok) (hs : a.small 1048576) : Meets Tryd.prog 11 [.v (.int .u16 c), .v (a.sv false)] [.own (.ints .u8 (iaL c a)), .v (.int .i64 (iaE c a))] := by
  have hK := ik_meets c hc
  have hA := iasked_meets c a hc
  have hS := isame_meets (iaW c a) a (iaW_len c a) ⟨by have := hs.dialects; omega, by have := hs.data; omega, by have := hs.locks; omega⟩
  rw [isame_want] at hS
  have hbad := iaE_bad (c := c) (a := a)
  have hgood := iaE_good (c := c) (a := a)
  have hL : iaL c a = if iaE c a ≠ 0 then [] else if c = 12 then digs 4 0
    else if c = 14 then digs 8 a.file ++ (digs 2 a.most ++ (digs 2 0 ++ (ptL a.pattern ++ ptL a.after)))
    else if c = 17 then digs 8 a.file ++ (digs 2 a.cls ++ (if a.cls = 1 then digs 8 a.size else digs 2 (onV a.on) ++ (if a.cls = 3 then ptL a.name else [])))
    else if c = 18 then digs 8 a.file ++ (digs 1 a.level ++ (digs 1 0 ++ digs 2 0)) else digs 8 a.file := rfl
  generalize hsw : decide (iaW c a = a) = sw at *
  generalize iaW c a = w at *
  generalize iaE c a = E at *
  generalize iaL c a = L at *
  simp only [Ask.sv, Ask.cells] at hA hS
  refine meets_go TO 100 Tryd.func11 rfl (fun X => ?_)
  simp only [Tryd.ntmps11, Tryd.results11, Ask.sv, Ask.cells, pureOpC, unc, svs, blks, AV.sv, absRun, absOps, absOp, evO, constSV, ungd, gdP, gdPs, setD, pureOp, memOp, newV, notIn, cellsOf, upd, Lim.add, Op.operands, List.getD, List.getElem?_cons_zero, List.getElem?_cons_succ, Option.getD_some, List.set, List.toList_toArray, true_and, and_self, Nat.zero_add, List.cons_append, List.nil_append, List.length_cons, List.length_nil, Nat.reduceAdd, Nat.reduceSub, List.replicate_succ, List.replicate_zero]
  refine draw_go TO 24 100 mixed_ok (by decide +kernel) ?_
  simp only [List.take_succ_cons, List.take_zero, List.drop_succ_cons, List.drop_zero, pureOpC, buildV, fillC, gloadV, GT, unc, isEff, absD, pureStep, absRun, absOps, absOp, evO, constSV, ungd, gdP, gdPs, setD, binI, binV, ptrE, convV, binS, T_ty, T_size, T_zero, tTy, tSize, tZero, fieldOf, faddrV, pickV, pureOp, memOp, loadV, newV, notIn, scal, cellsOf, isB, isA, known, blkAt, elemV, Data.len, Data.esz, Lim.add, retP, resV, retQ, rAs, rA, rA0, bares, bare, bare0, bareD, Op.operands, List.getD, List.getElem?_cons_zero, List.getElem?_cons_succ, Option.getD_some, List.set, List.map, List.all, List.toList_toArray, Option.isSome, true_and, and_true, and_false, and_self, implies_true, imp_self, eq_self, ne_eq, not_false_eq_true, forall_const, reduceCtorEq, Nat.reduceAdd, Nat.succ_ne_self, Bool.and_self, Nat.reduceBNe]
  refine callD_go TO (fun s' h' => HOps_go TO 100 h') hK Tryd.func29 (by decide +kernel) rfl rfl rfl ?_
  cases hk : ikB c with
  | false =>
    obtain ⟨rfl, rfl⟩ := hbad (.inl hk)
    simp only [pureOpC, unc, isEff, absD, pureStep, subB, absOp, evO, ungd, gdP, gdPs, setD, unV, T_ty, T_size, tTy, tSize, pureOp, guardOf, loadV, takeC, dropC, blkAt, fnd, ownN, nodup, bares, bare, bare0, guardIs, callP, callS, argS, mAs, mA, mA0, mB0, allNotIn, impN, impB, impT, packS, delL, Op.operands, List.getD, List.getElem?_cons_zero, List.getElem?_cons_succ, Option.getD_some, List.set, List.map, List.toList_toArray, List.getElem?_toArray, Option.bind_some, Option.map_some, true_and, and_self, implies_true, if_true, eq_self, ne_eq, not_false_eq_true, reduceCtorEq, Bool.false_eq_true, List.append_nil, Nat.reduceAdd, Nat.reduceSub, Nat.reduceLeDiff, Bool.not_true, Bool.not_false, Bool.and_self]
    refine skipD_go TO (.bool false) (fun s' h' => HOps_go TO 100 h') rfl ?_
    simp only [pureOpC, unc, isEff, absD, pureStep, subB, absOp, evO, ungd, gdP, gdPs, setD, T_ty, T_size, tTy, tSize, pureOp, guardOf, loadV, takeC, dropC, blkAt, fnd, guardIs, Op.operands, List.getD, List.getElem?_cons_zero, List.getElem?_cons_succ, Option.getD_some, List.set, List.toList_toArray, List.getElem?_toArray, Option.bind_some, Option.map_some, true_and, and_self, implies_true, if_true, eq_self, ne_eq, not_false_eq_true, reduceCtorEq, Bool.false_eq_true, Nat.reduceAdd, Nat.reduceSub, Nat.reduceLeDiff, Bool.not_true]
    refine skipD_go TO (.bool false) (fun s' h' => HOps_go TO 100 h') rfl ?_
    simp only [pureOpC, buildV, fillC, unc, isEff, absD, pureStep, subB, absRun, absOps, absOp, evO, constSV, ungd, gdP, gdPs, setD, binI, binV, ptrE, unV, convV, T_ty, T_size, T_zero, tTy, tSize, tZero, fieldOf, faddrV, pickV, pureOp, guardOf, memOp, loadV, newV, notIn, cellsOf, known, cellAt, blkAt, fnd, upd, Data.len, Lim.add, retP, resV, retQ, rAs, rA, rA0, ownN, nodup, bares, bare, bare0, bareD, guardIs, Op.operands, List.getD, List.getElem?_cons_zero, List.getElem?_cons_succ, Option.getD_some, List.set, List.map, List.all, List.toList_toArray, List.getElem?_toArray, Option.bind_some, true_and, and_self, implies_true, imp_self, if_true, if_false, eq_self, ne_eq, not_false_eq_true, reduceCtorEq, Bool.false_eq_true, Nat.zero_add, Bool.cond_true_left, Bool.cond_false_right, Bool.cond_true, List.length_nil, Nat.reduceAdd, Nat.reduceSub, Nat.reduceEqDiff, Nat.reduceLT, Nat.succ_ne_self, Bool.not_true, Bool.not_false, Bool.and_self, Bool.false_and, gt_iff_lt, Nat.reduceBNe]
  | true =>
    simp only [pureOpC, unc, isEff, absD, pureStep, subB, absOp, evO, ungd, gdP, gdPs, setD, unV, T_ty, T_size, tTy, tSize, pureOp, guardOf, loadV, takeC, dropC, blkAt, fnd, ownN, nodup, bares, bare, bare0, guardIs, callP, callS, argS, mAs, mA, mA0, mB0, allNotIn, impN, impB, impT, packS, delL, Op.operands, List.getD, List.getElem?_cons_zero, List.getElem?_cons_succ, Option.getD_some, List.set, List.map, List.toList_toArray, List.getElem?_toArray, Option.bind_some, Option.map_some, true_and, and_self, implies_true, if_true, eq_self, ne_eq, not_false_eq_true, reduceCtorEq, List.append_nil, Nat.reduceAdd, Nat.reduceSub, Nat.reduceLeDiff, Bool.not_true, Bool.not_false, Bool.and_self]
    refine callD_go TO (fun s' h' => HOps_go TO 100 h') hA Tryd.func31 (by decide +kernel) rfl rfl rfl ?_
    simp only [pureOpC, unc, isEff, absD, pureStep, subB, absOp, evO, ungd, gdP, gdPs, setD, T_ty, T_size, tTy, tSize, pureOp, guardOf, loadV, takeC, dropC, blkAt, fnd, ownN, nodup, bares, bare, bare0, bareL, bareD, guardIs, callP, callS, argS, mAs, mA, mA0, mB0, mAl, lowD, allNotIn, impN, impB, impT, packS, delL, Op.operands, List.getD, List.getElem?_cons_zero, List.getElem?_cons_succ, Option.getD_some, List.set, List.map, List.toList_toArray, List.getElem?_toArray, Option.bind_some, Option.map_some, true_and, and_self, implies_true, if_true, eq_self, ne_eq, not_false_eq_true, reduceCtorEq, List.append_nil, Nat.reduceAdd, Nat.reduceSub, Nat.reduceLeDiff, Bool.not_false, Bool.and_self]
    refine callD_go TO (fun s' h' => HOps_go TO 100 h') hS Tryd.func30 (by decide +kernel) rfl rfl rfl ?_
    simp only [pureOpC, buildV, fillC, unc, isEff, absD, pureStep, subB, absRun, absOps, absOp, evO, constSV, ungd, gdP, gdPs, setD, binI, binV, ptrE, unV, convV, T_ty, T_size, T_zero, tTy, tSize, tZero, fieldOf, faddrV, pickV, pureOp, guardOf, memOp, loadV, newV, notIn, cellsOf, known, cellAt, blkAt, fnd, upd, Data.len, Lim.add, retP, resV, retQ, rAs, rA, rA0, ownN, nodup, bares, bare, bare0, bareD, guardIs, callP, callS, argS, mAs, mA, mA0, mB0, mAl, lowD, allNotIn, impN, impB, impT, packS, delL, Op.operands, List.getD, List.getElem?_cons_zero, List.getElem?_cons_succ, Option.getD_some, List.set, List.map, List.all, List.toList_toArray, List.getElem?_toArray, Option.bind_some, true_and, and_true, and_self, implies_true, imp_self, if_true, if_false, eq_self, ne_eq, not_false_eq_true, reduceCtorEq, Nat.zero_add, Bool.cond_true_left, Bool.cond_false_right, Bool.cond_false, List.append_nil, Nat.reduceAdd, Nat.reduceSub, Nat.reduceEqDiff, Nat.reduceLT, Nat.succ_ne_self, Bool.not_false, Bool.and_self, gt_iff_lt, Nat.reduceBNe]
    refine ite_both (fun hb => ?_) (fun hb => ?_)
    · obtain ⟨rfl, rfl⟩ := hbad (.inr hb)
      exact ⟨rfl, rfl⟩
    have hb' : iaBad c a sw = false := by unfold iaBad; simpa using hb
    obtain ⟨hE, hcl⟩ := hgood hk hb'
    clear hbad hgood hA hS hK hb hb'
    have u8 : ∀ {x : Int}, U8 x → 0 ≤ x ∧ x < 256 := fun h => h
    have f0 := ha.file.1
    have f1 := ha.file.2
    have m0 := ha.most.1
    have m1 := ha.most.2
    have l0 := ha.level.1
    have l1 := ha.level.2
    have k0 := ha.cls.1
    have k1 := ha.cls.2
    have z0 := ha.size.1
    have z1 := ha.size.2
    have s1 := hs.pattern
    have s2 := hs.after
    have s3 := hs.name
    have wm : IntKind.u64.wrap a.most = a.most := wu64 (by omega) (by omega)
    have wl : IntKind.u64.wrap a.level = a.level := wu64 (by omega) (by omega)
    have wc : IntKind.u64.wrap a.cls = a.cls := wu64 (by omega) (by omega)
    by_cases c12 : c = 12
    · subst c12
      rw [if_neg (by decide), if_neg (by omega)] at hE
      subst hE
      rw [if_neg (by decide), if_pos rfl] at hL
      subst hL
      simp only [if_true, if_false, eq_self, Bool.false_eq_true, Int.reduceBNe, Int.reduceBEq, beq_self_eq_true, Bool.and_false, Bool.false_and, Bool.or_false]
      refine nilC_ops 33 100 40 (.ints .u8 []) rfl ⟨⟨by simp, rfl, by decide⟩, ?_⟩
      simp only [upd, Data.esz, if_true, if_false, eq_self, Nat.reduceAdd, Nat.reduceEqDiff]
      refine inC_ops TO 100 (wn_inC (n := 33) (m := 100) (k := 4) (x := 0) (l := []) rfl rfl (by decide) (by decide) rfl (by simp) rfl (by decide) (by decide) (by decide)) Tryd.func32 (by decide +kernel) rfl rfl rfl ⟨⟨rfl, rfl, by simp only [evO, constSV, gdP, gdPs, List.getD, List.getElem?_cons_zero, List.getElem?_cons_succ, Option.getD_some, and_self]⟩, ?_⟩
      simp only [wrU, pureOpC, absRun, absOps, absOp, evO, ungd, gdP, gdPs, setD, pureOp, memOp, upd, del, Op.operands, List.getD, List.getElem?_cons_zero, List.getElem?_cons_succ, Option.getD_some, List.set, List.toList_toArray, true_and, and_self, if_true, if_false, eq_self, List.nil_append, Nat.reduceAdd, Nat.reduceEqDiff]
      refine inC_ops TO 100 (wd_ok (n := 33) rfl) Tryd.func35 (by decide +kernel) rfl rfl rfl ⟨⟨rfl, rfl, by simp only [evO, gdP, gdPs, List.getD, List.getElem?_cons_zero, List.getElem?_cons_succ, Option.getD_some, and_self]⟩, ?_⟩
      simp only [pureOpC, unc, absRun, absOps, absOp, evO, ungd, gdP, gdPs, setD, extractV, pureOp, notIn, blkAt, fnd, Data.len, Data.esz, retP, resV, retQ, rAs, rA, rA0, ownN, nodup, bares, bare, bare0, bareD, Op.operands, List.getD, List.getElem?_cons_zero, List.getElem?_cons_succ, Option.getD_some, List.set, List.map, List.toList_toArray, and_self, if_true, if_false, eq_self, Nat.reduceAdd, Nat.reduceEqDiff, Bool.and_self]
    have d12 : (c != 12) = true := by simpa using c12
    simp only [d12, if_true, eq_self]
    refine nilC_ops 33 100 40 (.ints .u8 []) rfl ⟨⟨by simp, rfl, by decide⟩, ?_⟩
    simp only [upd, Data.esz, if_true, if_false, eq_self, Nat.reduceAdd, Nat.reduceEqDiff]
    refine inC_ops TO 100 (wn_inC (n := 33) (m := 100) (k := 8) (x := a.file) (l := []) rfl rfl (by decide) (by decide) rfl (by simp) rfl (by omega) (by omega) (by omega)) Tryd.func32 (by decide +kernel) rfl rfl rfl ⟨⟨rfl, rfl, by simp only [evO, constSV, gdP, gdPs, List.getD, List.getElem?_cons_zero, List.getElem?_cons_succ, Option.getD_some, and_self]⟩, ?_⟩
    by_cases c14 : c = 14
    · subst c14
      rw [if_pos rfl] at hE
      rw [if_neg c12, if_pos rfl] at hL
      have hE2 : txE (txE 0 a.pattern) a.after = E := by
        rw [hE]; unfold txE
        by_cases g : ptE a.pattern = 0 <;> simp [g]
      have hL2 : digs 8 a.file ++ digs 4 a.most ++ ptL a.pattern ++ ptL a.after = digs 8 a.file ++ (digs 2 a.most ++ (digs 2 0 ++ (ptL a.pattern ++ ptL a.after))) := by rw [← digs4 ha.most]; simp only [List.append_assoc]
      rw [← hL2] at hL
      simp only [wrU, wm, pureOpC, unc, absRun, absOps, absOp, evO, constSV, ungd, gdP, gdPs, setD, binI, binV, ptrE, convV, T_ty, T_size, tTy, tSize, fieldOf, faddrV, pureOp, memOp, loadV, known, cellAt, blkAt, fnd, upd, del, Op.operands, List.getD, List.getElem?_cons_zero, List.getElem?_cons_succ, Option.getD_some, List.set, List.toList_toArray, true_and, and_self, if_true, if_false, eq_self, ne_eq, not_false_eq_true, reduceCtorEq, Bool.false_eq_true, Nat.zero_add, Int.reduceBEq, List.nil_append, Nat.reduceAdd, Nat.reduceSub, Nat.reduceEqDiff, Nat.reduceLT, Nat.succ_ne_self, beq_self_eq_true, Bool.and_false, Bool.false_and, Bool.or_false]
      refine inC_ops TO 100 (wn_inC (n := 33) (m := 5020) (k := 4) (x := a.most) (l := digs 8 a.file) rfl rfl (by decide) (by decide) rfl (by simp only [digs_length]; omega) rfl (by omega) (by omega) (by omega)) Tryd.func32 (by decide +kernel) rfl rfl rfl ⟨⟨rfl, rfl, by simp only [evO, constSV, gdP, gdPs, List.getD, List.getElem?_cons_zero, List.getElem?_cons_succ, Option.getD_some, and_self]⟩, ?_⟩
      simp only [wrU, pureOpC, unc, absRun, absOps, absOp, evO, ungd, gdP, gdPs, setD, T_ty, T_size, tTy, tSize, fieldOf, faddrV, pureOp, memOp, loadV, newV, notIn, elemsOf, strsOf, cellAt, blkAt, fnd, upd, del, Lim.add, Op.operands, List.getD, List.getElem?_cons_zero, List.getElem?_cons_succ, Option.getD_some, List.set, List.map, List.toList_toArray, Option.map_some, true_and, and_self, if_true, if_false, eq_self, ne_eq, not_false_eq_true, reduceCtorEq, Nat.zero_add, List.length_cons, List.length_nil, Nat.reduceAdd, Nat.reduceSub, Nat.reduceEqDiff, Nat.reduceLeDiff, Nat.reduceLT, Nat.succ_ne_self]
      refine inC_ops TO 100 (ws2_inC (n := 33) (m := 5020) (p := 53) (l := digs 8 a.file ++ digs 4 a.most) (e := 0) (a1 := a.pattern) (a2 := a.after) rfl rfl rfl (by decide) (by decide) (by decide) (by decide) (by decide) rfl rfl (by simp only [List.length_append, digs_length]; omega) s1 s2) Tryd.func33 (by decide +kernel) rfl rfl rfl ⟨⟨rfl, rfl, by simp only [evO, gdP, gdPs, List.getD, List.getElem?_cons_zero, List.getElem?_cons_succ, Option.getD_some, and_self]⟩, ?_⟩
      rw [hE2]
      simp only [wrU, pureOpC, absRun, absOps, absOp, evO, ungd, gdP, gdPs, setD, pureOp, memOp, upd, del, Op.operands, List.getD, List.getElem?_cons_zero, List.getElem?_cons_succ, Option.getD_some, List.set, List.toList_toArray, true_and, and_self, if_true, if_false, eq_self, Nat.reduceAdd, Nat.reduceEqDiff]
      clear hE hE2
      by_cases hE0 : E = 0
      · subst hE0
        rw [if_neg (by decide)] at hL
        subst hL
        refine inC_ops TO 100 (wd_ok (n := 33) rfl) Tryd.func35 (by decide +kernel) rfl rfl rfl ⟨⟨rfl, rfl, by simp only [evO, gdP, gdPs, List.getD, List.getElem?_cons_zero, List.getElem?_cons_succ, Option.getD_some, and_self]⟩, ?_⟩
        simp only [pureOpC, unc, absRun, absOps, absOp, evO, ungd, gdP, gdPs, setD, extractV, pureOp, notIn, blkAt, fnd, Data.len, Data.esz, retP, resV, retQ, rAs, rA, rA0, ownN, nodup, bares, bare, bare0, bareD, Op.operands, List.getD, List.getElem?_cons_zero, List.getElem?_cons_succ, Option.getD_some, List.set, List.map, List.toList_toArray, and_self, if_true, if_false, eq_self, Nat.reduceAdd, Nat.reduceEqDiff, Bool.and_self]
      · rw [if_pos hE0] at hL
        subst hL
        refine inC_ops TO 100 (wd_err hE0 (n := 33) rfl) Tryd.func35 (by decide +kernel) rfl rfl rfl ⟨⟨rfl, rfl, by simp only [evO, gdP, gdPs, List.getD, List.getElem?_cons_zero, List.getElem?_cons_succ, Option.getD_some, and_self]⟩, ?_⟩
        simp only [pureOpC, unc, absRun, absOps, absOp, evO, ungd, gdP, gdPs, setD, extractV, pureOp, Data.len, retP, resV, retQ, rAs, rA, rA0, ownN, nodup, bares, bare, bare0, bareD, Op.operands, List.getD, List.getElem?_cons_zero, List.getElem?_cons_succ, Option.getD_some, List.set, List.map, List.toList_toArray, and_self, eq_self, List.length_nil, Nat.reduceAdd, Bool.and_self]
    rw [if_neg c14] at hE
    rw [if_neg c12, if_neg c14] at hL
    have d14 : (c == 14) = false := by simpa using c14
    by_cases c17 : c = 17
    · subst c17
      rw [if_pos rfl] at hL
      have k0 := hcl rfl
      simp only [wrU, wc, pureOpC, unc, absRun, absOps, absOp, evO, constSV, ungd, gdP, gdPs, setD, binI, binV, ptrE, convV, T_ty, T_size, tTy, tSize, fieldOf, faddrV, pureOp, memOp, loadV, known, cellAt, blkAt, fnd, upd, del, Op.operands, List.getD, List.getElem?_cons_zero, List.getElem?_cons_succ, Option.getD_some, List.set, List.toList_toArray, true_and, and_self, if_true, if_false, eq_self, ne_eq, not_false_eq_true, reduceCtorEq, Bool.false_eq_true, Nat.zero_add, Int.reduceBEq, List.nil_append, Nat.reduceAdd, Nat.reduceSub, Nat.reduceEqDiff, Nat.reduceLT, Nat.succ_ne_self, beq_self_eq_true, Bool.and_true, Bool.true_and]
      refine inC_ops TO 100 (wn_inC (n := 33) (m := 5020) (k := 2) (x := a.cls) (l := digs 8 a.file) rfl rfl (by decide) (by decide) rfl (by simp only [digs_length]; omega) rfl (by omega) (by omega) (by omega)) Tryd.func32 (by decide +kernel) rfl rfl rfl ⟨⟨rfl, rfl, by simp only [evO, constSV, gdP, gdPs, List.getD, List.getElem?_cons_zero, List.getElem?_cons_succ, Option.getD_some, and_self]⟩, ?_⟩
      simp only [wrU, pureOpC, unc, absRun, absOps, absOp, evO, constSV, ungd, gdP, gdPs, setD, binI, binV, ptrE, T_ty, T_size, tTy, tSize, fieldOf, faddrV, pureOp, memOp, loadV, cellAt, blkAt, fnd, upd, del, Op.operands, List.getD, List.getElem?_cons_zero, List.getElem?_cons_succ, Option.getD_some, List.set, List.toList_toArray, true_and, and_self, if_true, if_false, eq_self, ne_eq, not_false_eq_true, reduceCtorEq, Nat.zero_add, Nat.reduceAdd, Nat.reduceSub, Nat.reduceEqDiff, Nat.reduceLT, Nat.succ_ne_self]
      rcases hcl rfl with g | g | g
      · rw [if_neg (by omega)] at hE
        subst hE
        rw [if_neg (by decide), if_pos g] at hL
        rw [← List.append_assoc] at hL
        subst hL
        have e1 : (a.cls == 1) = true := by simpa using g
        simp only [e1, if_true, eq_self]
        refine inC_ops TO 100 (wn_inC (n := 33) (m := 5020) (k := 8) (x := a.size) (l := digs 8 a.file ++ digs 2 a.cls) rfl rfl (by decide) (by decide) rfl (by simp only [List.length_append, digs_length]; omega) rfl (by omega) (by omega) (by omega)) Tryd.func32 (by decide +kernel) rfl rfl rfl ⟨⟨rfl, rfl, by simp only [evO, constSV, gdP, gdPs, List.getD, List.getElem?_cons_zero, List.getElem?_cons_succ, Option.getD_some, and_self]⟩, ?_⟩
        simp only [wrU, pureOpC, absRun, absOps, absOp, evO, ungd, gdP, gdPs, setD, pureOp, memOp, upd, del, Op.operands, List.getD, List.getElem?_cons_zero, List.getElem?_cons_succ, Option.getD_some, List.set, List.toList_toArray, true_and, and_self, if_true, if_false, eq_self, Nat.reduceAdd, Nat.reduceEqDiff]
        refine inC_ops TO 100 (wd_ok (n := 33) rfl) Tryd.func35 (by decide +kernel) rfl rfl rfl ⟨⟨rfl, rfl, by simp only [evO, gdP, gdPs, List.getD, List.getElem?_cons_zero, List.getElem?_cons_succ, Option.getD_some, and_self]⟩, ?_⟩
        simp only [pureOpC, unc, absRun, absOps, absOp, evO, ungd, gdP, gdPs, setD, extractV, pureOp, notIn, blkAt, fnd, Data.len, Data.esz, retP, resV, retQ, rAs, rA, rA0, ownN, nodup, bares, bare, bare0, bareD, Op.operands, List.getD, List.getElem?_cons_zero, List.getElem?_cons_succ, Option.getD_some, List.set, List.map, List.toList_toArray, and_self, if_true, if_false, eq_self, Nat.reduceAdd, Nat.reduceEqDiff, Bool.and_self]
      · rw [if_neg (by omega)] at hE
        subst hE
        rw [if_neg (by decide), if_neg (by omega), if_neg (by omega), List.append_nil] at hL
        rw [← List.append_assoc] at hL
        subst hL
        have e1 : (a.cls == 1) = false := by simp; omega
        have e2 : (a.cls == 2) = true := by simpa using g
        simp only [e1, e2, if_true, if_false, eq_self, Bool.false_eq_true]
        refine inC_ops TO 100 (wt_inC (n := 33) (m := 5020) (on := a.on) (l := digs 8 a.file ++ digs 2 a.cls) rfl rfl (by decide) (by decide) rfl (by simp only [List.length_append, digs_length]; omega)) Tryd.func34 (by decide +kernel) rfl rfl rfl ⟨⟨rfl, rfl, by simp only [evO, constSV, gdP, gdPs, List.getD, List.getElem?_cons_zero, List.getElem?_cons_succ, Option.getD_some, and_self]⟩, ?_⟩
        simp only [wrU, pureOpC, absRun, absOps, absOp, evO, ungd, gdP, gdPs, setD, pureOp, memOp, upd, del, Op.operands, List.getD, List.getElem?_cons_zero, List.getElem?_cons_succ, Option.getD_some, List.set, List.toList_toArray, true_and, and_self, if_true, if_false, eq_self, Nat.reduceAdd, Nat.reduceEqDiff]
        refine inC_ops TO 100 (wd_ok (n := 33) rfl) Tryd.func35 (by decide +kernel) rfl rfl rfl ⟨⟨rfl, rfl, by simp only [evO, gdP, gdPs, List.getD, List.getElem?_cons_zero, List.getElem?_cons_succ, Option.getD_some, and_self]⟩, ?_⟩
        simp only [pureOpC, unc, absRun, absOps, absOp, evO, ungd, gdP, gdPs, setD, extractV, pureOp, notIn, blkAt, fnd, Data.len, Data.esz, retP, resV, retQ, rAs, rA, rA0, ownN, nodup, bares, bare, bare0, bareD, Op.operands, List.getD, List.getElem?_cons_zero, List.getElem?_cons_succ, Option.getD_some, List.set, List.map, List.toList_toArray, and_self, if_true, if_false, eq_self, Nat.reduceAdd, Nat.reduceEqDiff, Bool.and_self]
      · rw [if_pos ⟨rfl, g⟩] at hE
        rw [if_neg (show ¬ a.cls = 1 by omega), if_pos g] at hL
        have hE2 : txE 0 a.name = E := by rw [hE]; rfl
        have hL2 : digs 8 a.file ++ digs 2 a.cls ++ digs 2 (onV a.on) ++ ptL a.name = digs 8 a.file ++ (digs 2 a.cls ++ (digs 2 (onV a.on) ++ ptL a.name)) := by simp only [List.append_assoc]
        rw [← hL2] at hL
        have e1 : (a.cls == 1) = false := by simp; omega
        have e2 : (a.cls == 2) = false := by simp; omega
        simp only [e1, e2, if_false, Bool.false_eq_true]
        refine inC_ops TO 100 (wt_inC (n := 33) (m := 5020) (on := a.on) (l := digs 8 a.file ++ digs 2 a.cls) rfl rfl (by decide) (by decide) rfl (by simp only [List.length_append, digs_length]; omega)) Tryd.func34 (by decide +kernel) rfl rfl rfl ⟨⟨rfl, rfl, by simp only [evO, constSV, gdP, gdPs, List.getD, List.getElem?_cons_zero, List.getElem?_cons_succ, Option.getD_some, and_self]⟩, ?_⟩
        simp only [wrU, pureOpC, unc, absRun, absOps, absOp, evO, ungd, gdP, gdPs, setD, T_ty, T_size, tTy, tSize, fieldOf, faddrV, pureOp, memOp, loadV, newV, notIn, elemsOf, strsOf, cellAt, blkAt, fnd, upd, del, Lim.add, Op.operands, List.getD, List.getElem?_cons_zero, List.getElem?_cons_succ, Option.getD_some, List.set, List.map, List.toList_toArray, Option.map_some, true_and, and_self, if_true, if_false, eq_self, ne_eq, not_false_eq_true, reduceCtorEq, Nat.zero_add, List.length_cons, List.length_nil, Nat.reduceAdd, Nat.reduceSub, Nat.reduceEqDiff, Nat.reduceLeDiff, Nat.reduceLT, Nat.succ_ne_self]
        refine inC_ops TO 100 (ws1_inC (n := 33) (m := 5020) (p := 71) (l := digs 8 a.file ++ digs 2 a.cls ++ digs 2 (onV a.on)) (e := 0) (a1 := a.name) rfl rfl rfl (by decide) (by decide) (by decide) (by decide) (by decide) rfl rfl (by simp only [List.length_append, digs_length]; omega) s3) Tryd.func33 (by decide +kernel) rfl rfl rfl ⟨⟨rfl, rfl, by simp only [evO, gdP, gdPs, List.getD, List.getElem?_cons_zero, List.getElem?_cons_succ, Option.getD_some, and_self]⟩, ?_⟩
        rw [hE2]
        simp only [wrU, pureOpC, absRun, absOps, absOp, evO, ungd, gdP, gdPs, setD, pureOp, memOp, upd, del, Op.operands, List.getD, List.getElem?_cons_zero, List.getElem?_cons_succ, Option.getD_some, List.set, List.toList_toArray, true_and, and_self, if_true, if_false, eq_self, Nat.reduceAdd, Nat.reduceEqDiff]
        clear hE hE2
        by_cases hE0 : E = 0
        · subst hE0
          rw [if_neg (by decide)] at hL
          subst hL
          refine inC_ops TO 100 (wd_ok (n := 33) rfl) Tryd.func35 (by decide +kernel) rfl rfl rfl ⟨⟨rfl, rfl, by simp only [evO, gdP, gdPs, List.getD, List.getElem?_cons_zero, List.getElem?_cons_succ, Option.getD_some, and_self]⟩, ?_⟩
          simp only [pureOpC, unc, absRun, absOps, absOp, evO, ungd, gdP, gdPs, setD, extractV, pureOp, notIn, blkAt, fnd, Data.len, Data.esz, retP, resV, retQ, rAs, rA, rA0, ownN, nodup, bares, bare, bare0, bareD, Op.operands, List.getD, List.getElem?_cons_zero, List.getElem?_cons_succ, Option.getD_some, List.set, List.map, List.toList_toArray, and_self, if_true, if_false, eq_self, Nat.reduceAdd, Nat.reduceEqDiff, Bool.and_self]
        · rw [if_pos hE0] at hL
          subst hL
          refine inC_ops TO 100 (wd_err hE0 (n := 33) rfl) Tryd.func35 (by decide +kernel) rfl rfl rfl ⟨⟨rfl, rfl, by simp only [evO, gdP, gdPs, List.getD, List.getElem?_cons_zero, List.getElem?_cons_succ, Option.getD_some, and_self]⟩, ?_⟩
          simp only [pureOpC, unc, absRun, absOps, absOp, evO, ungd, gdP, gdPs, setD, extractV, pureOp, Data.len, retP, resV, retQ, rAs, rA, rA0, ownN, nodup, bares, bare, bare0, bareD, Op.operands, List.getD, List.getElem?_cons_zero, List.getElem?_cons_succ, Option.getD_some, List.set, List.map, List.toList_toArray, and_self, eq_self, List.length_nil, Nat.reduceAdd, Bool.and_self]
    rw [if_neg (fun h => c17 h.1)] at hE
    subst hE
    rw [if_neg (by decide), if_neg c17] at hL
    have d17 : (c == 17) = false := by simpa using c17
    by_cases c18 : c = 18
    · subst c18
      rw [if_pos rfl, ← digs41 ha.level] at hL
      subst hL
      simp only [wrU, wl, pureOpC, unc, absRun, absOps, absOp, evO, constSV, ungd, gdP, gdPs, setD, binI, binV, ptrE, convV, T_ty, T_size, tTy, tSize, fieldOf, faddrV, pureOp, memOp, loadV, known, cellAt, blkAt, fnd, upd, del, Op.operands, List.getD, List.getElem?_cons_zero, List.getElem?_cons_succ, Option.getD_some, List.set, List.toList_toArray, true_and, and_self, if_true, if_false, eq_self, ne_eq, not_false_eq_true, reduceCtorEq, Bool.false_eq_true, Nat.zero_add, Int.reduceBEq, List.nil_append, Nat.reduceAdd, Nat.reduceSub, Nat.reduceEqDiff, Nat.reduceLT, Nat.succ_ne_self, beq_self_eq_true, Bool.and_false, Bool.false_and, Bool.or_false]
      refine inC_ops TO 100 (wn_inC (n := 33) (m := 5020) (k := 4) (x := a.level) (l := digs 8 a.file) rfl rfl (by decide) (by decide) rfl (by simp only [digs_length]; omega) rfl (by omega) (by omega) (by omega)) Tryd.func32 (by decide +kernel) rfl rfl rfl ⟨⟨rfl, rfl, by simp only [evO, constSV, gdP, gdPs, List.getD, List.getElem?_cons_zero, List.getElem?_cons_succ, Option.getD_some, and_self]⟩, ?_⟩
      simp only [wrU, pureOpC, absRun, absOps, absOp, evO, ungd, gdP, gdPs, setD, pureOp, memOp, upd, del, Op.operands, List.getD, List.getElem?_cons_zero, List.getElem?_cons_succ, Option.getD_some, List.set, List.toList_toArray, true_and, and_self, if_true, if_false, eq_self, Nat.reduceAdd, Nat.reduceEqDiff]
      refine inC_ops TO 100 (wd_ok (n := 33) rfl) Tryd.func35 (by decide +kernel) rfl rfl rfl ⟨⟨rfl, rfl, by simp only [evO, gdP, gdPs, List.getD, List.getElem?_cons_zero, List.getElem?_cons_succ, Option.getD_some, and_self]⟩, ?_⟩
      simp only [pureOpC, unc, absRun, absOps, absOp, evO, ungd, gdP, gdPs, setD, extractV, pureOp, notIn, blkAt, fnd, Data.len, Data.esz, retP, resV, retQ, rAs, rA, rA0, ownN, nodup, bares, bare, bare0, bareD, Op.operands, List.getD, List.getElem?_cons_zero, List.getElem?_cons_succ, Option.getD_some, List.set, List.map, List.toList_toArray, and_self, if_true, if_false, eq_self, Nat.reduceAdd, Nat.reduceEqDiff, Bool.and_self]
    · rw [if_neg c18] at hL
      subst hL
      have d18 : (c == 18) = false := by simpa using c18
      have e12 : (c == 12) = false := by simpa using c12
      simp only [wrU, d14, d17, d18, e12, pureOpC, unc, absRun, absOps, absOp, evO, constSV, ungd, gdP, gdPs, setD, binI, binV, ptrE, convV, T_ty, T_size, tTy, tSize, fieldOf, faddrV, pureOp, memOp, loadV, known, cellAt, blkAt, fnd, upd, del, Op.operands, List.getD, List.getElem?_cons_zero, List.getElem?_cons_succ, Option.getD_some, List.set, List.toList_toArray, true_and, and_self, if_true, if_false, eq_self, ne_eq, not_false_eq_true, reduceCtorEq, Bool.false_eq_true, Nat.zero_add, List.nil_append, Nat.reduceAdd, Nat.reduceSub, Nat.reduceEqDiff, Nat.reduceLT, Nat.succ_ne_self, Bool.and_false, Bool.false_and, Bool.or_false]
      refine inC_ops TO 100 (wd_ok (n := 33) rfl) Tryd.func35 (by decide +kernel) rfl rfl rfl ⟨⟨rfl, rfl, by simp only [evO, gdP, gdPs, List.getD, List.getElem?_cons_zero, List.getElem?_cons_succ, Option.getD_some, and_self]⟩, ?_⟩
      simp only [pureOpC, unc, absRun, absOps, absOp, evO, ungd, gdP, gdPs, setD, extractV, pureOp, notIn, blkAt, fnd, Data.len, Data.esz, retP, resV, retQ, rAs, rA, rA0, ownN, nodup, bares, bare, bare0, bareD, Op.operands, List.getD, List.getElem?_cons_zero, List.getElem?_cons_succ, Option.getD_some, List.set, List.map, List.toList_toArray, and_self, if_true, if_false, eq_self, Nat.reduceAdd, Nat.reduceEqDiff, Bool.and_self]

end Go.Proofs.YtgipkhjpedpedaaDoor.Abs
