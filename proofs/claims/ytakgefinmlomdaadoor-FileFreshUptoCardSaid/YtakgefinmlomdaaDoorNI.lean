/- What file's PutSay answers. -/
import Derived.Test.YtakgefinmlomdaaDoorNY1
set_option linter.unusedVariables false
set_option linter.unusedSimpArgs false
set_option maxRecDepth 100000
namespace Go.Proofs.YtakgefinmlomdaaDoor.Abs
open Go Go.Proofs

theorem fsE_bad {c : Int} {s : Say} (h : fkB c = false ∨ decide (fsW c s = s) = false ∨ 2 < s.made ∨ 2 < s.kind) : fsE c s = 2 ∧ fsL c s = [] := by
  have e : fsE c s = 2 := by
    unfold fsE
    rw [if_pos]
    rcases h with h | h | h
    · exact .inl h
    · exact .inr (.inl (by simpa using h))
    · exact .inr (.inr h)
  exact ⟨e, by unfold fsL; rw [if_pos (by rw [e]; decide)]⟩

theorem fsE_good {c : Int} {s : Say} (h1 : fkB c = true) (h2 : decide (fsW c s = s) = true) (h3 : s.made ≤ 2) (h4 : s.kind ≤ 2) : fsE c s = if 32768 < s.data.length then 3 else 0 := by
  unfold fsE
  rw [if_neg]
  rintro (g | g | g | g)
  · rw [h1] at g; cases g
  · exact g (by simpa using h2)
  · omega
  · omega

set_option maxHeartbeats 8000000 in
theorem fPutSay_meets (c : Int) (s : Say) (hc : 0 ≤ c) (s1 : s.ok) (hs : s.data.length ≤ 1048576) : Meets Tryd.prog 27 [.v (.int .u16 c), .v (s.sv false)] [.own (.ints .u8 (fsL c s)), .v (.int .i64 (fsE c s))] := by
  have hK := fk_meets c hc
  have hA := fun X b0 c0 => fsaid2_inC (X := X) (b0 := b0) (c0 := c0) c s
  have hS := fsameSay_meets (fsW c s) s
  rw [fsame_say] at hS
  have hbad := fsE_bad (c := c) (s := s)
  have hgood := fsE_good (c := c) (s := s)
  have hL : fsL c s = if fsE c s ≠ 0 then []
    else if c = 5 then digs 1 s.level ++ (digs 1 s.durable ++ (digs 2 s.made ++ (digs 8 s.file ++ (digs 8 s.size ++ (digs 2 s.kind ++ digs 2 0)))))
    else if c = 8 then digs 4 s.data.length ++ s.data else if c = 9 then digs 4 s.n else digs 4 0 := rfl
  generalize hsw : decide (fsW c s = s) = sw at *
  generalize fsW c s = w at *
  generalize fsE c s = E at *
  generalize fsL c s = L at *
  simp only [Say.sv, Say.cells] at hA hS
  have l0 := s1.level.1
  have l1 := s1.level.2
  have d0 := s1.durable.1
  have d1 := s1.durable.2
  have m0 := s1.made.1
  have m1 := s1.made.2
  have f0 := s1.file.1
  have f1 := s1.file.2
  have z0 := s1.size.1
  have z1 := s1.size.2
  have k0 := s1.kind.1
  have k1 := s1.kind.2
  have n0 := s1.n.1
  have n1 := s1.n.2
  have w1 : IntKind.u64.wrap s.level = s.level := wu64 (by omega) (by omega)
  have w2 : IntKind.u64.wrap s.durable = s.durable := wu64 (by omega) (by omega)
  have w3 : IntKind.u64.wrap s.made = s.made := wu64 (by omega) (by omega)
  have w4 : IntKind.u64.wrap s.kind = s.kind := wu64 (by omega) (by omega)
  have w5 : IntKind.u64.wrap s.n = s.n := wu64 (by omega) (by omega)
  have w6 : IntKind.u64.wrap (s.data.length : Int) = s.data.length := wu64 (by omega) (by omega)
  refine meets_go TO 100 Tryd.func27 rfl (fun X => ?_)
  simp only [Tryd.ntmps27, Tryd.results27, Say.sv, Say.cells, pureOpC, unc, svs, blks, AV.sv, absRun, absOps, absOp, evO, constSV, ungd, gdP, gdPs, setD, pureOp, memOp, newV, notIn, cellsOf, upd, Lim.add, Op.operands, List.getD, List.getElem?_cons_zero, List.getElem?_cons_succ, Option.getD_some, List.set, List.toList_toArray, true_and, and_self, Nat.zero_add, List.cons_append, List.nil_append, List.length_cons, List.length_nil, Nat.reduceAdd, Nat.reduceSub, List.replicate_succ, List.replicate_zero]
  refine draw_go TO 22 100 mixed_ok (by decide +kernel) ?_
  simp only [List.take_succ_cons, List.take_zero, List.drop_succ_cons, List.drop_zero, pureOpC, buildV, fillC, gloadV, GT, unc, isEff, absD, pureStep, absRun, absOps, absOp, evO, constSV, ungd, gdP, gdPs, setD, binI, binV, ptrE, convV, binS, T_ty, T_size, T_zero, tTy, tSize, tZero, fieldOf, faddrV, pureOp, memOp, lenV, loadV, newV, notIn, scal, cellsOf, isB, isA, known, blkAt, elemV, Data.len, Data.esz, Lim.add, retP, resV, retQ, rAs, rA, rA0, bares, bare, bare0, bareD, Op.operands, Call.operands, List.getD, List.getElem?_cons_zero, List.getElem?_cons_succ, Option.getD_some, List.set, List.map, List.all, List.toList_toArray, Option.isSome, true_and, and_true, and_false, and_self, implies_true, imp_self, eq_self, ne_eq, not_false_eq_true, forall_const, reduceCtorEq, List.append_toArray, List.nil_append, Nat.reduceAdd, Nat.succ_ne_self, Bool.and_self, gt_iff_lt, Nat.reduceBNe]
  refine callD_go TO (fun s' h' => HOps_go TO 100 h') hK Tryd.func32 (by decide +kernel) rfl rfl rfl ?_
  cases hk : fkB c with
  | false =>
    obtain ⟨rfl, rfl⟩ := hbad (.inl hk)
    simp only [pureOpC, unc, isEff, absD, pureStep, subB, absOp, evO, ungd, gdP, gdPs, setD, unV, T_ty, T_size, tTy, tSize, pureOp, guardOf, loadV, takeC, dropC, blkAt, fnd, ownN, nodup, bares, bare, bare0, guardIs, callP, callS, argS, mAs, mA, mA0, mB0, allNotIn, impN, impB, impT, packS, delL, Op.operands, List.getD, List.getElem?_cons_zero, List.getElem?_cons_succ, Option.getD_some, List.set, List.map, List.toList_toArray, List.getElem?_toArray, Option.bind_some, Option.map_some, true_and, and_self, implies_true, if_true, eq_self, ne_eq, not_false_eq_true, reduceCtorEq, Bool.false_eq_true, List.append_nil, Nat.reduceAdd, Nat.reduceSub, Nat.reduceLeDiff, Bool.not_true, Bool.not_false, Bool.and_self]
    refine skipD_go TO (.bool false) (fun s' h' => HOps_go TO 100 h') rfl ?_
    simp only [pureOpC, unc, isEff, absD, pureStep, subB, absOp, evO, ungd, gdP, gdPs, setD, T_ty, T_size, tTy, tSize, pureOp, guardOf, loadV, takeC, dropC, blkAt, fnd, guardIs, Op.operands, List.getD, List.getElem?_cons_zero, List.getElem?_cons_succ, Option.getD_some, List.set, List.toList_toArray, List.getElem?_toArray, Option.bind_some, Option.map_some, true_and, and_self, implies_true, if_true, eq_self, ne_eq, not_false_eq_true, reduceCtorEq, Bool.false_eq_true, Nat.reduceAdd, Nat.reduceSub, Nat.reduceLeDiff, Bool.not_true]
    refine skipD_go TO (.bool false) (fun s' h' => HOps_go TO 100 h') rfl ?_
    simp only [pureOpC, buildV, fillC, unc, isEff, absD, pureStep, subB, absRun, absOps, absOp, evO, constSV, ungd, gdP, gdPs, setD, binI, binV, ptrE, unV, convV, T_ty, T_size, T_zero, tTy, tSize, tZero, fieldOf, faddrV, pickV, pureOp, guardOf, memOp, lenV, loadV, newV, notIn, cellsOf, known, cellAt, blkAt, fnd, upd, Data.len, Lim.add, retP, resV, retQ, rAs, rA, rA0, ownN, nodup, bares, bare, bare0, bareD, guardIs, Op.operands, Call.operands, List.getD, List.getElem?_cons_zero, List.getElem?_cons_succ, Option.getD_some, List.set, List.map, List.all, List.toList_toArray, List.getElem?_toArray, Option.bind_some, true_and, and_true, and_false, and_self, implies_true, imp_self, if_true, if_false, eq_self, ne_eq, not_false_eq_true, reduceCtorEq, Bool.false_eq_true, Nat.zero_add, Bool.cond_true, List.append_toArray, List.nil_append, List.length_nil, Nat.reduceAdd, Nat.reduceSub, Nat.reduceEqDiff, Nat.reduceLT, Nat.succ_ne_self, Bool.not_true, Bool.not_false, Bool.and_self, Int.reduceEq, gt_iff_lt, Nat.reduceBNe]
  | true =>
    simp only [pureOpC, unc, isEff, absD, pureStep, subB, absOp, evO, ungd, gdP, gdPs, setD, unV, T_ty, T_size, tTy, tSize, pureOp, guardOf, loadV, takeC, dropC, blkAt, fnd, ownN, nodup, bares, bare, bare0, guardIs, callP, callS, argS, mAs, mA, mA0, mB0, allNotIn, impN, impB, impT, packS, delL, Op.operands, List.getD, List.getElem?_cons_zero, List.getElem?_cons_succ, Option.getD_some, List.set, List.map, List.toList_toArray, List.getElem?_toArray, Option.bind_some, Option.map_some, true_and, and_self, implies_true, if_true, eq_self, ne_eq, not_false_eq_true, reduceCtorEq, List.append_nil, Nat.reduceAdd, Nat.reduceSub, Nat.reduceLeDiff, Bool.not_true, Bool.not_false, Bool.and_self]
    refine inCD_go TO (fun s' h' => HOps_go TO 100 h') (hA X _ _ rfl rfl) Tryd.func58 (by decide +kernel) rfl rfl rfl ?_
    simp only [pureOpC, unc, isEff, absD, pureStep, subB, absOp, evO, ungd, gdP, gdPs, setD, T_ty, T_size, tTy, tSize, pureOp, guardOf, loadV, takeC, dropC, blkAt, fnd, guardIs, argC, Op.operands, List.getD, List.getElem?_cons_zero, List.getElem?_cons_succ, Option.getD_some, List.set, List.map, List.toList_toArray, List.getElem?_toArray, Option.bind_some, Option.map_some, true_and, and_self, implies_true, if_true, eq_self, ne_eq, not_false_eq_true, reduceCtorEq, Nat.reduceAdd, Nat.reduceSub, Nat.reduceLeDiff, Bool.not_false]
    refine callD_go TO (fun s' h' => HOps_go TO 100 h') hS Tryd.func57 (by decide +kernel) rfl rfl rfl ?_
    cases hsv : sw with
    | false =>
      obtain ⟨rfl, rfl⟩ := hbad (.inr (.inl hsv))
      simp only [pureOpC, buildV, fillC, unc, isEff, absD, pureStep, subB, absRun, absOps, absOp, evO, constSV, ungd, gdP, gdPs, setD, binI, binV, ptrE, unV, convV, T_ty, T_size, T_zero, tTy, tSize, tZero, fieldOf, faddrV, pickV, pureOp, guardOf, memOp, lenV, loadV, newV, notIn, cellsOf, known, cellAt, blkAt, fnd, upd, Data.len, Lim.add, retP, resV, retQ, rAs, rA, rA0, ownN, nodup, bares, bare, bare0, bareD, guardIs, callP, callS, argS, mAs, mA, mA0, mB0, mAl, lowD, allNotIn, impN, impB, impT, packS, delL, Op.operands, Call.operands, List.getD, List.getElem?_cons_zero, List.getElem?_cons_succ, Option.getD_some, List.set, List.map, List.all, List.toList_toArray, List.getElem?_toArray, Option.bind_some, true_and, and_true, and_false, and_self, implies_true, imp_self, if_true, if_false, eq_self, ne_eq, not_false_eq_true, reduceCtorEq, Bool.false_eq_true, Nat.zero_add, Bool.cond_true, Bool.cond_false, List.append_toArray, List.nil_append, List.append_nil, List.length_nil, Nat.reduceAdd, Nat.reduceSub, Nat.reduceEqDiff, Nat.reduceLT, Nat.succ_ne_self, Bool.not_true, Bool.not_false, Bool.and_self, Int.reduceEq, gt_iff_lt, Nat.reduceBNe]
    | true =>
    simp only [pureOpC, buildV, fillC, unc, isEff, absD, pureStep, subB, absRun, absOps, absOp, evO, constSV, ungd, gdP, gdPs, setD, binI, binV, ptrE, unV, convV, T_ty, T_size, T_zero, tTy, tSize, tZero, fieldOf, faddrV, pickV, pureOp, guardOf, memOp, lenV, loadV, newV, notIn, cellsOf, known, cellAt, blkAt, fnd, upd, Data.len, Lim.add, retP, resV, retQ, rAs, rA, rA0, ownN, nodup, bares, bare, bare0, bareD, guardIs, callP, callS, argS, mAs, mA, mA0, mB0, mAl, lowD, allNotIn, impN, impB, impT, packS, delL, Op.operands, Call.operands, List.getD, List.getElem?_cons_zero, List.getElem?_cons_succ, Option.getD_some, List.set, List.map, List.all, List.toList_toArray, List.getElem?_toArray, Option.bind_some, true_and, and_true, and_self, implies_true, imp_self, if_true, if_false, eq_self, ne_eq, not_false_eq_true, reduceCtorEq, Nat.zero_add, Bool.cond_true_left, Bool.cond_false, List.append_toArray, List.nil_append, List.append_nil, Nat.reduceAdd, Nat.reduceSub, Nat.reduceEqDiff, Nat.reduceLT, Nat.succ_ne_self, Bool.not_true, Bool.not_false, Bool.and_self, gt_iff_lt, Nat.reduceBNe]
    refine ite_both (fun hb => ?_) (fun hb => ?_)
    · obtain ⟨rfl, rfl⟩ := hbad (.inr (.inr (by simpa using hb)))
      exact ⟨rfl, rfl⟩
    have hb2 : s.made ≤ 2 ∧ s.kind ≤ 2 := by simp at hb; omega
    have hE := hgood hk hsv hb2.1 hb2.2
    clear hbad hgood hA hS hK
    refine ite_both (fun hb => ?_) (fun hb => ?_)
    · have hE2 : E = 3 := by rw [hE, if_pos (by simp at hb; omega)]
      have hL2 : L = [] := by rw [hL, if_pos (by rw [hE2]; decide)]
      rw [hE2, hL2]
      exact ⟨rfl, rfl⟩
    have hb3 : s.data.length ≤ 32768 := by simp at hb; omega
    rw [if_neg (by omega)] at hE
    subst hE
    rw [if_neg (by decide)] at hL
    by_cases c5 : c = 5
    · subst c5
      rw [if_pos rfl] at hL
      have hL2 : digs 1 s.level ++ digs 1 s.durable ++ digs 2 s.made ++ digs 8 s.file ++ digs 8 s.size ++ digs 4 s.kind = L := by
        rw [hL, digs4 (show U16 s.kind from ⟨by omega, by omega⟩)]; simp only [List.append_assoc]
      rw [← hL2]
      clear hL hL2
      simp only [w1, w5, w6, if_true, if_false, eq_self, Bool.false_eq_true, Int.reduceBEq, beq_self_eq_true]
      refine nilC_ops 35 300 60 (.ints .u8 []) rfl ⟨⟨by simp only; omega, rfl, by decide⟩, ?_⟩
      simp only [upd, Data.esz, if_true, if_false, eq_self, Nat.reduceAdd, Nat.reduceEqDiff]
      refine inC_ops TO 100 (fw_inC (n := 35) (m := 300) (k := 1) (x := s.level) (l := []) rfl rfl (by decide) (by decide) rfl (by first | (simp; done) | (simp only [List.length_append, digs_length]; omega)) rfl (by omega) (by omega) (by omega)) Tryd.func36 (by decide +kernel) rfl rfl rfl ⟨⟨rfl, rfl, by simp only [evO, constSV, gdP, gdPs, List.getD, List.getElem?_cons_zero, List.getElem?_cons_succ, Option.getD_some, and_self]⟩, ?_⟩
      simp only [wrU, w2, pureOpC, unc, absRun, absOps, absOp, evO, ungd, gdP, gdPs, setD, convV, T_ty, T_size, tTy, tSize, fieldOf, faddrV, pureOp, memOp, loadV, known, cellAt, blkAt, fnd, upd, del, Op.operands, List.getD, List.getElem?_cons_zero, List.getElem?_cons_succ, Option.getD_some, List.set, List.toList_toArray, true_and, and_self, if_true, if_false, eq_self, ne_eq, not_false_eq_true, reduceCtorEq, Nat.zero_add, List.nil_append, Nat.reduceAdd, Nat.reduceSub, Nat.reduceEqDiff, Nat.reduceLT, Nat.succ_ne_self]
      refine inC_ops TO 100 (fw_inC (n := 35) (m := 5020) (k := 1) (x := s.durable) (l := (digs 1 s.level)) rfl rfl (by decide) (by decide) rfl (by first | (simp; done) | (simp only [digs_length]; omega)) rfl (by omega) (by omega) (by omega)) Tryd.func36 (by decide +kernel) rfl rfl rfl ⟨⟨rfl, rfl, by simp only [evO, constSV, gdP, gdPs, List.getD, List.getElem?_cons_zero, List.getElem?_cons_succ, Option.getD_some, and_self]⟩, ?_⟩
      simp only [wrU, w3, pureOpC, unc, absRun, absOps, absOp, evO, ungd, gdP, gdPs, setD, convV, T_ty, T_size, tTy, tSize, fieldOf, faddrV, pureOp, memOp, loadV, known, cellAt, blkAt, fnd, upd, del, Op.operands, List.getD, List.getElem?_cons_zero, List.getElem?_cons_succ, Option.getD_some, List.set, List.toList_toArray, true_and, and_self, if_true, if_false, eq_self, ne_eq, not_false_eq_true, reduceCtorEq, Nat.zero_add, Nat.reduceAdd, Nat.reduceSub, Nat.reduceEqDiff, Nat.reduceLT, Nat.succ_ne_self]
      refine inC_ops TO 100 (fw_inC (n := 35) (m := 5020) (k := 2) (x := s.made) (l := ((digs 1 s.level) ++ digs 1 s.durable)) rfl rfl (by decide) (by decide) rfl (by first | (simp; done) | (simp only [List.length_append, digs_length]; omega)) rfl (by omega) (by omega) (by omega)) Tryd.func36 (by decide +kernel) rfl rfl rfl ⟨⟨rfl, rfl, by simp only [evO, constSV, gdP, gdPs, List.getD, List.getElem?_cons_zero, List.getElem?_cons_succ, Option.getD_some, and_self]⟩, ?_⟩
      simp only [wrU, pureOpC, unc, absRun, absOps, absOp, evO, ungd, gdP, gdPs, setD, T_ty, T_size, tTy, tSize, fieldOf, faddrV, pureOp, memOp, loadV, cellAt, blkAt, fnd, upd, del, Op.operands, List.getD, List.getElem?_cons_zero, List.getElem?_cons_succ, Option.getD_some, List.set, List.toList_toArray, true_and, and_self, if_true, if_false, eq_self, ne_eq, not_false_eq_true, reduceCtorEq, Nat.zero_add, Nat.reduceAdd, Nat.reduceSub, Nat.reduceEqDiff, Nat.reduceLT, Nat.succ_ne_self]
      refine inC_ops TO 100 (fw_inC (n := 35) (m := 5020) (k := 8) (x := s.file) (l := (((digs 1 s.level) ++ digs 1 s.durable) ++ digs 2 s.made)) rfl rfl (by decide) (by decide) rfl (by first | (simp; done) | (simp only [List.length_append, digs_length]; omega)) rfl (by omega) (by omega) (by omega)) Tryd.func36 (by decide +kernel) rfl rfl rfl ⟨⟨rfl, rfl, by simp only [evO, constSV, gdP, gdPs, List.getD, List.getElem?_cons_zero, List.getElem?_cons_succ, Option.getD_some, and_self]⟩, ?_⟩
      simp only [wrU, pureOpC, unc, absRun, absOps, absOp, evO, ungd, gdP, gdPs, setD, T_ty, T_size, tTy, tSize, fieldOf, faddrV, pureOp, memOp, loadV, cellAt, blkAt, fnd, upd, del, Op.operands, List.getD, List.getElem?_cons_zero, List.getElem?_cons_succ, Option.getD_some, List.set, List.toList_toArray, true_and, and_self, if_true, if_false, eq_self, ne_eq, not_false_eq_true, Nat.zero_add, Nat.reduceAdd, Nat.reduceSub, Nat.reduceEqDiff, Nat.reduceLT, Nat.succ_ne_self]
      refine inC_ops TO 100 (fw_inC (n := 35) (m := 5020) (k := 8) (x := s.size) (l := ((((digs 1 s.level) ++ digs 1 s.durable) ++ digs 2 s.made) ++ digs 8 s.file)) rfl rfl (by decide) (by decide) rfl (by first | (simp; done) | (simp only [List.length_append, digs_length]; omega)) rfl (by omega) (by omega) (by omega)) Tryd.func36 (by decide +kernel) rfl rfl rfl ⟨⟨rfl, rfl, by simp only [evO, constSV, gdP, gdPs, List.getD, List.getElem?_cons_zero, List.getElem?_cons_succ, Option.getD_some, and_self]⟩, ?_⟩
      simp only [wrU, w4, pureOpC, unc, absRun, absOps, absOp, evO, ungd, gdP, gdPs, setD, convV, T_ty, T_size, tTy, tSize, fieldOf, faddrV, pureOp, memOp, loadV, known, cellAt, blkAt, fnd, upd, del, Op.operands, List.getD, List.getElem?_cons_zero, List.getElem?_cons_succ, Option.getD_some, List.set, List.toList_toArray, true_and, and_self, if_true, if_false, eq_self, ne_eq, not_false_eq_true, reduceCtorEq, Nat.zero_add, Nat.reduceAdd, Nat.reduceSub, Nat.reduceEqDiff, Nat.reduceLT, Nat.succ_ne_self]
      refine inC_ops TO 100 (fw_inC (n := 35) (m := 5020) (k := 4) (x := s.kind) (l := (((((digs 1 s.level) ++ digs 1 s.durable) ++ digs 2 s.made) ++ digs 8 s.file) ++ digs 8 s.size)) rfl rfl (by decide) (by decide) rfl (by first | (simp; done) | (simp only [List.length_append, digs_length]; omega)) rfl (by omega) (by omega) (by omega)) Tryd.func36 (by decide +kernel) rfl rfl rfl ⟨⟨rfl, rfl, by simp only [evO, constSV, gdP, gdPs, List.getD, List.getElem?_cons_zero, List.getElem?_cons_succ, Option.getD_some, and_self]⟩, ?_⟩
      simp only [wrU, pureOpC, unc, absRun, absOps, absOp, evO, constSV, ungd, gdP, gdPs, setD, T_ty, T_size, tTy, tSize, fieldOf, faddrV, pureOp, loadV, notIn, cellAt, blkAt, fnd, upd, del, Data.len, Data.esz, retP, resV, retQ, rAs, rA, rA0, ownN, nodup, bares, bare, bare0, bareD, Op.operands, List.getD, List.getElem?_cons_zero, List.getElem?_cons_succ, Option.getD_some, List.set, List.map, List.toList_toArray, and_self, if_true, if_false, eq_self, ne_eq, not_false_eq_true, Nat.add_zero, Nat.reduceAdd, Nat.reduceEqDiff, Nat.succ_ne_self, Bool.and_self]
    have d5 : (c == 5) = false := by simpa using c5
    rw [if_neg c5] at hL
    by_cases c8 : c = 8
    · subst c8
      rw [if_pos rfl] at hL
      subst hL
      simp only [w1, w5, w6, if_true, if_false, eq_self, Bool.false_eq_true, Int.reduceBEq, beq_self_eq_true]
      refine nilC_ops 35 300 60 (.ints .u8 []) rfl ⟨⟨by simp only; omega, rfl, by decide⟩, ?_⟩
      simp only [upd, Data.esz, if_true, if_false, eq_self, Nat.reduceAdd, Nat.reduceEqDiff]
      refine inC_ops TO 100 (fw_inC (n := 35) (m := 300) (k := 4) (x := (s.data.length : Int)) (l := []) rfl rfl (by decide) (by decide) rfl (by first | (simp; done) | (simp only [List.length_append, digs_length]; omega)) rfl (by omega) (by omega) (by omega)) Tryd.func36 (by decide +kernel) rfl rfl rfl ⟨⟨rfl, rfl, by simp only [evO, constSV, gdP, gdPs, List.getD, List.getElem?_cons_zero, List.getElem?_cons_succ, Option.getD_some, and_self]⟩, ?_⟩
      simp only [wrU, absRun, absOps, upd, del, List.set, if_true, if_false, eq_self, List.nil_append, Nat.reduceAdd, Nat.reduceEqDiff]
      refine drawI_go TO (fun _ : Unit => [(3, 2, .cells (s.cells false)), (35, 18, .cells [.sl 5020 65 0 1 0 (digs 4 (s.data.length : Int)).length])]) 8 100 mixed_ok (by decide +kernel) ⟨⟨(), by simp [Say.cells, subB, fnd]⟩, ?_⟩
      have hz : (digs 4 (s.data.length : Int)).length = 4 := digs_length _ _
      simp only [Say.cells, List.take_succ_cons, List.take_zero, List.drop_succ_cons, List.drop_zero, pureOpC, gloadV, GT, unc, fitT, isEff, pureStep, subB, absRun, absOps, absOp, evO, constSV, ungd, gdP, gdPs, setD, T_ty, T_size, T_bytes, T_zero, tTy, tSize, tBytes, tZero, fieldOf, faddrV, pureOp, memOp, loadV, notIn, dataOf, appD, isSrc, scal, zI, cellAt, setC, blkAt, fnd, upd, del, mv, elemV, Data.len, Data.esz, Lim.add, retP, resV, retQ, rAs, rA, rA0, ownN, nodup, bares, bare, bare0, bareD, Op.operands, Call.operands, List.getD, List.getElem?_cons_zero, List.getElem?_cons_succ, Option.getD_some, List.set, List.map, List.toList_toArray, Option.map_none, Option.isSome, true_and, and_true, and_self, implies_true, imp_self, if_true, if_false, eq_self, ne_eq, not_false_eq_true, forall_const, reduceCtorEq, Nat.zero_add, Nat.add_zero, List.append_toArray, List.nil_append, Nat.reduceAdd, Nat.reduceSub, Nat.reduceEqDiff, Nat.reduceLT, Nat.succ_ne_self, Bool.and_self, absI]
      refine ⟨⟨by rw [hz]; omega, by rw [hz]; omega⟩, ?_⟩
      exact ⟨(), trivial⟩
    have d8 : (c == 8) = false := by simpa using c8
    rw [if_neg c8] at hL
    by_cases c9 : c = 9
    · subst c9
      rw [if_pos rfl] at hL
      subst hL
      simp only [w1, w5, w6, if_true, if_false, eq_self, Bool.false_eq_true, Int.reduceBEq, beq_self_eq_true]
      refine nilC_ops 35 300 60 (.ints .u8 []) rfl ⟨⟨by simp only; omega, rfl, by decide⟩, ?_⟩
      simp only [upd, Data.esz, if_true, if_false, eq_self, Nat.reduceAdd, Nat.reduceEqDiff]
      refine inC_ops TO 100 (fw_inC (n := 35) (m := 300) (k := 4) (x := s.n) (l := []) rfl rfl (by decide) (by decide) rfl (by first | (simp; done) | (simp only [List.length_append, digs_length]; omega)) rfl (by omega) (by omega) (by omega)) Tryd.func36 (by decide +kernel) rfl rfl rfl ⟨⟨rfl, rfl, by simp only [evO, constSV, gdP, gdPs, List.getD, List.getElem?_cons_zero, List.getElem?_cons_succ, Option.getD_some, and_self]⟩, ?_⟩
      simp only [wrU, pureOpC, unc, absRun, absOps, absOp, evO, constSV, ungd, gdP, gdPs, setD, T_ty, T_size, tTy, tSize, fieldOf, faddrV, pureOp, loadV, notIn, cellAt, blkAt, fnd, upd, del, Data.len, Data.esz, retP, resV, retQ, rAs, rA, rA0, ownN, nodup, bares, bare, bare0, bareD, Op.operands, List.getD, List.getElem?_cons_zero, List.getElem?_cons_succ, Option.getD_some, List.set, List.map, List.toList_toArray, and_self, if_true, if_false, eq_self, ne_eq, not_false_eq_true, Nat.add_zero, List.nil_append, Nat.reduceAdd, Nat.reduceEqDiff, Nat.succ_ne_self, Bool.and_self]
    have d9 : (c == 9) = false := by simpa using c9
    rw [if_neg c9] at hL
    subst hL
    simp only [d5, d8, d9, w1, w5, w6, if_false, Bool.false_eq_true]
    refine nilC_ops 35 300 60 (.ints .u8 []) rfl ⟨⟨by simp only; omega, rfl, by decide⟩, ?_⟩
    simp only [upd, Data.esz, if_true, if_false, eq_self, Nat.reduceAdd, Nat.reduceEqDiff]
    refine inC_ops TO 100 (fw_inC (n := 35) (m := 300) (k := 4) (x := 0) (l := []) rfl rfl (by decide) (by decide) rfl (by first | (simp; done) | (simp only [List.length_append, digs_length]; omega)) rfl (by omega) (by omega) (by omega)) Tryd.func36 (by decide +kernel) rfl rfl rfl ⟨⟨rfl, rfl, by simp only [evO, constSV, gdP, gdPs, List.getD, List.getElem?_cons_zero, List.getElem?_cons_succ, Option.getD_some, and_self]⟩, ?_⟩
    simp only [wrU, pureOpC, unc, absRun, absOps, absOp, evO, constSV, ungd, gdP, gdPs, setD, T_ty, T_size, tTy, tSize, fieldOf, faddrV, pureOp, loadV, notIn, cellAt, blkAt, fnd, upd, del, Data.len, Data.esz, retP, resV, retQ, rAs, rA, rA0, ownN, nodup, bares, bare, bare0, bareD, Op.operands, List.getD, List.getElem?_cons_zero, List.getElem?_cons_succ, Option.getD_some, List.set, List.map, List.toList_toArray, and_self, if_true, if_false, eq_self, ne_eq, not_false_eq_true, Nat.add_zero, List.nil_append, Nat.reduceAdd, Nat.reduceEqDiff, Nat.succ_ne_self, Bool.and_self]

end Go.Proofs.YtakgefinmlomdaaDoor.Abs
