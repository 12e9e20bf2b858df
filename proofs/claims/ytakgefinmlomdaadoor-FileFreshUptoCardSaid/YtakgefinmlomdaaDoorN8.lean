/- What file's PutAsk answers. -/
import Derived.Test.YtakgefinmlomdaaDoorNY1
import Derived.Test.YtakgefinmlomdaaDoorNA
set_option linter.unusedVariables false
set_option linter.unusedSimpArgs false
set_option maxRecDepth 100000
namespace Go.Proofs.YtakgefinmlomdaaDoor.Abs
open Go Go.Proofs

def opB : List LockR → Bool
  | [] => true
  | x :: r => (x.op == 0) && opB r

theorem opB_iff (l : List LockR) : opB l = true ↔ ∀ x ∈ l, x.op = 0 := by
  induction l with
  | nil => simp [opB]
  | cons x l ih =>
    unfold opB
    rw [Bool.and_eq_true, ih]
    simp

theorem faE_bad {c : Int} {a : Ask} (h : fkB c = false ∨ decide (faW c a = a) = false ∨ opB a.locks = false) : faE c a = 2 ∧ faL c a = [] := by
  have e : faE c a = 2 := by
    unfold faE
    rw [if_pos]
    rcases h with h | h | h
    · exact .inl h
    · exact .inr (.inl (by simpa using h))
    · refine .inr (.inr ?_)
      apply Classical.byContradiction
      intro g
      have : opB a.locks = true := (opB_iff _).2 (fun x hx => Classical.byContradiction fun k => g ⟨x, hx, k⟩)
      rw [h] at this; cases this
  exact ⟨e, by unfold faL; rw [if_pos (by rw [e]; decide)]⟩

theorem faE_good {c : Int} {a : Ask} (h1 : fkB c = true) (h2 : decide (faW c a = a) = true) (h3 : opB a.locks = true) : faE c a = if 32768 < a.data.length ∨ 16 < a.locks.length then 3 else if c = 5 then ptE a.name else 0 := by
  unfold faE
  rw [if_neg]
  rintro (g | g | ⟨x, g1, g2⟩)
  · rw [h1] at g; cases g
  · exact g (by simpa using h2)
  · exact g2 ((opB_iff _).1 h3 x g1)

theorem lkL_len (l : List LockR) : (lkL l).length = 20 * l.length := by
  induction l with
  | nil => rfl
  | cons x l ih =>
    have e : lkL (x :: l) = digs 8 x.at_ ++ (digs 8 x.n ++ (digs 2 x.mode ++ digs 2 0)) ++ lkL l := by simp [lkL]
    rw [e, List.length_append, ih]
    simp only [List.length_append, digs_length, List.length_cons]
    omega
theorem lkL_snoc (l : List LockR) (x : LockR) : lkL (l ++ [x]) = lkL l ++ (digs 8 x.at_ ++ (digs 8 x.n ++ (digs 2 x.mode ++ digs 2 0))) := by simp [lkL]

set_option maxHeartbeats 8000000 in
theorem fPutAsk_meets (c : Int) (a : Ask) (hc : 0 ≤ c) (ha : a.ok) (hs : a.small 1048576) : Meets Tryd.prog 12 [.v (.int .u16 c), .v (a.sv false)] [.own (.ints .u8 (faL c a)), .v (.int .i64 (faE c a))] := by
  have hK := fk_meets c hc
  have hA := fun X b0 c0 => fasked2_inC (X := X) (b0 := b0) (c0 := c0) c a
  have hS := fsame_meets (faW c a) a
  rw [fsame_want] at hS
  have hbad := faE_bad (c := c) (a := a)
  have hgood := faE_good (c := c) (a := a)
  have hL : faL c a = if faE c a ≠ 0 then []
    else if c = 5 then digs 4 a.access ++ (digs 4 a.sharing ++ (digs 4 a.way ++ (digs 4 a.options ++ (digs 1 a.level ++ (digs 1 a.durable ++ (digs 2 0 ++ (digs 8 a.file ++ ptL a.name)))))))
    else if c = 8 then digs 8 a.file ++ (digs 8 a.at_ ++ digs 4 a.n) else if c = 9 then digs 8 a.file ++ (digs 8 a.at_ ++ (digs 4 a.data.length ++ a.data))
    else if c = 10 then digs 8 a.file ++ (digs 2 a.locks.length ++ (digs 2 0 ++ lkL a.locks)) else digs 8 a.file := rfl
  have hd1 := hs.data
  have hd2 := hs.locks
  generalize hsw : decide (faW c a = a) = sw at *
  generalize faW c a = w at *
  generalize faE c a = E at *
  generalize faL c a = L at *
  simp only [Ask.sv, Ask.cells] at hA hS
  refine meets_go TO 100 Tryd.func12 rfl (fun X => ?_)
  simp only [Tryd.ntmps12, Tryd.results12, Ask.sv, Ask.cells, pureOpC, unc, svs, blks, AV.sv, absRun, absOps, absOp, evO, constSV, ungd, gdP, gdPs, setD, pureOp, memOp, newV, notIn, cellsOf, upd, Lim.add, Op.operands, List.getD, List.getElem?_cons_zero, List.getElem?_cons_succ, Option.getD_some, List.set, List.toList_toArray, true_and, and_self, Nat.zero_add, List.cons_append, List.nil_append, List.length_cons, List.length_nil, Nat.reduceAdd, Nat.reduceSub, List.replicate_succ, List.replicate_zero]
  refine draw_go TO 11 100 mixed_ok (by decide +kernel) ?_
  simp only [List.take_succ_cons, List.take_zero, List.drop_succ_cons, List.drop_zero, pureOpC, gloadV, GT, unc, isEff, absD, pureStep, absRun, absOps, absOp, evO, constSV, ungd, gdP, gdPs, setD, T_ty, T_size, tTy, tSize, fieldOf, faddrV, pureOp, memOp, lenV, loadV, blkAt, elemV, Data.len, Data.esz, retP, resV, retQ, rAs, rA, rA0, bares, bare, bare0, bareD, Op.operands, Call.operands, List.getD, List.getElem?_cons_zero, List.getElem?_cons_succ, Option.getD_some, List.set, List.map, List.toList_toArray, true_and, and_true, and_self, implies_true, imp_self, eq_self, ne_eq, not_false_eq_true, forall_const, reduceCtorEq, List.append_toArray, List.nil_append, Nat.reduceAdd, Nat.succ_ne_self, Bool.and_self]
  refine callD_go TO (fun s' h' => HOps_go TO 100 h') hK Tryd.func32 (by decide +kernel) rfl rfl rfl ?_
  cases hk : fkB c with
  | false =>
    obtain ⟨rfl, rfl⟩ := hbad (.inl hk)
    simp only [pureOpC, unc, isEff, absD, pureStep, subB, absOp, evO, ungd, gdP, gdPs, setD, unV, T_ty, T_size, tTy, tSize, pureOp, guardOf, loadV, takeC, dropC, blkAt, fnd, ownN, nodup, bares, bare, bare0, guardIs, callP, callS, argS, mAs, mA, mA0, mB0, allNotIn, impN, impB, impT, packS, delL, Op.operands, List.getD, List.getElem?_cons_zero, List.getElem?_cons_succ, Option.getD_some, List.set, List.map, List.toList_toArray, List.getElem?_toArray, Option.bind_some, Option.map_some, true_and, and_self, implies_true, if_true, eq_self, ne_eq, not_false_eq_true, reduceCtorEq, Bool.false_eq_true, List.append_nil, Nat.reduceAdd, Nat.reduceSub, Nat.reduceLeDiff, Bool.not_true, Bool.not_false, Bool.and_self]
    refine skipD_go TO (.bool false) (fun s' h' => HOps_go TO 100 h') rfl ?_
    simp only [pureOpC, unc, isEff, absD, pureStep, subB, absOp, evO, ungd, gdP, gdPs, setD, T_ty, T_size, tTy, tSize, pureOp, guardOf, loadV, takeC, dropC, blkAt, fnd, guardIs, Op.operands, List.getD, List.getElem?_cons_zero, List.getElem?_cons_succ, Option.getD_some, List.set, List.toList_toArray, List.getElem?_toArray, Option.bind_some, Option.map_some, true_and, and_self, implies_true, if_true, eq_self, ne_eq, not_false_eq_true, reduceCtorEq, Bool.false_eq_true, Nat.reduceAdd, Nat.reduceSub, Nat.reduceLeDiff, Bool.not_true]
    refine skipD_go TO (.bool false) (fun s' h' => HOps_go TO 100 h') rfl ?_
    simp only [pureOpC, unc, isEff, absD, pureStep, subB, absRun, absOps, absOp, evO, constSV, ungd, gdP, gdPs, setD, unV, T_ty, T_size, tTy, tSize, fieldOf, faddrV, pickV, pureOp, guardOf, lenV, loadV, cellAt, blkAt, fnd, Data.len, retP, resV, retQ, rAs, rA, rA0, ownN, nodup, bares, bare, bare0, bareD, guardIs, Op.operands, Call.operands, List.getD, List.getElem?_cons_zero, List.getElem?_cons_succ, Option.getD_some, List.set, List.map, List.toList_toArray, List.getElem?_toArray, Option.bind_some, true_and, and_self, implies_true, imp_self, if_true, if_false, eq_self, ne_eq, not_false_eq_true, reduceCtorEq, Bool.false_eq_true, Nat.zero_add, Bool.cond_true, List.append_toArray, List.nil_append, List.length_nil, Nat.reduceAdd, Nat.reduceSub, Nat.reduceLT, Nat.succ_ne_self, Bool.not_true, Bool.not_false, Bool.and_self]
  | true =>
    simp only [pureOpC, unc, isEff, absD, pureStep, subB, absOp, evO, ungd, gdP, gdPs, setD, unV, T_ty, T_size, tTy, tSize, pureOp, guardOf, loadV, takeC, dropC, blkAt, fnd, ownN, nodup, bares, bare, bare0, guardIs, callP, callS, argS, mAs, mA, mA0, mB0, allNotIn, impN, impB, impT, packS, delL, Op.operands, List.getD, List.getElem?_cons_zero, List.getElem?_cons_succ, Option.getD_some, List.set, List.map, List.toList_toArray, List.getElem?_toArray, Option.bind_some, Option.map_some, true_and, and_self, implies_true, if_true, eq_self, ne_eq, not_false_eq_true, reduceCtorEq, List.append_nil, Nat.reduceAdd, Nat.reduceSub, Nat.reduceLeDiff, Bool.not_true, Bool.not_false, Bool.and_self]
    refine inCD_go TO (fun s' h' => HOps_go TO 100 h') (hA X _ _ rfl rfl rfl) Tryd.func34 (by decide +kernel) rfl rfl rfl ?_
    simp only [pureOpC, unc, isEff, absD, pureStep, subB, absOp, evO, ungd, gdP, gdPs, setD, T_ty, T_size, tTy, tSize, pureOp, guardOf, loadV, takeC, dropC, blkAt, fnd, guardIs, argC, Op.operands, List.getD, List.getElem?_cons_zero, List.getElem?_cons_succ, Option.getD_some, List.set, List.map, List.toList_toArray, List.getElem?_toArray, Option.bind_some, Option.map_some, true_and, and_self, implies_true, if_true, eq_self, ne_eq, not_false_eq_true, reduceCtorEq, Nat.reduceAdd, Nat.reduceSub, Nat.reduceLeDiff, Bool.not_false]
    refine callD_go TO (fun s' h' => HOps_go TO 100 h') hS Tryd.func33 (by decide +kernel) rfl rfl rfl ?_
    cases hsv : sw with
    | false =>
      obtain ⟨rfl, rfl⟩ := hbad (.inr (.inl hsv))
      simp only [pureOpC, unc, isEff, absD, pureStep, subB, absRun, absOps, absOp, evO, constSV, ungd, gdP, gdPs, setD, unV, T_ty, T_size, tTy, tSize, fieldOf, faddrV, pickV, pureOp, guardOf, lenV, loadV, cellAt, blkAt, fnd, Data.len, retP, resV, retQ, rAs, rA, rA0, ownN, nodup, bares, bare, bare0, bareD, guardIs, callP, callS, argS, mAs, mA, mA0, mB0, mAl, lowD, allNotIn, impN, impB, impT, packS, delL, Op.operands, Call.operands, List.getD, List.getElem?_cons_zero, List.getElem?_cons_succ, Option.getD_some, List.set, List.map, List.toList_toArray, List.getElem?_toArray, Option.bind_some, true_and, and_self, implies_true, if_true, if_false, eq_self, ne_eq, not_false_eq_true, reduceCtorEq, Nat.zero_add, Bool.cond_false, List.append_toArray, List.nil_append, List.append_nil, List.length_nil, Nat.reduceAdd, Nat.reduceSub, Nat.reduceLT, Nat.succ_ne_self, Bool.not_false, Bool.and_self]
    | true =>
    simp only [pureOpC, unc, isEff, absD, pureStep, subB, absRun, absOps, absOp, evO, constSV, ungd, gdP, gdPs, setD, unV, T_ty, T_size, tTy, tSize, fieldOf, faddrV, pickV, pureOp, guardOf, lenV, loadV, cellAt, blkAt, fnd, Data.len, retP, resV, retQ, rAs, rA, rA0, ownN, nodup, bares, bare, bare0, bareD, guardIs, callP, callS, argS, mAs, mA, mA0, mB0, mAl, lowD, allNotIn, impN, impB, impT, packS, delL, Op.operands, Call.operands, List.getD, List.getElem?_cons_zero, List.getElem?_cons_succ, Option.getD_some, List.set, List.map, List.toList_toArray, List.getElem?_toArray, Option.bind_some, true_and, and_true, and_self, implies_true, if_true, if_false, eq_self, ne_eq, not_false_eq_true, reduceCtorEq, Bool.false_eq_true, Nat.zero_add, Bool.cond_false, List.append_toArray, List.nil_append, List.append_nil, Nat.reduceAdd, Nat.reduceSub, Nat.reduceLT, Nat.succ_ne_self, Bool.not_true, Bool.not_false, Bool.and_self]
    refine loop_up (fun x : Nat × Nat => x.1 ≤ a.locks.length ∧ opB a.locks = opB (a.locks.drop x.1))
      (fun x => ⟨tl 135 0 [(0, .int .u16 c), (3, .ptr 3 2 0), (4, .nil), (5, .int .i64 0), (23, .view false (.locks a.locks)), (24, .int .i64 a.locks.length), (25, .int .i64 x.1)], [(3, 2, .cells (a.cells false))], ⟨x.2, [], 0⟩⟩) (fun x => a.locks.length - x.1) (0, _) ⟨Nat.zero_le _, rfl⟩ ⟨rfl, ?_, ?_⟩ ?_
    · simp [LeT, tl]
    · intro n x hx
      simpa [fnd, Ask.cells] using hx
    rintro ⟨i, c1⟩ ⟨hi, hall⟩ ih
    simp only at hi hall
    refine absRun_ok TO 100 _ _ ?_
    simp only [Ask.cells, pureOpC, buildV, fillC, cntC, unc, absRun, absOps, absOp, evO, constSV, ungd, gdP, gdPs, setD, binI, binV, ptrE, T_ty, T_size, T_zero, tTy, tSize, tZero, fieldOf, faddrV, iaddrV, pickV, pureOp, guardOf, memOp, lenV, loadV, newV, notIn, scal, cellsOf, okC, cellAt, takeC, dropC, blkAt, fnd, upd, elemV, Data.len, Data.esz, Lim.add, retP, resV, retQ, rAs, rA, rA0, ownN, nodup, bares, bare, bare0, bareD, Op.operands, Call.operands, List.getD, List.getElem?_cons_zero, List.getElem?_cons_succ, Option.getD_some, List.set, List.map, List.all, List.toList_toArray, List.getElem?_toArray, Option.bind_some, Option.map_some, exitTo, true_and, and_true, and_self, implies_true, imp_self, if_true, if_false, eq_self, ne_eq, not_false_eq_true, reduceCtorEq, Nat.zero_add, Nat.add_zero, Int.toNat_natCast, Bool.cond_true_left, List.append_toArray, List.cons_append, List.nil_append, List.append_nil, Nat.reduceAdd, Nat.reduceSub, Nat.reduceEqDiff, Nat.reduceLeDiff, Nat.reduceLT, Nat.succ_ne_self, beq_self_eq_true, List.replicate_succ, List.replicate_zero, Bool.and_self, tl, gt_iff_lt, Nat.reduceBNe]
    by_cases hil : i < a.locks.length
    · rw [if_pos (decide_eq_true (by omega))]
      have wi : IntKind.i64.wrap ((i : Int) + 1) = ((i + 1 : Nat) : Int) := by rw [w64 (by omega) (by omega)]; omega
      have g1 : a.locks[i]? = some (a.locks[i]?.getD default) := by rw [List.getElem?_eq_getElem hil]; rfl
      have g2 : a.locks.drop i = (a.locks[i]?.getD default) :: a.locks.drop (i + 1) := by
        rw [List.drop_eq_getElem_cons hil, List.getElem?_eq_getElem hil]; rfl
      rw [g2] at hall
      simp only [wi]
      refine ⟨by omega, ?_⟩
      generalize a.locks[i]?.getD default = x at *
      have hm : opB (x :: a.locks.drop (i + 1)) = ((x.op == 0) && opB (a.locks.drop (i + 1))) := rfl
      rw [hm] at hall
      refine ite_both (fun hb => ?_) (fun hb => ?_)
      · have e : opB a.locks = false := by
          rw [hall]
          have : (x.op == 0) = false := by simpa using hb
          rw [this]; rfl
        obtain ⟨rfl, rfl⟩ := hbad (.inr (.inr e))
        simp only [and_self, eq_self, List.length_nil]
      · have e : (x.op == 0) = true := by simpa using hb
        rw [e, Bool.true_and] at hall
        refine ih (i + 1, _) _ ⟨hil, hall⟩ (by simp only; omega) rfl ?_ ?_
        · simp [LeT, tl]
        · intro n x hx
          simp only [fnd, Ask.cells] at hx ⊢
          split at hx
          · rename_i e; subst e; simpa using hx
          cases hx
    rw [if_neg (by rw [decide_eq_true_eq]; omega)]
    have hop : opB a.locks = true := by rw [hall, List.drop_eq_nil_of_le (by omega)]; rfl
    have hE := hgood hk hsv hop
    clear ih hbad hgood hA hS hK hall hi hil
    refine ite_both (fun hb => ?_) (fun hb => ?_)
    · have hE2 : E = 3 := by rw [hE, if_pos (by simp at hb; omega)]
      have hL2 : L = [] := by rw [hL, if_pos (by rw [hE2]; decide)]
      rw [hE2, hL2]
      exact ⟨rfl, rfl⟩
    have hb2 : a.data.length ≤ 32768 ∧ a.locks.length ≤ 16 := by simp at hb; omega
    rw [if_neg (by omega)] at hE
    have f0 := ha.file.1
    have f1 := ha.file.2
    have t0 := ha.at_.1
    have t1 := ha.at_.2
    have n0 := ha.n.1
    have n1 := ha.n.2
    have wn : IntKind.u64.wrap a.n = a.n := wu64 (by omega) (by omega)
    have wd : IntKind.u64.wrap (a.data.length : Int) = a.data.length := wu64 (by omega) (by omega)
    have wl : IntKind.u64.wrap (a.locks.length : Int) = a.locks.length := wu64 (by omega) (by omega)
    by_cases c5 : c = 5
    · subst c5
      rw [if_pos rfl] at hE
      rw [if_pos rfl] at hL
      have hLc : digs 4 a.access ++ (digs 4 a.sharing ++ (digs 4 a.way ++ (digs 4 a.options ++ (digs 1 a.level ++ (digs 1 a.durable ++ (digs 2 0 ++ (digs 8 a.file ++ ptL a.name))))))) = fcL a := rfl
      rw [hLc] at hL
      clear hLc
      simp only [if_true, if_false, eq_self, Bool.false_eq_true, Int.reduceBEq, beq_self_eq_true]
      refine nilC_ops 44 300 (c1 + 60) (.ints .u8 []) rfl ⟨⟨by simp only; omega, rfl, by decide⟩, ?_⟩
      simp only [upd, Data.esz, if_true, if_false, eq_self, Nat.reduceEqDiff]
      by_cases hp : ptE a.name = 0
      · rw [hp] at hE
        subst hE
        rw [if_neg (by decide)] at hL
        subst hL
        refine inC_ops TO 100 (fcreate_ok a ha hs hp) Tryd.func35 (by decide +kernel) rfl rfl rfl ⟨⟨rfl, rfl, by simp only [evO, gdP, gdPs, List.getD, List.getElem?_cons_zero, List.getElem?_cons_succ, Option.getD_some, and_self]⟩, ?_⟩
        simp only [pureOpC, unc, absRun, absOps, absOp, evO, ungd, gdP, gdPs, setD, extractV, pureOp, notIn, blkAt, fnd, Data.len, Data.esz, retP, resV, retQ, rAs, rA, rA0, ownN, nodup, bares, bare, bare0, bareD, Op.operands, List.getD, List.getElem?_cons_zero, List.getElem?_cons_succ, Option.getD_some, List.set, List.map, List.toList_toArray, and_self, if_true, eq_self, Bool.and_self]
      · subst hE
        rw [if_pos hp] at hL
        subst hL
        refine inC_ops TO 100 (fcreate_err a ha hs hp) Tryd.func35 (by decide +kernel) rfl rfl rfl ⟨⟨rfl, rfl, by simp only [evO, gdP, gdPs, List.getD, List.getElem?_cons_zero, List.getElem?_cons_succ, Option.getD_some, and_self]⟩, ?_⟩
        simp only [pureOpC, unc, absRun, absOps, absOp, evO, ungd, gdP, gdPs, setD, extractV, pureOp, Data.len, retP, resV, retQ, rAs, rA, rA0, ownN, nodup, bares, bare, bare0, bareD, Op.operands, List.getD, List.getElem?_cons_zero, List.getElem?_cons_succ, Option.getD_some, List.set, List.map, List.toList_toArray, and_self, eq_self, List.length_nil, Bool.and_self]
    rw [if_neg c5] at hE
    subst hE
    rw [if_neg (by decide), if_neg c5] at hL
    have d5 : (c == 5) = false := by simpa using c5
    by_cases c8 : c = 8
    · subst c8
      rw [if_pos rfl, ← List.append_assoc] at hL
      subst hL
      simp only [if_true, if_false, eq_self, Bool.false_eq_true, Int.reduceBEq, beq_self_eq_true]
      refine nilC_ops 44 300 (c1 + 60) (.ints .u8 []) rfl ⟨⟨by simp only; omega, rfl, by decide⟩, ?_⟩
      simp only [upd, Data.esz, if_true, if_false, eq_self, Nat.reduceEqDiff]
      refine inC_ops TO 100 (fw_inC (n := 44) (m := 300) (k := 8) (x := a.file) (l := []) rfl rfl (by decide) (by decide) rfl (by simp) rfl (by omega) (by omega) (by omega)) Tryd.func36 (by decide +kernel) rfl rfl rfl ⟨⟨rfl, rfl, by simp only [evO, constSV, gdP, gdPs, List.getD, List.getElem?_cons_zero, List.getElem?_cons_succ, Option.getD_some, and_self]⟩, ?_⟩
      simp only [wrU, pureOpC, unc, absRun, absOps, absOp, evO, ungd, gdP, gdPs, setD, T_ty, T_size, tTy, tSize, fieldOf, faddrV, pureOp, memOp, loadV, cellAt, blkAt, fnd, upd, del, Op.operands, List.getD, List.getElem?_cons_zero, List.getElem?_cons_succ, Option.getD_some, List.set, List.toList_toArray, true_and, and_self, if_true, if_false, eq_self, ne_eq, not_false_eq_true, reduceCtorEq, Nat.zero_add, List.nil_append, Nat.reduceSub, Nat.reduceEqDiff, Nat.reduceLT, Nat.succ_ne_self]
      refine inC_ops TO 100 (fw_inC (n := 44) (m := 5020) (k := 8) (x := a.at_) (l := digs 8 a.file) rfl rfl (by decide) (by decide) rfl (by simp only [digs_length]; omega) rfl (by omega) (by omega) (by omega)) Tryd.func36 (by decide +kernel) rfl rfl rfl ⟨⟨rfl, rfl, by simp only [evO, constSV, gdP, gdPs, List.getD, List.getElem?_cons_zero, List.getElem?_cons_succ, Option.getD_some, and_self]⟩, ?_⟩
      simp only [wrU, wn, pureOpC, unc, absRun, absOps, absOp, evO, ungd, gdP, gdPs, setD, convV, T_ty, T_size, tTy, tSize, fieldOf, faddrV, pureOp, memOp, loadV, known, cellAt, blkAt, fnd, upd, del, Op.operands, List.getD, List.getElem?_cons_zero, List.getElem?_cons_succ, Option.getD_some, List.set, List.toList_toArray, true_and, and_self, if_true, if_false, eq_self, ne_eq, not_false_eq_true, reduceCtorEq, Nat.zero_add, Nat.reduceSub, Nat.reduceEqDiff, Nat.reduceLT, Nat.succ_ne_self]
      refine inC_ops TO 100 (fw_inC (n := 44) (m := 5020) (k := 4) (x := a.n) (l := digs 8 a.file ++ digs 8 a.at_) rfl rfl (by decide) (by decide) rfl (by simp only [List.length_append, digs_length]; omega) rfl (by omega) (by omega) (by omega)) Tryd.func36 (by decide +kernel) rfl rfl rfl ⟨⟨rfl, rfl, by simp only [evO, constSV, gdP, gdPs, List.getD, List.getElem?_cons_zero, List.getElem?_cons_succ, Option.getD_some, and_self]⟩, ?_⟩
      simp only [wrU, pureOpC, unc, absRun, absOps, absOp, evO, constSV, ungd, gdP, gdPs, setD, T_ty, T_size, tTy, tSize, fieldOf, faddrV, pureOp, loadV, notIn, cellAt, blkAt, fnd, upd, del, Data.len, Data.esz, retP, resV, retQ, rAs, rA, rA0, ownN, nodup, bares, bare, bare0, bareD, Op.operands, List.getD, List.getElem?_cons_zero, List.getElem?_cons_succ, Option.getD_some, List.set, List.map, List.toList_toArray, and_self, if_true, if_false, eq_self, ne_eq, not_false_eq_true, Nat.add_zero, Nat.reduceEqDiff, Nat.succ_ne_self, Bool.and_self]
    have d8 : (c == 8) = false := by simpa using c8
    rw [if_neg c8] at hL
    by_cases c9 : c = 9
    · subst c9
      rw [if_pos rfl, ← List.append_assoc, ← List.append_assoc] at hL
      subst hL
      simp only [if_true, if_false, eq_self, Bool.false_eq_true, Int.reduceBEq, beq_self_eq_true]
      refine nilC_ops 44 300 (c1 + 60) (.ints .u8 []) rfl ⟨⟨by simp only; omega, rfl, by decide⟩, ?_⟩
      simp only [upd, Data.esz, if_true, if_false, eq_self, Nat.reduceEqDiff]
      refine inC_ops TO 100 (fw_inC (n := 44) (m := 300) (k := 8) (x := a.file) (l := []) rfl rfl (by decide) (by decide) rfl (by simp) rfl (by omega) (by omega) (by omega)) Tryd.func36 (by decide +kernel) rfl rfl rfl ⟨⟨rfl, rfl, by simp only [evO, constSV, gdP, gdPs, List.getD, List.getElem?_cons_zero, List.getElem?_cons_succ, Option.getD_some, and_self]⟩, ?_⟩
      simp only [wrU, pureOpC, unc, absRun, absOps, absOp, evO, ungd, gdP, gdPs, setD, T_ty, T_size, tTy, tSize, fieldOf, faddrV, pureOp, memOp, loadV, cellAt, blkAt, fnd, upd, del, Op.operands, List.getD, List.getElem?_cons_zero, List.getElem?_cons_succ, Option.getD_some, List.set, List.toList_toArray, true_and, and_self, if_true, if_false, eq_self, ne_eq, not_false_eq_true, reduceCtorEq, Nat.zero_add, List.nil_append, Nat.reduceSub, Nat.reduceEqDiff, Nat.reduceLT, Nat.succ_ne_self]
      refine inC_ops TO 100 (fw_inC (n := 44) (m := 5020) (k := 8) (x := a.at_) (l := digs 8 a.file) rfl rfl (by decide) (by decide) rfl (by simp only [digs_length]; omega) rfl (by omega) (by omega) (by omega)) Tryd.func36 (by decide +kernel) rfl rfl rfl ⟨⟨rfl, rfl, by simp only [evO, constSV, gdP, gdPs, List.getD, List.getElem?_cons_zero, List.getElem?_cons_succ, Option.getD_some, and_self]⟩, ?_⟩
      simp only [wrU, wd, pureOpC, unc, absRun, absOps, absOp, evO, ungd, gdP, gdPs, setD, convV, T_ty, T_size, tTy, tSize, fieldOf, faddrV, pureOp, memOp, lenV, loadV, known, cellAt, blkAt, fnd, upd, del, Data.len, Op.operands, Call.operands, List.getD, List.getElem?_cons_zero, List.getElem?_cons_succ, Option.getD_some, List.set, List.toList_toArray, true_and, and_self, if_true, if_false, eq_self, ne_eq, not_false_eq_true, reduceCtorEq, Nat.zero_add, List.append_toArray, List.nil_append, Nat.reduceSub, Nat.reduceEqDiff, Nat.reduceLT, Nat.succ_ne_self]
      refine inC_ops TO 100 (fw_inC (n := 44) (m := 5020) (k := 4) (x := a.data.length) (l := digs 8 a.file ++ digs 8 a.at_) rfl rfl (by decide) (by decide) rfl (by simp only [List.length_append, digs_length]; omega) rfl (by omega) (by omega) (by omega)) Tryd.func36 (by decide +kernel) rfl rfl rfl ⟨⟨rfl, rfl, by simp only [evO, constSV, gdP, gdPs, List.getD, List.getElem?_cons_zero, List.getElem?_cons_succ, Option.getD_some, and_self]⟩, ?_⟩
      simp only [wrU, absRun, absOps, upd, del, List.set, if_true, if_false, eq_self, Nat.reduceEqDiff]
      refine drawI_go TO (fun _ : Unit => [(3, 2, .cells (a.cells false)), (44, c1 + 1 + 1 + 1, .cells [.sl 5020 (c1 + 60 + 1 + 1 + 1 + 12 + 1 + 1 + 12 + 1 + 1 + 2) 0 1 0 (digs 8 a.file ++ digs 8 a.at_ ++ digs 4 (a.data.length : Int)).length])]) 8 100 mixed_ok (by decide +kernel) ⟨⟨(), by simp [Ask.cells, subB, fnd]⟩, ?_⟩
      have hz : (digs 8 a.file ++ digs 8 a.at_ ++ digs 4 (a.data.length : Int)).length = 20 := by simp only [List.length_append, digs_length]
      simp only [Ask.cells, List.take_succ_cons, List.take_zero, List.drop_succ_cons, List.drop_zero, pureOpC, gloadV, GT, unc, fitT, isEff, pureStep, subB, absRun, absOps, absOp, evO, constSV, ungd, gdP, gdPs, setD, T_ty, T_size, T_bytes, T_zero, tTy, tSize, tBytes, tZero, fieldOf, faddrV, pureOp, memOp, loadV, notIn, dataOf, appD, isSrc, scal, zI, cellAt, setC, blkAt, fnd, upd, del, mv, elemV, Data.len, Data.esz, Lim.add, retP, resV, retQ, rAs, rA, rA0, ownN, nodup, bares, bare, bare0, bareD, Op.operands, Call.operands, List.getD, List.getElem?_cons_zero, List.getElem?_cons_succ, Option.getD_some, List.set, List.map, List.toList_toArray, Option.map_none, Option.isSome, true_and, and_true, and_self, implies_true, imp_self, if_true, if_false, eq_self, ne_eq, not_false_eq_true, forall_const, reduceCtorEq, Nat.zero_add, Nat.add_zero, List.append_toArray, List.nil_append, Nat.reduceSub, Nat.reduceEqDiff, Nat.reduceLT, Nat.succ_ne_self, Bool.and_self, absI]
      refine ⟨⟨by rw [hz]; omega, by rw [hz]; omega⟩, ?_⟩
      exact ⟨(), trivial⟩
    have d9 : (c == 9) = false := by simpa using c9
    rw [if_neg c9] at hL
    by_cases c10 : c = 10
    · subst c10
      rw [if_pos rfl] at hL
      simp only [if_true, if_false, eq_self, Bool.false_eq_true, Int.reduceBEq, beq_self_eq_true]
      refine nilC_ops 44 300 (c1 + 60) (.ints .u8 []) rfl ⟨⟨by simp only; omega, rfl, by decide⟩, ?_⟩
      simp only [upd, Data.esz, if_true, if_false, eq_self, Nat.reduceEqDiff]
      refine inC_ops TO 100 (fw_inC (n := 44) (m := 300) (k := 8) (x := a.file) (l := []) rfl rfl (by decide) (by decide) rfl (by simp) rfl (by omega) (by omega) (by omega)) Tryd.func36 (by decide +kernel) rfl rfl rfl ⟨⟨rfl, rfl, by simp only [evO, constSV, gdP, gdPs, List.getD, List.getElem?_cons_zero, List.getElem?_cons_succ, Option.getD_some, and_self]⟩, ?_⟩
      simp only [wrU, wl, pureOpC, unc, absRun, absOps, absOp, evO, ungd, gdP, gdPs, setD, convV, T_ty, T_size, tTy, tSize, fieldOf, faddrV, pureOp, memOp, lenV, loadV, known, cellAt, blkAt, fnd, upd, del, Data.len, Op.operands, Call.operands, List.getD, List.getElem?_cons_zero, List.getElem?_cons_succ, Option.getD_some, List.set, List.toList_toArray, true_and, and_self, if_true, if_false, eq_self, ne_eq, not_false_eq_true, reduceCtorEq, Nat.zero_add, List.append_toArray, List.nil_append, Nat.reduceSub, Nat.reduceEqDiff, Nat.reduceLT, Nat.succ_ne_self]
      refine inC_ops TO 100 (fw_inC (n := 44) (m := 5020) (k := 4) (x := a.locks.length) (l := digs 8 a.file) rfl rfl (by decide) (by decide) rfl (by simp only [digs_length]; omega) rfl (by omega) (by omega) (by omega)) Tryd.func36 (by decide +kernel) rfl rfl rfl ⟨⟨rfl, rfl, by simp only [evO, constSV, gdP, gdPs, List.getD, List.getElem?_cons_zero, List.getElem?_cons_succ, Option.getD_some, and_self]⟩, ?_⟩
      simp only [wrU, pureOpC, unc, absRun, absOps, absOp, evO, constSV, ungd, gdP, gdPs, setD, T_ty, T_size, tTy, tSize, fieldOf, faddrV, pureOp, lenV, loadV, cellAt, blkAt, fnd, upd, del, Data.len, Op.operands, Call.operands, List.getD, List.getElem?_cons_zero, List.getElem?_cons_succ, Option.getD_some, List.set, List.toList_toArray, true_and, and_self, if_true, if_false, eq_self, ne_eq, not_false_eq_true, reduceCtorEq, Nat.zero_add, List.append_toArray, List.nil_append, Nat.reduceSub, Nat.reduceEqDiff, Nat.reduceLT, Nat.succ_ne_self]
      obtain ⟨B0, hB0⟩ : ∃ B0, B0 = digs 8 a.file ++ digs 4 (a.locks.length : Int) := ⟨_, rfl⟩
      have hB0l : B0.length = 12 := by rw [hB0, List.length_append, digs_length, digs_length]
      have hL3 : L = B0 ++ lkL a.locks := by rw [hL, hB0, ← digs4 (show U16 (a.locks.length : Int) from ⟨by omega, by omega⟩)]; simp only [List.append_assoc]
      rw [← hB0]
      clear hL hB0
      refine loop_up (fun x : Nat × Nat × Nat => x.1 ≤ a.locks.length)
        (fun x => ⟨tl 135 0 [(3, .ptr 3 2 0), (4, .nil), (5, .int .i64 0), (8, .ptr 44 (c1 + 1 + 1 + 1) 0), (111, .view false (.locks a.locks)), (112, .int .i64 a.locks.length), (113, .int .i64 x.1)], [(3, 2, .cells (a.cells false)), (44, c1 + 1 + 1 + 1, .cells [.sl 5020 x.2.1 0 1 0 (B0 ++ lkL (a.locks.take x.1)).length]),
          (5020, x.2.1, .vec (.ints .u8 (B0 ++ lkL (a.locks.take x.1))))], ⟨x.2.2, [], 0⟩⟩) (fun x => a.locks.length - x.1) (0, c1 + 60 + 1 + 1 + 1 + 12 + 1 + 1 + 2, _) (Nat.zero_le _) ⟨rfl, ?_, ?_⟩ ?_
      · simp [LeT, tl]
      · intro n x hx
        simpa [fnd, Ask.cells, lkL] using hx
      rintro ⟨i2, gk, c2⟩ hi2 ih
      simp only at hi2
      refine absRun_ok TO 100 _ _ ?_
      simp only [Ask.cells, pureOpC, cntC, unc, absRun, absOps, absOp, evO, constSV, ungd, gdP, gdPs, setD, binI, binV, ptrE, T_ty, T_size, T_zero, tTy, tSize, tZero, fieldOf, faddrV, iaddrV, pureOp, memOp, loadV, newV, notIn, scal, okC, cellAt, takeC, dropC, blkAt, fnd, upd, elemV, Data.len, Data.esz, Lim.add, retP, resV, retQ, rAs, rA, rA0, ownN, nodup, bares, bare, bare0, bareD, Op.operands, List.getD, List.getElem?_cons_zero, List.getElem?_cons_succ, Option.getD_some, List.set, List.map, List.toList_toArray, exitTo, true_and, and_true, and_self, if_true, if_false, eq_self, ne_eq, not_false_eq_true, reduceCtorEq, Bool.false_eq_true, Nat.zero_add, Nat.add_zero, Int.toNat_natCast, List.cons_append, List.nil_append, List.append_nil, Nat.reduceAdd, Nat.reduceSub, Nat.reduceEqDiff, Nat.reduceBEq, Nat.succ_ne_self, beq_self_eq_true, List.replicate_succ, List.replicate_zero, Bool.and_self, Data.ints.injEq, tl]
      by_cases hil : i2 < a.locks.length
      · rw [if_pos (decide_eq_true (by omega))]
        have wi : IntKind.i64.wrap ((i2 : Int) + 1) = ((i2 + 1 : Nat) : Int) := by rw [w64 (by omega) (by omega)]; omega
        have g1 : a.locks[i2]? = some (a.locks[i2]?.getD default) := by rw [List.getElem?_eq_getElem hil]; rfl
        have g2 : a.locks[i2]?.getD default ∈ a.locks := List.mem_of_getElem? g1
        have g3 : a.locks.take (i2 + 1) = a.locks.take i2 ++ [a.locks[i2]?.getD default] := by rw [List.take_add_one, g1]; rfl
        have gl := lkL_len (a.locks.take i2)
        rw [List.length_take] at gl
        have go := ha.locks _ g2
        refine ⟨by omega, ?_⟩
        generalize a.locks[i2]?.getD default = x at *
        obtain ⟨z1, z0, z2, z3, z4⟩ := go
        have o0 := z2.1
        have o1 := z2.2
        have o2 := z3.1
        have o3 := z3.2
        have o4 := z4.1
        have o5 := z4.2
        have wk2 : IntKind.u64.wrap x.mode = x.mode := wu64 (by omega) (by omega)
        have hl3 : B0 ++ lkL (a.locks.take i2) ++ digs 8 x.at_ ++ digs 8 x.n ++ digs 4 x.mode = B0 ++ lkL (a.locks.take (i2 + 1)) := by
          rw [g3, lkL_snoc, ← digs4 z4]; simp only [List.append_assoc]
        refine inC_ops TO 100 (fw_inC (n := 44) (m := 5020) (k := 8) (x := x.at_) (l := B0 ++ lkL (a.locks.take i2)) rfl rfl (by decide) (by decide) rfl (by simp only [List.length_append]; omega) rfl (by omega) (by omega) (by omega)) Tryd.func36 (by decide +kernel) rfl rfl rfl ⟨⟨rfl, rfl, by simp only [evO, constSV, gdP, gdPs, List.getD, List.getElem?_cons_zero, List.getElem?_cons_succ, Option.getD_some, and_self]⟩, ?_⟩
        simp only [wrU, pureOpC, unc, absRun, absOps, absOp, evO, ungd, gdP, gdPs, setD, T_ty, T_size, tTy, tSize, fieldOf, faddrV, pureOp, memOp, loadV, cellAt, blkAt, fnd, upd, del, Op.operands, List.getD, List.getElem?_cons_zero, List.getElem?_cons_succ, Option.getD_some, List.set, List.toList_toArray, true_and, and_self, if_true, if_false, eq_self, ne_eq, not_false_eq_true, reduceCtorEq, Nat.zero_add, Nat.reduceSub, Nat.reduceEqDiff, Nat.succ_ne_self]
        refine inC_ops TO 100 (fw_inC (n := 44) (m := 5020) (k := 8) (x := x.n) (l := B0 ++ lkL (a.locks.take i2) ++ digs 8 x.at_) rfl rfl (by decide) (by decide) rfl (by simp only [List.length_append, digs_length]; omega) rfl (by omega) (by omega) (by omega)) Tryd.func36 (by decide +kernel) rfl rfl rfl ⟨⟨rfl, rfl, by simp only [evO, constSV, gdP, gdPs, List.getD, List.getElem?_cons_zero, List.getElem?_cons_succ, Option.getD_some, and_self]⟩, ?_⟩
        simp only [wrU, wk2, pureOpC, unc, absRun, absOps, absOp, evO, ungd, gdP, gdPs, setD, convV, T_ty, T_size, tTy, tSize, fieldOf, faddrV, pureOp, memOp, loadV, known, cellAt, blkAt, fnd, upd, del, Op.operands, List.getD, List.getElem?_cons_zero, List.getElem?_cons_succ, Option.getD_some, List.set, List.toList_toArray, true_and, and_self, if_true, if_false, eq_self, ne_eq, not_false_eq_true, reduceCtorEq, Nat.zero_add, Nat.reduceSub, Nat.reduceEqDiff, Nat.succ_ne_self]
        refine inC_ops TO 100 (fw_inC (n := 44) (m := 5020) (k := 4) (x := x.mode) (l := B0 ++ lkL (a.locks.take i2) ++ digs 8 x.at_ ++ digs 8 x.n) rfl rfl (by decide) (by decide) rfl (by simp only [List.length_append, digs_length]; omega) rfl (by omega) (by omega) (by omega)) Tryd.func36 (by decide +kernel) rfl rfl rfl ⟨⟨rfl, rfl, by simp only [evO, constSV, gdP, gdPs, List.getD, List.getElem?_cons_zero, List.getElem?_cons_succ, Option.getD_some, and_self]⟩, ?_⟩
        rw [hl3]
        simp only [wrU, wi, pureOpC, unc, absRun, absOps, absOp, evO, constSV, ungd, gdP, gdPs, setD, binI, binV, ptrE, pureOp, upd, del, Op.operands, List.getD, List.getElem?_cons_zero, List.getElem?_cons_succ, Option.getD_some, List.set, List.toList_toArray, true_and, and_self, if_true, if_false, eq_self, Nat.reduceEqDiff]
        refine ih (i2 + 1, c2 + 34, _) _ hil (by simp only; omega) rfl ?_ ?_
        · simp [LeT, tl]
        · intro m x hx
          simp only [fnd, Ask.cells] at hx ⊢
          split at hx
          · rename_i e; subst e; simpa using hx
          split at hx
          · rename_i e; subst e; simpa using hx
          split at hx
          · rename_i e; subst e; simpa using hx
          cases hx
      · rw [if_neg (by rw [decide_eq_true_eq]; omega)]
        have htk : a.locks.take i2 = a.locks := List.take_of_length_le (by omega)
        rw [htk, ← hL3]
        first | exact ⟨⟨rfl, rfl⟩, rfl⟩ | exact ⟨⟨rfl, rfl⟩, rfl, rfl⟩ | simp only [and_self, eq_self]
    have d10 : (c == 10) = false := by simpa using c10
    rw [if_neg c10] at hL
    subst hL
    simp only [d5, d8, d9, d10, if_false, Bool.false_eq_true]
    refine nilC_ops 44 300 (c1 + 60) (.ints .u8 []) rfl ⟨⟨by simp only; omega, rfl, by decide⟩, ?_⟩
    simp only [upd, Data.esz, if_true, if_false, eq_self, Nat.reduceEqDiff]
    refine inC_ops TO 100 (fw_inC (n := 44) (m := 300) (k := 8) (x := a.file) (l := []) rfl rfl (by decide) (by decide) rfl (by simp) rfl (by omega) (by omega) (by omega)) Tryd.func36 (by decide +kernel) rfl rfl rfl ⟨⟨rfl, rfl, by simp only [evO, constSV, gdP, gdPs, List.getD, List.getElem?_cons_zero, List.getElem?_cons_succ, Option.getD_some, and_self]⟩, ?_⟩
    simp only [wrU, pureOpC, unc, absRun, absOps, absOp, evO, constSV, ungd, gdP, gdPs, setD, T_ty, T_size, tTy, tSize, fieldOf, faddrV, pureOp, loadV, notIn, cellAt, blkAt, fnd, upd, del, Data.len, Data.esz, retP, resV, retQ, rAs, rA, rA0, ownN, nodup, bares, bare, bare0, bareD, Op.operands, List.getD, List.getElem?_cons_zero, List.getElem?_cons_succ, Option.getD_some, List.set, List.map, List.toList_toArray, and_self, if_true, if_false, eq_self, ne_eq, not_false_eq_true, Nat.add_zero, List.nil_append, Nat.reduceEqDiff, Nat.succ_ne_self, Bool.and_self]

end Go.Proofs.YtakgefinmlomdaaDoor.Abs
