/- What info's PutSay answers. -/
import Derived.Test.YtgipkhjpedpedaaDoorK0
import Derived.Test.YtgipkhjpedpedaaDoorK1
set_option linter.unusedVariables false
set_option linter.unusedSimpArgs false
set_option maxRecDepth 100000
namespace Go.Proofs.YtgipkhjpedpedaaDoor.Abs
open Go Go.Proofs

theorem InC.agg {P : Program} {X : Ctx} {f : FuncId} {args : List SV} {b b' : List (Nat × Nat × Blk)} {c0 c1 : Nat} {l m : List SV} (h : InC P X f args b c0 (.agg l) b' c1) (hr : rAl ⟨[], b', ⟨c1, [], 0⟩⟩ l m) : InC P X f args b c0 (.agg m) b' c1 := by
  intro σ w vals hR
  refine (h σ w vals hR).mono ?_
  rintro e w' ⟨v, σ', rfl, ⟨cs, e2, hc⟩, hR', hT⟩
  exact ⟨v, σ', rfl, ⟨cs, e2, rAl_ok (s := ⟨[], b', ⟨c1, [], 0⟩⟩) hr hc⟩, hR', hT⟩

theorem isaid2_inC {X : Ctx} {b0 : List (Nat × Nat × Blk)} {c0 : Nat} (c : Int) (s : Say) (h3 : fnd b0 5003 = none) (h4 : fnd b0 5004 = none) :
    InC Tryd.prog X 56 [.int .u16 c, s.sv false] b0 c0 ((isW c s).sv false) b0 (c0 + 8) := by
  refine (isaid_inC c s h3 h4).agg ?_
  unfold isWc isW
  repeat' split
  all_goals simp [rAl, rA0, Say.cells, sayZ, Data.len, List.replicate]

set_option maxHeartbeats 4000000 in
theorem imay_meets (s : Say) (hl : s.entries.length ≤ 1000000000) : Meets Tryd.prog 57 [.v (s.sv false)] [.v (.bool (mayB s.entries && decide (s.kind ≤ 2)))] := by
  refine meets_go TO 100 Tryd.func57 rfl (fun X => ?_)
  simp only [Tryd.ntmps57, Tryd.results57, Say.sv, Say.cells, pureOpC, unc, svs, blks, AV.sv, absRun, absOps, absOp, evO, constSV, ungd, gdP, gdPs, setD, T_ty, T_size, tTy, tSize, fieldOf, faddrV, pureOp, memOp, lenV, loadV, newV, notIn, cellsOf, cellAt, blkAt, fnd, upd, Data.len, Lim.add, Op.operands, Call.operands, List.getD, List.getElem?_cons_zero, List.getElem?_cons_succ, Option.getD_some, List.set, List.toList_toArray, true_and, and_self, if_true, if_false, eq_self, ne_eq, not_false_eq_true, reduceCtorEq, Nat.zero_add, List.append_toArray, List.cons_append, List.nil_append, List.length_cons, List.length_nil, Nat.reduceAdd, Nat.reduceSub, Nat.reduceLT, Nat.succ_ne_self, List.replicate_succ, List.replicate_zero]
  refine loop_up (fun x : Nat × Nat => x.1 ≤ s.entries.length ∧ mayB s.entries = mayB (s.entries.drop x.1))
    (fun x => ⟨tl 32 0 [(1, .ptr 1 2 0), (2, .bool false), (6, .view false (.ents s.entries)), (7, .int .i64 s.entries.length), (8, .int .i64 x.1)], [(1, 2, .cells (s.cells false))], ⟨x.2, [], 0⟩⟩) (fun x => s.entries.length - x.1) (0, _) ⟨Nat.zero_le _, rfl⟩ ⟨rfl, ?_, ?_⟩ ?_
  · simp [LeT, tl]
  · intro n x hx
    simpa [fnd, Say.cells] using hx
  rintro ⟨i, c⟩ ⟨hi, hall⟩ ih
  simp only at hi hall
  refine absRun_ok TO 100 _ _ ?_
  simp only [Say.cells, pureOpC, cntC, unc, absRun, absOps, absOp, evO, constSV, ungd, gdP, gdPs, setD, binI, binV, ptrE, T_ty, T_size, T_zero, tTy, tSize, tZero, fieldOf, faddrV, iaddrV, pickV, pureOp, guardOf, memOp, loadV, newV, notIn, scal, okC, cellAt, takeC, dropC, blkAt, fnd, upd, elemV, Data.len, Data.esz, Lim.add, retP, resV, retQ, rAs, rA, rA0, ownN, nodup, bares, bare, bare0, Op.operands, List.getD, List.getElem?_cons_zero, List.getElem?_cons_succ, Option.getD_some, List.set, List.map, List.toList_toArray, List.getElem?_toArray, Option.bind_some, exitTo, true_and, and_true, and_self, implies_true, imp_self, if_true, if_false, eq_self, ne_eq, not_false_eq_true, reduceCtorEq, Nat.zero_add, Nat.add_zero, Int.toNat_natCast, Bool.cond_true_left, List.cons_append, List.nil_append, List.append_nil, Nat.reduceAdd, Nat.reduceSub, Nat.reduceEqDiff, Nat.reduceLT, Nat.succ_ne_self, beq_self_eq_true, List.replicate_succ, List.replicate_zero, Bool.and_self, tl, gt_iff_lt]
  by_cases hil : i < s.entries.length
  rotate_left
  · rw [if_neg (by rw [decide_eq_true_eq]; omega)]
    have e : mayB s.entries = true := by rw [hall, List.drop_eq_nil_of_le (by omega)]; rfl
    simp only [e, eq_self, Bool.true_and]
  rw [if_pos (decide_eq_true (by omega))]
  have wi : IntKind.i64.wrap ((i : Int) + 1) = ((i + 1 : Nat) : Int) := by rw [w64 (by omega) (by omega)]; omega
  have g1 : s.entries[i]? = some (s.entries[i]?.getD default) := by rw [List.getElem?_eq_getElem hil]; rfl
  have g2 : s.entries.drop i = (s.entries[i]?.getD default) :: s.entries.drop (i + 1) := by
    rw [List.drop_eq_getElem_cons hil, List.getElem?_eq_getElem hil]; rfl
  rw [g2] at hall
  simp only [wi]
  refine ⟨by omega, ?_⟩
  generalize s.entries[i]?.getD default = x at *
  have hm : mayB (x :: s.entries.drop (i + 1)) = ((decide (x.kind ≤ 2) && decide (0 ≤ x.size) && decide (x.size ≤ 1048576)) && mayB (s.entries.drop (i + 1))) := rfl
  rw [hm] at hall
  refine ite_both (fun hb => ?_) (fun hb => ?_)
  · have e : mayB s.entries = false := by
      rw [hall]
      simp only [Bool.or_eq_true, decide_eq_true_eq] at hb
      rw [Bool.and_eq_false_iff]
      left
      rw [Bool.and_eq_false_iff, Bool.and_eq_false_iff, decide_eq_false_iff_not, decide_eq_false_iff_not, decide_eq_false_iff_not]
      omega
    simp only [e, eq_self, Bool.false_and]
  · have e : (decide (x.kind ≤ 2) && decide (0 ≤ x.size) && decide (x.size ≤ 1048576)) = true := by
      simp only [Bool.or_eq_true, decide_eq_true_eq, not_or] at hb
      simp only [Bool.and_eq_true, decide_eq_true_eq]
      omega
    rw [e, Bool.true_and] at hall
    refine ih (i + 1, _) _ ⟨hil, hall⟩ (by simp only; omega) rfl ?_ ?_
    · simp [LeT, tl]
    · intro n x hx
      simp only [fnd, Say.cells] at hx ⊢
      split at hx
      · rename_i e; subst e; simpa using hx
      cases hx

set_option maxHeartbeats 8000000 in
theorem iPutSay_meets (c : Int) (s : Say) (hc : 0 ≤ c) (ha : s.ok) (hs : s.small 1048576) : Meets Tryd.prog 24 [.v (.int .u16 c), .v (s.sv false)] [.own (.ints .u8 (isL c s)), .v (.int .i64 (isE c s))] := by
  have hK := ik_meets c hc
  have hlen := hs.entries
  have hnm := hs.names
  have hdz : (isW c s).data.length ≤ 1000000000 := by
    unfold isW; repeat' split
    all_goals simp [sayZ]
  have hS := isameSay_meets (isW c s) s hdz (by have := hs.data; omega)
  rw [isame_say] at hS
  have hM := imay_meets s (by omega)
  have hE := isE_eq c s
  have hL := isL_eq c s
  have hmx := mayB_iff s.entries
  have hsaid := fun X b0 c0 => isaid2_inC (X := X) (b0 := b0) (c0 := c0) c s
  generalize hsw : decide (isW c s = s) = sw at *
  generalize isW c s = w at *
  generalize mayB s.entries = mb at *
  generalize isE c s = E at *
  generalize isL c s = L at *
  simp only [Say.sv, Say.cells] at hS hM hsaid
  have bad : E = 2 → L = [] := fun h => by rw [hL, if_pos (by rw [h]; decide)]
  refine meets_go TO 100 Tryd.func24 rfl (fun X => ?_)
  simp only [Tryd.ntmps24, Tryd.results24, Say.sv, Say.cells, pureOpC, unc, svs, blks, AV.sv, absRun, absOps, absOp, evO, constSV, ungd, gdP, gdPs, setD, pureOp, memOp, newV, notIn, cellsOf, upd, Lim.add, Op.operands, List.getD, List.getElem?_cons_zero, List.getElem?_cons_succ, Option.getD_some, List.set, List.toList_toArray, true_and, and_self, Nat.zero_add, List.cons_append, List.nil_append, List.length_cons, List.length_nil, Nat.reduceAdd, Nat.reduceSub, List.replicate_succ, List.replicate_zero]
  refine draw_go TO 20 100 mixed_ok (by decide +kernel) ?_
  simp only [List.take_succ_cons, List.take_zero, List.drop_succ_cons, List.drop_zero, pureOpC, buildV, fillC, gloadV, GT, unc, isEff, absD, pureStep, absRun, absOps, absOp, evO, constSV, ungd, gdP, gdPs, setD, binI, binV, ptrE, convV, binS, T_ty, T_size, T_zero, tTy, tSize, tZero, fieldOf, faddrV, pureOp, memOp, lenV, loadV, newV, notIn, scal, cellsOf, isB, isA, known, blkAt, elemV, Data.len, Data.esz, Lim.add, retP, resV, retQ, rAs, rA, rA0, bares, bare, bare0, bareD, Op.operands, Call.operands, List.getD, List.getElem?_cons_zero, List.getElem?_cons_succ, Option.getD_some, List.set, List.map, List.all, List.toList_toArray, Option.isSome, true_and, and_true, and_false, and_self, implies_true, imp_self, eq_self, ne_eq, not_false_eq_true, forall_const, reduceCtorEq, List.append_toArray, List.nil_append, Nat.reduceAdd, Nat.succ_ne_self, Bool.and_self, gt_iff_lt, Nat.reduceBNe]
  refine callD_go TO (fun s' h' => HOps_go TO 100 h') hK Tryd.func29 (by decide +kernel) rfl rfl rfl ?_
  by_cases hk : (!ikB c || c == 12) = true
  · have hE2 : E = 2 := by rw [hE, if_pos]; simp only [Bool.or_eq_true] at hk ⊢; exact .inl (.inl hk)
    rw [hE2, bad hE2]
    simp only [hk, pureOpC, unc, isEff, absD, pureStep, subB, absOp, evO, constSV, ungd, gdP, gdPs, setD, binI, binV, ptrE, unV, T_ty, T_size, tTy, tSize, pickV, pureOp, guardOf, loadV, takeC, dropC, blkAt, fnd, ownN, nodup, bares, bare, bare0, guardIs, callP, callS, argS, mAs, mA, mA0, mB0, allNotIn, impN, impB, impT, packS, delL, Op.operands, List.getD, List.getElem?_cons_zero, List.getElem?_cons_succ, Option.getD_some, List.set, List.map, List.toList_toArray, List.getElem?_toArray, Option.bind_some, Option.map_some, true_and, and_self, implies_true, imp_self, if_true, eq_self, ne_eq, not_false_eq_true, reduceCtorEq, Bool.false_eq_true, Bool.cond_true_left, List.append_nil, Nat.reduceAdd, Nat.reduceSub, Nat.reduceLeDiff, Bool.not_true, Bool.and_self]
    refine skipD_go TO (.bool false) (fun s' h' => HOps_go TO 100 h') rfl ?_
    simp only [pureOpC, unc, isEff, absD, pureStep, subB, absOp, evO, ungd, gdP, gdPs, setD, T_ty, T_size, tTy, tSize, pureOp, guardOf, loadV, takeC, dropC, blkAt, fnd, guardIs, Op.operands, List.getD, List.getElem?_cons_zero, List.getElem?_cons_succ, Option.getD_some, List.set, List.toList_toArray, List.getElem?_toArray, Option.bind_some, Option.map_some, true_and, and_self, implies_true, if_true, eq_self, ne_eq, not_false_eq_true, reduceCtorEq, Bool.false_eq_true, Nat.reduceAdd, Nat.reduceSub, Nat.reduceLeDiff, Bool.not_true]
    refine skipD_go TO (.bool false) (fun s' h' => HOps_go TO 100 h') rfl ?_
    simp only [pureOpC, unc, isEff, absD, pureStep, subB, absOp, evO, constSV, ungd, gdP, gdPs, setD, unV, T_ty, T_size, tTy, tSize, pickV, pureOp, guardOf, loadV, takeC, dropC, blkAt, fnd, guardIs, Op.operands, List.getD, List.getElem?_cons_zero, List.getElem?_cons_succ, Option.getD_some, List.set, List.toList_toArray, List.getElem?_toArray, Option.bind_some, Option.map_some, true_and, and_self, implies_true, imp_self, if_true, eq_self, ne_eq, not_false_eq_true, reduceCtorEq, Bool.false_eq_true, Bool.cond_true, Nat.reduceAdd, Nat.reduceSub, Nat.reduceLeDiff, Bool.not_true, Bool.not_false]
    refine skipD_go TO (.bool false) (fun s' h' => HOps_go TO 100 h') rfl ?_
    simp only [pureOpC, buildV, fillC, unc, isEff, absD, pureStep, subB, absRun, absOps, absOp, evO, constSV, ungd, gdP, gdPs, setD, binI, binV, ptrE, unV, convV, T_ty, T_size, T_zero, tTy, tSize, tZero, fieldOf, faddrV, pickV, pureOp, guardOf, memOp, lenV, loadV, newV, notIn, cellsOf, known, cellAt, blkAt, fnd, upd, Data.len, Lim.add, retP, resV, retQ, rAs, rA, rA0, ownN, nodup, bares, bare, bare0, bareD, guardIs, Op.operands, Call.operands, List.getD, List.getElem?_cons_zero, List.getElem?_cons_succ, Option.getD_some, List.set, List.map, List.all, List.toList_toArray, List.getElem?_toArray, Option.bind_some, true_and, and_true, and_false, and_self, implies_true, imp_self, if_true, if_false, eq_self, ne_eq, not_false_eq_true, reduceCtorEq, Bool.false_eq_true, Nat.zero_add, Bool.cond_true, List.append_toArray, List.nil_append, List.length_nil, Nat.reduceAdd, Nat.reduceSub, Nat.reduceEqDiff, Nat.reduceLT, Nat.succ_ne_self, Bool.not_true, Bool.not_false, Bool.and_self, Int.reduceEq, gt_iff_lt, Nat.reduceBNe]
  have hk' : (!ikB c || c == 12) = false := by simpa using hk
  simp only [hk', pureOpC, unc, isEff, absD, pureStep, subB, absOp, evO, constSV, ungd, gdP, gdPs, setD, binI, binV, ptrE, unV, T_ty, T_size, tTy, tSize, pickV, pureOp, guardOf, loadV, takeC, dropC, blkAt, fnd, ownN, nodup, bares, bare, bare0, guardIs, callP, callS, argS, mAs, mA, mA0, mB0, allNotIn, impN, impB, impT, packS, delL, Op.operands, List.getD, List.getElem?_cons_zero, List.getElem?_cons_succ, Option.getD_some, List.set, List.map, List.toList_toArray, List.getElem?_toArray, Option.bind_some, Option.map_some, true_and, and_self, implies_true, imp_self, if_true, eq_self, ne_eq, not_false_eq_true, reduceCtorEq, Bool.cond_true_left, List.append_nil, Nat.reduceAdd, Nat.reduceSub, Nat.reduceLeDiff, Bool.not_false, Bool.and_self]
  refine inCD_go TO (fun s' h' => HOps_go TO 100 h') (hsaid X _ _ rfl rfl) Tryd.func56 (by decide +kernel) rfl rfl rfl ?_
  simp only [pureOpC, unc, isEff, absD, pureStep, subB, absOp, evO, ungd, gdP, gdPs, setD, T_ty, T_size, tTy, tSize, pureOp, guardOf, loadV, takeC, dropC, blkAt, fnd, guardIs, argC, Op.operands, List.getD, List.getElem?_cons_zero, List.getElem?_cons_succ, Option.getD_some, List.set, List.map, List.toList_toArray, List.getElem?_toArray, Option.bind_some, Option.map_some, true_and, and_self, implies_true, if_true, eq_self, ne_eq, not_false_eq_true, reduceCtorEq, Nat.reduceAdd, Nat.reduceSub, Nat.reduceLeDiff, Bool.not_false]
  refine callD_go TO (fun s' h' => HOps_go TO 100 h') hS Tryd.func55 (by decide +kernel) rfl rfl rfl ?_
  cases hsv : sw with
  | false =>
    have hE2 : E = 2 := by rw [hE, if_pos]; rw [hsv]; simp
    rw [hE2, bad hE2]
    simp only [pureOpC, unc, isEff, absD, pureStep, subB, absOp, evO, constSV, ungd, gdP, gdPs, setD, unV, T_ty, T_size, tTy, tSize, pickV, pureOp, guardOf, loadV, takeC, dropC, blkAt, fnd, ownN, nodup, bares, bare, bare0, guardIs, callP, callS, argS, mAs, mA, mA0, mB0, mAl, lowD, allNotIn, impN, impB, impT, packS, delL, Op.operands, List.getD, List.getElem?_cons_zero, List.getElem?_cons_succ, Option.getD_some, List.set, List.map, List.toList_toArray, List.getElem?_toArray, Option.bind_some, Option.map_some, true_and, and_self, implies_true, if_true, eq_self, ne_eq, not_false_eq_true, reduceCtorEq, Bool.false_eq_true, Bool.cond_false, List.append_nil, Nat.reduceAdd, Nat.reduceSub, Nat.reduceLeDiff, Bool.not_true, Bool.not_false, Bool.and_self]
    refine skipD_go TO (.bool false) (fun s' h' => HOps_go TO 100 h') rfl ?_
    simp only [pureOpC, buildV, fillC, unc, isEff, absD, pureStep, subB, absRun, absOps, absOp, evO, constSV, ungd, gdP, gdPs, setD, binI, binV, ptrE, unV, convV, T_ty, T_size, T_zero, tTy, tSize, tZero, fieldOf, faddrV, pickV, pureOp, guardOf, memOp, lenV, loadV, newV, notIn, cellsOf, known, cellAt, blkAt, fnd, upd, Data.len, Lim.add, retP, resV, retQ, rAs, rA, rA0, ownN, nodup, bares, bare, bare0, bareD, guardIs, Op.operands, Call.operands, List.getD, List.getElem?_cons_zero, List.getElem?_cons_succ, Option.getD_some, List.set, List.map, List.all, List.toList_toArray, List.getElem?_toArray, Option.bind_some, true_and, and_true, and_false, and_self, implies_true, imp_self, if_true, if_false, eq_self, ne_eq, not_false_eq_true, reduceCtorEq, Bool.false_eq_true, Nat.zero_add, Bool.cond_true, List.append_toArray, List.nil_append, List.length_nil, Nat.reduceAdd, Nat.reduceSub, Nat.reduceEqDiff, Nat.reduceLT, Nat.succ_ne_self, Bool.not_true, Bool.not_false, Bool.and_self, Int.reduceEq, gt_iff_lt, Nat.reduceBNe]
  | true =>
  simp only [pureOpC, unc, isEff, absD, pureStep, subB, absOp, evO, constSV, ungd, gdP, gdPs, setD, unV, T_ty, T_size, tTy, tSize, pickV, pureOp, guardOf, loadV, takeC, dropC, blkAt, fnd, ownN, nodup, bares, bare, bare0, guardIs, callP, callS, argS, mAs, mA, mA0, mB0, mAl, lowD, allNotIn, impN, impB, impT, packS, delL, Op.operands, List.getD, List.getElem?_cons_zero, List.getElem?_cons_succ, Option.getD_some, List.set, List.map, List.toList_toArray, List.getElem?_toArray, Option.bind_some, Option.map_some, true_and, and_self, implies_true, if_true, eq_self, ne_eq, not_false_eq_true, reduceCtorEq, Bool.cond_false, List.append_nil, Nat.reduceAdd, Nat.reduceSub, Nat.reduceLeDiff, Bool.not_true, Bool.not_false, Bool.and_self]
  refine callD_go TO (fun s' h' => HOps_go TO 100 h') hM Tryd.func57 (by decide +kernel) rfl rfl rfl ?_
  simp only [pureOpC, buildV, fillC, unc, isEff, absD, pureStep, subB, absRun, absOps, absOp, evO, constSV, ungd, gdP, gdPs, setD, binI, binV, ptrE, unV, convV, T_ty, T_size, T_zero, tTy, tSize, tZero, fieldOf, faddrV, pickV, pureOp, guardOf, memOp, lenV, loadV, newV, notIn, cellsOf, known, cellAt, blkAt, fnd, upd, Data.len, Lim.add, retP, resV, retQ, rAs, rA, rA0, ownN, nodup, bares, bare, bare0, bareD, guardIs, callP, callS, argS, mAs, mA, mA0, mB0, mAl, lowD, allNotIn, impN, impB, impT, packS, delL, Op.operands, Call.operands, List.getD, List.getElem?_cons_zero, List.getElem?_cons_succ, Option.getD_some, List.set, List.map, List.all, List.toList_toArray, List.getElem?_toArray, Option.bind_some, true_and, and_true, and_self, implies_true, if_true, if_false, eq_self, ne_eq, not_false_eq_true, reduceCtorEq, Nat.zero_add, Bool.cond_false, List.append_toArray, List.nil_append, List.append_nil, Nat.reduceAdd, Nat.reduceSub, Nat.reduceEqDiff, Nat.reduceLT, Nat.succ_ne_self, Bool.not_false, Bool.and_self, gt_iff_lt, Nat.reduceBNe]
  refine ite_both (fun hb => ?_) (fun hb => ?_)
  · have hE2 : E = 2 := by
      rw [hE, if_pos]; rw [Bool.or_eq_true]; exact .inr hb
    rw [hE2, bad hE2]
    exact ⟨rfl, rfl⟩
  have hb' : (!(mb && decide (s.kind ≤ 2))) = false := by simpa using hb
  have hE1 : E = if 64 < s.entries.length then 3 else if c = 14 then namesE s.entries else 0 := by
    rw [hE, if_neg]
    rw [hb', hk', hsv]; decide
  refine ite_both (fun h64 => ?_) (fun h64 => ?_)
  · have hE2 : E = 3 := by rw [hE1, if_pos (by simp at h64; omega)]
    have hL2 : L = [] := by rw [hL, if_pos (by rw [hE2]; decide)]
    rw [hE2, hL2]
    exact ⟨rfl, rfl⟩
  have h64' : s.entries.length ≤ 64 := by simp at h64; omega
  rw [if_neg (by omega)] at hE1
  have hmb : ∀ x ∈ s.entries, mayX x := hmx.1 (by
    rw [Bool.not_eq_false', Bool.and_eq_true] at hb'
    exact hb'.1)
  clear hE hmx hsaid hS hM hK bad hsw hsv hb hk h64
  have k0 := ha.kind.1
  have k1 := ha.kind.2
  have z0 := ha.size.1
  have z1 := ha.size.2
  have f0 := ha.file.1
  have f1 := ha.file.2
  have l0 := ha.level.1
  have l1 := ha.level.2
  have wz : IntKind.u64.wrap (s.entries.length : Int) = s.entries.length := wu64 (by omega) (by omega)
  have wk : IntKind.u64.wrap s.kind = s.kind := wu64 (by omega) (by omega)
  have wl : IntKind.u64.wrap s.level = s.level := wu64 (by omega) (by omega)
  by_cases c14 : c = 14
  · subst c14
    rw [if_pos rfl] at hE1
    rw [if_pos rfl] at hL
    simp only [if_true, if_false, eq_self, Bool.false_eq_true, Int.reduceBEq, beq_self_eq_true]
    refine nilC_ops 36 300 60 (.ints .u8 []) rfl ⟨⟨by simp, rfl, by decide⟩, ?_⟩
    simp only [wz, upd, Data.esz, if_true, if_false, eq_self, Nat.reduceAdd, Nat.reduceEqDiff]
    refine inC_ops TO 100 (wn_inC (n := 36) (m := 300) (k := 2) (x := s.entries.length) (l := []) rfl rfl (by decide) (by decide) rfl (by first | (simp; done) | (simp only [List.length_append, digs_length]; omega)) rfl (by omega) (by omega) (by omega)) Tryd.func32 (by decide +kernel) rfl rfl rfl ⟨⟨rfl, rfl, by simp only [evO, constSV, gdP, gdPs, List.getD, List.getElem?_cons_zero, List.getElem?_cons_succ, Option.getD_some, and_self]⟩, ?_⟩
    simp only [wrU, pureOpC, unc, absRun, absOps, absOp, evO, ungd, gdP, gdPs, setD, T_ty, T_size, tTy, tSize, fieldOf, faddrV, pureOp, memOp, loadV, cellAt, blkAt, fnd, upd, del, Op.operands, List.getD, List.getElem?_cons_zero, List.getElem?_cons_succ, Option.getD_some, List.set, List.toList_toArray, true_and, and_self, if_true, if_false, eq_self, ne_eq, not_false_eq_true, reduceCtorEq, Nat.zero_add, List.nil_append, Nat.reduceAdd, Nat.reduceSub, Nat.reduceEqDiff, Nat.reduceLT, Nat.succ_ne_self]
    refine inC_ops TO 100 (wt_inC (n := 36) (m := 5020) (on := s.more) (l := digs 2 s.entries.length) rfl rfl (by decide) (by decide) rfl (by simp only [digs_length]; omega)) Tryd.func34 (by decide +kernel) rfl rfl rfl ⟨⟨rfl, rfl, by simp only [evO, constSV, gdP, gdPs, List.getD, List.getElem?_cons_zero, List.getElem?_cons_succ, Option.getD_some, and_self]⟩, ?_⟩
    simp only [wrU, pureOpC, unc, absRun, absOps, absOp, evO, constSV, ungd, gdP, gdPs, setD, T_ty, T_size, tTy, tSize, fieldOf, faddrV, pureOp, lenV, loadV, cellAt, blkAt, fnd, upd, del, Data.len, Op.operands, Call.operands, List.getD, List.getElem?_cons_zero, List.getElem?_cons_succ, Option.getD_some, List.set, List.toList_toArray, true_and, and_self, if_true, if_false, eq_self, ne_eq, not_false_eq_true, reduceCtorEq, Nat.zero_add, List.append_toArray, List.nil_append, Nat.reduceAdd, Nat.reduceSub, Nat.reduceEqDiff, Nat.reduceLT, Nat.succ_ne_self]
    obtain ⟨B0, hB0⟩ : ∃ B0, B0 = digs 2 (s.entries.length : Int) ++ digs 2 (onV s.more) := ⟨_, rfl⟩
    have hB0l : B0.length = 4 := by rw [hB0, List.length_append, digs_length, digs_length]
    rw [← hB0]
    rw [← List.append_assoc, ← hB0] at hL
    refine loop_up (fun x : Nat × Nat × Nat => x.1 ≤ s.entries.length)
      (fun x => ⟨tl 107 0 [(3, .ptr 3 2 0), (4, .nil), (5, .int .i64 0), (6, .ptr 36 14 0), (53, .view false (.ents s.entries)), (54, .int .i64 s.entries.length), (55, .int .i64 x.1)], [(3, 2, .cells (s.cells false)), (36, 14, .cells [.sl 5020 x.2.1 0 1 0 (B0 ++ entL (s.entries.take x.1)).length, .int .i64 (namesE (s.entries.take x.1))]),
        (5020, x.2.1, .vec (.ints .u8 (B0 ++ entL (s.entries.take x.1))))], ⟨x.2.2, [], 0⟩⟩) (fun x => s.entries.length - x.1) (0, 82, _) (Nat.zero_le _) ⟨rfl, ?_, ?_⟩ ?_
    · simp [LeT, tl]
    · intro n x hx
      simpa [fnd, Say.cells, entL, namesE] using hx
    rintro ⟨i, gk, c⟩ hi ih
    simp only at hi
    refine absRun_ok TO 100 _ _ ?_
    simp only [Say.cells, pureOpC, cntC, unc, absRun, absOps, absOp, evO, ungd, gdP, gdPs, setD, binI, binV, ptrE, convV, T_ty, T_size, T_zero, tTy, tSize, tZero, fieldOf, faddrV, iaddrV, pureOp, memOp, loadV, newV, notIn, scal, okC, known, cellAt, takeC, dropC, blkAt, fnd, upd, elemV, Data.len, Data.esz, Lim.add, Op.operands, List.getD, List.getElem?_cons_zero, List.getElem?_cons_succ, Option.getD_some, List.set, List.toList_toArray, exitTo, true_and, and_self, if_true, if_false, eq_self, ne_eq, not_false_eq_true, reduceCtorEq, Bool.false_eq_true, Nat.zero_add, Nat.add_zero, Int.toNat_natCast, List.cons_append, List.nil_append, List.append_nil, Nat.reduceAdd, Nat.reduceSub, Nat.reduceEqDiff, Nat.reduceBEq, Nat.succ_ne_self, beq_self_eq_true, List.replicate_succ, List.replicate_zero, Bool.and_self, tl]
    by_cases hil : i < s.entries.length
    · rw [if_pos (decide_eq_true (by omega))]
      have wi : IntKind.i64.wrap ((i : Int) + 1) = ((i + 1 : Nat) : Int) := by rw [w64 (by omega) (by omega)]; omega
      have g1 : s.entries[i]? = some (s.entries[i]?.getD default) := by rw [List.getElem?_eq_getElem hil]; rfl
      have g2 : s.entries[i]?.getD default ∈ s.entries := List.mem_of_getElem? g1
      have g3 : s.entries.take (i + 1) = s.entries.take i ++ [s.entries[i]?.getD default] := by rw [List.take_add_one, g1]; rfl
      have gl := entL_len (s.entries.take i)
      rw [List.length_take] at gl
      have gm := hmb _ g2
      have go := ha.entries _ g2
      have gs := hnm _ g2
      refine ⟨by omega, ?_⟩
      generalize s.entries[i]?.getD default = x at *
      obtain ⟨m1, m2, m3⟩ := gm
      have o0 := go.1.1
      have o1 := go.1.2
      have wk2 : IntKind.u64.wrap x.kind = x.kind := wu64 (by omega) (by omega)
      have ws2 : IntKind.u64.wrap x.size = x.size := wu64 (by omega) (by omega)
      have hl3 : B0 ++ entL (s.entries.take i) ++ digs 4 x.kind ++ digs 8 x.size ++ ptL x.name = B0 ++ entL (s.entries.take (i + 1)) := by
        rw [g3, entL_snoc, ← digs4 (show U16 x.kind from ⟨by omega, by omega⟩)]; simp only [List.append_assoc]
      have hne : txE (namesE (s.entries.take i)) x.name = namesE (s.entries.take (i + 1)) := by rw [g3, namesE_snoc]
      simp only [wk2]
      refine inC_ops TO 100 (wn_inC (n := 36) (m := 5020) (k := 4) (x := x.kind) (l := B0 ++ entL (s.entries.take i)) rfl rfl (by decide) (by decide) rfl (by first | (simp; done) | (simp only [List.length_append]; omega)) rfl (by omega) (by omega) (by omega)) Tryd.func32 (by decide +kernel) rfl rfl rfl ⟨⟨rfl, rfl, by simp only [evO, constSV, gdP, gdPs, List.getD, List.getElem?_cons_zero, List.getElem?_cons_succ, Option.getD_some, and_self]⟩, ?_⟩
      simp only [wrU, ws2, pureOpC, unc, absRun, absOps, absOp, evO, ungd, gdP, gdPs, setD, convV, T_ty, T_size, tTy, tSize, fieldOf, faddrV, pureOp, memOp, loadV, known, cellAt, blkAt, fnd, upd, del, Op.operands, List.getD, List.getElem?_cons_zero, List.getElem?_cons_succ, Option.getD_some, List.set, List.toList_toArray, true_and, and_self, if_true, if_false, eq_self, ne_eq, not_false_eq_true, reduceCtorEq, Nat.zero_add, Nat.reduceAdd, Nat.reduceSub, Nat.reduceEqDiff, Nat.succ_ne_self]
      refine inC_ops TO 100 (wn_inC (n := 36) (m := 5020) (k := 8) (x := x.size) (l := B0 ++ entL (s.entries.take i) ++ digs 4 x.kind) rfl rfl (by decide) (by decide) rfl (by first | (simp; done) | (simp only [List.length_append, digs_length]; omega)) rfl (by omega) (by omega) (by omega)) Tryd.func32 (by decide +kernel) rfl rfl rfl ⟨⟨rfl, rfl, by simp only [evO, constSV, gdP, gdPs, List.getD, List.getElem?_cons_zero, List.getElem?_cons_succ, Option.getD_some, and_self]⟩, ?_⟩
      simp only [wrU, pureOpC, unc, absRun, absOps, absOp, evO, ungd, gdP, gdPs, setD, T_ty, T_size, tTy, tSize, fieldOf, faddrV, pureOp, memOp, loadV, newV, notIn, elemsOf, strsOf, cellAt, blkAt, fnd, upd, del, Lim.add, Op.operands, List.getD, List.getElem?_cons_zero, List.getElem?_cons_succ, Option.getD_some, List.set, List.map, List.toList_toArray, Option.map_some, true_and, and_self, if_true, if_false, eq_self, ne_eq, not_false_eq_true, Nat.zero_add, Nat.add_zero, List.length_cons, List.length_nil, Nat.reduceSub, Nat.reduceEqDiff, Nat.reduceLeDiff, Nat.succ_ne_self]
      refine inC_ops TO 100 (ws1_inC (n := 36) (m := 5020) (p := 74) (l := B0 ++ entL (s.entries.take i) ++ digs 4 x.kind ++ digs 8 x.size) (a1 := x.name) rfl rfl rfl (by decide) (by decide) (by decide) (by decide) (by decide) rfl rfl (by simp only [List.length_append, digs_length]; omega) gs) Tryd.func33 (by decide +kernel) rfl rfl rfl ⟨⟨rfl, rfl, by simp only [evO, gdP, gdPs, List.getD, List.getElem?_cons_zero, List.getElem?_cons_succ, Option.getD_some, and_self]⟩, ?_⟩
      rw [hl3, hne]
      simp only [wrU, wi, pureOpC, unc, absRun, absOps, absOp, evO, constSV, ungd, gdP, gdPs, setD, binI, binV, ptrE, pureOp, upd, del, Op.operands, List.getD, List.getElem?_cons_zero, List.getElem?_cons_succ, Option.getD_some, List.set, List.toList_toArray, true_and, and_self, if_true, if_false, eq_self, Nat.reduceEqDiff]
      refine ih (i + 1, c + 53, _) _ hil (by simp only; omega) rfl ?_ ?_
      · simp [LeT, tl]
      · intro m x hx
        simp only [fnd, Say.cells] at hx ⊢
        split at hx
        · rename_i e; subst e; simpa using hx
        split at hx
        · rename_i e; subst e; simpa using hx
        split at hx
        · rename_i e; subst e; simpa using hx
        cases hx
    · rw [if_neg (by rw [decide_eq_true_eq]; omega)]
      have htk : s.entries.take i = s.entries := List.take_of_length_le (by omega)
      rw [htk, ← hE1]
      clear ih hE1
      by_cases hE0 : E = 0
      · subst hE0
        rw [if_neg (by decide)] at hL
        subst hL
        refine inC_ops TO 100 (wd_ok (n := 36) rfl) Tryd.func35 (by decide +kernel) rfl rfl rfl ⟨⟨rfl, rfl, by simp only [evO, gdP, gdPs, List.getD, List.getElem?_cons_zero, List.getElem?_cons_succ, Option.getD_some, and_self]⟩, ?_⟩
        simp only [pureOpC, unc, absRun, absOps, absOp, evO, ungd, gdP, gdPs, setD, extractV, pureOp, notIn, blkAt, fnd, Data.len, Data.esz, retP, resV, retQ, rAs, rA, rA0, ownN, nodup, bares, bare, bare0, bareD, Op.operands, List.getD, List.getElem?_cons_zero, List.getElem?_cons_succ, Option.getD_some, List.set, List.map, List.toList_toArray, and_self, if_true, if_false, eq_self, Nat.reduceEqDiff, Bool.and_self]
      · rw [if_pos hE0] at hL
        subst hL
        refine inC_ops TO 100 (wd_err hE0 (n := 36) rfl) Tryd.func35 (by decide +kernel) rfl rfl rfl ⟨⟨rfl, rfl, by simp only [evO, gdP, gdPs, List.getD, List.getElem?_cons_zero, List.getElem?_cons_succ, Option.getD_some, and_self]⟩, ?_⟩
        simp only [pureOpC, unc, absRun, absOps, absOp, evO, ungd, gdP, gdPs, setD, extractV, pureOp, Data.len, retP, resV, retQ, rAs, rA, rA0, ownN, nodup, bares, bare, bare0, bareD, Op.operands, List.getD, List.getElem?_cons_zero, List.getElem?_cons_succ, Option.getD_some, List.set, List.map, List.toList_toArray, and_self, eq_self, List.length_nil, Bool.and_self]
  rw [if_neg c14] at hE1
  subst hE1
  rw [if_neg (by decide), if_neg c14] at hL
  have d14 : (c == 14) = false := by simpa using c14
  by_cases c16 : c = 16
  · subst c16
    rw [if_pos rfl, ← List.append_assoc] at hL
    subst hL
    simp only [if_true, if_false, eq_self, Bool.false_eq_true, Int.reduceBEq, beq_self_eq_true]
    refine nilC_ops 36 300 60 (.ints .u8 []) rfl ⟨⟨by simp, rfl, by decide⟩, ?_⟩
    simp only [upd, Data.esz, if_true, if_false, eq_self, Nat.reduceAdd, Nat.reduceEqDiff]
    refine inC_ops TO 100 (wn_inC (n := 36) (m := 300) (k := 8) (x := s.size) (l := []) rfl rfl (by decide) (by decide) rfl (by first | (simp; done) | (simp only [List.length_append, digs_length]; omega)) rfl (by omega) (by omega) (by omega)) Tryd.func32 (by decide +kernel) rfl rfl rfl ⟨⟨rfl, rfl, by simp only [evO, constSV, gdP, gdPs, List.getD, List.getElem?_cons_zero, List.getElem?_cons_succ, Option.getD_some, and_self]⟩, ?_⟩
    simp only [wrU, wk, pureOpC, unc, absRun, absOps, absOp, evO, ungd, gdP, gdPs, setD, convV, T_ty, T_size, tTy, tSize, fieldOf, faddrV, pureOp, memOp, loadV, known, cellAt, blkAt, fnd, upd, del, Op.operands, List.getD, List.getElem?_cons_zero, List.getElem?_cons_succ, Option.getD_some, List.set, List.toList_toArray, true_and, and_self, if_true, if_false, eq_self, ne_eq, not_false_eq_true, reduceCtorEq, Nat.zero_add, List.nil_append, Nat.reduceAdd, Nat.reduceSub, Nat.reduceEqDiff, Nat.reduceLT, Nat.succ_ne_self]
    refine inC_ops TO 100 (wn_inC (n := 36) (m := 5020) (k := 2) (x := s.kind) (l := digs 8 s.size) rfl rfl (by decide) (by decide) rfl (by first | (simp; done) | (simp only [digs_length]; omega)) rfl (by omega) (by omega) (by omega)) Tryd.func32 (by decide +kernel) rfl rfl rfl ⟨⟨rfl, rfl, by simp only [evO, constSV, gdP, gdPs, List.getD, List.getElem?_cons_zero, List.getElem?_cons_succ, Option.getD_some, and_self]⟩, ?_⟩
    simp only [wrU, pureOpC, unc, absRun, absOps, absOp, evO, ungd, gdP, gdPs, setD, T_ty, T_size, tTy, tSize, fieldOf, faddrV, pureOp, memOp, loadV, cellAt, blkAt, fnd, upd, del, Op.operands, List.getD, List.getElem?_cons_zero, List.getElem?_cons_succ, Option.getD_some, List.set, List.toList_toArray, true_and, and_self, if_true, if_false, eq_self, ne_eq, not_false_eq_true, reduceCtorEq, Nat.zero_add, Nat.reduceAdd, Nat.reduceSub, Nat.reduceEqDiff, Nat.reduceLT, Nat.succ_ne_self]
    refine inC_ops TO 100 (wt_inC (n := 36) (m := 5020) (on := s.gone) (l := digs 8 s.size ++ digs 2 s.kind) rfl rfl (by decide) (by decide) rfl (by simp only [List.length_append, digs_length]; omega)) Tryd.func34 (by decide +kernel) rfl rfl rfl ⟨⟨rfl, rfl, by simp only [evO, constSV, gdP, gdPs, List.getD, List.getElem?_cons_zero, List.getElem?_cons_succ, Option.getD_some, and_self]⟩, ?_⟩
    simp only [wrU, pureOpC, absRun, absOps, absOp, evO, ungd, gdP, gdPs, setD, pureOp, memOp, upd, del, Op.operands, List.getD, List.getElem?_cons_zero, List.getElem?_cons_succ, Option.getD_some, List.set, List.toList_toArray, true_and, and_self, if_true, if_false, eq_self, Nat.reduceAdd, Nat.reduceEqDiff]
    refine inC_ops TO 100 (wd_ok (n := 36) rfl) Tryd.func35 (by decide +kernel) rfl rfl rfl ⟨⟨rfl, rfl, by simp only [evO, gdP, gdPs, List.getD, List.getElem?_cons_zero, List.getElem?_cons_succ, Option.getD_some, and_self]⟩, ?_⟩
    simp only [pureOpC, unc, absRun, absOps, absOp, evO, ungd, gdP, gdPs, setD, extractV, pureOp, notIn, blkAt, fnd, Data.len, Data.esz, retP, resV, retQ, rAs, rA, rA0, ownN, nodup, bares, bare, bare0, bareD, Op.operands, List.getD, List.getElem?_cons_zero, List.getElem?_cons_succ, Option.getD_some, List.set, List.map, List.toList_toArray, and_self, if_true, if_false, eq_self, Nat.reduceAdd, Nat.reduceEqDiff, Bool.and_self]
  rw [if_neg c16] at hL
  have d16 : (c == 16) = false := by simpa using c16
  by_cases c18 : c = 18
  · subst c18
    rw [if_pos rfl, ← digs41 ha.level] at hL
    subst hL
    simp only [if_true, if_false, eq_self, Bool.false_eq_true, Int.reduceBEq, beq_self_eq_true]
    refine nilC_ops 36 300 60 (.ints .u8 []) rfl ⟨⟨by simp, rfl, by decide⟩, ?_⟩
    simp only [upd, Data.esz, if_true, if_false, eq_self, Nat.reduceAdd, Nat.reduceEqDiff]
    refine inC_ops TO 100 (wn_inC (n := 36) (m := 300) (k := 8) (x := s.file) (l := []) rfl rfl (by decide) (by decide) rfl (by first | (simp; done) | (simp only [List.length_append, digs_length]; omega)) rfl (by omega) (by omega) (by omega)) Tryd.func32 (by decide +kernel) rfl rfl rfl ⟨⟨rfl, rfl, by simp only [evO, constSV, gdP, gdPs, List.getD, List.getElem?_cons_zero, List.getElem?_cons_succ, Option.getD_some, and_self]⟩, ?_⟩
    simp only [wrU, wl, pureOpC, unc, absRun, absOps, absOp, evO, ungd, gdP, gdPs, setD, convV, T_ty, T_size, tTy, tSize, fieldOf, faddrV, pureOp, memOp, loadV, known, cellAt, blkAt, fnd, upd, del, Op.operands, List.getD, List.getElem?_cons_zero, List.getElem?_cons_succ, Option.getD_some, List.set, List.toList_toArray, true_and, and_self, if_true, if_false, eq_self, ne_eq, not_false_eq_true, reduceCtorEq, Nat.zero_add, List.nil_append, Nat.reduceAdd, Nat.reduceSub, Nat.reduceEqDiff, Nat.reduceLT, Nat.succ_ne_self]
    refine inC_ops TO 100 (wn_inC (n := 36) (m := 5020) (k := 4) (x := s.level) (l := digs 8 s.file) rfl rfl (by decide) (by decide) rfl (by first | (simp; done) | (simp only [digs_length]; omega)) rfl (by omega) (by omega) (by omega)) Tryd.func32 (by decide +kernel) rfl rfl rfl ⟨⟨rfl, rfl, by simp only [evO, constSV, gdP, gdPs, List.getD, List.getElem?_cons_zero, List.getElem?_cons_succ, Option.getD_some, and_self]⟩, ?_⟩
    simp only [wrU, pureOpC, absRun, absOps, absOp, evO, ungd, gdP, gdPs, setD, pureOp, memOp, upd, del, Op.operands, List.getD, List.getElem?_cons_zero, List.getElem?_cons_succ, Option.getD_some, List.set, List.toList_toArray, true_and, and_self, if_true, if_false, eq_self, Nat.reduceAdd, Nat.reduceEqDiff]
    refine inC_ops TO 100 (wd_ok (n := 36) rfl) Tryd.func35 (by decide +kernel) rfl rfl rfl ⟨⟨rfl, rfl, by simp only [evO, gdP, gdPs, List.getD, List.getElem?_cons_zero, List.getElem?_cons_succ, Option.getD_some, and_self]⟩, ?_⟩
    simp only [pureOpC, unc, absRun, absOps, absOp, evO, ungd, gdP, gdPs, setD, extractV, pureOp, notIn, blkAt, fnd, Data.len, Data.esz, retP, resV, retQ, rAs, rA, rA0, ownN, nodup, bares, bare, bare0, bareD, Op.operands, List.getD, List.getElem?_cons_zero, List.getElem?_cons_succ, Option.getD_some, List.set, List.map, List.toList_toArray, and_self, if_true, if_false, eq_self, Nat.reduceAdd, Nat.reduceEqDiff, Bool.and_self]
  rw [if_neg c18] at hL
  have d18 : (c == 18) = false := by simpa using c18
  subst hL
  simp only [d14, d16, d18, if_false, Bool.false_eq_true]
  refine nilC_ops 36 300 60 (.ints .u8 []) rfl ⟨⟨by simp, rfl, by decide⟩, ?_⟩
  simp only [upd, Data.esz, if_true, if_false, eq_self, Nat.reduceAdd, Nat.reduceEqDiff]
  refine inC_ops TO 100 (wn_inC (n := 36) (m := 300) (k := 4) (x := 0) (l := []) rfl rfl (by decide) (by decide) rfl (by first | (simp; done) | (simp only [List.length_append, digs_length]; omega)) rfl (by decide) (by decide) (by decide)) Tryd.func32 (by decide +kernel) rfl rfl rfl ⟨⟨rfl, rfl, by simp only [evO, constSV, gdP, gdPs, List.getD, List.getElem?_cons_zero, List.getElem?_cons_succ, Option.getD_some, and_self]⟩, ?_⟩
  simp only [wrU, pureOpC, absRun, absOps, absOp, evO, ungd, gdP, gdPs, setD, pureOp, memOp, upd, del, Op.operands, List.getD, List.getElem?_cons_zero, List.getElem?_cons_succ, Option.getD_some, List.set, List.toList_toArray, true_and, and_self, if_true, if_false, eq_self, List.nil_append, Nat.reduceAdd, Nat.reduceEqDiff]
  refine inC_ops TO 100 (wd_ok (n := 36) rfl) Tryd.func35 (by decide +kernel) rfl rfl rfl ⟨⟨rfl, rfl, by simp only [evO, gdP, gdPs, List.getD, List.getElem?_cons_zero, List.getElem?_cons_succ, Option.getD_some, and_self]⟩, ?_⟩
  simp only [pureOpC, unc, absRun, absOps, absOp, evO, ungd, gdP, gdPs, setD, extractV, pureOp, notIn, blkAt, fnd, Data.len, Data.esz, retP, resV, retQ, rAs, rA, rA0, ownN, nodup, bares, bare, bare0, bareD, Op.operands, List.getD, List.getElem?_cons_zero, List.getElem?_cons_succ, Option.getD_some, List.set, List.map, List.toList_toArray, and_self, if_true, if_false, eq_self, Nat.reduceAdd, Nat.reduceEqDiff, Bool.and_self]

end Go.Proofs.YtgipkhjpedpedaaDoor.Abs
