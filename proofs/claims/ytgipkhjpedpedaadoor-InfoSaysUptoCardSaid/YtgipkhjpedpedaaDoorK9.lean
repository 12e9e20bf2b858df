/- What the document's PutSay of info answers. -/
import Derived.Test.YtgipkhjpedpedaaDoorKG
import Derived.Test.YtgipkhjpedpedaaDoorRB
set_option linter.unusedVariables false
set_option linter.unusedSimpArgs false
set_option maxRecDepth 100000
namespace Go.Proofs.YtgipkhjpedpedaaDoor.Abs
open Go Go.Proofs

theorem namesE_mid (l r : List EntR) (x : EntR) (h : namesE l = 0) (hx : ptE x.name ≠ 0) : namesE (l ++ x :: r) = ptE x.name := by
  induction l with
  | nil => simp [namesE, hx]
  | cons y l ih =>
    rw [List.cons_append]
    unfold namesE at h ⊢
    by_cases g : ptE y.name = 0
    · rw [if_neg (fun k => k g)] at h ⊢; exact ih h
    · rw [if_pos g] at h; exact absurd h g

theorem isW_ents {c : Int} {s : Say} (hc : c ≠ 14) (h : isW c s = s) : s.entries = [] := by
  rw [← h]
  unfold isW
  rw [if_neg hc]
  repeat' split
  all_goals rfl

set_option maxHeartbeats 8000000 in
theorem rPutSay10_meets (c : Int) (s : Say) (hc : 0 ≤ c) (ha : s.ok) (hs : s.small 1048576) : Meets Tryd.prog 25 [.v (.int .u16 c), .v (s.sv false)] [.own (.ints .u8 (isL c s)), .v (.int .i64 (isE c s))] := by
  have hK := iK_meets c hc
  have hlen := hs.entries
  have hnm := hs.names
  have hdz : (isW c s).data.length ≤ 1000000000 ∧ (isW c s).entries.length ≤ 1000000000 := by
    unfold isW; repeat' split
    all_goals simp [sayZ]
    omega
  have hS := Says_meets (isW c s) s (by have := hdz.1; omega) hdz.2
  rw [says_dec] at hS
  have hE := isE_eq c s
  have hL := isL_eq c s
  have hmx := mayB_iff s.entries
  have hent : c ≠ 14 → isW c s = s → s.entries = [] := fun h g => isW_ents h g
  have eW : isW c s = if c = 14 then { sayZ with entries := s.entries, more := s.more } else if c = 16 then { sayZ with size := s.size, kind := s.kind, gone := s.gone }
    else if c = 18 then { sayZ with file := s.file, level := s.level } else sayZ := rfl
  have hsw0 : decide (isW c s = s) = true → isW c s = s := fun h => by simpa using h
  generalize hsw : decide (isW c s = s) = sw at *
  generalize isW c s = w at *
  generalize isE c s = E at *
  generalize isL c s = L at *
  have bad : E = 2 → L = [] := fun h => by rw [hL, if_pos (by rw [h]; decide)]
  have k0 := ha.kind.1
  have k1 := ha.kind.2
  have z0 := ha.size.1
  have z1 := ha.size.2
  have f0 := ha.file.1
  have f1 := ha.file.2
  have l0 := ha.level.1
  have l1 := ha.level.2
  have wz : IntKind.u64.wrap (s.entries.length : Int) = s.entries.length := wu64 (by omega) (by omega)
  have wk : IntKind.u64.wrap s.kind = s.kind := wu64 (by omega) (by omega)
  have lay : ∀ (l : List Int) (n : Int) (k : Nat), l.length ≤ 1000000000 → szB k = true → 0 ≤ n → n < 256 ^ k → n < 18446744073709551616 → Meets Tryd.prog 38 [.own (.ints .u8 l), .v (.int .u64 n), .v (.int .i64 k)] [.own (.ints .u8 (l ++ digs k n))] := Lay_meets
  refine meets_go TO 100 Tryd.func25 rfl (fun X => ?_)
  simp only [Tryd.ntmps25, Tryd.results25, Say.sv, Say.cells, pureOpC, unc, svs, blks, AV.sv, absRun, absOps, absOp, evO, constSV, ungd, gdP, gdPs, setD, binI, binV, ptrE, T_size, T_zero, tSize, tZero, pureOp, memOp, newV, notIn, cellsOf, upd, Lim.add, Op.operands, List.getD, List.getElem?_cons_zero, List.getElem?_cons_succ, Option.getD_some, List.set, List.toList_toArray, true_and, and_self, if_false, eq_self, ne_eq, not_false_eq_true, reduceCtorEq, Nat.zero_add, List.cons_append, List.nil_append, List.length_cons, List.length_nil, Nat.reduceAdd, Nat.reduceSub, Nat.reduceEqDiff, List.replicate_succ, List.replicate_zero]
  by_cases c14 : c = 14
  · subst c14
    rw [if_pos rfl] at eW
    subst eW
    have hk : ikB 14 = true := by decide
    rw [hk] at hK hE
    simp only [Say.sv, Say.cells, sayZ] at hS
    simp only [if_true, if_false, eq_self, Bool.false_eq_true, Int.reduceBEq, beq_self_eq_true]
    refine drawI_go TO (fun y : List SV => [(3, 2, .cells (s.cells false)), (6, 3, .cells y)]) 6 100 mixed_ok (by decide +kernel) ⟨⟨_, rfl, rfl, trivial⟩, ?_⟩
    simp only [Say.cells, List.take_succ_cons, List.take_zero, List.drop_succ_cons, List.drop_zero, pureOpC, unc, isEff, pureStep, subB, absRun, absOps, absOp, evO, ungd, gdP, gdPs, setD, T_ty, T_size, tTy, tSize, fieldOf, faddrV, pureOp, memOp, loadV, scal, cellAt, setC, blkAt, fnd, upd, Op.operands, List.getD, List.getElem?_cons_zero, List.getElem?_cons_succ, Option.getD_some, List.set, List.toList_toArray, Option.map_some, Option.map_none, Option.isSome, true_and, and_true, and_self, implies_true, imp_self, if_true, if_false, eq_self, ne_eq, not_false_eq_true, forall_const, reduceCtorEq, Nat.zero_add, Nat.reduceAdd, Nat.reduceSub, Nat.reduceEqDiff, Nat.reduceLT, Nat.succ_ne_self, absI]
    refine ⟨⟨_, rfl⟩, ?_⟩
    refine call_go TO 100 hK Tryd.func36 (by decide +kernel) rfl rfl rfl ?_
    simp only [pureOpC, unc, absOps, absOp, evO, constSV, ungd, gdP, gdPs, setD, binI, binV, ptrE, unV, T_ty, T_size, tTy, tSize, pickV, pureOp, guardOf, loadV, takeC, dropC, blkAt, fnd, ownN, nodup, bares, bare, bare0, guardIs, callP, callS, argS, mAs, mA, mA0, mB0, allNotIn, impN, impB, impT, packS, delL, Op.operands, List.getD, List.getElem?_cons_zero, List.getElem?_cons_succ, Option.getD_some, List.set, List.map, List.toList_toArray, List.getElem?_toArray, Option.bind_some, Option.map_some, true_and, and_self, implies_true, if_true, if_false, eq_self, ne_eq, not_false_eq_true, reduceCtorEq, Int.reduceBEq, Bool.cond_false, List.append_nil, Nat.reduceAdd, Nat.reduceSub, Nat.reduceEqDiff, Nat.reduceLeDiff, Bool.not_true, Bool.not_false, Bool.and_self]
    refine call_go TO 100 hS Tryd.func21 (by decide +kernel) rfl rfl rfl ?_
    simp only [pureOpC, unc, absRun, absOps, absOp, evO, constSV, ungd, gdP, gdPs, setD, binI, binV, ptrE, unV, T_ty, T_size, tTy, tSize, fieldOf, faddrV, pickV, pureOp, guardOf, loadV, cellAt, blkAt, fnd, Data.len, retP, resV, retQ, rAs, rA, rA0, ownN, nodup, bares, bare, bare0, bareD, guardIs, callP, callS, argS, mAs, mA, mA0, mB0, mAl, lowD, allNotIn, impN, impB, impT, packS, delL, Op.operands, List.getD, List.getElem?_cons_zero, List.getElem?_cons_succ, Option.getD_some, List.set, List.map, List.toList_toArray, List.getElem?_toArray, Option.bind_some, true_and, and_true, and_self, implies_true, imp_self, if_true, if_false, eq_self, ne_eq, not_false_eq_true, reduceCtorEq, Nat.zero_add, Bool.cond_true_left, Bool.cond_false, List.append_nil, List.length_nil, Nat.reduceAdd, Nat.reduceSub, Nat.reduceEqDiff, Nat.reduceLT, Nat.succ_ne_self, Bool.not_false, List.replicate_succ, List.replicate_zero, Bool.and_self, gt_iff_lt]
    clear hS hK hsw hsw0 hent hdz
    refine ite_both (fun hb => ?_) (fun hb => ?_)
    · have hE2 : E = 2 := by
        rw [hE, if_pos]
        simp only [Bool.or_eq_true, Bool.not_eq_true', decide_eq_true_eq] at hb
        rcases hb with hb | hb
        · simp [hb]
        · have : decide (s.kind ≤ 2) = false := decide_eq_false (by omega)
          simp [this]
      rw [hE2, bad hE2]
      exact ⟨rfl, rfl⟩
    have hE1 : E = if mayB s.entries = false then 2 else if 64 < s.entries.length then 3 else namesE s.entries := by
      have hb2 : (!sw || decide (2 < s.kind)) = false := by simpa using hb
      rw [Bool.or_eq_false_iff, Bool.not_eq_false', decide_eq_false_iff_not] at hb2
      rw [hE]
      have k2 : decide (s.kind ≤ 2) = true := decide_eq_true (by omega)
      rw [hb2.1, k2]
      cases mayB s.entries <;> simp
    clear hE hb
    rw [if_pos rfl] at hL
    refine loop_up (fun x : Nat × Nat => x.1 ≤ s.entries.length ∧ mayB s.entries = mayB (s.entries.drop x.1))
      (fun x => ⟨tl 178 0 [(0, .int .u16 14), (3, .ptr 3 2 0), (4, .nil), (5, .int .i64 0), (7, .int .i64 x.1)], [(3, 2, .cells (s.cells false))], ⟨x.2, [], 0⟩⟩) (fun x => s.entries.length - x.1) (0, _) ⟨Nat.zero_le _, rfl⟩ ⟨rfl, ?_, ?_⟩ ?_
    · simp [LeT, tl]
    · intro n x hx
      simp only [fnd, Say.cells] at hx ⊢
      split at hx
      · rename_i e; subst e; simpa using hx
      cases hx
    rintro ⟨i, c⟩ ⟨hi, hall⟩ ih
    simp only at hi hall
    refine absRun_ok TO 8 _ _ ?_
    simp only [Say.cells, pureOpC, unc, absRun, absOps, absOp, evO, constSV, ungd, gdP, gdPs, setD, binI, binV, ptrE, T_ty, T_size, tTy, tSize, fieldOf, faddrV, pureOp, lenV, loadV, cellAt, blkAt, fnd, Data.len, Op.operands, Call.operands, List.getD, List.getElem?_cons_zero, List.getElem?_cons_succ, Option.getD_some, List.set, List.toList_toArray, exitTo, true_and, and_self, if_true, if_false, eq_self, ne_eq, not_false_eq_true, reduceCtorEq, Nat.zero_add, List.append_toArray, List.cons_append, List.nil_append, Nat.reduceAdd, Nat.reduceSub, Nat.reduceLT, Nat.succ_ne_self, beq_self_eq_true, List.replicate_succ, List.replicate_zero, tl, gt_iff_lt]
    by_cases hil : i < s.entries.length
    · rw [if_pos (decide_eq_true (by omega))]
      have wi : IntKind.i64.wrap ((i : Int) + 1) = ((i + 1 : Nat) : Int) := by rw [w64 (by omega) (by omega)]; omega
      have g1 : s.entries[i]? = some (s.entries[i]?.getD default) := by rw [List.getElem?_eq_getElem hil]; rfl
      have g2 : s.entries.drop i = (s.entries[i]?.getD default) :: s.entries.drop (i + 1) := by
        rw [List.drop_eq_getElem_cons hil, List.getElem?_eq_getElem hil]; rfl
      rw [g2] at hall
      refine HRun_region (part_ops TO 5 ?_)
      simp only [absOpsN, pureOpC, unc, absOp, evO, ungd, gdP, gdPs, setD, T_ty, T_size, tTy, tSize, fieldOf, faddrV, iaddrV, pureOp, loadV, cellAt, blkAt, fnd, Data.len, Data.esz, Op.operands, List.getD, List.getElem?_cons_zero, List.getElem?_cons_succ, Option.getD_some, List.set, List.toList_toArray, true_and, and_self, if_true, if_false, eq_self, ne_eq, not_false_eq_true, reduceCtorEq, Nat.zero_add, Int.toNat_natCast, Nat.reduceSub, Nat.reduceLT, Nat.succ_ne_self]
      refine ⟨⟨by omega, by omega⟩, subent_ops TO rfl rfl rfl rfl rfl rfl (HOps_go TO 100 ?_)⟩
      simp only [pureOpC, cntC, unc, absRun, absOps, absOp, evO, constSV, ungd, gdP, gdPs, setD, binI, binV, ptrE, T_ty, T_size, T_zero, tTy, tSize, tZero, fieldOf, faddrV, pickV, pureOp, guardOf, memOp, loadV, newV, notIn, scal, okC, cellAt, takeC, dropC, blkAt, fnd, upd, Data.len, Lim.add, retP, resV, retQ, rAs, rA, rA0, ownN, nodup, bares, bare, bare0, bareD, Op.operands, List.getD, List.getElem?_cons_zero, List.getElem?_cons_succ, Option.getD_some, List.set, List.map, List.toList_toArray, List.getElem?_toArray, Option.bind_some, true_and, and_true, and_self, implies_true, imp_self, if_true, if_false, eq_self, ne_eq, not_false_eq_true, reduceCtorEq, Nat.zero_add, Nat.add_zero, Bool.cond_true_left, List.nil_append, List.append_nil, Nat.reduceAdd, Nat.reduceSub, Nat.reduceEqDiff, Nat.succ_ne_self, Bool.and_self, gt_iff_lt]
      generalize s.entries[i]?.getD default = x at *
      have hm : mayB (x :: s.entries.drop (i + 1)) = ((decide (x.kind ≤ 2) && decide (0 ≤ x.size) && decide (x.size ≤ 1048576)) && mayB (s.entries.drop (i + 1))) := rfl
      rw [hm] at hall
      refine ite_both (fun hb => ?_) (fun hb => ?_)
      · have e : mayB s.entries = false := by
          rw [hall]
          simp only [Bool.or_eq_true, decide_eq_true_eq] at hb
          rw [Bool.and_eq_false_iff]
          left
          rw [Bool.and_eq_false_iff, Bool.and_eq_false_iff, decide_eq_false_iff_not, decide_eq_false_iff_not, decide_eq_false_iff_not]
          omega
        have hE2 : E = 2 := by rw [hE1, if_pos e]
        rw [hE2, bad hE2]
        exact ⟨rfl, rfl⟩
      · have e : (decide (x.kind ≤ 2) && decide (0 ≤ x.size) && decide (x.size ≤ 1048576)) = true := by
          simp only [Bool.or_eq_true, decide_eq_true_eq, not_or] at hb
          simp only [Bool.and_eq_true, decide_eq_true_eq]
          omega
        rw [e, Bool.true_and] at hall
        simp only [wi]
        refine ih (i + 1, _) _ ⟨hil, hall⟩ (by simp only; omega) rfl ?_ ?_
        · simp [LeT, tl]
        · intro n x hx
          simp only [fnd, Say.cells] at hx ⊢
          split at hx
          · rename_i e; subst e; simpa using hx
          cases hx
    rw [if_neg (by rw [decide_eq_true_eq]; omega)]
    refine absRun_ok TO 100 _ _ ?_
    simp only [pureOpC, unc, absRun, absOps, absOp, evO, constSV, ungd, gdP, gdPs, setD, binI, binV, ptrE, convV, T_ty, T_size, tTy, tSize, fieldOf, faddrV, pureOp, memOp, lenV, loadV, known, cellAt, blkAt, fnd, Data.len, retP, resV, retQ, rAs, rA, rA0, ownN, nodup, bares, bare, bare0, bareD, Op.operands, Call.operands, List.getD, List.getElem?_cons_zero, List.getElem?_cons_succ, Option.getD_some, List.set, List.map, List.toList_toArray, true_and, and_true, and_self, if_true, if_false, eq_self, ne_eq, not_false_eq_true, reduceCtorEq, Bool.false_eq_true, Nat.zero_add, Int.reduceBEq, List.append_toArray, List.nil_append, Nat.reduceSub, Nat.reduceLT, Nat.succ_ne_self, beq_self_eq_true, Bool.and_self]
    have hmb : mayB s.entries = true := by rw [hall, List.drop_eq_nil_of_le (by omega)]; rfl
    rw [if_neg (by rw [hmb]; decide)] at hE1
    have hmb2 := hmx.1 hmb
    clear ih hall
    refine ite_both (fun h64 => ?_) (fun h64 => ?_)
    · have hE2 : E = 3 := by rw [hE1, if_pos (by simp at h64; omega)]
      have hL2 : L = [] := by rw [hL, if_pos (by rw [hE2]; decide)]
      rw [hE2, hL2]
      exact ⟨rfl, rfl⟩
    have h64' : s.entries.length ≤ 64 := by simp at h64; omega
    rw [if_neg (by omega)] at hE1
    have on0 := (on_ok s.more).1
    have on1 := (on_ok s.more).2.1
    have q1 := lay [] s.entries.length 2 (by simp) rfl (by omega) (by omega) (by omega)
    rw [List.nil_append] at q1
    have q2 := lay (digs 2 s.entries.length) (onV s.more) 2 (by rw [digs_length]; omega) rfl (by omega) (by omega) (by omega)
    simp only [wz]
    refine call_go TO 100 q1 Tryd.func38 (by decide +kernel) rfl rfl rfl ?_
    simp only [pureOpC, unc, absRun, absOps, absOp, evO, constSV, ungd, gdP, gdPs, setD, T_ty, T_size, tTy, tSize, fieldOf, faddrV, pureOp, memOp, loadV, notIn, cellAt, blkAt, fnd, upd, Data.len, Data.esz, ownN, nodup, bares, bare, bareD, guardIs, callP, callS, argS, mAs, mA, mA0, mB0, allNotIn, nm, impN, impB, impT, packS, delL, Op.operands, List.getD, List.getElem?_cons_zero, List.getElem?_cons_succ, Option.getD_some, List.set, List.map, List.toList_toArray, true_and, and_self, if_true, if_false, eq_self, ne_eq, not_false_eq_true, reduceCtorEq, Nat.zero_add, Nat.add_zero, Int.cast_ofNat_Int, List.append_nil, List.length_nil, Nat.reduceAdd, Nat.reduceSub, Nat.reduceMul, Nat.reduceEqDiff, Nat.reduceLT, Nat.succ_ne_self, Bool.and_self]
    refine call_go TO 100 (rtruth_meets s.more) Tryd.func40 (by decide +kernel) rfl rfl rfl ?_
    simp only [pureOpC, unc, absOps, absOp, evO, ungd, gdP, gdPs, pureOp, memOp, ownN, nodup, bares, bare, bare0, guardIs, callP, callS, argS, mAs, mA, mA0, mB0, allNotIn, impN, impB, impT, packS, delL, List.getD, List.getElem?_cons_zero, List.getElem?_cons_succ, Option.getD_some, List.set, List.map, true_and, and_self, eq_self, List.append_nil, Bool.and_self]
    refine call_go TO 100 q2 Tryd.func38 (by decide +kernel) rfl rfl rfl ?_
    obtain ⟨B0, hB0⟩ : ∃ B0, B0 = digs 2 (s.entries.length : Int) ++ digs 2 (onV s.more) := ⟨_, rfl⟩
    have hB0l : B0.length = 4 := by rw [hB0, List.length_append, digs_length, digs_length]
    rw [← hB0]
    rw [← List.append_assoc, ← hB0] at hL
    simp only [pureOpC, unc, absRun, absOps, absOp, evO, constSV, ungd, gdP, gdPs, setD, notIn, blkAt, fnd, upd, del, Data.len, Data.esz, ownN, nodup, bares, bare, bareD, guardIs, callP, callS, argS, mAs, mA, mA0, mB0, lowD, allNotIn, nm, impN, impB, impT, packS, delL, Op.operands, List.getD, List.getElem?_cons_zero, List.getElem?_cons_succ, Option.getD_some, List.set, List.map, List.toList_toArray, true_and, and_self, if_true, if_false, eq_self, Nat.zero_add, Nat.add_zero, Int.cast_ofNat_Int, List.append_nil, Nat.reduceAdd, Nat.reduceMul, Nat.reduceEqDiff, Bool.and_self]
    refine ren_go 9 11632 12256 ⟨by simp, rfl, rfl⟩ ?_
    simp only [upd, del, mv, List.set, if_true, if_false, eq_self, Nat.reduceEqDiff]
    refine loop_up (fun x : Nat × Nat × Nat => x.1 ≤ s.entries.length ∧ namesE (s.entries.take x.1) = 0)
      (fun x => ⟨tl 178 0 [(0, .int .u16 14), (3, .ptr 3 2 0), (4, .nil), (5, .int .i64 0), (9, .sl 12256 x.2.1 0 1 0 (B0 ++ entL (s.entries.take x.1)).length), (10, .int .i64 x.1)], [(3, 2, .cells (s.cells false)), (12256, x.2.1, .vec (.ints .u8 (B0 ++ entL (s.entries.take x.1))))], ⟨x.2.2, [], 0⟩⟩) (fun x => s.entries.length - x.1) (0, c + 9, _) ⟨Nat.zero_le _, rfl⟩ ⟨rfl, ?_, ?_⟩ ?_
    · simp [LeT, tl, entL]
    · intro n x hx
      simp only [fnd, Say.cells] at hx ⊢
      split at hx
      · rename_i e; subst e; simpa using hx
      split at hx
      · rename_i e; subst e; simpa [entL] using hx
      cases hx
    rintro ⟨i, g, c⟩ ⟨hi, hn0⟩ ih
    simp only at hi hn0
    refine absRun_ok TO 100 _ _ ?_
    simp only [Say.cells, pureOpC, unc, absRun, absOps, absOp, evO, constSV, ungd, gdP, gdPs, setD, binI, binV, ptrE, convV, T_ty, T_size, tTy, tSize, fieldOf, faddrV, iaddrV, pureOp, memOp, lenV, loadV, notIn, known, cellAt, blkAt, fnd, elemV, Data.len, Data.esz, retP, resV, retQ, rAs, rA, rA0, ownN, nodup, bares, bare, bare0, bareD, Op.operands, Call.operands, List.getD, List.getElem?_cons_zero, List.getElem?_cons_succ, Option.getD_some, List.set, List.map, List.toList_toArray, exitTo, true_and, and_true, and_self, if_true, if_false, eq_self, ne_eq, not_false_eq_true, reduceCtorEq, Bool.false_eq_true, Nat.zero_add, Nat.add_zero, Int.toNat_natCast, List.append_toArray, List.cons_append, List.nil_append, Nat.reduceAdd, Nat.reduceSub, Nat.reduceEqDiff, Nat.reduceBEq, Nat.reduceLT, Nat.succ_ne_self, beq_self_eq_true, List.replicate_succ, List.replicate_zero, Bool.and_self, Data.ints.injEq, tl]
    by_cases hil : i < s.entries.length
    · rw [if_pos (decide_eq_true (by omega))]
      have wi : IntKind.i64.wrap ((i : Int) + 1) = ((i + 1 : Nat) : Int) := by rw [w64 (by omega) (by omega)]; omega
      have g1 : s.entries[i]? = some (s.entries[i]?.getD default) := by rw [List.getElem?_eq_getElem hil]; rfl
      have g2 : s.entries[i]?.getD default ∈ s.entries := List.mem_of_getElem? g1
      have g3 : s.entries.take (i + 1) = s.entries.take i ++ [s.entries[i]?.getD default] := by rw [List.take_add_one, g1]; rfl
      have g4 : s.entries = s.entries.take i ++ (s.entries[i]?.getD default) :: s.entries.drop (i + 1) := by
        conv => lhs; rw [← List.take_append_drop i s.entries]
        rw [List.drop_eq_getElem_cons hil, List.getElem?_eq_getElem hil]; rfl
      have gl := entL_len (s.entries.take i)
      rw [List.length_take] at gl
      have gm := hmb2 _ g2
      have go := ha.entries _ g2
      have gs := hnm _ g2
      refine ⟨by omega, ?_⟩
      have gE : ptE (s.entries[i]?.getD default).name ≠ 0 → namesE s.entries = ptE (s.entries[i]?.getD default).name := fun h => by
        have := namesE_mid (s.entries.take i) (s.entries.drop (i + 1)) (s.entries[i]?.getD default) hn0 h
        rw [← g4] at this; exact this
      clear g4
      generalize hx : s.entries[i]?.getD default = x at *
      obtain ⟨m1, m2, m3⟩ := gm
      have o0 := go.1.1
      have o1 := go.1.2
      have wk2 : IntKind.u64.wrap x.kind = x.kind := wu64 (by omega) (by omega)
      have ws2 : IntKind.u64.wrap x.size = x.size := wu64 (by omega) (by omega)
      have hl3 : B0 ++ entL (s.entries.take i) ++ digs 2 x.kind ++ digs 2 0 ++ digs 8 x.size ++ ptL x.name = B0 ++ entL (s.entries.take (i + 1)) := by
        rw [g3, entL_snoc]; simp only [List.append_assoc]
      have p1 := lay (B0 ++ entL (s.entries.take i)) x.kind 2 (by rw [List.length_append]; omega) rfl (by omega) (by omega) (by omega)
      have p2 := lay (B0 ++ entL (s.entries.take i) ++ digs 2 x.kind) 0 2 (by simp only [List.length_append, digs_length]; omega) rfl (by decide) (by decide) (by decide)
      have p3 := lay (B0 ++ entL (s.entries.take i) ++ digs 2 x.kind ++ digs 2 0) x.size 8 (by simp only [List.length_append, digs_length]; omega) rfl (by omega) (by omega) (by omega)
      have p4 := rtx1_meets (B0 ++ entL (s.entries.take i) ++ digs 2 x.kind ++ digs 2 0 ++ digs 8 x.size) x.name (by simp only [List.length_append, digs_length]; omega) gs
      simp only [wk2]
      refine call_go TO 100 p1 Tryd.func38 (by decide +kernel) rfl rfl rfl ?_
      simp only [pureOpC, unc, absRun, absOps, absOp, evO, constSV, ungd, gdP, gdPs, setD, pureOp, memOp, notIn, blkAt, fnd, upd, del, Data.len, Data.esz, ownN, nodup, bares, bare, bareD, guardIs, callP, callS, argS, mAs, mA, mA0, mB0, lowD, allNotIn, nm, impN, impB, impT, packS, delL, Op.operands, List.getD, List.getElem?_cons_zero, List.getElem?_cons_succ, Option.getD_some, List.set, List.map, List.toList_toArray, true_and, and_self, if_true, if_false, eq_self, Nat.zero_add, Nat.add_zero, Int.cast_ofNat_Int, List.append_nil, Nat.reduceAdd, Nat.reduceMul, Nat.reduceEqDiff, Bool.and_self]
      refine call_go TO 100 p2 Tryd.func38 (by decide +kernel) rfl rfl rfl ?_
      simp only [hx, ws2, pureOpC, unc, absRun, absOps, absOp, evO, constSV, ungd, gdP, gdPs, setD, convV, T_ty, T_size, tTy, tSize, fieldOf, faddrV, iaddrV, pureOp, memOp, loadV, notIn, known, cellAt, blkAt, fnd, upd, del, elemV, Data.len, Data.esz, ownN, nodup, bares, bare, bareD, guardIs, callP, callS, argS, mAs, mA, mA0, mB0, lowD, allNotIn, nm, impN, impB, impT, packS, delL, Op.operands, List.getD, List.getElem?_cons_zero, List.getElem?_cons_succ, Option.getD_some, List.set, List.map, List.toList_toArray, true_and, and_self, if_true, if_false, eq_self, ne_eq, not_false_eq_true, reduceCtorEq, Nat.zero_add, Nat.add_zero, Int.toNat_natCast, Int.cast_ofNat_Int, List.append_nil, Nat.reduceAdd, Nat.reduceSub, Nat.reduceMul, Nat.reduceEqDiff, Nat.reduceLT, Nat.succ_ne_self, Bool.and_self]
      refine ⟨by omega, ?_⟩
      refine call_go TO 100 p3 Tryd.func38 (by decide +kernel) rfl rfl rfl ?_
      simp only [hx, pureOpC, unc, absRun, absOps, absOp, evO, constSV, ungd, gdP, gdPs, setD, T_ty, T_size, tTy, tSize, fieldOf, faddrV, iaddrV, pureOp, memOp, loadV, newV, notIn, elemsOf, strsOf, cellAt, blkAt, fnd, upd, del, elemV, Data.len, Data.esz, Lim.add, ownN, nodup, bares, bare, bareD, guardIs, callP, callS, argS, mAs, mA, mA0, mB0, lowD, allNotIn, nm, impN, impB, impT, packS, delL, Op.operands, List.getD, List.getElem?_cons_zero, List.getElem?_cons_succ, Option.getD_some, List.set, List.map, List.toList_toArray, Option.map_some, true_and, and_self, if_true, if_false, eq_self, ne_eq, not_false_eq_true, reduceCtorEq, Nat.zero_add, Nat.add_zero, Int.toNat_natCast, Int.cast_ofNat_Int, List.append_nil, List.length_cons, List.length_nil, Nat.reduceAdd, Nat.reduceSub, Nat.reduceMul, Nat.reduceEqDiff, Nat.reduceLeDiff, Nat.reduceLT, Nat.succ_ne_self, Bool.and_self]
      refine ⟨by omega, ?_⟩
      refine call_go TO 100 p4 Tryd.func39 (by decide +kernel) rfl rfl rfl ?_
      by_cases hp : ptE x.name = 0
      · have e1 : tx1L (B0 ++ entL (s.entries.take i) ++ digs 2 x.kind ++ digs 2 0 ++ digs 8 x.size) x.name = B0 ++ entL (s.entries.take (i + 1)) := by unfold tx1L; rw [if_neg (fun k => k hp), hl3]
        rw [e1, hp]
        simp only [wi, List.take_succ_cons, List.take_zero, List.drop_zero, pureOpC, unc, absRun, absOps, absOp, evO, constSV, ungd, gdP, gdPs, setD, binI, binV, ptrE, extractV, pureOp, notIn, blkAt, fnd, upd, del, Data.len, Data.esz, Data.sub, retP, resV, retQ, rAs, rA, rA0, ownN, nodup, bares, bare, bare0, bareD, guardIs, callP, callS, argS, mAs, mA, mA0, mB0, lowD, allNotIn, nm, impN, impB, impT, packS, delL, Op.operands, List.getD, List.getElem?_cons_zero, List.getElem?_cons_succ, Option.getD_some, List.set, List.map, List.toList_toArray, true_and, and_true, and_self, if_true, if_false, eq_self, Bool.false_eq_true, Nat.zero_add, Nat.add_zero, Nat.le_refl, Int.reduceBNe, List.cons_append, List.nil_append, List.length_cons, List.length_nil, Nat.reduceAdd, Nat.reduceMul, Nat.reduceEqDiff, Bool.and_self]
        refine ih (i + 1, c + 5, _) _ ⟨hil, by rw [g3, namesE_snoc, hn0]; exact hp⟩ (by simp only; omega) rfl ?_ ?_
        · simp [LeT, tl]
        · intro m x hx
          simp only [fnd, Say.cells] at hx ⊢
          split at hx
          · rename_i e; subst e; simpa using hx
          split at hx
          · rename_i e; subst e; simpa using hx
          cases hx
      · have hE2 : E = ptE x.name := hE1.trans (gE hp)
        have hL2 : L = [] := by rw [hL, if_pos (by rw [hE2]; exact hp)]
        have hp' : (ptE x.name != 0) = true := by simpa using hp
        rw [hE2, hL2]
        simp only [hp', wi, List.take_succ_cons, List.take_zero, List.drop_zero, pureOpC, unc, absRun, absOps, absOp, evO, constSV, ungd, gdP, gdPs, setD, binI, binV, ptrE, extractV, pureOp, notIn, blkAt, fnd, upd, del, Data.len, Data.esz, Data.sub, retP, resV, retQ, rAs, rA, rA0, ownN, nodup, bares, bare, bare0, bareD, guardIs, callP, callS, argS, mAs, mA, mA0, mB0, lowD, allNotIn, nm, impN, impB, impT, packS, delL, Op.operands, List.getD, List.getElem?_cons_zero, List.getElem?_cons_succ, Option.getD_some, List.set, List.map, List.toList_toArray, true_and, and_self, if_true, if_false, eq_self, Nat.zero_add, Nat.add_zero, Nat.le_refl, List.cons_append, List.nil_append, List.length_cons, List.length_nil, Nat.reduceAdd, Nat.reduceMul, Nat.reduceEqDiff, Bool.and_self]
    · rw [if_neg (by rw [decide_eq_true_eq]; omega)]
      have htk : s.entries.take i = s.entries := List.take_of_length_le (by omega)
      rw [htk] at hn0 ⊢
      rw [hn0] at hE1
      subst hE1
      rw [if_neg (by decide)] at hL
      subst hL
      first | exact ⟨⟨rfl, rfl⟩, rfl⟩ | exact ⟨⟨rfl, rfl⟩, rfl, rfl⟩ | simp
  have d14 : (c == 14) = false := by simpa using c14
  rw [if_neg c14] at eW hL
  by_cases c16 : c = 16
  · subst c16
    rw [if_pos rfl] at eW hL
    subst eW
    have hk : ikB 16 = true := by decide
    rw [hk] at hK hE
    simp only [Say.sv, Say.cells, sayZ] at hS
    simp only [if_true, if_false, eq_self, Bool.false_eq_true, Int.reduceBEq, beq_self_eq_true]
    refine drawI_go TO (fun y : List SV => [(3, 2, .cells (s.cells false)), (6, 3, .cells y)]) 10 100 mixed_ok (by decide +kernel) ⟨⟨_, rfl, rfl, trivial⟩, ?_⟩
    simp only [Say.cells, List.take_succ_cons, List.take_zero, List.drop_succ_cons, List.drop_zero, pureOpC, unc, isEff, pureStep, subB, absRun, absOps, absOp, evO, ungd, gdP, gdPs, setD, T_ty, T_size, tTy, tSize, fieldOf, faddrV, pureOp, memOp, loadV, scal, cellAt, setC, blkAt, fnd, upd, Op.operands, List.getD, List.getElem?_cons_zero, List.getElem?_cons_succ, Option.getD_some, List.set, List.toList_toArray, Option.map_some, Option.map_none, Option.isSome, true_and, and_true, and_self, implies_true, imp_self, if_true, if_false, eq_self, ne_eq, not_false_eq_true, forall_const, reduceCtorEq, Nat.zero_add, Nat.reduceAdd, Nat.reduceSub, Nat.reduceEqDiff, Nat.reduceLT, Nat.succ_ne_self, absI]
    refine ⟨⟨_, rfl⟩, ⟨_, rfl⟩, ?_⟩
    refine call_go TO 100 hK Tryd.func36 (by decide +kernel) rfl rfl rfl ?_
    simp only [pureOpC, unc, absOps, absOp, evO, constSV, ungd, gdP, gdPs, setD, binI, binV, ptrE, unV, T_ty, T_size, tTy, tSize, pickV, pureOp, guardOf, loadV, takeC, dropC, blkAt, fnd, ownN, nodup, bares, bare, bare0, guardIs, callP, callS, argS, mAs, mA, mA0, mB0, allNotIn, impN, impB, impT, packS, delL, Op.operands, List.getD, List.getElem?_cons_zero, List.getElem?_cons_succ, Option.getD_some, List.set, List.map, List.toList_toArray, List.getElem?_toArray, Option.bind_some, Option.map_some, true_and, and_self, implies_true, if_true, if_false, eq_self, ne_eq, not_false_eq_true, reduceCtorEq, Int.reduceBEq, Bool.cond_false, List.append_nil, Nat.reduceAdd, Nat.reduceSub, Nat.reduceEqDiff, Nat.reduceLeDiff, Bool.not_true, Bool.not_false, Bool.and_self]
    refine call_go TO 100 hS Tryd.func21 (by decide +kernel) rfl rfl rfl ?_
    simp only [pureOpC, unc, absRun, absOps, absOp, evO, constSV, ungd, gdP, gdPs, setD, binI, binV, ptrE, unV, T_ty, T_size, tTy, tSize, fieldOf, faddrV, pickV, pureOp, guardOf, loadV, cellAt, blkAt, fnd, Data.len, retP, resV, retQ, rAs, rA, rA0, ownN, nodup, bares, bare, bare0, bareD, guardIs, callP, callS, argS, mAs, mA, mA0, mB0, mAl, lowD, allNotIn, impN, impB, impT, packS, delL, Op.operands, List.getD, List.getElem?_cons_zero, List.getElem?_cons_succ, Option.getD_some, List.set, List.map, List.toList_toArray, List.getElem?_toArray, Option.bind_some, true_and, and_true, and_self, implies_true, imp_self, if_true, if_false, eq_self, ne_eq, not_false_eq_true, reduceCtorEq, Nat.zero_add, Bool.cond_true_left, Bool.cond_false, List.append_nil, List.length_nil, Nat.reduceAdd, Nat.reduceSub, Nat.reduceEqDiff, Nat.reduceLT, Nat.succ_ne_self, Bool.not_false, List.replicate_succ, List.replicate_zero, Bool.and_self, gt_iff_lt]
    refine ite_both (fun hb => ?_) (fun hb => ?_)
    · have hE2 : E = 2 := by
        rw [hE, if_pos]
        simp only [Bool.or_eq_true, Bool.not_eq_true', decide_eq_true_eq] at hb
        rcases hb with hb | hb
        · simp [hb]
        · have : decide (s.kind ≤ 2) = false := decide_eq_false (by omega)
          simp [this]
      rw [hE2, bad hE2]
      exact ⟨rfl, rfl⟩
    have hb2 : (!sw || decide (2 < s.kind)) = false := by simpa using hb
    rw [Bool.or_eq_false_iff, Bool.not_eq_false', decide_eq_false_iff_not] at hb2
    have hz : s.entries = [] := hent c14 (hsw0 hb2.1)
    have hl0 : (s.entries.length : Int) = 0 := by rw [hz]; rfl
    have hmb : mayB s.entries = true := by rw [hz]; rfl
    have k2 : decide (s.kind ≤ 2) = true := decide_eq_true (by omega)
    rw [hb2.1, hmb, k2, if_neg (by simp), if_neg (by rw [hz]; simp), if_neg c14] at hE
    subst hE
    rw [if_neg (by decide)] at hL
    clear hS hK hsw hsw0 hent hdz
    refine loop_in (absRun_ok TO 100 _ _ ?_)
    simp only [hl0, pureOpC, cntC, unc, absRun, absOps, absOp, evO, constSV, ungd, gdP, gdPs, setD, binI, binV, ptrE, convV, T_ty, T_size, T_zero, tTy, tSize, tZero, fieldOf, faddrV, iaddrV, pureOp, memOp, lenV, loadV, newV, notIn, scal, okC, known, cellAt, takeC, dropC, blkAt, fnd, upd, elemV, Data.len, Data.esz, Lim.add, retP, resV, retQ, rAs, rA, rA0, ownN, nodup, bares, bare, bare0, bareD, Op.operands, Call.operands, List.getD, List.getElem?_cons_zero, List.getElem?_cons_succ, Option.getD_some, List.set, List.map, List.toList_toArray, exitTo, true_and, and_true, false_and, and_false, and_self, if_true, if_false, eq_self, ne_eq, not_false_eq_true, reduceCtorEq, Bool.false_eq_true, Nat.zero_add, Nat.add_zero, Int.le_refl, Int.toNat_zero, Int.reduceBEq, List.append_toArray, List.nil_append, List.append_nil, Nat.reduceAdd, Nat.reduceSub, Nat.reduceEqDiff, Nat.reduceLT, Nat.succ_ne_self, beq_self_eq_true, Bool.and_self, Int.reduceLT, Int.reduceEq, decide_false, gt_iff_lt]
    have on0 := (on_ok s.gone).1
    have on1 := (on_ok s.gone).2.1
    rw [← List.append_assoc] at hL
    subst hL
    have q1 := lay [] s.size 8 (by simp) rfl (by omega) (by omega) (by omega)
    rw [List.nil_append] at q1
    have q2 := lay (digs 8 s.size) s.kind 2 (by rw [digs_length]; omega) rfl (by omega) (by omega) (by omega)
    have q3 := lay (digs 8 s.size ++ digs 2 s.kind) (onV s.gone) 2 (by simp only [List.length_append, digs_length]; omega) rfl (by omega) (by omega) (by omega)
    refine call_go TO 100 q1 Tryd.func38 (by decide +kernel) rfl rfl rfl ?_
    simp only [wk, pureOpC, unc, absRun, absOps, absOp, evO, constSV, ungd, gdP, gdPs, setD, convV, T_ty, T_size, tTy, tSize, fieldOf, faddrV, pureOp, memOp, loadV, notIn, known, cellAt, blkAt, fnd, upd, Data.len, Data.esz, ownN, nodup, bares, bare, bareD, guardIs, callP, callS, argS, mAs, mA, mA0, mB0, allNotIn, nm, impN, impB, impT, packS, delL, Op.operands, List.getD, List.getElem?_cons_zero, List.getElem?_cons_succ, Option.getD_some, List.set, List.map, List.toList_toArray, true_and, and_self, if_true, if_false, eq_self, ne_eq, not_false_eq_true, reduceCtorEq, Nat.zero_add, Nat.add_zero, Int.cast_ofNat_Int, List.append_nil, List.length_nil, Nat.reduceAdd, Nat.reduceSub, Nat.reduceMul, Nat.reduceEqDiff, Nat.reduceLT, Nat.succ_ne_self, Bool.and_self]
    refine call_go TO 100 q2 Tryd.func38 (by decide +kernel) rfl rfl rfl ?_
    simp only [pureOpC, unc, absRun, absOps, absOp, evO, constSV, ungd, gdP, gdPs, setD, T_ty, T_size, tTy, tSize, fieldOf, faddrV, pureOp, memOp, loadV, notIn, cellAt, blkAt, fnd, upd, del, Data.len, Data.esz, ownN, nodup, bares, bare, bareD, guardIs, callP, callS, argS, mAs, mA, mA0, mB0, lowD, allNotIn, nm, impN, impB, impT, packS, delL, Op.operands, List.getD, List.getElem?_cons_zero, List.getElem?_cons_succ, Option.getD_some, List.set, List.map, List.toList_toArray, true_and, and_self, if_true, if_false, eq_self, ne_eq, not_false_eq_true, reduceCtorEq, Nat.zero_add, Nat.add_zero, Int.cast_ofNat_Int, List.append_nil, Nat.reduceAdd, Nat.reduceSub, Nat.reduceMul, Nat.reduceEqDiff, Nat.reduceLT, Nat.succ_ne_self, Bool.and_self]
    refine call_go TO 100 (rtruth_meets s.gone) Tryd.func40 (by decide +kernel) rfl rfl rfl ?_
    simp only [pureOpC, unc, absOps, absOp, evO, ungd, gdP, gdPs, pureOp, memOp, ownN, nodup, bares, bare, bare0, guardIs, callP, callS, argS, mAs, mA, mA0, mB0, allNotIn, impN, impB, impT, packS, delL, List.getD, List.getElem?_cons_zero, List.getElem?_cons_succ, Option.getD_some, List.set, List.map, true_and, and_self, eq_self, List.append_nil, Bool.and_self]
    refine call_go TO 100 q3 Tryd.func38 (by decide +kernel) rfl rfl rfl ?_
    simp only [pureOpC, unc, absRun, absOps, absOp, evO, constSV, ungd, gdP, gdPs, setD, notIn, blkAt, fnd, upd, del, Data.len, Data.esz, retP, resV, retQ, rAs, rA, rA0, ownN, nodup, bares, bare, bare0, bareD, guardIs, callP, callS, argS, mAs, mA, mA0, mB0, lowD, allNotIn, nm, impN, impB, impT, packS, delL, Op.operands, List.getD, List.getElem?_cons_zero, List.getElem?_cons_succ, Option.getD_some, List.set, List.map, List.toList_toArray, and_self, if_true, if_false, eq_self, Nat.zero_add, Nat.add_zero, Int.cast_ofNat_Int, List.append_nil, Nat.reduceAdd, Nat.reduceMul, Nat.reduceEqDiff, Bool.and_self]
  have d16 : (c == 16) = false := by simpa using c16
  rw [if_neg c16] at eW hL
  by_cases c18 : c = 18
  · subst c18
    rw [if_pos rfl] at eW hL
    subst eW
    have hk : ikB 18 = true := by decide
    rw [hk] at hK hE
    simp only [Say.sv, Say.cells, sayZ] at hS
    simp only [if_true, if_false, eq_self, Bool.false_eq_true, Int.reduceBEq, beq_self_eq_true]
    refine drawI_go TO (fun y : List SV => [(3, 2, .cells (s.cells false)), (6, 3, .cells y)]) 6 100 mixed_ok (by decide +kernel) ⟨⟨_, rfl, rfl, trivial⟩, ?_⟩
    simp only [Say.cells, List.take_succ_cons, List.take_zero, List.drop_succ_cons, List.drop_zero, pureOpC, unc, isEff, pureStep, subB, absRun, absOps, absOp, evO, ungd, gdP, gdPs, setD, T_ty, T_size, tTy, tSize, fieldOf, faddrV, pureOp, memOp, loadV, scal, cellAt, setC, blkAt, fnd, upd, Op.operands, List.getD, List.getElem?_cons_zero, List.getElem?_cons_succ, Option.getD_some, List.set, List.toList_toArray, Option.map_some, Option.map_none, Option.isSome, true_and, and_true, and_self, implies_true, if_true, if_false, eq_self, ne_eq, not_false_eq_true, forall_const, reduceCtorEq, Nat.zero_add, Nat.reduceAdd, Nat.reduceSub, Nat.reduceEqDiff, Nat.reduceLT, Nat.succ_ne_self, absI]
    refine ⟨⟨_, rfl⟩, ?_⟩
    refine call_go TO 100 hK Tryd.func36 (by decide +kernel) rfl rfl rfl ?_
    simp only [pureOpC, unc, absOps, absOp, evO, constSV, ungd, gdP, gdPs, setD, binI, binV, ptrE, unV, T_ty, T_size, tTy, tSize, pickV, pureOp, guardOf, loadV, takeC, dropC, blkAt, fnd, ownN, nodup, bares, bare, bare0, guardIs, callP, callS, argS, mAs, mA, mA0, mB0, allNotIn, impN, impB, impT, packS, delL, Op.operands, List.getD, List.getElem?_cons_zero, List.getElem?_cons_succ, Option.getD_some, List.set, List.map, List.toList_toArray, List.getElem?_toArray, Option.bind_some, Option.map_some, true_and, and_self, implies_true, if_true, if_false, eq_self, ne_eq, not_false_eq_true, reduceCtorEq, Int.reduceBEq, Bool.cond_false, List.append_nil, Nat.reduceAdd, Nat.reduceSub, Nat.reduceEqDiff, Nat.reduceLeDiff, Bool.not_true, Bool.not_false, Bool.and_self]
    refine call_go TO 100 hS Tryd.func21 (by decide +kernel) rfl rfl rfl ?_
    simp only [pureOpC, unc, absRun, absOps, absOp, evO, constSV, ungd, gdP, gdPs, setD, binI, binV, ptrE, unV, T_ty, T_size, tTy, tSize, fieldOf, faddrV, pickV, pureOp, guardOf, loadV, cellAt, blkAt, fnd, Data.len, retP, resV, retQ, rAs, rA, rA0, ownN, nodup, bares, bare, bare0, bareD, guardIs, callP, callS, argS, mAs, mA, mA0, mB0, mAl, lowD, allNotIn, impN, impB, impT, packS, delL, Op.operands, List.getD, List.getElem?_cons_zero, List.getElem?_cons_succ, Option.getD_some, List.set, List.map, List.toList_toArray, List.getElem?_toArray, Option.bind_some, true_and, and_true, and_self, implies_true, imp_self, if_true, if_false, eq_self, ne_eq, not_false_eq_true, reduceCtorEq, Nat.zero_add, Bool.cond_true_left, Bool.cond_false, List.append_nil, List.length_nil, Nat.reduceAdd, Nat.reduceSub, Nat.reduceEqDiff, Nat.reduceLT, Nat.succ_ne_self, Bool.not_false, List.replicate_succ, List.replicate_zero, Bool.and_self, gt_iff_lt]
    refine ite_both (fun hb => ?_) (fun hb => ?_)
    · have hE2 : E = 2 := by
        rw [hE, if_pos]
        simp only [Bool.or_eq_true, Bool.not_eq_true', decide_eq_true_eq] at hb
        rcases hb with hb | hb
        · simp [hb]
        · have : decide (s.kind ≤ 2) = false := decide_eq_false (by omega)
          simp [this]
      rw [hE2, bad hE2]
      exact ⟨rfl, rfl⟩
    have hb2 : (!sw || decide (2 < s.kind)) = false := by simpa using hb
    rw [Bool.or_eq_false_iff, Bool.not_eq_false', decide_eq_false_iff_not] at hb2
    have hz : s.entries = [] := hent c14 (hsw0 hb2.1)
    have hl0 : (s.entries.length : Int) = 0 := by rw [hz]; rfl
    have hmb : mayB s.entries = true := by rw [hz]; rfl
    have k2 : decide (s.kind ≤ 2) = true := decide_eq_true (by omega)
    rw [hb2.1, hmb, k2, if_neg (by simp), if_neg (by rw [hz]; simp), if_neg c14] at hE
    subst hE
    rw [if_neg (by decide)] at hL
    clear hS hK hsw hsw0 hent hdz
    refine loop_in (absRun_ok TO 100 _ _ ?_)
    simp only [hl0, pureOpC, cntC, unc, absRun, absOps, absOp, evO, constSV, ungd, gdP, gdPs, setD, binI, binV, ptrE, convV, T_ty, T_size, T_zero, tTy, tSize, tZero, fieldOf, faddrV, iaddrV, pureOp, memOp, lenV, loadV, newV, notIn, scal, okC, known, cellAt, takeC, dropC, blkAt, fnd, upd, elemV, Data.len, Data.esz, Lim.add, retP, resV, retQ, rAs, rA, rA0, ownN, nodup, bares, bare, bare0, bareD, Op.operands, Call.operands, List.getD, List.getElem?_cons_zero, List.getElem?_cons_succ, Option.getD_some, List.set, List.map, List.toList_toArray, exitTo, true_and, and_true, false_and, and_false, and_self, if_true, if_false, eq_self, ne_eq, not_false_eq_true, reduceCtorEq, Bool.false_eq_true, Nat.zero_add, Nat.add_zero, Int.le_refl, Int.toNat_zero, Int.reduceBEq, List.append_toArray, List.nil_append, List.append_nil, Nat.reduceAdd, Nat.reduceSub, Nat.reduceEqDiff, Nat.reduceLT, Nat.succ_ne_self, beq_self_eq_true, Bool.and_self, Int.reduceLT, Int.reduceEq, decide_false, gt_iff_lt]
    have e4 : digs 1 s.level ++ (digs 1 0 ++ digs 2 0) = [s.level, 0, 0, 0] := by
      simp only [digs, List.cons_append, List.nil_append, List.cons.injEq, and_true]
      omega
    rw [e4] at hL
    subst hL
    have q8 := digs_length 8 s.file
    have q1 := lay [] s.file 8 (by simp) rfl (by omega) (by omega) (by omega)
    rw [List.nil_append] at q1
    refine call_go TO 100 q1 Tryd.func38 (by decide +kernel) rfl rfl rfl ?_
    simp only [List.take_succ_cons, List.take_zero, List.drop_zero, pureOpC, unc, fitT, absRun, absOps, absOp, evO, constSV, ungd, gdP, gdPs, setD, T_ty, T_size, T_bytes, T_zero, tTy, tSize, tBytes, tZero, fieldOf, faddrV, pureOp, memOp, loadV, newV, notIn, dataOf, appD, isSrc, elemsOf, intsOf, zI, cellAt, blkAt, fnd, upd, del, mv, Data.len, Data.esz, Data.sub, Lim.add, retP, resV, retQ, rAs, rA, rA0, ownN, nodup, bares, bare, bare0, bareD, guardIs, callP, callS, argS, mAs, mA, mA0, mB0, allNotIn, nm, impN, impB, impT, packS, delL, Op.operands, Call.operands, List.getD, List.getElem?_cons_zero, List.getElem?_cons_succ, Option.getD_some, List.set, List.map, List.toList_toArray, Option.map_some, true_and, and_true, and_self, if_true, if_false, eq_self, ne_eq, not_false_eq_true, reduceCtorEq, Nat.zero_add, Nat.add_zero, Int.cast_ofNat_Int, Nat.le_refl, List.append_toArray, List.nil_append, List.append_nil, List.length_cons, List.length_nil, Nat.reduceAdd, Nat.reduceSub, Nat.reduceMul, Nat.reduceEqDiff, Nat.reduceLeDiff, Nat.reduceLT, Nat.succ_ne_self, Bool.and_self]
    first | done | (refine ⟨by omega, by omega⟩) | (rw [q8]; simp)
  have d18 : (c == 18) = false := by simpa using c18
  rw [if_neg c18] at eW hL
  subst eW
  simp only [Say.sv, Say.cells, sayZ] at hS
  simp only [d14, d16, d18, if_false, Bool.false_eq_true]
  refine call_go TO 100 hK Tryd.func36 (by decide +kernel) rfl rfl rfl ?_
  by_cases hkk : (!ikB c || c == 12) = true
  · have hE2 : E = 2 := by rw [hE, if_pos]; simp only [Bool.or_eq_true] at hkk ⊢; exact .inl (.inl hkk)
    rw [hE2, bad hE2]
    simp only [hkk, pureOpC, unc, absOps, absOp, evO, constSV, ungd, gdP, gdPs, setD, binI, binV, ptrE, unV, T_ty, T_size, tTy, tSize, pickV, pureOp, guardOf, loadV, takeC, dropC, blkAt, fnd, ownN, nodup, bares, bare, bare0, guardIs, callP, callS, argS, mAs, mA, mA0, mB0, allNotIn, impN, impB, impT, packS, delL, Op.operands, List.getD, List.getElem?_cons_zero, List.getElem?_cons_succ, Option.getD_some, List.set, List.map, List.toList_toArray, List.getElem?_toArray, Option.bind_some, Option.map_some, true_and, and_self, implies_true, imp_self, if_true, if_false, eq_self, ne_eq, not_false_eq_true, reduceCtorEq, Bool.false_eq_true, Bool.cond_true_left, List.append_nil, Nat.reduceAdd, Nat.reduceSub, Nat.reduceEqDiff, Nat.reduceLeDiff, Bool.not_true, Bool.and_self]
    refine skip_go TO 100 (.bool false) ?_
    simp only [pureOpC, unc, absRun, absOps, absOp, evO, constSV, ungd, gdP, gdPs, setD, binI, binV, ptrE, unV, T_ty, T_size, tTy, tSize, fieldOf, faddrV, pickV, pureOp, guardOf, loadV, cellAt, blkAt, fnd, Data.len, retP, resV, retQ, rAs, rA, rA0, ownN, nodup, bares, bare, bare0, bareD, guardIs, Op.operands, List.getD, List.getElem?_cons_zero, List.getElem?_cons_succ, Option.getD_some, List.set, List.map, List.toList_toArray, List.getElem?_toArray, Option.bind_some, true_and, and_self, implies_true, imp_self, if_true, if_false, eq_self, ne_eq, not_false_eq_true, reduceCtorEq, Bool.false_eq_true, Nat.zero_add, Bool.cond_true, List.length_nil, Nat.reduceAdd, Nat.reduceSub, Nat.reduceEqDiff, Nat.reduceLT, Nat.succ_ne_self, Bool.not_true, Bool.not_false, Bool.and_self, gt_iff_lt]
  have hkk' : (!ikB c || c == 12) = false := by simpa using hkk
  have hk : ikB c = true := by
    rw [Bool.or_eq_false_iff, Bool.not_eq_false'] at hkk'; exact hkk'.1
  have c12 : ¬ c = 12 := by
    rw [Bool.or_eq_false_iff, beq_eq_false_iff_ne] at hkk'; exact hkk'.2
  simp only [hkk', pureOpC, unc, absOps, absOp, evO, constSV, ungd, gdP, gdPs, setD, binI, binV, ptrE, unV, T_ty, T_size, tTy, tSize, pickV, pureOp, guardOf, loadV, takeC, dropC, blkAt, fnd, ownN, nodup, bares, bare, bare0, guardIs, callP, callS, argS, mAs, mA, mA0, mB0, allNotIn, impN, impB, impT, packS, delL, Op.operands, List.getD, List.getElem?_cons_zero, List.getElem?_cons_succ, Option.getD_some, List.set, List.map, List.toList_toArray, List.getElem?_toArray, Option.bind_some, Option.map_some, true_and, and_self, implies_true, imp_self, if_true, if_false, eq_self, ne_eq, not_false_eq_true, reduceCtorEq, Bool.cond_true_left, List.append_nil, Nat.reduceAdd, Nat.reduceSub, Nat.reduceEqDiff, Nat.reduceLeDiff, Bool.not_false, Bool.and_self]
  refine call_go TO 100 hS Tryd.func21 (by decide +kernel) rfl rfl rfl ?_
  simp only [pureOpC, unc, absRun, absOps, absOp, evO, constSV, ungd, gdP, gdPs, setD, binI, binV, ptrE, unV, T_ty, T_size, tTy, tSize, fieldOf, faddrV, pickV, pureOp, guardOf, loadV, cellAt, blkAt, fnd, Data.len, retP, resV, retQ, rAs, rA, rA0, ownN, nodup, bares, bare, bare0, bareD, guardIs, callP, callS, argS, mAs, mA, mA0, mB0, mAl, lowD, allNotIn, impN, impB, impT, packS, delL, Op.operands, List.getD, List.getElem?_cons_zero, List.getElem?_cons_succ, Option.getD_some, List.set, List.map, List.toList_toArray, List.getElem?_toArray, Option.bind_some, true_and, and_true, and_self, implies_true, imp_self, if_true, if_false, eq_self, ne_eq, not_false_eq_true, reduceCtorEq, Nat.zero_add, Bool.cond_true_left, Bool.cond_false, List.append_nil, List.length_nil, Nat.reduceAdd, Nat.reduceSub, Nat.reduceEqDiff, Nat.reduceLT, Nat.succ_ne_self, Bool.not_false, List.replicate_succ, List.replicate_zero, Bool.and_self, gt_iff_lt]
  refine ite_both (fun hb => ?_) (fun hb => ?_)
  · have hE2 : E = 2 := by
      rw [hE, if_pos]
      simp only [Bool.or_eq_true, Bool.not_eq_true', decide_eq_true_eq] at hb
      rcases hb with hb | hb
      · simp [hb]
      · have : decide (s.kind ≤ 2) = false := decide_eq_false (by omega)
        simp [this]
    rw [hE2, bad hE2]
    exact ⟨rfl, rfl⟩
  have hb2 : (!sw || decide (2 < s.kind)) = false := by simpa using hb
  rw [Bool.or_eq_false_iff, Bool.not_eq_false', decide_eq_false_iff_not] at hb2
  have hz : s.entries = [] := hent c14 (hsw0 hb2.1)
  have hl0 : (s.entries.length : Int) = 0 := by rw [hz]; rfl
  have hmb : mayB s.entries = true := by rw [hz]; rfl
  have k2 : decide (s.kind ≤ 2) = true := decide_eq_true (by omega)
  rw [hb2.1, hmb, k2, if_neg (by simp [hk, c12]), if_neg (by rw [hz]; simp), if_neg c14] at hE
  subst hE
  rw [if_neg (by decide)] at hL
  clear hS hK hsw hsw0 hent hdz
  refine loop_in (absRun_ok TO 100 _ _ ?_)
  simp only [hl0, d14, d16, d18, pureOpC, cntC, unc, absRun, absOps, absOp, evO, constSV, ungd, gdP, gdPs, setD, binI, binV, ptrE, convV, T_ty, T_size, T_zero, tTy, tSize, tZero, fieldOf, faddrV, iaddrV, pureOp, memOp, lenV, loadV, newV, notIn, scal, okC, known, cellAt, takeC, dropC, blkAt, fnd, upd, elemV, Data.len, Data.esz, Lim.add, retP, resV, retQ, rAs, rA, rA0, ownN, nodup, bares, bare, bare0, bareD, Op.operands, Call.operands, List.getD, List.getElem?_cons_zero, List.getElem?_cons_succ, Option.getD_some, List.set, List.map, List.toList_toArray, exitTo, true_and, and_true, false_and, and_false, and_self, if_true, if_false, eq_self, ne_eq, not_false_eq_true, reduceCtorEq, Bool.false_eq_true, Nat.zero_add, Nat.add_zero, Int.le_refl, Int.toNat_zero, List.append_toArray, List.nil_append, List.append_nil, Nat.reduceAdd, Nat.reduceSub, Nat.reduceEqDiff, Nat.reduceLT, Nat.succ_ne_self, beq_self_eq_true, Bool.and_self, Int.reduceLT, Int.reduceEq, decide_false, gt_iff_lt]
  subst hL
  have q1 := lay [] 0 4 (by simp) rfl (by decide) (by decide) (by decide)
  rw [List.nil_append] at q1
  refine call_go TO 100 q1 Tryd.func38 (by decide +kernel) rfl rfl rfl ?_
  simp only [pureOpC, unc, absRun, absOps, absOp, evO, constSV, ungd, gdP, gdPs, setD, notIn, blkAt, fnd, upd, Data.len, Data.esz, retP, resV, retQ, rAs, rA, rA0, ownN, nodup, bares, bare, bare0, bareD, guardIs, callP, callS, argS, mAs, mA, mA0, mB0, allNotIn, nm, impN, impB, impT, packS, delL, Op.operands, List.getD, List.getElem?_cons_zero, List.getElem?_cons_succ, Option.getD_some, List.set, List.map, List.toList_toArray, and_self, if_true, if_false, eq_self, Nat.zero_add, Nat.add_zero, Int.cast_ofNat_Int, List.append_nil, List.length_nil, Nat.reduceAdd, Nat.reduceMul, Nat.reduceEqDiff, Bool.and_self]

end Go.Proofs.YtgipkhjpedpedaaDoor.Abs
