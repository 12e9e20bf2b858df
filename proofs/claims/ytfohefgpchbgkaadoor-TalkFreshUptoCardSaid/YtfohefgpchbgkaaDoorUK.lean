/- What PutAsk answers; the document's Lay. -/
import Derived.Test.YtfohefgpchbgkaaDoorUJ
set_option linter.unusedVariables false
set_option linter.unusedSimpArgs false
set_option maxRecDepth 100000
namespace Go.Proofs.YtfohefgpchbgkaaDoor.Abs
open Go Go.Proofs

theorem Lay_meets (l : List Int) (n : Int) (k : Nat) (hl : l.length ≤ 1000000000) (hk : szB k = true) (h0 : 0 ≤ n) (hn : n < 256 ^ k) (hn2 : n < 18446744073709551616) : Meets Tryd.prog 43 [.own (.ints .u8 l), .v (.int .u64 n), .v (.int .i64 k)] [.own (.ints .u8 (l ++ digs k n))] := by
  have hk8 : (k : Int) ≤ 8 := by rcases szB_cases hk with h | h | h | h <;> omega
  have hQ := rPut_meets n k h0 hn2
  rw [putL_k hk hn, putE_k hk hn] at hQ
  have hd := digs_length k n
  refine meets_go TO 100 Tryd.func43 rfl (fun X => ?_)
  simp only [Tryd.ntmps43, Tryd.results43, pureOpC, svs, blks, AV.sv, absRun, absOps, absOp, evO, constSV, ungd, gdP, gdPs, setD, pureOp, memOp, Data.len, Data.esz, Op.operands, List.getD, List.getElem?_cons_zero, List.getElem?_cons_succ, Option.getD_some, List.set, List.toList_toArray, true_and, and_self, Nat.zero_add, List.cons_append, List.nil_append, List.length_cons, List.length_nil, Nat.reduceAdd, Nat.reduceSub, List.replicate_succ, List.replicate_zero]
  refine call_go TO 100 hQ Tryd.func57 (by decide +kernel) rfl rfl rfl ?_
  have ht : (digs k n).take k = digs k n := List.take_of_length_le (Nat.le_of_eq hd)
  simp only [hd, ht, List.drop_zero, pureOpC, unc, fitT, absRun, absOps, absOp, evO, ungd, gdP, gdPs, setD, T_ty, T_size, T_bytes, T_zero, tTy, tSize, tBytes, tZero, extractV, pureOp, memOp, notIn, dataOf, appD, isSrc, zI, blkAt, fnd, upd, del, mv, Data.len, Data.esz, Data.sub, Lim.add, retP, resV, retQ, rAs, rA, ownN, nodup, bares, bare, bare0, bareD, guardIs, callP, callS, argS, mAs, mA, mA0, mB0, allNotIn, nm, impN, impB, impT, packS, delL, Op.operands, Call.operands, List.getD, List.getElem?_cons_zero, List.getElem?_cons_succ, Option.getD_some, List.set, List.map, List.toList_toArray, true_and, and_true, and_self, if_true, if_false, eq_self, Nat.zero_add, Nat.add_zero, Nat.le_refl, List.append_toArray, List.nil_append, List.append_nil, Nat.reduceAdd, Nat.reduceMul, Nat.reduceEqDiff, Bool.and_self]
  omega

def wantA (c : Int) (a : Ask) : Ask := if c = 0 then { askZ with dialects := a.dialects, guid := a.guid } else if c = 1 then { askZ with proof := a.proof, user := a.user } else if c = 3 then { askZ with share := a.share } else askZ
def paE (c : Int) (a : Ask) : Int := if knB c = false ∨ wantA c a ≠ a then 2 else if c = 0 then (if 16 < a.dialects.length then 3 else 0) else if c = 1 then ptE a.user else if c = 3 then ptE a.share else 0
def paL (c : Int) (a : Ask) : List Int := if paE c a ≠ 0 then [] else if c = 0 then digs 2 a.dialects.length ++ a.dialects.flatMap (digs 2) ++ a.guid else if c = 1 then a.proof ++ ptL a.user else if c = 3 then ptL a.share else [0, 0, 0, 0]

theorem wantA_ok (c : Int) (a : Ask) (h : a.ok) : (wantA c a).ok := by
  have z : askZ.ok := by
    refine ⟨by simp [askZ], ⟨rfl, by unfold Bytes askZ; decide⟩, ⟨rfl, by unfold Bytes askZ; decide⟩, ?_, ?_, ?_, ?_, ?_, ?_, ?_, ?_, ?_, by unfold Bytes askZ; decide, by simp [askZ], ?_, ?_, ?_⟩ <;> (unfold askZ; first | unfold U32 | unfold U8 | unfold U64 | unfold U16) <;> simp
  unfold wantA
  split
  · exact { z with dialects := h.dialects, guid := h.guid }
  split
  · exact { z with proof := h.proof }
  split
  · exact { z with }
  · exact z

theorem same_want (c : Int) (a : Ask) (h : a.ok) : sameB (wantA c a) a = decide (wantA c a = a) := by
  rw [Bool.eq_iff_iff, decide_eq_true_eq]
  have hw : bareB (wantA c a) = true := by
    rw [bareB_iff _ (wantA_ok c a h)]
    unfold wantA
    repeat' split
    all_goals simp [askZ]
  unfold sameB
  simp only [hw, Bool.and_eq_true, beq_iff_eq, decide_eq_true_eq, str_eq, bareB_iff a h]
  constructor
  · rintro ⟨⟨⟨⟨⟨⟨h1, h2⟩, h3⟩, h4⟩, h5⟩, _⟩, g1, g2, g3, g4, g5, g6, g7, g8, g9, g10, g11, g12, g13, g14, g15, g16, g17, g18⟩
    have hb := (bareB_iff _ (wantA_ok c a h)).1 hw
    obtain ⟨k1, k2, k3, k4, k5, k6, k7, k8, k9, k10, k11, k12, k13, k14, k15, k16, k17, k18⟩ := hb
    generalize wantA c a = w at *
    cases a; cases w; simp only at *
    subst h1 h2 h3 h4 h5 g1 g2 g3 g4 g5 g6 g7 g8 g9 g10 g11 g12 g13 g14 g15 g16 g17 g18 k1 k2 k3 k4 k5 k6 k7 k8 k9 k10 k11 k12 k13 k14 k15 k16 k17 k18
    rfl
  · intro e
    have hb := (bareB_iff _ (wantA_ok c a h)).1 hw
    rw [e] at hb ⊢
    exact ⟨⟨⟨⟨⟨⟨rfl, rfl⟩, rfl⟩, rfl⟩, rfl⟩, trivial⟩, hb⟩

theorem digs2 {d : Int} (h : U16 d) : digs 2 d = [d % 256, d / 256] := by
  have h0 := h.1
  have h1 := h.2
  simp only [digs]
  rw [show d / 256 % 256 = d / 256 by omega]

theorem pt_len (s : ByteArray) : (ptL s).length ≤ 514 := by
  unfold ptL
  split
  · rename_i h
    unfold ptE at h
    split at h
    · rename_i h2; exact absurd h h2
    · split at h
      · cases h
      · rw [List.length_append, digs_length]; omega
  · simp

theorem flat2_len (l : List Int) : (l.flatMap (digs 2)).length = 2 * l.length := by
  induction l with
  | nil => rfl
  | cons x l ih => rw [List.flatMap_cons, List.length_append, digs_length, ih, List.length_cons]; omega

theorem flat2_take (l : List Int) (i : Nat) (h : i < l.length) : (l.take (i + 1)).flatMap (digs 2) = (l.take i).flatMap (digs 2) ++ digs 2 (l[i]?.getD 0) := by
  rw [List.take_add_one, List.getElem?_eq_getElem h, List.flatMap_append]; simp

def paB (c : Int) (a : Ask) : Int := if c = 0 then (if 16 < a.dialects.length then 3 else 0) else if c = 1 then ptE a.user else if c = 3 then ptE a.share else 0
theorem paE_ask {c : Int} {a : Ask} (hk : knB c = true) : paE c a = if decide (wantA c a = a) = true then paB c a else 2 := by
  unfold paE paB
  by_cases h : wantA c a = a <;> simp [h, hk]

theorem paL_bad {c : Int} {a : Ask} (h : paE c a ≠ 0) : paL c a = [] := by unfold paL; rw [if_pos h]

set_option maxHeartbeats 8000000 in
theorem PutAsk_meets (c : Int) (a : Ask) (hc : 0 ≤ c) (ha : a.ok) (hs : a.small 1048576) : Meets Tryd.prog 12 [.v (.int .u16 c), .v (a.sv false)] [.own (.ints .u8 (paL c a)), .v (.int .i64 (paE c a))] := by
  have hK := known_meets c hc
  have hS := sameAsk_meets (wantA c a) a (by
    have := hs.dialects
    unfold wantA; repeat' split
    all_goals simp [askZ]; try omega)
  rw [same_want c a ha] at hS
  have hl1 := hs.dialects
  have hg := ha.guid.1
  have hp := ha.proof.1
  refine meets_go TO 100 Tryd.func12 rfl (fun X => ?_)
  simp only [Tryd.ntmps12, Tryd.results12, Ask.sv, Ask.cells, pureOpC, buildV, fillC, cntC, unc, svs, blks, AV.sv, absRun, absOps, absOp, evO, constSV, ungd, gdP, gdPs, setD, binI, binV, ptrE, T_ty, T_size, T_zero, tTy, tSize, tZero, fieldOf, faddrV, pureOp, memOp, loadV, newV, notIn, scal, cellsOf, okC, cellAt, takeC, dropC, setC, blkAt, fnd, upd, Lim.add, Op.operands, List.getD, List.getElem?_cons_zero, List.getElem?_cons_succ, Option.getD_some, List.set, List.map, List.all, List.toList_toArray, Option.map_some, Option.map_none, true_and, and_self, if_true, if_false, eq_self, ne_eq, not_false_eq_true, reduceCtorEq, Nat.zero_add, Nat.add_zero, List.cons_append, List.nil_append, List.append_nil, List.length_cons, List.length_nil, Nat.reduceAdd, Nat.reduceSub, Nat.reduceEqDiff, Nat.reduceLeDiff, Nat.reduceLT, Nat.succ_ne_self, List.replicate_succ, List.replicate_zero, Bool.and_self, Nat.reduceBNe]
  by_cases c0 : c = 0
  · subst c0
    have eE := paE_ask (c := 0) (a := a) rfl
    have eB : paB 0 a = if 16 < a.dialects.length then 3 else 0 := rfl
    rw [eB] at eE
    have eW : wantA 0 a = { askZ with dialects := a.dialects, guid := a.guid } := rfl
    have eL : paE 0 a = 0 → paL 0 a = digs 2 a.dialects.length ++ a.dialects.flatMap (digs 2) ++ a.guid := fun h => by unfold paL; rw [if_neg (by simpa using h), if_pos rfl]
    generalize decide (wantA 0 a = a) = sw at hS eE
    simp only [eW, Ask.sv, Ask.cells, askZ] at hS
    simp only [if_true, if_false, eq_self, Bool.false_eq_true, Int.reduceBEq, beq_self_eq_true]
    refine drawI_go TO (fun y : List SV => [(3, 2, .cells (a.cells false)), (6, 3, .cells y)]) 6 100 mixed_ok (by decide +kernel) ⟨⟨_, rfl, rfl, trivial⟩, ?_⟩
    simp only [Ask.cells, List.take_succ_cons, List.take_zero, List.drop_succ_cons, List.drop_zero, pureOpC, unc, isEff, pureStep, subB, absRun, absOps, absOp, evO, ungd, gdP, gdPs, setD, T_ty, T_size, tTy, tSize, fieldOf, faddrV, pureOp, memOp, loadV, scal, cellAt, arrAt, setC, setA, blkAt, fnd, upd, Op.operands, List.getD, List.getElem?_cons_zero, List.getElem?_cons_succ, Option.getD_some, List.set, List.toList_toArray, Option.map_some, Option.map_none, true_and, and_true, and_self, implies_true, imp_self, if_true, if_false, ite_self, eq_self, ne_eq, not_false_eq_true, forall_const, reduceCtorEq, Nat.zero_add, Nat.add_zero, Nat.reduceAdd, Nat.reduceSub, Nat.reduceEqDiff, Nat.reduceLeDiff, Nat.reduceLT, Nat.succ_ne_self, absI]
    refine ⟨⟨_, rfl⟩, ?_⟩
    refine call_go TO 100 hK Tryd.func38 (by decide +kernel) rfl rfl rfl ?_
    simp only [show knB 0 = true from rfl, pureOpC, unc, absOps, absOp, evO, ungd, gdP, gdPs, setD, unV, T_ty, T_size, tTy, tSize, pureOp, guardOf, loadV, takeC, dropC, blkAt, fnd, ownN, nodup, bares, bare, bare0, guardIs, callP, callS, argS, mAs, mA, mA0, mB0, allNotIn, impN, impB, impT, packS, delL, Op.operands, List.getD, List.getElem?_cons_zero, List.getElem?_cons_succ, Option.getD_some, List.set, List.map, List.toList_toArray, List.getElem?_toArray, Option.bind_some, Option.map_some, true_and, and_self, implies_true, if_true, if_false, eq_self, ne_eq, not_false_eq_true, reduceCtorEq, List.append_nil, Nat.reduceAdd, Nat.reduceSub, Nat.reduceEqDiff, Nat.reduceLeDiff, Bool.not_true, Bool.not_false, Bool.and_self]
    refine call_go TO 100 hS Tryd.func39 (by decide +kernel) rfl rfl rfl ?_
    cases sw with
    | false =>
      rw [if_neg (by decide)] at eE
      simp only [eE, paL_bad (show paE 0 a ≠ 0 by rw [eE]; decide), pureOpC, unc, absRun, absOps, absOp, evO, constSV, ungd, gdP, gdPs, setD, binI, binV, ptrE, unV, convV, T_ty, T_size, T_bytes, T_zero, tTy, tSize, tBytes, tZero, fieldOf, faddrV, pickV, pureOp, guardOf, memOp, lenV, loadV, newV, notIn, zI, known, cellAt, blkAt, fnd, upd, Data.len, Data.esz, Lim.add, retP, resV, retQ, rAs, rA, rA0, ownN, nodup, bares, bare, bare0, bareD, guardIs, callP, callS, argS, mAs, mA, mA0, mB0, mAl, lowD, allNotIn, impN, impB, impT, packS, delL, Op.operands, Call.operands, List.getD, List.getElem?_cons_zero, List.getElem?_cons_succ, Option.getD_some, List.set, List.map, List.toList_toArray, List.getElem?_toArray, Option.bind_some, true_and, and_true, and_false, and_self, implies_true, if_true, if_false, eq_self, ne_eq, not_false_eq_true, reduceCtorEq, Bool.false_eq_true, Nat.zero_add, Nat.add_zero, Int.cast_ofNat_Int, Int.reduceToNat, Int.reduceBEq, Bool.cond_false, List.append_toArray, List.nil_append, List.append_nil, List.length_nil, Nat.reduceAdd, Nat.reduceSub, Nat.reduceEqDiff, Nat.reduceLT, Nat.succ_ne_self, Bool.not_false, beq_self_eq_true, List.replicate_succ, List.replicate_zero, Bool.and_self, Data.ints.injEq, Int.reduceLE, Int.reduceEq, Int.reduceMul, gt_iff_lt]
    | true =>
      rw [if_pos rfl] at eE
      simp only [pureOpC, unc, absRun, absOps, absOp, evO, constSV, ungd, gdP, gdPs, setD, binI, binV, ptrE, unV, convV, T_ty, T_size, T_bytes, T_zero, tTy, tSize, tBytes, tZero, fieldOf, faddrV, pickV, pureOp, guardOf, memOp, lenV, loadV, newV, notIn, zI, known, cellAt, blkAt, fnd, upd, Data.len, Data.esz, Lim.add, retP, resV, retQ, rAs, rA, rA0, ownN, nodup, bares, bare, bare0, bareD, guardIs, callP, callS, argS, mAs, mA, mA0, mB0, mAl, lowD, allNotIn, impN, impB, impT, packS, delL, Op.operands, Call.operands, List.getD, List.getElem?_cons_zero, List.getElem?_cons_succ, Option.getD_some, List.set, List.map, List.toList_toArray, List.getElem?_toArray, Option.bind_some, true_and, and_true, and_self, implies_true, if_true, if_false, eq_self, ne_eq, not_false_eq_true, reduceCtorEq, Bool.false_eq_true, Nat.zero_add, Nat.add_zero, Int.cast_ofNat_Int, Int.reduceToNat, Int.reduceBEq, Bool.cond_false, List.append_toArray, List.nil_append, List.append_nil, List.length_nil, Nat.reduceAdd, Nat.reduceSub, Nat.reduceEqDiff, Nat.reduceLT, Nat.succ_ne_self, Bool.not_true, Bool.not_false, beq_self_eq_true, List.replicate_succ, List.replicate_zero, Bool.and_self, Data.ints.injEq, Int.reduceLE, Int.reduceMul, gt_iff_lt]
      by_cases hd : 16 < a.dialects.length
      · rw [if_pos hd] at eE
        rw [if_pos (decide_eq_true (by omega)), eE, paL_bad (by rw [eE]; decide)]
        exact ⟨rfl, rfl⟩
      rw [if_neg hd] at eE
      rw [if_neg (by simp; omega), eE, eL eE]
      have hQ := Put_meets (a.dialects.length : Nat) (2 : Nat) (by omega) (by omega)
      rw [putL_k (by decide) (by omega), putE_k (by decide) (by omega)] at hQ
      simp only [Int.cast_ofNat_Int] at hQ
      rw [wu64 (x := (a.dialects.length : Int)) (by omega) (by omega)]
      refine call_go TO 100 hQ Tryd.func40 (by decide +kernel) rfl rfl rfl ?_
      simp only [digs_length, pureOpC, unc, absRun, absOps, absOp, evO, constSV, ungd, gdP, gdPs, setD, T_ty, T_size, tTy, tSize, fieldOf, faddrV, extractV, pureOp, lenV, loadV, notIn, cellAt, blkAt, fnd, upd, Data.len, Data.esz, ownN, nodup, bares, bare, bare0, bareD, guardIs, callP, callS, argS, mAs, mA, mA0, mB0, allNotIn, nm, impN, impB, impT, packS, delL, Op.operands, Call.operands, List.getD, List.getElem?_cons_zero, List.getElem?_cons_succ, Option.getD_some, List.set, List.map, List.toList_toArray, true_and, and_self, if_true, if_false, eq_self, ne_eq, not_false_eq_true, Nat.zero_add, Nat.add_zero, List.append_toArray, List.nil_append, List.append_nil, Nat.reduceAdd, Nat.reduceSub, Nat.reduceMul, Nat.reduceEqDiff, Nat.reduceLT, Nat.succ_ne_self, Bool.and_self]
      refine ren_go 7 10912 74 ⟨by simp, rfl, rfl⟩ ?_
      simp only [upd, del, mv, List.set, if_true, if_false, eq_self, Nat.reduceAdd, Nat.reduceEqDiff]
      have hfl := flat2_len a.dialects
      refine loop_up (fun x : Nat × Nat × Nat => x.1 ≤ a.dialects.length)
        (fun x => ⟨tl 104 0 [(3, .ptr 3 2 0), (7, .sl 74 x.2.1 0 1 0 ((digs 2 a.dialects.length ++ (a.dialects.take x.1).flatMap (digs 2)).length)), (61, .view false (.ints .u16 a.dialects)), (62, .int .i64 a.dialects.length), (63, .int .i64 x.1)], [(3, 2, .cells (a.cells false)), (74, x.2.1, .vec (.ints .u8 (digs 2 a.dialects.length ++ (a.dialects.take x.1).flatMap (digs 2))))], ⟨x.2.2, [], 0⟩⟩) (fun x => a.dialects.length - x.1) (0, 13, _) (Nat.zero_le _) ⟨rfl, ?_, ?_⟩ ?_
      · simp [LeT, tl, digs_length]
      · intro m x hx
        simp only [fnd] at hx ⊢
        split at hx
        · rename_i e; subst e; simpa [Ask.cells] using hx
        split at hx
        · rename_i e; subst e; simpa [Ask.cells] using hx
        cases hx
      rintro ⟨i, g, c⟩ hi ih
      simp only at hi
      refine absRun_ok TO 100 _ _ ?_
      simp only [Ask.cells, List.take_succ_cons, List.take_zero, List.drop_zero, pureOpC, unc, fitT, absRun, absOps, absOp, evO, constSV, ungd, gdP, gdPs, setD, binI, binV, ptrE, convV, T_ty, T_size, T_bytes, T_zero, tTy, tSize, tBytes, tZero, fieldOf, faddrV, iaddrV, lowI, highI, maxP, sliceV, pureOp, memOp, loadV, newV, notIn, dataOf, appD, isSrc, elemsOf, intsOf, zI, known, arrAt, blkAt, fnd, upd, del, mv, elemV, Data.len, Data.esz, Data.sub, Lim.add, retP, resV, retQ, rAs, rA, rA0, ownN, nodup, bares, bare, bare0, bareD, Op.operands, Call.operands, List.getD, List.getElem?_cons_zero, List.getElem?_cons_succ, Option.getD_some, List.set, List.map, List.toList_toArray, Option.map_some, Option.map_none, exitTo, true_and, and_true, and_self, if_true, if_false, ite_self, eq_self, ne_eq, not_false_eq_true, reduceCtorEq, Bool.false_eq_true, Nat.zero_add, Int.sub_zero, Int.toNat_natCast, Int.cast_ofNat_Int, Int.reduceToNat, Nat.le_refl, Int.le_refl, Int.toNat_zero, Option.toArray_none, List.append_toArray, List.cons_append, List.nil_append, List.append_nil, List.length_cons, List.length_nil, Nat.reduceAdd, Nat.reduceSub, Nat.reduceEqDiff, Nat.reduceBEq, Nat.reduceLeDiff, Nat.reduceLT, Nat.succ_ne_self, beq_self_eq_true, List.replicate_succ, List.replicate_zero, Bool.and_self, Data.ints.injEq, tl, Int.reduceLE]
      by_cases hil : i < a.dialects.length
      · have hf := flat2_take a.dialects i hil
        have hu : U16 (a.dialects[i]?.getD 0) := by
          rw [List.getElem?_eq_getElem hil]; exact ha.dialects _ (List.getElem_mem hil)
        rw [digs2 hu] at hf
        have hu0 := hu.1
        have hu1 := hu.2
        have hfi := flat2_len (a.dialects.take i)
        rw [List.length_take] at hfi
        have w8 : IntKind.u8.wrap (a.dialects[i]?.getD 0) = a.dialects[i]?.getD 0 % 256 := wu8 _
        have w9 : IntKind.u8.wrap (shrI .u16 (a.dialects[i]?.getD 0) 8) = a.dialects[i]?.getD 0 / 256 := by
          rw [show shrI .u16 (a.dialects[i]?.getD 0) 8 = a.dialects[i]?.getD 0 / 256 by show (a.dialects[i]?.getD 0).fdiv 256 = _; rw [Int.fdiv_eq_ediv_of_nonneg _ (by decide)], wu8]; omega
        have wi : IntKind.i64.wrap ((i : Int) + 1) = ((i + 1 : Nat) : Int) := by rw [w64 (by omega) (by omega)]; omega
        rw [if_pos (decide_eq_true (by omega))]
        simp only [w8, w9, wi]
        rw [List.append_assoc, ← hf]
        refine ⟨by omega, ⟨by rw [List.length_append, digs_length]; omega, by rw [List.length_append, digs_length]; omega⟩, ?_⟩
        refine ih (i + 1, c + 3, _) _ hil (by simp only; omega) rfl ?_ ?_
        · simp [LeT, tl]
        · intro m x hx
          simp only [fnd] at hx ⊢
          split at hx
          · rename_i e; subst e; simpa [Ask.cells] using hx
          split at hx
          · rename_i e; subst e; simpa [Ask.cells] using hx
          cases hx
      rw [if_neg (by rw [decide_eq_true_eq]; omega)]
      have hip : i = a.dialects.length := by omega
      subst hip
      have htk : a.guid.take 16 = a.guid := List.take_of_length_le (by omega)
      simp only [List.take_length, htk, hg, and_true, and_self, eq_self, List.take_length, Nat.reduceLeDiff]
      refine ⟨by rw [List.length_append, digs_length]; omega, by rw [List.length_append, digs_length]; omega⟩
  have d0 : (c == 0) = false := by simpa using c0
  by_cases c1 : c = 1
  · subst c1
    have eE := paE_ask (c := 1) (a := a) rfl
    have eB : paB 1 a = ptE a.user := rfl
    rw [eB] at eE
    have eW : wantA 1 a = { askZ with proof := a.proof, user := a.user } := rfl
    have eL : paE 1 a = 0 → paL 1 a = a.proof ++ ptL a.user := fun h => by unfold paL; rw [if_neg (by simpa using h), if_neg (by decide), if_pos rfl]
    generalize decide (wantA 1 a = a) = sw at hS eE
    simp only [eW, Ask.sv, Ask.cells, askZ] at hS
    simp only [if_true, if_false, eq_self, Bool.false_eq_true, Int.reduceBEq, beq_self_eq_true]
    refine drawI_go TO (fun y : List SV => [(3, 2, .cells (a.cells false)), (6, 3, .cells y)]) 6 100 mixed_ok (by decide +kernel) ⟨⟨_, rfl, rfl, trivial⟩, ?_⟩
    simp only [Ask.cells, List.take_succ_cons, List.take_zero, List.drop_succ_cons, List.drop_zero, pureOpC, unc, isEff, pureStep, subB, absRun, absOps, absOp, evO, ungd, gdP, gdPs, setD, T_ty, T_size, tTy, tSize, fieldOf, faddrV, pureOp, memOp, loadV, scal, cellAt, arrAt, setC, setA, blkAt, fnd, upd, Op.operands, List.getD, List.getElem?_cons_zero, List.getElem?_cons_succ, Option.getD_some, List.set, List.toList_toArray, Option.map_some, Option.map_none, Option.isSome, true_and, and_true, and_self, implies_true, imp_self, if_true, if_false, ite_self, eq_self, ne_eq, not_false_eq_true, forall_const, reduceCtorEq, Nat.zero_add, Nat.le_refl, Nat.reduceAdd, Nat.reduceSub, Nat.reduceEqDiff, Nat.reduceLeDiff, Nat.reduceLT, Nat.succ_ne_self, absI]
    refine ⟨⟨_, rfl⟩, ?_⟩
    refine call_go TO 100 hK Tryd.func38 (by decide +kernel) rfl rfl rfl ?_
    simp only [show knB 1 = true from rfl, pureOpC, unc, absOps, absOp, evO, ungd, gdP, gdPs, setD, unV, T_ty, T_size, tTy, tSize, pureOp, guardOf, loadV, takeC, dropC, blkAt, fnd, ownN, nodup, bares, bare, bare0, guardIs, callP, callS, argS, mAs, mA, mA0, mB0, allNotIn, impN, impB, impT, packS, delL, Op.operands, List.getD, List.getElem?_cons_zero, List.getElem?_cons_succ, Option.getD_some, List.set, List.map, List.toList_toArray, List.getElem?_toArray, Option.bind_some, Option.map_some, true_and, and_self, implies_true, if_true, if_false, eq_self, ne_eq, not_false_eq_true, reduceCtorEq, List.append_nil, Nat.reduceAdd, Nat.reduceSub, Nat.reduceEqDiff, Nat.reduceLeDiff, Bool.not_true, Bool.not_false, Bool.and_self]
    refine call_go TO 100 hS Tryd.func39 (by decide +kernel) rfl rfl rfl ?_
    cases sw with
    | false =>
      rw [if_neg (by decide)] at eE
      simp only [eE, paL_bad (show paE 1 a ≠ 0 by rw [eE]; decide), pureOpC, unc, absRun, absOps, absOp, evO, constSV, ungd, gdP, gdPs, setD, binI, binV, ptrE, unV, convV, T_ty, T_size, T_bytes, T_zero, tTy, tSize, tBytes, tZero, fieldOf, faddrV, pickV, pureOp, guardOf, memOp, lenV, loadV, newV, notIn, zI, known, cellAt, blkAt, fnd, upd, Data.len, Data.esz, Lim.add, retP, resV, retQ, rAs, rA, rA0, ownN, nodup, bares, bare, bare0, bareD, guardIs, callP, callS, argS, mAs, mA, mA0, mB0, mAl, lowD, allNotIn, impN, impB, impT, packS, delL, Op.operands, Call.operands, List.getD, List.getElem?_cons_zero, List.getElem?_cons_succ, Option.getD_some, List.set, List.map, List.toList_toArray, List.getElem?_toArray, Option.bind_some, true_and, and_true, and_false, and_self, implies_true, if_true, if_false, eq_self, ne_eq, not_false_eq_true, reduceCtorEq, Bool.false_eq_true, Nat.zero_add, Nat.add_zero, Int.cast_ofNat_Int, Int.reduceToNat, Int.reduceBEq, Bool.cond_false, List.append_toArray, List.nil_append, List.append_nil, List.length_nil, Nat.reduceAdd, Nat.reduceSub, Nat.reduceEqDiff, Nat.reduceLT, Nat.succ_ne_self, Bool.not_false, beq_self_eq_true, List.replicate_succ, List.replicate_zero, Bool.and_self, Data.ints.injEq, Int.reduceLE, Int.reduceEq, Int.reduceMul, gt_iff_lt]
    | true =>
      rw [if_pos rfl] at eE
      simp only [pureOpC, unc, absRun, absOps, absOp, evO, constSV, ungd, gdP, gdPs, setD, binI, binV, ptrE, unV, convV, T_ty, T_size, T_bytes, T_zero, tTy, tSize, tBytes, tZero, fieldOf, faddrV, pickV, pureOp, guardOf, memOp, lenV, loadV, newV, notIn, zI, known, cellAt, blkAt, fnd, upd, Data.len, Data.esz, Lim.add, retP, resV, retQ, rAs, rA, rA0, ownN, nodup, bares, bare, bare0, bareD, guardIs, callP, callS, argS, mAs, mA, mA0, mB0, mAl, lowD, allNotIn, impN, impB, impT, packS, delL, Op.operands, Call.operands, List.getD, List.getElem?_cons_zero, List.getElem?_cons_succ, Option.getD_some, List.set, List.map, List.toList_toArray, List.getElem?_toArray, Option.bind_some, true_and, and_true, and_self, implies_true, if_true, if_false, eq_self, ne_eq, not_false_eq_true, reduceCtorEq, Bool.false_eq_true, Nat.zero_add, Nat.add_zero, Int.cast_ofNat_Int, Int.reduceToNat, Int.reduceBEq, Bool.cond_false, List.append_toArray, List.nil_append, List.append_nil, List.length_nil, Nat.reduceAdd, Nat.reduceSub, Nat.reduceEqDiff, Nat.reduceLT, Nat.succ_ne_self, Bool.not_true, Bool.not_false, beq_self_eq_true, List.replicate_succ, List.replicate_zero, Bool.and_self, Data.ints.injEq, Int.reduceLE, Int.reduceMul, gt_iff_lt]
      refine call_go TO 100 (PutText_meets a.user (by have := hs.user; omega)) Tryd.func30 (by decide +kernel) rfl rfl rfl ?_
      by_cases hE : ptE a.user = 0
      · have hpl := pt_len a.user
        rw [hE] at eE
        rw [hE, eE, eL eE]
        generalize ptL a.user = q at *
        have hC := Concat_meets [a.proof, q] (by simp; omega) (by simp; omega) (by simp)
        simp only [List.flatten_cons, List.flatten_nil, List.append_nil] at hC
        have htk : a.proof.take 32 = a.proof := List.take_of_length_le (by omega)
        simp only [pureOpC, unc, absRun, absOps, absOp, evO, constSV, ungd, gdP, gdPs, setD, binI, binV, ptrE, T_ty, T_size, tTy, tSize, fieldOf, faddrV, extractV, lowI, highI, maxP, sliceV, pureOp, memOp, newV, notIn, scal, elemsOf, rowsOf, rowOf, arrAt, blkAt, fnd, upd, Data.len, Data.esz, Lim.add, retP, resV, retQ, rAs, rA, rA0, ownN, nodup, bares, bare, bare0, bareD, guardIs, callP, callS, argS, mAs, mA, mA0, mB0, allNotIn, nm, impN, impB, impT, packS, delL, Op.operands, List.getD, List.getElem?_cons_zero, List.getElem?_cons_succ, Option.getD_some, List.set, List.map, List.all, List.toList_toArray, Option.map_some, Option.map_none, Option.isSome, true_and, and_true, and_self, if_true, if_false, ite_self, eq_self, ne_eq, not_false_eq_true, reduceCtorEq, Bool.false_eq_true, Nat.zero_add, Nat.add_zero, Int.sub_zero, Int.cast_ofNat_Int, Int.reduceToNat, Nat.le_refl, Int.le_refl, Int.toNat_zero, Int.reduceBNe, Option.toArray_none, List.append_toArray, List.append_nil, List.length_cons, List.length_nil, Nat.reduceAdd, Nat.reduceSub, Nat.reduceMul, Nat.reduceEqDiff, Nat.reduceLeDiff, Bool.and_self, Int.reduceLE]
        refine call_go TO 100 hC Tryd.func41 (by decide +kernel) rfl rfl rfl ?_
        simp only [htk, List.drop_zero, pureOpC, unc, absRun, absOps, absOp, evO, constSV, ungd, gdP, gdPs, setD, notIn, arrAt, blkAt, fnd, upd, Data.len, Data.esz, Data.sub, retP, resV, retQ, rAs, rA, rA0, ownN, nodup, bares, bare, bare0, bareD, guardIs, callP, callS, argS, mAs, mA, mA0, mB0, rowsM, lowD, allNotIn, nm, impN, impB, impT, packS, delL, Op.operands, List.getD, List.getElem?_cons_zero, List.getElem?_cons_succ, Option.getD_some, List.set, List.map, List.toList_toArray, and_self, if_true, if_false, ite_self, eq_self, reduceCtorEq, List.take_length, Nat.zero_add, Nat.add_zero, Nat.le_refl, List.cons_append, List.nil_append, List.length_cons, List.length_nil, Nat.reduceAdd, Nat.reduceSub, Nat.reduceMul, Nat.reduceEqDiff, Nat.reduceLeDiff, Bool.and_self]
      · have hb : (ptE a.user != 0) = true := by simpa using hE
        have hne : paE 1 a ≠ 0 := by rw [eE]; exact hE
        rw [paL_bad hne, eE]
        simp only [hb, pureOpC, unc, absRun, absOps, absOp, evO, constSV, ungd, gdP, gdPs, setD, binI, binV, ptrE, T_ty, T_size, tTy, tSize, fieldOf, faddrV, extractV, lowI, highI, maxP, sliceV, pureOp, memOp, newV, notIn, scal, elemsOf, rowsOf, rowOf, arrAt, blkAt, fnd, upd, Data.len, Data.esz, Lim.add, retP, resV, retQ, rAs, rA, rA0, ownN, nodup, bares, bare, bare0, bareD, guardIs, callP, callS, argS, mAs, mA, mA0, mB0, allNotIn, nm, impN, impB, impT, packS, delL, Op.operands, List.getD, List.getElem?_cons_zero, List.getElem?_cons_succ, Option.getD_some, List.set, List.map, List.all, List.toList_toArray, Option.map_some, Option.map_none, Option.isSome, true_and, and_self, if_true, if_false, ite_self, eq_self, ne_eq, not_false_eq_true, reduceCtorEq, Nat.zero_add, Nat.add_zero, Int.sub_zero, Int.cast_ofNat_Int, Int.reduceToNat, Nat.le_refl, Int.le_refl, Int.toNat_zero, Option.toArray_none, List.append_toArray, List.append_nil, List.length_cons, List.length_nil, Nat.reduceAdd, Nat.reduceSub, Nat.reduceMul, Nat.reduceEqDiff, Nat.reduceLeDiff, Bool.and_self, Int.reduceLE]
  have d1 : (c == 1) = false := by simpa using c1
  by_cases c3 : c = 3
  · subst c3
    have eE := paE_ask (c := 3) (a := a) rfl
    have eB : paB 3 a = ptE a.share := rfl
    rw [eB] at eE
    have eW : wantA 3 a = { askZ with share := a.share } := rfl
    have eL : paE 3 a = 0 → paL 3 a = ptL a.share := fun h => by unfold paL; rw [if_neg (by simpa using h), if_neg (by decide), if_neg (by decide), if_pos rfl]
    generalize decide (wantA 3 a = a) = sw at hS eE
    simp only [eW, Ask.sv, Ask.cells, askZ] at hS
    simp only [if_true, if_false, eq_self, Bool.false_eq_true, Int.reduceBEq, beq_self_eq_true]
    refine call_go TO 100 hK Tryd.func38 (by decide +kernel) rfl rfl rfl ?_
    simp only [show knB 3 = true from rfl, pureOpC, unc, absOps, absOp, evO, ungd, gdP, gdPs, setD, unV, T_ty, T_size, tTy, tSize, pureOp, guardOf, loadV, takeC, dropC, blkAt, fnd, ownN, nodup, bares, bare, bare0, guardIs, callP, callS, argS, mAs, mA, mA0, mB0, allNotIn, impN, impB, impT, packS, delL, Op.operands, List.getD, List.getElem?_cons_zero, List.getElem?_cons_succ, Option.getD_some, List.set, List.map, List.toList_toArray, List.getElem?_toArray, Option.bind_some, Option.map_some, true_and, and_self, implies_true, if_true, if_false, eq_self, ne_eq, not_false_eq_true, reduceCtorEq, List.append_nil, Nat.reduceAdd, Nat.reduceSub, Nat.reduceEqDiff, Nat.reduceLeDiff, Bool.not_true, Bool.not_false, Bool.and_self]
    refine call_go TO 100 hS Tryd.func39 (by decide +kernel) rfl rfl rfl ?_
    cases sw with
    | false =>
      rw [if_neg (by decide)] at eE
      simp only [eE, paL_bad (show paE 3 a ≠ 0 by rw [eE]; decide), pureOpC, unc, absRun, absOps, absOp, evO, constSV, ungd, gdP, gdPs, setD, binI, binV, ptrE, unV, convV, T_ty, T_size, T_bytes, T_zero, tTy, tSize, tBytes, tZero, fieldOf, faddrV, pickV, pureOp, guardOf, memOp, lenV, loadV, newV, notIn, zI, known, cellAt, blkAt, fnd, upd, Data.len, Data.esz, Lim.add, retP, resV, retQ, rAs, rA, rA0, ownN, nodup, bares, bare, bare0, bareD, guardIs, callP, callS, argS, mAs, mA, mA0, mB0, mAl, lowD, allNotIn, impN, impB, impT, packS, delL, Op.operands, Call.operands, List.getD, List.getElem?_cons_zero, List.getElem?_cons_succ, Option.getD_some, List.set, List.map, List.toList_toArray, List.getElem?_toArray, Option.bind_some, true_and, and_true, and_false, and_self, implies_true, if_true, if_false, eq_self, ne_eq, not_false_eq_true, reduceCtorEq, Bool.false_eq_true, Nat.zero_add, Nat.add_zero, Int.cast_ofNat_Int, Int.reduceToNat, Int.reduceBEq, Bool.cond_false, List.append_toArray, List.nil_append, List.append_nil, List.length_nil, Nat.reduceAdd, Nat.reduceSub, Nat.reduceEqDiff, Nat.reduceLT, Nat.succ_ne_self, Bool.not_false, beq_self_eq_true, List.replicate_succ, List.replicate_zero, Bool.and_self, Data.ints.injEq, Int.reduceLE, Int.reduceEq, Int.reduceMul, gt_iff_lt]
    | true =>
      rw [if_pos rfl] at eE
      simp only [pureOpC, unc, absRun, absOps, absOp, evO, constSV, ungd, gdP, gdPs, setD, binI, binV, ptrE, unV, convV, T_ty, T_size, T_bytes, T_zero, tTy, tSize, tBytes, tZero, fieldOf, faddrV, pickV, pureOp, guardOf, memOp, lenV, loadV, newV, notIn, zI, known, cellAt, blkAt, fnd, upd, Data.len, Data.esz, Lim.add, retP, resV, retQ, rAs, rA, rA0, ownN, nodup, bares, bare, bare0, bareD, guardIs, callP, callS, argS, mAs, mA, mA0, mB0, mAl, lowD, allNotIn, impN, impB, impT, packS, delL, Op.operands, Call.operands, List.getD, List.getElem?_cons_zero, List.getElem?_cons_succ, Option.getD_some, List.set, List.map, List.toList_toArray, List.getElem?_toArray, Option.bind_some, true_and, and_true, and_self, implies_true, if_true, if_false, eq_self, ne_eq, not_false_eq_true, reduceCtorEq, Bool.false_eq_true, Nat.zero_add, Nat.add_zero, Int.cast_ofNat_Int, Int.reduceToNat, Int.reduceBEq, Bool.cond_false, List.append_toArray, List.nil_append, List.append_nil, List.length_nil, Nat.reduceAdd, Nat.reduceSub, Nat.reduceEqDiff, Nat.reduceLT, Nat.succ_ne_self, Bool.not_true, Bool.not_false, beq_self_eq_true, List.replicate_succ, List.replicate_zero, Bool.and_self, Data.ints.injEq, Int.reduceLE, Int.reduceMul, gt_iff_lt]
      refine call_go TO 100 (PutText_meets a.share (by have := hs.share; omega)) Tryd.func30 (by decide +kernel) rfl rfl rfl ?_
      have hq : paL 3 a = ptL a.share := by
        by_cases hE : paE 3 a = 0
        · exact eL hE
        · rw [paL_bad hE]
          unfold ptL
          rw [if_neg (by rw [← eE]; exact hE)]
      rw [hq, eE]
      simp only [pureOpC, unc, absRun, absOps, absOp, evO, ungd, gdP, gdPs, setD, extractV, pureOp, notIn, blkAt, fnd, upd, Data.len, Data.esz, retP, resV, retQ, rAs, rA, rA0, ownN, nodup, bares, bare, bare0, bareD, guardIs, callP, callS, argS, mAs, mA, mA0, mB0, allNotIn, nm, impN, impB, impT, packS, delL, Op.operands, List.getD, List.getElem?_cons_zero, List.getElem?_cons_succ, Option.getD_some, List.set, List.map, List.toList_toArray, and_self, if_true, if_false, eq_self, Nat.zero_add, Nat.add_zero, List.append_nil, Nat.reduceAdd, Nat.reduceMul, Nat.reduceEqDiff, Bool.and_self]
  have d3 : (c == 3) = false := by simpa using c3
  have eW : wantA c a = askZ := by unfold wantA; rw [if_neg c0, if_neg c1, if_neg c3]
  simp only [d0, d1, d3, if_false, Bool.false_eq_true]
  refine call_go TO 100 hK Tryd.func38 (by decide +kernel) rfl rfl rfl ?_
  cases hk : knB c with
  | false =>
    have eE : paE c a = 2 := by unfold paE; rw [if_pos (.inl hk)]
    rw [paL_bad (by rw [eE]; decide), eE]
    simp only [pureOpC, unc, absOps, absOp, evO, ungd, gdP, gdPs, setD, unV, T_ty, T_size, tTy, tSize, pureOp, guardOf, loadV, takeC, dropC, blkAt, fnd, ownN, nodup, bares, bare, bare0, guardIs, callP, callS, argS, mAs, mA, mA0, mB0, allNotIn, impN, impB, impT, packS, delL, Op.operands, List.getD, List.getElem?_cons_zero, List.getElem?_cons_succ, Option.getD_some, List.set, List.map, List.toList_toArray, List.getElem?_toArray, Option.bind_some, Option.map_some, true_and, and_self, implies_true, if_true, if_false, eq_self, ne_eq, not_false_eq_true, reduceCtorEq, Bool.false_eq_true, List.append_nil, Nat.reduceAdd, Nat.reduceSub, Nat.reduceEqDiff, Nat.reduceLeDiff, Bool.not_true, Bool.not_false, Bool.and_self]
    refine skip_go TO 100 (.bool false) ?_
    simp only [pureOpC, unc, absRun, absOps, absOp, evO, constSV, ungd, gdP, gdPs, setD, binI, binV, ptrE, unV, convV, T_ty, T_size, T_bytes, T_zero, tTy, tSize, tBytes, tZero, fieldOf, faddrV, pickV, pureOp, guardOf, memOp, lenV, loadV, newV, notIn, zI, known, cellAt, blkAt, fnd, upd, Data.len, Data.esz, Lim.add, retP, resV, retQ, rAs, rA, rA0, ownN, nodup, bares, bare, bare0, bareD, guardIs, Op.operands, Call.operands, List.getD, List.getElem?_cons_zero, List.getElem?_cons_succ, Option.getD_some, List.set, List.map, List.toList_toArray, List.getElem?_toArray, Option.bind_some, true_and, and_true, and_false, and_self, implies_true, imp_self, if_true, if_false, eq_self, ne_eq, not_false_eq_true, reduceCtorEq, Bool.false_eq_true, Nat.zero_add, Nat.add_zero, Int.cast_ofNat_Int, Int.reduceToNat, Bool.cond_true, List.append_toArray, List.nil_append, List.length_nil, Nat.reduceAdd, Nat.reduceSub, Nat.reduceEqDiff, Nat.reduceLT, Nat.succ_ne_self, Bool.not_true, Bool.not_false, List.replicate_succ, List.replicate_zero, Bool.and_self, Data.ints.injEq, Int.reduceLE, Int.reduceEq, Int.reduceMul, gt_iff_lt]
  | true =>
    have eE := paE_ask (c := c) (a := a) hk
    have eB : paB c a = 0 := by unfold paB; rw [if_neg c0, if_neg c1, if_neg c3]
    rw [eB] at eE
    generalize decide (wantA c a = a) = sw at hS eE
    simp only [eW, Ask.sv, Ask.cells, askZ] at hS
    simp only [pureOpC, unc, absOps, absOp, evO, ungd, gdP, gdPs, setD, unV, T_ty, T_size, tTy, tSize, pureOp, guardOf, loadV, takeC, dropC, blkAt, fnd, ownN, nodup, bares, bare, bare0, guardIs, callP, callS, argS, mAs, mA, mA0, mB0, allNotIn, impN, impB, impT, packS, delL, Op.operands, List.getD, List.getElem?_cons_zero, List.getElem?_cons_succ, Option.getD_some, List.set, List.map, List.toList_toArray, List.getElem?_toArray, Option.bind_some, Option.map_some, true_and, and_self, implies_true, if_true, if_false, eq_self, ne_eq, not_false_eq_true, reduceCtorEq, List.append_nil, Nat.reduceAdd, Nat.reduceSub, Nat.reduceEqDiff, Nat.reduceLeDiff, Bool.not_true, Bool.not_false, Bool.and_self]
    refine call_go TO 100 hS Tryd.func39 (by decide +kernel) rfl rfl rfl ?_
    cases sw with
    | false =>
      rw [if_neg (by decide)] at eE
      simp only [eE, paL_bad (show paE c a ≠ 0 by rw [eE]; decide), pureOpC, unc, absRun, absOps, absOp, evO, constSV, ungd, gdP, gdPs, setD, binI, binV, ptrE, unV, convV, T_ty, T_size, T_bytes, T_zero, tTy, tSize, tBytes, tZero, fieldOf, faddrV, pickV, pureOp, guardOf, memOp, lenV, loadV, newV, notIn, zI, known, cellAt, blkAt, fnd, upd, Data.len, Data.esz, Lim.add, retP, resV, retQ, rAs, rA, rA0, ownN, nodup, bares, bare, bare0, bareD, guardIs, callP, callS, argS, mAs, mA, mA0, mB0, mAl, lowD, allNotIn, impN, impB, impT, packS, delL, Op.operands, Call.operands, List.getD, List.getElem?_cons_zero, List.getElem?_cons_succ, Option.getD_some, List.set, List.map, List.toList_toArray, List.getElem?_toArray, Option.bind_some, true_and, and_true, and_false, and_self, implies_true, if_true, if_false, eq_self, ne_eq, not_false_eq_true, reduceCtorEq, Nat.zero_add, Nat.add_zero, Int.cast_ofNat_Int, Int.reduceToNat, Bool.cond_false, List.append_toArray, List.nil_append, List.append_nil, List.length_nil, Nat.reduceAdd, Nat.reduceSub, Nat.reduceEqDiff, Nat.reduceLT, Nat.succ_ne_self, Bool.not_false, List.replicate_succ, List.replicate_zero, Bool.and_self, Data.ints.injEq, Int.reduceLE, Int.reduceEq, Int.reduceMul, gt_iff_lt]
    | true =>
      rw [if_pos rfl] at eE
      have eL : paL c a = [0, 0, 0, 0] := by unfold paL; rw [if_neg (by simpa using eE), if_neg c0, if_neg c1, if_neg c3]
      rw [eE, eL]
      simp only [d0, d1, d3, pureOpC, unc, absRun, absOps, absOp, evO, constSV, ungd, gdP, gdPs, setD, binI, binV, ptrE, unV, convV, T_ty, T_size, T_bytes, T_zero, tTy, tSize, tBytes, tZero, fieldOf, faddrV, pickV, pureOp, guardOf, memOp, lenV, loadV, newV, notIn, zI, known, cellAt, blkAt, fnd, upd, Data.len, Data.esz, Lim.add, retP, resV, retQ, rAs, rA, rA0, ownN, nodup, bares, bare, bare0, bareD, guardIs, callP, callS, argS, mAs, mA, mA0, mB0, mAl, lowD, allNotIn, impN, impB, impT, packS, delL, Op.operands, Call.operands, List.getD, List.getElem?_cons_zero, List.getElem?_cons_succ, Option.getD_some, List.set, List.map, List.toList_toArray, List.getElem?_toArray, Option.bind_some, true_and, and_true, and_false, and_self, implies_true, if_true, if_false, eq_self, ne_eq, not_false_eq_true, reduceCtorEq, Bool.false_eq_true, Nat.zero_add, Nat.add_zero, Int.cast_ofNat_Int, Int.reduceToNat, Bool.cond_false, List.append_toArray, List.nil_append, List.append_nil, List.length_cons, List.length_nil, Nat.reduceAdd, Nat.reduceSub, Nat.reduceEqDiff, Nat.reduceLT, Nat.succ_ne_self, Bool.not_true, Bool.not_false, List.replicate_succ, List.replicate_zero, Bool.and_self, Int.reduceLE, Int.reduceEq, Int.reduceMul, gt_iff_lt]

end Go.Proofs.YtfohefgpchbgkaaDoor.Abs
