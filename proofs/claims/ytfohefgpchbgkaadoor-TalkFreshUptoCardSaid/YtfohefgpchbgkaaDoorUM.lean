/- What PutSay answers: of the program, of the document. -/
import Derived.Test.YtfohefgpchbgkaaDoorUL
set_option linter.unusedVariables false
set_option linter.unusedSimpArgs false
set_option maxRecDepth 100000
namespace Go.Proofs.YtfohefgpchbgkaaDoor.Abs
open Go Go.Proofs

def wantS (c : Int) (s : Say) : Say := if c = 0 then { sayZ with dialect := s.dialect, size := s.size, challenge := s.challenge } else sayZ
def psE (c : Int) (s : Say) : Int := if knB c = false ∨ wantS c s ≠ s ∨ 4294967296 ≤ s.size then 2 else 0
def psL (c : Int) (s : Say) : List Int := if psE c s ≠ 0 then [] else if c = 0 then digs 4 s.dialect ++ (digs 4 s.size ++ s.challenge) else [0, 0, 0, 0]

theorem psL_bad {c : Int} {s : Say} (h : psE c s ≠ 0) : psL c s = [] := by unfold psL; rw [if_pos h]

def plainB (s : Say) : Bool := (s.dialect == 0) && (s.size == 0) && (s.challenge == [0, 0, 0, 0, 0, 0, 0, 0])

theorem want0 (s : Say) (h : s.ok) : emptyB s = decide (wantS 0 s = s) := by
  rw [Bool.eq_iff_iff, decide_eq_true_eq, emptyB_iff s h]
  have e : wantS 0 s = { sayZ with dialect := s.dialect, size := s.size, challenge := s.challenge } := rfl
  rw [e]
  constructor
  · rintro ⟨h1, h2, h3, h4, h5, h6, h7, h8, h9, h10⟩
    cases s; simp only at *
    subst h1 h2 h3 h4 h5 h6 h7 h8 h9 h10
    rfl
  · intro e
    rw [← e]
    simp [sayZ]

theorem wantN (c : Int) (hc : c ≠ 0) (s : Say) (h : s.ok) : (emptyB s && plainB s) = decide (wantS c s = s) := by
  rw [Bool.eq_iff_iff, decide_eq_true_eq, Bool.and_eq_true, emptyB_iff s h]
  have e : wantS c s = sayZ := by unfold wantS; rw [if_neg hc]
  rw [e]
  unfold plainB
  simp only [Bool.and_eq_true, beq_iff_eq]
  constructor
  · rintro ⟨⟨h1, h2, h3, h4, h5, h6, h7, h8, h9, h10⟩, ⟨h11, h12⟩, h13⟩
    cases s; simp only at *
    subst h1 h2 h3 h4 h5 h6 h7 h8 h9 h10 h11 h12 h13
    rfl
  · intro e
    rw [← e]
    simp [sayZ]

theorem shr32 {x : Int} (h : U64 x) : (shrI .u64 x 32 != 0) = decide (4294967296 ≤ x) := by
  have e : shrI .u64 x 32 = x / 4294967296 := by
    show x.fdiv (2 ^ min 32 64) = _
    rw [Int.fdiv_eq_ediv_of_nonneg _ (by decide)]
    rfl
  rw [e, Bool.eq_iff_iff, bne_iff_ne, decide_eq_true_eq]
  have := h.1
  omega

theorem digs4 {d : Int} (h : U16 d) : digs 2 d ++ digs 2 0 = digs 4 d := by
  have h0 := h.1
  have h1 := h.2
  simp only [digs, List.cons_append, List.nil_append, List.cons.injEq, and_true, true_and]
  omega

set_option maxHeartbeats 8000000 in
theorem PutSay_meets (c : Int) (s : Say) (hc : 0 ≤ c) (hs : s.ok) : Meets Tryd.prog 33 [.v (.int .u16 c), .v (s.sv false)] [.own (.ints .u8 (psL c s)), .v (.int .i64 (psE c s))] := by
  have hK := known_meets c hc
  have hS := empty_meets s
  have hw0 := want0 s hs
  have hch := hs.challenge.1
  have hsh := shr32 hs.size
  have hd0 := hs.dialect.1
  have hd1 := hs.dialect.2
  have hz0 := hs.size.1
  have hz1 := hs.size.2
  refine meets_go TO 100 Tryd.func33 rfl (fun X => ?_)
  simp only [Tryd.ntmps33, Tryd.results33, Say.sv, Say.cells, pureOpC, buildV, unc, svs, blks, AV.sv, absRun, absOps, absOp, evO, constSV, ungd, gdP, gdPs, setD, binI, binV, ptrE, T_ty, T_size, T_zero, tTy, tSize, tZero, fieldOf, faddrV, pickV, pureOp, guardOf, memOp, loadV, newV, notIn, cellsOf, isI, isA, cellAt, arrAt, blkAt, fnd, upd, Lim.add, Op.operands, List.getD, List.getElem?_cons_zero, List.getElem?_cons_succ, Option.getD_some, List.set, List.map, List.toList_toArray, List.getElem?_toArray, Option.bind_some, true_and, and_self, implies_true, imp_self, if_true, if_false, ite_self, eq_self, ne_eq, not_false_eq_true, reduceCtorEq, Nat.zero_add, Nat.add_zero, Bool.cond_false_right, List.cons_append, List.nil_append, List.length_cons, List.length_nil, Nat.reduceAdd, Nat.reduceSub, Nat.reduceLeDiff, Nat.reduceLT, Nat.succ_ne_self, List.replicate_succ, List.replicate_zero]
  refine call_go TO 100 hK Tryd.func38 (by decide +kernel) rfl rfl rfl ?_
  cases hk : knB c with
  | false =>
    have eE : psE c s = 2 := by unfold psE; rw [if_pos (.inl hk)]
    rw [psL_bad (by rw [eE]; decide), eE]
    simp only [pureOpC, unc, absOps, absOp, evO, ungd, gdP, gdPs, setD, unV, T_ty, T_size, tTy, tSize, pureOp, guardOf, loadV, takeC, dropC, blkAt, fnd, ownN, nodup, bares, bare, bare0, guardIs, callP, callS, argS, mAs, mA, mA0, mB0, allNotIn, impN, impB, impT, packS, delL, Op.operands, List.getD, List.getElem?_cons_zero, List.getElem?_cons_succ, Option.getD_some, List.set, List.map, List.toList_toArray, List.getElem?_toArray, Option.bind_some, Option.map_some, true_and, and_self, implies_true, if_true, eq_self, ne_eq, not_false_eq_true, reduceCtorEq, Bool.false_eq_true, List.append_nil, Nat.reduceAdd, Nat.reduceSub, Nat.reduceLeDiff, Bool.not_true, Bool.not_false, Bool.and_self]
    refine skip_go TO 100 (.bool false) ?_
    simp only [pureOpC, unc, absRun, absOps, absOp, evO, constSV, ungd, gdP, gdPs, setD, binI, binV, ptrE, unV, convV, T_ty, T_size, T_bytes, T_zero, tTy, tSize, tBytes, tZero, fieldOf, faddrV, pickV, pureOp, guardOf, memOp, loadV, newV, notIn, zI, known, cellAt, blkAt, fnd, upd, Data.len, Data.esz, Lim.add, retP, resV, retQ, rAs, rA, rA0, ownN, nodup, bares, bare, bare0, bareD, guardIs, Op.operands, List.getD, List.getElem?_cons_zero, List.getElem?_cons_succ, Option.getD_some, List.set, List.map, List.toList_toArray, List.getElem?_toArray, Option.bind_some, true_and, and_true, and_false, and_self, implies_true, imp_self, if_true, if_false, eq_self, ne_eq, not_false_eq_true, reduceCtorEq, Bool.false_eq_true, Nat.zero_add, Nat.add_zero, Int.cast_ofNat_Int, Int.reduceToNat, Bool.cond_false_right, Bool.cond_true, List.length_nil, Nat.reduceAdd, Nat.reduceSub, Nat.reduceEqDiff, Nat.reduceLT, Nat.succ_ne_self, Bool.not_true, Bool.not_false, List.replicate_succ, List.replicate_zero, Bool.and_self, Bool.false_and, Data.ints.injEq, Int.reduceLE, Int.reduceEq, Int.reduceMul]
  | true =>
    have eE : psE c s = if decide (wantS c s = s) = true ∧ ¬ 4294967296 ≤ s.size then 0 else 2 := by
      unfold psE
      by_cases h1 : wantS c s = s <;> by_cases h2 : 4294967296 ≤ s.size <;> simp [h1, h2, hk]
    simp only [Say.sv, Say.cells] at hS
    simp only [pureOpC, unc, absOps, absOp, evO, ungd, gdP, gdPs, setD, unV, T_ty, T_size, tTy, tSize, pureOp, guardOf, loadV, takeC, dropC, blkAt, fnd, ownN, nodup, bares, bare, bare0, guardIs, callP, callS, argS, mAs, mA, mA0, mB0, allNotIn, impN, impB, impT, packS, delL, Op.operands, List.getD, List.getElem?_cons_zero, List.getElem?_cons_succ, Option.getD_some, List.set, List.map, List.toList_toArray, List.getElem?_toArray, Option.bind_some, Option.map_some, true_and, and_self, implies_true, if_true, eq_self, ne_eq, not_false_eq_true, reduceCtorEq, List.append_nil, Nat.reduceAdd, Nat.reduceSub, Nat.reduceLeDiff, Bool.not_true, Bool.not_false, Bool.and_self]
    by_cases c0 : c = 0
    · subst c0
      have eL : psE 0 s = 0 → psL 0 s = digs 4 s.dialect ++ (digs 4 s.size ++ s.challenge) := fun h => by unfold psL; rw [if_neg (by simpa using h), if_pos rfl]
      rw [← hw0] at eE
      generalize emptyB s = em at *
      refine call_go TO 100 hS Tryd.func65 (by decide +kernel) rfl rfl rfl ?_
      simp only [hsh, pureOpC, unc, absRun, absOps, absOp, evO, constSV, ungd, gdP, gdPs, setD, binI, binV, ptrE, unV, convV, T_ty, T_size, T_bytes, T_zero, tTy, tSize, tBytes, tZero, fieldOf, faddrV, pickV, pureOp, guardOf, memOp, loadV, newV, notIn, zI, known, cellAt, blkAt, fnd, upd, Data.len, Data.esz, Lim.add, retP, resV, retQ, rAs, rA, rA0, ownN, nodup, bares, bare, bare0, bareD, guardIs, callP, callS, argS, mAs, mA, mA0, mB0, mAl, lowD, allNotIn, impN, impB, impT, packS, delL, Op.operands, List.getD, List.getElem?_cons_zero, List.getElem?_cons_succ, Option.getD_some, List.set, List.map, List.toList_toArray, List.getElem?_toArray, Option.bind_some, true_and, and_true, and_self, implies_true, imp_self, if_true, if_false, eq_self, ne_eq, not_false_eq_true, Bool.false_eq_true, Nat.zero_add, Nat.add_zero, Int.cast_ofNat_Int, Int.reduceToNat, Int.reduceBNe, Bool.cond_true_left, Bool.cond_false_right, Bool.cond_false, List.append_nil, Nat.reduceAdd, Nat.reduceSub, Nat.reduceEqDiff, Nat.reduceLT, Nat.succ_ne_self, Bool.not_false, List.replicate_succ, List.replicate_zero, Bool.and_true, Bool.and_self, Bool.and_false, Data.ints.injEq, Int.reduceLE, Int.reduceMul]
      by_cases hE : em = true ∧ ¬ 4294967296 ≤ s.size
      · rw [if_pos hE] at eE
        rw [eE, eL eE]
        obtain ⟨h1, h2⟩ := hE
        subst h1
        simp only [decide_eq_false h2, and_false, if_false, Bool.false_eq_true, Bool.not_true, Bool.not_false, Bool.or_false, Int.reduceEq]
        have hQ := Put_meets s.dialect (4 : Nat) (by omega) (by omega)
        rw [putL_k (by decide) (by omega), putE_k (by decide) (by omega)] at hQ
        simp only [Int.cast_ofNat_Int] at hQ
        have hQ2 := Put_meets s.size (4 : Nat) (by omega) (by omega)
        rw [putL_k (by decide) (by omega), putE_k (by decide) (by omega)] at hQ2
        simp only [Int.cast_ofNat_Int] at hQ2
        rw [wu64 (x := s.dialect) (by omega) (by omega)]
        refine call_go TO 100 hQ Tryd.func40 (by decide +kernel) rfl rfl rfl ?_
        simp only [digs_length, pureOpC, unc, absRun, absOps, absOp, evO, constSV, ungd, gdP, gdPs, setD, T_ty, T_size, tTy, tSize, fieldOf, faddrV, extractV, pureOp, memOp, loadV, notIn, cellAt, blkAt, fnd, upd, Data.len, Data.esz, ownN, nodup, bares, bare, bare0, bareD, guardIs, callP, callS, argS, mAs, mA, mA0, mB0, allNotIn, nm, impN, impB, impT, packS, delL, Op.operands, List.getD, List.getElem?_cons_zero, List.getElem?_cons_succ, Option.getD_some, List.set, List.map, List.toList_toArray, true_and, and_self, if_true, if_false, eq_self, ne_eq, not_false_eq_true, Nat.zero_add, Nat.add_zero, List.append_nil, Nat.reduceAdd, Nat.reduceSub, Nat.reduceMul, Nat.reduceEqDiff, Nat.reduceLT, Nat.succ_ne_self, Bool.and_self]
        refine call_go TO 100 hQ2 Tryd.func40 (by decide +kernel) rfl rfl rfl ?_
        have l1 := digs_length 4 s.dialect
        have l2 := digs_length 4 s.size
        generalize digs 4 s.dialect = x1 at *
        generalize digs 4 s.size = x2 at *
        have hC := Concat_meets [x1, x2, s.challenge] (by simp; omega) (by simp; omega) (by simp)
        simp only [List.flatten_cons, List.flatten_nil, List.append_nil] at hC
        have t1 : x1.take 4 = x1 := List.take_of_length_le (by omega)
        have t2 : x2.take 4 = x2 := List.take_of_length_le (by omega)
        have t3 : s.challenge.take 8 = s.challenge := List.take_of_length_le (by omega)
        simp only [l2, pureOpC, unc, absRun, absOps, absOp, evO, constSV, ungd, gdP, gdPs, setD, T_ty, T_size, tTy, tSize, fieldOf, faddrV, extractV, lowI, highI, maxP, sliceV, pureOp, memOp, newV, notIn, scal, elemsOf, rowsOf, rowOf, arrAt, blkAt, fnd, upd, Data.len, Data.esz, Lim.add, ownN, nodup, bares, bare, bare0, bareD, guardIs, callP, callS, argS, mAs, mA, mA0, mB0, allNotIn, nm, impN, impB, impT, packS, delL, Op.operands, List.getD, List.getElem?_cons_zero, List.getElem?_cons_succ, Option.getD_some, List.set, List.map, List.all, List.toList_toArray, Option.map_some, Option.map_none, Option.isSome, true_and, and_self, if_true, if_false, ite_self, eq_self, ne_eq, not_false_eq_true, reduceCtorEq, Nat.zero_add, Nat.add_zero, Int.sub_zero, Int.cast_ofNat_Int, Int.reduceToNat, Int.le_refl, Int.toNat_zero, Option.toArray_none, List.append_toArray, List.append_nil, List.length_cons, List.length_nil, Nat.reduceAdd, Nat.reduceSub, Nat.reduceMul, Nat.reduceEqDiff, Nat.reduceLeDiff, Nat.succ_ne_self, Bool.and_self, Int.reduceLE]
        refine call_go TO 100 hC Tryd.func41 (by decide +kernel) rfl rfl rfl ?_
        simp only [t1, t2, t3, l1, l2, List.drop_zero, pureOpC, unc, absRun, absOps, absOp, evO, constSV, ungd, gdP, gdPs, setD, notIn, arrAt, blkAt, fnd, upd, Data.len, Data.esz, Data.sub, retP, resV, retQ, rAs, rA, rA0, ownN, nodup, bares, bare, bare0, bareD, guardIs, callP, callS, argS, mAs, mA, mA0, mB0, rowsM, lowD, allNotIn, nm, impN, impB, impT, packS, delL, Op.operands, List.getD, List.getElem?_cons_zero, List.getElem?_cons_succ, Option.getD_some, List.set, List.map, List.toList_toArray, and_self, if_true, if_false, ite_self, eq_self, reduceCtorEq, Nat.zero_add, Nat.add_zero, Nat.le_refl, List.cons_append, List.nil_append, List.length_cons, List.length_nil, Nat.reduceAdd, Nat.reduceSub, Nat.reduceMul, Nat.reduceEqDiff, Nat.reduceLeDiff, Nat.succ_ne_self, Bool.and_self]
      · rw [if_neg hE] at eE
        rw [psL_bad (by rw [eE]; decide), eE]
        rw [if_pos (show (!em || decide (4294967296 ≤ s.size)) = true by
          by_cases h2 : 4294967296 ≤ s.size
          · simp [h2]
          · have : em = false := by
              cases em with
              | false => rfl
              | true => exact absurd ⟨rfl, h2⟩ hE
            simp [this])]
        exact ⟨rfl, rfl⟩
    · have d0 : (c != 0) = true := by simpa using c0
      have eL : psE c s = 0 → psL c s = [0, 0, 0, 0] := fun h => by unfold psL; rw [if_neg (by simpa using h), if_neg c0]
      have hwn := wantN c c0 s hs
      unfold plainB at hwn
      rw [← hwn] at eE
      generalize emptyB s = em at *
      refine call_go TO 100 hS Tryd.func65 (by decide +kernel) rfl rfl rfl ?_
      simp only [hsh, d0, pureOpC, unc, absRun, absOps, absOp, evO, constSV, ungd, gdP, gdPs, setD, binI, binV, ptrE, unV, convV, T_ty, T_size, T_bytes, T_zero, tTy, tSize, tBytes, tZero, fieldOf, faddrV, pickV, pureOp, guardOf, memOp, loadV, newV, notIn, zI, known, cellAt, blkAt, fnd, upd, Data.len, Data.esz, Lim.add, retP, resV, retQ, rAs, rA, rA0, ownN, nodup, bares, bare, bare0, bareD, guardIs, callP, callS, argS, mAs, mA, mA0, mB0, mAl, lowD, allNotIn, impN, impB, impT, packS, delL, Op.operands, List.getD, List.getElem?_cons_zero, List.getElem?_cons_succ, Option.getD_some, List.set, List.map, List.toList_toArray, List.getElem?_toArray, Option.bind_some, true_and, and_true, and_self, implies_true, imp_self, if_true, if_false, eq_self, ne_eq, not_false_eq_true, Nat.zero_add, Nat.add_zero, Int.cast_ofNat_Int, Int.reduceToNat, Bool.cond_true_left, Bool.cond_true, Bool.cond_false, List.append_nil, Nat.reduceAdd, Nat.reduceSub, Nat.reduceEqDiff, Nat.reduceLT, Nat.succ_ne_self, Bool.not_false, List.replicate_succ, List.replicate_zero, Bool.and_true, Bool.and_self, Data.ints.injEq, Int.reduceLE, Int.reduceMul]
      generalize (s.dialect == 0 && s.size == 0 && s.challenge == [0, 0, 0, 0, 0, 0, 0, 0]) = pl at *
      by_cases hE : (em && pl) = true ∧ ¬ 4294967296 ≤ s.size
      · rw [if_pos hE] at eE
        rw [eE, eL eE]
        obtain ⟨h1, h2⟩ := hE
        rw [Bool.and_eq_true] at h1
        obtain ⟨rfl, rfl⟩ := h1
        simp only [decide_eq_false h2, and_self, if_false, eq_self, reduceCtorEq, Bool.false_eq_true, Nat.zero_add, List.length_cons, List.length_nil, Nat.reduceAdd, Bool.not_true, Bool.or_false, Int.reduceEq]
      · rw [if_neg hE] at eE
        rw [psL_bad (by rw [eE]; decide), eE]
        rw [if_pos (show (!em || !pl || decide (4294967296 ≤ s.size)) = true by
          by_cases h2 : 4294967296 ≤ s.size
          · simp [h2]
          · have : (em && pl) = false := by
              cases h3 : (em && pl) with
              | false => rfl
              | true => exact absurd ⟨h3, h2⟩ hE
            cases em <;> cases pl <;> simp_all)]
        exact ⟨rfl, rfl⟩

set_option maxHeartbeats 8000000 in
theorem rPutSay_meets (c : Int) (s : Say) (hc : 0 ≤ c) (hs : s.ok) (hm : s.entries.length ≤ 1048576) : Meets Tryd.prog 34 [.v (.int .u16 c), .v (s.sv false)] [.own (.ints .u8 (psL c s)), .v (.int .i64 (psE c s))] := by
  have hK := Known_meets c hc
  have hS := Says_meets (wantS c s) s (by unfold wantS; split <;> simp [sayZ]) (by unfold wantS; split <;> simp [sayZ])
  rw [says_dec] at hS
  have hch := hs.challenge.1
  have hd0 := hs.dialect.1
  have hd1 := hs.dialect.2
  have hz0 := hs.size.1
  have hz1 := hs.size.2
  refine meets_go TO 100 Tryd.func34 rfl (fun X => ?_)
  simp only [Tryd.ntmps34, Tryd.results34, Say.sv, Say.cells, pureOpC, unc, svs, blks, AV.sv, absRun, absOps, absOp, evO, constSV, ungd, gdP, gdPs, setD, binI, binV, ptrE, T_size, T_zero, tSize, tZero, pureOp, memOp, newV, notIn, cellsOf, upd, Lim.add, Op.operands, List.getD, List.getElem?_cons_zero, List.getElem?_cons_succ, Option.getD_some, List.set, List.toList_toArray, true_and, and_self, if_false, eq_self, ne_eq, not_false_eq_true, reduceCtorEq, Nat.zero_add, List.cons_append, List.nil_append, List.length_cons, List.length_nil, Nat.reduceAdd, Nat.reduceSub, Nat.reduceEqDiff, List.replicate_succ, List.replicate_zero]
  by_cases c0 : c = 0
  · subst c0
    have eW : wantS 0 s = { sayZ with dialect := s.dialect, size := s.size, challenge := s.challenge } := rfl
    have eE : psE 0 s = if decide (wantS 0 s = s) = true ∧ ¬ 4294967296 ≤ s.size then 0 else 2 := by
      unfold psE
      by_cases h1 : wantS 0 s = s <;> by_cases h2 : 4294967296 ≤ s.size <;> simp [h1, h2, knB]
    have eL : psE 0 s = 0 → psL 0 s = digs 4 s.dialect ++ (digs 4 s.size ++ s.challenge) := fun h => by unfold psL; rw [if_neg (by simpa using h), if_pos rfl]
    generalize decide (wantS 0 s = s) = sw at hS eE
    simp only [eW, Say.sv, Say.cells, sayZ] at hS
    simp only [if_true, eq_self, beq_self_eq_true]
    refine drawI_go TO (fun y : List SV => [(3, 2, .cells (s.cells false)), (6, 3, .cells y)]) 10 100 mixed_ok (by decide +kernel) ⟨⟨_, rfl, rfl, trivial⟩, ?_⟩
    simp only [Say.cells, List.take_succ_cons, List.take_zero, List.drop_succ_cons, List.drop_zero, pureOpC, unc, isEff, pureStep, subB, absRun, absOps, absOp, evO, ungd, gdP, gdPs, setD, T_ty, T_size, tTy, tSize, fieldOf, faddrV, pureOp, memOp, loadV, scal, cellAt, arrAt, setC, setA, blkAt, fnd, upd, Op.operands, List.getD, List.getElem?_cons_zero, List.getElem?_cons_succ, Option.getD_some, List.set, List.toList_toArray, Option.map_some, Option.map_none, true_and, and_true, and_self, implies_true, imp_self, if_true, if_false, ite_self, eq_self, ne_eq, not_false_eq_true, forall_const, reduceCtorEq, Nat.zero_add, Nat.add_zero, Nat.reduceAdd, Nat.reduceSub, Nat.reduceEqDiff, Nat.reduceLeDiff, Nat.reduceLT, Nat.succ_ne_self, absI]
    refine ⟨⟨_, rfl⟩, ⟨_, rfl⟩, ?_⟩
    refine call_go TO 100 hK Tryd.func42 (by decide +kernel) rfl rfl rfl ?_
    simp only [show knB 0 = true from rfl, pureOpC, unc, absOps, absOp, evO, ungd, gdP, gdPs, setD, unV, T_ty, T_size, tTy, tSize, pureOp, guardOf, loadV, takeC, dropC, blkAt, fnd, ownN, nodup, bares, bare, bare0, guardIs, callP, callS, argS, mAs, mA, mA0, mB0, allNotIn, impN, impB, impT, packS, delL, Op.operands, List.getD, List.getElem?_cons_zero, List.getElem?_cons_succ, Option.getD_some, List.set, List.map, List.toList_toArray, List.getElem?_toArray, Option.bind_some, Option.map_some, true_and, and_self, implies_true, if_true, if_false, eq_self, ne_eq, not_false_eq_true, reduceCtorEq, List.append_nil, Nat.reduceAdd, Nat.reduceSub, Nat.reduceEqDiff, Nat.reduceLeDiff, Bool.not_true, Bool.not_false, Bool.and_self]
    refine call_go TO 100 hS Tryd.func22 (by decide +kernel) rfl rfl rfl ?_
    simp only [pureOpC, unc, absRun, absOps, absOp, evO, constSV, ungd, gdP, gdPs, setD, binI, binV, ptrE, unV, convV, T_ty, T_size, tTy, tSize, fieldOf, faddrV, pickV, pureOp, guardOf, memOp, loadV, known, cellAt, blkAt, fnd, Data.len, retP, resV, retQ, rAs, rA, rA0, ownN, nodup, bares, bare, bare0, bareD, guardIs, callP, callS, argS, mAs, mA, mA0, mB0, mAl, lowD, allNotIn, impN, impB, impT, packS, delL, Op.operands, List.getD, List.getElem?_cons_zero, List.getElem?_cons_succ, Option.getD_some, List.set, List.map, List.toList_toArray, List.getElem?_toArray, Option.bind_some, true_and, and_true, and_self, implies_true, imp_self, if_true, if_false, eq_self, ne_eq, not_false_eq_true, Bool.false_eq_true, Nat.zero_add, Nat.add_zero, Int.reduceBNe, Bool.cond_true_left, Bool.cond_false, List.append_nil, List.length_nil, Nat.reduceAdd, Nat.reduceSub, Nat.reduceEqDiff, Nat.reduceLT, Nat.succ_ne_self, Bool.not_false, Bool.and_self, ge_iff_le]
    by_cases hE : sw = true ∧ ¬ 4294967296 ≤ s.size
    · rw [if_pos hE] at eE
      rw [eE, eL eE]
      obtain ⟨h1, h2⟩ := hE
      subst h1
      have hQ := Lay_meets [] s.dialect 2 (by simp) rfl (by omega) (by omega) (by omega)
      rw [List.nil_append] at hQ
      have hQ2 := Lay_meets (digs 2 s.dialect) 0 2 (by rw [digs_length]; omega) rfl (by decide) (by decide) (by decide)
      rw [digs4 hs.dialect] at hQ2
      have l1 := digs_length 4 s.dialect
      have hQ3 := Lay_meets (digs 4 s.dialect) s.size 4 (by omega) rfl (by omega) (by omega) (by omega)
      have l2 := digs_length 4 s.size
      simp only [decide_eq_false h2, wu64 (x := s.dialect) (by omega) (by omega), and_false, if_false, Bool.false_eq_true, Bool.not_true, Bool.not_false, Bool.or_false, Int.reduceEq]
      refine call_go TO 100 hQ Tryd.func43 (by decide +kernel) rfl rfl rfl ?_
      simp only [digs_length, pureOpC, unc, absRun, absOps, absOp, evO, constSV, ungd, gdP, gdPs, setD, pureOp, memOp, notIn, upd, Data.len, Data.esz, ownN, nodup, bares, bare, bareD, guardIs, callP, callS, argS, mAs, mA, mA0, mB0, allNotIn, nm, impN, impB, impT, packS, delL, Op.operands, List.getD, List.getElem?_cons_zero, List.getElem?_cons_succ, Option.getD_some, List.set, List.map, List.toList_toArray, true_and, and_self, if_false, eq_self, Nat.zero_add, Nat.add_zero, Int.cast_ofNat_Int, List.append_nil, List.length_nil, Nat.reduceAdd, Nat.reduceMul, Nat.reduceEqDiff, Bool.and_self]
      refine call_go TO 100 hQ2 Tryd.func43 (by decide +kernel) rfl rfl rfl ?_
      simp only [digs_length, pureOpC, unc, absRun, absOps, absOp, evO, constSV, ungd, gdP, gdPs, setD, T_ty, T_size, tTy, tSize, fieldOf, faddrV, pureOp, memOp, loadV, notIn, cellAt, blkAt, fnd, upd, del, Data.len, Data.esz, ownN, nodup, bares, bare, bareD, guardIs, callP, callS, argS, mAs, mA, mA0, mB0, lowD, allNotIn, nm, impN, impB, impT, packS, delL, Op.operands, List.getD, List.getElem?_cons_zero, List.getElem?_cons_succ, Option.getD_some, List.set, List.map, List.toList_toArray, true_and, and_self, if_true, if_false, eq_self, ne_eq, not_false_eq_true, Nat.zero_add, Nat.add_zero, Int.cast_ofNat_Int, List.append_nil, Nat.reduceAdd, Nat.reduceSub, Nat.reduceMul, Nat.reduceEqDiff, Nat.reduceLT, Nat.succ_ne_self, Bool.and_self]
      refine call_go TO 100 hQ3 Tryd.func43 (by decide +kernel) rfl rfl rfl ?_
      have t3 : s.challenge.take 8 = s.challenge := List.take_of_length_le (by omega)
      rw [← List.append_assoc]
      have hl : (digs 4 s.dialect ++ digs 4 s.size).length = 8 := by rw [List.length_append, l1, l2]
      generalize digs 4 s.dialect ++ digs 4 s.size = x at *
      simp only [t3, hl, hch, l1, List.drop_zero, pureOpC, unc, fitT, absRun, absOps, absOp, evO, constSV, ungd, gdP, gdPs, setD, T_ty, T_size, T_bytes, T_zero, tTy, tSize, tBytes, tZero, fieldOf, faddrV, lowI, highI, maxP, sliceV, pureOp, memOp, notIn, dataOf, appD, isSrc, zI, arrAt, blkAt, fnd, upd, del, mv, Data.len, Data.esz, Lim.add, retP, resV, retQ, rAs, rA, rA0, ownN, nodup, bares, bare, bare0, bareD, guardIs, callP, callS, argS, mAs, mA, mA0, mB0, lowD, allNotIn, nm, impN, impB, impT, packS, delL, Op.operands, Call.operands, List.getD, List.getElem?_cons_zero, List.getElem?_cons_succ, Option.getD_some, List.set, List.map, List.toList_toArray, Option.map_none, and_self, if_true, if_false, ite_self, eq_self, ne_eq, not_false_eq_true, reduceCtorEq, Nat.zero_add, Nat.add_zero, Int.sub_zero, Int.cast_ofNat_Int, Int.reduceToNat, Nat.le_refl, Int.le_refl, Int.toNat_zero, Option.toArray_none, List.append_toArray, List.nil_append, List.append_nil, Nat.reduceAdd, Nat.reduceSub, Nat.reduceMul, Nat.reduceEqDiff, Nat.reduceLeDiff, Nat.succ_ne_self, Bool.and_self, Int.reduceLE]
    · rw [if_neg hE] at eE
      rw [psL_bad (by rw [eE]; decide), eE]
      rw [if_pos (show (!sw || decide (4294967296 ≤ s.size)) = true by
        by_cases h2 : 4294967296 ≤ s.size
        · simp [h2]
        · have : sw = false := by
            cases sw with
            | false => rfl
            | true => exact absurd ⟨rfl, h2⟩ hE
          simp [this])]
      exact ⟨rfl, rfl⟩
  have d0 : (c == 0) = false := by simpa using c0
  have d0' : (c != 0) = true := by simpa using c0
  have eW : wantS c s = sayZ := by unfold wantS; rw [if_neg c0]
  simp only [d0, if_false, Bool.false_eq_true]
  refine call_go TO 100 hK Tryd.func42 (by decide +kernel) rfl rfl rfl ?_
  cases hk : knB c with
  | false =>
    have eE : psE c s = 2 := by unfold psE; rw [if_pos (.inl hk)]
    rw [psL_bad (by rw [eE]; decide), eE]
    simp only [pureOpC, unc, absOps, absOp, evO, ungd, gdP, gdPs, setD, unV, T_ty, T_size, tTy, tSize, pureOp, guardOf, loadV, takeC, dropC, blkAt, fnd, ownN, nodup, bares, bare, bare0, guardIs, callP, callS, argS, mAs, mA, mA0, mB0, allNotIn, impN, impB, impT, packS, delL, Op.operands, List.getD, List.getElem?_cons_zero, List.getElem?_cons_succ, Option.getD_some, List.set, List.map, List.toList_toArray, List.getElem?_toArray, Option.bind_some, Option.map_some, true_and, and_self, implies_true, if_true, if_false, eq_self, ne_eq, not_false_eq_true, reduceCtorEq, Bool.false_eq_true, List.append_nil, Nat.reduceAdd, Nat.reduceSub, Nat.reduceEqDiff, Nat.reduceLeDiff, Bool.not_true, Bool.not_false, Bool.and_self]
    refine skip_go TO 100 (.bool false) ?_
    simp only [pureOpC, unc, absRun, absOps, absOp, evO, constSV, ungd, gdP, gdPs, setD, binI, binV, ptrE, unV, convV, T_ty, T_size, tTy, tSize, fieldOf, faddrV, pickV, pureOp, guardOf, memOp, loadV, known, cellAt, blkAt, fnd, Data.len, retP, resV, retQ, rAs, rA, rA0, ownN, nodup, bares, bare, bare0, bareD, guardIs, Op.operands, List.getD, List.getElem?_cons_zero, List.getElem?_cons_succ, Option.getD_some, List.set, List.map, List.toList_toArray, List.getElem?_toArray, Option.bind_some, true_and, and_self, implies_true, imp_self, if_true, if_false, eq_self, ne_eq, not_false_eq_true, Bool.false_eq_true, Nat.zero_add, Nat.add_zero, Bool.cond_true, List.length_nil, Nat.reduceAdd, Nat.reduceSub, Nat.reduceEqDiff, Nat.reduceLT, Nat.succ_ne_self, Bool.not_true, Bool.not_false, Bool.and_self, ge_iff_le]
  | true =>
    have eE : psE c s = if decide (wantS c s = s) = true ∧ ¬ 4294967296 ≤ s.size then 0 else 2 := by
      unfold psE
      by_cases h1 : wantS c s = s <;> by_cases h2 : 4294967296 ≤ s.size <;> simp [h1, h2, hk]
    have eL : psE c s = 0 → psL c s = [0, 0, 0, 0] := fun h => by unfold psL; rw [if_neg (by simpa using h), if_neg c0]
    generalize decide (wantS c s = s) = sw at hS eE
    simp only [eW, Say.sv, Say.cells, sayZ] at hS
    simp only [pureOpC, unc, absOps, absOp, evO, ungd, gdP, gdPs, setD, unV, T_ty, T_size, tTy, tSize, pureOp, guardOf, loadV, takeC, dropC, blkAt, fnd, ownN, nodup, bares, bare, bare0, guardIs, callP, callS, argS, mAs, mA, mA0, mB0, allNotIn, impN, impB, impT, packS, delL, Op.operands, List.getD, List.getElem?_cons_zero, List.getElem?_cons_succ, Option.getD_some, List.set, List.map, List.toList_toArray, List.getElem?_toArray, Option.bind_some, Option.map_some, true_and, and_self, implies_true, if_true, if_false, eq_self, ne_eq, not_false_eq_true, reduceCtorEq, List.append_nil, Nat.reduceAdd, Nat.reduceSub, Nat.reduceEqDiff, Nat.reduceLeDiff, Bool.not_true, Bool.not_false, Bool.and_self]
    refine call_go TO 100 hS Tryd.func22 (by decide +kernel) rfl rfl rfl ?_
    simp only [pureOpC, unc, absRun, absOps, absOp, evO, constSV, ungd, gdP, gdPs, setD, binI, binV, ptrE, unV, convV, T_ty, T_size, tTy, tSize, fieldOf, faddrV, pickV, pureOp, guardOf, memOp, loadV, known, cellAt, blkAt, fnd, Data.len, retP, resV, retQ, rAs, rA, rA0, ownN, nodup, bares, bare, bare0, bareD, guardIs, callP, callS, argS, mAs, mA, mA0, mB0, mAl, lowD, allNotIn, impN, impB, impT, packS, delL, Op.operands, List.getD, List.getElem?_cons_zero, List.getElem?_cons_succ, Option.getD_some, List.set, List.map, List.toList_toArray, List.getElem?_toArray, Option.bind_some, true_and, and_true, and_self, implies_true, imp_self, if_true, if_false, eq_self, ne_eq, not_false_eq_true, Nat.zero_add, Nat.add_zero, Bool.cond_true_left, Bool.cond_false, List.append_nil, List.length_nil, Nat.reduceAdd, Nat.reduceSub, Nat.reduceEqDiff, Nat.reduceLT, Nat.succ_ne_self, Bool.not_false, List.replicate_succ, List.replicate_zero, Bool.and_self, ge_iff_le]
    by_cases hE : sw = true ∧ ¬ 4294967296 ≤ s.size
    · rw [if_pos hE] at eE
      rw [eE, eL eE]
      obtain ⟨h1, h2⟩ := hE
      subst h1
      have hQ := Lay_meets [] 0 4 (by simp) rfl (by decide) (by decide) (by decide)
      rw [show ([] : List Int) ++ digs 4 0 = [0, 0, 0, 0] by decide] at hQ
      simp only [decide_eq_false h2, d0', and_self, if_true, if_false, eq_self, reduceCtorEq, Bool.false_eq_true, Nat.zero_add, List.length_cons, List.length_nil, Nat.reduceAdd, Bool.not_true, Bool.not_false, Bool.or_false, Int.reduceEq]
      refine call_go TO 100 hQ Tryd.func43 (by decide +kernel) rfl rfl rfl ?_
      simp only [pureOpC, unc, absRun, absOps, absOp, evO, constSV, ungd, gdP, gdPs, setD, notIn, blkAt, fnd, upd, Data.len, Data.esz, retP, resV, retQ, rAs, rA, rA0, ownN, nodup, bares, bare, bare0, bareD, guardIs, callP, callS, argS, mAs, mA, mA0, mB0, allNotIn, nm, impN, impB, impT, packS, delL, Op.operands, List.getD, List.getElem?_cons_zero, List.getElem?_cons_succ, Option.getD_some, List.set, List.map, List.toList_toArray, and_self, if_true, if_false, eq_self, Nat.zero_add, Nat.add_zero, Int.cast_ofNat_Int, List.append_nil, List.length_cons, List.length_nil, Nat.reduceAdd, Nat.reduceMul, Nat.reduceEqDiff, Bool.and_self]
    · rw [if_neg hE] at eE
      rw [psL_bad (by rw [eE]; decide), eE]
      rw [if_pos (show (!sw || decide (4294967296 ≤ s.size)) = true by
        by_cases h2 : 4294967296 ≤ s.size
        · simp [h2]
        · have : sw = false := by
            cases sw with
            | false => rfl
            | true => exact absurd ⟨rfl, h2⟩ hE
          simp [this])]
      exact ⟨rfl, rfl⟩

end Go.Proofs.YtfohefgpchbgkaaDoor.Abs
