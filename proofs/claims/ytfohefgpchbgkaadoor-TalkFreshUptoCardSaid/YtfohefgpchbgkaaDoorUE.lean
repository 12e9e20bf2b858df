/- What the document's GetAsk answers. -/
import Derived.Test.YtfohefgpchbgkaaDoorUD
set_option linter.unusedVariables false
set_option linter.unusedSimpArgs false
set_option maxRecDepth 100000
namespace Go.Proofs.YtfohefgpchbgkaaDoor.Abs
open Go Go.Proofs

theorem gaR0_most (b : List Int) : dlF b (rMV b 2 16 (0, 0)).toNat (rM b 2 16 3 (0, 0)) [] = gaR0 b := by
  unfold gaR0 rMV rM
  by_cases h : (rN b 2 (0, 0)).2 = 0 ∧ 16 < rV b 2 (0, 0)
  · rw [if_pos h, if_pos h, dlF_bad (by simp), dlF_bad (by simp)]
  · rw [if_neg h]

theorem rMV_lt (b : List Int) (k : Nat) (m : Int) (r : Nat × Int) (hB : Bytes b) : 0 ≤ rMV b k m r ∧ rMV b k m r < 256 ^ k := by
  unfold rMV
  split
  · exact ⟨by omega, Int.pow_pos (by decide)⟩
  · exact rV_lt b k r hB

set_option maxHeartbeats 8000000 in
theorem rGetAsk_meets (c : Int) (b : List Int) (hc : 0 ≤ c) (hb : b.length ≤ 274877906944) (hB : Bytes b) : Meets Tryd.prog 19 [.v (.int .u16 c), .v (.view false (.ints .u8 b))] [.v ((gaA c b).sv true), .v (.int .i64 (gaE c b))] := by
  have hK := Known_meets c hc
  have hb2 : b.length ≤ 140737488351232 := by omega
  refine meets_go TO 100 Tryd.func19 rfl (fun X => ?_)
  simp only [Tryd.ntmps19, Tryd.results19, pureOpC, svs, blks, AV.sv, absRun, absOps, absOp, evO, constSV, ungd, gdP, gdPs, setD, T_size, T_zero, tSize, tZero, pureOp, memOp, newV, notIn, upd, Lim.add, Op.operands, List.getD, List.getElem?_cons_zero, Option.getD_some, List.set, List.toList_toArray, true_and, and_self, ne_eq, not_false_eq_true, reduceCtorEq, Nat.zero_add, List.cons_append, List.nil_append, List.length_cons, List.length_nil, Nat.reduceAdd, Nat.reduceSub, List.replicate_succ, List.replicate_zero]
  refine call_go TO 100 hK Tryd.func42 (by decide +kernel) rfl rfl rfl ?_
  cases hk : knB c with
  | false =>
    have e1 : gaE c b = 2 := by unfold gaE; rw [if_neg (by rw [hk]; decide)]
    have e2 : gaA c b = askZ := by unfold gaA; rw [if_pos (by rw [e1]; decide)]
    rw [e1, e2]
    simp only [Ask.sv, Ask.cells, askZ, pureOpC, buildV, fillC, cntC, unc, absRun, absOps, absOp, evO, constSV, ungd, gdP, gdPs, setD, binI, binV, ptrE, unV, T_ty, T_size, T_zero, tTy, tSize, tZero, fieldOf, pureOp, memOp, loadV, newV, notIn, scal, cellsOf, okC, takeC, dropC, blkAt, fnd, upd, Data.len, Lim.add, retP, resV, retQ, rAs, rA, rA0, rAl, ownN, nodup, bares, bare, bare0, bareL, bareD, guardIs, callP, callS, argS, mAs, mA, mA0, mB0, allNotIn, impN, impB, impT, packS, delL, Op.operands, List.getD, List.getElem?_cons_zero, List.getElem?_cons_succ, Option.getD_some, List.set, List.map, List.all, List.toList_toArray, Option.bind_some, Option.map_some, true_and, and_self, if_true, if_false, eq_self, ne_eq, not_false_eq_true, reduceCtorEq, Nat.zero_add, Nat.add_zero, List.cons_append, List.nil_append, List.append_nil, List.length_nil, Nat.reduceAdd, Nat.reduceSub, Nat.reduceEqDiff, Nat.reduceLeDiff, Bool.not_false, List.replicate_succ, List.replicate_zero, Bool.and_self, Nat.reduceBNe]
  | true =>
    simp only [pureOpC, buildV, fillC, cntC, unc, absRun, absOps, absOp, evO, constSV, ungd, gdP, gdPs, setD, binI, binV, ptrE, unV, T_ty, T_size, T_zero, tTy, tSize, tZero, fieldOf, pureOp, memOp, loadV, newV, notIn, scal, cellsOf, okC, takeC, dropC, blkAt, fnd, upd, Data.len, Data.esz, Lim.add, retP, resV, retQ, rAs, rA, rA0, ownN, nodup, bares, bare, bare0, bareD, guardIs, callP, callS, argS, mAs, mA, mA0, mB0, allNotIn, impN, impB, impT, packS, delL, Op.operands, List.getD, List.getElem?_cons_zero, List.getElem?_cons_succ, Option.getD_some, List.set, List.map, List.all, List.toList_toArray, Option.bind_some, Option.map_some, true_and, and_true, and_self, if_true, if_false, eq_self, ne_eq, not_false_eq_true, reduceCtorEq, Bool.false_eq_true, Nat.zero_add, Nat.add_zero, List.cons_append, List.nil_append, List.append_nil, Nat.reduceAdd, Nat.reduceSub, Nat.reduceEqDiff, Nat.reduceLeDiff, Bool.not_true, List.replicate_succ, List.replicate_zero, Bool.and_true, Bool.and_self, Nat.reduceBNe]
    have eE : gaE c b = rEnd b (gaR c b) := by unfold gaE; rw [if_pos hk]
    have eA0 : gaE c b ≠ 0 → gaA c b = askZ := fun h => by unfold gaA; rw [if_pos h]
    by_cases c0 : c = 0
    · subst c0
      have eA : gaE 0 b = 0 → gaA 0 b = { askZ with dialects := (gaR0 b).1, guid := padA 16 (rP b 16 (gaR0 b).2) } := fun h => by unfold gaA; rw [if_neg (by rw [h]; simp), if_pos rfl]
      have eR : gaR 0 b = rN b 16 (gaR0 b).2 := rfl
      have eD := (gaR0_most b).symm
      have hm1 := rM_le (b := b) (k := 2) (m := 16) (e := 3) (r := (0, 0)) (Nat.zero_le _)
      rw [eR] at eE
      simp only [if_true, if_false, eq_self, Bool.false_eq_true, Int.reduceBEq, beq_self_eq_true]
      refine inC_ops TO 100 (rm_inC (n := 21) (k := 2) (m := 16) (e := 3) (r := (0, 0)) rfl hb2 hB (Nat.zero_le _) rfl) Tryd.func51 (by decide +kernel) rfl rfl rfl ⟨⟨rfl, rfl, by simp only [evO, constSV, gdP, gdPs, List.getD, List.getElem?_cons_zero, List.getElem?_cons_succ, Option.getD_some, and_self]⟩, ?_⟩
      have v1 := rMV_lt b 2 16 (0, 0) hB
      obtain ⟨N, hN⟩ : ∃ N : Nat, rMV b 2 16 (0, 0) = N := ⟨(rMV b 2 16 (0, 0)).toNat, by omega⟩
      rw [hN] at eD v1 ⊢
      rw [Int.toNat_natCast] at eD
      have hN2 : N < 65536 := by omega
      simp only [rdC, pureOpC, absRun, absOps, absOp, evO, constSV, ungd, gdP, gdPs, setD, upd, Op.operands, List.getD, List.getElem?_cons_zero, List.getElem?_cons_succ, Option.getD_some, List.set, List.toList_toArray, true_and, and_self, if_true, if_false, eq_self, Nat.reduceAdd, Nat.reduceEqDiff]
      generalize rM b 2 16 3 (0, 0) = q at *
      generalize gaR0 b = D at *
      refine raise_go 40 (by simp) (newb_go 47 (.ints .u16 []) rfl ?_)
      refine cells_go 7 (akC (.sl 47 41 0 1 0 0) z16 z32 ByteArray.empty ByteArray.empty) ⟨⟨rfl, ?_⟩, ?_⟩
      · rintro σ w cs ⟨w1, c1, rfl, p1, p2⟩
        exact ⟨w1, _, rfl, V0_nil_sl (.inl (by simp only; omega)) p1, p2⟩
      simp only [upd, if_true, if_false, eq_self, Nat.reduceAdd, Nat.reduceEqDiff]
      refine loop_up (fun x : Nat × (Nat × Int) × List Int × Nat × Nat => x.1 ≤ N ∧ x.2.1.1 ≤ b.length ∧ dlF b (N - x.1) x.2.1 x.2.2.1 = D ∧ x.2.2.1.length ≤ x.1)
        (fun x => ⟨tl 96 0 [(4, .ptr 4 2 0), (5, .int .i64 0), (6, .ptr 21 4 0), (7, .ptr 7 5 0), (8, .int .u64 N), (9, .int .u64 x.1)], [(4, 2, .cells (akC .nil z16 z32 ByteArray.empty ByteArray.empty)),
          (21, 4, rdC b x.2.1 []), (7, 5, .cells (akC (.sl 47 x.2.2.2.1 0 1 0 x.2.2.1.length) z16 z32 ByteArray.empty ByteArray.empty)), (47, x.2.2.2.1, .vec (.ints .u16 x.2.2.1))], ⟨x.2.2.2.2, [], 0⟩⟩) (fun x => N - x.1) (0, q, [], 41, _) ⟨Nat.zero_le _, hm1, eD.symm, Nat.le_refl _⟩ ⟨rfl, ?_, ?_⟩ ?_
      · simp [LeT, tl]
      · intro m x hx
        simpa [fnd, rdC] using hx
      rintro ⟨i, r, l, g, c⟩ ⟨hi, hr, hD, hl⟩ ih
      simp only at hi hr hD hl
      refine absRun_ok TO 100 _ _ ?_
      simp only [rdC, akC, pureOpC, unc, absRun, absOps, absOp, evO, constSV, ungd, gdP, gdPs, setD, binI, binV, ptrE, T_ty, T_size, tTy, tSize, fieldOf, faddrV, pickV, pureOp, guardOf, memOp, loadV, cellAt, blkAt, fnd, Op.operands, List.getD, List.getElem?_cons_zero, List.getElem?_cons_succ, Option.getD_some, List.set, List.toList_toArray, List.getElem?_toArray, Option.bind_some, exitTo, true_and, and_self, implies_true, imp_self, if_true, if_false, eq_self, ne_eq, not_false_eq_true, reduceCtorEq, Bool.false_eq_true, Nat.zero_add, Bool.cond_false_right, List.cons_append, List.nil_append, Nat.reduceAdd, Nat.reduceSub, Nat.reduceEqDiff, Nat.reduceBEq, Nat.succ_ne_self, beq_self_eq_true, List.replicate_succ, List.replicate_zero, tl]
      by_cases hgo : i < N ∧ r.2 = 0
      · rw [if_pos (show (decide ((i : Int) < (N : Int)) && r.2 == 0) = true by simp; omega)]
        have v2 := rV_lt b 2 r hB
        have w2 : IntKind.u16.wrap (rV b 2 r) = rV b 2 r := by rw [IntKind.wrap_u16]; omega
        have wi : IntKind.u64.wrap ((i : Int) + 1) = ((i + 1 : Nat) : Int) := by rw [wu64 (by omega) (by omega)]; omega
        refine drawI_go TO (fun _ : Unit => [(7, 5, .cells (akC (.sl 47 g 0 1 0 l.length) z16 z32 ByteArray.empty ByteArray.empty))]) 7 100 mixed_ok (by decide +kernel) ⟨⟨(), rfl, trivial⟩, ?_⟩
        simp only [akC, List.take_succ_cons, List.take_zero, List.drop_succ_cons, List.drop_zero, pureOpC, unc, isEff, pureStep, absRun, absOps, absOp, evO, constSV, ungd, gdP, gdPs, setD, binI, binV, ptrE, binS, T_ty, T_size, tTy, tSize, fieldOf, faddrV, pureOp, memOp, loadV, scal, cellAt, blkAt, fnd, Op.operands, List.getD, List.getElem?_cons_zero, List.getElem?_cons_succ, Option.getD_some, List.set, List.toList_toArray, Option.isSome, true_and, and_true, and_self, implies_true, imp_self, if_true, if_false, ite_self, eq_self, ne_eq, not_false_eq_true, forall_const, reduceCtorEq, Nat.add_zero, Nat.reduceSub, Nat.reduceEqDiff, Nat.reduceLT, Nat.succ_ne_self, absI]
        refine callI_go TO (fun s' h' => HOps_go TO 100 h') (rn_inC (n := 21) (k := 2) (r := r) rfl hb2 hB hr rfl) Tryd.func52 (by decide +kernel) rfl rfl rfl ⟨⟨rfl, rfl, by simp only [evO, constSV, gdP, gdPs, List.getD, List.getElem?_cons_zero, List.getElem?_cons_succ, Option.getD_some, and_self]⟩, ⟨(), rfl, trivial⟩, ?_⟩
        simp only [rdC, w2, wi, List.take_succ_cons, List.take_zero, List.drop_zero, pureOpC, unc, fitT, isEff, pureStep, subB, absRun, absOps, absOp, evO, constSV, ungd, gdP, gdPs, setD, binI, binV, ptrE, convV, T_ty, T_size, T_bytes, T_zero, tTy, tSize, tBytes, tZero, fieldOf, faddrV, pureOp, memOp, newV, notIn, dataOf, appD, isSrc, scal, elemsOf, intsOf, zI, known, setC, blkAt, fnd, upd, del, mv, Data.len, Data.esz, Data.sub, Lim.add, Op.operands, Call.operands, List.getD, List.getElem?_cons_zero, List.getElem?_cons_succ, Option.getD_some, List.set, List.map, List.toList_toArray, Option.map_some, Option.map_none, Option.isSome, true_and, and_self, implies_true, if_true, if_false, ite_self, eq_self, ne_eq, not_false_eq_true, Nat.zero_add, Nat.add_zero, Nat.le_refl, List.append_toArray, List.nil_append, List.length_cons, List.length_nil, Nat.reduceSub, Nat.reduceEqDiff, Nat.reduceLeDiff, Nat.reduceLT, Nat.succ_ne_self, absI]
        refine ⟨⟨(), trivial⟩, ⟨by omega, by omega⟩, ⟨(), trivial⟩, ?_⟩
        have hstep : dlF b (N - (i + 1)) (rN b 2 r) (l ++ [rV b 2 r]) = D := by
          rw [← hD, show N - i = (N - (i + 1)) + 1 by omega]
          conv => rhs; unfold dlF
          rw [if_pos hgo.2]
        refine ih (i + 1, rN b 2 r, l ++ [rV b 2 r], c + 15, _) _ ⟨by omega, rN_le hr, hstep, by simp only [List.length_append, List.length_cons, List.length_nil]; omega⟩ (by simp only; omega) rfl ?_ ?_
        · simp [LeT, tl]
        · intro m x hx
          simp only [fnd, rdC, akC] at hx ⊢
          split at hx
          · rename_i e; subst e; simpa using hx
          split at hx
          · rename_i e; subst e; simpa using hx
          split at hx
          · rename_i e; subst e; simpa using hx
          split at hx
          · rename_i e; subst e; simpa using hx
          cases hx
      · rw [if_neg (show ¬ (decide ((i : Int) < (N : Int)) && r.2 == 0) = true by simp; omega)]
        have eDD : D = (l, r) := by
          rw [← hD]
          rcases Nat.lt_or_ge i N with h | h
          · exact dlF_bad (by omega)
          · rw [show N - i = 0 by omega]; rfl
        subst eDD
        simp only at eE eA
        have hpl := rP_len b 16 r
        have h4 := rN_le (b := b) (k := 16) (r := r) hr
        refine inC_ops TO 100 (rp_inC (n := 21) (k := 16) (r := r) rfl rfl hb2 hr (by decide)) Tryd.func53 (by decide +kernel) rfl rfl rfl ⟨⟨rfl, rfl, by simp only [evO, constSV, gdP, gdPs, List.getD, List.getElem?_cons_zero, List.getElem?_cons_succ, Option.getD_some, and_self]⟩, ?_⟩
        simp only [rdC, pureOpC, absRun, absOps, absOp, evO, constSV, ungd, gdP, gdPs, setD, upd, Op.operands, List.getD, List.getElem?_cons_zero, List.getElem?_cons_succ, Option.getD_some, List.set, List.toList_toArray, true_and, and_self, if_true, if_false, eq_self, Nat.reduceEqDiff]
        generalize rP b 16 r = p at *
        generalize rN b 16 r = r4 at *
        refine loop_up (fun x : Nat × Nat => x.1 ≤ p.length)
          (fun x => ⟨tl 96 0 [(4, .ptr 4 2 0), (5, .int .i64 0), (6, .ptr 21 4 0), (7, .ptr 7 5 0), (10, .view true (.ints .u8 p)), (11, .int .i64 x.1)], [(4, 2, .cells (akC .nil z16 z32 ByteArray.empty ByteArray.empty)),
            (21, 4, rdC b r4 []), (7, 5, .cells (akC (.sl 47 g 0 1 0 l.length) (p.take x.1 ++ List.replicate (16 - x.1) 0) z32 ByteArray.empty ByteArray.empty)), (47, g, .vec (.ints .u16 l))], ⟨x.2, [], 0⟩⟩) (fun x => p.length - x.1) (0, _) (Nat.zero_le _) ⟨rfl, ?_, ?_⟩ ?_
        · simp [LeT, tl]
        · intro m x hx
          simpa [fnd, rdC] using hx
        clear ih
        rintro ⟨i, c⟩ hi ih
        simp only at hi
        refine absRun_ok TO 100 _ _ ?_
        simp only [rdC, akC, pureOpC, unc, absRun, absOps, absOp, evO, constSV, ungd, gdP, gdPs, setD, binI, binV, ptrE, T_ty, T_size, tTy, tSize, fieldOf, faddrV, iaddrV, pureOp, memOp, lenV, loadV, arrAt, setA, blkAt, fnd, upd, elemV, Data.len, Data.esz, Op.operands, Call.operands, List.getD, List.getElem?_cons_zero, List.getElem?_cons_succ, Option.getD_some, List.set, List.toList_toArray, Option.map_some, Option.map_none, exitTo, true_and, and_self, if_true, if_false, ite_self, eq_self, ne_eq, not_false_eq_true, reduceCtorEq, Bool.false_eq_true, Nat.zero_add, Int.toNat_natCast, Int.cast_ofNat_Int, Nat.le_refl, List.append_toArray, List.cons_append, List.nil_append, Nat.reduceAdd, Nat.reduceSub, Nat.reduceEqDiff, Nat.reduceBEq, Nat.reduceLeDiff, Nat.reduceLT, Nat.succ_ne_self, beq_self_eq_true, List.replicate_succ, List.replicate_zero, tl]
        by_cases hil : i < p.length
        · have hfs := fill_step hil hpl
          have wi : IntKind.i64.wrap ((i : Int) + 1) = ((i + 1 : Nat) : Int) := by rw [w64 (by omega) (by omega)]; omega
          rw [if_pos (decide_eq_true (by omega))]
          simp only [hfs, wi]
          refine ⟨⟨by omega, by omega⟩, ⟨by omega, by omega⟩, ?_⟩
          refine ih (i + 1, _) _ hil (by simp only; omega) rfl ?_ ?_
          · simp [LeT, tl]
          · intro m x hx
            simpa [fnd, rdC] using hx
        · rw [if_neg (by rw [decide_eq_true_eq]; omega)]
          have hip : i = p.length := by omega
          subst hip
          refine freezeC_ops 7 0 47 (.ints .u16 l) ⟨⟨rfl, rfl, by simp [fnd], by decide, by simp [Data.len]⟩, ?_⟩
          simp only [List.drop_zero, upd, del, Data.sub, List.set, if_true, if_false, eq_self, List.take_length, Nat.reduceEqDiff]
          refine inC_ops TO 100 (re_inC (n := 21) (r := r4) rfl hb2 hB h4) Tryd.func55 (by decide +kernel) rfl rfl rfl ⟨⟨rfl, rfl, by simp only [evO, gdP, gdPs, List.getD, List.getElem?_cons_zero, List.getElem?_cons_succ, Option.getD_some, and_self]⟩, ?_⟩
          rw [← eE]
          have hpd : padA 16 p = p.take p.length ++ List.replicate (16 - p.length) 0 := by rw [List.take_length]; rfl
          by_cases hE : gaE 0 b = 0
          · rw [eA hE]
            simp only [hE, hpd, rdC, Ask.sv, Ask.cells, askZ, pureOpC, buildV, fillC, cntC, unc, absRun, absOps, absOp, evO, constSV, ungd, gdP, gdPs, setD, binI, binV, ptrE, T_ty, T_size, T_zero, tTy, tSize, tZero, pureOp, memOp, loadV, scal, okC, takeC, dropC, blkAt, fnd, upd, Data.len, retP, resV, retQ, rAs, rA, rA0, rAl, ownN, nodup, bares, bare, bare0, bareL, bareD, Op.operands, List.getD, List.getElem?_cons_zero, List.getElem?_cons_succ, Option.getD_some, List.set, List.map, List.all, List.toList_toArray, Option.bind_some, Option.map_some, true_and, and_true, and_self, implies_true, if_true, if_false, eq_self, ne_eq, not_false_eq_true, reduceCtorEq, Bool.false_eq_true, List.take_length, Nat.zero_add, Nat.add_zero, Int.reduceBNe, List.nil_append, List.append_nil, List.length_nil, Nat.reduceAdd, Nat.reduceSub, Nat.reduceEqDiff, Nat.reduceLeDiff, List.replicate_succ, List.replicate_zero, Bool.and_self, Nat.reduceBNe]
          · have hE' : (gaE 0 b != 0) = true := by simpa using hE
            rw [eA0 hE]
            simp only [hE', rdC, Ask.sv, Ask.cells, askZ, pureOpC, buildV, fillC, cntC, unc, absRun, absOps, absOp, evO, constSV, ungd, gdP, gdPs, setD, binI, binV, ptrE, T_ty, T_size, T_zero, tTy, tSize, tZero, pureOp, memOp, loadV, scal, okC, takeC, dropC, blkAt, fnd, upd, Data.len, retP, resV, retQ, rAs, rA, rA0, rAl, ownN, nodup, bares, bare, bare0, bareL, bareD, Op.operands, List.getD, List.getElem?_cons_zero, List.getElem?_cons_succ, Option.getD_some, List.set, List.map, List.all, List.toList_toArray, Option.bind_some, Option.map_some, true_and, and_true, and_self, implies_true, if_true, if_false, eq_self, ne_eq, not_false_eq_true, reduceCtorEq, Nat.zero_add, Nat.add_zero, List.nil_append, List.append_nil, List.length_nil, Nat.reduceAdd, Nat.reduceSub, Nat.reduceEqDiff, Nat.reduceLeDiff, List.replicate_succ, List.replicate_zero, Bool.and_self, Data.ints.injEq, Nat.reduceBNe]
    have d0 : (c == 0) = false := by simpa using c0
    by_cases c1 : c = 1
    · subst c1
      have eA : gaE 1 b = 0 → gaA 1 b = { askZ with proof := padA 32 (rP b 32 (0, 0)), user := rS b (rN b 32 (0, 0)) } := fun h => by unfold gaA; rw [if_neg (by rw [h]; simp), if_neg (by decide), if_pos rfl]
      have eR : gaR 1 b = rT b (rN b 32 (0, 0)) := rfl
      rw [eR] at eE
      simp only [if_true, if_false, eq_self, Bool.false_eq_true, Int.reduceBEq, beq_self_eq_true]
      have hpl := rP_len b 32 (0, 0)
      have h4 := rN_le (b := b) (k := 32) (r := (0, 0)) (Nat.zero_le _)
      refine inC_ops TO 100 (rp_inC (n := 21) (k := 32) (r := (0, 0)) rfl rfl hb2 (Nat.zero_le _) (by decide)) Tryd.func53 (by decide +kernel) rfl rfl rfl ⟨⟨rfl, rfl, by simp only [evO, constSV, gdP, gdPs, List.getD, List.getElem?_cons_zero, List.getElem?_cons_succ, Option.getD_some, and_self]⟩, ?_⟩
      simp only [rdC, pureOpC, absRun, absOps, absOp, evO, constSV, ungd, gdP, gdPs, setD, upd, Op.operands, List.getD, List.getElem?_cons_zero, List.getElem?_cons_succ, Option.getD_some, List.set, List.toList_toArray, true_and, and_self, if_true, if_false, eq_self, Nat.reduceAdd, Nat.reduceEqDiff]
      generalize rP b 32 (0, 0) = p at *
      generalize rN b 32 (0, 0) = r4 at *
      refine loop_up (fun x : Nat × Nat => x.1 ≤ p.length)
        (fun x => ⟨tl 96 0 [(4, .ptr 4 2 0), (5, .int .i64 0), (6, .ptr 21 4 0), (7, .ptr 7 5 0), (12, .view true (.ints .u8 p)), (13, .int .i64 x.1)], [(4, 2, .cells (akC .nil z16 z32 ByteArray.empty ByteArray.empty)),
          (21, 4, rdC b r4 []), (7, 5, .cells (akC .nil z16 (p.take x.1 ++ List.replicate (32 - x.1) 0) ByteArray.empty ByteArray.empty))], ⟨x.2, [], 0⟩⟩) (fun x => p.length - x.1) (0, _) (Nat.zero_le _) ⟨rfl, ?_, ?_⟩ ?_
      · simp [LeT, tl]
      · intro m x hx
        simpa [fnd, rdC] using hx
      rintro ⟨i, c⟩ hi ih
      simp only at hi
      refine absRun_ok TO 100 _ _ ?_
      simp only [rdC, akC, pureOpC, unc, absRun, absOps, absOp, evO, constSV, ungd, gdP, gdPs, setD, binI, binV, ptrE, T_ty, T_size, tTy, tSize, fieldOf, faddrV, iaddrV, pureOp, memOp, lenV, loadV, arrAt, setA, blkAt, fnd, upd, elemV, Data.len, Data.esz, Op.operands, Call.operands, List.getD, List.getElem?_cons_zero, List.getElem?_cons_succ, Option.getD_some, List.set, List.toList_toArray, Option.map_some, Option.map_none, exitTo, true_and, and_self, if_true, if_false, ite_self, eq_self, ne_eq, not_false_eq_true, reduceCtorEq, Bool.false_eq_true, Nat.zero_add, Int.toNat_natCast, Int.cast_ofNat_Int, Nat.le_refl, List.append_toArray, List.cons_append, List.nil_append, Nat.reduceAdd, Nat.reduceSub, Nat.reduceEqDiff, Nat.reduceBEq, Nat.reduceLeDiff, Nat.reduceLT, Nat.succ_ne_self, beq_self_eq_true, List.replicate_succ, List.replicate_zero, tl]
      by_cases hil : i < p.length
      · have hfs := fill_step hil hpl
        have wi : IntKind.i64.wrap ((i : Int) + 1) = ((i + 1 : Nat) : Int) := by rw [w64 (by omega) (by omega)]; omega
        rw [if_pos (decide_eq_true (by omega))]
        simp only [hfs, wi]
        refine ⟨⟨by omega, by omega⟩, ⟨by omega, by omega⟩, ?_⟩
        refine ih (i + 1, _) _ hil (by simp only; omega) rfl ?_ ?_
        · simp [LeT, tl]
        · intro m x hx
          simpa [fnd, rdC] using hx
      rw [if_neg (by rw [decide_eq_true_eq]; omega)]
      have hip : i = p.length := by omega
      subst hip
      refine inC_ops TO 100 (rt_inC (n := 21) (r := r4) rfl hb hB h4) Tryd.func54 (by decide +kernel) rfl rfl rfl ⟨⟨rfl, rfl, by simp only [evO, gdP, gdPs, List.getD, List.getElem?_cons_zero, List.getElem?_cons_succ, Option.getD_some, and_self]⟩, ?_⟩
      have h5 := rT_le hB h4
      simp only [rdC, pureOpC, unc, absRun, absOps, absOp, evO, ungd, gdP, gdPs, setD, T_ty, T_size, tTy, tSize, fieldOf, faddrV, pureOp, memOp, scal, setC, blkAt, fnd, upd, Op.operands, List.getD, List.getElem?_cons_zero, List.getElem?_cons_succ, Option.getD_some, List.set, List.toList_toArray, Option.map_some, Option.map_none, true_and, and_self, if_true, if_false, eq_self, ne_eq, not_false_eq_true, reduceCtorEq, List.take_length, Nat.zero_add, Nat.reduceSub, Nat.reduceEqDiff, Nat.reduceLT, Nat.succ_ne_self]
      generalize rT b r4 = r5 at *
      refine inC_ops TO 100 (re_inC (n := 21) (r := r5) rfl hb2 hB h5) Tryd.func55 (by decide +kernel) rfl rfl rfl ⟨⟨rfl, rfl, by simp only [evO, gdP, gdPs, List.getD, List.getElem?_cons_zero, List.getElem?_cons_succ, Option.getD_some, and_self]⟩, ?_⟩
      rw [← eE]
      have hpd : padA 32 p = p.take p.length ++ List.replicate (32 - p.length) 0 := by rw [List.take_length]; rfl
      by_cases hE : gaE 1 b = 0
      · rw [eA hE]
        simp only [hE, hpd, rdC, Ask.sv, Ask.cells, askZ, pureOpC, buildV, fillC, cntC, unc, absRun, absOps, absOp, evO, constSV, ungd, gdP, gdPs, setD, binI, binV, ptrE, T_ty, T_size, T_zero, tTy, tSize, tZero, pureOp, memOp, loadV, scal, okC, takeC, dropC, blkAt, fnd, upd, Data.len, retP, resV, retQ, rAs, rA, rA0, rAl, ownN, nodup, bares, bare, bare0, bareL, bareD, Op.operands, List.getD, List.getElem?_cons_zero, List.getElem?_cons_succ, Option.getD_some, List.set, List.map, List.all, List.toList_toArray, Option.bind_some, Option.map_some, true_and, and_true, and_self, if_true, if_false, eq_self, ne_eq, not_false_eq_true, reduceCtorEq, Bool.false_eq_true, List.take_length, Nat.zero_add, Nat.add_zero, Int.reduceBNe, List.nil_append, List.append_nil, List.length_nil, Nat.reduceAdd, Nat.reduceSub, Nat.reduceEqDiff, Nat.reduceLeDiff, List.replicate_succ, List.replicate_zero, Bool.and_self, Nat.reduceBNe]
      · have hE' : (gaE 1 b != 0) = true := by simpa using hE
        rw [eA0 hE]
        simp only [hE', rdC, Ask.sv, Ask.cells, askZ, pureOpC, buildV, fillC, cntC, unc, absRun, absOps, absOp, evO, constSV, ungd, gdP, gdPs, setD, binI, binV, ptrE, T_ty, T_size, T_zero, tTy, tSize, tZero, pureOp, memOp, loadV, scal, okC, takeC, dropC, blkAt, fnd, upd, Data.len, retP, resV, retQ, rAs, rA, rA0, rAl, ownN, nodup, bares, bare, bare0, bareL, bareD, Op.operands, List.getD, List.getElem?_cons_zero, List.getElem?_cons_succ, Option.getD_some, List.set, List.map, List.all, List.toList_toArray, Option.bind_some, Option.map_some, true_and, and_true, and_self, if_true, if_false, eq_self, ne_eq, not_false_eq_true, reduceCtorEq, Nat.zero_add, Nat.add_zero, List.nil_append, List.append_nil, List.length_nil, Nat.reduceAdd, Nat.reduceSub, Nat.reduceEqDiff, Nat.reduceLeDiff, List.replicate_succ, List.replicate_zero, Bool.and_self, Nat.reduceBNe]
    have d1 : (c == 1) = false := by simpa using c1
    by_cases c3 : c = 3
    · subst c3
      have eA : gaE 3 b = 0 → gaA 3 b = { askZ with share := rS b (0, 0) } := fun h => by unfold gaA; rw [if_neg (by rw [h]; simp), if_neg (by decide), if_neg (by decide), if_pos rfl]
      have eR : gaR 3 b = rT b (0, 0) := rfl
      rw [eR] at eE
      simp only [if_true, if_false, eq_self, Bool.false_eq_true, Int.reduceBEq, beq_self_eq_true]
      refine inC_ops TO 100 (rt_inC (n := 21) (r := (0, 0)) rfl hb hB (Nat.zero_le _)) Tryd.func54 (by decide +kernel) rfl rfl rfl ⟨⟨rfl, rfl, by simp only [evO, gdP, gdPs, List.getD, List.getElem?_cons_zero, List.getElem?_cons_succ, Option.getD_some, and_self]⟩, ?_⟩
      have h5 := rT_le (r := (0, 0)) hB (Nat.zero_le _)
      simp only [rdC, pureOpC, unc, absRun, absOps, absOp, evO, ungd, gdP, gdPs, setD, T_ty, T_size, tTy, tSize, fieldOf, faddrV, pureOp, memOp, scal, setC, blkAt, fnd, upd, Op.operands, List.getD, List.getElem?_cons_zero, List.getElem?_cons_succ, Option.getD_some, List.set, List.toList_toArray, Option.map_some, Option.map_none, true_and, and_self, if_true, if_false, eq_self, ne_eq, not_false_eq_true, reduceCtorEq, Nat.zero_add, Nat.reduceAdd, Nat.reduceSub, Nat.reduceEqDiff, Nat.reduceLT, Nat.succ_ne_self]
      generalize rT b (0, 0) = r5 at *
      refine inC_ops TO 100 (re_inC (n := 21) (r := r5) rfl hb2 hB h5) Tryd.func55 (by decide +kernel) rfl rfl rfl ⟨⟨rfl, rfl, by simp only [evO, gdP, gdPs, List.getD, List.getElem?_cons_zero, List.getElem?_cons_succ, Option.getD_some, and_self]⟩, ?_⟩
      rw [← eE]
      by_cases hE : gaE 3 b = 0
      · rw [eA hE]
        simp only [hE, rdC, Ask.sv, Ask.cells, askZ, pureOpC, buildV, fillC, cntC, unc, absRun, absOps, absOp, evO, constSV, ungd, gdP, gdPs, setD, binI, binV, ptrE, T_ty, T_size, T_zero, tTy, tSize, tZero, pureOp, memOp, loadV, scal, okC, takeC, dropC, blkAt, fnd, upd, Data.len, retP, resV, retQ, rAs, rA, rA0, rAl, ownN, nodup, bares, bare, bare0, bareL, bareD, Op.operands, List.getD, List.getElem?_cons_zero, List.getElem?_cons_succ, Option.getD_some, List.set, List.map, List.all, List.toList_toArray, Option.bind_some, Option.map_some, true_and, and_true, and_self, if_true, if_false, eq_self, ne_eq, not_false_eq_true, reduceCtorEq, Bool.false_eq_true, Nat.zero_add, Nat.add_zero, Int.reduceBNe, List.nil_append, List.append_nil, List.length_nil, Nat.reduceAdd, Nat.reduceSub, Nat.reduceEqDiff, Nat.reduceLeDiff, List.replicate_succ, List.replicate_zero, Bool.and_self, Nat.reduceBNe]
      · have hE' : (gaE 3 b != 0) = true := by simpa using hE
        rw [eA0 hE]
        simp only [hE', rdC, Ask.sv, Ask.cells, askZ, pureOpC, buildV, fillC, cntC, unc, absRun, absOps, absOp, evO, constSV, ungd, gdP, gdPs, setD, binI, binV, ptrE, T_ty, T_size, T_zero, tTy, tSize, tZero, pureOp, memOp, loadV, scal, okC, takeC, dropC, blkAt, fnd, upd, Data.len, retP, resV, retQ, rAs, rA, rA0, rAl, ownN, nodup, bares, bare, bare0, bareL, bareD, Op.operands, List.getD, List.getElem?_cons_zero, List.getElem?_cons_succ, Option.getD_some, List.set, List.map, List.all, List.toList_toArray, Option.bind_some, Option.map_some, true_and, and_true, and_self, if_true, if_false, eq_self, ne_eq, not_false_eq_true, reduceCtorEq, Nat.zero_add, Nat.add_zero, List.nil_append, List.append_nil, List.length_nil, Nat.reduceAdd, Nat.reduceSub, Nat.reduceEqDiff, Nat.reduceLeDiff, List.replicate_succ, List.replicate_zero, Bool.and_self, Nat.reduceBNe]
    have d3 : (c == 3) = false := by simpa using c3
    have eA : gaA c b = askZ := by
      unfold gaA
      rw [if_neg c0, if_neg c1, if_neg c3]
      simp
    have eR : gaR c b = rM b 4 0 5 (0, 0) := by unfold gaR; rw [if_neg c0, if_neg c1, if_neg c3]
    rw [eR] at eE
    simp only [d0, d1, d3, if_false, Bool.false_eq_true]
    refine inC_ops TO 100 (rm_inC (n := 21) (k := 4) (m := 0) (e := 5) (r := (0, 0)) rfl hb2 hB (Nat.zero_le _) rfl) Tryd.func51 (by decide +kernel) rfl rfl rfl ⟨⟨rfl, rfl, by simp only [evO, constSV, gdP, gdPs, List.getD, List.getElem?_cons_zero, List.getElem?_cons_succ, Option.getD_some, and_self]⟩, ?_⟩
    have hl := rM_le (b := b) (k := 4) (m := 0) (e := 5) (r := (0, 0)) (Nat.zero_le _)
    generalize rM b 4 0 5 (0, 0) = r at *
    simp only [rdC, pureOpC, absRun, absOps, absOp, evO, ungd, gdP, gdPs, setD, pureOp, memOp, upd, Op.operands, List.getD, List.getElem?_cons_zero, List.getElem?_cons_succ, Option.getD_some, List.set, List.toList_toArray, true_and, and_self, if_true, if_false, eq_self, Nat.reduceAdd, Nat.reduceEqDiff]
    refine inC_ops TO 100 (re_inC (n := 21) (r := r) rfl hb2 hB hl) Tryd.func55 (by decide +kernel) rfl rfl rfl ⟨⟨rfl, rfl, by simp only [evO, gdP, gdPs, List.getD, List.getElem?_cons_zero, List.getElem?_cons_succ, Option.getD_some, and_self]⟩, ?_⟩
    rw [← eE, eA]
    by_cases hE : gaE c b = 0
    · simp only [hE, rdC, Ask.sv, Ask.cells, askZ, pureOpC, buildV, fillC, cntC, unc, absRun, absOps, absOp, evO, constSV, ungd, gdP, gdPs, setD, binI, binV, ptrE, T_ty, T_size, T_zero, tTy, tSize, tZero, pureOp, memOp, loadV, scal, okC, takeC, dropC, blkAt, fnd, upd, Data.len, retP, resV, retQ, rAs, rA, rA0, rAl, ownN, nodup, bares, bare, bare0, bareL, bareD, Op.operands, List.getD, List.getElem?_cons_zero, List.getElem?_cons_succ, Option.getD_some, List.set, List.map, List.all, List.toList_toArray, Option.bind_some, Option.map_some, and_self, if_true, if_false, ite_self, eq_self, ne_eq, not_false_eq_true, reduceCtorEq, Bool.false_eq_true, Nat.zero_add, Nat.add_zero, Int.reduceBNe, List.nil_append, List.append_nil, List.length_nil, Nat.reduceAdd, Nat.reduceSub, Nat.reduceEqDiff, Nat.reduceLeDiff, List.replicate_succ, List.replicate_zero, Bool.and_self, Nat.reduceBNe]
    · have hE' : (gaE c b != 0) = true := by simpa using hE
      simp only [hE', rdC, Ask.sv, Ask.cells, askZ, pureOpC, buildV, fillC, cntC, unc, absRun, absOps, absOp, evO, constSV, ungd, gdP, gdPs, setD, binI, binV, ptrE, T_ty, T_size, T_zero, tTy, tSize, tZero, pureOp, memOp, loadV, scal, okC, takeC, dropC, blkAt, fnd, upd, Data.len, retP, resV, retQ, rAs, rA, rA0, rAl, ownN, nodup, bares, bare, bare0, bareL, bareD, Op.operands, List.getD, List.getElem?_cons_zero, List.getElem?_cons_succ, Option.getD_some, List.set, List.map, List.all, List.toList_toArray, Option.bind_some, Option.map_some, true_and, and_true, and_self, if_true, if_false, eq_self, ne_eq, not_false_eq_true, reduceCtorEq, Nat.zero_add, Nat.add_zero, List.nil_append, List.append_nil, List.length_nil, Nat.reduceAdd, Nat.reduceSub, Nat.reduceEqDiff, Nat.reduceLeDiff, List.replicate_succ, List.replicate_zero, Bool.and_self, Nat.reduceBNe]

end Go.Proofs.YtfohefgpchbgkaaDoor.Abs
