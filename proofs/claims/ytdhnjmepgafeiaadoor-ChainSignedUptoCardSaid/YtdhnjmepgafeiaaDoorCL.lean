/- The law ChainSigned answers true. -/
import Derived.Test.YtdhnjmepgafeiaaDoorCJ
import Derived.Test.YtdhnjmepgafeiaaDoorCK
import Derived.Test.YtdhnjmepgafeiaaDoorC3
set_option linter.unusedVariables false
set_option linter.unusedSimpArgs false
set_option maxRecDepth 100000
namespace Go.Proofs.YtdhnjmepgafeiaaDoor.Abs
open Go Go.Proofs

theorem bytes_flat {l : List (List Int)} (h : ∀ b ∈ l, Bytes b) : Bytes l.flatten := by
  intro x hx
  obtain ⟨b, hb, hxb⟩ := List.mem_flatten.1 hx
  exact h b hb x hxb

theorem got_ok {r : List Int} (hB : Bytes r) (e : gotE r 0 = 0) : (gotH r 0).ok := by
  have := got_len e
  unfold gotH; rw [if_pos e]; exact getH_ok r 0 hB (by decide) (by omega)

set_option maxHeartbeats 8000000 in
theorem ChainSigned_law (K : List Int) (l : List (List Int)) (hK : K.length ≤ 1048576 ∧ Bytes K) (hl : l.length ≤ 1048576 ∧ ∀ b ∈ l, b.length ≤ 1048576 ∧ Bytes b) : Meets Tryd.prog 5 ([.view false (.ints .u8 K), .view false (.rows false l)].map .v) [.v (.bool true)] := by
  obtain ⟨hK, hKB⟩ := hK
  obtain ⟨hl, hr⟩ := hl
  have hLo := long_meets l K hl hr hK
  refine meets_go TO 100 Tryd.func5 rfl (fun X => ?_)
  simp only [Tryd.ntmps5, Tryd.results5, pureOpC, svs, blks, AV.sv, absRun, absOps, absOp, evO, constSV, ungd, gdP, gdPs, setD, pureOp, memOp, Op.operands, List.getD, List.getElem?_cons_zero, List.getElem?_cons_succ, Option.getD_some, List.set, List.map, List.toList_toArray, true_and, and_self, Nat.zero_add, List.cons_append, List.nil_append, List.length_cons, List.length_nil, Nat.reduceAdd, Nat.reduceSub, List.replicate_succ, List.replicate_zero]
  refine call_go TO 100 hLo Tryd.func6 (by decide +kernel) rfl rfl rfl ?_
  simp only [pureOpC, unc, absRun, absOps, absOp, evO, constSV, ungd, gdP, gdPs, setD, binI, binV, ptrE, T_ty, tTy, pickV, pureOp, guardOf, memOp, lenV, Data.len, ownN, nodup, bares, bare, bare0, guardIs, callP, callS, argS, mAs, mA, mA0, mB0, lowD, allNotIn, impN, impB, impT, packS, delL, Op.operands, Call.operands, List.getD, List.getElem?_cons_zero, List.getElem?_cons_succ, Option.getD_some, List.set, List.map, List.toList_toArray, List.getElem?_toArray, Option.bind_some, true_and, and_self, implies_true, imp_self, eq_self, Bool.cond_true_left, List.append_toArray, List.nil_append, List.append_nil, Nat.reduceAdd, Bool.and_self]
  by_cases hlo : (longB l K || ((K.length : Int) == 0)) = true
  · rw [if_pos hlo]
    refine call_go TO 100 lives12_meets Tryd.func7 (by decide +kernel) rfl rfl rfl ?_
    simp only [pureOpC, unc, absRun, absOps, absOp, evO, ungd, gdP, gdPs, setD, retP, resV, retQ, rAs, rA, rA0, ownN, nodup, bares, bare, bare0, guardIs, callP, callS, argS, mAs, allNotIn, impN, impB, impT, packS, delL, Op.operands, List.getD, List.getElem?_cons_zero, List.getElem?_cons_succ, Option.getD_some, List.set, List.map, List.toList_toArray, and_self, eq_self, List.append_nil, Bool.and_self]
  have hK0 : 0 < K.length := by
    rcases Nat.eq_zero_or_pos K.length with h | h
    · exact absurd (by rw [h]; simp) hlo
    · exact h
  rw [if_neg hlo]
  have hSe := sealK_meets K l hK0 hK hKB hl hr
  refine call_go TO 100 hSe Tryd.func9 (by decide +kernel) rfl rfl rfl ?_
  simp only [pureOpC, unc, absRun, absOps, absOp, evO, constSV, ungd, gdP, gdPs, setD, binI, binV, ptrE, extractV, pureOp, memOp, notIn, upd, Data.len, Data.esz, ownN, nodup, bares, bare, bare0, bareD, guardIs, callP, callS, argS, mAs, mA, mA0, mB0, lowD, allNotIn, nm, impN, impB, impT, packS, delL, Op.operands, List.getD, List.getElem?_cons_zero, List.getElem?_cons_succ, Option.getD_some, List.set, List.map, List.toList_toArray, true_and, and_self, eq_self, Nat.zero_add, Nat.add_zero, List.append_nil, Nat.reduceAdd, Nat.reduceMul, Bool.and_self]
  by_cases h0 : partsE l = 0
  rotate_left
  · rw [if_pos (by simpa using h0)]
    refine call_go TO 100 lives12_meets Tryd.func7 (by decide +kernel) rfl rfl rfl ?_
    simp only [pureOpC, unc, absRun, absOps, absOp, evO, ungd, gdP, gdPs, setD, retP, resV, retQ, rAs, rA, rA0, ownN, nodup, bares, bare, bare0, guardIs, callP, callS, argS, mAs, allNotIn, impN, impB, impT, packS, delL, Op.operands, List.getD, List.getElem?_cons_zero, List.getElem?_cons_succ, Option.getD_some, List.set, List.map, List.toList_toArray, and_self, eq_self, List.append_nil, Bool.and_self]
  rw [if_neg (by simpa using h0)]
  obtain ⟨hg, hne, h8, _⟩ := partsE_ok h0
  have hP := sealF_part K l (fun b hb => ⟨hg b hb, (hr b hb).1, (hr b hb).2⟩)
  have hO := okH_seal K l (fun b hb => ⟨hg b hb, (hr b hb).1, (hr b hb).2⟩)
  have hQl := sealF_length K l
  have hLe := sealL_len K l hr
  have hL : sealL K l = (sealF K l).flatten := by unfold sealL; rw [if_pos h0]
  rw [hL] at hLe ⊢
  generalize sealF K l = qs at *
  have hBf : Bytes qs.flatten := bytes_flat (fun s hs => (hP s hs).2.2.1)
  obtain ⟨q0, qr, rfl⟩ : ∃ q0 qr, qs = q0 :: qr := by
    cases qs with
    | nil => exact absurd (List.length_eq_zero_iff.1 (by simpa using hQl.symm)) hne
    | cons a b => exact ⟨a, b, rfl⟩
  obtain ⟨g1, g2⟩ := head_okH hO
  have hSp := Split_meets (q0 :: qr).flatten (by omega) hBf
  have hG := rGet07_meets (q0 :: qr).flatten 0 (by omega) hBf (by decide)
  rw [g1] at hG
  have hH := rHasK_meets (gotH (q0 :: qr).flatten 0) (got_ok hBf g1) 4 (by decide)
  rw [show ((gotH (q0 :: qr).flatten 0).flags / 4 % 2 == 1) = relB (gotH q0 0) from g2] at hH
  simp only [Hd.sv] at hG hH
  refine call_go TO 100 hSp Tryd.func15 (by decide +kernel) rfl rfl rfl ?_
  simp only [List.drop_zero, pureOpC, unc, absRun, absOps, absOp, evO, ungd, gdP, gdPs, setD, extractV, pureOp, memOp, notIn, blkAt, fnd, upd, Data.len, Data.esz, Data.sub, ownN, nodup, bares, bare, bare0, bareD, guardIs, callP, callS, argS, mAs, mA, mA0, mB0, lowD, allNotIn, nm, impN, impB, impT, packS, delL, Op.operands, List.getD, List.getElem?_cons_zero, List.getElem?_cons_succ, Option.getD_some, List.set, List.map, List.toList_toArray, true_and, and_self, if_true, if_false, eq_self, List.take_length, Nat.zero_add, Nat.add_zero, Nat.le_refl, List.append_nil, Nat.reduceAdd, Nat.reduceMul, Nat.reduceEqDiff, Bool.and_self]
  refine call_go TO 100 hG Tryd.func17 (by decide +kernel) rfl rfl rfl ?_
  simp only [List.drop_zero, pureOpC, cntC, unc, absRun, absOps, absOp, evO, constSV, ungd, gdP, gdPs, setD, T_ty, T_size, T_zero, tTy, tSize, tZero, extractV, pureOp, memOp, loadV, newV, notIn, scal, okC, takeC, dropC, blkAt, fnd, upd, Data.len, Data.esz, Data.sub, Lim.add, ownN, nodup, bares, bare, bare0, bareL, guardIs, callP, callS, argS, mAs, mA, mA0, mB0, lowD, allNotIn, impN, impB, impT, packS, delL, Op.operands, List.getD, List.getElem?_cons_zero, List.getElem?_cons_succ, Option.getD_some, List.set, List.map, List.toList_toArray, Option.bind_some, Option.map_some, true_and, and_self, if_true, if_false, eq_self, ne_eq, not_false_eq_true, reduceCtorEq, List.take_length, Nat.zero_add, Nat.add_zero, Nat.le_refl, List.nil_append, List.append_nil, Nat.reduceAdd, Nat.reduceSub, Nat.reduceEqDiff, List.replicate_succ, List.replicate_zero, Bool.and_self]
  refine call_go TO 100 hH Tryd.func18 (by decide +kernel) rfl rfl rfl ?_
  simp only [pureOpC, unc, absRun, absOps, absOp, evO, constSV, ungd, gdP, gdPs, setD, binI, binV, ptrE, T_ty, tTy, pickV, pureOp, guardOf, lenV, blkAt, fnd, Data.len, retP, resV, retQ, rAs, rA, rA0, ownN, nodup, bares, bare, bare0, guardIs, callP, callS, argS, mAs, mA, mA0, mB0, mAl, allNotIn, impN, impB, impT, packS, delL, Op.operands, Call.operands, List.getD, List.getElem?_cons_zero, List.getElem?_cons_succ, Option.getD_some, List.set, List.map, List.toList_toArray, List.getElem?_toArray, Option.bind_some, true_and, and_true, and_false, and_self, implies_true, imp_self, if_true, if_false, eq_self, Bool.false_eq_true, Bool.cond_true_left, List.append_toArray, List.nil_append, List.append_nil, Nat.reduceAdd, Nat.reduceEqDiff, Bool.and_self]
  cases hrel : relB (gotH q0 0) with
  | true =>
    have e5 := split_relC 8 hO hrel
    have e6 : splitE (q0 :: qr).flatten = 5 := by unfold splitE; rw [e5]
    rw [if_pos rfl]
    simp only [e6, beq_self_eq_true]
    refine call_go TO 100 lives12_meets Tryd.func7 (by decide +kernel) rfl rfl rfl ?_
    simp only [pureOpC, unc, absRun, absOps, absOp, evO, constSV, ungd, gdP, gdPs, setD, pickV, guardOf, retP, resV, retQ, rAs, rA, rA0, ownN, nodup, bares, bare, bare0, guardIs, callP, callS, argS, mAs, allNotIn, impN, impB, impT, packS, delL, Op.operands, List.getD, List.getElem?_cons_zero, List.getElem?_cons_succ, Option.getD_some, List.set, List.map, List.toList_toArray, List.getElem?_toArray, Option.bind_some, and_self, eq_self, Bool.cond_true, List.append_nil, Bool.and_self]
  | false =>
    have e5 := split_okH (q0 :: qr) 9 [] (by simp) hO (by simp only [List.length_nil]; omega) (by omega) (.inr fun b hb => by simp at hb; subst hb; exact hrel)
    have e6 : splitE (q0 :: qr).flatten = 0 := by unfold splitE; rw [e5]
    have e7 : splitL (q0 :: qr).flatten = q0 :: qr := by unfold splitL; rw [e5]; rfl
    rw [if_neg (by decide)]
    rw [e6, e7]
    generalize q0 :: qr = qs at *
    simp only [hQl, Int.reduceBNe, Bool.not_false, Bool.false_or]
    rw [if_neg (by simp)]
    refine loop_up (fun x : Nat × Nat => x.1 ≤ l.length) (fun x => ⟨tl 89 0 [(0, .view false (.ints .u8 K)), (7, .sl 10544 6 0 1 0 l.length), (11, .int .i64 x.1)], [(10544, 6, .vec (.rows true qs))], ⟨x.2, [], 0⟩⟩) (fun x => l.length - x.1) (0, _) (Nat.zero_le _) ⟨rfl, ?_, ?_⟩ ?_
    · simp [LeT, tl]
    · intro n x hx
      simp only [fnd] at hx
      split at hx
      · rename_i e; subst e; simpa [fnd] using hx
      · cases hx
    rintro ⟨i, c⟩ hi ih
    simp only at hi
    refine absRun_ok TO 100 _ _ ?_
    simp only [hQl, pureOpC, unc, absRun, absOps, absOp, evO, ungd, gdP, gdPs, setD, binI, binV, ptrE, T_ty, T_size, tTy, tSize, iaddrV, pureOp, memOp, lenV, loadV, blkAt, fnd, elemV, Data.len, Data.esz, Op.operands, Call.operands, List.getD, List.getElem?_cons_zero, List.getElem?_cons_succ, Option.getD_some, List.set, List.toList_toArray, exitTo, true_and, and_self, if_true, eq_self, ne_eq, not_false_eq_true, Nat.zero_add, Int.toNat_natCast, Nat.le_refl, List.append_toArray, List.cons_append, List.nil_append, Nat.reduceAdd, Nat.reduceSub, Nat.succ_ne_self, beq_self_eq_true, List.replicate_succ, List.replicate_zero, tl]
    split
    · rename_i hc
      have hil : i < l.length := by have := of_decide_eq_true hc; omega
      obtain ⟨r, hrr⟩ : ∃ r, qs[i]?.getD [] = r := ⟨_, rfl⟩
      have hmem : r ∈ qs := by
        rw [List.getElem?_eq_getElem (by omega)] at hrr
        rw [← hrr]; exact List.getElem_mem _
      obtain ⟨r1, r2, r3, r4, r5, r6⟩ := hP r hmem
      have hG := rGet07_meets r 0 (by omega) r3 (by decide)
      rw [r4] at hG
      have hH := rHasK_meets (gotH r 0) (got_ok r3 r4) 8 (by decide)
      rw [r5] at hH
      have hC := Check_meets K r (by omega) hKB (by omega) r3
      rw [r6] at hC
      simp only [Hd.sv] at hG hH
      rw [hrr]
      refine ⟨by omega, ?_⟩
      refine call_go TO 100 hG Tryd.func17 (by decide +kernel) rfl rfl rfl ?_
      simp only [pureOpC, cntC, unc, absRun, absOps, absOp, evO, constSV, ungd, gdP, gdPs, setD, binI, binV, ptrE, T_ty, T_size, T_zero, tTy, tSize, tZero, extractV, pureOp, guardOf, memOp, loadV, newV, notIn, scal, okC, takeC, dropC, blkAt, fnd, upd, Lim.add, ownN, nodup, bares, bare, bare0, bareL, guardIs, callP, callS, argS, mAs, mA, mA0, mB0, lowD, allNotIn, impN, impB, impT, packS, delL, Op.operands, List.getD, List.getElem?_cons_zero, List.getElem?_cons_succ, Option.getD_some, List.set, List.map, List.toList_toArray, List.getElem?_toArray, Option.bind_some, Option.map_some, true_and, and_self, implies_true, if_true, if_false, eq_self, ne_eq, not_false_eq_true, reduceCtorEq, Nat.zero_add, Nat.add_zero, Nat.le_refl, Int.reduceBNe, List.nil_append, List.append_nil, Nat.reduceAdd, Nat.reduceSub, Nat.reduceEqDiff, Bool.not_false, List.replicate_succ, List.replicate_zero, Bool.and_self]
      refine call_go TO 100 hH Tryd.func18 (by decide +kernel) rfl rfl rfl ?_
      simp only [hQl, hrr, pureOpC, unc, absOps, absOp, evO, constSV, ungd, gdP, gdPs, setD, unV, T_ty, T_size, tTy, tSize, iaddrV, pickV, pureOp, guardOf, loadV, blkAt, fnd, elemV, Data.len, Data.esz, ownN, nodup, bares, bare, bare0, guardIs, callP, callS, argS, mAs, mA, mA0, mB0, mAl, allNotIn, impN, impB, impT, packS, delL, Op.operands, List.getD, List.getElem?_cons_zero, List.getElem?_cons_succ, Option.getD_some, List.set, List.map, List.toList_toArray, List.getElem?_toArray, Option.bind_some, true_and, and_self, implies_true, if_true, if_false, eq_self, ne_eq, not_false_eq_true, forall_const, Nat.zero_add, Int.toNat_natCast, Nat.le_refl, Bool.cond_false, List.append_nil, Nat.reduceEqDiff, Nat.succ_ne_self, Bool.not_true, Bool.not_false, Bool.and_self]
      refine ⟨⟨by omega, by omega⟩, ?_⟩
      refine call_go TO 100 hC Tryd.func19 (by decide +kernel) rfl rfl rfl ?_
      simp only [pureOpC, unc, absRun, absOps, absOp, evO, constSV, ungd, gdP, gdPs, setD, binI, binV, ptrE, pickV, pureOp, guardOf, retP, resV, retQ, rAs, rA, rA0, ownN, nodup, bares, bare, bare0, guardIs, callP, callS, argS, mAs, mA, mA0, mB0, lowD, allNotIn, impN, impB, impT, packS, delL, Op.operands, List.getD, List.getElem?_cons_zero, List.getElem?_cons_succ, Option.getD_some, List.set, List.map, List.toList_toArray, List.getElem?_toArray, Option.bind_some, true_and, and_true, and_false, and_self, implies_true, if_false, eq_self, Bool.false_eq_true, Int.reduceBNe, Bool.cond_false, List.append_nil, Bool.not_false, Bool.and_self]
      rw [w64 (by omega) (by omega)]
      refine ih (i + 1, _) _ hil (by simp only; omega) rfl ?_ ?_
      · simp [LeT, tl]
      · intro n x hx
        simp only [fnd] at hx
        split at hx
        · rename_i e; subst e; simpa [fnd] using hx
        · cases hx
    · rename_i hc
      refine call_go TO 100 lives12_meets Tryd.func7 (by decide +kernel) rfl rfl rfl ?_
      simp only [pureOpC, unc, absRun, absOps, absOp, evO, ungd, gdP, gdPs, setD, retP, resV, retQ, rAs, rA, rA0, ownN, nodup, bares, bare, bare0, guardIs, callP, callS, argS, mAs, allNotIn, impN, impB, impT, packS, delL, Op.operands, List.getD, List.getElem?_cons_zero, List.getElem?_cons_succ, Option.getD_some, List.set, List.map, List.toList_toArray, and_self, eq_self, List.append_nil, Bool.and_self]

end Go.Proofs.YtdhnjmepgafeiaaDoor.Abs
