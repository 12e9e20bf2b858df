/- What copied and the document's parts, joined, Join answer; the law ChainJoins answers true. -/
import Derived.Test.YtdhnjmepgafeiaaDoorC7
set_option linter.unusedVariables false
set_option linter.unusedSimpArgs false
set_option maxRecDepth 100000
namespace Go.Proofs.YtdhnjmepgafeiaaDoor.Abs
open Go Go.Proofs

theorem take_get (l : List (List Int)) (i : Nat) (h : i < l.length) : l.take (i + 1) = l.take i ++ [l[i]?.getD []] := by
  rw [List.take_add_one, List.getElem?_eq_getElem h]; rfl

set_option maxHeartbeats 4000000 in
theorem copied_meets (l : List (List Int)) (hl : l.length ≤ 1048576) (hr : ∀ b ∈ l, b.length ≤ 1048576 ∧ Bytes b) : Meets Tryd.prog 8 [.v (.view false (.rows false l))] [.own (.rows true l)] := by
  refine meets_go TO 100 Tryd.func8 rfl (fun X => ?_)
  simp only [Tryd.ntmps8, Tryd.results8, pureOpC, svs, blks, AV.sv, absRun, absOps, absOp, evO, constSV, ungd, gdP, gdPs, setD, Op.operands, List.set, List.toList_toArray, true_and, and_self, Nat.zero_add, List.cons_append, List.nil_append, List.length_cons, List.length_nil, Nat.reduceAdd, Nat.reduceSub, List.replicate_succ, List.replicate_zero]
  refine nil_go 3 18 (.rows true []) rfl ⟨by simp, rfl⟩ ?_
  simp only [upd, Data.esz, List.set, Nat.reduceAdd]
  refine loop_up (fun x : Nat × Nat × Nat => x.1 ≤ l.length) (fun x => ⟨tl 20 0 [(0, .view false (.rows false l)), (3, .sl 18 x.2.1 0 1 0 (l.take x.1).length), (4, .int .i64 x.1)], [(18, x.2.1, .vec (.rows true (l.take x.1)))], ⟨x.2.2, [], 0⟩⟩) (fun x => l.length - x.1) (0, 5, 7) (Nat.zero_le _) ⟨rfl, ?_, ?_⟩ ?_
  · simp [LeT, tl]
  · intro m x hx; simpa [fnd] using hx
  · rintro ⟨i, g, c⟩ hi ih
    simp only at hi
    have hpl : (l.take i).length = i := by rw [List.length_take]; omega
    refine absRun_ok TO 100 _ _ ?_
    simp only [pureOpC, unc, absRun, absOps, absOp, evO, ungd, gdP, gdPs, setD, binI, binV, ptrE, T_ty, T_size, tTy, tSize, iaddrV, pureOp, memOp, lenV, loadV, notIn, blkAt, fnd, elemV, Data.len, Data.esz, retP, resV, retQ, rAs, rA, ownN, nodup, bares, bare, bareD, Op.operands, Call.operands, List.getD, List.getElem?_cons_zero, List.getElem?_cons_succ, Option.getD_some, List.set, List.map, List.toList_toArray, exitTo, true_and, and_true, and_self, if_true, eq_self, ne_eq, not_false_eq_true, Nat.zero_add, Int.toNat_natCast, List.append_toArray, List.cons_append, List.nil_append, Nat.reduceAdd, Nat.reduceSub, Nat.reduceLT, Nat.succ_ne_self, beq_self_eq_true, List.replicate_succ, List.replicate_zero, Bool.and_self, tl, hpl]
    split
    · rename_i hc
      have hil : i < l.length := by have := of_decide_eq_true hc; omega
      have hC := copy12_meets (l[i]?.getD []) (by rw [List.getElem?_eq_getElem hil]; have := (hr _ (List.getElem_mem hil)).1; simp only [Option.getD_some]; omega)
      refine ⟨by omega, ?_⟩
      refine callZ_go hC Tryd.func14 (by decide +kernel) rfl rfl rfl ?_
      simp only [unc, evO, ungd, gdP, gdPs, notIn, upd, Data.len, Data.esz, ownN, nodup, bares, bare, bareD, guardIs, callP, callS, argS, mAs, mA, mA0, mB0, lowD, allNotIn, nm, impN, impB, impT, packS, delL, List.getD, List.getElem?_cons_zero, List.getElem?_cons_succ, Option.getD_some, List.set, List.map, true_and, and_self, if_false, eq_self, Nat.zero_add, Nat.add_zero, List.append_nil, Nat.reduceAdd, Nat.reduceMul, Nat.reduceEqDiff, Bool.and_self]
      refine freeze_ops 16 10256 ⟨⟨by simp, rfl, rfl, by simp⟩, HOps_go TO 100 ?_⟩
      simp only [List.take_succ_cons, List.take_zero, List.drop_zero, pureOpC, unc, fitT, absRun, absOps, absOp, evO, constSV, ungd, gdP, gdPs, setD, binI, binV, ptrE, T_ty, T_size, T_bytes, tTy, tSize, tBytes, pureOp, memOp, newV, notIn, dataOf, appD, isSrc, elemsOf, rowsOf, rowOf, blkAt, fnd, upd, del, mv, Data.len, Data.esz, Data.sub, Lim.add, Op.operands, Call.operands, List.getD, List.getElem?_cons_zero, List.getElem?_cons_succ, Option.getD_some, List.set, List.map, List.toList_toArray, Option.map_some, true_and, and_self, if_true, if_false, eq_self, List.take_length, Nat.zero_add, Nat.le_refl, List.append_toArray, List.nil_append, List.length_cons, List.length_nil, Nat.reduceEqDiff, Nat.reduceLeDiff, Nat.succ_ne_self, Bool.and_self, hpl]
      refine ⟨by omega, ?_⟩
      rw [w64 (by omega) (by omega)]
      refine ih (i + 1, c + 1 + 1, _) _ hil (by simp only; omega) rfl ?_ ?_
      · simp [LeT, tl, take_get l i hil, hpl]
      · intro n x hx
        simp only [fnd] at hx
        split at hx
        · rename_i e; subst e; simpa [fnd, take_get l i hil] using hx
        · cases hx
    · rename_i hc
      have hil : i = l.length := by
        have : ¬ ((i : Int) < l.length) := fun h => hc (decide_eq_true h)
        omega
      subst hil
      rw [List.take_length]
      exact ⟨rfl, rfl⟩

theorem set4 (p : List Int) (h : 24 ≤ p.length) (z0 z1 z2 z3 : Int) : (((p.set 20 z0).set 21 z1).set 22 z2).set 23 z3 = p.take 20 ++ [z0, z1, z2, z3] ++ p.drop 24 := by
  apply List.ext_getElem?
  intro j
  have l1 : (p.take 20).length = 20 := by rw [List.length_take]; omega
  simp only [List.getElem?_set, List.length_set]
  by_cases a : j < 20
  · rw [if_neg (by omega), if_neg (by omega), if_neg (by omega), if_neg (by omega), List.append_assoc, List.getElem?_append_left (by omega), List.getElem?_take, if_pos a]
  · by_cases b : j < 24
    · have hj : j = 20 ∨ j = 21 ∨ j = 22 ∨ j = 23 := by omega
      rw [List.getElem?_append_left (by simp; omega), List.getElem?_append_right (by omega), l1]
      rcases hj with rfl | rfl | rfl | rfl
      · simp; omega
      · simp; omega
      · simp; omega
      · simp; omega
    · rw [if_neg (by omega), if_neg (by omega), if_neg (by omega), if_neg (by omega), List.getElem?_append_right (by simp; omega), List.getElem?_drop]
      congr 1
      simp; omega

set_option maxHeartbeats 8000000 in
theorem rparts_meets (l : List (List Int)) (hl : l.length ≤ 1048576) (hr : ∀ b ∈ l, b.length ≤ 1048576 ∧ Bytes b) : Meets Tryd.prog 24 [.v (.view false (.rows false l))] [.own (.rows true (partsL l)), .v (.int .i64 (partsE l))] := by
  refine meets_go TO 100 Tryd.func24 rfl (fun X => ?_)
  simp only [Tryd.ntmps24, Tryd.results24, pureOpC, svs, blks, AV.sv, absRun, absOps, absOp, evO, constSV, ungd, gdP, gdPs, setD, Op.operands, List.set, List.toList_toArray, true_and, and_self, Nat.zero_add, List.cons_append, List.nil_append, List.length_cons, List.length_nil, Nat.reduceAdd, Nat.reduceSub, List.replicate_succ, List.replicate_zero]
  have hget : ∀ i, i < l.length → (l[i]?.getD []).length ≤ 1048576 ∧ Bytes (l[i]?.getD []) := fun i h => by rw [List.getElem?_eq_getElem h]; exact hr _ (List.getElem_mem h)
  refine loop_up (fun x : Nat × Nat => x.1 ≤ l.length ∧ ∀ j, j < x.1 → goodB (l[j]?.getD []) = true) (fun x => ⟨tl 82 0 [(0, .view false (.rows false l)), (4, .int .i64 x.1)], [], ⟨x.2, [], 0⟩⟩) (fun x => l.length - x.1) (0, _) ⟨Nat.zero_le _, by simp⟩ ⟨rfl, ?_, ?_⟩ ?_
  · simp [LeT, tl]
  · intro m x hx; simp [fnd] at hx
  · rintro ⟨i, c⟩ ⟨hi, hgd⟩ ih
    simp only at hi hgd
    refine absRun_ok TO 100 _ _ ?_
    simp only [pureOpC, unc, absRun, absOps, absOp, evO, constSV, ungd, gdP, gdPs, setD, binI, binV, ptrE, T_ty, T_size, tTy, tSize, iaddrV, pureOp, memOp, lenV, loadV, elemV, Data.len, Data.esz, retP, resV, retQ, rAs, rA, rA0, ownN, nodup, bares, bare, bare0, bareD, Op.operands, Call.operands, List.getD, List.getElem?_cons_zero, List.getElem?_cons_succ, Option.getD_some, List.set, List.map, List.toList_toArray, exitTo, true_and, and_true, and_self, if_true, eq_self, ne_eq, not_false_eq_true, Nat.zero_add, Int.toNat_natCast, List.append_toArray, List.cons_append, List.nil_append, Nat.reduceAdd, Nat.reduceSub, Nat.reduceLT, Nat.succ_ne_self, beq_self_eq_true, List.replicate_succ, List.replicate_zero, Bool.and_self, tl, gt_iff_lt]
    split
    · rename_i hc
      have hil : i < l.length := by have := of_decide_eq_true hc; omega
      obtain ⟨q1, q2⟩ := hget i hil
      have hG := rGet07_meets (l[i]?.getD []) 0 (by omega) q2 (by decide)
      simp only [Hd.sv] at hG
      refine ⟨by omega, ?_⟩
      refine call_go TO 100 hG Tryd.func17 (by decide +kernel) rfl rfl rfl ?_
      simp only [pureOpC, cntC, unc, absRun, absOps, absOp, evO, constSV, ungd, gdP, gdPs, setD, binI, binV, ptrE, T_ty, T_size, T_zero, tTy, tSize, tZero, fieldOf, faddrV, extractV, pickV, pureOp, guardOf, memOp, loadV, newV, notIn, scal, okC, cellAt, takeC, dropC, blkAt, fnd, upd, Data.len, Lim.add, retP, resV, retQ, rAs, rA, rA0, ownN, nodup, bares, bare, bare0, bareL, bareD, guardIs, callP, callS, argS, mAs, mA, mA0, mB0, lowD, allNotIn, impN, impB, impT, packS, delL, Op.operands, List.getD, List.getElem?_cons_zero, List.getElem?_cons_succ, Option.getD_some, List.set, List.map, List.toList_toArray, List.getElem?_toArray, Option.bind_some, true_and, and_true, and_self, implies_true, imp_self, if_true, if_false, eq_self, ne_eq, not_false_eq_true, reduceCtorEq, Nat.zero_add, Nat.add_zero, Nat.le_refl, Bool.cond_true_left, List.nil_append, List.append_nil, Nat.reduceAdd, Nat.reduceSub, Nat.reduceLT, Nat.succ_ne_self, List.replicate_succ, List.replicate_zero, Bool.and_self]
      have hgb : (gotE (l[i]?.getD []) 0 != 0 || (gotH (l[i]?.getD []) 0).next != 0) = !goodB (l[i]?.getD []) := by
        unfold goodB; simp [bne]
      rw [hgb]
      cases hg : goodB (l[i]?.getD []) with
      | false =>
        obtain ⟨e1, e2⟩ := partsE_bad hil hg
        simp [e1, e2]
      | true =>
        simp only [Bool.not_true, Bool.false_eq_true, if_false]
        rw [w64 (by omega) (by omega)]
        refine ih (i + 1, _) _ ⟨hil, fun j hj => ?_⟩ (by simp only; omega) rfl ?_ ?_
        · rcases Nat.lt_succ_iff_lt_or_eq.1 hj with h | h
          · exact hgd j h
          · rw [h]; exact hg
        · simp [LeT, tl]
        · intro n x hx; simp [fnd] at hx
    · rename_i hc
      have hil : i = l.length := by
        have : ¬ ((i : Int) < l.length) := fun h => hc (decide_eq_true h)
        omega
      subst hil
      have hall : l.all goodB = true := by
        rw [List.all_eq_true]
        intro x hx
        obtain ⟨j, hj, rfl⟩ := List.getElem_of_mem hx
        have := hgd j hj
        rw [List.getElem?_eq_getElem hj] at this
        exact this
      have eE : partsE l = if l = [] then 2 else if 8 < l.length then 3 else 0 := by unfold partsE; rw [if_neg (by rw [hall]; simp)]
      by_cases c1 : l = []
      · rw [if_pos c1] at eE
        have e2 : partsL l = [] := by unfold partsL; rw [if_neg (by rw [eE]; decide)]
        rw [if_pos (by simp [c1]), eE, e2]
        exact ⟨rfl, rfl⟩
      rw [if_neg c1] at eE
      have hpos : 0 < l.length := List.length_pos_iff.2 c1
      rw [if_neg (by simp; omega)]
      by_cases c2 : 8 < l.length
      · rw [if_pos c2] at eE
        have e2 : partsL l = [] := by unfold partsL; rw [if_neg (by rw [eE]; decide)]
        rw [if_pos (decide_eq_true (by omega)), eE, e2]
        exact ⟨rfl, rfl⟩
      rw [if_neg c2] at eE
      rw [if_neg (by simp; omega)]
      have e2 : partsL l = partsF l := by unfold partsL; rw [if_pos eE]
      rw [eE, e2]
      refine nil_go 7 80 (.rows true []) rfl ⟨by simp, rfl⟩ ?_
      simp only [upd, Data.esz, List.set]
      refine loop_up (fun x : Nat × Nat × Nat => x.1 ≤ l.length) (fun x => ⟨tl 82 0 [(0, .view false (.rows false l)), (7, .sl 80 x.2.1 0 1 0 ((partsF l).take x.1).length), (8, .int .i64 x.1)], [(80, x.2.1, .vec (.rows true ((partsF l).take x.1)))], ⟨x.2.2, [], 0⟩⟩) (fun x => l.length - x.1) (0, c + 1 + 1 + 1 + 1 + 1 + 1, c + 1 + 1 + 1 + 1 + 1 + 1 + 1 + 1) (Nat.zero_le _) ⟨rfl, ?_, ?_⟩ ?_
      · simp [LeT, tl]
      · intro m x hx; simpa [fnd] using hx
      · rintro ⟨i, g, c⟩ hi ih
        simp only at hi
        have hpl : ((partsF l).take i).length = i := by rw [List.length_take, partsF_length]; omega
        refine absRun_ok TO 100 _ _ ?_
        simp only [pureOpC, unc, absRun, absOps, absOp, evO, constSV, ungd, gdP, gdPs, setD, binI, binV, ptrE, T_ty, T_size, tTy, tSize, iaddrV, pureOp, memOp, lenV, loadV, notIn, blkAt, fnd, elemV, Data.len, Data.esz, retP, resV, retQ, rAs, rA, rA0, ownN, nodup, bares, bare, bare0, bareD, Op.operands, Call.operands, List.getD, List.getElem?_cons_zero, List.getElem?_cons_succ, Option.getD_some, List.set, List.map, List.toList_toArray, exitTo, true_and, and_true, and_self, if_true, eq_self, ne_eq, not_false_eq_true, Nat.zero_add, Int.toNat_natCast, List.append_toArray, List.cons_append, List.nil_append, Nat.reduceAdd, Nat.reduceSub, Nat.reduceLT, Nat.succ_ne_self, beq_self_eq_true, List.replicate_succ, List.replicate_zero, Bool.and_self, tl, hpl]
        split
        · rename_i hc
          have hil : i < l.length := by have := of_decide_eq_true hc; omega
          obtain ⟨q1, q2⟩ := hget i hil
          have hg := hgd i hil
          have h64 := got_len (last_got _ hg).1
          have hC := copy12_meets (l[i]?.getD []) (by omega)
          have hP := rPad_meets (l[i]?.getD []) (by omega)
          have hpd := padL_length (l[i]?.getD [])
          obtain ⟨p1, p2, p3⟩ := padN_le (l[i]?.getD []).length
          have hQ := rPut_meets ((padL (l[i]?.getD [])).length : Nat) (4 : Nat) (by omega) (by omega)
          rw [putL_0 (by decide) (by omega), putE_0 (by decide) (by omega)] at hQ
          simp only [Int.cast_ofNat_Int] at hQ
          have wp : IntKind.u64.wrap ((padL (l[i]?.getD [])).length : Int) = (padL (l[i]?.getD [])).length := wu64 (by omega) (by omega)
          have w1 : IntKind.i64.wrap ((l.length : Int) - 1) = l.length - 1 := w64 (by omega) (by omega)
          have hov := over_setN (padL (l[i]?.getD [])) (by omega)
          have htp := take_parts l i hil
          refine ⟨by omega, ?_⟩
          refine call_go TO 100 hC Tryd.func14 (by decide +kernel) rfl rfl rfl ?_
          simp only [pureOpC, unc, absRun, absOps, absOp, evO, constSV, ungd, gdP, gdPs, setD, binI, binV, ptrE, T_ty, T_size, tTy, tSize, pureOp, memOp, lenV, newV, notIn, dataOf, isSrc, scal, elemsOf, rowsOf, rowOf, arrAt, blkAt, fnd, upd, Data.len, Data.esz, Lim.add, ownN, nodup, bares, bare, bareD, guardIs, callP, callS, argS, mAs, mA, mA0, mB0, lowD, allNotIn, nm, impN, impB, impT, packS, delL, Op.operands, Call.operands, List.getD, List.getElem?_cons_zero, List.getElem?_cons_succ, Option.getD_some, List.set, List.map, List.all, List.toList_toArray, Option.map_some, Option.isSome, true_and, and_self, if_true, if_false, ite_self, eq_self, Nat.zero_add, Nat.add_zero, List.append_toArray, List.nil_append, List.append_nil, List.length_cons, List.length_nil, Nat.reduceAdd, Nat.reduceMul, Nat.reduceEqDiff, Nat.reduceLeDiff, Bool.and_self, w1]
          by_cases cl : i + 1 < l.length
          · rw [if_pos cl] at htp
            rw [if_pos (decide_eq_true (by omega))]
            refine call_go TO 100 hP Tryd.func36 (by decide +kernel) rfl rfl rfl ?_
            simp only [List.drop_zero, pureOpC, unc, absRun, absOps, absOp, evO, ungd, gdP, gdPs, setD, convV, T_ty, tTy, pureOp, memOp, lenV, notIn, known, blkAt, fnd, upd, Data.len, Data.esz, Data.sub, ownN, nodup, bares, bare, bareD, guardIs, callP, callS, argS, mAs, mA, mA0, mB0, lowD, allNotIn, nm, impN, impB, impT, packS, delL, Op.operands, Call.operands, List.getD, List.getElem?_cons_zero, List.getElem?_cons_succ, Option.getD_some, List.set, List.map, List.toList_toArray, true_and, and_self, if_true, if_false, eq_self, List.take_length, Nat.zero_add, Nat.add_zero, Nat.le_refl, List.append_toArray, List.nil_append, List.append_nil, Nat.reduceAdd, Nat.reduceMul, Nat.reduceEqDiff, Bool.and_self, wp]
            refine call_go TO 100 hQ Tryd.func37 (by decide +kernel) rfl rfl rfl ?_
            obtain ⟨z0, z1, z2, z3, hz⟩ : ∃ z0 z1 z2 z3, digs 4 ((padL (l[i]?.getD [])).length : Int) = [z0, z1, z2, z3] := ⟨_, _, _, _, rfl⟩
            simp only [pureOpC, unc, absRun, absOps, absOp, evO, constSV, ungd, gdP, gdPs, setD, extractV, pureOp, notIn, upd, Data.len, Data.esz, ownN, nodup, bares, bare, bare0, bareD, guardIs, callP, callS, argS, mAs, mA, mA0, mB0, allNotIn, nm, impN, impB, impT, packS, delL, Op.operands, List.getD, List.getElem?_cons_zero, List.getElem?_cons_succ, Option.getD_some, List.set, List.map, List.toList_toArray, true_and, and_self, if_false, eq_self, Nat.zero_add, Nat.add_zero, List.append_nil, List.length_cons, List.length_nil, Nat.reduceAdd, Nat.reduceMul, Nat.reduceEqDiff, Bool.and_self, hz]
            have x20 : IntKind.i64.wrap 20 = 20 := by decide
            have x21 : IntKind.i64.wrap 21 = 21 := by decide
            have x22 : IntKind.i64.wrap 22 = 22 := by decide
            have x23 : IntKind.i64.wrap 23 = 23 := by decide
            have y1 : IntKind.i64.wrap 1 = 1 := by decide
            have y2 : IntKind.i64.wrap 2 = 2 := by decide
            have y3 : IntKind.i64.wrap 3 = 3 := by decide
            have y4 : IntKind.i64.wrap 4 = 4 := by decide
            have t20 : Int.toNat 20 = 20 := rfl
            have t21 : Int.toNat 21 = 21 := rfl
            have t22 : Int.toNat 22 = 22 := rfl
            have t23 : Int.toNat 23 = 23 := rfl
            refine loop_in (absRun_ok TO 100 _ _ ?_)
            simp only [pureOpC, unc, absRun, absOps, absOp, evO, constSV, ungd, gdP, gdPs, setD, binI, binV, ptrE, T_ty, T_size, tTy, tSize, iaddrV, pureOp, memOp, loadV, newV, notIn, dataOf, isSrc, scal, elemsOf, rowsOf, rowOf, arrAt, blkAt, fnd, upd, elemV, Data.len, Data.esz, Lim.add, Op.operands, List.getD, List.getElem?_cons_zero, List.getElem?_cons_succ, Option.getD_some, List.set, List.map, List.all, List.toList_toArray, Option.map_some, Option.isSome, exitTo, true_and, and_self, if_true, if_false, ite_self, eq_self, ne_eq, not_false_eq_true, Bool.false_eq_true, Nat.zero_add, Nat.add_zero, Int.zero_add, Int.add_zero, Int.cast_ofNat_Int, Nat.le_refl, Int.le_refl, Int.toNat_zero, List.length_cons, List.length_nil, Nat.reduceAdd, Nat.reduceEqDiff, Nat.reduceBEq, Nat.reduceLeDiff, Nat.succ_ne_self, beq_self_eq_true, Bool.and_self, Int.reduceLT, Int.reduceLE, decide_true, x20, y1, t20]
            refine ⟨by omega, ?_⟩
            refine loop_more (absRun_ok TO 100 _ _ ?_)
            simp only [pureOpC, unc, absRun, absOps, absOp, evO, constSV, ungd, gdP, gdPs, setD, binI, binV, ptrE, T_ty, T_size, tTy, tSize, iaddrV, pureOp, memOp, loadV, newV, notIn, dataOf, isSrc, scal, elemsOf, rowsOf, rowOf, arrAt, blkAt, fnd, upd, elemV, Data.len, Data.esz, Lim.add, Op.operands, List.getD, List.getElem?_cons_zero, List.getElem?_cons_succ, Option.getD_some, List.set, List.map, List.all, List.toList_toArray, Option.map_some, Option.isSome, exitTo, true_and, and_self, if_true, if_false, ite_self, eq_self, ne_eq, not_false_eq_true, Bool.false_eq_true, Nat.zero_add, Int.cast_ofNat_Int, Int.reduceToNat, Int.reduceAdd, Nat.le_refl, List.length_cons, List.length_nil, Nat.reduceAdd, Nat.reduceEqDiff, Nat.reduceBEq, Nat.reduceLeDiff, Nat.succ_ne_self, beq_self_eq_true, Bool.and_self, Int.reduceLT, Int.reduceLE, decide_true, x21, y2, t21, List.length_set]
            refine ⟨by omega, ?_⟩
            refine loop_more (absRun_ok TO 100 _ _ ?_)
            simp only [pureOpC, unc, absRun, absOps, absOp, evO, constSV, ungd, gdP, gdPs, setD, binI, binV, ptrE, T_ty, T_size, tTy, tSize, iaddrV, pureOp, memOp, loadV, newV, notIn, dataOf, isSrc, scal, elemsOf, rowsOf, rowOf, arrAt, blkAt, fnd, upd, elemV, Data.len, Data.esz, Lim.add, Op.operands, List.getD, List.getElem?_cons_zero, List.getElem?_cons_succ, Option.getD_some, List.set, List.map, List.all, List.toList_toArray, Option.map_some, Option.isSome, exitTo, true_and, and_self, if_true, if_false, ite_self, eq_self, ne_eq, not_false_eq_true, Bool.false_eq_true, Nat.zero_add, Int.cast_ofNat_Int, Int.reduceToNat, Int.reduceAdd, Nat.le_refl, List.length_cons, List.length_nil, Nat.reduceAdd, Nat.reduceEqDiff, Nat.reduceBEq, Nat.reduceLeDiff, Nat.succ_ne_self, beq_self_eq_true, Bool.and_self, Int.reduceLT, Int.reduceLE, decide_true, x22, y3, t22, List.length_set]
            refine ⟨by omega, ?_⟩
            refine loop_more (absRun_ok TO 100 _ _ ?_)
            simp only [pureOpC, unc, absRun, absOps, absOp, evO, constSV, ungd, gdP, gdPs, setD, binI, binV, ptrE, T_ty, T_size, tTy, tSize, iaddrV, pureOp, memOp, loadV, newV, notIn, dataOf, isSrc, scal, elemsOf, rowsOf, rowOf, arrAt, blkAt, fnd, upd, elemV, Data.len, Data.esz, Lim.add, Op.operands, List.getD, List.getElem?_cons_zero, List.getElem?_cons_succ, Option.getD_some, List.set, List.map, List.all, List.toList_toArray, Option.map_some, Option.isSome, exitTo, true_and, and_self, if_true, if_false, ite_self, eq_self, ne_eq, not_false_eq_true, Bool.false_eq_true, Nat.zero_add, Int.cast_ofNat_Int, Int.reduceToNat, Int.reduceAdd, Nat.le_refl, List.length_cons, List.length_nil, Nat.reduceAdd, Nat.reduceEqDiff, Nat.reduceBEq, Nat.reduceLeDiff, Nat.succ_ne_self, beq_self_eq_true, Bool.and_self, Int.reduceLT, Int.reduceLE, decide_true, x23, y4, t23, List.length_set]
            refine ⟨by omega, ?_⟩
            refine loop_more (absRun_ok TO 100 _ _ ?_)
            simp only [pureOpC, unc, absRun, absOps, absOp, evO, constSV, ungd, gdP, gdPs, setD, binI, binV, ptrE, T_ty, T_size, tTy, tSize, iaddrV, pureOp, memOp, loadV, newV, notIn, dataOf, isSrc, scal, elemsOf, rowsOf, rowOf, arrAt, blkAt, fnd, upd, elemV, Data.len, Data.esz, Lim.add, Op.operands, List.getD, List.getElem?_cons_zero, List.getElem?_cons_succ, List.getElem?_nil, Option.getD_some, Option.getD_none, List.set, List.map, List.all, List.toList_toArray, Option.map_some, Option.isSome, exitTo, true_and, false_and, and_false, and_self, if_true, if_false, ite_self, eq_self, ne_eq, not_false_eq_true, Bool.false_eq_true, Nat.zero_add, Int.cast_ofNat_Int, Int.reduceToNat, Int.reduceAdd, Nat.le_refl, List.length_cons, List.length_nil, Nat.reduceAdd, Nat.reduceEqDiff, Nat.reduceBEq, Nat.reduceLeDiff, Nat.succ_ne_self, beq_self_eq_true, Bool.and_self, Int.reduceLT, Int.reduceLE, decide_false, List.length_set]
            have hsN : ((((padL (l[i]?.getD [])).set 20 z0).set 21 z1).set 22 z2).set 23 z3 = partL (l[i]?.getD []) := by
              rw [set4 _ (by omega), ← hz]; rfl
            have hpll : (partL (l[i]?.getD [])).length = (padL (l[i]?.getD [])).length := setN_length _ (by omega)
            have htk : (partL (l[i]?.getD [])).take (padL (l[i]?.getD [])).length = partL (l[i]?.getD []) := by rw [← hpll, List.take_length]
            rw [hsN]
            refine rows_ops 79 10912 ⟨⟨rfl, rfl, by decide, by simp [hpll]⟩, HOps_go TO 100 ?_⟩
            simp only [List.take_succ_cons, List.take_zero, List.drop_zero, pureOpC, unc, fitT, absRun, absOps, absOp, evO, constSV, ungd, gdP, gdPs, setD, binI, binV, ptrE, T_ty, T_size, T_bytes, tTy, tSize, tBytes, pureOp, memOp, notIn, dataOf, appD, isSrc, blkAt, fnd, upd, del, mv, Data.len, Data.esz, Data.sub, Lim.add, Op.operands, Call.operands, List.getD, List.getElem?_cons_zero, List.getElem?_cons_succ, Option.getD_some, List.set, List.toList_toArray, true_and, and_self, if_true, if_false, eq_self, Nat.zero_add, Nat.le_refl, List.append_toArray, List.nil_append, List.length_cons, List.length_nil, Nat.reduceEqDiff, Nat.reduceLeDiff, Nat.succ_ne_self, Bool.and_self, hpl, htk]
            refine ⟨by omega, ?_⟩
            rw [w64 (by omega) (by omega)]
            refine ih (i + 1, c + 1 + 1 + 1 + 1 + 1 + 1 + 1 + 1 + 1 + 1 + 1 + 1 + 1 + 1 + 1 + 1 + 1 + 1 + 1 + 1, _) _ hil (by simp only; omega) rfl ?_ ?_
            · simp [LeT, tl, htp, hpl]
            · intro n x hx
              simp only [fnd] at hx
              split at hx
              · rename_i e; subst e; simpa [fnd, htp] using hx
              · cases hx
          · rw [if_neg cl] at htp
            rw [if_neg (by simp; omega)]
            refine rows_ops 79 10800 ⟨⟨rfl, rfl, by decide, by simp⟩, HOps_go TO 100 ?_⟩
            simp only [List.take_succ_cons, List.take_zero, List.drop_zero, pureOpC, unc, fitT, absRun, absOps, absOp, evO, constSV, ungd, gdP, gdPs, setD, binI, binV, ptrE, T_ty, T_size, T_bytes, tTy, tSize, tBytes, pureOp, memOp, notIn, dataOf, appD, isSrc, blkAt, fnd, upd, del, mv, Data.len, Data.esz, Data.sub, Lim.add, Op.operands, Call.operands, List.getD, List.getElem?_cons_zero, List.getElem?_cons_succ, Option.getD_some, List.set, List.toList_toArray, true_and, and_self, if_true, if_false, eq_self, List.take_length, Nat.zero_add, Nat.le_refl, List.append_toArray, List.nil_append, List.length_cons, List.length_nil, Nat.reduceEqDiff, Nat.reduceLeDiff, Nat.succ_ne_self, Bool.and_self, hpl]
            refine ⟨by omega, ?_⟩
            rw [w64 (by omega) (by omega)]
            refine ih (i + 1, c + 1 + 1 + 1 + 1, _) _ hil (by simp only; omega) rfl ?_ ?_
            · simp [LeT, tl, htp, hpl]
            · intro n x hx
              simp only [fnd] at hx
              split at hx
              · rename_i e; subst e; simpa [fnd, htp] using hx
              · cases hx
        · rename_i hc
          have hil : i = l.length := by
            have : ¬ ((i : Int) < l.length) := fun h => hc (decide_eq_true h)
            omega
          subst hil
          have : (partsF l).take l.length = partsF l := by rw [← partsF_length l, List.take_length]
          rw [this, partsF_length]
          exact ⟨rfl, rfl⟩


theorem flat_take (p : List (List Int)) (i : Nat) (h : i < p.length) : (p.take (i + 1)).flatten = (p.take i).flatten ++ p[i]?.getD [] := by
  rw [List.take_add_one, List.getElem?_eq_getElem h, List.flatten_append]; simp

theorem flatT_le (p : List (List Int)) (i : Nat) : ((p.take i).flatten).length ≤ p.flatten.length := by
  conv => rhs; rw [← List.take_append_drop i p]
  rw [List.flatten_append, List.length_append]; omega

set_option maxHeartbeats 4000000 in
theorem joined_meets (p : List (List Int)) (h8 : p.length ≤ 1048576) (hf : p.flatten.length ≤ 1000000000000) : Meets Tryd.prog 25 [.v (.view false (.rows false p))] [.own (.ints .u8 p.flatten)] := by
  refine meets_go TO 100 Tryd.func25 rfl (fun X => ?_)
  simp only [Tryd.ntmps25, Tryd.results25, pureOpC, svs, blks, AV.sv, absRun, absOps, absOp, evO, constSV, ungd, gdP, gdPs, setD, Op.operands, List.set, List.toList_toArray, true_and, and_self, Nat.zero_add, List.cons_append, List.nil_append, List.length_cons, List.length_nil, Nat.reduceAdd, Nat.reduceSub, List.replicate_succ, List.replicate_zero]
  refine nil_go 3 16 (.ints .u8 []) rfl ⟨by simp, rfl⟩ ?_
  simp only [upd, Data.esz, List.set, Nat.reduceAdd]
  refine loop_up (fun x : Nat × Nat × Nat => x.1 ≤ p.length) (fun x => ⟨tl 18 0 [(0, .view false (.rows false p)), (3, .sl 16 x.2.1 0 1 0 ((p.take x.1).flatten).length), (4, .int .i64 x.1)], [(16, x.2.1, .vec (.ints .u8 (p.take x.1).flatten))], ⟨x.2.2, [], 0⟩⟩) (fun x => p.length - x.1) (0, 5, 7) (Nat.zero_le _) ⟨rfl, ?_, ?_⟩ ?_
  · simp [LeT, tl]
  · intro m x hx; simpa [fnd] using hx
  · rintro ⟨i, g, c⟩ hi ih
    simp only at hi
    refine absRun_ok TO 100 _ _ ?_
    simp only [pureOpC, unc, fitT, absRun, absOps, absOp, evO, constSV, ungd, gdP, gdPs, setD, binI, binV, ptrE, T_ty, T_size, T_bytes, T_zero, tTy, tSize, tBytes, tZero, iaddrV, pureOp, memOp, lenV, loadV, notIn, dataOf, appD, isSrc, zI, blkAt, fnd, upd, del, mv, elemV, Data.len, Data.esz, Lim.add, retP, resV, retQ, rAs, rA, ownN, nodup, bares, bare, bareD, Op.operands, Call.operands, List.getD, List.getElem?_cons_zero, List.getElem?_cons_succ, Option.getD_some, List.set, List.map, List.toList_toArray, exitTo, true_and, and_true, and_self, if_true, eq_self, ne_eq, not_false_eq_true, Nat.zero_add, Int.toNat_natCast, List.append_toArray, List.cons_append, List.nil_append, Nat.reduceAdd, Nat.reduceSub, Nat.reduceLT, Nat.succ_ne_self, beq_self_eq_true, List.replicate_succ, List.replicate_zero, Bool.and_self, Data.ints.injEq, tl]
    split
    · rename_i hc
      have hip : i < p.length := by have := of_decide_eq_true hc; omega
      have htk := flat_take p i hip
      have h1 := flatT_le p (i + 1)
      rw [htk, List.length_append] at h1
      refine ⟨by omega, by omega, ?_⟩
      rw [w64 (by omega) (by omega)]
      refine ih (i + 1, c + 1 + 1, _) _ hip (by simp only; omega) rfl ?_ ?_
      · simp [LeT, tl, htk]
      · intro n x hx
        simp only [fnd] at hx
        split at hx
        · rename_i e; subst e; simpa [fnd, htk] using hx
        · cases hx
    · rename_i hc
      have hip : i = p.length := by
        have : ¬ ((i : Int) < p.length) := fun h => hc (decide_eq_true h)
        omega
      subst hip
      rw [List.take_length]
      exact ⟨rfl, rfl⟩

theorem joinL_len (l : List (List Int)) (hr : ∀ b ∈ l, b.length ≤ 1048576 ∧ Bytes b) : (partsL l).length ≤ 8 ∧ (joinL l).length ≤ 8388672 := by
  by_cases h0 : partsE l = 0
  · obtain ⟨hg, hne, h8, hF⟩ := partsE_ok h0
    have hFl := partsF_len l (fun b hb => ⟨hg b hb, (hr b hb).1⟩)
    rw [← hF] at hFl
    have h1 := flatten_len hFl
    have h2 : (partsL l).length ≤ 8 := by rw [hF, partsF_length]; exact h8
    have h3 : (partsL l).length * 1048584 ≤ 8 * 1048584 := Nat.mul_le_mul_right _ h2
    refine ⟨h2, ?_⟩
    unfold joinL
    omega
  · have e1 : partsL l = [] := by unfold partsL; rw [if_neg h0]
    unfold joinL
    rw [e1]
    exact ⟨by decide, by decide⟩

end Go.Proofs.YtdhnjmepgafeiaaDoor.Abs
