/- What chain.parts answers. -/
import Derived.Test.YtdhnjmepgafeiaaDoorC4
import Derived.Test.YtdhnjmepgafeiaaDoorFX
set_option linter.unusedVariables false
set_option linter.unusedSimpArgs false
set_option maxRecDepth 100000
namespace Go.Proofs.YtdhnjmepgafeiaaDoor.Abs
open Go Go.Proofs

theorem partsF_get : ∀ (l : List (List Int)) (i : Nat), i < l.length → (partsF l)[i]? = some (if i + 1 < l.length then partL (l[i]?.getD []) else l[i]?.getD [])
  | [], i, h => by simp at h
  | [b], i, h => by
    obtain rfl : i = 0 := by simp at h; omega
    rfl
  | b :: c :: l, 0, h => by simp [partsF]
  | b :: c :: l, i + 1, h => by
    have := partsF_get (c :: l) i (by simpa using h)
    simp only [partsF, List.getElem?_cons_succ, this, List.length_cons]
    congr 1
    by_cases h2 : i + 1 < l.length + 1
    · rw [if_pos h2, if_pos (by omega)]
    · rw [if_neg h2, if_neg (by omega)]

theorem take_parts (l : List (List Int)) (i : Nat) (h : i < l.length) : (partsF l).take (i + 1) = (partsF l).take i ++ [if i + 1 < l.length then partL (l[i]?.getD []) else l[i]?.getD []] := by
  rw [List.take_add_one, partsF_get l i h]; rfl

theorem over_setN (p : List Int) (h : 64 ≤ p.length) : overI p 20 (p.length - 20) (digs 4 p.length) = setN p := by
  unfold overI setN
  rw [digs_length, show min 4 (p.length - 20) = 4 by omega]
  have := digs_length 4 (p.length : Int)
  rw [List.take_of_length_le (Nat.le_of_eq this)]

theorem clone_meets (b : List Int) (hb : b.length ≤ 140737488355328) : Meets Tryd.prog 32 [.v (.view false (.ints .u8 b))] [.own (.ints .u8 b)] := by
  refine meets_go TO 100 Tryd.func32 rfl (fun X => ?_)
  simp only [Tryd.ntmps32, Tryd.results32, pureOpC, unc, svs, blks, AV.sv, absRun, absOps, absOp, evO, constSV, ungd, gdP, gdPs, setD, binV, ptrE, pureOp, memOp, Op.operands, List.getD, List.getElem?_cons_zero, List.getElem?_cons_succ, Option.getD_some, List.set, List.toList_toArray, true_and, and_self, Nat.zero_add, List.cons_append, List.nil_append, List.length_cons, List.length_nil, Nat.reduceAdd, Nat.reduceSub, List.replicate_succ, List.replicate_zero]
  refine nilcmp_ops TO rfl rfl rfl rfl rfl (fun r hr => HOps_go TO 100 ?_)
  cases r with
  | true =>
    have h0 : b.length = 0 := hr rfl
    simp only [pureOpC, unc, fitT, absRun, absOps, absOp, evO, constSV, ungd, gdP, gdPs, setD, T_ty, T_size, T_bytes, T_zero, tTy, tSize, tBytes, tZero, pureOp, memOp, newV, notIn, dataOf, appD, isSrc, elemsOf, intsOf, zI, blkAt, fnd, upd, del, mv, Data.len, Data.esz, Lim.add, retP, resV, retQ, rAs, rA, ownN, nodup, bares, bare, bareD, Op.operands, Call.operands, List.getD, List.getElem?_cons_zero, List.getElem?_cons_succ, Option.getD_some, List.set, List.map, List.toList_toArray, true_and, and_true, and_self, if_true, if_false, eq_self, Nat.zero_add, List.append_toArray, List.nil_append, List.length_nil, Nat.reduceAdd, Nat.reduceEqDiff, Nat.reduceLeDiff, Bool.and_self]
    exact h0
  | false =>
    simp only [pureOpC, unc, fitT, absRun, absOps, absOp, evO, constSV, ungd, gdP, gdPs, setD, T_ty, T_size, T_bytes, T_zero, tTy, tSize, tBytes, tZero, pureOp, memOp, newV, notIn, dataOf, appD, isSrc, elemsOf, intsOf, zI, blkAt, fnd, upd, del, mv, Data.len, Data.esz, Lim.add, retP, resV, retQ, rAs, rA, ownN, nodup, bares, bare, bareD, Op.operands, Call.operands, List.getD, List.getElem?_cons_zero, List.getElem?_cons_succ, Option.getD_some, List.set, List.map, List.toList_toArray, true_and, and_true, and_self, if_true, if_false, eq_self, Bool.false_eq_true, Nat.zero_add, List.append_toArray, List.nil_append, List.length_nil, Nat.reduceAdd, Nat.reduceEqDiff, Nat.reduceLeDiff, Bool.and_self]
    exact ⟨by omega, by omega⟩

theorem partsE_bad {l : List (List Int)} {i : Nat} (h : i < l.length) (hg : goodB (l[i]?.getD []) = false) : partsE l = 2 ∧ partsL l = [] := by
  have : l.all goodB = false := by
    rw [List.all_eq_false]
    refine ⟨l[i]?.getD [], ?_, by simp [hg]⟩
    rw [List.getElem?_eq_getElem h]
    exact List.getElem_mem h
  have e : partsE l = 2 := by unfold partsE; rw [if_pos this]
  exact ⟨e, by unfold partsL; rw [if_neg (by rw [e]; decide)]⟩

set_option maxHeartbeats 8000000 in
theorem parts_meets (l : List (List Int)) (hl : l.length ≤ 1048576) (hr : ∀ b ∈ l, b.length ≤ 1048576 ∧ Bytes b) : Meets Tryd.prog 22 [.v (.view false (.rows false l))] [.own (.rows true (partsL l)), .v (.int .i64 (partsE l))] := by
  refine meets_go TO 100 Tryd.func22 rfl (fun X => ?_)
  simp only [Tryd.ntmps22, Tryd.results22, pureOpC, unc, svs, blks, AV.sv, absRun, absOps, absOp, evO, constSV, ungd, gdP, gdPs, setD, T_ty, tTy, pureOp, lenV, Data.len, Op.operands, Call.operands, List.getD, List.getElem?_cons_zero, List.getElem?_cons_succ, Option.getD_some, List.set, List.toList_toArray, true_and, and_self, Nat.zero_add, List.append_toArray, List.cons_append, List.nil_append, List.length_cons, List.length_nil, Nat.reduceAdd, Nat.reduceSub, List.replicate_succ, List.replicate_zero]
  have hget : ∀ i, i < l.length → (l[i]?.getD []).length ≤ 1048576 ∧ Bytes (l[i]?.getD []) := fun i h => by rw [List.getElem?_eq_getElem h]; exact hr _ (List.getElem_mem h)
  refine loop_up (fun x : Nat × Nat => x.1 ≤ l.length ∧ ∀ j, j < x.1 → goodB (l[j]?.getD []) = true) (fun x => ⟨tl 74 0 [(0, .view false (.rows false l)), (14, .view false (.rows false l)), (15, .int .i64 l.length), (16, .int .i64 x.1)], [], ⟨x.2, [], 0⟩⟩) (fun x => l.length - x.1) (0, _) ⟨Nat.zero_le _, by simp⟩ ⟨rfl, ?_, ?_⟩ ?_
  · simp [LeT, tl]
  · intro m x hx; simp [fnd] at hx
  · rintro ⟨i, c⟩ ⟨hi, hgd⟩ ih
    simp only at hi hgd
    refine absRun_ok TO 100 _ _ ?_
    simp only [pureOpC, unc, absRun, absOps, absOp, evO, constSV, ungd, gdP, gdPs, setD, binI, binV, ptrE, T_ty, T_size, tTy, tSize, iaddrV, pureOp, memOp, lenV, loadV, elemV, Data.len, Data.esz, retP, resV, retQ, rAs, rA, rA0, ownN, nodup, bares, bare, bare0, bareD, Op.operands, Call.operands, List.getD, List.getElem?_cons_zero, List.getElem?_cons_succ, Option.getD_some, List.set, List.map, List.toList_toArray, exitTo, true_and, and_true, and_self, if_true, eq_self, ne_eq, not_false_eq_true, Nat.zero_add, Int.toNat_natCast, List.append_toArray, List.cons_append, List.nil_append, Nat.reduceAdd, Nat.reduceSub, Nat.reduceLT, Nat.succ_ne_self, beq_self_eq_true, List.replicate_succ, List.replicate_zero, Bool.and_self, tl, gt_iff_lt]
    split
    · rename_i hc
      have hil : i < l.length := by have := of_decide_eq_true hc; omega
      obtain ⟨q1, q2⟩ := hget i hil
      have hG := hGet07_meets (l[i]?.getD []) 0 (by omega) q2 (by decide)
      simp only [Hd.sv] at hG
      refine ⟨by omega, ?_⟩
      refine call_go TO 100 hG Tryd.func27 (by decide +kernel) rfl rfl rfl ?_
      simp only [pureOpC, cntC, unc, absRun, absOps, absOp, evO, constSV, ungd, gdP, gdPs, setD, binI, binV, ptrE, T_ty, T_size, T_zero, tTy, tSize, tZero, fieldOf, faddrV, extractV, pickV, pureOp, guardOf, memOp, loadV, newV, notIn, scal, okC, cellAt, takeC, dropC, blkAt, fnd, upd, Data.len, Lim.add, retP, resV, retQ, rAs, rA, rA0, ownN, nodup, bares, bare, bare0, bareL, bareD, guardIs, callP, callS, argS, mAs, mA, mA0, mB0, lowD, allNotIn, impN, impB, impT, packS, delL, Op.operands, List.getD, List.getElem?_cons_zero, List.getElem?_cons_succ, Option.getD_some, List.set, List.map, List.toList_toArray, List.getElem?_toArray, Option.bind_some, true_and, and_true, and_self, implies_true, imp_self, if_true, if_false, eq_self, ne_eq, not_false_eq_true, reduceCtorEq, Nat.zero_add, Nat.add_zero, Nat.le_refl, Bool.cond_true_left, List.nil_append, List.append_nil, Nat.reduceAdd, Nat.reduceSub, Nat.reduceLT, Nat.succ_ne_self, List.replicate_succ, List.replicate_zero, Bool.and_self]
      have hgb : (gotE (l[i]?.getD []) 0 != 0 || (gotH (l[i]?.getD []) 0).next != 0) = !goodB (l[i]?.getD []) := by
        unfold goodB; simp [bne]
      rw [hgb]
      cases hg : goodB (l[i]?.getD []) with
      | false =>
        obtain ⟨e1, e2⟩ := partsE_bad hil hg
        simp [e1, e2]
      | true =>
        simp only [Bool.not_true, Bool.false_eq_true, if_false]
        rw [w64 (by omega) (by omega)]
        refine ih (i + 1, _) _ ⟨hil, fun j hj => ?_⟩ (by simp only; omega) rfl ?_ ?_
        · rcases Nat.lt_succ_iff_lt_or_eq.1 hj with h | h
          · exact hgd j h
          · rw [h]; exact hg
        · simp [LeT, tl]
        · intro n x hx; simp [fnd] at hx
    · rename_i hc
      have hil : i = l.length := by
        have : ¬ ((i : Int) < l.length) := fun h => hc (decide_eq_true h)
        omega
      subst hil
      have hall : l.all goodB = true := by
        rw [List.all_eq_true]
        intro x hx
        obtain ⟨j, hj, rfl⟩ := List.getElem_of_mem hx
        have := hgd j hj
        rw [List.getElem?_eq_getElem hj] at this
        exact this
      have eE : partsE l = if l = [] then 2 else if 8 < l.length then 3 else 0 := by unfold partsE; rw [if_neg (by rw [hall]; simp)]
      by_cases c1 : l = []
      · rw [if_pos c1] at eE
        have e2 : partsL l = [] := by unfold partsL; rw [if_neg (by rw [eE]; decide)]
        rw [if_pos (by simp [c1]), eE, e2]
        exact ⟨rfl, rfl⟩
      rw [if_neg c1] at eE
      have hpos : 0 < l.length := List.length_pos_iff.2 c1
      rw [if_neg (by simp; omega)]
      by_cases c2 : 8 < l.length
      · rw [if_pos c2] at eE
        have e2 : partsL l = [] := by unfold partsL; rw [if_neg (by rw [eE]; decide)]
        rw [if_pos (decide_eq_true (by omega)), eE, e2]
        exact ⟨rfl, rfl⟩
      rw [if_neg c2] at eE
      rw [if_neg (by simp; omega)]
      have e2 : partsL l = partsF l := by unfold partsL; rw [if_pos eE]
      rw [eE, e2]
      refine nil_go 8 71 (.rows true []) rfl ⟨by simp, rfl⟩ ?_
      simp only [upd, Data.esz, List.set]
      refine loop_up (fun x : Nat × Nat × Nat => x.1 ≤ l.length) (fun x => ⟨tl 74 0 [(0, .view false (.rows false l)), (8, .sl 71 x.2.1 0 1 0 ((partsF l).take x.1).length), (41, .view false (.rows false l)), (42, .int .i64 l.length), (43, .int .i64 x.1)], [(71, x.2.1, .vec (.rows true ((partsF l).take x.1)))], ⟨x.2.2, [], 0⟩⟩) (fun x => l.length - x.1) (0, c + 1 + 1 + 1 + 1 + 1 + 1, c + 1 + 1 + 1 + 1 + 1 + 1 + 1 + 1) (Nat.zero_le _) ⟨rfl, ?_, ?_⟩ ?_
      · simp [LeT, tl]
      · intro m x hx; simpa [fnd] using hx
      · rintro ⟨i, g, c⟩ hi ih
        simp only at hi
        have hpl : ((partsF l).take i).length = i := by rw [List.length_take, partsF_length]; omega
        refine absRun_ok TO 100 _ _ ?_
        simp only [pureOpC, unc, absRun, absOps, absOp, evO, constSV, ungd, gdP, gdPs, setD, binI, binV, ptrE, T_ty, T_size, tTy, tSize, iaddrV, pureOp, memOp, loadV, notIn, blkAt, fnd, elemV, Data.len, Data.esz, retP, resV, retQ, rAs, rA, rA0, ownN, nodup, bares, bare, bare0, bareD, Op.operands, List.getD, List.getElem?_cons_zero, List.getElem?_cons_succ, Option.getD_some, List.set, List.map, List.toList_toArray, exitTo, true_and, and_true, and_self, if_true, eq_self, ne_eq, not_false_eq_true, Nat.zero_add, Int.toNat_natCast, List.cons_append, List.nil_append, Nat.reduceAdd, Nat.reduceSub, Nat.reduceLT, Nat.succ_ne_self, beq_self_eq_true, List.replicate_succ, List.replicate_zero, Bool.and_self, tl, hpl]
        split
        · rename_i hc
          have hil : i < l.length := by have := of_decide_eq_true hc; omega
          obtain ⟨q1, q2⟩ := hget i hil
          have hg := hgd i hil
          have h64 := got_len (last_got _ hg).1
          have hC := clone_meets (l[i]?.getD []) (by omega)
          have hP := Pad_meets (l[i]?.getD []) (by omega)
          have hpd := padL_length (l[i]?.getD [])
          obtain ⟨p1, p2, p3⟩ := padN_le (l[i]?.getD []).length
          have hQ := Put_meets ((padL (l[i]?.getD [])).length : Nat) (4 : Nat) (by omega) (by omega)
          rw [putL_0 (by decide) (by omega), putE_0 (by decide) (by omega)] at hQ
          simp only [Int.cast_ofNat_Int] at hQ
          have wp : IntKind.u64.wrap ((padL (l[i]?.getD [])).length : Int) = (padL (l[i]?.getD [])).length := wu64 (by omega) (by omega)
          have w1 : IntKind.i64.wrap ((l.length : Int) - 1) = l.length - 1 := w64 (by omega) (by omega)
          have hov := over_setN (padL (l[i]?.getD [])) (by omega)
          have htp := take_parts l i hil
          refine ⟨by omega, ?_⟩
          refine call_go TO 100 hC Tryd.func32 (by decide +kernel) rfl rfl rfl ?_
          simp only [pureOpC, unc, absRun, absOps, absOp, evO, constSV, ungd, gdP, gdPs, setD, binI, binV, ptrE, T_ty, T_size, tTy, tSize, pureOp, memOp, lenV, newV, notIn, dataOf, isSrc, scal, elemsOf, rowsOf, rowOf, arrAt, blkAt, fnd, upd, Data.len, Data.esz, Lim.add, ownN, nodup, bares, bare, bareD, guardIs, callP, callS, argS, mAs, mA, mA0, mB0, lowD, allNotIn, nm, impN, impB, impT, packS, delL, Op.operands, Call.operands, List.getD, List.getElem?_cons_zero, List.getElem?_cons_succ, Option.getD_some, List.set, List.map, List.all, List.toList_toArray, Option.map_some, Option.isSome, true_and, and_self, if_true, if_false, ite_self, eq_self, Nat.zero_add, Nat.add_zero, List.append_toArray, List.nil_append, List.append_nil, List.length_cons, List.length_nil, Nat.reduceAdd, Nat.reduceMul, Nat.reduceEqDiff, Nat.reduceLeDiff, Bool.and_self, w1]
          by_cases cl : i + 1 < l.length
          · rw [if_pos cl] at htp
            rw [if_pos (decide_eq_true (by omega))]
            refine call_go TO 100 hP Tryd.func33 (by decide +kernel) rfl rfl rfl ?_
            simp only [pureOpC, unc, absRun, absOps, absOp, evO, ungd, gdP, gdPs, setD, convV, T_ty, tTy, pureOp, memOp, lenV, notIn, known, blkAt, fnd, upd, Data.len, Data.esz, ownN, nodup, bares, bare, bareD, guardIs, callP, callS, argS, mAs, mA, mA0, mB0, lowD, allNotIn, nm, impN, impB, impT, packS, delL, Op.operands, Call.operands, List.getD, List.getElem?_cons_zero, List.getElem?_cons_succ, Option.getD_some, List.set, List.map, List.toList_toArray, true_and, and_self, if_true, if_false, eq_self, Nat.zero_add, Nat.add_zero, List.append_toArray, List.nil_append, List.append_nil, Nat.reduceAdd, Nat.reduceMul, Nat.reduceEqDiff, Bool.and_self, wp]
            refine call_go TO 100 hQ Tryd.func34 (by decide +kernel) rfl rfl rfl ?_
            have hsb : (((padL (l[i]?.getD [])).length : Int) - 20).toNat = (padL (l[i]?.getD [])).length - 20 := by omega
            have hsl := setN_length (padL (l[i]?.getD [])) (by omega)
            have htk : (setN (padL (l[i]?.getD []))).take (padL (l[i]?.getD [])).length = partL (l[i]?.getD []) := by rw [← hsl, List.take_length]; rfl
            simp only [List.drop_zero, pureOpC, unc, absRun, absOps, absOp, evO, constSV, ungd, gdP, gdPs, setD, T_ty, T_size, tTy, tSize, extractV, lowI, highI, maxP, sliceV, pureOp, memOp, newV, notIn, dataOf, isSrc, scal, elemsOf, rowsOf, rowOf, arrAt, blkAt, fnd, upd, Data.len, Data.esz, Data.sub, Lim.add, ownN, nodup, bares, bare, bare0, bareD, guardIs, callP, callS, argS, mAs, mA, mA0, mB0, allNotIn, nm, impN, impB, impT, packS, delL, Op.operands, Call.operands, List.getD, List.getElem?_cons_zero, List.getElem?_cons_succ, Option.getD_some, List.set, List.map, List.all, List.toList_toArray, Option.map_some, Option.map_none, Option.isSome, true_and, and_true, and_self, if_true, if_false, ite_self, eq_self, ne_eq, not_false_eq_true, List.take_length, Nat.zero_add, Nat.add_zero, Int.reduceToNat, Nat.le_refl, Int.le_refl, Option.toArray_some, Option.toArray_none, List.append_toArray, List.cons_append, List.nil_append, List.append_nil, List.length_cons, List.length_nil, Nat.reduceAdd, Nat.reduceMul, Nat.reduceEqDiff, Nat.reduceLeDiff, Nat.succ_ne_self, Bool.and_self, Int.reduceLE, hsb, hov]
            refine ⟨by omega, by omega, ?_⟩
            refine rows_ops 70 10896 ⟨⟨rfl, rfl, by decide, by simp [hsl]⟩, HOps_go TO 100 ?_⟩
            simp only [List.take_succ_cons, List.take_zero, List.drop_zero, pureOpC, unc, fitT, absRun, absOps, absOp, evO, constSV, ungd, gdP, gdPs, setD, binI, binV, ptrE, T_ty, T_size, T_bytes, tTy, tSize, tBytes, pureOp, memOp, notIn, dataOf, appD, isSrc, blkAt, fnd, upd, del, mv, Data.len, Data.esz, Data.sub, Lim.add, Op.operands, Call.operands, List.getD, List.getElem?_cons_zero, List.getElem?_cons_succ, Option.getD_some, List.set, List.toList_toArray, true_and, and_self, if_true, if_false, eq_self, Nat.zero_add, Nat.le_refl, List.append_toArray, List.nil_append, List.length_cons, List.length_nil, Nat.reduceEqDiff, Nat.reduceLeDiff, Nat.succ_ne_self, Bool.and_self, hpl, htk]
            refine ⟨by omega, ?_⟩
            rw [w64 (by omega) (by omega)]
            refine ih (i + 1, c + 1 + 1 + 1 + 1 + 1 + 1 + 1 + 1, _) _ hil (by simp only; omega) rfl ?_ ?_
            · simp [LeT, tl, htp, hpl]
            · intro n x hx
              simp only [fnd] at hx
              split at hx
              · rename_i e; subst e; simpa [fnd, htp] using hx
              · cases hx
          · rw [if_neg cl] at htp
            rw [if_neg (by simp; omega)]
            refine rows_ops 70 10784 ⟨⟨rfl, rfl, by decide, by simp⟩, HOps_go TO 100 ?_⟩
            simp only [List.take_succ_cons, List.take_zero, List.drop_zero, pureOpC, unc, fitT, absRun, absOps, absOp, evO, constSV, ungd, gdP, gdPs, setD, binI, binV, ptrE, T_ty, T_size, T_bytes, tTy, tSize, tBytes, pureOp, memOp, notIn, dataOf, appD, isSrc, blkAt, fnd, upd, del, mv, Data.len, Data.esz, Data.sub, Lim.add, Op.operands, Call.operands, List.getD, List.getElem?_cons_zero, List.getElem?_cons_succ, Option.getD_some, List.set, List.toList_toArray, true_and, and_self, if_true, if_false, eq_self, List.take_length, Nat.zero_add, Nat.le_refl, List.append_toArray, List.nil_append, List.length_cons, List.length_nil, Nat.reduceEqDiff, Nat.reduceLeDiff, Nat.succ_ne_self, Bool.and_self, hpl]
            refine ⟨by omega, ?_⟩
            rw [w64 (by omega) (by omega)]
            refine ih (i + 1, c + 1 + 1 + 1 + 1 + 1, _) _ hil (by simp only; omega) rfl ?_ ?_
            · simp [LeT, tl, htp, hpl]
            · intro n x hx
              simp only [fnd] at hx
              split at hx
              · rename_i e; subst e; simpa [fnd, htp] using hx
              · cases hx
        · rename_i hc
          have hil : i = l.length := by
            have : ¬ ((i : Int) < l.length) := fun h => hc (decide_eq_true h)
            omega
          subst hil
          have : (partsF l).take l.length = partsF l := by rw [← partsF_length l, List.take_length]
          rw [this, partsF_length]
          exact ⟨rfl, rfl⟩

end Go.Proofs.YtdhnjmepgafeiaaDoor.Abs
