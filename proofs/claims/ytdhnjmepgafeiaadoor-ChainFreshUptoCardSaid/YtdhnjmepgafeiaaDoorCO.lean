/- The law ChainFresh answers true. -/
import Derived.Test.YtdhnjmepgafeiaaDoorCN
import Derived.Test.YtdhnjmepgafeiaaDoorCP
import Derived.Test.YtdhnjmepgafeiaaDoorCD
import Derived.Test.YtdhnjmepgafeiaaDoorC8
import Derived.Test.YtdhnjmepgafeiaaDoorC9
import Derived.Test.YtdhnjmepgafeiaaDoorF25
set_option linter.unusedVariables false
set_option linter.unusedSimpArgs false
set_option maxRecDepth 100000
namespace Go.Proofs.YtdhnjmepgafeiaaDoor.Abs
open Go Go.Proofs

theorem rowsS_inV {b : List (Nat × Nat × Blk)} : ∀ (q : List (Nat × List Int)) (i : Nat), (∀ j, j < q.length → fnd b (1000000 + (i + j)) = some ((q.getD j default).1, .vec (.ints .u8 (q.getD j default).2))) → ∀ x ∈ rowsS i q, inV b x
  | [], _, _, x, hx => by simp [rowsS] at hx
  | y :: q, i, h, x, hx => by
    simp only [rowsS, List.mem_cons] at hx
    rcases hx with rfl | hx
    · have := h 0 (by simp)
      exact ⟨_, by simpa [List.getD] using this⟩
    · refine rowsS_inV q (i + 1) (fun j hj => ?_) x hx
      have := h (j + 1) (by simpa using hj)
      rw [show i + 1 + j = i + (j + 1) by omega]
      simpa [List.getD] using this

theorem del_rows4 {q : List (Nat × List Int)} {i : Nat} {m : List (Nat × Nat × Blk)} : del (rowsB (i + 1) q ++ m) (1000000 + i) = rowsB (i + 1) q ++ del m (1000000 + i) := del_rows2 (by omega)

theorem rowsB_one {q : List (Nat × List Int)} {n : Nat} {y : Nat × Blk} (h : fnd (rowsB 0 q) n = some y) : (∃ l, y.2 = .vec (.ints .u8 l)) ∧ 1000000 ≤ n := by
  obtain ⟨j, h1, h2, h3⟩ := rowsB_inv h
  exact ⟨⟨_, by rw [h3]⟩, by omega⟩

theorem splitQ_in {b : List Int} {m : List (Nat × Nat × Blk)} (h1 : fnd m 5064 = none) (h2 : ∀ n, 1000000 ≤ n → fnd m n = none) (x : SV) (b' : List (Nat × Nat × Blk)) (c1 : Nat) (h : splitQ 5064 b x b' c1) :
    inX b' x ∧ (∀ n y, fnd b' n = some y → inB b' y.2 ∧ fnd m n = none) := by
  rcases h with ⟨h0, g, q, k, hq, rfl, rfl⟩ | ⟨h0, rfl, rfl⟩
  · refine ⟨⟨⟨Blk.cells (rowsS 0 q ++ List.replicate k SV.any), by simp only [fnd, if_true]⟩, trivial⟩, fun n y hn => ?_⟩
    simp only [fnd, List.append_nil] at hn
    split at hn
    · rename_i e
      subst e
      cases hn
      refine ⟨?_, h1⟩
      show ∀ x ∈ rowsS 0 q ++ List.replicate k SV.any, inV _ x
      intro x hx
      rcases List.mem_append.1 hx with hx | hx
      · refine rowsS_inV q 0 (fun j hj => ?_) x hx
        have := rowsB_at q 0 j hj
        simp only [fnd, List.append_nil]
        rw [if_neg (by omega)]; exact this
      · rw [List.eq_of_mem_replicate hx]; trivial
    · obtain ⟨⟨l, hl⟩, hn2⟩ := rowsB_one hn
      exact ⟨by rw [hl]; trivial, h2 n hn2⟩
  · exact ⟨⟨trivial, trivial⟩, fun n y hn => by simp [fnd] at hn⟩

set_option maxHeartbeats 16000000 in
theorem ChainFresh_law (l : List (List Int)) (hl : l.length ≤ 1048576 ∧ ∀ b ∈ l, b.length ≤ 1048576 ∧ Bytes b) : Meets Tryd.prog 4 ([.view false (.rows false l)].map .v) [.v (.bool true)] := by
  obtain ⟨hl, hr⟩ := hl
  have hC := copied_meets l hl hr
  have hJ := Join_meets l hl hr
  have hjl := (joinL_len l hr).2
  have hCo := copy12_meets (joinL l) (by omega)
  have hS := Same_meets (joinL l) (joinL l) (by omega)
  rw [show decide (joinL l = joinL l) = true by simp] at hS
  have hL := lists12_meets l l (by omega) (fun x hx => by have := (hr x hx).1; omega)
  rw [show decide (l = l) = true by simp] at hL
  refine meets_go TO 100 Tryd.func4 rfl (fun X => ?_)
  simp only [Tryd.ntmps4, Tryd.results4, pureOpC, svs, blks, AV.sv, absRun, absOps, absOp, evO, constSV, ungd, gdP, gdPs, setD, pureOp, memOp, Op.operands, List.getD, List.getElem?_cons_zero, Option.getD_some, List.set, List.map, List.toList_toArray, true_and, and_self, Nat.zero_add, List.cons_append, List.nil_append, List.length_cons, List.length_nil, Nat.reduceAdd, Nat.reduceSub, List.replicate_succ, List.replicate_zero]
  refine call_go TO 100 hC Tryd.func8 (by decide +kernel) rfl rfl rfl ?_
  simp only [pureOpC, unc, absRun, absOps, absOp, evO, ungd, gdP, gdPs, setD, pureOp, memOp, notIn, upd, Data.len, Data.esz, ownN, nodup, bares, bare, bareD, guardIs, callP, callS, argS, mAs, mA, mA0, mB0, lowD, allNotIn, nm, impN, impB, impT, packS, delL, Op.operands, List.getD, List.getElem?_cons_zero, List.getElem?_cons_succ, Option.getD_some, List.set, List.map, List.toList_toArray, true_and, and_self, eq_self, Nat.zero_add, Nat.add_zero, List.append_nil, Nat.reduceAdd, Nat.reduceMul, Bool.and_self]
  refine call_go TO 100 hJ Tryd.func13 (by decide +kernel) rfl rfl rfl ?_
  simp only [List.drop_zero, pureOpC, unc, absRun, absOps, absOp, evO, constSV, ungd, gdP, gdPs, setD, binI, binV, ptrE, extractV, pureOp, memOp, notIn, blkAt, fnd, upd, Data.len, Data.esz, Data.sub, ownN, nodup, bares, bare, bare0, bareD, guardIs, callP, callS, argS, mAs, mA, mA0, mB0, lowD, allNotIn, nm, impN, impB, impT, packS, delL, Op.operands, List.getD, List.getElem?_cons_zero, List.getElem?_cons_succ, Option.getD_some, List.set, List.map, List.toList_toArray, true_and, and_self, if_true, if_false, eq_self, List.take_length, Nat.zero_add, Nat.add_zero, Nat.le_refl, List.append_nil, Nat.reduceAdd, Nat.reduceMul, Nat.reduceEqDiff, Bool.and_self]
  by_cases h0 : partsE l = 0
  rotate_left
  · rw [if_pos (by simpa using h0)]
    refine call_go TO 100 lives12_meets Tryd.func7 (by decide +kernel) rfl rfl rfl ?_
    simp only [pureOpC, unc, absRun, absOps, absOp, evO, ungd, gdP, gdPs, setD, retP, resV, retQ, rAs, rA, rA0, ownN, nodup, bares, bare, bare0, guardIs, callP, callS, argS, mAs, allNotIn, impN, impB, impT, packS, delL, Op.operands, List.getD, List.getElem?_cons_zero, List.getElem?_cons_succ, Option.getD_some, List.set, List.map, List.toList_toArray, and_self, eq_self, List.append_nil, Bool.and_self]
  rw [if_neg (by simpa using h0)]
  obtain ⟨hg, hne, h8, hF⟩ := partsE_ok h0
  have hg2 : ∀ b ∈ l, goodB b = true ∧ b.length ≤ 1048576 := fun b hb => ⟨hg b hb, (hr b hb).1⟩
  have hjF : joinL l = (partsF l).flatten := by unfold joinL; rw [hF]
  have hBj : Bytes (joinL l) := by rw [hjF]; exact bytes_flatten (partsF_bytes l (fun b hb => (hr b hb).2))
  have hsE : splitE (joinL l) = 0 ∨ splitE (joinL l) = 5 := by
    obtain ⟨b0, l0, rfl⟩ : ∃ b0 l0, l = b0 :: l0 := by
      cases l with
      | nil => exact absurd rfl hne
      | cons a b => exact ⟨a, b, rfl⟩
    rw [hjF]
    cases hrel : relB (gotH b0 0) with
    | true => right; unfold splitE; rw [split_rel b0 l0 8 hg2 hrel]
    | false => left; unfold splitE; rw [split_parts (b0 :: l0) 9 [] (by simp) hg2 (by simp at h8 ⊢; omega) (by omega) (.inr fun b hb => by simp at hb; subst hb; exact hrel)]
  refine call_go TO 100 hCo Tryd.func14 (by decide +kernel) rfl rfl rfl ?_
  simp only [List.drop_zero, pureOpC, unc, absRun, absOps, absOp, evO, ungd, gdP, gdPs, setD, pureOp, memOp, notIn, blkAt, fnd, upd, Data.len, Data.esz, Data.sub, ownN, nodup, bares, bare, bareD, guardIs, callP, callS, argS, mAs, mA, mA0, mB0, lowD, allNotIn, nm, impN, impB, impT, packS, delL, Op.operands, List.getD, List.getElem?_cons_zero, List.getElem?_cons_succ, Option.getD_some, List.set, List.map, List.toList_toArray, true_and, and_self, if_true, if_false, eq_self, List.take_length, Nat.zero_add, Nat.add_zero, Nat.le_refl, List.append_nil, Nat.reduceAdd, Nat.reduceMul, Nat.reduceEqDiff, Bool.and_self]
  refine inCF_ops TO 100 (dd := Data.ints IntKind.u8 (joinL l)) (fun X c0 => split_inCE (joinL l) (by omega) hBj) Tryd.func15 (by decide +kernel) rfl rfl rfl rfl rfl ?_ (splitQ_in ?_ ?_) (fun x b' c1 hQ => ?_)
  · simp only [List.drop_zero, notIn, blkAt, fnd, Data.len, Data.esz, Data.sub, mA0, mB0, lowD, and_self, if_true, if_false, eq_self, List.take_length, Nat.zero_add, Nat.le_refl, Nat.reduceEqDiff]
  · simp only [fnd, if_false, eq_self, Nat.reduceEqDiff]
  · intro n hn
    simp only [fnd]
    rw [if_neg (by omega), if_neg (by omega), if_neg (by omega)]
  rcases hQ with ⟨h5, g, q, k, hq, rfl, rfl⟩ | ⟨h5, rfl, rfl⟩
  · simp only [pureOpC, unc, absRun, absOps, absOp, evO, constSV, ungd, gdP, gdPs, setD, extractV, pureOp, Op.operands, List.getD, List.getElem?_cons_zero, List.getElem?_cons_succ, Option.getD_some, List.set, List.toList_toArray, true_and, and_self, List.cons_append, List.append_nil]
    have hPl := partsF_len l hg2
    have hql : q.length ≤ 8 := by
      have := (splitF_cover 9 (joinL l) [] h5 (by decide)).2.2
      have e := congrArg List.length hq
      rw [List.length_map] at e
      unfold splitL at e
      omega
    refine loop_up (fun x : Nat × Nat => x.1 ≤ q.length) (fun x => ⟨tl 74 0 [(0, .view false (.rows false l)), (3, .sl 10208 3 0 1 0 l.length), (4, .sl 10256 4 0 1 0 (joinL l).length), (6, .sl 10368 6 0 1 0 (joinL l).length), (7, .sl 5064 g 0 1 0 q.length), (8, .int .i64 0), (9, .int .i64 x.1)],
      (5064, g, .cells (rowsS 0 q ++ List.replicate k SV.any)) :: (rowsB x.1 (q.drop x.1) ++ [(10208, 3, .vec (.rows true l)), (10256, 4, .vec (.ints .u8 (joinL l))), (10368, 6, .vec (.ints .u8 (joinL l)))]), ⟨x.2, [], 0⟩⟩) (fun x => q.length - x.1) (0, _) (Nat.zero_le _) ⟨rfl, ?_, ?_⟩ ?_
    · simp [LeT, tl]
    · exact fun n x h => h
    rintro ⟨i, c⟩ hi ih
    simp only at hi
    refine absRun_ok TO 7 _ _ ?_
    have hne1 : (1000000 + i = 5064) = False := eq_false (by omega)
    have hne2 : (1000000 + i = 10208) = False := eq_false (by omega)
    have hne3 : (1000000 + i = 10256) = False := eq_false (by omega)
    have hne4 : (1000000 + i = 10368) = False := eq_false (by omega)
    simp only [fnd_rows, pureOpC, unc, absRun, absOps, absOp, evO, ungd, gdP, gdPs, setD, binI, binV, ptrE, T_ty, tTy, pureOp, lenV, blkAt, fnd, Op.operands, Call.operands, List.getD, List.getElem?_cons_zero, List.getElem?_cons_succ, Option.getD_some, List.set, List.toList_toArray, exitTo, true_and, and_self, if_true, if_false, eq_self, Nat.zero_add, List.append_toArray, List.cons_append, List.nil_append, Nat.reduceAdd, Nat.reduceSub, Nat.reduceEqDiff, Nat.reduceLT, beq_self_eq_true, List.replicate_succ, List.replicate_zero, tl]
    split
    · rename_i hc
      have hiq : i < q.length := by have := of_decide_eq_true hc; omega
      obtain ⟨⟨gi, row⟩, hx⟩ : ∃ x : Nat × List Int, q.getD i default = x := ⟨_, rfl⟩
      have hdr : q.drop i = (gi, row) :: q.drop (i + 1) := by
        rw [List.drop_eq_getElem_cons hiq, ← hx]; simp [List.getD, hiq]
      have hcell := cell_row (q := q) (k := k) hiq
      rw [hx] at hcell
      rw [hdr]
      simp only [rowsB]
      refine HRun_region (part_opsN TO 4 ?_)
      simp only [absOpsM, Nat.mul_one, hcell, pureOpC, unc, absOp, evO, ungd, gdP, gdPs, setD, T_ty, T_size, tTy, tSize, iaddrV, pureOp, loadV, blkAt, fnd, Op.operands, List.getD, List.getElem?_cons_zero, List.getElem?_cons_succ, Option.getD_some, List.set, List.toList_toArray, true_and, and_self, if_true, eq_self, ne_eq, not_false_eq_true, Nat.zero_add, Int.toNat_natCast, List.cons_append, Nat.succ_ne_self]
      refine ⟨⟨by omega, by omega⟩, ?_⟩
      refine ren_ops 38 (1000000 + i) 7000 (d := Data.ints IntKind.u8 row) ⟨by simp, rfl, by simp only [fnd, hne1, fnd, if_true, if_false, eq_self]⟩ ?_
      refine call_go TO 100 (Spoil_meets row 9) Tryd.func16 (by decide +kernel) rfl rfl rfl ?_
      have wi : IntKind.i64.wrap ((i : Int) + 1) = ((i + 1 : Nat) : Int) := by rw [w64 (by omega) (by omega)]; omega
      simp only [wi, mv, del_rows4, fnd_rows, upd_rows, del_rows, hne1, hne2, hne3, hne4, pureOpC, unc, absRun, absOps, absOp, evO, constSV, ungd, gdP, gdPs, setD, binI, binV, ptrE, pureOp, notIn, blkAt, fnd, upd, del, mv, Data.len, Data.esz, ownN, nodup, bares, guardIs, callP, callS, argS, mAs, mA, mA0, mB0, lowD, allNotIn, impN, impB, impT, packS, delL, Op.operands, List.getD, List.getElem?_cons_zero, List.getElem?_cons_succ, Option.getD_some, List.set, List.map, List.toList_toArray, true_and, and_self, if_true, if_false, eq_self, List.append_nil, Nat.reduceEqDiff, Nat.reduceLT]
      refine ih (i + 1, _) _ hiq (by simp only; omega) rfl ?_ ?_
      · simp [LeT, tl]
      · exact fun n x h => h
    · rename_i hc
      have hiq : i = q.length := by
        have : ¬ ((i : Int) < q.length) := fun h => hc (decide_eq_true h)
        omega
      subst hiq
      rw [List.drop_length]
      simp only [rowsB, List.nil_append]
      refine absRun_ok TO 100 _ _ ?_
      simp only [pureOpC, absRun, absOps, absOp, evO, ungd, gdP, gdPs, setD, pureOp, memOp, Op.operands, List.getD, List.getElem?_cons_zero, List.getElem?_cons_succ, Option.getD_some, List.set, List.toList_toArray, true_and, and_self]
      refine call_go TO 100 hS Tryd.func11 (by decide +kernel) rfl rfl rfl ?_
      simp only [List.drop_zero, pureOpC, unc, absRun, absOps, absOp, evO, constSV, ungd, gdP, gdPs, setD, unV, pureOp, memOp, notIn, blkAt, fnd, Data.len, Data.esz, Data.sub, retP, resV, retQ, rAs, rA, rA0, ownN, nodup, bares, bare, bare0, guardIs, callP, callS, argS, mAs, mA, mA0, mB0, lowD, allNotIn, impN, impB, impT, packS, delL, Op.operands, List.getD, List.getElem?_cons_zero, List.getElem?_cons_succ, Option.getD_some, List.set, List.map, List.toList_toArray, true_and, and_true, and_false, and_self, if_true, if_false, eq_self, Bool.false_eq_true, List.take_length, Nat.zero_add, Nat.le_refl, List.append_nil, Nat.reduceEqDiff, Bool.not_true, Bool.and_self]
      refine call_go TO 100 (Spoil_meets (joinL l) 9) Tryd.func16 (by decide +kernel) rfl rfl rfl ?_
      simp only [pureOpC, unc, absRun, absOps, absOp, evO, constSV, ungd, gdP, gdPs, setD, pureOp, memOp, notIn, blkAt, fnd, del, Data.len, Data.esz, ownN, nodup, bares, guardIs, callP, callS, argS, mAs, mA, mA0, mB0, lowD, allNotIn, impN, impB, impT, packS, delL, Op.operands, List.getD, List.getElem?_cons_zero, List.getElem?_cons_succ, Option.getD_some, List.set, List.map, List.toList_toArray, true_and, and_self, if_true, if_false, eq_self, List.append_nil, Nat.reduceEqDiff]
      rw [h0] at hJ
      refine call_go TO 100 hJ Tryd.func13 (by decide +kernel) rfl rfl rfl ?_
      simp only [List.drop_zero, pureOpC, unc, absRun, absOps, absOp, evO, constSV, ungd, gdP, gdPs, setD, binI, binV, ptrE, extractV, pickV, pureOp, guardOf, notIn, blkAt, fnd, upd, Data.len, Data.esz, Data.sub, ownN, nodup, bares, bare, bare0, bareD, guardIs, callP, callS, argS, mAs, mA, mA0, mB0, lowD, allNotIn, nm, impN, impB, impT, packS, delL, Op.operands, List.getD, List.getElem?_cons_zero, List.getElem?_cons_succ, Option.getD_some, List.set, List.map, List.toList_toArray, List.getElem?_toArray, Option.bind_some, true_and, and_self, implies_true, imp_self, if_true, if_false, eq_self, Bool.false_eq_true, List.take_length, Nat.zero_add, Nat.add_zero, Nat.le_refl, Int.reduceBEq, Bool.cond_true, List.append_nil, Nat.reduceAdd, Nat.reduceMul, Nat.reduceEqDiff, Bool.not_true, beq_self_eq_true, Bool.and_self]
      refine call_go TO 100 hS Tryd.func11 (by decide +kernel) rfl rfl rfl ?_
      simp only [List.drop_zero, pureOpC, unc, absOps, absOp, evO, constSV, ungd, gdP, gdPs, setD, pickV, pureOp, guardOf, notIn, blkAt, fnd, Data.len, Data.esz, Data.sub, ownN, nodup, bares, bare, bare0, guardIs, callP, callS, argS, mAs, mA, mA0, mB0, lowD, allNotIn, impN, impB, impT, packS, delL, Op.operands, List.getD, List.getElem?_cons_zero, List.getElem?_cons_succ, Option.getD_some, List.set, List.map, List.toList_toArray, List.getElem?_toArray, Option.bind_some, true_and, and_self, implies_true, if_true, if_false, eq_self, List.take_length, Nat.zero_add, Nat.le_refl, Bool.cond_true, List.append_nil, Nat.reduceEqDiff, Bool.and_self]
      refine call_go TO 100 hL Tryd.func12 (by decide +kernel) rfl rfl rfl ?_
      simp only [List.drop_zero, pureOpC, unc, absOps, absOp, evO, constSV, ungd, gdP, gdPs, setD, pickV, pureOp, guardOf, notIn, blkAt, fnd, Data.len, Data.esz, Data.sub, ownN, nodup, bares, bare, bare0, guardIs, callP, callS, argS, mAs, mA, mA0, mB0, lowD, allNotIn, impN, impB, impT, packS, delL, Op.operands, List.getD, List.getElem?_cons_zero, List.getElem?_cons_succ, Option.getD_some, List.set, List.map, List.toList_toArray, List.getElem?_toArray, Option.bind_some, true_and, and_self, implies_true, if_true, if_false, eq_self, List.take_length, Nat.zero_add, Nat.le_refl, Bool.cond_true, List.append_nil, Nat.reduceEqDiff, Bool.and_self]
      refine call_go TO 100 lives12_meets Tryd.func7 (by decide +kernel) rfl rfl rfl ?_
      simp only [pureOpC, unc, absRun, absOps, absOp, evO, constSV, ungd, gdP, gdPs, setD, pickV, guardOf, retP, resV, retQ, rAs, rA, rA0, ownN, nodup, bares, bare, bare0, guardIs, callP, callS, argS, mAs, allNotIn, impN, impB, impT, packS, delL, Op.operands, List.getD, List.getElem?_cons_zero, List.getElem?_cons_succ, Option.getD_some, List.set, List.map, List.toList_toArray, List.getElem?_toArray, Option.bind_some, and_self, eq_self, Bool.cond_true, List.append_nil, Bool.and_self]
  · have h55 : splitE (joinL l) = 5 := by omega
    rw [h55]
    simp only [pureOpC, unc, absRun, absOps, absOp, evO, constSV, ungd, gdP, gdPs, setD, extractV, pureOp, Op.operands, List.getD, List.getElem?_cons_zero, List.getElem?_cons_succ, Option.getD_some, List.set, List.toList_toArray, true_and, and_self, List.nil_append]
    refine loop_in (absRun_ok TO 100 _ _ ?_)
    simp only [h0, pureOpC, unc, absRun, absOps, absOp, evO, ungd, gdP, gdPs, setD, binI, binV, ptrE, T_ty, tTy, iaddrV, pureOp, memOp, lenV, Op.operands, Call.operands, List.getD, List.getElem?_cons_zero, List.getElem?_cons_succ, Option.getD_some, List.set, List.toList_toArray, exitTo, true_and, and_self, if_true, if_false, eq_self, Bool.false_eq_true, Int.reduceBNe, List.append_toArray, List.nil_append, beq_self_eq_true, Int.reduceLT, decide_false]
    refine call_go TO 100 hS Tryd.func11 (by decide +kernel) rfl rfl rfl ?_
    simp only [List.drop_zero, pureOpC, unc, absRun, absOps, absOp, evO, constSV, ungd, gdP, gdPs, setD, unV, pureOp, memOp, notIn, blkAt, fnd, Data.len, Data.esz, Data.sub, retP, resV, retQ, rAs, rA, rA0, ownN, nodup, bares, bare, bare0, guardIs, callP, callS, argS, mAs, mA, mA0, mB0, lowD, allNotIn, impN, impB, impT, packS, delL, Op.operands, List.getD, List.getElem?_cons_zero, List.getElem?_cons_succ, Option.getD_some, List.set, List.map, List.toList_toArray, true_and, and_true, and_false, and_self, if_true, if_false, eq_self, Bool.false_eq_true, List.take_length, Nat.zero_add, Nat.le_refl, List.append_nil, Nat.reduceEqDiff, Bool.not_true, Bool.and_self]
    refine call_go TO 100 (Spoil_meets (joinL l) 9) Tryd.func16 (by decide +kernel) rfl rfl rfl ?_
    simp only [pureOpC, unc, absRun, absOps, absOp, evO, constSV, ungd, gdP, gdPs, setD, pureOp, memOp, notIn, blkAt, fnd, del, Data.len, Data.esz, ownN, nodup, bares, guardIs, callP, callS, argS, mAs, mA, mA0, mB0, lowD, allNotIn, impN, impB, impT, packS, delL, Op.operands, List.getD, List.getElem?_cons_zero, List.getElem?_cons_succ, Option.getD_some, List.set, List.map, List.toList_toArray, true_and, and_self, if_true, if_false, eq_self, List.append_nil, Nat.reduceEqDiff]
    rw [h0] at hJ
    refine call_go TO 100 hJ Tryd.func13 (by decide +kernel) rfl rfl rfl ?_
    simp only [List.drop_zero, pureOpC, unc, absRun, absOps, absOp, evO, constSV, ungd, gdP, gdPs, setD, binI, binV, ptrE, extractV, pickV, pureOp, guardOf, notIn, blkAt, fnd, upd, Data.len, Data.esz, Data.sub, ownN, nodup, bares, bare, bare0, bareD, guardIs, callP, callS, argS, mAs, mA, mA0, mB0, lowD, allNotIn, nm, impN, impB, impT, packS, delL, Op.operands, List.getD, List.getElem?_cons_zero, List.getElem?_cons_succ, Option.getD_some, List.set, List.map, List.toList_toArray, List.getElem?_toArray, Option.bind_some, true_and, and_self, implies_true, if_true, if_false, eq_self, List.take_length, Nat.zero_add, Nat.add_zero, Nat.le_refl, Int.reduceBEq, Bool.cond_true, Bool.cond_false, List.append_nil, Nat.reduceAdd, Nat.reduceMul, Nat.reduceEqDiff, Bool.not_false, beq_self_eq_true, Bool.and_self]
    refine call_go TO 100 hS Tryd.func11 (by decide +kernel) rfl rfl rfl ?_
    simp only [List.drop_zero, pureOpC, unc, absOps, absOp, evO, constSV, ungd, gdP, gdPs, setD, pickV, pureOp, guardOf, notIn, blkAt, fnd, Data.len, Data.esz, Data.sub, ownN, nodup, bares, bare, bare0, guardIs, callP, callS, argS, mAs, mA, mA0, mB0, lowD, allNotIn, impN, impB, impT, packS, delL, Op.operands, List.getD, List.getElem?_cons_zero, List.getElem?_cons_succ, Option.getD_some, List.set, List.map, List.toList_toArray, List.getElem?_toArray, Option.bind_some, true_and, and_self, implies_true, if_true, if_false, eq_self, List.take_length, Nat.zero_add, Nat.le_refl, Bool.cond_true, List.append_nil, Nat.reduceEqDiff, Bool.and_self]
    refine call_go TO 100 hL Tryd.func12 (by decide +kernel) rfl rfl rfl ?_
    simp only [List.drop_zero, pureOpC, unc, absOps, absOp, evO, constSV, ungd, gdP, gdPs, setD, pickV, pureOp, guardOf, notIn, blkAt, fnd, Data.len, Data.esz, Data.sub, ownN, nodup, bares, bare, bare0, guardIs, callP, callS, argS, mAs, mA, mA0, mB0, lowD, allNotIn, impN, impB, impT, packS, delL, Op.operands, List.getD, List.getElem?_cons_zero, List.getElem?_cons_succ, Option.getD_some, List.set, List.map, List.toList_toArray, List.getElem?_toArray, Option.bind_some, true_and, and_self, implies_true, if_true, if_false, eq_self, List.take_length, Nat.zero_add, Nat.le_refl, Bool.cond_true, List.append_nil, Nat.reduceEqDiff, Bool.and_self]
    refine call_go TO 100 lives12_meets Tryd.func7 (by decide +kernel) rfl rfl rfl ?_
    simp only [pureOpC, unc, absRun, absOps, absOp, evO, constSV, ungd, gdP, gdPs, setD, pickV, guardOf, retP, resV, retQ, rAs, rA, rA0, ownN, nodup, bares, bare, bare0, guardIs, callP, callS, argS, mAs, allNotIn, impN, impB, impT, packS, delL, Op.operands, List.getD, List.getElem?_cons_zero, List.getElem?_cons_succ, Option.getD_some, List.set, List.map, List.toList_toArray, List.getElem?_toArray, Option.bind_some, and_self, eq_self, Bool.cond_true, List.append_nil, Bool.and_self]

end Go.Proofs.YtdhnjmepgafeiaaDoor.Abs
