/- What the document's Seal answers where there is a key. -/
import Derived.Test.YtdhnjmepgafeiaaDoorCF
import Derived.Test.YtdhnjmepgafeiaaDoorCH
import Derived.Test.YtdhnjmepgafeiaaDoorCI
import Derived.Test.YtdhnjmepgafeiaaDoorM5
set_option linter.unusedVariables false
set_option linter.unusedSimpArgs false
set_option maxRecDepth 100000
namespace Go.Proofs.YtdhnjmepgafeiaaDoor.Abs
open Go Go.Proofs

theorem freezeR_ops {P : Program} {X : Ctx} {s : St} {ops : Array Oper} {rest : List Oper} {todo : List Item} {Φ : St → Prop} (m : Nat) {gm k : Nat} {q : List (Nat × List Int)} {b' : List (Nat × Nat × Blk)} (hm : fnd s.b m = some (gm, .cells (rowsS 0 q ++ List.replicate k SV.any))) (hq : ∀ j, j < q.length → fnd s.b (1000000 + j) = some ((q.getD j default).1, .vec (.ints .u8 (q.getD j default).2)))
    (hb : ∀ n y, fnd b' n = some y → n < 1000000 ∧ (n ≠ m → fnd s.b n = some y)) (hb2 : fnd b' m = some (gm, .vec (.rows true (q.map Prod.snd))))
    (h : HOps P X ops rest todo ⟨s.t, b', s.c⟩ Φ) : HOps P X ops rest todo s Φ := fun j hj => freezeR_go m hm hq hb hb2 (h j hj)

theorem roll {α : Type} {A B : List α} {i : Nat} {z : α} (hA : A[i]? = some z) (hl : A.length = B.length) : (A.take i ++ B.drop i).set i z = A.take (i + 1) ++ B.drop (i + 1) := by
  have hi : i < A.length := by
    rcases Nat.lt_or_ge i A.length with h | h
    · exact h
    · rw [List.getElem?_eq_none h] at hA; cases hA
  have hz : z = A[i] := by rw [List.getElem?_eq_getElem hi] at hA; exact (Option.some.inj hA).symm
  rw [List.set_append, if_neg (by rw [List.length_take]; omega), List.length_take, show i - min i A.length = 0 by omega, List.drop_eq_getElem_cons (show i < B.length by omega), List.set_cons_zero, List.take_add_one, List.getElem?_eq_getElem hi, hz]
  show _ = (_ ++ [A[i]]) ++ _
  rw [List.append_assoc]; rfl

set_option maxHeartbeats 16000000 in
theorem rSealK_meets (K : List Int) (l : List (List Int)) (hK0 : 0 < K.length) (hK : K.length ≤ 1048576) (hKB : Bytes K) (hl : l.length ≤ 1048576) (hr : ∀ b ∈ l, b.length ≤ 1048576 ∧ Bytes b) :
    Meets Tryd.prog 10 [.v (.view false (.ints .u8 K)), .v (.view false (.rows false l))] [.own (.ints .u8 (sealL K l)), .v (.int .i64 (partsE l))] := by
  refine meets_go TO 100 Tryd.func10 rfl (fun X => ?_)
  simp only [Tryd.ntmps10, Tryd.results10, pureOpC, svs, blks, AV.sv, absRun, absOps, absOp, evO, constSV, ungd, gdP, gdPs, setD, pureOp, memOp, Op.operands, List.getD, List.getElem?_cons_zero, List.getElem?_cons_succ, Option.getD_some, List.set, List.toList_toArray, true_and, and_self, Nat.zero_add, List.cons_append, List.nil_append, List.length_cons, List.length_nil, Nat.reduceAdd, Nat.reduceSub, List.replicate_succ, List.replicate_zero]
  refine inCE_ops TO 100 (rparts_inCE (X := X) l hl hr) Tryd.func24 (by decide +kernel) rfl rfl rfl ⟨⟨rfl, rfl, by simp only [evO, gdP, gdPs, List.getD, List.getElem?_cons_zero, List.getElem?_cons_succ, Option.getD_some, and_self]⟩, fun x b' c1 hQ => ?_⟩
  rcases hQ with ⟨h0, g, q, k, hq, rfl, rfl⟩ | ⟨h0, rfl, rfl⟩
  rotate_left
  · have e2 : sealL K l = [] := by unfold sealL; rw [if_neg h0]
    have h1 : (partsE l != 0) = true := by simpa using h0
    rw [e2]
    simp only [h1, pureOpC, unc, absRun, absOps, absOp, evO, constSV, ungd, gdP, gdPs, setD, binI, binV, ptrE, T_ty, tTy, extractV, pureOp, memOp, lenV, Data.len, retP, resV, retQ, rAs, rA, rA0, ownN, nodup, bares, bare, bare0, bareD, Op.operands, Call.operands, List.getD, List.getElem?_cons_zero, List.getElem?_cons_succ, Option.getD_some, List.set, List.map, List.toList_toArray, true_and, and_self, if_true, eq_self, List.append_toArray, List.nil_append, List.length_nil, Bool.and_self]
  obtain ⟨hg, hne, h8, hF⟩ := partsE_ok h0
  have hP := partsF_64 l (fun b hb => ⟨hg b hb, hr b hb⟩)
  have hPg := partsF_got l (fun b hb => ⟨hg b hb, (hr b hb).1⟩)
  have hL : sealL K l = ((partsF l).map (sealP K)).flatten := by unfold sealL sealF; rw [if_pos h0]
  obtain ⟨ps, hps⟩ : ∃ ps : List (List Int), ps = partsF l := ⟨_, rfl⟩
  have hpl : ps.length ≤ 8 := by rw [hps, partsF_length]; exact h8
  rw [← hps] at hP hPg hL hq
  rw [h0, hL]
  clear hL hF hg hr hne
  have hql : q.length = ps.length := by rw [← hq]; simp
  have hKd : ((K.length : Int) == 0) = false := by rw [beq_eq_false_iff_ne]; omega
  simp only [hKd, pureOpC, unc, absRun, absOps, absOp, evO, constSV, ungd, gdP, gdPs, setD, binI, binV, ptrE, T_ty, tTy, extractV, pureOp, memOp, lenV, Data.len, retP, resV, retQ, rAs, rA, rA0, ownN, nodup, bares, bare, bare0, bareD, Op.operands, Call.operands, List.getD, List.getElem?_cons_zero, List.getElem?_cons_succ, Option.getD_some, List.set, List.map, List.toList_toArray, true_and, and_true, and_self, if_false, eq_self, Bool.false_eq_true, Int.reduceBNe, List.append_toArray, List.nil_append, List.append_nil, Bool.and_self]
  refine loop_up (fun x : List (Nat × List Int) × Nat × Nat => x.2.1 ≤ ps.length ∧ x.1.length = ps.length ∧ x.1.map Prod.snd = (ps.map (sealP K)).take x.2.1 ++ ps.drop x.2.1) (fun x => ⟨tl 73 0 [(0, .view false (.ints .u8 K)), (6, .sl 5080 g 0 1 0 ps.length), (8, .int .i64 x.2.1)],
    (5080, g, .cells (rowsS 0 x.1 ++ List.replicate k .any)) :: rowsB 0 x.1, ⟨x.2.2, [], 0⟩⟩) (fun x => ps.length - x.2.1) (q, 0, _) ⟨Nat.zero_le _, hql, by simpa using hq⟩ ⟨rfl, ?_, ?_⟩ ?_
  · simp [LeT, tl, hql]
  · exact fun n x h => h
  rintro ⟨Q, i, c⟩ ⟨hi, hQl, hQ⟩ ih
  simp only at hi hQl hQ
  refine absRun_ok TO 8 _ _ ?_
  have hne1 : (1000000 + i = 5080) = False := eq_false (by omega)
  simp only [fnd_rows0, pureOpC, unc, absRun, absOps, absOp, evO, ungd, gdP, gdPs, setD, binI, binV, ptrE, T_ty, tTy, pureOp, memOp, lenV, blkAt, fnd, Op.operands, Call.operands, List.getD, List.getElem?_cons_zero, List.getElem?_cons_succ, Option.getD_some, List.set, List.toList_toArray, exitTo, true_and, and_self, if_true, eq_self, Nat.zero_add, List.append_toArray, List.cons_append, List.nil_append, Nat.reduceAdd, Nat.reduceSub, Nat.reduceLT, beq_self_eq_true, List.replicate_succ, List.replicate_zero, tl]
  split
  · rename_i hc
    have hiq : i < ps.length := by have := of_decide_eq_true hc; omega
    obtain ⟨⟨gi, row⟩, hx⟩ : ∃ x : Nat × List Int, Q.getD i default = x := ⟨_, rfl⟩
    have hQi : Q[i]? = some (gi, row) := by rw [← hx]; simp [List.getD, hQl, hiq]
    have hrow : ps[i]? = some row := by
      have e : (Q.map Prod.snd)[i]? = some row := by rw [List.getElem?_map, hQi]; rfl
      rw [hQ, List.getElem?_append_right (by simp; omega), List.getElem?_drop] at e
      simp only [List.length_take, List.length_map] at e
      rw [show i + (i - min i ps.length) = i by omega] at e
      exact e
    have hmem : row ∈ ps := List.mem_of_getElem? hrow
    obtain ⟨r1, r2, r3⟩ := hP _ hmem
    have r4 := hPg _ hmem
    have hcell := cell_row (q := Q) (k := k) (j := i) (by omega)
    have hget := rowsA_get (q := Q) (k := k) (j := i) (by omega)
    rw [hx] at hcell hget
    have hG := rGet07_meets row 0 (by omega) r3 (by decide)
    rw [r4] at hG
    have hok : (gotH row 0).ok := by unfold gotH; rw [if_pos r4]; exact getH_ok row 0 r3 (by decide) (by omega)
    have hH := rHasK_meets (gotH row 0) hok 8 (by decide)
    rw [flags_16 r3 r4] at hH
    have hS := rSign_meets K (orF row) (by omega) hKB (by rw [orF_length]; omega) (orF_bytes r3)
    have hsE : signE (orF row) = 0 := by unfold signE; rw [if_neg (by rw [orF_length]; omega)]
    rw [hsE] at hS
    have htk : (orF row).take row.length = orF row := by rw [← orF_length row, List.take_length]
    have hsl : (signL K (orF row)).length = row.length := by rw [signL_length, if_neg (by rw [orF_length]; omega), orF_length]
    have hsp : sealP K row = signL K (orF row) := rfl
    have hfr := fnd_rows_at (q := Q) (j := i) [] (by omega)
    rw [List.append_nil, hx] at hfr
    refine renC_go 5080 i (1000000 + i) 7000 (gm := g) (d := Data.ints IntKind.u8 row) (by simp only [fnd, if_true, eq_self]) rowsA_one hget (by simp only [fnd, hne1, if_false]; exact hfr) (by omega) (by decide) (show row.length ≠ 0 by omega) ?_
    obtain ⟨L, hLd⟩ : ∃ L, L = del (rowsB 0 Q) (1000000 + i) := ⟨_, rfl⟩
    have hlow : Low L := by rw [hLd]; exact low_del
    have f1 := fun n h => fnd_low0 hlow (n := n) h
    have f2 := fun n g x h => upd_low0 hlow (n := n) (g := g) (x := x) h
    have f3 := fun n h => del_low0 hlow (n := n) h
    have f4 := fun m n h => fnd_low hlow (m := m) (n := n) h
    have f5 := fun m n g x h => upd_low hlow (m := m) (n := n) (g := g) (x := x) h
    have f6 := fun m n h => del_low hlow (m := m) (n := n) h
    obtain ⟨C, hCd⟩ : ∃ C, C = (rowsS 0 Q ++ List.replicate k SV.any).set i (SV.sl 7000 (c + 1 + 1) 0 1 0 row.length) := ⟨_, rfl⟩
    have hCc : cellAt C i = some (SV.sl 7000 (c + 1 + 1) 0 1 0 row.length) := cellAt_one (by rw [hCd]; exact all_set rowsA_one rfl) (by rw [hCd, List.getElem?_set, if_pos rfl, if_pos (by rw [rowsA_len]; omega)])
    rw [← hCd]
    have hC1 : C.all one1 = true := by rw [hCd]; exact all_set rowsA_one rfl
    have hCl : C.length = Q.length + k := by rw [hCd, List.length_set, rowsA_len]
    have hCs : ∀ x y, (C.set i x).set i y = (rowsS 0 Q ++ List.replicate k SV.any).set i y := fun x y => by rw [hCd]; simp only [List.set_set]
    have wi : IntKind.i64.wrap ((i : Int) + 1) = ((i + 1 : Nat) : Int) := by rw [w64 (by omega) (by omega)]; omega
    refine absRun_ok TO 100 _ _ ?_
    simp only [mv, ← hLd, hne1, Nat.mul_one, hCc, f2, f4, f5, pureOpC, unc, absRun, absOps, absOp, evO, ungd, gdP, gdPs, setD, T_ty, T_size, tTy, tSize, iaddrV, pureOp, memOp, loadV, blkAt, fnd, upd, del, mv, Op.operands, List.getD, List.getElem?_cons_zero, List.getElem?_cons_succ, Option.getD_some, List.set, List.toList_toArray, true_and, and_self, if_true, if_false, eq_self, ne_eq, not_false_eq_true, Nat.zero_add, Int.toNat_natCast, Nat.reduceEqDiff, Nat.reduceLT, Nat.succ_ne_self]
    refine ⟨⟨by omega, by omega⟩, ?_⟩
    simp only [Hd.sv] at hG hH
    refine call_go TO 100 hG Tryd.func17 (by decide +kernel) rfl rfl rfl ?_
    simp only [f4, f5, List.drop_zero, pureOpC, cntC, unc, absRun, absOps, absOp, evO, constSV, ungd, gdP, gdPs, setD, T_ty, T_size, T_zero, tTy, tSize, tZero, extractV, pureOp, memOp, loadV, newV, notIn, scal, okC, takeC, dropC, blkAt, fnd, upd, Data.len, Data.esz, Data.sub, Lim.add, ownN, nodup, bares, bare, bare0, bareL, guardIs, callP, callS, argS, mAs, mA, mA0, mB0, lowD, allNotIn, impN, impB, impT, packS, delL, Op.operands, List.getD, List.getElem?_cons_zero, List.getElem?_cons_succ, Option.getD_some, List.set, List.map, List.toList_toArray, Option.bind_some, Option.map_some, true_and, and_self, if_true, if_false, eq_self, ne_eq, not_false_eq_true, reduceCtorEq, List.take_length, Nat.zero_add, Nat.add_zero, Nat.le_refl, List.nil_append, List.append_nil, Nat.reduceAdd, Nat.reduceSub, Nat.reduceEqDiff, Nat.reduceLT, List.replicate_succ, List.replicate_zero, Bool.and_self]
    refine call_go TO 100 hH Tryd.func18 (by decide +kernel) rfl rfl rfl ?_
    simp only [Nat.mul_one, hCc, f4, pureOpC, unc, absRun, absOps, absOp, evO, constSV, ungd, gdP, gdPs, setD, unV, T_ty, T_size, tTy, tSize, iaddrV, pureOp, memOp, loadV, blkAt, fnd, ownN, nodup, bares, bare, bare0, guardIs, callP, callS, argS, mAs, mA, mA0, mB0, mAl, allNotIn, impN, impB, impT, packS, delL, Op.operands, List.getD, List.getElem?_cons_zero, List.getElem?_cons_succ, Option.getD_some, List.set, List.map, List.toList_toArray, true_and, and_self, if_true, if_false, eq_self, ne_eq, not_false_eq_true, Nat.zero_add, Int.toNat_natCast, List.append_nil, Nat.reduceEqDiff, Nat.reduceLT, Nat.succ_ne_self, Bool.and_self]
    cases hs : sgB row with
    | true =>
      rw [if_neg (by decide)]
      refine ⟨⟨by omega, by omega⟩, ?_⟩
      simp only [orF_flag r3 r1 hs] at hS hsl htk hsp
      refine call_go TO 100 hS Tryd.func26 (by decide +kernel) rfl rfl rfl ?_
      simp only [htk, f4, f5, List.drop_zero, pureOpC, unc, absRun, absOps, absOp, evO, constSV, ungd, gdP, gdPs, setD, binI, binV, ptrE, T_ty, T_size, tTy, tSize, iaddrV, extractV, pureOp, memOp, notIn, blkAt, fnd, upd, Data.len, Data.esz, Data.sub, retP, resV, retQ, rAs, rA, rA0, ownN, nodup, bares, bare, bare0, bareD, guardIs, callP, callS, argS, mAs, mA, mA0, mB0, lowD, allNotIn, nm, impN, impB, impT, packS, delL, Op.operands, List.getD, List.getElem?_cons_zero, List.getElem?_cons_succ, Option.getD_some, List.set, List.map, List.toList_toArray, true_and, and_true, and_self, if_true, if_false, eq_self, ne_eq, not_false_eq_true, Bool.false_eq_true, Nat.zero_add, Nat.add_zero, Int.toNat_natCast, Nat.le_refl, Int.reduceBNe, List.append_nil, Nat.reduceAdd, Nat.reduceMul, Nat.reduceEqDiff, Nat.reduceLT, Nat.succ_ne_self, Bool.not_true, Bool.and_self]
      refine ⟨⟨by omega, by omega⟩, ?_⟩
      refine storeE_ops TO (xr := Blk.vec (Data.ints IntKind.u8 (signL K row))) rfl rfl rfl rfl (by simp only [fnd, if_true, eq_self]) hC1 (by simp only [f4, fnd, if_true, if_false, eq_self, Nat.reduceEqDiff, Nat.reduceLT]) (by omega) (by decide) (HOps_go TO 100 ?_)
      simp only [wi, f5, pureOpC, unc, absRun, absOps, absOp, evO, constSV, ungd, gdP, gdPs, setD, binI, binV, ptrE, pureOp, upd, Op.operands, List.getD, List.getElem?_cons_zero, List.getElem?_cons_succ, Option.getD_some, List.set, List.toList_toArray, true_and, and_self, if_true, if_false, eq_self, Nat.reduceEqDiff, Nat.reduceLT]
      refine renC_go 5080 i 10976 (1000000 + i) (gm := g) (g := (c + 1 + 1 + 1 + 1 + 1 + 1)) (l := C.set i (SV.sl 10976 (c + 1 + 1 + 1 + 1 + 1 + 1) 0 1 0 (signL K row).length)) (d := Data.ints IntKind.u8 (signL K row)) (by simp only [fnd, if_true, eq_self]) (all_set hC1 rfl) (by rw [List.getElem?_set, if_pos rfl, if_pos (by omega)]) (by simp only [f4, fnd, if_true, if_false, eq_self, Nat.reduceEqDiff, Nat.reduceLT]) (by decide) (by omega) (show (signL K row).length ≠ 0 by omega) ?_
      rw [hCs]
      refine ih (Q.set i ((c + 1 + 1 + 1 + 1 + 1 + 1 + 1 + 1 + 1 + 1), signL K row), i + 1, _) _ ⟨hiq, by simp only; rw [List.length_set]; exact hQl, by simp only; rw [List.map_set, hQ, ← hsp]; exact roll (by simp [hrow]) (by simp)⟩ (by simp only; omega) rfl ?_ ?_
      · simp [LeT, tl]
      · intro n x hx
        rw [fnd_upd, fnd_mv]
        simp only [fnd] at hx ⊢
        split at hx
        · rename_i e; subst e
          rw [if_pos rfl, ← hx, rowsA_set (by omega)]
        · rename_i e; rw [if_neg e]
          rcases fnd_rows_set (by omega) hx with ⟨h1, h2⟩ | ⟨h1, h2⟩
          · rw [if_pos (by omega), h2]
          · obtain ⟨jj, _, h3, _⟩ := rowsB_inv h2
            rw [if_neg (by omega), if_neg (by omega), if_neg e, fnd_app, hLd, fnd_del, if_neg (by omega), h2]
    | false =>
      rw [if_pos (by decide)]
      refine draw_go TO 11 100 mixed_ok (by decide +kernel) ?_
      simp only [Nat.mul_one, hCc, f4, f5, List.take_succ_cons, List.take_zero, List.drop_succ_cons, List.drop_zero, pureOpC, gloadV, GT, unc, isEff, absD, pureStep, absRun, absOps, absOp, evO, constSV, ungd, gdP, gdPs, setD, binI, binV, ptrE, T_ty, T_size, tTy, tSize, iaddrV, pureOp, memOp, loadV, scal, blkAt, fnd, upd, elemV, Data.len, Data.esz, Op.operands, List.getD, List.getElem?_cons_zero, List.getElem?_cons_succ, Option.getD_some, List.set, List.toList_toArray, Option.isSome, true_and, and_true, and_self, if_true, if_false, eq_self, ne_eq, not_false_eq_true, forall_const, Nat.zero_add, Int.toNat_natCast, Int.reduceToNat, Nat.le_refl, Nat.reduceEqDiff, Nat.reduceLT, Nat.succ_ne_self, Bool.not_false, Int.reduceLE]
      refine ⟨⟨by omega, by omega⟩, ⟨by omega, by omega⟩, by omega, by omega, ⟨by omega, by omega⟩, ?_⟩
      rw [orF_none r3 hs]
      refine call_go TO 100 hS Tryd.func26 (by decide +kernel) rfl rfl rfl ?_
      simp only [htk, f4, f5, List.drop_zero, pureOpC, unc, absRun, absOps, absOp, evO, constSV, ungd, gdP, gdPs, setD, binI, binV, ptrE, T_ty, T_size, tTy, tSize, iaddrV, extractV, pureOp, memOp, notIn, blkAt, fnd, upd, Data.len, Data.esz, Data.sub, retP, resV, retQ, rAs, rA, rA0, ownN, nodup, bares, bare, bare0, bareD, guardIs, callP, callS, argS, mAs, mA, mA0, mB0, lowD, allNotIn, nm, impN, impB, impT, packS, delL, Op.operands, List.getD, List.getElem?_cons_zero, List.getElem?_cons_succ, Option.getD_some, List.set, List.map, List.toList_toArray, true_and, and_true, and_self, if_true, if_false, eq_self, ne_eq, not_false_eq_true, Bool.false_eq_true, Nat.zero_add, Nat.add_zero, Int.toNat_natCast, Int.reduceBNe, List.append_nil, Nat.reduceAdd, Nat.reduceMul, Nat.reduceEqDiff, Nat.reduceLT, Nat.succ_ne_self, Bool.and_self]
      refine ⟨by rw [orF_length]; omega, ⟨by omega, by omega⟩, ?_⟩
      refine storeE_ops TO (xr := Blk.vec (Data.ints IntKind.u8 (signL K (orF row)))) rfl rfl rfl rfl (by simp only [fnd, if_true, eq_self]) hC1 (by simp only [f4, fnd, if_true, if_false, eq_self, Nat.reduceEqDiff, Nat.reduceLT]) (by omega) (by decide) (HOps_go TO 100 ?_)
      simp only [wi, f5, pureOpC, unc, absRun, absOps, absOp, evO, constSV, ungd, gdP, gdPs, setD, binI, binV, ptrE, pureOp, upd, Op.operands, List.getD, List.getElem?_cons_zero, List.getElem?_cons_succ, Option.getD_some, List.set, List.toList_toArray, true_and, and_self, if_true, if_false, eq_self, Nat.reduceEqDiff, Nat.reduceLT]
      refine renC_go 5080 i 10976 (1000000 + i) (gm := g) (g := (c + 1 + 1 + 1 + 1 + 1 + 1 + 1)) (l := C.set i (SV.sl 10976 (c + 1 + 1 + 1 + 1 + 1 + 1 + 1) 0 1 0 (signL K (orF row)).length)) (d := Data.ints IntKind.u8 (signL K (orF row))) (by simp only [fnd, if_true, eq_self]) (all_set hC1 rfl) (by rw [List.getElem?_set, if_pos rfl, if_pos (by omega)]) (by simp only [f4, fnd, if_true, if_false, eq_self, Nat.reduceEqDiff, Nat.reduceLT]) (by decide) (by omega) (show (signL K (orF row)).length ≠ 0 by omega) ?_
      rw [hCs]
      refine ih (Q.set i ((c + 1 + 1 + 1 + 1 + 1 + 1 + 1 + 1 + 1 + 1 + 1), signL K (orF row)), i + 1, _) _ ⟨hiq, by simp only; rw [List.length_set]; exact hQl, by simp only; rw [List.map_set, hQ, ← hsp]; exact roll (by simp [hrow]) (by simp)⟩ (by simp only; omega) rfl ?_ ?_
      · simp [LeT, tl]
      · intro n x hx
        rw [fnd_upd, fnd_mv]
        simp only [fnd] at hx ⊢
        split at hx
        · rename_i e; subst e
          rw [if_pos rfl, ← hx, rowsA_set (by omega)]
        · rename_i e; rw [if_neg e]
          rcases fnd_rows_set (by omega) hx with ⟨h1, h2⟩ | ⟨h1, h2⟩
          · rw [if_pos (by omega), h2]
          · obtain ⟨jj, _, h3, _⟩ := rowsB_inv h2
            rw [if_neg (by omega), if_neg (by omega), if_neg e, fnd_app, hLd, fnd_del, if_neg (by omega), h2]
  · rename_i hc
    have hiq : i = ps.length := by
      have : ¬ ((i : Int) < ps.length) := fun h => hc (decide_eq_true h)
      omega
    subst hiq
    rw [List.drop_length, List.append_nil, List.take_of_length_le (by simp)] at hQ
    refine freezeR_ops 5080 (k := k) (q := Q) (gm := g) (b' := [(5080, g, Blk.vec (Data.rows true (Q.map Prod.snd)))]) (by simp only [fnd, if_true, eq_self]) (fun j hj => ?_) (fun n y hn => ?_) (by simp only [fnd, if_true, eq_self]) ?_
    · have := fnd_rows_at (q := Q) (j := j) [] hj
      rw [List.append_nil] at this
      simp only [fnd]
      rw [if_neg (by omega)]
      exact this
    · simp only [fnd] at hn
      split at hn
      · rename_i e; subst e; exact ⟨by decide, fun h => absurd rfl h⟩
      · cases hn
    rw [hQ]
    have hjl : ((ps.map (sealP K)).map List.length) = ps.map List.length := by
      rw [List.map_map]
      refine List.map_congr_left fun p hp => ?_
      have := (hP p hp).1
      show (signL K (orF p)).length = p.length
      rw [signL_length, if_neg (by rw [orF_length]; omega), orF_length]
    have hfl : (ps.map (sealP K)).flatten.length ≤ 1000000000000 := by
      have := flatten_len (n := 1048584) (l := ps.map (sealP K)) (fun y hy => by
        obtain ⟨p, hp, rfl⟩ := List.mem_map.1 hy
        have := hP p hp
        unfold sealP
        rw [signL_length, orF_length]; split <;> omega)
      rw [List.length_map] at this
      have hm : ps.length * 1048584 ≤ 8 * 1048584 := Nat.mul_le_mul_right _ (by omega)
      omega
    have hJ := joined_meets (ps.map (sealP K)) (by rw [List.length_map]; omega) hfl
    refine call_go TO 100 hJ Tryd.func25 (by decide +kernel) rfl rfl rfl ?_
    have hlm : (ps.map (sealP K)).length = ps.length := List.length_map _
    have htm : (ps.map (sealP K)).take ps.length = ps.map (sealP K) := by rw [← hlm, List.take_length]
    simp only [hlm, htm, List.drop_zero, pureOpC, unc, absRun, absOps, absOp, evO, constSV, ungd, gdP, gdPs, setD, notIn, blkAt, fnd, upd, Data.len, Data.esz, Data.sub, retP, resV, retQ, rAs, rA, rA0, ownN, nodup, bares, bare, bare0, bareD, guardIs, callP, callS, argS, mAs, mA, mA0, mB0, lowD, allNotIn, nm, impN, impB, impT, packS, delL, Op.operands, List.getD, List.getElem?_cons_zero, List.getElem?_cons_succ, Option.getD_some, List.set, List.map, List.toList_toArray, and_self, if_true, if_false, eq_self, Nat.zero_add, Nat.add_zero, Nat.le_refl, List.append_nil, Nat.reduceAdd, Nat.reduceMul, Nat.reduceEqDiff, Bool.and_self]

end Go.Proofs.YtdhnjmepgafeiaaDoor.Abs
