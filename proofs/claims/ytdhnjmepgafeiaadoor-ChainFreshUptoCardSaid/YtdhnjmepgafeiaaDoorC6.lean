/- What chain.Join answers. -/
import Derived.Test.YtdhnjmepgafeiaaDoorC5
set_option linter.unusedVariables false
set_option linter.unusedSimpArgs false
set_option maxRecDepth 100000
namespace Go.Proofs.YtdhnjmepgafeiaaDoor.Abs
open Go Go.Proofs

theorem partsE_cases (l : List (List Int)) : partsE l = 0 ∨ partsE l = 2 ∨ partsE l = 3 := by
  unfold partsE
  split
  · exact .inr (.inl rfl)
  split
  · exact .inr (.inl rfl)
  split
  · exact .inr (.inr rfl)
  · exact .inl rfl

theorem partsE_ok {l : List (List Int)} (h : partsE l = 0) : (∀ b ∈ l, goodB b = true) ∧ l ≠ [] ∧ l.length ≤ 8 ∧ partsL l = partsF l := by
  have h2 : partsL l = partsF l := by unfold partsL; rw [if_pos h]
  unfold partsE at h
  split at h
  · cases h
  rename_i c1
  split at h
  · cases h
  rename_i c2
  split at h
  · cases h
  rename_i c3
  refine ⟨?_, c2, by omega, h2⟩
  intro b hb
  have : l.all goodB = true := by simpa using c1
  exact List.all_eq_true.1 this b hb

theorem partsF_len : ∀ (l : List (List Int)), (∀ b ∈ l, goodB b = true ∧ b.length ≤ 1048576) → ∀ p ∈ partsF l, p.length ≤ 1048584
  | [], _, p, hp => by simp [partsF] at hp
  | [b], h, p, hp => by
    simp only [partsF, List.mem_singleton] at hp
    subst hp
    have := (h p (by simp)).2
    omega
  | b :: c :: l, h, p, hp => by
    simp only [partsF, List.mem_cons] at hp
    rcases hp with rfl | hp
    · obtain ⟨h1, h2⟩ := h b (by simp)
      have := (part_got b [] h1 (by omega)).2.2
      have := padN_le b.length
      omega
    · exact partsF_len (c :: l) (fun x hx => h x (by simp [hx])) p (by simpa [partsF] using hp)

theorem flatten_len {n : Nat} : ∀ {l : List (List Int)}, (∀ p ∈ l, p.length ≤ n) → l.flatten.length ≤ l.length * n
  | [], _ => by simp
  | p :: l, h => by
    have h1 := h p (by simp)
    have h2 := flatten_len (l := l) (fun q hq => h q (by simp [hq]))
    simp only [List.flatten_cons, List.length_append, List.length_cons, Nat.add_mul, Nat.one_mul]
    omega

set_option maxHeartbeats 8000000 in
theorem sealN_meets (l : List (List Int)) (hl : l.length ≤ 1048576) (hr : ∀ b ∈ l, b.length ≤ 1048576 ∧ Bytes b) : Meets Tryd.prog 9 [.v (.view false (.ints .u8 [])), .v (.view false (.rows false l))] [.own (.ints .u8 (joinL l)), .v (.int .i64 (partsE l))] := by
  have hP := parts_meets l hl hr
  refine meets_go TO 100 Tryd.func9 rfl (fun X => ?_)
  simp only [Tryd.ntmps9, Tryd.results9, pureOpC, svs, blks, AV.sv, absRun, absOps, absOp, evO, constSV, ungd, gdP, gdPs, setD, pureOp, memOp, Op.operands, List.getD, List.getElem?_cons_zero, List.getElem?_cons_succ, Option.getD_some, List.set, List.toList_toArray, true_and, and_self, Nat.zero_add, List.cons_append, List.nil_append, List.length_cons, List.length_nil, Nat.reduceAdd, Nat.reduceSub, List.replicate_succ, List.replicate_zero]
  refine call_go TO 100 hP Tryd.func22 (by decide +kernel) rfl rfl rfl ?_
  simp only [pureOpC, unc, absRun, absOps, absOp, evO, constSV, ungd, gdP, gdPs, setD, binI, binV, ptrE, T_ty, tTy, extractV, pureOp, lenV, notIn, blkAt, fnd, upd, Data.len, Data.esz, retP, resV, retQ, rAs, rA, rA0, ownN, nodup, bares, bare, bare0, bareD, guardIs, callP, callS, argS, mAs, mA, mA0, mB0, lowD, allNotIn, nm, impN, impB, impT, packS, delL, Op.operands, Call.operands, List.getD, List.getElem?_cons_zero, List.getElem?_cons_succ, Option.getD_some, List.set, List.map, List.toList_toArray, true_and, and_true, and_self, if_true, eq_self, Nat.zero_add, Nat.add_zero, List.append_toArray, List.nil_append, List.append_nil, Nat.reduceAdd, Nat.reduceMul, Bool.and_self]
  by_cases h0 : partsE l = 0
  rotate_left
  · have e1 : partsL l = [] := by unfold partsL; rw [if_neg h0]
    have e2 : joinL l = [] := by unfold joinL; rw [e1]; rfl
    rw [if_pos (by simpa using h0), e2]
    rfl
  rw [if_neg (by simpa using h0), h0]
  obtain ⟨hg, hne, h8, hF⟩ := partsE_ok h0
  have hFl := partsF_len l (fun b hb => ⟨hg b hb, (hr b hb).1⟩)
  rw [← hF] at hFl
  have hj : joinL l = (partsL l).flatten := rfl
  have hPl : (partsL l).length ≤ 8 := by rw [hF, partsF_length]; exact h8
  rw [hj]
  generalize partsL l = p at hFl hPl
  refine nil_go 8 44 (.ints .u8 []) rfl ⟨by simp, rfl⟩ ?_
  simp only [upd, Data.esz, List.set, if_false, Int.reduceBNe, Nat.reduceAdd, Nat.reduceEqDiff]
  refine loop_up (fun x : Nat × Nat × Nat => x.1 ≤ p.length) (fun x => ⟨tl 47 0 [(0, .view false (.ints .u8 [])), (8, .sl 44 x.2.1 0 1 0 ((p.take x.1).flatten).length), (19, .sl 10208 3 0 1 0 p.length), (20, .int .i64 p.length), (21, .int .i64 x.1)], [(10208, 3, .vec (.rows true p)), (44, x.2.1, .vec (.ints .u8 (p.take x.1).flatten))], ⟨x.2.2, [], 0⟩⟩) (fun x => p.length - x.1) (0, 7, 9) (Nat.zero_le _) ⟨rfl, ?_, ?_⟩ ?_
  · simp [LeT, tl]
  · intro m x hx
    simp only [fnd] at hx ⊢
    split at hx
    · rename_i e; subst e; simpa [fnd] using hx
    · split at hx
      · rename_i e; subst e; simpa [fnd] using hx
      · cases hx
  · rintro ⟨i, g, c⟩ hi ih
    simp only at hi
    refine absRun_ok TO 100 _ _ ?_
    simp only [pureOpC, unc, fitT, absRun, absOps, absOp, evO, constSV, ungd, gdP, gdPs, setD, binI, binV, ptrE, T_ty, T_size, T_bytes, T_zero, tTy, tSize, tBytes, tZero, iaddrV, pureOp, memOp, lenV, loadV, notIn, dataOf, appD, isSrc, zI, blkAt, fnd, upd, del, mv, elemV, Data.len, Data.esz, Lim.add, retP, resV, retQ, rAs, rA, rA0, ownN, nodup, bares, bare, bare0, bareD, Op.operands, Call.operands, List.getD, List.getElem?_cons_zero, List.getElem?_cons_succ, Option.getD_some, List.set, List.map, List.toList_toArray, exitTo, true_and, and_true, and_self, if_true, if_false, eq_self, ne_eq, not_false_eq_true, Bool.false_eq_true, Nat.zero_add, Int.toNat_natCast, Int.cast_ofNat_Int, Int.reduceToNat, Nat.le_refl, List.append_toArray, List.cons_append, List.nil_append, List.length_nil, Nat.reduceAdd, Nat.reduceSub, Nat.reduceEqDiff, Nat.reduceLT, Nat.succ_ne_self, beq_self_eq_true, List.replicate_succ, List.replicate_zero, Bool.and_self, Data.ints.injEq, tl, Int.reduceLT, Int.reduceLE, decide_false, gt_iff_lt]
    split
    · rename_i hc
      have hip : i < p.length := by have := of_decide_eq_true hc; omega
      have htk : (p.take (i + 1)).flatten = (p.take i).flatten ++ p[i]?.getD [] := by
        rw [List.take_add_one, List.getElem?_eq_getElem hip, List.flatten_append]; simp
      have h1 := flatten_len (n := 1048584) (l := p.take i) (fun q hq => hFl q (List.mem_of_mem_take hq))
      rw [List.length_take] at h1
      have h2 : (p[i]?.getD []).length ≤ 1048584 := by rw [List.getElem?_eq_getElem hip]; exact hFl _ (List.getElem_mem hip)
      have h3 : min i p.length * 1048584 ≤ 8 * 1048584 := Nat.mul_le_mul_right _ (by omega)
      refine ⟨by omega, by omega, ?_⟩
      rw [w64 (by omega) (by omega)]
      refine ih (i + 1, c + 1 + 1 + 1 + 1, _) _ hip (by simp only; omega) rfl ?_ ?_
      · simp [LeT, tl, htk]
      · intro n x hx
        simp only [fnd] at hx ⊢
        split at hx
        · rename_i e; subst e; simpa [fnd] using hx
        · split at hx
          · rename_i e; subst e; simpa [fnd, htk] using hx
          · cases hx
    · rename_i hc
      have hip : i = p.length := by
        have : ¬ ((i : Int) < p.length) := fun h => hc (decide_eq_true h)
        omega
      subst hip
      rw [List.take_length]
      exact ⟨rfl, rfl⟩

theorem Join_meets (l : List (List Int)) (hl : l.length ≤ 1048576) (hr : ∀ b ∈ l, b.length ≤ 1048576 ∧ Bytes b) : Meets Tryd.prog 13 [.v (.view false (.rows false l))] [.own (.ints .u8 (joinL l)), .v (.int .i64 (partsE l))] := by
  have hS := sealN_meets l hl hr
  refine meets_go TO 100 Tryd.func13 rfl (fun X => ?_)
  simp only [Tryd.ntmps13, Tryd.results13, pureOpC, svs, blks, AV.sv, absRun, absOps, absOp, evO, constSV, ungd, gdP, gdPs, setD, pureOp, memOp, Op.operands, List.getD, List.getElem?_cons_zero, Option.getD_some, List.set, List.toList_toArray, true_and, and_self, Nat.zero_add, List.cons_append, List.nil_append, List.length_cons, List.length_nil, Nat.reduceAdd, Nat.reduceSub, List.replicate_succ, List.replicate_zero]
  refine call_go TO 100 hS Tryd.func9 (by decide +kernel) rfl rfl rfl ?_
  simp only [pureOpC, unc, absRun, absOps, absOp, evO, constSV, ungd, gdP, gdPs, setD, extractV, pureOp, notIn, blkAt, fnd, upd, Data.len, Data.esz, retP, resV, retQ, rAs, rA, rA0, ownN, nodup, bares, bare, bare0, bareD, guardIs, callP, callS, argS, mAs, mA, mA0, mB0, lowD, allNotIn, nm, impN, impB, impT, packS, delL, Op.operands, List.getD, List.getElem?_cons_zero, List.getElem?_cons_succ, Option.getD_some, List.set, List.map, List.toList_toArray, and_self, if_true, eq_self, Nat.zero_add, Nat.add_zero, List.append_nil, List.length_nil, Nat.reduceAdd, Nat.reduceMul, Bool.and_self]

def hdC : Hd := ⟨0, 0, 13, 0, 0, 0, 0, 0, 0, 0, [0, 0, 0, 0, 0, 0, 0, 0, 0, 0, 0, 0, 0, 0, 0, 0]⟩
def echoL : List Int := [254, 83, 77, 66, 64, 0, 0, 0, 0, 0, 0, 0, 13, 0, 0, 0, 0, 0, 0, 0, 0, 0, 0, 0, 0, 0, 0, 0, 0, 0, 0, 0, 0, 0, 0, 0, 0, 0, 0, 0, 0, 0, 0, 0, 0, 0, 0, 0, 0, 0, 0, 0, 0, 0, 0, 0, 0, 0, 0, 0, 0, 0, 0, 0, 0, 0, 0, 0]

theorem hdC_ok : hdC.ok := ⟨by decide, by decide, by decide, by decide, by decide, by decide, by decide, by decide, by decide, by decide, rfl, by unfold Bytes; decide⟩

theorem echoL_eq : headL hdC ++ [0, 0, 0, 0] = echoL := by decide

theorem echo_meets : Meets Tryd.prog 20 [] [.own (.ints .u8 echoL)] := by
  have hP := rPut07_meets hdC hdC_ok
  have m1 : mayB hdC = true := by decide
  have e1 : headP hdC = headL hdC := by unfold headP; rw [if_pos m1]
  have e2 : headE hdC = 0 := by decide
  have hl := headL_length hdC rfl
  rw [e1, e2] at hP
  rw [← echoL_eq]
  simp only [Hd.sv, hdC] at hP
  rw [show (⟨0, 0, 13, 0, 0, 0, 0, 0, 0, 0, [0, 0, 0, 0, 0, 0, 0, 0, 0, 0, 0, 0, 0, 0, 0, 0]⟩ : Hd) = hdC from rfl] at hP
  generalize headL hdC = q at hP hl
  refine meets_go TO 100 Tryd.func20 rfl (fun X => ?_)
  simp only [Tryd.ntmps20, Tryd.results20, pureOpC, buildV, fillC, cntC, unc, svs, blks, absRun, absOps, absOp, evO, constSV, ungd, gdP, gdPs, setD, T_ty, T_size, T_zero, tTy, tSize, tZero, fieldOf, pureOp, memOp, scal, cellsOf, takeC, dropC, Op.operands, List.getElem?_cons_zero, List.getElem?_cons_succ, List.set, List.map, List.all, List.toList_toArray, Option.map_some, true_and, and_true, and_self, eq_self, ne_eq, not_false_eq_true, reduceCtorEq, Nat.add_zero, List.cons_append, List.nil_append, List.length_nil, Nat.reduceAdd, Nat.reduceSub, List.replicate_succ, List.replicate_zero, Bool.and_true]
  refine ⟨rfl, ?_⟩
  refine call_go TO 100 hP Tryd.func31 (by decide +kernel) rfl rfl rfl ?_
  simp only [List.take_succ_cons, List.take_zero, List.drop_zero, pureOpC, unc, fitT, absRun, absOps, absOp, evO, constSV, ungd, gdP, gdPs, setD, T_ty, T_size, T_bytes, T_zero, tTy, tSize, tBytes, tZero, extractV, pureOp, memOp, newV, notIn, dataOf, appD, isSrc, elemsOf, intsOf, zI, blkAt, fnd, upd, del, mv, Data.len, Data.esz, Data.sub, Lim.add, retP, resV, retQ, rAs, rA, ownN, nodup, bares, bare, bare0, bareD, guardIs, callP, callS, argS, mAs, mA, mA0, mB0, mAl, allNotIn, nm, impN, impB, impT, packS, delL, Op.operands, Call.operands, List.getD, List.getElem?_cons_zero, List.getElem?_cons_succ, Option.getD_some, List.set, List.map, List.toList_toArray, Option.map_some, true_and, and_true, and_self, if_true, if_false, eq_self, Nat.zero_add, Nat.add_zero, Nat.le_refl, List.append_toArray, List.nil_append, List.append_nil, List.length_cons, List.length_nil, Nat.reduceAdd, Nat.reduceMul, Nat.reduceEqDiff, Nat.reduceLeDiff, Nat.succ_ne_self, Bool.and_self]
  exact ⟨by omega, by omega⟩

theorem echo_good : goodB echoL = true ∧ relB (gotH echoL 0) = false := by
  have hb := got_back hdC hdC_ok (by decide) [] [0, 0, 0, 0]
  rw [List.nil_append, echoL_eq, show (([] : List Int).length : Int) = 0 from rfl] at hb
  unfold goodB
  rw [hb.1, hb.2]
  exact ⟨rfl, rfl⟩

set_option maxHeartbeats 4000000 in
theorem lives12_meets : Meets Tryd.prog 7 [] [.v (.bool true)] := by
  have hE := echo_meets
  obtain ⟨hg, hrel⟩ := echo_good
  have hlE : echoL.length = 68 := rfl
  have hBE : Bytes echoL := by unfold Bytes; decide
  have hin : ∀ b ∈ [echoL, echoL], b.length ≤ 1048576 ∧ Bytes b := by
    intro b hb
    have : b = echoL := by simpa using hb
    subst this
    exact ⟨by rw [hlE]; decide, hBE⟩
  have hJ := Join_meets [echoL, echoL] (by decide) hin
  have pE : partsE [echoL, echoL] = 0 := by
    unfold partsE
    rw [if_neg (by simp [hg]), if_neg (by simp), if_neg (by decide)]
  have hj : joinL [echoL, echoL] = partL echoL ++ echoL := by
    unfold joinL partsL
    rw [if_pos pE]
    simp [partsF]
  obtain ⟨g1, g2, g3⟩ := part_got echoL echoL hg (by rw [hlE]; decide)
  rw [hlE, show padN 68 = 72 from rfl] at g2 g3
  have hjl : (partL echoL ++ echoL).length = 140 := by rw [List.length_append, g3, hlE]
  have hBJ : Bytes (partL echoL ++ echoL) := by
    refine Bytes.app ?_ hBE
    unfold partL setN
    have hBp : Bytes (padL echoL) := by unfold padL; exact hBE.app (Bytes.zeros _)
    exact ((hBp.take 20).app (digs_bytes _ _)).app (hBp.drop 24)
  have hS := Split_meets (partL echoL ++ echoL) (by omega) hBJ
  have hsp := split_parts [echoL, echoL] 9 [] (by simp) (fun b hb => ⟨by have : b = echoL := by simpa using hb
                                                                         rw [this]; exact hg, (hin b hb).1⟩) (by decide) (by decide) (.inr (fun b hb => by
    have : b = echoL := by simpa using hb.symm
    rw [this]; exact hrel))
  have hpf : (partsF [echoL, echoL]).flatten = partL echoL ++ echoL := by simp [partsF]
  have hpF : partsF [echoL, echoL] = [partL echoL, echoL] := rfl
  rw [hpf, hpF, List.nil_append] at hsp
  have s1 : splitL (partL echoL ++ echoL) = [partL echoL, echoL] := by unfold splitL; rw [hsp]
  have s2 : splitE (partL echoL ++ echoL) = 0 := by unfold splitE; rw [hsp]
  have hN := Next_meets (partL echoL ++ echoL) (by omega) hBJ
  rw [g1, g2] at hN
  have hS0 := Split_meets [] (by decide) (by intro x hx; simp at hx)
  rw [show splitL [] = [] from by decide, show splitE [] = 4 from by decide] at hS0
  have hJ0 := Join_meets [] (by decide) (by intro b hb; simp at hb)
  rw [show joinL [] = [] from rfl, show partsE [] = 2 from rfl] at hJ0
  rw [hj, pE] at hJ
  rw [s1, s2] at hS
  simp only at hN
  have hl2 : ([partL echoL, echoL] : List (List Int)).length = 2 := rfl
  generalize partL echoL = A at *
  generalize echoL = B at *
  refine meets_go TO 100 Tryd.func7 rfl (fun X => ?_)
  simp only [Tryd.ntmps7, Tryd.results7, pureOpC, svs, blks, absRun, absOps, absOp, evO, constSV, ungd, gdP, gdPs, setD, pureOp, memOp, Op.operands, List.set, List.toList_toArray, true_and, and_self, List.nil_append, List.length_nil, Nat.reduceAdd, Nat.reduceSub, List.replicate_succ, List.replicate_zero]
  refine call_go TO 100 hE Tryd.func20 (by decide +kernel) rfl rfl rfl ?_
  simp only [pureOpC, absOps, absOp, gdPs, pureOp, memOp, notIn, upd, Data.len, Data.esz, ownN, nodup, bares, bare, bareD, guardIs, callP, callS, argS, mAs, allNotIn, nm, impN, impB, impT, packS, delL, List.set, List.map, true_and, and_self, eq_self, Nat.zero_add, Nat.add_zero, List.append_nil, Nat.reduceAdd, Nat.reduceMul, Bool.and_self]
  refine call_go TO 100 hE Tryd.func20 (by decide +kernel) rfl rfl rfl ?_
  simp only [pureOpC, unc, absOps, absOp, evO, ungd, gdP, gdPs, T_ty, T_size, tTy, tSize, pureOp, memOp, newV, notIn, scal, elemsOf, rowsOf, rowOf, blkAt, fnd, upd, Data.len, Data.esz, Lim.add, ownN, nodup, bares, bare, bareD, guardIs, callP, callS, argS, mAs, allNotIn, nm, impN, impB, impT, packS, delL, Op.operands, List.getD, List.getElem?_cons_zero, List.getElem?_cons_succ, Option.getD_some, List.set, List.map, List.all, List.toList_toArray, Option.map_some, Option.isSome, true_and, and_self, if_true, if_false, ite_self, eq_self, Nat.zero_add, Nat.add_zero, List.cons_append, List.nil_append, List.length_cons, List.length_nil, Nat.reduceAdd, Nat.reduceMul, Nat.reduceEqDiff, Nat.reduceLeDiff, Bool.and_self]
  refine call_go TO 100 hJ Tryd.func13 (by decide +kernel) rfl rfl rfl ?_
  have htJ : (A ++ B).take 140 = A ++ B := by rw [← hjl, List.take_length]
  have h72 : ((72 : Nat) : Int) = 72 := rfl
  have htB : B.take 68 = B := by rw [← hlE, List.take_length]
  simp only [List.drop_zero, pureOpC, unc, absRun, absOps, absOp, evO, ungd, gdP, gdPs, setD, extractV, pureOp, memOp, notIn, blkAt, fnd, upd, Data.len, Data.esz, Data.sub, ownN, nodup, bares, bare, bare0, bareD, guardIs, callP, callS, argS, mAs, mA, mA0, mB0, rowsM, lowD, allNotIn, nm, impN, impB, impT, packS, delL, Op.operands, List.getD, List.getElem?_cons_zero, List.getElem?_cons_succ, Option.getD_some, List.set, List.map, List.toList_toArray, true_and, and_self, if_true, if_false, ite_self, eq_self, Nat.zero_add, Nat.add_zero, Nat.le_refl, List.cons_append, List.nil_append, List.length_cons, List.length_nil, Nat.reduceAdd, Nat.reduceMul, Nat.reduceEqDiff, Bool.and_self, hjl, hlE, htB]
  refine call_go TO 100 hS Tryd.func15 (by decide +kernel) rfl rfl rfl ?_
  simp only [List.drop_zero, pureOpC, unc, absRun, absOps, absOp, evO, ungd, gdP, gdPs, setD, extractV, pureOp, memOp, notIn, blkAt, fnd, upd, Data.len, Data.esz, Data.sub, ownN, nodup, bares, bare, bare0, bareD, guardIs, callP, callS, argS, mAs, mA, mA0, mB0, lowD, allNotIn, nm, impN, impB, impT, packS, delL, Op.operands, List.getD, List.getElem?_cons_zero, List.getElem?_cons_succ, Option.getD_some, List.set, List.map, List.toList_toArray, true_and, and_self, if_true, if_false, eq_self, Nat.zero_add, Nat.add_zero, Nat.le_refl, List.append_nil, List.length_cons, List.length_nil, Nat.reduceAdd, Nat.reduceMul, Nat.reduceEqDiff, Bool.and_self, hjl, htJ]
  refine call_go TO 100 hN Tryd.func21 (by decide +kernel) rfl rfl rfl ?_
  simp only [List.drop_zero, pureOpC, unc, absRun, absOps, absOp, evO, ungd, gdP, gdPs, setD, extractV, pureOp, memOp, notIn, blkAt, fnd, Data.len, Data.esz, Data.sub, ownN, nodup, bares, bare, bare0, guardIs, callP, callS, argS, mAs, mA, mA0, mB0, lowD, allNotIn, impN, impB, impT, packS, delL, Op.operands, List.getD, List.getElem?_cons_zero, List.getElem?_cons_succ, Option.getD_some, List.set, List.map, List.toList_toArray, true_and, and_self, if_true, if_false, eq_self, Nat.zero_add, Int.cast_ofNat_Int, Nat.le_refl, List.append_nil, Nat.reduceAdd, Nat.reduceEqDiff, Bool.and_self, hjl, htJ]
  refine call_go TO 100 hS0 Tryd.func15 (by decide +kernel) rfl rfl rfl ?_
  simp only [pureOpC, unc, absRun, absOps, absOp, evO, constSV, ungd, gdP, gdPs, setD, extractV, pureOp, memOp, notIn, upd, Data.len, Data.esz, ownN, nodup, bares, bare, bare0, bareD, guardIs, callP, callS, argS, mAs, mA, mA0, mB0, allNotIn, nm, impN, impB, impT, packS, delL, Op.operands, List.getD, List.getElem?_cons_zero, List.getElem?_cons_succ, Option.getD_some, List.set, List.map, List.toList_toArray, true_and, and_self, if_false, eq_self, Nat.zero_add, Nat.add_zero, List.append_nil, List.length_nil, Nat.reduceAdd, Nat.reduceMul, Nat.reduceEqDiff, Bool.and_self]
  refine call_go TO 100 hJ0 Tryd.func13 (by decide +kernel) rfl rfl rfl ?_
  simp only [pureOpC, unc, absRun, absOps, absOp, evO, constSV, ungd, gdP, gdPs, setD, binI, binV, ptrE, T_ty, T_size, tTy, tSize, iaddrV, extractV, pickV, pureOp, guardOf, lenV, loadV, notIn, blkAt, fnd, upd, elemV, Data.len, Data.esz, retP, resV, retQ, rAs, rA, rA0, ownN, nodup, bares, bare, bare0, bareD, guardIs, callP, callS, argS, mAs, mA, mA0, mB0, allNotIn, nm, impN, impB, impT, packS, delL, Op.operands, Call.operands, List.getD, List.getElem?_cons_zero, List.getElem?_cons_succ, Option.getD_some, List.set, List.map, List.toList_toArray, List.getElem?_toArray, Option.bind_some, and_self, implies_true, if_true, if_false, eq_self, ne_eq, not_false_eq_true, Nat.zero_add, Nat.add_zero, Int.cast_ofNat_Int, Int.reduceToNat, Nat.le_refl, Int.le_refl, Int.toNat_zero, Bool.cond_true, List.append_toArray, List.nil_append, List.append_nil, List.length_cons, List.length_nil, Nat.reduceAdd, Nat.reduceMul, Nat.reduceEqDiff, Nat.succ_ne_self, beq_self_eq_true, Bool.and_self, Int.reduceLT, Int.reduceLE, g3, hlE, h72]

end Go.Proofs.YtdhnjmepgafeiaaDoor.Abs
