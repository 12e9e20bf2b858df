/- What lists, chain.Next, the document's Next, and its Has of any flag answer. -/
import Derived.Test.YtdhnjmepgafeiaaDoorC1
import Derived.Test.YtdhnjmepgafeiaaDoorRX
set_option linter.unusedVariables false
set_option linter.unusedSimpArgs false
set_option maxRecDepth 100000
namespace Go.Proofs.YtdhnjmepgafeiaaDoor.Abs
open Go Go.Proofs

theorem rHasK_meets (h : Hd) (hk : h.ok) (q : Int) (hq : 0 < q ∧ q ≤ 8) : Meets Tryd.prog 18 [.v h.sv, .v (.int .u32 q)] [.v (.bool (h.flags / q % 2 == 1))] := by
  obtain ⟨_, _, _, _, hf, _⟩ := hk
  refine meets_go TO 100 Tryd.func18 rfl (fun X => ?_)
  simp only [Tryd.ntmps18, Tryd.results18, Hd.sv, pureOpC, unc, svs, blks, AV.sv, absRun, absOps, absOp, evO, constSV, ungd, gdP, gdPs, setD, binI, binV, ptrE, T_ty, T_size, tTy, tSize, fieldOf, faddrV, pureOp, memOp, loadV, newV, notIn, cellsOf, cellAt, blkAt, fnd, upd, Lim.add, retP, resV, retQ, rAs, rA, rA0, ownN, nodup, bares, bare, bare0, Op.operands, List.getD, List.getElem?_cons_zero, List.getElem?_cons_succ, Option.getD_some, List.set, List.map, List.toList_toArray, true_and, and_true, and_self, if_true, if_false, eq_self, ne_eq, not_false_eq_true, reduceCtorEq, Nat.zero_add, List.cons_append, List.nil_append, List.length_cons, List.length_nil, Nat.reduceAdd, Nat.reduceSub, Nat.reduceLT, Nat.succ_ne_self, List.replicate_succ, List.replicate_zero, Bool.and_self, Int.reduceEq]
  have e0 : 0 ≤ h.flags / q := Int.ediv_nonneg hf.1 (by omega)
  have e3 : h.flags / q ≤ h.flags := Int.ediv_le_self _ hf.1
  have e1 : quoI .u32 h.flags q = h.flags / q := by unfold quoI; rw [Int.tdiv_eq_ediv_of_nonneg (by omega), IntKind.wrap_u32]; omega
  have e2 : remI (h.flags / q) 2 = h.flags / q % 2 := by unfold remI; rw [Int.tmod_eq_emod_of_nonneg e0]
  rw [e1, e2]
  exact ⟨by omega, rfl⟩

theorem lists12_meets (a b : List (List Int)) (ha : a.length ≤ 140737488351232) (hr : ∀ x ∈ a, x.length ≤ 140737488351232) : Meets Tryd.prog 12 [.v (.view false (.rows false a)), .v (.view false (.rows false b))] [.v (.bool (decide (a = b)))] := by
  refine meets_go TO 100 Tryd.func12 rfl (fun X => ?_)
  simp only [Tryd.ntmps12, Tryd.results12, pureOpC, unc, svs, blks, AV.sv, absRun, absOps, absOp, evO, constSV, ungd, gdP, gdPs, setD, binI, binV, ptrE, T_ty, tTy, pureOp, lenV, Data.len, retP, resV, retQ, rAs, rA, rA0, ownN, nodup, bares, bare, bare0, Op.operands, Call.operands, List.getD, List.getElem?_cons_zero, List.getElem?_cons_succ, Option.getD_some, List.set, List.map, List.toList_toArray, true_and, and_true, and_self, eq_self, Nat.zero_add, List.append_toArray, List.cons_append, List.nil_append, List.length_cons, List.length_nil, Nat.reduceAdd, Nat.reduceSub, List.replicate_succ, List.replicate_zero, Bool.and_self]
  by_cases hl : a.length = b.length
  · rw [if_neg (by simp; omega)]
    refine loop_up (fun x : Nat × Nat => x.1 ≤ a.length ∧ ∀ j, j < x.1 → a[j]?.getD [] = b[j]?.getD []) (fun x => ⟨tl 27 0 [(0, .view false (.rows false a)), (1, .view false (.rows false b)), (5, .int .i64 x.1)], [], ⟨x.2, [], 0⟩⟩) (fun x => a.length - x.1) (0, _) ⟨Nat.zero_le _, by simp⟩ ⟨rfl, ?_, ?_⟩ ?_
    · simp [LeT, tl]
    · intro m x hx; simp [fnd] at hx
    · rintro ⟨i, g⟩ ⟨hi, hm⟩ ih
      simp only at hi hm
      refine absRun_ok TO 100 _ _ ?_
      simp only [pureOpC, unc, absRun, absOps, absOp, evO, constSV, ungd, gdP, gdPs, setD, binI, binV, ptrE, T_ty, tTy, pureOp, lenV, Data.len, retP, resV, retQ, rAs, rA, rA0, ownN, nodup, bares, bare, bare0, Op.operands, Call.operands, List.getD, List.getElem?_cons_zero, List.getElem?_cons_succ, Option.getD_some, List.set, List.map, List.toList_toArray, exitTo, true_and, and_true, and_self, if_true, eq_self, Nat.zero_add, List.append_toArray, List.cons_append, List.nil_append, Nat.reduceAdd, Nat.reduceSub, beq_self_eq_true, List.replicate_succ, List.replicate_zero, Bool.and_self, tl]
      split
      · rename_i hc
        have hik : i < a.length := by have := of_decide_eq_true hc; omega
        have hS := Same_meets (a[i]?.getD []) (b[i]?.getD []) (by rw [List.getElem?_eq_getElem hik]; exact hr _ (List.getElem_mem hik))
        refine draw_go TO 10 100 mixed_ok (by decide +kernel) ?_
        simp only [List.take_succ_cons, List.take_zero, List.drop_succ_cons, List.drop_zero, pureOpC, unc, isEff, absD, pureStep, absRun, absOps, absOp, evO, constSV, ungd, gdP, gdPs, setD, binI, binV, ptrE, binS, T_ty, T_size, tTy, tSize, iaddrV, pureOp, memOp, loadV, elemV, Data.len, Data.esz, retP, resV, retQ, rAs, rA, rA0, ownN, nodup, bares, bare, bare0, Op.operands, List.getD, List.getElem?_cons_zero, List.getElem?_cons_succ, Option.getD_some, List.set, List.map, List.toList_toArray, true_and, and_true, and_self, implies_true, imp_self, eq_self, ne_eq, not_false_eq_true, forall_const, reduceCtorEq, Int.toNat_natCast, Nat.reduceLT, Nat.succ_ne_self, Bool.and_self]
        refine ⟨by omega, by omega, ?_⟩
        refine callD_go TO (fun s' h' => HOps_go TO 100 h') hS Tryd.func11 (by decide +kernel) rfl rfl rfl ?_
        simp only [pureOpC, unc, isEff, absD, pureStep, subB, absRun, absOps, absOp, evO, constSV, ungd, gdP, gdPs, setD, binI, binV, ptrE, unV, pureOp, retP, resV, retQ, rAs, rA, rA0, ownN, nodup, bares, bare, bare0, guardIs, callP, callS, argS, mAs, mA, mA0, mB0, lowD, allNotIn, impN, impB, impT, packS, delL, Op.operands, List.getD, List.getElem?_cons_zero, List.getElem?_cons_succ, Option.getD_some, List.set, List.map, List.toList_toArray, true_and, and_true, and_self, eq_self, List.append_nil, Bool.and_self]
        by_cases he : a[i]?.getD [] = b[i]?.getD []
        · rw [if_neg (by simp [he]), w64 (by omega) (by omega)]
          refine ih (i + 1, _) _ ⟨hik, fun j hj => ?_⟩ (by simp only; omega) rfl ?_ ?_
          · rcases Nat.lt_succ_iff_lt_or_eq.1 hj with h | h
            · exact hm j h
            · rw [h]; exact he
          · simp [LeT, tl]
          · intro n x hx; simp [fnd] at hx
        · rw [if_pos (by simp [he])]
          have : a ≠ b := fun h => he (by rw [h])
          simp [this]
      · rename_i hc
        have hik : i = a.length := by
          have : ¬ ((i : Int) < a.length) := fun h => hc (decide_eq_true h)
          omega
        have : a = b := by
          apply List.ext_getElem hl
          intro j h1 h2
          have := hm j (by omega)
          rw [List.getElem?_eq_getElem h1, List.getElem?_eq_getElem h2] at this
          simpa using this
        simp [this]
  · rw [if_pos (by simp; omega)]
    have : a ≠ b := fun h => hl (by rw [h])
    simp [this]

theorem Next_meets (b : List Int) (hb : b.length ≤ 140737488351232) (hB : Bytes b) : Meets Tryd.prog 21 [.v (.view false (.ints .u8 b))] [.v (.int .i64 (gotH b 0).next), .v (.int .i64 (gotE b 0))] := by
  have hG := hGet07_meets b 0 hb hB (by decide)
  simp only [Hd.sv] at hG
  refine meets_go TO 100 Tryd.func21 rfl (fun X => ?_)
  simp only [Tryd.ntmps21, Tryd.results21, pureOpC, svs, blks, AV.sv, absRun, absOps, absOp, evO, constSV, ungd, gdP, gdPs, setD, pureOp, memOp, Op.operands, List.getD, List.getElem?_cons_zero, Option.getD_some, List.set, List.toList_toArray, true_and, and_self, Nat.zero_add, List.cons_append, List.nil_append, List.length_cons, List.length_nil, Nat.reduceAdd, Nat.reduceSub, List.replicate_succ, List.replicate_zero]
  refine call_go TO 100 hG Tryd.func27 (by decide +kernel) rfl rfl rfl ?_
  simp only [pureOpC, cntC, unc, absRun, absOps, absOp, evO, constSV, ungd, gdP, gdPs, setD, binI, binV, ptrE, convV, T_ty, T_size, T_zero, tTy, tSize, tZero, fieldOf, faddrV, extractV, pureOp, memOp, loadV, newV, notIn, scal, okC, known, cellAt, takeC, dropC, blkAt, fnd, upd, Lim.add, retP, resV, retQ, rAs, rA, rA0, ownN, nodup, bares, bare, bare0, bareL, guardIs, callP, callS, argS, mAs, mA, mA0, mB0, lowD, allNotIn, impN, impB, impT, packS, delL, Op.operands, List.getD, List.getElem?_cons_zero, List.getElem?_cons_succ, Option.getD_some, List.set, List.map, List.toList_toArray, true_and, and_true, and_self, if_true, if_false, eq_self, ne_eq, not_false_eq_true, reduceCtorEq, Nat.zero_add, Nat.add_zero, Nat.le_refl, List.nil_append, List.append_nil, Nat.reduceAdd, Nat.reduceSub, Nat.reduceLT, Nat.succ_ne_self, List.replicate_succ, List.replicate_zero, Bool.and_self]
  by_cases h : gotE b 0 = 0
  · have hn := (getH_ok b 0 hB (by decide) (by have := got_len h; omega)).2.2.2.2.2.1
    have : (gotH b 0).next = (getH b 0).next := by unfold gotH; rw [if_pos h]
    rw [← this] at hn
    rw [if_neg (by simpa using h), w64 (by omega) (by omega), h]
    first | done | exact ⟨rfl, rfl⟩
  · rw [if_pos (by simpa using h)]
    have : (gotH b 0).next = 0 := by unfold gotH; rw [if_neg h]; rfl
    rw [this]

end Go.Proofs.YtdhnjmepgafeiaaDoor.Abs
