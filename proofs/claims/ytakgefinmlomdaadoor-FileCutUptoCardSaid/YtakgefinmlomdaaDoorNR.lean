/- The law FileCut answers true. -/
import Derived.Test.YtakgefinmlomdaaDoorNL
set_option linter.unusedVariables false
set_option linter.unusedSimpArgs false
set_option maxRecDepth 100000
namespace Go.Proofs.YtakgefinmlomdaaDoor.Abs
open Go Go.Proofs

set_option maxHeartbeats 4000000 in
theorem FileCut_law (c : Int) (a : Ask) (n : Int) (more : List Int) (hc : 0 ≤ c ∧ c < 65536) (ha : a.ok ∧ a.small 1048576) (hn : -9223372036854775808 ≤ n ∧ n ≤ 9223372036854775807) (hm : more.length ≤ 1048576 ∧ Bytes more) :
    Meets Tryd.prog 5 ([.int .u16 c, a.sv false, .int .i64 n, .view false (.ints .u8 more)].map .v) [.v (.bool true)] := by
  obtain ⟨ha, hs1⟩ := ha
  obtain ⟨hm, hBm⟩ := hm
  have hP := fPutAsk_meets c a hc.1 ha hs1
  have ll := faL_len c a ha
  have hBa : Bytes (faL c a) := faL_bytes c a ha
  have lz : faE c a ≠ 0 → faL c a = [] := fun h => faL_bad h
  have A1 : faE c a = 0 → ∀ k, k < (faL c a).length → ∃ x : Ask, Meets Tryd.prog 18 [.v (.int .u16 c), .v (.view false (.ints .u8 ((faL c a).take k)))] [.v (x.sv true), .v (.int .i64 4)] := fun h k hk => by
    have h1 := fGetAsk2_meets c ((faL c a).take k) hc.1 (by rw [List.length_take]; omega) (hBa.take _)
    rw [file_cut c a ha h k hk] at h1
    exact ⟨_, h1⟩
  have A2 : faE c a = 0 → more ≠ [] → ∃ x : Ask, Meets Tryd.prog 18 [.v (.int .u16 c), .v (.view false (.ints .u8 (faL c a ++ more)))] [.v (x.sv true), .v (.int .i64 5)] := fun h hne => by
    have hB2 := bytes_app hBa hBm
    have h1 := fGetAsk2_meets c (faL c a ++ more) hc.1 (by rw [List.length_append]; omega) hB2
    rw [file_more c a ha h more hne] at h1
    exact ⟨_, h1⟩
  have t1 : (faL c a).take (faL c a).length = faL c a := List.take_length
  generalize faL c a = l at *
  generalize faE c a = e at *
  simp only [Ask.sv, Ask.cells] at *
  refine meets_go TO 100 Tryd.func5 rfl (fun X => ?_)
  simp only [Tryd.ntmps5, Tryd.results5, pureOpC, unc, svs, blks, AV.sv, absRun, absOps, absOp, evO, constSV, ungd, gdP, gdPs, setD, T_ty, T_size, tTy, tSize, pureOp, memOp, loadV, newV, notIn, cellsOf, takeC, dropC, blkAt, fnd, upd, Lim.add, Op.operands, List.getD, List.getElem?_cons_zero, List.getElem?_cons_succ, Option.getD_some, List.set, List.map, List.toList_toArray, Option.bind_some, Option.map_some, true_and, and_self, if_true, eq_self, ne_eq, not_false_eq_true, reduceCtorEq, Nat.zero_add, List.cons_append, List.nil_append, List.length_cons, List.length_nil, Nat.reduceAdd, Nat.reduceSub, Nat.reduceLeDiff, List.replicate_succ, List.replicate_zero]
  refine call_go TO 100 hP Tryd.func12 (by decide +kernel) rfl rfl rfl ?_
  simp only [pureOpC, unc, absRun, absOps, absOp, evO, constSV, ungd, gdP, gdPs, setD, binI, binV, ptrE, convV, T_ty, T_size, tTy, tSize, extractV, lowI, highI, maxP, sliceV, pickV, pureOp, guardOf, memOp, lenV, notIn, known, blkAt, fnd, upd, Data.len, Data.esz, ownN, nodup, bares, bare, bare0, bareD, guardIs, callP, callS, argS, mAs, mA, mA0, mB0, mAl, lowD, allNotIn, nm, impN, impB, impT, packS, delL, Op.operands, Call.operands, List.getD, List.getElem?_cons_zero, List.getElem?_cons_succ, Option.getD_some, List.set, List.map, List.toList_toArray, List.getElem?_toArray, Option.bind_some, Option.map_some, Option.map_none, true_and, and_true, and_self, implies_true, imp_self, if_true, if_false, eq_self, ne_eq, not_false_eq_true, Nat.zero_add, Nat.add_zero, Int.sub_zero, Int.le_refl, Int.toNat_zero, Bool.cond_true_left, Option.toArray_some, Option.toArray_none, List.append_toArray, List.cons_append, List.nil_append, List.append_nil, Nat.reduceAdd, Nat.reduceMul, Nat.reduceEqDiff, Nat.succ_ne_self, Bool.and_self]
  by_cases he : e = 0
  · subst he
    simp only [Int.reduceBNe, Bool.not_false, Bool.false_or]
    by_cases hl0 : l.length = 0
    · have e0 : ((l.length : Int) == 0) = true := by simp [hl0]
      rw [if_pos e0]
      refine call_go TO 100 lives9_meets Tryd.func16 (by decide +kernel) rfl rfl rfl ?_
      simp only [e0, pureOpC, unc, absRun, absOps, absOp, evO, constSV, ungd, gdP, gdPs, setD, pickV, guardOf, retP, resV, retQ, rAs, rA, rA0, ownN, nodup, bares, bare, bare0, guardIs, callP, callS, argS, mAs, allNotIn, impN, impB, impT, packS, delL, Op.operands, List.getD, List.getElem?_cons_zero, List.getElem?_cons_succ, Option.getD_some, List.set, List.map, List.toList_toArray, List.getElem?_toArray, Option.bind_some, and_self, eq_self, Bool.cond_true, List.append_nil, Bool.and_self]
    · have e0 : ((l.length : Int) == 0) = false := by simpa using hl0
      rw [if_neg (by simp [e0])]
      have w1 : IntKind.u64.wrap (l.length : Int) = l.length := wu64 (by omega) (by omega)
      have w2 := IntKind.wrap_u64 n
      obtain ⟨k, hk, hkl⟩ : ∃ k : Nat, IntKind.i64.wrap (remI (IntKind.u64.wrap n) (IntKind.u64.wrap (l.length : Int))) = k ∧ k < l.length := by
        rw [w1]
        have g0 : 0 ≤ IntKind.u64.wrap n := by rw [w2]; omega
        have e1 : remI (IntKind.u64.wrap n) (l.length : Int) = IntKind.u64.wrap n % l.length := by unfold remI; exact Int.tmod_eq_emod_of_nonneg g0
        rw [e1]
        have g1 := Int.emod_nonneg (IntKind.u64.wrap n) (show (l.length : Int) ≠ 0 by omega)
        have g2 := Int.emod_lt_of_pos (IntKind.u64.wrap n) (show (0 : Int) < l.length by omega)
        refine ⟨(IntKind.u64.wrap n % l.length).toNat, ?_, by omega⟩
        rw [IntKind.wrap_i64]
        omega
      obtain ⟨x, hx⟩ := A1 rfl k hkl
      rw [hk, w1]
      refine ⟨by omega, ⟨by omega, by omega⟩, ?_⟩
      refine call_go TO 100 hx Tryd.func18 (by decide +kernel) rfl rfl rfl ?_
      simp only [List.drop_zero, pureOpC, cntC, unc, fitT, absRun, absOps, absOp, evO, constSV, ungd, gdP, gdPs, setD, binI, binV, ptrE, T_ty, T_size, T_bytes, T_zero, tTy, tSize, tBytes, tZero, extractV, lowI, highI, maxP, sliceV, pureOp, memOp, lenV, newV, notIn, dataOf, appD, isSrc, scal, zI, okC, takeC, dropC, blkAt, fnd, upd, del, mv, Data.len, Data.esz, Data.sub, Lim.add, retP, resV, retQ, rAs, rA, rA0, ownN, nodup, bares, bare, bare0, bareL, bareD, guardIs, callP, callS, argS, mAs, mA, mA0, mB0, lowD, allNotIn, impN, impB, impT, packS, delL, Op.operands, Call.operands, List.getD, List.getElem?_cons_zero, List.getElem?_cons_succ, Option.getD_some, List.set, List.map, List.toList_toArray, Option.map_some, Option.map_none, Option.isSome, true_and, and_true, and_false, and_self, if_true, if_false, eq_self, ne_eq, not_false_eq_true, reduceCtorEq, Bool.false_eq_true, Nat.zero_add, Nat.add_zero, Int.sub_zero, Int.toNat_natCast, Int.le_refl, Int.toNat_zero, Int.reduceBNe, Option.toArray_some, Option.toArray_none, List.append_toArray, List.cons_append, List.nil_append, List.append_nil, Nat.reduceAdd, Nat.reduceSub, Nat.reduceEqDiff, Nat.reduceLeDiff, Nat.succ_ne_self, List.replicate_succ, List.replicate_zero, Bool.and_self]
      refine ⟨by omega, ?_⟩
      by_cases hm0 : more.length = 0
      · rw [if_pos (by simp [hm0])]
        refine call_go TO 100 lives9_meets Tryd.func16 (by decide +kernel) rfl rfl rfl ?_
        simp only [pureOpC, unc, absRun, absOps, absOp, evO, ungd, gdP, gdPs, setD, retP, resV, retQ, rAs, rA, rA0, ownN, nodup, bares, bare, bare0, guardIs, callP, callS, argS, mAs, allNotIn, impN, impB, impT, packS, delL, Op.operands, List.getD, List.getElem?_cons_zero, List.getElem?_cons_succ, Option.getD_some, List.set, List.map, List.toList_toArray, and_self, eq_self, List.append_nil, Bool.and_self]
      · rw [if_neg (by simpa using hm0)]
        obtain ⟨y, hy⟩ := A2 rfl (fun h => hm0 (by rw [h]; rfl))
        have t2 : (l ++ more).take (l.length + more.length) = l ++ more := by rw [← List.length_append, List.take_length]
        refine ⟨by omega, ⟨by omega, by omega⟩, ?_⟩
        refine call_go TO 100 hy Tryd.func18 (by decide +kernel) rfl rfl rfl ?_
        simp only [List.drop_zero, pureOpC, cntC, unc, absRun, absOps, absOp, evO, constSV, ungd, gdP, gdPs, setD, binI, binV, ptrE, T_ty, T_size, T_zero, tTy, tSize, tZero, extractV, pureOp, guardOf, memOp, newV, notIn, scal, okC, takeC, dropC, blkAt, fnd, upd, Data.len, Data.esz, Data.sub, Lim.add, ownN, nodup, bares, bare, bare0, bareL, bareD, guardIs, callP, callS, argS, mAs, mA, mA0, mB0, lowD, allNotIn, impN, impB, impT, packS, delL, Op.operands, List.getD, List.getElem?_cons_zero, List.getElem?_cons_succ, Option.getD_some, List.set, List.map, List.toList_toArray, List.getElem?_toArray, Option.bind_some, true_and, and_self, if_true, if_false, eq_self, ne_eq, not_false_eq_true, reduceCtorEq, List.take_length, Nat.zero_add, Nat.add_zero, Nat.le_refl, List.nil_append, List.append_nil, Nat.reduceAdd, Nat.reduceSub, Nat.reduceEqDiff, Nat.reduceLeDiff, beq_self_eq_true, List.replicate_succ, List.replicate_zero, Bool.and_self]
        refine call_go TO 100 lives9_meets Tryd.func16 (by decide +kernel) rfl rfl rfl ?_
        simp only [pureOpC, unc, absRun, absOps, absOp, evO, constSV, ungd, gdP, gdPs, setD, pickV, guardOf, retP, resV, retQ, rAs, rA, rA0, ownN, nodup, bares, bare, bare0, guardIs, callP, callS, argS, mAs, allNotIn, impN, impB, impT, packS, delL, Op.operands, List.getD, List.getElem?_cons_zero, List.getElem?_cons_succ, Option.getD_some, List.set, List.map, List.toList_toArray, List.getElem?_toArray, Option.bind_some, and_self, eq_self, Bool.cond_true, List.append_nil, Bool.and_self]
  · have he2 : (e == 0) = false := by simpa using he
    have he3 : (e != 0) = true := by simpa using he
    simp only [he3, if_true, eq_self, Bool.not_true, Bool.true_or]
    refine call_go TO 100 lives9_meets Tryd.func16 (by decide +kernel) rfl rfl rfl ?_
    simp only [pureOpC, unc, absRun, absOps, absOp, evO, constSV, ungd, gdP, gdPs, setD, pickV, guardOf, retP, resV, retQ, rAs, rA, rA0, ownN, nodup, bares, bare, bare0, guardIs, callP, callS, argS, mAs, allNotIn, impN, impB, impT, packS, delL, Op.operands, List.getD, List.getElem?_cons_zero, List.getElem?_cons_succ, Option.getD_some, List.set, List.map, List.toList_toArray, List.getElem?_toArray, Option.bind_some, and_self, eq_self, Bool.cond_true, List.append_nil, Bool.and_self]

end Go.Proofs.YtakgefinmlomdaaDoor.Abs
