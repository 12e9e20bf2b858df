/- What the document's Get answers: the same as ends.Get. -/
import Derived.Test.YtdbndnleniedaaaDoorF3
set_option linter.unusedVariables false
set_option linter.unusedSimpArgs false
set_option maxRecDepth 100000
namespace Go.Proofs.YtdbndnleniedaaaDoor.Abs
open Go Go.Proofs

def rGet_S (c0 m : Nat) (b l : List Int) (at_ : Int) (j : Nat) : St := ⟨[.view false (.ints .u8 b), .int .i64 at_] ++ List.replicate 6 .any ++ [.int .u64 (val (l.drop j)), .int .i64 ((j : Int) - 1)] ++ List.replicate 36 .any, [], ⟨c0 + 3 * (m - j), [], 0⟩⟩

theorem rGet_meets (b : List Int) (at_ n : Int) (hb : b.length ≤ 140737488351232) (hB : Bytes b) : Meets Tryd.prog 51 [.v (.view false (.ints .u8 b)), .v (.int .i64 at_), .v (.int .i64 n)] [.v (.int .u64 (getV b at_ n)), .v (.int .i64 (getE b.length at_ n))] := by
  refine meets_go TO 100 Tryd.func51 rfl (fun X => ?_)
  simp only [Tryd.ntmps51, Tryd.results51, List.take_succ_cons, List.take_zero, List.drop_succ_cons, List.drop_zero, pureOpC, buildV, fillC, intsP, cntC, arrPV, fieldV, gloadV, GT, unc, capV, sliceC, fitT, isEff, absD, pureStep, subB, svs, blks, AV.sv, absRun, absOps, absOp, evO, constSV, ungd, gdP, gdPs, setD, binI, binV, ptrE, isP, unV, convV, binS, T_ty, T_size, T_bytes, T_zero, tTy, tSize, tBytes, tZero, fieldOf, faddrV, iaddrV, indexV, extractV, lowI, highI, maxP, sliceV, pickV, pureOp, guardOf, memOp, lenV, loadV, newV, notIn, dataOf, nilD, appD, isSrc, scal, cellsOf, elemsOf, intsOf, strsOf, rowsOf, rowOf, zI, aggsOf, okC, flatB, eqF, eq1, T_eq, tEq, isStr, isB, isI, isA, known, cellAt, arrAt, takeC, dropC, setC, setA, blkAt, fnd, upd, del, mv, elemV, one, Data.len, Data.esz, Data.sub, Lim.add, retP, resV, retQ, rAs, rA, rA0, rAl, ownN, nodup, bares, bare, bare0, bareL, bareD, inRet, flats, flatV, flat1, flat2, guardIs, callP, callS, argS, argC, mAs, mA, mA0, mB0, rowsM, mAl, lowD, allNotIn, nm, impN, impB, impT, packS, delL, Op.operands, Call.operands, List.getD, List.getElem?_cons_zero, List.getElem?_cons_succ, List.getElem?_nil, Option.getD_some, Option.getD_none, List.set, List.map, List.all, List.toList_toArray, List.getElem?_toArray, Option.bind_some, Option.bind_none, Option.map_some, Option.map_none, Option.isSome, exitTo, true_and, and_true, false_and, and_false, and_self, implies_true, reduceIte, imp_self, if_true, if_false, ite_self, eq_self, ne_eq, not_false_eq_true, not_true_eq_false, false_implies, true_implies, forall_const, reduceCtorEq, Bool.false_eq_true, List.take_length, Nat.zero_add, Nat.add_zero, Int.sub_zero, Int.zero_add, Int.add_zero, Int.toNat_natCast, Int.cast_ofNat_Int, Int.reduceToNat, Int.reduceSub, Int.reduceAdd, Nat.le_refl, Int.le_refl, Int.toNat_zero, Int.reduceBNe, Int.reduceBEq, Bool.cond_true_left, Bool.cond_false_right, Bool.cond_true, Bool.cond_false, Option.toArray_some, Option.toArray_none, List.append_toArray, List.cons_append, List.nil_append, List.append_nil, List.size_toArray, List.length_cons, List.length_nil, Nat.reduceAdd, Nat.reduceSub, Nat.reduceMul, Nat.reduceDiv, Nat.reduceEqDiff, Nat.reduceBEq, Nat.reduceLeDiff, Nat.reduceLT, Nat.succ_ne_self, Bool.not_true, Bool.not_false, beq_self_eq_true, List.replicate_succ, List.replicate_zero, Bool.and_true, Bool.true_and, Bool.and_self, Bool.and_false, Bool.false_and, Bool.or_false, Bool.or_true, Bool.false_or, Bool.true_or, SV.sl.injEq, SV.int.injEq, Data.ints.injEq]
  refine call_go TO 100 (Size_meets n) Tryd.func54 (by decide +kernel) rfl rfl rfl ?_
  simp only [List.take_succ_cons, List.take_zero, List.drop_succ_cons, List.drop_zero, pureOpC, buildV, fillC, intsP, cntC, arrPV, fieldV, gloadV, GT, unc, capV, sliceC, fitT, isEff, absD, pureStep, subB, svs, blks, AV.sv, absRun, absOps, absOp, evO, constSV, ungd, gdP, gdPs, setD, binI, binV, ptrE, isP, unV, convV, binS, T_ty, T_size, T_bytes, T_zero, tTy, tSize, tBytes, tZero, fieldOf, faddrV, iaddrV, indexV, extractV, lowI, highI, maxP, sliceV, pickV, pureOp, guardOf, memOp, lenV, loadV, newV, notIn, dataOf, nilD, appD, isSrc, scal, cellsOf, elemsOf, intsOf, strsOf, rowsOf, rowOf, zI, aggsOf, okC, flatB, eqF, eq1, T_eq, tEq, isStr, isB, isI, isA, known, cellAt, arrAt, takeC, dropC, setC, setA, blkAt, fnd, upd, del, mv, elemV, one, Data.len, Data.esz, Data.sub, Lim.add, retP, resV, retQ, rAs, rA, rA0, rAl, ownN, nodup, bares, bare, bare0, bareL, bareD, inRet, flats, flatV, flat1, flat2, guardIs, callP, callS, argS, argC, mAs, mA, mA0, mB0, rowsM, mAl, lowD, allNotIn, nm, impN, impB, impT, packS, delL, Op.operands, Call.operands, List.getD, List.getElem?_cons_zero, List.getElem?_cons_succ, List.getElem?_nil, Option.getD_some, Option.getD_none, List.set, List.map, List.all, List.toList_toArray, List.getElem?_toArray, Option.bind_some, Option.bind_none, Option.map_some, Option.map_none, Option.isSome, exitTo, true_and, and_true, false_and, and_false, and_self, implies_true, reduceIte, imp_self, if_true, if_false, ite_self, eq_self, ne_eq, not_false_eq_true, not_true_eq_false, false_implies, true_implies, forall_const, reduceCtorEq, Bool.false_eq_true, List.take_length, Nat.zero_add, Nat.add_zero, Int.sub_zero, Int.zero_add, Int.add_zero, Int.toNat_natCast, Int.cast_ofNat_Int, Int.reduceToNat, Int.reduceSub, Int.reduceAdd, Nat.le_refl, Int.le_refl, Int.toNat_zero, Int.reduceBNe, Int.reduceBEq, Bool.cond_true_left, Bool.cond_false_right, Bool.cond_true, Bool.cond_false, Option.toArray_some, Option.toArray_none, List.append_toArray, List.cons_append, List.nil_append, List.append_nil, List.size_toArray, List.length_cons, List.length_nil, Nat.reduceAdd, Nat.reduceSub, Nat.reduceMul, Nat.reduceDiv, Nat.reduceEqDiff, Nat.reduceBEq, Nat.reduceLeDiff, Nat.reduceLT, Nat.succ_ne_self, Bool.not_true, Bool.not_false, beq_self_eq_true, List.replicate_succ, List.replicate_zero, Bool.and_true, Bool.true_and, Bool.and_self, Bool.and_false, Bool.false_and, Bool.or_false, Bool.or_true, Bool.false_or, Bool.true_or, SV.sl.injEq, SV.int.injEq, Data.ints.injEq]
  simp only [Bool.or_eq_true, decide_eq_true_eq, Bool.not_eq_true', gt_iff_lt]
  split
  · rename_i h
    have e : getE b.length at_ n = 2 := by
      unfold getE
      split
      · rename_i hs; unfold cutE; rw [if_pos]; rw [hs] at h; simp at h; omega
      · rfl
    simp [getV, e]
  · rename_i h
    have hs : szB n = true := by
      cases hs : szB n with
      | true => rfl
      | false => exact absurd (.inl (.inl hs)) h
    have hsz := szB_cases hs
    have h' : ¬ (at_ < 0 ∨ (b.length : Int) < at_) := by
      intro hc; apply h; rcases hc with h1 | h1
      · exact .inl (.inr h1)
      · exact .inr h1
    rw [w64 (by omega) (by omega)]
    split
    · rename_i h2
      have e : cutE b.length at_ n = 4 := by unfold cutE; rw [if_neg (by omega), if_pos h2]
      simp [getV, getE, hs, e]
    · rename_i h2
      have e : cutE b.length at_ n = 0 := by unfold cutE; rw [if_neg (by omega), if_neg h2]
      have e3 : cutL b at_ n = (b.drop at_.toNat).take n.toNat := by unfold cutL; rw [if_pos e]
      have e4 : ((cutL b at_ n).length : Int) = n := cutL_length_eq e
      have e5 : getV b at_ n = val (cutL b at_ n) := by simp [getV, getE, hs, e]
      have e6 : getE b.length at_ n = 0 := by simp [getE, hs, e]
      have hB' : Bytes (cutL b at_ n) := hB.cut at_ n
      have eg : ∀ i : Nat, i < (cutL b at_ n).length → b[(at_ + i).toNat]?.getD 0 = (cutL b at_ n)[i]?.getD 0 := by
        intro i hi
        rw [e3, List.getElem?_take_of_lt (by omega), List.getElem?_drop]
        congr 2; omega
      rw [e5, e6]
      generalize cutL b at_ n = l at *
      rw [w64 (by omega) (by omega)]
      refine loop_go (fun j => j ≤ l.length) (rGet_S 6 l.length b l at_) (fun j => j) l.length (Nat.le_refl _) ⟨?_, ?_, ?_⟩ ?_
      · simp [rGet_S]
      · simp [rGet_S, LeT, val]; omega
      · intro m x hx; simp [rGet_S, fnd] at hx
      · intro j hj ih
        refine absRun_ok TO 100 _ _ ?_
        simp only [rGet_S, List.take_succ_cons, List.take_zero, List.drop_succ_cons, List.drop_zero, pureOpC, buildV, fillC, intsP, cntC, arrPV, fieldV, gloadV, GT, unc, capV, sliceC, fitT, isEff, absD, pureStep, subB, svs, blks, AV.sv, absRun, absOps, absOp, evO, constSV, ungd, gdP, gdPs, setD, binI, binV, ptrE, isP, unV, convV, binS, T_ty, T_size, T_bytes, T_zero, tTy, tSize, tBytes, tZero, fieldOf, faddrV, iaddrV, indexV, extractV, lowI, highI, maxP, sliceV, pickV, pureOp, guardOf, memOp, lenV, loadV, newV, notIn, dataOf, nilD, appD, isSrc, scal, cellsOf, elemsOf, intsOf, strsOf, rowsOf, rowOf, zI, aggsOf, okC, flatB, eqF, eq1, T_eq, tEq, isStr, isB, isI, isA, known, cellAt, arrAt, takeC, dropC, setC, setA, blkAt, fnd, upd, del, mv, elemV, one, Data.len, Data.esz, Data.sub, Lim.add, retP, resV, retQ, rAs, rA, rA0, rAl, ownN, nodup, bares, bare, bare0, bareL, bareD, inRet, flats, flatV, flat1, flat2, guardIs, callP, callS, argS, argC, mAs, mA, mA0, mB0, rowsM, mAl, lowD, allNotIn, nm, impN, impB, impT, packS, delL, Op.operands, Call.operands, List.getD, List.getElem?_cons_zero, List.getElem?_cons_succ, List.getElem?_nil, Option.getD_some, Option.getD_none, List.set, List.map, List.all, List.toList_toArray, List.getElem?_toArray, Option.bind_some, Option.bind_none, Option.map_some, Option.map_none, Option.isSome, exitTo, true_and, and_true, false_and, and_false, and_self, implies_true, reduceIte, imp_self, if_true, if_false, ite_self, eq_self, ne_eq, not_false_eq_true, not_true_eq_false, false_implies, true_implies, forall_const, reduceCtorEq, Bool.false_eq_true, List.take_length, Nat.zero_add, Nat.add_zero, Int.sub_zero, Int.zero_add, Int.add_zero, Int.toNat_natCast, Int.cast_ofNat_Int, Int.reduceToNat, Int.reduceSub, Int.reduceAdd, Nat.le_refl, Int.le_refl, Int.toNat_zero, Int.reduceBNe, Int.reduceBEq, Bool.cond_true_left, Bool.cond_false_right, Bool.cond_true, Bool.cond_false, Option.toArray_some, Option.toArray_none, List.append_toArray, List.cons_append, List.nil_append, List.append_nil, List.size_toArray, List.length_cons, List.length_nil, Nat.reduceAdd, Nat.reduceSub, Nat.reduceMul, Nat.reduceDiv, Nat.reduceEqDiff, Nat.reduceBEq, Nat.reduceLeDiff, Nat.reduceLT, Nat.succ_ne_self, Bool.not_true, Bool.not_false, beq_self_eq_true, List.replicate_succ, List.replicate_zero, Bool.and_true, Bool.true_and, Bool.and_self, Bool.and_false, Bool.false_and, Bool.or_false, Bool.or_true, Bool.false_or, Bool.true_or, SV.sl.injEq, SV.int.injEq, Data.ints.injEq]
        split
        · rename_i hc
          have hj1 : 1 ≤ j := by
            have : (j : Int) - 1 ≥ 0 := by simpa using hc
            omega
          obtain ⟨i, rfl⟩ : ∃ i, j = i + 1 := ⟨j - 1, by omega⟩
          have e8 : (((i + 1 : Nat) : Int) - 1) = i := by omega
          have hv := val_bounds (hB'.drop (i + 1))
          have hv0 := val_bounds (hB'.drop i)
          rw [List.length_drop] at hv hv0
          have hil : i < l.length := by omega
          have hg : l[i]?.getD 0 = l[i] := by simp [hil]
          have hb1 := hB' l[i] (List.getElem_mem hil)
          have hs1 : val (l.drop i) = l[i] + 256 * val (l.drop (i + 1)) := by
            rw [List.drop_eq_getElem_cons hil]; rfl
          have hp : (256 : Int) ^ (l.length - i) ≤ 18446744073709551616 := by
            have : l.length - i = 1 ∨ l.length - i = 2 ∨ l.length - i = 3 ∨ l.length - i = 4 ∨ l.length - i = 5 ∨ l.length - i = 6 ∨ l.length - i = 7 ∨ l.length - i = 8 := by omega
            rcases this with h | h | h | h | h | h | h | h <;> rw [h] <;> decide +kernel
          rw [e8]
          have f1 : IntKind.i64.wrap (at_ + (i : Int)) = at_ + i := w64 (by omega) (by omega)
          have f2 : IntKind.i64.wrap ((i : Int) - 1) = i - 1 := w64 (by omega) (by omega)
          have f3 : IntKind.u64.wrap (256 * val (l.drop (i + 1))) = 256 * val (l.drop (i + 1)) := wu64 (by omega) (by omega)
          have f4 : IntKind.u64.wrap l[i] = l[i] := wu64 (by omega) (by omega)
          simp only [f1, f2, f3, eg i hil, hg, f4]
          rw [Int.add_comm (256 * _), ← hs1, wu64 (by omega) (by omega)]
          refine ⟨⟨by omega, by omega⟩, ih i _ (by omega) (by omega) ?_ ?_ ?_⟩
          · simp [rGet_S]; omega
          · simp [rGet_S, LeT]
          · intro m x hx; simp [rGet_S, fnd] at hx
        · rename_i hc
          have : ¬ (j : Int) - 1 ≥ 0 := by simpa using hc
          obtain rfl : j = 0 := by omega
          rfl
end Go.Proofs.YtdbndnleniedaaaDoor.Abs
