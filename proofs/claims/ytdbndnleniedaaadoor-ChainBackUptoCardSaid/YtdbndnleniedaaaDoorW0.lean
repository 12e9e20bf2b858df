/- Room behind bytes: Wide is walked into, whatever stands around; so is Left. -/
import Derived.Test.YtdbndnleniedaaaDoorF13
import Derived.Test.YtdbndnleniedaaaDoorB5
set_option linter.unusedVariables false
set_option linter.unusedSimpArgs false
set_option maxRecDepth 100000
namespace Go.Proofs.YtdbndnleniedaaaDoor.Abs
open Go Go.Proofs

theorem wideL (b : List Int) : (((overI (List.replicate (b.length + 3) 0) 0 (b.length + 3) b).set b.length 7).set (b.length + 1) 7).set (b.length + 2) 7 = b ++ [7, 7, 7] := by
  have e : overI (List.replicate (b.length + 3) 0) 0 (b.length + 3) b = b ++ [0, 0, 0] := by
    unfold overI
    rw [show min b.length (b.length + 3) = b.length by omega, List.take_zero, List.nil_append, List.take_length, Nat.zero_add, List.drop_replicate, show b.length + 3 - b.length = 3 by omega]
    rfl
  rw [e, List.set_append_right _ _ (Nat.le_refl _), List.set_append_right _ _ (by omega), List.set_append_right _ _ (by omega), Nat.sub_self, show b.length + 1 - b.length = 1 by omega, show b.length + 2 - b.length = 2 by omega]
  rfl

theorem wide_go {X : Ctx} {ops : Array Oper} {o : Oper} {rest : List Oper} {k : List Item} {s : St} {Φ : St → Prop} {xs : Array Operand} {ts : Array TypeId} {d : Nat} {b : List Int} (off : Nat)
    (hb : b.length ≤ 140737488351232) (hB : Bytes b) (ho : o.op = .call { callee := .value (.func 16), args := xs, argTypes := ts }) (hd : o.dst = some d)
    (ha : argC s.t xs.toList = [.view false (.ints .u8 b)] ∧ xs.size = 1)
    (h : guardIs ops s.t true o.guard ∧ gdPs s.t true xs.toList ∧ (d < s.t.length ∧ absOps Tryd.prog X T ops k Φ (absRun Tryd.prog X T Φ 100 k) rest ⟨s.t.set d (.slc (s.c.o + off + 9) (s.c.c + 1 + 1 + 1) 1 b.length (b.length + 3)), upd s.b (s.c.o + off + 9) (s.c.c + 1 + 1 + 1) (.vec (.ints .u8 (b ++ [7, 7, 7]))), ⟨s.c.c + 16, [], s.c.o⟩⟩)) : HOps Tryd.prog X ops (o :: rest) k s Φ := by
  obtain ⟨hg, hgd, hdl, h⟩ := h
  obtain ⟨ha1, ha2⟩ := ha
  refine HOps_in TO off ho hd hg Tryd.func16 rfl (by decide +kernel) hgd ?_
  refine unrRun_ok TO 100 _ _ ?_
  rw [ha1, ha2]
  generalize s.c.c = c0 at *
  generalize s.c.o = o0 at *
  generalize s.b = b0 at *
  have e1 : IntKind.i64.wrap ((b.length : Int) + 3) = ((b.length + 3 : Nat) : Int) := by rw [w64 (by omega) (by omega)]; omega
  have e2 : IntKind.i64.wrap ((b.length : Int) + 1) = ((b.length + 1 : Nat) : Int) := by rw [w64 (by omega) (by omega)]; omega
  have e3 : IntKind.i64.wrap (((b.length + 1 : Nat) : Int) + 1) = ((b.length + 2 : Nat) : Int) := by rw [w64 (by omega) (by omega)]; omega
  have e4 : IntKind.i64.wrap (((b.length + 2 : Nat) : Int) + 1) = ((b.length + 3 : Nat) : Int) := by rw [w64 (by omega) (by omega)]; omega
  have m1 : min b.length (b.length + 3) = b.length := by omega
  have d1 : decide (((b.length : Nat) : Int) < ((b.length + 3 : Nat) : Int)) = true := by simp; omega
  have d2 : decide (((b.length + 1 : Nat) : Int) < ((b.length + 3 : Nat) : Int)) = true := decide_eq_true (by omega)
  have d3 : decide (((b.length + 2 : Nat) : Int) < ((b.length + 3 : Nat) : Int)) = true := decide_eq_true (by omega)
  have d4 : decide (((b.length + 3 : Nat) : Int) < ((b.length + 3 : Nat) : Int)) = false := by simp
  have w := wideL b
  have hwl : (b ++ [7, 7, 7]).length = b.length + 3 := by simp
  have ho : (overI (List.replicate (b.length + 3) 0) 0 (b.length + 3) b).length = b.length + 3 := by rw [overI_length (by simp)]; simp
  rw [show List.replicate (b.length + 3) (0 : Int) = 0 :: 0 :: 0 :: List.replicate b.length 0 from rfl] at w ho
  simp only [Tryd.ntmps16, Tryd.results16, unrRun, List.take_succ_cons, List.take_zero, List.drop_succ_cons, List.drop_zero, pureOpC, buildV, fillC, intsP, cntC, arrPV, fieldV, gloadV, GT, unc, capV, sliceC, fitT, isEff, absD, pureStep, subB, svs, blks, AV.sv, absRun, absOps, absOp, evO, constSV, ungd, gdP, gdPs, setD, binI, binV, ptrE, isP, unV, convV, binS, T_ty, T_size, T_bytes, T_zero, tTy, tSize, tBytes, tZero, fieldOf, faddrV, iaddrV, indexV, extractV, lowI, highI, maxP, sliceV, pickV, pureOp, guardOf, memOp, lenV, loadV, newV, notIn, dataOf, nilD, appD, isSrc, scal, cellsOf, elemsOf, intsOf, strsOf, rowsOf, rowOf, zI, aggsOf, okC, flatB, eqF, eq1, T_eq, tEq, isStr, isB, isI, isA, known, cellAt, arrAt, takeC, dropC, setC, setA, blkAt, fnd, upd, del, mv, elemV, one, Data.len, Data.esz, Data.sub, Lim.add, retP, resV, retQ, rAs, rA, rA0, rAl, ownN, nodup, bares, bare, bare0, bareL, bareD, inRet, flats, flatV, flat1, flat2, guardIs, callP, callS, argS, argC, mAs, mA, mA0, mB0, rowsM, mAl, lowD, allNotIn, nm, impN, impB, impT, packS, delL, Op.operands, Call.operands, List.getD, List.getElem?_cons_zero, List.getElem?_cons_succ, List.getElem?_nil, Option.getD_some, Option.getD_none, List.set, List.map, List.all, List.toList_toArray, List.getElem?_toArray, Option.bind_some, Option.bind_none, Option.map_some, Option.map_none, Option.isSome, exitTo, true_and, and_true, false_and, and_false, and_self, implies_true, reduceIte, imp_self, if_true, if_false, ite_self, eq_self, ne_eq, not_false_eq_true, not_true_eq_false, false_implies, true_implies, forall_const, reduceCtorEq, Bool.false_eq_true, List.take_length, Nat.zero_add, Nat.add_zero, Int.sub_zero, Int.zero_add, Int.add_zero, Int.toNat_natCast, Int.cast_ofNat_Int, Int.reduceToNat, Int.reduceSub, Int.reduceAdd, Nat.le_refl, Int.le_refl, Int.toNat_zero, Int.reduceBNe, Int.reduceBEq, Bool.cond_true_left, Bool.cond_false_right, Bool.cond_true, Bool.cond_false, Option.toArray_some, Option.toArray_none, List.append_toArray, List.cons_append, List.nil_append, List.append_nil, List.size_toArray, List.length_cons, List.length_nil, Nat.reduceAdd, Nat.reduceSub, Nat.reduceMul, Nat.reduceDiv, Nat.reduceEqDiff, Nat.reduceBEq, Nat.reduceLeDiff, Nat.reduceLT, Nat.succ_ne_self, Bool.not_true, Bool.not_false, beq_self_eq_true, List.replicate_succ, List.replicate_zero, Bool.and_true, Bool.true_and, Bool.and_self, Bool.and_false, Bool.false_and, Bool.or_false, Bool.or_true, Bool.false_or, Bool.true_or, SV.sl.injEq, SV.int.injEq, Data.ints.injEq, tl, Int.reduceLT, Int.reduceLE, Int.reduceGT, Int.reduceGE, Int.reduceEq, Int.reduceNe, Int.reduceMul, Int.reduceNeg, decide_true, decide_false, gt_iff_lt, ge_iff_le, fnd_same, upd_same, e1, e2, e3, e4, m1, d1, d2, d3, d4, w, List.length_set, ho, List.length_replicate]
  repeat refine ⟨by omega, ?_⟩
  have hget : (s.t.set d (SV.slc (o0 + off + 9) (c0 + 1 + 1 + 1) 1 b.length (b.length + 3)))[d]?.getD SV.any = SV.slc (o0 + off + 9) (c0 + 1 + 1 + 1) 1 b.length (b.length + 3) := by simp [hdl]
  simp only [hget]
  exact ⟨trivial, HOps_go TO 100 h⟩

theorem left_go {X : Ctx} {ops : Array Oper} {o : Oper} {rest : List Oper} {k : List Item} {s : St} {Φ : St → Prop} {xs : Array Operand} {ts : Array TypeId} {d n g : Nat} {b : List Int} (off : Nat)
    (hb : b.length ≤ 140737488351232) (hB : Bytes b) (ho : o.op = .call { callee := .value (.func 21), args := xs, argTypes := ts }) (hd : o.dst = some d)
    (ha : argC s.t xs.toList = [.slc n g 1 b.length (b.length + 3), .view false (.ints .u8 b)] ∧ xs.size = 2 ∧ blkAt s.b n g = some (.vec (.ints .u8 (b ++ [7, 7, 7]))))
    (h : guardIs ops s.t true o.guard ∧ gdPs s.t true xs.toList ∧ (d < s.t.length ∧ absOps Tryd.prog X T ops k Φ (absRun Tryd.prog X T Φ 100 k) rest ⟨s.t.set d (.bool true), s.b, ⟨s.c.c + 5, [], s.c.o⟩⟩)) : HOps Tryd.prog X ops (o :: rest) k s Φ := by
  obtain ⟨hg, hgd, hdl, h⟩ := h
  obtain ⟨ha1, ha2, hbk⟩ := ha
  refine HOps_in TO off ho hd hg Tryd.func21 rfl (by decide +kernel) hgd ?_
  refine absRun_ok TO 100 _ _ ?_
  rw [ha1, ha2]
  generalize s.c.c = c0 at *
  generalize s.c.o = o0 at *
  generalize s.b = b0 at *
  have hS := Same_meets b b hb
  rw [show decide (b = b) = true by simp] at hS
  have ht : (b ++ [7, 7, 7]).take b.length = b := List.take_left
  have hwl : (b ++ [7, 7, 7]).length = b.length + 3 := by simp
  have hbk' : fnd b0 n = some (g, .vec (.ints .u8 (b ++ [7, 7, 7]))) := blkAt_fnd hbk
  simp only [Tryd.ntmps21, Tryd.results21, List.take_succ_cons, List.take_zero, List.drop_succ_cons, List.drop_zero, pureOpC, buildV, fillC, intsP, cntC, arrPV, fieldV, gloadV, GT, unc, capV, sliceC, fitT, isEff, absD, pureStep, subB, svs, blks, AV.sv, absRun, absOps, absOp, evO, constSV, ungd, gdP, gdPs, setD, binI, binV, ptrE, isP, unV, convV, binS, T_ty, T_size, T_bytes, T_zero, tTy, tSize, tBytes, tZero, fieldOf, faddrV, iaddrV, indexV, extractV, lowI, highI, maxP, sliceV, pickV, pureOp, guardOf, memOp, lenV, loadV, newV, notIn, dataOf, nilD, appD, isSrc, scal, cellsOf, elemsOf, intsOf, strsOf, rowsOf, rowOf, zI, aggsOf, okC, flatB, eqF, eq1, T_eq, tEq, isStr, isB, isI, isA, known, cellAt, arrAt, takeC, dropC, setC, setA, blkAt, fnd, upd, del, mv, elemV, one, Data.len, Data.esz, Data.sub, Lim.add, retP, resV, retQ, rAs, rA, rA0, rAl, ownN, nodup, bares, bare, bare0, bareL, bareD, inRet, flats, flatV, flat1, flat2, guardIs, callP, callS, argS, argC, mAs, mA, mA0, mB0, rowsM, mAl, lowD, allNotIn, nm, impN, impB, impT, packS, delL, Op.operands, Call.operands, List.getD, List.getElem?_cons_zero, List.getElem?_cons_succ, List.getElem?_nil, Option.getD_some, Option.getD_none, List.set, List.map, List.all, List.toList_toArray, List.getElem?_toArray, Option.bind_some, Option.bind_none, Option.map_some, Option.map_none, Option.isSome, exitTo, true_and, and_true, false_and, and_false, and_self, implies_true, reduceIte, imp_self, if_true, if_false, ite_self, eq_self, ne_eq, not_false_eq_true, not_true_eq_false, false_implies, true_implies, forall_const, reduceCtorEq, Bool.false_eq_true, List.take_length, Nat.zero_add, Nat.add_zero, Int.sub_zero, Int.zero_add, Int.add_zero, Int.toNat_natCast, Int.cast_ofNat_Int, Int.reduceToNat, Int.reduceSub, Int.reduceAdd, Nat.le_refl, Int.le_refl, Int.toNat_zero, Int.reduceBNe, Int.reduceBEq, Bool.cond_true_left, Bool.cond_false_right, Bool.cond_true, Bool.cond_false, Option.toArray_some, Option.toArray_none, List.append_toArray, List.cons_append, List.nil_append, List.append_nil, List.size_toArray, List.length_cons, List.length_nil, Nat.reduceAdd, Nat.reduceSub, Nat.reduceMul, Nat.reduceDiv, Nat.reduceEqDiff, Nat.reduceBEq, Nat.reduceLeDiff, Nat.reduceLT, Nat.succ_ne_self, Bool.not_true, Bool.not_false, beq_self_eq_true, List.replicate_succ, List.replicate_zero, Bool.and_true, Bool.true_and, Bool.and_self, Bool.and_false, Bool.false_and, Bool.or_false, Bool.or_true, Bool.false_or, Bool.true_or, SV.sl.injEq, SV.int.injEq, Data.ints.injEq, tl, Int.reduceLT, Int.reduceLE, Int.reduceGT, Int.reduceGE, Int.reduceEq, Int.reduceNe, Int.reduceMul, Int.reduceNeg, decide_true, decide_false, gt_iff_lt, ge_iff_le, hbk']
  refine call_go TO 100 hS Tryd.func13 (by decide +kernel) rfl rfl rfl ?_
  have e1 : IntKind.i64.wrap ((b.length : Int) + 3) = ((b.length + 3 : Nat) : Int) := by rw [w64 (by omega) (by omega)]; omega
  have e2 : IntKind.i64.wrap ((b.length : Int) + 1) = ((b.length + 1 : Nat) : Int) := by rw [w64 (by omega) (by omega)]; omega
  have e3 : IntKind.i64.wrap ((b.length : Int) + 2) = ((b.length + 2 : Nat) : Int) := by rw [w64 (by omega) (by omega)]; omega
  have d4 : decide (((b.length + 3 : Nat) : Int) < ((b.length + 3 : Nat) : Int)) = false := by simp
  have g0 : (b ++ [7, 7, 7])[b.length]?.getD 0 = 7 := by rw [List.getElem?_append_right (Nat.le_refl _), Nat.sub_self]; rfl
  have g1 : (b ++ [7, 7, 7])[b.length + 1]?.getD 0 = 7 := by rw [List.getElem?_append_right (by omega), show b.length + 1 - b.length = 1 by omega]; rfl
  have g2 : (b ++ [7, 7, 7])[b.length + 2]?.getD 0 = 7 := by rw [List.getElem?_append_right (by omega), show b.length + 2 - b.length = 2 by omega]; rfl
  have hget : (s.t.set d (SV.bool true))[d]?.getD SV.any = SV.bool true := by simp [hdl]
  simp only [List.take_succ_cons, List.take_zero, List.drop_succ_cons, List.drop_zero, pureOpC, buildV, fillC, intsP, cntC, arrPV, fieldV, gloadV, GT, unc, capV, sliceC, fitT, isEff, absD, pureStep, subB, svs, blks, AV.sv, absRun, absOps, absOp, evO, constSV, ungd, gdP, gdPs, setD, binI, binV, ptrE, isP, unV, convV, binS, T_ty, T_size, T_bytes, T_zero, tTy, tSize, tBytes, tZero, fieldOf, faddrV, iaddrV, indexV, extractV, lowI, highI, maxP, sliceV, pickV, pureOp, guardOf, memOp, lenV, loadV, newV, notIn, dataOf, nilD, appD, isSrc, scal, cellsOf, elemsOf, intsOf, strsOf, rowsOf, rowOf, zI, aggsOf, okC, flatB, eqF, eq1, T_eq, tEq, isStr, isB, isI, isA, known, cellAt, arrAt, takeC, dropC, setC, setA, blkAt, fnd, upd, del, mv, elemV, one, Data.len, Data.esz, Data.sub, Lim.add, retP, resV, retQ, rAs, rA, rA0, rAl, ownN, nodup, bares, bare, bare0, bareL, bareD, inRet, flats, flatV, flat1, flat2, guardIs, callP, callS, argS, argC, mAs, mA, mA0, mB0, rowsM, mAl, lowD, allNotIn, nm, impN, impB, impT, packS, delL, Op.operands, Call.operands, List.getD, List.getElem?_cons_zero, List.getElem?_cons_succ, List.getElem?_nil, Option.getD_some, Option.getD_none, List.set, List.map, List.all, List.toList_toArray, List.getElem?_toArray, Option.bind_some, Option.bind_none, Option.map_some, Option.map_none, Option.isSome, exitTo, true_and, and_true, false_and, and_false, and_self, implies_true, reduceIte, imp_self, if_true, if_false, ite_self, eq_self, ne_eq, not_false_eq_true, not_true_eq_false, false_implies, true_implies, forall_const, reduceCtorEq, Bool.false_eq_true, List.take_length, Nat.zero_add, Nat.add_zero, Int.sub_zero, Int.zero_add, Int.add_zero, Int.toNat_natCast, Int.cast_ofNat_Int, Int.reduceToNat, Int.reduceSub, Int.reduceAdd, Nat.le_refl, Int.le_refl, Int.toNat_zero, Int.reduceBNe, Int.reduceBEq, Bool.cond_true_left, Bool.cond_false_right, Bool.cond_true, Bool.cond_false, Option.toArray_some, Option.toArray_none, List.append_toArray, List.cons_append, List.nil_append, List.append_nil, List.size_toArray, List.length_cons, List.length_nil, Nat.reduceAdd, Nat.reduceSub, Nat.reduceMul, Nat.reduceDiv, Nat.reduceEqDiff, Nat.reduceBEq, Nat.reduceLeDiff, Nat.reduceLT, Nat.succ_ne_self, Bool.not_true, Bool.not_false, beq_self_eq_true, List.replicate_succ, List.replicate_zero, Bool.and_true, Bool.true_and, Bool.and_self, Bool.and_false, Bool.false_and, Bool.or_false, Bool.or_true, Bool.false_or, Bool.true_or, SV.sl.injEq, SV.int.injEq, Data.ints.injEq, tl, Int.reduceLT, Int.reduceLE, Int.reduceGT, Int.reduceGE, Int.reduceEq, Int.reduceNe, Int.reduceMul, Int.reduceNeg, decide_true, decide_false, gt_iff_lt, ge_iff_le, hbk', ht, hwl, e1, e2, e3, d4, g0, g1, g2, hget]
  repeat refine ⟨by omega, ?_⟩
  exact HOps_go TO 100 h

end Go.Proofs.YtdbndnleniedaaaDoor.Abs
