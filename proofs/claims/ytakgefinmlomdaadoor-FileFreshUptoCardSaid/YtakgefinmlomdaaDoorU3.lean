/- The document's units and Put; the program's Units and Put. -/
import Derived.Test.YtakgefinmlomdaaDoorU2
import Derived.Test.YtakgefinmlomdaaDoorFX
set_option linter.unusedVariables false
set_option linter.unusedSimpArgs false
set_option maxRecDepth 100000
namespace Go.Proofs.YtakgefinmlomdaaDoor.Abs
open Go Go.Proofs

def unitsI (n : Int) : List Int := if n < 65536 then [n] else [55296 + (n - 65536) / 1024, 56320 + (n - 65536) % 1024]
def uB (n : Int) : List Int := if n < 65536 then [n % 256, n / 256] else [(55296 + (n - 65536) / 1024) % 256, (55296 + (n - 65536) / 1024) / 256, (56320 + (n - 65536) % 1024) % 256, (56320 + (n - 65536) % 1024) / 256]
def utfL (s : ByteArray) : List Int := if allAt s 0 = true then (letAt s 0).flatMap uB else []
def utfE (s : ByteArray) : Int := if allAt s 0 = true then 0 else 5

theorem letAt_mem (s : ByteArray) : ∀ (n p : Nat), s.size - p ≤ n → allAt s p = true → ∀ x ∈ letAt s p, 0 ≤ x ∧ x ≤ 1114111
  | 0, p, h, _, x, hx => by rw [letAt_end s p (by omega)] at hx; simp at hx
  | n + 1, p, h, ha, x, hx => by
    by_cases hp : p < s.size
    · have h1 := dec_width s p hp
      rw [allAt_step s p hp, Bool.and_eq_true] at ha
      have hb : badP s p = false := by simpa using ha.1
      rw [letAt_step s p hp, hb, List.mem_cons] at hx
      rcases hx with rfl | hx
      · have := dec_lt s p
        rw [if_neg (by simp)]; omega
      · exact letAt_mem s n _ (by omega) ha.2 x hx
    · rw [letAt_end s p hp] at hx; simp at hx

theorem units_meets (n : Int) (hn : 0 ≤ n ∧ n ≤ 1114111) : Meets Tryd.prog 75 [.v (.int .i64 n)] [.own (.ints .i64 (unitsI n))] := by
  refine meets_go TO 100 Tryd.func75 rfl (fun X => ?_)
  simp only [Tryd.ntmps75, Tryd.results75, pureOpC, unc, svs, blks, AV.sv, absRun, absOps, absOp, evO, constSV, ungd, gdP, gdPs, setD, binI, binV, ptrE, T_ty, T_size, tTy, tSize, pureOp, memOp, newV, notIn, elemsOf, intsOf, blkAt, fnd, upd, Data.len, Data.esz, Lim.add, retP, resV, retQ, rAs, rA, ownN, nodup, bares, bare, bareD, Op.operands, List.getD, List.getElem?_cons_zero, List.getElem?_cons_succ, Option.getD_some, List.set, List.map, List.toList_toArray, Option.map_some, true_and, and_true, and_self, if_true, eq_self, ne_eq, not_false_eq_true, Nat.zero_add, List.cons_append, List.nil_append, List.length_cons, List.length_nil, Nat.reduceAdd, Nat.reduceSub, Nat.reduceLeDiff, List.replicate_succ, List.replicate_zero, Bool.and_self, Data.ints.injEq, Int.reduceEq]
  unfold unitsI
  by_cases h : n < 65536
  · rw [if_pos h, decide_eq_true h]; simp
  · rw [if_neg h, decide_eq_false h]
    have e1 : IntKind.i64.wrap (n - 65536) = n - 65536 := w64 (by omega) (by omega)
    have e2 : quoI .i64 (n - 65536) 1024 = (n - 65536) / 1024 := by unfold quoI; rw [Int.tdiv_eq_ediv_of_nonneg (by omega), w64 (by omega) (by omega)]
    have e3 : remI (n - 65536) 1024 = (n - 65536) % 1024 := by unfold remI; rw [Int.tmod_eq_emod_of_nonneg (by omega)]
    simp only [and_true, and_false, if_false, eq_self, Bool.false_eq_true, Nat.zero_add, List.length_cons, List.length_nil, Nat.reduceAdd, Nat.reduceEqDiff, e1, e2, e3]
    rw [w64 (by omega) (by omega), w64 (by omega) (by omega)]

theorem uB_len (n : Int) : (uB n).length ≤ 4 := by unfold uB; split <;> simp

theorem put_len (l : List Int) : (l.flatMap uB).length ≤ l.length * 4 := by
  induction l with
  | nil => simp
  | cons x l ih =>
    have := uB_len x
    simp only [List.flatMap_cons, List.length_append, List.length_cons]
    omega

set_option maxHeartbeats 4000000 in
theorem r2Put_meets (s : ByteArray) (hs : s.size ≤ 1099511627776) : Meets Tryd.prog 62 [.v (.str s)] [.own (.ints .u8 (utfL s)), .v (.int .i64 (utfE s))] := by
  have hL := Letters_meets s (by omega)
  have hm := letAt_mem s s.size 0 (by omega)
  have hll := letAt_len s s.size 0 (by omega)
  refine meets_go TO 100 Tryd.func62 rfl (fun X => ?_)
  simp only [Tryd.ntmps62, Tryd.results62, pureOpC, svs, blks, AV.sv, absRun, absOps, absOp, evO, constSV, ungd, gdP, gdPs, setD, pureOp, memOp, Op.operands, List.getD, List.getElem?_cons_zero, Option.getD_some, List.set, List.toList_toArray, true_and, and_self, Nat.zero_add, List.cons_append, List.nil_append, List.length_cons, List.length_nil, Nat.reduceAdd, Nat.reduceSub, List.replicate_succ, List.replicate_zero]
  refine call_go TO 100 hL Tryd.func74 (by decide +kernel) rfl rfl rfl ?_
  simp only [pureOpC, unc, absRun, absOps, absOp, evO, constSV, ungd, gdP, gdPs, setD, unV, extractV, pureOp, notIn, upd, Data.len, Data.esz, retP, resV, retQ, rAs, rA, rA0, ownN, nodup, bares, bare, bare0, bareD, guardIs, callP, callS, argS, mAs, mA, mA0, mB0, allNotIn, nm, impN, impB, impT, packS, delL, Op.operands, List.getD, List.getElem?_cons_zero, List.getElem?_cons_succ, Option.getD_some, List.set, List.map, List.toList_toArray, true_and, and_true, and_self, eq_self, Nat.zero_add, Nat.add_zero, List.append_nil, Nat.reduceAdd, Nat.reduceMul, Bool.and_self]
  unfold utfL utfE
  by_cases ha : allAt s 0 = true
  rotate_left
  · have : allAt s 0 = false := by simpa using ha
    simp [this]
  simp only [ha, and_false, if_true, if_false, eq_self, Bool.false_eq_true, Bool.not_true, Int.reduceEq]
  have hm := hm ha
  generalize letAt s 0 = l at *
  refine nil_go 6 48 (.ints .u8 []) rfl ⟨by simp, rfl⟩ ?_
  simp only [upd, Data.esz, List.set, if_false, Nat.reduceAdd, Nat.reduceEqDiff]
  refine loop_up (fun x : Nat × Nat × Nat => x.1 ≤ l.length)
    (fun x => ⟨tl 50 0 [(4, .sl 10192 3 0 1 0 l.length), (6, .sl 48 x.2.1 0 1 0 ((l.take x.1).flatMap uB).length), (7, .int .i64 x.1)], [(10192, 3, .vec (.ints .i64 l)), (48, x.2.1, .vec (.ints .u8 ((l.take x.1).flatMap uB)))], ⟨x.2.2, [], 0⟩⟩) (fun x => l.length - x.1) (0, 7, 9) (Nat.zero_le _) ⟨rfl, ?_, ?_⟩ ?_
  · simp [LeT, tl]
  · intro m x hx
    simpa [fnd] using hx
  rintro ⟨i, g, c⟩ hi ih
  simp only at hi
  refine absRun_ok TO 100 _ _ ?_
  simp only [pureOpC, unc, absRun, absOps, absOp, evO, constSV, ungd, gdP, gdPs, setD, binI, binV, ptrE, T_ty, T_size, tTy, tSize, iaddrV, pureOp, memOp, lenV, loadV, notIn, blkAt, fnd, elemV, Data.len, Data.esz, retP, resV, retQ, rAs, rA, rA0, ownN, nodup, bares, bare, bare0, bareD, Op.operands, Call.operands, List.getD, List.getElem?_cons_zero, List.getElem?_cons_succ, Option.getD_some, List.set, List.map, List.toList_toArray, exitTo, true_and, and_true, and_self, if_true, if_false, eq_self, ne_eq, not_false_eq_true, Nat.zero_add, Int.toNat_natCast, Nat.le_refl, List.append_toArray, List.cons_append, List.nil_append, Nat.reduceAdd, Nat.reduceSub, Nat.reduceEqDiff, Nat.succ_ne_self, beq_self_eq_true, List.replicate_succ, List.replicate_zero, Bool.and_self, Data.ints.injEq, tl]
  by_cases hil : i < l.length
  rotate_left
  · rw [if_neg (by rw [decide_eq_true_eq]; omega)]
    have : i = l.length := by omega
    subst this
    rw [List.take_length]
    exact ⟨rfl, rfl⟩
  rw [if_pos (decide_eq_true (by omega))]
  have hn := hm (l[i]?.getD 0) (by rw [List.getElem?_eq_getElem hil]; exact List.getElem_mem hil)
  have htk : (l.take (i + 1)).flatMap uB = (l.take i).flatMap uB ++ uB (l[i]?.getD 0) := by
    rw [List.take_add_one, List.flatMap_append, List.getElem?_eq_getElem hil]; simp
  have hpl := put_len (l.take i)
  have hpt : (l.take i).length ≤ l.length := by rw [List.length_take]; omega
  have hU := units_meets _ hn
  generalize l[i]?.getD 0 = n at *
  refine ⟨⟨by omega, by omega⟩, ?_⟩
  refine call_go TO 100 hU Tryd.func75 (by decide +kernel) rfl rfl rfl ?_
  by_cases h6 : n < 65536
  · have eU : uB n = [n % 256, n / 256] := by unfold uB; rw [if_pos h6]
    have eV : unitsI n = [n] := by unfold unitsI; rw [if_pos h6]
    rw [eU] at htk
    rw [eV]
    have r1 : IntKind.u8.wrap (remI n 256) = n % 256 := by unfold remI; rw [Int.tmod_eq_emod_of_nonneg (by omega), wu8]; omega
    have r2 : IntKind.u8.wrap (quoI .i64 n 256) = n / 256 := by unfold quoI; rw [Int.tdiv_eq_ediv_of_nonneg (by omega), w64 (by omega) (by omega), wu8]; omega
    have k1 : IntKind.i64.wrap 1 = 1 := by decide
    simp only [pureOpC, unc, absRun, absOps, absOp, evO, constSV, ungd, gdP, gdPs, setD, notIn, upd, Data.len, Data.esz, ownN, nodup, bares, bare, bareD, guardIs, callP, callS, argS, mAs, mA, mA0, mB0, allNotIn, nm, impN, impB, impT, packS, delL, Op.operands, List.getD, List.getElem?_cons_zero, List.getElem?_cons_succ, Option.getD_some, List.set, List.map, List.toList_toArray, true_and, and_self, if_false, eq_self, Nat.zero_add, Nat.add_zero, List.append_nil, List.length_cons, List.length_nil, Nat.reduceAdd, Nat.reduceMul, Nat.reduceEqDiff, Bool.and_self]
    refine loop_in (absRun_ok TO 100 _ _ ?_)
    simp only [pureOpC, unc, absRun, absOps, absOp, evO, constSV, ungd, gdP, gdPs, setD, binI, binV, ptrE, T_ty, tTy, pureOp, lenV, blkAt, fnd, Op.operands, Call.operands, List.getD, List.getElem?_cons_zero, List.getElem?_cons_succ, Option.getD_some, List.set, List.toList_toArray, exitTo, true_and, and_self, if_true, if_false, eq_self, Bool.false_eq_true, Int.cast_ofNat_Int, List.append_toArray, List.nil_append, Nat.reduceEqDiff, Nat.reduceBEq, beq_self_eq_true, Int.reduceLT, decide_true]
    refine draw_go TO 14 100 mixed_ok (by decide +kernel) ?_
    simp only [List.take_succ_cons, List.take_zero, List.drop_succ_cons, List.drop_zero, pureOpC, unc, fitT, isEff, absD, pureStep, subB, absRun, absOps, absOp, evO, constSV, ungd, gdP, gdPs, setD, binI, binV, ptrE, convV, binS, T_ty, T_size, T_bytes, T_zero, tTy, tSize, tBytes, tZero, iaddrV, pureOp, memOp, loadV, newV, notIn, dataOf, nilD, appD, isSrc, elemsOf, intsOf, zI, known, blkAt, fnd, upd, del, mv, elemV, Data.len, Data.esz, Data.sub, Lim.add, Op.operands, Call.operands, List.getD, List.getElem?_cons_zero, List.getElem?_cons_succ, Option.getD_some, List.set, List.map, List.toList_toArray, Option.map_some, true_and, and_true, and_self, implies_true, imp_self, if_true, if_false, eq_self, ne_eq, not_false_eq_true, forall_const, reduceCtorEq, Nat.zero_add, Nat.add_zero, Int.zero_add, Int.cast_ofNat_Int, Nat.le_refl, Int.le_refl, Int.toNat_zero, List.append_toArray, List.nil_append, List.length_cons, List.length_nil, Nat.reduceAdd, Nat.reduceEqDiff, Nat.reduceLeDiff, Nat.succ_ne_self, Int.reduceLT, Int.reduceEq, r1, r2, k1]
    refine ⟨⟨by omega, by omega⟩, ?_⟩
    refine loop_more (absRun_ok TO 100 _ _ ?_)
    simp only [pureOpC, unc, absRun, absOps, absOp, evO, constSV, ungd, gdP, gdPs, setD, binI, binV, ptrE, T_ty, tTy, pureOp, lenV, blkAt, fnd, Op.operands, Call.operands, List.getD, List.getElem?_cons_zero, List.getElem?_cons_succ, Option.getD_some, List.set, List.toList_toArray, exitTo, true_and, and_self, if_true, if_false, eq_self, Bool.false_eq_true, Int.cast_ofNat_Int, List.append_toArray, List.nil_append, Nat.reduceEqDiff, Nat.reduceBEq, beq_self_eq_true, Int.reduceLT, decide_false]
    rw [w64 (by omega) (by omega)]
    refine ih (i + 1, c + 1 + 1 + 1 + 1 + 1, _) _ hil (by simp only; omega) rfl ?_ ?_
    · rw [← htk]; simp [LeT, tl]
    · intro m x hx
      simp only [fnd] at hx ⊢
      split at hx
      · rename_i e; subst e; simpa using hx
      split at hx
      · rename_i e; subst e; simpa [htk] using hx
      cases hx
  · have eU : uB n = [(55296 + (n - 65536) / 1024) % 256, (55296 + (n - 65536) / 1024) / 256, (56320 + (n - 65536) % 1024) % 256, (56320 + (n - 65536) % 1024) / 256] := by unfold uB; rw [if_neg h6]
    have eV : unitsI n = [55296 + (n - 65536) / 1024, 56320 + (n - 65536) % 1024] := by unfold unitsI; rw [if_neg h6]
    rw [eU] at htk
    rw [eV]
    obtain ⟨u, hu⟩ : ∃ u, u = 55296 + (n - 65536) / 1024 := ⟨_, rfl⟩
    obtain ⟨v, hv⟩ : ∃ v, v = 56320 + (n - 65536) % 1024 := ⟨_, rfl⟩
    rw [← hu, ← hv] at htk ⊢
    have r1 : IntKind.u8.wrap (remI u 256) = u % 256 := by unfold remI; rw [Int.tmod_eq_emod_of_nonneg (by omega), wu8]; omega
    have r2 : IntKind.u8.wrap (quoI .i64 u 256) = u / 256 := by unfold quoI; rw [Int.tdiv_eq_ediv_of_nonneg (by omega), w64 (by omega) (by omega), wu8]; omega
    have r3 : IntKind.u8.wrap (remI v 256) = v % 256 := by unfold remI; rw [Int.tmod_eq_emod_of_nonneg (by omega), wu8]; omega
    have r4 : IntKind.u8.wrap (quoI .i64 v 256) = v / 256 := by unfold quoI; rw [Int.tdiv_eq_ediv_of_nonneg (by omega), w64 (by omega) (by omega), wu8]; omega
    have k1 : IntKind.i64.wrap 1 = 1 := by decide
    have k2 : IntKind.i64.wrap 2 = 2 := by decide
    have n1 : Int.toNat 1 = 1 := rfl
    simp only [pureOpC, unc, absRun, absOps, absOp, evO, constSV, ungd, gdP, gdPs, setD, notIn, upd, Data.len, Data.esz, ownN, nodup, bares, bare, bareD, guardIs, callP, callS, argS, mAs, mA, mA0, mB0, allNotIn, nm, impN, impB, impT, packS, delL, Op.operands, List.getD, List.getElem?_cons_zero, List.getElem?_cons_succ, Option.getD_some, List.set, List.map, List.toList_toArray, true_and, and_self, if_false, eq_self, Nat.zero_add, Nat.add_zero, List.append_nil, List.length_cons, List.length_nil, Nat.reduceAdd, Nat.reduceMul, Nat.reduceEqDiff, Bool.and_self]
    refine loop_in (absRun_ok TO 100 _ _ ?_)
    simp only [pureOpC, unc, absRun, absOps, absOp, evO, constSV, ungd, gdP, gdPs, setD, binI, binV, ptrE, T_ty, tTy, pureOp, lenV, blkAt, fnd, Op.operands, Call.operands, List.getD, List.getElem?_cons_zero, List.getElem?_cons_succ, Option.getD_some, List.set, List.toList_toArray, exitTo, true_and, and_self, if_true, if_false, eq_self, Bool.false_eq_true, Int.cast_ofNat_Int, List.append_toArray, List.nil_append, Nat.reduceEqDiff, Nat.reduceBEq, beq_self_eq_true, Int.reduceLT, decide_true]
    refine draw_go TO 14 100 mixed_ok (by decide +kernel) ?_
    simp only [List.take_succ_cons, List.take_zero, List.drop_succ_cons, List.drop_zero, pureOpC, unc, fitT, isEff, absD, pureStep, subB, absRun, absOps, absOp, evO, constSV, ungd, gdP, gdPs, setD, binI, binV, ptrE, convV, binS, T_ty, T_size, T_bytes, T_zero, tTy, tSize, tBytes, tZero, iaddrV, pureOp, memOp, loadV, newV, notIn, dataOf, nilD, appD, isSrc, elemsOf, intsOf, zI, known, blkAt, fnd, upd, del, mv, elemV, Data.len, Data.esz, Data.sub, Lim.add, Op.operands, Call.operands, List.getD, List.getElem?_cons_zero, List.getElem?_cons_succ, Option.getD_some, List.set, List.map, List.toList_toArray, Option.map_some, true_and, and_true, and_self, implies_true, imp_self, if_true, if_false, eq_self, ne_eq, not_false_eq_true, forall_const, reduceCtorEq, Nat.zero_add, Nat.add_zero, Int.zero_add, Int.cast_ofNat_Int, Nat.le_refl, Int.le_refl, Int.toNat_zero, List.append_toArray, List.nil_append, List.length_cons, List.length_nil, Nat.reduceAdd, Nat.reduceEqDiff, Nat.reduceLeDiff, Nat.succ_ne_self, Int.reduceLT, Int.reduceEq, r1, r2, k1]
    refine ⟨⟨by omega, by omega⟩, ?_⟩
    refine HRun.dropB (b := [(10192, 3, .vec (.ints .i64 l)), (10432, c + 1 + 1, .vec (.ints .i64 [u, v])), (48, c + 1 + 1 + 1 + 1 + 1, .vec (.ints .u8 ((l.take i).flatMap uB ++ [u % 256, u / 256])))]) ?_ ?_
    · intro m x hx
      simp only [fnd] at hx ⊢
      split at hx
      · rename_i e; subst e; simpa using hx
      split at hx
      · rename_i e; subst e; simpa using hx
      split at hx
      · rename_i e; subst e; simpa using hx
      cases hx
    refine loop_more (absRun_ok TO 100 _ _ ?_)
    simp only [pureOpC, unc, absRun, absOps, absOp, evO, constSV, ungd, gdP, gdPs, setD, binI, binV, ptrE, T_ty, tTy, pureOp, lenV, blkAt, fnd, Op.operands, Call.operands, List.getD, List.getElem?_cons_zero, List.getElem?_cons_succ, Option.getD_some, List.set, List.toList_toArray, exitTo, true_and, and_self, if_true, if_false, eq_self, Bool.false_eq_true, Int.cast_ofNat_Int, List.append_toArray, List.nil_append, Nat.reduceEqDiff, Nat.reduceBEq, beq_self_eq_true, Int.reduceLT, decide_true]
    refine draw_go TO 14 100 mixed_ok (by decide +kernel) ?_
    simp only [List.take_succ_cons, List.take_zero, List.drop_succ_cons, List.drop_zero, pureOpC, unc, fitT, isEff, absD, pureStep, subB, absRun, absOps, absOp, evO, constSV, ungd, gdP, gdPs, setD, binI, binV, ptrE, convV, binS, T_ty, T_size, T_bytes, T_zero, tTy, tSize, tBytes, tZero, iaddrV, pureOp, memOp, loadV, newV, notIn, dataOf, nilD, appD, isSrc, elemsOf, intsOf, zI, known, blkAt, fnd, upd, del, mv, elemV, Data.len, Data.esz, Data.sub, Lim.add, Op.operands, Call.operands, List.getD, List.getElem?_cons_zero, List.getElem?_cons_succ, Option.getD_some, List.set, List.map, List.toList_toArray, Option.map_some, true_and, and_true, and_self, implies_true, imp_self, if_true, if_false, eq_self, ne_eq, not_false_eq_true, forall_const, reduceCtorEq, Nat.zero_add, Int.cast_ofNat_Int, Int.reduceAdd, Nat.le_refl, List.append_toArray, List.nil_append, List.length_cons, List.length_nil, Nat.reduceAdd, Nat.reduceEqDiff, Nat.reduceLeDiff, Nat.succ_ne_self, Int.reduceLT, Int.reduceLE, Int.reduceEq, r3, r4, k2, n1]
    rw [List.length_append]
    refine ⟨⟨by simp only [List.length_cons, List.length_nil]; omega, by simp only [List.length_cons, List.length_nil]; omega⟩, ?_⟩
    refine loop_more (absRun_ok TO 100 _ _ ?_)
    simp only [pureOpC, unc, absRun, absOps, absOp, evO, constSV, ungd, gdP, gdPs, setD, binI, binV, ptrE, T_ty, tTy, pureOp, lenV, blkAt, fnd, Op.operands, Call.operands, List.getD, List.getElem?_cons_zero, List.getElem?_cons_succ, Option.getD_some, List.set, List.toList_toArray, exitTo, true_and, and_self, if_true, if_false, eq_self, Bool.false_eq_true, Nat.zero_add, Int.cast_ofNat_Int, List.append_toArray, List.nil_append, List.length_cons, List.length_nil, Nat.reduceAdd, Nat.reduceEqDiff, Nat.reduceBEq, beq_self_eq_true, Int.reduceLT, decide_false]
    rw [w64 (by omega) (by omega)]
    rw [List.append_assoc] at *
    refine ih (i + 1, c + 1 + 1 + 1 + 1 + 1 + 1 + 1 + 1, _) _ hil (by simp only; omega) rfl ?_ ?_
    · rw [show (l.take (i + 1)).flatMap uB = (l.take i).flatMap uB ++ ([u % 256, u / 256] ++ [v % 256, v / 256]) from htk]; simp [LeT, tl]
    · intro m x hx
      simp only [fnd] at hx ⊢
      split at hx
      · rename_i e; subst e; simpa using hx
      split at hx
      · rename_i e; subst e; simpa [htk] using hx
      cases hx

end Go.Proofs.YtakgefinmlomdaaDoor.Abs
