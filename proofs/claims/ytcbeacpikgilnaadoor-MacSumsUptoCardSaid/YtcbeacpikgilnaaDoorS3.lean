/- What the document's constants of SHA-256 are. -/
import Derived.Test.YtcbeacpikgilnaaDoorS2
import Derived.Test.YtcbeacpikgilnaaDoorA24
set_option linter.unusedVariables false
set_option linter.unusedSimpArgs false
set_option maxRecDepth 100000
namespace Go.Proofs.YtcbeacpikgilnaaDoor.Abs
open Go Go.Proofs

def lo32 (x : Int) : Int := bitsI .and .u64 x 4294967295
def hi32 (x : Int) : Int := shrI .u64 x 32
def mul64 (x y : Int) : Int := IntKind.u64.wrap (x * y)
def add64 (x y : Int) : Int := IntKind.u64.wrap (x + y)

/-- Is a number to the third power above a prime? -/
def aboveB (x p : Int) : Bool :=
  let a1 := hi32 x
  let a0 := lo32 x
  let s0 := mul64 a0 a0
  let s1 := add64 (mul64 (mul64 2 a1) a0) (hi32 s0)
  let s2 := add64 (mul64 a1 a1) (hi32 s1)
  let lo := lo32 s0
  let mid := lo32 s1
  let t0 := mul64 lo a0
  let t1 := add64 (mul64 lo a1) (hi32 t0)
  let u1 := add64 (mul64 mid a0) (lo32 t1)
  let t2 := add64 (add64 (mul64 mid a1) (hi32 t1)) (hi32 u1)
  let v2 := add64 (mul64 s2 a0) (lo32 t2)
  let t3 := add64 (add64 (mul64 s2 a1) (hi32 t2)) (hi32 v2)
  decide (t3 ≥ p)

theorem above_meets (x p : Int) : Meets Tryd.prog 50 [.v (.int .u64 x), .v (.int .u64 p)] [.v (.bool (aboveB x p))] := by
  refine meets_go TO 100 Tryd.func50 rfl (fun X => ?_)
  simp only [Tryd.ntmps50, Tryd.results50, List.take_succ_cons, List.take_zero, List.drop_succ_cons, List.drop_zero, pureOpC, buildV, fillC, intsP, cntC, arrPV, fieldV, gloadV, GT, unc, capV, sliceC, fitT, isEff, absD, pureStep, subB, svs, blks, AV.sv, absRun, absOps, absOp, evO, constSV, ungd, gdP, gdPs, setD, binI, binV, unV, convV, binS, T_ty, T_size, T_bytes, T_zero, tTy, tSize, tBytes, tZero, fieldOf, faddrV, iaddrV, indexV, extractV, lowI, highI, maxP, sliceV, pickV, pureOp, guardOf, memOp, lenV, loadV, newV, notIn, dataOf, nilD, appD, isSrc, scal, cellsOf, elemsOf, intsOf, strsOf, rowsOf, rowOf, zI, isStr, isB, isI, isA, known, cellAt, arrAt, takeC, dropC, setC, setA, blkAt, fnd, upd, del, mv, elemV, one, Data.len, Data.esz, Data.sub, Lim.add, retP, resV, retQ, rAs, rA, rA0, rAl, ownN, nodup, bares, bare, bare0, bareL, bareD, inRet, flats, flatV, flat1, flat2, guardIs, callP, callS, argS, argC, mAs, mA, mA0, mB0, rowsM, mAl, lowD, allNotIn, nm, impN, impB, impT, packS, delL, Op.operands, Call.operands, List.getD, List.getElem?_cons_zero, List.getElem?_cons_succ, List.getElem?_nil, Option.getD_some, Option.getD_none, List.set, List.map, List.all, List.toList_toArray, List.getElem?_toArray, Option.bind_some, Option.bind_none, Option.map_some, Option.map_none, Option.isSome, exitTo, true_and, and_true, false_and, and_false, and_self, implies_true, reduceIte, imp_self, if_true, if_false, ite_self, eq_self, ne_eq, not_false_eq_true, not_true_eq_false, false_implies, true_implies, forall_const, reduceCtorEq, Bool.false_eq_true, List.take_length, Nat.zero_add, Nat.add_zero, Int.sub_zero, Int.zero_add, Int.add_zero, Int.toNat_natCast, Int.cast_ofNat_Int, Int.reduceToNat, Int.reduceSub, Int.reduceAdd, Nat.le_refl, Int.le_refl, Int.toNat_zero, Int.reduceBNe, Int.reduceBEq, Bool.cond_true_left, Bool.cond_false_right, Bool.cond_true, Bool.cond_false, Option.toArray_some, Option.toArray_none, List.append_toArray, List.cons_append, List.nil_append, List.append_nil, List.size_toArray, List.length_cons, List.length_nil, Nat.reduceAdd, Nat.reduceSub, Nat.reduceMul, Nat.reduceDiv, Nat.reduceEqDiff, Nat.reduceBEq, Nat.reduceLeDiff, Nat.reduceLT, Nat.succ_ne_self, Bool.not_true, Bool.not_false, beq_self_eq_true, List.replicate_succ, List.replicate_zero, Bool.and_true, Bool.true_and, Bool.and_self, Bool.and_false, Bool.false_and, Bool.or_false, Bool.or_true, Bool.false_or, Bool.true_or, SV.sl.injEq, SV.int.injEq, Data.ints.injEq]
  repeat refine ⟨by omega, ?_⟩
  rfl

def bitL (k : Nat) : Int := if k ≤ 35 then 2 ^ (35 - k) else 0
def consX (p : Int) : Nat → Int
  | 0 => 0
  | k + 1 => if !aboveB (add64 (consX p k) (bitL k)) p then add64 (consX p k) (bitL k) else consX p k
/-- The constant of a prime. -/
def consL (p : Int) : Int := IntKind.u32.wrap (consX p 36)

theorem bitL_quo (k : Nat) (h : k < 36) : quoI .u64 (bitL k) 2 = bitL (k + 1) := by
  have : ∀ k : Fin 36, quoI .u64 (bitL k.val) 2 = bitL (k.val + 1) := by decide +kernel
  exact this ⟨k, h⟩
theorem bitL_pos (k : Nat) (h : k < 36) : 0 < bitL k := by
  unfold bitL; rw [if_pos (by omega)]; exact Int.pow_pos (by decide)

theorem constant_meets (p : Int) : Meets Tryd.prog 44 [.v (.int .u64 p)] [.v (.int .u32 (consL p))] := by
  refine meets_go TO 100 Tryd.func44 rfl (fun X => ?_)
  simp only [Tryd.ntmps44, Tryd.results44, List.take_succ_cons, List.take_zero, List.drop_succ_cons, List.drop_zero, pureOpC, buildV, fillC, intsP, cntC, arrPV, fieldV, gloadV, GT, unc, capV, sliceC, fitT, isEff, absD, pureStep, subB, svs, blks, AV.sv, absRun, absOps, absOp, evO, constSV, ungd, gdP, gdPs, setD, binI, binV, unV, convV, binS, T_ty, T_size, T_bytes, T_zero, tTy, tSize, tBytes, tZero, fieldOf, faddrV, iaddrV, indexV, extractV, lowI, highI, maxP, sliceV, pickV, pureOp, guardOf, memOp, lenV, loadV, newV, notIn, dataOf, nilD, appD, isSrc, scal, cellsOf, elemsOf, intsOf, strsOf, rowsOf, rowOf, zI, isStr, isB, isI, isA, known, cellAt, arrAt, takeC, dropC, setC, setA, blkAt, fnd, upd, del, mv, elemV, one, Data.len, Data.esz, Data.sub, Lim.add, retP, resV, retQ, rAs, rA, rA0, rAl, ownN, nodup, bares, bare, bare0, bareL, bareD, inRet, flats, flatV, flat1, flat2, guardIs, callP, callS, argS, argC, mAs, mA, mA0, mB0, rowsM, mAl, lowD, allNotIn, nm, impN, impB, impT, packS, delL, Op.operands, Call.operands, List.getD, List.getElem?_cons_zero, List.getElem?_cons_succ, List.getElem?_nil, Option.getD_some, Option.getD_none, List.set, List.map, List.all, List.toList_toArray, List.getElem?_toArray, Option.bind_some, Option.bind_none, Option.map_some, Option.map_none, Option.isSome, exitTo, true_and, and_true, false_and, and_false, and_self, implies_true, reduceIte, imp_self, if_true, if_false, ite_self, eq_self, ne_eq, not_false_eq_true, not_true_eq_false, false_implies, true_implies, forall_const, reduceCtorEq, Bool.false_eq_true, List.take_length, Nat.zero_add, Nat.add_zero, Int.sub_zero, Int.zero_add, Int.add_zero, Int.toNat_natCast, Int.cast_ofNat_Int, Int.reduceToNat, Int.reduceSub, Int.reduceAdd, Nat.le_refl, Int.le_refl, Int.toNat_zero, Int.reduceBNe, Int.reduceBEq, Bool.cond_true_left, Bool.cond_false_right, Bool.cond_true, Bool.cond_false, Option.toArray_some, Option.toArray_none, List.append_toArray, List.cons_append, List.nil_append, List.append_nil, List.size_toArray, List.length_cons, List.length_nil, Nat.reduceAdd, Nat.reduceSub, Nat.reduceMul, Nat.reduceDiv, Nat.reduceEqDiff, Nat.reduceBEq, Nat.reduceLeDiff, Nat.reduceLT, Nat.succ_ne_self, Bool.not_true, Bool.not_false, beq_self_eq_true, List.replicate_succ, List.replicate_zero, Bool.and_true, Bool.true_and, Bool.and_self, Bool.and_false, Bool.false_and, Bool.or_false, Bool.or_true, Bool.false_or, Bool.true_or, SV.sl.injEq, SV.int.injEq, Data.ints.injEq, tl, Int.reduceLT, Int.reduceLE, Int.reduceGT, Int.reduceGE, Int.reduceEq, Int.reduceNe, Int.reduceMul, Int.reduceNeg, decide_true, decide_false, gt_iff_lt, ge_iff_le]
  refine loop_go (fun x : Nat × Nat => x.1 ≤ 36) (fun x => ⟨tl 20 0 [(0, .int .u64 p), (3, .int .u64 (consX p x.1)), (4, .int .u64 (bitL x.1))], [], ⟨x.2, [], 0⟩⟩) (fun x => 36 - x.1) (0, _) (Nat.zero_le _) ⟨rfl, ?_, ?_⟩ ?_
  · simp [tl, LeT, consX, bitL]
  · intro n x hx; simp [fnd] at hx
  · rintro ⟨k, c⟩ hk ih
    have hk : k ≤ 36 := hk
    refine absRun_ok TO 100 _ _ ?_
    simp only [List.take_succ_cons, List.take_zero, List.drop_succ_cons, List.drop_zero, pureOpC, buildV, fillC, intsP, cntC, arrPV, fieldV, gloadV, GT, unc, capV, sliceC, fitT, isEff, absD, pureStep, subB, svs, blks, AV.sv, absRun, absOps, absOp, evO, constSV, ungd, gdP, gdPs, setD, binI, binV, unV, convV, binS, T_ty, T_size, T_bytes, T_zero, tTy, tSize, tBytes, tZero, fieldOf, faddrV, iaddrV, indexV, extractV, lowI, highI, maxP, sliceV, pickV, pureOp, guardOf, memOp, lenV, loadV, newV, notIn, dataOf, nilD, appD, isSrc, scal, cellsOf, elemsOf, intsOf, strsOf, rowsOf, rowOf, zI, isStr, isB, isI, isA, known, cellAt, arrAt, takeC, dropC, setC, setA, blkAt, fnd, upd, del, mv, elemV, one, Data.len, Data.esz, Data.sub, Lim.add, retP, resV, retQ, rAs, rA, rA0, rAl, ownN, nodup, bares, bare, bare0, bareL, bareD, inRet, flats, flatV, flat1, flat2, guardIs, callP, callS, argS, argC, mAs, mA, mA0, mB0, rowsM, mAl, lowD, allNotIn, nm, impN, impB, impT, packS, delL, Op.operands, Call.operands, List.getD, List.getElem?_cons_zero, List.getElem?_cons_succ, List.getElem?_nil, Option.getD_some, Option.getD_none, List.set, List.map, List.all, List.toList_toArray, List.getElem?_toArray, Option.bind_some, Option.bind_none, Option.map_some, Option.map_none, Option.isSome, exitTo, true_and, and_true, false_and, and_false, and_self, implies_true, reduceIte, imp_self, if_true, if_false, ite_self, eq_self, ne_eq, not_false_eq_true, not_true_eq_false, false_implies, true_implies, forall_const, reduceCtorEq, Bool.false_eq_true, List.take_length, Nat.zero_add, Nat.add_zero, Int.sub_zero, Int.zero_add, Int.add_zero, Int.toNat_natCast, Int.cast_ofNat_Int, Int.reduceToNat, Int.reduceSub, Int.reduceAdd, Nat.le_refl, Int.le_refl, Int.toNat_zero, Int.reduceBNe, Int.reduceBEq, Bool.cond_true_left, Bool.cond_false_right, Bool.cond_true, Bool.cond_false, Option.toArray_some, Option.toArray_none, List.append_toArray, List.cons_append, List.nil_append, List.append_nil, List.size_toArray, List.length_cons, List.length_nil, Nat.reduceAdd, Nat.reduceSub, Nat.reduceMul, Nat.reduceDiv, Nat.reduceEqDiff, Nat.reduceBEq, Nat.reduceLeDiff, Nat.reduceLT, Nat.succ_ne_self, Bool.not_true, Bool.not_false, beq_self_eq_true, List.replicate_succ, List.replicate_zero, Bool.and_true, Bool.true_and, Bool.and_self, Bool.and_false, Bool.false_and, Bool.or_false, Bool.or_true, Bool.false_or, Bool.true_or, SV.sl.injEq, SV.int.injEq, Data.ints.injEq, tl, Int.reduceLT, Int.reduceLE, Int.reduceGT, Int.reduceGE, Int.reduceEq, Int.reduceNe, Int.reduceMul, Int.reduceNeg, decide_true, decide_false, gt_iff_lt, ge_iff_le]
    split
    · rename_i hc
      have hk' : k < 36 := by
        rcases Nat.lt_or_ge k 36 with h | h
        · exact h
        · obtain rfl : k = 36 := by omega
          simp [bitL] at hc
      refine call_go TO 100 (above_meets (add64 (consX p k) (bitL k)) p) Tryd.func50 (by decide +kernel) rfl rfl rfl ?_
      simp only [List.take_succ_cons, List.take_zero, List.drop_succ_cons, List.drop_zero, pureOpC, buildV, fillC, intsP, cntC, arrPV, fieldV, gloadV, GT, unc, capV, sliceC, fitT, isEff, absD, pureStep, subB, svs, blks, AV.sv, absRun, absOps, absOp, evO, constSV, ungd, gdP, gdPs, setD, binI, binV, unV, convV, binS, T_ty, T_size, T_bytes, T_zero, tTy, tSize, tBytes, tZero, fieldOf, faddrV, iaddrV, indexV, extractV, lowI, highI, maxP, sliceV, pickV, pureOp, guardOf, memOp, lenV, loadV, newV, notIn, dataOf, nilD, appD, isSrc, scal, cellsOf, elemsOf, intsOf, strsOf, rowsOf, rowOf, zI, isStr, isB, isI, isA, known, cellAt, arrAt, takeC, dropC, setC, setA, blkAt, fnd, upd, del, mv, elemV, one, Data.len, Data.esz, Data.sub, Lim.add, retP, resV, retQ, rAs, rA, rA0, rAl, ownN, nodup, bares, bare, bare0, bareL, bareD, inRet, flats, flatV, flat1, flat2, guardIs, callP, callS, argS, argC, mAs, mA, mA0, mB0, rowsM, mAl, lowD, allNotIn, nm, impN, impB, impT, packS, delL, Op.operands, Call.operands, List.getD, List.getElem?_cons_zero, List.getElem?_cons_succ, List.getElem?_nil, Option.getD_some, Option.getD_none, List.set, List.map, List.all, List.toList_toArray, List.getElem?_toArray, Option.bind_some, Option.bind_none, Option.map_some, Option.map_none, Option.isSome, exitTo, true_and, and_true, false_and, and_false, and_self, implies_true, reduceIte, imp_self, if_true, if_false, ite_self, eq_self, ne_eq, not_false_eq_true, not_true_eq_false, false_implies, true_implies, forall_const, reduceCtorEq, Bool.false_eq_true, List.take_length, Nat.zero_add, Nat.add_zero, Int.sub_zero, Int.zero_add, Int.add_zero, Int.toNat_natCast, Int.cast_ofNat_Int, Int.reduceToNat, Int.reduceSub, Int.reduceAdd, Nat.le_refl, Int.le_refl, Int.toNat_zero, Int.reduceBNe, Int.reduceBEq, Bool.cond_true_left, Bool.cond_false_right, Bool.cond_true, Bool.cond_false, Option.toArray_some, Option.toArray_none, List.append_toArray, List.cons_append, List.nil_append, List.append_nil, List.size_toArray, List.length_cons, List.length_nil, Nat.reduceAdd, Nat.reduceSub, Nat.reduceMul, Nat.reduceDiv, Nat.reduceEqDiff, Nat.reduceBEq, Nat.reduceLeDiff, Nat.reduceLT, Nat.succ_ne_self, Bool.not_true, Bool.not_false, beq_self_eq_true, List.replicate_succ, List.replicate_zero, Bool.and_true, Bool.true_and, Bool.and_self, Bool.and_false, Bool.false_and, Bool.or_false, Bool.or_true, Bool.false_or, Bool.true_or, SV.sl.injEq, SV.int.injEq, Data.ints.injEq, tl, Int.reduceLT, Int.reduceLE, Int.reduceGT, Int.reduceGE, Int.reduceEq, Int.reduceNe, Int.reduceMul, Int.reduceNeg, decide_true, decide_false, gt_iff_lt, ge_iff_le]
      rw [bitL_quo k hk']
      have hs : consX p (k + 1) = if !aboveB (add64 (consX p k) (bitL k)) p then add64 (consX p k) (bitL k) else consX p k := rfl
      split
      all_goals
        rename_i h
        simp only [h, if_true, if_false] at hs
        refine ⟨rfl, ih (k + 1, _) _ (by show k + 1 ≤ 36; omega) (by simp only; omega) rfl ?_ ?_⟩
        · simp [tl, LeT, hs, add64]
        · intro n x hx; simp [fnd] at hx
    · rename_i hc
      have hk' : k = 36 := by
        rcases Nat.lt_or_ge k 36 with h | h
        · exact absurd (by simpa using bitL_pos k h) hc
        · omega
      subst hk'
      rfl

/-- The primes below a number. -/
def sieveL : Nat → List Int
  | 0 => []
  | k + 1 => if (sieveL k).all (fun q => remI k q != 0) && decide (2 ≤ k) then sieveL k ++ [(k : Int)] else sieveL k

theorem sieve64 : (sieveL 312).length = 64 := by decide +kernel
theorem cons64 : (sieveL 312).map consL = G0 := by decide +kernel

theorem sieve_mono (k : Nat) : (sieveL k).length ≤ (sieveL (k + 1)).length := by
  simp only [sieveL]; split <;> simp
theorem sieve_le (j : Nat) : ∀ k, (sieveL k).length ≤ (sieveL (k + j)).length := by
  induction j with
  | zero => intro k; exact Nat.le_refl _
  | succ j ih => intro k; exact Nat.le_trans (ih k) (sieve_mono (k + j))
theorem sieve_lt {k : Nat} (h : (sieveL k).length < 64) : k < 312 := by
  rcases Nat.lt_or_ge k 312 with h' | h'
  · exact h'
  · have := sieve_le (k - 312) 312
    rw [show 312 + (k - 312) = k by omega, sieve64] at this
    omega
theorem sieve_pre (j : Nat) : ∀ k, sieveL k <+: sieveL (k + j) := by
  induction j with
  | zero => intro k; exact List.prefix_refl _
  | succ j ih =>
    intro k
    refine List.IsPrefix.trans (ih k) ?_
    rw [show k + (j + 1) = (k + j) + 1 by omega, sieveL]
    split
    · exact List.prefix_append _ _
    · exact List.prefix_refl _
theorem sieve_pos (k : Nat) : ∀ q ∈ sieveL k, 2 ≤ q ∧ q < k := by
  induction k with
  | zero => intro q hq; simp [sieveL] at hq
  | succ k ih =>
    intro q hq
    simp only [sieveL] at hq
    split at hq
    · rename_i h
      simp only [Bool.and_eq_true, decide_eq_true_eq] at h
      rcases List.mem_append.1 hq with h1 | h1
      · have := ih q h1; omega
      · simp at h1; omega
    · have := ih q hq; omega

theorem primes_meets : Meets Tryd.prog 42 [.v (.int .i64 64)] [.own (.ints .u64 (sieveL 312))] := by
  refine meets_go TO 100 Tryd.func42 rfl (fun X => ?_)
  simp only [Tryd.ntmps42, Tryd.results42, List.take_succ_cons, List.take_zero, List.drop_succ_cons, List.drop_zero, pureOpC, buildV, fillC, intsP, cntC, arrPV, fieldV, gloadV, GT, unc, capV, sliceC, fitT, isEff, absD, pureStep, subB, svs, blks, AV.sv, absRun, absOps, absOp, evO, constSV, ungd, gdP, gdPs, setD, binI, binV, unV, convV, binS, T_ty, T_size, T_bytes, T_zero, tTy, tSize, tBytes, tZero, fieldOf, faddrV, iaddrV, indexV, extractV, lowI, highI, maxP, sliceV, pickV, pureOp, guardOf, memOp, lenV, loadV, newV, notIn, dataOf, nilD, appD, isSrc, scal, cellsOf, elemsOf, intsOf, strsOf, rowsOf, rowOf, zI, isStr, isB, isI, isA, known, cellAt, arrAt, takeC, dropC, setC, setA, blkAt, fnd, upd, del, mv, elemV, one, Data.len, Data.esz, Data.sub, Lim.add, retP, resV, retQ, rAs, rA, rA0, rAl, ownN, nodup, bares, bare, bare0, bareL, bareD, inRet, flats, flatV, flat1, flat2, guardIs, callP, callS, argS, argC, mAs, mA, mA0, mB0, rowsM, mAl, lowD, allNotIn, nm, impN, impB, impT, packS, delL, Op.operands, Call.operands, List.getD, List.getElem?_cons_zero, List.getElem?_cons_succ, List.getElem?_nil, Option.getD_some, Option.getD_none, List.set, List.map, List.all, List.toList_toArray, List.getElem?_toArray, Option.bind_some, Option.bind_none, Option.map_some, Option.map_none, Option.isSome, exitTo, true_and, and_true, false_and, and_false, and_self, implies_true, reduceIte, imp_self, if_true, if_false, ite_self, eq_self, ne_eq, not_false_eq_true, not_true_eq_false, false_implies, true_implies, forall_const, reduceCtorEq, Bool.false_eq_true, List.take_length, Nat.zero_add, Nat.add_zero, Int.sub_zero, Int.zero_add, Int.add_zero, Int.toNat_natCast, Int.cast_ofNat_Int, Int.reduceToNat, Int.reduceSub, Int.reduceAdd, Nat.le_refl, Int.le_refl, Int.toNat_zero, Int.reduceBNe, Int.reduceBEq, Bool.cond_true_left, Bool.cond_false_right, Bool.cond_true, Bool.cond_false, Option.toArray_some, Option.toArray_none, List.append_toArray, List.cons_append, List.nil_append, List.append_nil, List.size_toArray, List.length_cons, List.length_nil, Nat.reduceAdd, Nat.reduceSub, Nat.reduceMul, Nat.reduceDiv, Nat.reduceEqDiff, Nat.reduceBEq, Nat.reduceLeDiff, Nat.reduceLT, Nat.succ_ne_self, Bool.not_true, Bool.not_false, beq_self_eq_true, List.replicate_succ, List.replicate_zero, Bool.and_true, Bool.true_and, Bool.and_self, Bool.and_false, Bool.false_and, Bool.or_false, Bool.or_true, Bool.false_or, Bool.true_or, SV.sl.injEq, SV.int.injEq, Data.ints.injEq, tl, Int.reduceLT, Int.reduceLE, Int.reduceGT, Int.reduceGE, Int.reduceEq, Int.reduceNe, Int.reduceMul, Int.reduceNeg, decide_true, decide_false, gt_iff_lt, ge_iff_le]
  refine nil_go 3 33 (.ints .u64 []) rfl ⟨by simp, rfl⟩ ?_
  refine loop_go (fun x : Nat × Nat × Nat => 2 ≤ x.1 ∧ x.1 ≤ 312) (fun x => 
    ⟨tl 35 0 [(0, .int .i64 64), (3, .sl 33 x.2.2 0 1 0 (sieveL x.1).length), (4, .int .u64 x.1)], [(33, x.2.2, .vec (.ints .u64 (sieveL x.1)))], ⟨x.2.1, [], 0⟩⟩) (fun x => 312 - x.1) (2, 6, 5) (by simp) ⟨rfl, ?_, ?_⟩ ?_
  · simp [tl, LeT, sieveL, Data.esz]
  · intro n x hx; simpa [fnd, upd, sieveL] using hx
  · rintro ⟨k, c, g⟩ ⟨hk, hk2⟩ ih
    have hk : 2 ≤ k := hk
    have hk2 : k ≤ 312 := hk2
    refine absRun_ok TO 100 _ _ ?_
    simp only [List.take_succ_cons, List.take_zero, List.drop_succ_cons, List.drop_zero, pureOpC, buildV, fillC, intsP, cntC, arrPV, fieldV, gloadV, GT, unc, capV, sliceC, fitT, isEff, absD, pureStep, subB, svs, blks, AV.sv, absRun, absOps, absOp, evO, constSV, ungd, gdP, gdPs, setD, binI, binV, unV, convV, binS, T_ty, T_size, T_bytes, T_zero, tTy, tSize, tBytes, tZero, fieldOf, faddrV, iaddrV, indexV, extractV, lowI, highI, maxP, sliceV, pickV, pureOp, guardOf, memOp, lenV, loadV, newV, notIn, dataOf, nilD, appD, isSrc, scal, cellsOf, elemsOf, intsOf, strsOf, rowsOf, rowOf, zI, isStr, isB, isI, isA, known, cellAt, arrAt, takeC, dropC, setC, setA, blkAt, fnd, upd, del, mv, elemV, one, Data.len, Data.esz, Data.sub, Lim.add, retP, resV, retQ, rAs, rA, rA0, rAl, ownN, nodup, bares, bare, bare0, bareL, bareD, inRet, flats, flatV, flat1, flat2, guardIs, callP, callS, argS, argC, mAs, mA, mA0, mB0, rowsM, mAl, lowD, allNotIn, nm, impN, impB, impT, packS, delL, Op.operands, Call.operands, List.getD, List.getElem?_cons_zero, List.getElem?_cons_succ, List.getElem?_nil, Option.getD_some, Option.getD_none, List.set, List.map, List.all, List.toList_toArray, List.getElem?_toArray, Option.bind_some, Option.bind_none, Option.map_some, Option.map_none, Option.isSome, exitTo, true_and, and_true, false_and, and_false, and_self, implies_true, reduceIte, imp_self, if_true, if_false, ite_self, eq_self, ne_eq, not_false_eq_true, not_true_eq_false, false_implies, true_implies, forall_const, reduceCtorEq, Bool.false_eq_true, List.take_length, Nat.zero_add, Nat.add_zero, Int.sub_zero, Int.zero_add, Int.add_zero, Int.toNat_natCast, Int.cast_ofNat_Int, Int.reduceToNat, Int.reduceSub, Int.reduceAdd, Nat.le_refl, Int.le_refl, Int.toNat_zero, Int.reduceBNe, Int.reduceBEq, Bool.cond_true_left, Bool.cond_false_right, Bool.cond_true, Bool.cond_false, Option.toArray_some, Option.toArray_none, List.append_toArray, List.cons_append, List.nil_append, List.append_nil, List.size_toArray, List.length_cons, List.length_nil, Nat.reduceAdd, Nat.reduceSub, Nat.reduceMul, Nat.reduceDiv, Nat.reduceEqDiff, Nat.reduceBEq, Nat.reduceLeDiff, Nat.reduceLT, Nat.succ_ne_self, Bool.not_true, Bool.not_false, beq_self_eq_true, List.replicate_succ, List.replicate_zero, Bool.and_true, Bool.true_and, Bool.and_self, Bool.and_false, Bool.false_and, Bool.or_false, Bool.or_true, Bool.false_or, Bool.true_or, SV.sl.injEq, SV.int.injEq, Data.ints.injEq, tl, Int.reduceLT, Int.reduceLE, Int.reduceGT, Int.reduceGE, Int.reduceEq, Int.reduceNe, Int.reduceMul, Int.reduceNeg, decide_true, decide_false, gt_iff_lt, ge_iff_le]
    split
    · rename_i hc
      have h64 : (sieveL k).length < 64 := by simp at hc; omega
      have h312 := sieve_lt h64
      have hs1 : sieveL (k + 1) = if (sieveL k).all (fun q => remI k q != 0) then sieveL k ++ [(k : Int)] else sieveL k := by
        simp only [sieveL, show decide (2 ≤ k) = true by simpa using hk, Bool.and_true]
      refine loop_go (fun x : Nat × Nat => x.1 ≤ (sieveL k).length) (fun x => 
        ⟨tl 35 0 [(0, .int .i64 64), (3, .sl 33 g 0 1 0 (sieveL k).length), (4, .int .u64 k), (5, .bool (((sieveL k).take x.1).all (fun q => remI k q != 0))), (6, .int .i64 x.1)], [(33, g, .vec (.ints .u64 (sieveL k)))], ⟨x.2, [], 0⟩⟩) (fun x => (sieveL k).length - x.1) (0, _) (Nat.zero_le _) ⟨rfl, ?_, ?_⟩ ?_
      · simp [tl, LeT]
      · intro n x hx; simpa [fnd] using hx
      · rintro ⟨j, c2⟩ hj ih2
        have hj : j ≤ (sieveL k).length := hj
        refine absRun_ok TO 100 _ _ ?_
        simp only [List.take_succ_cons, List.take_zero, List.drop_succ_cons, List.drop_zero, pureOpC, buildV, fillC, intsP, cntC, arrPV, fieldV, gloadV, GT, unc, capV, sliceC, fitT, isEff, absD, pureStep, subB, svs, blks, AV.sv, absRun, absOps, absOp, evO, constSV, ungd, gdP, gdPs, setD, binI, binV, unV, convV, binS, T_ty, T_size, T_bytes, T_zero, tTy, tSize, tBytes, tZero, fieldOf, faddrV, iaddrV, indexV, extractV, lowI, highI, maxP, sliceV, pickV, pureOp, guardOf, memOp, lenV, loadV, newV, notIn, dataOf, nilD, appD, isSrc, scal, cellsOf, elemsOf, intsOf, strsOf, rowsOf, rowOf, zI, isStr, isB, isI, isA, known, cellAt, arrAt, takeC, dropC, setC, setA, blkAt, fnd, upd, del, mv, elemV, one, Data.len, Data.esz, Data.sub, Lim.add, retP, resV, retQ, rAs, rA, rA0, rAl, ownN, nodup, bares, bare, bare0, bareL, bareD, inRet, flats, flatV, flat1, flat2, guardIs, callP, callS, argS, argC, mAs, mA, mA0, mB0, rowsM, mAl, lowD, allNotIn, nm, impN, impB, impT, packS, delL, Op.operands, Call.operands, List.getD, List.getElem?_cons_zero, List.getElem?_cons_succ, List.getElem?_nil, Option.getD_some, Option.getD_none, List.set, List.map, List.all, List.toList_toArray, List.getElem?_toArray, Option.bind_some, Option.bind_none, Option.map_some, Option.map_none, Option.isSome, exitTo, true_and, and_true, false_and, and_false, and_self, implies_true, reduceIte, imp_self, if_true, if_false, ite_self, eq_self, ne_eq, not_false_eq_true, not_true_eq_false, false_implies, true_implies, forall_const, reduceCtorEq, Bool.false_eq_true, List.take_length, Nat.zero_add, Nat.add_zero, Int.sub_zero, Int.zero_add, Int.add_zero, Int.toNat_natCast, Int.cast_ofNat_Int, Int.reduceToNat, Int.reduceSub, Int.reduceAdd, Nat.le_refl, Int.le_refl, Int.toNat_zero, Int.reduceBNe, Int.reduceBEq, Bool.cond_true_left, Bool.cond_false_right, Bool.cond_true, Bool.cond_false, Option.toArray_some, Option.toArray_none, List.append_toArray, List.cons_append, List.nil_append, List.append_nil, List.size_toArray, List.length_cons, List.length_nil, Nat.reduceAdd, Nat.reduceSub, Nat.reduceMul, Nat.reduceDiv, Nat.reduceEqDiff, Nat.reduceBEq, Nat.reduceLeDiff, Nat.reduceLT, Nat.succ_ne_self, Bool.not_true, Bool.not_false, beq_self_eq_true, List.replicate_succ, List.replicate_zero, Bool.and_true, Bool.true_and, Bool.and_self, Bool.and_false, Bool.false_and, Bool.or_false, Bool.or_true, Bool.false_or, Bool.true_or, SV.sl.injEq, SV.int.injEq, Data.ints.injEq, tl, Int.reduceLT, Int.reduceLE, Int.reduceGT, Int.reduceGE, Int.reduceEq, Int.reduceNe, Int.reduceMul, Int.reduceNeg, decide_true, decide_false, gt_iff_lt, ge_iff_le]
        split
        · rename_i hc3
          have hj' : j < (sieveL k).length := by simp at hc3; omega
          have hq := sieve_pos k _ (List.getElem_mem hj')
          have g1 : (sieveL k)[j]?.getD 0 = (sieveL k)[j] := by simp [hj']
          have hta : ((sieveL k).take (j + 1)).all (fun q => remI k q != 0) = (((sieveL k).take j).all (fun q => remI k q != 0) && (remI k (sieveL k)[j] != 0)) := by
            rw [List.take_add_one, List.getElem?_eq_getElem hj', List.all_append]
            simp
          simp only [Nat.zero_add, Int.toNat_natCast, g1]
          refine ⟨fun _ => by omega, fun _ => by omega, ?_⟩
          rw [← hta, w64 (by omega) (by omega)]
          refine ih2 (j + 1, _) _ (by show j + 1 ≤ _; omega) (by simp only; omega) rfl ?_ ?_
          · simp [tl, LeT]
          · intro n x hx; simpa [fnd] using hx
        · rename_i hc3
          have hj' : j = (sieveL k).length := by simp at hc3; omega
          subst hj'
          rw [List.take_length]
          rw [wu64 (by omega) (by omega)]
          split
          · rename_i hall
            rw [hall] at hs1
            simp only [if_true] at hs1
            rw [← hs1]
            refine ⟨⟨by omega, by omega⟩, ?_⟩
            refine ih (k + 1, _, c2 + 1 + 1 + 1) _ (by simp only; omega) (by simp only; omega) rfl ?_ ?_
            · simp [tl, LeT]
            · intro n x hx
              simp [fnd] at hx ⊢
              obtain ⟨rfl, rfl⟩ := hx
              simp
          · rename_i hall
            simp only [hall] at hs1
            simp only [Bool.false_eq_true, if_false] at hs1
            rw [← hs1]
            refine ih (k + 1, _, g) _ (by simp only; omega) (by simp only; omega) rfl ?_ ?_
            · simp [tl, LeT]
            · intro n x hx; simpa [fnd] using hx
    · rename_i hc
      have h64 : ¬ (sieveL k).length < 64 := by simp at hc; omega
      have hfin : sieveL k = sieveL 312 := by
        have h1 := sieve_pre (312 - k) k
        rw [show k + (312 - k) = 312 by omega] at h1
        exact h1.eq_of_length_le (by rw [sieve64]; omega)
      rw [hfin]; simp

end Go.Proofs.YtcbeacpikgilnaaDoor.Abs
