/- What a block, pressed, answers. -/
import Derived.Test.YtcbeacpikgilnaaDoorS1
import Derived.Test.YtcbeacpikgilnaaDoorF13
set_option linter.unusedVariables false
set_option linter.unusedSimpArgs false
set_option maxRecDepth 100000
namespace Go.Proofs.YtcbeacpikgilnaaDoor.Abs
open Go Go.Proofs

/-- A word of a block. -/
def wordL (b : List Int) (t : Nat) : Int :=
  bitsI .or .u32 (bitsI .or .u32 (bitsI .or .u32 (shlI .u32 (IntKind.u32.wrap (b[4 * t]?.getD 0)) 24) (shlI .u32 (IntKind.u32.wrap (b[4 * t + 1]?.getD 0)) 16)) (shlI .u32 (IntKind.u32.wrap (b[4 * t + 2]?.getD 0)) 8)) (IntKind.u32.wrap (b[4 * t + 3]?.getD 0))

/-- The next word of the schedule. -/
def nextL (w : List Int) (t : Nat) : Int :=
  IntKind.u32.wrap (IntKind.u32.wrap (IntKind.u32.wrap (small3 (w[t - 2]?.getD 0) 17 19 10 + w[t - 7]?.getD 0) + small3 (w[t - 15]?.getD 0) 7 18 3) + w[t - 16]?.getD 0)

/-- The schedule. -/
def schedL (b : List Int) : Nat → List Int
  | 0 => []
  | t + 1 => schedL b t ++ [if t < 16 then wordL b t else nextL (schedL b t) t]

theorem schedL_length (b : List Int) (t : Nat) : (schedL b t).length = t := by
  induction t with
  | zero => rfl
  | succ t ih => simp [schedL, ih]

/-- Eight words. -/
structure W8 where
  a : Int
  b : Int
  c : Int
  d : Int
  e : Int
  f : Int
  g : Int
  h : Int

def xL (s : W8) (k w : Int) : Int := IntKind.u32.wrap (IntKind.u32.wrap (IntKind.u32.wrap (IntKind.u32.wrap (s.h + turn3 s.e 6 11 25) + bitsI .xor .u32 (bitsI .and .u32 s.e s.f) (bitsI .andNot .u32 s.g s.e)) + k) + w)
def yL (s : W8) : Int := IntKind.u32.wrap (turn3 s.a 2 13 22 + bitsI .or .u32 (bitsI .or .u32 (bitsI .and .u32 s.a s.b) (bitsI .and .u32 s.a s.c)) (bitsI .and .u32 s.b s.c))

/-- A round. -/
def roundL (s : W8) (k w : Int) : W8 := ⟨IntKind.u32.wrap (xL s k w + yL s), s.a, s.b, s.c, IntKind.u32.wrap (s.d + xL s k w), s.e, s.f, s.g⟩

def roundsL (K w : List Int) (s : W8) : Nat → W8
  | 0 => s
  | t + 1 => roundL (roundsL K w s t) (K[t]?.getD 0) (w[t]?.getD 0)

def w8 (l : List Int) : W8 := ⟨l[0]?.getD 0, l[1]?.getD 0, l[2]?.getD 0, l[3]?.getD 0, l[4]?.getD 0, l[5]?.getD 0, l[6]?.getD 0, l[7]?.getD 0⟩
def l8 (s : W8) : List Int := [s.a, s.b, s.c, s.d, s.e, s.f, s.g, s.h]

def addL : List Int → List Int → List Int
  | x :: l, y :: m => IntKind.u32.wrap (x + y) :: addL l m
  | _, _ => []

/-- A block, pressed into a state, by a table of constants. -/
def pressL (K st b : List Int) : List Int := addL st (l8 (roundsL K (schedL b 64) (w8 st) 64))

def Press_S (st b w : List Int) (i c : Nat) : St := ⟨[.any, .any, .ptr 2 2 0, .ptr 3 2 0, .ptr 4 2 0, .ptr 5 3 0] ++ List.replicate 15 .any ++ [.int .i64 i] ++ List.replicate 146 .any,
  [(2, 2, .cells [.arr .u32 8 st]), (3, 2, .cells [.arr .u8 64 b]), (4, 2, .cells [.arr .u32 8 (List.replicate 8 0)]), (5, 3, .cells [.arr .u32 64 w])], ⟨c, [], 0⟩⟩

def Press_S2 (st b w : List Int) (s : W8) (i c : Nat) : St := ⟨[.any, .any, .ptr 2 2 0, .any, .ptr 4 2 0, .ptr 5 3 0, .any, .int .u32 s.a, .int .u32 s.b, .int .u32 s.c, .int .u32 s.d, .int .u32 s.e, .int .u32 s.f, .int .u32 s.g, .int .u32 s.h] ++ List.replicate 82 .any ++ [.arr .u32 64 G0, .int .i64 i] ++ List.replicate 69 .any,
  [(2, 2, .cells [.arr .u32 8 st]), (3, 2, .cells [.arr .u8 64 b]), (4, 2, .cells [.arr .u32 8 (List.replicate 8 0)]), (5, 3, .cells [.arr .u32 64 w])], ⟨c, [], 0⟩⟩

def Press_S3 (st s8 : List Int) (l : List Int) (i c : Nat) : St := ⟨[.any, .any, .ptr 2 2 0, .any, .ptr 4 2 0] ++ List.replicate 150 .any ++ [.arr .u32 8 s8, .int .i64 i] ++ List.replicate 11 .any,
  [(2, 2, .cells [.arr .u32 8 l]), (4, 2, .cells [.arr .u32 8 (List.replicate 8 0)])], ⟨c, [], 0⟩⟩

theorem addL_step : ∀ (l m : List Int) (i : Nat), i < l.length → l.length = m.length → (addL (l.take i) (m.take i) ++ l.drop i).set i (IntKind.u32.wrap ((addL (l.take i) (m.take i) ++ l.drop i)[i]?.getD 0 + m[i]?.getD 0)) = addL (l.take (i + 1)) (m.take (i + 1)) ++ l.drop (i + 1)
  | x :: l, y :: m, 0, _, _ => by simp [addL]
  | x :: l, y :: m, i + 1, h, h' => by
    have := addL_step l m i (by simpa using h) (by simpa using h')
    simp only [List.take_succ_cons, List.drop_succ_cons, addL, List.cons_append, List.getElem?_cons_succ, List.set_cons_succ, this]
  | [], m, i, h, _ => by simp at h
  | x :: l, [], i, h, h' => by simp at h'

theorem addL_length : ∀ (l m : List Int), l.length = m.length → (addL l m).length = l.length
  | [], [], _ => rfl
  | x :: l, y :: m, h => by simp [addL, addL_length l m (by simpa using h)]
  | [], _ :: _, h => by simp at h
  | _ :: _, [], h => by simp at h

theorem pressL_length {K st b : List Int} (h : st.length = 8) : (pressL K st b).length = 8 := by
  unfold pressL; rw [addL_length _ _ (by simp [l8, h]), h]

set_option maxHeartbeats 4000000 in
theorem Press_meets (st b : List Int) (hs : st.length = 8) (hb : b.length = 64) (hB : Bytes b) : Meets Tryd.prog 15 [.v (.arr .u32 8 st), .v (.arr .u8 64 b)] [.v (.arr .u32 8 (pressL G0 st b))] := by
  refine meets_go TO 100 Tryd.func15 rfl (fun X => ?_)
  simp only [Tryd.ntmps15, Tryd.results15, List.take_succ_cons, List.take_zero, List.drop_succ_cons, List.drop_zero, pureOpC, buildV, fillC, intsP, cntC, arrPV, fieldV, gloadV, GT, unc, capV, sliceC, fitT, isEff, absD, pureStep, subB, svs, blks, AV.sv, absRun, absOps, absOp, evO, constSV, ungd, gdP, gdPs, setD, binI, binV, unV, convV, binS, T_ty, T_size, T_bytes, T_zero, tTy, tSize, tBytes, tZero, fieldOf, faddrV, iaddrV, indexV, extractV, lowI, highI, maxP, sliceV, pickV, pureOp, guardOf, memOp, lenV, loadV, newV, notIn, dataOf, nilD, appD, isSrc, scal, cellsOf, elemsOf, intsOf, strsOf, rowsOf, rowOf, zI, isStr, isB, isI, isA, known, cellAt, arrAt, takeC, dropC, setC, setA, blkAt, fnd, upd, del, mv, elemV, one, Data.len, Data.esz, Data.sub, Lim.add, retP, resV, retQ, rAs, rA, rA0, rAl, ownN, nodup, bares, bare, bare0, bareL, bareD, inRet, flats, flatV, flat1, flat2, guardIs, callP, callS, argS, argC, mAs, mA, mA0, mB0, rowsM, mAl, lowD, allNotIn, nm, impN, impB, impT, packS, delL, Op.operands, Call.operands, List.getD, List.getElem?_cons_zero, List.getElem?_cons_succ, List.getElem?_nil, Option.getD_some, Option.getD_none, List.set, List.map, List.all, List.toList_toArray, List.getElem?_toArray, Option.bind_some, Option.bind_none, Option.map_some, Option.map_none, Option.isSome, exitTo, true_and, and_true, false_and, and_false, and_self, implies_true, reduceIte, imp_self, if_true, if_false, ite_self, eq_self, ne_eq, not_false_eq_true, not_true_eq_false, false_implies, true_implies, forall_const, reduceCtorEq, Bool.false_eq_true, List.take_length, Nat.zero_add, Nat.add_zero, Int.sub_zero, Int.zero_add, Int.add_zero, Int.toNat_natCast, Int.cast_ofNat_Int, Int.reduceToNat, Int.reduceSub, Int.reduceAdd, Nat.le_refl, Int.le_refl, Int.toNat_zero, Int.reduceBNe, Int.reduceBEq, Bool.cond_true_left, Bool.cond_false_right, Bool.cond_true, Bool.cond_false, Option.toArray_some, Option.toArray_none, List.append_toArray, List.cons_append, List.nil_append, List.append_nil, List.size_toArray, List.length_cons, List.length_nil, Nat.reduceAdd, Nat.reduceSub, Nat.reduceMul, Nat.reduceDiv, Nat.reduceEqDiff, Nat.reduceBEq, Nat.reduceLeDiff, Nat.reduceLT, Nat.succ_ne_self, Bool.not_true, Bool.not_false, beq_self_eq_true, List.replicate_succ, List.replicate_zero, Bool.and_true, Bool.true_and, Bool.and_self, Bool.and_false, Bool.false_and, Bool.or_false, Bool.or_true, Bool.false_or, Bool.true_or, SV.sl.injEq, SV.int.injEq, Data.ints.injEq, tl, Int.reduceLT, Int.reduceLE, Int.reduceGT, Int.reduceGE, Int.reduceEq, Int.reduceNe, Int.reduceMul, Int.reduceNeg, decide_true, decide_false, gt_iff_lt, ge_iff_le]
  refine loop_go (fun x : Nat × Nat => x.1 ≤ 64) (fun x => Press_S st b (schedL b x.1 ++ List.replicate (64 - x.1) 0) x.1 x.2) (fun x => 64 - x.1) (0, _) (by decide) ⟨rfl, ?_, ?_⟩ ?_
  · simp [Press_S, LeT]
  · intro n x hx; simpa [Press_S, fnd, schedL] using hx
  · rintro ⟨i, c⟩ hi ih
    have hlw : (schedL b i ++ List.replicate (64 - i) (0 : Int)).length = 64 := by
      have : i ≤ 64 := hi
      simp [schedL_length]; omega
    have hset : ∀ v, i < 64 → (schedL b i ++ List.replicate (64 - i) 0).set i v = schedL b i ++ [v] ++ List.replicate (64 - (i + 1)) 0 := by
      intro v h
      obtain ⟨r, hr⟩ : ∃ r, 64 - i = r + 1 := ⟨64 - i - 1, by omega⟩
      rw [hr, show 64 - (i + 1) = r by omega, List.replicate_succ, List.set_append_right _ _ (by rw [schedL_length]; exact Nat.le_refl _), schedL_length]
      simp
    refine absRun_ok TO 100 _ _ ?_
    simp only [Press_S, List.take_succ_cons, List.take_zero, List.drop_succ_cons, List.drop_zero, pureOpC, buildV, fillC, intsP, cntC, arrPV, fieldV, gloadV, GT, unc, capV, sliceC, fitT, isEff, absD, pureStep, subB, svs, blks, AV.sv, absRun, absOps, absOp, evO, constSV, ungd, gdP, gdPs, setD, binI, binV, unV, convV, binS, T_ty, T_size, T_bytes, T_zero, tTy, tSize, tBytes, tZero, fieldOf, faddrV, iaddrV, indexV, extractV, lowI, highI, maxP, sliceV, pickV, pureOp, guardOf, memOp, lenV, loadV, newV, notIn, dataOf, nilD, appD, isSrc, scal, cellsOf, elemsOf, intsOf, strsOf, rowsOf, rowOf, zI, isStr, isB, isI, isA, known, cellAt, arrAt, takeC, dropC, setC, setA, blkAt, fnd, upd, del, mv, elemV, one, Data.len, Data.esz, Data.sub, Lim.add, retP, resV, retQ, rAs, rA, rA0, rAl, ownN, nodup, bares, bare, bare0, bareL, bareD, inRet, flats, flatV, flat1, flat2, guardIs, callP, callS, argS, argC, mAs, mA, mA0, mB0, rowsM, mAl, lowD, allNotIn, nm, impN, impB, impT, packS, delL, Op.operands, Call.operands, List.getD, List.getElem?_cons_zero, List.getElem?_cons_succ, List.getElem?_nil, Option.getD_some, Option.getD_none, List.set, List.map, List.all, List.toList_toArray, List.getElem?_toArray, Option.bind_some, Option.bind_none, Option.map_some, Option.map_none, Option.isSome, exitTo, true_and, and_true, false_and, and_false, and_self, implies_true, reduceIte, imp_self, if_true, if_false, ite_self, eq_self, ne_eq, not_false_eq_true, not_true_eq_false, false_implies, true_implies, forall_const, reduceCtorEq, Bool.false_eq_true, List.take_length, Nat.zero_add, Nat.add_zero, Int.sub_zero, Int.zero_add, Int.add_zero, Int.toNat_natCast, Int.cast_ofNat_Int, Int.reduceToNat, Int.reduceSub, Int.reduceAdd, Nat.le_refl, Int.le_refl, Int.toNat_zero, Int.reduceBNe, Int.reduceBEq, Bool.cond_true_left, Bool.cond_false_right, Bool.cond_true, Bool.cond_false, Option.toArray_some, Option.toArray_none, List.append_toArray, List.cons_append, List.nil_append, List.append_nil, List.size_toArray, List.length_cons, List.length_nil, Nat.reduceAdd, Nat.reduceSub, Nat.reduceMul, Nat.reduceDiv, Nat.reduceEqDiff, Nat.reduceBEq, Nat.reduceLeDiff, Nat.reduceLT, Nat.succ_ne_self, Bool.not_true, Bool.not_false, beq_self_eq_true, List.replicate_succ, List.replicate_zero, Bool.and_true, Bool.true_and, Bool.and_self, Bool.and_false, Bool.false_and, Bool.or_false, Bool.or_true, Bool.false_or, Bool.true_or, SV.sl.injEq, SV.int.injEq, Data.ints.injEq, tl, Int.reduceLT, Int.reduceLE, Int.reduceGT, Int.reduceGE, Int.reduceEq, Int.reduceNe, Int.reduceMul, Int.reduceNeg, decide_true, decide_false, gt_iff_lt, ge_iff_le]
    split
    · rename_i hc
      have hi' : i < 64 := by simp at hc; omega
      split
      · rename_i hc2
        have h16 : i < 16 := by simp at hc2; omega
        refine draw_go TO 30 100 mixed_ok (by decide +kernel) ?_
        have e0 : IntKind.i64.wrap (4 * (i : Int)) = 4 * i := w64 (by omega) (by omega)
        have e1 : ∀ k : Nat, k < 4 → IntKind.i64.wrap (4 * (i : Int) + k) = 4 * i + k := fun k hk => w64 (by omega) (by omega)
        have e2 := e1 1 (by decide)
        have e3 := e1 2 (by decide)
        have e4 := e1 3 (by decide)
        simp only [Int.cast_ofNat_Int] at e2 e3 e4
        simp only [List.take_succ_cons, List.take_zero, List.drop_succ_cons, List.drop_zero, pureOpC, buildV, fillC, intsP, cntC, arrPV, fieldV, gloadV, GT, unc, capV, sliceC, fitT, isEff, absD, pureStep, subB, svs, blks, AV.sv, absRun, absOps, absOp, evO, constSV, ungd, gdP, gdPs, setD, binI, binV, unV, convV, binS, T_ty, T_size, T_bytes, T_zero, tTy, tSize, tBytes, tZero, fieldOf, faddrV, iaddrV, indexV, extractV, lowI, highI, maxP, sliceV, pickV, pureOp, guardOf, memOp, lenV, loadV, newV, notIn, dataOf, nilD, appD, isSrc, scal, cellsOf, elemsOf, intsOf, strsOf, rowsOf, rowOf, zI, isStr, isB, isI, isA, known, cellAt, arrAt, takeC, dropC, setC, setA, blkAt, fnd, upd, del, mv, elemV, one, Data.len, Data.esz, Data.sub, Lim.add, retP, resV, retQ, rAs, rA, rA0, rAl, ownN, nodup, bares, bare, bare0, bareL, bareD, inRet, flats, flatV, flat1, flat2, guardIs, callP, callS, argS, argC, mAs, mA, mA0, mB0, rowsM, mAl, lowD, allNotIn, nm, impN, impB, impT, packS, delL, Op.operands, Call.operands, List.getD, List.getElem?_cons_zero, List.getElem?_cons_succ, List.getElem?_nil, Option.getD_some, Option.getD_none, List.set, List.map, List.all, List.toList_toArray, List.getElem?_toArray, Option.bind_some, Option.bind_none, Option.map_some, Option.map_none, Option.isSome, exitTo, true_and, and_true, false_and, and_false, and_self, implies_true, reduceIte, imp_self, if_true, if_false, ite_self, eq_self, ne_eq, not_false_eq_true, not_true_eq_false, false_implies, true_implies, forall_const, reduceCtorEq, Bool.false_eq_true, List.take_length, Nat.zero_add, Nat.add_zero, Int.sub_zero, Int.zero_add, Int.add_zero, Int.toNat_natCast, Int.cast_ofNat_Int, Int.reduceToNat, Int.reduceSub, Int.reduceAdd, Nat.le_refl, Int.le_refl, Int.toNat_zero, Int.reduceBNe, Int.reduceBEq, Bool.cond_true_left, Bool.cond_false_right, Bool.cond_true, Bool.cond_false, Option.toArray_some, Option.toArray_none, List.append_toArray, List.cons_append, List.nil_append, List.append_nil, List.size_toArray, List.length_cons, List.length_nil, Nat.reduceAdd, Nat.reduceSub, Nat.reduceMul, Nat.reduceDiv, Nat.reduceEqDiff, Nat.reduceBEq, Nat.reduceLeDiff, Nat.reduceLT, Nat.succ_ne_self, Bool.not_true, Bool.not_false, beq_self_eq_true, List.replicate_succ, List.replicate_zero, Bool.and_true, Bool.true_and, Bool.and_self, Bool.and_false, Bool.false_and, Bool.or_false, Bool.or_true, Bool.false_or, Bool.true_or, SV.sl.injEq, SV.int.injEq, Data.ints.injEq, tl, Int.reduceLT, Int.reduceLE, Int.reduceGT, Int.reduceGE, Int.reduceEq, Int.reduceNe, Int.reduceMul, Int.reduceNeg, decide_true, decide_false, gt_iff_lt, ge_iff_le, Int.toNat_natCast, e0, e2, e3, e4, show (4 * (i : Int)).toNat = 4 * i by omega, show (4 * (i : Int) + 1).toNat = 4 * i + 1 by omega, show (4 * (i : Int) + 2).toNat = 4 * i + 2 by omega, show (4 * (i : Int) + 3).toNat = 4 * i + 3 by omega]
        repeat refine ⟨by omega, ?_⟩
        refine ih (i + 1, _) _ (by show i + 1 ≤ 64; omega) (by simp only; omega) rfl ?_ ?_
        · rw [w64 (by omega) (by omega)]
          simp [Press_S, LeT]
        · intro n x hx
          rw [hset _ hi']
          simpa [Press_S, fnd, schedL, h16, wordL] using hx
      · rename_i hc2
        have h16 : ¬ i < 16 := by simp at hc2; omega
        refine draw_go TO 22 100 mixed_ok (by decide +kernel) ?_
        have e2 : IntKind.i64.wrap ((i : Int) - 2) = i - 2 := w64 (by omega) (by omega)
        have e3 : IntKind.i64.wrap ((i : Int) - 7) = i - 7 := w64 (by omega) (by omega)
        have e4 : IntKind.i64.wrap ((i : Int) - 15) = i - 15 := w64 (by omega) (by omega)
        have e5 : IntKind.i64.wrap ((i : Int) - 16) = i - 16 := w64 (by omega) (by omega)
        have g : ∀ k, 1 ≤ k → k ≤ i → (schedL b i ++ List.replicate (64 - i) 0)[i - k]?.getD 0 = (schedL b i)[i - k]?.getD 0 := by
          intro k h1 h2
          rw [List.getElem?_append_left (by rw [schedL_length]; omega)]
        have t2 : ((i : Int) - 2).toNat = i - 2 := by omega
        have t3 : ((i : Int) - 7).toNat = i - 7 := by omega
        have t4 : ((i : Int) - 15).toNat = i - 15 := by omega
        have t5 : ((i : Int) - 16).toNat = i - 16 := by omega
        have g2 := g 2 (by omega) (by omega)
        have g3 := g 7 (by omega) (by omega)
        have g4 := g 15 (by omega) (by omega)
        have g5 := g 16 (by omega) (by omega)
        have hS1 := small_meets ((schedL b i)[i - 2]?.getD 0) 17 19 10 (by decide) (by decide)
        have hS2 := small_meets ((schedL b i)[i - 15]?.getD 0) 7 18 3 (by decide) (by decide)
        simp only [List.take_succ_cons, List.take_zero, List.drop_succ_cons, List.drop_zero, pureOpC, buildV, fillC, intsP, cntC, arrPV, fieldV, gloadV, GT, unc, capV, sliceC, fitT, isEff, absD, pureStep, subB, svs, blks, AV.sv, absRun, absOps, absOp, evO, constSV, ungd, gdP, gdPs, setD, binI, binV, unV, convV, binS, T_ty, T_size, T_bytes, T_zero, tTy, tSize, tBytes, tZero, fieldOf, faddrV, iaddrV, indexV, extractV, lowI, highI, maxP, sliceV, pickV, pureOp, guardOf, memOp, lenV, loadV, newV, notIn, dataOf, nilD, appD, isSrc, scal, cellsOf, elemsOf, intsOf, strsOf, rowsOf, rowOf, zI, isStr, isB, isI, isA, known, cellAt, arrAt, takeC, dropC, setC, setA, blkAt, fnd, upd, del, mv, elemV, one, Data.len, Data.esz, Data.sub, Lim.add, retP, resV, retQ, rAs, rA, rA0, rAl, ownN, nodup, bares, bare, bare0, bareL, bareD, inRet, flats, flatV, flat1, flat2, guardIs, callP, callS, argS, argC, mAs, mA, mA0, mB0, rowsM, mAl, lowD, allNotIn, nm, impN, impB, impT, packS, delL, Op.operands, Call.operands, List.getD, List.getElem?_cons_zero, List.getElem?_cons_succ, List.getElem?_nil, Option.getD_some, Option.getD_none, List.set, List.map, List.all, List.toList_toArray, List.getElem?_toArray, Option.bind_some, Option.bind_none, Option.map_some, Option.map_none, Option.isSome, exitTo, true_and, and_true, false_and, and_false, and_self, implies_true, reduceIte, imp_self, if_true, if_false, ite_self, eq_self, ne_eq, not_false_eq_true, not_true_eq_false, false_implies, true_implies, forall_const, reduceCtorEq, Bool.false_eq_true, List.take_length, Nat.zero_add, Nat.add_zero, Int.sub_zero, Int.zero_add, Int.add_zero, Int.toNat_natCast, Int.cast_ofNat_Int, Int.reduceToNat, Int.reduceSub, Int.reduceAdd, Nat.le_refl, Int.le_refl, Int.toNat_zero, Int.reduceBNe, Int.reduceBEq, Bool.cond_true_left, Bool.cond_false_right, Bool.cond_true, Bool.cond_false, Option.toArray_some, Option.toArray_none, List.append_toArray, List.cons_append, List.nil_append, List.append_nil, List.size_toArray, List.length_cons, List.length_nil, Nat.reduceAdd, Nat.reduceSub, Nat.reduceMul, Nat.reduceDiv, Nat.reduceEqDiff, Nat.reduceBEq, Nat.reduceLeDiff, Nat.reduceLT, Nat.succ_ne_self, Bool.not_true, Bool.not_false, beq_self_eq_true, List.replicate_succ, List.replicate_zero, Bool.and_true, Bool.true_and, Bool.and_self, Bool.and_false, Bool.false_and, Bool.or_false, Bool.or_true, Bool.false_or, Bool.true_or, SV.sl.injEq, SV.int.injEq, Data.ints.injEq, tl, Int.reduceLT, Int.reduceLE, Int.reduceGT, Int.reduceGE, Int.reduceEq, Int.reduceNe, Int.reduceMul, Int.reduceNeg, decide_true, decide_false, gt_iff_lt, ge_iff_le, e2, e3, e4, e5, t2, t3, t4, t5, g2, g3, g4, g5]
        refine ⟨by omega, ?_⟩
        refine callD_go TO (fun s' h' => HOps_go TO 100 h') hS1 Tryd.func39 (by decide +kernel) rfl rfl rfl ?_
        simp only [List.take_succ_cons, List.take_zero, List.drop_succ_cons, List.drop_zero, pureOpC, buildV, fillC, intsP, cntC, arrPV, fieldV, gloadV, GT, unc, capV, sliceC, fitT, isEff, absD, pureStep, subB, svs, blks, AV.sv, absRun, absOps, absOp, evO, constSV, ungd, gdP, gdPs, setD, binI, binV, unV, convV, binS, T_ty, T_size, T_bytes, T_zero, tTy, tSize, tBytes, tZero, fieldOf, faddrV, iaddrV, indexV, extractV, lowI, highI, maxP, sliceV, pickV, pureOp, guardOf, memOp, lenV, loadV, newV, notIn, dataOf, nilD, appD, isSrc, scal, cellsOf, elemsOf, intsOf, strsOf, rowsOf, rowOf, zI, isStr, isB, isI, isA, known, cellAt, arrAt, takeC, dropC, setC, setA, blkAt, fnd, upd, del, mv, elemV, one, Data.len, Data.esz, Data.sub, Lim.add, retP, resV, retQ, rAs, rA, rA0, rAl, ownN, nodup, bares, bare, bare0, bareL, bareD, inRet, flats, flatV, flat1, flat2, guardIs, callP, callS, argS, argC, mAs, mA, mA0, mB0, rowsM, mAl, lowD, allNotIn, nm, impN, impB, impT, packS, delL, Op.operands, Call.operands, List.getD, List.getElem?_cons_zero, List.getElem?_cons_succ, List.getElem?_nil, Option.getD_some, Option.getD_none, List.set, List.map, List.all, List.toList_toArray, List.getElem?_toArray, Option.bind_some, Option.bind_none, Option.map_some, Option.map_none, Option.isSome, exitTo, true_and, and_true, false_and, and_false, and_self, implies_true, reduceIte, imp_self, if_true, if_false, ite_self, eq_self, ne_eq, not_false_eq_true, not_true_eq_false, false_implies, true_implies, forall_const, reduceCtorEq, Bool.false_eq_true, List.take_length, Nat.zero_add, Nat.add_zero, Int.sub_zero, Int.zero_add, Int.add_zero, Int.toNat_natCast, Int.cast_ofNat_Int, Int.reduceToNat, Int.reduceSub, Int.reduceAdd, Nat.le_refl, Int.le_refl, Int.toNat_zero, Int.reduceBNe, Int.reduceBEq, Bool.cond_true_left, Bool.cond_false_right, Bool.cond_true, Bool.cond_false, Option.toArray_some, Option.toArray_none, List.append_toArray, List.cons_append, List.nil_append, List.append_nil, List.size_toArray, List.length_cons, List.length_nil, Nat.reduceAdd, Nat.reduceSub, Nat.reduceMul, Nat.reduceDiv, Nat.reduceEqDiff, Nat.reduceBEq, Nat.reduceLeDiff, Nat.reduceLT, Nat.succ_ne_self, Bool.not_true, Bool.not_false, beq_self_eq_true, List.replicate_succ, List.replicate_zero, Bool.and_true, Bool.true_and, Bool.and_self, Bool.and_false, Bool.false_and, Bool.or_false, Bool.or_true, Bool.false_or, Bool.true_or, SV.sl.injEq, SV.int.injEq, Data.ints.injEq, tl, Int.reduceLT, Int.reduceLE, Int.reduceGT, Int.reduceGE, Int.reduceEq, Int.reduceNe, Int.reduceMul, Int.reduceNeg, decide_true, decide_false, gt_iff_lt, ge_iff_le, e2, e3, e4, e5, t2, t3, t4, t5, g2, g3, g4, g5]
        refine ⟨by omega, by omega, ?_⟩
        refine callD_go TO (fun s' h' => HOps_go TO 100 h') hS2 Tryd.func39 (by decide +kernel) rfl rfl rfl ?_
        simp only [List.take_succ_cons, List.take_zero, List.drop_succ_cons, List.drop_zero, pureOpC, buildV, fillC, intsP, cntC, arrPV, fieldV, gloadV, GT, unc, capV, sliceC, fitT, isEff, absD, pureStep, subB, svs, blks, AV.sv, absRun, absOps, absOp, evO, constSV, ungd, gdP, gdPs, setD, binI, binV, unV, convV, binS, T_ty, T_size, T_bytes, T_zero, tTy, tSize, tBytes, tZero, fieldOf, faddrV, iaddrV, indexV, extractV, lowI, highI, maxP, sliceV, pickV, pureOp, guardOf, memOp, lenV, loadV, newV, notIn, dataOf, nilD, appD, isSrc, scal, cellsOf, elemsOf, intsOf, strsOf, rowsOf, rowOf, zI, isStr, isB, isI, isA, known, cellAt, arrAt, takeC, dropC, setC, setA, blkAt, fnd, upd, del, mv, elemV, one, Data.len, Data.esz, Data.sub, Lim.add, retP, resV, retQ, rAs, rA, rA0, rAl, ownN, nodup, bares, bare, bare0, bareL, bareD, inRet, flats, flatV, flat1, flat2, guardIs, callP, callS, argS, argC, mAs, mA, mA0, mB0, rowsM, mAl, lowD, allNotIn, nm, impN, impB, impT, packS, delL, Op.operands, Call.operands, List.getD, List.getElem?_cons_zero, List.getElem?_cons_succ, List.getElem?_nil, Option.getD_some, Option.getD_none, List.set, List.map, List.all, List.toList_toArray, List.getElem?_toArray, Option.bind_some, Option.bind_none, Option.map_some, Option.map_none, Option.isSome, exitTo, true_and, and_true, false_and, and_false, and_self, implies_true, reduceIte, imp_self, if_true, if_false, ite_self, eq_self, ne_eq, not_false_eq_true, not_true_eq_false, false_implies, true_implies, forall_const, reduceCtorEq, Bool.false_eq_true, List.take_length, Nat.zero_add, Nat.add_zero, Int.sub_zero, Int.zero_add, Int.add_zero, Int.toNat_natCast, Int.cast_ofNat_Int, Int.reduceToNat, Int.reduceSub, Int.reduceAdd, Nat.le_refl, Int.le_refl, Int.toNat_zero, Int.reduceBNe, Int.reduceBEq, Bool.cond_true_left, Bool.cond_false_right, Bool.cond_true, Bool.cond_false, Option.toArray_some, Option.toArray_none, List.append_toArray, List.cons_append, List.nil_append, List.append_nil, List.size_toArray, List.length_cons, List.length_nil, Nat.reduceAdd, Nat.reduceSub, Nat.reduceMul, Nat.reduceDiv, Nat.reduceEqDiff, Nat.reduceBEq, Nat.reduceLeDiff, Nat.reduceLT, Nat.succ_ne_self, Bool.not_true, Bool.not_false, beq_self_eq_true, List.replicate_succ, List.replicate_zero, Bool.and_true, Bool.true_and, Bool.and_self, Bool.and_false, Bool.false_and, Bool.or_false, Bool.or_true, Bool.false_or, Bool.true_or, SV.sl.injEq, SV.int.injEq, Data.ints.injEq, tl, Int.reduceLT, Int.reduceLE, Int.reduceGT, Int.reduceGE, Int.reduceEq, Int.reduceNe, Int.reduceMul, Int.reduceNeg, decide_true, decide_false, gt_iff_lt, ge_iff_le, e2, e3, e4, e5, t2, t3, t4, t5, g2, g3, g4, g5]
        refine ⟨by omega, by omega, ?_⟩
        refine ih (i + 1, _) _ (by show i + 1 ≤ 64; omega) (by simp only; omega) rfl ?_ ?_
        · rw [w64 (by omega) (by omega)]
          simp [Press_S, LeT]
        · intro n x hx
          rw [hset _ hi']
          simpa [Press_S, fnd, schedL, h16, nextL] using hx
    · rename_i hc
      have hi' : i = 64 := by
        have : i ≤ 64 := hi
        simp at hc; omega
      subst hi'
      refine draw_go TO 24 100 mixed_ok (by decide +kernel) ?_
      simp only [List.take_succ_cons, List.take_zero, List.drop_succ_cons, List.drop_zero, pureOpC, buildV, fillC, intsP, cntC, arrPV, fieldV, gloadV, GT, unc, capV, sliceC, fitT, isEff, absD, pureStep, subB, svs, blks, AV.sv, absRun, absOps, absOp, evO, constSV, ungd, gdP, gdPs, setD, binI, binV, unV, convV, binS, T_ty, T_size, T_bytes, T_zero, tTy, tSize, tBytes, tZero, fieldOf, faddrV, iaddrV, indexV, extractV, lowI, highI, maxP, sliceV, pickV, pureOp, guardOf, memOp, lenV, loadV, newV, notIn, dataOf, nilD, appD, isSrc, scal, cellsOf, elemsOf, intsOf, strsOf, rowsOf, rowOf, zI, isStr, isB, isI, isA, known, cellAt, arrAt, takeC, dropC, setC, setA, blkAt, fnd, upd, del, mv, elemV, one, Data.len, Data.esz, Data.sub, Lim.add, retP, resV, retQ, rAs, rA, rA0, rAl, ownN, nodup, bares, bare, bare0, bareL, bareD, inRet, flats, flatV, flat1, flat2, guardIs, callP, callS, argS, argC, mAs, mA, mA0, mB0, rowsM, mAl, lowD, allNotIn, nm, impN, impB, impT, packS, delL, Op.operands, Call.operands, List.getD, List.getElem?_cons_zero, List.getElem?_cons_succ, List.getElem?_nil, Option.getD_some, Option.getD_none, List.set, List.map, List.all, List.toList_toArray, List.getElem?_toArray, Option.bind_some, Option.bind_none, Option.map_some, Option.map_none, Option.isSome, exitTo, true_and, and_true, false_and, and_false, and_self, implies_true, reduceIte, imp_self, if_true, if_false, ite_self, eq_self, ne_eq, not_false_eq_true, not_true_eq_false, false_implies, true_implies, forall_const, reduceCtorEq, Bool.false_eq_true, List.take_length, Nat.zero_add, Nat.add_zero, Int.sub_zero, Int.zero_add, Int.add_zero, Int.toNat_natCast, Int.cast_ofNat_Int, Int.reduceToNat, Int.reduceSub, Int.reduceAdd, Nat.le_refl, Int.le_refl, Int.toNat_zero, Int.reduceBNe, Int.reduceBEq, Bool.cond_true_left, Bool.cond_false_right, Bool.cond_true, Bool.cond_false, Option.toArray_some, Option.toArray_none, List.append_toArray, List.cons_append, List.nil_append, List.append_nil, List.size_toArray, List.length_cons, List.length_nil, Nat.reduceAdd, Nat.reduceSub, Nat.reduceMul, Nat.reduceDiv, Nat.reduceEqDiff, Nat.reduceBEq, Nat.reduceLeDiff, Nat.reduceLT, Nat.succ_ne_self, Bool.not_true, Bool.not_false, beq_self_eq_true, List.replicate_succ, List.replicate_zero, Bool.and_true, Bool.true_and, Bool.and_self, Bool.and_false, Bool.false_and, Bool.or_false, Bool.or_true, Bool.false_or, Bool.true_or, SV.sl.injEq, SV.int.injEq, Data.ints.injEq, tl, Int.reduceLT, Int.reduceLE, Int.reduceGT, Int.reduceGE, Int.reduceEq, Int.reduceNe, Int.reduceMul, Int.reduceNeg, decide_true, decide_false, gt_iff_lt, ge_iff_le, Nat.sub_self]
      refine ⟨rfl, ?_⟩
      have hw : (schedL b 64).length = 64 := schedL_length b 64
      generalize hwe : schedL b 64 = w at *
      refine loop_go (fun x : Nat × Nat => x.1 ≤ 64) (fun x => Press_S2 st b w (roundsL G0 w (w8 st) x.1) x.1 x.2) (fun x => 64 - x.1) (0, _) (Nat.zero_le _) ⟨rfl, ?_, ?_⟩ ?_
      · simp [Press_S2, LeT, roundsL, w8]
      · intro n x hx
        simpa [Press_S2, fnd] using hx
      · rintro ⟨i, c⟩ hi ih
        refine absRun_ok TO 100 _ _ ?_
        simp only [Press_S2, List.take_succ_cons, List.take_zero, List.drop_succ_cons, List.drop_zero, pureOpC, buildV, fillC, intsP, cntC, arrPV, fieldV, gloadV, GT, unc, capV, sliceC, fitT, isEff, absD, pureStep, subB, svs, blks, AV.sv, absRun, absOps, absOp, evO, constSV, ungd, gdP, gdPs, setD, binI, binV, unV, convV, binS, T_ty, T_size, T_bytes, T_zero, tTy, tSize, tBytes, tZero, fieldOf, faddrV, iaddrV, indexV, extractV, lowI, highI, maxP, sliceV, pickV, pureOp, guardOf, memOp, lenV, loadV, newV, notIn, dataOf, nilD, appD, isSrc, scal, cellsOf, elemsOf, intsOf, strsOf, rowsOf, rowOf, zI, isStr, isB, isI, isA, known, cellAt, arrAt, takeC, dropC, setC, setA, blkAt, fnd, upd, del, mv, elemV, one, Data.len, Data.esz, Data.sub, Lim.add, retP, resV, retQ, rAs, rA, rA0, rAl, ownN, nodup, bares, bare, bare0, bareL, bareD, inRet, flats, flatV, flat1, flat2, guardIs, callP, callS, argS, argC, mAs, mA, mA0, mB0, rowsM, mAl, lowD, allNotIn, nm, impN, impB, impT, packS, delL, Op.operands, Call.operands, List.getD, List.getElem?_cons_zero, List.getElem?_cons_succ, List.getElem?_nil, Option.getD_some, Option.getD_none, List.set, List.map, List.all, List.toList_toArray, List.getElem?_toArray, Option.bind_some, Option.bind_none, Option.map_some, Option.map_none, Option.isSome, exitTo, true_and, and_true, false_and, and_false, and_self, implies_true, reduceIte, imp_self, if_true, if_false, ite_self, eq_self, ne_eq, not_false_eq_true, not_true_eq_false, false_implies, true_implies, forall_const, reduceCtorEq, Bool.false_eq_true, List.take_length, Nat.zero_add, Nat.add_zero, Int.sub_zero, Int.zero_add, Int.add_zero, Int.toNat_natCast, Int.cast_ofNat_Int, Int.reduceToNat, Int.reduceSub, Int.reduceAdd, Nat.le_refl, Int.le_refl, Int.toNat_zero, Int.reduceBNe, Int.reduceBEq, Bool.cond_true_left, Bool.cond_false_right, Bool.cond_true, Bool.cond_false, Option.toArray_some, Option.toArray_none, List.append_toArray, List.cons_append, List.nil_append, List.append_nil, List.size_toArray, List.length_cons, List.length_nil, Nat.reduceAdd, Nat.reduceSub, Nat.reduceMul, Nat.reduceDiv, Nat.reduceEqDiff, Nat.reduceBEq, Nat.reduceLeDiff, Nat.reduceLT, Nat.succ_ne_self, Bool.not_true, Bool.not_false, beq_self_eq_true, List.replicate_succ, List.replicate_zero, Bool.and_true, Bool.true_and, Bool.and_self, Bool.and_false, Bool.false_and, Bool.or_false, Bool.or_true, Bool.false_or, Bool.true_or, SV.sl.injEq, SV.int.injEq, Data.ints.injEq, tl, Int.reduceLT, Int.reduceLE, Int.reduceGT, Int.reduceGE, Int.reduceEq, Int.reduceNe, Int.reduceMul, Int.reduceNeg, decide_true, decide_false, gt_iff_lt, ge_iff_le]
        split
        · rename_i hc
          have hi' : i < 64 := by simp at hc; omega
          refine ⟨by omega, ?_⟩
          refine draw_go TO 18 100 mixed_ok (by decide +kernel) ?_
          have hT1 := turn_meets (roundsL G0 w (w8 st) i).e 6 11 25 (by decide) (by decide) (by decide)
          have hT2 := turn_meets (roundsL G0 w (w8 st) i).a 2 13 22 (by decide) (by decide) (by decide)
          have hr : roundsL G0 w (w8 st) (i + 1) = roundL (roundsL G0 w (w8 st) i) (G0[i]?.getD 0) (w[i]?.getD 0) := rfl
          simp only [List.take_succ_cons, List.take_zero, List.drop_succ_cons, List.drop_zero, pureOpC, buildV, fillC, intsP, cntC, arrPV, fieldV, gloadV, GT, unc, capV, sliceC, fitT, isEff, absD, pureStep, subB, svs, blks, AV.sv, absRun, absOps, absOp, evO, constSV, ungd, gdP, gdPs, setD, binI, binV, unV, convV, binS, T_ty, T_size, T_bytes, T_zero, tTy, tSize, tBytes, tZero, fieldOf, faddrV, iaddrV, indexV, extractV, lowI, highI, maxP, sliceV, pickV, pureOp, guardOf, memOp, lenV, loadV, newV, notIn, dataOf, nilD, appD, isSrc, scal, cellsOf, elemsOf, intsOf, strsOf, rowsOf, rowOf, zI, isStr, isB, isI, isA, known, cellAt, arrAt, takeC, dropC, setC, setA, blkAt, fnd, upd, del, mv, elemV, one, Data.len, Data.esz, Data.sub, Lim.add, retP, resV, retQ, rAs, rA, rA0, rAl, ownN, nodup, bares, bare, bare0, bareL, bareD, inRet, flats, flatV, flat1, flat2, guardIs, callP, callS, argS, argC, mAs, mA, mA0, mB0, rowsM, mAl, lowD, allNotIn, nm, impN, impB, impT, packS, delL, Op.operands, Call.operands, List.getD, List.getElem?_cons_zero, List.getElem?_cons_succ, List.getElem?_nil, Option.getD_some, Option.getD_none, List.set, List.map, List.all, List.toList_toArray, List.getElem?_toArray, Option.bind_some, Option.bind_none, Option.map_some, Option.map_none, Option.isSome, exitTo, true_and, and_true, false_and, and_false, and_self, implies_true, reduceIte, imp_self, if_true, if_false, ite_self, eq_self, ne_eq, not_false_eq_true, not_true_eq_false, false_implies, true_implies, forall_const, reduceCtorEq, Bool.false_eq_true, List.take_length, Nat.zero_add, Nat.add_zero, Int.sub_zero, Int.zero_add, Int.add_zero, Int.toNat_natCast, Int.cast_ofNat_Int, Int.reduceToNat, Int.reduceSub, Int.reduceAdd, Nat.le_refl, Int.le_refl, Int.toNat_zero, Int.reduceBNe, Int.reduceBEq, Bool.cond_true_left, Bool.cond_false_right, Bool.cond_true, Bool.cond_false, Option.toArray_some, Option.toArray_none, List.append_toArray, List.cons_append, List.nil_append, List.append_nil, List.size_toArray, List.length_cons, List.length_nil, Nat.reduceAdd, Nat.reduceSub, Nat.reduceMul, Nat.reduceDiv, Nat.reduceEqDiff, Nat.reduceBEq, Nat.reduceLeDiff, Nat.reduceLT, Nat.succ_ne_self, Bool.not_true, Bool.not_false, beq_self_eq_true, List.replicate_succ, List.replicate_zero, Bool.and_true, Bool.true_and, Bool.and_self, Bool.and_false, Bool.false_and, Bool.or_false, Bool.or_true, Bool.false_or, Bool.true_or, SV.sl.injEq, SV.int.injEq, Data.ints.injEq, tl, Int.reduceLT, Int.reduceLE, Int.reduceGT, Int.reduceGE, Int.reduceEq, Int.reduceNe, Int.reduceMul, Int.reduceNeg, decide_true, decide_false, gt_iff_lt, ge_iff_le]
          refine callD_go TO (fun s' h' => HOps_go TO 100 h') hT1 Tryd.func40 (by decide +kernel) rfl rfl rfl ?_
          simp only [List.take_succ_cons, List.take_zero, List.drop_succ_cons, List.drop_zero, pureOpC, buildV, fillC, intsP, cntC, arrPV, fieldV, gloadV, GT, unc, capV, sliceC, fitT, isEff, absD, pureStep, subB, svs, blks, AV.sv, absRun, absOps, absOp, evO, constSV, ungd, gdP, gdPs, setD, binI, binV, unV, convV, binS, T_ty, T_size, T_bytes, T_zero, tTy, tSize, tBytes, tZero, fieldOf, faddrV, iaddrV, indexV, extractV, lowI, highI, maxP, sliceV, pickV, pureOp, guardOf, memOp, lenV, loadV, newV, notIn, dataOf, nilD, appD, isSrc, scal, cellsOf, elemsOf, intsOf, strsOf, rowsOf, rowOf, zI, isStr, isB, isI, isA, known, cellAt, arrAt, takeC, dropC, setC, setA, blkAt, fnd, upd, del, mv, elemV, one, Data.len, Data.esz, Data.sub, Lim.add, retP, resV, retQ, rAs, rA, rA0, rAl, ownN, nodup, bares, bare, bare0, bareL, bareD, inRet, flats, flatV, flat1, flat2, guardIs, callP, callS, argS, argC, mAs, mA, mA0, mB0, rowsM, mAl, lowD, allNotIn, nm, impN, impB, impT, packS, delL, Op.operands, Call.operands, List.getD, List.getElem?_cons_zero, List.getElem?_cons_succ, List.getElem?_nil, Option.getD_some, Option.getD_none, List.set, List.map, List.all, List.toList_toArray, List.getElem?_toArray, Option.bind_some, Option.bind_none, Option.map_some, Option.map_none, Option.isSome, exitTo, true_and, and_true, false_and, and_false, and_self, implies_true, reduceIte, imp_self, if_true, if_false, ite_self, eq_self, ne_eq, not_false_eq_true, not_true_eq_false, false_implies, true_implies, forall_const, reduceCtorEq, Bool.false_eq_true, List.take_length, Nat.zero_add, Nat.add_zero, Int.sub_zero, Int.zero_add, Int.add_zero, Int.toNat_natCast, Int.cast_ofNat_Int, Int.reduceToNat, Int.reduceSub, Int.reduceAdd, Nat.le_refl, Int.le_refl, Int.toNat_zero, Int.reduceBNe, Int.reduceBEq, Bool.cond_true_left, Bool.cond_false_right, Bool.cond_true, Bool.cond_false, Option.toArray_some, Option.toArray_none, List.append_toArray, List.cons_append, List.nil_append, List.append_nil, List.size_toArray, List.length_cons, List.length_nil, Nat.reduceAdd, Nat.reduceSub, Nat.reduceMul, Nat.reduceDiv, Nat.reduceEqDiff, Nat.reduceBEq, Nat.reduceLeDiff, Nat.reduceLT, Nat.succ_ne_self, Bool.not_true, Bool.not_false, beq_self_eq_true, List.replicate_succ, List.replicate_zero, Bool.and_true, Bool.true_and, Bool.and_self, Bool.and_false, Bool.false_and, Bool.or_false, Bool.or_true, Bool.false_or, Bool.true_or, SV.sl.injEq, SV.int.injEq, Data.ints.injEq, tl, Int.reduceLT, Int.reduceLE, Int.reduceGT, Int.reduceGE, Int.reduceEq, Int.reduceNe, Int.reduceMul, Int.reduceNeg, decide_true, decide_false, gt_iff_lt, ge_iff_le, Int.toNat_natCast]
          repeat refine ⟨by omega, ?_⟩
          refine call_go TO 100 hT2 Tryd.func40 (by decide +kernel) rfl rfl rfl ?_
          simp only [List.take_succ_cons, List.take_zero, List.drop_succ_cons, List.drop_zero, pureOpC, buildV, fillC, intsP, cntC, arrPV, fieldV, gloadV, GT, unc, capV, sliceC, fitT, isEff, absD, pureStep, subB, svs, blks, AV.sv, absRun, absOps, absOp, evO, constSV, ungd, gdP, gdPs, setD, binI, binV, unV, convV, binS, T_ty, T_size, T_bytes, T_zero, tTy, tSize, tBytes, tZero, fieldOf, faddrV, iaddrV, indexV, extractV, lowI, highI, maxP, sliceV, pickV, pureOp, guardOf, memOp, lenV, loadV, newV, notIn, dataOf, nilD, appD, isSrc, scal, cellsOf, elemsOf, intsOf, strsOf, rowsOf, rowOf, zI, isStr, isB, isI, isA, known, cellAt, arrAt, takeC, dropC, setC, setA, blkAt, fnd, upd, del, mv, elemV, one, Data.len, Data.esz, Data.sub, Lim.add, retP, resV, retQ, rAs, rA, rA0, rAl, ownN, nodup, bares, bare, bare0, bareL, bareD, inRet, flats, flatV, flat1, flat2, guardIs, callP, callS, argS, argC, mAs, mA, mA0, mB0, rowsM, mAl, lowD, allNotIn, nm, impN, impB, impT, packS, delL, Op.operands, Call.operands, List.getD, List.getElem?_cons_zero, List.getElem?_cons_succ, List.getElem?_nil, Option.getD_some, Option.getD_none, List.set, List.map, List.all, List.toList_toArray, List.getElem?_toArray, Option.bind_some, Option.bind_none, Option.map_some, Option.map_none, Option.isSome, exitTo, true_and, and_true, false_and, and_false, and_self, implies_true, reduceIte, imp_self, if_true, if_false, ite_self, eq_self, ne_eq, not_false_eq_true, not_true_eq_false, false_implies, true_implies, forall_const, reduceCtorEq, Bool.false_eq_true, List.take_length, Nat.zero_add, Nat.add_zero, Int.sub_zero, Int.zero_add, Int.add_zero, Int.toNat_natCast, Int.cast_ofNat_Int, Int.reduceToNat, Int.reduceSub, Int.reduceAdd, Nat.le_refl, Int.le_refl, Int.toNat_zero, Int.reduceBNe, Int.reduceBEq, Bool.cond_true_left, Bool.cond_false_right, Bool.cond_true, Bool.cond_false, Option.toArray_some, Option.toArray_none, List.append_toArray, List.cons_append, List.nil_append, List.append_nil, List.size_toArray, List.length_cons, List.length_nil, Nat.reduceAdd, Nat.reduceSub, Nat.reduceMul, Nat.reduceDiv, Nat.reduceEqDiff, Nat.reduceBEq, Nat.reduceLeDiff, Nat.reduceLT, Nat.succ_ne_self, Bool.not_true, Bool.not_false, beq_self_eq_true, List.replicate_succ, List.replicate_zero, Bool.and_true, Bool.true_and, Bool.and_self, Bool.and_false, Bool.false_and, Bool.or_false, Bool.or_true, Bool.false_or, Bool.true_or, SV.sl.injEq, SV.int.injEq, Data.ints.injEq, tl, Int.reduceLT, Int.reduceLE, Int.reduceGT, Int.reduceGE, Int.reduceEq, Int.reduceNe, Int.reduceMul, Int.reduceNeg, decide_true, decide_false, gt_iff_lt, ge_iff_le, Int.toNat_natCast]
          rw [w64 (by omega) (by omega)]
          refine ih (i + 1, _) _ (by show i + 1 ≤ 64; omega) (by simp only; omega) rfl ?_ ?_
          · simp [Press_S2, LeT, hr, roundL, xL, yL]
          · intro n x hx; simpa [Press_S2, fnd] using hx
        · rename_i hc
          have hi' : i = 64 := by
            have : i ≤ 64 := hi
            simp at hc; omega
          subst hi'
          have hl8 : (l8 (roundsL G0 w (w8 st) 64)).length = 8 := rfl
          have hfin : pressL G0 st b = addL st (l8 (roundsL G0 w (w8 st) 64)) := by unfold pressL; rw [hwe]
          rw [hfin]
          generalize hr8 : roundsL G0 w (w8 st) 64 = r at *
          refine loop_go (fun x : Nat × Nat => x.1 ≤ 8) (fun x => Press_S3 st (l8 r) (addL (st.take x.1) ((l8 r).take x.1) ++ st.drop x.1) x.1 x.2) (fun x => 8 - x.1) (0, _) (Nat.zero_le _) ⟨rfl, ?_, ?_⟩ ?_
          · simp [Press_S3, LeT, l8]
          · intro n x hx
            simp only [Press_S3, fnd] at hx ⊢
            split
            · rename_i h; simp only [h, if_true] at hx; simpa [addL] using hx
            · rename_i h
              simp only [h, if_false] at hx
              split at hx <;> simp_all
          · rintro ⟨i, c⟩ hi ih
            refine absRun_ok TO 100 _ _ ?_
            simp only [Press_S3, List.take_succ_cons, List.take_zero, List.drop_succ_cons, List.drop_zero, pureOpC, buildV, fillC, intsP, cntC, arrPV, fieldV, gloadV, GT, unc, capV, sliceC, fitT, isEff, absD, pureStep, subB, svs, blks, AV.sv, absRun, absOps, absOp, evO, constSV, ungd, gdP, gdPs, setD, binI, binV, unV, convV, binS, T_ty, T_size, T_bytes, T_zero, tTy, tSize, tBytes, tZero, fieldOf, faddrV, iaddrV, indexV, extractV, lowI, highI, maxP, sliceV, pickV, pureOp, guardOf, memOp, lenV, loadV, newV, notIn, dataOf, nilD, appD, isSrc, scal, cellsOf, elemsOf, intsOf, strsOf, rowsOf, rowOf, zI, isStr, isB, isI, isA, known, cellAt, arrAt, takeC, dropC, setC, setA, blkAt, fnd, upd, del, mv, elemV, one, Data.len, Data.esz, Data.sub, Lim.add, retP, resV, retQ, rAs, rA, rA0, rAl, ownN, nodup, bares, bare, bare0, bareL, bareD, inRet, flats, flatV, flat1, flat2, guardIs, callP, callS, argS, argC, mAs, mA, mA0, mB0, rowsM, mAl, lowD, allNotIn, nm, impN, impB, impT, packS, delL, Op.operands, Call.operands, List.getD, List.getElem?_cons_zero, List.getElem?_cons_succ, List.getElem?_nil, Option.getD_some, Option.getD_none, List.set, List.map, List.all, List.toList_toArray, List.getElem?_toArray, Option.bind_some, Option.bind_none, Option.map_some, Option.map_none, Option.isSome, exitTo, true_and, and_true, false_and, and_false, and_self, implies_true, reduceIte, imp_self, if_true, if_false, ite_self, eq_self, ne_eq, not_false_eq_true, not_true_eq_false, false_implies, true_implies, forall_const, reduceCtorEq, Bool.false_eq_true, List.take_length, Nat.zero_add, Nat.add_zero, Int.sub_zero, Int.zero_add, Int.add_zero, Int.toNat_natCast, Int.cast_ofNat_Int, Int.reduceToNat, Int.reduceSub, Int.reduceAdd, Nat.le_refl, Int.le_refl, Int.toNat_zero, Int.reduceBNe, Int.reduceBEq, Bool.cond_true_left, Bool.cond_false_right, Bool.cond_true, Bool.cond_false, Option.toArray_some, Option.toArray_none, List.append_toArray, List.cons_append, List.nil_append, List.append_nil, List.size_toArray, List.length_cons, List.length_nil, Nat.reduceAdd, Nat.reduceSub, Nat.reduceMul, Nat.reduceDiv, Nat.reduceEqDiff, Nat.reduceBEq, Nat.reduceLeDiff, Nat.reduceLT, Nat.succ_ne_self, Bool.not_true, Bool.not_false, beq_self_eq_true, List.replicate_succ, List.replicate_zero, Bool.and_true, Bool.true_and, Bool.and_self, Bool.and_false, Bool.false_and, Bool.or_false, Bool.or_true, Bool.false_or, Bool.true_or, SV.sl.injEq, SV.int.injEq, Data.ints.injEq, tl, Int.reduceLT, Int.reduceLE, Int.reduceGT, Int.reduceGE, Int.reduceEq, Int.reduceNe, Int.reduceMul, Int.reduceNeg, decide_true, decide_false, gt_iff_lt, ge_iff_le]
            split
            · rename_i hc
              have hi' : i < 8 := by simp at hc; omega
              rw [w64 (by omega) (by omega)]
              repeat refine ⟨by omega, ?_⟩
              refine ih (i + 1, _) _ (by show i + 1 ≤ 8; omega) (by simp only; omega) rfl ?_ ?_
              · simp [Press_S3, LeT]
              · intro n x hx
                rw [addL_step st (l8 r) i (by omega) (by rw [hs, hl8])]
                simpa [Press_S3, fnd] using hx
            · rename_i hc
              have hi' : i = 8 := by
                have : i ≤ 8 := hi
                simp at hc; omega
              subst hi'
              rw [List.take_of_length_le (by omega), List.take_of_length_le (by omega), List.drop_of_length_le (by omega), List.append_nil]

end Go.Proofs.YtcbeacpikgilnaaDoor.Abs
