/- Joined: S1 S2 S3 S4 S5 S6 S7. -/
import Derived.Test.YtdhnjmepgafeiaaDoorT
import Derived.Test.YtdhnjmepgafeiaaDoorFX
import Derived.Test.YtdhnjmepgafeiaaDoorB5
/- What the turnings of words answer. -/
set_option linter.unusedVariables false
set_option linter.unusedSimpArgs false
set_option maxRecDepth 100000
namespace Go.Proofs.YtdhnjmepgafeiaaDoor.Abs
open Go Go.Proofs

/-- A word, turned down by so many bits. -/
def rotr (x : Int) (s : Nat) : Int := bitsI .or .u32 (shrI .u32 x s) (shlI .u32 x (32 - s))

theorem or_comm32 (k : IntKind) (a b : Int) : bitsI .or k a b = bitsI .or k b a := by simp only [bitsI, BitVec.or_comm]
theorem xor_comm32 (k : IntKind) (a b : Int) : bitsI .xor k a b = bitsI .xor k b a := by simp only [bitsI, BitVec.xor_comm]

theorem neg_and (s : Nat) (h : 0 < s ∧ s < 32) : bitsI .and .u64 (IntKind.u64.wrap (-s)) 31 = 32 - s := by
  have : ∀ s : Fin 32, 0 < s.val → bitsI .and .u64 (IntKind.u64.wrap (-(s.val : Int))) 31 = 32 - s.val := by decide +kernel
  exact this ⟨s, h.2⟩ h.1

theorem RotateLeft32_meets (x : Int) (s : Nat) (h : 0 < s ∧ s < 32) : Meets Tryd.prog 66 [.v (.int .u32 x), .v (.int .i64 (-s))] [.v (.int .u32 (rotr x s))] := by
  refine meets_go TO 100 Tryd.func66 rfl (fun X => ?_)
  simp only [Tryd.ntmps66, Tryd.results66, pureOpC, unc, svs, blks, AV.sv, absRun, absOps, absOp, evO, constSV, ungd, gdP, gdPs, setD, binI, binV, ptrE, convV, T_ty, tTy, pureOp, known, retP, resV, retQ, rAs, rA, rA0, ownN, nodup, bares, bare, bare0, Op.operands, List.getD, List.getElem?_cons_zero, List.getElem?_cons_succ, Option.getD_some, List.set, List.map, List.toList_toArray, true_and, and_true, and_self, eq_self, Nat.zero_add, List.cons_append, List.nil_append, List.length_cons, List.length_nil, Nat.reduceAdd, Nat.reduceSub, List.replicate_succ, List.replicate_zero, Bool.and_self]
  rw [neg_and s h, wu64 (by omega) (by omega)]
  refine ⟨by omega, by omega, ?_⟩
  rw [show (32 - (32 - (s : Int))) = s by omega, or_comm32]; rfl

theorem turned_meets (x : Int) (s : Nat) (h : 0 < s ∧ s < 32) : Meets Tryd.prog 64 [.v (.int .u32 x), .v (.int .u64 s)] [.v (.int .u32 (rotr x s))] := by
  refine meets_go TO 100 Tryd.func64 rfl (fun X => ?_)
  simp only [Tryd.ntmps64, Tryd.results64, pureOpC, unc, svs, blks, AV.sv, absRun, absOps, absOp, evO, constSV, ungd, gdP, gdPs, setD, binI, binV, ptrE, pureOp, retP, resV, retQ, rAs, rA, rA0, ownN, nodup, bares, bare, bare0, Op.operands, List.getD, List.getElem?_cons_zero, List.getElem?_cons_succ, Option.getD_some, List.set, List.map, List.toList_toArray, true_and, and_true, and_self, eq_self, Nat.zero_add, List.cons_append, List.nil_append, List.length_cons, List.length_nil, Nat.reduceAdd, Nat.reduceSub, List.replicate_succ, List.replicate_zero, Bool.and_self]
  rw [wu64 (by omega) (by omega)]
  exact ⟨by omega, by omega, rfl⟩

def turn3 (x : Int) (a b c : Nat) : Int := bitsI .xor .u32 (bitsI .xor .u32 (rotr x a) (rotr x b)) (rotr x c)
def small3 (x : Int) (a b c : Nat) : Int := bitsI .xor .u32 (bitsI .xor .u32 (rotr x a) (rotr x b)) (shrI .u32 x c)

theorem turn_meets (x : Int) (a b c : Nat) (ha : 0 < a ∧ a < 32) (hb : 0 < b ∧ b < 32) (hc : 0 < c ∧ c < 32) : Meets Tryd.prog 61 [.v (.int .u32 x), .v (.int .i64 a), .v (.int .i64 b), .v (.int .i64 c)] [.v (.int .u32 (turn3 x a b c))] := by
  refine meets_go TO 100 Tryd.func61 rfl (fun X => ?_)
  simp only [Tryd.ntmps61, Tryd.results61, pureOpC, unc, svs, blks, AV.sv, absRun, absOps, absOp, evO, constSV, ungd, gdP, gdPs, setD, unV, pureOp, memOp, Op.operands, List.getD, List.getElem?_cons_zero, List.getElem?_cons_succ, Option.getD_some, List.set, List.toList_toArray, true_and, and_self, Nat.zero_add, List.cons_append, List.nil_append, List.length_cons, List.length_nil, Nat.reduceAdd, Nat.reduceSub, List.replicate_succ, List.replicate_zero]
  have e : ∀ s : Nat, s < 32 → IntKind.i64.wrap (0 - (s : Int)) = -s := fun s hs => by rw [w64 (by omega) (by omega)]; omega
  simp only [e a ha.2]
  refine call_go TO 100 (RotateLeft32_meets x a ha) Tryd.func66 (by decide +kernel) rfl rfl rfl ?_
  simp only [pureOpC, unc, absOps, absOp, evO, ungd, gdP, gdPs, setD, unV, pureOp, memOp, ownN, nodup, bares, bare, bare0, guardIs, callP, callS, argS, mAs, mA, mA0, mB0, allNotIn, impN, impB, impT, packS, delL, Op.operands, List.getD, List.getElem?_cons_zero, List.getElem?_cons_succ, Option.getD_some, List.set, List.map, List.toList_toArray, true_and, and_self, eq_self, List.append_nil, Bool.and_self, e b hb.2]
  refine call_go TO 100 (RotateLeft32_meets x b hb) Tryd.func66 (by decide +kernel) rfl rfl rfl ?_
  simp only [pureOpC, unc, absOps, absOp, evO, ungd, gdP, gdPs, setD, binI, binV, ptrE, unV, pureOp, memOp, ownN, nodup, bares, bare, bare0, guardIs, callP, callS, argS, mAs, mA, mA0, mB0, allNotIn, impN, impB, impT, packS, delL, Op.operands, List.getD, List.getElem?_cons_zero, List.getElem?_cons_succ, Option.getD_some, List.set, List.map, List.toList_toArray, true_and, and_self, eq_self, List.append_nil, Bool.and_self, e c hc.2]
  refine call_go TO 100 (RotateLeft32_meets x c hc) Tryd.func66 (by decide +kernel) rfl rfl rfl ?_
  simp only [pureOpC, unc, absRun, absOps, absOp, evO, ungd, gdP, gdPs, setD, binI, binV, ptrE, pureOp, retP, resV, retQ, rAs, rA, rA0, ownN, nodup, bares, bare, bare0, guardIs, callP, callS, argS, mAs, mA, mA0, mB0, allNotIn, impN, impB, impT, packS, delL, Op.operands, List.getD, List.getElem?_cons_zero, List.getElem?_cons_succ, Option.getD_some, List.set, List.map, List.toList_toArray, true_and, and_true, and_self, eq_self, List.append_nil, Bool.and_self]
  rfl

theorem small_meets (x : Int) (a b c : Nat) (ha : 0 < a ∧ a < 32) (hb : 0 < b ∧ b < 32) : Meets Tryd.prog 60 [.v (.int .u32 x), .v (.int .i64 a), .v (.int .i64 b), .v (.int .u64 c)] [.v (.int .u32 (small3 x a b c))] := by
  refine meets_go TO 100 Tryd.func60 rfl (fun X => ?_)
  simp only [Tryd.ntmps60, Tryd.results60, pureOpC, unc, svs, blks, AV.sv, absRun, absOps, absOp, evO, constSV, ungd, gdP, gdPs, setD, unV, pureOp, memOp, Op.operands, List.getD, List.getElem?_cons_zero, List.getElem?_cons_succ, Option.getD_some, List.set, List.toList_toArray, true_and, and_self, Nat.zero_add, List.cons_append, List.nil_append, List.length_cons, List.length_nil, Nat.reduceAdd, Nat.reduceSub, List.replicate_succ, List.replicate_zero]
  have e : ∀ s : Nat, s < 32 → IntKind.i64.wrap (0 - (s : Int)) = -s := fun s hs => by rw [w64 (by omega) (by omega)]; omega
  simp only [e a ha.2]
  refine call_go TO 100 (RotateLeft32_meets x a ha) Tryd.func66 (by decide +kernel) rfl rfl rfl ?_
  simp only [pureOpC, unc, absOps, absOp, evO, ungd, gdP, gdPs, setD, unV, pureOp, memOp, ownN, nodup, bares, bare, bare0, guardIs, callP, callS, argS, mAs, mA, mA0, mB0, allNotIn, impN, impB, impT, packS, delL, Op.operands, List.getD, List.getElem?_cons_zero, List.getElem?_cons_succ, Option.getD_some, List.set, List.map, List.toList_toArray, true_and, and_self, eq_self, List.append_nil, Bool.and_self, e b hb.2]
  refine call_go TO 100 (RotateLeft32_meets x b hb) Tryd.func66 (by decide +kernel) rfl rfl rfl ?_
  simp only [pureOpC, unc, absRun, absOps, absOp, evO, ungd, gdP, gdPs, setD, binI, binV, ptrE, pureOp, retP, resV, retQ, rAs, rA, rA0, ownN, nodup, bares, bare, bare0, guardIs, callP, callS, argS, mAs, mA, mA0, mB0, allNotIn, impN, impB, impT, packS, delL, Op.operands, List.getD, List.getElem?_cons_zero, List.getElem?_cons_succ, Option.getD_some, List.set, List.map, List.toList_toArray, true_and, and_true, and_self, eq_self, List.append_nil, Bool.and_self]
  exact ⟨by omega, rfl⟩

def beginL : List Int := [1779033703, 3144134277, 1013904242, 2773480762, 1359893119, 2600822924, 528734635, 1541459225]

theorem Begin_meets : Meets Tryd.prog 54 [] [.v (.arr .u32 8 beginL)] := by
  refine meets_go TO 100 Tryd.func54 rfl (fun X => ?_)
  simp only [Tryd.ntmps54, Tryd.results54, pureOpC, buildV, intsP, unc, svs, blks, absRun, absOps, absOp, evO, constSV, ungd, gdP, gdPs, setD, T_ty, T_size, T_zero, tTy, tSize, tZero, pureOp, memOp, loadV, newV, notIn, arrAt, setA, blkAt, fnd, upd, Lim.add, retP, resV, retQ, rAs, rA, ownN, nodup, bares, bare, Op.operands, List.getD, List.getElem?_cons_zero, List.getElem?_cons_succ, Option.getD_some, List.set, List.map, List.toList_toArray, Option.map_some, Option.map_none, true_and, and_true, and_self, if_true, ite_self, eq_self, ne_eq, not_false_eq_true, reduceCtorEq, Nat.zero_add, Nat.add_zero, List.nil_append, List.length_cons, List.length_nil, Nat.reduceAdd, Nat.reduceSub, Nat.reduceLeDiff, List.replicate_succ, List.replicate_zero, Bool.and_self]
  rfl

theorem rBegin_meets : Meets Tryd.prog 58 [] [.v (.arr .u32 8 beginL)] := by
  refine meets_go TO 100 Tryd.func58 rfl (fun X => ?_)
  simp only [Tryd.ntmps58, Tryd.results58, pureOpC, buildV, intsP, unc, svs, blks, absRun, absOps, absOp, evO, constSV, ungd, gdP, gdPs, setD, T_ty, T_size, T_zero, tTy, tSize, tZero, pureOp, memOp, loadV, newV, notIn, arrAt, setA, blkAt, fnd, upd, Lim.add, retP, resV, retQ, rAs, rA, ownN, nodup, bares, bare, Op.operands, List.getD, List.getElem?_cons_zero, List.getElem?_cons_succ, Option.getD_some, List.set, List.map, List.toList_toArray, Option.map_some, Option.map_none, true_and, and_true, and_self, if_true, ite_self, eq_self, ne_eq, not_false_eq_true, reduceCtorEq, Nat.zero_add, Nat.add_zero, List.nil_append, List.length_cons, List.length_nil, Nat.reduceAdd, Nat.reduceSub, Nat.reduceLeDiff, List.replicate_succ, List.replicate_zero, Bool.and_self]
  rfl

end Go.Proofs.YtdhnjmepgafeiaaDoor.Abs

/- What a block, pressed, answers. -/
set_option linter.unusedVariables false
set_option linter.unusedSimpArgs false
set_option maxRecDepth 100000
namespace Go.Proofs.YtdhnjmepgafeiaaDoor.Abs
open Go Go.Proofs

/-- A word of a block. -/
def wordL (b : List Int) (t : Nat) : Int :=
  bitsI .or .u32 (bitsI .or .u32 (bitsI .or .u32 (shlI .u32 (IntKind.u32.wrap (b[4 * t]?.getD 0)) 24) (shlI .u32 (IntKind.u32.wrap (b[4 * t + 1]?.getD 0)) 16)) (shlI .u32 (IntKind.u32.wrap (b[4 * t + 2]?.getD 0)) 8)) (IntKind.u32.wrap (b[4 * t + 3]?.getD 0))

/-- The next word of the schedule. -/
def nextL (w : List Int) (t : Nat) : Int :=
  IntKind.u32.wrap (IntKind.u32.wrap (IntKind.u32.wrap (small3 (w[t - 2]?.getD 0) 17 19 10 + w[t - 7]?.getD 0) + small3 (w[t - 15]?.getD 0) 7 18 3) + w[t - 16]?.getD 0)

/-- The schedule. -/
def schedL (b : List Int) : Nat → List Int
  | 0 => []
  | t + 1 => schedL b t ++ [if t < 16 then wordL b t else nextL (schedL b t) t]

theorem schedL_length (b : List Int) (t : Nat) : (schedL b t).length = t := by
  induction t with
  | zero => rfl
  | succ t ih => simp [schedL, ih]

/-- Eight words. -/
structure W8 where
  a : Int
  b : Int
  c : Int
  d : Int
  e : Int
  f : Int
  g : Int
  h : Int

def xL (s : W8) (k w : Int) : Int := IntKind.u32.wrap (IntKind.u32.wrap (IntKind.u32.wrap (IntKind.u32.wrap (s.h + turn3 s.e 6 11 25) + bitsI .xor .u32 (bitsI .and .u32 s.e s.f) (bitsI .andNot .u32 s.g s.e)) + k) + w)
def yL (s : W8) : Int := IntKind.u32.wrap (turn3 s.a 2 13 22 + bitsI .or .u32 (bitsI .or .u32 (bitsI .and .u32 s.a s.b) (bitsI .and .u32 s.a s.c)) (bitsI .and .u32 s.b s.c))

/-- A round. -/
def roundL (s : W8) (k w : Int) : W8 := ⟨IntKind.u32.wrap (xL s k w + yL s), s.a, s.b, s.c, IntKind.u32.wrap (s.d + xL s k w), s.e, s.f, s.g⟩

def roundsL (K w : List Int) (s : W8) : Nat → W8
  | 0 => s
  | t + 1 => roundL (roundsL K w s t) (K[t]?.getD 0) (w[t]?.getD 0)

def w8 (l : List Int) : W8 := ⟨l[0]?.getD 0, l[1]?.getD 0, l[2]?.getD 0, l[3]?.getD 0, l[4]?.getD 0, l[5]?.getD 0, l[6]?.getD 0, l[7]?.getD 0⟩
def l8 (s : W8) : List Int := [s.a, s.b, s.c, s.d, s.e, s.f, s.g, s.h]

def addL : List Int → List Int → List Int
  | x :: l, y :: m => IntKind.u32.wrap (x + y) :: addL l m
  | _, _ => []

/-- A block, pressed into a state, by a table of constants. -/
def pressL (K st b : List Int) : List Int := addL st (l8 (roundsL K (schedL b 64) (w8 st) 64))

def Press_S (st b w : List Int) (i c : Nat) : St := ⟨[.any, .any, .ptr 2 2 0, .ptr 3 2 0, .ptr 4 2 0, .ptr 5 3 0] ++ List.replicate 15 .any ++ [.int .i64 i] ++ List.replicate 146 .any,
  [(2, 2, .cells [.arr .u32 8 st]), (3, 2, .cells [.arr .u8 64 b]), (4, 2, .cells [.arr .u32 8 (List.replicate 8 0)]), (5, 3, .cells [.arr .u32 64 w])], ⟨c, [], 0⟩⟩

def Press_S2 (st b w : List Int) (s : W8) (i c : Nat) : St := ⟨[.any, .any, .ptr 2 2 0, .any, .ptr 4 2 0, .ptr 5 3 0, .any, .int .u32 s.a, .int .u32 s.b, .int .u32 s.c, .int .u32 s.d, .int .u32 s.e, .int .u32 s.f, .int .u32 s.g, .int .u32 s.h] ++ List.replicate 82 .any ++ [.arr .u32 64 G0, .int .i64 i] ++ List.replicate 69 .any,
  [(2, 2, .cells [.arr .u32 8 st]), (3, 2, .cells [.arr .u8 64 b]), (4, 2, .cells [.arr .u32 8 (List.replicate 8 0)]), (5, 3, .cells [.arr .u32 64 w])], ⟨c, [], 0⟩⟩

def Press_S3 (st s8 : List Int) (l : List Int) (i c : Nat) : St := ⟨[.any, .any, .ptr 2 2 0, .any, .ptr 4 2 0] ++ List.replicate 150 .any ++ [.arr .u32 8 s8, .int .i64 i] ++ List.replicate 11 .any,
  [(2, 2, .cells [.arr .u32 8 l]), (4, 2, .cells [.arr .u32 8 (List.replicate 8 0)])], ⟨c, [], 0⟩⟩

theorem addL_step : ∀ (l m : List Int) (i : Nat), i < l.length → l.length = m.length → (addL (l.take i) (m.take i) ++ l.drop i).set i (IntKind.u32.wrap ((addL (l.take i) (m.take i) ++ l.drop i)[i]?.getD 0 + m[i]?.getD 0)) = addL (l.take (i + 1)) (m.take (i + 1)) ++ l.drop (i + 1)
  | x :: l, y :: m, 0, _, _ => by simp [addL]
  | x :: l, y :: m, i + 1, h, h' => by
    have := addL_step l m i (by simpa using h) (by simpa using h')
    simp only [List.take_succ_cons, List.drop_succ_cons, addL, List.cons_append, List.getElem?_cons_succ, List.set_cons_succ, this]
  | [], m, i, h, _ => by simp at h
  | x :: l, [], i, h, h' => by simp at h'

theorem addL_length : ∀ (l m : List Int), l.length = m.length → (addL l m).length = l.length
  | [], [], _ => rfl
  | x :: l, y :: m, h => by simp [addL, addL_length l m (by simpa using h)]
  | [], _ :: _, h => by simp at h
  | _ :: _, [], h => by simp at h

theorem pressL_length {K st b : List Int} (h : st.length = 8) : (pressL K st b).length = 8 := by
  unfold pressL; rw [addL_length _ _ (by simp [l8, h]), h]

set_option maxHeartbeats 4000000 in
theorem Press_meets (st b : List Int) (hs : st.length = 8) (hb : b.length = 64) (hB : Bytes b) : Meets Tryd.prog 55 [.v (.arr .u32 8 st), .v (.arr .u8 64 b)] [.v (.arr .u32 8 (pressL G0 st b))] := by
  refine meets_go TO 100 Tryd.func55 rfl (fun X => ?_)
  simp only [Tryd.ntmps55, Tryd.results55, pureOpC, unc, svs, blks, AV.sv, absRun, absOps, absOp, evO, constSV, ungd, gdP, gdPs, setD, T_size, T_zero, tSize, tZero, pureOp, memOp, newV, notIn, cellsOf, upd, Lim.add, Op.operands, List.getD, List.getElem?_cons_zero, List.getElem?_cons_succ, Option.getD_some, List.set, List.toList_toArray, true_and, and_self, if_false, ne_eq, not_false_eq_true, reduceCtorEq, Nat.zero_add, List.cons_append, List.nil_append, List.length_cons, List.length_nil, Nat.reduceAdd, Nat.reduceSub, Nat.reduceEqDiff, Nat.succ_ne_self, List.replicate_succ, List.replicate_zero]
  refine loop_go (fun x : Nat × Nat => x.1 ≤ 64) (fun x => Press_S st b (schedL b x.1 ++ List.replicate (64 - x.1) 0) x.1 x.2) (fun x => 64 - x.1) (0, _) (by decide) ⟨rfl, ?_, ?_⟩ ?_
  · simp [Press_S, LeT]
  · intro n x hx; simpa [Press_S, fnd, schedL] using hx
  · rintro ⟨i, c⟩ hi ih
    have hlw : (schedL b i ++ List.replicate (64 - i) (0 : Int)).length = 64 := by
      have : i ≤ 64 := hi
      simp [schedL_length]; omega
    have hset : ∀ v, i < 64 → (schedL b i ++ List.replicate (64 - i) 0).set i v = schedL b i ++ [v] ++ List.replicate (64 - (i + 1)) 0 := by
      intro v h
      obtain ⟨r, hr⟩ : ∃ r, 64 - i = r + 1 := ⟨64 - i - 1, by omega⟩
      rw [hr, show 64 - (i + 1) = r by omega, List.replicate_succ, List.set_append_right _ _ (by rw [schedL_length]; exact Nat.le_refl _), schedL_length]
      simp
    refine absRun_ok TO 100 _ _ ?_
    simp only [Press_S, pureOpC, unc, absRun, absOps, absOp, evO, constSV, ungd, gdP, gdPs, setD, binI, binV, ptrE, pureOp, Op.operands, List.getD, List.getElem?_cons_zero, List.getElem?_cons_succ, Option.getD_some, List.set, List.toList_toArray, exitTo, true_and, and_self, if_true, eq_self, List.cons_append, List.nil_append, beq_self_eq_true, List.replicate_succ, List.replicate_zero]
    split
    · rename_i hc
      have hi' : i < 64 := by simp at hc; omega
      split
      · rename_i hc2
        have h16 : i < 16 := by simp at hc2; omega
        refine draw_go TO 30 100 mixed_ok (by decide +kernel) ?_
        have e0 : IntKind.i64.wrap (4 * (i : Int)) = 4 * i := w64 (by omega) (by omega)
        have e1 : ∀ k : Nat, k < 4 → IntKind.i64.wrap (4 * (i : Int) + k) = 4 * i + k := fun k hk => w64 (by omega) (by omega)
        have e2 := e1 1 (by decide)
        have e3 := e1 2 (by decide)
        have e4 := e1 3 (by decide)
        simp only [Int.cast_ofNat_Int] at e2 e3 e4
        simp only [List.take_succ_cons, List.take_zero, List.drop_succ_cons, List.drop_zero, pureOpC, unc, isEff, absD, pureStep, absRun, absOps, absOp, evO, constSV, ungd, gdP, gdPs, setD, binI, binV, ptrE, convV, binS, T_ty, T_size, tTy, tSize, iaddrV, pureOp, memOp, loadV, scal, known, arrAt, setA, blkAt, fnd, upd, Op.operands, List.getD, List.getElem?_cons_zero, List.getElem?_cons_succ, Option.getD_some, List.set, List.toList_toArray, Option.map_none, Option.isSome, exitTo, true_and, and_true, and_self, implies_true, imp_self, if_true, if_false, ite_self, eq_self, ne_eq, not_false_eq_true, forall_const, reduceCtorEq, Bool.false_eq_true, Int.toNat_natCast, Int.cast_ofNat_Int, Nat.le_refl, Nat.reduceEqDiff, Nat.reduceBEq, Nat.reduceLeDiff, Nat.succ_ne_self, beq_self_eq_true, Int.reduceLE, Int.toNat_natCast, e0, e2, e3, e4, show (4 * (i : Int)).toNat = 4 * i by omega, show (4 * (i : Int) + 1).toNat = 4 * i + 1 by omega, show (4 * (i : Int) + 2).toNat = 4 * i + 2 by omega, show (4 * (i : Int) + 3).toNat = 4 * i + 3 by omega]
        repeat refine ⟨by omega, ?_⟩
        refine ih (i + 1, _) _ (by show i + 1 ≤ 64; omega) (by simp only; omega) rfl ?_ ?_
        · rw [w64 (by omega) (by omega)]
          simp [Press_S, LeT]
        · intro n x hx
          rw [hset _ hi']
          simpa [Press_S, fnd, schedL, h16, wordL] using hx
      · rename_i hc2
        have h16 : ¬ i < 16 := by simp at hc2; omega
        refine draw_go TO 22 100 mixed_ok (by decide +kernel) ?_
        have e2 : IntKind.i64.wrap ((i : Int) - 2) = i - 2 := w64 (by omega) (by omega)
        have e3 : IntKind.i64.wrap ((i : Int) - 7) = i - 7 := w64 (by omega) (by omega)
        have e4 : IntKind.i64.wrap ((i : Int) - 15) = i - 15 := w64 (by omega) (by omega)
        have e5 : IntKind.i64.wrap ((i : Int) - 16) = i - 16 := w64 (by omega) (by omega)
        have g : ∀ k, 1 ≤ k → k ≤ i → (schedL b i ++ List.replicate (64 - i) 0)[i - k]?.getD 0 = (schedL b i)[i - k]?.getD 0 := by
          intro k h1 h2
          rw [List.getElem?_append_left (by rw [schedL_length]; omega)]
        have t2 : ((i : Int) - 2).toNat = i - 2 := by omega
        have t3 : ((i : Int) - 7).toNat = i - 7 := by omega
        have t4 : ((i : Int) - 15).toNat = i - 15 := by omega
        have t5 : ((i : Int) - 16).toNat = i - 16 := by omega
        have g2 := g 2 (by omega) (by omega)
        have g3 := g 7 (by omega) (by omega)
        have g4 := g 15 (by omega) (by omega)
        have g5 := g 16 (by omega) (by omega)
        have hS1 := small_meets ((schedL b i)[i - 2]?.getD 0) 17 19 10 (by decide) (by decide)
        have hS2 := small_meets ((schedL b i)[i - 15]?.getD 0) 7 18 3 (by decide) (by decide)
        simp only [List.take_succ_cons, List.take_zero, List.drop_succ_cons, List.drop_zero, pureOpC, unc, isEff, absD, pureStep, absRun, absOps, absOp, evO, constSV, ungd, gdP, gdPs, setD, binI, binV, ptrE, binS, T_ty, T_size, tTy, tSize, iaddrV, pureOp, memOp, loadV, scal, arrAt, blkAt, fnd, Op.operands, List.getD, List.getElem?_cons_zero, List.getElem?_cons_succ, Option.getD_some, List.set, List.toList_toArray, Option.isSome, true_and, and_true, and_self, implies_true, imp_self, if_true, if_false, ite_self, eq_self, ne_eq, not_false_eq_true, forall_const, reduceCtorEq, Int.cast_ofNat_Int, Nat.le_refl, Nat.reduceEqDiff, Nat.reduceLeDiff, Nat.succ_ne_self, e2, t2, g2]
        refine ⟨by omega, ?_⟩
        refine callD_go TO (fun s' h' => HOps_go TO 100 h') hS1 Tryd.func60 (by decide +kernel) rfl rfl rfl ?_
        simp only [pureOpC, unc, isEff, absD, pureStep, subB, absOp, evO, constSV, ungd, gdP, gdPs, setD, binI, binV, ptrE, T_ty, T_size, tTy, tSize, iaddrV, pureOp, memOp, loadV, arrAt, blkAt, fnd, ownN, nodup, bares, bare, bare0, guardIs, callP, callS, argS, mAs, mA, mA0, mB0, allNotIn, impN, impB, impT, packS, delL, Op.operands, List.getD, List.getElem?_cons_zero, List.getElem?_cons_succ, Option.getD_some, List.set, List.map, List.toList_toArray, true_and, and_self, if_true, if_false, ite_self, eq_self, ne_eq, not_false_eq_true, Int.cast_ofNat_Int, Nat.le_refl, List.append_nil, Nat.reduceEqDiff, Nat.reduceLeDiff, Nat.succ_ne_self, Bool.and_self, e3, e4, t3, t4, g3, g4]
        refine ⟨by omega, by omega, ?_⟩
        refine callD_go TO (fun s' h' => HOps_go TO 100 h') hS2 Tryd.func60 (by decide +kernel) rfl rfl rfl ?_
        simp only [pureOpC, unc, isEff, absD, pureStep, subB, absRun, absOps, absOp, evO, constSV, ungd, gdP, gdPs, setD, binI, binV, ptrE, T_ty, T_size, tTy, tSize, iaddrV, pureOp, memOp, loadV, arrAt, setA, blkAt, fnd, upd, ownN, nodup, bares, bare, bare0, guardIs, callP, callS, argS, mAs, mA, mA0, mB0, allNotIn, impN, impB, impT, packS, delL, Op.operands, List.getD, List.getElem?_cons_zero, List.getElem?_cons_succ, Option.getD_some, List.set, List.map, List.toList_toArray, Option.map_none, true_and, and_self, if_true, if_false, ite_self, eq_self, ne_eq, not_false_eq_true, Int.toNat_natCast, Int.cast_ofNat_Int, Nat.le_refl, List.append_nil, Nat.reduceEqDiff, Nat.reduceLeDiff, Nat.succ_ne_self, Bool.and_self, e5, t5, g5]
        refine ⟨by omega, by omega, ?_⟩
        refine ih (i + 1, _) _ (by show i + 1 ≤ 64; omega) (by simp only; omega) rfl ?_ ?_
        · rw [w64 (by omega) (by omega)]
          simp [Press_S, LeT]
        · intro n x hx
          rw [hset _ hi']
          simpa [Press_S, fnd, schedL, h16, nextL] using hx
    · rename_i hc
      have hi' : i = 64 := by
        have : i ≤ 64 := hi
        simp at hc; omega
      subst hi'
      refine draw_go TO 24 100 mixed_ok (by decide +kernel) ?_
      simp only [List.take_succ_cons, List.take_zero, List.drop_succ_cons, List.drop_zero, pureOpC, gloadV, GT, unc, isEff, absD, pureStep, absRun, absOps, absOp, evO, constSV, ungd, gdP, gdPs, setD, T_ty, T_size, tTy, tSize, iaddrV, pureOp, loadV, arrAt, blkAt, fnd, Op.operands, List.getD, List.getElem?_cons_zero, List.getElem?_cons_succ, Option.getD_some, List.set, List.toList_toArray, true_and, and_true, and_self, if_true, if_false, ite_self, eq_self, ne_eq, not_false_eq_true, reduceCtorEq, Int.cast_ofNat_Int, Int.reduceToNat, Nat.le_refl, Int.le_refl, Int.toNat_zero, List.append_nil, Nat.reduceEqDiff, Nat.reduceLeDiff, Nat.succ_ne_self, List.replicate_zero, Int.reduceLT, Int.reduceLE, decide_false, Nat.sub_self]
      refine ⟨rfl, ?_⟩
      have hw : (schedL b 64).length = 64 := schedL_length b 64
      generalize hwe : schedL b 64 = w at *
      refine loop_go (fun x : Nat × Nat => x.1 ≤ 64) (fun x => Press_S2 st b w (roundsL G0 w (w8 st) x.1) x.1 x.2) (fun x => 64 - x.1) (0, _) (Nat.zero_le _) ⟨rfl, ?_, ?_⟩ ?_
      · simp [Press_S2, LeT, roundsL, w8]
      · intro n x hx
        simpa [Press_S2, fnd] using hx
      · rintro ⟨i, c⟩ hi ih
        refine absRun_ok TO 100 _ _ ?_
        simp only [Press_S2, pureOpC, buildV, intsP, unc, absRun, absOps, absOp, evO, constSV, ungd, gdP, gdPs, setD, binI, binV, ptrE, T_ty, T_size, T_zero, tTy, tSize, tZero, indexV, pureOp, isI, Op.operands, List.getD, List.getElem?_cons_zero, List.getElem?_cons_succ, Option.getD_some, List.set, List.map, List.toList_toArray, Option.map_some, exitTo, true_and, and_self, if_true, eq_self, ne_eq, not_false_eq_true, reduceCtorEq, Nat.zero_add, Int.toNat_natCast, Int.cast_ofNat_Int, List.cons_append, List.nil_append, List.length_cons, List.length_nil, Nat.reduceAdd, beq_self_eq_true, List.replicate_succ, List.replicate_zero]
        split
        · rename_i hc
          have hi' : i < 64 := by simp at hc; omega
          refine ⟨by omega, ?_⟩
          refine draw_go TO 18 100 mixed_ok (by decide +kernel) ?_
          have hT1 := turn_meets (roundsL G0 w (w8 st) i).e 6 11 25 (by decide) (by decide) (by decide)
          have hT2 := turn_meets (roundsL G0 w (w8 st) i).a 2 13 22 (by decide) (by decide) (by decide)
          have hr : roundsL G0 w (w8 st) (i + 1) = roundL (roundsL G0 w (w8 st) i) (G0[i]?.getD 0) (w[i]?.getD 0) := rfl
          simp only [List.take_succ_cons, List.take_zero, List.drop_succ_cons, List.drop_zero, pureOpC, isEff, absD, pureStep, absRun, absOps, absOp, evO, ungd, gdP, gdPs, setD, pureOp, memOp, Op.operands, List.getD, List.getElem?_cons_zero, List.getElem?_cons_succ, Option.getD_some, List.set, List.toList_toArray, true_and, and_true, and_self, eq_self, forall_const]
          refine callD_go TO (fun s' h' => HOps_go TO 100 h') hT1 Tryd.func61 (by decide +kernel) rfl rfl rfl ?_
          simp only [pureOpC, unc, isEff, absD, pureStep, subB, absRun, absOps, absOp, evO, constSV, ungd, gdP, gdPs, setD, binI, binV, ptrE, T_ty, T_size, tTy, tSize, iaddrV, pureOp, memOp, loadV, arrAt, blkAt, fnd, ownN, nodup, bares, bare, bare0, guardIs, callP, callS, argS, mAs, mA, mA0, mB0, allNotIn, impN, impB, impT, packS, delL, Op.operands, List.getD, List.getElem?_cons_zero, List.getElem?_cons_succ, Option.getD_some, List.set, List.map, List.toList_toArray, true_and, and_self, if_true, if_false, ite_self, eq_self, ne_eq, not_false_eq_true, Int.toNat_natCast, Int.cast_ofNat_Int, Nat.le_refl, List.append_nil, Nat.reduceEqDiff, Nat.reduceLeDiff, Nat.succ_ne_self, Bool.and_self, Int.toNat_natCast]
          repeat refine ⟨by omega, ?_⟩
          refine call_go TO 100 hT2 Tryd.func61 (by decide +kernel) rfl rfl rfl ?_
          simp only [pureOpC, unc, absRun, absOps, absOp, evO, constSV, ungd, gdP, gdPs, setD, binI, binV, ptrE, pureOp, ownN, nodup, bares, bare, bare0, guardIs, callP, callS, argS, mAs, mA, mA0, mB0, allNotIn, impN, impB, impT, packS, delL, Op.operands, List.getD, List.getElem?_cons_zero, List.getElem?_cons_succ, Option.getD_some, List.set, List.map, List.toList_toArray, true_and, and_self, eq_self, Int.cast_ofNat_Int, List.append_nil, Bool.and_self]
          rw [w64 (by omega) (by omega)]
          refine ih (i + 1, _) _ (by show i + 1 ≤ 64; omega) (by simp only; omega) rfl ?_ ?_
          · simp [Press_S2, LeT, hr, roundL, xL, yL]
          · intro n x hx; simpa [Press_S2, fnd] using hx
        · rename_i hc
          have hi' : i = 64 := by
            have : i ≤ 64 := hi
            simp at hc; omega
          subst hi'
          have hl8 : (l8 (roundsL G0 w (w8 st) 64)).length = 8 := rfl
          have hfin : pressL G0 st b = addL st (l8 (roundsL G0 w (w8 st) 64)) := by unfold pressL; rw [hwe]
          rw [hfin]
          generalize hr8 : roundsL G0 w (w8 st) 64 = r at *
          refine loop_go (fun x : Nat × Nat => x.1 ≤ 8) (fun x => Press_S3 st (l8 r) (addL (st.take x.1) ((l8 r).take x.1) ++ st.drop x.1) x.1 x.2) (fun x => 8 - x.1) (0, _) (Nat.zero_le _) ⟨rfl, ?_, ?_⟩ ?_
          · simp [Press_S3, LeT, l8]
          · intro n x hx
            simp only [Press_S3, fnd] at hx ⊢
            split
            · rename_i h; simp only [h, if_true] at hx; simpa [addL] using hx
            · rename_i h
              simp only [h, if_false] at hx
              split at hx <;> simp_all
          · rintro ⟨i, c⟩ hi ih
            refine absRun_ok TO 100 _ _ ?_
            simp only [Press_S3, pureOpC, unc, absRun, absOps, absOp, evO, constSV, ungd, gdP, gdPs, setD, binI, binV, ptrE, T_ty, T_size, tTy, tSize, iaddrV, indexV, pureOp, memOp, loadV, isI, arrAt, setA, blkAt, fnd, upd, retP, resV, retQ, rAs, rA, ownN, nodup, bares, bare, Op.operands, List.getD, List.getElem?_cons_zero, List.getElem?_cons_succ, Option.getD_some, List.set, List.map, List.toList_toArray, Option.map_none, exitTo, true_and, and_true, and_self, if_true, if_false, ite_self, eq_self, ne_eq, not_false_eq_true, reduceCtorEq, Int.toNat_natCast, Int.cast_ofNat_Int, Nat.le_refl, List.cons_append, List.nil_append, Nat.reduceEqDiff, Nat.reduceLeDiff, Nat.succ_ne_self, beq_self_eq_true, List.replicate_succ, List.replicate_zero, Bool.and_self]
            split
            · rename_i hc
              have hi' : i < 8 := by simp at hc; omega
              rw [w64 (by omega) (by omega)]
              repeat refine ⟨by omega, ?_⟩
              refine ih (i + 1, _) _ (by show i + 1 ≤ 8; omega) (by simp only; omega) rfl ?_ ?_
              · simp [Press_S3, LeT]
              · intro n x hx
                rw [addL_step st (l8 r) i (by omega) (by rw [hs, hl8])]
                simpa [Press_S3, fnd] using hx
            · rename_i hc
              have hi' : i = 8 := by
                have : i ≤ 8 := hi
                simp at hc; omega
              subst hi'
              rw [List.take_of_length_le (by omega), List.take_of_length_le (by omega), List.drop_of_length_le (by omega), List.append_nil]

end Go.Proofs.YtdhnjmepgafeiaaDoor.Abs

/- What the document's constants of SHA-256 are. -/
set_option linter.unusedVariables false
set_option linter.unusedSimpArgs false
set_option maxRecDepth 100000
namespace Go.Proofs.YtdhnjmepgafeiaaDoor.Abs
open Go Go.Proofs

def lo32 (x : Int) : Int := bitsI .and .u64 x 4294967295
def hi32 (x : Int) : Int := shrI .u64 x 32
def mul64 (x y : Int) : Int := IntKind.u64.wrap (x * y)
def add64 (x y : Int) : Int := IntKind.u64.wrap (x + y)

/-- Is a number to the third power above a prime? -/
def aboveB (x p : Int) : Bool :=
  let a1 := hi32 x
  let a0 := lo32 x
  let s0 := mul64 a0 a0
  let s1 := add64 (mul64 (mul64 2 a1) a0) (hi32 s0)
  let s2 := add64 (mul64 a1 a1) (hi32 s1)
  let lo := lo32 s0
  let mid := lo32 s1
  let t0 := mul64 lo a0
  let t1 := add64 (mul64 lo a1) (hi32 t0)
  let u1 := add64 (mul64 mid a0) (lo32 t1)
  let t2 := add64 (add64 (mul64 mid a1) (hi32 t1)) (hi32 u1)
  let v2 := add64 (mul64 s2 a0) (lo32 t2)
  let t3 := add64 (add64 (mul64 s2 a1) (hi32 t2)) (hi32 v2)
  decide (t3 ≥ p)

theorem above_meets (x p : Int) : Meets Tryd.prog 67 [.v (.int .u64 x), .v (.int .u64 p)] [.v (.bool (aboveB x p))] := by
  refine meets_go TO 100 Tryd.func67 rfl (fun X => ?_)
  simp only [Tryd.ntmps67, Tryd.results67, pureOpC, unc, svs, blks, AV.sv, absRun, absOps, absOp, evO, constSV, ungd, gdP, gdPs, setD, binI, binV, ptrE, pureOp, retP, resV, retQ, rAs, rA, rA0, ownN, nodup, bares, bare, bare0, Op.operands, List.getD, List.getElem?_cons_zero, List.getElem?_cons_succ, Option.getD_some, List.set, List.map, List.toList_toArray, true_and, and_true, and_self, eq_self, Nat.zero_add, List.cons_append, List.nil_append, List.length_cons, List.length_nil, Nat.reduceAdd, Nat.reduceSub, List.replicate_succ, List.replicate_zero, Bool.and_self]
  repeat refine ⟨by omega, ?_⟩
  rfl

def bitL (k : Nat) : Int := if k ≤ 35 then 2 ^ (35 - k) else 0
def consX (p : Int) : Nat → Int
  | 0 => 0
  | k + 1 => if !aboveB (add64 (consX p k) (bitL k)) p then add64 (consX p k) (bitL k) else consX p k
/-- The constant of a prime. -/
def consL (p : Int) : Int := IntKind.u32.wrap (consX p 36)

theorem bitL_quo (k : Nat) (h : k < 36) : quoI .u64 (bitL k) 2 = bitL (k + 1) := by
  have : ∀ k : Fin 36, quoI .u64 (bitL k.val) 2 = bitL (k.val + 1) := by decide +kernel
  exact this ⟨k, h⟩
theorem bitL_pos (k : Nat) (h : k < 36) : 0 < bitL k := by
  unfold bitL; rw [if_pos (by omega)]; exact Int.pow_pos (by decide)

theorem constant_meets (p : Int) : Meets Tryd.prog 65 [.v (.int .u64 p)] [.v (.int .u32 (consL p))] := by
  refine meets_go TO 100 Tryd.func65 rfl (fun X => ?_)
  simp only [Tryd.ntmps65, Tryd.results65, pureOpC, svs, blks, AV.sv, absRun, absOps, absOp, evO, constSV, ungd, gdP, gdPs, setD, Op.operands, List.set, List.toList_toArray, true_and, and_self, Nat.zero_add, List.cons_append, List.nil_append, List.length_cons, List.length_nil, Nat.reduceAdd, Nat.reduceSub, List.replicate_succ, List.replicate_zero]
  refine loop_go (fun x : Nat × Nat => x.1 ≤ 36) (fun x => ⟨tl 20 0 [(0, .int .u64 p), (3, .int .u64 (consX p x.1)), (4, .int .u64 (bitL x.1))], [], ⟨x.2, [], 0⟩⟩) (fun x => 36 - x.1) (0, _) (Nat.zero_le _) ⟨rfl, ?_, ?_⟩ ?_
  · simp [tl, LeT, consX, bitL]
  · intro n x hx; simp [fnd] at hx
  · rintro ⟨k, c⟩ hk ih
    have hk : k ≤ 36 := hk
    refine absRun_ok TO 100 _ _ ?_
    simp only [pureOpC, unc, absRun, absOps, absOp, evO, constSV, ungd, gdP, gdPs, setD, binI, binV, ptrE, convV, T_ty, tTy, pureOp, memOp, known, retP, resV, retQ, rAs, rA, rA0, ownN, nodup, bares, bare, bare0, Op.operands, List.getD, List.getElem?_cons_zero, List.getElem?_cons_succ, Option.getD_some, List.set, List.map, List.toList_toArray, exitTo, true_and, and_true, and_self, if_true, eq_self, Nat.zero_add, List.cons_append, List.nil_append, Nat.reduceAdd, Nat.reduceSub, beq_self_eq_true, List.replicate_succ, List.replicate_zero, Bool.and_self, tl, gt_iff_lt]
    split
    · rename_i hc
      have hk' : k < 36 := by
        rcases Nat.lt_or_ge k 36 with h | h
        · exact h
        · obtain rfl : k = 36 := by omega
          simp [bitL] at hc
      refine call_go TO 100 (above_meets (add64 (consX p k) (bitL k)) p) Tryd.func67 (by decide +kernel) rfl rfl rfl ?_
      simp only [pureOpC, unc, absRun, absOps, absOp, evO, constSV, ungd, gdP, gdPs, setD, binI, binV, ptrE, unV, pureOp, ownN, nodup, bares, bare, bare0, guardIs, callP, callS, argS, mAs, mA, mA0, mB0, allNotIn, impN, impB, impT, packS, delL, Op.operands, List.getD, List.getElem?_cons_zero, List.getElem?_cons_succ, Option.getD_some, List.set, List.map, List.toList_toArray, true_and, and_true, and_self, eq_self, ne_eq, not_false_eq_true, List.append_nil, Bool.and_self, Int.reduceEq]
      rw [bitL_quo k hk']
      have hs : consX p (k + 1) = if !aboveB (add64 (consX p k) (bitL k)) p then add64 (consX p k) (bitL k) else consX p k := rfl
      split
      all_goals
        rename_i h
        simp only [h, if_true] at hs
        refine ⟨rfl, ih (k + 1, _) _ (by show k + 1 ≤ 36; omega) (by simp only; omega) rfl ?_ ?_⟩
        · simp [tl, LeT, hs, add64]
        · intro n x hx; simp [fnd] at hx
    · rename_i hc
      have hk' : k = 36 := by
        rcases Nat.lt_or_ge k 36 with h | h
        · exact absurd (by simpa using bitL_pos k h) hc
        · omega
      subst hk'
      rfl

/-- The primes below a number. -/
def sieveL : Nat → List Int
  | 0 => []
  | k + 1 => if (sieveL k).all (fun q => remI k q != 0) && decide (2 ≤ k) then sieveL k ++ [(k : Int)] else sieveL k

theorem sieve64 : (sieveL 312).length = 64 := by decide +kernel
theorem cons64 : (sieveL 312).map consL = G0 := by decide +kernel

theorem sieve_mono (k : Nat) : (sieveL k).length ≤ (sieveL (k + 1)).length := by
  simp only [sieveL]; split <;> simp
theorem sieve_le (j : Nat) : ∀ k, (sieveL k).length ≤ (sieveL (k + j)).length := by
  induction j with
  | zero => intro k; exact Nat.le_refl _
  | succ j ih => intro k; exact Nat.le_trans (ih k) (sieve_mono (k + j))
theorem sieve_lt {k : Nat} (h : (sieveL k).length < 64) : k < 312 := by
  rcases Nat.lt_or_ge k 312 with h' | h'
  · exact h'
  · have := sieve_le (k - 312) 312
    rw [show 312 + (k - 312) = k by omega, sieve64] at this
    omega
theorem sieve_pre (j : Nat) : ∀ k, sieveL k <+: sieveL (k + j) := by
  induction j with
  | zero => intro k; exact List.prefix_refl _
  | succ j ih =>
    intro k
    refine List.IsPrefix.trans (ih k) ?_
    rw [show k + (j + 1) = (k + j) + 1 by omega, sieveL]
    split
    · exact List.prefix_append _ _
    · exact List.prefix_refl _
theorem sieve_pos (k : Nat) : ∀ q ∈ sieveL k, 2 ≤ q ∧ q < k := by
  induction k with
  | zero => intro q hq; simp [sieveL] at hq
  | succ k ih =>
    intro q hq
    simp only [sieveL] at hq
    split at hq
    · rename_i h
      simp only [Bool.and_eq_true, decide_eq_true_eq] at h
      rcases List.mem_append.1 hq with h1 | h1
      · have := ih q h1; omega
      · simp at h1; omega
    · have := ih q hq; omega

theorem primes_meets : Meets Tryd.prog 63 [.v (.int .i64 64)] [.own (.ints .u64 (sieveL 312))] := by
  refine meets_go TO 100 Tryd.func63 rfl (fun X => ?_)
  simp only [Tryd.ntmps63, Tryd.results63, pureOpC, svs, blks, AV.sv, absRun, absOps, absOp, evO, constSV, ungd, gdP, gdPs, setD, Op.operands, List.set, List.toList_toArray, true_and, and_self, Nat.zero_add, List.cons_append, List.nil_append, List.length_cons, List.length_nil, Nat.reduceAdd, Nat.reduceSub, List.replicate_succ, List.replicate_zero]
  refine nil_go 3 33 (.ints .u64 []) rfl ⟨by simp, rfl⟩ ?_
  refine loop_go (fun x : Nat × Nat × Nat => 2 ≤ x.1 ∧ x.1 ≤ 312) (fun x => 
    ⟨tl 35 0 [(0, .int .i64 64), (3, .sl 33 x.2.2 0 1 0 (sieveL x.1).length), (4, .int .u64 x.1)], [(33, x.2.2, .vec (.ints .u64 (sieveL x.1)))], ⟨x.2.1, [], 0⟩⟩) (fun x => 312 - x.1) (2, 6, 5) (by simp) ⟨rfl, ?_, ?_⟩ ?_
  · simp [tl, LeT, sieveL, Data.esz]
  · intro n x hx; simpa [fnd, upd, sieveL] using hx
  · rintro ⟨k, c, g⟩ ⟨hk, hk2⟩ ih
    have hk : 2 ≤ k := hk
    have hk2 : k ≤ 312 := hk2
    refine absRun_ok TO 100 _ _ ?_
    simp only [pureOpC, unc, absRun, absOps, absOp, evO, constSV, ungd, gdP, gdPs, setD, binI, binV, ptrE, T_ty, tTy, pureOp, lenV, notIn, blkAt, fnd, Data.len, Data.esz, retP, resV, retQ, rAs, rA, ownN, nodup, bares, bare, bareD, Op.operands, Call.operands, List.getD, List.getElem?_cons_zero, List.getElem?_cons_succ, Option.getD_some, List.set, List.map, List.toList_toArray, exitTo, true_and, and_true, and_self, if_true, eq_self, Nat.zero_add, List.append_toArray, List.cons_append, List.nil_append, Nat.reduceAdd, Nat.reduceSub, beq_self_eq_true, List.replicate_succ, List.replicate_zero, Bool.and_self, Data.ints.injEq, tl]
    split
    · rename_i hc
      have h64 : (sieveL k).length < 64 := by simp at hc; omega
      have h312 := sieve_lt h64
      have hs1 : sieveL (k + 1) = if (sieveL k).all (fun q => remI k q != 0) then sieveL k ++ [(k : Int)] else sieveL k := by
        simp only [sieveL, show decide (2 ≤ k) = true by simpa using hk, Bool.and_true]
      refine loop_go (fun x : Nat × Nat => x.1 ≤ (sieveL k).length) (fun x => 
        ⟨tl 35 0 [(0, .int .i64 64), (3, .sl 33 g 0 1 0 (sieveL k).length), (4, .int .u64 k), (5, .bool (((sieveL k).take x.1).all (fun q => remI k q != 0))), (6, .int .i64 x.1)], [(33, g, .vec (.ints .u64 (sieveL k)))], ⟨x.2, [], 0⟩⟩) (fun x => (sieveL k).length - x.1) (0, _) (Nat.zero_le _) ⟨rfl, ?_, ?_⟩ ?_
      · simp [tl, LeT]
      · intro n x hx; simpa [fnd] using hx
      · rintro ⟨j, c2⟩ hj ih2
        have hj : j ≤ (sieveL k).length := hj
        refine absRun_ok TO 100 _ _ ?_
        simp only [List.take_succ_cons, List.take_zero, List.drop_zero, pureOpC, unc, fitT, absRun, absOps, absOp, evO, constSV, ungd, gdP, gdPs, setD, binI, binV, ptrE, T_ty, T_size, T_bytes, T_zero, tTy, tSize, tBytes, tZero, iaddrV, pickV, pureOp, guardOf, memOp, lenV, loadV, newV, notIn, dataOf, appD, isSrc, elemsOf, intsOf, zI, blkAt, fnd, upd, del, mv, elemV, Data.len, Data.esz, Data.sub, Lim.add, Op.operands, Call.operands, List.getD, List.getElem?_cons_zero, List.getElem?_cons_succ, Option.getD_some, List.set, List.map, List.toList_toArray, List.getElem?_toArray, Option.bind_some, Option.map_some, exitTo, true_and, and_self, implies_true, imp_self, if_true, if_false, eq_self, ne_eq, not_false_eq_true, Bool.false_eq_true, Nat.zero_add, Int.toNat_natCast, Nat.le_refl, Bool.cond_false_right, List.append_toArray, List.cons_append, List.nil_append, List.length_cons, List.length_nil, Nat.reduceAdd, Nat.reduceSub, Nat.reduceEqDiff, Nat.reduceBEq, Nat.reduceLeDiff, Nat.succ_ne_self, beq_self_eq_true, List.replicate_succ, List.replicate_zero, tl]
        split
        · rename_i hc3
          have hj' : j < (sieveL k).length := by simp at hc3; omega
          have hq := sieve_pos k _ (List.getElem_mem hj')
          have g1 : (sieveL k)[j]?.getD 0 = (sieveL k)[j] := by simp [hj']
          have hta : ((sieveL k).take (j + 1)).all (fun q => remI k q != 0) = (((sieveL k).take j).all (fun q => remI k q != 0) && (remI k (sieveL k)[j] != 0)) := by
            rw [List.take_add_one, List.getElem?_eq_getElem hj', List.all_append]
            simp
          simp only [g1]
          refine ⟨fun _ => by omega, fun _ => by omega, ?_⟩
          rw [← hta, w64 (by omega) (by omega)]
          refine ih2 (j + 1, _) _ (by show j + 1 ≤ _; omega) (by simp only; omega) rfl ?_ ?_
          · simp [tl, LeT]
          · intro n x hx; simpa [fnd] using hx
        · rename_i hc3
          have hj' : j = (sieveL k).length := by simp at hc3; omega
          subst hj'
          rw [List.take_length]
          rw [wu64 (by omega) (by omega)]
          split
          · rename_i hall
            rw [hall] at hs1
            simp only [if_true] at hs1
            rw [← hs1]
            refine ⟨⟨by omega, by omega⟩, ?_⟩
            refine ih (k + 1, _, c2 + 1 + 1 + 1) _ (by simp only; omega) (by simp only; omega) rfl ?_ ?_
            · simp [tl, LeT]
            · intro n x hx
              simp [fnd] at hx ⊢
              obtain ⟨rfl, rfl⟩ := hx
              simp
          · rename_i hall
            simp only [hall] at hs1
            simp only [Bool.false_eq_true, if_false] at hs1
            rw [← hs1]
            refine ih (k + 1, _, g) _ (by simp only; omega) (by simp only; omega) rfl ?_ ?_
            · simp [tl, LeT]
            · intro n x hx; simpa [fnd] using hx
    · rename_i hc
      have h64 : ¬ (sieveL k).length < 64 := by simp at hc; omega
      have hfin : sieveL k = sieveL 312 := by
        have h1 := sieve_pre (312 - k) k
        rw [show k + (312 - k) = 312 by omega] at h1
        exact h1.eq_of_length_le (by rw [sieve64]; omega)
      rw [hfin]; simp

end Go.Proofs.YtdhnjmepgafeiaaDoor.Abs

/- What the document's schedule, and its Press, answer: as sha.Press. -/
set_option linter.unusedVariables false
set_option linter.unusedSimpArgs false
set_option maxRecDepth 100000
namespace Go.Proofs.YtdhnjmepgafeiaaDoor.Abs
open Go Go.Proofs

theorem sched_set {b : List Int} {i : Nat} (v : Int) (h : i < 64) : (schedL b i ++ List.replicate (64 - i) 0).set i v = schedL b i ++ [v] ++ List.replicate (64 - (i + 1)) 0 := by
  obtain ⟨r, hr⟩ : ∃ r, 64 - i = r + 1 := ⟨64 - i - 1, by omega⟩
  rw [hr, show 64 - (i + 1) = r by omega, List.replicate_succ, List.set_append_right _ _ (by rw [schedL_length]; exact Nat.le_refl _), schedL_length]
  simp

theorem sched_get {b : List Int} {i k : Nat} (h : k < i) : (schedL b i ++ List.replicate (64 - i) 0)[k]?.getD 0 = (schedL b i)[k]?.getD 0 := by
  rw [List.getElem?_append_left (by rw [schedL_length]; omega)]

set_option maxHeartbeats 4000000 in
theorem schedule_meets (b : List Int) (hb : b.length = 64) (hB : Bytes b) : Meets Tryd.prog 62 [.v (.arr .u8 64 b)] [.v (.arr .u32 64 (schedL b 64))] := by
  refine meets_go TO 100 Tryd.func62 rfl (fun X => ?_)
  simp only [Tryd.ntmps62, Tryd.results62, pureOpC, unc, svs, blks, AV.sv, absRun, absOps, absOp, evO, constSV, ungd, gdP, gdPs, setD, T_size, T_zero, tSize, tZero, pureOp, memOp, newV, notIn, cellsOf, upd, Lim.add, Op.operands, List.getD, List.getElem?_cons_zero, Option.getD_some, List.set, List.toList_toArray, true_and, and_self, if_false, ne_eq, not_false_eq_true, reduceCtorEq, Nat.zero_add, List.cons_append, List.nil_append, List.length_cons, List.length_nil, Nat.reduceAdd, Nat.reduceSub, Nat.reduceEqDiff, Nat.succ_ne_self, List.replicate_succ, List.replicate_zero]
  refine loop_go (fun x : Nat × Nat => x.1 ≤ 16) (fun x => ⟨tl 89 0 [(1, .ptr 1 2 0), (2, .ptr 2 2 0), (3, .ptr 3 3 0), (4, .int .i64 x.1)],
    [(1, 2, .cells [.arr .u8 64 b]), (2, 2, .cells [.arr .u32 64 (List.replicate 64 0)]), (3, 3, .cells [.arr .u32 64 (schedL b x.1 ++ List.replicate (64 - x.1) 0)])], ⟨x.2, [], 0⟩⟩) (fun x => 16 - x.1) (0, _) (Nat.zero_le _) ⟨rfl, ?_, ?_⟩ ?_
  · simp [tl, LeT]
  · intro n x hx; simpa [fnd, schedL] using hx
  · rintro ⟨i, c⟩ hi ih
    have hi : i ≤ 16 := hi
    refine absRun_ok TO 100 _ _ ?_
    simp only [pureOpC, unc, absRun, absOps, absOp, evO, constSV, ungd, gdP, gdPs, setD, binI, binV, ptrE, pureOp, Op.operands, List.getD, List.getElem?_cons_zero, List.getElem?_cons_succ, Option.getD_some, List.set, List.toList_toArray, exitTo, true_and, and_self, if_true, eq_self, List.cons_append, List.nil_append, Nat.reduceAdd, Nat.reduceSub, beq_self_eq_true, List.replicate_succ, List.replicate_zero, tl]
    split
    · rename_i hc
      have h16 : i < 16 := by simp at hc; omega
      refine draw_go TO 30 100 mixed_ok (by decide +kernel) ?_
      have e0 : IntKind.i64.wrap (4 * (i : Int)) = 4 * i := w64 (by omega) (by omega)
      have e1 : ∀ k : Nat, k < 4 → IntKind.i64.wrap (4 * (i : Int) + k) = 4 * i + k := fun k hk => w64 (by omega) (by omega)
      have e2 := e1 1 (by decide)
      have e3 := e1 2 (by decide)
      have e4 := e1 3 (by decide)
      simp only [Int.cast_ofNat_Int] at e2 e3 e4
      simp only [List.take_succ_cons, List.take_zero, List.drop_succ_cons, List.drop_zero, pureOpC, unc, isEff, absD, pureStep, absRun, absOps, absOp, evO, constSV, ungd, gdP, gdPs, setD, binI, binV, ptrE, convV, binS, T_ty, T_size, tTy, tSize, iaddrV, pureOp, memOp, loadV, scal, known, arrAt, setA, blkAt, fnd, upd, Op.operands, List.getD, List.getElem?_cons_zero, List.getElem?_cons_succ, Option.getD_some, List.set, List.toList_toArray, Option.map_none, Option.isSome, true_and, and_true, and_self, implies_true, imp_self, if_true, if_false, ite_self, eq_self, ne_eq, not_false_eq_true, forall_const, reduceCtorEq, Int.toNat_natCast, Int.cast_ofNat_Int, Nat.le_refl, Nat.reduceEqDiff, Nat.reduceLeDiff, Nat.succ_ne_self, Int.reduceLE, Int.toNat_natCast, e0, e2, e3, e4, show (4 * (i : Int)).toNat = 4 * i by omega, show (4 * (i : Int) + 1).toNat = 4 * i + 1 by omega, show (4 * (i : Int) + 2).toNat = 4 * i + 2 by omega, show (4 * (i : Int) + 3).toNat = 4 * i + 3 by omega]
      repeat refine ⟨by omega, ?_⟩
      refine ih (i + 1, _) _ (by show i + 1 ≤ 16; omega) (by simp only; omega) rfl ?_ ?_
      · rw [w64 (by omega) (by omega)]
        simp [tl, LeT]
      · intro n x hx
        rw [sched_set _ (by omega)]
        simpa [fnd, schedL, h16, wordL] using hx
    · rename_i hc
      obtain rfl : i = 16 := by simp at hc; omega
      refine loop_go (fun x : Nat × Nat => 16 ≤ x.1 ∧ x.1 ≤ 64) (fun x => ⟨tl 89 0 [(1, .ptr 1 2 0), (2, .ptr 2 2 0), (3, .ptr 3 3 0), (5, .int .i64 x.1)],
        [(1, 2, .cells [.arr .u8 64 b]), (2, 2, .cells [.arr .u32 64 (List.replicate 64 0)]), (3, 3, .cells [.arr .u32 64 (schedL b x.1 ++ List.replicate (64 - x.1) 0)])], ⟨x.2, [], 0⟩⟩) (fun x => 64 - x.1) (16, _) ⟨Nat.le_refl _, by show 16 ≤ 64; decide⟩ ⟨rfl, ?_, ?_⟩ ?_
      · simp [tl, LeT]
      · intro n x hx; simpa [fnd] using hx
      · clear ih
        rintro ⟨i, c⟩ ⟨hi, hi2⟩ ih
        have hi : 16 ≤ i := hi
        have hi2 : i ≤ 64 := hi2
        refine absRun_ok TO 100 _ _ ?_
        simp only [pureOpC, unc, absRun, absOps, absOp, evO, constSV, ungd, gdP, gdPs, setD, binI, binV, ptrE, T_ty, T_size, tTy, tSize, pureOp, memOp, loadV, arrAt, setA, blkAt, fnd, upd, retP, resV, retQ, rAs, rA, ownN, nodup, bares, bare, Op.operands, List.getD, List.getElem?_cons_zero, List.getElem?_cons_succ, Option.getD_some, List.set, List.map, List.toList_toArray, Option.map_none, exitTo, true_and, and_true, and_self, if_true, if_false, ite_self, eq_self, ne_eq, not_false_eq_true, reduceCtorEq, List.cons_append, List.nil_append, Nat.reduceAdd, Nat.reduceSub, Nat.reduceEqDiff, Nat.reduceLeDiff, Nat.succ_ne_self, beq_self_eq_true, List.replicate_succ, List.replicate_zero, Bool.and_self, tl]
        split
        · rename_i hc
          have hi' : i < 64 := by simp at hc; omega
          refine draw_go TO 10 100 mixed_ok (by decide +kernel) ?_
          have e2 : IntKind.i64.wrap ((i : Int) - 2) = i - 2 := w64 (by omega) (by omega)
          have e3 : IntKind.i64.wrap ((i : Int) - 7) = i - 7 := w64 (by omega) (by omega)
          have e4 : IntKind.i64.wrap ((i : Int) - 15) = i - 15 := w64 (by omega) (by omega)
          have e5 : IntKind.i64.wrap ((i : Int) - 16) = i - 16 := w64 (by omega) (by omega)
          have t2 : ((i : Int) - 2).toNat = i - 2 := by omega
          have t3 : ((i : Int) - 7).toNat = i - 7 := by omega
          have t4 : ((i : Int) - 15).toNat = i - 15 := by omega
          have t5 : ((i : Int) - 16).toNat = i - 16 := by omega
          have g2 := sched_get (b := b) (i := i) (k := i - 2) (by omega)
          have g3 := sched_get (b := b) (i := i) (k := i - 7) (by omega)
          have g4 := sched_get (b := b) (i := i) (k := i - 15) (by omega)
          have g5 := sched_get (b := b) (i := i) (k := i - 16) (by omega)
          have hnx : schedL b (i + 1) = schedL b i ++ [nextL (schedL b i) i] := by simp only [schedL]; rw [if_neg (by omega)]
          simp only [List.take_succ_cons, List.take_zero, List.drop_succ_cons, List.drop_zero, pureOpC, unc, isEff, absD, pureStep, absRun, absOps, absOp, evO, constSV, ungd, gdP, gdPs, setD, binI, binV, ptrE, T_ty, T_size, tTy, tSize, iaddrV, pureOp, memOp, loadV, arrAt, blkAt, fnd, Op.operands, List.getD, List.getElem?_cons_zero, List.getElem?_cons_succ, Option.getD_some, List.set, List.toList_toArray, true_and, and_true, and_self, if_true, if_false, ite_self, eq_self, ne_eq, not_false_eq_true, forall_const, Int.cast_ofNat_Int, Nat.le_refl, Nat.reduceEqDiff, Nat.reduceLeDiff, Nat.succ_ne_self, e2, e4, t2, t4, g2, g4]
          repeat refine ⟨by omega, ?_⟩
          have hT := fun s h => turned_meets ((schedL b i)[i - 15]?.getD 0) s h
          have hU := fun s h => turned_meets ((schedL b i)[i - 2]?.getD 0) s h
          refine call_go TO 100 (hT 7 (by decide)) Tryd.func64 (by decide +kernel) rfl rfl rfl ?_
          simp only [pureOpC, unc, absOps, absOp, evO, constSV, ungd, gdP, gdPs, setD, pureOp, memOp, ownN, nodup, bares, bare, bare0, guardIs, callP, callS, argS, mAs, mA, mA0, mB0, allNotIn, impN, impB, impT, packS, delL, Op.operands, List.getD, List.getElem?_cons_zero, List.getElem?_cons_succ, Option.getD_some, List.set, List.map, List.toList_toArray, true_and, and_self, eq_self, Int.cast_ofNat_Int, List.append_nil, Bool.and_self]
          refine call_go TO 100 (hT 18 (by decide)) Tryd.func64 (by decide +kernel) rfl rfl rfl ?_
          simp only [pureOpC, unc, absRun, absOps, absOp, evO, constSV, ungd, gdP, gdPs, setD, binI, binV, ptrE, pureOp, memOp, ownN, nodup, bares, bare, bare0, guardIs, callP, callS, argS, mAs, mA, mA0, mB0, allNotIn, impN, impB, impT, packS, delL, Op.operands, List.getD, List.getElem?_cons_zero, List.getElem?_cons_succ, Option.getD_some, List.set, List.map, List.toList_toArray, true_and, and_self, eq_self, Int.cast_ofNat_Int, List.append_nil, Bool.and_self, Int.reduceLE]
          refine call_go TO 100 (hU 17 (by decide)) Tryd.func64 (by decide +kernel) rfl rfl rfl ?_
          simp only [pureOpC, unc, absOps, absOp, evO, constSV, ungd, gdP, gdPs, setD, pureOp, memOp, ownN, nodup, bares, bare, bare0, guardIs, callP, callS, argS, mAs, mA, mA0, mB0, allNotIn, impN, impB, impT, packS, delL, Op.operands, List.getD, List.getElem?_cons_zero, List.getElem?_cons_succ, Option.getD_some, List.set, List.map, List.toList_toArray, true_and, and_self, eq_self, Int.cast_ofNat_Int, List.append_nil, Bool.and_self]
          refine call_go TO 100 (hU 19 (by decide)) Tryd.func64 (by decide +kernel) rfl rfl rfl ?_
          simp only [pureOpC, unc, absRun, absOps, absOp, evO, constSV, ungd, gdP, gdPs, setD, binI, binV, ptrE, pureOp, ownN, nodup, bares, bare, bare0, guardIs, callP, callS, argS, mAs, mA, mA0, mB0, allNotIn, impN, impB, impT, packS, delL, Op.operands, List.getD, List.getElem?_cons_zero, List.getElem?_cons_succ, Option.getD_some, List.set, List.map, List.toList_toArray, true_and, and_self, eq_self, Int.cast_ofNat_Int, List.append_nil, Bool.and_self, Int.reduceLE]
          refine draw_go TO 14 100 mixed_ok (by decide +kernel) ?_
          simp only [List.take_succ_cons, List.take_zero, List.drop_succ_cons, List.drop_zero, pureOpC, unc, isEff, absD, pureStep, absRun, absOps, absOp, evO, constSV, ungd, gdP, gdPs, setD, binI, binV, ptrE, binS, T_ty, T_size, tTy, tSize, iaddrV, pureOp, memOp, loadV, scal, arrAt, setA, blkAt, fnd, upd, Op.operands, List.getD, List.getElem?_cons_zero, List.getElem?_cons_succ, Option.getD_some, List.set, List.toList_toArray, Option.map_none, Option.isSome, true_and, and_true, and_self, implies_true, imp_self, if_true, if_false, ite_self, eq_self, ne_eq, not_false_eq_true, forall_const, reduceCtorEq, Int.toNat_natCast, Int.cast_ofNat_Int, Nat.le_refl, Nat.reduceEqDiff, Nat.reduceLeDiff, Nat.succ_ne_self, e3, e5, t3, t5, g3, g5, Int.toNat_natCast]
          repeat refine ⟨by omega, ?_⟩
          rw [w64 (by omega) (by omega)]
          refine ih (i + 1, _) _ (by simp only; omega) (by simp only; omega) rfl ?_ ?_
          · simp [tl, LeT]
          · intro n x hx
            rw [sched_set _ hi']
            simpa [fnd, hnx, nextL, small3] using hx
        · rename_i hc
          obtain rfl : i = 64 := by simp at hc; omega
          have hl := schedL_length b 64
          generalize schedL b 64 = w at *
          simp

theorem l8_w8 {st : List Int} (h : st.length = 8) : l8 (w8 st) = st := by
  match st, h with
  | [_, _, _, _, _, _, _, _], _ => rfl

theorem consG (t : Nat) (h : t < 64) : consL ((sieveL 312)[t]?.getD 0) = G0[t]?.getD 0 := by
  have hl : t < (sieveL 312).length := by rw [sieve64]; exact h
  rw [← cons64, List.getElem?_map, List.getElem?_eq_getElem hl]
  rfl

theorem bv_back (x : BitVec 32) : BitVec.ofInt 32 (IntKind.u32.wrap (x.toNat : Int)) = x := by
  have h := x.isLt
  rw [IntKind.wrap_u32]
  apply BitVec.eq_of_toNat_eq
  rw [BitVec.toNat_ofInt]
  have h2 : ((2 ^ 32 : Nat) : Int) = 4294967296 := rfl
  rw [h2]
  omega

theorem bits_and (a b : Int) : bitsI .and .u32 a b = IntKind.u32.wrap ((BitVec.ofInt 32 a &&& BitVec.ofInt 32 b).toNat : Int) := rfl
theorem bits_or (a b : Int) : bitsI .or .u32 a b = IntKind.u32.wrap ((BitVec.ofInt 32 a ||| BitVec.ofInt 32 b).toNat : Int) := rfl
theorem bits_xor (a b : Int) : bitsI .xor .u32 a b = IntKind.u32.wrap ((BitVec.ofInt 32 a ^^^ BitVec.ofInt 32 b).toNat : Int) := rfl
theorem bits_andNot (a b : Int) : bitsI .andNot .u32 a b = IntKind.u32.wrap ((BitVec.ofInt 32 a &&& ~~~ BitVec.ofInt 32 b).toNat : Int) := rfl

theorem maj_xor (a b c : Int) : bitsI .xor .u32 (bitsI .xor .u32 (bitsI .and .u32 a b) (bitsI .and .u32 a c)) (bitsI .and .u32 b c) = bitsI .or .u32 (bitsI .or .u32 (bitsI .and .u32 a b) (bitsI .and .u32 a c)) (bitsI .and .u32 b c) := by
  simp only [bits_and, bits_or, bits_xor, bv_back]
  congr 3
  apply BitVec.eq_of_getLsbD_eq
  intro i hi
  simp only [BitVec.getLsbD_and, BitVec.getLsbD_or, BitVec.getLsbD_xor]
  cases (BitVec.ofInt 32 a).getLsbD i <;> cases (BitVec.ofInt 32 b).getLsbD i <;> cases (BitVec.ofInt 32 c).getLsbD i <;> rfl

theorem ch_not (e g : Int) : bitsI .and .u32 (bitsI .xor .u32 4294967295 e) g = bitsI .andNot .u32 g e := by
  simp only [bits_and, bits_andNot, bits_xor, bv_back]
  congr 3
  apply BitVec.eq_of_getLsbD_eq
  intro i hi
  simp only [BitVec.getLsbD_and, BitVec.getLsbD_xor, BitVec.getLsbD_not]
  have h1 : (BitVec.ofInt 32 4294967295).getLsbD i = true := by
    have : (BitVec.ofInt 32 4294967295) = BitVec.allOnes 32 := by decide +kernel
    rw [this, BitVec.getLsbD_allOnes]; simpa using hi
  rw [h1]
  cases (BitVec.ofInt 32 e).getLsbD i <;> cases (BitVec.ofInt 32 g).getLsbD i <;> simp [hi]

theorem addL_step2 : ∀ (l m : List Int) (i : Nat), i < l.length → l.length = m.length → (addL (l.take i) (m.take i) ++ m.drop i).set i (IntKind.u32.wrap ((addL (l.take i) (m.take i) ++ m.drop i)[i]?.getD 0 + l[i]?.getD 0)) = addL (l.take (i + 1)) (m.take (i + 1)) ++ m.drop (i + 1)
  | x :: l, y :: m, 0, _, _ => by simp [addL, Int.add_comm]
  | x :: l, y :: m, i + 1, h, h' => by
    have := addL_step2 l m i (by simpa using h) (by simpa using h')
    simp only [List.take_succ_cons, List.drop_succ_cons, addL, List.cons_append, List.getElem?_cons_succ, List.set_cons_succ, this]
  | [], m, i, h, _ => by simp at h
  | x :: l, [], i, h, h' => by simp at h'

set_option maxHeartbeats 4000000 in
theorem rPress_meets (st b : List Int) (hs : st.length = 8) (hb : b.length = 64) (hB : Bytes b) : Meets Tryd.prog 59 [.v (.arr .u32 8 st), .v (.arr .u8 64 b)] [.v (.arr .u32 8 (pressL G0 st b))] := by
  refine meets_go TO 100 Tryd.func59 rfl (fun X => ?_)
  simp only [Tryd.ntmps59, Tryd.results59, pureOpC, unc, svs, blks, AV.sv, absRun, absOps, absOp, evO, ungd, gdP, gdPs, setD, T_ty, T_size, T_zero, tTy, tSize, tZero, pureOp, memOp, loadV, newV, notIn, cellsOf, arrAt, blkAt, fnd, upd, Lim.add, Op.operands, List.getD, List.getElem?_cons_zero, List.getElem?_cons_succ, Option.getD_some, List.set, List.toList_toArray, true_and, and_self, if_true, if_false, ite_self, eq_self, ne_eq, not_false_eq_true, reduceCtorEq, Nat.zero_add, List.cons_append, List.nil_append, List.length_cons, List.length_nil, Nat.reduceAdd, Nat.reduceSub, Nat.reduceEqDiff, Nat.reduceLeDiff, Nat.succ_ne_self, List.replicate_succ, List.replicate_zero]
  refine call_go TO 100 (schedule_meets b hb hB) Tryd.func62 (by decide +kernel) rfl rfl rfl ?_
  simp only [pureOpC, unc, absRun, absOps, absOp, evO, ungd, gdP, gdPs, setD, T_ty, T_size, T_zero, tTy, tSize, tZero, pureOp, memOp, newV, notIn, arrAt, setA, blkAt, fnd, upd, Lim.add, ownN, nodup, bares, bare, guardIs, callP, callS, argS, mAs, mA, allNotIn, impN, impB, impT, packS, delL, Op.operands, List.getD, List.getElem?_cons_zero, List.getElem?_cons_succ, Option.getD_some, List.set, List.map, List.toList_toArray, Option.map_none, true_and, and_self, if_true, if_false, ite_self, eq_self, ne_eq, not_false_eq_true, reduceCtorEq, Nat.zero_add, List.append_nil, Nat.reduceAdd, Nat.reduceEqDiff, Nat.reduceLeDiff, Nat.succ_ne_self, List.replicate_succ, List.replicate_zero, Bool.and_self]
  refine call_go TO 100 primes_meets Tryd.func63 (by decide +kernel) rfl rfl rfl ?_
  simp only [pureOpC, unc, absRun, absOps, absOp, evO, constSV, ungd, gdP, gdPs, setD, T_ty, T_size, T_zero, tTy, tSize, tZero, pureOp, memOp, loadV, newV, notIn, arrAt, setA, blkAt, fnd, upd, Data.len, Data.esz, Lim.add, ownN, nodup, bares, bare, bareD, guardIs, callP, callS, argS, mAs, mA, mA0, mB0, allNotIn, nm, impN, impB, impT, packS, delL, Op.operands, List.getD, List.getElem?_cons_zero, List.getElem?_cons_succ, Option.getD_some, List.set, List.map, List.toList_toArray, Option.map_none, true_and, and_self, if_true, if_false, ite_self, eq_self, ne_eq, not_false_eq_true, reduceCtorEq, Nat.zero_add, Nat.add_zero, List.append_nil, Nat.reduceAdd, Nat.reduceMul, Nat.reduceEqDiff, Nat.reduceLeDiff, List.replicate_succ, List.replicate_zero, Bool.and_self]
  have hw : (schedL b 64).length = 64 := schedL_length b 64
  have hfin : pressL G0 st b = addL st (l8 (roundsL G0 (schedL b 64) (w8 st) 64)) := rfl
  rw [hfin]
  generalize schedL b 64 = w at *
  refine loop_go (fun x : Nat × Nat => x.1 ≤ 64) (fun x => ⟨tl 116 0 [(2, .ptr 2 2 0), (3, .ptr 3 2 0), (4, .ptr 4 2 0), (5, .ptr 5 3 0), (6, .sl 10256 4 0 1 0 (sieveL 312).length), (7, .ptr 7 5 0), (8, .int .i64 x.1)],
    [(2, 2, .cells [.arr .u32 8 st]), (3, 2, .cells [.arr .u8 64 b]), (4, 2, .cells [.arr .u32 8 (List.replicate 8 0)]), (5, 3, .cells [.arr .u32 64 w]), (10256, 4, .vec (.ints .u64 (sieveL 312))), (7, 5, .cells [.arr .u32 8 (l8 (roundsL G0 w (w8 st) x.1))])], ⟨x.2, [], 0⟩⟩) (fun x => 64 - x.1) (0, _) (Nat.zero_le _) ⟨rfl, ?_, ?_⟩ ?_
  · simp [tl, LeT]
  · intro n x hx; simpa [fnd, roundsL, l8_w8 hs] using hx
  · rintro ⟨i, c⟩ hi ih
    have hi : i ≤ 64 := hi
    refine absRun_ok TO 100 _ _ ?_
    simp only [pureOpC, unc, absRun, absOps, absOp, evO, constSV, ungd, gdP, gdPs, setD, binI, binV, ptrE, pureOp, Op.operands, List.getD, List.getElem?_cons_zero, List.getElem?_cons_succ, Option.getD_some, List.set, List.toList_toArray, exitTo, true_and, and_self, if_true, eq_self, List.cons_append, List.nil_append, Nat.reduceAdd, Nat.reduceSub, beq_self_eq_true, List.replicate_succ, List.replicate_zero, tl]
    split
    · rename_i hc
      have h64 : i < 64 := by simp at hc; omega
      have hr : roundsL G0 w (w8 st) (i + 1) = roundL (roundsL G0 w (w8 st) i) (G0[i]?.getD 0) (w[i]?.getD 0) := rfl
      generalize roundsL G0 w (w8 st) i = r at *
      have hT := fun s h => turned_meets r.e s h
      have hU := fun s h => turned_meets r.a s h
      have hC := constant_meets ((sieveL 312)[i]?.getD 0)
      rw [consG i h64] at hC
      have s64 := sieve64
      refine draw_go TO 6 100 mixed_ok (by decide +kernel) ?_
      simp only [List.take_succ_cons, List.take_zero, List.drop_succ_cons, List.drop_zero, pureOpC, unc, isEff, absD, pureStep, absRun, absOps, evO, constSV, ungd, gdP, gdPs, setD, T_ty, T_size, tTy, tSize, iaddrV, pureOp, loadV, arrAt, blkAt, fnd, Op.operands, List.getD, List.getElem?_cons_zero, List.getElem?_cons_succ, Option.getD_some, List.set, List.toList_toArray, true_and, and_self, if_true, if_false, ite_self, eq_self, ne_eq, not_false_eq_true, Int.cast_ofNat_Int, Int.reduceToNat, Nat.le_refl, Int.le_refl, Int.toNat_zero, Nat.reduceEqDiff, Nat.reduceLeDiff, Nat.succ_ne_self, Int.reduceLT, Int.reduceLE, l8]
      refine draw_go TO 33 100 mixed_ok (by decide +kernel) ?_
      simp only [List.take_succ_cons, List.take_zero, List.drop_succ_cons, List.drop_zero, pureOpC, unc, isEff, absD, pureStep, absRun, absOps, absOp, evO, constSV, ungd, gdP, gdPs, setD, T_ty, T_size, tTy, tSize, iaddrV, pureOp, memOp, loadV, arrAt, blkAt, fnd, Op.operands, List.getD, List.getElem?_cons_zero, List.getElem?_cons_succ, Option.getD_some, List.set, List.toList_toArray, true_and, and_self, if_true, if_false, ite_self, eq_self, ne_eq, not_false_eq_true, Int.cast_ofNat_Int, Int.reduceToNat, Nat.le_refl, Nat.reduceEqDiff, Nat.reduceLeDiff, Nat.succ_ne_self, Int.reduceLT, Int.reduceLE]
      refine callD_go TO (fun s' h' => HOps_go TO 100 h') (hT 6 (by decide)) Tryd.func64 (by decide +kernel) rfl rfl rfl ?_
      simp only [pureOpC, unc, isEff, absD, pureStep, subB, absOp, evO, constSV, ungd, gdP, gdPs, setD, pureOp, memOp, fnd, ownN, nodup, bares, bare, bare0, guardIs, callP, callS, argS, mAs, mA, mA0, mB0, allNotIn, impN, impB, impT, packS, delL, Op.operands, List.getD, List.getElem?_cons_zero, List.getElem?_cons_succ, Option.getD_some, List.set, List.map, List.toList_toArray, true_and, and_self, if_true, if_false, eq_self, Int.cast_ofNat_Int, List.append_nil, Nat.reduceEqDiff, Nat.succ_ne_self, Bool.and_self]
      refine callD_go TO (fun s' h' => HOps_go TO 100 h') (hT 11 (by decide)) Tryd.func64 (by decide +kernel) rfl rfl rfl ?_
      simp only [pureOpC, unc, isEff, absD, pureStep, subB, absOp, evO, constSV, ungd, gdP, gdPs, setD, binI, binV, ptrE, pureOp, memOp, fnd, ownN, nodup, bares, bare, bare0, guardIs, callP, callS, argS, mAs, mA, mA0, mB0, allNotIn, impN, impB, impT, packS, delL, Op.operands, List.getD, List.getElem?_cons_zero, List.getElem?_cons_succ, Option.getD_some, List.set, List.map, List.toList_toArray, true_and, and_self, if_true, if_false, eq_self, Int.cast_ofNat_Int, List.append_nil, Nat.reduceEqDiff, Nat.succ_ne_self, Bool.and_self]
      refine callD_go TO (fun s' h' => HOps_go TO 100 h') (hT 25 (by decide)) Tryd.func64 (by decide +kernel) rfl rfl rfl ?_
      simp only [pureOpC, unc, isEff, absD, pureStep, subB, absOp, evO, constSV, ungd, gdP, gdPs, setD, binI, binV, ptrE, unV, T_ty, T_size, tTy, tSize, iaddrV, pureOp, memOp, loadV, arrAt, blkAt, fnd, elemV, Data.len, Data.esz, ownN, nodup, bares, bare, bare0, guardIs, callP, callS, argS, mAs, mA, mA0, mB0, allNotIn, impN, impB, impT, packS, delL, Op.operands, List.getD, List.getElem?_cons_zero, List.getElem?_cons_succ, Option.getD_some, List.set, List.map, List.toList_toArray, true_and, and_self, if_true, if_false, ite_self, eq_self, ne_eq, not_false_eq_true, Nat.zero_add, Int.toNat_natCast, Int.cast_ofNat_Int, Int.reduceToNat, Nat.le_refl, List.append_nil, Nat.reduceEqDiff, Nat.reduceLeDiff, Nat.succ_ne_self, Bool.and_self, Int.reduceLT, Int.reduceLE, Int.reduceNeg, s64, Int.toNat_natCast]
      refine ⟨by omega, ?_⟩
      refine callD_go TO (fun s' h' => HOps_go TO 100 h') hC Tryd.func65 (by decide +kernel) rfl rfl rfl ?_
      simp only [pureOpC, unc, isEff, absD, pureStep, subB, absRun, absOps, evO, ungd, gdP, gdPs, setD, binI, binV, ptrE, T_ty, T_size, tTy, tSize, iaddrV, pureOp, loadV, arrAt, blkAt, fnd, ownN, nodup, bares, bare, bare0, guardIs, callP, callS, argS, mAs, mA, mA0, mB0, allNotIn, impN, impB, impT, packS, delL, Op.operands, List.getD, List.getElem?_cons_zero, List.getElem?_cons_succ, Option.getD_some, List.set, List.map, List.toList_toArray, true_and, and_self, if_true, if_false, ite_self, eq_self, ne_eq, not_false_eq_true, Int.toNat_natCast, Int.cast_ofNat_Int, Nat.le_refl, List.append_nil, Nat.reduceEqDiff, Nat.reduceLeDiff, Nat.succ_ne_self, Bool.and_self, Int.reduceNeg, Int.toNat_natCast]
      repeat refine ⟨by omega, ?_⟩
      refine draw_go TO 25 100 mixed_ok (by decide +kernel) ?_
      simp only [List.take_succ_cons, List.take_zero, List.drop_succ_cons, List.drop_zero, pureOpC, buildV, gloadV, GT, unc, isEff, absD, pureStep, absRun, absOps, absOp, evO, constSV, ungd, gdP, gdPs, setD, binI, binV, ptrE, binS, T_ty, T_size, T_zero, tTy, tSize, tZero, iaddrV, pureOp, memOp, loadV, blkAt, elemV, Data.len, Data.esz, Op.operands, List.getD, List.getElem?_cons_zero, List.getElem?_cons_succ, Option.getD_some, List.set, List.map, List.toList_toArray, true_and, and_true, and_self, implies_true, imp_self, eq_self, ne_eq, not_false_eq_true, forall_const, reduceCtorEq, Int.cast_ofNat_Int, Nat.succ_ne_self, List.replicate_succ, List.replicate_zero, Int.reduceNeg]
      refine callD_go TO (fun s' h' => HOps_go TO 100 h') (hU 2 (by decide)) Tryd.func64 (by decide +kernel) rfl rfl rfl ?_
      simp only [pureOpC, unc, isEff, absD, pureStep, subB, absOp, evO, constSV, ungd, gdP, gdPs, setD, pureOp, memOp, fnd, ownN, nodup, bares, bare, bare0, guardIs, callP, callS, argS, mAs, mA, mA0, mB0, allNotIn, impN, impB, impT, packS, delL, Op.operands, List.getD, List.getElem?_cons_zero, List.getElem?_cons_succ, Option.getD_some, List.set, List.map, List.toList_toArray, true_and, and_self, if_true, if_false, eq_self, Int.cast_ofNat_Int, List.append_nil, Nat.reduceEqDiff, Nat.succ_ne_self, Bool.and_self, Int.reduceNeg]
      refine callD_go TO (fun s' h' => HOps_go TO 100 h') (hU 13 (by decide)) Tryd.func64 (by decide +kernel) rfl rfl rfl ?_
      simp only [pureOpC, unc, isEff, absD, pureStep, subB, absOp, evO, constSV, ungd, gdP, gdPs, setD, binI, binV, ptrE, pureOp, memOp, fnd, ownN, nodup, bares, bare, bare0, guardIs, callP, callS, argS, mAs, mA, mA0, mB0, allNotIn, impN, impB, impT, packS, delL, Op.operands, List.getD, List.getElem?_cons_zero, List.getElem?_cons_succ, Option.getD_some, List.set, List.map, List.toList_toArray, true_and, and_self, if_true, if_false, eq_self, Int.cast_ofNat_Int, List.append_nil, Nat.reduceEqDiff, Nat.succ_ne_self, Bool.and_self, Int.reduceNeg]
      refine callD_go TO (fun s' h' => HOps_go TO 100 h') (hU 22 (by decide)) Tryd.func64 (by decide +kernel) rfl rfl rfl ?_
      simp only [pureOpC, buildV, intsP, unc, isEff, absD, pureStep, subB, absRun, absOps, absOp, evO, constSV, ungd, gdP, gdPs, setD, binI, binV, ptrE, T_ty, T_size, T_zero, tTy, tSize, tZero, iaddrV, pureOp, memOp, loadV, arrAt, setA, blkAt, fnd, upd, ownN, nodup, bares, bare, bare0, guardIs, callP, callS, argS, mAs, mA, mA0, mB0, allNotIn, impN, impB, impT, packS, delL, Op.operands, List.getD, List.getElem?_cons_zero, List.getElem?_cons_succ, Option.getD_some, List.set, List.map, List.toList_toArray, Option.map_some, Option.map_none, true_and, and_self, if_true, if_false, ite_self, eq_self, ne_eq, not_false_eq_true, reduceCtorEq, Nat.zero_add, Int.cast_ofNat_Int, Int.reduceToNat, Nat.le_refl, Int.le_refl, Int.toNat_zero, List.append_nil, List.length_cons, List.length_nil, Nat.reduceAdd, Nat.reduceEqDiff, Nat.reduceLeDiff, Nat.succ_ne_self, List.replicate_succ, List.replicate_zero, Bool.and_self, Int.reduceLT, Int.reduceLE, Int.reduceNeg]
      rw [w64 (by omega) (by omega)]
      refine ih (i + 1, _) _ (by simp only; omega) (by simp only; omega) rfl ?_ ?_
      · simp [tl, LeT, s64]
      · intro n x hx
        have hm : (if IntKind.u32.signed = true then (-1 : Int) else IntKind.u32.max) = 4294967295 := rfl
        simp only [hr, l8, roundL, xL, yL, turn3, ← maj_xor, ← ch_not] at hx
        simp only [hm]
        simpa only [fnd, List.replicate] using hx
    · rename_i hc
      obtain rfl : i = 64 := by simp at hc; omega
      generalize roundsL G0 w (w8 st) 64 = r at *
      have hl8 : (l8 r).length = 8 := rfl
      refine loop_go (fun x : Nat × Nat => x.1 ≤ 8) (fun x => ⟨tl 116 0 [(2, .ptr 2 2 0), (4, .ptr 4 2 0), (7, .ptr 7 5 0), (13, .int .i64 x.1)],
        [(2, 2, .cells [.arr .u32 8 st]), (3, 2, .cells [.arr .u8 64 b]), (4, 2, .cells [.arr .u32 8 (List.replicate 8 0)]), (5, 3, .cells [.arr .u32 64 w]), (10256, 4, .vec (.ints .u64 (sieveL 312))), (7, 5, .cells [.arr .u32 8 (addL (st.take x.1) ((l8 r).take x.1) ++ (l8 r).drop x.1)])], ⟨x.2, [], 0⟩⟩) (fun x => 8 - x.1) (0, _) (Nat.zero_le _) ⟨rfl, ?_, ?_⟩ ?_
      · simp [tl, LeT]
      · intro n x hx; simpa [fnd, addL] using hx
      · clear ih
        rintro ⟨i, c⟩ hi ih
        have hi : i ≤ 8 := hi
        refine absRun_ok TO 100 _ _ ?_
        simp only [pureOpC, unc, absRun, absOps, absOp, evO, constSV, ungd, gdP, gdPs, setD, binI, binV, ptrE, T_ty, T_size, tTy, tSize, pureOp, memOp, loadV, arrAt, setA, blkAt, fnd, upd, retP, resV, retQ, rAs, rA, ownN, nodup, bares, bare, Op.operands, List.getD, List.getElem?_cons_zero, List.getElem?_cons_succ, Option.getD_some, List.set, List.map, List.toList_toArray, Option.map_none, exitTo, true_and, and_true, and_self, if_true, if_false, ite_self, eq_self, ne_eq, not_false_eq_true, reduceCtorEq, List.cons_append, List.nil_append, Nat.reduceAdd, Nat.reduceSub, Nat.reduceEqDiff, Nat.reduceLeDiff, Nat.succ_ne_self, beq_self_eq_true, List.replicate_succ, List.replicate_zero, Bool.and_self, tl]
        split
        · rename_i hc
          have h8 : i < 8 := by simp at hc; omega
          refine draw_go TO 8 100 mixed_ok (by decide +kernel) ?_
          simp only [List.take_succ_cons, List.take_zero, List.drop_succ_cons, List.drop_zero, pureOpC, unc, isEff, absD, pureStep, absRun, absOps, absOp, evO, constSV, ungd, gdP, gdPs, setD, binI, binV, ptrE, binS, T_ty, T_size, tTy, tSize, iaddrV, pureOp, memOp, loadV, scal, arrAt, setA, blkAt, fnd, upd, Op.operands, List.getD, List.getElem?_cons_zero, List.getElem?_cons_succ, Option.getD_some, List.set, List.toList_toArray, Option.map_none, Option.isSome, true_and, and_true, and_self, implies_true, imp_self, if_true, if_false, ite_self, eq_self, ne_eq, not_false_eq_true, forall_const, reduceCtorEq, Int.toNat_natCast, Int.cast_ofNat_Int, Nat.le_refl, Nat.reduceEqDiff, Nat.reduceLeDiff, Nat.succ_ne_self, Int.toNat_natCast]
          repeat refine ⟨by omega, ?_⟩
          rw [w64 (by omega) (by omega)]
          refine ih (i + 1, _) _ (by simp only; omega) (by simp only; omega) rfl ?_ ?_
          · simp [tl, LeT]
          · intro n x hx
            rw [addL_step2 st (l8 r) i (by omega) (by rw [hs, hl8])]
            simpa [fnd] using hx
        · rename_i hc
          obtain rfl : i = 8 := by simp at hc; omega
          rw [List.take_of_length_le (by omega), List.take_of_length_le (by omega), List.drop_of_length_le (by omega), List.append_nil]

end Go.Proofs.YtdhnjmepgafeiaaDoor.Abs

/- What stands behind bytes: sha.Behind and the document's. -/
set_option linter.unusedVariables false
set_option linter.unusedSimpArgs false
set_option maxRecDepth 100000
namespace Go.Proofs.YtdhnjmepgafeiaaDoor.Abs
open Go Go.Proofs

/-- How many noughts. -/
def zN (n : Int) : Nat := ((119 - n % 64) % 64).toNat
def behL (n : Int) : List Int := if n < 1152921504606846976 then 128 :: (List.replicate (zN n) 0 ++ (digs 8 (8 * n)).reverse) else []

theorem zN_le (n : Int) : zN n < 64 ∧ (n + 1 + zN n) % 64 = 56 := by unfold zN; omega
theorem behL_length (n : Int) : (behL n).length ≤ 72 := by
  unfold behL; split
  · have := (zN_le n).1; simp [digs_length]; omega
  · simp
theorem behL_length_eq {n : Int} (h : n < 1152921504606846976) : (behL n).length = 9 + zN n := by
  unfold behL; rw [if_pos h]; simp [digs_length]; omega

theorem shr60 (n : Int) (h0 : 0 ≤ n) : (shrI .u64 n 60 = 0) ↔ n < 1152921504606846976 := by
  unfold shrI
  rw [show min (60 : Int).toNat IntKind.u64.bits = 60 from rfl, Int.fdiv_eq_ediv_of_nonneg _ (by decide)]
  have : (2 : Int) ^ 60 = 1152921504606846976 := rfl
  rw [this]; omega

theorem shl3 {n : Int} (h0 : 0 ≤ n) (h : n < 1152921504606846976) : shlI .u64 n 3 = 8 * n := by
  unfold shlI
  rw [show min (3 : Int).toNat IntKind.u64.bits = 3 from rfl, show (2 : Int) ^ 3 = 8 from rfl, wu64 (by omega) (by omega)]
  omega

theorem digs_get3 (k : Nat) : ∀ (n : Int) (i : Nat), i < k → (digs k n)[i]? = some (n / 256 ^ i % 256) := by
  induction k with
  | zero => intro n i h; omega
  | succ k ih =>
    intro n i h
    cases i with
    | zero => simp [digs]
    | succ i =>
      simp only [digs, List.getElem?_cons_succ]
      rw [ih (n / 256) i (by omega), Int.ediv_ediv_of_nonneg (by omega), Int.pow_succ, Int.mul_comm (256 ^ i)]

theorem rem64 {x : Int} (h : 0 ≤ x) : remI x 64 = x % 64 := Int.tmod_eq_emod_of_nonneg h

theorem Behind_meets (n : Int) (h0 : 0 ≤ n) (hn : n < 18446744073709551616) : Meets Tryd.prog 56 [.v (.int .u64 n)] [.own (.ints .u8 (behL n))] := by
  refine meets_go TO 100 Tryd.func56 rfl (fun X => ?_)
  simp only [Tryd.ntmps56, Tryd.results56, pureOpC, unc, svs, blks, AV.sv, absRun, absOps, absOp, evO, constSV, ungd, gdP, gdPs, setD, binI, binV, ptrE, T_ty, T_size, T_bytes, T_zero, tTy, tSize, tBytes, tZero, iaddrV, pureOp, memOp, newV, notIn, zI, blkAt, fnd, upd, Data.len, Lim.add, retP, resV, retQ, rAs, rA, ownN, nodup, bares, bare, bareD, Op.operands, List.getD, List.getElem?_cons_zero, List.getElem?_cons_succ, Option.getD_some, List.set, List.map, List.toList_toArray, true_and, and_true, and_self, if_true, eq_self, ne_eq, not_false_eq_true, Nat.zero_add, Nat.add_zero, Int.cast_ofNat_Int, Int.le_refl, Int.toNat_zero, List.cons_append, List.nil_append, List.length_cons, List.length_nil, Nat.reduceAdd, Nat.reduceSub, Nat.succ_ne_self, List.replicate_succ, List.replicate_zero, Bool.and_self, Int.reduceLE, Int.reduceEq]
  have e1 : (shrI .u64 n 60 != 0) = !decide (n < 1152921504606846976) := by
    rw [Bool.eq_iff_iff]
    simp [shr60 n h0]
  rw [e1]
  by_cases hlt : n < 1152921504606846976
  · simp only [hlt, decide_true, Bool.not_true, Bool.false_eq_true, if_false]
    have e2 : IntKind.u64.wrap (119 - n % 64) = 119 - n % 64 := wu64 (by omega) (by omega)
    have e3 : IntKind.u64.wrap (9 + (119 - n % 64) % 64) = 9 + zN n := by rw [wu64 (by omega) (by omega)]; unfold zN; omega
    have e4 : ((9 : Int) + zN n).toNat = 9 + zN n := by omega
    rw [rem64 h0, e2, rem64 (by omega), e3, e4]
    have hz := (zN_le n).1
    repeat refine ⟨by omega, ?_⟩
    have hset : (List.replicate (9 + zN n) (0 : Int)).set 0 128 = 128 :: (List.replicate (zN n + 8) 0) := by
      rw [show 9 + zN n = (zN n + 8) + 1 by omega, List.replicate_succ, List.set_cons_zero]
    refine ⟨by simp, ?_⟩
    rw [hset]
    have hb : behL n = 128 :: (List.replicate (zN n) 0 ++ (digs 8 (8 * n)).reverse) := by unfold behL; rw [if_pos hlt]
    generalize zN n = z at *
    refine loop_go (fun x : Nat × Nat => x.1 ≤ 8) (fun x => ⟨tl 35 0 [(0, .int .u64 n), (3, .slc 13 4 1 (9 + z) (9 + z)), (16, .int .i64 x.1)],
      [(13, 4, .vec (.ints .u8 (128 :: (List.replicate (z + 8 - x.1) 0 ++ (digs x.1 (8 * n)).reverse))))], ⟨x.2, [], 0⟩⟩) (fun x => 8 - x.1) (0, _) (Nat.zero_le _) ⟨rfl, ?_, ?_⟩ ?_
    · simp [tl, LeT]
    · intro m x hx; simpa [fnd, digs] using hx
    · rintro ⟨i, c⟩ hi ih
      have hi : i ≤ 8 := hi
      have hll : ∀ i, i ≤ 8 → (128 :: (List.replicate (z + 8 - i) (0 : Int) ++ (digs i (8 * n)).reverse)).length = 9 + z := by intro i hi; simp [digs_length]; omega
      refine absRun_ok TO 100 _ _ ?_
      simp only [pureOpC, unc, absRun, absOps, absOp, evO, constSV, ungd, gdP, gdPs, setD, binI, binV, ptrE, convV, T_ty, T_size, tTy, tSize, iaddrV, pureOp, memOp, lenV, notIn, known, blkAt, fnd, upd, Data.len, Data.esz, retP, resV, retQ, rAs, rA, ownN, nodup, bares, bare, bareD, Op.operands, Call.operands, List.getD, List.getElem?_cons_zero, List.getElem?_cons_succ, Option.getD_some, List.set, List.map, List.toList_toArray, exitTo, true_and, and_true, and_self, if_true, eq_self, ne_eq, not_false_eq_true, Nat.zero_add, List.append_toArray, List.cons_append, List.nil_append, List.length_cons, Nat.reduceAdd, Nat.reduceSub, Nat.succ_ne_self, beq_self_eq_true, List.replicate_succ, List.replicate_zero, Bool.and_self, Data.ints.injEq, tl, Int.reduceLE, shl3 h0 hlt]
      split
      · rename_i hc
        have h8 : i < 8 := by simp at hc; omega
        have f1 : IntKind.i64.wrap (8 * (i : Int)) = 8 * i := w64 (by omega) (by omega)
        have f2 : IntKind.u64.wrap (8 * (i : Int)) = 8 * i := wu64 (by omega) (by omega)
        have f3 : IntKind.i64.wrap (((9 + z : Nat) : Int) - 1) = 8 + z := by rw [w64 (by omega) (by omega)]; omega
        have f4 : IntKind.i64.wrap (8 + (z : Int) - i) = 8 + z - i := w64 (by omega) (by omega)
        simp only [f1, f2, f3, f4, shr_bytes _ i (by omega), wu8, show (8 + (z : Int) - i).toNat = z + 8 - i by omega]
        rw [w64 (by omega) (by omega)]
        repeat refine ⟨by omega, ?_⟩
        refine ⟨by have := hll i hi; rw [List.length_cons] at this; omega, ?_⟩
        refine ih (i + 1, _) _ (by simp only; omega) (by simp only; omega) rfl ?_ ?_
        · simp [tl, LeT]
        · intro m x hx
          have hstep : (128 :: (List.replicate (z + 8 - i) (0 : Int) ++ (digs i (8 * n)).reverse)).set (z + 8 - i) (8 * n / 256 ^ i % 256) = 128 :: (List.replicate (z + 8 - (i + 1)) 0 ++ (digs (i + 1) (8 * n)).reverse) := by
            obtain ⟨r, hr⟩ : ∃ r, z + 8 - i = r + 1 := ⟨z + 8 - i - 1, by omega⟩
            rw [hr, show z + 8 - (i + 1) = r by omega, digs_snoc, List.set_cons_succ, List.replicate_succ', List.append_assoc, List.set_append_right _ _ (by simp)]
            simp
          simp only at hx
          rw [hstep]
          simpa [fnd] using hx
      · rename_i hc
        obtain rfl : i = 8 := by simp at hc; omega
        rw [hb]
        have := hll 8 (Nat.le_refl _)
        rw [List.length_cons] at this
        simp only [Nat.add_sub_cancel] at this ⊢
        simp only [List.length_cons, this, and_self]
  · simp [hlt, behL]

theorem rBehind_meets (n : Int) (h0 : 0 ≤ n) (hn : n < 18446744073709551616) : Meets Tryd.prog 57 [.v (.int .u64 n)] [.own (.ints .u8 (behL n))] := by
  refine meets_go TO 100 Tryd.func57 rfl (fun X => ?_)
  simp only [Tryd.ntmps57, Tryd.results57, pureOpC, unc, svs, blks, AV.sv, absRun, absOps, absOp, evO, constSV, ungd, gdP, gdPs, setD, binI, binV, ptrE, T_ty, T_size, tTy, tSize, pureOp, memOp, newV, notIn, elemsOf, intsOf, upd, Data.len, Lim.add, retP, resV, retQ, rAs, rA, ownN, nodup, bares, bare, bareD, Op.operands, List.getD, List.getElem?_cons_zero, List.getElem?_cons_succ, Option.getD_some, List.set, List.map, List.toList_toArray, Option.map_some, true_and, and_true, and_self, if_true, eq_self, Nat.zero_add, List.cons_append, List.nil_append, List.length_cons, List.length_nil, Nat.reduceAdd, Nat.reduceSub, Nat.reduceLeDiff, List.replicate_succ, List.replicate_zero, Bool.and_self, ge_iff_le]
  by_cases hlt : n < 1152921504606846976
  · have hge : ¬ 1152921504606846976 ≤ n := by omega
    simp only [hge, decide_false, Bool.false_eq_true, if_false]
    have hb : behL n = 128 :: (List.replicate (zN n) 0 ++ (digs 8 (8 * n)).reverse) := by unfold behL; rw [if_pos hlt]
    have hz := zN_le n
    have hz2 : ∀ k : Nat, k ≤ zN n → (((n + 1 + k) % 64 = 56) ↔ k = zN n) := by intro k hk; omega
    rw [hb]
    generalize zN n = z at *
    refine loop_up (fun x : Nat × Nat × Nat × Nat => x.1 ≤ z ∧ x.2.2.2 ≠ 16 ∧ x.2.2.2 ≠ 30) (fun x => ⟨tl 33 0 [(0, .int .u64 n), (3, .sl x.2.2.2 x.2.2.1 0 1 0 (1 + x.1))],
      [(x.2.2.2, x.2.2.1, .vec (.ints .u8 (128 :: List.replicate x.1 0)))], ⟨x.2.1, [], 0⟩⟩) (fun x => z - x.1) (0, _, 4, 7) ⟨Nat.zero_le _, by simp, by simp⟩ ⟨rfl, ?_, ?_⟩ ?_
    · simp [tl, LeT]
    · intro m x hx; simpa [fnd] using hx
    · rintro ⟨i, c, g, q⟩ ⟨hi, hnm, hnm30⟩ ih
      have hi : i ≤ z := hi
      obtain ⟨h1, h2⟩ := ne_eqs hnm
      refine absRun_ok TO 100 _ _ ?_
      have f1 : IntKind.u64.wrap ((1 + i : Nat) : Int) = ((1 + i : Nat) : Int) := wu64 (by omega) (by omega)
      have f2 : IntKind.u64.wrap (n + ((1 + i : Nat) : Int)) = n + 1 + i := by rw [wu64 (by omega) (by omega)]; omega
      have f3 : remI (n + 1 + i) 64 = (n + 1 + i) % 64 := rem64 (by omega)
      have hrep : (128 :: (List.replicate i (0 : Int) ++ [0])) = 128 :: List.replicate (i + 1) 0 := by rw [List.replicate_succ']
      simp only [List.take_succ_cons, List.take_zero, List.drop_zero, pureOpC, unc, fitT, absRun, absOps, absOp, evO, constSV, ungd, gdP, gdPs, setD, binI, binV, ptrE, convV, T_ty, T_size, T_bytes, T_zero, tTy, tSize, tBytes, tZero, pureOp, memOp, lenV, newV, notIn, dataOf, appD, isSrc, elemsOf, intsOf, zI, known, blkAt, fnd, upd, del, mv, Data.len, Data.esz, Data.sub, Lim.add, Op.operands, Call.operands, List.getD, List.getElem?_cons_zero, List.getElem?_cons_succ, Option.getD_some, List.set, List.map, List.toList_toArray, Option.map_some, exitTo, true_and, and_self, if_true, if_false, eq_self, ne_eq, not_false_eq_true, Nat.zero_add, Nat.le_refl, List.append_toArray, List.cons_append, List.nil_append, List.length_cons, List.length_nil, Nat.reduceAdd, Nat.reduceSub, Nat.reduceLeDiff, Nat.succ_ne_self, beq_self_eq_true, List.replicate_succ, List.replicate_zero, tl, Int.reduceEq, h1, h2, f1, f2, f3]
      split
      · rename_i hc
        have hne : ¬ (n + 1 + i) % 64 = 56 := by simpa using hc
        have hiz : i < z := by
          rcases Nat.lt_or_ge i z with h | h
          · exact h
          · exact absurd ((hz2 i hi).2 (by omega)) hne
        rw [hrep]
        refine ⟨⟨by simp; omega, by omega, by omega⟩, ?_⟩
        refine ih (i + 1, _, c + 1 + 1, 17) _ ⟨by simp only; omega, by simp, by simp⟩ (by simp only; omega) rfl ?_ ?_
        · simp [tl, LeT]; omega
        · intro m x hx
          simp [fnd] at hx ⊢
          obtain ⟨rfl, rfl⟩ := hx
          simp
      · rename_i hc
        have he : (n + 1 + i) % 64 = 56 := by simpa using hc
        obtain rfl : i = z := (hz2 i hi).1 he
        clear ih
        have h8n : IntKind.u64.wrap (8 * n) = 8 * n := wu64 (by omega) (by omega)
        have hl8 : (digs 8 (8 * n)).length = 8 := digs_length _ _
        have hg : ∀ k, k < 8 → (digs 8 (8 * n)).reverse[k]? = some (8 * n / 256 ^ (7 - k) % 256) := by
          intro k hk
          rw [List.getElem?_reverse (by omega), hl8, digs_get3 8 (8 * n) _ (by omega)]
        have hDl : (digs 8 (8 * n)).reverse.length = 8 := by simp [hl8]
        generalize (digs 8 (8 * n)).reverse = D at *
        refine loop_up (fun x : Nat × Nat × Nat × Nat => x.1 ≤ 8 ∧ x.2.2.2 ≠ 30) (fun x => ⟨tl 33 0 [(0, .int .u64 n), (3, .sl x.2.2.2 x.2.2.1 0 1 0 (1 + i + x.1)), (4, .int .i64 (7 - (x.1 : Int)))],
          [(x.2.2.2, x.2.2.1, .vec (.ints .u8 (128 :: (List.replicate i 0 ++ D.take x.1))))], ⟨x.2.1, [], 0⟩⟩) (fun x => 8 - x.1) (0, _, g, q) ⟨Nat.zero_le _, by simpa using hnm30⟩ ⟨rfl, ?_, ?_⟩ ?_
        · simp [tl, LeT]
        · intro m x hx; simpa [fnd] using hx
        · rintro ⟨k, c, g, q⟩ ⟨hk, hnm⟩ ih
          have hk : k ≤ 8 := hk
          obtain ⟨h1, h2⟩ := ne_eqs hnm
          refine absRun_ok TO 100 _ _ ?_
          simp only [List.take_succ_cons, List.take_zero, List.drop_zero, pureOpC, unc, fitT, absRun, absOps, absOp, evO, constSV, ungd, gdP, gdPs, setD, binI, binV, ptrE, convV, T_ty, T_size, T_bytes, T_zero, tTy, tSize, tBytes, tZero, pureOp, memOp, newV, notIn, dataOf, appD, isSrc, elemsOf, intsOf, zI, known, blkAt, fnd, upd, del, mv, Data.len, Data.esz, Data.sub, Lim.add, retP, resV, retQ, rAs, rA, ownN, nodup, bares, bare, bareD, Op.operands, Call.operands, List.getD, List.getElem?_cons_zero, List.getElem?_cons_succ, Option.getD_some, List.set, List.map, List.toList_toArray, Option.map_some, exitTo, true_and, and_true, and_self, if_true, if_false, eq_self, Nat.zero_add, Nat.le_refl, List.append_toArray, List.cons_append, List.nil_append, List.length_cons, List.length_nil, Nat.reduceAdd, Nat.reduceSub, Nat.reduceLeDiff, Nat.succ_ne_self, beq_self_eq_true, List.replicate_succ, List.replicate_zero, Bool.and_self, Data.ints.injEq, tl, ge_iff_le, h1, h2, h8n]
          split
          · rename_i hc
            have hk8 : k < 8 := by simp at hc; omega
            have e1 : IntKind.i64.wrap (8 * (7 - (k : Int))) = 8 * ((7 - k : Nat) : Int) := by rw [w64 (by omega) (by omega)]; omega
            have e2 : IntKind.u64.wrap (8 * ((7 - k : Nat) : Int)) = 8 * ((7 - k : Nat) : Int) := wu64 (by omega) (by omega)
            have e3 : D.take k ++ [8 * n / 256 ^ (7 - k) % 256] = D.take (k + 1) := by rw [List.take_add_one, hg k hk8]; rfl
            rw [e1, e2, shr_bytes _ _ (by omega), wu8, List.append_assoc, e3, w64 (by omega) (by omega)]
            refine ⟨by omega, ⟨by simp; omega, by omega, by omega⟩, ?_⟩
            refine ih (k + 1, _, c + 1 + 1, 31) _ ⟨by simp only; omega, by simp⟩ (by simp only; omega) rfl ?_ ?_
            · simp [tl, LeT, hDl]; omega
            · intro m x hx
              simp [fnd] at hx ⊢
              obtain ⟨rfl, rfl⟩ := hx
              simp
          · rename_i hc
            obtain rfl : k = 8 := by simp at hc; omega
            rw [List.take_of_length_le (by omega)]
            simp [hDl]; omega
  · have hge : 1152921504606846976 ≤ n := by omega
    simp [hlt, hge, behL]

end Go.Proofs.YtdhnjmepgafeiaaDoor.Abs

/- The sum of bytes: sha.Sum. -/
set_option linter.unusedVariables false
set_option linter.unusedSimpArgs false
set_option maxRecDepth 100000
namespace Go.Proofs.YtdhnjmepgafeiaaDoor.Abs
open Go Go.Proofs

/-- A state, into which so many blocks were pressed. -/
def foldE (st l : List Int) : Nat → List Int
  | 0 => st
  | k + 1 => pressL G0 (foldE st l k) ((l.drop (64 * k)).take 64)

theorem foldE_length {st l : List Int} (h : st.length = 8) : ∀ k, (foldE st l k).length = 8
  | 0 => h
  | k + 1 => pressL_length (foldE_length h k)

theorem foldE_app {st l m : List Int} : ∀ k, 64 * k ≤ l.length → foldE st (l ++ m) k = foldE st l k
  | 0, _ => rfl
  | k + 1, h => by
    simp only [foldE]
    rw [foldE_app k (by omega), List.drop_append, List.take_append, List.length_drop, show 64 - (l.length - 64 * k) = 0 by omega, List.take_zero, List.append_nil]

/-- A byte of the sum. -/
def out1 (st : List Int) (i : Nat) : Int := IntKind.u8.wrap (shrI .u32 (st[i / 4]?.getD 0) ((24 - (i % 4) * 8 : Nat) : Int))
def outL (st : List Int) : Nat → List Int
  | 0 => []
  | i + 1 => outL st i ++ [out1 st i]
theorem outL_length (st : List Int) : ∀ i, (outL st i).length = i
  | 0 => rfl
  | i + 1 => by simp [outL, outL_length st i]
theorem outL_set {st : List Int} {i : Nat} (h : i < 32) : (outL st i ++ List.replicate (32 - i) 0).set i (out1 st i) = outL st (i + 1) ++ List.replicate (32 - (i + 1)) 0 := by
  obtain ⟨r, hr⟩ : ∃ r, 32 - i = r + 1 := ⟨32 - i - 1, by omega⟩
  rw [hr, show 32 - (i + 1) = r by omega, List.replicate_succ, List.set_append_right _ _ (by rw [outL_length]; exact Nat.le_refl _), outL_length]
  simp [outL]

/-- Bytes, and what stands behind them. -/
def allL (b : List Int) : List Int := b ++ behL b.length
/-- The sum of bytes. -/
def sumL (b : List Int) : List Int := outL (foldE beginL (allL b) ((allL b).length / 64)) 32

theorem allL_mod {b : List Int} (h : b.length ≤ 140737488355000) : (allL b).length % 64 = 0 := by
  have h1 := behL_length_eq (n := b.length) (by omega)
  have h2 := (zN_le b.length).2
  simp only [allL, List.length_append]
  omega

theorem behL_bytes (n : Int) : Bytes (behL n) := by
  unfold behL; split
  · intro x hx
    simp only [List.mem_cons, List.mem_append, List.mem_replicate, List.mem_reverse] at hx
    rcases hx with rfl | ⟨_, rfl⟩ | hx
    · decide
    · decide
    · exact digs_bytes _ _ x hx
  · intro x hx; cases hx

theorem allL_bytes {b : List Int} (h : Bytes b) : Bytes (allL b) := h.app (behL_bytes _)
theorem sumL_length (b : List Int) : (sumL b).length = 32 := outL_length _ _

set_option maxHeartbeats 4000000 in
theorem Sum_meets (b : List Int) (hb : b.length ≤ 140737488355000) (hB : Bytes b) : Meets Tryd.prog 52 [.v (.view false (.ints .u8 b))] [.v (.arr .u8 32 (sumL b))] := by
  refine meets_go TO 100 Tryd.func52 rfl (fun X => ?_)
  simp only [Tryd.ntmps52, Tryd.results52, pureOpC, svs, blks, AV.sv, absRun, absOps, absOp, gdPs, T_size, T_zero, tSize, tZero, pureOp, memOp, newV, notIn, upd, Lim.add, Op.operands, List.set, List.toList_toArray, true_and, and_self, ne_eq, not_false_eq_true, reduceCtorEq, Nat.zero_add, List.cons_append, List.nil_append, List.length_cons, List.length_nil, Nat.reduceAdd, Nat.reduceSub, List.replicate_succ, List.replicate_zero]
  refine call_go TO 100 Begin_meets Tryd.func54 (by decide +kernel) rfl rfl rfl ?_
  simp only [pureOpC, unc, absRun, absOps, absOp, evO, ungd, gdP, gdPs, setD, T_ty, T_size, T_zero, tTy, tSize, tZero, pureOp, memOp, lenV, newV, notIn, arrAt, setA, blkAt, fnd, upd, Data.len, Lim.add, ownN, nodup, bares, bare, guardIs, callP, callS, argS, mAs, allNotIn, impN, impB, impT, packS, delL, Op.operands, Call.operands, List.getD, List.getElem?_cons_zero, List.getElem?_cons_succ, Option.getD_some, List.set, List.map, List.toList_toArray, Option.map_none, true_and, and_self, if_true, if_false, ite_self, eq_self, ne_eq, not_false_eq_true, reduceCtorEq, Nat.zero_add, List.append_toArray, List.nil_append, List.append_nil, Nat.reduceAdd, Nat.reduceLeDiff, Nat.succ_ne_self, List.replicate_succ, List.replicate_zero, Bool.and_self]
  have hmod := allL_mod hb
  have hbl : (allL b).length = b.length + (behL b.length).length := by simp [allL]
  have hb8 : beginL.length = 8 := rfl
  refine loop_up (fun x : Nat × Nat => 64 * x.1 ≤ b.length) (fun x => ⟨tl 55 0 [(0, .view false (.ints .u8 (b.drop (64 * x.1)))), (2, .ptr 2 2 0), (3, .ptr 3 3 0), (4, .int .i64 b.length)],
    [(2, 2, .cells [.arr .u8 32 (List.replicate 32 0)]), (3, 3, .cells [.arr .u32 8 (foldE beginL b x.1)])], ⟨x.2, [], 0⟩⟩) (fun x => b.length - 64 * x.1) (0, _) (Nat.zero_le _) ⟨rfl, ?_, ?_⟩ ?_
  · simp [tl, LeT]
  · intro m x hx; simpa [fnd, foldE] using hx
  · rintro ⟨k, c⟩ hk ih
    have hk : 64 * k ≤ b.length := hk
    have hdl : (b.drop (64 * k)).length = b.length - 64 * k := List.length_drop
    refine absRun_ok TO 100 _ _ ?_
    simp only [pureOpC, unc, fitT, absRun, absOps, absOp, evO, constSV, ungd, gdP, gdPs, setD, binI, binV, ptrE, convV, T_ty, T_size, T_bytes, T_zero, tTy, tSize, tBytes, tZero, pureOp, memOp, lenV, notIn, dataOf, isSrc, zI, known, upd, Data.len, Data.esz, Lim.add, Op.operands, Call.operands, List.getD, List.getElem?_cons_zero, List.getElem?_cons_succ, Option.getD_some, List.set, List.toList_toArray, exitTo, true_and, and_self, if_true, if_false, eq_self, Nat.zero_add, List.append_toArray, List.cons_append, List.nil_append, Nat.reduceAdd, Nat.reduceSub, Nat.reduceEqDiff, beq_self_eq_true, List.replicate_succ, List.replicate_zero, tl, ge_iff_le]
    split
    · rename_i hc
      have hk' : 64 * k + 64 ≤ b.length := by simp at hc; omega
      refine draw_go TO 5 100 mixed_ok (by decide +kernel) ?_
      have hP := Press_meets (foldE beginL b k) ((b.drop (64 * k)).take 64) (foldE_length hb8 k) (by rw [List.length_take]; omega) ((hB.drop _).take _)
      simp only [List.take_succ_cons, List.take_zero, List.drop_succ_cons, List.drop_zero, pureOpC, arrPV, unc, isEff, absD, pureStep, absRun, absOps, absOp, evO, constSV, ungd, gdP, gdPs, setD, T_ty, T_size, tTy, tSize, lowI, highI, maxP, sliceV, pureOp, memOp, loadV, arrAt, blkAt, fnd, Data.len, Data.esz, Data.sub, Op.operands, List.getD, List.getElem?_cons_zero, List.getElem?_cons_succ, Option.getD_some, List.set, List.toList_toArray, Option.map_some, Option.map_none, true_and, and_true, and_false, and_self, implies_true, imp_self, if_true, if_false, ite_self, eq_self, ne_eq, not_false_eq_true, forall_const, reduceCtorEq, Nat.zero_add, Int.cast_ofNat_Int, Int.reduceToNat, Int.le_refl, Option.toArray_some, Option.toArray_none, List.append_toArray, List.cons_append, List.nil_append, List.append_nil, Nat.reduceLeDiff, Nat.succ_ne_self, Int.reduceLE, Int.reduceEq]
      refine ⟨by omega, by omega, ?_⟩
      refine callD_go TO (fun s' h' => HOps_go TO 100 h') hP Tryd.func55 (by decide +kernel) rfl rfl rfl ?_
      simp only [pureOpC, unc, absD, subB, absRun, absOps, absOp, evO, constSV, ungd, gdP, gdPs, setD, T_ty, T_size, tTy, tSize, lowI, highI, maxP, sliceV, pureOp, memOp, arrAt, setA, blkAt, fnd, upd, Data.len, Data.esz, Data.sub, ownN, nodup, bares, bare, guardIs, callP, callS, argS, mAs, mA, allNotIn, impN, impB, impT, packS, delL, Op.operands, List.getD, List.getElem?_cons_zero, List.getElem?_cons_succ, Option.getD_some, List.set, List.map, List.toList_toArray, Option.map_some, Option.map_none, true_and, and_true, and_self, if_true, if_false, ite_self, eq_self, ne_eq, not_false_eq_true, reduceCtorEq, Int.reduceToNat, Int.le_refl, Option.toArray_some, Option.toArray_none, List.append_toArray, List.cons_append, List.nil_append, List.append_nil, Nat.reduceEqDiff, Nat.reduceLeDiff, Nat.succ_ne_self, Bool.and_self, Int.reduceLE]
      refine ⟨by omega, ?_⟩
      have hdr : ((b.drop (64 * k)).drop 64).take (((b.drop (64 * k)).length : Int) - 64).toNat = b.drop (64 * (k + 1)) := by
        rw [List.drop_drop, List.take_of_length_le (by rw [List.length_drop]; omega)]
        congr 1
      rw [hdr]
      refine ih (k + 1, _) _ (by simp only; omega) (by simp only; omega) rfl ?_ ?_
      · simp [tl, LeT]
      · intro m x hx; simpa [fnd, foldE] using hx
    · rename_i hc
      have hq : b.length / 64 = k := by simp at hc; omega
      have hfa : ∀ j, 64 * j ≤ b.length → foldE beginL (allL b) j = foldE beginL b j := fun j hj => foldE_app j hj
      refine ⟨⟨by omega, by omega⟩, ?_⟩
      have f1 : IntKind.u64.wrap (b.length : Int) = b.length := wu64 (by omega) (by omega)
      rw [f1]
      refine call_go TO 100 (Behind_meets b.length (by omega) (by omega)) Tryd.func56 (by decide +kernel) rfl rfl rfl ?_
      simp only [List.drop_zero, pureOpC, unc, fitT, absRun, absOps, absOp, evO, ungd, gdP, gdPs, setD, T_ty, T_size, T_bytes, T_zero, tTy, tSize, tBytes, tZero, pureOp, memOp, notIn, dataOf, appD, isSrc, zI, blkAt, fnd, upd, del, mv, Data.len, Data.esz, Data.sub, Lim.add, ownN, nodup, bares, bare, bareD, guardIs, callP, callS, argS, mAs, mA, mA0, mB0, allNotIn, nm, impN, impB, impT, packS, delL, Op.operands, Call.operands, List.getD, List.getElem?_cons_zero, List.getElem?_cons_succ, Option.getD_some, List.set, List.map, List.toList_toArray, true_and, and_self, if_true, if_false, eq_self, List.take_length, Nat.zero_add, Nat.add_zero, Nat.le_refl, List.append_toArray, List.cons_append, List.nil_append, Nat.reduceAdd, Nat.reduceMul, Nat.reduceEqDiff, Bool.and_self]
      have hbh := behL_length b.length
      refine ⟨by omega, ?_⟩
      have hlast : b.drop (64 * k) ++ behL b.length = (allL b).drop (64 * k) := by
        unfold allL; rw [List.drop_append, show 64 * k - b.length = 0 by omega, List.drop_zero]
      have hll : ((allL b).drop (64 * k)).length = (allL b).length - 64 * k := List.length_drop
      rw [hlast, ← hfa k hk]
      have haB := allL_bytes hB
      have hsum : sumL b = outL (foldE beginL (allL b) ((allL b).length / 64)) 32 := rfl
      rw [hsum]
      generalize allL b = a at *
      clear ih
      have hbe : foldE beginL a k = foldE beginL a (k + 0) := rfl
      rw [hbe]
      have hka : 64 * k ≤ a.length := by omega
      generalize c + 1 + 1 = g at *
      refine loop_up (fun x : Nat × Nat => 64 * (k + x.1) ≤ a.length) (fun x => ⟨tl 55 0 [(2, .ptr 2 2 0), (3, .ptr 3 3 0), (5, .sl 26 g 0 1 (64 * x.1) ((a.drop (64 * k)).length - 64 * x.1))],
        [(2, 2, .cells [.arr .u8 32 (List.replicate 32 0)]), (3, 3, .cells [.arr .u32 8 (foldE beginL a (k + x.1))]), (10400, g, .vec (.ints .u8 (behL b.length))), (26, g, .vec (.ints .u8 (a.drop (64 * k))))], ⟨x.2, [], 0⟩⟩) (fun x => a.length - 64 * (k + x.1)) (0, _) (by simp only; omega) ⟨rfl, ?_, ?_⟩ ?_
      · simp [tl, LeT]
      · intro m x hx; simpa [fnd] using hx
      · rintro ⟨j, c⟩ hj ih
        have hj : 64 * (k + j) ≤ a.length := hj
        refine absRun_ok TO 100 _ _ ?_
        simp only [pureOpC, unc, absRun, absOps, absOp, evO, constSV, ungd, gdP, gdPs, setD, binI, binV, ptrE, T_ty, T_size, T_zero, tTy, tSize, tZero, pureOp, memOp, lenV, newV, notIn, blkAt, fnd, upd, Lim.add, Op.operands, Call.operands, List.getD, List.getElem?_cons_zero, List.getElem?_cons_succ, Option.getD_some, List.set, List.toList_toArray, exitTo, true_and, and_self, if_true, if_false, eq_self, ne_eq, not_false_eq_true, reduceCtorEq, Nat.zero_add, List.append_toArray, List.cons_append, List.nil_append, Nat.reduceAdd, Nat.reduceSub, Nat.reduceEqDiff, beq_self_eq_true, List.replicate_succ, List.replicate_zero, tl, gt_iff_lt]
        split
        · rename_i hc2
          have hj' : 64 * (k + j) + 64 ≤ a.length := by simp at hc2; omega
          have hblk : ((a.drop (64 * k)).drop (64 * j)).take 64 = (a.drop (64 * (k + j))).take 64 := by rw [List.drop_drop, Nat.mul_add]
          have hP := Press_meets (foldE beginL a (k + j)) ((a.drop (64 * (k + j))).take 64) (foldE_length hb8 _) (by rw [List.length_take, List.length_drop]; omega) ((haB.drop _).take _)
          refine draw_go TO 5 100 mixed_ok (by decide +kernel) ?_
          simp only [List.take_succ_cons, List.take_zero, List.drop_succ_cons, List.drop_zero, pureOpC, arrPV, unc, isEff, absD, pureStep, absRun, absOps, absOp, evO, constSV, ungd, gdP, gdPs, setD, T_ty, T_size, tTy, tSize, lowI, highI, maxP, sliceV, pureOp, memOp, loadV, arrAt, blkAt, fnd, Data.len, Data.esz, Data.sub, Op.operands, List.getD, List.getElem?_cons_zero, List.getElem?_cons_succ, Option.getD_some, List.set, List.toList_toArray, Option.map_some, Option.map_none, true_and, and_true, and_false, and_self, implies_true, imp_self, if_true, if_false, ite_self, eq_self, ne_eq, not_false_eq_true, forall_const, reduceCtorEq, Int.cast_ofNat_Int, Int.reduceToNat, Int.le_refl, Option.toArray_some, Option.toArray_none, List.append_toArray, List.cons_append, List.nil_append, List.append_nil, Nat.reduceEqDiff, Nat.reduceLeDiff, Nat.succ_ne_self, Int.reduceLE, Int.reduceEq, hblk]
          repeat refine ⟨by omega, ?_⟩
          refine callD_go TO (fun s' h' => HOps_go TO 100 h') hP Tryd.func55 (by decide +kernel) rfl rfl rfl ?_
          simp only [pureOpC, unc, absD, subB, absRun, absOps, absOp, evO, constSV, ungd, gdP, gdPs, setD, T_ty, T_size, tTy, tSize, lowI, highI, maxP, sliceV, pureOp, memOp, arrAt, setA, blkAt, fnd, upd, ownN, nodup, bares, bare, guardIs, callP, callS, argS, mAs, mA, allNotIn, impN, impB, impT, packS, delL, Op.operands, List.getD, List.getElem?_cons_zero, List.getElem?_cons_succ, Option.getD_some, List.set, List.map, List.toList_toArray, Option.map_some, Option.map_none, true_and, and_true, and_self, if_true, if_false, ite_self, eq_self, ne_eq, not_false_eq_true, reduceCtorEq, Int.reduceToNat, Int.le_refl, Option.toArray_some, Option.toArray_none, List.append_toArray, List.cons_append, List.nil_append, List.append_nil, Nat.reduceEqDiff, Nat.reduceLeDiff, Nat.succ_ne_self, Bool.and_self, Int.reduceLE]
          refine ⟨by omega, ?_⟩
          refine ih (j + 1, _) _ (by simp only; omega) (by simp only; omega) rfl ?_ ?_
          · simp [tl, LeT]; omega
          · intro m x hx; simpa [fnd, foldE, Nat.add_assoc] using hx
        · rename_i hc2
          have hj' : a.length / 64 = k + j := by simp at hc2; omega
          rw [hj']
          have hstl := foldE_length (st := beginL) (l := a) hb8 (k + j)
          generalize foldE beginL a (k + j) = st at *
          clear ih
          generalize c + 1 + 1 = g2 at *
          refine loop_up (fun x : Nat × Nat => x.1 ≤ 32) (fun x => ⟨tl 55 0 [(2, .ptr 2 2 0), (3, .ptr 3 3 0), (6, .ptr 6 g2 0), (37, .int .i64 x.1)],
            [(2, 2, .cells [.arr .u8 32 (List.replicate 32 0)]), (3, 3, .cells [.arr .u32 8 st]), (10400, g, .vec (.ints .u8 (behL b.length))), (26, g, .vec (.ints .u8 (a.drop (64 * k)))), (6, g2, .cells [.arr .u8 32 (outL st x.1 ++ List.replicate (32 - x.1) 0)])], ⟨x.2, [], 0⟩⟩) (fun x => 32 - x.1) (0, _) (Nat.zero_le _) ⟨rfl, ?_, ?_⟩ ?_
          · simp [tl, LeT]
          · intro m x hx; simpa [fnd, outL] using hx
          · rintro ⟨i, c⟩ hi ih
            have hi : i ≤ 32 := hi
            refine absRun_ok TO 100 _ _ ?_
            have e1 : quoI .i64 (i : Int) 4 = ((i / 4 : Nat) : Int) := by
              unfold quoI
              rw [Int.tdiv_eq_ediv_of_nonneg (by omega), w64 (by omega) (by omega)]
              omega
            have e2 : remI (i : Int) 4 = ((i % 4 : Nat) : Int) := by unfold remI; rw [Int.tmod_eq_emod_of_nonneg (by omega)]; omega
            have e3 : IntKind.i64.wrap (((i % 4 : Nat) : Int) * 8) = ((i % 4 * 8 : Nat) : Int) := by rw [w64 (by omega) (by omega)]; omega
            have e4 : IntKind.i64.wrap (24 - ((i % 4 * 8 : Nat) : Int)) = ((24 - i % 4 * 8 : Nat) : Int) := by rw [w64 (by omega) (by omega)]; omega
            have e5 : IntKind.u64.wrap ((24 - i % 4 * 8 : Nat) : Int) = ((24 - i % 4 * 8 : Nat) : Int) := wu64 (by omega) (by omega)
            simp only [pureOpC, unc, absRun, absOps, absOp, evO, constSV, ungd, gdP, gdPs, setD, binI, binV, ptrE, convV, T_ty, T_size, tTy, tSize, iaddrV, pureOp, memOp, loadV, known, arrAt, setA, blkAt, fnd, upd, retP, resV, retQ, rAs, rA, ownN, nodup, bares, bare, Op.operands, List.getD, List.getElem?_cons_zero, List.getElem?_cons_succ, Option.getD_some, List.set, List.map, List.toList_toArray, Option.map_none, exitTo, true_and, and_true, and_self, if_true, if_false, ite_self, eq_self, ne_eq, not_false_eq_true, reduceCtorEq, Int.toNat_natCast, Int.cast_ofNat_Int, Nat.le_refl, List.cons_append, List.nil_append, Nat.reduceAdd, Nat.reduceSub, Nat.reduceEqDiff, Nat.reduceLeDiff, Nat.succ_ne_self, beq_self_eq_true, List.replicate_succ, List.replicate_zero, Bool.and_self, tl, Int.reduceEq, e1, e2, e3, e4, e5, Int.toNat_natCast]
            split
            · rename_i hc3
              have h32 : i < 32 := by simp at hc3; omega
              repeat refine ⟨by omega, ?_⟩
              rw [w64 (by omega) (by omega)]
              refine ih (i + 1, _) _ (by simp only; omega) (by simp only; omega) rfl ?_ ?_
              · simp [tl, LeT]
              · intro m x hx
                simp only at hx
                rw [← outL_set h32] at hx
                simpa [fnd, out1] using hx
            · rename_i hc3
              obtain rfl : i = 32 := by simp at hc3; omega
              simp

end Go.Proofs.YtdhnjmepgafeiaaDoor.Abs

/- The document's sum of bytes: as sha.Sum. -/
set_option linter.unusedVariables false
set_option linter.unusedSimpArgs false
set_option maxRecDepth 100000
namespace Go.Proofs.YtdhnjmepgafeiaaDoor.Abs
open Go Go.Proofs

theorem take_set_get {l : List Int} {n k : Nat} (hk : k < n) (hl : l.length = n) : (l.take k ++ List.replicate (n - k) (0 : Int)).set k (l[k]?.getD 0) = l.take (k + 1) ++ List.replicate (n - (k + 1)) 0 := by
  obtain ⟨r, hr⟩ : ∃ r, n - k = r + 1 := ⟨n - k - 1, by omega⟩
  have h1 : (l.take k).length = k := by rw [List.length_take]; omega
  rw [hr, show n - (k + 1) = r by omega, List.replicate_succ, List.set_append_right _ _ (by omega), h1]
  have e : l.take (k + 1) = l.take k ++ [l[k]?.getD 0] := by
    rw [List.take_add_one, List.getElem?_eq_getElem (by omega)]; rfl
  rw [e]
  simp

set_option maxHeartbeats 4000000 in
theorem rSum_meets (b : List Int) (hb : b.length ≤ 140737488355000) (hB : Bytes b) : Meets Tryd.prog 53 [.v (.view false (.ints .u8 b))] [.v (.arr .u8 32 (sumL b))] := by
  refine meets_go TO 100 Tryd.func53 rfl (fun X => ?_)
  simp only [Tryd.ntmps53, Tryd.results53, pureOpC, unc, fitT, svs, blks, AV.sv, absRun, absOps, absOp, evO, constSV, ungd, gdP, gdPs, setD, convV, T_ty, T_size, T_bytes, T_zero, tTy, tSize, tBytes, tZero, pureOp, memOp, lenV, newV, notIn, dataOf, isSrc, zI, known, upd, Data.len, Data.esz, Lim.add, Op.operands, Call.operands, List.getD, List.getElem?_cons_zero, List.getElem?_cons_succ, Option.getD_some, List.set, List.toList_toArray, true_and, and_self, if_false, eq_self, ne_eq, not_false_eq_true, reduceCtorEq, Nat.zero_add, List.append_toArray, List.cons_append, List.nil_append, List.length_cons, List.length_nil, Nat.reduceAdd, Nat.reduceSub, Nat.reduceEqDiff, List.replicate_succ, List.replicate_zero]
  have hmod := allL_mod hb
  have hbl : (allL b).length = b.length + (behL b.length).length := by simp [allL]
  have hb8 : beginL.length = 8 := rfl
  have f1 : IntKind.u64.wrap (b.length : Int) = b.length := wu64 (by omega) (by omega)
  rw [f1]
  repeat refine ⟨by omega, ?_⟩
  refine call_go TO 100 (rBehind_meets b.length (by omega) (by omega)) Tryd.func57 (by decide +kernel) rfl rfl rfl ?_
  simp only [List.drop_zero, pureOpC, unc, fitT, absRun, absOps, absOp, evO, ungd, gdP, gdPs, setD, T_ty, T_size, T_bytes, T_zero, tTy, tSize, tBytes, tZero, pureOp, memOp, notIn, dataOf, appD, isSrc, zI, blkAt, fnd, upd, del, mv, Data.len, Data.esz, Data.sub, Lim.add, ownN, nodup, bares, bare, bareD, guardIs, callP, callS, argS, mAs, mA, mA0, mB0, allNotIn, nm, impN, impB, impT, packS, delL, Op.operands, Call.operands, List.getD, List.getElem?_cons_zero, List.getElem?_cons_succ, Option.getD_some, List.set, List.map, List.toList_toArray, true_and, and_self, if_true, if_false, eq_self, List.take_length, Nat.zero_add, Nat.add_zero, Nat.le_refl, List.append_toArray, List.nil_append, List.append_nil, Nat.reduceAdd, Nat.reduceMul, Nat.reduceEqDiff, Bool.and_self]
  have hbh := behL_length b.length
  refine ⟨⟨by omega, by omega⟩, ?_⟩
  refine call_go TO 100 rBegin_meets Tryd.func58 (by decide +kernel) rfl rfl rfl ?_
  simp only [pureOpC, unc, absRun, absOps, absOp, evO, constSV, ungd, gdP, gdPs, setD, T_ty, T_size, T_zero, tTy, tSize, tZero, pureOp, memOp, newV, notIn, arrAt, setA, blkAt, fnd, upd, Lim.add, ownN, nodup, bares, bare, guardIs, callP, callS, argS, mAs, allNotIn, impN, impB, impT, packS, delL, Op.operands, List.getD, List.getElem?_cons_zero, List.getElem?_cons_succ, Option.getD_some, List.set, List.map, List.toList_toArray, Option.map_none, true_and, and_self, if_true, if_false, ite_self, eq_self, ne_eq, not_false_eq_true, reduceCtorEq, Nat.zero_add, List.append_nil, Nat.reduceAdd, Nat.reduceEqDiff, Nat.reduceLeDiff, List.replicate_succ, List.replicate_zero, Bool.and_self]
  have hlast : b ++ behL b.length = allL b := rfl
  have haB := allL_bytes hB
  have hsum : sumL b = outL (foldE beginL (allL b) ((allL b).length / 64)) 32 := rfl
  rw [hsum, hlast]
  generalize allL b = a at *
  refine loop_up (fun x : Nat × Nat => 64 * x.1 ≤ a.length) (fun x => ⟨tl 67 0 [(2, .ptr 2 2 0), (3, .sl 21 6 0 1 0 a.length), (5, .ptr 5 7 0), (6, .int .i64 ((64 * x.1 : Nat) : Int))],
    [(2, 2, .cells [.arr .u8 32 (List.replicate 32 0)]), (21, 6, .vec (.ints .u8 a)), (5, 7, .cells [.arr .u32 8 (foldE beginL a x.1)])], ⟨x.2, [], 0⟩⟩) (fun x => a.length - 64 * x.1) (0, _) (Nat.zero_le _) ⟨rfl, ?_, ?_⟩ ?_
  · simp [tl, LeT]
  · intro m x hx
    simp only [fnd] at hx ⊢
    split at hx
    · rename_i h; subst h; simpa using hx
    split at hx
    · rename_i h; subst h; simpa using hx
    split at hx
    · rename_i h; subst h; simpa [foldE] using hx
    · cases hx
  · rintro ⟨j, c⟩ hj ih
    have hj : 64 * j ≤ a.length := hj
    refine absRun_ok TO 100 _ _ ?_
    simp only [pureOpC, unc, absRun, absOps, absOp, evO, constSV, ungd, gdP, gdPs, setD, binI, binV, ptrE, T_ty, T_size, T_zero, tTy, tSize, tZero, pureOp, memOp, lenV, newV, notIn, blkAt, fnd, upd, Lim.add, Op.operands, Call.operands, List.getD, List.getElem?_cons_zero, List.getElem?_cons_succ, Option.getD_some, List.set, List.toList_toArray, exitTo, true_and, and_self, if_true, if_false, eq_self, ne_eq, not_false_eq_true, reduceCtorEq, Nat.zero_add, List.append_toArray, List.cons_append, List.nil_append, Nat.reduceAdd, Nat.reduceSub, Nat.reduceEqDiff, beq_self_eq_true, List.replicate_succ, List.replicate_zero, tl]
    split
    · rename_i hc
      have hj' : 64 * j + 64 ≤ a.length := by simp at hc; omega
      have hblk : ((a.drop (64 * j)).take 64).length = 64 := by rw [List.length_take, List.length_drop]; omega
      have hP := rPress_meets (foldE beginL a j) ((a.drop (64 * j)).take 64) (foldE_length hb8 _) hblk ((haB.drop _).take _)
      have hbg : ∀ k, k < 64 → a[64 * j + k]?.getD 0 = ((a.drop (64 * j)).take 64)[k]?.getD 0 := by
        intro k hk
        rw [List.getElem?_take_of_lt hk, List.getElem?_drop]
      have hfe : foldE beginL a (j + 1) = pressL G0 (foldE beginL a j) ((a.drop (64 * j)).take 64) := rfl
      generalize (a.drop (64 * j)).take 64 = blk at *
      refine loop_up (fun x : Nat × Nat => x.1 ≤ 64) (fun x => ⟨tl 67 0 [(2, .ptr 2 2 0), (3, .sl 21 6 0 1 0 a.length), (5, .ptr 5 7 0), (6, .int .i64 ((64 * j : Nat) : Int)), (7, .ptr 7 (c + 1 + 1) 0), (8, .int .i64 x.1)],
        [(2, 2, .cells [.arr .u8 32 (List.replicate 32 0)]), (21, 6, .vec (.ints .u8 a)), (5, 7, .cells [.arr .u32 8 (foldE beginL a j)]), (7, c + 1 + 1, .cells [.arr .u8 64 (blk.take x.1 ++ List.replicate (64 - x.1) 0)])], ⟨x.2, [], 0⟩⟩) (fun x => 64 - x.1) (0, _) (Nat.zero_le _) ⟨rfl, ?_, ?_⟩ ?_
      · simp [tl, LeT]
      · intro m x hx; simpa [fnd] using hx
      · rintro ⟨k, c2⟩ hk ih2
        have hk : k ≤ 64 := hk
        refine absRun_ok TO 100 _ _ ?_
        have e1 : IntKind.i64.wrap (((64 * j : Nat) : Int) + k) = ((64 * j + k : Nat) : Int) := by rw [w64 (by omega) (by omega)]; omega
        simp only [pureOpC, unc, absRun, absOps, absOp, evO, constSV, ungd, gdP, gdPs, setD, binI, binV, ptrE, T_ty, T_size, tTy, tSize, iaddrV, pureOp, memOp, loadV, arrAt, setA, blkAt, fnd, upd, elemV, Data.len, Data.esz, Op.operands, List.getD, List.getElem?_cons_zero, List.getElem?_cons_succ, Option.getD_some, List.set, List.toList_toArray, Option.map_none, exitTo, true_and, and_self, if_true, if_false, ite_self, eq_self, ne_eq, not_false_eq_true, reduceCtorEq, Bool.false_eq_true, Nat.zero_add, Int.toNat_natCast, Int.cast_ofNat_Int, Nat.le_refl, List.cons_append, List.nil_append, Nat.reduceAdd, Nat.reduceSub, Nat.reduceEqDiff, Nat.reduceBEq, Nat.reduceLeDiff, Nat.succ_ne_self, beq_self_eq_true, List.replicate_succ, List.replicate_zero, tl, e1]
        split
        · rename_i hc2
          have hk64 : k < 64 := by simp at hc2; omega
          simp only [hbg k hk64]
          repeat refine ⟨by omega, ?_⟩
          rw [w64 (by omega) (by omega), take_set_get hk64 hblk]
          refine ih2 (k + 1, _) _ (by simp only; omega) (by simp only; omega) rfl ?_ ?_
          · simp [tl, LeT]
          · intro m x hx; simpa [fnd] using hx
        · rename_i hc2
          obtain rfl : k = 64 := by simp at hc2; omega
          rw [List.take_of_length_le (by omega), Nat.sub_self]
          simp only [Int.cast_ofNat_Int, List.append_nil, List.replicate_zero, Int.reduceLT, decide_false]
          refine call_go TO 100 hP Tryd.func59 (by decide +kernel) rfl rfl rfl ?_
          simp only [pureOpC, unc, absRun, absOps, absOp, evO, constSV, ungd, gdP, gdPs, setD, binI, binV, ptrE, T_ty, T_size, tTy, tSize, pureOp, memOp, arrAt, setA, blkAt, fnd, upd, ownN, nodup, bares, bare, guardIs, callP, callS, argS, mAs, mA, allNotIn, impN, impB, impT, packS, delL, Op.operands, List.getD, List.getElem?_cons_zero, List.getElem?_cons_succ, Option.getD_some, List.set, List.map, List.toList_toArray, Option.map_none, true_and, and_self, if_true, if_false, ite_self, eq_self, ne_eq, not_false_eq_true, reduceCtorEq, List.append_nil, Nat.reduceEqDiff, Nat.reduceLeDiff, Bool.and_self]
          have e2 : IntKind.i64.wrap (((64 * j : Nat) : Int) + 64) = ((64 * (j + 1) : Nat) : Int) := by rw [w64 (by omega) (by omega)]; omega
          rw [e2]
          refine ih (j + 1, _) _ (by simp only; omega) (by simp only; omega) rfl ?_ ?_
          · simp [tl, LeT]
          · intro m x hx
            simp only [fnd, hfe] at hx ⊢
            split at hx
            · rename_i h; subst h; simpa using hx
            split at hx
            · rename_i h; subst h; simpa using hx
            split at hx
            · rename_i h; subst h; simpa using hx
            · cases hx
    · rename_i hc
      have hj' : a.length / 64 = j := by simp at hc; omega
      rw [hj']
      have hstl := foldE_length (st := beginL) (l := a) hb8 j
      generalize foldE beginL a j = st at *
      clear ih
      generalize c + 1 + 1 = g2 at *
      refine loop_up (fun x : Nat × Nat => x.1 ≤ 8) (fun x => ⟨tl 67 0 [(2, .ptr 2 2 0), (5, .ptr 5 7 0), (9, .ptr 9 g2 0), (10, .int .i64 x.1)],
        [(2, 2, .cells [.arr .u8 32 (List.replicate 32 0)]), (21, 6, .vec (.ints .u8 a)), (5, 7, .cells [.arr .u32 8 st]), (9, g2, .cells [.arr .u8 32 (outL st (4 * x.1) ++ List.replicate (32 - 4 * x.1) 0)])], ⟨x.2, [], 0⟩⟩) (fun x => 8 - x.1) (0, _) (Nat.zero_le _) ⟨rfl, ?_, ?_⟩ ?_
      · simp [tl, LeT]
      · intro m x hx; simpa [fnd, outL] using hx
      · rintro ⟨i, c3⟩ hi ih
        have hi : i ≤ 8 := hi
        refine absRun_ok TO 100 _ _ ?_
        simp only [pureOpC, unc, absRun, absOps, absOp, evO, constSV, ungd, gdP, gdPs, setD, binI, binV, ptrE, T_ty, T_size, tTy, tSize, pureOp, memOp, loadV, arrAt, setA, blkAt, fnd, upd, retP, resV, retQ, rAs, rA, ownN, nodup, bares, bare, Op.operands, List.getD, List.getElem?_cons_zero, List.getElem?_cons_succ, Option.getD_some, List.set, List.map, List.toList_toArray, Option.map_none, exitTo, true_and, and_true, and_self, if_true, if_false, ite_self, eq_self, ne_eq, not_false_eq_true, reduceCtorEq, List.cons_append, List.nil_append, Nat.reduceAdd, Nat.reduceSub, Nat.reduceEqDiff, Nat.reduceLeDiff, beq_self_eq_true, List.replicate_succ, List.replicate_zero, Bool.and_self, tl]
        split
        · rename_i hc3
          have hi8 : i < 8 := by simp at hc3; omega
          refine loop_up (fun x : Nat × Nat => x.1 ≤ 4) (fun x => ⟨tl 67 0 [(2, .ptr 2 2 0), (5, .ptr 5 7 0), (9, .ptr 9 g2 0), (10, .int .i64 i), (11, .int .i64 x.1)],
            [(2, 2, .cells [.arr .u8 32 (List.replicate 32 0)]), (21, 6, .vec (.ints .u8 a)), (5, 7, .cells [.arr .u32 8 st]), (9, g2, .cells [.arr .u8 32 (outL st (4 * i + x.1) ++ List.replicate (32 - (4 * i + x.1)) 0)])], ⟨x.2, [], 0⟩⟩) (fun x => 4 - x.1) (0, _) (Nat.zero_le _) ⟨rfl, ?_, ?_⟩ ?_
          · simp [tl, LeT]
          · intro m x hx; simpa [fnd] using hx
          · rintro ⟨k, c4⟩ hk ih2
            have hk : k ≤ 4 := hk
            refine absRun_ok TO 100 _ _ ?_
            have e1 : IntKind.i64.wrap (4 * (i : Int)) = ((4 * i : Nat) : Int) := by rw [w64 (by omega) (by omega)]; omega
            have e2 : IntKind.i64.wrap (((4 * i : Nat) : Int) + k) = ((4 * i + k : Nat) : Int) := by rw [w64 (by omega) (by omega)]; omega
            have e3 : IntKind.i64.wrap (8 * (k : Int)) = ((k * 8 : Nat) : Int) := by rw [w64 (by omega) (by omega)]; omega
            simp only [pureOpC, unc, absRun, absOps, absOp, evO, constSV, ungd, gdP, gdPs, setD, binI, binV, ptrE, convV, T_ty, T_size, tTy, tSize, iaddrV, pureOp, memOp, loadV, known, arrAt, setA, blkAt, fnd, upd, Op.operands, List.getD, List.getElem?_cons_zero, List.getElem?_cons_succ, Option.getD_some, List.set, List.toList_toArray, Option.map_none, exitTo, true_and, and_self, if_true, if_false, ite_self, eq_self, ne_eq, not_false_eq_true, Bool.false_eq_true, Int.toNat_natCast, Int.cast_ofNat_Int, Nat.le_refl, List.cons_append, List.nil_append, Nat.reduceAdd, Nat.reduceSub, Nat.reduceEqDiff, Nat.reduceBEq, Nat.reduceLeDiff, Nat.succ_ne_self, beq_self_eq_true, List.replicate_succ, List.replicate_zero, tl, e1, e2, e3, Int.toNat_natCast]
            split
            · rename_i hc4
              have hk4 : k < 4 := by simp at hc4; omega
              have e4 : IntKind.i64.wrap (24 - ((k * 8 : Nat) : Int)) = ((24 - k * 8 : Nat) : Int) := by rw [w64 (by omega) (by omega)]; omega
              have e5 : IntKind.u64.wrap ((24 - k * 8 : Nat) : Int) = ((24 - k * 8 : Nat) : Int) := wu64 (by omega) (by omega)
              have ho : IntKind.u8.wrap (shrI .u32 (st[i]?.getD 0) ((24 - k * 8 : Nat) : Int)) = out1 st (4 * i + k) := by
                unfold out1
                rw [show (4 * i + k) / 4 = i by omega, show (4 * i + k) % 4 = k by omega]
              rw [e4, e5, ho]
              repeat refine ⟨by omega, ?_⟩
              rw [w64 (by omega) (by omega), outL_set (by omega)]
              refine ih2 (k + 1, _) _ (by simp only; omega) (by simp only; omega) rfl ?_ ?_
              · simp [tl, LeT]
              · intro m x hx; simpa [fnd, Nat.add_assoc] using hx
            · rename_i hc4
              obtain rfl : k = 4 := by simp at hc4; omega
              rw [w64 (by omega) (by omega)]
              refine ih (i + 1, _) _ (by simp only; omega) (by simp only; omega) rfl ?_ ?_
              · simp [tl, LeT]
              · intro m x hx; simpa [fnd, Nat.mul_add] using hx
        · rename_i hc3
          obtain rfl : i = 8 := by simp at hc3; omega
          simp

end Go.Proofs.YtdhnjmepgafeiaaDoor.Abs
