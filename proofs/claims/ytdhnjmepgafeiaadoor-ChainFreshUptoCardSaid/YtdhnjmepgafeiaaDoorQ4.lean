/- What the document's Get of a head answers: the same. -/
import Derived.Test.YtdhnjmepgafeiaaDoorQ3
set_option linter.unusedVariables false
set_option linter.unusedSimpArgs false
set_option maxRecDepth 100000
namespace Go.Proofs.YtdhnjmepgafeiaaDoor.Abs
open Go Go.Proofs

theorem Bytes.zeros (n : Nat) : Bytes (List.replicate n 0) := by
  intro y hy
  obtain ⟨_, rfl⟩ := List.mem_replicate.1 hy
  omega

theorem number_meets (b : List Int) (at_ n : Int) (hb : b.length ≤ 140737488351232) (hB : Bytes b) : Meets Tryd.prog 28 [.v (.view false (.ints .u8 b)), .v (.int .i64 at_), .v (.int .i64 n)] [.v (.int .u64 (getV b at_ n))] := by
  have hG := rGet_meets b at_ n hb hB
  refine meets_go TO 100 Tryd.func28 rfl (fun X => ?_)
  simp only [Tryd.ntmps28, Tryd.results28, pureOpC, svs, blks, AV.sv, absRun, absOps, absOp, evO, constSV, ungd, gdP, gdPs, setD, pureOp, memOp, Op.operands, List.getD, List.getElem?_cons_zero, List.getElem?_cons_succ, Option.getD_some, List.set, List.toList_toArray, true_and, and_self, Nat.zero_add, List.cons_append, List.nil_append, List.length_cons, List.length_nil, Nat.reduceAdd, Nat.reduceSub, List.replicate_succ, List.replicate_zero]
  refine call_go TO 100 hG Tryd.func42 (by decide +kernel) rfl rfl rfl ?_
  simp only [pureOpC, unc, absRun, absOps, absOp, evO, ungd, gdP, gdPs, setD, extractV, pureOp, retP, resV, retQ, rAs, rA, rA0, ownN, nodup, bares, bare, bare0, guardIs, callP, callS, argS, mAs, mA, mA0, mB0, lowD, allNotIn, impN, impB, impT, packS, delL, Op.operands, List.getD, List.getElem?_cons_zero, List.getElem?_cons_succ, Option.getD_some, List.set, List.map, List.toList_toArray, and_self, eq_self, List.append_nil, Nat.reduceAdd, Bool.and_self]

theorem magic_eq (b : List Int) (a : Int) (hB : Bytes b) (h0 : 0 ≤ a) (h : 64 ≤ (b.length : Int) - a) :
    (b[a.toNat]?.getD 0 != 254 || b[(a + 1).toNat]?.getD 0 != 83 || b[(a + 2).toNat]?.getD 0 != 77 || b[(a + 3).toNat]?.getD 0 != 66) = !(getV b a 4 == 1112364030) := by
  obtain ⟨n, rfl⟩ : ∃ n : Nat, a = n := ⟨a.toNat, by omega⟩
  have e : cutE b.length n 4 = 0 := by unfold cutE; rw [if_neg (by omega), if_neg (by omega)]
  have eg : getE b.length n 4 = 0 := by unfold getE; rw [if_pos (by decide), e]
  have ec : cutL b n 4 = [b[n]?.getD 0, b[n + 1]?.getD 0, b[n + 2]?.getD 0, b[n + 3]?.getD 0] := by
    unfold cutL
    rw [if_pos e]
    apply List.ext_getElem?
    intro j
    rw [show ((4 : Int).toNat) = 4 from rfl, Int.toNat_natCast, List.getElem?_take]
    split
    · rename_i hj
      rw [List.getElem?_drop]
      have hl : n + j < b.length := by omega
      have : j = 0 ∨ j = 1 ∨ j = 2 ∨ j = 3 := by omega
      rcases this with rfl | rfl | rfl | rfl
      · simp [List.getElem?_eq_getElem (show n < b.length by omega)]
      · simp [List.getElem?_eq_getElem (show n + 1 < b.length by omega)]
      · simp [List.getElem?_eq_getElem (show n + 2 < b.length by omega)]
      · simp [List.getElem?_eq_getElem (show n + 3 < b.length by omega)]
    · rename_i hj
      rw [List.getElem?_eq_none (by simp; omega)]
  have ev : getV b n 4 = b[n]?.getD 0 + 256 * (b[n + 1]?.getD 0 + 256 * (b[n + 2]?.getD 0 + 256 * (b[n + 3]?.getD 0 + 256 * 0))) := by
    unfold getV
    rw [if_pos eg, ec]
    rfl
  rw [ev, Int.toNat_natCast, show ((n : Int) + 1).toNat = n + 1 by omega, show ((n : Int) + 2).toNat = n + 2 by omega, show ((n : Int) + 3).toNat = n + 3 by omega]
  have g0 := hB.getD n
  have g1 := hB.getD (n + 1)
  have g2 := hB.getD (n + 2)
  have g3 := hB.getD (n + 3)
  simp only [List.getD] at g0 g1 g2 g3
  rw [Bool.eq_iff_iff]
  simp only [Bool.or_eq_true, bne_iff_ne, ne_eq, Bool.not_eq_true', beq_eq_false_iff_ne]
  omega

def getH0 (b : List Int) (a : Int) : Hd := ⟨getV b (a + 6) 2, getV b (a + 8) 4, getV b (a + 12) 2, getV b (a + 14) 2, getV b (a + 16) 4, getV b (a + 20) 4, getV b (a + 24) 8, 0, 0, getV b (a + 40) 8, [0, 0, 0, 0, 0, 0, 0, 0, 0, 0, 0, 0, 0, 0, 0, 0]⟩
theorem getH0_ok (b : List Int) (a : Int) (hB : Bytes b) : (getH0 b a).ok := by
  have g := fun a n => getV_lt b a n hB
  refine ⟨?_, ?_, ?_, ?_, ?_, ?_, ?_, ?_, ?_, ?_, rfl, ?_⟩
  · exact g (a + 6) 2
  · exact g (a + 8) 4
  · exact g (a + 12) 2
  · exact g (a + 14) 2
  · exact g (a + 16) 4
  · exact g (a + 20) 4
  · exact g (a + 24) 8
  · exact ⟨Int.le_refl _, by show (0 : Int) < 18446744073709551616; decide⟩
  · exact ⟨Int.le_refl _, by show (0 : Int) < 4294967296; decide⟩
  · exact g (a + 40) 8
  · exact Bytes.zeros 16

set_option maxHeartbeats 8000000 in
theorem rGet07_meets (b : List Int) (at_ : Int) (hb : b.length ≤ 140737488351232) (hB : Bytes b) (ha : -9223372036854775808 ≤ at_ ∧ at_ ≤ 9223372036854775807) : Meets Tryd.prog 17 [.v (.view false (.ints .u8 b)), .v (.int .i64 at_)] [.v (gotH b at_).sv, .v (.int .i64 (gotE b at_))] := by
  refine meets_go TO 100 Tryd.func17 rfl (fun X => ?_)
  simp only [Tryd.ntmps17, Tryd.results17, Hd.sv, pureOpC, buildV, fillC, cntC, unc, svs, blks, AV.sv, absRun, absOps, absOp, evO, constSV, ungd, gdP, gdPs, setD, binI, binV, ptrE, T_ty, T_size, T_zero, tTy, tSize, tZero, pickV, pureOp, guardOf, memOp, lenV, loadV, newV, notIn, scal, okC, takeC, dropC, blkAt, fnd, upd, Data.len, Lim.add, retP, resV, retQ, rAs, rA, rA0, rAl, ownN, nodup, bares, bare, bare0, bareL, Op.operands, Call.operands, List.getD, List.getElem?_cons_zero, List.getElem?_cons_succ, Option.getD_some, List.set, List.map, List.all, List.toList_toArray, List.getElem?_toArray, Option.bind_some, Option.map_some, true_and, and_true, and_self, implies_true, imp_self, if_true, if_false, eq_self, ne_eq, not_false_eq_true, reduceCtorEq, Nat.zero_add, Nat.add_zero, Nat.le_refl, Bool.cond_true_left, List.append_toArray, List.cons_append, List.nil_append, List.append_nil, List.length_cons, List.length_nil, Nat.reduceAdd, Nat.reduceSub, Nat.reduceEqDiff, List.replicate_succ, List.replicate_zero, Bool.and_true, Bool.and_self, gt_iff_lt]
  by_cases c1 : at_ < 0 ∨ (b.length : Int) < at_
  · have e1 : gotE b at_ = 2 := by unfold gotE; rw [if_pos c1]
    have e2 : gotH b at_ = hdZero := by unfold gotH; rw [e1]; rfl
    rw [if_pos (by simpa using c1), e1, e2]
    and_intros <;> first | rfl | trivial
  rw [if_neg (by simpa using c1), w64 (by omega) (by omega)]
  by_cases c2 : (b.length : Int) - at_ < 64
  · have e1 : gotE b at_ = 4 := by unfold gotE; rw [if_neg c1, if_pos c2]
    have e2 : gotH b at_ = hdZero := by unfold gotH; rw [e1]; rfl
    rw [if_pos (by simpa using c2), e1, e2]
    and_intros <;> first | rfl | trivial
  rw [if_neg (by simpa using c2)]
  have h0 : 0 ≤ at_ := by omega
  have h1 : at_ ≤ b.length := by omega
  have g := fun a n => getV_lt b a n hB
  have W16 : ∀ a, IntKind.u16.wrap (getV b a 2) = getV b a 2 := fun a => by have := g a 2; simp only [Int.cast_ofNat_Int] at this; rw [IntKind.wrap_u16]; omega
  have W32 : ∀ a, IntKind.u32.wrap (getV b a 4) = getV b a 4 := fun a => by have := g a 4; simp only [Int.cast_ofNat_Int] at this; rw [IntKind.wrap_u32]; omega
  have A : ∀ k : Int, 0 ≤ k → k ≤ 64 → IntKind.i64.wrap (at_ + k) = at_ + k := fun k _ _ => w64 (by omega) (by omega)
  simp only [Int.reduceLE, A]
  have N := fun a n => number_meets b a n hb hB
  refine call_go TO 100 (N (at_ + 6) 2) Tryd.func28 (by decide +kernel) rfl rfl rfl ?_
  simp only [pureOpC, unc, absRun, absOps, absOp, evO, constSV, ungd, gdP, gdPs, setD, binI, binV, ptrE, convV, T_ty, T_size, tTy, tSize, fieldOf, faddrV, pureOp, memOp, scal, known, setC, blkAt, fnd, upd, ownN, nodup, bares, bare, bare0, guardIs, callP, callS, argS, mAs, mA, mA0, mB0, lowD, allNotIn, impN, impB, impT, packS, delL, Op.operands, List.getD, List.getElem?_cons_zero, List.getElem?_cons_succ, Option.getD_some, List.set, List.map, List.toList_toArray, Option.map_some, Option.map_none, true_and, and_self, if_true, if_false, ite_self, eq_self, ne_eq, not_false_eq_true, reduceCtorEq, Nat.add_zero, List.append_nil, Nat.reduceAdd, Nat.reduceSub, Nat.reduceEqDiff, Nat.reduceLT, Nat.succ_ne_self, Bool.and_self, Int.reduceLE, W16, A]
  refine call_go TO 100 (N (at_ + 8) 4) Tryd.func28 (by decide +kernel) rfl rfl rfl ?_
  simp only [pureOpC, unc, absRun, absOps, absOp, evO, constSV, ungd, gdP, gdPs, setD, binI, binV, ptrE, convV, T_ty, T_size, tTy, tSize, fieldOf, faddrV, pureOp, memOp, scal, known, setC, blkAt, fnd, upd, ownN, nodup, bares, bare, bare0, guardIs, callP, callS, argS, mAs, mA, mA0, mB0, lowD, allNotIn, impN, impB, impT, packS, delL, Op.operands, List.getD, List.getElem?_cons_zero, List.getElem?_cons_succ, Option.getD_some, List.set, List.map, List.toList_toArray, Option.map_some, Option.map_none, true_and, and_self, if_true, if_false, ite_self, eq_self, ne_eq, not_false_eq_true, reduceCtorEq, Nat.zero_add, List.append_nil, Nat.reduceAdd, Nat.reduceSub, Nat.reduceEqDiff, Nat.reduceLT, Nat.succ_ne_self, Bool.and_self, Int.reduceLE, W32, A]
  refine call_go TO 100 (N (at_ + 12) 2) Tryd.func28 (by decide +kernel) rfl rfl rfl ?_
  simp only [pureOpC, unc, absRun, absOps, absOp, evO, constSV, ungd, gdP, gdPs, setD, binI, binV, ptrE, convV, T_ty, T_size, tTy, tSize, fieldOf, faddrV, pureOp, memOp, scal, known, setC, blkAt, fnd, upd, ownN, nodup, bares, bare, bare0, guardIs, callP, callS, argS, mAs, mA, mA0, mB0, lowD, allNotIn, impN, impB, impT, packS, delL, Op.operands, List.getD, List.getElem?_cons_zero, List.getElem?_cons_succ, Option.getD_some, List.set, List.map, List.toList_toArray, Option.map_some, Option.map_none, true_and, and_self, if_true, if_false, ite_self, eq_self, ne_eq, not_false_eq_true, reduceCtorEq, Nat.zero_add, List.append_nil, Nat.reduceAdd, Nat.reduceSub, Nat.reduceEqDiff, Nat.reduceLT, Nat.succ_ne_self, Bool.and_self, Int.reduceLE, W16, A]
  refine call_go TO 100 (N (at_ + 14) 2) Tryd.func28 (by decide +kernel) rfl rfl rfl ?_
  simp only [pureOpC, unc, absRun, absOps, absOp, evO, constSV, ungd, gdP, gdPs, setD, binI, binV, ptrE, convV, T_ty, T_size, tTy, tSize, fieldOf, faddrV, pureOp, memOp, scal, known, setC, blkAt, fnd, upd, ownN, nodup, bares, bare, bare0, guardIs, callP, callS, argS, mAs, mA, mA0, mB0, lowD, allNotIn, impN, impB, impT, packS, delL, Op.operands, List.getD, List.getElem?_cons_zero, List.getElem?_cons_succ, Option.getD_some, List.set, List.map, List.toList_toArray, Option.map_some, Option.map_none, true_and, and_self, if_true, if_false, ite_self, eq_self, ne_eq, not_false_eq_true, reduceCtorEq, Nat.zero_add, List.append_nil, Nat.reduceAdd, Nat.reduceSub, Nat.reduceEqDiff, Nat.reduceLT, Nat.succ_ne_self, Bool.and_self, Int.reduceLE, W16, A]
  refine call_go TO 100 (N (at_ + 16) 4) Tryd.func28 (by decide +kernel) rfl rfl rfl ?_
  simp only [pureOpC, unc, absRun, absOps, absOp, evO, constSV, ungd, gdP, gdPs, setD, binI, binV, ptrE, convV, T_ty, T_size, tTy, tSize, fieldOf, faddrV, pureOp, memOp, scal, known, setC, blkAt, fnd, upd, ownN, nodup, bares, bare, bare0, guardIs, callP, callS, argS, mAs, mA, mA0, mB0, lowD, allNotIn, impN, impB, impT, packS, delL, Op.operands, List.getD, List.getElem?_cons_zero, List.getElem?_cons_succ, Option.getD_some, List.set, List.map, List.toList_toArray, Option.map_some, Option.map_none, true_and, and_self, if_true, if_false, ite_self, eq_self, ne_eq, not_false_eq_true, reduceCtorEq, Nat.zero_add, List.append_nil, Nat.reduceAdd, Nat.reduceSub, Nat.reduceEqDiff, Nat.reduceLT, Nat.succ_ne_self, Bool.and_self, Int.reduceLE, W32, A]
  refine call_go TO 100 (N (at_ + 20) 4) Tryd.func28 (by decide +kernel) rfl rfl rfl ?_
  simp only [pureOpC, unc, absRun, absOps, absOp, evO, constSV, ungd, gdP, gdPs, setD, binI, binV, ptrE, convV, T_ty, T_size, tTy, tSize, fieldOf, faddrV, pureOp, memOp, scal, known, setC, blkAt, fnd, upd, ownN, nodup, bares, bare, bare0, guardIs, callP, callS, argS, mAs, mA, mA0, mB0, lowD, allNotIn, impN, impB, impT, packS, delL, Op.operands, List.getD, List.getElem?_cons_zero, List.getElem?_cons_succ, Option.getD_some, List.set, List.map, List.toList_toArray, Option.map_some, Option.map_none, true_and, and_self, if_true, if_false, ite_self, eq_self, ne_eq, not_false_eq_true, reduceCtorEq, Nat.zero_add, List.append_nil, Nat.reduceAdd, Nat.reduceSub, Nat.reduceEqDiff, Nat.reduceLT, Nat.succ_ne_self, Bool.and_self, Int.reduceLE, W32, A]
  refine call_go TO 100 (N (at_ + 24) 8) Tryd.func28 (by decide +kernel) rfl rfl rfl ?_
  simp only [pureOpC, unc, absRun, absOps, absOp, evO, constSV, ungd, gdP, gdPs, setD, binI, binV, ptrE, T_ty, T_size, tTy, tSize, fieldOf, faddrV, pureOp, memOp, scal, setC, blkAt, fnd, upd, ownN, nodup, bares, bare, bare0, guardIs, callP, callS, argS, mAs, mA, mA0, mB0, lowD, allNotIn, impN, impB, impT, packS, delL, Op.operands, List.getD, List.getElem?_cons_zero, List.getElem?_cons_succ, Option.getD_some, List.set, List.map, List.toList_toArray, Option.map_some, Option.map_none, true_and, and_self, if_true, if_false, ite_self, eq_self, ne_eq, not_false_eq_true, reduceCtorEq, Nat.zero_add, List.append_nil, Nat.reduceAdd, Nat.reduceSub, Nat.reduceEqDiff, Nat.reduceLT, Nat.succ_ne_self, Bool.and_self, Int.reduceLE, A]
  refine call_go TO 100 (N (at_ + 40) 8) Tryd.func28 (by decide +kernel) rfl rfl rfl ?_
  simp only [pureOpC, unc, absRun, absOps, absOp, evO, constSV, ungd, gdP, gdPs, setD, T_ty, T_size, tTy, tSize, fieldOf, faddrV, pureOp, memOp, loadV, scal, takeC, dropC, setC, blkAt, fnd, upd, ownN, nodup, bares, bare, bare0, guardIs, callP, callS, argS, mAs, mA, mA0, mB0, lowD, allNotIn, impN, impB, impT, packS, delL, Op.operands, List.getD, List.getElem?_cons_zero, List.getElem?_cons_succ, Option.getD_some, List.set, List.map, List.toList_toArray, Option.bind_some, Option.map_some, Option.map_none, true_and, and_self, if_true, if_false, ite_self, eq_self, ne_eq, not_false_eq_true, reduceCtorEq, Nat.zero_add, Nat.le_refl, List.append_nil, Nat.reduceAdd, Nat.reduceSub, Nat.reduceEqDiff, Nat.reduceLT, Nat.succ_ne_self, Bool.and_self]
  have gE : gotE b at_ = if formB b at_ then 0 else 5 := by unfold gotE; rw [if_neg c1, if_neg c2]
  have gF : formB b at_ = (getV b at_ 4 == 1112364030 && getV b (at_ + 4) 2 == 64 && mayB (getH b at_) && (flB (getV b (at_ + 16) 4) || getV b (at_ + 32) 4 == 0)) := rfl
  have gH : gotH b at_ = if gotE b at_ = 0 then getH b at_ else hdZero := rfl
  have hok := getH_ok b at_ hB h0 (by omega)
  have neg : formB b at_ = false → gotE b at_ = 5 ∧ gotH b at_ = hdZero := fun h => by rw [gH, gE, h]; exact ⟨rfl, rfl⟩
  have pos : formB b at_ = true → gotE b at_ = 0 ∧ gotH b at_ = getH b at_ := fun h => by rw [gH, gE, h]; exact ⟨rfl, rfl⟩
  have hH := rHas_meets _ (getH0_ok b at_ hB)
  rw [show hasB (getH0 b at_) = flB (getV b (at_ + 16) 4) by unfold hasB flB getH0; simp only] at hH
  simp only [Hd.sv, getH0] at hH
  obtain ⟨S, hS⟩ : ∃ S, S = (b.drop (at_ + 48).toNat).take 16 := ⟨_, rfl⟩
  have hSl : S.length = 16 := by rw [hS, List.length_take, List.length_drop]; omega
  have hM := rMay_meets (getH b at_) hok
  generalize hmb : mayB (getH b at_) = mb at hM gF
  simp only [Hd.sv, getH] at hM
  rw [← hS] at hM
  refine call_go TO 100 hH Tryd.func18 (by decide +kernel) rfl rfl rfl ?_
  cases hs : flB (getV b (at_ + 16) 4) with
  | true =>
    simp only [pureOpC, unc, absRun, absOps, absOp, evO, constSV, ungd, gdP, gdPs, setD, binI, binV, ptrE, pureOp, memOp, ownN, nodup, bares, bare, bare0, guardIs, callP, callS, argS, mAs, mA, mA0, mB0, mAl, allNotIn, impN, impB, impT, packS, delL, Op.operands, List.getD, List.getElem?_cons_zero, List.getElem?_cons_succ, Option.getD_some, List.set, List.map, List.toList_toArray, true_and, and_self, if_true, eq_self, List.append_nil, Nat.reduceAdd, Bool.and_self, Int.reduceLE, A]
    refine call_go TO 100 (N (at_ + 32) 8) Tryd.func28 (by decide +kernel) rfl rfl rfl ?_
    simp only [pureOpC, unc, absRun, absOps, absOp, evO, constSV, ungd, gdP, gdPs, setD, T_ty, T_size, tTy, tSize, fieldOf, faddrV, pureOp, memOp, scal, setC, blkAt, fnd, upd, ownN, nodup, bares, bare, bare0, guardIs, callP, callS, argS, mAs, mA, mA0, mB0, lowD, allNotIn, impN, impB, impT, packS, delL, Op.operands, List.getD, List.getElem?_cons_zero, List.getElem?_cons_succ, Option.getD_some, List.set, List.map, List.toList_toArray, Option.map_some, Option.map_none, true_and, and_self, if_true, if_false, ite_self, eq_self, ne_eq, not_false_eq_true, reduceCtorEq, Nat.zero_add, List.append_nil, Nat.reduceAdd, Nat.reduceSub, Nat.reduceEqDiff, Nat.reduceLT, Nat.succ_ne_self, Bool.and_self]
    refine loop_up (fun x : Nat × List Int × Nat => x.1 ≤ 16 ∧ x.2.1.length = 16 ∧ ∀ j, j < x.1 → x.2.1[j]?.getD 0 = S[j]?.getD 0) (fun x => ⟨tl 145 0 [(0, .view false (.ints .u8 b)), (1, .int .i64 at_), (4, .ptr 4 2 0), (5, .int .i64 0), (6, .ptr 6 5 0), (7, .int .i64 x.1)], [(4, 2, .cells [.int .u16 0, .int .u32 0, .int .u16 0, .int .u16 0, .int .u32 0, .int .u32 0, .int .u64 0, .int .u64 0, .int .u32 0, .int .u64 0, .arr .u8 16 [0, 0, 0, 0, 0, 0, 0, 0, 0, 0, 0, 0, 0, 0, 0, 0]]), (6, 5, .cells [.int .u16 (getV b (at_ + 6) 2), .int .u32 (getV b (at_ + 8) 4), .int .u16 (getV b (at_ + 12) 2), .int .u16 (getV b (at_ + 14) 2), .int .u32 (getV b (at_ + 16) 4), .int .u32 (getV b (at_ + 20) 4), .int .u64 (getV b (at_ + 24) 8), .int .u64 (getV b (at_ + 32) 8), .int .u32 0, .int .u64 (getV b (at_ + 40) 8), .arr .u8 16 x.2.1])], ⟨x.2.2, [], 0⟩⟩) (fun x => 16 - x.1) (0, [0, 0, 0, 0, 0, 0, 0, 0, 0, 0, 0, 0, 0, 0, 0, 0], 17) ⟨Nat.zero_le _, rfl, by simp⟩ ⟨rfl, ?_, ?_⟩ ?_
    · simp [LeT, tl]
    · intro m x hx; simpa [fnd] using hx
    · rintro ⟨i, m, gg⟩ ⟨hi, hml, hm⟩ ih
      simp only at hi hml hm
      refine absRun_ok TO 100 _ _ ?_
      have w1 : IntKind.i64.wrap (at_ + 48 + i) = at_ + 48 + i := w64 (by omega) (by omega)
      simp only [pureOpC, unc, absRun, absOps, absOp, evO, constSV, ungd, gdP, gdPs, setD, binI, binV, ptrE, T_ty, T_size, tTy, tSize, fieldOf, faddrV, iaddrV, pickV, pureOp, guardOf, memOp, loadV, arrAt, setA, blkAt, fnd, upd, elemV, Data.len, Data.esz, Op.operands, List.getD, List.getElem?_cons_zero, List.getElem?_cons_succ, Option.getD_some, List.set, List.toList_toArray, List.getElem?_toArray, Option.bind_some, Option.map_some, Option.map_none, exitTo, true_and, and_self, implies_true, imp_self, if_true, if_false, ite_self, eq_self, ne_eq, not_false_eq_true, reduceCtorEq, Nat.zero_add, Int.toNat_natCast, Int.cast_ofNat_Int, Nat.le_refl, Bool.cond_true_left, List.cons_append, List.nil_append, Nat.reduceAdd, Nat.reduceSub, Nat.reduceEqDiff, Nat.reduceLeDiff, Nat.reduceLT, Nat.succ_ne_self, beq_self_eq_true, List.replicate_succ, List.replicate_zero, tl, Int.reduceLE, w1, A]
      split
      · rename_i hc
        have hik : i < 16 := by have := of_decide_eq_true hc; omega
        rw [w64 (x := (i : Int) + 1) (by omega) (by omega)]
        repeat refine ⟨by omega, ?_⟩
        refine ih (i + 1, m.set i (b[(at_ + 48 + i).toNat]?.getD 0), _) _ ⟨hik, by rw [List.length_set]; exact hml, fun j hj => ?_⟩ (by simp only; omega) rfl ?_ ?_
        · rw [List.getElem?_set]
          by_cases e : i = j
          · subst e
            rw [if_pos rfl, if_pos (by omega), hS, List.getElem?_take, if_pos hik, List.getElem?_drop, show (at_ + 48).toNat + i = (at_ + 48 + i).toNat by omega]
            rfl
          · rw [if_neg e]; exact hm j (by omega)
        · simp [LeT, tl]
        · intro n x hx; simpa [fnd] using hx
      · rename_i hc
        have hik : i = 16 := by
          have : ¬ ((i : Int) < 16) := fun h => hc (decide_eq_true h)
          omega
        subst hik
        have hmS : m = S := by
          apply List.ext_getElem?
          intro j
          by_cases hj : j < 16
          · have := hm j hj
            rw [List.getElem?_eq_getElem (by omega), List.getElem?_eq_getElem (by omega)] at this ⊢
            simpa using this
          · rw [List.getElem?_eq_none (by omega), List.getElem?_eq_none (by omega)]
        subst hmS
        refine ⟨by omega, fun _ => by omega, fun _ => by omega, fun _ => by omega, ?_⟩
        have n2 : (getV b (at_ + 4) 2 != 64) = !(getV b (at_ + 4) 2 == 64) := rfl
        have n4 := magic_eq b at_ hB h0 (by omega)
        cases p1 : (getV b at_ 4 == 1112364030) with
        | false =>
          rw [p1] at n4
          simp only [Int.cast_ofNat_Int, Bool.not_true, Bool.not_false, Int.reduceLT, decide_false, n4]
          refine skip_go TO 100 (.int .u64 0) ?_
          simp only [pureOpC, unc, absOps, absOp, evO, constSV, ungd, gdP, gdPs, setD, binI, binV, ptrE, T_ty, T_size, tTy, tSize, pickV, pureOp, guardOf, loadV, takeC, dropC, blkAt, fnd, guardIs, Op.operands, List.getD, List.getElem?_cons_zero, List.getElem?_cons_succ, Option.getD_some, List.set, List.toList_toArray, List.getElem?_toArray, Option.bind_some, Option.map_some, true_and, and_self, implies_true, imp_self, if_true, if_false, eq_self, ne_eq, not_false_eq_true, reduceCtorEq, Bool.false_eq_true, Nat.le_refl, Int.reduceBNe, Bool.cond_true, Nat.reduceAdd, Nat.reduceSub, Nat.reduceEqDiff, Bool.not_true]
          refine skip_go TO 100 (.bool false) ?_
          simp only [pureOpC, buildV, fillC, cntC, unc, absRun, absOps, absOp, evO, constSV, ungd, gdP, gdPs, setD, unV, T_ty, T_size, T_zero, tTy, tSize, tZero, pickV, pureOp, guardOf, memOp, loadV, scal, okC, takeC, dropC, blkAt, fnd, upd, retP, resV, retQ, rAs, rA, rA0, rAl, ownN, nodup, bares, bare, bare0, bareL, guardIs, Op.operands, List.getD, List.getElem?_cons_zero, List.getElem?_cons_succ, Option.getD_some, List.set, List.map, List.all, List.toList_toArray, List.getElem?_toArray, Option.bind_some, Option.map_some, true_and, and_true, and_self, implies_true, imp_self, if_true, if_false, eq_self, ne_eq, not_false_eq_true, reduceCtorEq, Bool.false_eq_true, Nat.zero_add, Nat.add_zero, Nat.le_refl, Bool.cond_true, List.nil_append, List.append_nil, Nat.reduceAdd, Nat.reduceSub, Nat.reduceEqDiff, Bool.not_true, Bool.not_false, List.replicate_succ, List.replicate_zero, Bool.and_true, Bool.and_self]
          obtain ⟨r1, r2⟩ := neg (by rw [gF]; simp [*])
          simp only [r1, r2]
          and_intros <;> first | rfl | trivial
        | true =>
          rw [p1] at n4
          simp only [Int.cast_ofNat_Int, Bool.not_true, Bool.not_false, Int.reduceLT, decide_false, n4]
          refine call_go TO 100 (N (at_ + 4) 2) Tryd.func28 (by decide +kernel) rfl rfl rfl ?_
          cases p2 : (getV b (at_ + 4) 2 == 64) with
          | false =>
            simp only [pureOpC, unc, absOps, absOp, evO, constSV, ungd, gdP, gdPs, setD, binI, binV, ptrE, T_ty, T_size, tTy, tSize, pickV, pureOp, guardOf, loadV, takeC, dropC, blkAt, fnd, ownN, nodup, bares, bare, bare0, guardIs, callP, callS, argS, mAs, mA, mA0, mB0, lowD, allNotIn, impN, impB, impT, packS, delL, Op.operands, List.getD, List.getElem?_cons_zero, List.getElem?_cons_succ, Option.getD_some, List.set, List.map, List.toList_toArray, List.getElem?_toArray, Option.bind_some, Option.map_some, true_and, and_self, implies_true, if_true, if_false, eq_self, ne_eq, not_false_eq_true, reduceCtorEq, Bool.false_eq_true, Nat.le_refl, Bool.cond_false, List.append_nil, Nat.reduceAdd, Nat.reduceSub, Nat.reduceEqDiff, Bool.not_true, Bool.not_false, Bool.and_self, n2, p2]
            refine skip_go TO 100 (.bool false) ?_
            simp only [pureOpC, buildV, fillC, cntC, unc, absRun, absOps, absOp, evO, constSV, ungd, gdP, gdPs, setD, unV, T_ty, T_size, T_zero, tTy, tSize, tZero, pickV, pureOp, guardOf, memOp, loadV, scal, okC, takeC, dropC, blkAt, fnd, upd, retP, resV, retQ, rAs, rA, rA0, rAl, ownN, nodup, bares, bare, bare0, bareL, guardIs, Op.operands, List.getD, List.getElem?_cons_zero, List.getElem?_cons_succ, Option.getD_some, List.set, List.map, List.all, List.toList_toArray, List.getElem?_toArray, Option.bind_some, Option.map_some, true_and, and_true, and_self, implies_true, imp_self, if_true, if_false, eq_self, ne_eq, not_false_eq_true, reduceCtorEq, Bool.false_eq_true, Nat.zero_add, Nat.add_zero, Nat.le_refl, Bool.cond_true, List.nil_append, List.append_nil, Nat.reduceAdd, Nat.reduceSub, Nat.reduceEqDiff, Bool.not_true, Bool.not_false, List.replicate_succ, List.replicate_zero, Bool.and_true, Bool.and_self]
            obtain ⟨r1, r2⟩ := neg (by rw [gF]; simp [*])
            simp only [r1, r2]
            and_intros <;> first | rfl | trivial
          | true =>
            simp only [pureOpC, unc, absOps, absOp, evO, constSV, ungd, gdP, gdPs, setD, binI, binV, ptrE, T_ty, T_size, tTy, tSize, pickV, pureOp, guardOf, loadV, takeC, dropC, blkAt, fnd, ownN, nodup, bares, bare, bare0, guardIs, callP, callS, argS, mAs, mA, mA0, mB0, lowD, allNotIn, impN, impB, impT, packS, delL, Op.operands, List.getD, List.getElem?_cons_zero, List.getElem?_cons_succ, Option.getD_some, List.set, List.map, List.toList_toArray, List.getElem?_toArray, Option.bind_some, Option.map_some, true_and, and_self, implies_true, if_true, if_false, eq_self, ne_eq, not_false_eq_true, reduceCtorEq, Nat.le_refl, Bool.cond_false, List.append_nil, Nat.reduceAdd, Nat.reduceSub, Nat.reduceEqDiff, Bool.not_true, Bool.not_false, Bool.and_self, n2, p2]
            simp only [hs, if_true] at hM
            refine call_go TO 100 hM Tryd.func29 (by decide +kernel) rfl rfl rfl ?_
            cases mb with
            | false =>
              simp only [pureOpC, buildV, fillC, cntC, unc, absRun, absOps, absOp, evO, constSV, ungd, gdP, gdPs, setD, unV, T_ty, T_size, T_zero, tTy, tSize, tZero, pickV, pureOp, guardOf, memOp, loadV, scal, okC, takeC, dropC, blkAt, fnd, upd, retP, resV, retQ, rAs, rA, rA0, rAl, ownN, nodup, bares, bare, bare0, bareL, guardIs, callP, callS, argS, mAs, mA, mA0, mB0, mAl, allNotIn, impN, impB, impT, packS, delL, Op.operands, List.getD, List.getElem?_cons_zero, List.getElem?_cons_succ, Option.getD_some, List.set, List.map, List.all, List.toList_toArray, List.getElem?_toArray, Option.bind_some, Option.map_some, true_and, and_true, and_self, implies_true, if_true, if_false, eq_self, ne_eq, not_false_eq_true, reduceCtorEq, Nat.zero_add, Nat.add_zero, Nat.le_refl, Bool.cond_false, List.nil_append, List.append_nil, Nat.reduceAdd, Nat.reduceSub, Nat.reduceEqDiff, Bool.not_false, List.replicate_succ, List.replicate_zero, Bool.and_true, Bool.and_self]
              obtain ⟨r1, r2⟩ := neg (by rw [gF]; simp [*])
              simp only [r1, r2]
              and_intros <;> first | rfl | trivial
            | true =>
              simp only [pureOpC, buildV, fillC, cntC, unc, absRun, absOps, absOp, evO, constSV, ungd, gdP, gdPs, setD, unV, T_ty, T_size, T_zero, tTy, tSize, tZero, pickV, pureOp, guardOf, memOp, loadV, scal, okC, takeC, dropC, blkAt, fnd, upd, retP, resV, retQ, rAs, rA, rA0, rAl, ownN, nodup, bares, bare, bare0, bareL, guardIs, callP, callS, argS, mAs, mA, mA0, mB0, mAl, allNotIn, impN, impB, impT, packS, delL, Op.operands, List.getD, List.getElem?_cons_zero, List.getElem?_cons_succ, Option.getD_some, List.set, List.map, List.all, List.toList_toArray, List.getElem?_toArray, Option.bind_some, Option.map_some, true_and, and_true, and_self, implies_true, if_true, if_false, eq_self, ne_eq, not_false_eq_true, reduceCtorEq, Bool.false_eq_true, Nat.zero_add, Nat.add_zero, Nat.le_refl, Bool.cond_false, List.nil_append, List.append_nil, Nat.reduceAdd, Nat.reduceSub, Nat.reduceEqDiff, Bool.not_true, Bool.not_false, List.replicate_succ, List.replicate_zero, Bool.and_true, Bool.and_self]
              obtain ⟨r1, r2⟩ := pos (by rw [gF]; simp [*])
              simp only [r1, r2, getH, hs, ← hS, if_true]
              and_intros <;> first | rfl | trivial
  | false =>
    simp only [pureOpC, unc, absRun, absOps, absOp, evO, constSV, ungd, gdP, gdPs, setD, binI, binV, ptrE, pureOp, memOp, ownN, nodup, bares, bare, bare0, guardIs, callP, callS, argS, mAs, mA, mA0, mB0, mAl, allNotIn, impN, impB, impT, packS, delL, Op.operands, List.getD, List.getElem?_cons_zero, List.getElem?_cons_succ, Option.getD_some, List.set, List.map, List.toList_toArray, true_and, and_self, if_false, eq_self, Bool.false_eq_true, List.append_nil, Nat.reduceAdd, Bool.and_self, Int.reduceLE, A]
    refine call_go TO 100 (N (at_ + 36) 4) Tryd.func28 (by decide +kernel) rfl rfl rfl ?_
    simp only [pureOpC, unc, absRun, absOps, absOp, evO, constSV, ungd, gdP, gdPs, setD, binI, binV, ptrE, convV, T_ty, T_size, tTy, tSize, fieldOf, faddrV, pureOp, memOp, scal, known, setC, blkAt, fnd, upd, ownN, nodup, bares, bare, bare0, guardIs, callP, callS, argS, mAs, mA, mA0, mB0, lowD, allNotIn, impN, impB, impT, packS, delL, Op.operands, List.getD, List.getElem?_cons_zero, List.getElem?_cons_succ, Option.getD_some, List.set, List.map, List.toList_toArray, Option.map_some, Option.map_none, true_and, and_self, if_true, if_false, ite_self, eq_self, ne_eq, not_false_eq_true, reduceCtorEq, Nat.zero_add, List.append_nil, Nat.reduceAdd, Nat.reduceSub, Nat.reduceEqDiff, Nat.reduceLT, Nat.succ_ne_self, Bool.and_self, Int.reduceLE, W32, A]
    refine call_go TO 100 (N (at_ + 32) 4) Tryd.func28 (by decide +kernel) rfl rfl rfl ?_
    have n32 : (getV b (at_ + 32) 4 != 0) = !(getV b (at_ + 32) 4 == 0) := rfl
    cases p3 : (getV b (at_ + 32) 4 == 0) with
    | false =>
      simp only [pureOpC, buildV, fillC, cntC, unc, absRun, absOps, absOp, evO, constSV, ungd, gdP, gdPs, setD, binI, binV, ptrE, T_ty, T_size, T_zero, tTy, tSize, tZero, pureOp, memOp, loadV, scal, okC, takeC, dropC, blkAt, fnd, upd, retP, resV, retQ, rAs, rA, rA0, rAl, ownN, nodup, bares, bare, bare0, bareL, guardIs, callP, callS, argS, mAs, mA, mA0, mB0, lowD, allNotIn, impN, impB, impT, packS, delL, Op.operands, List.getD, List.getElem?_cons_zero, List.getElem?_cons_succ, Option.getD_some, List.set, List.map, List.all, List.toList_toArray, Option.bind_some, Option.map_some, true_and, and_true, and_self, if_true, if_false, eq_self, ne_eq, not_false_eq_true, reduceCtorEq, Nat.zero_add, Nat.add_zero, Nat.le_refl, List.nil_append, List.append_nil, Nat.reduceAdd, Nat.reduceSub, Nat.reduceEqDiff, Bool.not_false, List.replicate_succ, List.replicate_zero, Bool.and_true, Bool.and_self, n32, p3]
      obtain ⟨r1, r2⟩ := neg (by rw [gF]; simp [*])
      simp only [r1, r2]
      and_intros <;> first | rfl | trivial
    | true =>
      simp only [pureOpC, buildV, fillC, cntC, unc, absRun, absOps, absOp, evO, constSV, ungd, gdP, gdPs, setD, binI, binV, ptrE, T_ty, T_size, T_zero, tTy, tSize, tZero, pureOp, memOp, loadV, scal, okC, takeC, dropC, blkAt, fnd, upd, retP, resV, retQ, rAs, rA, rA0, rAl, ownN, nodup, bares, bare, bare0, bareL, guardIs, callP, callS, argS, mAs, mA, mA0, mB0, lowD, allNotIn, impN, impB, impT, packS, delL, Op.operands, List.getD, List.getElem?_cons_zero, List.getElem?_cons_succ, Option.getD_some, List.set, List.map, List.all, List.toList_toArray, Option.bind_some, Option.map_some, true_and, and_true, and_self, if_true, if_false, eq_self, ne_eq, not_false_eq_true, reduceCtorEq, Bool.false_eq_true, Nat.zero_add, Nat.add_zero, Nat.le_refl, List.nil_append, List.append_nil, Nat.reduceAdd, Nat.reduceSub, Nat.reduceEqDiff, Bool.not_true, List.replicate_succ, List.replicate_zero, Bool.and_true, Bool.and_self, n32, p3]
      refine loop_up (fun x : Nat × List Int × Nat => x.1 ≤ 16 ∧ x.2.1.length = 16 ∧ ∀ j, j < x.1 → x.2.1[j]?.getD 0 = S[j]?.getD 0) (fun x => ⟨tl 145 0 [(0, .view false (.ints .u8 b)), (1, .int .i64 at_), (4, .ptr 4 2 0), (5, .int .i64 0), (6, .ptr 6 5 0), (7, .int .i64 x.1)], [(4, 2, .cells [.int .u16 0, .int .u32 0, .int .u16 0, .int .u16 0, .int .u32 0, .int .u32 0, .int .u64 0, .int .u64 0, .int .u32 0, .int .u64 0, .arr .u8 16 [0, 0, 0, 0, 0, 0, 0, 0, 0, 0, 0, 0, 0, 0, 0, 0]]), (6, 5, .cells [.int .u16 (getV b (at_ + 6) 2), .int .u32 (getV b (at_ + 8) 4), .int .u16 (getV b (at_ + 12) 2), .int .u16 (getV b (at_ + 14) 2), .int .u32 (getV b (at_ + 16) 4), .int .u32 (getV b (at_ + 20) 4), .int .u64 (getV b (at_ + 24) 8), .int .u64 0, .int .u32 (getV b (at_ + 36) 4), .int .u64 (getV b (at_ + 40) 8), .arr .u8 16 x.2.1])], ⟨x.2.2, [], 0⟩⟩) (fun x => 16 - x.1) (0, [0, 0, 0, 0, 0, 0, 0, 0, 0, 0, 0, 0, 0, 0, 0, 0], 18) ⟨Nat.zero_le _, rfl, by simp⟩ ⟨rfl, ?_, ?_⟩ ?_
      · simp [LeT, tl]
      · intro m x hx; simpa [fnd] using hx
      · rintro ⟨i, m, gg⟩ ⟨hi, hml, hm⟩ ih
        simp only at hi hml hm
        refine absRun_ok TO 100 _ _ ?_
        have w1 : IntKind.i64.wrap (at_ + 48 + i) = at_ + 48 + i := w64 (by omega) (by omega)
        simp only [pureOpC, unc, absRun, absOps, absOp, evO, constSV, ungd, gdP, gdPs, setD, binI, binV, ptrE, T_ty, T_size, tTy, tSize, fieldOf, faddrV, iaddrV, pickV, pureOp, guardOf, memOp, loadV, arrAt, setA, blkAt, fnd, upd, elemV, Data.len, Data.esz, Op.operands, List.getD, List.getElem?_cons_zero, List.getElem?_cons_succ, Option.getD_some, List.set, List.toList_toArray, List.getElem?_toArray, Option.bind_some, Option.map_some, Option.map_none, exitTo, true_and, and_self, implies_true, imp_self, if_true, if_false, ite_self, eq_self, ne_eq, not_false_eq_true, reduceCtorEq, Nat.zero_add, Int.toNat_natCast, Int.cast_ofNat_Int, Nat.le_refl, Bool.cond_true_left, List.cons_append, List.nil_append, Nat.reduceAdd, Nat.reduceSub, Nat.reduceEqDiff, Nat.reduceLeDiff, Nat.reduceLT, Nat.succ_ne_self, beq_self_eq_true, List.replicate_succ, List.replicate_zero, tl, Int.reduceLE, w1, A]
        split
        · rename_i hc
          have hik : i < 16 := by have := of_decide_eq_true hc; omega
          rw [w64 (x := (i : Int) + 1) (by omega) (by omega)]
          repeat refine ⟨by omega, ?_⟩
          refine ih (i + 1, m.set i (b[(at_ + 48 + i).toNat]?.getD 0), _) _ ⟨hik, by rw [List.length_set]; exact hml, fun j hj => ?_⟩ (by simp only; omega) rfl ?_ ?_
          · rw [List.getElem?_set]
            by_cases e : i = j
            · subst e
              rw [if_pos rfl, if_pos (by omega), hS, List.getElem?_take, if_pos hik, List.getElem?_drop, show (at_ + 48).toNat + i = (at_ + 48 + i).toNat by omega]
              rfl
            · rw [if_neg e]; exact hm j (by omega)
          · simp [LeT, tl]
          · intro n x hx; simpa [fnd] using hx
        · rename_i hc
          have hik : i = 16 := by
            have : ¬ ((i : Int) < 16) := fun h => hc (decide_eq_true h)
            omega
          subst hik
          have hmS : m = S := by
            apply List.ext_getElem?
            intro j
            by_cases hj : j < 16
            · have := hm j hj
              rw [List.getElem?_eq_getElem (by omega), List.getElem?_eq_getElem (by omega)] at this ⊢
              simpa using this
            · rw [List.getElem?_eq_none (by omega), List.getElem?_eq_none (by omega)]
          subst hmS
          refine ⟨by omega, fun _ => by omega, fun _ => by omega, fun _ => by omega, ?_⟩
          have n2 : (getV b (at_ + 4) 2 != 64) = !(getV b (at_ + 4) 2 == 64) := rfl
          have n4 := magic_eq b at_ hB h0 (by omega)
          cases p1 : (getV b at_ 4 == 1112364030) with
          | false =>
            rw [p1] at n4
            simp only [Int.cast_ofNat_Int, Bool.not_true, Bool.not_false, Int.reduceLT, decide_false, n4]
            refine skip_go TO 100 (.int .u64 0) ?_
            simp only [pureOpC, unc, absOps, absOp, evO, constSV, ungd, gdP, gdPs, setD, binI, binV, ptrE, T_ty, T_size, tTy, tSize, pickV, pureOp, guardOf, loadV, takeC, dropC, blkAt, fnd, guardIs, Op.operands, List.getD, List.getElem?_cons_zero, List.getElem?_cons_succ, Option.getD_some, List.set, List.toList_toArray, List.getElem?_toArray, Option.bind_some, Option.map_some, true_and, and_self, implies_true, imp_self, if_true, if_false, eq_self, ne_eq, not_false_eq_true, reduceCtorEq, Bool.false_eq_true, Nat.le_refl, Int.reduceBNe, Bool.cond_true, Nat.reduceAdd, Nat.reduceSub, Nat.reduceEqDiff, Bool.not_true]
            refine skip_go TO 100 (.bool false) ?_
            simp only [pureOpC, buildV, fillC, cntC, unc, absRun, absOps, absOp, evO, constSV, ungd, gdP, gdPs, setD, unV, T_ty, T_size, T_zero, tTy, tSize, tZero, pickV, pureOp, guardOf, memOp, loadV, scal, okC, takeC, dropC, blkAt, fnd, upd, retP, resV, retQ, rAs, rA, rA0, rAl, ownN, nodup, bares, bare, bare0, bareL, guardIs, Op.operands, List.getD, List.getElem?_cons_zero, List.getElem?_cons_succ, Option.getD_some, List.set, List.map, List.all, List.toList_toArray, List.getElem?_toArray, Option.bind_some, Option.map_some, true_and, and_true, and_self, implies_true, imp_self, if_true, if_false, eq_self, ne_eq, not_false_eq_true, reduceCtorEq, Bool.false_eq_true, Nat.zero_add, Nat.add_zero, Nat.le_refl, Bool.cond_true, List.nil_append, List.append_nil, Nat.reduceAdd, Nat.reduceSub, Nat.reduceEqDiff, Bool.not_true, Bool.not_false, List.replicate_succ, List.replicate_zero, Bool.and_true, Bool.and_self]
            obtain ⟨r1, r2⟩ := neg (by rw [gF]; simp [*])
            simp only [r1, r2]
            and_intros <;> first | rfl | trivial
          | true =>
            rw [p1] at n4
            simp only [Int.cast_ofNat_Int, Bool.not_true, Bool.not_false, Int.reduceLT, decide_false, n4]
            refine call_go TO 100 (N (at_ + 4) 2) Tryd.func28 (by decide +kernel) rfl rfl rfl ?_
            cases p2 : (getV b (at_ + 4) 2 == 64) with
            | false =>
              simp only [pureOpC, unc, absOps, absOp, evO, constSV, ungd, gdP, gdPs, setD, binI, binV, ptrE, T_ty, T_size, tTy, tSize, pickV, pureOp, guardOf, loadV, takeC, dropC, blkAt, fnd, ownN, nodup, bares, bare, bare0, guardIs, callP, callS, argS, mAs, mA, mA0, mB0, lowD, allNotIn, impN, impB, impT, packS, delL, Op.operands, List.getD, List.getElem?_cons_zero, List.getElem?_cons_succ, Option.getD_some, List.set, List.map, List.toList_toArray, List.getElem?_toArray, Option.bind_some, Option.map_some, true_and, and_self, implies_true, if_true, if_false, eq_self, ne_eq, not_false_eq_true, reduceCtorEq, Bool.false_eq_true, Nat.le_refl, Bool.cond_false, List.append_nil, Nat.reduceAdd, Nat.reduceSub, Nat.reduceEqDiff, Bool.not_true, Bool.not_false, Bool.and_self, n2, p2]
              refine skip_go TO 100 (.bool false) ?_
              simp only [pureOpC, buildV, fillC, cntC, unc, absRun, absOps, absOp, evO, constSV, ungd, gdP, gdPs, setD, unV, T_ty, T_size, T_zero, tTy, tSize, tZero, pickV, pureOp, guardOf, memOp, loadV, scal, okC, takeC, dropC, blkAt, fnd, upd, retP, resV, retQ, rAs, rA, rA0, rAl, ownN, nodup, bares, bare, bare0, bareL, guardIs, Op.operands, List.getD, List.getElem?_cons_zero, List.getElem?_cons_succ, Option.getD_some, List.set, List.map, List.all, List.toList_toArray, List.getElem?_toArray, Option.bind_some, Option.map_some, true_and, and_true, and_self, implies_true, imp_self, if_true, if_false, eq_self, ne_eq, not_false_eq_true, reduceCtorEq, Bool.false_eq_true, Nat.zero_add, Nat.add_zero, Nat.le_refl, Bool.cond_true, List.nil_append, List.append_nil, Nat.reduceAdd, Nat.reduceSub, Nat.reduceEqDiff, Bool.not_true, Bool.not_false, List.replicate_succ, List.replicate_zero, Bool.and_true, Bool.and_self]
              obtain ⟨r1, r2⟩ := neg (by rw [gF]; simp [*])
              simp only [r1, r2]
              and_intros <;> first | rfl | trivial
            | true =>
              simp only [pureOpC, unc, absOps, absOp, evO, constSV, ungd, gdP, gdPs, setD, binI, binV, ptrE, T_ty, T_size, tTy, tSize, pickV, pureOp, guardOf, loadV, takeC, dropC, blkAt, fnd, ownN, nodup, bares, bare, bare0, guardIs, callP, callS, argS, mAs, mA, mA0, mB0, lowD, allNotIn, impN, impB, impT, packS, delL, Op.operands, List.getD, List.getElem?_cons_zero, List.getElem?_cons_succ, Option.getD_some, List.set, List.map, List.toList_toArray, List.getElem?_toArray, Option.bind_some, Option.map_some, true_and, and_self, implies_true, if_true, if_false, eq_self, ne_eq, not_false_eq_true, reduceCtorEq, Nat.le_refl, Bool.cond_false, List.append_nil, Nat.reduceAdd, Nat.reduceSub, Nat.reduceEqDiff, Bool.not_true, Bool.not_false, Bool.and_self, n2, p2]
              simp only [hs, if_false, Bool.false_eq_true] at hM
              refine call_go TO 100 hM Tryd.func29 (by decide +kernel) rfl rfl rfl ?_
              cases mb with
              | false =>
                simp only [pureOpC, buildV, fillC, cntC, unc, absRun, absOps, absOp, evO, constSV, ungd, gdP, gdPs, setD, unV, T_ty, T_size, T_zero, tTy, tSize, tZero, pickV, pureOp, guardOf, memOp, loadV, scal, okC, takeC, dropC, blkAt, fnd, upd, retP, resV, retQ, rAs, rA, rA0, rAl, ownN, nodup, bares, bare, bare0, bareL, guardIs, callP, callS, argS, mAs, mA, mA0, mB0, mAl, allNotIn, impN, impB, impT, packS, delL, Op.operands, List.getD, List.getElem?_cons_zero, List.getElem?_cons_succ, Option.getD_some, List.set, List.map, List.all, List.toList_toArray, List.getElem?_toArray, Option.bind_some, Option.map_some, true_and, and_true, and_self, implies_true, if_true, if_false, eq_self, ne_eq, not_false_eq_true, reduceCtorEq, Nat.zero_add, Nat.add_zero, Nat.le_refl, Bool.cond_false, List.nil_append, List.append_nil, Nat.reduceAdd, Nat.reduceSub, Nat.reduceEqDiff, Bool.not_false, List.replicate_succ, List.replicate_zero, Bool.and_true, Bool.and_self]
                obtain ⟨r1, r2⟩ := neg (by rw [gF]; simp [*])
                simp only [r1, r2]
                and_intros <;> first | rfl | trivial
              | true =>
                simp only [pureOpC, buildV, fillC, cntC, unc, absRun, absOps, absOp, evO, constSV, ungd, gdP, gdPs, setD, unV, T_ty, T_size, T_zero, tTy, tSize, tZero, pickV, pureOp, guardOf, memOp, loadV, scal, okC, takeC, dropC, blkAt, fnd, upd, retP, resV, retQ, rAs, rA, rA0, rAl, ownN, nodup, bares, bare, bare0, bareL, guardIs, callP, callS, argS, mAs, mA, mA0, mB0, mAl, allNotIn, impN, impB, impT, packS, delL, Op.operands, List.getD, List.getElem?_cons_zero, List.getElem?_cons_succ, Option.getD_some, List.set, List.map, List.all, List.toList_toArray, List.getElem?_toArray, Option.bind_some, Option.map_some, true_and, and_true, and_self, implies_true, if_true, if_false, eq_self, ne_eq, not_false_eq_true, reduceCtorEq, Bool.false_eq_true, Nat.zero_add, Nat.add_zero, Nat.le_refl, Bool.cond_false, List.nil_append, List.append_nil, Nat.reduceAdd, Nat.reduceSub, Nat.reduceEqDiff, Bool.not_true, Bool.not_false, List.replicate_succ, List.replicate_zero, Bool.and_true, Bool.and_self]
                obtain ⟨r1, r2⟩ := pos (by rw [gF]; simp [*])
                simp only [r1, r2, getH, hs, ← hS, if_false, Bool.false_eq_true]
                and_intros <;> first | rfl | trivial

end Go.Proofs.YtdhnjmepgafeiaaDoor.Abs
