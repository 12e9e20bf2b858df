/- What head.Get and the document's Get read. -/
import Derived.Test.YtdhnjmepgafeiaaDoorQ1
import Derived.Test.YtdhnjmepgafeiaaDoorFX
set_option linter.unusedVariables false
set_option linter.unusedSimpArgs false
set_option maxRecDepth 100000
namespace Go.Proofs.YtdhnjmepgafeiaaDoor.Abs
open Go Go.Proofs

theorem n_go {X : Ctx} {ops : Array Oper} {o : Oper} {rest : List Oper} {kk : List Item} {s : St} {Φ : St → Prop} {y : Operand} {xs : Array Operand} {ts : Array TypeId} {d g2 g3 : Nat} {b : List Int} {at_ k n : Int} (off : Nat)
    (hb : b.length ≤ 140737488351232) (hB : Bytes b) (h0 : 0 ≤ at_) (h1 : at_ ≤ b.length) (hk : 0 ≤ k ∧ k ≤ 64) (ho : o.op = .call { callee := .value y, args := xs, argTypes := ts }) (hd : o.dst = some d)
    (ha : ungd (evO s.t y) = .clo (.func 39) [] [.ptr 2 g2 0, .ptr 3 g3 0] ∧ argC s.t xs.toList = [.int .i64 k, .int .i64 n] ∧ xs.size = 2 ∧ blkAt s.b 2 g2 = some (.cells [.view false (.ints .u8 b)]) ∧ blkAt s.b 3 g3 = some (.cells [.int .i64 at_]))
    (h : guardIs ops s.t true o.guard ∧ gdPs s.t true (y :: xs.toList) ∧ (d < s.t.length ∧ absOps Tryd.prog X T ops kk Φ (absRun Tryd.prog X T Φ 100 kk) rest ⟨s.t.set d (.int .u64 (getV b (at_ + k) n)), s.b, ⟨s.c.c + 4, [], s.c.o⟩⟩)) : HOps Tryd.prog X ops (o :: rest) kk s Φ := by
  obtain ⟨hg, hgd, hdl, h⟩ := h
  obtain ⟨hy, ha1, ha2, hb2, hb3⟩ := ha
  refine HOps_inClo TO off ho hy hd hg Tryd.func39 rfl (by decide +kernel) hgd ?_
  refine absRun_ok TO 100 _ _ ?_
  rw [ha1]
  generalize s.c.c = c0 at *
  generalize s.c.o = o0 at *
  generalize s.b = b0 at *
  have hG := Get_meets b (at_ + k) n hb hB
  have hb2' : fnd b0 2 = some (g2, .cells [.view false (.ints .u8 b)]) := blkAt_fnd hb2
  have hb3' : fnd b0 3 = some (g3, .cells [.int .i64 at_]) := blkAt_fnd hb3
  have e1 : IntKind.i64.wrap (at_ + k) = at_ + k := w64 (by omega) (by omega)
  simp only [Tryd.ntmps39, Tryd.results39, pureOpC, unc, absRun, absOps, absOp, evO, constSV, ungd, gdP, gdPs, setD, binI, binV, ptrE, T_ty, tTy, pureOp, memOp, loadV, cellAt, blkAt, flats, flatV, flat2, Op.operands, List.getD, List.getElem?_cons_zero, List.getElem?_cons_succ, Option.getD_some, List.set, List.toList_toArray, true_and, and_self, if_true, eq_self, Nat.zero_add, List.cons_append, List.nil_append, List.length_cons, List.length_nil, Nat.reduceAdd, Nat.reduceSub, List.replicate_succ, List.replicate_zero, hb2', hb3', e1]
  refine call_go TO 100 hG Tryd.func40 (by decide +kernel) rfl rfl rfl ?_
  have hget : (s.t.set d (SV.int .u64 (getV b (at_ + k) n)))[d]?.getD SV.any = SV.int .u64 (getV b (at_ + k) n) := by simp [hdl]
  simp only [pureOpC, unc, absRun, absOps, absOp, evO, ungd, gdP, gdPs, setD, extractV, pureOp, resV, ownN, nodup, bares, bare, bare0, inRet, guardIs, callP, callS, argS, mAs, mA, mA0, mB0, lowD, allNotIn, impN, impB, impT, packS, delL, Op.operands, List.getD, List.getElem?_cons_zero, List.getElem?_cons_succ, Option.getD_some, List.set, List.map, List.toList_toArray, true_and, and_self, eq_self, List.append_nil, Bool.and_self, hget]
  exact HOps_go TO 100 h

theorem getV_lt (b : List Int) (a : Int) (n : Nat) (hB : Bytes b) : 0 ≤ getV b a n ∧ getV b a n < 256 ^ n := by
  have hp : 0 < (256 : Int) ^ n := Int.pow_pos (by decide)
  unfold getV
  split
  · rename_i h
    unfold getE at h
    split at h
    · have hl := cutL_length_eq h
      have hv := val_bounds (hB.cut a n)
      have : (cutL b a n).length = n := by omega
      rw [this] at hv
      exact hv
    · cases h
  · omega

def hdZero : Hd := ⟨0, 0, 0, 0, 0, 0, 0, 0, 0, 0, List.replicate 16 0⟩
def flB (f : Int) : Bool := f / 2 % 2 == 1
def getH (b : List Int) (a : Int) : Hd := ⟨getV b (a + 6) 2, getV b (a + 8) 4, getV b (a + 12) 2, getV b (a + 14) 2, getV b (a + 16) 4, getV b (a + 20) 4, getV b (a + 24) 8, if flB (getV b (a + 16) 4) then getV b (a + 32) 8 else 0, if flB (getV b (a + 16) 4) then 0 else getV b (a + 36) 4, getV b (a + 40) 8, (b.drop (a + 48).toNat).take 16⟩
def formB (b : List Int) (a : Int) : Bool := getV b a 4 == 1112364030 && getV b (a + 4) 2 == 64 && mayB (getH b a) && (flB (getV b (a + 16) 4) || getV b (a + 32) 4 == 0)
def gotE (b : List Int) (a : Int) : Int := if a < 0 ∨ (b.length : Int) < a then 2 else if (b.length : Int) - a < 64 then 4 else if formB b a then 0 else 5
def gotH (b : List Int) (a : Int) : Hd := if gotE b a = 0 then getH b a else hdZero

theorem getH_ok (b : List Int) (a : Int) (hB : Bytes b) (h0 : 0 ≤ a) (h : 64 ≤ (b.length : Int) - a) : (getH b a).ok := by
  have g := fun a n => getV_lt b a n hB
  refine ⟨?_, ?_, ?_, ?_, ?_, ?_, ?_, ?_, ?_, ?_, ?_, ?_⟩
  · exact g (a + 6) 2
  · exact g (a + 8) 4
  · exact g (a + 12) 2
  · exact g (a + 14) 2
  · exact g (a + 16) 4
  · exact g (a + 20) 4
  · exact g (a + 24) 8
  · simp only [getH]; split
    · exact g (a + 32) 8
    · decide
  · simp only [getH]; split
    · decide
    · exact g (a + 36) 4
  · exact g (a + 40) 8
  · simp only [getH, List.length_take, List.length_drop]; omega
  · exact (hB.drop _).take _

theorem over_sig (b : List Int) (a : Int) (h0 : 0 ≤ a) (h : 64 ≤ (b.length : Int) - a) : overI [0, 0, 0, 0, 0, 0, 0, 0, 0, 0, 0, 0, 0, 0, 0, 0] 0 16 ((b.drop (a + 48).toNat).take (a + 64 - (a + 48)).toNat) = (b.drop (a + 48).toNat).take 16 := by
  rw [show (a + 64 - (a + 48)).toNat = 16 by omega]
  have hl : ((b.drop (a + 48).toNat).take 16).length = 16 := by rw [List.length_take, List.length_drop]; omega
  generalize (b.drop (a + 48).toNat).take 16 = m at hl
  unfold overI
  rw [hl, show min 16 16 = 16 from rfl, ← hl, List.take_length]
  simp [hl]

set_option maxHeartbeats 8000000 in
theorem hGet07_meets (b : List Int) (at_ : Int) (hb : b.length ≤ 140737488351232) (hB : Bytes b) (ha : -9223372036854775808 ≤ at_ ∧ at_ ≤ 9223372036854775807) : Meets Tryd.prog 27 [.v (.view false (.ints .u8 b)), .v (.int .i64 at_)] [.v (gotH b at_).sv, .v (.int .i64 (gotE b at_))] := by
  refine meets_go TO 100 Tryd.func27 rfl (fun X => ?_)
  simp only [Tryd.ntmps27, Tryd.results27, Hd.sv, pureOpC, buildV, fillC, cntC, unc, svs, blks, AV.sv, absRun, absOps, absOp, evO, constSV, ungd, gdP, gdPs, setD, binI, binV, ptrE, T_ty, T_size, T_zero, tTy, tSize, tZero, pickV, pureOp, guardOf, memOp, lenV, loadV, newV, notIn, scal, cellsOf, okC, flatB, cellAt, takeC, dropC, blkAt, fnd, upd, Data.len, Lim.add, retP, resV, retQ, rAs, rA, rA0, rAl, ownN, nodup, bares, bare, bare0, bareL, Op.operands, Call.operands, List.getD, List.getElem?_cons_zero, List.getElem?_cons_succ, Option.getD_some, List.set, List.map, List.all, List.toList_toArray, List.getElem?_toArray, Option.bind_some, Option.map_some, true_and, and_true, and_self, implies_true, imp_self, if_true, if_false, eq_self, ne_eq, not_false_eq_true, reduceCtorEq, Nat.zero_add, Nat.add_zero, Nat.le_refl, Bool.cond_true_left, List.append_toArray, List.cons_append, List.nil_append, List.append_nil, List.length_cons, List.length_nil, Nat.reduceAdd, Nat.reduceSub, Nat.reduceEqDiff, Nat.succ_ne_self, List.replicate_succ, List.replicate_zero, Bool.and_true, Bool.and_self, gt_iff_lt]
  by_cases c1 : at_ < 0 ∨ (b.length : Int) < at_
  · have e1 : gotE b at_ = 2 := by unfold gotE; rw [if_pos c1]
    have e2 : gotH b at_ = hdZero := by unfold gotH; rw [e1]; rfl
    rw [if_pos (by simpa using c1), e1, e2]
    exact ⟨rfl, ⟨rfl, rfl, rfl, rfl, rfl, rfl, rfl, rfl, rfl, rfl, rfl⟩, rfl⟩
  rw [if_neg (by simpa using c1), w64 (by omega) (by omega)]
  by_cases c2 : (b.length : Int) - at_ < 64
  · have e1 : gotE b at_ = 4 := by unfold gotE; rw [if_neg c1, if_pos c2]
    have e2 : gotH b at_ = hdZero := by unfold gotH; rw [e1]; rfl
    rw [if_pos (by simpa using c2), e1, e2]
    exact ⟨rfl, ⟨rfl, rfl, rfl, rfl, rfl, rfl, rfl, rfl, rfl, rfl, rfl⟩, rfl⟩
  rw [if_neg (by simpa using c2)]
  have h0 : 0 ≤ at_ := by omega
  have h1 : at_ ≤ b.length := by omega
  have g := fun a n => getV_lt b a n hB
  have W16 : ∀ a, IntKind.u16.wrap (getV b a 2) = getV b a 2 := fun a => by have := g a 2; simp only [Int.cast_ofNat_Int] at this; rw [IntKind.wrap_u16]; omega
  have W32 : ∀ a, IntKind.u32.wrap (getV b a 4) = getV b a 4 := fun a => by have := g a 4; simp only [Int.cast_ofNat_Int] at this; rw [IntKind.wrap_u32]; omega
  have hfl := g (at_ + 16) 4
  obtain ⟨a2, a15⟩ := and_mod (getV b (at_ + 16) 4) hfl.1 (by have := hfl.2; simpa using this)
  have hb2 : (2 * (getV b (at_ + 16) 4 / 2 % 2) != 0) = flB (getV b (at_ + 16) 4) := by
    unfold flB
    rw [Bool.eq_iff_iff]
    simp only [bne_iff_ne, ne_eq, beq_iff_eq]
    omega
  refine n_go 100 hb hB h0 h1 (by decide) rfl rfl ⟨rfl, rfl, rfl, rfl, rfl⟩ ?_
  simp only [pureOpC, unc, absOps, absOp, evO, constSV, ungd, gdP, gdPs, setD, convV, T_ty, tTy, pureOp, memOp, known, guardIs, Op.operands, List.getD, List.getElem?_cons_zero, List.getElem?_cons_succ, Option.getD_some, List.set, List.toList_toArray, true_and, and_self, eq_self, Nat.zero_add, List.length_cons, List.length_nil, Nat.reduceAdd, Nat.reduceLT, W16]
  refine n_go 100 hb hB h0 h1 (by decide) rfl rfl ⟨rfl, rfl, rfl, rfl, rfl⟩ ?_
  simp only [pureOpC, unc, absOps, absOp, evO, constSV, ungd, gdP, gdPs, setD, convV, T_ty, tTy, pureOp, memOp, known, guardIs, Op.operands, List.getD, List.getElem?_cons_zero, List.getElem?_cons_succ, Option.getD_some, List.set, List.toList_toArray, true_and, and_self, eq_self, Nat.zero_add, List.length_cons, List.length_nil, Nat.reduceAdd, Nat.reduceLT, W32]
  refine n_go 100 hb hB h0 h1 (by decide) rfl rfl ⟨rfl, rfl, rfl, rfl, rfl⟩ ?_
  simp only [pureOpC, unc, absOps, absOp, evO, constSV, ungd, gdP, gdPs, setD, convV, T_ty, tTy, pureOp, memOp, known, guardIs, Op.operands, List.getD, List.getElem?_cons_zero, List.getElem?_cons_succ, Option.getD_some, List.set, List.toList_toArray, true_and, and_self, eq_self, Nat.zero_add, List.length_cons, List.length_nil, Nat.reduceAdd, Nat.reduceLT, W16]
  refine n_go 100 hb hB h0 h1 (by decide) rfl rfl ⟨rfl, rfl, rfl, rfl, rfl⟩ ?_
  simp only [pureOpC, unc, absOps, absOp, evO, constSV, ungd, gdP, gdPs, setD, convV, T_ty, tTy, pureOp, memOp, known, guardIs, Op.operands, List.getD, List.getElem?_cons_zero, List.getElem?_cons_succ, Option.getD_some, List.set, List.toList_toArray, true_and, and_self, eq_self, Nat.zero_add, List.length_cons, List.length_nil, Nat.reduceAdd, Nat.reduceLT, W16]
  refine n_go 100 hb hB h0 h1 (by decide) rfl rfl ⟨rfl, rfl, rfl, rfl, rfl⟩ ?_
  simp only [pureOpC, unc, absOps, absOp, evO, constSV, ungd, gdP, gdPs, setD, convV, T_ty, tTy, pureOp, memOp, known, guardIs, Op.operands, List.getD, List.getElem?_cons_zero, List.getElem?_cons_succ, Option.getD_some, List.set, List.toList_toArray, true_and, and_self, eq_self, Nat.zero_add, List.length_cons, List.length_nil, Nat.reduceAdd, Nat.reduceLT, W32]
  refine n_go 100 hb hB h0 h1 (by decide) rfl rfl ⟨rfl, rfl, rfl, rfl, rfl⟩ ?_
  simp only [pureOpC, unc, absOps, absOp, evO, constSV, ungd, gdP, gdPs, setD, convV, T_ty, tTy, pureOp, memOp, known, guardIs, Op.operands, List.getD, List.getElem?_cons_zero, List.getElem?_cons_succ, Option.getD_some, List.set, List.toList_toArray, true_and, and_self, eq_self, Nat.zero_add, List.length_cons, List.length_nil, Nat.reduceAdd, Nat.reduceLT, W32]
  refine n_go 100 hb hB h0 h1 (by decide) rfl rfl ⟨rfl, rfl, rfl, rfl, rfl⟩ ?_
  simp only [pureOpC, absOps, absOp, evO, constSV, ungd, gdP, gdPs, setD, pureOp, memOp, guardIs, Op.operands, List.getD, List.getElem?_cons_zero, List.getElem?_cons_succ, Option.getD_some, List.set, List.toList_toArray, true_and, and_self, eq_self, Nat.zero_add, List.length_cons, List.length_nil, Nat.reduceAdd, Nat.reduceLT]
  refine n_go 100 hb hB h0 h1 (by decide) rfl rfl ⟨rfl, rfl, rfl, rfl, rfl⟩ ?_
  simp only [pureOpC, buildV, fillC, cntC, unc, absRun, absOps, absOp, evO, constSV, ungd, gdP, gdPs, setD, binI, binV, ptrE, T_ty, T_size, T_zero, tTy, tSize, tZero, fieldOf, faddrV, pureOp, memOp, loadV, newV, notIn, scal, cellsOf, okC, cellAt, takeC, dropC, blkAt, fnd, upd, Lim.add, guardIs, Op.operands, List.getD, List.getElem?_cons_zero, List.getElem?_cons_succ, Option.getD_some, List.set, List.map, List.all, List.toList_toArray, Option.map_some, true_and, and_true, and_self, if_true, if_false, eq_self, ne_eq, not_false_eq_true, reduceCtorEq, Nat.zero_add, Nat.add_zero, Nat.le_refl, List.cons_append, List.nil_append, List.append_nil, List.length_cons, List.length_nil, Nat.reduceAdd, Nat.reduceSub, Nat.reduceEqDiff, Nat.reduceLT, Nat.succ_ne_self, List.replicate_succ, List.replicate_zero, Bool.and_true, Bool.and_self, a2, hb2]
  refine ⟨rfl, ?_⟩
  have e48 : IntKind.i64.wrap (at_ + 48) = at_ + 48 := w64 (by omega) (by omega)
  have e64 : IntKind.i64.wrap (at_ + 64) = at_ + 64 := w64 (by omega) (by omega)
  have hso := over_sig b at_ h0 (by omega)
  have hok := getH_ok b at_ hB h0 (by omega)
  have hM := hMay_meets (getH b at_) hok
  have gE : gotE b at_ = if formB b at_ then 0 else 5 := by unfold gotE; rw [if_neg c1, if_neg c2]
  have gF : formB b at_ = (getV b at_ 4 == 1112364030 && getV b (at_ + 4) 2 == 64 && mayB (getH b at_) && (flB (getV b (at_ + 16) 4) || getV b (at_ + 32) 4 == 0)) := rfl
  have gH : gotH b at_ = if gotE b at_ = 0 then getH b at_ else hdZero := rfl
  generalize hmb : mayB (getH b at_) = mb at hM gF
  simp only [Hd.sv, getH] at hM
  have n4 : (getV b at_ 4 != 1112364030) = !(getV b at_ 4 == 1112364030) := rfl
  have n2 : (getV b (at_ + 4) 2 != 64) = !(getV b (at_ + 4) 2 == 64) := rfl
  have n32 : (getV b (at_ + 32) 4 != 0) = !(getV b (at_ + 32) 4 == 0) := rfl
  have nf : (2 * (getV b (at_ + 16) 4 / 2 % 2) == 0) = !flB (getV b (at_ + 16) 4) := by rw [← hb2]; simp [bne]
  have neg : formB b at_ = false → gotE b at_ = 5 ∧ gotH b at_ = hdZero := fun h => by rw [gH, gE, h]; exact ⟨rfl, rfl⟩
  have pos : formB b at_ = true → gotE b at_ = 0 ∧ gotH b at_ = getH b at_ := fun h => by rw [gH, gE, h]; exact ⟨rfl, rfl⟩
  cases hs : flB (getV b (at_ + 16) 4) with
  | true =>
    simp only [if_true, eq_self]
    refine n_go 100 hb hB h0 h1 (by decide) rfl rfl ⟨rfl, rfl, rfl, rfl, rfl⟩ ?_
    simp only [pureOpC, unc, absRun, absOps, absOp, evO, constSV, ungd, gdP, gdPs, setD, T_ty, T_size, tTy, tSize, fieldOf, faddrV, pureOp, memOp, scal, setC, blkAt, fnd, upd, guardIs, Op.operands, List.getD, List.getElem?_cons_zero, List.getElem?_cons_succ, Option.getD_some, List.set, List.toList_toArray, Option.map_some, Option.map_none, true_and, and_self, if_true, if_false, ite_self, eq_self, ne_eq, not_false_eq_true, reduceCtorEq, Nat.zero_add, List.length_cons, List.length_nil, Nat.reduceAdd, Nat.reduceSub, Nat.reduceEqDiff, Nat.reduceLT, Nat.succ_ne_self]
    refine draw_go TO 8 100 mixed_ok (by decide +kernel) ?_
    simp only [List.take_succ_cons, List.take_zero, List.drop_succ_cons, List.drop_zero, pureOpC, unc, isEff, absD, pureStep, absRun, absOps, absOp, evO, constSV, ungd, gdP, gdPs, setD, binI, binV, ptrE, T_ty, T_size, tTy, tSize, fieldOf, faddrV, lowI, highI, maxP, sliceV, pureOp, memOp, loadV, dataOf, nilD, cellAt, arrAt, setA, blkAt, fnd, upd, Data.len, Data.esz, Data.sub, Op.operands, Call.operands, List.getD, List.getElem?_cons_zero, List.getElem?_cons_succ, Option.getD_some, List.set, List.toList_toArray, Option.map_some, Option.map_none, true_and, and_true, and_self, if_true, if_false, ite_self, eq_self, ne_eq, not_false_eq_true, forall_const, reduceCtorEq, Nat.zero_add, Int.sub_zero, Int.cast_ofNat_Int, Int.reduceToNat, Nat.le_refl, Int.le_refl, Int.toNat_zero, Option.toArray_some, Option.toArray_none, List.append_toArray, List.cons_append, List.nil_append, List.append_nil, Nat.reduceAdd, Nat.reduceSub, Nat.reduceEqDiff, Nat.reduceLeDiff, Nat.succ_ne_self, Int.reduceLE, e48, e64, hso]
    refine ⟨by omega, ?_⟩
    refine n_go 100 hb hB h0 h1 (by decide) rfl rfl ⟨rfl, rfl, rfl, rfl, rfl⟩ ?_
    cases p1 : (getV b at_ 4 == 1112364030) with
    | false =>
      simp only [pureOpC, unc, absOps, absOp, evO, constSV, ungd, gdP, gdPs, setD, binI, binV, ptrE, pureOp, guardOf, guardIs, Op.operands, List.getD, List.getElem?_cons_zero, List.getElem?_cons_succ, Option.getD_some, List.set, List.toList_toArray, List.getElem?_toArray, Option.bind_some, true_and, and_self, implies_true, eq_self, Bool.false_eq_true, Nat.zero_add, Int.add_zero, List.length_cons, List.length_nil, Nat.reduceAdd, Nat.reduceLT, Bool.not_true, Bool.not_false, n4, p1]
      refine skip_go TO 100 (.int .u64 0) ?_
      simp only [pureOpC, unc, absOps, absOp, evO, constSV, ungd, gdP, gdPs, setD, binI, binV, ptrE, T_ty, T_size, tTy, tSize, pickV, pureOp, guardOf, loadV, takeC, dropC, blkAt, fnd, guardIs, Op.operands, List.getD, List.getElem?_cons_zero, List.getElem?_cons_succ, Option.getD_some, List.set, List.toList_toArray, List.getElem?_toArray, Option.bind_some, Option.map_some, true_and, and_self, implies_true, imp_self, if_true, if_false, eq_self, ne_eq, not_false_eq_true, reduceCtorEq, Bool.false_eq_true, Nat.le_refl, Int.reduceBNe, Bool.cond_true, Nat.reduceAdd, Nat.reduceSub, Nat.reduceEqDiff, Bool.not_true]
      refine skip_go TO 100 (.bool false) ?_
      simp only [pureOpC, unc, absOps, absOp, evO, constSV, ungd, gdP, gdPs, setD, binI, binV, ptrE, unV, T_ty, T_size, tTy, tSize, fieldOf, faddrV, pickV, pureOp, guardOf, loadV, cellAt, blkAt, fnd, guardIs, Op.operands, List.getD, List.getElem?_cons_zero, List.getElem?_cons_succ, Option.getD_some, List.set, List.toList_toArray, List.getElem?_toArray, Option.bind_some, true_and, and_self, implies_true, imp_self, if_true, if_false, eq_self, ne_eq, not_false_eq_true, reduceCtorEq, Bool.false_eq_true, Nat.zero_add, Bool.cond_true, Nat.reduceSub, Nat.reduceEqDiff, Nat.reduceLT, Nat.succ_ne_self, Bool.not_true, Bool.not_false, Bool.and_self, a2, nf, hs]
      refine skip_go TO 100 (.int .u64 0) ?_
      simp only [pureOpC, buildV, fillC, cntC, unc, absRun, absOps, absOp, evO, constSV, ungd, gdP, gdPs, setD, binI, binV, ptrE, T_ty, T_size, T_zero, tTy, tSize, tZero, pickV, pureOp, guardOf, memOp, loadV, scal, okC, takeC, dropC, blkAt, fnd, upd, retP, resV, retQ, rAs, rA, rA0, rAl, ownN, nodup, bares, bare, bare0, bareL, guardIs, Op.operands, List.getD, List.getElem?_cons_zero, List.getElem?_cons_succ, Option.getD_some, List.set, List.map, List.all, List.toList_toArray, List.getElem?_toArray, Option.bind_some, Option.map_some, true_and, and_true, and_self, implies_true, imp_self, if_true, if_false, eq_self, ne_eq, not_false_eq_true, reduceCtorEq, Bool.false_eq_true, Nat.zero_add, Nat.add_zero, Nat.le_refl, Int.reduceBNe, Bool.cond_true, Bool.cond_false, List.nil_append, List.append_nil, Nat.reduceAdd, Nat.reduceSub, Nat.reduceEqDiff, Nat.succ_ne_self, Bool.not_true, List.replicate_succ, List.replicate_zero, Bool.and_true, Bool.and_self]
      obtain ⟨r1, r2⟩ := neg (by rw [gF]; simp [*])
      simp only [r1, r2]
      and_intros <;> first | rfl | trivial
    | true =>
      simp only [pureOpC, unc, absOps, absOp, evO, constSV, ungd, gdP, gdPs, setD, binI, binV, ptrE, pureOp, guardOf, guardIs, Op.operands, List.getD, List.getElem?_cons_zero, List.getElem?_cons_succ, Option.getD_some, List.set, List.toList_toArray, List.getElem?_toArray, Option.bind_some, true_and, and_self, implies_true, eq_self, Nat.zero_add, Int.add_zero, List.length_cons, List.length_nil, Nat.reduceAdd, Nat.reduceLT, Bool.not_true, Bool.not_false, n4, p1]
      refine n_go 100 hb hB h0 h1 (by decide) rfl rfl ⟨rfl, rfl, rfl, rfl, rfl⟩ ?_
      cases p2 : (getV b (at_ + 4) 2 == 64) with
      | false =>
        simp only [pureOpC, unc, absOps, absOp, evO, constSV, ungd, gdP, gdPs, setD, binI, binV, ptrE, T_ty, T_size, tTy, tSize, pickV, pureOp, guardOf, loadV, takeC, dropC, blkAt, fnd, guardIs, Op.operands, List.getD, List.getElem?_cons_zero, List.getElem?_cons_succ, Option.getD_some, List.set, List.toList_toArray, List.getElem?_toArray, Option.bind_some, Option.map_some, true_and, and_self, implies_true, if_true, if_false, eq_self, ne_eq, not_false_eq_true, reduceCtorEq, Bool.false_eq_true, Nat.zero_add, Nat.le_refl, Bool.cond_false, List.length_cons, List.length_nil, Nat.reduceAdd, Nat.reduceSub, Nat.reduceEqDiff, Nat.reduceLT, Bool.not_true, Bool.not_false, n2, p2]
        refine skip_go TO 100 (.bool false) ?_
        simp only [pureOpC, unc, absOps, absOp, evO, constSV, ungd, gdP, gdPs, setD, binI, binV, ptrE, unV, T_ty, T_size, tTy, tSize, fieldOf, faddrV, pickV, pureOp, guardOf, loadV, cellAt, blkAt, fnd, guardIs, Op.operands, List.getD, List.getElem?_cons_zero, List.getElem?_cons_succ, Option.getD_some, List.set, List.toList_toArray, List.getElem?_toArray, Option.bind_some, true_and, and_self, implies_true, imp_self, if_true, if_false, eq_self, ne_eq, not_false_eq_true, reduceCtorEq, Bool.false_eq_true, Nat.zero_add, Bool.cond_true, Nat.reduceSub, Nat.reduceEqDiff, Nat.reduceLT, Nat.succ_ne_self, Bool.not_true, Bool.not_false, Bool.and_self, a2, nf, hs]
        refine skip_go TO 100 (.int .u64 0) ?_
        simp only [pureOpC, buildV, fillC, cntC, unc, absRun, absOps, absOp, evO, constSV, ungd, gdP, gdPs, setD, binI, binV, ptrE, T_ty, T_size, T_zero, tTy, tSize, tZero, pickV, pureOp, guardOf, memOp, loadV, scal, okC, takeC, dropC, blkAt, fnd, upd, retP, resV, retQ, rAs, rA, rA0, rAl, ownN, nodup, bares, bare, bare0, bareL, guardIs, Op.operands, List.getD, List.getElem?_cons_zero, List.getElem?_cons_succ, Option.getD_some, List.set, List.map, List.all, List.toList_toArray, List.getElem?_toArray, Option.bind_some, Option.map_some, true_and, and_true, and_self, implies_true, imp_self, if_true, if_false, eq_self, ne_eq, not_false_eq_true, reduceCtorEq, Bool.false_eq_true, Nat.zero_add, Nat.add_zero, Nat.le_refl, Int.reduceBNe, Bool.cond_true, Bool.cond_false, List.nil_append, List.append_nil, Nat.reduceAdd, Nat.reduceSub, Nat.reduceEqDiff, Nat.succ_ne_self, Bool.not_true, List.replicate_succ, List.replicate_zero, Bool.and_true, Bool.and_self]
        obtain ⟨r1, r2⟩ := neg (by rw [gF]; simp [*])
        simp only [r1, r2]
        and_intros <;> first | rfl | trivial
      | true =>
        simp only [pureOpC, unc, absOps, absOp, evO, constSV, ungd, gdP, gdPs, setD, binI, binV, ptrE, T_ty, T_size, tTy, tSize, pickV, pureOp, guardOf, loadV, takeC, dropC, blkAt, fnd, guardIs, Op.operands, List.getD, List.getElem?_cons_zero, List.getElem?_cons_succ, Option.getD_some, List.set, List.toList_toArray, List.getElem?_toArray, Option.bind_some, Option.map_some, true_and, and_self, implies_true, if_true, if_false, eq_self, ne_eq, not_false_eq_true, reduceCtorEq, Nat.zero_add, Nat.le_refl, Bool.cond_false, List.length_cons, List.length_nil, Nat.reduceAdd, Nat.reduceSub, Nat.reduceEqDiff, Nat.reduceLT, Bool.not_true, Bool.not_false, n2, p2]
        simp only [hs, if_true] at hM
        refine call_go TO 100 hM Tryd.func41 (by decide +kernel) rfl rfl rfl ?_
        cases mb with
        | false =>
          simp only [pureOpC, unc, absOps, absOp, evO, constSV, ungd, gdP, gdPs, setD, binI, binV, ptrE, unV, T_ty, T_size, tTy, tSize, fieldOf, faddrV, pickV, pureOp, guardOf, loadV, cellAt, blkAt, fnd, ownN, nodup, bares, bare, bare0, guardIs, callP, callS, argS, mAs, mA, mA0, mB0, mAl, allNotIn, impN, impB, impT, packS, delL, Op.operands, List.getD, List.getElem?_cons_zero, List.getElem?_cons_succ, Option.getD_some, List.set, List.map, List.toList_toArray, List.getElem?_toArray, Option.bind_some, true_and, and_self, implies_true, imp_self, if_true, if_false, eq_self, ne_eq, not_false_eq_true, reduceCtorEq, Bool.false_eq_true, Nat.zero_add, Bool.cond_false, List.append_nil, Nat.reduceSub, Nat.reduceEqDiff, Nat.reduceLT, Nat.succ_ne_self, Bool.not_true, Bool.not_false, Bool.and_self, a2, nf, hs]
          refine skip_go TO 100 (.int .u64 0) ?_
          simp only [pureOpC, buildV, fillC, cntC, unc, absRun, absOps, absOp, evO, constSV, ungd, gdP, gdPs, setD, binI, binV, ptrE, T_ty, T_size, T_zero, tTy, tSize, tZero, pickV, pureOp, guardOf, memOp, loadV, scal, okC, takeC, dropC, blkAt, fnd, upd, retP, resV, retQ, rAs, rA, rA0, rAl, ownN, nodup, bares, bare, bare0, bareL, guardIs, Op.operands, List.getD, List.getElem?_cons_zero, List.getElem?_cons_succ, Option.getD_some, List.set, List.map, List.all, List.toList_toArray, List.getElem?_toArray, Option.bind_some, Option.map_some, true_and, and_true, and_self, implies_true, imp_self, if_true, if_false, eq_self, ne_eq, not_false_eq_true, reduceCtorEq, Bool.false_eq_true, Nat.zero_add, Nat.add_zero, Nat.le_refl, Int.reduceBNe, Bool.cond_true, Bool.cond_false, List.nil_append, List.append_nil, Nat.reduceAdd, Nat.reduceSub, Nat.reduceEqDiff, Nat.succ_ne_self, Bool.not_true, List.replicate_succ, List.replicate_zero, Bool.and_true, Bool.and_self]
          obtain ⟨r1, r2⟩ := neg (by rw [gF]; simp [*])
          simp only [r1, r2]
          and_intros <;> first | rfl | trivial
        | true =>
          simp only [pureOpC, unc, absOps, absOp, evO, constSV, ungd, gdP, gdPs, setD, binI, binV, ptrE, unV, T_ty, T_size, tTy, tSize, fieldOf, faddrV, pickV, pureOp, guardOf, loadV, cellAt, blkAt, fnd, ownN, nodup, bares, bare, bare0, guardIs, callP, callS, argS, mAs, mA, mA0, mB0, mAl, allNotIn, impN, impB, impT, packS, delL, Op.operands, List.getD, List.getElem?_cons_zero, List.getElem?_cons_succ, Option.getD_some, List.set, List.map, List.toList_toArray, List.getElem?_toArray, Option.bind_some, true_and, and_self, implies_true, if_true, if_false, eq_self, ne_eq, not_false_eq_true, reduceCtorEq, Bool.false_eq_true, Nat.zero_add, Bool.cond_false, List.append_nil, Nat.reduceSub, Nat.reduceEqDiff, Nat.reduceLT, Nat.succ_ne_self, Bool.not_true, Bool.not_false, Bool.and_self, Bool.and_false, a2, nf, hs]
          refine skip_go TO 100 (.int .u64 0) ?_
          simp only [pureOpC, buildV, fillC, cntC, unc, absRun, absOps, absOp, evO, constSV, ungd, gdP, gdPs, setD, binI, binV, ptrE, T_ty, T_size, T_zero, tTy, tSize, tZero, pickV, pureOp, guardOf, memOp, loadV, scal, okC, takeC, dropC, blkAt, fnd, upd, retP, resV, retQ, rAs, rA, rA0, rAl, ownN, nodup, bares, bare, bare0, bareL, guardIs, Op.operands, List.getD, List.getElem?_cons_zero, List.getElem?_cons_succ, Option.getD_some, List.set, List.map, List.all, List.toList_toArray, List.getElem?_toArray, Option.bind_some, Option.map_some, true_and, and_true, and_self, implies_true, imp_self, if_true, if_false, eq_self, ne_eq, not_false_eq_true, reduceCtorEq, Bool.false_eq_true, Nat.zero_add, Nat.add_zero, Nat.le_refl, Int.reduceBNe, Bool.cond_false, List.nil_append, List.append_nil, Nat.reduceAdd, Nat.reduceSub, Nat.reduceEqDiff, Nat.succ_ne_self, Bool.not_false, List.replicate_succ, List.replicate_zero, Bool.and_true, Bool.and_self, Bool.and_false]
          obtain ⟨r1, r2⟩ := pos (by rw [gF]; simp [*])
          simp only [r1, r2, getH, hs, if_true]
          and_intros <;> first | rfl | trivial
  | false =>
    simp only [if_false, Bool.false_eq_true]
    refine n_go 100 hb hB h0 h1 (by decide) rfl rfl ⟨rfl, rfl, rfl, rfl, rfl⟩ ?_
    simp only [pureOpC, unc, absRun, absOps, absOp, evO, constSV, ungd, gdP, gdPs, setD, convV, T_ty, T_size, tTy, tSize, fieldOf, faddrV, pureOp, memOp, scal, known, setC, blkAt, fnd, upd, guardIs, Op.operands, List.getD, List.getElem?_cons_zero, List.getElem?_cons_succ, Option.getD_some, List.set, List.toList_toArray, Option.map_some, Option.map_none, true_and, and_self, if_true, if_false, ite_self, eq_self, ne_eq, not_false_eq_true, reduceCtorEq, Nat.zero_add, List.length_cons, List.length_nil, Nat.reduceAdd, Nat.reduceSub, Nat.reduceEqDiff, Nat.reduceLT, Nat.succ_ne_self, W32]
    refine draw_go TO 8 100 mixed_ok (by decide +kernel) ?_
    simp only [List.take_succ_cons, List.take_zero, List.drop_succ_cons, List.drop_zero, pureOpC, unc, isEff, absD, pureStep, absRun, absOps, absOp, evO, constSV, ungd, gdP, gdPs, setD, binI, binV, ptrE, T_ty, T_size, tTy, tSize, fieldOf, faddrV, lowI, highI, maxP, sliceV, pureOp, memOp, loadV, dataOf, nilD, cellAt, arrAt, setA, blkAt, fnd, upd, Data.len, Data.esz, Data.sub, Op.operands, Call.operands, List.getD, List.getElem?_cons_zero, List.getElem?_cons_succ, Option.getD_some, List.set, List.toList_toArray, Option.map_some, Option.map_none, true_and, and_true, and_self, if_true, if_false, ite_self, eq_self, ne_eq, not_false_eq_true, forall_const, reduceCtorEq, Nat.zero_add, Int.sub_zero, Int.cast_ofNat_Int, Int.reduceToNat, Nat.le_refl, Int.le_refl, Int.toNat_zero, Option.toArray_some, Option.toArray_none, List.append_toArray, List.cons_append, List.nil_append, List.append_nil, Nat.reduceAdd, Nat.reduceSub, Nat.reduceEqDiff, Nat.reduceLeDiff, Nat.succ_ne_self, Int.reduceLE, e48, e64, hso]
    refine ⟨by omega, ?_⟩
    refine n_go 100 hb hB h0 h1 (by decide) rfl rfl ⟨rfl, rfl, rfl, rfl, rfl⟩ ?_
    cases p1 : (getV b at_ 4 == 1112364030) with
    | false =>
      simp only [pureOpC, unc, absOps, absOp, evO, constSV, ungd, gdP, gdPs, setD, binI, binV, ptrE, pureOp, guardOf, guardIs, Op.operands, List.getD, List.getElem?_cons_zero, List.getElem?_cons_succ, Option.getD_some, List.set, List.toList_toArray, List.getElem?_toArray, Option.bind_some, true_and, and_self, implies_true, eq_self, Bool.false_eq_true, Nat.zero_add, Int.add_zero, List.length_cons, List.length_nil, Nat.reduceAdd, Nat.reduceLT, Bool.not_true, Bool.not_false, n4, p1]
      refine skip_go TO 100 (.int .u64 0) ?_
      simp only [pureOpC, unc, absOps, absOp, evO, constSV, ungd, gdP, gdPs, setD, binI, binV, ptrE, T_ty, T_size, tTy, tSize, pickV, pureOp, guardOf, loadV, takeC, dropC, blkAt, fnd, guardIs, Op.operands, List.getD, List.getElem?_cons_zero, List.getElem?_cons_succ, Option.getD_some, List.set, List.toList_toArray, List.getElem?_toArray, Option.bind_some, Option.map_some, true_and, and_self, implies_true, imp_self, if_true, if_false, eq_self, ne_eq, not_false_eq_true, reduceCtorEq, Bool.false_eq_true, Nat.le_refl, Int.reduceBNe, Bool.cond_true, Nat.reduceAdd, Nat.reduceSub, Nat.reduceEqDiff, Bool.not_true]
      refine skip_go TO 100 (.bool false) ?_
      simp only [pureOpC, unc, absOps, absOp, evO, constSV, ungd, gdP, gdPs, setD, binI, binV, ptrE, unV, T_ty, T_size, tTy, tSize, fieldOf, faddrV, pickV, pureOp, guardOf, loadV, cellAt, blkAt, fnd, guardIs, Op.operands, List.getD, List.getElem?_cons_zero, List.getElem?_cons_succ, Option.getD_some, List.set, List.toList_toArray, List.getElem?_toArray, Option.bind_some, true_and, and_self, implies_true, imp_self, if_true, if_false, eq_self, ne_eq, not_false_eq_true, reduceCtorEq, Bool.false_eq_true, Nat.zero_add, Bool.cond_true, Nat.reduceSub, Nat.reduceEqDiff, Nat.reduceLT, Nat.succ_ne_self, Bool.not_true, Bool.not_false, Bool.and_true, a2, nf, hs]
      refine skip_go TO 100 (.int .u64 0) ?_
      simp only [pureOpC, buildV, fillC, cntC, unc, absRun, absOps, absOp, evO, constSV, ungd, gdP, gdPs, setD, binI, binV, ptrE, T_ty, T_size, T_zero, tTy, tSize, tZero, pickV, pureOp, guardOf, memOp, loadV, scal, okC, takeC, dropC, blkAt, fnd, upd, retP, resV, retQ, rAs, rA, rA0, rAl, ownN, nodup, bares, bare, bare0, bareL, guardIs, Op.operands, List.getD, List.getElem?_cons_zero, List.getElem?_cons_succ, Option.getD_some, List.set, List.map, List.all, List.toList_toArray, List.getElem?_toArray, Option.bind_some, Option.map_some, true_and, and_true, and_self, implies_true, imp_self, if_true, if_false, eq_self, ne_eq, not_false_eq_true, reduceCtorEq, Bool.false_eq_true, Nat.zero_add, Nat.add_zero, Nat.le_refl, Int.reduceBNe, Bool.cond_true, List.nil_append, List.append_nil, Nat.reduceAdd, Nat.reduceSub, Nat.reduceEqDiff, Nat.succ_ne_self, Bool.not_true, List.replicate_succ, List.replicate_zero, Bool.and_true, Bool.and_self]
      obtain ⟨r1, r2⟩ := neg (by rw [gF]; simp [*])
      simp only [r1, r2]
      and_intros <;> first | rfl | trivial
    | true =>
      simp only [pureOpC, unc, absOps, absOp, evO, constSV, ungd, gdP, gdPs, setD, binI, binV, ptrE, pureOp, guardOf, guardIs, Op.operands, List.getD, List.getElem?_cons_zero, List.getElem?_cons_succ, Option.getD_some, List.set, List.toList_toArray, List.getElem?_toArray, Option.bind_some, true_and, and_self, implies_true, eq_self, Nat.zero_add, Int.add_zero, List.length_cons, List.length_nil, Nat.reduceAdd, Nat.reduceLT, Bool.not_true, Bool.not_false, n4, p1]
      refine n_go 100 hb hB h0 h1 (by decide) rfl rfl ⟨rfl, rfl, rfl, rfl, rfl⟩ ?_
      cases p2 : (getV b (at_ + 4) 2 == 64) with
      | false =>
        simp only [pureOpC, unc, absOps, absOp, evO, constSV, ungd, gdP, gdPs, setD, binI, binV, ptrE, T_ty, T_size, tTy, tSize, pickV, pureOp, guardOf, loadV, takeC, dropC, blkAt, fnd, guardIs, Op.operands, List.getD, List.getElem?_cons_zero, List.getElem?_cons_succ, Option.getD_some, List.set, List.toList_toArray, List.getElem?_toArray, Option.bind_some, Option.map_some, true_and, and_self, implies_true, if_true, if_false, eq_self, ne_eq, not_false_eq_true, reduceCtorEq, Bool.false_eq_true, Nat.zero_add, Nat.le_refl, Bool.cond_false, List.length_cons, List.length_nil, Nat.reduceAdd, Nat.reduceSub, Nat.reduceEqDiff, Nat.reduceLT, Bool.not_true, Bool.not_false, n2, p2]
        refine skip_go TO 100 (.bool false) ?_
        simp only [pureOpC, unc, absOps, absOp, evO, constSV, ungd, gdP, gdPs, setD, binI, binV, ptrE, unV, T_ty, T_size, tTy, tSize, fieldOf, faddrV, pickV, pureOp, guardOf, loadV, cellAt, blkAt, fnd, guardIs, Op.operands, List.getD, List.getElem?_cons_zero, List.getElem?_cons_succ, Option.getD_some, List.set, List.toList_toArray, List.getElem?_toArray, Option.bind_some, true_and, and_self, implies_true, imp_self, if_true, if_false, eq_self, ne_eq, not_false_eq_true, reduceCtorEq, Bool.false_eq_true, Nat.zero_add, Bool.cond_true, Nat.reduceSub, Nat.reduceEqDiff, Nat.reduceLT, Nat.succ_ne_self, Bool.not_true, Bool.not_false, Bool.and_true, a2, nf, hs]
        refine skip_go TO 100 (.int .u64 0) ?_
        simp only [pureOpC, buildV, fillC, cntC, unc, absRun, absOps, absOp, evO, constSV, ungd, gdP, gdPs, setD, binI, binV, ptrE, T_ty, T_size, T_zero, tTy, tSize, tZero, pickV, pureOp, guardOf, memOp, loadV, scal, okC, takeC, dropC, blkAt, fnd, upd, retP, resV, retQ, rAs, rA, rA0, rAl, ownN, nodup, bares, bare, bare0, bareL, guardIs, Op.operands, List.getD, List.getElem?_cons_zero, List.getElem?_cons_succ, Option.getD_some, List.set, List.map, List.all, List.toList_toArray, List.getElem?_toArray, Option.bind_some, Option.map_some, true_and, and_true, and_self, implies_true, imp_self, if_true, if_false, eq_self, ne_eq, not_false_eq_true, reduceCtorEq, Bool.false_eq_true, Nat.zero_add, Nat.add_zero, Nat.le_refl, Int.reduceBNe, Bool.cond_true, List.nil_append, List.append_nil, Nat.reduceAdd, Nat.reduceSub, Nat.reduceEqDiff, Nat.succ_ne_self, Bool.not_true, List.replicate_succ, List.replicate_zero, Bool.and_true, Bool.and_self]
        obtain ⟨r1, r2⟩ := neg (by rw [gF]; simp [*])
        simp only [r1, r2]
        and_intros <;> first | rfl | trivial
      | true =>
        simp only [pureOpC, unc, absOps, absOp, evO, constSV, ungd, gdP, gdPs, setD, binI, binV, ptrE, T_ty, T_size, tTy, tSize, pickV, pureOp, guardOf, loadV, takeC, dropC, blkAt, fnd, guardIs, Op.operands, List.getD, List.getElem?_cons_zero, List.getElem?_cons_succ, Option.getD_some, List.set, List.toList_toArray, List.getElem?_toArray, Option.bind_some, Option.map_some, true_and, and_self, implies_true, if_true, if_false, eq_self, ne_eq, not_false_eq_true, reduceCtorEq, Nat.zero_add, Nat.le_refl, Bool.cond_false, List.length_cons, List.length_nil, Nat.reduceAdd, Nat.reduceSub, Nat.reduceEqDiff, Nat.reduceLT, Bool.not_true, Bool.not_false, n2, p2]
        simp only [hs, if_false, Bool.false_eq_true] at hM
        refine call_go TO 100 hM Tryd.func41 (by decide +kernel) rfl rfl rfl ?_
        cases mb with
        | false =>
          simp only [pureOpC, unc, absOps, absOp, evO, constSV, ungd, gdP, gdPs, setD, binI, binV, ptrE, unV, T_ty, T_size, tTy, tSize, fieldOf, faddrV, pickV, pureOp, guardOf, loadV, cellAt, blkAt, fnd, ownN, nodup, bares, bare, bare0, guardIs, callP, callS, argS, mAs, mA, mA0, mB0, mAl, allNotIn, impN, impB, impT, packS, delL, Op.operands, List.getD, List.getElem?_cons_zero, List.getElem?_cons_succ, Option.getD_some, List.set, List.map, List.toList_toArray, List.getElem?_toArray, Option.bind_some, true_and, and_self, implies_true, imp_self, if_true, if_false, eq_self, ne_eq, not_false_eq_true, reduceCtorEq, Bool.false_eq_true, Nat.zero_add, Bool.cond_false, List.append_nil, Nat.reduceSub, Nat.reduceEqDiff, Nat.reduceLT, Nat.succ_ne_self, Bool.not_true, Bool.not_false, Bool.and_true, Bool.and_self, a2, nf, hs]
          refine skip_go TO 100 (.int .u64 0) ?_
          simp only [pureOpC, buildV, fillC, cntC, unc, absRun, absOps, absOp, evO, constSV, ungd, gdP, gdPs, setD, binI, binV, ptrE, T_ty, T_size, T_zero, tTy, tSize, tZero, pickV, pureOp, guardOf, memOp, loadV, scal, okC, takeC, dropC, blkAt, fnd, upd, retP, resV, retQ, rAs, rA, rA0, rAl, ownN, nodup, bares, bare, bare0, bareL, guardIs, Op.operands, List.getD, List.getElem?_cons_zero, List.getElem?_cons_succ, Option.getD_some, List.set, List.map, List.all, List.toList_toArray, List.getElem?_toArray, Option.bind_some, Option.map_some, true_and, and_true, and_self, implies_true, imp_self, if_true, if_false, eq_self, ne_eq, not_false_eq_true, reduceCtorEq, Bool.false_eq_true, Nat.zero_add, Nat.add_zero, Nat.le_refl, Int.reduceBNe, Bool.cond_true, List.nil_append, List.append_nil, Nat.reduceAdd, Nat.reduceSub, Nat.reduceEqDiff, Nat.succ_ne_self, Bool.not_true, List.replicate_succ, List.replicate_zero, Bool.and_true, Bool.and_self]
          obtain ⟨r1, r2⟩ := neg (by rw [gF]; simp [*])
          simp only [r1, r2]
          and_intros <;> first | rfl | trivial
        | true =>
          simp only [pureOpC, unc, absOps, absOp, evO, constSV, ungd, gdP, gdPs, setD, binI, binV, ptrE, unV, T_ty, T_size, tTy, tSize, fieldOf, faddrV, pickV, pureOp, guardOf, loadV, cellAt, blkAt, fnd, ownN, nodup, bares, bare, bare0, guardIs, callP, callS, argS, mAs, mA, mA0, mB0, mAl, allNotIn, impN, impB, impT, packS, delL, Op.operands, List.getD, List.getElem?_cons_zero, List.getElem?_cons_succ, Option.getD_some, List.set, List.map, List.toList_toArray, List.getElem?_toArray, Option.bind_some, true_and, and_self, implies_true, if_true, if_false, eq_self, ne_eq, not_false_eq_true, reduceCtorEq, Nat.zero_add, Bool.cond_false, List.append_nil, Nat.reduceSub, Nat.reduceEqDiff, Nat.reduceLT, Nat.succ_ne_self, Bool.not_true, Bool.not_false, Bool.and_self, a2, nf, hs]
          refine n_go 100 hb hB h0 h1 (by decide) rfl rfl ⟨rfl, rfl, rfl, rfl, rfl⟩ ?_
          cases p3 : (getV b (at_ + 32) 4 == 0) with
          | false =>
            simp only [pureOpC, buildV, fillC, cntC, unc, absRun, absOps, absOp, evO, constSV, ungd, gdP, gdPs, setD, binI, binV, ptrE, T_ty, T_size, T_zero, tTy, tSize, tZero, pickV, pureOp, guardOf, memOp, loadV, scal, okC, takeC, dropC, blkAt, fnd, upd, retP, resV, retQ, rAs, rA, rA0, rAl, ownN, nodup, bares, bare, bare0, bareL, guardIs, Op.operands, List.getD, List.getElem?_cons_zero, List.getElem?_cons_succ, Option.getD_some, List.set, List.map, List.all, List.toList_toArray, List.getElem?_toArray, Option.bind_some, Option.map_some, true_and, and_true, and_self, implies_true, if_true, if_false, eq_self, ne_eq, not_false_eq_true, reduceCtorEq, Nat.zero_add, Nat.add_zero, Nat.le_refl, Bool.cond_true, Bool.cond_false, List.nil_append, List.append_nil, List.length_cons, List.length_nil, Nat.reduceAdd, Nat.reduceSub, Nat.reduceEqDiff, Nat.reduceLT, Nat.succ_ne_self, Bool.not_false, List.replicate_succ, List.replicate_zero, Bool.and_true, Bool.and_self, n32, p3]
            obtain ⟨r1, r2⟩ := neg (by rw [gF]; simp [*])
            simp only [r1, r2]
            and_intros <;> first | rfl | trivial
          | true =>
            simp only [pureOpC, buildV, fillC, cntC, unc, absRun, absOps, absOp, evO, constSV, ungd, gdP, gdPs, setD, binI, binV, ptrE, T_ty, T_size, T_zero, tTy, tSize, tZero, pickV, pureOp, guardOf, memOp, loadV, scal, okC, takeC, dropC, blkAt, fnd, upd, retP, resV, retQ, rAs, rA, rA0, rAl, ownN, nodup, bares, bare, bare0, bareL, guardIs, Op.operands, List.getD, List.getElem?_cons_zero, List.getElem?_cons_succ, Option.getD_some, List.set, List.map, List.all, List.toList_toArray, List.getElem?_toArray, Option.bind_some, Option.map_some, true_and, and_true, and_self, implies_true, if_true, if_false, eq_self, ne_eq, not_false_eq_true, reduceCtorEq, Bool.false_eq_true, Nat.zero_add, Nat.add_zero, Nat.le_refl, Bool.cond_true, Bool.cond_false, List.nil_append, List.append_nil, List.length_cons, List.length_nil, Nat.reduceAdd, Nat.reduceSub, Nat.reduceEqDiff, Nat.reduceLT, Nat.succ_ne_self, Bool.not_true, Bool.not_false, List.replicate_succ, List.replicate_zero, Bool.and_true, Bool.and_self, n32, p3]
            obtain ⟨r1, r2⟩ := pos (by rw [gF]; simp [*])
            simp only [r1, r2, getH, hs, if_false, Bool.false_eq_true]
            and_intros <;> first | rfl | trivial

end Go.Proofs.YtdhnjmepgafeiaaDoor.Abs
