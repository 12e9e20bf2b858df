/- Readers: what their methods do. -/
import Derived.Test.YtakgefinmlomdaaDoorU8
import Derived.Test.YtakgefinmlomdaaDoorRX
import Derived.Test.YtakgefinmlomdaaDoorFX
set_option linter.unusedVariables false
set_option linter.unusedSimpArgs false
set_option maxRecDepth 100000
namespace Go.Proofs.YtakgefinmlomdaaDoor.Abs
open Go Go.Proofs

/-- A reader's place and error, behind a number, a part, a text that was taken off; what was taken. -/
def rN (b : List Int) (k : Nat) (r : Nat × Int) : Nat × Int := if r.2 ≠ 0 then r else if b.length < r.1 + k then (r.1, 4) else (r.1 + k, 0)
def rV (b : List Int) (k : Nat) (r : Nat × Int) : Int := if r.2 ≠ 0 then 0 else if b.length < r.1 + k then 0 else getV b r.1 k
def rM (b : List Int) (k : Nat) (m e : Int) (r : Nat × Int) : Nat × Int := if (rN b k r).2 = 0 ∧ m < rV b k r then ((rN b k r).1, e) else rN b k r
def rP (b : List Int) (k : Nat) (r : Nat × Int) : List Int := if r.2 ≠ 0 then [] else if b.length < r.1 + k then [] else (b.drop r.1).take k
def rT (b : List Int) (r : Nat × Int) : Nat × Int := if r.2 ≠ 0 then r else if gtE b r.1 ≠ 0 then (r.1, gtE b r.1) else ((gtX b r.1).toNat, 0)
def rS (b : List Int) (r : Nat × Int) : ByteArray := if r.2 ≠ 0 then ByteArray.empty else gtS b r.1
def rEnd (b : List Int) (r : Nat × Int) : Int := if r.2 = 0 ∧ r.1 ≠ b.length then 5 else r.2

def rMV (b : List Int) (k : Nat) (m : Int) (r : Nat × Int) : Int := if (rN b k r).2 = 0 ∧ m < rV b k r then 0 else rV b k r

theorem getV_lt9 (b : List Int) (a : Int) (n : Nat) (hB : Bytes b) : 0 ≤ getV b a n ∧ getV b a n < 256 ^ n := by
  have hp : 0 < (256 : Int) ^ n := Int.pow_pos (by decide)
  unfold getV
  split
  · rename_i h
    unfold getE at h
    split at h
    · have hl := cutL_length_eq h
      have hv := val_bounds (hB.cut a n)
      have : (cutL b a n).length = n := by omega
      rw [this] at hv
      exact hv
    · cases h
  · omega

theorem rV_lt (b : List Int) (k : Nat) (r : Nat × Int) (hB : Bytes b) : 0 ≤ rV b k r ∧ rV b k r < 256 ^ k := by
  have hp : 0 < (256 : Int) ^ k := Int.pow_pos (by decide)
  unfold rV
  split
  · exact ⟨by omega, hp⟩
  · split
    · exact ⟨by omega, hp⟩
    · exact getV_lt9 b _ k hB

theorem gtX_ok {b : List Int} {a : Nat} (hB : Bytes b) (h : a ≤ b.length) : 0 ≤ gtX b a ∧ gtX b a ≤ b.length := by
  unfold gtX
  split
  · rename_i hg
    unfold grX
    split
    · rename_i h2
      have hn := rowN_lt b a hB
      unfold grE at h2
      split at h2
      · rename_i h3; rw [h2] at h3; exact absurd rfl h3
      split at h2
      · cases h2
      split at h2
      · cases h2
      omega
    · omega
  · omega

theorem rN_le {b : List Int} {k : Nat} {r : Nat × Int} (h : r.1 ≤ b.length) : (rN b k r).1 ≤ b.length := by
  unfold rN
  split
  · exact h
  · split
    · exact h
    · simp only; omega
theorem rM_le {b : List Int} {k : Nat} {m e : Int} {r : Nat × Int} (h : r.1 ≤ b.length) : (rM b k m e r).1 ≤ b.length := by
  unfold rM
  split
  · exact rN_le h
  · exact rN_le h

abbrev rdC (b : List Int) (r : Nat × Int) (tail : List SV) : Blk := .cells (.view false (.ints .u8 b) :: .int .i64 r.1 :: .int .i64 r.2 :: tail)

set_option maxHeartbeats 1000000 in
theorem rn_inC {X : Ctx} {b0 : List (Nat × Nat × Blk)} {n g c0 : Nat} {b : List Int} {r : Nat × Int} {k : Nat} {tail : List SV} (hn : fnd b0 n = some (g, rdC b r tail))
    (hb : b.length ≤ 140737488351232) (hB : Bytes b) (hr : r.1 ≤ b.length) (hk : szB k = true) :
    InC Tryd.prog X 50 [.ptr n g 0, .int .i64 k] b0 c0 (.int .u64 (rV b k r)) (upd b0 n g (rdC b (rN b k r) tail)) (c0 + 12) := by
  have hk8 : (k : Int) ≤ 8 := by rcases szB_cases hk with h | h | h | h <;> omega
  refine inC_go TO 5000 Tryd.func50 rfl (absRun_ok TO 100 _ _ ?_)
  simp only [Tryd.ntmps50, Tryd.results50, hn, rdC, retC, rI, pureOpC, unc, absRun, absOps, absOp, evO, constSV, ungd, gdP, gdPs, setD, binI, binV, ptrE, T_ty, T_size, tTy, tSize, fieldOf, faddrV, pureOp, loadV, cellAt, blkAt, resV, flatV, flat2, Op.operands, List.getD, List.getElem?_cons_zero, List.getElem?_cons_succ, Option.getD_some, List.set, List.map, List.toList_toArray, true_and, and_true, and_self, if_true, if_false, eq_self, ne_eq, not_false_eq_true, reduceCtorEq, Nat.zero_add, List.cons_append, List.nil_append, List.length_cons, List.length_nil, Nat.reduceAdd, Nat.reduceSub, Nat.succ_ne_self, List.replicate_succ, List.replicate_zero, SV.int.injEq]
  by_cases h0 : r.2 = 0
  rotate_left
  · have e1 : rN b k r = r := by unfold rN; rw [if_pos h0]
    have e2 : rV b k r = 0 := by unfold rV; rw [if_pos h0]
    rw [if_pos (by simpa using h0), e1, e2]
    exact ⟨SubB_same hn, by omega, rfl⟩
  rw [if_neg (by simpa using h0)]
  have wd : IntKind.i64.wrap ((b.length : Int) - r.1) = (b.length : Int) - r.1 := w64 (by omega) (by omega)
  refine draw_go TO 12 100 mixed_ok (by decide +kernel) ?_
  simp only [hn, rdC, retC, rI, wd, List.take_succ_cons, List.take_zero, List.drop_succ_cons, List.drop_zero, pureOpC, unc, isEff, absD, pureStep, absRun, absOps, absOp, evO, constSV, ungd, gdP, gdPs, setD, binI, binV, ptrE, T_ty, T_size, tTy, tSize, fieldOf, faddrV, pureOp, memOp, lenV, loadV, scal, cellAt, setC, blkAt, Data.len, resV, flatV, flat2, Op.operands, Call.operands, List.getD, List.getElem?_cons_zero, List.getElem?_cons_succ, Option.getD_some, List.set, List.map, List.toList_toArray, Option.map_some, true_and, and_true, and_self, implies_true, imp_self, if_true, if_false, eq_self, ne_eq, not_false_eq_true, forall_const, reduceCtorEq, Nat.zero_add, Nat.add_zero, List.append_toArray, List.nil_append, Nat.reduceSub, Nat.succ_ne_self, SV.int.injEq]
  by_cases h1 : b.length < r.1 + k
  · have e1 : rN b k r = (r.1, 4) := by unfold rN; rw [if_neg (by simpa using h0), if_pos h1]
    have e2 : rV b k r = 0 := by unfold rV; rw [if_neg (by simpa using h0), if_pos h1]
    rw [if_pos (decide_eq_true (by omega)), e1, e2]
    exact ⟨SubB_refl, by omega, rfl⟩
  rw [if_neg (by simp; omega)]
  have e1 : rN b k r = (r.1 + k, 0) := by unfold rN; rw [if_neg (by simpa using h0), if_neg h1]
  have e2 : rV b k r = getV b r.1 k := by unfold rV; rw [if_neg (by simpa using h0), if_neg h1]
  rw [e1, e2]
  have hG := rGet_meets b r.1 k hb hB
  have wa : IntKind.i64.wrap ((r.1 : Int) + k) = ((r.1 + k : Nat) : Int) := by rw [w64 (by omega) (by omega)]; omega
  refine draw_go TO 15 100 mixed_ok (by decide +kernel) ?_
  simp only [hn, rdC, retC, rI, List.take_succ_cons, List.take_zero, List.drop_succ_cons, List.drop_zero, pureOpC, gloadV, GT, unc, isEff, absD, pureStep, absRun, absOps, absOp, evO, ungd, gdP, gdPs, setD, binI, binV, ptrE, binS, T_ty, T_size, tTy, tSize, fieldOf, faddrV, pureOp, memOp, loadV, scal, cellAt, blkAt, elemV, Data.len, Data.esz, resV, flatV, flat2, Op.operands, List.getD, List.getElem?_cons_zero, List.getElem?_cons_succ, Option.getD_some, List.set, List.map, List.toList_toArray, Option.isSome, true_and, and_true, and_self, implies_true, imp_self, if_true, if_false, eq_self, ne_eq, not_false_eq_true, forall_const, reduceCtorEq, Nat.zero_add, Nat.add_zero, Nat.reduceSub, Nat.succ_ne_self]
  refine callDS_go TO (fun s' h' => HOps_go TO 100 h') hG Tryd.func67 (by decide +kernel) rfl rfl rfl SubB_refl ?_
  simp only [hn, rdC, retC, rI, wa, h0, pureOpC, unc, isEff, absD, pureStep, absRun, absOps, absOp, evO, ungd, gdP, gdPs, setD, binI, binV, ptrE, T_ty, T_size, tTy, tSize, fieldOf, faddrV, extractV, pureOp, memOp, loadV, scal, cellAt, setC, blkAt, resV, ownN, nodup, bares, bare, bare0, flatV, flat2, guardIs, callP, callS, argS, mAs, mA, mA0, mB0, lowD, allNotIn, impN, impB, impT, packS, delL, Op.operands, List.getD, List.getElem?_cons_zero, List.getElem?_cons_succ, Option.getD_some, List.set, List.map, List.toList_toArray, Option.map_some, true_and, and_true, and_self, if_true, if_false, eq_self, ne_eq, not_false_eq_true, Nat.zero_add, Int.reduceBNe, List.append_nil, Nat.reduceSub, Nat.succ_ne_self, Bool.and_self]
  exact ⟨SubB_refl, by omega⟩

set_option maxHeartbeats 1000000 in
theorem rm_inC {X : Ctx} {b0 : List (Nat × Nat × Blk)} {n g c0 : Nat} {b : List Int} {r : Nat × Int} {k : Nat} {m e : Int} {tail : List SV} (hn : fnd b0 n = some (g, rdC b r tail))
    (hb : b.length ≤ 140737488351232) (hB : Bytes b) (hr : r.1 ≤ b.length) (hk : szB k = true) :
    InC Tryd.prog X 51 [.ptr n g 0, .int .i64 k, .int .u64 m, .int .i64 e] b0 c0 (.int .u64 (rMV b k m r)) (upd b0 n g (rdC b (rM b k m e r) tail)) (c0 + 24) := by
  refine inC_go TO 5000 Tryd.func51 rfl (absRun_ok TO 100 _ _ ?_)
  simp only [Tryd.ntmps51, Tryd.results51, rdC, pureOpC, absRun, absOps, absOp, evO, constSV, ungd, gdP, gdPs, setD, pureOp, memOp, Op.operands, List.getD, List.getElem?_cons_zero, List.getElem?_cons_succ, Option.getD_some, List.set, List.toList_toArray, true_and, and_self, Nat.zero_add, List.cons_append, List.nil_append, List.length_cons, List.length_nil, Nat.reduceAdd, Nat.reduceSub, List.replicate_succ, List.replicate_zero]
  have hM : rM b k m e r = if (rN b k r).2 = 0 ∧ m < rV b k r then ((rN b k r).1, e) else rN b k r := rfl
  have hV : rMV b k m r = if (rN b k r).2 = 0 ∧ m < rV b k r then 0 else rV b k r := rfl
  refine inC_ops TO 100 (rn_inC (k := k) hn hb hB hr hk) Tryd.func50 (by decide +kernel) rfl rfl rfl ⟨⟨rfl, rfl, by simp only [evO, gdP, gdPs, List.getD, List.getElem?_cons_zero, List.getElem?_cons_succ, Option.getD_some, and_self]⟩, ?_⟩
  rw [hM, hV]
  generalize rN b k r = q at *
  generalize rV b k r = v at *
  simp only [rdC, retC, rI, fnd_same, upd_same, pureOpC, unc, absRun, absOps, absOp, evO, constSV, ungd, gdP, gdPs, setD, binI, binV, ptrE, T_ty, T_size, tTy, tSize, fieldOf, faddrV, pickV, pureOp, guardOf, memOp, loadV, scal, cellAt, setC, blkAt, resV, flatV, flat2, Op.operands, List.getD, List.getElem?_cons_zero, List.getElem?_cons_succ, Option.getD_some, List.set, List.map, List.toList_toArray, List.getElem?_toArray, Option.bind_some, Option.map_some, true_and, and_true, and_self, implies_true, imp_self, if_true, if_false, eq_self, ne_eq, not_false_eq_true, reduceCtorEq, Nat.zero_add, Bool.cond_false_right, Nat.reduceSub, Nat.succ_ne_self, SV.int.injEq, gt_iff_lt]
  by_cases h1 : q.2 = 0 ∧ m < v
  · have c1 : (q.2 == 0 && decide (m < v)) = true := by simpa using h1
    rw [if_pos h1, if_pos h1, if_pos c1]
    exact ⟨SubB_refl, by omega, rfl⟩
  · have c1 : ¬ (q.2 == 0 && decide (m < v)) = true := by simpa using h1
    rw [if_neg h1, if_neg h1, if_neg c1]
    exact ⟨SubB_refl, by omega, rfl⟩

set_option maxHeartbeats 1000000 in
theorem rt_inC {X : Ctx} {b0 : List (Nat × Nat × Blk)} {n g c0 : Nat} {b : List Int} {r : Nat × Int}  {tail : List SV} (hn : fnd b0 n = some (g, rdC b r tail))
    (hb : b.length ≤ 274877906944) (hB : Bytes b) (hr : r.1 ≤ b.length)  :
    InC Tryd.prog X 52 [.ptr n g 0] b0 c0 (.str (rS b r)) (upd b0 n g (rdC b (rT b r) tail)) (c0 + 12) := by
  refine inC_go TO 5000 Tryd.func52 rfl (absRun_ok TO 100 _ _ ?_)
  simp only [Tryd.ntmps52, Tryd.results52, hn, rdC, retC, rI, pureOpC, unc, absRun, absOps, absOp, evO, constSV, ungd, gdP, gdPs, setD, binI, binV, ptrE, T_ty, T_size, tTy, tSize, fieldOf, faddrV, pureOp, loadV, cellAt, blkAt, resV, flatV, flat2, Op.operands, List.getD, List.getElem?_cons_zero, List.getElem?_cons_succ, Option.getD_some, List.set, List.map, List.toList_toArray, true_and, and_true, and_self, if_true, if_false, eq_self, ne_eq, not_false_eq_true, reduceCtorEq, Nat.zero_add, List.cons_append, List.nil_append, List.length_cons, List.length_nil, Nat.reduceSub, Nat.succ_ne_self, List.replicate_succ, List.replicate_zero]
  by_cases h0 : r.2 = 0
  rotate_left
  · have e1 : rT b r = r := by unfold rT; rw [if_pos h0]
    have e2 : rS b r = ByteArray.empty := by unfold rS; rw [if_pos h0]
    rw [if_pos (by simpa using h0), e1, e2]
    exact ⟨SubB_same hn, by omega, rfl⟩
  rw [if_neg (by simpa using h0)]
  have e1 : rT b r = if gtE b r.1 ≠ 0 then (r.1, gtE b r.1) else ((gtX b r.1).toNat, 0) := by unfold rT; rw [if_neg (by simpa using h0)]
  have e2 : rS b r = gtS b r.1 := by unfold rS; rw [if_neg (by simpa using h0)]
  have e3 : gtE b r.1 ≠ 0 → gtS b r.1 = ByteArray.empty := fun h => by unfold gtS; rw [if_neg h]
  have hX := gtX_ok hB hr
  have hG := rGetText_meets b r.1 hb hB ⟨by omega, by omega⟩
  rw [e1, e2]
  refine draw_go TO 16 100 mixed_ok (by decide +kernel) ?_
  simp only [hn, rdC, retC, rI, List.take_succ_cons, List.take_zero, List.drop_succ_cons, List.drop_zero, pureOpC, unc, isEff, absD, pureStep, absRun, absOps, absOp, evO, constSV, ungd, gdP, gdPs, setD, binI, binV, ptrE, binS, T_ty, T_size, tTy, tSize, fieldOf, faddrV, pureOp, memOp, loadV, scal, isB, isA, cellAt, blkAt, resV, flatV, flat2, Op.operands, List.getD, List.getElem?_cons_zero, List.getElem?_cons_succ, Option.getD_some, List.set, List.map, List.toList_toArray, Option.isSome, true_and, and_true, and_false, and_self, implies_true, imp_self, if_true, if_false, eq_self, ne_eq, not_false_eq_true, forall_const, reduceCtorEq, Nat.zero_add, Nat.add_zero, Nat.reduceSub, Nat.succ_ne_self]
  refine callDS_go TO (fun s' h' => HOps_go TO 100 h') hG Tryd.func68 (by decide +kernel) rfl rfl rfl SubB_refl ?_
  by_cases h1 : gtE b r.1 = 0
  · obtain ⟨x, hx⟩ : ∃ x : Nat, gtX b r.1 = x := ⟨(gtX b r.1).toNat, by omega⟩
    rw [if_neg (by simpa using h1), h1, hx]
    simp only [hn, rdC, retC, rI, fnd_same, upd_same, h0, pureOpC, unc, isEff, absD, pureStep, absRun, absOps, absOp, evO, constSV, ungd, gdP, gdPs, setD, binI, binV, ptrE, T_ty, T_size, tTy, tSize, fieldOf, faddrV, extractV, pureOp, memOp, scal, setC, blkAt, resV, ownN, nodup, bares, bare, bare0, flatV, flat2, guardIs, callP, callS, argS, mAs, mA, mA0, mB0, lowD, allNotIn, impN, impB, impT, packS, delL, Op.operands, List.getD, List.getElem?_cons_zero, List.getElem?_cons_succ, Option.getD_some, List.set, List.map, List.toList_toArray, Option.map_some, true_and, and_true, and_self, if_true, if_false, eq_self, ne_eq, not_false_eq_true, reduceCtorEq, Nat.zero_add, Int.toNat_natCast, Int.reduceBNe, List.append_nil, Nat.reduceSub, Nat.succ_ne_self, beq_self_eq_true, Bool.and_self]
    exact ⟨SubB_refl, by omega⟩
  · rw [if_pos h1, e3 h1]
    have c1 : (gtE b r.1 != 0) = true := by simpa using h1
    have c2 : (gtE b r.1 == 0) = false := by simpa using h1
    simp only [hn, rdC, retC, rI, fnd_same, upd_same, c2, pureOpC, unc, isEff, absD, pureStep, absRun, absOps, absOp, evO, constSV, ungd, gdP, gdPs, setD, binI, binV, ptrE, T_ty, T_size, tTy, tSize, fieldOf, faddrV, extractV, pureOp, memOp, scal, setC, blkAt, resV, ownN, nodup, bares, bare, bare0, flatV, flat2, guardIs, callP, callS, argS, mAs, mA, mA0, mB0, lowD, allNotIn, impN, impB, impT, packS, delL, Op.operands, List.getD, List.getElem?_cons_zero, List.getElem?_cons_succ, Option.getD_some, List.set, List.map, List.toList_toArray, Option.map_some, true_and, and_true, and_self, if_true, if_false, eq_self, ne_eq, not_false_eq_true, reduceCtorEq, Bool.false_eq_true, Nat.zero_add, List.append_nil, Nat.reduceSub, Nat.succ_ne_self, Bool.and_self]
    first | exact ⟨SubB_refl, by omega, rfl⟩ | exact ⟨SubB_refl, by omega⟩

set_option maxHeartbeats 1000000 in
theorem re_inC {X : Ctx} {b0 : List (Nat × Nat × Blk)} {n g c0 : Nat} {b : List Int} {r : Nat × Int}  {tail : List SV} (hn : fnd b0 n = some (g, rdC b r tail))
    (hb : b.length ≤ 140737488351232) (hB : Bytes b) (hr : r.1 ≤ b.length)  :
    InC Tryd.prog X 54 [.ptr n g 0] b0 c0 (.int .i64 (rEnd b r)) (upd b0 n g (rdC b r tail)) (c0 + 8) := by
  refine inC_go TO 5000 Tryd.func54 rfl (absRun_ok TO 100 _ _ ?_)
  simp only [Tryd.ntmps54, Tryd.results54, rdC, pureOpC, absRun, absOps, absOp, evO, constSV, ungd, gdP, gdPs, setD, Op.operands, List.set, List.toList_toArray, true_and, and_self, Nat.zero_add, List.cons_append, List.nil_append, List.length_cons, List.length_nil, Nat.reduceSub, List.replicate_succ, List.replicate_zero]
  refine draw_go TO 17 100 mixed_ok (by decide +kernel) ?_
  simp only [hn, rdC, retC, rI, List.take_succ_cons, List.take_zero, List.drop_succ_cons, List.drop_zero, pureOpC, gloadV, GT, unc, isEff, absD, pureStep, absRun, absOps, absOp, evO, constSV, ungd, gdP, gdPs, setD, binI, binV, ptrE, T_ty, T_size, tTy, tSize, fieldOf, faddrV, pickV, pureOp, guardOf, memOp, lenV, loadV, cellAt, blkAt, elemV, Data.len, Data.esz, resV, flatV, flat2, Op.operands, Call.operands, List.getD, List.getElem?_cons_zero, List.getElem?_cons_succ, Option.getD_some, List.set, List.map, List.toList_toArray, List.getElem?_toArray, Option.bind_some, true_and, and_true, and_self, implies_true, imp_self, if_true, if_false, eq_self, ne_eq, not_false_eq_true, forall_const, reduceCtorEq, Nat.zero_add, Nat.add_zero, Bool.cond_false_right, List.append_toArray, List.nil_append, Nat.reduceSub, Nat.succ_ne_self, SV.int.injEq]
  have eE : rEnd b r = if r.2 = 0 ∧ r.1 ≠ b.length then 5 else r.2 := rfl
  by_cases h1 : r.2 = 0 ∧ r.1 ≠ b.length
  · rw [if_pos h1] at eE
    rw [if_pos (by simp; omega), eE]
    exact ⟨SubB_same hn, by omega, rfl⟩
  · rw [if_neg h1] at eE
    rw [if_neg (by simp; omega), eE]
    exact ⟨SubB_same hn, by omega, rfl⟩

end Go.Proofs.YtakgefinmlomdaaDoor.Abs
