/- info's writer. -/
import Derived.Test.YtgipkhjpedpedaaDoorKF
import Derived.Test.YtgipkhjpedpedaaDoorRB
set_option linter.unusedVariables false
set_option linter.unusedSimpArgs false
set_option maxRecDepth 100000
namespace Go.Proofs.YtgipkhjpedpedaaDoor.Abs
open Go Go.Proofs

theorem blk_of {b : List (Nat × Nat × Blk)} {n g : Nat} {x : Blk} (h : fnd b n = some (g, x)) : blkAt b n g = some x := by simp [blkAt, h]

/-- What the writer's blocks are, one number laid. -/
abbrev wrU (b : List (Nat × Nat × Blk)) (n g m K gK : Nat) (l : List Int) (len : Nat) (tail : List SV) : List (Nat × Nat × Blk) :=
  upd (upd (del b m) K gK (.vec (.ints .u8 l))) n g (.cells (.sl K gK 0 1 0 len :: tail))

theorem over_sub {b0 : List (Nat × Nat × Blk)} {I g1 m K G n g : Nat} {x y z : Blk} (h : fnd b0 I = none) : SubB (upd (upd (del b0 m) K G y) n g z) (upd (upd (del (upd b0 I g1 x) m) K G y) n g z) := by
  intro q w hw
  simp only [fnd_upd, fnd_del] at hw ⊢
  split at hw
  · rename_i e; rw [if_pos e]; exact hw
  rename_i e; rw [if_neg e]
  split at hw
  · rename_i e; rw [if_pos e]; exact hw
  rename_i e; rw [if_neg e]
  split at hw
  · cases hw
  rename_i e; rw [if_neg e]
  split
  · rename_i e; subst e; rw [h] at hw; cases hw
  · exact hw

set_option maxHeartbeats 1000000 in
theorem wn_inC {X : Ctx} {b0 : List (Nat × Nat × Blk)} {n g m gm c0 : Nat} {l : List Int} {x : Int} {k : Nat} {tail : List SV} (hn : fnd b0 n = some (g, .cells (.sl m gm 0 1 0 l.length :: tail))) (hm : fnd b0 m = some (gm, .vec (.ints .u8 l)))
    (hnm : n ≠ m) (hnK : n ≠ 5020) (hI : fnd b0 90176 = none) (hl : l.length ≤ 1000000000) (hk : szB k = true) (h0 : 0 ≤ x) (hx : x < 256 ^ k) (hx2 : x < 18446744073709551616) :
    InC Tryd.prog X 32 [.ptr n g 0, .int .u64 x, .int .i64 k] b0 c0 (.tup []) (wrU b0 n g m 5020 (c0 + 2) (l ++ digs k x) (l ++ digs k x).length tail) (c0 + 12) := by
  have hk8 : (k : Int) ≤ 8 := by rcases szB_cases hk with h | h | h | h <;> omega
  have hQ := Put_meets x k h0 hx2
  rw [putL_k hk hx, putE_k hk hx] at hQ
  have hd := digs_length k x
  have ht : (digs k x).take k = digs k x := List.take_of_length_le (Nat.le_of_eq hd)
  have hmI : m ≠ 90176 := by rintro rfl; rw [hI] at hm; cases hm
  have hnI : n ≠ 90176 := by rintro rfl; rw [hI] at hn; cases hn
  refine inC_go TO 5000 Tryd.func32 rfl (absRun_ok TO 100 _ _ ?_)
  simp only [Tryd.ntmps32, Tryd.results32, pureOpC, absRun, absOps, absOp, evO, ungd, gdP, gdPs, setD, pureOp, memOp, Op.operands, List.getD, List.getElem?_cons_zero, List.getElem?_cons_succ, Option.getD_some, List.set, List.toList_toArray, true_and, and_self, Nat.zero_add, List.cons_append, List.nil_append, List.length_cons, List.length_nil, Nat.reduceAdd, Nat.reduceSub, List.replicate_succ, List.replicate_zero]
  refine call_go TO 0 hQ Tryd.func58 (by decide +kernel) rfl rfl rfl ?_
  simp only [hd, pureOpC, unc, absRun, absOps, absOp, evO, ungd, gdP, gdPs, setD, extractV, pureOp, notIn, Data.len, Data.esz, ownN, nodup, bares, bare, bare0, bareD, guardIs, callP, callS, argS, mAs, mA, mA0, mB0, allNotIn, nm, impN, impB, impT, packS, delL, Op.operands, List.getD, List.getElem?_cons_zero, List.getElem?_cons_succ, Option.getD_some, List.set, List.map, List.toList_toArray, true_and, and_self, eq_self, Nat.add_zero, List.append_nil, Nat.reduceAdd, Nat.reduceMul, Bool.and_self]
  refine absRun_ok TO 100 _ _ ?_
  simp only [blkAt, fnd_upd, fnd_del, mv, hn, hm, hd, ht, hnm, hnK, hmI, hnI, ne_eq, not_false_eq_true, if_true, if_false, List.drop_zero, pureOpC, unc, fitT, absRun, absOps, absOp, evO, ungd, gdP, gdPs, setD, T_ty, T_size, T_bytes, T_zero, tTy, tSize, tBytes, tZero, fieldOf, faddrV, pureOp, memOp, loadV, notIn, dataOf, appD, isSrc, scal, zI, cellAt, setC, blkAt, mv, Data.len, Data.esz, Data.sub, Lim.add, Op.operands, Call.operands, List.getD, List.getElem?_cons_zero, List.getElem?_cons_succ, Option.getD_some, List.set, List.map, List.toList_toArray, Option.isSome, true_and, and_true, and_self, if_true, if_false, eq_self, ne_eq, not_false_eq_true, Nat.zero_add, Nat.add_zero, Nat.le_refl, List.append_toArray, List.nil_append, Nat.reduceAdd, Nat.reduceSub, Nat.reduceEqDiff, Nat.succ_ne_self, retC]
  have hz : (l ++ digs k x).length = l.length + k := by rw [List.length_append, hd]
  exact ⟨⟨by omega, by omega⟩, over_sub hI, by omega⟩

set_option maxHeartbeats 1000000 in
theorem wt_inC {X : Ctx} {b0 : List (Nat × Nat × Blk)} {n g m gm c0 : Nat} {l : List Int} {on : Bool} {tail : List SV} (hn : fnd b0 n = some (g, .cells (.sl m gm 0 1 0 l.length :: tail))) (hm : fnd b0 m = some (gm, .vec (.ints .u8 l)))
    (hnm : n ≠ m) (hnK : n ≠ 5020) (hI : fnd b0 90176 = none) (hl : l.length ≤ 1000000000) :
    InC Tryd.prog X 34 [.ptr n g 0, .bool on, .int .i64 2] b0 c0 (.tup []) (wrU b0 n g m 5020 (c0 + 5) (l ++ digs 2 (onV on)) (l ++ digs 2 (onV on)).length tail) (c0 + 24) := by
  refine inC_go TO 5000 Tryd.func34 rfl (absRun_ok TO 100 _ _ ?_)
  simp only [Tryd.ntmps34, Tryd.results34, pureOpC, absRun, absOps, absOp, evO, ungd, gdP, gdPs, setD, pureOp, memOp, Op.operands, List.getD, List.getElem?_cons_zero, List.getElem?_cons_succ, Option.getD_some, List.set, List.toList_toArray, true_and, and_self, Nat.zero_add, List.cons_append, List.nil_append, List.length_cons, List.length_nil, Nat.reduceAdd, Nat.reduceSub, List.replicate_succ, List.replicate_zero]
  cases on
  · simp only [if_false, Bool.false_eq_true]
    refine inC_ops TO 100 (wn_inC (k := 2) (x := 0) hn hm hnm hnK hI hl rfl (by decide) (by decide) (by decide)) Tryd.func32 (by decide +kernel) rfl rfl rfl ⟨⟨rfl, rfl, by simp only [evO, constSV, gdP, gdPs, List.getD, List.getElem?_cons_zero, List.getElem?_cons_succ, Option.getD_some, and_self]⟩, ?_⟩
    simp only [onV, absRun, absOps, List.map, and_true, if_false, eq_self, Bool.false_eq_true, retC]
    exact ⟨SubB_refl, by omega⟩
  · simp only [if_true, eq_self]
    refine inC_ops TO 100 (wn_inC (k := 2) (x := 1) hn hm hnm hnK hI hl rfl (by decide) (by decide) (by decide)) Tryd.func32 (by decide +kernel) rfl rfl rfl ⟨⟨rfl, rfl, by simp only [evO, constSV, gdP, gdPs, List.getD, List.getElem?_cons_zero, List.getElem?_cons_succ, Option.getD_some, and_self]⟩, ?_⟩
    simp only [onV, absRun, absOps, List.map, and_true, if_true, eq_self, retC]
    exact ⟨SubB_refl, by omega⟩

theorem tx_sub {b0 : List (Nat × Nat × Blk)} {m G n g g1 g2 : Nat} {l : List Int} {x : Blk} {y : Blk} {len : Nat} {t : List SV} {z : Blk} (h4 : fnd b0 5034 = none) (hI : fnd b0 90256 = none) :
    SubB (wrU b0 n g m 5020 G l len t) (upd (upd (del (upd (del (upd (upd b0 90256 g1 x) n g y) m) 5034 g2 z) 5034) 5020 G (.vec (.ints .u8 l))) n g (.cells (.sl 5020 G 0 1 0 len :: t))) := by
  intro q w hw
  simp only [wrU, fnd_upd, fnd_del] at hw ⊢
  split at hw
  · rename_i e; rw [if_pos e]; exact hw
  rename_i e1; rw [if_neg e1]
  split at hw
  · rename_i e; rw [if_pos e]; exact hw
  rename_i e2; rw [if_neg e2]
  split at hw
  · cases hw
  rename_i e3
  have e4 : q ≠ 5034 := by rintro rfl; rw [h4] at hw; cases hw
  have e5 : q ≠ 90256 := by rintro rfl; rw [hI] at hw; cases hw
  rw [if_neg e4, if_neg e4, if_neg e3, if_neg e1, if_neg e5]
  exact hw

theorem tx_sub2 {b0 : List (Nat × Nat × Blk)} {m G n g g1 g2 : Nat} {l : List Int} {x : Blk} {len : Nat} {t : List SV} {z : Blk} (h4 : fnd b0 5034 = none) (hI : fnd b0 90256 = none) :
    SubB (wrU b0 n g m 5020 G l len t) (upd (upd (del (upd (del (upd b0 90256 g1 x) m) 5034 g2 z) 5034) 5020 G (.vec (.ints .u8 l))) n g (.cells (.sl 5020 G 0 1 0 len :: t))) := by
  intro q w hw
  simp only [wrU, fnd_upd, fnd_del] at hw ⊢
  split at hw
  · rename_i e; rw [if_pos e]; exact hw
  rename_i e1; rw [if_neg e1]
  split at hw
  · rename_i e; rw [if_pos e]; exact hw
  rename_i e2; rw [if_neg e2]
  split at hw
  · cases hw
  rename_i e3
  have e4 : q ≠ 5034 := by rintro rfl; rw [h4] at hw; cases hw
  have e5 : q ≠ 90256 := by rintro rfl; rw [hI] at hw; cases hw
  rw [if_neg e4, if_neg e4, if_neg e3, if_neg e5]
  exact hw

theorem wr_sub {b0 : List (Nat × Nat × Blk)} {m G G1 n g : Nat} {l l1 : List Int} {len len1 : Nat} {t t1 : List SV} :
    SubB (wrU b0 n g m 5020 G l len t) (wrU (wrU b0 n g m 5020 G1 l1 len1 t1) n g 5020 5020 G l len t) := by
  intro q w hw
  simp only [wrU, fnd_upd, fnd_del] at hw ⊢
  split at hw
  · rename_i e; rw [if_pos e]; exact hw
  rename_i e1; rw [if_neg e1]
  split at hw
  · rename_i e; rw [if_pos e]; exact hw
  rename_i e2; rw [if_neg e2, if_neg e2, if_neg e1, if_neg e2]
  exact hw

set_option maxHeartbeats 4000000 in
theorem ws1_inC {X : Ctx} {b0 : List (Nat × Nat × Blk)} {n g m gm p gp c0 : Nat} {l : List Int} {e : Int} {a1 : ByteArray} (hn : fnd b0 n = some (g, .cells [.sl m gm 0 1 0 l.length, .int .i64 e])) (hm : fnd b0 m = some (gm, .vec (.ints .u8 l)))
    (hp : fnd b0 p = some (gp, .vec (.strs [a1]))) (hnm : n ≠ m) (hnK : n ≠ 5020) (hpm : p ≠ m) (hpK : p ≠ 5020) (hpn : p ≠ n) (h4 : fnd b0 5034 = none) (hI : fnd b0 90256 = none) (hl : l.length ≤ 1000000000) (hs : a1.size ≤ 1048576) :
    InC Tryd.prog X 33 [.ptr n g 0, .sl p gp 0 1 0 1] b0 c0 (.tup []) (wrU b0 n g m 5020 (c0 + 21) (l ++ ptL a1) (l ++ ptL a1).length [.int .i64 (txE e a1)]) (c0 + 48) := by
  have hlen := pt_len a1
  have hmI : m ≠ 90256 := by rintro rfl; rw [hI] at hm; cases hm
  have hnI : n ≠ 90256 := by rintro rfl; rw [hI] at hn; cases hn
  have hpI : p ≠ 90256 := by rintro rfl; rw [hI] at hp; cases hp
  have hm4 : m ≠ 5034 := by rintro rfl; rw [h4] at hm; cases hm
  have hn4 : n ≠ 5034 := by rintro rfl; rw [h4] at hn; cases hn
  have hp4 : p ≠ 5034 := by rintro rfl; rw [h4] at hp; cases hp
  refine inC_go TO 5000 Tryd.func33 rfl (absRun_ok TO 100 _ _ ?_)
  simp only [Tryd.ntmps33, Tryd.results33, blkAt, hp, if_true, pureOpC, unc, absRun, absOps, absOp, evO, constSV, ungd, gdP, gdPs, setD, T_ty, tTy, pureOp, lenV, blkAt, Op.operands, Call.operands, List.getD, List.getElem?_cons_zero, List.getElem?_cons_succ, Option.getD_some, List.set, List.toList_toArray, true_and, and_self, if_true, eq_self, Nat.zero_add, Int.cast_ofNat_Int, List.append_toArray, List.cons_append, List.nil_append, List.length_cons, List.length_nil, Nat.reduceAdd, Nat.reduceSub, List.replicate_succ, List.replicate_zero]
  refine loop_in (absRun_ok TO 100 _ _ ?_)
  simp only [blkAt, hp, if_true, pureOpC, unc, absRun, absOps, absOp, evO, ungd, gdP, gdPs, setD, binI, binV, ptrE, T_ty, T_size, tTy, tSize, iaddrV, pureOp, memOp, loadV, blkAt, elemV, Data.len, Data.esz, Op.operands, List.getD, List.getElem?_cons_zero, List.getElem?_cons_succ, Option.getD_some, List.set, List.map, List.toList_toArray, exitTo, true_and, and_true, and_self, if_true, eq_self, ne_eq, not_false_eq_true, Nat.zero_add, Nat.add_zero, Int.cast_ofNat_Int, Nat.le_refl, Int.le_refl, Int.toNat_zero, List.length_cons, List.length_nil, Nat.succ_ne_self, beq_self_eq_true, Int.reduceLT, decide_true, retC]
  refine call_go TO 5 (PutText_meets a1 (by omega)) Tryd.func59 (by decide +kernel) rfl rfl rfl ?_
  simp only [blkAt, fnd_upd, hn, hnI, if_true, if_false, pureOpC, unc, absRun, absOps, absOp, evO, constSV, ungd, gdP, gdPs, setD, binI, binV, ptrE, T_ty, T_size, tTy, tSize, fieldOf, faddrV, extractV, pureOp, memOp, loadV, notIn, scal, cellAt, setC, blkAt, Data.len, Data.esz, ownN, nodup, bares, bare, bare0, bareD, guardIs, callP, callS, argS, mAs, mA, mA0, mB0, allNotIn, nm, impN, impB, impT, packS, delL, Op.operands, List.getD, List.getElem?_cons_zero, List.getElem?_cons_succ, Option.getD_some, List.set, List.map, List.toList_toArray, Option.map_some, Option.map_none, true_and, and_self, if_true, if_false, eq_self, ne_eq, not_false_eq_true, Nat.zero_add, Nat.add_zero, List.append_nil, Nat.reduceAdd, Nat.reduceSub, Nat.reduceMul, Nat.succ_ne_self, Bool.and_self]
  have hz : (l ++ ptL a1).length = l.length + (ptL a1).length := List.length_append
  refine ite_both (fun he => ?_) (fun he => ?_)
  all_goals
    refine HRun_region (part_ops TO 7 ?_)
    simp only [absOpsN, blkAt, fnd_upd, mv, hn, hm, Ne.symm hnm, hmI, hnI, Ne.symm hnI, if_true, if_false, List.drop_zero, pureOpC, unc, fitT, absOp, evO, ungd, gdP, gdPs, setD, T_ty, T_size, T_bytes, T_zero, tTy, tSize, tBytes, tZero, fieldOf, faddrV, pureOp, memOp, loadV, notIn, dataOf, appD, isSrc, zI, cellAt, blkAt, mv, Data.len, Data.esz, Data.sub, Lim.add, Op.operands, Call.operands, List.getD, List.getElem?_cons_zero, List.getElem?_cons_succ, Option.getD_some, List.set, List.toList_toArray, true_and, and_self, if_true, if_false, eq_self, ne_eq, not_false_eq_true, List.take_length, Nat.zero_add, Nat.add_zero, Nat.le_refl, List.append_toArray, List.nil_append, Nat.reduceAdd, Nat.reduceSub, Nat.succ_ne_self]
    refine ⟨⟨by omega, by omega⟩, raise_ops (c0 + 20) (by simp only; omega) (ren_ops 34 5034 5020 (d := .ints .u8 (l ++ ptL a1)) ⟨by simp, rfl, by simp [fnd_upd]⟩ (HOps_go TO 100 ?_))⟩
    simp only [blkAt, fnd_upd, fnd_del, mv, hn, hnm, hnK, Ne.symm hnK, hnI, hn4, if_true, if_false, pureOpC, unc, absRun, absOps, absOp, evO, constSV, ungd, gdP, gdPs, setD, binI, binV, ptrE, T_ty, T_size, tTy, tSize, fieldOf, faddrV, pureOp, memOp, scal, setC, blkAt, mv, Op.operands, List.getD, List.getElem?_cons_zero, List.getElem?_cons_succ, Option.getD_some, List.set, List.toList_toArray, Option.map_some, Option.map_none, Option.isSome, true_and, and_self, if_true, if_false, eq_self, ne_eq, not_false_eq_true, Nat.add_zero, Int.zero_add, Nat.reduceSub, Nat.reduceEqDiff, Nat.succ_ne_self]
    refine HRun.dropB (b := wrU b0 n g m 5020 (c0 + 21) (l ++ ptL a1) (l ++ ptL a1).length [.int .i64 (txE e a1)]) ?_ ?_
    · have h5 : txE e a1 = if e = 0 then ptE a1 else e := rfl
      simp only [beq_iff_eq] at he
      first | rw [if_pos he] at h5 | rw [if_neg he] at h5
      rw [h5]
      first | exact tx_sub h4 hI | exact tx_sub2 h4 hI
    clear he
    refine loop_more (absRun_ok TO 100 _ _ ?_)
    have w1 : IntKind.i64.wrap 1 = 1 := by decide
    simp only [w1, blkAt, fnd_upd, fnd_del, hp, hpm, hpK, hpn, if_true, if_false, pureOpC, unc, absRun, absOps, absOp, evO, ungd, gdP, gdPs, setD, binI, binV, ptrE, T_ty, T_size, tTy, tSize, iaddrV, pureOp, memOp, loadV, blkAt, elemV, Data.len, Data.esz, Op.operands, List.getD, List.getElem?_cons_zero, List.getElem?_cons_succ, List.getElem?_nil, Option.getD_some, Option.getD_none, List.set, List.map, List.toList_toArray, exitTo, true_and, and_true, false_and, and_false, and_self, if_true, if_false, eq_self, ne_eq, not_false_eq_true, Bool.false_eq_true, Nat.zero_add, Int.cast_ofNat_Int, Int.reduceToNat, Nat.le_refl, List.length_cons, List.length_nil, Nat.succ_ne_self, beq_self_eq_true, Int.reduceLT, Int.reduceLE, decide_false, retC]
    exact ⟨SubB_refl, by omega⟩

set_option maxHeartbeats 8000000 in
theorem ws2_inC {X : Ctx} {b0 : List (Nat × Nat × Blk)} {n g m gm p gp c0 : Nat} {l : List Int} {e : Int} {a1 a2 : ByteArray} (hn : fnd b0 n = some (g, .cells [.sl m gm 0 1 0 l.length, .int .i64 e])) (hm : fnd b0 m = some (gm, .vec (.ints .u8 l)))
    (hp : fnd b0 p = some (gp, .vec (.strs [a1, a2]))) (hnm : n ≠ m) (hnK : n ≠ 5020) (hpm : p ≠ m) (hpK : p ≠ 5020) (hpn : p ≠ n) (h4 : fnd b0 5034 = none) (hI : fnd b0 90256 = none) (hl : l.length ≤ 1000000000) (hs : a1.size ≤ 1048576) (hs2 : a2.size ≤ 1048576) :
    InC Tryd.prog X 33 [.ptr n g 0, .sl p gp 0 1 0 2] b0 c0 (.tup []) (wrU b0 n g m 5020 (c0 + 61) (l ++ ptL a1 ++ ptL a2) (l ++ ptL a1 ++ ptL a2).length [.int .i64 (txE (txE e a1) a2)]) (c0 + 100) := by
  have hlen := pt_len a1
  have hlen2 := pt_len a2
  have hmI : m ≠ 90256 := by rintro rfl; rw [hI] at hm; cases hm
  have hnI : n ≠ 90256 := by rintro rfl; rw [hI] at hn; cases hn
  have hpI : p ≠ 90256 := by rintro rfl; rw [hI] at hp; cases hp
  have hm4 : m ≠ 5034 := by rintro rfl; rw [h4] at hm; cases hm
  have hn4 : n ≠ 5034 := by rintro rfl; rw [h4] at hn; cases hn
  have hp4 : p ≠ 5034 := by rintro rfl; rw [h4] at hp; cases hp
  refine inC_go TO 5000 Tryd.func33 rfl (absRun_ok TO 100 _ _ ?_)
  simp only [Tryd.ntmps33, Tryd.results33, blkAt, hp, if_true, pureOpC, unc, absRun, absOps, absOp, evO, constSV, ungd, gdP, gdPs, setD, T_ty, tTy, pureOp, lenV, blkAt, Op.operands, Call.operands, List.getD, List.getElem?_cons_zero, List.getElem?_cons_succ, Option.getD_some, List.set, List.toList_toArray, true_and, and_self, if_true, eq_self, Nat.zero_add, Int.cast_ofNat_Int, List.append_toArray, List.cons_append, List.nil_append, List.length_cons, List.length_nil, Nat.reduceAdd, Nat.reduceSub, List.replicate_succ, List.replicate_zero]
  refine loop_in (absRun_ok TO 100 _ _ ?_)
  simp only [blkAt, hp, if_true, pureOpC, unc, absRun, absOps, absOp, evO, ungd, gdP, gdPs, setD, binI, binV, ptrE, T_ty, T_size, tTy, tSize, iaddrV, pureOp, memOp, loadV, blkAt, elemV, Data.len, Data.esz, Op.operands, List.getD, List.getElem?_cons_zero, List.getElem?_cons_succ, Option.getD_some, List.set, List.map, List.toList_toArray, exitTo, true_and, and_true, and_self, if_true, eq_self, ne_eq, not_false_eq_true, Nat.zero_add, Nat.add_zero, Int.cast_ofNat_Int, Nat.le_refl, Int.le_refl, Int.toNat_zero, List.length_cons, List.length_nil, Nat.reduceAdd, Nat.succ_ne_self, beq_self_eq_true, Int.reduceLT, decide_true, retC]
  refine call_go TO 5 (PutText_meets a1 (by omega)) Tryd.func59 (by decide +kernel) rfl rfl rfl ?_
  simp only [blkAt, fnd_upd, hn, hnI, if_true, if_false, pureOpC, unc, absRun, absOps, absOp, evO, constSV, ungd, gdP, gdPs, setD, binI, binV, ptrE, T_ty, T_size, tTy, tSize, fieldOf, faddrV, extractV, pureOp, memOp, loadV, notIn, scal, cellAt, setC, blkAt, Data.len, Data.esz, ownN, nodup, bares, bare, bare0, bareD, guardIs, callP, callS, argS, mAs, mA, mA0, mB0, allNotIn, nm, impN, impB, impT, packS, delL, Op.operands, List.getD, List.getElem?_cons_zero, List.getElem?_cons_succ, Option.getD_some, List.set, List.map, List.toList_toArray, Option.map_some, Option.map_none, true_and, and_self, if_true, if_false, eq_self, ne_eq, not_false_eq_true, Nat.zero_add, Nat.add_zero, List.append_nil, Nat.reduceAdd, Nat.reduceSub, Nat.reduceMul, Nat.succ_ne_self, Bool.and_self]
  have hz : (l ++ ptL a1).length = l.length + (ptL a1).length := List.length_append
  refine ite_both (fun he => ?_) (fun he => ?_)
  all_goals
    refine HRun_region (part_ops TO 7 ?_)
    simp only [absOpsN, blkAt, fnd_upd, mv, hn, hm, Ne.symm hnm, hmI, hnI, Ne.symm hnI, if_true, if_false, List.drop_zero, pureOpC, unc, fitT, absOp, evO, ungd, gdP, gdPs, setD, T_ty, T_size, T_bytes, T_zero, tTy, tSize, tBytes, tZero, fieldOf, faddrV, pureOp, memOp, loadV, notIn, dataOf, appD, isSrc, zI, cellAt, blkAt, mv, Data.len, Data.esz, Data.sub, Lim.add, Op.operands, Call.operands, List.getD, List.getElem?_cons_zero, List.getElem?_cons_succ, Option.getD_some, List.set, List.toList_toArray, true_and, and_self, if_true, if_false, eq_self, ne_eq, not_false_eq_true, List.take_length, Nat.zero_add, Nat.add_zero, Nat.le_refl, List.append_toArray, List.nil_append, Nat.reduceAdd, Nat.reduceSub, Nat.succ_ne_self]
    refine ⟨⟨by omega, by omega⟩, raise_ops (c0 + 20) (by simp only; omega) (ren_ops 34 5034 5020 (d := .ints .u8 (l ++ ptL a1)) ⟨by simp, rfl, by simp [fnd_upd]⟩ (HOps_go TO 100 ?_))⟩
    simp only [blkAt, fnd_upd, fnd_del, mv, hn, hnm, hnK, Ne.symm hnK, hnI, hn4, if_true, if_false, pureOpC, unc, absRun, absOps, absOp, evO, constSV, ungd, gdP, gdPs, setD, binI, binV, ptrE, T_ty, T_size, tTy, tSize, fieldOf, faddrV, pureOp, memOp, scal, setC, blkAt, mv, Op.operands, List.getD, List.getElem?_cons_zero, List.getElem?_cons_succ, Option.getD_some, List.set, List.toList_toArray, Option.map_some, Option.map_none, Option.isSome, true_and, and_self, if_true, if_false, eq_self, ne_eq, not_false_eq_true, Nat.add_zero, Int.zero_add, Nat.reduceSub, Nat.reduceEqDiff, Nat.succ_ne_self]
    refine HRun.dropB (b := wrU b0 n g m 5020 (c0 + 21) (l ++ ptL a1) (l ++ ptL a1).length [.int .i64 (txE e a1)]) ?_ ?_
    · have h5 : txE e a1 = if e = 0 then ptE a1 else e := rfl
      simp only [beq_iff_eq] at he
      first | rw [if_pos he] at h5 | rw [if_neg he] at h5
      rw [h5]
      first | exact tx_sub h4 hI | exact tx_sub2 h4 hI
    clear he
    refine loop_more (absRun_ok TO 100 _ _ ?_)
    have w1 : IntKind.i64.wrap 1 = 1 := by decide
    have w2 : IntKind.i64.wrap 2 = 2 := by decide
    have hn2 : fnd (wrU b0 n g m 5020 (c0 + 21) (l ++ ptL a1) (l ++ ptL a1).length [.int .i64 (txE e a1)]) n = some (g, .cells [.sl 5020 (c0 + 21) 0 1 0 (l ++ ptL a1).length, .int .i64 (txE e a1)]) := by simp [wrU, fnd_upd]
    have hm2 : fnd (wrU b0 n g m 5020 (c0 + 21) (l ++ ptL a1) (l ++ ptL a1).length [.int .i64 (txE e a1)]) 5020 = some (c0 + 21, .vec (.ints .u8 (l ++ ptL a1))) := by simp [wrU, fnd_upd, Ne.symm hnK]
    have hp2 : fnd (wrU b0 n g m 5020 (c0 + 21) (l ++ ptL a1) (l ++ ptL a1).length [.int .i64 (txE e a1)]) p = some (gp, .vec (.strs [a1, a2])) := by simp [wrU, fnd_upd, fnd_del, hpn, hpK, hpm, hp]
    have h42 : fnd (wrU b0 n g m 5020 (c0 + 21) (l ++ ptL a1) (l ++ ptL a1).length [.int .i64 (txE e a1)]) 5034 = none := by simp [wrU, fnd_upd, fnd_del, Ne.symm hn4, Ne.symm hm4, h4]
    have hI2 : fnd (wrU b0 n g m 5020 (c0 + 21) (l ++ ptL a1) (l ++ ptL a1).length [.int .i64 (txE e a1)]) 90256 = none := by simp [wrU, fnd_upd, fnd_del, Ne.symm hnI, Ne.symm hmI, hI]
    have hfin : SubB (wrU b0 n g m 5020 (c0 + 61) (l ++ ptL a1 ++ ptL a2) (l ++ ptL a1 ++ ptL a2).length [.int .i64 (txE (txE e a1) a2)]) (wrU (wrU b0 n g m 5020 (c0 + 21) (l ++ ptL a1) (l ++ ptL a1).length [.int .i64 (txE e a1)]) n g 5020 5020 (c0 + 61) (l ++ ptL a1 ++ ptL a2) (l ++ ptL a1 ++ ptL a2).length [.int .i64 (txE (txE e a1) a2)]) := wr_sub
    generalize wrU b0 n g m 5020 (c0 + 21) (l ++ ptL a1) (l ++ ptL a1).length [.int .i64 (txE e a1)] = b1 at *
    generalize l ++ ptL a1 = l1 at *
    generalize txE e a1 = e1 at *
    have hz2 : (l1 ++ ptL a2).length = l1.length + (ptL a2).length := List.length_append
    simp only [w1, blkAt, hp2, if_true, pureOpC, unc, absRun, absOps, absOp, evO, ungd, gdP, gdPs, setD, binI, binV, ptrE, T_ty, T_size, tTy, tSize, iaddrV, pureOp, memOp, loadV, blkAt, elemV, Data.len, Data.esz, Op.operands, List.getD, List.getElem?_cons_zero, List.getElem?_cons_succ, Option.getD_some, List.set, List.map, List.toList_toArray, exitTo, true_and, and_true, and_self, if_true, eq_self, ne_eq, not_false_eq_true, Nat.zero_add, Int.cast_ofNat_Int, Int.reduceToNat, Nat.le_refl, List.length_cons, List.length_nil, Nat.reduceAdd, Nat.succ_ne_self, beq_self_eq_true, Int.reduceLT, Int.reduceLE, decide_true, retC]
    refine call_go TO 5 (PutText_meets a2 (by omega)) Tryd.func59 (by decide +kernel) rfl rfl rfl ?_
    simp only [blkAt, fnd_upd, hn2, hnI, if_true, if_false, pureOpC, unc, absRun, absOps, absOp, evO, constSV, ungd, gdP, gdPs, setD, binI, binV, ptrE, T_ty, T_size, tTy, tSize, fieldOf, faddrV, extractV, pureOp, memOp, loadV, notIn, scal, cellAt, setC, blkAt, Data.len, Data.esz, ownN, nodup, bares, bare, bare0, bareD, guardIs, callP, callS, argS, mAs, mA, mA0, mB0, allNotIn, nm, impN, impB, impT, packS, delL, Op.operands, List.getD, List.getElem?_cons_zero, List.getElem?_cons_succ, Option.getD_some, List.set, List.map, List.toList_toArray, Option.map_some, Option.map_none, true_and, and_self, if_true, if_false, eq_self, ne_eq, not_false_eq_true, Nat.zero_add, Nat.add_zero, List.append_nil, Nat.reduceAdd, Nat.reduceSub, Nat.reduceMul, Nat.succ_ne_self, Bool.and_self]
    refine ite_both (fun he => ?_) (fun he => ?_)
    all_goals
      refine HRun_region (part_ops TO 7 ?_)
      simp only [absOpsN, blkAt, fnd_upd, mv, hn2, hm2, Ne.symm hnK, hnI, Ne.symm hnI, if_true, if_false, List.drop_zero, pureOpC, unc, fitT, absOp, evO, ungd, gdP, gdPs, setD, T_ty, T_size, T_bytes, T_zero, tTy, tSize, tBytes, tZero, fieldOf, faddrV, pureOp, memOp, loadV, notIn, dataOf, appD, isSrc, zI, cellAt, blkAt, mv, Data.len, Data.esz, Data.sub, Lim.add, Op.operands, Call.operands, List.getD, List.getElem?_cons_zero, List.getElem?_cons_succ, Option.getD_some, List.set, List.toList_toArray, true_and, and_self, if_true, if_false, eq_self, ne_eq, not_false_eq_true, List.take_length, Nat.zero_add, Nat.add_zero, Nat.le_refl, List.append_toArray, List.nil_append, Nat.reduceAdd, Nat.reduceSub, Nat.reduceEqDiff, Nat.succ_ne_self]
      refine ⟨⟨by omega, by omega⟩, raise_ops (c0 + 60) (by simp only; omega) (ren_ops 34 5034 5020 (d := .ints .u8 (l1 ++ ptL a2)) ⟨by simp, rfl, by simp [fnd_upd]⟩ (HOps_go TO 100 ?_))⟩
      simp only [blkAt, fnd_upd, fnd_del, mv, hn2, hm2, hnK, Ne.symm hnK, hnI, hn4, if_true, if_false, pureOpC, unc, absRun, absOps, absOp, evO, constSV, ungd, gdP, gdPs, setD, binI, binV, ptrE, T_ty, T_size, tTy, tSize, fieldOf, faddrV, pureOp, memOp, scal, setC, blkAt, mv, Op.operands, List.getD, List.getElem?_cons_zero, List.getElem?_cons_succ, Option.getD_some, List.set, List.toList_toArray, Option.map_some, Option.map_none, Option.isSome, true_and, and_self, if_true, if_false, ite_self, eq_self, ne_eq, not_false_eq_true, Nat.add_zero, Int.reduceAdd, Nat.reduceSub, Nat.reduceEqDiff, Nat.succ_ne_self]
      refine HRun.dropB (b := wrU b0 n g m 5020 (c0 + 61) (l1 ++ ptL a2) (l1 ++ ptL a2).length [.int .i64 (txE e1 a2)]) ?_ ?_
      · intro q w hw
        have h5 : txE e1 a2 = if e1 = 0 then ptE a2 else e1 := rfl
        simp only [beq_iff_eq] at he
        first | rw [if_pos he] at h5 | rw [if_neg he] at h5
        have := hfin q w hw
        rw [h5] at this
        first | exact tx_sub h42 hI2 q w this | exact tx_sub2 h42 hI2 q w this
      clear he
      refine loop_more (absRun_ok TO 100 _ _ ?_)
      simp only [w2, pureOpC, gloadV, GT, unc, absRun, absOps, absOp, evO, ungd, gdP, gdPs, setD, binI, binV, ptrE, T_ty, T_size, tTy, tSize, iaddrV, pureOp, memOp, loadV, blkAt, elemV, Data.len, Data.esz, Op.operands, List.getD, List.getElem?_cons_zero, List.getElem?_cons_succ, Option.getD_some, List.set, List.map, List.toList_toArray, exitTo, true_and, and_true, and_false, and_self, if_true, if_false, eq_self, ne_eq, not_false_eq_true, forall_const, Bool.false_eq_true, Nat.zero_add, Int.cast_ofNat_Int, Int.reduceToNat, Nat.succ_ne_self, beq_self_eq_true, Int.reduceLT, Int.reduceLE, decide_false, retC]
      exact ⟨SubB_refl, by omega⟩

set_option maxHeartbeats 1000000 in
theorem wd_inC {X : Ctx} {b0 : List (Nat × Nat × Blk)} {n g m gm c0 len : Nat} {e : Int} (hn : fnd b0 n = some (g, .cells [.sl m gm 0 1 0 len, .int .i64 e])) :
    InC Tryd.prog X 35 [.ptr n g 0] b0 c0 (if e = 0 then .tup [.sl m gm 0 1 0 len, .int .i64 0] else .tup [.nil, .int .i64 e]) b0 (c0 + 12) := by
  refine inC_go TO 5000 Tryd.func35 rfl (absRun_ok TO 100 _ _ ?_)
  simp only [Tryd.ntmps35, Tryd.results35, hn, blkAt, if_true, pureOpC, unc, absRun, absOps, absOp, evO, constSV, ungd, gdP, gdPs, setD, binI, binV, ptrE, T_ty, T_size, tTy, tSize, fieldOf, faddrV, pureOp, loadV, cellAt, blkAt, resV, flat1, Op.operands, List.getD, List.getElem?_cons_zero, List.getElem?_cons_succ, Option.getD_some, List.set, List.map, List.toList_toArray, true_and, and_true, and_self, if_true, if_false, eq_self, ne_eq, not_false_eq_true, Nat.zero_add, Nat.add_zero, List.cons_append, List.nil_append, List.length_cons, List.length_nil, Nat.reduceSub, Nat.succ_ne_self, List.replicate_succ, List.replicate_zero, retC, rI]
  refine ite_both (fun he => ?_) (fun he => ?_)
  · have he' : ¬ e = 0 := by simpa using he
    rw [if_neg he']
    refine draw_go TO 6 100 mixed_ok (by decide +kernel) ?_
    simp only [hn, blkAt, if_true, List.take_succ_cons, List.take_zero, List.drop_succ_cons, List.drop_zero, pureOpC, unc, isEff, absD, pureStep, absRun, absOps, evO, constSV, ungd, gdP, gdPs, setD, T_ty, T_size, tTy, tSize, fieldOf, faddrV, pureOp, loadV, cellAt, blkAt, resV, flat1, Op.operands, List.getD, List.getElem?_cons_zero, List.getElem?_cons_succ, Option.getD_some, List.set, List.map, List.toList_toArray, true_and, and_true, and_self, implies_true, imp_self, if_true, if_false, eq_self, ne_eq, not_false_eq_true, reduceCtorEq, Nat.zero_add, Nat.reduceSub, Nat.succ_ne_self, retC, rI]
    first | exact ⟨SubB_refl, by omega⟩ | exact ⟨SubB_refl, by omega, rfl, rfl⟩ | (refine ⟨SubB_refl, by omega, ?_⟩; trace_state; simp [rI])
  · have he' : e = 0 := by simpa using he
    rw [if_pos he']
    first | exact ⟨SubB_refl, by omega⟩ | exact ⟨SubB_refl, by omega, rfl, rfl⟩ | (refine ⟨SubB_refl, by omega, ?_⟩; trace_state; simp [rI])

theorem wd_ok {X : Ctx} {b0 : List (Nat × Nat × Blk)} {n g m gm c0 len : Nat} (hn : fnd b0 n = some (g, .cells [.sl m gm 0 1 0 len, .int .i64 0])) :
    InC Tryd.prog X 35 [.ptr n g 0] b0 c0 (.tup [.sl m gm 0 1 0 len, .int .i64 0]) b0 (c0 + 12) := by
  have := wd_inC (X := X) (c0 := c0) hn
  rwa [if_pos rfl] at this
theorem wd_err {X : Ctx} {b0 : List (Nat × Nat × Blk)} {n g m gm c0 len : Nat} {e : Int} (he : e ≠ 0) (hn : fnd b0 n = some (g, .cells [.sl m gm 0 1 0 len, .int .i64 e])) :
    InC Tryd.prog X 35 [.ptr n g 0] b0 c0 (.tup [.nil, .int .i64 e]) b0 (c0 + 12) := by
  have := wd_inC (X := X) (c0 := c0) hn
  rwa [if_neg he] at this

theorem digs41 {d : Int} (h : U8 d) : digs 4 d = digs 1 d ++ (digs 1 0 ++ digs 2 0) := by
  have h0 := h.1
  have h1 := h.2
  simp only [digs, List.cons_append, List.nil_append, List.cons.injEq, and_true, true_and]
  omega

end Go.Proofs.YtgipkhjpedpedaaDoor.Abs
