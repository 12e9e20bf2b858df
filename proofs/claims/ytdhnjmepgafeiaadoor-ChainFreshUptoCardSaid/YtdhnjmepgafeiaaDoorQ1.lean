/- What the document's Put of a head answers. -/
import Derived.Test.YtdhnjmepgafeiaaDoorQ0
set_option linter.unusedVariables false
set_option linter.unusedSimpArgs false
set_option maxRecDepth 100000
namespace Go.Proofs.YtdhnjmepgafeiaaDoor.Abs
open Go Go.Proofs

theorem putE_0 {n : Int} {k : Nat} (hk : szB k = true) (h : n < 256 ^ k) : putE n k = 0 := by unfold putE; rw [if_pos ⟨hk, by simpa using h⟩]
theorem putL_0 {n : Int} {k : Nat} (hk : szB k = true) (h : n < 256 ^ k) : putL n k = digs k n := by unfold putL; rw [if_pos (putE_0 hk h)]; simp

theorem putL_len (n size : Int) : (putL n size).length ≤ 8 := by
  unfold putL
  split
  · rename_i h
    unfold putE at h
    split at h
    · rename_i h2
      rw [digs_length]
      have := szB_cases h2.1
      omega
    · cases h
  · simp

theorem lay_meets (b : List Int) (n : Int) (k : Nat) (hb : b.length ≤ 1000) (h0 : 0 ≤ n) (hk : szB k = true) (h : n < 256 ^ k) (h64 : n < 18446744073709551616) : Meets Tryd.prog 45 [.own (.ints .u8 b), .v (.int .u64 n), .v (.int .i64 k)] [.own (.ints .u8 (b ++ digs k n))] := by
  have hP := rPut_meets n k h0 h64
  rw [putL_0 hk h, putE_0 hk h] at hP
  have hl : (digs k n).length ≤ 8 := by rw [digs_length]; have := szB_cases hk; omega
  refine meets_go TO 100 Tryd.func45 rfl (fun X => ?_)
  simp only [Tryd.ntmps45, Tryd.results45, pureOpC, svs, blks, AV.sv, absRun, absOps, absOp, evO, constSV, ungd, gdP, gdPs, setD, pureOp, memOp, Data.len, Data.esz, Op.operands, List.getD, List.getElem?_cons_zero, List.getElem?_cons_succ, Option.getD_some, List.set, List.toList_toArray, true_and, and_self, Nat.zero_add, List.cons_append, List.nil_append, List.length_cons, List.length_nil, Nat.reduceAdd, Nat.reduceSub, List.replicate_succ, List.replicate_zero]
  refine call_go TO 100 hP Tryd.func37 (by decide +kernel) rfl rfl rfl ?_
  simp only [List.drop_zero, pureOpC, unc, fitT, absRun, absOps, absOp, evO, ungd, gdP, gdPs, setD, T_ty, T_size, T_bytes, T_zero, tTy, tSize, tBytes, tZero, extractV, pureOp, memOp, notIn, dataOf, appD, isSrc, zI, blkAt, fnd, upd, del, mv, Data.len, Data.esz, Data.sub, Lim.add, retP, resV, retQ, rAs, rA, ownN, nodup, bares, bare, bare0, bareD, guardIs, callP, callS, argS, mAs, mA, mA0, mB0, allNotIn, nm, impN, impB, impT, packS, delL, Op.operands, Call.operands, List.getD, List.getElem?_cons_zero, List.getElem?_cons_succ, Option.getD_some, List.set, List.map, List.toList_toArray, true_and, and_true, and_self, if_true, if_false, eq_self, List.take_length, Nat.zero_add, Nat.add_zero, Nat.le_refl, List.append_toArray, List.nil_append, List.append_nil, Nat.reduceAdd, Nat.reduceMul, Nat.reduceEqDiff, Bool.and_self]
  exact ⟨by omega, by omega⟩

def atV (h : Hd) : Int := if hasB h then h.async else h.tree * 4294967296
def headL (h : Hd) : List Int := digs 4 1112364030 ++ digs 2 64 ++ digs 2 h.charge ++ digs 4 h.status ++ digs 2 h.cmd ++ digs 2 h.credits ++ digs 4 h.flags ++ digs 4 h.next ++ digs 8 h.id ++ digs 8 (atV h) ++ digs 8 h.session ++ h.sig
def headP (h : Hd) : List Int := if mayB h then headL h else []
def headE (h : Hd) : Int := if mayB h then 0 else 2

theorem digs_split (n : Int) (h0 : 0 ≤ n) : digs 8 (n * 4294967296) = digs 4 0 ++ digs 4 n := by
  simp only [digs, List.cons_append, List.nil_append]
  have e : ∀ k : Int, 0 ≤ k → (k * 256) % 256 = 0 ∧ (k * 256) / 256 = k := by intro k _; omega
  have a1 : n * 4294967296 = (n * 16777216) * 256 := by omega
  have a2 : n * 16777216 = (n * 65536) * 256 := by omega
  have a3 : n * 65536 = (n * 256) * 256 := by omega
  rw [a1, (e _ (by omega)).1, (e _ (by omega)).2, a2, (e _ (by omega)).1, (e _ (by omega)).2, a3, (e _ (by omega)).1, (e _ (by omega)).2, (e _ (by omega)).1, (e _ (by omega)).2]
  rfl

set_option maxHeartbeats 4000000 in
theorem rPut07_meets (h : Hd) (hk : h.ok) : Meets Tryd.prog 31 [.v h.sv] [.own (.ints .u8 (headP h)), .v (.int .i64 (headE h))] := by
  have hk' := hk
  obtain ⟨h1, h2, h3, h4, h5, h6, h7, h8, h9, h10, h11, h12⟩ := hk
  have hM := rMay_meets h hk'
  have hH := rHas_meets h hk'
  simp only [Hd.sv] at hM hH
  refine meets_go TO 100 Tryd.func31 rfl (fun X => ?_)
  simp only [Tryd.ntmps31, Tryd.results31, Hd.sv, pureOpC, unc, svs, blks, AV.sv, absRun, absOps, absOp, evO, constSV, ungd, gdP, gdPs, setD, T_ty, T_size, tTy, tSize, pureOp, memOp, loadV, newV, notIn, cellsOf, takeC, dropC, blkAt, fnd, upd, Lim.add, Op.operands, List.getD, List.getElem?_cons_zero, List.getElem?_cons_succ, Option.getD_some, List.set, List.toList_toArray, Option.bind_some, Option.map_some, true_and, and_self, if_true, eq_self, ne_eq, not_false_eq_true, reduceCtorEq, Nat.zero_add, Nat.le_refl, List.cons_append, List.nil_append, List.length_cons, List.length_nil, Nat.reduceAdd, Nat.reduceSub, List.replicate_succ, List.replicate_zero]
  refine call_go TO 100 hM Tryd.func29 (by decide +kernel) rfl rfl rfl ?_
  by_cases c : mayB h = true
  rotate_left
  · have c' : mayB h = false := by simpa using c
    simp only [pureOpC, unc, absRun, absOps, absOp, evO, constSV, ungd, gdP, gdPs, setD, unV, T_ty, T_size, tTy, tSize, pureOp, memOp, newV, notIn, elemsOf, intsOf, upd, Data.len, Lim.add, retP, resV, retQ, rAs, rA, rA0, ownN, nodup, bares, bare, bare0, bareD, guardIs, callP, callS, argS, mAs, mA, mA0, mB0, mAl, allNotIn, impN, impB, impT, packS, delL, Op.operands, List.getD, List.getElem?_cons_zero, List.getElem?_cons_succ, Option.getD_some, List.set, List.map, List.toList_toArray, Option.map_some, true_and, and_true, and_self, if_true, if_false, eq_self, Nat.zero_add, List.append_nil, List.length_cons, List.length_nil, Nat.reduceAdd, Nat.reduceEqDiff, Nat.reduceLeDiff, Bool.not_false, Bool.and_self, c']
    simp [headP, headE, c']
  · have eP : headP h = headL h := by unfold headP; rw [if_pos c]
    have eE : headE h = 0 := by unfold headE; rw [if_pos c]
    simp only [pureOpC, unc, absRun, absOps, absOp, evO, constSV, ungd, gdP, gdPs, setD, unV, T_ty, T_size, tTy, tSize, pureOp, memOp, newV, notIn, elemsOf, intsOf, upd, Data.len, Lim.add, retP, resV, retQ, rAs, rA, rA0, ownN, nodup, bares, bare, bare0, bareD, guardIs, callP, callS, argS, mAs, mA, mA0, mB0, mAl, allNotIn, impN, impB, impT, packS, delL, Op.operands, List.getD, List.getElem?_cons_zero, List.getElem?_cons_succ, Option.getD_some, List.set, List.map, List.toList_toArray, Option.map_some, true_and, and_true, and_false, and_self, if_true, if_false, eq_self, Bool.false_eq_true, Nat.zero_add, List.append_nil, List.length_cons, List.length_nil, Nat.reduceAdd, Nat.reduceEqDiff, Nat.reduceLeDiff, Bool.not_true, Bool.and_self, Int.reduceEq, c, eP, eE]
    have w_charge : IntKind.u64.wrap h.charge = h.charge := wu64 h1.1 (by omega)
    have w_status : IntKind.u64.wrap h.status = h.status := wu64 h2.1 (by omega)
    have w_cmd : IntKind.u64.wrap h.cmd = h.cmd := wu64 h3.1 (by omega)
    have w_credits : IntKind.u64.wrap h.credits = h.credits := wu64 h4.1 (by omega)
    have w_flags : IntKind.u64.wrap h.flags = h.flags := wu64 h5.1 (by omega)
    have w_next : IntKind.u64.wrap h.next = h.next := wu64 h6.1 (by omega)
    have w_tree : IntKind.u64.wrap h.tree = h.tree := wu64 h9.1 (by omega)
    have q1 := lay_meets [254, 83, 77, 66] 64 2 (by decide) (by decide) (by decide) (by decide) (by decide)
    obtain ⟨b1, e1⟩ : ∃ b, b = [254, 83, 77, 66] ++ digs 2 64 := ⟨_, rfl⟩
    rw [← e1] at q1; simp only [Int.cast_ofNat_Int] at q1
    have l1 : b1.length = 6 := by rw [e1, List.length_append, digs_length]; rfl
    refine call_go TO 100 q1 Tryd.func45 (by decide +kernel) rfl rfl rfl ?_
    simp only [pureOpC, unc, absRun, absOps, absOp, evO, constSV, ungd, gdP, gdPs, setD, convV, T_ty, T_size, tTy, tSize, fieldOf, faddrV, pureOp, memOp, loadV, notIn, known, cellAt, blkAt, fnd, upd, del, Data.len, Data.esz, ownN, nodup, bares, bare, bareD, guardIs, callP, callS, argS, mAs, mA, mA0, mB0, lowD, allNotIn, nm, impN, impB, impT, packS, delL, Op.operands, List.getD, List.getElem?_cons_zero, List.getElem?_cons_succ, Option.getD_some, List.set, List.map, List.toList_toArray, true_and, and_self, if_true, if_false, eq_self, ne_eq, not_false_eq_true, Nat.zero_add, Nat.add_zero, List.append_nil, List.length_cons, List.length_nil, Nat.reduceAdd, Nat.reduceSub, Nat.reduceMul, Nat.reduceEqDiff, Nat.reduceLT, Nat.succ_ne_self, Bool.and_self, w_charge]
    have q2 := lay_meets b1 h.charge 2 (by omega) h1.1 (by decide) (by have := h1.2; simpa using this) (by have := h1.2; omega)
    obtain ⟨b2, e2⟩ : ∃ b, b = b1 ++ digs 2 h.charge := ⟨_, rfl⟩
    rw [← e2] at q2; simp only [Int.cast_ofNat_Int] at q2
    have l2 : b2.length = 8 := by rw [e2, List.length_append, digs_length]; omega
    refine call_go TO 100 q2 Tryd.func45 (by decide +kernel) rfl rfl rfl ?_
    simp only [pureOpC, unc, absRun, absOps, absOp, evO, constSV, ungd, gdP, gdPs, setD, convV, T_ty, T_size, tTy, tSize, fieldOf, faddrV, pureOp, memOp, loadV, notIn, known, cellAt, blkAt, fnd, upd, del, Data.len, Data.esz, ownN, nodup, bares, bare, bareD, guardIs, callP, callS, argS, mAs, mA, mA0, mB0, lowD, allNotIn, nm, impN, impB, impT, packS, delL, Op.operands, List.getD, List.getElem?_cons_zero, List.getElem?_cons_succ, Option.getD_some, List.set, List.map, List.toList_toArray, true_and, and_self, if_true, if_false, eq_self, ne_eq, not_false_eq_true, Nat.zero_add, Nat.add_zero, List.append_nil, Nat.reduceAdd, Nat.reduceSub, Nat.reduceMul, Nat.reduceEqDiff, Nat.reduceLT, Nat.succ_ne_self, Bool.and_self, w_status]
    have q3 := lay_meets b2 h.status 4 (by omega) h2.1 (by decide) (by have := h2.2; simpa using this) (by have := h2.2; omega)
    obtain ⟨b3, e3⟩ : ∃ b, b = b2 ++ digs 4 h.status := ⟨_, rfl⟩
    rw [← e3] at q3; simp only [Int.cast_ofNat_Int] at q3
    have l3 : b3.length = 12 := by rw [e3, List.length_append, digs_length]; omega
    refine call_go TO 100 q3 Tryd.func45 (by decide +kernel) rfl rfl rfl ?_
    simp only [pureOpC, unc, absRun, absOps, absOp, evO, constSV, ungd, gdP, gdPs, setD, convV, T_ty, T_size, tTy, tSize, fieldOf, faddrV, pureOp, memOp, loadV, notIn, known, cellAt, blkAt, fnd, upd, del, Data.len, Data.esz, ownN, nodup, bares, bare, bareD, guardIs, callP, callS, argS, mAs, mA, mA0, mB0, lowD, allNotIn, nm, impN, impB, impT, packS, delL, Op.operands, List.getD, List.getElem?_cons_zero, List.getElem?_cons_succ, Option.getD_some, List.set, List.map, List.toList_toArray, true_and, and_self, if_true, if_false, eq_self, ne_eq, not_false_eq_true, reduceCtorEq, Nat.zero_add, Nat.add_zero, List.append_nil, Nat.reduceAdd, Nat.reduceSub, Nat.reduceMul, Nat.reduceEqDiff, Nat.reduceLT, Nat.succ_ne_self, Bool.and_self, w_cmd]
    have q4 := lay_meets b3 h.cmd 2 (by omega) h3.1 (by decide) (by have := h3.2; simpa using this) (by have := h3.2; omega)
    obtain ⟨b4, e4⟩ : ∃ b, b = b3 ++ digs 2 h.cmd := ⟨_, rfl⟩
    rw [← e4] at q4; simp only [Int.cast_ofNat_Int] at q4
    have l4 : b4.length = 14 := by rw [e4, List.length_append, digs_length]; omega
    refine call_go TO 100 q4 Tryd.func45 (by decide +kernel) rfl rfl rfl ?_
    simp only [pureOpC, unc, absRun, absOps, absOp, evO, constSV, ungd, gdP, gdPs, setD, convV, T_ty, T_size, tTy, tSize, fieldOf, faddrV, pureOp, memOp, loadV, notIn, known, cellAt, blkAt, fnd, upd, del, Data.len, Data.esz, ownN, nodup, bares, bare, bareD, guardIs, callP, callS, argS, mAs, mA, mA0, mB0, lowD, allNotIn, nm, impN, impB, impT, packS, delL, Op.operands, List.getD, List.getElem?_cons_zero, List.getElem?_cons_succ, Option.getD_some, List.set, List.map, List.toList_toArray, true_and, and_self, if_true, if_false, eq_self, ne_eq, not_false_eq_true, reduceCtorEq, Nat.zero_add, Nat.add_zero, List.append_nil, Nat.reduceAdd, Nat.reduceSub, Nat.reduceMul, Nat.reduceEqDiff, Nat.reduceLT, Nat.succ_ne_self, Bool.and_self, w_credits]
    have q5 := lay_meets b4 h.credits 2 (by omega) h4.1 (by decide) (by have := h4.2; simpa using this) (by have := h4.2; omega)
    obtain ⟨b5, e5⟩ : ∃ b, b = b4 ++ digs 2 h.credits := ⟨_, rfl⟩
    rw [← e5] at q5; simp only [Int.cast_ofNat_Int] at q5
    have l5 : b5.length = 16 := by rw [e5, List.length_append, digs_length]; omega
    refine call_go TO 100 q5 Tryd.func45 (by decide +kernel) rfl rfl rfl ?_
    simp only [pureOpC, unc, absRun, absOps, absOp, evO, constSV, ungd, gdP, gdPs, setD, convV, T_ty, T_size, tTy, tSize, fieldOf, faddrV, pureOp, memOp, loadV, notIn, known, cellAt, blkAt, fnd, upd, del, Data.len, Data.esz, ownN, nodup, bares, bare, bareD, guardIs, callP, callS, argS, mAs, mA, mA0, mB0, lowD, allNotIn, nm, impN, impB, impT, packS, delL, Op.operands, List.getD, List.getElem?_cons_zero, List.getElem?_cons_succ, Option.getD_some, List.set, List.map, List.toList_toArray, true_and, and_self, if_true, if_false, eq_self, ne_eq, not_false_eq_true, reduceCtorEq, Nat.zero_add, Nat.add_zero, List.append_nil, Nat.reduceAdd, Nat.reduceSub, Nat.reduceMul, Nat.reduceEqDiff, Nat.reduceLT, Nat.succ_ne_self, Bool.and_self, w_flags]
    have q6 := lay_meets b5 h.flags 4 (by omega) h5.1 (by decide) (by have := h5.2; simpa using this) (by have := h5.2; omega)
    obtain ⟨b6, e6⟩ : ∃ b, b = b5 ++ digs 4 h.flags := ⟨_, rfl⟩
    rw [← e6] at q6; simp only [Int.cast_ofNat_Int] at q6
    have l6 : b6.length = 20 := by rw [e6, List.length_append, digs_length]; omega
    refine call_go TO 100 q6 Tryd.func45 (by decide +kernel) rfl rfl rfl ?_
    simp only [pureOpC, unc, absRun, absOps, absOp, evO, constSV, ungd, gdP, gdPs, setD, convV, T_ty, T_size, tTy, tSize, fieldOf, faddrV, pureOp, memOp, loadV, notIn, known, cellAt, blkAt, fnd, upd, del, Data.len, Data.esz, ownN, nodup, bares, bare, bareD, guardIs, callP, callS, argS, mAs, mA, mA0, mB0, lowD, allNotIn, nm, impN, impB, impT, packS, delL, Op.operands, List.getD, List.getElem?_cons_zero, List.getElem?_cons_succ, Option.getD_some, List.set, List.map, List.toList_toArray, true_and, and_self, if_true, if_false, eq_self, ne_eq, not_false_eq_true, reduceCtorEq, Nat.zero_add, Nat.add_zero, List.append_nil, Nat.reduceAdd, Nat.reduceSub, Nat.reduceMul, Nat.reduceEqDiff, Nat.reduceLT, Nat.succ_ne_self, Bool.and_self, w_next]
    have q7 := lay_meets b6 h.next 4 (by omega) h6.1 (by decide) (by have := h6.2; simpa using this) (by have := h6.2; omega)
    obtain ⟨b7, e7⟩ : ∃ b, b = b6 ++ digs 4 h.next := ⟨_, rfl⟩
    rw [← e7] at q7; simp only [Int.cast_ofNat_Int] at q7
    have l7 : b7.length = 24 := by rw [e7, List.length_append, digs_length]; omega
    refine call_go TO 100 q7 Tryd.func45 (by decide +kernel) rfl rfl rfl ?_
    simp only [pureOpC, unc, absRun, absOps, absOp, evO, constSV, ungd, gdP, gdPs, setD, T_ty, T_size, tTy, tSize, fieldOf, faddrV, pureOp, memOp, loadV, notIn, cellAt, blkAt, fnd, upd, del, Data.len, Data.esz, ownN, nodup, bares, bare, bareD, guardIs, callP, callS, argS, mAs, mA, mA0, mB0, lowD, allNotIn, nm, impN, impB, impT, packS, delL, Op.operands, List.getD, List.getElem?_cons_zero, List.getElem?_cons_succ, Option.getD_some, List.set, List.map, List.toList_toArray, true_and, and_self, if_true, if_false, eq_self, ne_eq, not_false_eq_true, reduceCtorEq, Nat.zero_add, Nat.add_zero, List.append_nil, Nat.reduceAdd, Nat.reduceSub, Nat.reduceMul, Nat.reduceEqDiff, Nat.reduceLT, Nat.succ_ne_self, Bool.and_self]
    have q8 := lay_meets b7 h.id 8 (by omega) h7.1 (by decide) (by have := h7.2; simpa using this) (by have := h7.2; omega)
    obtain ⟨b8, e8⟩ : ∃ b, b = b7 ++ digs 8 h.id := ⟨_, rfl⟩
    rw [← e8] at q8; simp only [Int.cast_ofNat_Int] at q8
    have l8 : b8.length = 32 := by rw [e8, List.length_append, digs_length]; omega
    refine call_go TO 100 q8 Tryd.func45 (by decide +kernel) rfl rfl rfl ?_
    simp only [pureOpC, unc, absRun, absOps, absOp, evO, constSV, ungd, gdP, gdPs, setD, T_ty, T_size, tTy, tSize, pureOp, memOp, loadV, notIn, takeC, dropC, blkAt, fnd, upd, del, Data.len, Data.esz, ownN, nodup, bares, bare, bareD, guardIs, callP, callS, argS, mAs, mA, mA0, mB0, lowD, allNotIn, nm, impN, impB, impT, packS, delL, Op.operands, List.getD, List.getElem?_cons_zero, List.getElem?_cons_succ, Option.getD_some, List.set, List.map, List.toList_toArray, Option.bind_some, Option.map_some, true_and, and_self, if_true, if_false, eq_self, ne_eq, not_false_eq_true, reduceCtorEq, Nat.zero_add, Nat.add_zero, Nat.le_refl, List.append_nil, Nat.reduceAdd, Nat.reduceSub, Nat.reduceMul, Nat.reduceEqDiff, Bool.and_self]
    refine call_go TO 100 hH Tryd.func18 (by decide +kernel) rfl rfl rfl ?_
    cases hs : hasB h with
    | true =>
      have eA : atV h = h.async := by unfold atV; rw [hs]; rfl
      simp only [pureOpC, unc, absRun, absOps, absOp, evO, constSV, ungd, gdP, gdPs, setD, T_ty, T_size, tTy, tSize, fieldOf, faddrV, pureOp, memOp, loadV, cellAt, blkAt, fnd, ownN, nodup, bares, bare, bare0, guardIs, callP, callS, argS, mAs, mA, mA0, mB0, mAl, allNotIn, impN, impB, impT, packS, delL, Op.operands, List.getD, List.getElem?_cons_zero, List.getElem?_cons_succ, Option.getD_some, List.set, List.map, List.toList_toArray, true_and, and_self, if_true, if_false, eq_self, ne_eq, not_false_eq_true, reduceCtorEq, Nat.zero_add, List.append_nil, Nat.reduceAdd, Nat.reduceSub, Nat.reduceEqDiff, Nat.reduceLT, Nat.succ_ne_self, Bool.and_self]
      have q9 := lay_meets b8 h.async 8 (by omega) h8.1 (by decide) (by have := h8.2; simpa using this) (by have := h8.2; omega)
      obtain ⟨b9, e9⟩ : ∃ b, b = b8 ++ digs 8 h.async := ⟨_, rfl⟩
      rw [← e9] at q9; simp only [Int.cast_ofNat_Int] at q9
      have l9 : b9.length = 40 := by rw [e9, List.length_append, digs_length]; omega
      refine call_go TO 100 q9 Tryd.func45 (by decide +kernel) rfl rfl rfl ?_
      simp only [pureOpC, unc, absRun, absOps, absOp, evO, constSV, ungd, gdP, gdPs, setD, T_ty, T_size, tTy, tSize, fieldOf, faddrV, pureOp, memOp, loadV, notIn, cellAt, blkAt, fnd, upd, del, Data.len, Data.esz, ownN, nodup, bares, bare, bareD, guardIs, callP, callS, argS, mAs, mA, mA0, mB0, lowD, allNotIn, nm, impN, impB, impT, packS, delL, Op.operands, List.getD, List.getElem?_cons_zero, List.getElem?_cons_succ, Option.getD_some, List.set, List.map, List.toList_toArray, true_and, and_self, if_true, if_false, eq_self, ne_eq, not_false_eq_true, reduceCtorEq, Nat.zero_add, Nat.add_zero, List.append_nil, Nat.reduceAdd, Nat.reduceSub, Nat.reduceMul, Nat.reduceEqDiff, Nat.reduceLT, Nat.succ_ne_self, Bool.and_self]
      have q10 := lay_meets b9 h.session 8 (by omega) h10.1 (by decide) (by have := h10.2; simpa using this) (by have := h10.2; omega)
      obtain ⟨b10, e10⟩ : ∃ b, b = b9 ++ digs 8 h.session := ⟨_, rfl⟩
      rw [← e10] at q10; simp only [Int.cast_ofNat_Int] at q10
      have l10 : b10.length = 48 := by rw [e10, List.length_append, digs_length]; omega
      refine call_go TO 100 q10 Tryd.func45 (by decide +kernel) rfl rfl rfl ?_
      simp only [pureOpC, unc, absRun, absOps, absOp, evO, constSV, ungd, gdP, gdPs, setD, notIn, blkAt, fnd, upd, del, Data.len, Data.esz, ownN, nodup, bares, bare, bareD, guardIs, callP, callS, argS, mAs, mA, mA0, mB0, lowD, allNotIn, nm, impN, impB, impT, packS, delL, Op.operands, List.getD, List.getElem?_cons_zero, List.getElem?_cons_succ, Option.getD_some, List.set, List.map, List.toList_toArray, true_and, and_self, if_true, if_false, eq_self, Nat.zero_add, Nat.add_zero, List.append_nil, Nat.reduceAdd, Nat.reduceMul, Nat.reduceEqDiff, Bool.and_self]
      refine loop_up (fun x : Nat × Nat × Nat × List Int × Nat => x.1 ≤ 16 ∧ (x.2.1 = 10992 ∨ x.2.1 = 73) ∧ x.2.2.2.1 = b10 ++ h.sig.take x.1) (fun x => ⟨tl 75 0 [(1, .ptr 1 2 0), (4, .sl x.2.1 x.2.2.1 0 1 0 x.2.2.2.1.length), (5, .int .i64 x.1)], [(1, 2, .cells [.int .u16 h.charge, .int .u32 h.status, .int .u16 h.cmd, .int .u16 h.credits, .int .u32 h.flags, .int .u32 h.next, .int .u64 h.id, .int .u64 h.async, .int .u32 h.tree, .int .u64 h.session, .arr .u8 16 h.sig]), (x.2.1, x.2.2.1, .vec (.ints .u8 x.2.2.2.1))], ⟨x.2.2.2.2, [], 0⟩⟩) (fun x => 16 - x.1) (0, 10992, 15, b10, 17) ⟨Nat.zero_le _, .inl rfl, by simp⟩ ⟨rfl, ?_, ?_⟩ ?_
      · simp [LeT, tl]
      · intro m x hx; simpa [fnd] using hx
      · rintro ⟨i, q, gg, m, g⟩ ⟨hi, hq, hm⟩ ih
        simp only at hi hq hm
        have hml : m.length = 48 + i := by rw [hm, List.length_append, List.length_take, l10, h11]; omega
        refine absRun_ok TO 100 _ _ ?_
        rcases hq with rfl | rfl
        all_goals
          simp only [List.take_succ_cons, List.take_zero, List.drop_zero, pureOpC, unc, fitT, absRun, absOps, absOp, evO, constSV, ungd, gdP, gdPs, setD, binI, binV, ptrE, T_ty, T_size, T_bytes, T_zero, tTy, tSize, tBytes, tZero, fieldOf, faddrV, iaddrV, pureOp, memOp, loadV, newV, notIn, dataOf, appD, isSrc, elemsOf, intsOf, zI, arrAt, blkAt, fnd, upd, del, mv, Data.len, Data.esz, Data.sub, Lim.add, retP, resV, retQ, rAs, rA, rA0, ownN, nodup, bares, bare, bare0, bareD, Op.operands, Call.operands, List.getD, List.getElem?_cons_zero, List.getElem?_cons_succ, Option.getD_some, List.set, List.map, List.toList_toArray, Option.map_some, exitTo, true_and, and_true, and_self, if_true, if_false, ite_self, eq_self, ne_eq, not_false_eq_true, reduceCtorEq, Nat.zero_add, Int.toNat_natCast, Int.cast_ofNat_Int, Nat.le_refl, List.append_toArray, List.cons_append, List.nil_append, List.length_cons, List.length_nil, Nat.reduceAdd, Nat.reduceSub, Nat.reduceEqDiff, Nat.reduceLeDiff, Nat.succ_ne_self, beq_self_eq_true, List.replicate_succ, List.replicate_zero, Bool.and_self, Data.ints.injEq, tl]
          split
          · rename_i hc
            have hik : i < 16 := by have := of_decide_eq_true hc; omega
            rw [w64 (by omega) (by omega)]
            repeat refine ⟨by omega, ?_⟩
            refine ih (i + 1, 73, g + 1 + 1, m ++ [h.sig[i]?.getD 0], _) _ ⟨hik, .inr rfl, ?_⟩ (by simp only; omega) rfl ?_ ?_
            · have hl : i < h.sig.length := by omega
              rw [hm, List.take_add_one, List.getElem?_eq_getElem hl, List.append_assoc]; rfl
            · simp [LeT, tl]
            · intro n x hx
              simp only [fnd] at hx ⊢
              repeat' split at hx
              all_goals first | (rename_i hh; subst hh; simpa using hx) | cases hx
          · rename_i hc
            have hik : i = 16 := by
              have : ¬ ((i : Int) < 16) := fun h => hc (decide_eq_true h)
              omega
            subst hik
            have ht : h.sig.take 16 = h.sig := by rw [← h11]; exact List.take_length
            have hd : ([254, 83, 77, 66] : List Int) = digs 4 1112364030 := by decide
            have hm2 : m = headL h := by
              rw [hm, ht, e10, e9, e8, e7, e6, e5, e4, e3, e2, e1, hd]
              unfold headL
              rw [eA]
              try simp only [List.append_assoc]
            exact ⟨hm2, by rw [hm2]⟩
    | false =>
      have eA : digs 8 (atV h) = digs 4 0 ++ digs 4 h.tree := by unfold atV; rw [hs]; exact digs_split h.tree h9.1
      simp only [pureOpC, unc, absRun, absOps, absOp, evO, constSV, ungd, gdP, gdPs, setD, T_ty, T_size, tTy, tSize, fieldOf, faddrV, pureOp, memOp, loadV, cellAt, blkAt, fnd, ownN, nodup, bares, bare, bare0, guardIs, callP, callS, argS, mAs, mA, mA0, mB0, mAl, allNotIn, impN, impB, impT, packS, delL, Op.operands, List.getD, List.getElem?_cons_zero, List.getElem?_cons_succ, Option.getD_some, List.set, List.map, List.toList_toArray, true_and, and_self, if_true, if_false, eq_self, ne_eq, not_false_eq_true, reduceCtorEq, Bool.false_eq_true, Nat.zero_add, List.append_nil, Nat.reduceAdd, Nat.reduceSub, Nat.reduceEqDiff, Nat.reduceLT, Nat.succ_ne_self, Bool.and_self]
      have q11 := lay_meets b8 0 4 (by omega) (by omega) (by decide) (by decide) (by decide)
      obtain ⟨b11, e11⟩ : ∃ b, b = b8 ++ digs 4 0 := ⟨_, rfl⟩
      rw [← e11] at q11; simp only [Int.cast_ofNat_Int] at q11
      have l11 : b11.length = 36 := by rw [e11, List.length_append, digs_length]; omega
      refine call_go TO 100 q11 Tryd.func45 (by decide +kernel) rfl rfl rfl ?_
      simp only [pureOpC, unc, absRun, absOps, absOp, evO, constSV, ungd, gdP, gdPs, setD, convV, T_ty, T_size, tTy, tSize, fieldOf, faddrV, pureOp, memOp, loadV, notIn, known, cellAt, blkAt, fnd, upd, del, Data.len, Data.esz, ownN, nodup, bares, bare, bareD, guardIs, callP, callS, argS, mAs, mA, mA0, mB0, lowD, allNotIn, nm, impN, impB, impT, packS, delL, Op.operands, List.getD, List.getElem?_cons_zero, List.getElem?_cons_succ, Option.getD_some, List.set, List.map, List.toList_toArray, true_and, and_self, if_true, if_false, eq_self, ne_eq, not_false_eq_true, reduceCtorEq, Nat.zero_add, Nat.add_zero, List.append_nil, Nat.reduceAdd, Nat.reduceSub, Nat.reduceMul, Nat.reduceEqDiff, Nat.reduceLT, Nat.succ_ne_self, Bool.and_self, w_tree]
      have q12 := lay_meets b11 h.tree 4 (by omega) h9.1 (by decide) (by have := h9.2; simpa using this) (by have := h9.2; omega)
      obtain ⟨b12, e12⟩ : ∃ b, b = b11 ++ digs 4 h.tree := ⟨_, rfl⟩
      rw [← e12] at q12; simp only [Int.cast_ofNat_Int] at q12
      have l12 : b12.length = 40 := by rw [e12, List.length_append, digs_length]; omega
      refine call_go TO 100 q12 Tryd.func45 (by decide +kernel) rfl rfl rfl ?_
      simp only [pureOpC, unc, absRun, absOps, absOp, evO, constSV, ungd, gdP, gdPs, setD, T_ty, T_size, tTy, tSize, fieldOf, faddrV, pureOp, memOp, loadV, notIn, cellAt, blkAt, fnd, upd, del, Data.len, Data.esz, ownN, nodup, bares, bare, bareD, guardIs, callP, callS, argS, mAs, mA, mA0, mB0, lowD, allNotIn, nm, impN, impB, impT, packS, delL, Op.operands, List.getD, List.getElem?_cons_zero, List.getElem?_cons_succ, Option.getD_some, List.set, List.map, List.toList_toArray, true_and, and_self, if_true, if_false, eq_self, ne_eq, not_false_eq_true, reduceCtorEq, Nat.zero_add, Nat.add_zero, List.append_nil, Nat.reduceAdd, Nat.reduceSub, Nat.reduceMul, Nat.reduceEqDiff, Nat.reduceLT, Nat.succ_ne_self, Bool.and_self]
      have q10 := lay_meets b12 h.session 8 (by omega) h10.1 (by decide) (by have := h10.2; simpa using this) (by have := h10.2; omega)
      obtain ⟨b10, e10⟩ : ∃ b, b = b12 ++ digs 8 h.session := ⟨_, rfl⟩
      rw [← e10] at q10; simp only [Int.cast_ofNat_Int] at q10
      have l10 : b10.length = 48 := by rw [e10, List.length_append, digs_length]; omega
      refine call_go TO 100 q10 Tryd.func45 (by decide +kernel) rfl rfl rfl ?_
      simp only [pureOpC, unc, absRun, absOps, absOp, evO, constSV, ungd, gdP, gdPs, setD, notIn, blkAt, fnd, upd, del, Data.len, Data.esz, ownN, nodup, bares, bare, bareD, guardIs, callP, callS, argS, mAs, mA, mA0, mB0, lowD, allNotIn, nm, impN, impB, impT, packS, delL, Op.operands, List.getD, List.getElem?_cons_zero, List.getElem?_cons_succ, Option.getD_some, List.set, List.map, List.toList_toArray, true_and, and_self, if_true, if_false, eq_self, Nat.zero_add, Nat.add_zero, List.append_nil, Nat.reduceAdd, Nat.reduceMul, Nat.reduceEqDiff, Bool.and_self]
      refine loop_up (fun x : Nat × Nat × Nat × List Int × Nat => x.1 ≤ 16 ∧ (x.2.1 = 10992 ∨ x.2.1 = 73) ∧ x.2.2.2.1 = b10 ++ h.sig.take x.1) (fun x => ⟨tl 75 0 [(1, .ptr 1 2 0), (4, .sl x.2.1 x.2.2.1 0 1 0 x.2.2.2.1.length), (5, .int .i64 x.1)], [(1, 2, .cells [.int .u16 h.charge, .int .u32 h.status, .int .u16 h.cmd, .int .u16 h.credits, .int .u32 h.flags, .int .u32 h.next, .int .u64 h.id, .int .u64 h.async, .int .u32 h.tree, .int .u64 h.session, .arr .u8 16 h.sig]), (x.2.1, x.2.2.1, .vec (.ints .u8 x.2.2.2.1))], ⟨x.2.2.2.2, [], 0⟩⟩) (fun x => 16 - x.1) (0, 10992, 16, b10, 18) ⟨Nat.zero_le _, .inl rfl, by simp⟩ ⟨rfl, ?_, ?_⟩ ?_
      · simp [LeT, tl]
      · intro m x hx; simpa [fnd] using hx
      · rintro ⟨i, q, gg, m, g⟩ ⟨hi, hq, hm⟩ ih
        simp only at hi hq hm
        have hml : m.length = 48 + i := by rw [hm, List.length_append, List.length_take, l10, h11]; omega
        refine absRun_ok TO 100 _ _ ?_
        rcases hq with rfl | rfl
        all_goals
          simp only [List.take_succ_cons, List.take_zero, List.drop_zero, pureOpC, unc, fitT, absRun, absOps, absOp, evO, constSV, ungd, gdP, gdPs, setD, binI, binV, ptrE, T_ty, T_size, T_bytes, T_zero, tTy, tSize, tBytes, tZero, fieldOf, faddrV, iaddrV, pureOp, memOp, loadV, newV, notIn, dataOf, appD, isSrc, elemsOf, intsOf, zI, arrAt, blkAt, fnd, upd, del, mv, Data.len, Data.esz, Data.sub, Lim.add, retP, resV, retQ, rAs, rA, rA0, ownN, nodup, bares, bare, bare0, bareD, Op.operands, Call.operands, List.getD, List.getElem?_cons_zero, List.getElem?_cons_succ, Option.getD_some, List.set, List.map, List.toList_toArray, Option.map_some, exitTo, true_and, and_true, and_self, if_true, if_false, ite_self, eq_self, ne_eq, not_false_eq_true, reduceCtorEq, Nat.zero_add, Int.toNat_natCast, Int.cast_ofNat_Int, Nat.le_refl, List.append_toArray, List.cons_append, List.nil_append, List.length_cons, List.length_nil, Nat.reduceAdd, Nat.reduceSub, Nat.reduceEqDiff, Nat.reduceLeDiff, Nat.succ_ne_self, beq_self_eq_true, List.replicate_succ, List.replicate_zero, Bool.and_self, Data.ints.injEq, tl]
          split
          · rename_i hc
            have hik : i < 16 := by have := of_decide_eq_true hc; omega
            rw [w64 (by omega) (by omega)]
            repeat refine ⟨by omega, ?_⟩
            refine ih (i + 1, 73, g + 1 + 1, m ++ [h.sig[i]?.getD 0], _) _ ⟨hik, .inr rfl, ?_⟩ (by simp only; omega) rfl ?_ ?_
            · have hl : i < h.sig.length := by omega
              rw [hm, List.take_add_one, List.getElem?_eq_getElem hl, List.append_assoc]; rfl
            · simp [LeT, tl]
            · intro n x hx
              simp only [fnd] at hx ⊢
              repeat' split at hx
              all_goals first | (rename_i hh; subst hh; simpa using hx) | cases hx
          · rename_i hc
            have hik : i = 16 := by
              have : ¬ ((i : Int) < 16) := fun h => hc (decide_eq_true h)
              omega
            subst hik
            have ht : h.sig.take 16 = h.sig := by rw [← h11]; exact List.take_length
            have hd : ([254, 83, 77, 66] : List Int) = digs 4 1112364030 := by decide
            have hm2 : m = headL h := by
              rw [hm, ht, e10, e12, e11, e8, e7, e6, e5, e4, e3, e2, e1, hd]
              unfold headL
              rw [eA]
              try simp only [List.append_assoc]
            exact ⟨hm2, by rw [hm2]⟩

theorem or_at (h : Hd) (hk : h.ok) (c : mayB h = true) : bitsI .or .u64 h.async (shlI .u64 h.tree 32) = atV h := by
  obtain ⟨h1, h2, h3, h4, h5, h6, h7, h8, h9, h10, h11, h12⟩ := hk
  have e : ∀ x y : Int, bitsI .or .u64 x y = IntKind.u64.wrap ((BitVec.ofInt 64 x ||| BitVec.ofInt 64 y).toNat : Int) := fun _ _ => rfl
  have es : shlI .u64 h.tree 32 = IntKind.u64.wrap (h.tree * 4294967296) := rfl
  simp only [mayB, Bool.and_eq_true, decide_eq_true_eq] at c
  obtain ⟨_, c⟩ := c
  unfold atV
  rw [es, wu64 (by omega) (by omega), e]
  cases hs : hasB h with
  | true =>
    rw [hs] at c
    have ht : h.tree = 0 := by simpa using c
    rw [ht]
    have : (BitVec.ofInt 64 h.async ||| BitVec.ofInt 64 (0 * 4294967296)).toNat = h.async.toNat := by
      rw [show BitVec.ofInt 64 (0 * 4294967296) = 0#64 from rfl, BitVec.or_zero, BitVec.toNat_ofInt]
      omega
    rw [this, wu64 (by omega) (by omega)]
    simp only [if_true]
    omega
  | false =>
    rw [hs] at c
    have ht : h.async = 0 := by simpa using c
    rw [ht]
    have : (BitVec.ofInt 64 0 ||| BitVec.ofInt 64 (h.tree * 4294967296)).toNat = (h.tree * 4294967296).toNat := by
      rw [show BitVec.ofInt 64 0 = 0#64 from rfl, BitVec.zero_or, BitVec.toNat_ofInt]
      omega
    rw [this, wu64 (by omega) (by omega)]
    simp only [Bool.false_eq_true, if_false]
    omega

theorem atV_lt (h : Hd) (hk : h.ok) : 0 ≤ atV h ∧ atV h < 18446744073709551616 := by
  obtain ⟨h1, h2, h3, h4, h5, h6, h7, h8, h9, h10, h11, h12⟩ := hk
  unfold atV
  split <;> omega

end Go.Proofs.YtdhnjmepgafeiaaDoor.Abs
