/- What chain.Split answers. -/
import Derived.Test.YtdhnjmepgafeiaaDoorC2
set_option linter.unusedVariables false
set_option linter.unusedSimpArgs false
set_option maxRecDepth 100000
namespace Go.Proofs.YtdhnjmepgafeiaaDoor.Abs
open Go Go.Proofs

theorem and_mod4 (f : Int) (h0 : 0 ≤ f) (h1 : f < 4294967296) : bitsI .and .u32 f 4 = 4 * (f / 4 % 2) := by
  obtain ⟨n, rfl⟩ : ∃ n : Nat, f = n := ⟨f.toNat, by omega⟩
  have e2 : bitsI .and .u32 (n : Int) 4 = IntKind.u32.wrap ((BitVec.ofInt 32 (n : Int) &&& BitVec.ofInt 32 4).toNat : Int) := rfl
  have t : (BitVec.ofInt 32 (n : Int)).toNat = n := by rw [BitVec.toNat_ofInt]; omega
  have a7 : n &&& 7 = n % 8 := Nat.and_two_pow_sub_one_eq_mod n 3
  have a4 : n &&& 4 = n % 8 &&& 4 := by rw [← a7, Nat.and_assoc]; rfl
  have a4' : n &&& 4 = 4 * (n / 4 % 2) := by
    rw [a4]
    have h8 : n % 8 = 0 ∨ n % 8 = 1 ∨ n % 8 = 2 ∨ n % 8 = 3 ∨ n % 8 = 4 ∨ n % 8 = 5 ∨ n % 8 = 6 ∨ n % 8 = 7 := by omega
    rcases h8 with h | h | h | h | h | h | h | h <;> rw [h]
    · show 0 = _; omega
    · show 0 = _; omega
    · show 0 = _; omega
    · show 0 = _; omega
    · show 4 = _; omega
    · show 4 = _; omega
    · show 4 = _; omega
    · show 4 = _; omega
  rw [e2, BitVec.toNat_and, t, show (BitVec.ofInt 32 4).toNat = 4 from rfl, a4', IntKind.wrap_u32]
  omega

theorem next_lt (r : List Int) (hB : Bytes r) : 0 ≤ (gotH r 0).next ∧ (gotH r 0).next < 4294967296 := by
  unfold gotH
  split
  · exact getV_lt r (0 + 20) 4 hB
  · decide

theorem flags_lt (r : List Int) (hB : Bytes r) : 0 ≤ (gotH r 0).flags ∧ (gotH r 0).flags < 4294967296 := by
  unfold gotH
  split
  · exact getV_lt r (0 + 16) 4 hB
  · decide

theorem split_step (k : Nat) (r : List Int) (l : List (List Int)) : splitF (k + 1) r l =
    if gotE r 0 ≠ 0 then ([], gotE r 0)
    else if (gotH r 0).next % 8 ≠ 0 ∨ (0 < (gotH r 0).next ∧ (gotH r 0).next < 64) then ([], 5)
    else if (r.length : Int) < (gotH r 0).next then ([], 4)
    else if l.length = 8 then ([], 3)
    else if l.length = 0 ∧ relB (gotH r 0) = true then ([], 5)
    else if (gotH r 0).next = 0 then (l ++ [r], 0)
    else splitF k (r.drop (gotH r 0).next.toNat) (l ++ [r.take (gotH r 0).next.toNat]) := rfl

set_option maxHeartbeats 8000000 in
theorem Split_meets (b : List Int) (hb : b.length ≤ 140737488351232) (hB : Bytes b) : Meets Tryd.prog 15 [.v (.view false (.ints .u8 b))] [.own (.rows true (splitL b)), .v (.int .i64 (splitE b))] := by
  refine meets_go TO 100 Tryd.func15 rfl (fun X => ?_)
  simp only [Tryd.ntmps15, Tryd.results15, pureOpC, svs, blks, AV.sv, absRun, absOps, absOp, evO, constSV, ungd, gdP, gdPs, setD, Op.operands, List.getD, List.getElem?_cons_zero, List.getElem?_cons_succ, Option.getD_some, List.set, List.toList_toArray, true_and, and_self, Nat.zero_add, List.cons_append, List.nil_append, List.length_cons, List.length_nil, Nat.reduceAdd, Nat.reduceSub, List.replicate_succ, List.replicate_zero]
  refine nil_go 4 64 (.rows true []) rfl ⟨by simp, rfl⟩ ?_
  simp only [upd, Data.esz, List.set, Nat.reduceAdd]
  refine loop_up (fun x : List Int × List (List Int) × Nat × Nat => x.1.length ≤ b.length ∧ Bytes x.1 ∧ x.2.1.length ≤ 8 ∧ splitF (9 - x.2.1.length) x.1 x.2.1 = splitF 9 b []) (fun x => ⟨tl 72 0 [(4, .sl 64 x.2.2.1 0 1 0 x.2.1.length), (5, .view false (.ints .u8 x.1))], [(64, x.2.2.1, .vec (.rows true x.2.1))], ⟨x.2.2.2, [], 0⟩⟩) (fun x => 9 - x.2.1.length) (b, [], 5, 7) ⟨Nat.le_refl _, hB, Nat.zero_le _, rfl⟩ ⟨rfl, ?_, ?_⟩ ?_
  · simp [LeT, tl]
  · intro m x hx; simpa [fnd] using hx
  · rintro ⟨r, l, g, c⟩ ⟨hr, hrB, hl, hS⟩ ih
    simp only at hr hrB hl hS
    have hG := hGet07_meets r 0 (by omega) hrB (by decide)
    simp only [Hd.sv] at hG
    refine absRun_ok TO 100 _ _ ?_
    simp only [pureOpC, absRun, absOps, absOp, evO, ungd, gdP, gdPs, setD, pureOp, memOp, Op.operands, List.getD, List.getElem?_cons_zero, List.getElem?_cons_succ, Option.getD_some, List.set, List.toList_toArray, true_and, and_self, List.cons_append, List.nil_append, Nat.reduceAdd, Nat.reduceSub, List.replicate_succ, List.replicate_zero, tl]
    refine call_go TO 100 hG Tryd.func27 (by decide +kernel) rfl rfl rfl ?_
    simp only [List.drop_zero, pureOpC, cntC, unc, fitT, absRun, absOps, absOp, evO, constSV, ungd, gdP, gdPs, setD, binI, binV, ptrE, convV, T_ty, T_size, T_bytes, T_zero, tTy, tSize, tBytes, tZero, fieldOf, faddrV, extractV, lowI, highI, maxP, sliceV, pickV, pureOp, guardOf, memOp, lenV, loadV, newV, notIn, dataOf, isSrc, scal, elemsOf, rowsOf, rowOf, zI, okC, known, cellAt, arrAt, takeC, dropC, blkAt, fnd, upd, Data.len, Data.esz, Data.sub, Lim.add, retP, resV, retQ, rAs, rA, rA0, ownN, nodup, bares, bare, bare0, bareL, bareD, guardIs, callP, callS, argS, mAs, mA, mA0, mB0, lowD, allNotIn, impN, impB, impT, packS, delL, Op.operands, Call.operands, List.getD, List.getElem?_cons_zero, List.getElem?_cons_succ, Option.getD_some, List.set, List.map, List.all, List.toList_toArray, List.getElem?_toArray, Option.bind_some, Option.map_some, Option.map_none, Option.isSome, true_and, and_true, and_self, implies_true, imp_self, if_true, if_false, ite_self, eq_self, ne_eq, not_false_eq_true, reduceCtorEq, List.take_length, Nat.zero_add, Nat.add_zero, Int.sub_zero, Int.toNat_natCast, Nat.le_refl, Int.le_refl, Int.toNat_zero, Bool.cond_true_left, Bool.cond_false_right, Option.toArray_some, Option.toArray_none, List.append_toArray, List.cons_append, List.nil_append, List.append_nil, List.length_cons, List.length_nil, Nat.reduceAdd, Nat.reduceSub, Nat.reduceEqDiff, Nat.reduceLeDiff, Nat.reduceLT, Nat.succ_ne_self, List.replicate_succ, List.replicate_zero, Bool.and_self, Int.reduceEq, gt_iff_lt]
    have hfin : ∀ o e, splitF (9 - l.length) r l = (o, e) → splitL b = o ∧ splitE b = e := by
      intro o e h
      unfold splitL splitE
      rw [← hS, h]; exact ⟨rfl, rfl⟩
    obtain ⟨k, hk⟩ : ∃ k, 9 - l.length = k + 1 := ⟨8 - l.length, by omega⟩
    rw [hk, split_step] at hfin hS
    obtain ⟨n0, n1⟩ := next_lt r hrB
    obtain ⟨f0, f1⟩ := flags_lt r hrB
    have hfl := and_mod4 (gotH r 0).flags f0 f1
    have hrl : relB (gotH r 0) = ((gotH r 0).flags / 4 % 2 == 1) := rfl
    obtain ⟨N, hN⟩ : ∃ N : Nat, (gotH r 0).next = N := ⟨(gotH r 0).next.toNat, by omega⟩
    rw [hN] at n0 n1 hfin hS
    have wN : IntKind.i64.wrap (N : Int) = N := w64 (by omega) (by omega)
    have hrem : remI (N : Int) 8 = (N : Int) % 8 := by unfold remI; rw [Int.tmod_eq_emod_of_nonneg (by omega)]
    rw [hN, wN, hrem, hfl]
    by_cases c1 : gotE r 0 = 0
    rotate_left
    · rw [if_pos c1] at hfin
      obtain ⟨s1, s2⟩ := hfin _ _ rfl
      rw [if_pos (by simpa using c1), s1, s2]
      exact ⟨rfl, rfl⟩
    rw [if_neg (by simpa using c1)] at hfin hS ⊢
    by_cases c2 : (N : Int) % 8 ≠ 0 ∨ (0 < (N : Int) ∧ (N : Int) < 64)
    · rw [if_pos c2] at hfin
      obtain ⟨s1, s2⟩ := hfin _ _ rfl
      rw [if_pos (by simpa using c2), s1, s2]
      exact ⟨rfl, rfl⟩
    rw [if_neg c2] at hfin hS
    rw [if_neg (by simpa using c2)]
    by_cases c3 : (r.length : Int) < (N : Int)
    · rw [if_pos c3] at hfin
      obtain ⟨s1, s2⟩ := hfin _ _ rfl
      rw [if_pos (decide_eq_true c3), s1, s2]
      exact ⟨rfl, rfl⟩
    rw [if_neg c3] at hfin hS
    rw [if_neg (by simpa using c3)]
    by_cases c4 : l.length = 8
    · rw [if_pos c4] at hfin
      obtain ⟨s1, s2⟩ := hfin _ _ rfl
      rw [if_pos (by simp; omega), s1, s2]
      exact ⟨rfl, rfl⟩
    rw [if_neg c4] at hfin hS
    rw [if_neg (by simp; omega)]
    have c5e : ((l.length : Int) == 0 && 4 * ((gotH r 0).flags / 4 % 2) != 0) = decide (l.length = 0 ∧ relB (gotH r 0) = true) := by
      rw [Bool.eq_iff_iff, hrl]
      simp only [Bool.and_eq_true, beq_iff_eq, bne_iff_ne, ne_eq, decide_eq_true_eq]
      omega
    rw [c5e]
    by_cases c5 : l.length = 0 ∧ relB (gotH r 0) = true
    · rw [if_pos c5] at hfin
      obtain ⟨s1, s2⟩ := hfin _ _ rfl
      rw [if_pos (by simpa using c5), s1, s2]
      exact ⟨rfl, rfl⟩
    rw [if_neg c5] at hfin hS
    rw [if_neg (by simpa using c5)]
    by_cases c6 : (N : Int) = 0
    · rw [if_pos c6] at hfin
      obtain ⟨s1, s2⟩ := hfin _ _ rfl
      rw [if_pos (by simpa using c6), s1, s2]
      refine ⟨by omega, by omega, ?_⟩
      refine rows_ops 63 62 ⟨⟨rfl, rfl, by decide, by simp⟩, HOps_go TO 100 ?_⟩
      simp only [List.take_succ_cons, List.take_zero, List.drop_zero, pureOpC, unc, fitT, absRun, absOps, absOp, evO, constSV, ungd, gdP, gdPs, setD, binI, binV, ptrE, T_ty, T_size, T_bytes, tTy, tSize, tBytes, fieldOf, faddrV, lowI, highI, maxP, sliceV, pureOp, memOp, loadV, notIn, dataOf, appD, isSrc, cellAt, blkAt, fnd, upd, del, mv, Data.len, Data.esz, Data.sub, Lim.add, retP, resV, retQ, rAs, rA, rA0, ownN, nodup, bares, bare, bare0, bareD, Op.operands, Call.operands, List.getD, List.getElem?_cons_zero, List.getElem?_cons_succ, Option.getD_some, List.set, List.map, List.toList_toArray, Option.map_some, Option.map_none, exitTo, true_and, and_true, and_self, if_true, if_false, eq_self, ne_eq, not_false_eq_true, reduceCtorEq, Bool.false_eq_true, List.take_length, Nat.zero_add, Int.toNat_natCast, Nat.le_refl, Int.le_refl, Option.toArray_some, Option.toArray_none, List.append_toArray, List.cons_append, List.nil_append, List.append_nil, List.length_cons, List.length_nil, Nat.reduceSub, Nat.reduceEqDiff, Nat.reduceBEq, Nat.reduceLeDiff, Nat.reduceLT, Nat.succ_ne_self, beq_self_eq_true, Bool.and_true, Bool.and_self, Bool.and_false, Bool.or_false, Int.reduceLT, decide_true, decide_false, c6]
      exact ⟨by omega, by omega⟩
    · rw [if_neg c6] at hS
      rw [if_neg (by simpa using c6)]
      simp only [Int.toNat_natCast] at hS ⊢
      have hlt : (r.take N).length = N := by rw [List.length_take]; omega
      refine ⟨by omega, by omega, ?_⟩
      refine rows_ops 63 62 ⟨⟨rfl, rfl, by decide, by simp⟩, HOps_go TO 100 ?_⟩
      have hsub : ((r.length : Int) - (N : Int)).toNat = r.length - N := by omega
      have htk : (r.drop N).take (r.length - N) = r.drop N := by rw [List.take_of_length_le]; rw [List.length_drop]; exact Nat.le_refl _
      have c6' : ((N : Int) == 0) = false := by simpa using c6
      have htt : (r.take N).take N = r.take N := by rw [List.take_take, Nat.min_self]
      simp only [List.take_succ_cons, List.take_zero, List.drop_zero, pureOpC, unc, fitT, absRun, absOps, absOp, evO, constSV, ungd, gdP, gdPs, setD, binI, binV, ptrE, T_ty, T_size, T_bytes, tTy, tSize, tBytes, fieldOf, faddrV, lowI, highI, maxP, sliceV, pureOp, memOp, loadV, notIn, dataOf, appD, isSrc, cellAt, blkAt, fnd, upd, del, mv, Data.len, Data.esz, Data.sub, Lim.add, retP, resV, retQ, rAs, rA, rA0, ownN, nodup, bares, bare, bare0, bareD, Op.operands, Call.operands, List.getD, List.getElem?_cons_zero, List.getElem?_cons_succ, Option.getD_some, List.set, List.map, List.toList_toArray, Option.map_some, Option.map_none, exitTo, true_and, and_true, and_self, if_true, if_false, eq_self, ne_eq, not_false_eq_true, reduceCtorEq, Bool.false_eq_true, Nat.zero_add, Int.toNat_natCast, Nat.le_refl, Int.le_refl, Option.toArray_some, Option.toArray_none, List.append_toArray, List.cons_append, List.nil_append, List.append_nil, List.length_cons, List.length_nil, Nat.reduceSub, Nat.reduceEqDiff, Nat.reduceBEq, Nat.reduceLeDiff, Nat.reduceLT, Nat.succ_ne_self, beq_self_eq_true, Bool.and_self, hlt, hsub, htk, c6', htt, Int.toNat_natCast]
      refine ⟨by omega, by omega, ?_⟩
      refine ih (r.drop N, l ++ [r.take N], c + 1 + 1 + 1 + 1 + 1 + 1 + 1 + 1 + 1, _) _ ⟨by simp; omega, hrB.drop N, by simp; omega, ?_⟩ (by simp; omega) rfl ?_ ?_
      · rw [← hS, List.length_append, List.length_singleton, show 9 - (l.length + 1) = k by omega]
      · simp [LeT, tl]
      · intro n x hx
        simp only [fnd] at hx
        split at hx
        · rename_i e; subst e; simpa [fnd] using hx
        · cases hx

end Go.Proofs.YtdhnjmepgafeiaaDoor.Abs
