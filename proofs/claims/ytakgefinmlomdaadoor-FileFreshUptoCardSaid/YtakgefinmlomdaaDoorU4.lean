/- The program's Units and Put. -/
import Derived.Test.YtakgefinmlomdaaDoorU3
set_option linter.unusedVariables false
set_option linter.unusedSimpArgs false
set_option maxRecDepth 100000
namespace Go.Proofs.YtakgefinmlomdaaDoor.Abs
open Go Go.Proofs

def cntU : List Int → Nat
  | [] => 0
  | x :: l => (if x < 65536 then 1 else 2) + cntU l

theorem cntU_len (l : List Int) : cntU l ≤ l.length * 2 := by
  induction l with
  | nil => simp [cntU]
  | cons x l ih => simp only [cntU, List.length_cons]; split <;> omega

def utfN (s : ByteArray) : Nat := if allAt s 0 = true then cntU (letAt s 0) else 0

set_option maxHeartbeats 4000000 in
theorem Units_meets (s : ByteArray) (hs : s.size ≤ 1099511627776) : Meets Tryd.prog 81 [.v (.str s)] [.v (.int .i64 (utfN s)), .v (.int .i64 (utfE s))] := by
  have hV := valid_meets s (by omega)
  rw [validD_eq] at hV
  have hll := letAt_len s s.size 0 (by omega)
  have hcl := cntU_len (letAt s 0)
  refine meets_go TO 100 Tryd.func81 rfl (fun X => ?_)
  simp only [Tryd.ntmps81, Tryd.results81, pureOpC, svs, blks, AV.sv, absRun, absOps, absOp, evO, constSV, ungd, gdP, gdPs, setD, pureOp, memOp, Op.operands, List.getD, List.getElem?_cons_zero, Option.getD_some, List.set, List.toList_toArray, true_and, and_self, Nat.zero_add, List.cons_append, List.nil_append, List.length_cons, List.length_nil, Nat.reduceAdd, Nat.reduceSub, List.replicate_succ, List.replicate_zero]
  refine call_go TO 100 hV Tryd.func89 (by decide +kernel) rfl rfl rfl ?_
  unfold utfN utfE
  cases ha : allAt s 0 with
  | false => simp only [pureOpC, unc, absRun, absOps, absOp, evO, constSV, ungd, gdP, gdPs, setD, unV, pureOp, memOp, retP, resV, retQ, rAs, rA, rA0, ownN, nodup, bares, bare, bare0, guardIs, callP, callS, argS, mAs, mA, mA0, mB0, allNotIn, impN, impB, impT, packS, delL, Op.operands, List.getD, List.getElem?_cons_zero, List.getElem?_cons_succ, Option.getD_some, List.set, List.map, List.toList_toArray, true_and, and_self, if_true, if_false, eq_self, Bool.false_eq_true, Int.cast_ofNat_Int, List.append_nil, Nat.reduceAdd, Bool.not_false, Bool.and_self]; try simp
  | true =>
    simp only [pureOpC, unc, absRun, absOps, absOp, evO, constSV, ungd, gdP, gdPs, setD, unV, pureOp, memOp, retP, resV, retQ, rAs, rA, rA0, ownN, nodup, bares, bare, bare0, guardIs, callP, callS, argS, mAs, mA, mA0, mB0, allNotIn, impN, impB, impT, packS, delL, Op.operands, List.getD, List.getElem?_cons_zero, List.getElem?_cons_succ, Option.getD_some, List.set, List.map, List.toList_toArray, true_and, and_true, and_false, and_self, if_true, if_false, eq_self, Bool.false_eq_true, List.append_nil, Nat.reduceAdd, Bool.not_true, Bool.and_self, Int.reduceEq]
    refine range_ops TO rfl rfl rfl rfl rfl (by simp) (HOps_go TO 100 ?_)
    simp only [absRun, absOps, upd, Lim.add, List.set, Nat.zero_add]
    refine loop_up (fun x : Nat × Nat × Nat × Nat => x.1 ≤ s.size ∧ allAt s x.1 = true ∧ x.2.1 + cntU (letAt s x.1) = cntU (letAt s 0))
      (fun x => ⟨tl 22 0 [(4, .int .i64 x.2.1), (11, .ptr 11 x.2.2.1 0)], [(11, x.2.2.1, .iter s x.1)], ⟨x.2.2.2, [], 0⟩⟩) (fun x => s.size - x.1) (0, 0, 5, 6) ⟨Nat.zero_le _, ha, Nat.zero_add _⟩ ⟨rfl, ?_, ?_⟩ ?_
    · simp [LeT, tl]
    · intro m x hx
      simpa [fnd] using hx
    rintro ⟨p, n, g, c⟩ ⟨hp, hap, hn⟩ ih
    simp only at hp hap hn
    refine absRun_ok TO 100 _ _ ?_
    simp only [pureOpC, absRun, absOps, absOp, pureOp, memOp, List.cons_append, List.nil_append, Nat.reduceAdd, Nat.reduceSub, List.replicate_succ, List.replicate_zero, tl]
    refine next_ops rfl rfl rfl rfl rfl (fun hps => HOps_go TO 100 ?_) (fun hps => HOps_go TO 100 ?_)
    · have hw := dec_width s p hps
      have hd := dec_lt s p
      rw [allAt_step s p hps, Bool.and_eq_true] at hap
      have hbf : badP s p = false := by simpa using hap.1
      rw [letAt_step s p hps, hbf] at hn
      simp only [cntU, Bool.false_eq_true, if_false] at hn
      generalize Utf8.decode s p = d at *
      have k1 : IntKind.i64.wrap ((n : Int) + 1) = ((n + 1 : Nat) : Int) := by rw [w64 (by omega) (by omega)]; omega
      have k2 : IntKind.i64.wrap (((n + 1 : Nat) : Int) + 1) = ((n + 2 : Nat) : Int) := by rw [w64 (by omega) (by omega)]; omega
      simp only [pureOpC, unc, absRun, absOps, absOp, evO, constSV, ungd, gdP, gdPs, setD, binI, binV, ptrE, extractV, pureOp, upd, retP, resV, retQ, rAs, rA, rA0, ownN, nodup, bares, bare, bare0, Op.operands, List.getD, List.getElem?_cons_zero, List.getElem?_cons_succ, Option.getD_some, List.set, List.map, List.toList_toArray, exitTo, true_and, and_true, and_self, if_true, eq_self, beq_self_eq_true, Bool.and_self, ge_iff_le, k1]
      by_cases h6 : (d.1 : Int) < 65536
      · rw [if_neg (by rw [decide_eq_true_eq]; omega)]
        rw [if_pos h6] at hn
        refine ih (p + d.2, n + 1, g, _) _ ⟨hw.2, hap.2, by simp only; omega⟩ (by simp only; omega) rfl ?_ ?_
        · simp [LeT, tl]
        · intro m x hx
          simp only [fnd] at hx ⊢
          split at hx
          · rename_i e; subst e; simpa using hx
          cases hx
      · rw [if_pos (decide_eq_true (by omega)), k2]
        rw [if_neg h6] at hn
        refine ih (p + d.2, n + 2, g, _) _ ⟨hw.2, hap.2, by simp only; omega⟩ (by simp only; omega) rfl ?_ ?_
        · simp [LeT, tl]
        · intro m x hx
          simp only [fnd] at hx ⊢
          split at hx
          · rename_i e; subst e; simpa using hx
          cases hx
    · rw [letAt_end s p hps] at hn
      simp only [pureOpC, unc, absRun, absOps, absOp, evO, constSV, ungd, gdP, gdPs, setD, extractV, pureOp, memOp, retP, resV, retQ, rAs, rA, rA0, ownN, nodup, bares, bare, bare0, Op.operands, List.getD, List.getElem?_cons_zero, List.getElem?_cons_succ, List.getElem?_nil, Option.getD_some, List.set, List.map, List.toList_toArray, exitTo, true_and, and_true, and_self, if_true, if_false, eq_self, Bool.false_eq_true, beq_self_eq_true, Bool.and_self]
      simp only [cntU] at hn
      omega

theorem sh8 (x : Int) : shrI .i32 x 8 = x / 256 := by
  show x.fdiv 256 = _
  rw [Int.fdiv_eq_ediv_of_nonneg _ (by decide)]
theorem sh10 (x : Int) : shrI .i32 x 10 = x / 1024 := by
  show x.fdiv 1024 = _
  rw [Int.fdiv_eq_ediv_of_nonneg _ (by decide)]

theorem and10 (m : Nat) (hm : m < 2147483648) : bitsI .and .i32 (m : Int) 1023 = ((m % 1024 : Nat) : Int) := by
  have e : bitsI .and .i32 (m : Int) 1023 = IntKind.i32.wrap ((BitVec.ofInt 32 (m : Int) &&& BitVec.ofInt 32 1023).toNat : Int) := rfl
  have e1 : (BitVec.ofInt 32 (m : Int)).toNat = m := by rw [BitVec.toNat_ofInt]; omega
  have e2 : (BitVec.ofInt 32 1023).toNat = 1023 := by decide
  have e3 : m &&& 1023 = m % 1024 := Nat.and_two_pow_sub_one_eq_mod m 10
  have e4 : m % 1024 < 1024 := Nat.mod_lt _ (by decide)
  rw [e, BitVec.toNat_and, e1, e2, e3]
  generalize m % 1024 = q at *
  rw [IntKind.wrap_i32]
  omega

theorem runes_bytes {n : Int} (hn : 0 ≤ n ∧ n ≤ 1114111) : Bytes (uB n) := by
  intro x hx
  unfold uB at hx
  split at hx
  · simp only [List.mem_cons, List.not_mem_nil, or_false] at hx
    rcases hx with rfl | rfl <;> omega
  · simp only [List.mem_cons, List.not_mem_nil, or_false] at hx
    rcases hx with rfl | rfl | rfl | rfl <;> omega

set_option maxHeartbeats 8000000 in
theorem Put02_meets (s : ByteArray) (hs : s.size ≤ 1099511627776) : Meets Tryd.prog 70 [.v (.str s)] [.own (.ints .u8 (utfL s)), .v (.int .i64 (utfE s))] := by
  have hU := Units_meets s hs
  have hll := letAt_len s s.size 0 (by omega)
  have hpl := put_len (letAt s 0)
  refine meets_go TO 100 Tryd.func70 rfl (fun X => ?_)
  simp only [Tryd.ntmps70, Tryd.results70, pureOpC, svs, blks, AV.sv, absRun, absOps, absOp, evO, constSV, ungd, gdP, gdPs, setD, pureOp, memOp, Op.operands, List.getD, List.getElem?_cons_zero, Option.getD_some, List.set, List.toList_toArray, true_and, and_self, Nat.zero_add, List.cons_append, List.nil_append, List.length_cons, List.length_nil, Nat.reduceAdd, Nat.reduceSub, List.replicate_succ, List.replicate_zero]
  refine call_go TO 100 hU Tryd.func81 (by decide +kernel) rfl rfl rfl ?_
  unfold utfL
  by_cases ha : allAt s 0 = true
  rotate_left
  · have e5 : utfE s = 5 := by unfold utfE; rw [if_neg ha]
    simp only [e5, if_neg ha, pureOpC, unc, absRun, absOps, absOp, evO, constSV, ungd, gdP, gdPs, setD, binI, binV, ptrE, T_size, T_zero, tSize, tZero, extractV, pureOp, memOp, newV, notIn, flatB, upd, Data.len, Lim.add, retP, resV, retQ, rAs, rA, rA0, ownN, nodup, bares, bare, bare0, bareD, guardIs, callP, callS, argS, mAs, mA, mA0, mB0, allNotIn, impN, impB, impT, packS, delL, Op.operands, List.getD, List.getElem?_cons_zero, List.getElem?_cons_succ, Option.getD_some, List.set, List.map, List.all, List.toList_toArray, true_and, and_self, if_true, eq_self, ne_eq, not_false_eq_true, Nat.zero_add, Int.reduceBNe, List.append_toArray, List.nil_append, List.append_nil, List.length_nil, Nat.reduceAdd, Nat.succ_ne_self, Bool.and_self]
  · have e0 : utfE s = 0 := by unfold utfE; rw [if_pos ha]
    simp only [e0, if_pos ha, pureOpC, unc, absRun, absOps, absOp, evO, constSV, ungd, gdP, gdPs, setD, binI, binV, ptrE, T_size, T_zero, tSize, tZero, extractV, pureOp, memOp, newV, notIn, flatB, upd, Data.len, Lim.add, retP, resV, retQ, rAs, rA, rA0, ownN, nodup, bares, bare, bare0, bareD, guardIs, callP, callS, argS, mAs, mA, mA0, mB0, allNotIn, impN, impB, impT, packS, delL, Op.operands, List.getD, List.getElem?_cons_zero, List.getElem?_cons_succ, Option.getD_some, List.set, List.map, List.all, List.toList_toArray, true_and, and_true, and_self, if_false, eq_self, ne_eq, not_false_eq_true, Bool.false_eq_true, Nat.zero_add, Int.reduceBNe, List.append_toArray, List.nil_append, List.append_nil, Nat.reduceAdd, Nat.succ_ne_self, Bool.and_self]
    refine range_ops TO rfl rfl rfl rfl rfl (by simp) (HOps_go TO 100 ?_)
    simp only [absRun, absOps, upd, Lim.add, List.set, if_false, Nat.zero_add, Nat.reduceEqDiff]
    refine newb_go 110 (.ints .u8 []) rfl ?_
    refine cells_go 6 [.sl 110 8 0 1 0 0] ⟨⟨rfl, ?_⟩, ?_⟩
    · rintro σ w cs ⟨v, c1, rfl, h1, h2⟩
      exact ⟨v, _, rfl, V0_nil_sl (.inl (Nat.lt_succ_self _)) h1, h2⟩
    simp only [upd, if_true, if_false, eq_self, Nat.reduceAdd, Nat.reduceEqDiff]
    refine loop_up (fun x : Nat × List Int × Nat × Nat => x.1 ≤ s.size ∧ allAt s x.1 = true ∧ x.2.1 ++ (letAt s x.1).flatMap uB = (letAt s 0).flatMap uB ∧ x.2.1.length ≤ 4 * x.1)
      (fun x => ⟨tl 43 0 [(6, .ptr 6 5 0), (7, .clo (.func 82) [] [.ptr 6 5 0]), (20, .ptr 20 7 0)], [(6, 5, .cells [.sl 110 x.2.2.1 0 1 0 x.2.1.length]), (20, 7, .iter s x.1), (110, x.2.2.1, .vec (.ints .u8 x.2.1))], ⟨x.2.2.2, [], 0⟩⟩) (fun x => s.size - x.1) (0, [], 8, 10) ⟨Nat.zero_le _, ha, rfl, Nat.zero_le _⟩ ⟨rfl, ?_, ?_⟩ ?_
    · simp [LeT, tl]
    · intro m x hx
      simpa [fnd] using hx
    rintro ⟨p, out, gO, c⟩ ⟨hp, hap, hn, hol⟩ ih
    simp only at hp hap hn hol
    refine absRun_ok TO 100 _ _ ?_
    simp only [pureOpC, absRun, absOps, absOp, pureOp, memOp, List.cons_append, List.nil_append, Nat.reduceAdd, Nat.reduceSub, List.replicate_succ, List.replicate_zero, tl]
    refine next_ops rfl rfl rfl rfl rfl (fun hps => HOps_go TO 100 ?_) (fun hps => HOps_go TO 100 ?_)
    rotate_left
    · rw [letAt_end s p hps, List.flatMap_nil, List.append_nil] at hn
      subst hn
      simp only [pureOpC, unc, absRun, absOps, absOp, evO, constSV, ungd, gdP, gdPs, setD, T_ty, tTy, extractV, pureOp, memOp, loadV, notIn, cellAt, blkAt, fnd, Data.len, Data.esz, retP, resV, retQ, rAs, rA, rA0, ownN, nodup, bares, bare, bare0, bareD, Op.operands, List.getD, List.getElem?_cons_zero, List.getElem?_cons_succ, List.getElem?_nil, Option.getD_some, List.set, List.map, List.toList_toArray, exitTo, and_self, if_true, if_false, eq_self, Bool.false_eq_true, Nat.reduceEqDiff, beq_self_eq_true, Bool.and_self]
    have hw := dec_width s p hps
    have hd := dec_lt s p
    rw [allAt_step s p hps, Bool.and_eq_true] at hap
    have hbf : badP s p = false := by simpa using hap.1
    rw [letAt_step s p hps, hbf] at hn
    simp only [Bool.false_eq_true, if_false, List.flatMap_cons] at hn
    generalize Utf8.decode s p = d at *
    obtain ⟨n, hnd⟩ : ∃ n : Int, n = (d.1 : Int) := ⟨_, rfl⟩
    rw [← hnd] at hn ⊢
    have hn0 : 0 ≤ n ∧ n ≤ 1114111 := by omega
    simp only [pureOpC, unc, absRun, absOps, absOp, evO, constSV, ungd, gdP, gdPs, setD, binI, binV, ptrE, T_ty, tTy, extractV, pureOp, memOp, loadV, notIn, cellAt, blkAt, fnd, upd, Data.len, Data.esz, retP, resV, retQ, rAs, rA, rA0, ownN, nodup, bares, bare, bare0, bareD, Op.operands, List.getD, List.getElem?_cons_zero, List.getElem?_cons_succ, Option.getD_some, List.set, List.map, List.toList_toArray, exitTo, true_and, and_true, and_self, if_true, if_false, eq_self, Nat.reduceEqDiff, beq_self_eq_true, Bool.and_self, Data.ints.injEq, Int.reduceLE]
    by_cases h6 : n < 65536
    · have eU : uB n = [n % 256, n / 256] := by unfold uB; rw [if_pos h6]
      have r1 : IntKind.u8.wrap n = n % 256 := by rw [wu8]
      have r2 : IntKind.u8.wrap (shrI .i32 n 8) = n / 256 := by
        rw [show shrI .i32 n 8 = n / 256 by show n.fdiv 256 = _; rw [Int.fdiv_eq_ediv_of_nonneg _ (by decide)], wu8]; omega
      rw [eU] at hn
      rw [if_pos (decide_eq_true h6)]
      refine in_cloZ TO 100 100 100 Tryd.func82 (by decide +kernel) rfl rfl rfl rfl (by simp only [guardIs, eq_self]) (by simp only [evO, gdP, gdPs, List.getD, List.getElem?_cons_zero, List.getElem?_cons_succ, Option.getD_some, and_self]) (fun Z hZ => ?_)
      simp only [Tryd.ntmps82, List.take_succ_cons, List.take_zero, List.drop_zero, pureOpC, unc, fitT, absRun, absOps, absOp, evO, constSV, ungd, gdP, gdPs, setD, binI, binV, ptrE, convV, T_ty, T_size, T_bytes, T_zero, tTy, tSize, tBytes, tZero, pureOp, memOp, loadV, newV, notIn, dataOf, appD, isSrc, scal, elemsOf, intsOf, zI, known, cellAt, setC, blkAt, fnd, upd, del, mv, Data.len, Data.esz, Data.sub, Lim.add, argC, Op.operands, Call.operands, List.getD, List.getElem?_cons_zero, List.getElem?_cons_succ, Option.getD_some, List.set, List.map, List.toList_toArray, Option.map_some, Option.map_none, Option.isSome, true_and, and_self, if_true, if_false, eq_self, Nat.zero_add, Nat.le_refl, List.append_toArray, List.cons_append, List.nil_append, List.length_cons, List.length_nil, Nat.reduceAdd, Nat.reduceSub, Nat.reduceEqDiff, Nat.reduceLeDiff, Nat.succ_ne_self, List.replicate_succ, List.replicate_zero, Int.reduceLE, r1, r2]
      refine ⟨by omega, hZ _ ?_⟩
      simp only [Tryd.results82, absRun, absOps, inRet, flats, flatV, List.getD, List.getElem?_cons_zero, List.getElem?_cons_succ, Option.getD_some, List.set, List.map, List.all, List.toList_toArray, true_and, eq_self]
      refine ih (p + d.2, out ++ [n % 256, n / 256], c + 1 + 1 + 1 + 1 + 1 + 1, _) _ ⟨hw.2, hap.2, by rw [← hn]; simp, by simp only [List.length_append, List.length_cons, List.length_nil]; omega⟩ (by simp only; omega) rfl ?_ ?_
      · simp [LeT, tl]
      · intro m x hx
        simp only [fnd] at hx ⊢
        split at hx
        · rename_i e; subst e; simpa using hx
        split at hx
        · rename_i e; subst e; simpa using hx
        split at hx
        · rename_i e; subst e; simpa using hx
        cases hx
    · have eU : uB n = [(55296 + (n - 65536) / 1024) % 256, (55296 + (n - 65536) / 1024) / 256, (56320 + (n - 65536) % 1024) % 256, (56320 + (n - 65536) % 1024) / 256] := by unfold uB; rw [if_neg h6]
      rw [eU] at hn
      obtain ⟨u, hu⟩ : ∃ u, u = 55296 + (n - 65536) / 1024 := ⟨_, rfl⟩
      obtain ⟨v, hv⟩ : ∃ v, v = 56320 + (n - 65536) % 1024 := ⟨_, rfl⟩
      rw [← hu, ← hv] at hn
      have q1 : IntKind.i32.wrap (n - 65536) = n - 65536 := by rw [IntKind.wrap_i32]; omega
      have q2 : IntKind.i32.wrap (55296 + shrI .i32 (n - 65536) 10) = u := by
        rw [show shrI .i32 (n - 65536) 10 = (n - 65536) / 1024 from sh10 _, IntKind.wrap_i32]; omega
      have q3 : IntKind.i32.wrap (56320 + bitsI .and .i32 (n - 65536) 1023) = v := by
        obtain ⟨m, hm⟩ : ∃ m : Nat, n - 65536 = m := ⟨(n - 65536).toNat, by omega⟩
        rw [hm, and10 m (by omega), IntKind.wrap_i32]
        omega
      have r1 : IntKind.u8.wrap u = u % 256 := by rw [wu8]
      have r2 : IntKind.u8.wrap (shrI .i32 u 8) = u / 256 := by rw [show shrI .i32 u 8 = u / 256 from sh8 _, wu8]; omega
      have r3 : IntKind.u8.wrap v = v % 256 := by rw [wu8]
      have r4 : IntKind.u8.wrap (shrI .i32 v 8) = v / 256 := by rw [show shrI .i32 v 8 = v / 256 from sh8 _, wu8]; omega
      rw [if_neg (by rw [decide_eq_true_eq]; exact h6)]
      simp only [q1, q2]
      refine in_cloZ TO 100 100 100 Tryd.func82 (by decide +kernel) rfl rfl rfl rfl (by simp only [guardIs, eq_self]) (by simp only [evO, gdP, gdPs, List.getD, List.getElem?_cons_zero, List.getElem?_cons_succ, Option.getD_some, and_self]) (fun Z hZ => ?_)
      simp only [Tryd.ntmps82, List.take_succ_cons, List.take_zero, List.drop_zero, pureOpC, unc, fitT, absRun, absOps, absOp, evO, constSV, ungd, gdP, gdPs, setD, binI, binV, ptrE, convV, T_ty, T_size, T_bytes, T_zero, tTy, tSize, tBytes, tZero, pureOp, memOp, loadV, newV, notIn, dataOf, appD, isSrc, scal, elemsOf, intsOf, zI, known, cellAt, setC, blkAt, fnd, upd, del, mv, Data.len, Data.esz, Data.sub, Lim.add, argC, Op.operands, Call.operands, List.getD, List.getElem?_cons_zero, List.getElem?_cons_succ, Option.getD_some, List.set, List.map, List.toList_toArray, Option.map_some, Option.map_none, Option.isSome, true_and, and_self, if_true, if_false, eq_self, Nat.zero_add, Nat.le_refl, List.append_toArray, List.cons_append, List.nil_append, List.length_cons, List.length_nil, Nat.reduceAdd, Nat.reduceSub, Nat.reduceEqDiff, Nat.reduceLeDiff, Nat.succ_ne_self, List.replicate_succ, List.replicate_zero, Int.reduceLE, r1, r2]
      refine ⟨by omega, hZ _ ?_⟩
      simp only [Tryd.results82, pureOpC, unc, absRun, absOps, absOp, evO, constSV, ungd, gdP, gdPs, setD, binI, binV, ptrE, pureOp, memOp, inRet, flats, flatV, Op.operands, List.getD, List.getElem?_cons_zero, List.getElem?_cons_succ, Option.getD_some, List.set, List.map, List.all, List.toList_toArray, true_and, and_self, eq_self, q3]
      refine in_cloZ TO 100 100 100 Tryd.func82 (by decide +kernel) rfl rfl rfl rfl (by simp only [guardIs, eq_self]) (by simp only [evO, gdP, gdPs, List.getD, List.getElem?_cons_zero, List.getElem?_cons_succ, Option.getD_some, and_self]) (fun Z2 hZ2 => ?_)
      simp only [Tryd.ntmps82, List.take_succ_cons, List.take_zero, List.drop_zero, pureOpC, unc, fitT, absRun, absOps, absOp, evO, constSV, ungd, gdP, gdPs, setD, binI, binV, ptrE, convV, T_ty, T_size, T_bytes, T_zero, tTy, tSize, tBytes, tZero, pureOp, memOp, loadV, newV, notIn, dataOf, appD, isSrc, scal, elemsOf, intsOf, zI, known, cellAt, setC, blkAt, fnd, upd, del, mv, Data.len, Data.esz, Data.sub, Lim.add, argC, Op.operands, Call.operands, List.getD, List.getElem?_cons_zero, List.getElem?_cons_succ, Option.getD_some, List.set, List.map, List.toList_toArray, Option.map_some, Option.map_none, Option.isSome, true_and, and_self, if_true, if_false, eq_self, Nat.zero_add, Nat.le_refl, List.append_toArray, List.cons_append, List.nil_append, List.length_cons, List.length_nil, Nat.reduceAdd, Nat.reduceSub, Nat.reduceEqDiff, Nat.reduceLeDiff, Nat.succ_ne_self, List.replicate_succ, List.replicate_zero, Int.reduceLE, r3, r4]
      rw [List.length_append]
      refine ⟨by simp only [List.length_cons, List.length_nil]; omega, hZ2 _ ?_⟩
      simp only [Tryd.results82, absRun, absOps, inRet, flats, flatV, List.getD, List.getElem?_cons_zero, List.getElem?_cons_succ, Option.getD_some, List.set, List.map, List.all, List.toList_toArray, true_and, eq_self, Nat.zero_add, List.length_cons, List.length_nil, Nat.reduceAdd]
      refine ih (p + d.2, out ++ [u % 256, u / 256] ++ [v % 256, v / 256], c + 1 + 1 + 1 + 1 + 1 + 1 + 1 + 1 + 1 + 1, _) _ ⟨hw.2, hap.2, by rw [← hn]; simp, by simp only [List.length_append, List.length_cons, List.length_nil]; omega⟩ (by simp only; omega) rfl ?_ ?_
      · simp [LeT, tl]
      · intro m x hx
        simp only [fnd] at hx ⊢
        split at hx
        · rename_i e; subst e; simpa using hx
        split at hx
        · rename_i e; subst e; simpa using hx
        split at hx
        · rename_i e; subst e; simpa using hx
        cases hx

end Go.Proofs.YtakgefinmlomdaaDoor.Abs
