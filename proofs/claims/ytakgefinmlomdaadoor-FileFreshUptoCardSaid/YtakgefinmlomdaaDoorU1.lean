/- UTF-8 by the document: what lead, Letter, first and Letters answer. -/
import Derived.Test.YtakgefinmlomdaaDoorT
import Derived.Test.YtakgefinmlomdaaDoorV1
import Derived.Test.YtakgefinmlomdaaDoorRX
import Derived.Lib.MapLaws
import Derived.Lib.FieldsU
set_option linter.unusedVariables false
set_option linter.unusedSimpArgs false
set_option maxRecDepth 100000
namespace Go.Proofs.YtakgefinmlomdaaDoor.Abs
open Go Go.Proofs

def ldS (c : Nat) : Nat := if c < 128 then 1 else if 192 ≤ c ∧ c < 224 then 2 else if 224 ≤ c ∧ c < 240 then 3 else if 240 ≤ c ∧ c < 248 then 4 else 0
def ldN (c : Nat) : Nat := if c < 128 then c else if 192 ≤ c ∧ c < 224 then c - 192 else if 224 ≤ c ∧ c < 240 then c - 224 else if 240 ≤ c ∧ c < 248 then c - 240 else 0
def ldL (c : Nat) : Nat := if c < 128 then 0 else if 192 ≤ c ∧ c < 224 then 128 else if 224 ≤ c ∧ c < 240 then 2048 else if 240 ≤ c ∧ c < 248 then 65536 else 0

theorem lead_meets (c : Nat) (hc : c < 256) : Meets Tryd.prog 90 [.v (.int .u8 c)] [.v (.int .i64 (ldS c)), .v (.int .i64 (ldN c)), .v (.int .i64 (ldL c))] := by
  refine meets_go TO 100 Tryd.func90 rfl (fun X => ?_)
  simp only [Tryd.ntmps90, Tryd.results90, pureOpC, unc, svs, blks, AV.sv, absRun, absOps, absOp, evO, constSV, ungd, gdP, gdPs, setD, binI, binV, ptrE, convV, T_ty, tTy, pickV, pureOp, guardOf, known, retP, resV, retQ, rAs, rA, rA0, ownN, nodup, bares, bare, bare0, Op.operands, List.getD, List.getElem?_cons_zero, List.getElem?_cons_succ, Option.getD_some, List.set, List.map, List.toList_toArray, List.getElem?_toArray, Option.bind_some, true_and, and_true, and_self, implies_true, imp_self, eq_self, Nat.zero_add, Bool.cond_false_right, List.cons_append, List.nil_append, List.length_cons, List.length_nil, Nat.reduceAdd, Nat.reduceSub, List.replicate_succ, List.replicate_zero, Bool.and_self, ge_iff_le]
  by_cases h1 : c < 128
  · rw [decide_eq_true (show (c : Int) < 128 by omega), w64 (by omega) (by omega), show ldS c = 1 by unfold ldS; rw [if_pos h1], show ldN c = c by unfold ldN; rw [if_pos h1], show ldL c = 0 by unfold ldL; rw [if_pos h1]]
    simp
  · have d1 : decide ((c : Int) < 128) = false := decide_eq_false (by omega)
    by_cases h2 : 192 ≤ c ∧ c < 224
    · rw [show ldS c = 2 by unfold ldS; rw [if_neg h1, if_pos h2], show ldN c = c - 192 by unfold ldN; rw [if_neg h1, if_pos h2], show ldL c = 128 by unfold ldL; rw [if_neg h1, if_pos h2]]
      simp only [d1, decide_eq_true (show (192 : Int) ≤ c by omega), decide_eq_true (show (c : Int) < 224 by omega), true_and, and_true, and_false, and_self, if_true, if_false, ite_self, eq_self, Bool.false_eq_true, Int.cast_ofNat_Int, Bool.and_self, Int.reduceEq]
      rw [w64 (x := (c : Int)) (by omega) (by omega), w64 (by omega) (by omega)]
      omega
    · have d2 : (decide ((192 : Int) ≤ c) && decide ((c : Int) < 224)) = false := by
        rw [Bool.and_eq_false_iff, decide_eq_false_iff_not, decide_eq_false_iff_not]; omega
      by_cases h3 : 224 ≤ c ∧ c < 240
      · rw [show ldS c = 3 by unfold ldS; rw [if_neg h1, if_neg h2, if_pos h3], show ldN c = c - 224 by unfold ldN; rw [if_neg h1, if_neg h2, if_pos h3], show ldL c = 2048 by unfold ldL; rw [if_neg h1, if_neg h2, if_pos h3]]
        simp only [d1, d2, decide_eq_true (show (224 : Int) ≤ c by omega), decide_eq_true (show (c : Int) < 240 by omega), true_and, and_true, and_false, and_self, if_true, if_false, ite_self, eq_self, Bool.false_eq_true, Int.cast_ofNat_Int, Bool.and_self, Int.reduceEq]
        rw [w64 (x := (c : Int)) (by omega) (by omega), w64 (by omega) (by omega)]
        omega
      · have d3 : (decide ((224 : Int) ≤ c) && decide ((c : Int) < 240)) = false := by
          rw [Bool.and_eq_false_iff, decide_eq_false_iff_not, decide_eq_false_iff_not]; omega
        by_cases h4 : 240 ≤ c ∧ c < 248
        · rw [show ldS c = 4 by unfold ldS; rw [if_neg h1, if_neg h2, if_neg h3, if_pos h4], show ldN c = c - 240 by unfold ldN; rw [if_neg h1, if_neg h2, if_neg h3, if_pos h4], show ldL c = 65536 by unfold ldL; rw [if_neg h1, if_neg h2, if_neg h3, if_pos h4]]
          simp only [d1, d2, d3, decide_eq_true (show (240 : Int) ≤ c by omega), decide_eq_true (show (c : Int) < 248 by omega), true_and, and_true, and_false, and_self, if_true, if_false, eq_self, Bool.false_eq_true, Int.cast_ofNat_Int, Bool.and_self, Int.reduceEq]
          rw [w64 (x := (c : Int)) (by omega) (by omega), w64 (by omega) (by omega)]
          omega
        · have d4 : (decide ((240 : Int) ≤ c) && decide ((c : Int) < 248)) = false := by
            rw [Bool.and_eq_false_iff, decide_eq_false_iff_not, decide_eq_false_iff_not]; omega
          rw [show ldS c = 0 by unfold ldS; rw [if_neg h1, if_neg h2, if_neg h3, if_neg h4], show ldN c = 0 by unfold ldN; rw [if_neg h1, if_neg h2, if_neg h3, if_neg h4], show ldL c = 0 by unfold ldL; rw [if_neg h1, if_neg h2, if_neg h3, if_neg h4]]
          simp only [d1, d2, d3, d4, and_true, false_and, and_false, and_self, if_false, eq_self, Bool.false_eq_true, Int.cast_ofNat_Int, Int.reduceEq]

def letB (n : Int) : Bool := decide (0 ≤ n) && decide (n ≤ 1114111) && (decide (n < 55296) || decide (57343 < n))

theorem Letter_meets (n : Int) : Meets Tryd.prog 87 [.v (.int .i64 n)] [.v (.bool (letB n))] := by
  refine meets_go TO 100 Tryd.func87 rfl (fun X => ?_)
  simp only [Tryd.ntmps87, Tryd.results87, pureOpC, unc, svs, blks, AV.sv, absRun, absOps, absOp, evO, constSV, ungd, gdP, gdPs, setD, binI, binV, ptrE, pickV, pureOp, guardOf, retP, resV, retQ, rAs, rA, rA0, ownN, nodup, bares, bare, bare0, Op.operands, List.getD, List.getElem?_cons_zero, List.getElem?_cons_succ, Option.getD_some, List.set, List.map, List.toList_toArray, List.getElem?_toArray, Option.bind_some, true_and, and_true, and_self, implies_true, imp_self, eq_self, Nat.zero_add, Bool.cond_true_left, Bool.cond_false_right, List.cons_append, List.nil_append, List.length_cons, List.length_nil, Nat.reduceAdd, Nat.reduceSub, List.replicate_succ, List.replicate_zero, Bool.and_self, gt_iff_lt, ge_iff_le]
  unfold letB
  cases decide (0 ≤ n) <;> cases decide (n ≤ 1114111) <;> cases decide (n < 55296) <;> rfl

def byN (s : ByteArray) (i : Nat) : Nat := (s.get! i).toNat
theorem byN_lt (s : ByteArray) (i : Nat) : byN s i < 256 := (s.get! i).toNat_lt
theorem byN_get (s : ByteArray) (i : Nat) : (s.data.toList[i]?.getD 0).toNat = byN s i := by
  unfold byN
  congr 1
  show _ = s.data[i]!
  rw [Array.getElem!_eq_getD, Array.getD_eq_getD_getElem?, ← Array.getElem?_toList]
  rfl

def firstF (s : ByteArray) (p : Nat) : Nat × Nat := if Utf8.decode s p = (65533, 1) then (0, 0) else Utf8.decode s p

theorem firstF_eq (s : ByteArray) (p : Nat) : firstF s p = if Lib.decodeN (s.size - p) (byN s p) (byN s (p + 1)) (byN s (p + 2)) (byN s (p + 3)) = (65533, 1) then (0, 0) else Lib.decodeN (s.size - p) (byN s p) (byN s (p + 1)) (byN s (p + 2)) (byN s (p + 3)) := by
  unfold firstF
  rw [Lib.decode_at]
  rfl

set_option maxHeartbeats 4000000 in
theorem first_meets (s : ByteArray) (p : Nat) (hs : s.size ≤ 140737488355328) (hp : p < s.size) : Meets Tryd.prog 83 [.v (.str s), .v (.int .i64 p)] [.v (.int .i64 (firstF s p).1), .v (.int .i64 (firstF s p).2)] := by
  have hL := lead_meets (byN s p) (byN_lt s p)
  have hF := firstF_eq s p
  refine meets_go TO 100 Tryd.func83 rfl (fun X => ?_)
  simp only [Tryd.ntmps83, Tryd.results83, pureOpC, unc, svs, blks, AV.sv, absRun, absOps, absOp, evO, constSV, ungd, gdP, gdPs, setD, T_ty, tTy, indexV, pureOp, memOp, Op.operands, List.getD, List.getElem?_cons_zero, List.getElem?_cons_succ, Option.getD_some, List.set, List.toList_toArray, true_and, and_self, Nat.zero_add, Int.toNat_natCast, List.cons_append, List.nil_append, List.length_cons, List.length_nil, Nat.reduceAdd, Nat.reduceSub, List.replicate_succ, List.replicate_zero, byN_get]
  refine ⟨⟨by omega, by omega⟩, ?_⟩
  have b0 := byN_lt s p
  have b1 := byN_lt s (p + 1)
  have b2 := byN_lt s (p + 2)
  have b3 := byN_lt s (p + 3)
  have t1 : Int.toNat ((p : Int) + 1) = p + 1 := by omega
  have t2 : Int.toNat ((p : Int) + 2) = p + 2 := by omega
  have t3 : Int.toNat ((p : Int) + 3) = p + 3 := by omega
  have w1 : IntKind.i64.wrap ((p : Int) + 1) = (p : Int) + 1 := w64 (by omega) (by omega)
  have w2 : IntKind.i64.wrap ((p : Int) + 2) = (p : Int) + 2 := w64 (by omega) (by omega)
  have w3 : IntKind.i64.wrap ((p : Int) + 3) = (p : Int) + 3 := w64 (by omega) (by omega)
  have w4 : IntKind.i64.wrap ((p : Int) + 4) = (p : Int) + 4 := w64 (by omega) (by omega)
  have k2 : IntKind.i64.wrap 2 = 2 := by decide
  have k3 : IntKind.i64.wrap 3 = 3 := by decide
  have k4 : IntKind.i64.wrap 4 = 4 := by decide
  generalize byN s p = c0 at *
  generalize hc1 : byN s (p + 1) = c1 at *
  generalize hc2 : byN s (p + 2) = c2 at *
  generalize hc3 : byN s (p + 3) = c3 at *
  have x1 : IntKind.i64.wrap (c1 : Int) = c1 := w64 (by omega) (by omega)
  have x2 : IntKind.i64.wrap (c2 : Int) = c2 := w64 (by omega) (by omega)
  have x3 : IntKind.i64.wrap (c3 : Int) = c3 := w64 (by omega) (by omega)
  by_cases h1 : c0 < 128
  · rw [show (ldS c0 : Int) = 1 by unfold ldS; rw [if_pos h1]; rfl, show (ldN c0 : Int) = c0 by unfold ldN; rw [if_pos h1], show (ldL c0 : Int) = 0 by unfold ldL; rw [if_pos h1]; rfl] at hL
    have hD : firstF s p = (c0, 1) := by rw [hF]; unfold Lib.decodeN; rw [if_pos h1, if_neg (fun h => by cases h; omega)]
    have hLt := Letter_meets (c0 : Int)
    rw [show letB (c0 : Int) = true by unfold letB; rw [decide_eq_true (by omega), decide_eq_true (by omega), decide_eq_true (by omega)]; rfl] at hLt
    have d1 : decide ((s.size : Int) < (p : Int) + 1) = false := decide_eq_false (by omega)
    have d2 : decide ((c0 : Int) < 0) = false := decide_eq_false (by omega)
    refine call_go TO 100 hL Tryd.func90 (by decide +kernel) rfl rfl rfl ?_
    simp only [pureOpC, unc, absRun, absOps, absOp, evO, constSV, ungd, gdP, gdPs, setD, binI, binV, ptrE, T_ty, tTy, extractV, pickV, pureOp, guardOf, lenV, retP, resV, retQ, rAs, rA, rA0, ownN, nodup, bares, bare, bare0, guardIs, callP, callS, argS, mAs, mA, mA0, mB0, allNotIn, impN, impB, impT, packS, delL, Op.operands, Call.operands, List.getD, List.getElem?_cons_zero, List.getElem?_cons_succ, Option.getD_some, List.set, List.map, List.toList_toArray, List.getElem?_toArray, Option.bind_some, true_and, and_true, and_self, implies_true, if_false, eq_self, Bool.false_eq_true, Int.reduceBEq, Bool.cond_false, List.append_toArray, List.nil_append, List.append_nil, Nat.reduceAdd, Bool.not_false, Bool.and_self, gt_iff_lt, w1, d1]
    refine loop_in (absRun_ok TO 100 _ _ ?_)
    simp only [pureOpC, unc, absRun, absOps, absOp, evO, constSV, ungd, gdP, gdPs, setD, binI, binV, ptrE, convV, T_ty, tTy, indexV, pickV, pureOp, guardOf, known, retP, resV, retQ, rAs, rA, rA0, ownN, nodup, bares, bare, bare0, Op.operands, List.getD, List.getElem?_cons_zero, List.getElem?_cons_succ, Option.getD_some, List.set, List.map, List.toList_toArray, List.getElem?_toArray, Option.bind_some, exitTo, true_and, and_true, and_self, implies_true, imp_self, if_true, if_false, eq_self, Bool.false_eq_true, Int.reduceAdd, Bool.cond_true_left, Nat.reduceAdd, Bool.not_false, beq_self_eq_true, Bool.and_self, Int.reduceLT, decide_false, ge_iff_le, d2]
    refine call_go TO 100 hLt Tryd.func87 (by decide +kernel) rfl rfl rfl ?_
    simp only [pureOpC, unc, absRun, absOps, absOp, evO, constSV, ungd, gdP, gdPs, setD, unV, pickV, pureOp, guardOf, retP, resV, retQ, rAs, rA, rA0, ownN, nodup, bares, bare, bare0, guardIs, callP, callS, argS, mAs, mA, mA0, mB0, allNotIn, impN, impB, impT, packS, delL, Op.operands, List.getD, List.getElem?_cons_zero, List.getElem?_cons_succ, Option.getD_some, List.set, List.map, List.toList_toArray, List.getElem?_toArray, Option.bind_some, true_and, and_true, and_false, and_self, implies_true, if_false, eq_self, Bool.false_eq_true, Int.cast_ofNat_Int, Bool.cond_false, List.append_nil, Nat.reduceAdd, Bool.not_true, Bool.not_false, Bool.and_self, Int.reduceEq, hD]
  by_cases h2 : 192 ≤ c0 ∧ c0 < 224
  · rw [show (ldS c0 : Int) = 2 by unfold ldS; rw [if_neg h1, if_pos h2]; rfl, show (ldN c0 : Int) = (c0 : Int) - 192 by unfold ldN; rw [if_neg h1, if_pos h2]; omega, show (ldL c0 : Int) = 128 by unfold ldL; rw [if_neg h1, if_pos h2]; rfl] at hL
    have bad : (¬ (1 < s.size - p ∧ c1 / 64 = 2)) → firstF s p = (0, 0) := fun hb => by
      rw [hF, if_pos]
      unfold Lib.decodeN
      rw [if_neg h1, if_neg (by omega), if_neg (by omega), if_neg (by omega)]
    refine call_go TO 100 hL Tryd.func90 (by decide +kernel) rfl rfl rfl ?_
    by_cases hl : s.size < p + 2
    · have d1 : decide ((s.size : Int) < (p : Int) + 2) = true := decide_eq_true (by omega)
      simp only [pureOpC, unc, absRun, absOps, absOp, evO, constSV, ungd, gdP, gdPs, setD, binI, binV, ptrE, T_ty, tTy, extractV, pickV, pureOp, guardOf, lenV, retP, resV, retQ, rAs, rA, rA0, ownN, nodup, bares, bare, bare0, guardIs, callP, callS, argS, mAs, mA, mA0, mB0, allNotIn, impN, impB, impT, packS, delL, Op.operands, Call.operands, List.getD, List.getElem?_cons_zero, List.getElem?_cons_succ, Option.getD_some, List.set, List.map, List.toList_toArray, List.getElem?_toArray, Option.bind_some, true_and, and_self, implies_true, if_true, eq_self, Int.cast_ofNat_Int, Int.reduceBEq, Bool.cond_false, List.append_toArray, List.nil_append, List.append_nil, Nat.reduceAdd, Bool.not_false, Bool.and_self, gt_iff_lt, w2, d1, bad (by omega)]
    have d1 : decide ((s.size : Int) < (p : Int) + 2) = false := decide_eq_false (by omega)
    simp only [pureOpC, unc, absRun, absOps, absOp, evO, constSV, ungd, gdP, gdPs, setD, binI, binV, ptrE, T_ty, tTy, extractV, pickV, pureOp, guardOf, lenV, retP, resV, retQ, rAs, rA, rA0, ownN, nodup, bares, bare, bare0, guardIs, callP, callS, argS, mAs, mA, mA0, mB0, allNotIn, impN, impB, impT, packS, delL, Op.operands, Call.operands, List.getD, List.getElem?_cons_zero, List.getElem?_cons_succ, Option.getD_some, List.set, List.map, List.toList_toArray, List.getElem?_toArray, Option.bind_some, true_and, and_true, and_self, implies_true, if_false, eq_self, Bool.false_eq_true, Int.reduceBEq, Bool.cond_false, List.append_toArray, List.nil_append, List.append_nil, Nat.reduceAdd, Bool.not_false, Bool.and_self, gt_iff_lt, w2, d1]
    refine loop_in (absRun_ok TO 100 _ _ ?_)
    simp only [pureOpC, unc, absRun, absOps, absOp, evO, constSV, ungd, gdP, gdPs, setD, binI, binV, ptrE, convV, T_ty, tTy, indexV, pickV, pureOp, guardOf, known, retP, resV, retQ, rAs, rA, rA0, ownN, nodup, bares, bare, bare0, Op.operands, List.getD, List.getElem?_cons_zero, List.getElem?_cons_succ, Option.getD_some, List.set, List.map, List.toList_toArray, List.getElem?_toArray, Option.bind_some, exitTo, true_and, and_true, and_self, implies_true, imp_self, if_true, eq_self, Int.reduceAdd, Bool.cond_true_left, Nat.reduceAdd, beq_self_eq_true, Bool.and_self, Int.reduceLT, decide_true, ge_iff_le, w1, t1, byN_get, hc1, x1, k2]
    refine ⟨⟨by omega, by omega⟩, ?_⟩
    by_cases g1 : 128 ≤ c1 ∧ c1 < 192
    rotate_left
    · rw [if_pos (by rw [Bool.or_eq_true, decide_eq_true_eq, decide_eq_true_eq]; omega), bad (by omega)]
      exact ⟨rfl, rfl⟩
    rw [if_neg (by rw [Bool.or_eq_true, decide_eq_true_eq, decide_eq_true_eq]; omega)]
    obtain ⟨a1, ha1⟩ : ∃ a : Int, a = 64 * ((c0 : Int) - 192) + c1 - 128 := ⟨_, rfl⟩
    have y1 : IntKind.i64.wrap (IntKind.i64.wrap (IntKind.i64.wrap (64 * ((c0 : Int) - 192)) + (c1 : Int)) - 128) = a1 := by
      rw [w64 (x := 64 * ((c0 : Int) - 192)) (by omega) (by omega), w64 (x := 64 * ((c0 : Int) - 192) + (c1 : Int)) (by omega) (by omega), w64 (by omega) (by omega), ha1]
    rw [y1]
    refine loop_more (absRun_ok TO 100 _ _ ?_)
    have hv : (c0 % 32 * 64 + c1 % 64 : Nat) = a1 := by omega
    by_cases hm : a1 < 128
    · have hD : firstF s p = (0, 0) := by
        rw [hF, if_pos]
        unfold Lib.decodeN
        rw [if_neg h1, if_pos (by omega), if_neg (by omega)]
      have d2 : decide (a1 < 128) = true := decide_eq_true hm
      simp only [pureOpC, unc, absRun, absOps, absOp, evO, constSV, ungd, gdP, gdPs, setD, binI, binV, ptrE, convV, T_ty, tTy, indexV, pickV, pureOp, guardOf, known, retP, resV, retQ, rAs, rA, rA0, ownN, nodup, bares, bare, bare0, Op.operands, List.getD, List.getElem?_cons_zero, List.getElem?_cons_succ, Option.getD_some, List.set, List.map, List.toList_toArray, List.getElem?_toArray, Option.bind_some, exitTo, true_and, and_true, and_self, implies_true, imp_self, if_true, if_false, eq_self, Bool.false_eq_true, Int.reduceAdd, Bool.cond_true_left, Nat.reduceAdd, Bool.not_true, beq_self_eq_true, Bool.and_self, Int.reduceLT, decide_false, ge_iff_le, d2]
      refine skip_go TO 100 (.bool false) ?_
      simp only [pureOpC, unc, absRun, absOps, absOp, evO, constSV, ungd, gdP, gdPs, setD, unV, pickV, pureOp, guardOf, retP, resV, retQ, rAs, rA, rA0, ownN, nodup, bares, bare, bare0, guardIs, Op.operands, List.getD, List.getElem?_cons_zero, List.getElem?_cons_succ, Option.getD_some, List.set, List.map, List.toList_toArray, List.getElem?_toArray, Option.bind_some, true_and, and_true, and_false, and_self, implies_true, imp_self, if_true, eq_self, Bool.false_eq_true, Int.cast_ofNat_Int, Bool.cond_true, Nat.reduceAdd, Bool.not_true, Bool.not_false, Bool.and_self, Int.reduceEq, hD]
    have d2 : decide (a1 < 128) = false := decide_eq_false hm
    have hLt := Letter_meets a1
    simp only [pureOpC, unc, absRun, absOps, absOp, evO, constSV, ungd, gdP, gdPs, setD, binI, binV, ptrE, convV, T_ty, tTy, indexV, pickV, pureOp, guardOf, known, retP, resV, retQ, rAs, rA, rA0, ownN, nodup, bares, bare, bare0, Op.operands, List.getD, List.getElem?_cons_zero, List.getElem?_cons_succ, Option.getD_some, List.set, List.map, List.toList_toArray, List.getElem?_toArray, Option.bind_some, exitTo, true_and, and_true, and_self, implies_true, imp_self, if_true, if_false, eq_self, Bool.false_eq_true, Int.reduceAdd, Bool.cond_true_left, Nat.reduceAdd, Bool.not_false, beq_self_eq_true, Bool.and_self, Int.reduceLT, decide_false, ge_iff_le, d2]
    refine call_go TO 100 hLt Tryd.func87 (by decide +kernel) rfl rfl rfl ?_
    have hlb : letB a1 = true ↔ (a1 ≤ 1114111 ∧ (a1 < 55296 ∨ 57344 ≤ a1)) := by
      unfold letB; rw [Bool.and_eq_true, Bool.and_eq_true, Bool.or_eq_true, decide_eq_true_eq, decide_eq_true_eq, decide_eq_true_eq, decide_eq_true_eq]; omega
    cases hb : letB a1 with
    | true =>
      have hb := hlb.1 hb
      have hD : firstF s p = (c0 % 32 * 64 + c1 % 64, 2) := by rw [hF, show Lib.decodeN (s.size - p) c0 c1 c2 c3 = (c0 % 32 * 64 + c1 % 64, 2) by unfold Lib.decodeN; rw [if_neg h1, if_pos (by omega), if_pos (by omega)], if_neg (fun h => absurd (congrArg Prod.snd h) (by simp))]
      simp only [pureOpC, unc, absRun, absOps, absOp, evO, constSV, ungd, gdP, gdPs, setD, unV, pickV, pureOp, guardOf, retP, resV, retQ, rAs, rA, rA0, ownN, nodup, bares, bare, bare0, guardIs, callP, callS, argS, mAs, mA, mA0, mB0, allNotIn, impN, impB, impT, packS, delL, Op.operands, List.getD, List.getElem?_cons_zero, List.getElem?_cons_succ, Option.getD_some, List.set, List.map, List.toList_toArray, List.getElem?_toArray, Option.bind_some, true_and, and_true, and_false, and_self, implies_true, if_false, eq_self, Bool.false_eq_true, Int.cast_ofNat_Int, Bool.cond_false, List.append_nil, Nat.reduceAdd, Bool.not_true, Bool.not_false, Bool.and_self, Int.reduceEq, hD, hv]
      first | done | trivial | exact ⟨rfl, rfl⟩
    | false =>
      have hb : ¬ (a1 ≤ 1114111 ∧ (a1 < 55296 ∨ 57344 ≤ a1)) := fun h => by rw [hlb.2 h] at hb; cases hb
      have hD : firstF s p = (0, 0) := by rw [hF, if_pos]; unfold Lib.decodeN; rw [if_neg h1, if_pos (by omega), if_neg (by omega)]
      simp only [pureOpC, unc, absRun, absOps, absOp, evO, constSV, ungd, gdP, gdPs, setD, unV, pickV, pureOp, guardOf, retP, resV, retQ, rAs, rA, rA0, ownN, nodup, bares, bare, bare0, guardIs, callP, callS, argS, mAs, mA, mA0, mB0, allNotIn, impN, impB, impT, packS, delL, Op.operands, List.getD, List.getElem?_cons_zero, List.getElem?_cons_succ, Option.getD_some, List.set, List.map, List.toList_toArray, List.getElem?_toArray, Option.bind_some, true_and, and_true, and_false, and_self, implies_true, if_true, eq_self, Int.cast_ofNat_Int, Bool.cond_false, List.append_nil, Nat.reduceAdd, Bool.not_false, Bool.and_self, Int.reduceEq, hD]
      first | done | trivial | exact ⟨rfl, rfl⟩
  by_cases h3 : 224 ≤ c0 ∧ c0 < 240
  · rw [show (ldS c0 : Int) = 3 by unfold ldS; rw [if_neg h1, if_neg h2, if_pos h3]; rfl, show (ldN c0 : Int) = (c0 : Int) - 224 by unfold ldN; rw [if_neg h1, if_neg h2, if_pos h3]; omega, show (ldL c0 : Int) = 2048 by unfold ldL; rw [if_neg h1, if_neg h2, if_pos h3]; rfl] at hL
    have bad : (¬ (2 < s.size - p ∧ c1 / 64 = 2 ∧ c2 / 64 = 2)) → firstF s p = (0, 0) := fun hb => by
      rw [hF, if_pos]
      unfold Lib.decodeN
      rw [if_neg h1, if_neg (by omega), if_neg (by omega), if_neg (by omega)]
    refine call_go TO 100 hL Tryd.func90 (by decide +kernel) rfl rfl rfl ?_
    by_cases hl : s.size < p + 3
    · have d1 : decide ((s.size : Int) < (p : Int) + 3) = true := decide_eq_true (by omega)
      simp only [pureOpC, unc, absRun, absOps, absOp, evO, constSV, ungd, gdP, gdPs, setD, binI, binV, ptrE, T_ty, tTy, extractV, pickV, pureOp, guardOf, lenV, retP, resV, retQ, rAs, rA, rA0, ownN, nodup, bares, bare, bare0, guardIs, callP, callS, argS, mAs, mA, mA0, mB0, allNotIn, impN, impB, impT, packS, delL, Op.operands, Call.operands, List.getD, List.getElem?_cons_zero, List.getElem?_cons_succ, Option.getD_some, List.set, List.map, List.toList_toArray, List.getElem?_toArray, Option.bind_some, true_and, and_self, implies_true, if_true, eq_self, Int.cast_ofNat_Int, Int.reduceBEq, Bool.cond_false, List.append_toArray, List.nil_append, List.append_nil, Nat.reduceAdd, Bool.not_false, Bool.and_self, gt_iff_lt, w3, d1, bad (by omega)]
    have d1 : decide ((s.size : Int) < (p : Int) + 3) = false := decide_eq_false (by omega)
    simp only [pureOpC, unc, absRun, absOps, absOp, evO, constSV, ungd, gdP, gdPs, setD, binI, binV, ptrE, T_ty, tTy, extractV, pickV, pureOp, guardOf, lenV, retP, resV, retQ, rAs, rA, rA0, ownN, nodup, bares, bare, bare0, guardIs, callP, callS, argS, mAs, mA, mA0, mB0, allNotIn, impN, impB, impT, packS, delL, Op.operands, Call.operands, List.getD, List.getElem?_cons_zero, List.getElem?_cons_succ, Option.getD_some, List.set, List.map, List.toList_toArray, List.getElem?_toArray, Option.bind_some, true_and, and_true, and_self, implies_true, if_false, eq_self, Bool.false_eq_true, Int.reduceBEq, Bool.cond_false, List.append_toArray, List.nil_append, List.append_nil, Nat.reduceAdd, Bool.not_false, Bool.and_self, gt_iff_lt, w3, d1]
    refine loop_in (absRun_ok TO 100 _ _ ?_)
    simp only [pureOpC, unc, absRun, absOps, absOp, evO, constSV, ungd, gdP, gdPs, setD, binI, binV, ptrE, convV, T_ty, tTy, indexV, pickV, pureOp, guardOf, known, retP, resV, retQ, rAs, rA, rA0, ownN, nodup, bares, bare, bare0, Op.operands, List.getD, List.getElem?_cons_zero, List.getElem?_cons_succ, Option.getD_some, List.set, List.map, List.toList_toArray, List.getElem?_toArray, Option.bind_some, exitTo, true_and, and_true, and_self, implies_true, imp_self, if_true, eq_self, Int.reduceAdd, Bool.cond_true_left, Nat.reduceAdd, beq_self_eq_true, Bool.and_self, Int.reduceLT, decide_true, ge_iff_le, w1, t1, byN_get, hc1, x1, k2]
    refine ⟨⟨by omega, by omega⟩, ?_⟩
    by_cases g1 : 128 ≤ c1 ∧ c1 < 192
    rotate_left
    · rw [if_pos (by rw [Bool.or_eq_true, decide_eq_true_eq, decide_eq_true_eq]; omega), bad (by omega)]
      exact ⟨rfl, rfl⟩
    rw [if_neg (by rw [Bool.or_eq_true, decide_eq_true_eq, decide_eq_true_eq]; omega)]
    obtain ⟨a1, ha1⟩ : ∃ a : Int, a = 64 * ((c0 : Int) - 224) + c1 - 128 := ⟨_, rfl⟩
    have y1 : IntKind.i64.wrap (IntKind.i64.wrap (IntKind.i64.wrap (64 * ((c0 : Int) - 224)) + (c1 : Int)) - 128) = a1 := by
      rw [w64 (x := 64 * ((c0 : Int) - 224)) (by omega) (by omega), w64 (x := 64 * ((c0 : Int) - 224) + (c1 : Int)) (by omega) (by omega), w64 (by omega) (by omega), ha1]
    rw [y1]
    refine loop_more (absRun_ok TO 100 _ _ ?_)
    simp only [pureOpC, unc, absRun, absOps, absOp, evO, constSV, ungd, gdP, gdPs, setD, binI, binV, ptrE, convV, T_ty, tTy, indexV, pickV, pureOp, guardOf, known, retP, resV, retQ, rAs, rA, rA0, ownN, nodup, bares, bare, bare0, Op.operands, List.getD, List.getElem?_cons_zero, List.getElem?_cons_succ, Option.getD_some, List.set, List.map, List.toList_toArray, List.getElem?_toArray, Option.bind_some, exitTo, true_and, and_true, and_self, implies_true, imp_self, if_true, eq_self, Int.reduceAdd, Bool.cond_true_left, Nat.reduceAdd, beq_self_eq_true, Bool.and_self, Int.reduceLT, decide_true, ge_iff_le, w2, t2, byN_get, hc2, x2, k3]
    refine ⟨⟨by omega, by omega⟩, ?_⟩
    by_cases g2 : 128 ≤ c2 ∧ c2 < 192
    rotate_left
    · rw [if_pos (by rw [Bool.or_eq_true, decide_eq_true_eq, decide_eq_true_eq]; omega), bad (by omega)]
      exact ⟨rfl, rfl⟩
    rw [if_neg (by rw [Bool.or_eq_true, decide_eq_true_eq, decide_eq_true_eq]; omega)]
    obtain ⟨a2, ha2⟩ : ∃ a : Int, a = 64 * a1 + c2 - 128 := ⟨_, rfl⟩
    have y2 : IntKind.i64.wrap (IntKind.i64.wrap (IntKind.i64.wrap (64 * a1) + (c2 : Int)) - 128) = a2 := by
      rw [w64 (x := 64 * a1) (by omega) (by omega), w64 (x := 64 * a1 + (c2 : Int)) (by omega) (by omega), w64 (by omega) (by omega), ha2]
    rw [y2]
    refine loop_more (absRun_ok TO 100 _ _ ?_)
    have hv : (c0 % 16 * 4096 + c1 % 64 * 64 + c2 % 64 : Nat) = a2 := by omega
    by_cases hm : a2 < 2048
    · have hD : firstF s p = (0, 0) := by
        rw [hF, if_pos]
        unfold Lib.decodeN
        rw [if_neg h1, if_neg (by omega), if_pos (by omega), if_neg (by omega)]
      have d2 : decide (a2 < 2048) = true := decide_eq_true hm
      simp only [pureOpC, unc, absRun, absOps, absOp, evO, constSV, ungd, gdP, gdPs, setD, binI, binV, ptrE, convV, T_ty, tTy, indexV, pickV, pureOp, guardOf, known, retP, resV, retQ, rAs, rA, rA0, ownN, nodup, bares, bare, bare0, Op.operands, List.getD, List.getElem?_cons_zero, List.getElem?_cons_succ, Option.getD_some, List.set, List.map, List.toList_toArray, List.getElem?_toArray, Option.bind_some, exitTo, true_and, and_true, and_self, implies_true, imp_self, if_true, if_false, eq_self, Bool.false_eq_true, Int.reduceAdd, Bool.cond_true_left, Nat.reduceAdd, Bool.not_true, beq_self_eq_true, Bool.and_self, Int.reduceLT, decide_false, ge_iff_le, d2]
      refine skip_go TO 100 (.bool false) ?_
      simp only [pureOpC, unc, absRun, absOps, absOp, evO, constSV, ungd, gdP, gdPs, setD, unV, pickV, pureOp, guardOf, retP, resV, retQ, rAs, rA, rA0, ownN, nodup, bares, bare, bare0, guardIs, Op.operands, List.getD, List.getElem?_cons_zero, List.getElem?_cons_succ, Option.getD_some, List.set, List.map, List.toList_toArray, List.getElem?_toArray, Option.bind_some, true_and, and_true, and_false, and_self, implies_true, imp_self, if_true, eq_self, Bool.false_eq_true, Int.cast_ofNat_Int, Bool.cond_true, Nat.reduceAdd, Bool.not_true, Bool.not_false, Bool.and_self, Int.reduceEq, hD]
    have d2 : decide (a2 < 2048) = false := decide_eq_false hm
    have hLt := Letter_meets a2
    simp only [pureOpC, unc, absRun, absOps, absOp, evO, constSV, ungd, gdP, gdPs, setD, binI, binV, ptrE, convV, T_ty, tTy, indexV, pickV, pureOp, guardOf, known, retP, resV, retQ, rAs, rA, rA0, ownN, nodup, bares, bare, bare0, Op.operands, List.getD, List.getElem?_cons_zero, List.getElem?_cons_succ, Option.getD_some, List.set, List.map, List.toList_toArray, List.getElem?_toArray, Option.bind_some, exitTo, true_and, and_true, and_self, implies_true, imp_self, if_true, if_false, eq_self, Bool.false_eq_true, Int.reduceAdd, Bool.cond_true_left, Nat.reduceAdd, Bool.not_false, beq_self_eq_true, Bool.and_self, Int.reduceLT, decide_false, ge_iff_le, d2]
    refine call_go TO 100 hLt Tryd.func87 (by decide +kernel) rfl rfl rfl ?_
    have hlb : letB a2 = true ↔ (a2 ≤ 1114111 ∧ (a2 < 55296 ∨ 57344 ≤ a2)) := by
      unfold letB; rw [Bool.and_eq_true, Bool.and_eq_true, Bool.or_eq_true, decide_eq_true_eq, decide_eq_true_eq, decide_eq_true_eq, decide_eq_true_eq]; omega
    cases hb : letB a2 with
    | true =>
      have hb := hlb.1 hb
      have hD : firstF s p = (c0 % 16 * 4096 + c1 % 64 * 64 + c2 % 64, 3) := by rw [hF, show Lib.decodeN (s.size - p) c0 c1 c2 c3 = (c0 % 16 * 4096 + c1 % 64 * 64 + c2 % 64, 3) by unfold Lib.decodeN; rw [if_neg h1, if_neg (by omega), if_pos (by omega), if_pos (by omega)], if_neg (fun h => absurd (congrArg Prod.snd h) (by simp))]
      simp only [pureOpC, unc, absRun, absOps, absOp, evO, constSV, ungd, gdP, gdPs, setD, unV, pickV, pureOp, guardOf, retP, resV, retQ, rAs, rA, rA0, ownN, nodup, bares, bare, bare0, guardIs, callP, callS, argS, mAs, mA, mA0, mB0, allNotIn, impN, impB, impT, packS, delL, Op.operands, List.getD, List.getElem?_cons_zero, List.getElem?_cons_succ, Option.getD_some, List.set, List.map, List.toList_toArray, List.getElem?_toArray, Option.bind_some, true_and, and_true, and_false, and_self, implies_true, if_false, eq_self, Bool.false_eq_true, Int.cast_ofNat_Int, Bool.cond_false, List.append_nil, Nat.reduceAdd, Bool.not_true, Bool.not_false, Bool.and_self, Int.reduceEq, hD, hv]
      first | done | trivial | exact ⟨rfl, rfl⟩
    | false =>
      have hb : ¬ (a2 ≤ 1114111 ∧ (a2 < 55296 ∨ 57344 ≤ a2)) := fun h => by rw [hlb.2 h] at hb; cases hb
      have hD : firstF s p = (0, 0) := by rw [hF, if_pos]; unfold Lib.decodeN; rw [if_neg h1, if_neg (by omega), if_pos (by omega), if_neg (by omega)]
      simp only [pureOpC, unc, absRun, absOps, absOp, evO, constSV, ungd, gdP, gdPs, setD, unV, pickV, pureOp, guardOf, retP, resV, retQ, rAs, rA, rA0, ownN, nodup, bares, bare, bare0, guardIs, callP, callS, argS, mAs, mA, mA0, mB0, allNotIn, impN, impB, impT, packS, delL, Op.operands, List.getD, List.getElem?_cons_zero, List.getElem?_cons_succ, Option.getD_some, List.set, List.map, List.toList_toArray, List.getElem?_toArray, Option.bind_some, true_and, and_true, and_false, and_self, implies_true, if_true, eq_self, Int.cast_ofNat_Int, Bool.cond_false, List.append_nil, Nat.reduceAdd, Bool.not_false, Bool.and_self, Int.reduceEq, hD]
      first | done | trivial | exact ⟨rfl, rfl⟩
  by_cases h4 : 240 ≤ c0 ∧ c0 < 248
  · rw [show (ldS c0 : Int) = 4 by unfold ldS; rw [if_neg h1, if_neg h2, if_neg h3, if_pos h4]; rfl, show (ldN c0 : Int) = (c0 : Int) - 240 by unfold ldN; rw [if_neg h1, if_neg h2, if_neg h3, if_pos h4]; omega, show (ldL c0 : Int) = 65536 by unfold ldL; rw [if_neg h1, if_neg h2, if_neg h3, if_pos h4]; rfl] at hL
    have bad : (¬ (3 < s.size - p ∧ c1 / 64 = 2 ∧ c2 / 64 = 2 ∧ c3 / 64 = 2)) → firstF s p = (0, 0) := fun hb => by
      rw [hF, if_pos]
      unfold Lib.decodeN
      rw [if_neg h1, if_neg (by omega), if_neg (by omega), if_neg (by omega)]
    refine call_go TO 100 hL Tryd.func90 (by decide +kernel) rfl rfl rfl ?_
    by_cases hl : s.size < p + 4
    · have d1 : decide ((s.size : Int) < (p : Int) + 4) = true := decide_eq_true (by omega)
      simp only [pureOpC, unc, absRun, absOps, absOp, evO, constSV, ungd, gdP, gdPs, setD, binI, binV, ptrE, T_ty, tTy, extractV, pickV, pureOp, guardOf, lenV, retP, resV, retQ, rAs, rA, rA0, ownN, nodup, bares, bare, bare0, guardIs, callP, callS, argS, mAs, mA, mA0, mB0, allNotIn, impN, impB, impT, packS, delL, Op.operands, Call.operands, List.getD, List.getElem?_cons_zero, List.getElem?_cons_succ, Option.getD_some, List.set, List.map, List.toList_toArray, List.getElem?_toArray, Option.bind_some, true_and, and_self, implies_true, if_true, eq_self, Int.cast_ofNat_Int, Int.reduceBEq, Bool.cond_false, List.append_toArray, List.nil_append, List.append_nil, Nat.reduceAdd, Bool.not_false, Bool.and_self, gt_iff_lt, w4, d1, bad (by omega)]
    have d1 : decide ((s.size : Int) < (p : Int) + 4) = false := decide_eq_false (by omega)
    simp only [pureOpC, unc, absRun, absOps, absOp, evO, constSV, ungd, gdP, gdPs, setD, binI, binV, ptrE, T_ty, tTy, extractV, pickV, pureOp, guardOf, lenV, retP, resV, retQ, rAs, rA, rA0, ownN, nodup, bares, bare, bare0, guardIs, callP, callS, argS, mAs, mA, mA0, mB0, allNotIn, impN, impB, impT, packS, delL, Op.operands, Call.operands, List.getD, List.getElem?_cons_zero, List.getElem?_cons_succ, Option.getD_some, List.set, List.map, List.toList_toArray, List.getElem?_toArray, Option.bind_some, true_and, and_true, and_self, implies_true, if_false, eq_self, Bool.false_eq_true, Int.reduceBEq, Bool.cond_false, List.append_toArray, List.nil_append, List.append_nil, Nat.reduceAdd, Bool.not_false, Bool.and_self, gt_iff_lt, w4, d1]
    refine loop_in (absRun_ok TO 100 _ _ ?_)
    simp only [pureOpC, unc, absRun, absOps, absOp, evO, constSV, ungd, gdP, gdPs, setD, binI, binV, ptrE, convV, T_ty, tTy, indexV, pickV, pureOp, guardOf, known, retP, resV, retQ, rAs, rA, rA0, ownN, nodup, bares, bare, bare0, Op.operands, List.getD, List.getElem?_cons_zero, List.getElem?_cons_succ, Option.getD_some, List.set, List.map, List.toList_toArray, List.getElem?_toArray, Option.bind_some, exitTo, true_and, and_true, and_self, implies_true, imp_self, if_true, eq_self, Int.reduceAdd, Bool.cond_true_left, Nat.reduceAdd, beq_self_eq_true, Bool.and_self, Int.reduceLT, decide_true, ge_iff_le, w1, t1, byN_get, hc1, x1, k2]
    refine ⟨⟨by omega, by omega⟩, ?_⟩
    by_cases g1 : 128 ≤ c1 ∧ c1 < 192
    rotate_left
    · rw [if_pos (by rw [Bool.or_eq_true, decide_eq_true_eq, decide_eq_true_eq]; omega), bad (by omega)]
      exact ⟨rfl, rfl⟩
    rw [if_neg (by rw [Bool.or_eq_true, decide_eq_true_eq, decide_eq_true_eq]; omega)]
    obtain ⟨a1, ha1⟩ : ∃ a : Int, a = 64 * ((c0 : Int) - 240) + c1 - 128 := ⟨_, rfl⟩
    have y1 : IntKind.i64.wrap (IntKind.i64.wrap (IntKind.i64.wrap (64 * ((c0 : Int) - 240)) + (c1 : Int)) - 128) = a1 := by
      rw [w64 (x := 64 * ((c0 : Int) - 240)) (by omega) (by omega), w64 (x := 64 * ((c0 : Int) - 240) + (c1 : Int)) (by omega) (by omega), w64 (by omega) (by omega), ha1]
    rw [y1]
    refine loop_more (absRun_ok TO 100 _ _ ?_)
    simp only [pureOpC, unc, absRun, absOps, absOp, evO, constSV, ungd, gdP, gdPs, setD, binI, binV, ptrE, convV, T_ty, tTy, indexV, pickV, pureOp, guardOf, known, retP, resV, retQ, rAs, rA, rA0, ownN, nodup, bares, bare, bare0, Op.operands, List.getD, List.getElem?_cons_zero, List.getElem?_cons_succ, Option.getD_some, List.set, List.map, List.toList_toArray, List.getElem?_toArray, Option.bind_some, exitTo, true_and, and_true, and_self, implies_true, imp_self, if_true, eq_self, Int.reduceAdd, Bool.cond_true_left, Nat.reduceAdd, beq_self_eq_true, Bool.and_self, Int.reduceLT, decide_true, ge_iff_le, w2, t2, byN_get, hc2, x2, k3]
    refine ⟨⟨by omega, by omega⟩, ?_⟩
    by_cases g2 : 128 ≤ c2 ∧ c2 < 192
    rotate_left
    · rw [if_pos (by rw [Bool.or_eq_true, decide_eq_true_eq, decide_eq_true_eq]; omega), bad (by omega)]
      exact ⟨rfl, rfl⟩
    rw [if_neg (by rw [Bool.or_eq_true, decide_eq_true_eq, decide_eq_true_eq]; omega)]
    obtain ⟨a2, ha2⟩ : ∃ a : Int, a = 64 * a1 + c2 - 128 := ⟨_, rfl⟩
    have y2 : IntKind.i64.wrap (IntKind.i64.wrap (IntKind.i64.wrap (64 * a1) + (c2 : Int)) - 128) = a2 := by
      rw [w64 (x := 64 * a1) (by omega) (by omega), w64 (x := 64 * a1 + (c2 : Int)) (by omega) (by omega), w64 (by omega) (by omega), ha2]
    rw [y2]
    refine loop_more (absRun_ok TO 100 _ _ ?_)
    simp only [pureOpC, unc, absRun, absOps, absOp, evO, constSV, ungd, gdP, gdPs, setD, binI, binV, ptrE, convV, T_ty, tTy, indexV, pickV, pureOp, guardOf, known, retP, resV, retQ, rAs, rA, rA0, ownN, nodup, bares, bare, bare0, Op.operands, List.getD, List.getElem?_cons_zero, List.getElem?_cons_succ, Option.getD_some, List.set, List.map, List.toList_toArray, List.getElem?_toArray, Option.bind_some, exitTo, true_and, and_true, and_self, implies_true, imp_self, if_true, eq_self, Int.reduceAdd, Bool.cond_true_left, Nat.reduceAdd, beq_self_eq_true, Bool.and_self, Int.reduceLT, decide_true, ge_iff_le, w3, t3, byN_get, hc3, x3, k4]
    refine ⟨⟨by omega, by omega⟩, ?_⟩
    by_cases g3 : 128 ≤ c3 ∧ c3 < 192
    rotate_left
    · rw [if_pos (by rw [Bool.or_eq_true, decide_eq_true_eq, decide_eq_true_eq]; omega), bad (by omega)]
      exact ⟨rfl, rfl⟩
    rw [if_neg (by rw [Bool.or_eq_true, decide_eq_true_eq, decide_eq_true_eq]; omega)]
    obtain ⟨a3, ha3⟩ : ∃ a : Int, a = 64 * a2 + c3 - 128 := ⟨_, rfl⟩
    have y3 : IntKind.i64.wrap (IntKind.i64.wrap (IntKind.i64.wrap (64 * a2) + (c3 : Int)) - 128) = a3 := by
      rw [w64 (x := 64 * a2) (by omega) (by omega), w64 (x := 64 * a2 + (c3 : Int)) (by omega) (by omega), w64 (by omega) (by omega), ha3]
    rw [y3]
    refine loop_more (absRun_ok TO 100 _ _ ?_)
    have hv : (c0 % 8 * 262144 + c1 % 64 * 4096 + c2 % 64 * 64 + c3 % 64 : Nat) = a3 := by omega
    by_cases hm : a3 < 65536
    · have hD : firstF s p = (0, 0) := by
        rw [hF, if_pos]
        unfold Lib.decodeN
        rw [if_neg h1, if_neg (by omega), if_neg (by omega), if_pos (by omega), if_neg (by omega)]
      have d2 : decide (a3 < 65536) = true := decide_eq_true hm
      simp only [pureOpC, unc, absRun, absOps, absOp, evO, constSV, ungd, gdP, gdPs, setD, binI, binV, ptrE, convV, T_ty, tTy, indexV, pickV, pureOp, guardOf, known, retP, resV, retQ, rAs, rA, rA0, ownN, nodup, bares, bare, bare0, Op.operands, List.getD, List.getElem?_cons_zero, List.getElem?_cons_succ, Option.getD_some, List.set, List.map, List.toList_toArray, List.getElem?_toArray, Option.bind_some, exitTo, true_and, and_true, and_self, implies_true, imp_self, if_true, if_false, eq_self, Bool.false_eq_true, Int.reduceAdd, Bool.cond_true_left, Nat.reduceAdd, Bool.not_true, beq_self_eq_true, Bool.and_self, Int.reduceLT, decide_false, ge_iff_le, d2]
      refine skip_go TO 100 (.bool false) ?_
      simp only [pureOpC, unc, absRun, absOps, absOp, evO, constSV, ungd, gdP, gdPs, setD, unV, pickV, pureOp, guardOf, retP, resV, retQ, rAs, rA, rA0, ownN, nodup, bares, bare, bare0, guardIs, Op.operands, List.getD, List.getElem?_cons_zero, List.getElem?_cons_succ, Option.getD_some, List.set, List.map, List.toList_toArray, List.getElem?_toArray, Option.bind_some, true_and, and_true, and_false, and_self, implies_true, imp_self, if_true, eq_self, Bool.false_eq_true, Int.cast_ofNat_Int, Bool.cond_true, Nat.reduceAdd, Bool.not_true, Bool.not_false, Bool.and_self, Int.reduceEq, hD]
    have d2 : decide (a3 < 65536) = false := decide_eq_false hm
    have hLt := Letter_meets a3
    simp only [pureOpC, unc, absRun, absOps, absOp, evO, constSV, ungd, gdP, gdPs, setD, binI, binV, ptrE, convV, T_ty, tTy, indexV, pickV, pureOp, guardOf, known, retP, resV, retQ, rAs, rA, rA0, ownN, nodup, bares, bare, bare0, Op.operands, List.getD, List.getElem?_cons_zero, List.getElem?_cons_succ, Option.getD_some, List.set, List.map, List.toList_toArray, List.getElem?_toArray, Option.bind_some, exitTo, true_and, and_true, and_self, implies_true, imp_self, if_true, if_false, eq_self, Bool.false_eq_true, Int.reduceAdd, Bool.cond_true_left, Nat.reduceAdd, Bool.not_false, beq_self_eq_true, Bool.and_self, Int.reduceLT, decide_false, ge_iff_le, d2]
    refine call_go TO 100 hLt Tryd.func87 (by decide +kernel) rfl rfl rfl ?_
    have hlb : letB a3 = true ↔ (a3 ≤ 1114111 ∧ (a3 < 55296 ∨ 57344 ≤ a3)) := by
      unfold letB; rw [Bool.and_eq_true, Bool.and_eq_true, Bool.or_eq_true, decide_eq_true_eq, decide_eq_true_eq, decide_eq_true_eq, decide_eq_true_eq]; omega
    cases hb : letB a3 with
    | true =>
      have hb := hlb.1 hb
      have hD : firstF s p = (c0 % 8 * 262144 + c1 % 64 * 4096 + c2 % 64 * 64 + c3 % 64, 4) := by rw [hF, show Lib.decodeN (s.size - p) c0 c1 c2 c3 = (c0 % 8 * 262144 + c1 % 64 * 4096 + c2 % 64 * 64 + c3 % 64, 4) by unfold Lib.decodeN; rw [if_neg h1, if_neg (by omega), if_neg (by omega), if_pos (by omega), if_pos (by omega)], if_neg (fun h => absurd (congrArg Prod.snd h) (by simp))]
      simp only [pureOpC, unc, absRun, absOps, absOp, evO, constSV, ungd, gdP, gdPs, setD, unV, pickV, pureOp, guardOf, retP, resV, retQ, rAs, rA, rA0, ownN, nodup, bares, bare, bare0, guardIs, callP, callS, argS, mAs, mA, mA0, mB0, allNotIn, impN, impB, impT, packS, delL, Op.operands, List.getD, List.getElem?_cons_zero, List.getElem?_cons_succ, Option.getD_some, List.set, List.map, List.toList_toArray, List.getElem?_toArray, Option.bind_some, true_and, and_true, and_false, and_self, implies_true, if_false, eq_self, Bool.false_eq_true, Int.cast_ofNat_Int, Bool.cond_false, List.append_nil, Nat.reduceAdd, Bool.not_true, Bool.not_false, Bool.and_self, Int.reduceEq, hD, hv]
      first | done | trivial | exact ⟨rfl, rfl⟩
    | false =>
      have hb : ¬ (a3 ≤ 1114111 ∧ (a3 < 55296 ∨ 57344 ≤ a3)) := fun h => by rw [hlb.2 h] at hb; cases hb
      have hD : firstF s p = (0, 0) := by rw [hF, if_pos]; unfold Lib.decodeN; rw [if_neg h1, if_neg (by omega), if_neg (by omega), if_pos (by omega), if_neg (by omega)]
      simp only [pureOpC, unc, absRun, absOps, absOp, evO, constSV, ungd, gdP, gdPs, setD, unV, pickV, pureOp, guardOf, retP, resV, retQ, rAs, rA, rA0, ownN, nodup, bares, bare, bare0, guardIs, callP, callS, argS, mAs, mA, mA0, mB0, allNotIn, impN, impB, impT, packS, delL, Op.operands, List.getD, List.getElem?_cons_zero, List.getElem?_cons_succ, Option.getD_some, List.set, List.map, List.toList_toArray, List.getElem?_toArray, Option.bind_some, true_and, and_true, and_false, and_self, implies_true, if_true, eq_self, Int.cast_ofNat_Int, Bool.cond_false, List.append_nil, Nat.reduceAdd, Bool.not_false, Bool.and_self, Int.reduceEq, hD]
      first | done | trivial | exact ⟨rfl, rfl⟩
  · rw [show (ldS c0 : Int) = 0 by unfold ldS; rw [if_neg h1, if_neg h2, if_neg h3, if_neg h4]; rfl] at hL
    have hD : firstF s p = (0, 0) := by rw [hF, if_pos]; unfold Lib.decodeN; rw [if_neg h1, if_neg (by omega), if_neg (by omega), if_neg (by omega)]
    refine call_go TO 100 hL Tryd.func90 (by decide +kernel) rfl rfl rfl ?_
    simp only [pureOpC, unc, absRun, absOps, absOp, evO, constSV, ungd, gdP, gdPs, setD, binI, binV, ptrE, T_ty, tTy, extractV, pickV, pureOp, guardOf, lenV, retP, resV, retQ, rAs, rA, rA0, ownN, nodup, bares, bare, bare0, guardIs, callP, callS, argS, mAs, mA, mA0, mB0, allNotIn, impN, impB, impT, packS, delL, Op.operands, Call.operands, List.getD, List.getElem?_cons_zero, List.getElem?_cons_succ, Option.getD_some, List.set, List.map, List.toList_toArray, List.getElem?_toArray, Option.bind_some, true_and, and_self, implies_true, imp_self, if_true, eq_self, Bool.false_eq_true, Int.add_zero, Int.cast_ofNat_Int, Bool.cond_true, List.append_toArray, List.nil_append, List.append_nil, Nat.reduceAdd, Bool.not_true, beq_self_eq_true, Bool.and_self, gt_iff_lt, hD]

end Go.Proofs.YtakgefinmlomdaaDoor.Abs
