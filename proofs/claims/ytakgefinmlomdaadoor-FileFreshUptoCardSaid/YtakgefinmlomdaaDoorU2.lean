/- UTF-8 as UTF-16: the document's Letters, units, Put; the program's Units, Put. -/
import Derived.Test.YtakgefinmlomdaaDoorU1
set_option linter.unusedVariables false
set_option linter.unusedSimpArgs false
set_option maxRecDepth 100000
namespace Go.Proofs.YtakgefinmlomdaaDoor.Abs
open Go Go.Proofs

def badP (s : ByteArray) (p : Nat) : Bool := decide (Utf8.decode s p = (65533, 1))
def lettersF (s : ByteArray) : Nat → Nat → List Int
  | 0, _ => []
  | n + 1, p => if p < s.size then (if badP s p = true then ((1114112 + byN s p : Nat) : Int) else ((Utf8.decode s p).1 : Int)) :: lettersF s n (p + (Utf8.decode s p).2) else []
def allF (s : ByteArray) : Nat → Nat → Bool
  | 0, _ => true
  | n + 1, p => if p < s.size then !badP s p && allF s n (p + (Utf8.decode s p).2) else true

theorem dec_width (s : ByteArray) (p : Nat) (hp : p < s.size) : 1 ≤ (Utf8.decode s p).2 ∧ p + (Utf8.decode s p).2 ≤ s.size := by
  rw [Lib.decode_at]
  have h2 := Lib.decodeN_le_n' (s.size - p) (s.get! p).toNat (s.get! (p + 1)).toNat (s.get! (p + 2)).toNat (s.get! (p + 3)).toNat (by omega)
  refine ⟨?_, by omega⟩
  unfold Lib.decodeN
  repeat' split
  all_goals simp

theorem lettersF_fuel (s : ByteArray) : ∀ (n m p : Nat), s.size - p ≤ n → s.size - p ≤ m → lettersF s n p = lettersF s m p
  | 0, 0, _, _, _ => rfl
  | 0, m + 1, p, h, _ => by simp only [lettersF]; rw [if_neg (by omega)]
  | n + 1, 0, p, _, h => by simp only [lettersF]; rw [if_neg (by omega)]
  | n + 1, m + 1, p, h1, h2 => by
    simp only [lettersF]
    by_cases hp : p < s.size
    · have := dec_width s p hp
      rw [if_pos hp, if_pos hp, lettersF_fuel s n m _ (by omega) (by omega)]
    · rw [if_neg hp, if_neg hp]

theorem allF_fuel (s : ByteArray) : ∀ (n m p : Nat), s.size - p ≤ n → s.size - p ≤ m → allF s n p = allF s m p
  | 0, 0, _, _, _ => rfl
  | 0, m + 1, p, h, _ => by simp only [allF]; rw [if_neg (by omega)]
  | n + 1, 0, p, _, h => by simp only [allF]; rw [if_neg (by omega)]
  | n + 1, m + 1, p, h1, h2 => by
    simp only [allF]
    by_cases hp : p < s.size
    · have := dec_width s p hp
      rw [if_pos hp, if_pos hp, allF_fuel s n m _ (by omega) (by omega)]
    · rw [if_neg hp, if_neg hp]

/-- From a place on. -/
def letAt (s : ByteArray) (p : Nat) : List Int := lettersF s (s.size - p) p
def allAt (s : ByteArray) (p : Nat) : Bool := allF s (s.size - p) p

theorem letAt_step (s : ByteArray) (p : Nat) (hp : p < s.size) : letAt s p = (if badP s p = true then ((1114112 + byN s p : Nat) : Int) else ((Utf8.decode s p).1 : Int)) :: letAt s (p + (Utf8.decode s p).2) := by
  unfold letAt
  obtain ⟨n, hn⟩ : ∃ n, s.size - p = n + 1 := ⟨s.size - p - 1, by omega⟩
  have := dec_width s p hp
  rw [hn]
  simp only [lettersF]
  rw [if_pos hp, lettersF_fuel s n (s.size - (p + (Utf8.decode s p).2)) _ (by omega) (by omega)]

theorem allAt_step (s : ByteArray) (p : Nat) (hp : p < s.size) : allAt s p = (!badP s p && allAt s (p + (Utf8.decode s p).2)) := by
  unfold allAt
  obtain ⟨n, hn⟩ : ∃ n, s.size - p = n + 1 := ⟨s.size - p - 1, by omega⟩
  have := dec_width s p hp
  rw [hn]
  simp only [allF]
  rw [if_pos hp, allF_fuel s n (s.size - (p + (Utf8.decode s p).2)) _ (by omega) (by omega)]

theorem letAt_end (s : ByteArray) (p : Nat) (hp : ¬ p < s.size) : letAt s p = [] := by unfold letAt; rw [show s.size - p = 0 by omega]; rfl
theorem allAt_end (s : ByteArray) (p : Nat) (hp : ¬ p < s.size) : allAt s p = true := by unfold allAt; rw [show s.size - p = 0 by omega]; rfl

theorem dec_lt (s : ByteArray) (p : Nat) : (Utf8.decode s p).1 ≤ 1114111 := by
  rw [Lib.decode_at]
  have b0 := (s.get! p).toNat_lt
  generalize (s.get! p).toNat = c0 at *
  generalize (s.get! (p + 1)).toNat = c1
  generalize (s.get! (p + 2)).toNat = c2
  generalize (s.get! (p + 3)).toNat = c3
  unfold Lib.decodeN
  repeat' split
  all_goals (simp only; omega)

theorem letAt_len (s : ByteArray) : ∀ (n p : Nat), s.size - p ≤ n → (letAt s p).length ≤ s.size - p
  | 0, p, h => by rw [letAt_end s p (by omega)]; simp
  | n + 1, p, h => by
    by_cases hp : p < s.size
    · have h1 := dec_width s p hp
      have h2 := letAt_len s n (p + (Utf8.decode s p).2) (by omega)
      rw [letAt_step s p hp, List.length_cons]
      omega
    · rw [letAt_end s p hp]; simp

/-- The kit's word for a text is this one. -/
theorem valid_all (s : ByteArray) : ∀ (n p : Nat), s.size - p ≤ n → Lib.validD (s.data.toList.drop p) = allAt s p
  | 0, p, h => by
    rw [allAt_end s p (by omega), List.drop_eq_nil_of_le (by rw [Array.length_toList]; show s.size ≤ p; omega)]
    rfl
  | n + 1, p, h => by
    by_cases hp : p < s.size
    · have h1 := dec_width s p hp
      have hne : s.data.toList.drop p ≠ [] := by
        intro h0
        have := congrArg List.length h0
        rw [List.length_drop, Array.length_toList] at this
        have : s.size - p = 0 := this
        omega
      rw [allAt_step s p hp, Lib.validD_step _ hne, Lib.decodeL_drop, List.drop_drop, valid_all s n (p + (Utf8.decode s p).2) (by omega)]
      unfold badP
      by_cases hb : Utf8.decode s p = (65533, 1)
      · rw [if_pos (by rw [hb]; exact ⟨rfl, rfl⟩), decide_eq_true hb]; rfl
      · rw [if_neg (fun h => hb (Prod.ext h.1 h.2)), decide_eq_false hb]; simp
    · rw [allAt_end s p hp, List.drop_eq_nil_of_le (by rw [Array.length_toList]; show s.size ≤ p; omega)]
      rfl

theorem validD_eq (s : ByteArray) : Lib.validD s.data.toList = allAt s 0 := valid_all s s.size 0 (by omega)

set_option maxHeartbeats 4000000 in
theorem Letters_meets (s : ByteArray) (hs : s.size ≤ 140737488351232 / 8) : Meets Tryd.prog 74 [.v (.str s)] [.own (.ints .i64 (letAt s 0)), .v (.bool (allAt s 0))] := by
  refine meets_go TO 100 Tryd.func74 rfl (fun X => ?_)
  simp only [Tryd.ntmps74, Tryd.results74, pureOpC, svs, blks, AV.sv, absRun, absOps, absOp, evO, constSV, ungd, gdP, gdPs, setD, Op.operands, List.set, List.toList_toArray, true_and, and_self, Nat.zero_add, List.cons_append, List.nil_append, List.length_cons, List.length_nil, Nat.reduceAdd, Nat.reduceSub, List.replicate_succ, List.replicate_zero]
  refine nil_go 4 34 (.ints .i64 []) rfl ⟨by simp, rfl⟩ ?_
  simp only [upd, Data.esz, List.set, Nat.reduceAdd]
  refine loop_up (fun x : Nat × List Int × Bool × Bool × Nat × Nat => x.1 ≤ s.size ∧ x.2.1 ++ letAt s x.1 = letAt s 0 ∧ (x.2.2.1 && allAt s x.1) = allAt s 0 ∧ x.2.1.length ≤ x.1)
    (fun x => ⟨tl 40 0 [(0, .str s), (4, .sl (cond x.2.2.2.1 34 28) x.2.2.2.2.1 0 1 0 x.2.1.length), (5, .bool x.2.2.1), (6, .int .i64 x.1)], [(cond x.2.2.2.1 34 28, x.2.2.2.2.1, .vec (.ints .i64 x.2.1))], ⟨x.2.2.2.2.2, [], 0⟩⟩) (fun x => s.size - x.1) (0, [], true, true, 6, 8) ⟨Nat.zero_le _, rfl, rfl, Nat.le_refl _⟩ ⟨rfl, ?_, ?_⟩ ?_
  · simp [LeT, tl]
  · intro m x hx
    simpa [fnd] using hx
  rintro ⟨p, out, is, fl, g, c⟩ ⟨hp, hl, ha, hol⟩ ih
  cases fl
  all_goals
    simp only at hp hl ha hol
    refine absRun_ok TO 100 _ _ ?_
    simp only [pureOpC, unc, absRun, absOps, absOp, evO, ungd, gdP, gdPs, setD, binI, binV, ptrE, T_ty, tTy, pureOp, memOp, lenV, notIn, blkAt, fnd, Data.len, Data.esz, retP, resV, retQ, rAs, rA, rA0, ownN, nodup, bares, bare, bare0, bareD, Op.operands, Call.operands, List.getD, List.getElem?_cons_zero, List.getElem?_cons_succ, Option.getD_some, List.set, List.map, List.toList_toArray, exitTo, true_and, and_true, and_self, if_true, eq_self, Nat.zero_add, Bool.cond_true, Bool.cond_false, List.append_toArray, List.cons_append, List.nil_append, Nat.reduceAdd, Nat.reduceSub, beq_self_eq_true, List.replicate_succ, List.replicate_zero, Bool.and_self, Data.ints.injEq, tl]
    by_cases hps : p < s.size
    · rw [if_pos (decide_eq_true (by omega))]
      have hw := dec_width s p hps
      have hd := dec_lt s p
      have hF := first_meets s p (by omega) hps
      rw [letAt_step s p hps] at hl
      rw [allAt_step s p hps] at ha
      have hbl := byN_lt s p
      by_cases hb : badP s p = true
      · have hf : firstF s p = (0, 0) := by unfold firstF; rw [if_pos (of_decide_eq_true hb)]
        have h1 : (Utf8.decode s p).2 = 1 := by rw [of_decide_eq_true hb]
        rw [hf] at hF
        rw [if_pos hb, h1] at hl
        rw [hb, h1] at ha
        refine call_go TO 100 hF Tryd.func83 (by decide +kernel) rfl rfl rfl ?_
        simp only [List.take_succ_cons, List.take_zero, List.drop_zero, pureOpC, unc, fitT, absRun, absOps, absOp, evO, constSV, ungd, gdP, gdPs, setD, binI, binV, ptrE, convV, T_ty, T_size, T_bytes, T_zero, tTy, tSize, tBytes, tZero, indexV, extractV, pureOp, memOp, newV, notIn, dataOf, appD, isSrc, elemsOf, intsOf, zI, known, blkAt, fnd, upd, del, mv, Data.len, Data.esz, Data.sub, Lim.add, ownN, nodup, bares, bare, bare0, guardIs, callP, callS, argS, mAs, mA, mA0, mB0, allNotIn, impN, impB, impT, packS, delL, Op.operands, Call.operands, List.getD, List.getElem?_cons_zero, List.getElem?_cons_succ, Option.getD_some, List.set, List.map, List.toList_toArray, Option.map_some, exitTo, true_and, and_self, if_true, if_false, eq_self, Bool.false_eq_true, Nat.zero_add, Int.add_zero, Int.toNat_natCast, Int.cast_ofNat_Int, Nat.le_refl, List.append_toArray, List.nil_append, List.append_nil, List.length_cons, List.length_nil, Nat.reduceEqDiff, Nat.reduceBEq, Nat.reduceLeDiff, Nat.succ_ne_self, beq_self_eq_true, Bool.and_self, byN_get]
        refine ⟨⟨by omega, by omega⟩, ⟨by omega, by omega⟩, ?_⟩
        rw [w64 (x := (byN s p : Int)) (by omega) (by omega), w64 (by omega) (by omega), w64 (by omega) (by omega)]
        refine ih (p + 1, out ++ [((1114112 + byN s p : Nat) : Int)], false, false, c + 1 + 1 + 1 + 1, _) _ ⟨hps, by rw [← hl]; simp, by rw [← ha]; simp, by simp only [List.length_append, List.length_cons, List.length_nil]; omega⟩ (by simp only; omega) rfl ?_ ?_
        · simp [LeT, tl]
        · intro m x hx
          simp only [fnd] at hx ⊢
          split at hx
          · rename_i e; subst e; simpa using hx
          cases hx
      · have hbf : badP s p = false := by simpa using hb
        have hne : ¬ Utf8.decode s p = (65533, 1) := of_decide_eq_false hbf
        have hf : firstF s p = Utf8.decode s p := by unfold firstF; rw [if_neg hne]
        rw [hf] at hF
        rw [if_neg hb] at hl
        rw [hbf] at ha
        generalize Utf8.decode s p = d at *
        have d0 : ((d.2 : Int) == 0) = false := by simp; omega
        refine call_go TO 100 hF Tryd.func83 (by decide +kernel) rfl rfl rfl ?_
        simp only [List.take_succ_cons, List.take_zero, List.drop_zero, pureOpC, unc, fitT, absRun, absOps, absOp, evO, constSV, ungd, gdP, gdPs, setD, binI, binV, ptrE, convV, T_ty, T_size, T_bytes, T_zero, tTy, tSize, tBytes, tZero, indexV, extractV, pureOp, memOp, newV, notIn, dataOf, appD, isSrc, elemsOf, intsOf, zI, known, blkAt, fnd, upd, del, mv, Data.len, Data.esz, Data.sub, Lim.add, ownN, nodup, bares, bare, bare0, guardIs, callP, callS, argS, mAs, mA, mA0, mB0, allNotIn, impN, impB, impT, packS, delL, Op.operands, Call.operands, List.getD, List.getElem?_cons_zero, List.getElem?_cons_succ, Option.getD_some, List.set, List.map, List.toList_toArray, Option.map_some, exitTo, true_and, and_self, if_true, if_false, eq_self, Bool.false_eq_true, Nat.zero_add, Int.toNat_natCast, Nat.le_refl, List.append_toArray, List.nil_append, List.append_nil, List.length_cons, List.length_nil, Nat.reduceEqDiff, Nat.reduceBEq, Nat.reduceLeDiff, Nat.succ_ne_self, beq_self_eq_true, Bool.and_self, d0]
        refine ⟨⟨by omega, by omega⟩, ?_⟩
        rw [w64 (by omega) (by omega)]
        refine ih (p + d.2, out ++ [(d.1 : Int)], is, true, c + 1 + 1 + 1 + 1, _) _ ⟨hw.2, by rw [← hl]; simp, by rw [← ha]; simp, by simp only [List.length_append, List.length_cons, List.length_nil]; omega⟩ (by simp only; omega) rfl ?_ ?_
        · simp [LeT, tl]
        · intro m x hx
          simp only [fnd] at hx ⊢
          split at hx
          · rename_i e; subst e; simpa using hx
          cases hx
    · rw [if_neg (by rw [decide_eq_true_eq]; omega)]
      rw [letAt_end s p hps, List.append_nil] at hl
      rw [allAt_end s p hps, Bool.and_true] at ha
      subst hl ha
      exact ⟨⟨rfl, rfl⟩, rfl⟩

end Go.Proofs.YtakgefinmlomdaaDoor.Abs
