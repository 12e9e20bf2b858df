/- Lists, Asks and Says, compared. -/
import Derived.Test.YtfohefgpchbgkaaDoorUF
import Derived.Test.YtfohefgpchbgkaaDoorFX
set_option linter.unusedVariables false
set_option linter.unusedSimpArgs false
set_option maxRecDepth 100000
namespace Go.Proofs.YtfohefgpchbgkaaDoor.Abs
open Go Go.Proofs

theorem str_eq (a b : ByteArray) : (a.toList == b.toList) = decide (a = b) := by
  rw [Bool.eq_iff_iff, beq_iff_eq, decide_eq_true_eq, ByteArray.toList_eq, ByteArray.toList_eq]
  constructor
  · intro h
    cases a; cases b
    simp only [ByteArray.mk.injEq]
    exact Array.ext' h
  · rintro rfl; rfl

/-- Two lists alike, as far as a place. -/
theorem eq_of_get {α : Type} {l m : List α} (hl : l.length = m.length) (h : ∀ i, i < l.length → l[i]? = m[i]?) : l = m := by
  apply List.ext_getElem?
  intro i
  by_cases hi : i < l.length
  · exact h i hi
  · rw [List.getElem?_eq_none (by omega), List.getElem?_eq_none (by omega)]

theorem get_of {l : List Int} {i : Nat} (h : i < l.length) : l[i]? = some (l[i]?.getD 0) := by rw [List.getElem?_eq_getElem h]; rfl

set_option maxHeartbeats 1000000 in
theorem words_meets (l m : List Int) (hl : l.length ≤ 1000000000) : Meets Tryd.prog 44 [.v (.view false (.ints .u16 l)), .v (.view false (.ints .u16 m))] [.v (.bool (decide (l = m)))] := by
  refine meets_go TO 100 Tryd.func44 rfl (fun X => ?_)
  simp only [Tryd.ntmps44, Tryd.results44, pureOpC, unc, svs, blks, AV.sv, absRun, absOps, absOp, evO, constSV, ungd, gdP, gdPs, setD, binI, binV, ptrE, T_ty, tTy, pureOp, lenV, Data.len, retP, resV, retQ, rAs, rA, rA0, ownN, nodup, bares, bare, bare0, Op.operands, Call.operands, List.getD, List.getElem?_cons_zero, List.getElem?_cons_succ, Option.getD_some, List.set, List.map, List.toList_toArray, true_and, and_true, and_self, eq_self, Nat.zero_add, List.append_toArray, List.cons_append, List.nil_append, List.length_cons, List.length_nil, Nat.reduceAdd, Nat.reduceSub, List.replicate_succ, List.replicate_zero, Bool.and_self]
  by_cases h0 : l.length = m.length
  rotate_left
  · rw [decide_eq_false (show ¬ l = m from fun h => h0 (by rw [h])), if_pos (by simp; omega)]
  rw [if_neg (by simp; omega)]
  refine loop_up (fun x : Nat × Nat => x.1 ≤ l.length ∧ ∀ j, j < x.1 → l[j]? = m[j]?)
    (fun x => ⟨tl 26 0 [(0, .view false (.ints .u16 l)), (1, .view false (.ints .u16 m)), (5, .int .i64 x.1)], [], ⟨x.2, [], 0⟩⟩) (fun x => l.length - x.1) (0, _) ⟨Nat.zero_le _, fun j hj => by omega⟩ ⟨rfl, ?_, ?_⟩ ?_
  · simp [LeT, tl]
  · intro n x hx
    simp [fnd] at hx
  rintro ⟨i, c⟩ ⟨hi, hall⟩ ih
  simp only at hi hall
  refine absRun_ok TO 100 _ _ ?_
  simp only [pureOpC, unc, absRun, absOps, absOp, evO, constSV, ungd, gdP, gdPs, setD, binI, binV, ptrE, T_ty, tTy, pureOp, lenV, Data.len, retP, resV, retQ, rAs, rA, rA0, ownN, nodup, bares, bare, bare0, Op.operands, Call.operands, List.getD, List.getElem?_cons_zero, List.getElem?_cons_succ, Option.getD_some, List.set, List.map, List.toList_toArray, exitTo, true_and, and_true, and_self, if_true, eq_self, Nat.zero_add, List.append_toArray, List.cons_append, List.nil_append, Nat.reduceAdd, Nat.reduceSub, beq_self_eq_true, List.replicate_succ, List.replicate_zero, Bool.and_self, tl]
  by_cases hil : i < l.length
  rotate_left
  · rw [if_neg (by rw [decide_eq_true_eq]; omega)]
    have : l = m := eq_of_get h0 (fun j hj => hall j (by omega))
    rw [decide_eq_true this]
  rw [if_pos (decide_eq_true (by omega))]
  have wi : IntKind.i64.wrap ((i : Int) + 1) = ((i + 1 : Nat) : Int) := by rw [w64 (by omega) (by omega)]; omega
  refine draw_go TO 9 100 mixed_ok (by decide +kernel) ?_
  simp only [wi, List.take_succ_cons, List.take_zero, List.drop_succ_cons, List.drop_zero, pureOpC, unc, isEff, absD, pureStep, absRun, absOps, absOp, evO, constSV, ungd, gdP, gdPs, setD, binI, binV, ptrE, binS, T_ty, T_size, tTy, tSize, iaddrV, pureOp, memOp, loadV, elemV, Data.len, Data.esz, retP, resV, retQ, rAs, rA, rA0, ownN, nodup, bares, bare, bare0, Op.operands, List.getD, List.getElem?_cons_zero, List.getElem?_cons_succ, Option.getD_some, List.set, List.map, List.toList_toArray, true_and, and_true, and_self, implies_true, imp_self, eq_self, ne_eq, not_false_eq_true, forall_const, reduceCtorEq, Int.toNat_natCast, Nat.reduceLT, Nat.succ_ne_self, Bool.and_self]
  refine ⟨⟨by omega, by omega⟩, ⟨by omega, by omega⟩, ?_⟩
  have g1 := get_of hil
  have g2 := get_of (l := m) (i := i) (by omega)
  by_cases he : l[i]?.getD 0 = m[i]?.getD 0
  · rw [if_neg (by simpa using he)]
    refine ih (i + 1, _) _ ⟨hil, fun j hj => ?_⟩ (by simp only; omega) rfl ?_ ?_
    · rcases Nat.lt_succ_iff_lt_or_eq.1 hj with h | h
      · exact hall j h
      · rw [h, g1, g2, he]
    · simp [LeT, tl]
    · intro n x hx; simp [fnd] at hx
  · rw [if_pos (by simpa using he), decide_eq_false (fun h => he (by rw [h]))]

set_option maxHeartbeats 1000000 in
theorem Equal_meets (l m : List Int) (hl : l.length ≤ 1000000000) : Meets Tryd.prog 66 [.v (.view false (.ints .u16 l)), .v (.view false (.ints .u16 m))] [.v (.bool (decide (l = m)))] := by
  refine meets_go TO 100 Tryd.func66 rfl (fun X => ?_)
  simp only [Tryd.ntmps66, Tryd.results66, pureOpC, unc, svs, blks, AV.sv, absRun, absOps, absOp, evO, constSV, ungd, gdP, gdPs, setD, binI, binV, ptrE, T_ty, tTy, pureOp, lenV, Data.len, retP, resV, retQ, rAs, rA, rA0, ownN, nodup, bares, bare, bare0, Op.operands, Call.operands, List.getD, List.getElem?_cons_zero, List.getElem?_cons_succ, Option.getD_some, List.set, List.map, List.toList_toArray, true_and, and_true, and_self, eq_self, Nat.zero_add, List.append_toArray, List.cons_append, List.nil_append, List.length_cons, List.length_nil, Nat.reduceAdd, Nat.reduceSub, List.replicate_succ, List.replicate_zero, Bool.and_self]
  by_cases h0 : l.length = m.length
  rotate_left
  · rw [decide_eq_false (show ¬ l = m from fun h => h0 (by rw [h])), if_pos (by simp; omega)]
  rw [if_neg (by simp; omega)]
  refine loop_up (fun x : Nat × Nat => x.1 ≤ l.length ∧ ∀ j, j < x.1 → l[j]? = m[j]?)
    (fun x => ⟨tl 26 0 [(0, .view false (.ints .u16 l)), (1, .view false (.ints .u16 m)), (12, .int .i64 l.length), (13, .int .i64 x.1)], [], ⟨x.2, [], 0⟩⟩) (fun x => l.length - x.1) (0, _) ⟨Nat.zero_le _, fun j hj => by omega⟩ ⟨rfl, ?_, ?_⟩ ?_
  · simp [LeT, tl]
  · intro n x hx
    simp [fnd] at hx
  rintro ⟨i, c⟩ ⟨hi, hall⟩ ih
  simp only at hi hall
  refine absRun_ok TO 100 _ _ ?_
  simp only [pureOpC, unc, absRun, absOps, absOp, evO, constSV, ungd, gdP, gdPs, setD, binI, binV, ptrE, pureOp, retP, resV, retQ, rAs, rA, rA0, ownN, nodup, bares, bare, bare0, Op.operands, List.getD, List.getElem?_cons_zero, List.getElem?_cons_succ, Option.getD_some, List.set, List.map, List.toList_toArray, exitTo, true_and, and_true, and_self, if_true, eq_self, Nat.zero_add, List.cons_append, List.nil_append, Nat.reduceAdd, Nat.reduceSub, beq_self_eq_true, List.replicate_succ, List.replicate_zero, Bool.and_self, tl]
  by_cases hil : i < l.length
  rotate_left
  · rw [if_neg (by rw [decide_eq_true_eq]; omega)]
    have : l = m := eq_of_get h0 (fun j hj => hall j (by omega))
    rw [decide_eq_true this]
  rw [if_pos (decide_eq_true (by omega))]
  have wi : IntKind.i64.wrap ((i : Int) + 1) = ((i + 1 : Nat) : Int) := by rw [w64 (by omega) (by omega)]; omega
  refine draw_go TO 9 100 mixed_ok (by decide +kernel) ?_
  simp only [wi, List.take_succ_cons, List.take_zero, List.drop_succ_cons, List.drop_zero, pureOpC, unc, isEff, absD, pureStep, absRun, absOps, absOp, evO, constSV, ungd, gdP, gdPs, setD, binI, binV, ptrE, binS, T_ty, T_size, tTy, tSize, iaddrV, pureOp, memOp, loadV, elemV, Data.len, Data.esz, retP, resV, retQ, rAs, rA, rA0, ownN, nodup, bares, bare, bare0, Op.operands, List.getD, List.getElem?_cons_zero, List.getElem?_cons_succ, Option.getD_some, List.set, List.map, List.toList_toArray, true_and, and_true, and_self, implies_true, imp_self, eq_self, ne_eq, not_false_eq_true, forall_const, reduceCtorEq, Int.toNat_natCast, Nat.reduceLT, Nat.succ_ne_self, Bool.and_self]
  refine ⟨⟨by omega, by omega⟩, ⟨by omega, by omega⟩, ?_⟩
  have g1 := get_of hil
  have g2 := get_of (l := m) (i := i) (by omega)
  by_cases he : l[i]?.getD 0 = m[i]?.getD 0
  · rw [if_neg (by simpa using he)]
    refine ih (i + 1, _) _ ⟨hil, fun j hj => ?_⟩ (by simp only; omega) rfl ?_ ?_
    · rcases Nat.lt_succ_iff_lt_or_eq.1 hj with h | h
      · exact hall j h
      · rw [h, g1, g2, he]
    · simp [LeT, tl]
    · intro n x hx; simp [fnd] at hx
  · rw [if_pos (by simpa using he), decide_eq_false (fun h => he (by rw [h]))]

instance : DecidableEq LockR := fun a b => decidable_of_iff (a.op = b.op ∧ a.at_ = b.at_ ∧ a.n = b.n ∧ a.mode = b.mode) (by cases a; cases b; simp)
instance : DecidableEq EntR := fun a b => decidable_of_iff (a.name = b.name ∧ a.kind = b.kind ∧ a.size = b.size) (by cases a; cases b; simp)

theorem lock_ext {a b : LockR} (h : (a.op == b.op && (a.at_ == b.at_ && (a.n == b.n && a.mode == b.mode))) = true) : a = b := by
  cases a; cases b; simpa using h
theorem lock_ne {a b : LockR} (h : ¬ (a.op == b.op && (a.at_ == b.at_ && (a.n == b.n && a.mode == b.mode))) = true) : a ≠ b := by
  rintro rfl; simp at h

set_option maxHeartbeats 1000000 in
theorem Locks_meets (l m : List LockR) (hl : l.length ≤ 1000000000) : Meets Tryd.prog 45 [.v (.view false (.locks l)), .v (.view false (.locks m))] [.v (.bool (decide (l = m)))] := by
  refine meets_go TO 100 Tryd.func45 rfl (fun X => ?_)
  simp only [Tryd.ntmps45, Tryd.results45, pureOpC, unc, svs, blks, AV.sv, absRun, absOps, absOp, evO, constSV, ungd, gdP, gdPs, setD, binI, binV, ptrE, T_ty, tTy, pureOp, lenV, Data.len, retP, resV, retQ, rAs, rA, rA0, ownN, nodup, bares, bare, bare0, Op.operands, Call.operands, List.getD, List.getElem?_cons_zero, List.getElem?_cons_succ, Option.getD_some, List.set, List.map, List.toList_toArray, true_and, and_true, and_self, eq_self, Nat.zero_add, List.append_toArray, List.cons_append, List.nil_append, List.length_cons, List.length_nil, Nat.reduceAdd, Nat.reduceSub, List.replicate_succ, List.replicate_zero, Bool.and_self]
  by_cases h0 : l.length = m.length
  rotate_left
  · rw [decide_eq_false (show ¬ l = m from fun h => h0 (by rw [h])), if_pos (by simp; omega)]
  rw [if_neg (by simp; omega)]
  refine loop_up (fun x : Nat × Nat => x.1 ≤ l.length ∧ ∀ j, j < x.1 → l[j]? = m[j]?)
    (fun x => ⟨tl 26 0 [(0, .view false (.locks l)), (1, .view false (.locks m)), (5, .int .i64 x.1)], [], ⟨x.2, [], 0⟩⟩) (fun x => l.length - x.1) (0, _) ⟨Nat.zero_le _, fun j hj => by omega⟩ ⟨rfl, ?_, ?_⟩ ?_
  · simp [LeT, tl]
  · intro n x hx
    simp [fnd] at hx
  rintro ⟨i, c⟩ ⟨hi, hall⟩ ih
  simp only at hi hall
  refine absRun_ok TO 100 _ _ ?_
  simp only [pureOpC, unc, absRun, absOps, absOp, evO, constSV, ungd, gdP, gdPs, setD, binI, binV, ptrE, T_ty, tTy, pureOp, lenV, Data.len, retP, resV, retQ, rAs, rA, rA0, ownN, nodup, bares, bare, bare0, Op.operands, Call.operands, List.getD, List.getElem?_cons_zero, List.getElem?_cons_succ, Option.getD_some, List.set, List.map, List.toList_toArray, exitTo, true_and, and_true, and_self, if_true, eq_self, Nat.zero_add, List.append_toArray, List.cons_append, List.nil_append, Nat.reduceAdd, Nat.reduceSub, beq_self_eq_true, List.replicate_succ, List.replicate_zero, Bool.and_self, tl]
  by_cases hil : i < l.length
  rotate_left
  · rw [if_neg (by rw [decide_eq_true_eq]; omega)]
    have : l = m := eq_of_get h0 (fun j hj => hall j (by omega))
    rw [decide_eq_true this]
  rw [if_pos (decide_eq_true (by omega))]
  have wi : IntKind.i64.wrap ((i : Int) + 1) = ((i + 1 : Nat) : Int) := by rw [w64 (by omega) (by omega)]; omega
  refine draw_go TO 9 100 mixed_ok (by decide +kernel) ?_
  simp only [wi, List.take_succ_cons, List.take_zero, List.drop_succ_cons, List.drop_zero, pureOpC, unc, isEff, absD, pureStep, absRun, absOps, absOp, evO, constSV, ungd, gdP, gdPs, setD, binI, binV, ptrE, binS, T_ty, T_size, tTy, tSize, iaddrV, pureOp, memOp, loadV, eqF, eq1, T_eq, tEq, cellAt, elemV, Data.len, Data.esz, retP, resV, retQ, rAs, rA, rA0, ownN, nodup, bares, bare, bare0, Op.operands, List.getD, List.getElem?_cons_zero, List.getElem?_cons_succ, Option.getD_some, List.set, List.map, List.toList_toArray, true_and, and_true, and_self, implies_true, imp_self, if_true, if_false, eq_self, ne_eq, not_false_eq_true, forall_const, reduceCtorEq, Int.toNat_natCast, Nat.reduceSub, Nat.succ_ne_self, Bool.and_true, Bool.and_self]
  refine ⟨⟨by omega, by omega⟩, ⟨by omega, by omega⟩, ?_⟩
  have g1 : l[i]? = some (l[i]?.getD default) := by rw [List.getElem?_eq_getElem hil]; rfl
  have g2 : m[i]? = some (m[i]?.getD default) := by rw [List.getElem?_eq_getElem (show i < m.length by omega)]; rfl
  generalize l[i]?.getD default = a at *
  generalize m[i]?.getD default = b at *
  by_cases he : (a.op == b.op && (a.at_ == b.at_ && (a.n == b.n && a.mode == b.mode))) = true
  · have hab := lock_ext he
    simp only [he, if_false, Bool.false_eq_true, Bool.not_true]
    refine ih (i + 1, _) _ ⟨hil, fun j hj => ?_⟩ (by simp only; omega) rfl ?_ ?_
    · rcases Nat.lt_succ_iff_lt_or_eq.1 hj with h | h
      · exact hall j h
      · rw [h, g1, g2, hab]
    · simp [LeT, tl]
    · intro n x hx; simp [fnd] at hx
  · have he' : (a.op == b.op && (a.at_ == b.at_ && (a.n == b.n && a.mode == b.mode))) = false := by simpa using he
    have hne := lock_ne he
    have hlm : decide (l = m) = false := decide_eq_false (fun h => hne (by rw [h, g2] at g1; exact (Option.some.inj g1).symm))
    simp only [he', hlm, if_true, eq_self, Bool.not_false]

theorem ent_ext {a b : EntR} (h : (a.name.toList == b.name.toList && (a.kind == b.kind && (a.size == b.size && true))) = true) : a = b := by
  rw [str_eq] at h
  cases a; cases b; simpa using h

/-- The type of entries may be compared. -/
theorem ent_eq : Tryd.prog.stoodInHeld 108 = false ∧ Tryd.prog.eqGuardType Tryd.prog.depth 108 = false ∧ ∀ f ∈ (Tryd.prog.fieldsOf 108).toList, f.name ≠ "_" :=
  ⟨by kernel_rfl, by kernel_rfl, names_of (by kernel_rfl)⟩

set_option maxHeartbeats 1000000 in
theorem Entries_meets (l m : List EntR) (hl : l.length ≤ 1000000000) : Meets Tryd.prog 56 [.v (.view false (.ents l)), .v (.view false (.ents m))] [.v (.bool (decide (l = m)))] := by
  refine meets_go TO 100 Tryd.func56 rfl (fun X => ?_)
  simp only [Tryd.ntmps56, Tryd.results56, pureOpC, unc, svs, blks, AV.sv, absRun, absOps, absOp, evO, constSV, ungd, gdP, gdPs, setD, binI, binV, ptrE, T_ty, tTy, pureOp, lenV, Data.len, retP, resV, retQ, rAs, rA, rA0, ownN, nodup, bares, bare, bare0, Op.operands, Call.operands, List.getD, List.getElem?_cons_zero, List.getElem?_cons_succ, Option.getD_some, List.set, List.map, List.toList_toArray, true_and, and_true, and_self, eq_self, Nat.zero_add, List.append_toArray, List.cons_append, List.nil_append, List.length_cons, List.length_nil, Nat.reduceAdd, Nat.reduceSub, List.replicate_succ, List.replicate_zero, Bool.and_self]
  by_cases h0 : l.length = m.length
  rotate_left
  · rw [decide_eq_false (show ¬ l = m from fun h => h0 (by rw [h])), if_pos (by simp; omega)]
  rw [if_neg (by simp; omega)]
  refine loop_up (fun x : Nat × Nat => x.1 ≤ l.length ∧ ∀ j, j < x.1 → l[j]? = m[j]?)
    (fun x => ⟨tl 26 0 [(0, .view false (.ents l)), (1, .view false (.ents m)), (5, .int .i64 x.1)], [], ⟨x.2, [], 0⟩⟩) (fun x => l.length - x.1) (0, _) ⟨Nat.zero_le _, fun j hj => by omega⟩ ⟨rfl, ?_, ?_⟩ ?_
  · simp [LeT, tl]
  · intro n x hx
    simp [fnd] at hx
  rintro ⟨i, c⟩ ⟨hi, hall⟩ ih
  simp only at hi hall
  refine absRun_ok TO 100 _ _ ?_
  simp only [pureOpC, unc, absRun, absOps, absOp, evO, constSV, ungd, gdP, gdPs, setD, binI, binV, ptrE, T_ty, tTy, pureOp, lenV, Data.len, retP, resV, retQ, rAs, rA, rA0, ownN, nodup, bares, bare, bare0, Op.operands, Call.operands, List.getD, List.getElem?_cons_zero, List.getElem?_cons_succ, Option.getD_some, List.set, List.map, List.toList_toArray, exitTo, true_and, and_true, and_self, if_true, eq_self, Nat.zero_add, List.append_toArray, List.cons_append, List.nil_append, Nat.reduceAdd, Nat.reduceSub, beq_self_eq_true, List.replicate_succ, List.replicate_zero, Bool.and_self, tl]
  by_cases hil : i < l.length
  rotate_left
  · rw [if_neg (by rw [decide_eq_true_eq]; omega)]
    have : l = m := eq_of_get h0 (fun j hj => hall j (by omega))
    rw [decide_eq_true this]
  rw [if_pos (decide_eq_true (by omega))]
  have wi : IntKind.i64.wrap ((i : Int) + 1) = ((i + 1 : Nat) : Int) := by rw [w64 (by omega) (by omega)]; omega
  refine draw_go TO 8 100 mixed_ok (by decide +kernel) ?_
  simp only [List.take_succ_cons, List.take_zero, List.drop_succ_cons, List.drop_zero, pureOpC, unc, isEff, absD, pureStep, absRun, absOps, absOp, evO, constSV, ungd, gdP, gdPs, setD, binI, binV, ptrE, isP, binS, T_ty, T_size, tTy, tSize, iaddrV, pureOp, memOp, loadV, eqF, eq1, isB, isA, blkAt, elemV, Data.len, Data.esz, retP, resV, retQ, rAs, rA, rA0, ownN, nodup, bares, bare, bare0, Op.operands, List.getD, List.getElem?_cons_zero, List.getElem?_cons_succ, Option.getD_some, List.set, List.map, List.toList_toArray, true_and, and_true, and_false, and_self, implies_true, imp_self, eq_self, ne_eq, not_false_eq_true, forall_const, reduceCtorEq, Int.toNat_natCast, Bool.and_self]
  refine ⟨⟨by omega, by omega⟩, ⟨by omega, by omega⟩, ?_⟩
  have g1 : l[i]? = some (l[i]?.getD default) := by rw [List.getElem?_eq_getElem hil]; rfl
  have g2 : m[i]? = some (m[i]?.getD default) := by rw [List.getElem?_eq_getElem (show i < m.length by omega)]; rfl
  generalize l[i]?.getD default = a at *
  generalize m[i]?.getD default = b at *
  refine eqN_ops TO rfl rfl rfl rfl rfl rfl rfl (by decide) rfl rfl ent_eq rfl rfl rfl ⟨rfl, rfl, trivial⟩ (HOps_go TO 100 ?_)
  simp only [wi, pureOpC, unc, absRun, absOps, absOp, evO, constSV, ungd, gdP, gdPs, setD, binI, binV, ptrE, pureOp, retP, resV, retQ, rAs, rA, rA0, ownN, nodup, bares, bare, bare0, Op.operands, List.getD, List.getElem?_cons_zero, List.getElem?_cons_succ, Option.getD_some, List.set, List.map, List.toList_toArray, true_and, and_true, and_self, eq_self, Bool.and_true, Bool.and_self]
  by_cases he : (a.name.toList == b.name.toList && (a.kind == b.kind && (a.size == b.size && true))) = true
  · have hab := ent_ext he
    simp only [Bool.and_true] at he
    simp only [he, if_false, Bool.false_eq_true, Bool.not_true]
    refine ih (i + 1, _) _ ⟨hil, fun j hj => ?_⟩ (by simp only; omega) rfl ?_ ?_
    · rcases Nat.lt_succ_iff_lt_or_eq.1 hj with h | h
      · exact hall j h
      · rw [h, g1, g2, hab]
    · simp [LeT, tl]
    · intro n x hx; simp [fnd] at hx
  · have he' : (a.name.toList == b.name.toList && (a.kind == b.kind && a.size == b.size)) = false := by simpa using he
    have hne : a ≠ b := by rintro rfl; simp at he
    have hlm : decide (l = m) = false := decide_eq_false (fun h => hne (by rw [h, g2] at g1; exact (Option.some.inj g1).symm))
    simp only [he', hlm, if_true, eq_self, Bool.not_false]

end Go.Proofs.YtfohefgpchbgkaaDoor.Abs
