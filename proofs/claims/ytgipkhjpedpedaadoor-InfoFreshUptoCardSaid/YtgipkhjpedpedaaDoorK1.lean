/- info: same, sameSay, said, may. -/
import Derived.Test.YtgipkhjpedpedaaDoorKF
import Derived.Test.YtgipkhjpedpedaaDoorRB
set_option linter.unusedVariables false
set_option linter.unusedSimpArgs false
set_option maxRecDepth 100000
namespace Go.Proofs.YtgipkhjpedpedaaDoor.Abs
open Go Go.Proofs

def isameB (a b : Ask) : Bool := ((a.dialects.length : Int) + a.data.length + a.locks.length == (b.dialects.length : Int) + b.data.length + b.locks.length) && (a.guid == b.guid) && (a.proof == b.proof) && (a.user.toList == b.user.toList) && (a.share.toList == b.share.toList) && (a.access == b.access) && (a.sharing == b.sharing) && (a.way == b.way) && (a.options == b.options) &&
  (a.level == b.level) && (a.durable == b.durable) && (a.file == b.file) && (a.name.toList == b.name.toList) && (a.at_ == b.at_) && (a.n == b.n) && (a.most == b.most) && (a.pattern.toList == b.pattern.toList) && (a.after.toList == b.after.toList) && (a.cls == b.cls) && (a.size == b.size) && (a.on == b.on)

theorem w64sum {x y z : Nat} (h1 : x ≤ 1000000000) (h2 : y ≤ 1000000000) (h3 : z ≤ 1000000000) : IntKind.i64.wrap (IntKind.i64.wrap ((x : Int) + y) + z) = (x : Int) + y + z := by
  rw [w64 (x := (x : Int) + y) (by omega) (by omega), w64 (by omega) (by omega)]

set_option maxHeartbeats 8000000 in
theorem isame_meets (a b : Ask) (h1 : a.dialects.length ≤ 1000000000 ∧ a.data.length ≤ 1000000000 ∧ a.locks.length ≤ 1000000000) (h2 : b.dialects.length ≤ 1000000000 ∧ b.data.length ≤ 1000000000 ∧ b.locks.length ≤ 1000000000) : Meets Tryd.prog 30 [.v (a.sv false), .v (b.sv false)] [.v (.bool (isameB a b))] := by
  have e1 := w64sum h1.1 h1.2.1 h1.2.2
  have e2 := w64sum h2.1 h2.2.1 h2.2.2
  obtain ⟨S1, hS1⟩ : ∃ S1 : Int, (a.dialects.length : Int) + a.data.length + a.locks.length = S1 := ⟨_, rfl⟩
  obtain ⟨S2, hS2⟩ : ∃ S2 : Int, (b.dialects.length : Int) + b.data.length + b.locks.length = S2 := ⟨_, rfl⟩
  rw [hS1] at e1
  rw [hS2] at e2
  obtain ⟨q, hq⟩ : ∃ q : Bool, (S1 == S2) = q := ⟨_, rfl⟩
  unfold isameB
  rw [hS1, hS2, hq]
  obtain ⟨q1, hq1⟩ : ∃ q1 : Bool, (q && (a.guid == b.guid) && (a.proof == b.proof) && (a.user.toList == b.user.toList)) = q1 := ⟨_, rfl⟩
  rw [hq1]
  obtain ⟨q2, hq2⟩ : ∃ q2 : Bool, (q1 && (a.share.toList == b.share.toList) && (a.access == b.access) && (a.sharing == b.sharing) && (a.way == b.way) && (a.options == b.options)) = q2 := ⟨_, rfl⟩
  rw [hq2]
  obtain ⟨q3, hq3⟩ : ∃ q3 : Bool, (q2 && (a.level == b.level) && (a.durable == b.durable) && (a.file == b.file) && (a.name.toList == b.name.toList) && (a.at_ == b.at_)) = q3 := ⟨_, rfl⟩
  rw [hq3]
  obtain ⟨q4, hq4⟩ : ∃ q4 : Bool, (q3 && (a.n == b.n) && (a.most == b.most) && (a.pattern.toList == b.pattern.toList) && (a.after.toList == b.after.toList) && (a.cls == b.cls)) = q4 := ⟨_, rfl⟩
  rw [hq4]
  refine meets_go TO 2 Tryd.func30 rfl (fun X => ?_)
  simp only [Tryd.ntmps30, Tryd.results30, Ask.sv, Ask.cells, List.append_eq, pureOpC, unc, svs, blks, AV.sv, absRun, absOps, absOp, evO, constSV, ungd, gdP, gdPs, setD, pureOp, memOp, newV, notIn, cellsOf, upd, Lim.add, Op.operands, List.getD, List.getElem?_cons_zero, List.getElem?_cons_succ, Option.getD_some, List.set, List.toList_toArray, true_and, and_self, if_false, Nat.zero_add, List.cons_append, List.nil_append, List.length_cons, List.length_nil, Nat.reduceAdd, Nat.reduceSub, Nat.succ_ne_self, List.replicate_succ, List.replicate_zero]
  refine absRun_ok TO 1 _ _ ?_
  simp only [absRun]
  refine HRun_region (part_ops TO 45 ?_)
  simp only [absOpsN, e1, e2, hq, hq1, pureOpC, unc, absOp, evO, constSV, ungd, gdP, gdPs, setD, binI, binV, ptrE, binS, T_ty, T_size, tTy, tSize, fieldOf, faddrV, pickV, pureOp, guardOf, lenV, loadV, isI, isA, cellAt, arrAt, blkAt, fnd, Data.len, Op.operands, Call.operands, List.getD, List.getElem?_cons_zero, List.getElem?_cons_succ, Option.getD_some, List.set, List.toList_toArray, List.getElem?_toArray, Option.bind_some, true_and, and_self, implies_true, imp_self, if_true, if_false, ite_self, eq_self, ne_eq, not_false_eq_true, reduceCtorEq, Nat.zero_add, Nat.add_zero, Nat.le_refl, Bool.cond_false_right, List.append_toArray, List.nil_append, Nat.reduceAdd, Nat.reduceSub, Nat.reduceEqDiff, Nat.reduceLeDiff, Nat.reduceLT, Nat.succ_ne_self]
  refine weak_ops (tl 168 0 [(2, .ptr 2 2 0), (3, .ptr 3 2 0), (4, .bool false), (49, .bool q1)]) (by simp [LeT, tl]) (part_ops TO 35 ?_)
  simp only [absOpsN, tl, hq2, pureOpC, unc, absOp, evO, constSV, ungd, gdP, gdPs, setD, binI, binV, ptrE, binS, T_ty, T_size, tTy, tSize, fieldOf, faddrV, pickV, pureOp, guardOf, loadV, cellAt, blkAt, fnd, Op.operands, List.getD, List.getElem?_cons_zero, List.getElem?_cons_succ, Option.getD_some, List.set, List.toList_toArray, List.getElem?_toArray, Option.bind_some, true_and, and_self, implies_true, imp_self, if_true, if_false, eq_self, ne_eq, not_false_eq_true, reduceCtorEq, Nat.zero_add, Bool.cond_false_right, List.cons_append, List.nil_append, Nat.reduceAdd, Nat.reduceSub, Nat.reduceEqDiff, Nat.reduceLT, Nat.succ_ne_self, List.replicate_succ, List.replicate_zero, tl]
  refine weak_ops (tl 168 0 [(2, .ptr 2 2 0), (3, .ptr 3 2 0), (4, .bool false), (84, .bool q2)]) (by simp [LeT, tl]) (part_ops TO 35 ?_)
  simp only [absOpsN, tl, hq3, pureOpC, unc, absOp, evO, constSV, ungd, gdP, gdPs, setD, binI, binV, ptrE, binS, T_ty, T_size, tTy, tSize, fieldOf, faddrV, pickV, pureOp, guardOf, loadV, cellAt, blkAt, fnd, Op.operands, List.getD, List.getElem?_cons_zero, List.getElem?_cons_succ, Option.getD_some, List.set, List.toList_toArray, List.getElem?_toArray, Option.bind_some, true_and, and_self, implies_true, imp_self, if_true, if_false, eq_self, ne_eq, not_false_eq_true, reduceCtorEq, Nat.zero_add, Bool.cond_false_right, List.cons_append, List.nil_append, Nat.reduceAdd, Nat.reduceSub, Nat.reduceEqDiff, Nat.reduceLT, Nat.succ_ne_self, List.replicate_succ, List.replicate_zero, tl]
  refine weak_ops (tl 168 0 [(2, .ptr 2 2 0), (3, .ptr 3 2 0), (4, .bool false), (119, .bool q3)]) (by simp [LeT, tl]) (part_ops TO 35 ?_)
  simp only [absOpsN, tl, hq4, pureOpC, unc, absOp, evO, constSV, ungd, gdP, gdPs, setD, binI, binV, ptrE, binS, T_ty, T_size, tTy, tSize, fieldOf, faddrV, pickV, pureOp, guardOf, loadV, cellAt, blkAt, fnd, Op.operands, List.getD, List.getElem?_cons_zero, List.getElem?_cons_succ, Option.getD_some, List.set, List.toList_toArray, List.getElem?_toArray, Option.bind_some, true_and, and_self, implies_true, imp_self, if_true, if_false, eq_self, ne_eq, not_false_eq_true, reduceCtorEq, Nat.zero_add, Bool.cond_false_right, List.cons_append, List.nil_append, Nat.reduceAdd, Nat.reduceSub, Nat.reduceEqDiff, Nat.reduceLT, Nat.succ_ne_self, List.replicate_succ, List.replicate_zero, tl]
  refine weak_ops (tl 168 0 [(2, .ptr 2 2 0), (3, .ptr 3 2 0), (4, .bool false), (154, .bool q4)]) (by simp [LeT, tl]) (HOps_go TO 100 ?_)
  simp only [tl, pureOpC, unc, absRun, absOps, absOp, evO, constSV, ungd, gdP, gdPs, setD, binI, binV, ptrE, T_ty, T_size, tTy, tSize, fieldOf, faddrV, pickV, pureOp, guardOf, loadV, isB, cellAt, blkAt, fnd, retP, resV, retQ, rAs, rA, rA0, ownN, nodup, bares, bare, bare0, Op.operands, List.getD, List.getElem?_cons_zero, List.getElem?_cons_succ, Option.getD_some, List.set, List.map, List.toList_toArray, List.getElem?_toArray, Option.bind_some, and_self, implies_true, imp_self, if_true, if_false, eq_self, ne_eq, not_false_eq_true, reduceCtorEq, Nat.zero_add, Bool.cond_false_right, List.cons_append, List.nil_append, Nat.reduceAdd, Nat.reduceSub, Nat.reduceEqDiff, Nat.reduceLT, Nat.succ_ne_self, List.replicate_succ, List.replicate_zero, Bool.and_self, tl]

def isaySameB (a b : Say) : Bool := (a.dialect == b.dialect) && (a.size == b.size) && (a.challenge == b.challenge) && (a.level == b.level) && (a.durable == b.durable) && (a.made == b.made) && (a.file == b.file) && (a.kind == b.kind) && ((a.data.length : Int) + b.data.length == 0) && (a.n == b.n) && ((a.entries.length : Int) == b.entries.length) && (a.more == b.more) && (a.gone == b.gone)

theorem w64two {x y : Nat} (h1 : x ≤ 1000000000) (h2 : y ≤ 1000000000) : IntKind.i64.wrap ((x : Int) + y) = (x : Int) + y := w64 (by omega) (by omega)

set_option maxHeartbeats 8000000 in
theorem isameSay_meets (a b : Say) (h1 : a.data.length ≤ 1000000000) (h2 : b.data.length ≤ 1000000000) : Meets Tryd.prog 55 [.v (a.sv false), .v (b.sv false)] [.v (.bool (isaySameB a b))] := by
  have e1 := w64two h1 h2
  refine meets_go TO 100 Tryd.func55 rfl (fun X => ?_)
  simp only [Tryd.ntmps55, Tryd.results55, Say.sv, Say.cells, isaySameB, e1, List.append_eq, pureOpC, unc, svs, blks, AV.sv, absRun, absOps, absOp, evO, constSV, ungd, gdP, gdPs, setD, binI, binV, ptrE, T_ty, T_size, tTy, tSize, fieldOf, faddrV, pickV, pureOp, guardOf, memOp, lenV, loadV, newV, notIn, cellsOf, isB, isI, isA, cellAt, arrAt, blkAt, fnd, upd, Data.len, Lim.add, retP, resV, retQ, rAs, rA, rA0, ownN, nodup, bares, bare, bare0, Op.operands, Call.operands, List.getD, List.getElem?_cons_zero, List.getElem?_cons_succ, Option.getD_some, List.set, List.map, List.toList_toArray, List.getElem?_toArray, Option.bind_some, true_and, and_true, and_self, implies_true, imp_self, if_true, if_false, ite_self, eq_self, ne_eq, not_false_eq_true, reduceCtorEq, Nat.zero_add, Nat.add_zero, Bool.cond_false_right, List.append_toArray, List.cons_append, List.nil_append, List.length_cons, List.length_nil, Nat.reduceAdd, Nat.reduceSub, Nat.reduceEqDiff, Nat.reduceLeDiff, Nat.reduceLT, Nat.succ_ne_self, List.replicate_succ, List.replicate_zero, Bool.and_self]

def isWc (c : Int) (s : Say) : List SV :=
  if c = 14 then [.int .u16 0, .int .u64 0, .arr .u8 8 [0, 0, 0, 0, 0, 0, 0, 0], .int .u8 0, .int .u8 0, .int .u16 0, .int .u64 0, .int .u8 0, .nil, .int .u32 0, .view false (.ents s.entries), .bool s.more, .bool false]
  else if c = 16 then [.int .u16 0, .int .u64 s.size, .arr .u8 8 [0, 0, 0, 0, 0, 0, 0, 0], .int .u8 0, .int .u8 0, .int .u16 0, .int .u64 0, .int .u8 s.kind, .nil, .int .u32 0, .nil, .bool false, .bool s.gone]
  else if c = 18 then [.int .u16 0, .int .u64 0, .arr .u8 8 [0, 0, 0, 0, 0, 0, 0, 0], .int .u8 s.level, .int .u8 0, .int .u16 0, .int .u64 s.file, .int .u8 0, .nil, .int .u32 0, .nil, .bool false, .bool false]
  else [.int .u16 0, .int .u64 0, .arr .u8 8 [0, 0, 0, 0, 0, 0, 0, 0], .int .u8 0, .int .u8 0, .int .u16 0, .int .u64 0, .int .u8 0, .nil, .int .u32 0, .nil, .bool false, .bool false]

set_option maxHeartbeats 4000000 in
theorem isaid_inC {X : Ctx} {b0 : List (Nat × Nat × Blk)} {c0 : Nat} (c : Int) (s : Say) (h3 : fnd b0 5003 = none) (h4 : fnd b0 5004 = none) :
    InC Tryd.prog X 56 [.int .u16 c, s.sv false] b0 c0 (.agg (isWc c s)) b0 (c0 + 8) := by
  have hsub : ∀ x y g g', SubB b0 (upd (upd b0 5003 g x) 5004 g' y) := fun x y g g' n z hz => by
    rw [fnd_upd, fnd_upd]
    have n1 : n ≠ 5004 := by rintro rfl; rw [h4] at hz; cases hz
    have n2 : n ≠ 5003 := by rintro rfl; rw [h3] at hz; cases hz
    rw [if_neg n1, if_neg n2]; exact hz
  refine inC_go TO 5000 Tryd.func56 rfl (absRun_ok TO 100 _ _ ?_)
  simp only [Tryd.ntmps56, Tryd.results56, Say.sv, Say.cells, blkAt, fnd_upd, Nat.reduceEqDiff, if_true, if_false, pureOpC, buildV, fillC, cntC, unc, absRun, absOps, absOp, evO, constSV, ungd, gdP, gdPs, setD, binI, binV, ptrE, T_ty, T_size, T_zero, tTy, tSize, tZero, fieldOf, faddrV, pureOp, memOp, loadV, newV, notIn, scal, cellsOf, okC, cellAt, takeC, dropC, blkAt, Lim.add, resV, flatV, flat2, Op.operands, List.getD, List.getElem?_cons_zero, List.getElem?_cons_succ, Option.getD_some, List.set, List.map, List.all, List.toList_toArray, Option.bind_some, Option.map_some, true_and, and_true, and_self, if_true, if_false, eq_self, ne_eq, not_false_eq_true, reduceCtorEq, Nat.zero_add, Nat.add_zero, Nat.le_refl, List.cons_append, List.nil_append, List.append_nil, List.length_cons, List.length_nil, Nat.reduceAdd, Nat.reduceSub, Nat.reduceEqDiff, Nat.reduceLeDiff, Nat.reduceLT, Nat.succ_ne_self, List.replicate_succ, List.replicate_zero, Bool.and_self, retC, rI, upd_same, Nat.reduceBNe]
  repeat' split
  all_goals simp only [beq_iff_eq] at *
  all_goals first | exact ⟨hsub _ _ _ _, by omega, by simp_all [isWc]⟩ | exact ⟨hsub _ _ _ _, by omega, by unfold isWc; simp_all⟩

theorem isame_want (c : Int) (a : Ask) : isameB (iaW c a) a = decide (iaW c a = a) := by
  have hz : (iaW c a).dialects = [] ∧ (iaW c a).data = [] ∧ (iaW c a).locks = [] := by
    unfold iaW; repeat' split
    all_goals exact ⟨rfl, rfl, rfl⟩
  generalize iaW c a = w at *
  obtain ⟨z1, z2, z3⟩ := hz
  rw [Bool.eq_iff_iff, decide_eq_true_eq, ← asksB_iff]
  unfold isameB asksB
  have l1 : ((w.dialects.length : Int) + w.data.length + w.locks.length == (a.dialects.length : Int) + a.data.length + a.locks.length) = (decide (w.dialects = a.dialects) && decide (w.data = a.data) && decide (w.locks = a.locks)) := by
    rw [z1, z2, z3, Bool.eq_iff_iff, Bool.and_eq_true, Bool.and_eq_true, beq_iff_eq, decide_eq_true_eq, decide_eq_true_eq, decide_eq_true_eq]
    simp only [List.length_nil]
    constructor
    · intro h
      exact ⟨⟨(List.length_eq_zero_iff.1 (by omega)).symm, (List.length_eq_zero_iff.1 (by omega)).symm⟩, (List.length_eq_zero_iff.1 (by omega)).symm⟩
    · rintro ⟨⟨h1, h2⟩, h3⟩
      rw [← h1, ← h2, ← h3]; rfl
  rw [l1]
  simp only [Bool.and_eq_true]
  constructor
  · rintro ⟨⟨⟨⟨⟨⟨⟨⟨⟨⟨⟨⟨⟨⟨⟨⟨⟨⟨⟨⟨⟨⟨q1, q2⟩, q3⟩, h2⟩, h3⟩, h4⟩, h5⟩, h6⟩, h7⟩, h8⟩, h9⟩, h10⟩, h11⟩, h12⟩, h13⟩, h14⟩, h15⟩, h18⟩, h19⟩, h20⟩, h21⟩, h22⟩, h23⟩
    exact ⟨⟨⟨⟨⟨⟨⟨⟨⟨⟨⟨⟨⟨⟨⟨⟨⟨⟨⟨⟨⟨⟨q1, h2⟩, h3⟩, h4⟩, h5⟩, h6⟩, h7⟩, h8⟩, h9⟩, h10⟩, h11⟩, h12⟩, h13⟩, h14⟩, h15⟩, q2⟩, q3⟩, h18⟩, h19⟩, h20⟩, h21⟩, h22⟩, h23⟩
  · rintro ⟨⟨⟨⟨⟨⟨⟨⟨⟨⟨⟨⟨⟨⟨⟨⟨⟨⟨⟨⟨⟨⟨q1, h2⟩, h3⟩, h4⟩, h5⟩, h6⟩, h7⟩, h8⟩, h9⟩, h10⟩, h11⟩, h12⟩, h13⟩, h14⟩, h15⟩, q2⟩, q3⟩, h18⟩, h19⟩, h20⟩, h21⟩, h22⟩, h23⟩
    exact ⟨⟨⟨⟨⟨⟨⟨⟨⟨⟨⟨⟨⟨⟨⟨⟨⟨⟨⟨⟨⟨⟨q1, q2⟩, q3⟩, h2⟩, h3⟩, h4⟩, h5⟩, h6⟩, h7⟩, h8⟩, h9⟩, h10⟩, h11⟩, h12⟩, h13⟩, h14⟩, h15⟩, h18⟩, h19⟩, h20⟩, h21⟩, h22⟩, h23⟩

theorem isame_say (c : Int) (s : Say) : isaySameB (isW c s) s = decide (isW c s = s) := by
  have hz : (isW c s).data = [] ∧ ((isW c s).entries = s.entries ∨ (isW c s).entries = []) := by
    unfold isW; repeat' split
    · exact ⟨rfl, .inl rfl⟩
    all_goals exact ⟨rfl, .inr rfl⟩
  generalize isW c s = w at *
  obtain ⟨z1, z2⟩ := hz
  rw [Bool.eq_iff_iff, decide_eq_true_eq, ← saysB_iff]
  unfold isaySameB saysB
  have l1 : ((w.data.length : Int) + s.data.length == 0) = decide (w.data = s.data) := by
    rw [z1, Bool.eq_iff_iff, beq_iff_eq, decide_eq_true_eq]
    simp only [List.length_nil]
    constructor
    · intro h; exact (List.length_eq_zero_iff.1 (by omega)).symm
    · intro h; rw [← h]; rfl
  have l2 : ((w.entries.length : Int) == s.entries.length) = decide (w.entries = s.entries) := by
    rw [Bool.eq_iff_iff, beq_iff_eq, decide_eq_true_eq]
    rcases z2 with z2 | z2
    · rw [z2]; simp
    · rw [z2]
      simp only [List.length_nil]
      constructor
      · intro h; exact (List.length_eq_zero_iff.1 (by omega)).symm
      · intro h; rw [← h]; rfl
  rw [l1, l2]

end Go.Proofs.YtgipkhjpedpedaaDoor.Abs
