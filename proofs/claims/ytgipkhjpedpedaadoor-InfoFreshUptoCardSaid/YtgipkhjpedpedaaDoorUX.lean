/- Joined: UA UB UC UD UE UF UG UH UI UJ UK UL UM UN. -/
import Derived.Test.YtgipkhjpedpedaaDoorU9
import Derived.Test.YtgipkhjpedpedaaDoorRX
import Derived.Test.YtgipkhjpedpedaaDoorV2
import Derived.Test.YtgipkhjpedpedaaDoorFX
/- Readers: parts. -/
set_option linter.unusedVariables false
set_option linter.unusedSimpArgs false
set_option maxRecDepth 100000
namespace Go.Proofs.YtgipkhjpedpedaaDoor.Abs
open Go Go.Proofs

theorem rP_len (b : List Int) (k : Nat) (r : Nat × Int) : (rP b k r).length ≤ k := by
  unfold rP
  split
  · simp
  · split
    · simp
    · rw [List.length_take]; omega

end Go.Proofs.YtgipkhjpedpedaaDoor.Abs

/- Asks and Says, told; what GetSay answers. -/
set_option linter.unusedVariables false
set_option linter.unusedSimpArgs false
set_option maxRecDepth 100000
namespace Go.Proofs.YtgipkhjpedpedaaDoor.Abs
open Go Go.Proofs

structure Ask where
  dialects : List Int
  guid : List Int
  proof : List Int
  user : ByteArray
  share : ByteArray
  access : Int
  sharing : Int
  way : Int
  options : Int
  level : Int
  durable : Int
  file : Int
  name : ByteArray
  at_ : Int
  n : Int
  data : List Int
  locks : List LockR
  most : Int
  pattern : ByteArray
  after : ByteArray
  cls : Int
  size : Int
  on : Bool

structure Say where
  dialect : Int
  size : Int
  challenge : List Int
  level : Int
  durable : Int
  made : Int
  file : Int
  kind : Int
  data : List Int
  n : Int
  entries : List EntR
  more : Bool
  gone : Bool

def Ask.cells (t : Bool) (a : Ask) : List SV := [.view t (.ints .u16 a.dialects), .arr .u8 16 a.guid, .arr .u8 32 a.proof, .str a.user, .str a.share, .int .u32 a.access, .int .u32 a.sharing, .int .u32 a.way, .int .u32 a.options, .int .u8 a.level, .int .u8 a.durable, .int .u64 a.file, .str a.name, .int .u64 a.at_, .int .u32 a.n, .view t (.ints .u8 a.data), .view t (.locks a.locks), .int .u16 a.most, .str a.pattern, .str a.after, .int .u16 a.cls, .int .u64 a.size, .bool a.on]
def Ask.sv (t : Bool) (a : Ask) : SV := .agg (a.cells t)
def Say.cells (t : Bool) (s : Say) : List SV := [.int .u16 s.dialect, .int .u64 s.size, .arr .u8 8 s.challenge, .int .u8 s.level, .int .u8 s.durable, .int .u16 s.made, .int .u64 s.file, .int .u8 s.kind, .view t (.ints .u8 s.data), .int .u32 s.n, .view t (.ents s.entries), .bool s.more, .bool s.gone]
def Say.sv (t : Bool) (s : Say) : SV := .agg (s.cells t)

def askZ : Ask := ⟨[], List.replicate 16 0, List.replicate 32 0, ByteArray.empty, ByteArray.empty, 0, 0, 0, 0, 0, 0, 0, ByteArray.empty, 0, 0, [], [], 0, ByteArray.empty, ByteArray.empty, 0, 0, false⟩
def sayZ : Say := ⟨0, 0, List.replicate 8 0, 0, 0, 0, 0, 0, [], 0, [], false, false⟩

def knB (c : Int) : Bool := decide (c ≤ 4) || c == 13

theorem knB_cases {c : Int} (h0 : 0 ≤ c) (h : knB c = true) : c = 0 ∨ c = 1 ∨ c = 2 ∨ c = 3 ∨ c = 4 ∨ c = 13 := by
  unfold knB at h
  simp only [Bool.or_eq_true, decide_eq_true_eq, beq_iff_eq] at h
  omega

/-- Bytes of an array, noughts behind them. -/
def padA (n : Nat) (p : List Int) : List Int := p ++ List.replicate (n - p.length) 0

theorem over_pad {n : Nat} {p : List Int} (h : p.length ≤ n) : overI (List.replicate n 0) 0 n p = padA n p := by
  unfold overI padA
  rw [show min p.length n = p.length by omega]
  simp

def gsR (c : Int) (b : List Int) : Nat × Int := if c = 0 then rN b 8 (rN b 4 (rM b 2 0 5 (rN b 2 (0, 0)))) else rM b 4 0 5 (0, 0)
def gsE (c : Int) (b : List Int) : Int := if knB c = true then rEnd b (gsR c b) else 2
def gsS (c : Int) (b : List Int) : Say := if gsE c b = 0 ∧ c = 0 then { sayZ with dialect := rV b 2 (0, 0), size := rV b 4 (rM b 2 0 5 (rN b 2 (0, 0))), challenge := padA 8 (rP b 8 (rN b 4 (rM b 2 0 5 (rN b 2 (0, 0))))) } else sayZ

theorem gs_zero {c : Int} {b : List Int} (h : gsE c b ≠ 0) : gsS c b = sayZ := by unfold gsS; rw [if_neg (fun h' => h h'.1)]

end Go.Proofs.YtgipkhjpedpedaaDoor.Abs

/- What the document's GetSay answers. -/
set_option linter.unusedVariables false
set_option linter.unusedSimpArgs false
set_option maxRecDepth 100000
namespace Go.Proofs.YtgipkhjpedpedaaDoor.Abs
open Go Go.Proofs

theorem fill_step {n : Nat} {p : List Int} {i : Nat} (hi : i < p.length) (hp : p.length ≤ n) : (p.take i ++ List.replicate (n - i) 0).set i (p[i]?.getD 0) = p.take (i + 1) ++ List.replicate (n - (i + 1)) 0 := by
  have hl : (p.take i).length = i := by rw [List.length_take]; omega
  rw [List.set_append_right _ _ (by omega), hl, Nat.sub_self, show n - i = (n - (i + 1)) + 1 by omega, List.replicate_succ, List.set_cons_zero, List.take_add_one, List.getElem?_eq_getElem hi]
  simp only [Option.toList_some, Option.getD_some, List.append_assoc, List.cons_append, List.nil_append]

end Go.Proofs.YtgipkhjpedpedaaDoor.Abs

/- What GetAsk answers. -/
set_option linter.unusedVariables false
set_option linter.unusedSimpArgs false
set_option maxRecDepth 100000
namespace Go.Proofs.YtgipkhjpedpedaaDoor.Abs
open Go Go.Proofs

theorem raise_go {P : Program} {X : Ctx} {todo : List Item} {s : St} {Φ : St → Prop} (c1 : Nat) (hc : s.c.c < c1) (h : HRun P X todo ⟨s.t, s.b, ⟨c1, [], s.c.o⟩⟩ Φ) : HRun P X todo s Φ :=
  fun σ w a hR => h.after (R_raise hR hc) (Tr_raise hc)
theorem raise_ops {P : Program} {X : Ctx} {ops : Array Oper} {rest : List Oper} {k : List Item} {s : St} {Φ : St → Prop} (c1 : Nat) (hc : s.c.c < c1) (h : HOps P X ops rest k ⟨s.t, s.b, ⟨c1, [], s.c.o⟩⟩ Φ) : HOps P X ops rest k s Φ :=
  fun i hi => raise_go c1 hc (h i hi)

theorem rT_le {b : List Int} {r : Nat × Int} (hB : Bytes b) (h : r.1 ≤ b.length) : (rT b r).1 ≤ b.length := by
  have := gtX_ok hB h
  unfold rT
  split
  · exact h
  · split
    · exact h
    · simp only; omega

def dlF (b : List Int) : Nat → Nat × Int → List Int → List Int × (Nat × Int)
  | 0, r, l => (l, r)
  | k + 1, r, l => if r.2 = 0 then dlF b k (rN b 2 r) (l ++ [rV b 2 r]) else (l, r)

theorem dlF_bad {b : List Int} {k : Nat} {r : Nat × Int} {l : List Int} (h : r.2 ≠ 0) : dlF b k r l = (l, r) := by
  cases k with
  | zero => rfl
  | succ k => unfold dlF; rw [if_neg h]

def gaR0 (b : List Int) : List Int × (Nat × Int) := dlF b (rV b 2 (0, 0)).toNat (rM b 2 16 3 (0, 0)) []
def gaR (c : Int) (b : List Int) : Nat × Int := if c = 0 then rN b 16 (gaR0 b).2 else if c = 1 then rT b (rN b 32 (0, 0)) else if c = 3 then rT b (0, 0) else rM b 4 0 5 (0, 0)
def gaE (c : Int) (b : List Int) : Int := if knB c = true then rEnd b (gaR c b) else 2
def gaA (c : Int) (b : List Int) : Ask := if gaE c b ≠ 0 then askZ else if c = 0 then { askZ with dialects := (gaR0 b).1, guid := padA 16 (rP b 16 (gaR0 b).2) } else if c = 1 then { askZ with proof := padA 32 (rP b 32 (0, 0)), user := rS b (rN b 32 (0, 0)) } else if c = 3 then { askZ with share := rS b (0, 0) } else askZ

abbrev z16 : List Int := [0, 0, 0, 0, 0, 0, 0, 0, 0, 0, 0, 0, 0, 0, 0, 0]
abbrev z32 : List Int := [0, 0, 0, 0, 0, 0, 0, 0, 0, 0, 0, 0, 0, 0, 0, 0, 0, 0, 0, 0, 0, 0, 0, 0, 0, 0, 0, 0, 0, 0, 0, 0]
abbrev akC (d : SV) (g p : List Int) (u s : ByteArray) : List SV := [d, .arr .u8 16 g, .arr .u8 32 p, .str u, .str s, .int .u32 0, .int .u32 0, .int .u32 0, .int .u32 0, .int .u8 0, .int .u8 0, .int .u64 0, .str ByteArray.empty, .int .u64 0, .int .u32 0, .nil, .nil, .int .u16 0, .str ByteArray.empty, .str ByteArray.empty, .int .u16 0, .int .u64 0, .bool false]

end Go.Proofs.YtgipkhjpedpedaaDoor.Abs

/- What the document's GetAsk answers. -/
set_option linter.unusedVariables false
set_option linter.unusedSimpArgs false
set_option maxRecDepth 100000
namespace Go.Proofs.YtgipkhjpedpedaaDoor.Abs
open Go Go.Proofs

theorem gaR0_most (b : List Int) : dlF b (rMV b 2 16 (0, 0)).toNat (rM b 2 16 3 (0, 0)) [] = gaR0 b := by
  unfold gaR0 rMV rM
  by_cases h : (rN b 2 (0, 0)).2 = 0 ∧ 16 < rV b 2 (0, 0)
  · rw [if_pos h, if_pos h, dlF_bad (by simp), dlF_bad (by simp)]
  · rw [if_neg h]

theorem rMV_lt (b : List Int) (k : Nat) (m : Int) (r : Nat × Int) (hB : Bytes b) : 0 ≤ rMV b k m r ∧ rMV b k m r < 256 ^ k := by
  unfold rMV
  split
  · exact ⟨by omega, Int.pow_pos (by decide)⟩
  · exact rV_lt b k r hB

end Go.Proofs.YtgipkhjpedpedaaDoor.Abs

/- slices.Grow of nothing, slices.Concat; lists compared. -/
set_option linter.unusedVariables false
set_option linter.unusedSimpArgs false
set_option maxRecDepth 100000
namespace Go.Proofs.YtgipkhjpedpedaaDoor.Abs
open Go Go.Proofs

theorem zero_cell (n i : Nat) (h : i < n) : (Builtin.zeroCells #[.int .u8 0] n)[i]? = some (.int .u8 0) := by
  unfold Builtin.zeroCells
  rw [Array.getElem?_map, Array.getElem?_range, if_pos (by simpa using h)]
  simp [Nat.mod_one]

theorem zero_size (n : Nat) : (Builtin.zeroCells #[.int .u8 0] n).size = n := by
  unfold Builtin.zeroCells; simp

theorem flat_take8 (p : List (List Int)) (i : Nat) (h : i < p.length) : (p.take (i + 1)).flatten = (p.take i).flatten ++ p[i]?.getD [] := by
  rw [List.take_add_one, List.getElem?_eq_getElem h, List.flatten_append]; simp

theorem flat_le8 (p : List (List Int)) (i : Nat) : ((p.take i).flatten).length ≤ p.flatten.length := by
  have := congrArg (fun l : List (List Int) => l.flatten.length) (List.take_append_drop i p)
  simp only [List.flatten_append, List.length_append] at this
  omega

end Go.Proofs.YtgipkhjpedpedaaDoor.Abs

/- Lists, Asks and Says, compared. -/
set_option linter.unusedVariables false
set_option linter.unusedSimpArgs false
set_option maxRecDepth 100000
namespace Go.Proofs.YtgipkhjpedpedaaDoor.Abs
open Go Go.Proofs

theorem str_eq (a b : ByteArray) : (a.toList == b.toList) = decide (a = b) := by
  rw [Bool.eq_iff_iff, beq_iff_eq, decide_eq_true_eq, ByteArray.toList_eq, ByteArray.toList_eq]
  constructor
  · intro h
    cases a; cases b
    simp only [ByteArray.mk.injEq]
    exact Array.ext' h
  · rintro rfl; rfl

/-- Two lists alike, as far as a place. -/
theorem eq_of_get {α : Type} {l m : List α} (hl : l.length = m.length) (h : ∀ i, i < l.length → l[i]? = m[i]?) : l = m := by
  apply List.ext_getElem?
  intro i
  by_cases hi : i < l.length
  · exact h i hi
  · rw [List.getElem?_eq_none (by omega), List.getElem?_eq_none (by omega)]

theorem get_of {l : List Int} {i : Nat} (h : i < l.length) : l[i]? = some (l[i]?.getD 0) := by rw [List.getElem?_eq_getElem h]; rfl

set_option maxHeartbeats 1000000 in
theorem words_meets (l m : List Int) (hl : l.length ≤ 1000000000) : Meets Tryd.prog 41 [.v (.view false (.ints .u16 l)), .v (.view false (.ints .u16 m))] [.v (.bool (decide (l = m)))] := by
  refine meets_go TO 100 Tryd.func41 rfl (fun X => ?_)
  simp only [Tryd.ntmps41, Tryd.results41, pureOpC, unc, svs, blks, AV.sv, absRun, absOps, absOp, evO, constSV, ungd, gdP, gdPs, setD, binI, binV, ptrE, T_ty, tTy, pureOp, lenV, Data.len, retP, resV, retQ, rAs, rA, rA0, ownN, nodup, bares, bare, bare0, Op.operands, Call.operands, List.getD, List.getElem?_cons_zero, List.getElem?_cons_succ, Option.getD_some, List.set, List.map, List.toList_toArray, true_and, and_true, and_self, eq_self, Nat.zero_add, List.append_toArray, List.cons_append, List.nil_append, List.length_cons, List.length_nil, Nat.reduceAdd, Nat.reduceSub, List.replicate_succ, List.replicate_zero, Bool.and_self]
  by_cases h0 : l.length = m.length
  rotate_left
  · rw [decide_eq_false (show ¬ l = m from fun h => h0 (by rw [h])), if_pos (by simp; omega)]
  rw [if_neg (by simp; omega)]
  refine loop_up (fun x : Nat × Nat => x.1 ≤ l.length ∧ ∀ j, j < x.1 → l[j]? = m[j]?)
    (fun x => ⟨tl 26 0 [(0, .view false (.ints .u16 l)), (1, .view false (.ints .u16 m)), (5, .int .i64 x.1)], [], ⟨x.2, [], 0⟩⟩) (fun x => l.length - x.1) (0, _) ⟨Nat.zero_le _, fun j hj => by omega⟩ ⟨rfl, ?_, ?_⟩ ?_
  · simp [LeT, tl]
  · intro n x hx
    simp [fnd] at hx
  rintro ⟨i, c⟩ ⟨hi, hall⟩ ih
  simp only at hi hall
  refine absRun_ok TO 100 _ _ ?_
  simp only [pureOpC, unc, absRun, absOps, absOp, evO, constSV, ungd, gdP, gdPs, setD, binI, binV, ptrE, T_ty, tTy, pureOp, lenV, Data.len, retP, resV, retQ, rAs, rA, rA0, ownN, nodup, bares, bare, bare0, Op.operands, Call.operands, List.getD, List.getElem?_cons_zero, List.getElem?_cons_succ, Option.getD_some, List.set, List.map, List.toList_toArray, exitTo, true_and, and_true, and_self, if_true, eq_self, Nat.zero_add, List.append_toArray, List.cons_append, List.nil_append, Nat.reduceAdd, Nat.reduceSub, beq_self_eq_true, List.replicate_succ, List.replicate_zero, Bool.and_self, tl]
  by_cases hil : i < l.length
  rotate_left
  · rw [if_neg (by rw [decide_eq_true_eq]; omega)]
    have : l = m := eq_of_get h0 (fun j hj => hall j (by omega))
    rw [decide_eq_true this]
  rw [if_pos (decide_eq_true (by omega))]
  have wi : IntKind.i64.wrap ((i : Int) + 1) = ((i + 1 : Nat) : Int) := by rw [w64 (by omega) (by omega)]; omega
  refine draw_go TO 9 100 mixed_ok (by decide +kernel) ?_
  simp only [wi, List.take_succ_cons, List.take_zero, List.drop_succ_cons, List.drop_zero, pureOpC, unc, isEff, absD, pureStep, absRun, absOps, absOp, evO, constSV, ungd, gdP, gdPs, setD, binI, binV, ptrE, binS, T_ty, T_size, tTy, tSize, iaddrV, pureOp, memOp, loadV, elemV, Data.len, Data.esz, retP, resV, retQ, rAs, rA, rA0, ownN, nodup, bares, bare, bare0, Op.operands, List.getD, List.getElem?_cons_zero, List.getElem?_cons_succ, Option.getD_some, List.set, List.map, List.toList_toArray, true_and, and_true, and_self, implies_true, imp_self, eq_self, ne_eq, not_false_eq_true, forall_const, reduceCtorEq, Int.toNat_natCast, Nat.reduceLT, Nat.succ_ne_self, Bool.and_self]
  refine ⟨⟨by omega, by omega⟩, ⟨by omega, by omega⟩, ?_⟩
  have g1 := get_of hil
  have g2 := get_of (l := m) (i := i) (by omega)
  by_cases he : l[i]?.getD 0 = m[i]?.getD 0
  · rw [if_neg (by simpa using he)]
    refine ih (i + 1, _) _ ⟨hil, fun j hj => ?_⟩ (by simp only; omega) rfl ?_ ?_
    · rcases Nat.lt_succ_iff_lt_or_eq.1 hj with h | h
      · exact hall j h
      · rw [h, g1, g2, he]
    · simp [LeT, tl]
    · intro n x hx; simp [fnd] at hx
  · rw [if_pos (by simpa using he), decide_eq_false (fun h => he (by rw [h]))]

instance : DecidableEq LockR := fun a b => decidable_of_iff (a.op = b.op ∧ a.at_ = b.at_ ∧ a.n = b.n ∧ a.mode = b.mode) (by cases a; cases b; simp)
instance : DecidableEq EntR := fun a b => decidable_of_iff (a.name = b.name ∧ a.kind = b.kind ∧ a.size = b.size) (by cases a; cases b; simp)

theorem lock_ext {a b : LockR} (h : (a.op == b.op && (a.at_ == b.at_ && (a.n == b.n && a.mode == b.mode))) = true) : a = b := by
  cases a; cases b; simpa using h
theorem lock_ne {a b : LockR} (h : ¬ (a.op == b.op && (a.at_ == b.at_ && (a.n == b.n && a.mode == b.mode))) = true) : a ≠ b := by
  rintro rfl; simp at h

set_option maxHeartbeats 1000000 in
theorem Locks_meets (l m : List LockR) (hl : l.length ≤ 1000000000) : Meets Tryd.prog 42 [.v (.view false (.locks l)), .v (.view false (.locks m))] [.v (.bool (decide (l = m)))] := by
  refine meets_go TO 100 Tryd.func42 rfl (fun X => ?_)
  simp only [Tryd.ntmps42, Tryd.results42, pureOpC, unc, svs, blks, AV.sv, absRun, absOps, absOp, evO, constSV, ungd, gdP, gdPs, setD, binI, binV, ptrE, T_ty, tTy, pureOp, lenV, Data.len, retP, resV, retQ, rAs, rA, rA0, ownN, nodup, bares, bare, bare0, Op.operands, Call.operands, List.getD, List.getElem?_cons_zero, List.getElem?_cons_succ, Option.getD_some, List.set, List.map, List.toList_toArray, true_and, and_true, and_self, eq_self, Nat.zero_add, List.append_toArray, List.cons_append, List.nil_append, List.length_cons, List.length_nil, Nat.reduceAdd, Nat.reduceSub, List.replicate_succ, List.replicate_zero, Bool.and_self]
  by_cases h0 : l.length = m.length
  rotate_left
  · rw [decide_eq_false (show ¬ l = m from fun h => h0 (by rw [h])), if_pos (by simp; omega)]
  rw [if_neg (by simp; omega)]
  refine loop_up (fun x : Nat × Nat => x.1 ≤ l.length ∧ ∀ j, j < x.1 → l[j]? = m[j]?)
    (fun x => ⟨tl 26 0 [(0, .view false (.locks l)), (1, .view false (.locks m)), (5, .int .i64 x.1)], [], ⟨x.2, [], 0⟩⟩) (fun x => l.length - x.1) (0, _) ⟨Nat.zero_le _, fun j hj => by omega⟩ ⟨rfl, ?_, ?_⟩ ?_
  · simp [LeT, tl]
  · intro n x hx
    simp [fnd] at hx
  rintro ⟨i, c⟩ ⟨hi, hall⟩ ih
  simp only at hi hall
  refine absRun_ok TO 100 _ _ ?_
  simp only [pureOpC, unc, absRun, absOps, absOp, evO, constSV, ungd, gdP, gdPs, setD, binI, binV, ptrE, T_ty, tTy, pureOp, lenV, Data.len, retP, resV, retQ, rAs, rA, rA0, ownN, nodup, bares, bare, bare0, Op.operands, Call.operands, List.getD, List.getElem?_cons_zero, List.getElem?_cons_succ, Option.getD_some, List.set, List.map, List.toList_toArray, exitTo, true_and, and_true, and_self, if_true, eq_self, Nat.zero_add, List.append_toArray, List.cons_append, List.nil_append, Nat.reduceAdd, Nat.reduceSub, beq_self_eq_true, List.replicate_succ, List.replicate_zero, Bool.and_self, tl]
  by_cases hil : i < l.length
  rotate_left
  · rw [if_neg (by rw [decide_eq_true_eq]; omega)]
    have : l = m := eq_of_get h0 (fun j hj => hall j (by omega))
    rw [decide_eq_true this]
  rw [if_pos (decide_eq_true (by omega))]
  have wi : IntKind.i64.wrap ((i : Int) + 1) = ((i + 1 : Nat) : Int) := by rw [w64 (by omega) (by omega)]; omega
  refine draw_go TO 9 100 mixed_ok (by decide +kernel) ?_
  simp only [wi, List.take_succ_cons, List.take_zero, List.drop_succ_cons, List.drop_zero, pureOpC, unc, isEff, absD, pureStep, absRun, absOps, absOp, evO, constSV, ungd, gdP, gdPs, setD, binI, binV, ptrE, binS, T_ty, T_size, tTy, tSize, iaddrV, pureOp, memOp, loadV, eqF, eq1, T_eq, tEq, cellAt, elemV, Data.len, Data.esz, retP, resV, retQ, rAs, rA, rA0, ownN, nodup, bares, bare, bare0, Op.operands, List.getD, List.getElem?_cons_zero, List.getElem?_cons_succ, Option.getD_some, List.set, List.map, List.toList_toArray, true_and, and_true, and_self, implies_true, imp_self, if_true, if_false, eq_self, ne_eq, not_false_eq_true, forall_const, reduceCtorEq, Int.toNat_natCast, Nat.reduceSub, Nat.succ_ne_self, Bool.and_true, Bool.and_self]
  refine ⟨⟨by omega, by omega⟩, ⟨by omega, by omega⟩, ?_⟩
  have g1 : l[i]? = some (l[i]?.getD default) := by rw [List.getElem?_eq_getElem hil]; rfl
  have g2 : m[i]? = some (m[i]?.getD default) := by rw [List.getElem?_eq_getElem (show i < m.length by omega)]; rfl
  generalize l[i]?.getD default = a at *
  generalize m[i]?.getD default = b at *
  by_cases he : (a.op == b.op && (a.at_ == b.at_ && (a.n == b.n && a.mode == b.mode))) = true
  · have hab := lock_ext he
    simp only [he, if_false, Bool.false_eq_true, Bool.not_true]
    refine ih (i + 1, _) _ ⟨hil, fun j hj => ?_⟩ (by simp only; omega) rfl ?_ ?_
    · rcases Nat.lt_succ_iff_lt_or_eq.1 hj with h | h
      · exact hall j h
      · rw [h, g1, g2, hab]
    · simp [LeT, tl]
    · intro n x hx; simp [fnd] at hx
  · have he' : (a.op == b.op && (a.at_ == b.at_ && (a.n == b.n && a.mode == b.mode))) = false := by simpa using he
    have hne := lock_ne he
    have hlm : decide (l = m) = false := decide_eq_false (fun h => hne (by rw [h, g2] at g1; exact (Option.some.inj g1).symm))
    simp only [he', hlm, if_true, eq_self, Bool.not_false]

theorem ent_ext {a b : EntR} (h : (a.name.toList == b.name.toList && (a.kind == b.kind && (a.size == b.size && true))) = true) : a = b := by
  rw [str_eq] at h
  cases a; cases b; simpa using h

/-- The type of entries may be compared. -/
theorem ent_eq : Tryd.prog.stoodInHeld 92 = false ∧ Tryd.prog.eqGuardType Tryd.prog.depth 92 = false ∧ ∀ f ∈ (Tryd.prog.fieldsOf 92).toList, f.name ≠ "_" :=
  ⟨by kernel_rfl, by kernel_rfl, names_of (by kernel_rfl)⟩

set_option maxHeartbeats 1000000 in
theorem Entries_meets (l m : List EntR) (hl : l.length ≤ 1000000000) : Meets Tryd.prog 54 [.v (.view false (.ents l)), .v (.view false (.ents m))] [.v (.bool (decide (l = m)))] := by
  refine meets_go TO 100 Tryd.func54 rfl (fun X => ?_)
  simp only [Tryd.ntmps54, Tryd.results54, pureOpC, unc, svs, blks, AV.sv, absRun, absOps, absOp, evO, constSV, ungd, gdP, gdPs, setD, binI, binV, ptrE, T_ty, tTy, pureOp, lenV, Data.len, retP, resV, retQ, rAs, rA, rA0, ownN, nodup, bares, bare, bare0, Op.operands, Call.operands, List.getD, List.getElem?_cons_zero, List.getElem?_cons_succ, Option.getD_some, List.set, List.map, List.toList_toArray, true_and, and_true, and_self, eq_self, Nat.zero_add, List.append_toArray, List.cons_append, List.nil_append, List.length_cons, List.length_nil, Nat.reduceAdd, Nat.reduceSub, List.replicate_succ, List.replicate_zero, Bool.and_self]
  by_cases h0 : l.length = m.length
  rotate_left
  · rw [decide_eq_false (show ¬ l = m from fun h => h0 (by rw [h])), if_pos (by simp; omega)]
  rw [if_neg (by simp; omega)]
  refine loop_up (fun x : Nat × Nat => x.1 ≤ l.length ∧ ∀ j, j < x.1 → l[j]? = m[j]?)
    (fun x => ⟨tl 26 0 [(0, .view false (.ents l)), (1, .view false (.ents m)), (5, .int .i64 x.1)], [], ⟨x.2, [], 0⟩⟩) (fun x => l.length - x.1) (0, _) ⟨Nat.zero_le _, fun j hj => by omega⟩ ⟨rfl, ?_, ?_⟩ ?_
  · simp [LeT, tl]
  · intro n x hx
    simp [fnd] at hx
  rintro ⟨i, c⟩ ⟨hi, hall⟩ ih
  simp only at hi hall
  refine absRun_ok TO 100 _ _ ?_
  simp only [pureOpC, unc, absRun, absOps, absOp, evO, constSV, ungd, gdP, gdPs, setD, binI, binV, ptrE, T_ty, tTy, pureOp, lenV, Data.len, retP, resV, retQ, rAs, rA, rA0, ownN, nodup, bares, bare, bare0, Op.operands, Call.operands, List.getD, List.getElem?_cons_zero, List.getElem?_cons_succ, Option.getD_some, List.set, List.map, List.toList_toArray, exitTo, true_and, and_true, and_self, if_true, eq_self, Nat.zero_add, List.append_toArray, List.cons_append, List.nil_append, Nat.reduceAdd, Nat.reduceSub, beq_self_eq_true, List.replicate_succ, List.replicate_zero, Bool.and_self, tl]
  by_cases hil : i < l.length
  rotate_left
  · rw [if_neg (by rw [decide_eq_true_eq]; omega)]
    have : l = m := eq_of_get h0 (fun j hj => hall j (by omega))
    rw [decide_eq_true this]
  rw [if_pos (decide_eq_true (by omega))]
  have wi : IntKind.i64.wrap ((i : Int) + 1) = ((i + 1 : Nat) : Int) := by rw [w64 (by omega) (by omega)]; omega
  refine draw_go TO 8 100 mixed_ok (by decide +kernel) ?_
  simp only [List.take_succ_cons, List.take_zero, List.drop_succ_cons, List.drop_zero, pureOpC, unc, isEff, absD, pureStep, absRun, absOps, absOp, evO, constSV, ungd, gdP, gdPs, setD, binI, binV, ptrE, isP, binS, T_ty, T_size, tTy, tSize, iaddrV, pureOp, memOp, loadV, eqF, eq1, isB, isA, blkAt, elemV, Data.len, Data.esz, retP, resV, retQ, rAs, rA, rA0, ownN, nodup, bares, bare, bare0, Op.operands, List.getD, List.getElem?_cons_zero, List.getElem?_cons_succ, Option.getD_some, List.set, List.map, List.toList_toArray, true_and, and_true, and_false, and_self, implies_true, imp_self, eq_self, ne_eq, not_false_eq_true, forall_const, reduceCtorEq, Int.toNat_natCast, Bool.and_self]
  refine ⟨⟨by omega, by omega⟩, ⟨by omega, by omega⟩, ?_⟩
  have g1 : l[i]? = some (l[i]?.getD default) := by rw [List.getElem?_eq_getElem hil]; rfl
  have g2 : m[i]? = some (m[i]?.getD default) := by rw [List.getElem?_eq_getElem (show i < m.length by omega)]; rfl
  generalize l[i]?.getD default = a at *
  generalize m[i]?.getD default = b at *
  refine eqN_ops TO rfl rfl rfl rfl rfl rfl rfl (by decide) rfl rfl ent_eq rfl rfl rfl ⟨rfl, rfl, trivial⟩ (HOps_go TO 100 ?_)
  simp only [wi, pureOpC, unc, absRun, absOps, absOp, evO, constSV, ungd, gdP, gdPs, setD, binI, binV, ptrE, pureOp, retP, resV, retQ, rAs, rA, rA0, ownN, nodup, bares, bare, bare0, Op.operands, List.getD, List.getElem?_cons_zero, List.getElem?_cons_succ, Option.getD_some, List.set, List.map, List.toList_toArray, true_and, and_true, and_self, eq_self, Bool.and_true, Bool.and_self]
  by_cases he : (a.name.toList == b.name.toList && (a.kind == b.kind && (a.size == b.size && true))) = true
  · have hab := ent_ext he
    simp only [Bool.and_true] at he
    simp only [he, if_false, Bool.false_eq_true, Bool.not_true]
    refine ih (i + 1, _) _ ⟨hil, fun j hj => ?_⟩ (by simp only; omega) rfl ?_ ?_
    · rcases Nat.lt_succ_iff_lt_or_eq.1 hj with h | h
      · exact hall j h
      · rw [h, g1, g2, hab]
    · simp [LeT, tl]
    · intro n x hx; simp [fnd] at hx
  · have he' : (a.name.toList == b.name.toList && (a.kind == b.kind && a.size == b.size)) = false := by simpa using he
    have hne : a ≠ b := by rintro rfl; simp at he
    have hlm : decide (l = m) = false := decide_eq_false (fun h => hne (by rw [h, g2] at g1; exact (Option.some.inj g1).symm))
    simp only [he', hlm, if_true, eq_self, Bool.not_false]

end Go.Proofs.YtgipkhjpedpedaaDoor.Abs

/- Asks and Says, compared; bare ones. -/
set_option linter.unusedVariables false
set_option linter.unusedSimpArgs false
set_option maxRecDepth 100000
namespace Go.Proofs.YtgipkhjpedpedaaDoor.Abs
open Go Go.Proofs

def emB (s : ByteArray) : Bool := s.toList == (ByteArray.mk #[]).toList

def bareB (a : Ask) : Bool := (bitsI .or .u32 (bitsI .or .u32 (bitsI .or .u32 (bitsI .or .u32 a.access a.sharing) a.way) a.options) a.n == 0) && (bitsI .or .u8 a.level a.durable == 0) && (bitsI .or .u64 (bitsI .or .u64 a.file a.at_) a.size == 0) &&
  (a.name.toList == (ByteArray.mk #[]).toList) && ((a.data.length : Int) == 0) && ((a.locks.length : Int) == 0) && (bitsI .or .u16 a.most a.cls == 0) && (a.pattern.toList == (ByteArray.mk #[]).toList) && (a.after.toList == (ByteArray.mk #[]).toList) && !a.on

def sameB (a b : Ask) : Bool := decide (a.dialects = b.dialects) && (a.guid == b.guid) && (a.proof == b.proof) && (a.user.toList == b.user.toList) && (a.share.toList == b.share.toList) && bareB a && bareB b

end Go.Proofs.YtgipkhjpedpedaaDoor.Abs

/- The document's Asks, Says; the program's empty. -/
set_option linter.unusedVariables false
set_option linter.unusedSimpArgs false
set_option maxRecDepth 100000
namespace Go.Proofs.YtgipkhjpedpedaaDoor.Abs
open Go Go.Proofs

def asksB (a b : Ask) : Bool := decide (a.dialects = b.dialects) && (a.guid == b.guid) && (a.proof == b.proof) && (a.user.toList == b.user.toList) && (a.share.toList == b.share.toList) && (a.access == b.access) && (a.sharing == b.sharing) && (a.way == b.way) && (a.options == b.options) &&
  (a.level == b.level) && (a.durable == b.durable) && (a.file == b.file) && (a.name.toList == b.name.toList) && (a.at_ == b.at_) && (a.n == b.n) && decide (a.data = b.data) && decide (a.locks = b.locks) && (a.most == b.most) && (a.pattern.toList == b.pattern.toList) && (a.after.toList == b.after.toList) && (a.cls == b.cls) && (a.size == b.size) && (a.on == b.on)

set_option maxHeartbeats 8000000 in
theorem Asks_meets (a b : Ask) (h1 : a.dialects.length ≤ 1000000000) (h2 : a.data.length ≤ 140737488351232) (h3 : a.locks.length ≤ 1000000000) : Meets Tryd.prog 14 [.v (a.sv false), .v (b.sv false)] [.v (.bool (asksB a b))] := by
  have hW := words_meets a.dialects b.dialects h1
  have hS := Same_meets a.data b.data h2
  have hL := Locks_meets a.locks b.locks h3
  refine meets_go TO 100 Tryd.func14 rfl (fun X => ?_)
  simp only [Tryd.ntmps14, Tryd.results14, Ask.sv, Ask.cells, asksB, List.append_eq, pureOpC, unc, svs, blks, AV.sv, absRun, absOps, absOp, evO, constSV, ungd, gdP, gdPs, setD, T_ty, T_size, tTy, tSize, fieldOf, faddrV, pureOp, memOp, loadV, newV, notIn, cellsOf, cellAt, blkAt, fnd, upd, Data.len, Lim.add, retP, resV, retQ, rAs, rA, rA0, ownN, nodup, bares, bare, bare0, Op.operands, List.getD, List.getElem?_cons_zero, List.getElem?_cons_succ, Option.getD_some, List.set, List.map, List.toList_toArray, true_and, and_true, and_self, implies_true, imp_self, if_true, if_false, eq_self, ne_eq, not_false_eq_true, reduceCtorEq, Nat.zero_add, Nat.add_zero, List.cons_append, List.nil_append, List.length_cons, List.length_nil, Nat.reduceAdd, Nat.reduceSub, Nat.reduceEqDiff, Nat.reduceLT, Nat.succ_ne_self, List.replicate_succ, List.replicate_zero, Bool.and_self]
  refine call_go TO 100 hW Tryd.func41 (by decide +kernel) rfl rfl rfl ?_
  simp only [pureOpC, unc, absOps, absOp, evO, constSV, ungd, gdP, gdPs, setD, binI, binV, ptrE, binS, T_ty, T_size, tTy, tSize, fieldOf, faddrV, pickV, pureOp, guardOf, loadV, isI, isA, cellAt, arrAt, blkAt, fnd, ownN, nodup, bares, bare, bare0, guardIs, callP, callS, argS, mAs, mA, mA0, mB0, lowD, allNotIn, impN, impB, impT, packS, delL, Op.operands, List.getD, List.getElem?_cons_zero, List.getElem?_cons_succ, Option.getD_some, List.set, List.map, List.toList_toArray, List.getElem?_toArray, Option.bind_some, true_and, and_self, implies_true, imp_self, if_true, if_false, ite_self, eq_self, ne_eq, not_false_eq_true, reduceCtorEq, Nat.zero_add, Nat.le_refl, Bool.cond_false_right, List.append_nil, Nat.reduceSub, Nat.reduceEqDiff, Nat.reduceLeDiff, Nat.reduceLT, Nat.succ_ne_self, Bool.and_self]
  refine callG_go TO 100 hS Tryd.func13 (by decide +kernel) rfl rfl rfl rfl rfl rfl ?_
  simp only [pureOpC, unc, absOps, absOp, evO, constSV, ungd, gdP, gdPs, setD, T_ty, T_size, tTy, tSize, fieldOf, faddrV, pickV, pureOp, guardOf, loadV, cellAt, blkAt, fnd, ownN, nodup, bares, bare, bare0, callP, argS, mAs, mA, mA0, mB0, lowD, allNotIn, impN, Op.operands, List.getD, List.getElem?_cons_zero, List.getElem?_cons_succ, Option.getD_some, List.set, List.map, List.toList_toArray, List.getElem?_toArray, Option.bind_some, true_and, and_true, and_self, implies_true, imp_self, if_true, if_false, eq_self, ne_eq, not_false_eq_true, forall_const, reduceCtorEq, Nat.zero_add, Bool.cond_false_right, Nat.reduceSub, Nat.reduceEqDiff, Nat.reduceLT, Nat.succ_ne_self, Bool.and_self]
  refine callG_go TO 100 hL Tryd.func42 (by decide +kernel) rfl rfl rfl rfl rfl rfl ?_
  simp only [pureOpC, unc, absRun, absOps, absOp, evO, constSV, ungd, gdP, gdPs, setD, binI, binV, ptrE, binS, T_ty, T_size, tTy, tSize, fieldOf, faddrV, pickV, pureOp, guardOf, loadV, isB, cellAt, blkAt, fnd, retP, resV, retQ, rAs, rA, rA0, ownN, nodup, bares, bare, bare0, callP, argS, mAs, mA, mA0, mB0, lowD, allNotIn, impN, Op.operands, List.getD, List.getElem?_cons_zero, List.getElem?_cons_succ, Option.getD_some, List.set, List.map, List.toList_toArray, List.getElem?_toArray, Option.bind_some, and_true, and_self, implies_true, imp_self, if_true, if_false, eq_self, ne_eq, not_false_eq_true, forall_const, reduceCtorEq, Nat.zero_add, Bool.cond_false_right, Nat.reduceSub, Nat.reduceEqDiff, Nat.reduceLT, Nat.succ_ne_self, Bool.and_self]

def saysB (a b : Say) : Bool := (a.dialect == b.dialect) && (a.size == b.size) && (a.challenge == b.challenge) && (a.level == b.level) && (a.durable == b.durable) && (a.made == b.made) && (a.file == b.file) && (a.kind == b.kind) && decide (a.data = b.data) && (a.n == b.n) && decide (a.entries = b.entries) && (a.more == b.more) && (a.gone == b.gone)

set_option maxHeartbeats 8000000 in
theorem Says_meets (a b : Say) (h2 : a.data.length ≤ 140737488351232) (h3 : a.entries.length ≤ 1000000000) : Meets Tryd.prog 21 [.v (a.sv false), .v (b.sv false)] [.v (.bool (saysB a b))] := by
  have hS := Same_meets a.data b.data h2
  have hL := Entries_meets a.entries b.entries h3
  refine meets_go TO 100 Tryd.func21 rfl (fun X => ?_)
  simp only [Tryd.ntmps21, Tryd.results21, Say.sv, Say.cells, saysB, List.append_eq, pureOpC, unc, svs, blks, AV.sv, absRun, absOps, absOp, evO, constSV, ungd, gdP, gdPs, setD, binI, binV, ptrE, T_ty, T_size, tTy, tSize, fieldOf, faddrV, pickV, pureOp, guardOf, memOp, loadV, newV, notIn, cellsOf, isI, isA, cellAt, arrAt, blkAt, fnd, upd, Data.len, Lim.add, retP, resV, retQ, rAs, rA, rA0, ownN, nodup, bares, bare, bare0, Op.operands, List.getD, List.getElem?_cons_zero, List.getElem?_cons_succ, Option.getD_some, List.set, List.map, List.toList_toArray, List.getElem?_toArray, Option.bind_some, true_and, and_true, and_self, implies_true, imp_self, if_true, if_false, ite_self, eq_self, ne_eq, not_false_eq_true, reduceCtorEq, Nat.zero_add, Nat.add_zero, Bool.cond_false_right, List.cons_append, List.nil_append, List.length_cons, List.length_nil, Nat.reduceAdd, Nat.reduceSub, Nat.reduceEqDiff, Nat.reduceLeDiff, Nat.reduceLT, Nat.succ_ne_self, List.replicate_succ, List.replicate_zero, Bool.and_self]
  refine callG_go TO 100 hS Tryd.func13 (by decide +kernel) rfl rfl rfl rfl rfl rfl ?_
  simp only [pureOpC, unc, absOps, absOp, evO, constSV, ungd, gdP, gdPs, setD, binI, binV, ptrE, T_ty, T_size, tTy, tSize, fieldOf, faddrV, pickV, pureOp, guardOf, loadV, cellAt, blkAt, fnd, ownN, nodup, bares, bare, bare0, callP, argS, mAs, mA, mA0, mB0, lowD, allNotIn, impN, Op.operands, List.getD, List.getElem?_cons_zero, List.getElem?_cons_succ, Option.getD_some, List.set, List.map, List.toList_toArray, List.getElem?_toArray, Option.bind_some, true_and, and_true, and_self, implies_true, imp_self, if_true, if_false, eq_self, ne_eq, not_false_eq_true, forall_const, reduceCtorEq, Nat.zero_add, Bool.cond_false_right, Nat.reduceSub, Nat.reduceEqDiff, Nat.reduceLT, Nat.succ_ne_self, Bool.and_self]
  refine callG_go TO 100 hL Tryd.func54 (by decide +kernel) rfl rfl rfl rfl rfl rfl ?_
  simp only [pureOpC, unc, absRun, absOps, absOp, evO, constSV, ungd, gdP, gdPs, setD, binV, ptrE, T_ty, T_size, tTy, tSize, fieldOf, faddrV, pickV, pureOp, guardOf, loadV, isB, cellAt, blkAt, fnd, retP, resV, retQ, rAs, rA, rA0, ownN, nodup, bares, bare, bare0, callP, argS, mAs, mA, mA0, mB0, lowD, allNotIn, impN, Op.operands, List.getD, List.getElem?_cons_zero, List.getElem?_cons_succ, Option.getD_some, List.set, List.map, List.toList_toArray, List.getElem?_toArray, Option.bind_some, and_true, and_self, implies_true, imp_self, if_true, if_false, eq_self, ne_eq, not_false_eq_true, forall_const, reduceCtorEq, Nat.zero_add, Bool.cond_false_right, Nat.reduceSub, Nat.reduceEqDiff, Nat.reduceLT, Nat.succ_ne_self, Bool.and_self]

def emptyB (s : Say) : Bool := (bitsI .or .u8 s.level s.durable == 0) && (s.made == 0) && (s.file == 0) && (s.kind == 0) && ((s.data.length : Int) == 0) && (s.n == 0) && ((s.entries.length : Int) == 0) && !s.more && !s.gone

end Go.Proofs.YtgipkhjpedpedaaDoor.Abs

/- Asks and Says, compared, in plain words. -/
set_option linter.unusedVariables false
set_option linter.unusedSimpArgs false
set_option maxRecDepth 100000
namespace Go.Proofs.YtgipkhjpedpedaaDoor.Abs
open Go Go.Proofs

/- In plain words. -/
def U8 (x : Int) : Prop := 0 ≤ x ∧ x < 256
def U16 (x : Int) : Prop := 0 ≤ x ∧ x < 65536
def U32 (x : Int) : Prop := 0 ≤ x ∧ x < 4294967296
def U64 (x : Int) : Prop := 0 ≤ x ∧ x < 18446744073709551616

structure Ask.ok (a : Ask) : Prop where
  dialects : ∀ x ∈ a.dialects, U16 x
  guid : a.guid.length = 16 ∧ Bytes a.guid
  proof : a.proof.length = 32 ∧ Bytes a.proof
  access : U32 a.access
  sharing : U32 a.sharing
  way : U32 a.way
  options : U32 a.options
  level : U8 a.level
  durable : U8 a.durable
  file : U64 a.file
  at_ : U64 a.at_
  n : U32 a.n
  data : Bytes a.data
  locks : ∀ x ∈ a.locks, -9223372036854775808 ≤ x.op ∧ x.op ≤ 9223372036854775807 ∧ U64 x.at_ ∧ U64 x.n ∧ U16 x.mode
  most : U16 a.most
  cls : U16 a.cls
  size : U64 a.size

/-- How much there is of it. -/
structure Ask.small (a : Ask) (N : Nat) : Prop where
  dialects : a.dialects.length ≤ N
  user : a.user.size ≤ N
  share : a.share.size ≤ N
  name : a.name.size ≤ N
  data : a.data.length ≤ N
  locks : a.locks.length ≤ N
  pattern : a.pattern.size ≤ N
  after : a.after.size ≤ N

structure Say.ok (s : Say) : Prop where
  dialect : U16 s.dialect
  size : U64 s.size
  challenge : s.challenge.length = 8 ∧ Bytes s.challenge
  level : U8 s.level
  durable : U8 s.durable
  made : U16 s.made
  file : U64 s.file
  kind : U8 s.kind
  data : Bytes s.data
  n : U32 s.n
  entries : ∀ x ∈ s.entries, U8 x.kind ∧ -9223372036854775808 ≤ x.size ∧ x.size ≤ 9223372036854775807

structure Say.small (s : Say) (N : Nat) : Prop where
  data : s.data.length ≤ N
  entries : s.entries.length ≤ N
  names : ∀ x ∈ s.entries, x.name.size ≤ N

theorem asksB_iff (a b : Ask) : asksB a b = true ↔ a = b := by
  unfold asksB
  simp only [str_eq, Bool.and_eq_true, decide_eq_true_eq, beq_iff_eq]
  constructor
  · rintro ⟨⟨⟨⟨⟨⟨⟨⟨⟨⟨⟨⟨⟨⟨⟨⟨⟨⟨⟨⟨⟨⟨h1, h2⟩, h3⟩, h4⟩, h5⟩, h6⟩, h7⟩, h8⟩, h9⟩, h10⟩, h11⟩, h12⟩, h13⟩, h14⟩, h15⟩, h16⟩, h17⟩, h18⟩, h19⟩, h20⟩, h21⟩, h22⟩, h23⟩
    cases a; cases b; simp only at *
    subst h1 h2 h3 h4 h5 h6 h7 h8 h9 h10 h11 h12 h13 h14 h15 h16 h17 h18 h19 h20 h21 h22 h23
    rfl
  · rintro rfl; simp

theorem saysB_iff (a b : Say) : saysB a b = true ↔ a = b := by
  unfold saysB
  simp only [Bool.and_eq_true, decide_eq_true_eq, beq_iff_eq]
  constructor
  · rintro ⟨⟨⟨⟨⟨⟨⟨⟨⟨⟨⟨⟨h1, h2⟩, h3⟩, h4⟩, h5⟩, h6⟩, h7⟩, h8⟩, h9⟩, h10⟩, h11⟩, h12⟩, h13⟩
    cases a; cases b; simp only at *
    subst h1 h2 h3 h4 h5 h6 h7 h8 h9 h10 h11 h12 h13
    rfl
  · rintro rfl; simp

instance : DecidableEq Ask := fun a b => decidable_of_iff (asksB a b = true) (asksB_iff a b)
instance : DecidableEq Say := fun a b => decidable_of_iff (saysB a b = true) (saysB_iff a b)

theorem or_nat {k : IntKind} {x y : Int} {B : Nat} (hk : k.bits = B) (hs : k.signed = false) (x0 : 0 ≤ x) (xh : x < 2 ^ B) (y0 : 0 ≤ y) (yh : y < 2 ^ B) : bitsI .or k x y = ((x.toNat ||| y.toNat : Nat) : Int) ∧ bitsI .or k x y < 2 ^ B := by
  subst hk
  have e1 : (BitVec.ofInt k.bits x).toNat = x.toNat := by
    rw [BitVec.toNat_ofInt]
    rw [Int.emod_eq_of_lt x0 (by simpa using xh)]
  have e2 : (BitVec.ofInt k.bits y).toNat = y.toNat := by
    rw [BitVec.toNat_ofInt]
    rw [Int.emod_eq_of_lt y0 (by simpa using yh)]
  have hx : x.toNat < 2 ^ k.bits := by
    have : ((x.toNat : Nat) : Int) < ((2 ^ k.bits : Nat) : Int) := by rw [Int.toNat_of_nonneg x0]; simpa using xh
    exact_mod_cast this
  have hy : y.toNat < 2 ^ k.bits := by
    have : ((y.toNat : Nat) : Int) < ((2 ^ k.bits : Nat) : Int) := by rw [Int.toNat_of_nonneg y0]; simpa using yh
    exact_mod_cast this
  have ho : x.toNat ||| y.toNat < 2 ^ k.bits := Nat.or_lt_two_pow hx hy
  have hi : ((x.toNat ||| y.toNat : Nat) : Int) < 2 ^ k.bits := by exact_mod_cast ho
  have e3 : bitsI .or k x y = k.wrap ((BitVec.ofInt k.bits x ||| BitVec.ofInt k.bits y).toNat : Int) := rfl
  have e4 : k.wrap ((x.toNat ||| y.toNat : Nat) : Int) = ((x.toNat ||| y.toNat : Nat) : Int) := by
    unfold IntKind.wrap
    simp only [hs, Bool.false_and, Bool.false_eq_true, if_false]
    exact Int.emod_eq_of_lt (Int.natCast_nonneg _) hi
  rw [e3, BitVec.toNat_or, e1, e2, e4]
  exact ⟨rfl, hi⟩

theorem or_zero {k : IntKind} {x y : Int} {B : Nat} (hk : k.bits = B) (hs : k.signed = false) (x0 : 0 ≤ x) (xh : x < 2 ^ B) (y0 : 0 ≤ y) (yh : y < 2 ^ B) : bitsI .or k x y = 0 ↔ x = 0 ∧ y = 0 := by
  rw [(or_nat hk hs x0 xh y0 yh).1]
  have : ((x.toNat ||| y.toNat : Nat) : Int) = 0 ↔ x.toNat ||| y.toNat = 0 := by omega
  rw [this, Nat.or_eq_zero_iff]
  omega

theorem or_in {k : IntKind} {x y : Int} {B : Nat} (hk : k.bits = B) (hs : k.signed = false) (x0 : 0 ≤ x) (xh : x < 2 ^ B) (y0 : 0 ≤ y) (yh : y < 2 ^ B) : 0 ≤ bitsI .or k x y ∧ bitsI .or k x y < 2 ^ B := by
  obtain ⟨h1, h2⟩ := or_nat hk hs x0 xh y0 yh
  exact ⟨by rw [h1]; exact Int.natCast_nonneg _, h2⟩

theorem emp_str (a : ByteArray) : (a.toList == (ByteArray.mk #[]).toList) = decide (a = ByteArray.empty) := str_eq a _

theorem bareB_iff (a : Ask) (h : a.ok) : bareB a = true ↔ a.access = 0 ∧ a.sharing = 0 ∧ a.way = 0 ∧ a.options = 0 ∧ a.n = 0 ∧ a.level = 0 ∧ a.durable = 0 ∧ a.file = 0 ∧ a.at_ = 0 ∧ a.size = 0 ∧ a.name = ByteArray.empty ∧ a.data = [] ∧ a.locks = [] ∧ a.most = 0 ∧ a.cls = 0 ∧ a.pattern = ByteArray.empty ∧ a.after = ByteArray.empty ∧ a.on = false := by
  have p32 : ((2 : Int) ^ 32) = 4294967296 := by decide
  have p64 : ((2 : Int) ^ 64) = 18446744073709551616 := by decide
  have p16 : ((2 : Int) ^ 16) = 65536 := by decide
  have p8 : ((2 : Int) ^ 8) = 256 := by decide
  have a32 : ∀ {x : Int}, U32 x → x < 2 ^ 32 := fun h => by rw [p32]; exact h.2
  have a64 : ∀ {x : Int}, U64 x → x < 2 ^ 64 := fun h => by rw [p64]; exact h.2
  have a16 : ∀ {x : Int}, U16 x → x < 2 ^ 16 := fun h => by rw [p16]; exact h.2
  have a8 : ∀ {x : Int}, U8 x → x < 2 ^ 8 := fun h => by rw [p8]; exact h.2
  have z32 : ∀ x y : Int, (0 ≤ x ∧ x < 2 ^ 32) → (0 ≤ y ∧ y < 2 ^ 32) → (bitsI .or .u32 x y = 0 ↔ x = 0 ∧ y = 0) := fun x y hx hy => or_zero rfl rfl hx.1 hx.2 hy.1 hy.2
  have i32 : ∀ x y : Int, (0 ≤ x ∧ x < 2 ^ 32) → (0 ≤ y ∧ y < 2 ^ 32) → 0 ≤ bitsI .or .u32 x y ∧ bitsI .or .u32 x y < 2 ^ 32 := fun x y hx hy => or_in rfl rfl hx.1 hx.2 hy.1 hy.2
  have z64 : ∀ x y : Int, (0 ≤ x ∧ x < 2 ^ 64) → (0 ≤ y ∧ y < 2 ^ 64) → (bitsI .or .u64 x y = 0 ↔ x = 0 ∧ y = 0) := fun x y hx hy => or_zero rfl rfl hx.1 hx.2 hy.1 hy.2
  have i64 : ∀ x y : Int, (0 ≤ x ∧ x < 2 ^ 64) → (0 ≤ y ∧ y < 2 ^ 64) → 0 ≤ bitsI .or .u64 x y ∧ bitsI .or .u64 x y < 2 ^ 64 := fun x y hx hy => or_in rfl rfl hx.1 hx.2 hy.1 hy.2
  have b1 := (⟨h.access.1, a32 h.access⟩ : 0 ≤ a.access ∧ a.access < 2 ^ 32)
  have b2 := (⟨h.sharing.1, a32 h.sharing⟩ : 0 ≤ a.sharing ∧ a.sharing < 2 ^ 32)
  have b3 := (⟨h.way.1, a32 h.way⟩ : 0 ≤ a.way ∧ a.way < 2 ^ 32)
  have b4 := (⟨h.options.1, a32 h.options⟩ : 0 ≤ a.options ∧ a.options < 2 ^ 32)
  have b5 := (⟨h.n.1, a32 h.n⟩ : 0 ≤ a.n ∧ a.n < 2 ^ 32)
  have c1 := (⟨h.file.1, a64 h.file⟩ : 0 ≤ a.file ∧ a.file < 2 ^ 64)
  have c2 := (⟨h.at_.1, a64 h.at_⟩ : 0 ≤ a.at_ ∧ a.at_ < 2 ^ 64)
  have c3 := (⟨h.size.1, a64 h.size⟩ : 0 ≤ a.size ∧ a.size < 2 ^ 64)
  have e1 := i32 _ _ b1 b2
  have e2 := i32 _ _ e1 b3
  have e3 := i32 _ _ e2 b4
  have f1 := i64 _ _ c1 c2
  have o1 : bitsI .or .u8 a.level a.durable = 0 ↔ a.level = 0 ∧ a.durable = 0 := or_zero rfl rfl h.level.1 (a8 h.level) h.durable.1 (a8 h.durable)
  have o2 : bitsI .or .u16 a.most a.cls = 0 ↔ a.most = 0 ∧ a.cls = 0 := or_zero rfl rfl h.most.1 (a16 h.most) h.cls.1 (a16 h.cls)
  unfold bareB
  simp only [Bool.and_eq_true, beq_iff_eq, emp_str, decide_eq_true_eq, z32 _ _ e3 b5, z32 _ _ e2 b4, z32 _ _ e1 b3, z32 _ _ b1 b2, z64 _ _ f1 c3, z64 _ _ c1 c2, o1, o2, Bool.not_eq_true']
  have l1 : ((a.data.length : Int) = 0) ↔ a.data = [] := by rw [← List.length_eq_zero_iff]; omega
  have l2 : ((a.locks.length : Int) = 0) ↔ a.locks = [] := by rw [← List.length_eq_zero_iff]; omega
  rw [l1, l2]
  simp only [and_assoc]

theorem emptyB_iff (s : Say) (h : s.ok) : emptyB s = true ↔ s.level = 0 ∧ s.durable = 0 ∧ s.made = 0 ∧ s.file = 0 ∧ s.kind = 0 ∧ s.data = [] ∧ s.n = 0 ∧ s.entries = [] ∧ s.more = false ∧ s.gone = false := by
  have o1 : bitsI .or .u8 s.level s.durable = 0 ↔ s.level = 0 ∧ s.durable = 0 := or_zero (B := 8) rfl rfl h.level.1 (by have := h.level.2; simpa using this) h.durable.1 (by have := h.durable.2; simpa using this)
  unfold emptyB
  have l1 : ((s.data.length : Int) = 0) ↔ s.data = [] := by rw [← List.length_eq_zero_iff]; omega
  have l2 : ((s.entries.length : Int) = 0) ↔ s.entries = [] := by rw [← List.length_eq_zero_iff]; omega
  simp only [Bool.and_eq_true, beq_iff_eq, o1, Bool.not_eq_true', l1, l2, and_assoc]

end Go.Proofs.YtgipkhjpedpedaaDoor.Abs

/- What PutAsk answers; the document's Lay. -/
set_option linter.unusedVariables false
set_option linter.unusedSimpArgs false
set_option maxRecDepth 100000
namespace Go.Proofs.YtgipkhjpedpedaaDoor.Abs
open Go Go.Proofs

theorem Lay_meets (l : List Int) (n : Int) (k : Nat) (hl : l.length ≤ 1000000000) (hk : szB k = true) (h0 : 0 ≤ n) (hn : n < 256 ^ k) (hn2 : n < 18446744073709551616) : Meets Tryd.prog 38 [.own (.ints .u8 l), .v (.int .u64 n), .v (.int .i64 k)] [.own (.ints .u8 (l ++ digs k n))] := by
  have hk8 : (k : Int) ≤ 8 := by rcases szB_cases hk with h | h | h | h <;> omega
  have hQ := rPut_meets n k h0 hn2
  rw [putL_k hk hn, putE_k hk hn] at hQ
  have hd := digs_length k n
  refine meets_go TO 100 Tryd.func38 rfl (fun X => ?_)
  simp only [Tryd.ntmps38, Tryd.results38, List.take_succ_cons, List.take_zero, List.drop_succ_cons, List.drop_zero, pureOpC, buildV, fillC, intsP, cntC, arrPV, fieldV, gloadV, GT, unc, capV, sliceC, fitT, isEff, absD, pureStep, subB, svs, blks, AV.sv, absRun, absOps, absOp, evO, constSV, ungd, gdP, gdPs, setD, binI, binV, ptrE, isP, unV, convV, binS, T_ty, T_size, T_bytes, T_zero, tTy, tSize, tBytes, tZero, fieldOf, faddrV, iaddrV, indexV, extractV, lowI, highI, maxP, sliceV, pickV, pureOp, guardOf, memOp, lenV, loadV, newV, notIn, dataOf, nilD, appD, isSrc, scal, cellsOf, elemsOf, intsOf, strsOf, rowsOf, rowOf, zI, aggsOf, okC, flatB, eqF, eq1, T_eq, tEq, isStr, isB, isI, isA, known, cellAt, arrAt, takeC, dropC, setC, setA, blkAt, fnd, upd, del, mv, elemV, one, Data.len, Data.esz, Data.sub, Lim.add, retP, resV, retQ, rAs, rA, rA0, rAl, ownN, nodup, bares, bare, bare0, bareL, bareD, inRet, flats, flatV, flat1, flat2, guardIs, callP, callS, argS, argC, mAs, mA, mA0, mB0, rowsM, mAl, lowD, allNotIn, nm, impN, impB, impT, packS, delL, Op.operands, Call.operands, List.getD, List.getElem?_cons_zero, List.getElem?_cons_succ, List.getElem?_nil, Option.getD_some, Option.getD_none, List.set, List.map, List.all, List.toList_toArray, List.getElem?_toArray, Option.bind_some, Option.bind_none, Option.map_some, Option.map_none, Option.isSome, exitTo, true_and, and_true, false_and, and_false, and_self, implies_true, reduceIte, imp_self, if_true, if_false, ite_self, eq_self, ne_eq, not_false_eq_true, not_true_eq_false, false_implies, true_implies, forall_const, reduceCtorEq, Bool.false_eq_true, List.take_length, Nat.zero_add, Nat.add_zero, Int.sub_zero, Int.zero_add, Int.add_zero, Int.toNat_natCast, Int.cast_ofNat_Int, Int.reduceToNat, Int.reduceSub, Int.reduceAdd, Nat.le_refl, Int.le_refl, Int.toNat_zero, Int.reduceBNe, Int.reduceBEq, Bool.cond_true_left, Bool.cond_false_right, Bool.cond_true, Bool.cond_false, Option.toArray_some, Option.toArray_none, List.append_toArray, List.cons_append, List.nil_append, List.append_nil, List.size_toArray, List.length_cons, List.length_nil, Nat.reduceAdd, Nat.reduceSub, Nat.reduceMul, Nat.reduceDiv, Nat.reduceEqDiff, Nat.reduceBEq, Nat.reduceLeDiff, Nat.reduceLT, Nat.succ_ne_self, Bool.not_true, Bool.not_false, beq_self_eq_true, List.replicate_succ, List.replicate_zero, Bool.and_true, Bool.true_and, Bool.and_self, Bool.and_false, Bool.false_and, Bool.or_false, Bool.or_true, Bool.false_or, Bool.true_or, SV.sl.injEq, SV.int.injEq, Data.ints.injEq, tl, Int.reduceLT, Int.reduceLE, Int.reduceGT, Int.reduceGE, Int.reduceEq, Int.reduceNe, Int.reduceMul, Int.reduceNeg, decide_true, decide_false, gt_iff_lt, ge_iff_le, retC, rI, absI, fnd_same, blk_same, upd_same, Nat.reduceBNe]
  refine call_go TO 100 hQ Tryd.func60 (by decide +kernel) rfl rfl rfl ?_
  have ht : (digs k n).take k = digs k n := List.take_of_length_le (Nat.le_of_eq hd)
  simp only [hd, ht, List.take_succ_cons, List.take_zero, List.drop_succ_cons, List.drop_zero, pureOpC, buildV, fillC, intsP, cntC, arrPV, fieldV, gloadV, GT, unc, capV, sliceC, fitT, isEff, absD, pureStep, subB, svs, blks, AV.sv, absRun, absOps, absOp, evO, constSV, ungd, gdP, gdPs, setD, binI, binV, ptrE, isP, unV, convV, binS, T_ty, T_size, T_bytes, T_zero, tTy, tSize, tBytes, tZero, fieldOf, faddrV, iaddrV, indexV, extractV, lowI, highI, maxP, sliceV, pickV, pureOp, guardOf, memOp, lenV, loadV, newV, notIn, dataOf, nilD, appD, isSrc, scal, cellsOf, elemsOf, intsOf, strsOf, rowsOf, rowOf, zI, aggsOf, okC, flatB, eqF, eq1, T_eq, tEq, isStr, isB, isI, isA, known, cellAt, arrAt, takeC, dropC, setC, setA, blkAt, fnd, upd, del, mv, elemV, one, Data.len, Data.esz, Data.sub, Lim.add, retP, resV, retQ, rAs, rA, rA0, rAl, ownN, nodup, bares, bare, bare0, bareL, bareD, inRet, flats, flatV, flat1, flat2, guardIs, callP, callS, argS, argC, mAs, mA, mA0, mB0, rowsM, mAl, lowD, allNotIn, nm, impN, impB, impT, packS, delL, Op.operands, Call.operands, List.getD, List.getElem?_cons_zero, List.getElem?_cons_succ, List.getElem?_nil, Option.getD_some, Option.getD_none, List.set, List.map, List.all, List.toList_toArray, List.getElem?_toArray, Option.bind_some, Option.bind_none, Option.map_some, Option.map_none, Option.isSome, exitTo, true_and, and_true, false_and, and_false, and_self, implies_true, reduceIte, imp_self, if_true, if_false, ite_self, eq_self, ne_eq, not_false_eq_true, not_true_eq_false, false_implies, true_implies, forall_const, reduceCtorEq, Bool.false_eq_true, List.take_length, Nat.zero_add, Nat.add_zero, Int.sub_zero, Int.zero_add, Int.add_zero, Int.toNat_natCast, Int.cast_ofNat_Int, Int.reduceToNat, Int.reduceSub, Int.reduceAdd, Nat.le_refl, Int.le_refl, Int.toNat_zero, Int.reduceBNe, Int.reduceBEq, Bool.cond_true_left, Bool.cond_false_right, Bool.cond_true, Bool.cond_false, Option.toArray_some, Option.toArray_none, List.append_toArray, List.cons_append, List.nil_append, List.append_nil, List.size_toArray, List.length_cons, List.length_nil, Nat.reduceAdd, Nat.reduceSub, Nat.reduceMul, Nat.reduceDiv, Nat.reduceEqDiff, Nat.reduceBEq, Nat.reduceLeDiff, Nat.reduceLT, Nat.succ_ne_self, Bool.not_true, Bool.not_false, beq_self_eq_true, List.replicate_succ, List.replicate_zero, Bool.and_true, Bool.true_and, Bool.and_self, Bool.and_false, Bool.false_and, Bool.or_false, Bool.or_true, Bool.false_or, Bool.true_or, SV.sl.injEq, SV.int.injEq, Data.ints.injEq, tl, Int.reduceLT, Int.reduceLE, Int.reduceGT, Int.reduceGE, Int.reduceEq, Int.reduceNe, Int.reduceMul, Int.reduceNeg, decide_true, decide_false, gt_iff_lt, ge_iff_le, retC, rI, absI, fnd_same, blk_same, upd_same, Nat.reduceBNe]
  omega

def wantA (c : Int) (a : Ask) : Ask := if c = 0 then { askZ with dialects := a.dialects, guid := a.guid } else if c = 1 then { askZ with proof := a.proof, user := a.user } else if c = 3 then { askZ with share := a.share } else askZ
def paE (c : Int) (a : Ask) : Int := if knB c = false ∨ wantA c a ≠ a then 2 else if c = 0 then (if 16 < a.dialects.length then 3 else 0) else if c = 1 then ptE a.user else if c = 3 then ptE a.share else 0
def paL (c : Int) (a : Ask) : List Int := if paE c a ≠ 0 then [] else if c = 0 then digs 2 a.dialects.length ++ a.dialects.flatMap (digs 2) ++ a.guid else if c = 1 then a.proof ++ ptL a.user else if c = 3 then ptL a.share else [0, 0, 0, 0]

theorem wantA_ok (c : Int) (a : Ask) (h : a.ok) : (wantA c a).ok := by
  have z : askZ.ok := by
    refine ⟨by simp [askZ], ⟨rfl, by unfold Bytes askZ; decide⟩, ⟨rfl, by unfold Bytes askZ; decide⟩, ?_, ?_, ?_, ?_, ?_, ?_, ?_, ?_, ?_, by unfold Bytes askZ; decide, by simp [askZ], ?_, ?_, ?_⟩ <;> (unfold askZ; first | unfold U32 | unfold U8 | unfold U64 | unfold U16) <;> simp
  unfold wantA
  split
  · exact { z with dialects := h.dialects, guid := h.guid }
  split
  · exact { z with proof := h.proof }
  split
  · exact { z with }
  · exact z

theorem same_want (c : Int) (a : Ask) (h : a.ok) : sameB (wantA c a) a = decide (wantA c a = a) := by
  rw [Bool.eq_iff_iff, decide_eq_true_eq]
  have hw : bareB (wantA c a) = true := by
    rw [bareB_iff _ (wantA_ok c a h)]
    unfold wantA
    repeat' split
    all_goals simp [askZ]
  unfold sameB
  simp only [hw, Bool.and_eq_true, beq_iff_eq, decide_eq_true_eq, str_eq, bareB_iff a h]
  constructor
  · rintro ⟨⟨⟨⟨⟨⟨h1, h2⟩, h3⟩, h4⟩, h5⟩, _⟩, g1, g2, g3, g4, g5, g6, g7, g8, g9, g10, g11, g12, g13, g14, g15, g16, g17, g18⟩
    have hb := (bareB_iff _ (wantA_ok c a h)).1 hw
    obtain ⟨k1, k2, k3, k4, k5, k6, k7, k8, k9, k10, k11, k12, k13, k14, k15, k16, k17, k18⟩ := hb
    generalize wantA c a = w at *
    cases a; cases w; simp only at *
    subst h1 h2 h3 h4 h5 g1 g2 g3 g4 g5 g6 g7 g8 g9 g10 g11 g12 g13 g14 g15 g16 g17 g18 k1 k2 k3 k4 k5 k6 k7 k8 k9 k10 k11 k12 k13 k14 k15 k16 k17 k18
    rfl
  · intro e
    have hb := (bareB_iff _ (wantA_ok c a h)).1 hw
    rw [e] at hb ⊢
    exact ⟨⟨⟨⟨⟨⟨rfl, rfl⟩, rfl⟩, rfl⟩, rfl⟩, trivial⟩, hb⟩

theorem digs2 {d : Int} (h : U16 d) : digs 2 d = [d % 256, d / 256] := by
  have h0 := h.1
  have h1 := h.2
  simp only [digs]
  rw [show d / 256 % 256 = d / 256 by omega]

theorem pt_len (s : ByteArray) : (ptL s).length ≤ 514 := by
  unfold ptL
  split
  · rename_i h
    unfold ptE at h
    split at h
    · rename_i h2; exact absurd h h2
    · split at h
      · cases h
      · rw [List.length_append, digs_length]; omega
  · simp

theorem flat2_len (l : List Int) : (l.flatMap (digs 2)).length = 2 * l.length := by
  induction l with
  | nil => rfl
  | cons x l ih => rw [List.flatMap_cons, List.length_append, digs_length, ih, List.length_cons]; omega

theorem flat2_take (l : List Int) (i : Nat) (h : i < l.length) : (l.take (i + 1)).flatMap (digs 2) = (l.take i).flatMap (digs 2) ++ digs 2 (l[i]?.getD 0) := by
  rw [List.take_add_one, List.getElem?_eq_getElem h, List.flatMap_append]; simp

def paB (c : Int) (a : Ask) : Int := if c = 0 then (if 16 < a.dialects.length then 3 else 0) else if c = 1 then ptE a.user else if c = 3 then ptE a.share else 0
theorem paE_ask {c : Int} {a : Ask} (hk : knB c = true) : paE c a = if decide (wantA c a = a) = true then paB c a else 2 := by
  unfold paE paB
  by_cases h : wantA c a = a <;> simp [h, hk]

theorem paL_bad {c : Int} {a : Ask} (h : paE c a ≠ 0) : paL c a = [] := by unfold paL; rw [if_pos h]

end Go.Proofs.YtgipkhjpedpedaaDoor.Abs

/- What the document's PutAsk answers. -/
set_option linter.unusedVariables false
set_option linter.unusedSimpArgs false
set_option maxRecDepth 100000
namespace Go.Proofs.YtgipkhjpedpedaaDoor.Abs
open Go Go.Proofs

theorem asks_dec (a b : Ask) : asksB a b = decide (a = b) := by rw [Bool.eq_iff_iff, asksB_iff, decide_eq_true_eq]
theorem says_dec (a b : Say) : saysB a b = decide (a = b) := by rw [Bool.eq_iff_iff, saysB_iff, decide_eq_true_eq]

end Go.Proofs.YtgipkhjpedpedaaDoor.Abs

/- What PutSay answers: of the program, of the document. -/
set_option linter.unusedVariables false
set_option linter.unusedSimpArgs false
set_option maxRecDepth 100000
namespace Go.Proofs.YtgipkhjpedpedaaDoor.Abs
open Go Go.Proofs

def wantS (c : Int) (s : Say) : Say := if c = 0 then { sayZ with dialect := s.dialect, size := s.size, challenge := s.challenge } else sayZ
def psE (c : Int) (s : Say) : Int := if knB c = false ∨ wantS c s ≠ s ∨ 4294967296 ≤ s.size then 2 else 0
def psL (c : Int) (s : Say) : List Int := if psE c s ≠ 0 then [] else if c = 0 then digs 4 s.dialect ++ (digs 4 s.size ++ s.challenge) else [0, 0, 0, 0]

theorem psL_bad {c : Int} {s : Say} (h : psE c s ≠ 0) : psL c s = [] := by unfold psL; rw [if_pos h]

def plainB (s : Say) : Bool := (s.dialect == 0) && (s.size == 0) && (s.challenge == [0, 0, 0, 0, 0, 0, 0, 0])

theorem want0 (s : Say) (h : s.ok) : emptyB s = decide (wantS 0 s = s) := by
  rw [Bool.eq_iff_iff, decide_eq_true_eq, emptyB_iff s h]
  have e : wantS 0 s = { sayZ with dialect := s.dialect, size := s.size, challenge := s.challenge } := rfl
  rw [e]
  constructor
  · rintro ⟨h1, h2, h3, h4, h5, h6, h7, h8, h9, h10⟩
    cases s; simp only at *
    subst h1 h2 h3 h4 h5 h6 h7 h8 h9 h10
    rfl
  · intro e
    rw [← e]
    simp [sayZ]

theorem wantN (c : Int) (hc : c ≠ 0) (s : Say) (h : s.ok) : (emptyB s && plainB s) = decide (wantS c s = s) := by
  rw [Bool.eq_iff_iff, decide_eq_true_eq, Bool.and_eq_true, emptyB_iff s h]
  have e : wantS c s = sayZ := by unfold wantS; rw [if_neg hc]
  rw [e]
  unfold plainB
  simp only [Bool.and_eq_true, beq_iff_eq]
  constructor
  · rintro ⟨⟨h1, h2, h3, h4, h5, h6, h7, h8, h9, h10⟩, ⟨h11, h12⟩, h13⟩
    cases s; simp only at *
    subst h1 h2 h3 h4 h5 h6 h7 h8 h9 h10 h11 h12 h13
    rfl
  · intro e
    rw [← e]
    simp [sayZ]

theorem shr32 {x : Int} (h : U64 x) : (shrI .u64 x 32 != 0) = decide (4294967296 ≤ x) := by
  have e : shrI .u64 x 32 = x / 4294967296 := by
    show x.fdiv (2 ^ min 32 64) = _
    rw [Int.fdiv_eq_ediv_of_nonneg _ (by decide)]
    rfl
  rw [e, Bool.eq_iff_iff, bne_iff_ne, decide_eq_true_eq]
  have := h.1
  omega

theorem digs4 {d : Int} (h : U16 d) : digs 2 d ++ digs 2 0 = digs 4 d := by
  have h0 := h.1
  have h1 := h.2
  simp only [digs, List.cons_append, List.nil_append, List.cons.injEq, and_true, true_and]
  omega

end Go.Proofs.YtgipkhjpedpedaaDoor.Abs

/- Copies; what lives answers. -/
set_option linter.unusedVariables false
set_option linter.unusedSimpArgs false
set_option maxRecDepth 100000
namespace Go.Proofs.YtgipkhjpedpedaaDoor.Abs
open Go Go.Proofs

theorem CopyLocks_meets (l : List LockR) (hl : l.length ≤ 1048576) : Meets Tryd.prog 28 [.v (.view false (.locks l))] [.own (.locks l)] := by
  refine meets_go TO 100 Tryd.func28 rfl (fun X => ?_)
  simp only [Tryd.ntmps28, Tryd.results28, pureOpC, unc, fitT, svs, blks, AV.sv, absRun, absOps, absOp, evO, constSV, ungd, gdP, gdPs, setD, T_ty, T_size, T_bytes, tTy, tSize, tBytes, pureOp, memOp, notIn, dataOf, isSrc, blkAt, fnd, upd, Data.len, Data.esz, Lim.add, retP, resV, retQ, rAs, rA, ownN, nodup, bares, bare, bareD, Op.operands, Call.operands, List.getD, List.getElem?_cons_zero, List.getElem?_cons_succ, Option.getD_some, List.set, List.map, List.toList_toArray, true_and, and_true, and_self, if_true, eq_self, Nat.zero_add, List.append_toArray, List.cons_append, List.nil_append, List.length_cons, List.length_nil, Nat.reduceAdd, Nat.reduceSub, List.replicate_succ, List.replicate_zero, Bool.and_self]
  exact ⟨by omega, by omega⟩

set_option maxHeartbeats 4000000 in
theorem CopyAsk_meets (a : Ask) (hs : a.small 1048576) : Meets Tryd.prog 10 [.v (a.sv false)] [.v (a.sv true)] := by
  have h1 := hs.dialects
  have h2 := hs.data
  have h3 := hs.locks
  have hC := copy8_meets a.data (by omega)
  have hL := CopyLocks_meets a.locks h3
  refine meets_go TO 100 Tryd.func10 rfl (fun X => ?_)
  simp only [Tryd.ntmps10, Tryd.results10, Ask.sv, Ask.cells, pureOpC, unc, fitT, svs, blks, AV.sv, absRun, absOps, absOp, evO, constSV, ungd, gdP, gdPs, setD, T_ty, T_size, T_bytes, T_zero, tTy, tSize, tBytes, tZero, fieldOf, faddrV, pureOp, memOp, loadV, newV, notIn, dataOf, isSrc, scal, cellsOf, zI, cellAt, setC, blkAt, fnd, upd, Data.len, Data.esz, Lim.add, Op.operands, Call.operands, List.getD, List.getElem?_cons_zero, List.getElem?_cons_succ, Option.getD_some, List.set, List.toList_toArray, Option.map_some, Option.map_none, Option.isSome, true_and, and_self, if_true, if_false, ite_self, eq_self, ne_eq, not_false_eq_true, reduceCtorEq, Nat.zero_add, Nat.add_zero, List.append_toArray, List.cons_append, List.nil_append, List.length_cons, List.length_nil, Nat.reduceAdd, Nat.reduceSub, Nat.reduceEqDiff, Nat.reduceLT, Nat.succ_ne_self, List.replicate_succ, List.replicate_zero]
  refine ⟨⟨by omega, by omega⟩, ?_⟩
  refine call_go TO 100 hC Tryd.func26 (by decide +kernel) rfl rfl rfl ?_
  simp only [pureOpC, unc, absRun, absOps, absOp, evO, ungd, gdP, gdPs, setD, T_ty, T_size, tTy, tSize, fieldOf, faddrV, pureOp, memOp, loadV, notIn, scal, cellAt, setC, blkAt, fnd, upd, Data.len, Data.esz, ownN, nodup, bares, bare, bareD, guardIs, callP, callS, argS, mAs, mA, mA0, mB0, lowD, allNotIn, nm, impN, impB, impT, packS, delL, Op.operands, List.getD, List.getElem?_cons_zero, List.getElem?_cons_succ, Option.getD_some, List.set, List.map, List.toList_toArray, Option.map_some, Option.map_none, Option.isSome, true_and, and_self, if_true, if_false, eq_self, ne_eq, not_false_eq_true, reduceCtorEq, Nat.zero_add, Nat.add_zero, List.append_nil, Nat.reduceAdd, Nat.reduceSub, Nat.reduceMul, Nat.reduceEqDiff, Nat.reduceLT, Nat.succ_ne_self, Bool.and_self]
  refine call_go TO 0 hL Tryd.func28 (by decide +kernel) rfl rfl rfl ?_
  simp only [pureOpC, unc, absRun, absOps, absOp, evO, ungd, gdP, gdPs, setD, T_ty, T_size, tTy, tSize, fieldOf, faddrV, pureOp, memOp, notIn, scal, setC, blkAt, fnd, upd, Data.len, Data.esz, ownN, nodup, bares, bare, bareD, guardIs, callP, callS, argS, mAs, mA, mA0, mB0, lowD, allNotIn, nm, impN, impB, impT, packS, delL, Op.operands, List.getD, List.getElem?_cons_zero, List.getElem?_cons_succ, Option.getD_some, List.set, List.map, List.toList_toArray, Option.map_some, Option.map_none, Option.isSome, true_and, and_self, if_true, if_false, eq_self, ne_eq, not_false_eq_true, reduceCtorEq, Nat.zero_add, Nat.add_zero, List.append_nil, Nat.reduceAdd, Nat.reduceSub, Nat.reduceMul, Nat.reduceEqDiff, Nat.reduceLT, Nat.succ_ne_self, Bool.and_self]
  refine freezeC_go 1 0 7 (.ints .u16 a.dialects) ⟨⟨rfl, rfl, by simp [fnd], by decide, by simp [Data.len]⟩, ?_⟩
  simp only [List.drop_zero, upd, del, Data.sub, List.set, if_true, if_false, eq_self, List.take_length, Nat.reduceEqDiff]
  refine freezeC_go 1 15 10176 (.ints .u8 a.data) ⟨⟨rfl, rfl, by simp [fnd], by decide, by simp [Data.len]⟩, ?_⟩
  simp only [List.drop_zero, upd, del, Data.sub, List.set, if_true, if_false, eq_self, List.take_length, Nat.reduceEqDiff]
  refine freezeC_go 1 16 10240 (.locks a.locks) ⟨⟨rfl, rfl, by simp [fnd], by decide, by simp [Data.len]⟩, ?_⟩
  refine absRun_ok TO 100 _ _ ?_
  simp only [List.drop_zero, pureOpC, cntC, unc, absRun, absOps, absOp, evO, ungd, gdP, gdPs, setD, T_ty, T_size, tTy, tSize, pureOp, memOp, loadV, scal, okC, takeC, dropC, blkAt, fnd, upd, del, Data.sub, retP, resV, retQ, rAs, rA, rA0, rAl, ownN, nodup, bares, bare, bare0, bareL, bareD, Op.operands, List.getD, List.getElem?_cons_zero, List.getElem?_cons_succ, Option.getD_some, List.set, List.map, List.toList_toArray, Option.bind_some, Option.map_some, and_self, implies_true, if_true, if_false, ite_self, eq_self, ne_eq, not_false_eq_true, reduceCtorEq, List.take_length, Nat.zero_add, Nat.add_zero, List.nil_append, List.append_nil, Nat.reduceAdd, Nat.reduceSub, Nat.reduceEqDiff, Nat.reduceLeDiff, Nat.succ_ne_self, Bool.and_self]

set_option maxHeartbeats 4000000 in
theorem CopySay_meets (s : Say) (hs : s.small 1048576) : Meets Tryd.prog 23 [.v (s.sv false)] [.v (s.sv true)] := by
  have h1 := hs.data
  have h2 := hs.entries
  have hC := copy8_meets s.data (by omega)
  refine meets_go TO 100 Tryd.func23 rfl (fun X => ?_)
  simp only [Tryd.ntmps23, Tryd.results23, Say.sv, Say.cells, pureOpC, unc, svs, blks, AV.sv, absRun, absOps, absOp, evO, ungd, gdP, gdPs, setD, T_ty, T_size, T_zero, tTy, tSize, tZero, fieldOf, faddrV, pureOp, memOp, loadV, newV, notIn, cellsOf, cellAt, blkAt, fnd, upd, Lim.add, Op.operands, List.getD, List.getElem?_cons_zero, List.getElem?_cons_succ, Option.getD_some, List.set, List.toList_toArray, true_and, and_self, if_true, if_false, eq_self, ne_eq, not_false_eq_true, reduceCtorEq, Nat.zero_add, List.cons_append, List.nil_append, List.length_cons, List.length_nil, Nat.reduceAdd, Nat.reduceSub, Nat.reduceEqDiff, Nat.reduceLT, Nat.succ_ne_self, List.replicate_succ, List.replicate_zero]
  refine call_go TO 2 hC Tryd.func26 (by decide +kernel) rfl rfl rfl ?_
  simp only [pureOpC, unc, absRun, absOps, absOp, evO, constSV, ungd, gdP, gdPs, setD, T_ty, T_size, tTy, tSize, fieldOf, faddrV, pureOp, memOp, notIn, scal, setC, blkAt, fnd, upd, Data.len, Data.esz, ownN, nodup, bares, bare, bareD, guardIs, callP, callS, argS, mAs, mA, mA0, mB0, lowD, allNotIn, nm, impN, impB, impT, packS, delL, Op.operands, List.getD, List.getElem?_cons_zero, List.getElem?_cons_succ, Option.getD_some, List.set, List.map, List.toList_toArray, Option.map_some, Option.map_none, Option.isSome, true_and, and_self, if_true, if_false, eq_self, ne_eq, not_false_eq_true, reduceCtorEq, Nat.zero_add, Nat.add_zero, List.append_nil, Nat.reduceAdd, Nat.reduceSub, Nat.reduceMul, Nat.reduceEqDiff, Nat.reduceLT, Nat.succ_ne_self, Bool.and_self]
  refine freezeC_go 1 8 10096 (.ints .u8 s.data) ⟨⟨rfl, rfl, by simp [fnd], by decide, by simp [Data.len]⟩, ?_⟩
  refine absRun_ok TO 2 _ _ ?_
  simp only [List.drop_zero, pureOpC, unc, fitT, absRun, absOps, absOp, evO, ungd, gdP, gdPs, setD, T_ty, T_size, T_bytes, tTy, tSize, tBytes, fieldOf, faddrV, pureOp, memOp, loadV, notIn, dataOf, isSrc, scal, cellAt, setC, blkAt, fnd, upd, del, Data.len, Data.esz, Data.sub, Lim.add, Op.operands, Call.operands, List.getD, List.getElem?_cons_zero, List.getElem?_cons_succ, Option.getD_some, List.set, List.toList_toArray, Option.map_some, Option.map_none, Option.isSome, true_and, and_self, if_true, if_false, eq_self, ne_eq, not_false_eq_true, reduceCtorEq, List.take_length, Nat.zero_add, List.append_toArray, List.nil_append, Nat.reduceAdd, Nat.reduceSub, Nat.reduceEqDiff, Nat.reduceLT, Nat.succ_ne_self]
  refine ⟨⟨by omega, by omega⟩, ?_⟩
  refine freezeC_go 1 10 11 (.ents s.entries) ⟨⟨rfl, rfl, by simp [fnd], by decide, by simp [Data.len]⟩, ?_⟩
  refine absRun_ok TO 100 _ _ ?_
  simp only [List.drop_zero, pureOpC, cntC, unc, absRun, absOps, absOp, evO, ungd, gdP, gdPs, setD, T_ty, T_size, tTy, tSize, pureOp, memOp, loadV, scal, okC, takeC, dropC, blkAt, fnd, upd, del, Data.sub, retP, resV, retQ, rAs, rA, rA0, rAl, ownN, nodup, bares, bare, bare0, bareL, bareD, Op.operands, List.getD, List.getElem?_cons_zero, List.getElem?_cons_succ, Option.getD_some, List.set, List.map, List.toList_toArray, Option.bind_some, Option.map_some, and_self, implies_true, if_true, if_false, ite_self, eq_self, ne_eq, not_false_eq_true, reduceCtorEq, List.take_length, Nat.zero_add, Nat.add_zero, List.nil_append, List.append_nil, Nat.reduceAdd, Nat.reduceSub, Nat.reduceEqDiff, Nat.reduceLeDiff, Nat.succ_ne_self, Bool.and_self]

def shA : ByteArray := ⟨#[97]⟩
def askS : Ask := { askZ with share := shA }

theorem askZ_ok : askZ.ok := by
  refine ⟨by simp [askZ], ⟨rfl, by unfold Bytes askZ; decide⟩, ⟨rfl, by unfold Bytes askZ; decide⟩, ?_, ?_, ?_, ?_, ?_, ?_, ?_, ?_, ?_, by unfold Bytes askZ; decide, by simp [askZ], ?_, ?_, ?_⟩ <;> (unfold askZ; first | unfold U32 | unfold U8 | unfold U64 | unfold U16) <;> simp
theorem askZ_small : askZ.small 1048576 := by
  refine ⟨?_, ?_, ?_, ?_, ?_, ?_, ?_, ?_⟩ <;> simp [askZ]

end Go.Proofs.YtgipkhjpedpedaaDoor.Abs
