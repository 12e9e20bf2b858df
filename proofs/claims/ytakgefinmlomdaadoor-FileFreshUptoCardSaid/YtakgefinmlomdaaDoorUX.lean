/- Joined: UA UB UC UD UE UF UG UH UI UJ UK UL UM UN. -/
import Derived.Test.YtakgefinmlomdaaDoorU9
import Derived.Test.YtakgefinmlomdaaDoorRX
import Derived.Test.YtakgefinmlomdaaDoorV2
import Derived.Test.YtakgefinmlomdaaDoorFX
/- Readers: parts. -/
set_option linter.unusedVariables false
set_option linter.unusedSimpArgs false
set_option maxRecDepth 100000
namespace Go.Proofs.YtakgefinmlomdaaDoor.Abs
open Go Go.Proofs

set_option maxHeartbeats 1000000 in
theorem rp_inC {X : Ctx} {b0 : List (Nat × Nat × Blk)} {n g c0 : Nat} {b : List Int} {r : Nat × Int} {k : Nat} {tail : List SV} (hn : fnd b0 n = some (g, rdC b r tail)) (hN : fnd b0 90656 = none)
    (hb : b.length ≤ 140737488351232) (hr : r.1 ≤ b.length) (hk : k ≤ 1000000000) :
    InC Tryd.prog X 69 [.ptr n g 0, .int .i64 k] b0 c0 (.view true (.ints .u8 (rP b k r))) (upd b0 n g (rdC b (rN b k r) tail)) (c0 + 12) := by
  refine inC_go TO 5000 Tryd.func69 rfl (absRun_ok TO 100 _ _ ?_)
  simp only [Tryd.ntmps69, Tryd.results69, hn, rdC, retC, rI, pureOpC, unc, absRun, absOps, absOp, evO, constSV, ungd, gdP, gdPs, setD, binI, binV, ptrE, T_ty, T_size, tTy, tSize, fieldOf, faddrV, pureOp, loadV, cellAt, blkAt, Data.len, resV, flatV, flat2, Op.operands, List.getD, List.getElem?_cons_zero, List.getElem?_cons_succ, Option.getD_some, List.set, List.map, List.toList_toArray, true_and, and_true, and_self, if_true, if_false, eq_self, ne_eq, not_false_eq_true, reduceCtorEq, Nat.zero_add, List.cons_append, List.nil_append, List.length_cons, List.length_nil, Nat.reduceAdd, Nat.reduceSub, Nat.succ_ne_self, List.replicate_succ, List.replicate_zero]
  by_cases h0 : r.2 = 0
  rotate_left
  · have e1 : rN b k r = r := by unfold rN; rw [if_pos h0]
    have e2 : rP b k r = [] := by unfold rP; rw [if_pos h0]
    rw [if_pos (by simpa using h0), e1, e2]
    exact ⟨SubB_same hn, by omega, rfl⟩
  rw [if_neg (by simpa using h0)]
  have wd : IntKind.i64.wrap ((b.length : Int) - r.1) = (b.length : Int) - r.1 := w64 (by omega) (by omega)
  refine draw_go TO 12 100 mixed_ok (by decide +kernel) ?_
  simp only [hn, rdC, retC, rI, wd, List.take_succ_cons, List.take_zero, List.drop_succ_cons, List.drop_zero, pureOpC, unc, isEff, absD, pureStep, absRun, absOps, absOp, evO, constSV, ungd, gdP, gdPs, setD, binI, binV, ptrE, T_ty, T_size, tTy, tSize, fieldOf, faddrV, pureOp, memOp, lenV, loadV, scal, cellAt, setC, blkAt, Data.len, resV, flatV, flat2, Op.operands, Call.operands, List.getD, List.getElem?_cons_zero, List.getElem?_cons_succ, Option.getD_some, List.set, List.map, List.toList_toArray, Option.map_some, true_and, and_true, and_self, if_true, if_false, eq_self, ne_eq, not_false_eq_true, forall_const, reduceCtorEq, Nat.zero_add, Nat.add_zero, List.append_toArray, List.nil_append, Nat.reduceSub, Nat.succ_ne_self]
  by_cases h1 : b.length < r.1 + k
  · have e1 : rN b k r = (r.1, 4) := by unfold rN; rw [if_neg (by simpa using h0), if_pos h1]
    have e2 : rP b k r = [] := by unfold rP; rw [if_neg (by simpa using h0), if_pos h1]
    rw [if_pos (decide_eq_true (by omega)), e1, e2]
    exact ⟨SubB_refl, by omega, rfl⟩
  rw [if_neg (by simp; omega)]
  have e1 : rN b k r = (r.1 + k, 0) := by unfold rN; rw [if_neg (by simpa using h0), if_neg h1]
  have e2 : rP b k r = (b.drop r.1).take k := by unfold rP; rw [if_neg (by simpa using h0), if_neg h1]
  have hne : n ≠ 90656 := by rintro rfl; rw [hN] at hn; cases hn
  have wa : IntKind.i64.wrap ((r.1 : Int) + k) = ((r.1 + k : Nat) : Int) := by rw [w64 (by omega) (by omega)]; omega
  have tk : (((r.1 + k : Nat) : Int) - (r.1 : Int)).toNat = k := by omega
  have hP := copy8_meets ((b.drop r.1).take k) (by rw [List.length_take, List.length_drop]; omega)
  refine draw_go TO 17 100 mixed_ok (by decide +kernel) ?_
  simp only [hn, rdC, retC, rI, wa, tk, List.take_succ_cons, List.take_zero, List.drop_succ_cons, List.drop_zero, pureOpC, gloadV, GT, unc, isEff, absD, pureStep, absRun, absOps, absOp, evO, constSV, ungd, gdP, gdPs, setD, binI, binV, ptrE, binS, T_ty, T_size, tTy, tSize, fieldOf, faddrV, lowI, highI, maxP, sliceV, pureOp, memOp, loadV, scal, cellAt, blkAt, elemV, Data.len, Data.esz, Data.sub, resV, flatV, flat2, Op.operands, List.getD, List.getElem?_cons_zero, List.getElem?_cons_succ, Option.getD_some, List.set, List.map, List.toList_toArray, Option.map_some, Option.map_none, Option.isSome, true_and, and_true, and_self, if_true, if_false, eq_self, ne_eq, not_false_eq_true, forall_const, Nat.zero_add, Nat.add_zero, Int.toNat_natCast, Option.toArray_some, Option.toArray_none, List.append_toArray, List.cons_append, List.nil_append, List.append_nil, Nat.reduceSub, Nat.succ_ne_self]
  refine ⟨⟨by omega, by omega, by omega⟩, ?_⟩
  refine callDS_go TO (fun s' h' => h') hP Tryd.func29 (by decide +kernel) rfl rfl rfl (SubB_new hN) ?_
  simp only [pureOpC, unc, isEff, absD, pureStep, evO, ungd, gdP, gdPs, setD, notIn, Data.len, Data.esz, ownN, nodup, bares, bare, bareD, guardIs, callP, callS, argS, mAs, mA, mA0, mB0, lowD, allNotIn, nm, impN, impB, impT, packS, delL, Op.operands, List.getD, List.getElem?_cons_zero, List.getElem?_cons_succ, Option.getD_some, List.set, List.map, List.toList_toArray, true_and, and_self, eq_self, Nat.add_zero, List.append_nil, Nat.reduceAdd, Nat.reduceMul, Bool.and_self]
  refine freeze_ops 5 90656 ⟨⟨by simp, rfl, fnd_same _ _ _ _, by simp⟩, fun i hi => ?_⟩
  refine HRun.dropB (b := b0) (SubB_del_new hN) (HOps_go TO 100 ?_ i hi)
  simp only [e1, e2, wa, h0, hn, rdC, retC, rI, List.drop_zero, pureOpC, unc, absRun, absOps, absOp, evO, ungd, gdP, gdPs, setD, binI, binV, ptrE, T_ty, T_size, tTy, tSize, fieldOf, faddrV, pureOp, memOp, loadV, scal, cellAt, setC, blkAt, resV, flatV, flat2, Op.operands, List.getD, List.getElem?_cons_zero, List.getElem?_cons_succ, Option.getD_some, List.set, List.map, List.toList_toArray, Option.map_some, true_and, and_true, and_self, if_true, if_false, eq_self, ne_eq, not_false_eq_true, List.take_length, Nat.zero_add, Int.reduceBNe, Nat.reduceSub, Nat.succ_ne_self]
  exact ⟨SubB_refl, by omega⟩

end Go.Proofs.YtakgefinmlomdaaDoor.Abs

/- Asks and Says, told; what GetSay answers. -/
set_option linter.unusedVariables false
set_option linter.unusedSimpArgs false
set_option maxRecDepth 100000
namespace Go.Proofs.YtakgefinmlomdaaDoor.Abs
open Go Go.Proofs

structure Ask where
  dialects : List Int
  guid : List Int
  proof : List Int
  user : ByteArray
  share : ByteArray
  access : Int
  sharing : Int
  way : Int
  options : Int
  level : Int
  durable : Int
  file : Int
  name : ByteArray
  at_ : Int
  n : Int
  data : List Int
  locks : List LockR
  most : Int
  pattern : ByteArray
  after : ByteArray
  cls : Int
  size : Int
  on : Bool

structure Say where
  dialect : Int
  size : Int
  challenge : List Int
  level : Int
  durable : Int
  made : Int
  file : Int
  kind : Int
  data : List Int
  n : Int
  entries : List EntR
  more : Bool
  gone : Bool

def Ask.cells (t : Bool) (a : Ask) : List SV := [.view t (.ints .u16 a.dialects), .arr .u8 16 a.guid, .arr .u8 32 a.proof, .str a.user, .str a.share, .int .u32 a.access, .int .u32 a.sharing, .int .u32 a.way, .int .u32 a.options, .int .u8 a.level, .int .u8 a.durable, .int .u64 a.file, .str a.name, .int .u64 a.at_, .int .u32 a.n, .view t (.ints .u8 a.data), .view t (.locks a.locks), .int .u16 a.most, .str a.pattern, .str a.after, .int .u16 a.cls, .int .u64 a.size, .bool a.on]
def Ask.sv (t : Bool) (a : Ask) : SV := .agg (a.cells t)
def Say.cells (t : Bool) (s : Say) : List SV := [.int .u16 s.dialect, .int .u64 s.size, .arr .u8 8 s.challenge, .int .u8 s.level, .int .u8 s.durable, .int .u16 s.made, .int .u64 s.file, .int .u8 s.kind, .view t (.ints .u8 s.data), .int .u32 s.n, .view t (.ents s.entries), .bool s.more, .bool s.gone]
def Say.sv (t : Bool) (s : Say) : SV := .agg (s.cells t)

def askZ : Ask := ⟨[], List.replicate 16 0, List.replicate 32 0, ByteArray.empty, ByteArray.empty, 0, 0, 0, 0, 0, 0, 0, ByteArray.empty, 0, 0, [], [], 0, ByteArray.empty, ByteArray.empty, 0, 0, false⟩
def sayZ : Say := ⟨0, 0, List.replicate 8 0, 0, 0, 0, 0, 0, [], 0, [], false, false⟩

def knB (c : Int) : Bool := decide (c ≤ 4) || c == 13

/-- Bytes of an array, noughts behind them. -/
def padA (n : Nat) (p : List Int) : List Int := p ++ List.replicate (n - p.length) 0

def gsR (c : Int) (b : List Int) : Nat × Int := if c = 0 then rN b 8 (rN b 4 (rM b 2 0 5 (rN b 2 (0, 0)))) else rM b 4 0 5 (0, 0)
def gsE (c : Int) (b : List Int) : Int := if knB c = true then rEnd b (gsR c b) else 2
def gsS (c : Int) (b : List Int) : Say := if gsE c b = 0 ∧ c = 0 then { sayZ with dialect := rV b 2 (0, 0), size := rV b 4 (rM b 2 0 5 (rN b 2 (0, 0))), challenge := padA 8 (rP b 8 (rN b 4 (rM b 2 0 5 (rN b 2 (0, 0))))) } else sayZ

end Go.Proofs.YtakgefinmlomdaaDoor.Abs

/- What the document's GetSay answers. -/
set_option linter.unusedVariables false
set_option linter.unusedSimpArgs false
set_option maxRecDepth 100000
namespace Go.Proofs.YtakgefinmlomdaaDoor.Abs
open Go Go.Proofs

end Go.Proofs.YtakgefinmlomdaaDoor.Abs

/- What GetAsk answers. -/
set_option linter.unusedVariables false
set_option linter.unusedSimpArgs false
set_option maxRecDepth 100000
namespace Go.Proofs.YtakgefinmlomdaaDoor.Abs
open Go Go.Proofs

theorem raise_go {P : Program} {X : Ctx} {todo : List Item} {s : St} {Φ : St → Prop} (c1 : Nat) (hc : s.c.c < c1) (h : HRun P X todo ⟨s.t, s.b, ⟨c1, [], s.c.o⟩⟩ Φ) : HRun P X todo s Φ :=
  fun σ w a hR => h.after (R_raise hR hc) (Tr_raise hc)
theorem raise_ops {P : Program} {X : Ctx} {ops : Array Oper} {rest : List Oper} {k : List Item} {s : St} {Φ : St → Prop} (c1 : Nat) (hc : s.c.c < c1) (h : HOps P X ops rest k ⟨s.t, s.b, ⟨c1, [], s.c.o⟩⟩ Φ) : HOps P X ops rest k s Φ :=
  fun i hi => raise_go c1 hc (h i hi)

theorem rT_le {b : List Int} {r : Nat × Int} (hB : Bytes b) (h : r.1 ≤ b.length) : (rT b r).1 ≤ b.length := by
  have := gtX_ok hB h
  unfold rT
  split
  · exact h
  · split
    · exact h
    · simp only; omega

def dlF (b : List Int) : Nat → Nat × Int → List Int → List Int × (Nat × Int)
  | 0, r, l => (l, r)
  | k + 1, r, l => if r.2 = 0 then dlF b k (rN b 2 r) (l ++ [rV b 2 r]) else (l, r)

def gaR0 (b : List Int) : List Int × (Nat × Int) := dlF b (rV b 2 (0, 0)).toNat (rM b 2 16 3 (0, 0)) []
def gaR (c : Int) (b : List Int) : Nat × Int := if c = 0 then rN b 16 (gaR0 b).2 else if c = 1 then rT b (rN b 32 (0, 0)) else if c = 3 then rT b (0, 0) else rM b 4 0 5 (0, 0)
def gaE (c : Int) (b : List Int) : Int := if knB c = true then rEnd b (gaR c b) else 2
def gaA (c : Int) (b : List Int) : Ask := if gaE c b ≠ 0 then askZ else if c = 0 then { askZ with dialects := (gaR0 b).1, guid := padA 16 (rP b 16 (gaR0 b).2) } else if c = 1 then { askZ with proof := padA 32 (rP b 32 (0, 0)), user := rS b (rN b 32 (0, 0)) } else if c = 3 then { askZ with share := rS b (0, 0) } else askZ

abbrev z16 : List Int := [0, 0, 0, 0, 0, 0, 0, 0, 0, 0, 0, 0, 0, 0, 0, 0]
abbrev z32 : List Int := [0, 0, 0, 0, 0, 0, 0, 0, 0, 0, 0, 0, 0, 0, 0, 0, 0, 0, 0, 0, 0, 0, 0, 0, 0, 0, 0, 0, 0, 0, 0, 0]
abbrev akC (d : SV) (g p : List Int) (u s : ByteArray) : List SV := [d, .arr .u8 16 g, .arr .u8 32 p, .str u, .str s, .int .u32 0, .int .u32 0, .int .u32 0, .int .u32 0, .int .u8 0, .int .u8 0, .int .u64 0, .str ByteArray.empty, .int .u64 0, .int .u32 0, .nil, .nil, .int .u16 0, .str ByteArray.empty, .str ByteArray.empty, .int .u16 0, .int .u64 0, .bool false]

end Go.Proofs.YtakgefinmlomdaaDoor.Abs

/- What the document's GetAsk answers. -/
set_option linter.unusedVariables false
set_option linter.unusedSimpArgs false
set_option maxRecDepth 100000
namespace Go.Proofs.YtakgefinmlomdaaDoor.Abs
open Go Go.Proofs

theorem rMV_lt (b : List Int) (k : Nat) (m : Int) (r : Nat × Int) (hB : Bytes b) : 0 ≤ rMV b k m r ∧ rMV b k m r < 256 ^ k := by
  unfold rMV
  split
  · exact ⟨by omega, Int.pow_pos (by decide)⟩
  · exact rV_lt b k r hB

end Go.Proofs.YtakgefinmlomdaaDoor.Abs

/- slices.Grow of nothing, slices.Concat; lists compared. -/
set_option linter.unusedVariables false
set_option linter.unusedSimpArgs false
set_option maxRecDepth 100000
namespace Go.Proofs.YtakgefinmlomdaaDoor.Abs
open Go Go.Proofs

end Go.Proofs.YtakgefinmlomdaaDoor.Abs

/- Lists, Asks and Says, compared. -/
set_option linter.unusedVariables false
set_option linter.unusedSimpArgs false
set_option maxRecDepth 100000
namespace Go.Proofs.YtakgefinmlomdaaDoor.Abs
open Go Go.Proofs

theorem str_eq (a b : ByteArray) : (a.toList == b.toList) = decide (a = b) := by
  rw [Bool.eq_iff_iff, beq_iff_eq, decide_eq_true_eq, ByteArray.toList_eq, ByteArray.toList_eq]
  constructor
  · intro h
    cases a; cases b
    simp only [ByteArray.mk.injEq]
    exact Array.ext' h
  · rintro rfl; rfl

/-- Two lists alike, as far as a place. -/
theorem eq_of_get {α : Type} {l m : List α} (hl : l.length = m.length) (h : ∀ i, i < l.length → l[i]? = m[i]?) : l = m := by
  apply List.ext_getElem?
  intro i
  by_cases hi : i < l.length
  · exact h i hi
  · rw [List.getElem?_eq_none (by omega), List.getElem?_eq_none (by omega)]

theorem get_of {l : List Int} {i : Nat} (h : i < l.length) : l[i]? = some (l[i]?.getD 0) := by rw [List.getElem?_eq_getElem h]; rfl

set_option maxHeartbeats 1000000 in
theorem words_meets (l m : List Int) (hl : l.length ≤ 1000000000) : Meets Tryd.prog 41 [.v (.view false (.ints .u16 l)), .v (.view false (.ints .u16 m))] [.v (.bool (decide (l = m)))] := by
  refine meets_go TO 100 Tryd.func41 rfl (fun X => ?_)
  simp only [Tryd.ntmps41, Tryd.results41, pureOpC, unc, svs, blks, AV.sv, absRun, absOps, absOp, evO, constSV, ungd, gdP, gdPs, setD, binI, binV, ptrE, T_ty, tTy, pureOp, lenV, Data.len, retP, resV, retQ, rAs, rA, rA0, ownN, nodup, bares, bare, bare0, Op.operands, Call.operands, List.getD, List.getElem?_cons_zero, List.getElem?_cons_succ, Option.getD_some, List.set, List.map, List.toList_toArray, true_and, and_true, and_self, eq_self, Nat.zero_add, List.append_toArray, List.cons_append, List.nil_append, List.length_cons, List.length_nil, Nat.reduceAdd, Nat.reduceSub, List.replicate_succ, List.replicate_zero, Bool.and_self]
  by_cases h0 : l.length = m.length
  rotate_left
  · rw [decide_eq_false (show ¬ l = m from fun h => h0 (by rw [h])), if_pos (by simp; omega)]
  rw [if_neg (by simp; omega)]
  refine loop_up (fun x : Nat × Nat => x.1 ≤ l.length ∧ ∀ j, j < x.1 → l[j]? = m[j]?)
    (fun x => ⟨tl 26 0 [(0, .view false (.ints .u16 l)), (1, .view false (.ints .u16 m)), (5, .int .i64 x.1)], [], ⟨x.2, [], 0⟩⟩) (fun x => l.length - x.1) (0, _) ⟨Nat.zero_le _, fun j hj => by omega⟩ ⟨rfl, ?_, ?_⟩ ?_
  · simp [LeT, tl]
  · intro n x hx
    simp [fnd] at hx
  rintro ⟨i, c⟩ ⟨hi, hall⟩ ih
  simp only at hi hall
  refine absRun_ok TO 100 _ _ ?_
  simp only [pureOpC, unc, absRun, absOps, absOp, evO, constSV, ungd, gdP, gdPs, setD, binI, binV, ptrE, T_ty, tTy, pureOp, lenV, Data.len, retP, resV, retQ, rAs, rA, rA0, ownN, nodup, bares, bare, bare0, Op.operands, Call.operands, List.getD, List.getElem?_cons_zero, List.getElem?_cons_succ, Option.getD_some, List.set, List.map, List.toList_toArray, exitTo, true_and, and_true, and_self, if_true, eq_self, Nat.zero_add, List.append_toArray, List.cons_append, List.nil_append, Nat.reduceAdd, Nat.reduceSub, beq_self_eq_true, List.replicate_succ, List.replicate_zero, Bool.and_self, tl]
  by_cases hil : i < l.length
  rotate_left
  · rw [if_neg (by rw [decide_eq_true_eq]; omega)]
    have : l = m := eq_of_get h0 (fun j hj => hall j (by omega))
    rw [decide_eq_true this]
  rw [if_pos (decide_eq_true (by omega))]
  have wi : IntKind.i64.wrap ((i : Int) + 1) = ((i + 1 : Nat) : Int) := by rw [w64 (by omega) (by omega)]; omega
  refine draw_go TO 9 100 mixed_ok (by decide +kernel) ?_
  simp only [wi, List.take_succ_cons, List.take_zero, List.drop_succ_cons, List.drop_zero, pureOpC, unc, isEff, absD, pureStep, absRun, absOps, absOp, evO, constSV, ungd, gdP, gdPs, setD, binI, binV, ptrE, binS, T_ty, T_size, tTy, tSize, iaddrV, pureOp, memOp, loadV, elemV, Data.len, Data.esz, retP, resV, retQ, rAs, rA, rA0, ownN, nodup, bares, bare, bare0, Op.operands, List.getD, List.getElem?_cons_zero, List.getElem?_cons_succ, Option.getD_some, List.set, List.map, List.toList_toArray, true_and, and_true, and_self, implies_true, imp_self, eq_self, ne_eq, not_false_eq_true, forall_const, reduceCtorEq, Int.toNat_natCast, Nat.reduceLT, Nat.succ_ne_self, Bool.and_self]
  refine ⟨⟨by omega, by omega⟩, ⟨by omega, by omega⟩, ?_⟩
  have g1 := get_of hil
  have g2 := get_of (l := m) (i := i) (by omega)
  by_cases he : l[i]?.getD 0 = m[i]?.getD 0
  · rw [if_neg (by simpa using he)]
    refine ih (i + 1, _) _ ⟨hil, fun j hj => ?_⟩ (by simp only; omega) rfl ?_ ?_
    · rcases Nat.lt_succ_iff_lt_or_eq.1 hj with h | h
      · exact hall j h
      · rw [h, g1, g2, he]
    · simp [LeT, tl]
    · intro n x hx; simp [fnd] at hx
  · rw [if_pos (by simpa using he), decide_eq_false (fun h => he (by rw [h]))]

instance : DecidableEq LockR := fun a b => decidable_of_iff (a.op = b.op ∧ a.at_ = b.at_ ∧ a.n = b.n ∧ a.mode = b.mode) (by cases a; cases b; simp)
instance : DecidableEq EntR := fun a b => decidable_of_iff (a.name = b.name ∧ a.kind = b.kind ∧ a.size = b.size) (by cases a; cases b; simp)

theorem lock_ext {a b : LockR} (h : (a.op == b.op && (a.at_ == b.at_ && (a.n == b.n && a.mode == b.mode))) = true) : a = b := by
  cases a; cases b; simpa using h
theorem lock_ne {a b : LockR} (h : ¬ (a.op == b.op && (a.at_ == b.at_ && (a.n == b.n && a.mode == b.mode))) = true) : a ≠ b := by
  rintro rfl; simp at h

set_option maxHeartbeats 1000000 in
theorem Locks_meets (l m : List LockR) (hl : l.length ≤ 1000000000) : Meets Tryd.prog 42 [.v (.view false (.locks l)), .v (.view false (.locks m))] [.v (.bool (decide (l = m)))] := by
  refine meets_go TO 100 Tryd.func42 rfl (fun X => ?_)
  simp only [Tryd.ntmps42, Tryd.results42, pureOpC, unc, svs, blks, AV.sv, absRun, absOps, absOp, evO, constSV, ungd, gdP, gdPs, setD, binI, binV, ptrE, T_ty, tTy, pureOp, lenV, Data.len, retP, resV, retQ, rAs, rA, rA0, ownN, nodup, bares, bare, bare0, Op.operands, Call.operands, List.getD, List.getElem?_cons_zero, List.getElem?_cons_succ, Option.getD_some, List.set, List.map, List.toList_toArray, true_and, and_true, and_self, eq_self, Nat.zero_add, List.append_toArray, List.cons_append, List.nil_append, List.length_cons, List.length_nil, Nat.reduceAdd, Nat.reduceSub, List.replicate_succ, List.replicate_zero, Bool.and_self]
  by_cases h0 : l.length = m.length
  rotate_left
  · rw [decide_eq_false (show ¬ l = m from fun h => h0 (by rw [h])), if_pos (by simp; omega)]
  rw [if_neg (by simp; omega)]
  refine loop_up (fun x : Nat × Nat => x.1 ≤ l.length ∧ ∀ j, j < x.1 → l[j]? = m[j]?)
    (fun x => ⟨tl 26 0 [(0, .view false (.locks l)), (1, .view false (.locks m)), (5, .int .i64 x.1)], [], ⟨x.2, [], 0⟩⟩) (fun x => l.length - x.1) (0, _) ⟨Nat.zero_le _, fun j hj => by omega⟩ ⟨rfl, ?_, ?_⟩ ?_
  · simp [LeT, tl]
  · intro n x hx
    simp [fnd] at hx
  rintro ⟨i, c⟩ ⟨hi, hall⟩ ih
  simp only at hi hall
  refine absRun_ok TO 100 _ _ ?_
  simp only [pureOpC, unc, absRun, absOps, absOp, evO, constSV, ungd, gdP, gdPs, setD, binI, binV, ptrE, T_ty, tTy, pureOp, lenV, Data.len, retP, resV, retQ, rAs, rA, rA0, ownN, nodup, bares, bare, bare0, Op.operands, Call.operands, List.getD, List.getElem?_cons_zero, List.getElem?_cons_succ, Option.getD_some, List.set, List.map, List.toList_toArray, exitTo, true_and, and_true, and_self, if_true, eq_self, Nat.zero_add, List.append_toArray, List.cons_append, List.nil_append, Nat.reduceAdd, Nat.reduceSub, beq_self_eq_true, List.replicate_succ, List.replicate_zero, Bool.and_self, tl]
  by_cases hil : i < l.length
  rotate_left
  · rw [if_neg (by rw [decide_eq_true_eq]; omega)]
    have : l = m := eq_of_get h0 (fun j hj => hall j (by omega))
    rw [decide_eq_true this]
  rw [if_pos (decide_eq_true (by omega))]
  have wi : IntKind.i64.wrap ((i : Int) + 1) = ((i + 1 : Nat) : Int) := by rw [w64 (by omega) (by omega)]; omega
  refine draw_go TO 9 100 mixed_ok (by decide +kernel) ?_
  simp only [wi, List.take_succ_cons, List.take_zero, List.drop_succ_cons, List.drop_zero, pureOpC, unc, isEff, absD, pureStep, absRun, absOps, absOp, evO, constSV, ungd, gdP, gdPs, setD, binI, binV, ptrE, binS, T_ty, T_size, tTy, tSize, iaddrV, pureOp, memOp, loadV, eqF, eq1, T_eq, tEq, cellAt, elemV, Data.len, Data.esz, retP, resV, retQ, rAs, rA, rA0, ownN, nodup, bares, bare, bare0, Op.operands, List.getD, List.getElem?_cons_zero, List.getElem?_cons_succ, Option.getD_some, List.set, List.map, List.toList_toArray, true_and, and_true, and_self, implies_true, imp_self, if_true, if_false, eq_self, ne_eq, not_false_eq_true, forall_const, reduceCtorEq, Int.toNat_natCast, Nat.reduceSub, Nat.succ_ne_self, Bool.and_true, Bool.and_self]
  refine ⟨⟨by omega, by omega⟩, ⟨by omega, by omega⟩, ?_⟩
  have g1 : l[i]? = some (l[i]?.getD default) := by rw [List.getElem?_eq_getElem hil]; rfl
  have g2 : m[i]? = some (m[i]?.getD default) := by rw [List.getElem?_eq_getElem (show i < m.length by omega)]; rfl
  generalize l[i]?.getD default = a at *
  generalize m[i]?.getD default = b at *
  by_cases he : (a.op == b.op && (a.at_ == b.at_ && (a.n == b.n && a.mode == b.mode))) = true
  · have hab := lock_ext he
    simp only [he, if_false, Bool.false_eq_true, Bool.not_true]
    refine ih (i + 1, _) _ ⟨hil, fun j hj => ?_⟩ (by simp only; omega) rfl ?_ ?_
    · rcases Nat.lt_succ_iff_lt_or_eq.1 hj with h | h
      · exact hall j h
      · rw [h, g1, g2, hab]
    · simp [LeT, tl]
    · intro n x hx; simp [fnd] at hx
  · have he' : (a.op == b.op && (a.at_ == b.at_ && (a.n == b.n && a.mode == b.mode))) = false := by simpa using he
    have hne := lock_ne he
    have hlm : decide (l = m) = false := decide_eq_false (fun h => hne (by rw [h, g2] at g1; exact (Option.some.inj g1).symm))
    simp only [he', hlm, if_true, eq_self, Bool.not_false]

theorem ent_ext {a b : EntR} (h : (a.name.toList == b.name.toList && (a.kind == b.kind && (a.size == b.size && true))) = true) : a = b := by
  rw [str_eq] at h
  cases a; cases b; simpa using h

/-- The type of entries may be compared. -/
theorem ent_eq : Tryd.prog.stoodInHeld 105 = false ∧ Tryd.prog.eqGuardType Tryd.prog.depth 105 = false ∧ ∀ f ∈ (Tryd.prog.fieldsOf 105).toList, f.name ≠ "_" :=
  ⟨by kernel_rfl, by kernel_rfl, names_of (by kernel_rfl)⟩

set_option maxHeartbeats 1000000 in
theorem Entries_meets (l m : List EntR) (hl : l.length ≤ 1000000000) : Meets Tryd.prog 56 [.v (.view false (.ents l)), .v (.view false (.ents m))] [.v (.bool (decide (l = m)))] := by
  refine meets_go TO 100 Tryd.func56 rfl (fun X => ?_)
  simp only [Tryd.ntmps56, Tryd.results56, pureOpC, unc, svs, blks, AV.sv, absRun, absOps, absOp, evO, constSV, ungd, gdP, gdPs, setD, binI, binV, ptrE, T_ty, tTy, pureOp, lenV, Data.len, retP, resV, retQ, rAs, rA, rA0, ownN, nodup, bares, bare, bare0, Op.operands, Call.operands, List.getD, List.getElem?_cons_zero, List.getElem?_cons_succ, Option.getD_some, List.set, List.map, List.toList_toArray, true_and, and_true, and_self, eq_self, Nat.zero_add, List.append_toArray, List.cons_append, List.nil_append, List.length_cons, List.length_nil, Nat.reduceAdd, Nat.reduceSub, List.replicate_succ, List.replicate_zero, Bool.and_self]
  by_cases h0 : l.length = m.length
  rotate_left
  · rw [decide_eq_false (show ¬ l = m from fun h => h0 (by rw [h])), if_pos (by simp; omega)]
  rw [if_neg (by simp; omega)]
  refine loop_up (fun x : Nat × Nat => x.1 ≤ l.length ∧ ∀ j, j < x.1 → l[j]? = m[j]?)
    (fun x => ⟨tl 26 0 [(0, .view false (.ents l)), (1, .view false (.ents m)), (5, .int .i64 x.1)], [], ⟨x.2, [], 0⟩⟩) (fun x => l.length - x.1) (0, _) ⟨Nat.zero_le _, fun j hj => by omega⟩ ⟨rfl, ?_, ?_⟩ ?_
  · simp [LeT, tl]
  · intro n x hx
    simp [fnd] at hx
  rintro ⟨i, c⟩ ⟨hi, hall⟩ ih
  simp only at hi hall
  refine absRun_ok TO 100 _ _ ?_
  simp only [pureOpC, unc, absRun, absOps, absOp, evO, constSV, ungd, gdP, gdPs, setD, binI, binV, ptrE, T_ty, tTy, pureOp, lenV, Data.len, retP, resV, retQ, rAs, rA, rA0, ownN, nodup, bares, bare, bare0, Op.operands, Call.operands, List.getD, List.getElem?_cons_zero, List.getElem?_cons_succ, Option.getD_some, List.set, List.map, List.toList_toArray, exitTo, true_and, and_true, and_self, if_true, eq_self, Nat.zero_add, List.append_toArray, List.cons_append, List.nil_append, Nat.reduceAdd, Nat.reduceSub, beq_self_eq_true, List.replicate_succ, List.replicate_zero, Bool.and_self, tl]
  by_cases hil : i < l.length
  rotate_left
  · rw [if_neg (by rw [decide_eq_true_eq]; omega)]
    have : l = m := eq_of_get h0 (fun j hj => hall j (by omega))
    rw [decide_eq_true this]
  rw [if_pos (decide_eq_true (by omega))]
  have wi : IntKind.i64.wrap ((i : Int) + 1) = ((i + 1 : Nat) : Int) := by rw [w64 (by omega) (by omega)]; omega
  refine draw_go TO 8 100 mixed_ok (by decide +kernel) ?_
  simp only [List.take_succ_cons, List.take_zero, List.drop_succ_cons, List.drop_zero, pureOpC, unc, isEff, absD, pureStep, absRun, absOps, absOp, evO, constSV, ungd, gdP, gdPs, setD, binI, binV, ptrE, isP, binS, T_ty, T_size, tTy, tSize, iaddrV, pureOp, memOp, loadV, eqF, eq1, isB, isA, blkAt, elemV, Data.len, Data.esz, retP, resV, retQ, rAs, rA, rA0, ownN, nodup, bares, bare, bare0, Op.operands, List.getD, List.getElem?_cons_zero, List.getElem?_cons_succ, Option.getD_some, List.set, List.map, List.toList_toArray, true_and, and_true, and_false, and_self, implies_true, imp_self, eq_self, ne_eq, not_false_eq_true, forall_const, reduceCtorEq, Int.toNat_natCast, Bool.and_self]
  refine ⟨⟨by omega, by omega⟩, ⟨by omega, by omega⟩, ?_⟩
  have g1 : l[i]? = some (l[i]?.getD default) := by rw [List.getElem?_eq_getElem hil]; rfl
  have g2 : m[i]? = some (m[i]?.getD default) := by rw [List.getElem?_eq_getElem (show i < m.length by omega)]; rfl
  generalize l[i]?.getD default = a at *
  generalize m[i]?.getD default = b at *
  refine eqN_ops TO rfl rfl rfl rfl rfl rfl rfl (by decide) rfl rfl ent_eq rfl rfl rfl ⟨rfl, rfl, trivial⟩ (HOps_go TO 100 ?_)
  simp only [wi, pureOpC, unc, absRun, absOps, absOp, evO, constSV, ungd, gdP, gdPs, setD, binI, binV, ptrE, pureOp, retP, resV, retQ, rAs, rA, rA0, ownN, nodup, bares, bare, bare0, Op.operands, List.getD, List.getElem?_cons_zero, List.getElem?_cons_succ, Option.getD_some, List.set, List.map, List.toList_toArray, true_and, and_true, and_self, eq_self, Bool.and_true, Bool.and_self]
  by_cases he : (a.name.toList == b.name.toList && (a.kind == b.kind && (a.size == b.size && true))) = true
  · have hab := ent_ext he
    simp only [Bool.and_true] at he
    simp only [he, if_false, Bool.false_eq_true, Bool.not_true]
    refine ih (i + 1, _) _ ⟨hil, fun j hj => ?_⟩ (by simp only; omega) rfl ?_ ?_
    · rcases Nat.lt_succ_iff_lt_or_eq.1 hj with h | h
      · exact hall j h
      · rw [h, g1, g2, hab]
    · simp [LeT, tl]
    · intro n x hx; simp [fnd] at hx
  · have he' : (a.name.toList == b.name.toList && (a.kind == b.kind && a.size == b.size)) = false := by simpa using he
    have hne : a ≠ b := by rintro rfl; simp at he
    have hlm : decide (l = m) = false := decide_eq_false (fun h => hne (by rw [h, g2] at g1; exact (Option.some.inj g1).symm))
    simp only [he', hlm, if_true, eq_self, Bool.not_false]

end Go.Proofs.YtakgefinmlomdaaDoor.Abs

/- Asks and Says, compared; bare ones. -/
set_option linter.unusedVariables false
set_option linter.unusedSimpArgs false
set_option maxRecDepth 100000
namespace Go.Proofs.YtakgefinmlomdaaDoor.Abs
open Go Go.Proofs

def emB (s : ByteArray) : Bool := s.toList == (ByteArray.mk #[]).toList

def bareB (a : Ask) : Bool := (bitsI .or .u32 (bitsI .or .u32 (bitsI .or .u32 (bitsI .or .u32 a.access a.sharing) a.way) a.options) a.n == 0) && (bitsI .or .u8 a.level a.durable == 0) && (bitsI .or .u64 (bitsI .or .u64 a.file a.at_) a.size == 0) &&
  (a.name.toList == (ByteArray.mk #[]).toList) && ((a.data.length : Int) == 0) && ((a.locks.length : Int) == 0) && (bitsI .or .u16 a.most a.cls == 0) && (a.pattern.toList == (ByteArray.mk #[]).toList) && (a.after.toList == (ByteArray.mk #[]).toList) && !a.on

def sameB (a b : Ask) : Bool := decide (a.dialects = b.dialects) && (a.guid == b.guid) && (a.proof == b.proof) && (a.user.toList == b.user.toList) && (a.share.toList == b.share.toList) && bareB a && bareB b

end Go.Proofs.YtakgefinmlomdaaDoor.Abs

/- The document's Asks, Says; the program's empty. -/
set_option linter.unusedVariables false
set_option linter.unusedSimpArgs false
set_option maxRecDepth 100000
namespace Go.Proofs.YtakgefinmlomdaaDoor.Abs
open Go Go.Proofs

def asksB (a b : Ask) : Bool := decide (a.dialects = b.dialects) && (a.guid == b.guid) && (a.proof == b.proof) && (a.user.toList == b.user.toList) && (a.share.toList == b.share.toList) && (a.access == b.access) && (a.sharing == b.sharing) && (a.way == b.way) && (a.options == b.options) &&
  (a.level == b.level) && (a.durable == b.durable) && (a.file == b.file) && (a.name.toList == b.name.toList) && (a.at_ == b.at_) && (a.n == b.n) && decide (a.data = b.data) && decide (a.locks = b.locks) && (a.most == b.most) && (a.pattern.toList == b.pattern.toList) && (a.after.toList == b.after.toList) && (a.cls == b.cls) && (a.size == b.size) && (a.on == b.on)

set_option maxHeartbeats 8000000 in
theorem Asks_meets (a b : Ask) (h1 : a.dialects.length ≤ 1000000000) (h2 : a.data.length ≤ 140737488351232) (h3 : a.locks.length ≤ 1000000000) : Meets Tryd.prog 15 [.v (a.sv false), .v (b.sv false)] [.v (.bool (asksB a b))] := by
  have hW := words_meets a.dialects b.dialects h1
  have hS := Same_meets a.data b.data h2
  have hL := Locks_meets a.locks b.locks h3
  refine meets_go TO 100 Tryd.func15 rfl (fun X => ?_)
  simp only [Tryd.ntmps15, Tryd.results15, Ask.sv, Ask.cells, asksB, List.append_eq, pureOpC, unc, svs, blks, AV.sv, absRun, absOps, absOp, evO, constSV, ungd, gdP, gdPs, setD, T_ty, T_size, tTy, tSize, fieldOf, faddrV, pureOp, memOp, loadV, newV, notIn, cellsOf, cellAt, blkAt, fnd, upd, Data.len, Lim.add, retP, resV, retQ, rAs, rA, rA0, ownN, nodup, bares, bare, bare0, Op.operands, List.getD, List.getElem?_cons_zero, List.getElem?_cons_succ, Option.getD_some, List.set, List.map, List.toList_toArray, true_and, and_true, and_self, implies_true, imp_self, if_true, if_false, eq_self, ne_eq, not_false_eq_true, reduceCtorEq, Nat.zero_add, Nat.add_zero, List.cons_append, List.nil_append, List.length_cons, List.length_nil, Nat.reduceAdd, Nat.reduceSub, Nat.reduceEqDiff, Nat.reduceLT, Nat.succ_ne_self, List.replicate_succ, List.replicate_zero, Bool.and_self]
  refine call_go TO 100 hW Tryd.func41 (by decide +kernel) rfl rfl rfl ?_
  simp only [pureOpC, unc, absOps, absOp, evO, constSV, ungd, gdP, gdPs, setD, binI, binV, ptrE, binS, T_ty, T_size, tTy, tSize, fieldOf, faddrV, pickV, pureOp, guardOf, loadV, isI, isA, cellAt, arrAt, blkAt, fnd, ownN, nodup, bares, bare, bare0, guardIs, callP, callS, argS, mAs, mA, mA0, mB0, lowD, allNotIn, impN, impB, impT, packS, delL, Op.operands, List.getD, List.getElem?_cons_zero, List.getElem?_cons_succ, Option.getD_some, List.set, List.map, List.toList_toArray, List.getElem?_toArray, Option.bind_some, true_and, and_self, implies_true, imp_self, if_true, if_false, ite_self, eq_self, ne_eq, not_false_eq_true, reduceCtorEq, Nat.zero_add, Nat.le_refl, Bool.cond_false_right, List.append_nil, Nat.reduceSub, Nat.reduceEqDiff, Nat.reduceLeDiff, Nat.reduceLT, Nat.succ_ne_self, Bool.and_self]
  refine callG_go TO 100 hS Tryd.func14 (by decide +kernel) rfl rfl rfl rfl rfl rfl ?_
  simp only [pureOpC, unc, absOps, absOp, evO, constSV, ungd, gdP, gdPs, setD, T_ty, T_size, tTy, tSize, fieldOf, faddrV, pickV, pureOp, guardOf, loadV, cellAt, blkAt, fnd, ownN, nodup, bares, bare, bare0, callP, argS, mAs, mA, mA0, mB0, lowD, allNotIn, impN, Op.operands, List.getD, List.getElem?_cons_zero, List.getElem?_cons_succ, Option.getD_some, List.set, List.map, List.toList_toArray, List.getElem?_toArray, Option.bind_some, true_and, and_true, and_self, implies_true, imp_self, if_true, if_false, eq_self, ne_eq, not_false_eq_true, forall_const, reduceCtorEq, Nat.zero_add, Bool.cond_false_right, Nat.reduceSub, Nat.reduceEqDiff, Nat.reduceLT, Nat.succ_ne_self, Bool.and_self]
  refine callG_go TO 100 hL Tryd.func42 (by decide +kernel) rfl rfl rfl rfl rfl rfl ?_
  simp only [pureOpC, unc, absRun, absOps, absOp, evO, constSV, ungd, gdP, gdPs, setD, binI, binV, ptrE, binS, T_ty, T_size, tTy, tSize, fieldOf, faddrV, pickV, pureOp, guardOf, loadV, isB, cellAt, blkAt, fnd, retP, resV, retQ, rAs, rA, rA0, ownN, nodup, bares, bare, bare0, callP, argS, mAs, mA, mA0, mB0, lowD, allNotIn, impN, Op.operands, List.getD, List.getElem?_cons_zero, List.getElem?_cons_succ, Option.getD_some, List.set, List.map, List.toList_toArray, List.getElem?_toArray, Option.bind_some, and_true, and_self, implies_true, imp_self, if_true, if_false, eq_self, ne_eq, not_false_eq_true, forall_const, reduceCtorEq, Nat.zero_add, Bool.cond_false_right, Nat.reduceSub, Nat.reduceEqDiff, Nat.reduceLT, Nat.succ_ne_self, Bool.and_self]

def saysB (a b : Say) : Bool := (a.dialect == b.dialect) && (a.size == b.size) && (a.challenge == b.challenge) && (a.level == b.level) && (a.durable == b.durable) && (a.made == b.made) && (a.file == b.file) && (a.kind == b.kind) && decide (a.data = b.data) && (a.n == b.n) && decide (a.entries = b.entries) && (a.more == b.more) && (a.gone == b.gone)

set_option maxHeartbeats 8000000 in
theorem Says_meets (a b : Say) (h2 : a.data.length ≤ 140737488351232) (h3 : a.entries.length ≤ 1000000000) : Meets Tryd.prog 22 [.v (a.sv false), .v (b.sv false)] [.v (.bool (saysB a b))] := by
  have hS := Same_meets a.data b.data h2
  have hL := Entries_meets a.entries b.entries h3
  refine meets_go TO 100 Tryd.func22 rfl (fun X => ?_)
  simp only [Tryd.ntmps22, Tryd.results22, Say.sv, Say.cells, saysB, List.append_eq, pureOpC, unc, svs, blks, AV.sv, absRun, absOps, absOp, evO, constSV, ungd, gdP, gdPs, setD, binI, binV, ptrE, T_ty, T_size, tTy, tSize, fieldOf, faddrV, pickV, pureOp, guardOf, memOp, loadV, newV, notIn, cellsOf, isI, isA, cellAt, arrAt, blkAt, fnd, upd, Data.len, Lim.add, retP, resV, retQ, rAs, rA, rA0, ownN, nodup, bares, bare, bare0, Op.operands, List.getD, List.getElem?_cons_zero, List.getElem?_cons_succ, Option.getD_some, List.set, List.map, List.toList_toArray, List.getElem?_toArray, Option.bind_some, true_and, and_true, and_self, implies_true, imp_self, if_true, if_false, ite_self, eq_self, ne_eq, not_false_eq_true, reduceCtorEq, Nat.zero_add, Nat.add_zero, Bool.cond_false_right, List.cons_append, List.nil_append, List.length_cons, List.length_nil, Nat.reduceAdd, Nat.reduceSub, Nat.reduceEqDiff, Nat.reduceLeDiff, Nat.reduceLT, Nat.succ_ne_self, List.replicate_succ, List.replicate_zero, Bool.and_self]
  refine callG_go TO 100 hS Tryd.func14 (by decide +kernel) rfl rfl rfl rfl rfl rfl ?_
  simp only [pureOpC, unc, absOps, absOp, evO, constSV, ungd, gdP, gdPs, setD, binI, binV, ptrE, T_ty, T_size, tTy, tSize, fieldOf, faddrV, pickV, pureOp, guardOf, loadV, cellAt, blkAt, fnd, ownN, nodup, bares, bare, bare0, callP, argS, mAs, mA, mA0, mB0, lowD, allNotIn, impN, Op.operands, List.getD, List.getElem?_cons_zero, List.getElem?_cons_succ, Option.getD_some, List.set, List.map, List.toList_toArray, List.getElem?_toArray, Option.bind_some, true_and, and_true, and_self, implies_true, imp_self, if_true, if_false, eq_self, ne_eq, not_false_eq_true, forall_const, reduceCtorEq, Nat.zero_add, Bool.cond_false_right, Nat.reduceSub, Nat.reduceEqDiff, Nat.reduceLT, Nat.succ_ne_self, Bool.and_self]
  refine callG_go TO 100 hL Tryd.func56 (by decide +kernel) rfl rfl rfl rfl rfl rfl ?_
  simp only [pureOpC, unc, absRun, absOps, absOp, evO, constSV, ungd, gdP, gdPs, setD, binV, ptrE, T_ty, T_size, tTy, tSize, fieldOf, faddrV, pickV, pureOp, guardOf, loadV, isB, cellAt, blkAt, fnd, retP, resV, retQ, rAs, rA, rA0, ownN, nodup, bares, bare, bare0, callP, argS, mAs, mA, mA0, mB0, lowD, allNotIn, impN, Op.operands, List.getD, List.getElem?_cons_zero, List.getElem?_cons_succ, Option.getD_some, List.set, List.map, List.toList_toArray, List.getElem?_toArray, Option.bind_some, and_true, and_self, implies_true, imp_self, if_true, if_false, eq_self, ne_eq, not_false_eq_true, forall_const, reduceCtorEq, Nat.zero_add, Bool.cond_false_right, Nat.reduceSub, Nat.reduceEqDiff, Nat.reduceLT, Nat.succ_ne_self, Bool.and_self]

def emptyB (s : Say) : Bool := (bitsI .or .u8 s.level s.durable == 0) && (s.made == 0) && (s.file == 0) && (s.kind == 0) && ((s.data.length : Int) == 0) && (s.n == 0) && ((s.entries.length : Int) == 0) && !s.more && !s.gone

end Go.Proofs.YtakgefinmlomdaaDoor.Abs

/- Asks and Says, compared, in plain words. -/
set_option linter.unusedVariables false
set_option linter.unusedSimpArgs false
set_option maxRecDepth 100000
namespace Go.Proofs.YtakgefinmlomdaaDoor.Abs
open Go Go.Proofs

/- In plain words. -/
def U8 (x : Int) : Prop := 0 ≤ x ∧ x < 256
def U16 (x : Int) : Prop := 0 ≤ x ∧ x < 65536
def U32 (x : Int) : Prop := 0 ≤ x ∧ x < 4294967296
def U64 (x : Int) : Prop := 0 ≤ x ∧ x < 18446744073709551616

structure Ask.ok (a : Ask) : Prop where
  dialects : ∀ x ∈ a.dialects, U16 x
  guid : a.guid.length = 16 ∧ Bytes a.guid
  proof : a.proof.length = 32 ∧ Bytes a.proof
  access : U32 a.access
  sharing : U32 a.sharing
  way : U32 a.way
  options : U32 a.options
  level : U8 a.level
  durable : U8 a.durable
  file : U64 a.file
  at_ : U64 a.at_
  n : U32 a.n
  data : Bytes a.data
  locks : ∀ x ∈ a.locks, -9223372036854775808 ≤ x.op ∧ x.op ≤ 9223372036854775807 ∧ U64 x.at_ ∧ U64 x.n ∧ U16 x.mode
  most : U16 a.most
  cls : U16 a.cls
  size : U64 a.size

/-- How much there is of it. -/
structure Ask.small (a : Ask) (N : Nat) : Prop where
  dialects : a.dialects.length ≤ N
  user : a.user.size ≤ N
  share : a.share.size ≤ N
  name : a.name.size ≤ N
  data : a.data.length ≤ N
  locks : a.locks.length ≤ N
  pattern : a.pattern.size ≤ N
  after : a.after.size ≤ N

structure Say.ok (s : Say) : Prop where
  dialect : U16 s.dialect
  size : U64 s.size
  challenge : s.challenge.length = 8 ∧ Bytes s.challenge
  level : U8 s.level
  durable : U8 s.durable
  made : U16 s.made
  file : U64 s.file
  kind : U8 s.kind
  data : Bytes s.data
  n : U32 s.n
  entries : ∀ x ∈ s.entries, U8 x.kind ∧ -9223372036854775808 ≤ x.size ∧ x.size ≤ 9223372036854775807

structure Say.small (s : Say) (N : Nat) : Prop where
  data : s.data.length ≤ N
  entries : s.entries.length ≤ N
  names : ∀ x ∈ s.entries, x.name.size ≤ N

theorem asksB_iff (a b : Ask) : asksB a b = true ↔ a = b := by
  unfold asksB
  simp only [str_eq, Bool.and_eq_true, decide_eq_true_eq, beq_iff_eq]
  constructor
  · rintro ⟨⟨⟨⟨⟨⟨⟨⟨⟨⟨⟨⟨⟨⟨⟨⟨⟨⟨⟨⟨⟨⟨h1, h2⟩, h3⟩, h4⟩, h5⟩, h6⟩, h7⟩, h8⟩, h9⟩, h10⟩, h11⟩, h12⟩, h13⟩, h14⟩, h15⟩, h16⟩, h17⟩, h18⟩, h19⟩, h20⟩, h21⟩, h22⟩, h23⟩
    cases a; cases b; simp only at *
    subst h1 h2 h3 h4 h5 h6 h7 h8 h9 h10 h11 h12 h13 h14 h15 h16 h17 h18 h19 h20 h21 h22 h23
    rfl
  · rintro rfl; simp

theorem saysB_iff (a b : Say) : saysB a b = true ↔ a = b := by
  unfold saysB
  simp only [Bool.and_eq_true, decide_eq_true_eq, beq_iff_eq]
  constructor
  · rintro ⟨⟨⟨⟨⟨⟨⟨⟨⟨⟨⟨⟨h1, h2⟩, h3⟩, h4⟩, h5⟩, h6⟩, h7⟩, h8⟩, h9⟩, h10⟩, h11⟩, h12⟩, h13⟩
    cases a; cases b; simp only at *
    subst h1 h2 h3 h4 h5 h6 h7 h8 h9 h10 h11 h12 h13
    rfl
  · rintro rfl; simp

instance : DecidableEq Ask := fun a b => decidable_of_iff (asksB a b = true) (asksB_iff a b)
instance : DecidableEq Say := fun a b => decidable_of_iff (saysB a b = true) (saysB_iff a b)

end Go.Proofs.YtakgefinmlomdaaDoor.Abs

/- What PutAsk answers; the document's Lay. -/
set_option linter.unusedVariables false
set_option linter.unusedSimpArgs false
set_option maxRecDepth 100000
namespace Go.Proofs.YtakgefinmlomdaaDoor.Abs
open Go Go.Proofs

theorem Lay_meets (l : List Int) (n : Int) (k : Nat) (hl : l.length ≤ 1000000000) (hk : szB k = true) (h0 : 0 ≤ n) (hn : n < 256 ^ k) (hn2 : n < 18446744073709551616) : Meets Tryd.prog 39 [.own (.ints .u8 l), .v (.int .u64 n), .v (.int .i64 k)] [.own (.ints .u8 (l ++ digs k n))] := by
  have hk8 : (k : Int) ≤ 8 := by rcases szB_cases hk with h | h | h | h <;> omega
  have hQ := rPut_meets n k h0 hn2
  rw [putL_k hk hn, putE_k hk hn] at hQ
  have hd := digs_length k n
  refine meets_go TO 100 Tryd.func39 rfl (fun X => ?_)
  simp only [Tryd.ntmps39, Tryd.results39, List.take_succ_cons, List.take_zero, List.drop_succ_cons, List.drop_zero, pureOpC, buildV, fillC, intsP, cntC, arrPV, fieldV, gloadV, GT, unc, capV, sliceC, fitT, isEff, absD, pureStep, subB, svs, blks, AV.sv, absRun, absOps, absOp, evO, constSV, ungd, gdP, gdPs, setD, binI, binV, ptrE, isP, unV, convV, binS, T_ty, T_size, T_bytes, T_zero, tTy, tSize, tBytes, tZero, fieldOf, faddrV, iaddrV, indexV, extractV, lowI, highI, maxP, sliceV, pickV, pureOp, guardOf, memOp, lenV, loadV, newV, notIn, dataOf, nilD, appD, isSrc, scal, cellsOf, elemsOf, intsOf, strsOf, rowsOf, rowOf, zI, aggsOf, okC, flatB, eqF, eq1, T_eq, tEq, isStr, isB, isI, isA, known, cellAt, arrAt, takeC, dropC, setC, setA, blkAt, fnd, upd, del, mv, elemV, one, Data.len, Data.esz, Data.sub, Lim.add, retP, resV, retQ, rAs, rA, rA0, rAl, ownN, nodup, bares, bare, bare0, bareL, bareD, inRet, flats, flatV, flat1, flat2, guardIs, callP, callS, argS, argC, mAs, mA, mA0, mB0, rowsM, mAl, lowD, allNotIn, nm, impN, impB, impT, packS, delL, Op.operands, Call.operands, List.getD, List.getElem?_cons_zero, List.getElem?_cons_succ, List.getElem?_nil, Option.getD_some, Option.getD_none, List.set, List.map, List.all, List.toList_toArray, List.getElem?_toArray, Option.bind_some, Option.bind_none, Option.map_some, Option.map_none, Option.isSome, exitTo, true_and, and_true, false_and, and_false, and_self, implies_true, reduceIte, imp_self, if_true, if_false, ite_self, eq_self, ne_eq, not_false_eq_true, not_true_eq_false, false_implies, true_implies, forall_const, reduceCtorEq, Bool.false_eq_true, List.take_length, Nat.zero_add, Nat.add_zero, Int.sub_zero, Int.zero_add, Int.add_zero, Int.toNat_natCast, Int.cast_ofNat_Int, Int.reduceToNat, Int.reduceSub, Int.reduceAdd, Nat.le_refl, Int.le_refl, Int.toNat_zero, Int.reduceBNe, Int.reduceBEq, Bool.cond_true_left, Bool.cond_false_right, Bool.cond_true, Bool.cond_false, Option.toArray_some, Option.toArray_none, List.append_toArray, List.cons_append, List.nil_append, List.append_nil, List.size_toArray, List.length_cons, List.length_nil, Nat.reduceAdd, Nat.reduceSub, Nat.reduceMul, Nat.reduceDiv, Nat.reduceEqDiff, Nat.reduceBEq, Nat.reduceLeDiff, Nat.reduceLT, Nat.succ_ne_self, Bool.not_true, Bool.not_false, beq_self_eq_true, List.replicate_succ, List.replicate_zero, Bool.and_true, Bool.true_and, Bool.and_self, Bool.and_false, Bool.false_and, Bool.or_false, Bool.or_true, Bool.false_or, Bool.true_or, SV.sl.injEq, SV.int.injEq, Data.ints.injEq, tl, Int.reduceLT, Int.reduceLE, Int.reduceGT, Int.reduceGE, Int.reduceEq, Int.reduceNe, Int.reduceMul, Int.reduceNeg, decide_true, decide_false, gt_iff_lt, ge_iff_le, retC, rI, absI, fnd_same, blk_same, upd_same, Nat.reduceBNe]
  refine call_go TO 100 hQ Tryd.func61 (by decide +kernel) rfl rfl rfl ?_
  have ht : (digs k n).take k = digs k n := List.take_of_length_le (Nat.le_of_eq hd)
  simp only [hd, ht, List.take_succ_cons, List.take_zero, List.drop_succ_cons, List.drop_zero, pureOpC, buildV, fillC, intsP, cntC, arrPV, fieldV, gloadV, GT, unc, capV, sliceC, fitT, isEff, absD, pureStep, subB, svs, blks, AV.sv, absRun, absOps, absOp, evO, constSV, ungd, gdP, gdPs, setD, binI, binV, ptrE, isP, unV, convV, binS, T_ty, T_size, T_bytes, T_zero, tTy, tSize, tBytes, tZero, fieldOf, faddrV, iaddrV, indexV, extractV, lowI, highI, maxP, sliceV, pickV, pureOp, guardOf, memOp, lenV, loadV, newV, notIn, dataOf, nilD, appD, isSrc, scal, cellsOf, elemsOf, intsOf, strsOf, rowsOf, rowOf, zI, aggsOf, okC, flatB, eqF, eq1, T_eq, tEq, isStr, isB, isI, isA, known, cellAt, arrAt, takeC, dropC, setC, setA, blkAt, fnd, upd, del, mv, elemV, one, Data.len, Data.esz, Data.sub, Lim.add, retP, resV, retQ, rAs, rA, rA0, rAl, ownN, nodup, bares, bare, bare0, bareL, bareD, inRet, flats, flatV, flat1, flat2, guardIs, callP, callS, argS, argC, mAs, mA, mA0, mB0, rowsM, mAl, lowD, allNotIn, nm, impN, impB, impT, packS, delL, Op.operands, Call.operands, List.getD, List.getElem?_cons_zero, List.getElem?_cons_succ, List.getElem?_nil, Option.getD_some, Option.getD_none, List.set, List.map, List.all, List.toList_toArray, List.getElem?_toArray, Option.bind_some, Option.bind_none, Option.map_some, Option.map_none, Option.isSome, exitTo, true_and, and_true, false_and, and_false, and_self, implies_true, reduceIte, imp_self, if_true, if_false, ite_self, eq_self, ne_eq, not_false_eq_true, not_true_eq_false, false_implies, true_implies, forall_const, reduceCtorEq, Bool.false_eq_true, List.take_length, Nat.zero_add, Nat.add_zero, Int.sub_zero, Int.zero_add, Int.add_zero, Int.toNat_natCast, Int.cast_ofNat_Int, Int.reduceToNat, Int.reduceSub, Int.reduceAdd, Nat.le_refl, Int.le_refl, Int.toNat_zero, Int.reduceBNe, Int.reduceBEq, Bool.cond_true_left, Bool.cond_false_right, Bool.cond_true, Bool.cond_false, Option.toArray_some, Option.toArray_none, List.append_toArray, List.cons_append, List.nil_append, List.append_nil, List.size_toArray, List.length_cons, List.length_nil, Nat.reduceAdd, Nat.reduceSub, Nat.reduceMul, Nat.reduceDiv, Nat.reduceEqDiff, Nat.reduceBEq, Nat.reduceLeDiff, Nat.reduceLT, Nat.succ_ne_self, Bool.not_true, Bool.not_false, beq_self_eq_true, List.replicate_succ, List.replicate_zero, Bool.and_true, Bool.true_and, Bool.and_self, Bool.and_false, Bool.false_and, Bool.or_false, Bool.or_true, Bool.false_or, Bool.true_or, SV.sl.injEq, SV.int.injEq, Data.ints.injEq, tl, Int.reduceLT, Int.reduceLE, Int.reduceGT, Int.reduceGE, Int.reduceEq, Int.reduceNe, Int.reduceMul, Int.reduceNeg, decide_true, decide_false, gt_iff_lt, ge_iff_le, retC, rI, absI, fnd_same, blk_same, upd_same, Nat.reduceBNe]
  omega

def wantA (c : Int) (a : Ask) : Ask := if c = 0 then { askZ with dialects := a.dialects, guid := a.guid } else if c = 1 then { askZ with proof := a.proof, user := a.user } else if c = 3 then { askZ with share := a.share } else askZ
def paE (c : Int) (a : Ask) : Int := if knB c = false ∨ wantA c a ≠ a then 2 else if c = 0 then (if 16 < a.dialects.length then 3 else 0) else if c = 1 then ptE a.user else if c = 3 then ptE a.share else 0
def paL (c : Int) (a : Ask) : List Int := if paE c a ≠ 0 then [] else if c = 0 then digs 2 a.dialects.length ++ a.dialects.flatMap (digs 2) ++ a.guid else if c = 1 then a.proof ++ ptL a.user else if c = 3 then ptL a.share else [0, 0, 0, 0]

theorem pt_len (s : ByteArray) : (ptL s).length ≤ 514 := by
  unfold ptL
  split
  · rename_i h
    unfold ptE at h
    split at h
    · rename_i h2; exact absurd h h2
    · split at h
      · cases h
      · rw [List.length_append, digs_length]; omega
  · simp

def paB (c : Int) (a : Ask) : Int := if c = 0 then (if 16 < a.dialects.length then 3 else 0) else if c = 1 then ptE a.user else if c = 3 then ptE a.share else 0
end Go.Proofs.YtakgefinmlomdaaDoor.Abs

/- What the document's PutAsk answers. -/
set_option linter.unusedVariables false
set_option linter.unusedSimpArgs false
set_option maxRecDepth 100000
namespace Go.Proofs.YtakgefinmlomdaaDoor.Abs
open Go Go.Proofs

theorem asks_dec (a b : Ask) : asksB a b = decide (a = b) := by rw [Bool.eq_iff_iff, asksB_iff, decide_eq_true_eq]
theorem says_dec (a b : Say) : saysB a b = decide (a = b) := by rw [Bool.eq_iff_iff, saysB_iff, decide_eq_true_eq]

end Go.Proofs.YtakgefinmlomdaaDoor.Abs

/- What PutSay answers: of the program, of the document. -/
set_option linter.unusedVariables false
set_option linter.unusedSimpArgs false
set_option maxRecDepth 100000
namespace Go.Proofs.YtakgefinmlomdaaDoor.Abs
open Go Go.Proofs

def wantS (c : Int) (s : Say) : Say := if c = 0 then { sayZ with dialect := s.dialect, size := s.size, challenge := s.challenge } else sayZ
def psE (c : Int) (s : Say) : Int := if knB c = false ∨ wantS c s ≠ s ∨ 4294967296 ≤ s.size then 2 else 0
def psL (c : Int) (s : Say) : List Int := if psE c s ≠ 0 then [] else if c = 0 then digs 4 s.dialect ++ (digs 4 s.size ++ s.challenge) else [0, 0, 0, 0]

def plainB (s : Say) : Bool := (s.dialect == 0) && (s.size == 0) && (s.challenge == [0, 0, 0, 0, 0, 0, 0, 0])

theorem digs4 {d : Int} (h : U16 d) : digs 2 d ++ digs 2 0 = digs 4 d := by
  have h0 := h.1
  have h1 := h.2
  simp only [digs, List.cons_append, List.nil_append, List.cons.injEq, and_true, true_and]
  omega

end Go.Proofs.YtakgefinmlomdaaDoor.Abs

/- Copies; what lives answers. -/
set_option linter.unusedVariables false
set_option linter.unusedSimpArgs false
set_option maxRecDepth 100000
namespace Go.Proofs.YtakgefinmlomdaaDoor.Abs
open Go Go.Proofs

theorem CopyLocks_meets (l : List LockR) (hl : l.length ≤ 1048576) : Meets Tryd.prog 31 [.v (.view false (.locks l))] [.own (.locks l)] := by
  refine meets_go TO 100 Tryd.func31 rfl (fun X => ?_)
  simp only [Tryd.ntmps31, Tryd.results31, pureOpC, unc, fitT, svs, blks, AV.sv, absRun, absOps, absOp, evO, constSV, ungd, gdP, gdPs, setD, T_ty, T_size, T_bytes, tTy, tSize, tBytes, pureOp, memOp, notIn, dataOf, isSrc, blkAt, fnd, upd, Data.len, Data.esz, Lim.add, retP, resV, retQ, rAs, rA, ownN, nodup, bares, bare, bareD, Op.operands, Call.operands, List.getD, List.getElem?_cons_zero, List.getElem?_cons_succ, Option.getD_some, List.set, List.map, List.toList_toArray, true_and, and_true, and_self, if_true, eq_self, Nat.zero_add, List.append_toArray, List.cons_append, List.nil_append, List.length_cons, List.length_nil, Nat.reduceAdd, Nat.reduceSub, List.replicate_succ, List.replicate_zero, Bool.and_self]
  exact ⟨by omega, by omega⟩

set_option maxHeartbeats 4000000 in
theorem CopyAsk_meets (a : Ask) (hs : a.small 1048576) : Meets Tryd.prog 11 [.v (a.sv false)] [.v (a.sv true)] := by
  have h1 := hs.dialects
  have h2 := hs.data
  have h3 := hs.locks
  have hC := copy8_meets a.data (by omega)
  have hL := CopyLocks_meets a.locks h3
  refine meets_go TO 100 Tryd.func11 rfl (fun X => ?_)
  simp only [Tryd.ntmps11, Tryd.results11, Ask.sv, Ask.cells, pureOpC, unc, fitT, svs, blks, AV.sv, absRun, absOps, absOp, evO, constSV, ungd, gdP, gdPs, setD, T_ty, T_size, T_bytes, T_zero, tTy, tSize, tBytes, tZero, fieldOf, faddrV, pureOp, memOp, loadV, newV, notIn, dataOf, isSrc, scal, cellsOf, zI, cellAt, setC, blkAt, fnd, upd, Data.len, Data.esz, Lim.add, Op.operands, Call.operands, List.getD, List.getElem?_cons_zero, List.getElem?_cons_succ, Option.getD_some, List.set, List.toList_toArray, Option.map_some, Option.map_none, Option.isSome, true_and, and_self, if_true, if_false, ite_self, eq_self, ne_eq, not_false_eq_true, reduceCtorEq, Nat.zero_add, Nat.add_zero, List.append_toArray, List.cons_append, List.nil_append, List.length_cons, List.length_nil, Nat.reduceAdd, Nat.reduceSub, Nat.reduceEqDiff, Nat.reduceLT, Nat.succ_ne_self, List.replicate_succ, List.replicate_zero]
  refine ⟨⟨by omega, by omega⟩, ?_⟩
  refine call_go TO 100 hC Tryd.func29 (by decide +kernel) rfl rfl rfl ?_
  simp only [pureOpC, unc, absRun, absOps, absOp, evO, ungd, gdP, gdPs, setD, T_ty, T_size, tTy, tSize, fieldOf, faddrV, pureOp, memOp, loadV, notIn, scal, cellAt, setC, blkAt, fnd, upd, Data.len, Data.esz, ownN, nodup, bares, bare, bareD, guardIs, callP, callS, argS, mAs, mA, mA0, mB0, lowD, allNotIn, nm, impN, impB, impT, packS, delL, Op.operands, List.getD, List.getElem?_cons_zero, List.getElem?_cons_succ, Option.getD_some, List.set, List.map, List.toList_toArray, Option.map_some, Option.map_none, Option.isSome, true_and, and_self, if_true, if_false, eq_self, ne_eq, not_false_eq_true, reduceCtorEq, Nat.zero_add, Nat.add_zero, List.append_nil, Nat.reduceAdd, Nat.reduceSub, Nat.reduceMul, Nat.reduceEqDiff, Nat.reduceLT, Nat.succ_ne_self, Bool.and_self]
  refine call_go TO 0 hL Tryd.func31 (by decide +kernel) rfl rfl rfl ?_
  simp only [pureOpC, unc, absRun, absOps, absOp, evO, ungd, gdP, gdPs, setD, T_ty, T_size, tTy, tSize, fieldOf, faddrV, pureOp, memOp, notIn, scal, setC, blkAt, fnd, upd, Data.len, Data.esz, ownN, nodup, bares, bare, bareD, guardIs, callP, callS, argS, mAs, mA, mA0, mB0, lowD, allNotIn, nm, impN, impB, impT, packS, delL, Op.operands, List.getD, List.getElem?_cons_zero, List.getElem?_cons_succ, Option.getD_some, List.set, List.map, List.toList_toArray, Option.map_some, Option.map_none, Option.isSome, true_and, and_self, if_true, if_false, eq_self, ne_eq, not_false_eq_true, reduceCtorEq, Nat.zero_add, Nat.add_zero, List.append_nil, Nat.reduceAdd, Nat.reduceSub, Nat.reduceMul, Nat.reduceEqDiff, Nat.reduceLT, Nat.succ_ne_self, Bool.and_self]
  refine freezeC_go 1 0 7 (.ints .u16 a.dialects) ⟨⟨rfl, rfl, by simp [fnd], by decide, by simp [Data.len]⟩, ?_⟩
  simp only [List.drop_zero, upd, del, Data.sub, List.set, if_true, if_false, eq_self, List.take_length, Nat.reduceEqDiff]
  refine freezeC_go 1 15 10176 (.ints .u8 a.data) ⟨⟨rfl, rfl, by simp [fnd], by decide, by simp [Data.len]⟩, ?_⟩
  simp only [List.drop_zero, upd, del, Data.sub, List.set, if_true, if_false, eq_self, List.take_length, Nat.reduceEqDiff]
  refine freezeC_go 1 16 10240 (.locks a.locks) ⟨⟨rfl, rfl, by simp [fnd], by decide, by simp [Data.len]⟩, ?_⟩
  refine absRun_ok TO 100 _ _ ?_
  simp only [List.drop_zero, pureOpC, cntC, unc, absRun, absOps, absOp, evO, ungd, gdP, gdPs, setD, T_ty, T_size, tTy, tSize, pureOp, memOp, loadV, scal, okC, takeC, dropC, blkAt, fnd, upd, del, Data.sub, retP, resV, retQ, rAs, rA, rA0, rAl, ownN, nodup, bares, bare, bare0, bareL, bareD, Op.operands, List.getD, List.getElem?_cons_zero, List.getElem?_cons_succ, Option.getD_some, List.set, List.map, List.toList_toArray, Option.bind_some, Option.map_some, and_self, implies_true, if_true, if_false, ite_self, eq_self, ne_eq, not_false_eq_true, reduceCtorEq, List.take_length, Nat.zero_add, Nat.add_zero, List.nil_append, List.append_nil, Nat.reduceAdd, Nat.reduceSub, Nat.reduceEqDiff, Nat.reduceLeDiff, Nat.succ_ne_self, Bool.and_self]

set_option maxHeartbeats 4000000 in
theorem CopySay_meets (s : Say) (hs : s.small 1048576) : Meets Tryd.prog 26 [.v (s.sv false)] [.v (s.sv true)] := by
  have h1 := hs.data
  have h2 := hs.entries
  have hC := copy8_meets s.data (by omega)
  refine meets_go TO 100 Tryd.func26 rfl (fun X => ?_)
  simp only [Tryd.ntmps26, Tryd.results26, Say.sv, Say.cells, pureOpC, unc, svs, blks, AV.sv, absRun, absOps, absOp, evO, ungd, gdP, gdPs, setD, T_ty, T_size, T_zero, tTy, tSize, tZero, fieldOf, faddrV, pureOp, memOp, loadV, newV, notIn, cellsOf, cellAt, blkAt, fnd, upd, Lim.add, Op.operands, List.getD, List.getElem?_cons_zero, List.getElem?_cons_succ, Option.getD_some, List.set, List.toList_toArray, true_and, and_self, if_true, if_false, eq_self, ne_eq, not_false_eq_true, reduceCtorEq, Nat.zero_add, List.cons_append, List.nil_append, List.length_cons, List.length_nil, Nat.reduceAdd, Nat.reduceSub, Nat.reduceEqDiff, Nat.reduceLT, Nat.succ_ne_self, List.replicate_succ, List.replicate_zero]
  refine call_go TO 2 hC Tryd.func29 (by decide +kernel) rfl rfl rfl ?_
  simp only [pureOpC, unc, absRun, absOps, absOp, evO, constSV, ungd, gdP, gdPs, setD, T_ty, T_size, tTy, tSize, fieldOf, faddrV, pureOp, memOp, notIn, scal, setC, blkAt, fnd, upd, Data.len, Data.esz, ownN, nodup, bares, bare, bareD, guardIs, callP, callS, argS, mAs, mA, mA0, mB0, lowD, allNotIn, nm, impN, impB, impT, packS, delL, Op.operands, List.getD, List.getElem?_cons_zero, List.getElem?_cons_succ, Option.getD_some, List.set, List.map, List.toList_toArray, Option.map_some, Option.map_none, Option.isSome, true_and, and_self, if_true, if_false, eq_self, ne_eq, not_false_eq_true, reduceCtorEq, Nat.zero_add, Nat.add_zero, List.append_nil, Nat.reduceAdd, Nat.reduceSub, Nat.reduceMul, Nat.reduceEqDiff, Nat.reduceLT, Nat.succ_ne_self, Bool.and_self]
  refine freezeC_go 1 8 10096 (.ints .u8 s.data) ⟨⟨rfl, rfl, by simp [fnd], by decide, by simp [Data.len]⟩, ?_⟩
  refine absRun_ok TO 2 _ _ ?_
  simp only [List.drop_zero, pureOpC, unc, fitT, absRun, absOps, absOp, evO, ungd, gdP, gdPs, setD, T_ty, T_size, T_bytes, tTy, tSize, tBytes, fieldOf, faddrV, pureOp, memOp, loadV, notIn, dataOf, isSrc, scal, cellAt, setC, blkAt, fnd, upd, del, Data.len, Data.esz, Data.sub, Lim.add, Op.operands, Call.operands, List.getD, List.getElem?_cons_zero, List.getElem?_cons_succ, Option.getD_some, List.set, List.toList_toArray, Option.map_some, Option.map_none, Option.isSome, true_and, and_self, if_true, if_false, eq_self, ne_eq, not_false_eq_true, reduceCtorEq, List.take_length, Nat.zero_add, List.append_toArray, List.nil_append, Nat.reduceAdd, Nat.reduceSub, Nat.reduceEqDiff, Nat.reduceLT, Nat.succ_ne_self]
  refine ⟨⟨by omega, by omega⟩, ?_⟩
  refine freezeC_go 1 10 11 (.ents s.entries) ⟨⟨rfl, rfl, by simp [fnd], by decide, by simp [Data.len]⟩, ?_⟩
  refine absRun_ok TO 100 _ _ ?_
  simp only [List.drop_zero, pureOpC, cntC, unc, absRun, absOps, absOp, evO, ungd, gdP, gdPs, setD, T_ty, T_size, tTy, tSize, pureOp, memOp, loadV, scal, okC, takeC, dropC, blkAt, fnd, upd, del, Data.sub, retP, resV, retQ, rAs, rA, rA0, rAl, ownN, nodup, bares, bare, bare0, bareL, bareD, Op.operands, List.getD, List.getElem?_cons_zero, List.getElem?_cons_succ, Option.getD_some, List.set, List.map, List.toList_toArray, Option.bind_some, Option.map_some, and_self, implies_true, if_true, if_false, ite_self, eq_self, ne_eq, not_false_eq_true, reduceCtorEq, List.take_length, Nat.zero_add, Nat.add_zero, List.nil_append, List.append_nil, Nat.reduceAdd, Nat.reduceSub, Nat.reduceEqDiff, Nat.reduceLeDiff, Nat.succ_ne_self, Bool.and_self]

def shA : ByteArray := ⟨#[97]⟩
def askS : Ask := { askZ with share := shA }

theorem askZ_ok : askZ.ok := by
  refine ⟨by simp [askZ], ⟨rfl, by unfold Bytes askZ; decide⟩, ⟨rfl, by unfold Bytes askZ; decide⟩, ?_, ?_, ?_, ?_, ?_, ?_, ?_, ?_, ?_, by unfold Bytes askZ; decide, by simp [askZ], ?_, ?_, ?_⟩ <;> (unfold askZ; first | unfold U32 | unfold U8 | unfold U64 | unfold U16) <;> simp
theorem askZ_small : askZ.small 1048576 := by
  refine ⟨?_, ?_, ?_, ?_, ?_, ?_, ?_, ?_⟩ <;> simp [askZ]

end Go.Proofs.YtakgefinmlomdaaDoor.Abs
