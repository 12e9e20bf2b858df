/- Asks and Says, told; what GetSay answers. -/
import Derived.Test.YtfohefgpchbgkaaDoorUA
set_option linter.unusedVariables false
set_option linter.unusedSimpArgs false
set_option maxRecDepth 100000
namespace Go.Proofs.YtfohefgpchbgkaaDoor.Abs
open Go Go.Proofs

structure Ask where
  dialects : List Int
  guid : List Int
  proof : List Int
  user : ByteArray
  share : ByteArray
  access : Int
  sharing : Int
  way : Int
  options : Int
  level : Int
  durable : Int
  file : Int
  name : ByteArray
  at_ : Int
  n : Int
  data : List Int
  locks : List LockR
  most : Int
  pattern : ByteArray
  after : ByteArray
  cls : Int
  size : Int
  on : Bool

structure Say where
  dialect : Int
  size : Int
  challenge : List Int
  level : Int
  durable : Int
  made : Int
  file : Int
  kind : Int
  data : List Int
  n : Int
  entries : List EntR
  more : Bool
  gone : Bool

def Ask.cells (t : Bool) (a : Ask) : List SV := [.view t (.ints .u16 a.dialects), .arr .u8 16 a.guid, .arr .u8 32 a.proof, .str a.user, .str a.share, .int .u32 a.access, .int .u32 a.sharing, .int .u32 a.way, .int .u32 a.options, .int .u8 a.level, .int .u8 a.durable, .int .u64 a.file, .str a.name, .int .u64 a.at_, .int .u32 a.n, .view t (.ints .u8 a.data), .view t (.locks a.locks), .int .u16 a.most, .str a.pattern, .str a.after, .int .u16 a.cls, .int .u64 a.size, .bool a.on]
def Ask.sv (t : Bool) (a : Ask) : SV := .agg (a.cells t)
def Say.cells (t : Bool) (s : Say) : List SV := [.int .u16 s.dialect, .int .u64 s.size, .arr .u8 8 s.challenge, .int .u8 s.level, .int .u8 s.durable, .int .u16 s.made, .int .u64 s.file, .int .u8 s.kind, .view t (.ints .u8 s.data), .int .u32 s.n, .view t (.ents s.entries), .bool s.more, .bool s.gone]
def Say.sv (t : Bool) (s : Say) : SV := .agg (s.cells t)

def askZ : Ask := ⟨[], List.replicate 16 0, List.replicate 32 0, ByteArray.empty, ByteArray.empty, 0, 0, 0, 0, 0, 0, 0, ByteArray.empty, 0, 0, [], [], 0, ByteArray.empty, ByteArray.empty, 0, 0, false⟩
def sayZ : Say := ⟨0, 0, List.replicate 8 0, 0, 0, 0, 0, 0, [], 0, [], false, false⟩

def knB (c : Int) : Bool := decide (c ≤ 4) || c == 13

theorem knB_cases {c : Int} (h0 : 0 ≤ c) (h : knB c = true) : c = 0 ∨ c = 1 ∨ c = 2 ∨ c = 3 ∨ c = 4 ∨ c = 13 := by
  unfold knB at h
  simp only [Bool.or_eq_true, decide_eq_true_eq, beq_iff_eq] at h
  omega

theorem known_meets (c : Int) (hc : 0 ≤ c) : Meets Tryd.prog 38 [.v (.int .u16 c)] [.v (.bool (knB c))] := by
  refine meets_go TO 100 Tryd.func38 rfl (fun X => ?_)
  simp only [Tryd.ntmps38, Tryd.results38, pureOpC, unc, svs, blks, AV.sv, absRun, absOps, absOp, evO, constSV, ungd, gdP, gdPs, setD, binI, binV, ptrE, pureOp, retP, resV, retQ, rAs, rA, rA0, ownN, nodup, bares, bare, bare0, Op.operands, List.getD, List.getElem?_cons_zero, List.getElem?_cons_succ, Option.getD_some, List.set, List.map, List.toList_toArray, true_and, and_true, and_self, eq_self, Nat.zero_add, List.cons_append, List.nil_append, List.length_cons, List.length_nil, Nat.reduceAdd, Nat.reduceSub, List.replicate_succ, List.replicate_zero, Bool.and_self]
  cases hk : knB c with
  | true =>
    rcases knB_cases hc hk with rfl | rfl | rfl | rfl | rfl | rfl <;> simp only [if_true, if_false, ite_self, eq_self, Bool.false_eq_true, Int.reduceBEq, beq_self_eq_true]
  | false =>
    unfold knB at hk
    simp only [Bool.or_eq_false_iff, decide_eq_false_iff_not, beq_eq_false_iff_ne] at hk
    have e0 : (c == 0) = false := by simp; omega
    have e1 : (c == 1) = false := by simp; omega
    have e2 : (c == 2) = false := by simp; omega
    have e3 : (c == 3) = false := by simp; omega
    have e4 : (c == 4) = false := by simp; omega
    have e5 : (c == 13) = false := by simp; omega
    simp only [e0, e1, e2, e3, e4, e5, if_false, ite_self, eq_self, reduceCtorEq, Bool.false_eq_true]

theorem Known_meets (c : Int) (hc : 0 ≤ c) : Meets Tryd.prog 42 [.v (.int .u16 c)] [.v (.bool (knB c))] := by
  refine meets_go TO 100 Tryd.func42 rfl (fun X => ?_)
  simp only [Tryd.ntmps42, Tryd.results42, pureOpC, unc, svs, blks, AV.sv, absRun, absOps, absOp, evO, constSV, ungd, gdP, gdPs, setD, binI, binV, ptrE, pickV, pureOp, guardOf, retP, resV, retQ, rAs, rA, rA0, ownN, nodup, bares, bare, bare0, Op.operands, List.getD, List.getElem?_cons_zero, List.getElem?_cons_succ, Option.getD_some, List.set, List.map, List.toList_toArray, List.getElem?_toArray, Option.bind_some, true_and, and_true, and_self, implies_true, imp_self, eq_self, Nat.zero_add, Bool.cond_true_left, List.cons_append, List.nil_append, List.length_cons, List.length_nil, Nat.reduceAdd, Nat.reduceSub, List.replicate_succ, List.replicate_zero, Bool.and_self]
  unfold knB
  cases decide (c ≤ 4) <;> rfl

/-- Bytes of an array, noughts behind them. -/
def padA (n : Nat) (p : List Int) : List Int := p ++ List.replicate (n - p.length) 0

theorem over_pad {n : Nat} {p : List Int} (h : p.length ≤ n) : overI (List.replicate n 0) 0 n p = padA n p := by
  unfold overI padA
  rw [show min p.length n = p.length by omega]
  simp

def gsR (c : Int) (b : List Int) : Nat × Int := if c = 0 then rN b 8 (rN b 4 (rM b 2 0 5 (rN b 2 (0, 0)))) else rM b 4 0 5 (0, 0)
def gsE (c : Int) (b : List Int) : Int := if knB c = true then rEnd b (gsR c b) else 2
def gsS (c : Int) (b : List Int) : Say := if gsE c b = 0 ∧ c = 0 then { sayZ with dialect := rV b 2 (0, 0), size := rV b 4 (rM b 2 0 5 (rN b 2 (0, 0))), challenge := padA 8 (rP b 8 (rN b 4 (rM b 2 0 5 (rN b 2 (0, 0))))) } else sayZ

theorem gs_zero {c : Int} {b : List Int} (h : gsE c b ≠ 0) : gsS c b = sayZ := by unfold gsS; rw [if_neg (fun h' => h h'.1)]

set_option maxHeartbeats 4000000 in
theorem GetSay_meets (c : Int) (b : List Int) (hc : 0 ≤ c) (hb : b.length ≤ 140737488351232) (hB : Bytes b) : Meets Tryd.prog 20 [.v (.int .u16 c), .v (.view false (.ints .u8 b))] [.v ((gsS c b).sv true), .v (.int .i64 (gsE c b))] := by
  have hK := known_meets c hc
  refine meets_go TO 100 Tryd.func20 rfl (fun X => ?_)
  simp only [Tryd.ntmps20, Tryd.results20, pureOpC, svs, blks, AV.sv, absRun, absOps, absOp, evO, constSV, ungd, gdP, gdPs, setD, T_size, T_zero, tSize, tZero, pureOp, memOp, newV, notIn, upd, Lim.add, Op.operands, List.getD, List.getElem?_cons_zero, Option.getD_some, List.set, List.toList_toArray, true_and, and_self, ne_eq, not_false_eq_true, reduceCtorEq, Nat.zero_add, List.cons_append, List.nil_append, List.length_cons, List.length_nil, Nat.reduceAdd, Nat.reduceSub, List.replicate_succ, List.replicate_zero]
  refine call_go TO 100 hK Tryd.func38 (by decide +kernel) rfl rfl rfl ?_
  cases hk : knB c with
  | false =>
    have e1 : gsE c b = 2 := by unfold gsE; rw [if_neg (by rw [hk]; decide)]
    rw [e1, gs_zero (by rw [e1]; decide)]
    simp only [Say.sv, Say.cells, sayZ, pureOpC, buildV, fillC, cntC, unc, absRun, absOps, absOp, evO, constSV, ungd, gdP, gdPs, setD, binI, binV, ptrE, unV, T_ty, T_size, T_zero, tTy, tSize, tZero, fieldOf, faddrV, pureOp, memOp, loadV, newV, notIn, scal, cellsOf, okC, takeC, dropC, blkAt, fnd, upd, Data.len, Lim.add, retP, resV, retQ, rAs, rA, rA0, rAl, ownN, nodup, bares, bare, bare0, bareL, bareD, guardIs, callP, callS, argS, mAs, mA, mA0, mB0, allNotIn, impN, impB, impT, packS, delL, Op.operands, List.getD, List.getElem?_cons_zero, List.getElem?_cons_succ, Option.getD_some, List.set, List.map, List.all, List.toList_toArray, Option.bind_some, Option.map_some, true_and, and_self, if_true, if_false, eq_self, ne_eq, not_false_eq_true, reduceCtorEq, Nat.zero_add, Nat.add_zero, List.cons_append, List.nil_append, List.append_nil, List.length_nil, Nat.reduceAdd, Nat.reduceSub, Nat.reduceEqDiff, Nat.reduceLeDiff, Bool.not_false, List.replicate_succ, List.replicate_zero, Bool.and_self, Nat.reduceBNe]
  | true =>
    simp only [pureOpC, buildV, fillC, cntC, unc, absRun, absOps, absOp, evO, constSV, ungd, gdP, gdPs, setD, binI, binV, ptrE, unV, T_ty, T_size, T_zero, tTy, tSize, tZero, fieldOf, faddrV, pureOp, memOp, loadV, newV, notIn, scal, cellsOf, okC, takeC, dropC, blkAt, fnd, upd, Data.len, Data.esz, Lim.add, retP, resV, retQ, rAs, rA, rA0, ownN, nodup, bares, bare, bare0, bareD, guardIs, callP, callS, argS, mAs, mA, mA0, mB0, allNotIn, impN, impB, impT, packS, delL, Op.operands, List.getD, List.getElem?_cons_zero, List.getElem?_cons_succ, Option.getD_some, List.set, List.map, List.all, List.toList_toArray, Option.bind_some, Option.map_some, true_and, and_true, and_self, if_true, if_false, eq_self, ne_eq, not_false_eq_true, reduceCtorEq, Bool.false_eq_true, Nat.zero_add, Nat.add_zero, List.cons_append, List.nil_append, List.append_nil, Nat.reduceAdd, Nat.reduceSub, Nat.reduceEqDiff, Nat.reduceLeDiff, Bool.not_true, List.replicate_succ, List.replicate_zero, Bool.and_true, Bool.and_self, Nat.reduceBNe]
    have eE : gsE c b = rEnd b (gsR c b) := by unfold gsE; rw [if_pos hk]
    by_cases c0 : c = 0
    rotate_left
    · have d0 : (c == 0) = false := by simpa using c0
      have eR : gsR c b = rM b 4 0 5 (0, 0) := by unfold gsR; rw [if_neg c0]
      have eS : gsS c b = sayZ := by unfold gsS; rw [if_neg (fun h => c0 h.2)]
      rw [eR] at eE
      simp only [d0, if_false, Bool.false_eq_true]
      refine inC_ops TO 100 (tz_inC (n := 15) (k := 4) (r := (0, 0)) rfl hb hB (Nat.zero_le _) rfl) Tryd.func49 (by decide +kernel) rfl rfl rfl ⟨⟨rfl, rfl, by simp only [evO, constSV, gdP, gdPs, List.getD, List.getElem?_cons_zero, List.getElem?_cons_succ, Option.getD_some, and_self]⟩, ?_⟩
      have hl := rM_le (b := b) (k := 4) (m := 0) (e := 5) (r := (0, 0)) (Nat.zero_le _)
      generalize rM b 4 0 5 (0, 0) = r at *
      simp only [rdC, pureOpC, unc, absRun, absOps, absOp, evO, ungd, gdP, gdPs, setD, T_ty, T_size, tTy, tSize, fieldOf, faddrV, pureOp, memOp, blkAt, fnd, upd, Op.operands, List.getD, List.getElem?_cons_zero, List.getElem?_cons_succ, Option.getD_some, List.set, List.toList_toArray, true_and, and_self, if_true, if_false, eq_self, ne_eq, not_false_eq_true, reduceCtorEq, Nat.add_zero, Nat.reduceAdd, Nat.reduceEqDiff]
      refine inC_ops TO 100 (te_inC (n := 15) (r := r) rfl hb hB hl) Tryd.func50 (by decide +kernel) rfl rfl rfl ⟨⟨rfl, rfl, by simp only [evO, gdP, gdPs, List.getD, List.getElem?_cons_zero, List.getElem?_cons_succ, Option.getD_some, and_self]⟩, ?_⟩
      rw [← eE, eS]
      by_cases hE : gsE c b = 0
      · simp only [hE, rdC, Say.sv, Say.cells, sayZ, pureOpC, buildV, fillC, cntC, unc, absRun, absOps, absOp, evO, constSV, ungd, gdP, gdPs, setD, binI, binV, ptrE, T_ty, T_size, T_zero, tTy, tSize, tZero, fieldOf, faddrV, pureOp, memOp, loadV, scal, okC, takeC, dropC, blkAt, fnd, upd, Data.len, retP, resV, retQ, rAs, rA, rA0, rAl, ownN, nodup, bares, bare, bare0, bareL, bareD, Op.operands, List.getD, List.getElem?_cons_zero, List.getElem?_cons_succ, Option.getD_some, List.set, List.map, List.all, List.toList_toArray, Option.bind_some, Option.map_some, and_self, if_true, if_false, ite_self, eq_self, ne_eq, not_false_eq_true, reduceCtorEq, Bool.false_eq_true, Nat.zero_add, Nat.add_zero, Int.reduceBNe, List.nil_append, List.append_nil, List.length_nil, Nat.reduceAdd, Nat.reduceSub, Nat.reduceEqDiff, Nat.reduceLeDiff, List.replicate_succ, List.replicate_zero, Bool.and_self, Nat.reduceBNe]
      · have hE' : (gsE c b != 0) = true := by simpa using hE
        simp only [hE', rdC, Say.sv, Say.cells, sayZ, pureOpC, buildV, fillC, cntC, unc, absRun, absOps, absOp, evO, constSV, ungd, gdP, gdPs, setD, binI, binV, ptrE, T_ty, T_size, T_zero, tTy, tSize, tZero, fieldOf, faddrV, pureOp, memOp, loadV, scal, okC, takeC, dropC, blkAt, fnd, upd, Data.len, retP, resV, retQ, rAs, rA, rA0, rAl, ownN, nodup, bares, bare, bare0, bareL, bareD, Op.operands, List.getD, List.getElem?_cons_zero, List.getElem?_cons_succ, Option.getD_some, List.set, List.map, List.all, List.toList_toArray, Option.bind_some, Option.map_some, true_and, and_true, and_self, if_true, if_false, eq_self, ne_eq, not_false_eq_true, reduceCtorEq, Nat.zero_add, Nat.add_zero, List.nil_append, List.append_nil, List.length_nil, Nat.reduceAdd, Nat.reduceSub, Nat.reduceEqDiff, Nat.reduceLeDiff, List.replicate_succ, List.replicate_zero, Bool.and_self, Nat.reduceBNe]
    subst c0
    have eR : gsR 0 b = rN b 8 (rN b 4 (rM b 2 0 5 (rN b 2 (0, 0)))) := rfl
    have eS : gsS 0 b = if gsE 0 b = 0 then { sayZ with dialect := rV b 2 (0, 0), size := rV b 4 (rM b 2 0 5 (rN b 2 (0, 0))), challenge := padA 8 (rP b 8 (rN b 4 (rM b 2 0 5 (rN b 2 (0, 0))))) } else sayZ := by
      unfold gsS; by_cases h : gsE 0 b = 0 <;> simp [h]
    rw [eR] at eE
    simp only [if_true, eq_self, beq_self_eq_true]
    refine inC_ops TO 100 (tn_inC (n := 15) (k := 2) (r := (0, 0)) rfl hb hB (Nat.zero_le _) rfl) Tryd.func46 (by decide +kernel) rfl rfl rfl ⟨⟨rfl, rfl, by simp only [evO, constSV, gdP, gdPs, List.getD, List.getElem?_cons_zero, List.getElem?_cons_succ, Option.getD_some, and_self]⟩, ?_⟩
    have h1 := rN_le (b := b) (k := 2) (r := (0, 0)) (Nat.zero_le _)
    have v1 := rV_lt b 2 (0, 0) hB
    have w1 : IntKind.u16.wrap (rV b 2 (0, 0)) = rV b 2 (0, 0) := by rw [IntKind.wrap_u16]; omega
    simp only [rdC, w1, pureOpC, unc, absRun, absOps, absOp, evO, ungd, gdP, gdPs, setD, convV, T_ty, T_size, tTy, tSize, fieldOf, faddrV, pureOp, memOp, scal, known, setC, blkAt, fnd, upd, Op.operands, List.getD, List.getElem?_cons_zero, List.getElem?_cons_succ, Option.getD_some, List.set, List.toList_toArray, Option.map_some, Option.map_none, true_and, and_self, if_true, if_false, eq_self, ne_eq, not_false_eq_true, reduceCtorEq, Nat.zero_add, Nat.add_zero, Nat.reduceAdd, Nat.reduceSub, Nat.reduceEqDiff, Nat.reduceLT, Nat.succ_ne_self]
    generalize rN b 2 (0, 0) = r1 at *
    generalize rV b 2 (0, 0) = d at *
    refine inC_ops TO 100 (tz_inC (n := 15) (k := 2) (r := r1) rfl hb hB h1 rfl) Tryd.func49 (by decide +kernel) rfl rfl rfl ⟨⟨rfl, rfl, by simp only [evO, constSV, gdP, gdPs, List.getD, List.getElem?_cons_zero, List.getElem?_cons_succ, Option.getD_some, and_self]⟩, ?_⟩
    have h2 := rM_le (b := b) (k := 2) (m := 0) (e := 5) (r := r1) h1
    simp only [rdC, pureOpC, unc, absRun, absOps, absOp, evO, ungd, gdP, gdPs, setD, T_ty, T_size, tTy, tSize, fieldOf, faddrV, pureOp, memOp, blkAt, fnd, upd, Op.operands, List.getD, List.getElem?_cons_zero, List.getElem?_cons_succ, Option.getD_some, List.set, List.toList_toArray, true_and, and_self, if_true, if_false, eq_self, ne_eq, not_false_eq_true, reduceCtorEq, Nat.add_zero, Nat.reduceAdd, Nat.reduceEqDiff]
    generalize rM b 2 0 5 r1 = r2 at *
    refine inC_ops TO 100 (tn_inC (n := 15) (k := 4) (r := r2) rfl hb hB h2 rfl) Tryd.func46 (by decide +kernel) rfl rfl rfl ⟨⟨rfl, rfl, by simp only [evO, constSV, gdP, gdPs, List.getD, List.getElem?_cons_zero, List.getElem?_cons_succ, Option.getD_some, and_self]⟩, ?_⟩
    have h3 := rN_le (b := b) (k := 4) (r := r2) h2
    simp only [rdC, pureOpC, unc, absRun, absOps, absOp, evO, ungd, gdP, gdPs, setD, T_ty, T_size, tTy, tSize, fieldOf, faddrV, pureOp, memOp, scal, setC, blkAt, fnd, upd, Op.operands, List.getD, List.getElem?_cons_zero, List.getElem?_cons_succ, Option.getD_some, List.set, List.toList_toArray, Option.map_some, Option.map_none, true_and, and_self, if_true, if_false, eq_self, ne_eq, not_false_eq_true, reduceCtorEq, Nat.zero_add, Nat.reduceAdd, Nat.reduceSub, Nat.reduceEqDiff, Nat.reduceLT, Nat.succ_ne_self]
    generalize rN b 4 r2 = r3 at *
    generalize rV b 4 r2 = sz at *
    have hov : overI [0, 0, 0, 0, 0, 0, 0, 0] 0 8 (rP b 8 r3) = padA 8 (rP b 8 r3) := over_pad (rP_len b 8 r3)
    have h4 := rN_le (b := b) (k := 8) (r := r3) h3
    refine drawI_go TO (fun y : Nat × Int => [(15, 4, .cells [.view false (.ints .u8 b), .int .i64 y.1, .int .i64 y.2, .int .u16 d, .int .u64 sz, .arr .u8 8 [0, 0, 0, 0, 0, 0, 0, 0], .int .u8 0, .int .u8 0, .int .u16 0, .int .u64 0, .int .u8 0, .nil, .int .u32 0, .nil, .bool false, .bool false])]) 9 100 mixed_ok (by decide +kernel) ⟨⟨r3, rfl, trivial⟩, ?_⟩
    simp only [List.take_succ_cons, List.take_zero, List.drop_succ_cons, List.drop_zero, pureOpC, unc, isEff, pureStep, absRun, absOps, absOp, evO, constSV, ungd, gdP, gdPs, setD, T_ty, T_size, tTy, tSize, fieldOf, faddrV, lowI, highI, maxP, sliceV, pureOp, memOp, dataOf, nilD, arrAt, blkAt, fnd, Data.len, Data.esz, Data.sub, Op.operands, Call.operands, List.getD, List.getElem?_cons_zero, List.getElem?_cons_succ, Option.getD_some, List.set, List.toList_toArray, Option.map_none, true_and, and_true, and_self, implies_true, if_true, if_false, ite_self, eq_self, ne_eq, not_false_eq_true, forall_const, reduceCtorEq, Nat.zero_add, Nat.add_zero, Int.sub_zero, Int.cast_ofNat_Int, Int.reduceToNat, Int.le_refl, Int.toNat_zero, Option.toArray_none, List.append_toArray, List.nil_append, List.append_nil, Nat.reduceAdd, Nat.reduceSub, Nat.reduceEqDiff, Nat.reduceLeDiff, Nat.succ_ne_self, Int.reduceLE, absI]
    refine callI_go TO (fun s' h' => HOps_go TO 100 h') (tp_inC (n := 15) (k := 8) (r := r3) rfl rfl hb h3 (by decide)) Tryd.func47 (by decide +kernel) rfl rfl rfl ⟨⟨rfl, rfl, by simp only [evO, constSV, gdP, gdPs, List.getD, List.getElem?_cons_zero, List.getElem?_cons_succ, Option.getD_some, and_self]⟩, ⟨rN b 8 r3, rfl, trivial⟩, ?_⟩
    simp only [rdC, hov, pureOpC, unc, absRun, absOps, absOp, evO, ungd, gdP, gdPs, setD, T_ty, T_size, tTy, tSize, fieldOf, faddrV, pureOp, memOp, dataOf, arrAt, setA, blkAt, fnd, upd, Op.operands, Call.operands, List.getD, List.getElem?_cons_zero, List.getElem?_cons_succ, Option.getD_some, List.set, List.toList_toArray, Option.map_some, Option.map_none, true_and, and_self, if_true, if_false, ite_self, eq_self, ne_eq, not_false_eq_true, reduceCtorEq, Nat.zero_add, Nat.add_zero, Nat.le_refl, List.append_toArray, List.nil_append, Nat.reduceAdd, Nat.reduceSub, Nat.reduceEqDiff, Nat.reduceLeDiff, Nat.succ_ne_self, absI]
    generalize rN b 8 r3 = r4 at *
    refine inC_ops TO 100 (te_inC (n := 15) (r := r4) rfl hb hB h4) Tryd.func50 (by decide +kernel) rfl rfl rfl ⟨⟨rfl, rfl, by simp only [evO, gdP, gdPs, List.getD, List.getElem?_cons_zero, List.getElem?_cons_succ, Option.getD_some, and_self]⟩, ?_⟩
    rw [← eE, eS]
    by_cases hE : gsE 0 b = 0
    · simp only [hE, rdC, Say.sv, Say.cells, sayZ, pureOpC, buildV, fillC, cntC, unc, absRun, absOps, absOp, evO, constSV, ungd, gdP, gdPs, setD, binI, binV, ptrE, T_ty, T_size, T_zero, tTy, tSize, tZero, fieldOf, faddrV, pureOp, memOp, loadV, scal, okC, takeC, dropC, blkAt, fnd, upd, Data.len, retP, resV, retQ, rAs, rA, rA0, rAl, ownN, nodup, bares, bare, bare0, bareL, bareD, Op.operands, List.getD, List.getElem?_cons_zero, List.getElem?_cons_succ, Option.getD_some, List.set, List.map, List.all, List.toList_toArray, Option.bind_some, Option.map_some, true_and, and_true, and_self, if_true, if_false, eq_self, ne_eq, not_false_eq_true, reduceCtorEq, Bool.false_eq_true, Nat.zero_add, Nat.add_zero, Int.reduceBNe, List.nil_append, List.append_nil, List.length_nil, Nat.reduceAdd, Nat.reduceSub, Nat.reduceEqDiff, Nat.reduceLeDiff, List.replicate_succ, List.replicate_zero, Bool.and_self, Nat.reduceBNe]
    · have hE' : (gsE 0 b != 0) = true := by simpa using hE
      simp only [hE', if_neg hE, rdC, Say.sv, Say.cells, sayZ, pureOpC, buildV, fillC, cntC, unc, absRun, absOps, absOp, evO, constSV, ungd, gdP, gdPs, setD, binI, binV, ptrE, T_ty, T_size, T_zero, tTy, tSize, tZero, fieldOf, faddrV, pureOp, memOp, loadV, scal, okC, takeC, dropC, blkAt, fnd, upd, Data.len, retP, resV, retQ, rAs, rA, rA0, rAl, ownN, nodup, bares, bare, bare0, bareL, bareD, Op.operands, List.getD, List.getElem?_cons_zero, List.getElem?_cons_succ, Option.getD_some, List.set, List.map, List.all, List.toList_toArray, Option.bind_some, Option.map_some, true_and, and_true, and_self, if_true, if_false, eq_self, ne_eq, not_false_eq_true, reduceCtorEq, Nat.zero_add, Nat.add_zero, List.nil_append, List.append_nil, List.length_nil, Nat.reduceAdd, Nat.reduceSub, Nat.reduceEqDiff, Nat.reduceLeDiff, List.replicate_succ, List.replicate_zero, Bool.and_self, Nat.reduceBNe]

end Go.Proofs.YtfohefgpchbgkaaDoor.Abs
