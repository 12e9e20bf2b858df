/- What GetAsk answers. -/
import Derived.Test.YtfohefgpchbgkaaDoorUC
import Derived.Test.YtfohefgpchbgkaaDoorRX
set_option linter.unusedVariables false
set_option linter.unusedSimpArgs false
set_option maxRecDepth 100000
namespace Go.Proofs.YtfohefgpchbgkaaDoor.Abs
open Go Go.Proofs

theorem raise_go {P : Program} {X : Ctx} {todo : List Item} {s : St} {Φ : St → Prop} (c1 : Nat) (hc : s.c.c < c1) (h : HRun P X todo ⟨s.t, s.b, ⟨c1, [], s.c.o⟩⟩ Φ) : HRun P X todo s Φ :=
  fun σ w a hR => h.after (R_raise hR hc) (Tr_raise hc)
theorem raise_ops {P : Program} {X : Ctx} {ops : Array Oper} {rest : List Oper} {k : List Item} {s : St} {Φ : St → Prop} (c1 : Nat) (hc : s.c.c < c1) (h : HOps P X ops rest k ⟨s.t, s.b, ⟨c1, [], s.c.o⟩⟩ Φ) : HOps P X ops rest k s Φ :=
  fun i hi => raise_go c1 hc (h i hi)

theorem rT_le {b : List Int} {r : Nat × Int} (hB : Bytes b) (h : r.1 ≤ b.length) : (rT b r).1 ≤ b.length := by
  have := gtX_ok hB h
  unfold rT
  split
  · exact h
  · split
    · exact h
    · simp only; omega

def dlF (b : List Int) : Nat → Nat × Int → List Int → List Int × (Nat × Int)
  | 0, r, l => (l, r)
  | k + 1, r, l => if r.2 = 0 then dlF b k (rN b 2 r) (l ++ [rV b 2 r]) else (l, r)

theorem dlF_bad {b : List Int} {k : Nat} {r : Nat × Int} {l : List Int} (h : r.2 ≠ 0) : dlF b k r l = (l, r) := by
  cases k with
  | zero => rfl
  | succ k => unfold dlF; rw [if_neg h]

def gaR0 (b : List Int) : List Int × (Nat × Int) := dlF b (rV b 2 (0, 0)).toNat (rM b 2 16 3 (0, 0)) []
def gaR (c : Int) (b : List Int) : Nat × Int := if c = 0 then rN b 16 (gaR0 b).2 else if c = 1 then rT b (rN b 32 (0, 0)) else if c = 3 then rT b (0, 0) else rM b 4 0 5 (0, 0)
def gaE (c : Int) (b : List Int) : Int := if knB c = true then rEnd b (gaR c b) else 2
def gaA (c : Int) (b : List Int) : Ask := if gaE c b ≠ 0 then askZ else if c = 0 then { askZ with dialects := (gaR0 b).1, guid := padA 16 (rP b 16 (gaR0 b).2) } else if c = 1 then { askZ with proof := padA 32 (rP b 32 (0, 0)), user := rS b (rN b 32 (0, 0)) } else if c = 3 then { askZ with share := rS b (0, 0) } else askZ

abbrev z16 : List Int := [0, 0, 0, 0, 0, 0, 0, 0, 0, 0, 0, 0, 0, 0, 0, 0]
abbrev z32 : List Int := [0, 0, 0, 0, 0, 0, 0, 0, 0, 0, 0, 0, 0, 0, 0, 0, 0, 0, 0, 0, 0, 0, 0, 0, 0, 0, 0, 0, 0, 0, 0, 0]
abbrev akC (d : SV) (g p : List Int) (u s : ByteArray) : List SV := [d, .arr .u8 16 g, .arr .u8 32 p, .str u, .str s, .int .u32 0, .int .u32 0, .int .u32 0, .int .u32 0, .int .u8 0, .int .u8 0, .int .u64 0, .str ByteArray.empty, .int .u64 0, .int .u32 0, .nil, .nil, .int .u16 0, .str ByteArray.empty, .str ByteArray.empty, .int .u16 0, .int .u64 0, .bool false]

set_option maxHeartbeats 8000000 in
theorem GetAsk_meets (c : Int) (b : List Int) (hc : 0 ≤ c) (hb : b.length ≤ 274877906944) (hB : Bytes b) : Meets Tryd.prog 18 [.v (.int .u16 c), .v (.view false (.ints .u8 b))] [.v ((gaA c b).sv true), .v (.int .i64 (gaE c b))] := by
  have hK := known_meets c hc
  have hb2 : b.length ≤ 140737488351232 := by omega
  refine meets_go TO 100 Tryd.func18 rfl (fun X => ?_)
  simp only [Tryd.ntmps18, Tryd.results18, pureOpC, svs, blks, AV.sv, absRun, absOps, absOp, evO, constSV, ungd, gdP, gdPs, setD, T_size, T_zero, tSize, tZero, pureOp, memOp, newV, notIn, upd, Lim.add, Op.operands, List.getD, List.getElem?_cons_zero, Option.getD_some, List.set, List.toList_toArray, true_and, and_self, ne_eq, not_false_eq_true, reduceCtorEq, Nat.zero_add, List.cons_append, List.nil_append, List.length_cons, List.length_nil, Nat.reduceAdd, Nat.reduceSub, List.replicate_succ, List.replicate_zero]
  refine call_go TO 100 hK Tryd.func38 (by decide +kernel) rfl rfl rfl ?_
  cases hk : knB c with
  | false =>
    have e1 : gaE c b = 2 := by unfold gaE; rw [if_neg (by rw [hk]; decide)]
    have e2 : gaA c b = askZ := by unfold gaA; rw [if_pos (by rw [e1]; decide)]
    rw [e1, e2]
    simp only [Ask.sv, Ask.cells, askZ, pureOpC, buildV, fillC, cntC, unc, absRun, absOps, absOp, evO, constSV, ungd, gdP, gdPs, setD, binI, binV, ptrE, unV, T_ty, T_size, T_zero, tTy, tSize, tZero, fieldOf, faddrV, pureOp, memOp, loadV, newV, notIn, scal, cellsOf, okC, takeC, dropC, blkAt, fnd, upd, Data.len, Lim.add, retP, resV, retQ, rAs, rA, rA0, rAl, ownN, nodup, bares, bare, bare0, bareL, bareD, guardIs, callP, callS, argS, mAs, mA, mA0, mB0, allNotIn, impN, impB, impT, packS, delL, Op.operands, List.getD, List.getElem?_cons_zero, List.getElem?_cons_succ, Option.getD_some, List.set, List.map, List.all, List.toList_toArray, Option.bind_some, Option.map_some, true_and, and_self, if_true, if_false, eq_self, ne_eq, not_false_eq_true, reduceCtorEq, Nat.zero_add, Nat.add_zero, List.cons_append, List.nil_append, List.append_nil, List.length_nil, Nat.reduceAdd, Nat.reduceSub, Nat.reduceEqDiff, Nat.reduceLeDiff, Bool.not_false, List.replicate_succ, List.replicate_zero, Bool.and_self, Nat.reduceBNe]
  | true =>
    simp only [pureOpC, buildV, fillC, cntC, unc, absRun, absOps, absOp, evO, constSV, ungd, gdP, gdPs, setD, binI, binV, ptrE, unV, T_ty, T_size, T_zero, tTy, tSize, tZero, fieldOf, faddrV, pureOp, memOp, loadV, newV, notIn, scal, cellsOf, okC, takeC, dropC, blkAt, fnd, upd, Data.len, Data.esz, Lim.add, retP, resV, retQ, rAs, rA, rA0, ownN, nodup, bares, bare, bare0, bareD, guardIs, callP, callS, argS, mAs, mA, mA0, mB0, allNotIn, impN, impB, impT, packS, delL, Op.operands, List.getD, List.getElem?_cons_zero, List.getElem?_cons_succ, Option.getD_some, List.set, List.map, List.all, List.toList_toArray, Option.bind_some, Option.map_some, true_and, and_true, and_self, if_true, if_false, eq_self, ne_eq, not_false_eq_true, reduceCtorEq, Bool.false_eq_true, Nat.zero_add, Nat.add_zero, List.cons_append, List.nil_append, List.append_nil, Nat.reduceAdd, Nat.reduceSub, Nat.reduceEqDiff, Nat.reduceLeDiff, Bool.not_true, List.replicate_succ, List.replicate_zero, Bool.and_true, Bool.and_self, Nat.reduceBNe]
    have eE : gaE c b = rEnd b (gaR c b) := by unfold gaE; rw [if_pos hk]
    have eA0 : gaE c b ≠ 0 → gaA c b = askZ := fun h => by unfold gaA; rw [if_pos h]
    by_cases c0 : c = 0
    · subst c0
      have eA : gaE 0 b = 0 → gaA 0 b = { askZ with dialects := (gaR0 b).1, guid := padA 16 (rP b 16 (gaR0 b).2) } := fun h => by unfold gaA; rw [if_neg (by rw [h]; simp), if_pos rfl]
      have eR : gaR 0 b = rN b 16 (gaR0 b).2 := rfl
      have eD : gaR0 b = dlF b (rV b 2 (0, 0)).toNat (rM b 2 16 3 (0, 0)) [] := rfl
      have eM : rM b 2 16 3 (0, 0) = if (rN b 2 (0, 0)).2 = 0 ∧ 16 < rV b 2 (0, 0) then ((rN b 2 (0, 0)).1, 3) else rN b 2 (0, 0) := rfl
      have hm1 := rM_le (b := b) (k := 2) (m := 16) (e := 3) (r := (0, 0)) (Nat.zero_le _)
      rw [eR] at eE
      simp only [if_true, if_false, eq_self, Bool.false_eq_true, Int.reduceBEq, beq_self_eq_true]
      refine inC_ops TO 100 (tn_inC (n := 17) (k := 2) (r := (0, 0)) rfl hb2 hB (Nat.zero_le _) rfl) Tryd.func46 (by decide +kernel) rfl rfl rfl ⟨⟨rfl, rfl, by simp only [evO, constSV, gdP, gdPs, List.getD, List.getElem?_cons_zero, List.getElem?_cons_succ, Option.getD_some, and_self]⟩, ?_⟩
      have h1 := rN_le (b := b) (k := 2) (r := (0, 0)) (Nat.zero_le _)
      have v1 := rV_lt b 2 (0, 0) hB
      obtain ⟨N, hN⟩ : ∃ N : Nat, rV b 2 (0, 0) = N := ⟨(rV b 2 (0, 0)).toNat, by omega⟩
      rw [hN] at eD eM v1 ⊢
      rw [Int.toNat_natCast] at eD
      have hN2 : N < 65536 := by omega
      simp only [rdC, pureOpC, unc, absRun, absOps, absOp, evO, constSV, ungd, gdP, gdPs, setD, binI, binV, ptrE, T_ty, T_size, tTy, tSize, fieldOf, faddrV, pickV, pureOp, guardOf, memOp, loadV, scal, cellAt, setC, blkAt, fnd, upd, Op.operands, List.getD, List.getElem?_cons_zero, List.getElem?_cons_succ, Option.getD_some, List.set, List.toList_toArray, List.getElem?_toArray, Option.bind_some, Option.map_some, Option.map_none, true_and, and_self, implies_true, imp_self, if_true, if_false, ite_self, eq_self, ne_eq, not_false_eq_true, reduceCtorEq, Nat.zero_add, Nat.add_zero, Bool.cond_false_right, Nat.reduceAdd, Nat.reduceSub, Nat.reduceEqDiff, Nat.reduceLT, Nat.succ_ne_self, gt_iff_lt]
      generalize rN b 2 (0, 0) = r1 at *
      generalize rM b 2 16 3 (0, 0) = q at *
      generalize gaR0 b = D at *
      by_cases hq : r1.2 = 0 ∧ 16 < (N : Int)
      all_goals first | rw [if_pos hq] at eM | rw [if_neg hq] at eM
      all_goals first
        | rw [if_pos (show (decide (16 < (N : Int)) && r1.2 == 0) = true by simp; omega)]
        | rw [if_neg (show ¬ (decide (16 < (N : Int)) && r1.2 == 0) = true by simp; omega)]
      all_goals
        refine raise_go 40 (by simp) (newb_go 68 (.ints .u16 []) rfl ?_)
        refine cells_go 17 (.view false (.ints .u8 b) :: .int .i64 q.1 :: .int .i64 q.2 :: akC (.sl 68 41 0 1 0 0) z16 z32 ByteArray.empty ByteArray.empty) ⟨⟨rfl, ?_⟩, ?_⟩
        · rw [eM]
          rintro σ w cs ⟨w1, c1, rfl, p1, w2, c2, rfl, p2, w3, c3, rfl, p3, w4, c4, rfl, p4, p5⟩
          exact ⟨w1, _, rfl, p1, w2, _, rfl, p2, w3, _, rfl, p3, w4, _, rfl, V0_nil_sl (.inl (by simp only; omega)) p4, p5⟩
        clear eM
        simp only [upd, if_true, if_false, eq_self, Nat.reduceAdd, Nat.reduceEqDiff]
        refine loop_up (fun x : Nat × (Nat × Int) × List Int × Nat × Nat => x.1 ≤ N ∧ x.2.1.1 ≤ b.length ∧ dlF b (N - x.1) x.2.1 x.2.2.1 = D ∧ x.2.2.1.length ≤ x.1)
          (fun x => ⟨tl 124 0 [(4, .ptr 4 2 0), (5, .int .i64 0), (6, .ptr 17 4 0), (7, .int .u64 N), (8, .int .u64 x.1)], [(4, 2, .cells (akC .nil z16 z32 ByteArray.empty ByteArray.empty)),
            (17, 4, rdC b x.2.1 (akC (.sl 68 x.2.2.2.1 0 1 0 x.2.2.1.length) z16 z32 ByteArray.empty ByteArray.empty)), (68, x.2.2.2.1, .vec (.ints .u16 x.2.2.1))], ⟨x.2.2.2.2, [], 0⟩⟩) (fun x => N - x.1) (0, q, [], 41, _) ⟨Nat.zero_le _, hm1, eD.symm, Nat.le_refl _⟩ ⟨rfl, ?_, ?_⟩ ?_
        · simp [LeT, tl]
        · intro m x hx
          simpa [fnd, rdC] using hx
        rintro ⟨i, r, l, g, c⟩ ⟨hi, hr, hD, hl⟩ ih
        simp only at hi hr hD hl
        refine absRun_ok TO 100 _ _ ?_
        simp only [rdC, akC, pureOpC, unc, absRun, absOps, absOp, evO, constSV, ungd, gdP, gdPs, setD, binI, binV, ptrE, T_ty, T_size, tTy, tSize, fieldOf, faddrV, pickV, pureOp, guardOf, loadV, cellAt, blkAt, fnd, Op.operands, List.getD, List.getElem?_cons_zero, List.getElem?_cons_succ, Option.getD_some, List.set, List.toList_toArray, List.getElem?_toArray, Option.bind_some, exitTo, true_and, and_self, implies_true, imp_self, if_true, if_false, ite_self, eq_self, ne_eq, not_false_eq_true, reduceCtorEq, Bool.false_eq_true, Nat.zero_add, Nat.add_zero, Bool.cond_false_right, List.cons_append, List.nil_append, Nat.reduceAdd, Nat.reduceSub, Nat.reduceEqDiff, Nat.reduceBEq, Nat.reduceLT, Nat.succ_ne_self, beq_self_eq_true, List.replicate_succ, List.replicate_zero, tl]
        by_cases hgo : i < N ∧ r.2 = 0
        · rw [if_pos (show (decide ((i : Int) < (N : Int)) && r.2 == 0) = true by simp; omega)]
          have v2 := rV_lt b 2 r hB
          have w2 : IntKind.u16.wrap (rV b 2 r) = rV b 2 r := by rw [IntKind.wrap_u16]; omega
          have wi : IntKind.u64.wrap ((i : Int) + 1) = ((i + 1 : Nat) : Int) := by rw [wu64 (by omega) (by omega)]; omega
          refine drawI_go TO (fun y : Nat × Int => [(17, 4, rdC b y (akC (.sl 68 g 0 1 0 l.length) z16 z32 ByteArray.empty ByteArray.empty))]) 13 100 mixed_ok (by decide +kernel) ⟨⟨r, rfl, trivial⟩, ?_⟩
          simp only [rdC, akC, List.take_succ_cons, List.take_zero, List.drop_succ_cons, List.drop_zero, pureOpC, unc, isEff, pureStep, absRun, absOps, absOp, evO, constSV, ungd, gdP, gdPs, setD, binI, binV, ptrE, binS, T_ty, T_size, tTy, tSize, fieldOf, faddrV, pureOp, memOp, loadV, scal, cellAt, blkAt, fnd, Op.operands, List.getD, List.getElem?_cons_zero, List.getElem?_cons_succ, Option.getD_some, List.set, List.toList_toArray, Option.isSome, true_and, and_true, and_self, implies_true, imp_self, if_true, if_false, ite_self, eq_self, ne_eq, not_false_eq_true, forall_const, reduceCtorEq, Nat.zero_add, Nat.add_zero, Nat.reduceSub, Nat.reduceEqDiff, Nat.reduceLT, Nat.succ_ne_self, absI]
          refine callI_go TO (fun s' h' => HOps_go TO 100 h') (tn_inC (n := 17) (k := 2) (r := r) rfl hb2 hB hr rfl) Tryd.func46 (by decide +kernel) rfl rfl rfl ⟨⟨rfl, rfl, by simp only [evO, constSV, gdP, gdPs, List.getD, List.getElem?_cons_zero, List.getElem?_cons_succ, Option.getD_some, and_self]⟩, ⟨rN b 2 r, rfl, trivial⟩, ?_⟩
          simp only [rdC, w2, wi, List.take_succ_cons, List.take_zero, List.drop_zero, pureOpC, unc, fitT, isEff, pureStep, subB, absRun, absOps, absOp, evO, constSV, ungd, gdP, gdPs, setD, binI, binV, ptrE, convV, T_ty, T_size, T_bytes, T_zero, tTy, tSize, tBytes, tZero, fieldOf, faddrV, pureOp, memOp, newV, notIn, dataOf, appD, isSrc, scal, elemsOf, intsOf, zI, known, setC, blkAt, fnd, upd, del, mv, Data.len, Data.esz, Data.sub, Lim.add, Op.operands, Call.operands, List.getD, List.getElem?_cons_zero, List.getElem?_cons_succ, Option.getD_some, List.set, List.map, List.toList_toArray, Option.map_some, Option.map_none, Option.isSome, true_and, and_true, and_self, implies_true, if_true, if_false, ite_self, eq_self, ne_eq, not_false_eq_true, reduceCtorEq, Nat.zero_add, Nat.add_zero, Nat.le_refl, List.append_toArray, List.nil_append, List.length_cons, List.length_nil, Nat.reduceSub, Nat.reduceEqDiff, Nat.reduceLeDiff, Nat.reduceLT, Nat.succ_ne_self, absI]
          refine ⟨⟨rN b 2 r, rfl⟩, ⟨by omega, by omega⟩, ⟨rN b 2 r, rfl⟩, ?_⟩
          have hstep : dlF b (N - (i + 1)) (rN b 2 r) (l ++ [rV b 2 r]) = D := by
            rw [← hD, show N - i = (N - (i + 1)) + 1 by omega]
            conv => rhs; unfold dlF
            rw [if_pos hgo.2]
          refine ih (i + 1, rN b 2 r, l ++ [rV b 2 r], c + 15, _) _ ⟨by omega, rN_le hr, hstep, by simp only [List.length_append, List.length_cons, List.length_nil]; omega⟩ (by simp only; omega) rfl ?_ ?_
          · simp [LeT, tl]
          · intro m x hx
            simp only [fnd, rdC, akC] at hx ⊢
            split at hx
            · rename_i e; subst e; simpa using hx
            split at hx
            · rename_i e; subst e; simpa using hx
            split at hx
            · rename_i e; subst e; simpa using hx
            cases hx
        · rw [if_neg (show ¬ (decide ((i : Int) < (N : Int)) && r.2 == 0) = true by simp; omega)]
          have eDD : D = (l, r) := by
            rw [← hD]
            rcases Nat.lt_or_ge i N with h | h
            · exact dlF_bad (by omega)
            · rw [show N - i = 0 by omega]; rfl
          subst eDD
          simp only at eE eA
          have hov : overI z16 0 16 (rP b 16 r) = padA 16 (rP b 16 r) := over_pad (rP_len b 16 r)
          have h4 := rN_le (b := b) (k := 16) (r := r) hr
          refine drawI_go TO (fun y : Nat × Int => [(17, 4, rdC b y (akC (.sl 68 g 0 1 0 l.length) z16 z32 ByteArray.empty ByteArray.empty))]) 9 100 mixed_ok (by decide +kernel) ⟨⟨r, rfl, trivial⟩, ?_⟩
          simp only [rdC, akC, List.take_succ_cons, List.take_zero, List.drop_succ_cons, List.drop_zero, pureOpC, unc, isEff, pureStep, absRun, absOps, absOp, evO, constSV, ungd, gdP, gdPs, setD, T_ty, T_size, tTy, tSize, fieldOf, faddrV, lowI, highI, maxP, sliceV, pureOp, memOp, dataOf, nilD, arrAt, blkAt, fnd, Data.len, Data.esz, Data.sub, Op.operands, Call.operands, List.getD, List.getElem?_cons_zero, List.getElem?_cons_succ, Option.getD_some, List.set, List.toList_toArray, Option.map_none, true_and, and_true, and_self, implies_true, if_true, if_false, ite_self, eq_self, ne_eq, not_false_eq_true, forall_const, reduceCtorEq, Nat.zero_add, Nat.add_zero, Int.sub_zero, Int.cast_ofNat_Int, Int.reduceToNat, Int.le_refl, Int.toNat_zero, Option.toArray_none, List.append_toArray, List.nil_append, List.append_nil, Nat.reduceAdd, Nat.reduceSub, Nat.reduceEqDiff, Nat.reduceLeDiff, Nat.succ_ne_self, Int.reduceLE, absI]
          refine callI_go TO (fun s' h' => HOps_go TO 100 h') (tp_inC (n := 17) (k := 16) (r := r) rfl rfl hb2 hr (by decide)) Tryd.func47 (by decide +kernel) rfl rfl rfl ⟨⟨rfl, rfl, by simp only [evO, constSV, gdP, gdPs, List.getD, List.getElem?_cons_zero, List.getElem?_cons_succ, Option.getD_some, and_self]⟩, ⟨rN b 16 r, rfl, trivial⟩, ?_⟩
          simp only [rdC, hov, pureOpC, unc, absRun, absOps, absOp, evO, ungd, gdP, gdPs, setD, T_ty, T_size, tTy, tSize, fieldOf, faddrV, pureOp, memOp, dataOf, arrAt, setA, blkAt, fnd, upd, Op.operands, Call.operands, List.getD, List.getElem?_cons_zero, List.getElem?_cons_succ, Option.getD_some, List.set, List.toList_toArray, Option.map_some, Option.map_none, true_and, and_self, if_true, if_false, ite_self, eq_self, ne_eq, not_false_eq_true, reduceCtorEq, Nat.zero_add, Nat.add_zero, Nat.le_refl, List.append_toArray, List.nil_append, Nat.reduceSub, Nat.reduceEqDiff, Nat.reduceLeDiff, Nat.succ_ne_self, absI]
          refine freezeC_ops 17 3 68 (.ints .u16 l) ⟨⟨rfl, rfl, by simp [fnd], by decide, by simp [Data.len]⟩, ?_⟩
          generalize rN b 16 r = r4 at *
          simp only [List.drop_zero, upd, del, Data.sub, List.set, if_true, if_false, eq_self, List.take_length, Nat.reduceEqDiff]
          refine inC_ops TO 100 (te_inC (n := 17) (r := r4) rfl hb2 hB h4) Tryd.func50 (by decide +kernel) rfl rfl rfl ⟨⟨rfl, rfl, by simp only [evO, gdP, gdPs, List.getD, List.getElem?_cons_zero, List.getElem?_cons_succ, Option.getD_some, and_self]⟩, ?_⟩
          rw [← eE]
          by_cases hE : gaE 0 b = 0
          · rw [eA hE]
            simp only [hE, rdC, Ask.sv, Ask.cells, askZ, pureOpC, buildV, fillC, cntC, unc, absRun, absOps, absOp, evO, constSV, ungd, gdP, gdPs, setD, binI, binV, ptrE, T_ty, T_size, T_zero, tTy, tSize, tZero, fieldOf, faddrV, pureOp, memOp, loadV, scal, okC, takeC, dropC, blkAt, fnd, upd, Data.len, retP, resV, retQ, rAs, rA, rA0, rAl, ownN, nodup, bares, bare, bare0, bareL, bareD, Op.operands, List.getD, List.getElem?_cons_zero, List.getElem?_cons_succ, Option.getD_some, List.set, List.map, List.all, List.toList_toArray, Option.bind_some, Option.map_some, true_and, and_true, and_self, implies_true, if_true, if_false, eq_self, ne_eq, not_false_eq_true, reduceCtorEq, Bool.false_eq_true, Nat.zero_add, Nat.add_zero, Int.reduceBNe, List.nil_append, List.append_nil, List.length_nil, Nat.reduceAdd, Nat.reduceSub, Nat.reduceEqDiff, Nat.reduceLeDiff, List.replicate_succ, List.replicate_zero, Bool.and_self, Nat.reduceBNe]
          · have hE' : (gaE 0 b != 0) = true := by simpa using hE
            rw [eA0 hE]
            simp only [hE', rdC, Ask.sv, Ask.cells, askZ, pureOpC, buildV, fillC, cntC, unc, absRun, absOps, absOp, evO, constSV, ungd, gdP, gdPs, setD, binI, binV, ptrE, T_ty, T_size, T_zero, tTy, tSize, tZero, fieldOf, faddrV, pureOp, memOp, loadV, scal, okC, takeC, dropC, blkAt, fnd, upd, Data.len, retP, resV, retQ, rAs, rA, rA0, rAl, ownN, nodup, bares, bare, bare0, bareL, bareD, Op.operands, List.getD, List.getElem?_cons_zero, List.getElem?_cons_succ, Option.getD_some, List.set, List.map, List.all, List.toList_toArray, Option.bind_some, Option.map_some, true_and, and_true, and_self, implies_true, if_true, if_false, eq_self, ne_eq, not_false_eq_true, reduceCtorEq, Nat.zero_add, Nat.add_zero, List.nil_append, List.append_nil, List.length_nil, Nat.reduceAdd, Nat.reduceSub, Nat.reduceEqDiff, Nat.reduceLeDiff, List.replicate_succ, List.replicate_zero, Bool.and_self, Data.ints.injEq, Nat.reduceBNe]
    have d0 : (c == 0) = false := by simpa using c0
    by_cases c1 : c = 1
    · subst c1
      have eA : gaE 1 b = 0 → gaA 1 b = { askZ with proof := padA 32 (rP b 32 (0, 0)), user := rS b (rN b 32 (0, 0)) } := fun h => by unfold gaA; rw [if_neg (by rw [h]; simp), if_neg (by decide), if_pos rfl]
      have eR : gaR 1 b = rT b (rN b 32 (0, 0)) := rfl
      rw [eR] at eE
      simp only [if_true, if_false, eq_self, Bool.false_eq_true, Int.reduceBEq, beq_self_eq_true]
      have hov : overI z32 0 32 (rP b 32 (0, 0)) = padA 32 (rP b 32 (0, 0)) := over_pad (rP_len b 32 (0, 0))
      have h4 := rN_le (b := b) (k := 32) (r := (0, 0)) (Nat.zero_le _)
      refine drawI_go TO (fun y : Nat × Int => [(17, 4, rdC b y (akC .nil z16 z32 ByteArray.empty ByteArray.empty))]) 9 100 mixed_ok (by decide +kernel) ⟨⟨(0, 0), rfl, trivial⟩, ?_⟩
      simp only [rdC, akC, List.take_succ_cons, List.take_zero, List.drop_succ_cons, List.drop_zero, pureOpC, unc, isEff, pureStep, absRun, absOps, absOp, evO, constSV, ungd, gdP, gdPs, setD, T_ty, T_size, tTy, tSize, fieldOf, faddrV, lowI, highI, maxP, sliceV, pureOp, memOp, dataOf, nilD, arrAt, blkAt, fnd, Data.len, Data.esz, Data.sub, Op.operands, Call.operands, List.getD, List.getElem?_cons_zero, List.getElem?_cons_succ, Option.getD_some, List.set, List.toList_toArray, Option.map_none, true_and, and_true, and_self, implies_true, if_true, if_false, ite_self, eq_self, ne_eq, not_false_eq_true, forall_const, reduceCtorEq, Nat.zero_add, Nat.add_zero, Int.sub_zero, Int.cast_ofNat_Int, Int.reduceToNat, Nat.le_refl, Int.le_refl, Int.toNat_zero, Option.toArray_none, List.append_toArray, List.nil_append, List.append_nil, Nat.reduceAdd, Nat.reduceSub, Nat.reduceEqDiff, Nat.reduceLeDiff, Int.reduceLE, absI]
      refine callI_go TO (fun s' h' => HOps_go TO 100 h') (tp_inC (n := 17) (k := 32) (r := (0, 0)) rfl rfl hb2 (Nat.zero_le _) (by decide)) Tryd.func47 (by decide +kernel) rfl rfl rfl ⟨⟨rfl, rfl, by simp only [evO, constSV, gdP, gdPs, List.getD, List.getElem?_cons_zero, List.getElem?_cons_succ, Option.getD_some, and_self]⟩, ⟨rN b 32 (0, 0), rfl, trivial⟩, ?_⟩
      simp only [rdC, hov, pureOpC, unc, absRun, absOps, absOp, evO, ungd, gdP, gdPs, setD, T_ty, T_size, tTy, tSize, fieldOf, faddrV, pureOp, memOp, dataOf, arrAt, setA, blkAt, fnd, upd, Op.operands, Call.operands, List.getD, List.getElem?_cons_zero, List.getElem?_cons_succ, Option.getD_some, List.set, List.toList_toArray, Option.map_some, Option.map_none, true_and, and_self, if_true, if_false, ite_self, eq_self, ne_eq, not_false_eq_true, reduceCtorEq, Nat.zero_add, Nat.add_zero, Nat.le_refl, List.append_toArray, List.nil_append, Nat.reduceAdd, Nat.reduceSub, Nat.reduceEqDiff, Nat.reduceLeDiff, absI]
      generalize rN b 32 (0, 0) = r4 at *
      refine inC_ops TO 100 (tt_inC (n := 17) (r := r4) rfl hb hB h4) Tryd.func48 (by decide +kernel) rfl rfl rfl ⟨⟨rfl, rfl, by simp only [evO, gdP, gdPs, List.getD, List.getElem?_cons_zero, List.getElem?_cons_succ, Option.getD_some, and_self]⟩, ?_⟩
      have h5 := rT_le hB h4
      simp only [rdC, pureOpC, unc, absRun, absOps, absOp, evO, ungd, gdP, gdPs, setD, T_ty, T_size, tTy, tSize, fieldOf, faddrV, pureOp, memOp, scal, setC, blkAt, fnd, upd, Op.operands, List.getD, List.getElem?_cons_zero, List.getElem?_cons_succ, Option.getD_some, List.set, List.toList_toArray, Option.map_some, Option.map_none, true_and, and_self, if_true, if_false, eq_self, ne_eq, not_false_eq_true, reduceCtorEq, Nat.zero_add, Nat.add_zero, Nat.reduceAdd, Nat.reduceSub, Nat.reduceEqDiff, Nat.reduceLT, Nat.succ_ne_self]
      generalize rT b r4 = r5 at *
      refine inC_ops TO 100 (te_inC (n := 17) (r := r5) rfl hb2 hB h5) Tryd.func50 (by decide +kernel) rfl rfl rfl ⟨⟨rfl, rfl, by simp only [evO, gdP, gdPs, List.getD, List.getElem?_cons_zero, List.getElem?_cons_succ, Option.getD_some, and_self]⟩, ?_⟩
      rw [← eE]
      by_cases hE : gaE 1 b = 0
      · rw [eA hE]
        simp only [hE, rdC, Ask.sv, Ask.cells, askZ, pureOpC, buildV, fillC, cntC, unc, absRun, absOps, absOp, evO, constSV, ungd, gdP, gdPs, setD, binI, binV, ptrE, T_ty, T_size, T_zero, tTy, tSize, tZero, fieldOf, faddrV, pureOp, memOp, loadV, scal, okC, takeC, dropC, blkAt, fnd, upd, Data.len, retP, resV, retQ, rAs, rA, rA0, rAl, ownN, nodup, bares, bare, bare0, bareL, bareD, Op.operands, List.getD, List.getElem?_cons_zero, List.getElem?_cons_succ, Option.getD_some, List.set, List.map, List.all, List.toList_toArray, Option.bind_some, Option.map_some, true_and, and_true, and_self, if_true, if_false, eq_self, ne_eq, not_false_eq_true, reduceCtorEq, Bool.false_eq_true, Nat.zero_add, Nat.add_zero, Int.reduceBNe, List.nil_append, List.append_nil, List.length_nil, Nat.reduceAdd, Nat.reduceSub, Nat.reduceEqDiff, Nat.reduceLeDiff, List.replicate_succ, List.replicate_zero, Bool.and_self, Nat.reduceBNe]
      · have hE' : (gaE 1 b != 0) = true := by simpa using hE
        rw [eA0 hE]
        simp only [hE', rdC, Ask.sv, Ask.cells, askZ, pureOpC, buildV, fillC, cntC, unc, absRun, absOps, absOp, evO, constSV, ungd, gdP, gdPs, setD, binI, binV, ptrE, T_ty, T_size, T_zero, tTy, tSize, tZero, fieldOf, faddrV, pureOp, memOp, loadV, scal, okC, takeC, dropC, blkAt, fnd, upd, Data.len, retP, resV, retQ, rAs, rA, rA0, rAl, ownN, nodup, bares, bare, bare0, bareL, bareD, Op.operands, List.getD, List.getElem?_cons_zero, List.getElem?_cons_succ, Option.getD_some, List.set, List.map, List.all, List.toList_toArray, Option.bind_some, Option.map_some, true_and, and_true, and_self, if_true, if_false, eq_self, ne_eq, not_false_eq_true, reduceCtorEq, Nat.zero_add, Nat.add_zero, List.nil_append, List.append_nil, List.length_nil, Nat.reduceAdd, Nat.reduceSub, Nat.reduceEqDiff, Nat.reduceLeDiff, List.replicate_succ, List.replicate_zero, Bool.and_self, Nat.reduceBNe]
    have d1 : (c == 1) = false := by simpa using c1
    by_cases c3 : c = 3
    · subst c3
      have eA : gaE 3 b = 0 → gaA 3 b = { askZ with share := rS b (0, 0) } := fun h => by unfold gaA; rw [if_neg (by rw [h]; simp), if_neg (by decide), if_neg (by decide), if_pos rfl]
      have eR : gaR 3 b = rT b (0, 0) := rfl
      rw [eR] at eE
      simp only [if_true, if_false, eq_self, Bool.false_eq_true, Int.reduceBEq, beq_self_eq_true]
      refine inC_ops TO 100 (tt_inC (n := 17) (r := (0, 0)) rfl hb hB (Nat.zero_le _)) Tryd.func48 (by decide +kernel) rfl rfl rfl ⟨⟨rfl, rfl, by simp only [evO, gdP, gdPs, List.getD, List.getElem?_cons_zero, List.getElem?_cons_succ, Option.getD_some, and_self]⟩, ?_⟩
      have h5 := rT_le (r := (0, 0)) hB (Nat.zero_le _)
      simp only [rdC, pureOpC, unc, absRun, absOps, absOp, evO, ungd, gdP, gdPs, setD, T_ty, T_size, tTy, tSize, fieldOf, faddrV, pureOp, memOp, scal, setC, blkAt, fnd, upd, Op.operands, List.getD, List.getElem?_cons_zero, List.getElem?_cons_succ, Option.getD_some, List.set, List.toList_toArray, Option.map_some, Option.map_none, true_and, and_self, if_true, if_false, eq_self, ne_eq, not_false_eq_true, reduceCtorEq, Nat.zero_add, Nat.add_zero, Nat.reduceAdd, Nat.reduceSub, Nat.reduceEqDiff, Nat.reduceLT, Nat.succ_ne_self]
      generalize rT b (0, 0) = r5 at *
      refine inC_ops TO 100 (te_inC (n := 17) (r := r5) rfl hb2 hB h5) Tryd.func50 (by decide +kernel) rfl rfl rfl ⟨⟨rfl, rfl, by simp only [evO, gdP, gdPs, List.getD, List.getElem?_cons_zero, List.getElem?_cons_succ, Option.getD_some, and_self]⟩, ?_⟩
      rw [← eE]
      by_cases hE : gaE 3 b = 0
      · rw [eA hE]
        simp only [hE, rdC, Ask.sv, Ask.cells, askZ, pureOpC, buildV, fillC, cntC, unc, absRun, absOps, absOp, evO, constSV, ungd, gdP, gdPs, setD, binI, binV, ptrE, T_ty, T_size, T_zero, tTy, tSize, tZero, fieldOf, faddrV, pureOp, memOp, loadV, scal, okC, takeC, dropC, blkAt, fnd, upd, Data.len, retP, resV, retQ, rAs, rA, rA0, rAl, ownN, nodup, bares, bare, bare0, bareL, bareD, Op.operands, List.getD, List.getElem?_cons_zero, List.getElem?_cons_succ, Option.getD_some, List.set, List.map, List.all, List.toList_toArray, Option.bind_some, Option.map_some, true_and, and_true, and_self, if_true, if_false, eq_self, ne_eq, not_false_eq_true, reduceCtorEq, Bool.false_eq_true, Nat.zero_add, Nat.add_zero, Int.reduceBNe, List.nil_append, List.append_nil, List.length_nil, Nat.reduceAdd, Nat.reduceSub, Nat.reduceEqDiff, Nat.reduceLeDiff, List.replicate_succ, List.replicate_zero, Bool.and_self, Nat.reduceBNe]
      · have hE' : (gaE 3 b != 0) = true := by simpa using hE
        rw [eA0 hE]
        simp only [hE', rdC, Ask.sv, Ask.cells, askZ, pureOpC, buildV, fillC, cntC, unc, absRun, absOps, absOp, evO, constSV, ungd, gdP, gdPs, setD, binI, binV, ptrE, T_ty, T_size, T_zero, tTy, tSize, tZero, fieldOf, faddrV, pureOp, memOp, loadV, scal, okC, takeC, dropC, blkAt, fnd, upd, Data.len, retP, resV, retQ, rAs, rA, rA0, rAl, ownN, nodup, bares, bare, bare0, bareL, bareD, Op.operands, List.getD, List.getElem?_cons_zero, List.getElem?_cons_succ, Option.getD_some, List.set, List.map, List.all, List.toList_toArray, Option.bind_some, Option.map_some, true_and, and_true, and_self, if_true, if_false, eq_self, ne_eq, not_false_eq_true, reduceCtorEq, Nat.zero_add, Nat.add_zero, List.nil_append, List.append_nil, List.length_nil, Nat.reduceAdd, Nat.reduceSub, Nat.reduceEqDiff, Nat.reduceLeDiff, List.replicate_succ, List.replicate_zero, Bool.and_self, Nat.reduceBNe]
    have d3 : (c == 3) = false := by simpa using c3
    have eA : gaA c b = askZ := by
      unfold gaA
      rw [if_neg c0, if_neg c1, if_neg c3]
      simp
    have eR : gaR c b = rM b 4 0 5 (0, 0) := by unfold gaR; rw [if_neg c0, if_neg c1, if_neg c3]
    rw [eR] at eE
    simp only [d0, d1, d3, if_false, Bool.false_eq_true]
    refine inC_ops TO 100 (tz_inC (n := 17) (k := 4) (r := (0, 0)) rfl hb2 hB (Nat.zero_le _) rfl) Tryd.func49 (by decide +kernel) rfl rfl rfl ⟨⟨rfl, rfl, by simp only [evO, constSV, gdP, gdPs, List.getD, List.getElem?_cons_zero, List.getElem?_cons_succ, Option.getD_some, and_self]⟩, ?_⟩
    have hl := rM_le (b := b) (k := 4) (m := 0) (e := 5) (r := (0, 0)) (Nat.zero_le _)
    generalize rM b 4 0 5 (0, 0) = r at *
    simp only [rdC, pureOpC, unc, absRun, absOps, absOp, evO, ungd, gdP, gdPs, setD, T_ty, T_size, tTy, tSize, fieldOf, faddrV, pureOp, memOp, blkAt, fnd, upd, Op.operands, List.getD, List.getElem?_cons_zero, List.getElem?_cons_succ, Option.getD_some, List.set, List.toList_toArray, true_and, and_self, if_true, if_false, eq_self, ne_eq, not_false_eq_true, reduceCtorEq, Nat.add_zero, Nat.reduceAdd, Nat.reduceEqDiff]
    refine inC_ops TO 100 (te_inC (n := 17) (r := r) rfl hb2 hB hl) Tryd.func50 (by decide +kernel) rfl rfl rfl ⟨⟨rfl, rfl, by simp only [evO, gdP, gdPs, List.getD, List.getElem?_cons_zero, List.getElem?_cons_succ, Option.getD_some, and_self]⟩, ?_⟩
    rw [← eE, eA]
    by_cases hE : gaE c b = 0
    · simp only [hE, rdC, Ask.sv, Ask.cells, askZ, pureOpC, buildV, fillC, cntC, unc, absRun, absOps, absOp, evO, constSV, ungd, gdP, gdPs, setD, binI, binV, ptrE, T_ty, T_size, T_zero, tTy, tSize, tZero, fieldOf, faddrV, pureOp, memOp, loadV, scal, okC, takeC, dropC, blkAt, fnd, upd, Data.len, retP, resV, retQ, rAs, rA, rA0, rAl, ownN, nodup, bares, bare, bare0, bareL, bareD, Op.operands, List.getD, List.getElem?_cons_zero, List.getElem?_cons_succ, Option.getD_some, List.set, List.map, List.all, List.toList_toArray, Option.bind_some, Option.map_some, and_self, if_true, if_false, ite_self, eq_self, ne_eq, not_false_eq_true, reduceCtorEq, Bool.false_eq_true, Nat.zero_add, Nat.add_zero, Int.reduceBNe, List.nil_append, List.append_nil, List.length_nil, Nat.reduceAdd, Nat.reduceSub, Nat.reduceEqDiff, Nat.reduceLeDiff, List.replicate_succ, List.replicate_zero, Bool.and_self, Nat.reduceBNe]
    · have hE' : (gaE c b != 0) = true := by simpa using hE
      simp only [hE', rdC, Ask.sv, Ask.cells, askZ, pureOpC, buildV, fillC, cntC, unc, absRun, absOps, absOp, evO, constSV, ungd, gdP, gdPs, setD, binI, binV, ptrE, T_ty, T_size, T_zero, tTy, tSize, tZero, fieldOf, faddrV, pureOp, memOp, loadV, scal, okC, takeC, dropC, blkAt, fnd, upd, Data.len, retP, resV, retQ, rAs, rA, rA0, rAl, ownN, nodup, bares, bare, bare0, bareL, bareD, Op.operands, List.getD, List.getElem?_cons_zero, List.getElem?_cons_succ, Option.getD_some, List.set, List.map, List.all, List.toList_toArray, Option.bind_some, Option.map_some, true_and, and_true, and_self, if_true, if_false, eq_self, ne_eq, not_false_eq_true, reduceCtorEq, Nat.zero_add, Nat.add_zero, List.nil_append, List.append_nil, List.length_nil, Nat.reduceAdd, Nat.reduceSub, Nat.reduceEqDiff, Nat.reduceLeDiff, List.replicate_succ, List.replicate_zero, Bool.and_self, Nat.reduceBNe]

end Go.Proofs.YtfohefgpchbgkaaDoor.Abs
