/- GetAsk, GetSay: what has no bytes is nil; Spoil. -/
import Derived.Test.YtfohefgpchbgkaaDoorUQ
set_option linter.unusedVariables false
set_option linter.unusedSimpArgs false
set_option maxRecDepth 100000
namespace Go.Proofs.YtfohefgpchbgkaaDoor.Abs
open Go Go.Proofs

def Ask.svN (a : Ask) : SV := .agg [.view true (.ints .u16 a.dialects), .arr .u8 16 a.guid, .arr .u8 32 a.proof, .str a.user, .str a.share, .int .u32 a.access, .int .u32 a.sharing, .int .u32 a.way, .int .u32 a.options, .int .u8 a.level, .int .u8 a.durable, .int .u64 a.file, .str a.name, .int .u64 a.at_, .int .u32 a.n, .nil, .nil, .int .u16 a.most, .str a.pattern, .str a.after, .int .u16 a.cls, .int .u64 a.size, .bool a.on]
def Say.svN (s : Say) : SV := .agg [.int .u16 s.dialect, .int .u64 s.size, .arr .u8 8 s.challenge, .int .u8 s.level, .int .u8 s.durable, .int .u16 s.made, .int .u64 s.file, .int .u8 s.kind, .nil, .int .u32 s.n, .nil, .bool s.more, .bool s.gone]

section
variable {P : Program} {X : Ctx} {T : Tab} {s : St}
/-- The capacity of nil. -/
theorem capnil_ops (TO : TabOk P T) {ops : Array Oper} {o : Oper} {rest : List Oper} {k : List Item} {Φ : St → Prop} {t e : TypeId} {x : Operand} {d : Nat}
    (ho : o.op = .call ⟨.builtin .cap, #[x], #[t]⟩) (hg : o.guard = none) (hd : o.dst = some d) (hT : T.ty t = .slice e) (hx : evO s.t x = .nil)
    (h : HOps P X ops rest k ⟨s.t.set d (.int .i64 0), s.b, s.c⟩ Φ) : HOps P X ops (o :: rest) k s Φ := by
  intro i hi σ w a hR
  obtain ⟨ho', hrest⟩ := ops_at hi
  have hv := V_evO hR x
  rw [hx] at hv
  have ex : a.eval x = .slice none 0 0 := hv
  have ht := TO.ty t
  rw [hT] at ht
  have hu : (execOp a.eval o).run P w = .ok (.value (.int .i64 0)) w := by
    simp only [execOp, ho, resolve]
    simp [invoke, builtin, Builtin.cap_, run_underlying ht, ex, goInt]
  rw [List.length_cons, List.range'_succ]
  refine Fins.opValue (v := .int .i64 0) ho' (by simp [Region.wanted, hg]) (.inl hu) ((h (i + 1) hrest).after ?_ Tr.refl)
  rw [hd]
  exact R_set hR (dst := some d) (sv := .int .i64 0) (show V X s.b s.c σ w _ _ from rfl)
end

theorem Spoil0_meets (by_ : Int) : Meets Tryd.prog 36 [.v .nil, .v (.int .u8 by_)] [] := by
  refine meets_go TO 100 Tryd.func36 rfl (fun X => ?_)
  simp only [Tryd.ntmps36, Tryd.results36, pureOpC, capV, svs, blks, AV.sv, absRun, absOps, absOp, evO, ungd, gdP, gdPs, setD, memOp, Op.operands, List.getD, List.getElem?_cons_zero, List.getElem?_cons_succ, Option.getD_some, List.set, List.toList_toArray, true_and, and_self, Nat.zero_add, List.cons_append, List.nil_append, List.length_cons, List.length_nil, Nat.reduceAdd, Nat.reduceSub, List.replicate_succ, List.replicate_zero]
  refine capnil_ops TO rfl rfl rfl rfl rfl (HOps_go TO 100 ?_)
  simp only [pureOpC, unc, absRun, absOps, absOp, evO, constSV, ungd, gdP, gdPs, setD, T_ty, T_size, tTy, tSize, lowI, highI, maxP, sliceV, pureOp, Op.operands, List.getD, List.getElem?_cons_zero, List.getElem?_cons_succ, Option.getD_some, List.set, List.toList_toArray, Option.map_some, Option.map_none, true_and, and_self, eq_self, ne_eq, not_false_eq_true, Option.toArray_some, Option.toArray_none, List.append_toArray, List.cons_append, List.nil_append, List.append_nil, Nat.reduceAdd, Nat.succ_ne_self]
  refine loop_go (fun _ : Unit => True) (fun _ => ⟨[.nil, .int .u8 by_, .any, .any, .int .i64 0] ++ List.replicate 19 .any, [], ⟨3, [], 0⟩⟩) (fun _ => 0) () trivial ⟨rfl, ?_, ?_⟩ ?_
  · simp [LeT]
  · intro m x hx; simp [fnd] at hx
  · rintro ⟨⟩ _ ih
    refine absRun_ok TO 100 _ _ ?_
    simp only [pureOpC, unc, absRun, absOps, absOp, evO, ungd, gdP, gdPs, setD, binI, binV, ptrE, T_ty, tTy, iaddrV, pureOp, memOp, lenV, retP, retQ, rAs, ownN, nodup, bares, Op.operands, Call.operands, List.getD, List.getElem?_cons_zero, List.getElem?_cons_succ, Option.getD_some, List.set, List.map, List.toList_toArray, exitTo, true_and, and_self, if_true, if_false, eq_self, Bool.false_eq_true, List.append_toArray, List.cons_append, List.nil_append, Nat.reduceAdd, beq_self_eq_true, List.replicate_succ, List.replicate_zero, Int.reduceLT, decide_false]
    trace_state

set_option maxHeartbeats 8000000 in
theorem GetAskN_meets (c : Int) (b : List Int) (hc : 0 ≤ c) (hb : b.length ≤ 274877906944) (hB : Bytes b) : Meets Tryd.prog 18 [.v (.int .u16 c), .v (.view false (.ints .u8 b))] [.v ((gaA c b).svN), .v (.int .i64 (gaE c b))] := by
  have hK := known_meets c hc
  have hb2 : b.length ≤ 140737488351232 := by omega
  refine meets_go TO 100 Tryd.func18 rfl (fun X => ?_)
  simp only [Tryd.ntmps18, Tryd.results18, pureOpC, svs, blks, AV.sv, absRun, absOps, absOp, evO, constSV, ungd, gdP, gdPs, setD, T_size, T_zero, tSize, tZero, pureOp, memOp, newV, notIn, upd, Lim.add, Op.operands, List.getD, List.getElem?_cons_zero, Option.getD_some, List.set, List.toList_toArray, true_and, and_self, ne_eq, not_false_eq_true, reduceCtorEq, Nat.zero_add, List.cons_append, List.nil_append, List.length_cons, List.length_nil, Nat.reduceAdd, Nat.reduceSub, List.replicate_succ, List.replicate_zero]
  refine call_go TO 100 hK Tryd.func38 (by decide +kernel) rfl rfl rfl ?_
  cases hk : knB c with
  | false =>
    have e1 : gaE c b = 2 := by unfold gaE; rw [if_neg (by rw [hk]; decide)]
    have e2 : gaA c b = askZ := by unfold gaA; rw [if_pos (by rw [e1]; decide)]
    rw [e1, e2]
    simp only [Ask.svN, askZ, pureOpC, buildV, fillC, cntC, unc, absRun, absOps, absOp, evO, constSV, ungd, gdP, gdPs, setD, binI, binV, ptrE, unV, T_ty, T_size, T_zero, tTy, tSize, tZero, fieldOf, faddrV, pureOp, memOp, loadV, newV, notIn, scal, cellsOf, okC, takeC, dropC, blkAt, fnd, upd, Data.len, Lim.add, retP, resV, retQ, rAs, rA, rA0, rAl, ownN, nodup, bares, bare, bare0, bareL, bareD, guardIs, callP, callS, argS, mAs, mA, mA0, mB0, allNotIn, impN, impB, impT, packS, delL, Op.operands, List.getD, List.getElem?_cons_zero, List.getElem?_cons_succ, Option.getD_some, List.set, List.map, List.all, List.toList_toArray, Option.bind_some, Option.map_some, true_and, and_self, if_true, if_false, eq_self, ne_eq, not_false_eq_true, reduceCtorEq, Nat.zero_add, Nat.add_zero, List.cons_append, List.nil_append, List.append_nil, List.length_nil, Nat.reduceAdd, Nat.reduceSub, Nat.reduceEqDiff, Nat.reduceLeDiff, Bool.not_false, List.replicate_succ, List.replicate_zero, Bool.and_self, Nat.reduceBNe]
  | true =>
    simp only [pureOpC, buildV, fillC, cntC, unc, absRun, absOps, absOp, evO, constSV, ungd, gdP, gdPs, setD, binI, binV, ptrE, unV, T_ty, T_size, T_zero, tTy, tSize, tZero, fieldOf, faddrV, pureOp, memOp, loadV, newV, notIn, scal, cellsOf, okC, takeC, dropC, blkAt, fnd, upd, Data.len, Data.esz, Lim.add, retP, resV, retQ, rAs, rA, rA0, ownN, nodup, bares, bare, bare0, bareD, guardIs, callP, callS, argS, mAs, mA, mA0, mB0, allNotIn, impN, impB, impT, packS, delL, Op.operands, List.getD, List.getElem?_cons_zero, List.getElem?_cons_succ, Option.getD_some, List.set, List.map, List.all, List.toList_toArray, Option.bind_some, Option.map_some, true_and, and_true, and_self, if_true, if_false, eq_self, ne_eq, not_false_eq_true, reduceCtorEq, Bool.false_eq_true, Nat.zero_add, Nat.add_zero, List.cons_append, List.nil_append, List.append_nil, Nat.reduceAdd, Nat.reduceSub, Nat.reduceEqDiff, Nat.reduceLeDiff, Bool.not_true, List.replicate_succ, List.replicate_zero, Bool.and_true, Bool.and_self, Nat.reduceBNe]
    have eE : gaE c b = rEnd b (gaR c b) := by unfold gaE; rw [if_pos hk]
    have eA0 : gaE c b ≠ 0 → gaA c b = askZ := fun h => by unfold gaA; rw [if_pos h]
    by_cases c0 : c = 0
    · subst c0
      have eA : gaE 0 b = 0 → gaA 0 b = { askZ with dialects := (gaR0 b).1, guid := padA 16 (rP b 16 (gaR0 b).2) } := fun h => by unfold gaA; rw [if_neg (by rw [h]; simp), if_pos rfl]
      have eR : gaR 0 b = rN b 16 (gaR0 b).2 := rfl
      have eD : gaR0 b = dlF b (rV b 2 (0, 0)).toNat (rM b 2 16 3 (0, 0)) [] := rfl
      have eM : rM b 2 16 3 (0, 0) = if (rN b 2 (0, 0)).2 = 0 ∧ 16 < rV b 2 (0, 0) then ((rN b 2 (0, 0)).1, 3) else rN b 2 (0, 0) := rfl
      have hm1 := rM_le (b := b) (k := 2) (m := 16) (e := 3) (r := (0, 0)) (Nat.zero_le _)
      rw [eR] at eE
      simp only [if_true, if_false, eq_self, Bool.false_eq_true, Int.reduceBEq, beq_self_eq_true]
      refine inC_ops TO 100 (tn_inC (n := 17) (k := 2) (r := (0, 0)) rfl hb2 hB (Nat.zero_le _) rfl) Tryd.func46 (by decide +kernel) rfl rfl rfl ⟨⟨rfl, rfl, by simp only [evO, constSV, gdP, gdPs, List.getD, List.getElem?_cons_zero, List.getElem?_cons_succ, Option.getD_some, and_self]⟩, ?_⟩
      have h1 := rN_le (b := b) (k := 2) (r := (0, 0)) (Nat.zero_le _)
      have v1 := rV_lt b 2 (0, 0) hB
      obtain ⟨N, hN⟩ : ∃ N : Nat, rV b 2 (0, 0) = N := ⟨(rV b 2 (0, 0)).toNat, by omega⟩
      rw [hN] at eD eM v1 ⊢
      rw [Int.toNat_natCast] at eD
      have hN2 : N < 65536 := by omega
      simp only [rdC, pureOpC, unc, absRun, absOps, absOp, evO, constSV, ungd, gdP, gdPs, setD, binI, binV, ptrE, T_ty, T_size, tTy, tSize, fieldOf, faddrV, pickV, pureOp, guardOf, memOp, loadV, scal, cellAt, setC, blkAt, fnd, upd, Op.operands, List.getD, List.getElem?_cons_zero, List.getElem?_cons_succ, Option.getD_some, List.set, List.toList_toArray, List.getElem?_toArray, Option.bind_some, Option.map_some, Option.map_none, true_and, and_self, implies_true, imp_self, if_true, if_false, ite_self, eq_self, ne_eq, not_false_eq_true, reduceCtorEq, Nat.zero_add, Nat.add_zero, Bool.cond_false_right, Nat.reduceAdd, Nat.reduceSub, Nat.reduceEqDiff, Nat.reduceLT, Nat.succ_ne_self, gt_iff_lt]
      generalize rN b 2 (0, 0) = r1 at *
      generalize rM b 2 16 3 (0, 0) = q at *
      generalize gaR0 b = D at *
      by_cases hq : r1.2 = 0 ∧ 16 < (N : Int)
      all_goals first | rw [if_pos hq] at eM | rw [if_neg hq] at eM
      all_goals first
        | rw [if_pos (show (decide (16 < (N : Int)) && r1.2 == 0) = true by simp; omega)]
        | rw [if_neg (show ¬ (decide (16 < (N : Int)) && r1.2 == 0) = true by simp; omega)]
      all_goals
        refine raise_go 40 (by simp) (newb_go 68 (.ints .u16 []) rfl ?_)
        refine cells_go 17 (.view false (.ints .u8 b) :: .int .i64 q.1 :: .int .i64 q.2 :: akC (.sl 68 41 0 1 0 0) z16 z32 ByteArray.empty ByteArray.empty) ⟨⟨rfl, ?_⟩, ?_⟩
        · rw [eM]
          rintro σ w cs ⟨w1, c1, rfl, p1, w2, c2, rfl, p2, w3, c3, rfl, p3, w4, c4, rfl, p4, p5⟩
          exact ⟨w1, _, rfl, p1, w2, _, rfl, p2, w3, _, rfl, p3, w4, _, rfl, V0_nil_sl (.inl (by simp only; omega)) p4, p5⟩
        clear eM
        simp only [upd, if_true, if_false, eq_self, Nat.reduceAdd, Nat.reduceEqDiff]
        refine loop_up (fun x : Nat × (Nat × Int) × List Int × Nat × Nat => x.1 ≤ N ∧ x.2.1.1 ≤ b.length ∧ dlF b (N - x.1) x.2.1 x.2.2.1 = D ∧ x.2.2.1.length ≤ x.1)
          (fun x => ⟨tl 124 0 [(4, .ptr 4 2 0), (5, .int .i64 0), (6, .ptr 17 4 0), (7, .int .u64 N), (8, .int .u64 x.1)], [(4, 2, .cells (akC .nil z16 z32 ByteArray.empty ByteArray.empty)),
            (17, 4, rdC b x.2.1 (akC (.sl 68 x.2.2.2.1 0 1 0 x.2.2.1.length) z16 z32 ByteArray.empty ByteArray.empty)), (68, x.2.2.2.1, .vec (.ints .u16 x.2.2.1))], ⟨x.2.2.2.2, [], 0⟩⟩) (fun x => N - x.1) (0, q, [], 41, _) ⟨Nat.zero_le _, hm1, eD.symm, Nat.le_refl _⟩ ⟨rfl, ?_, ?_⟩ ?_
        · simp [LeT, tl]
        · intro m x hx
          simpa [fnd, rdC] using hx
        rintro ⟨i, r, l, g, c⟩ ⟨hi, hr, hD, hl⟩ ih
        simp only at hi hr hD hl
        refine absRun_ok TO 100 _ _ ?_
        simp only [rdC, akC, pureOpC, unc, absRun, absOps, absOp, evO, constSV, ungd, gdP, gdPs, setD, binI, binV, ptrE, T_ty, T_size, tTy, tSize, fieldOf, faddrV, pickV, pureOp, guardOf, loadV, cellAt, blkAt, fnd, Op.operands, List.getD, List.getElem?_cons_zero, List.getElem?_cons_succ, Option.getD_some, List.set, List.toList_toArray, List.getElem?_toArray, Option.bind_some, exitTo, true_and, and_self, implies_true, imp_self, if_true, if_false, ite_self, eq_self, ne_eq, not_false_eq_true, reduceCtorEq, Bool.false_eq_true, Nat.zero_add, Nat.add_zero, Bool.cond_false_right, List.cons_append, List.nil_append, Nat.reduceAdd, Nat.reduceSub, Nat.reduceEqDiff, Nat.reduceBEq, Nat.reduceLT, Nat.succ_ne_self, beq_self_eq_true, List.replicate_succ, List.replicate_zero, tl]
        by_cases hgo : i < N ∧ r.2 = 0
        · rw [if_pos (show (decide ((i : Int) < (N : Int)) && r.2 == 0) = true by simp; omega)]
          have v2 := rV_lt b 2 r hB
          have w2 : IntKind.u16.wrap (rV b 2 r) = rV b 2 r := by rw [IntKind.wrap_u16]; omega
          have wi : IntKind.u64.wrap ((i : Int) + 1) = ((i + 1 : Nat) : Int) := by rw [wu64 (by omega) (by omega)]; omega
          refine drawI_go TO (fun y : Nat × Int => [(17, 4, rdC b y (akC (.sl 68 g 0 1 0 l.length) z16 z32 ByteArray.empty ByteArray.empty))]) 13 100 mixed_ok (by decide +kernel) ⟨⟨r, rfl, trivial⟩, ?_⟩
          simp only [rdC, akC, List.take_succ_cons, List.take_zero, List.drop_succ_cons, List.drop_zero, pureOpC, unc, isEff, pureStep, absRun, absOps, absOp, evO, constSV, ungd, gdP, gdPs, setD, binI, binV, ptrE, binS, T_ty, T_size, tTy, tSize, fieldOf, faddrV, pureOp, memOp, loadV, scal, cellAt, blkAt, fnd, Op.operands, List.getD, List.getElem?_cons_zero, List.getElem?_cons_succ, Option.getD_some, List.set, List.toList_toArray, Option.isSome, true_and, and_true, and_self, implies_true, imp_self, if_true, if_false, ite_self, eq_self, ne_eq, not_false_eq_true, forall_const, reduceCtorEq, Nat.zero_add, Nat.add_zero, Nat.reduceSub, Nat.reduceEqDiff, Nat.reduceLT, Nat.succ_ne_self, absI]
          refine callI_go TO (fun s' h' => HOps_go TO 100 h') (tn_inC (n := 17) (k := 2) (r := r) rfl hb2 hB hr rfl) Tryd.func46 (by decide +kernel) rfl rfl rfl ⟨⟨rfl, rfl, by simp only [evO, constSV, gdP, gdPs, List.getD, List.getElem?_cons_zero, List.getElem?_cons_succ, Option.getD_some, and_self]⟩, ⟨rN b 2 r, rfl, trivial⟩, ?_⟩
          simp only [rdC, w2, wi, List.take_succ_cons, List.take_zero, List.drop_zero, pureOpC, unc, fitT, isEff, pureStep, subB, absRun, absOps, absOp, evO, constSV, ungd, gdP, gdPs, setD, binI, binV, ptrE, convV, T_ty, T_size, T_bytes, T_zero, tTy, tSize, tBytes, tZero, fieldOf, faddrV, pureOp, memOp, newV, notIn, dataOf, appD, isSrc, scal, elemsOf, intsOf, zI, known, setC, blkAt, fnd, upd, del, mv, Data.len, Data.esz, Data.sub, Lim.add, Op.operands, Call.operands, List.getD, List.getElem?_cons_zero, List.getElem?_cons_succ, Option.getD_some, List.set, List.map, List.toList_toArray, Option.map_some, Option.map_none, Option.isSome, true_and, and_true, and_self, implies_true, if_true, if_false, ite_self, eq_self, ne_eq, not_false_eq_true, reduceCtorEq, Nat.zero_add, Nat.add_zero, Nat.le_refl, List.append_toArray, List.nil_append, List.length_cons, List.length_nil, Nat.reduceSub, Nat.reduceEqDiff, Nat.reduceLeDiff, Nat.reduceLT, Nat.succ_ne_self, absI]
          refine ⟨⟨rN b 2 r, rfl⟩, ⟨by omega, by omega⟩, ⟨rN b 2 r, rfl⟩, ?_⟩
          have hstep : dlF b (N - (i + 1)) (rN b 2 r) (l ++ [rV b 2 r]) = D := by
            rw [← hD, show N - i = (N - (i + 1)) + 1 by omega]
            conv => rhs; unfold dlF
            rw [if_pos hgo.2]
          refine ih (i + 1, rN b 2 r, l ++ [rV b 2 r], c + 15, _) _ ⟨by omega, rN_le hr, hstep, by simp only [List.length_append, List.length_cons, List.length_nil]; omega⟩ (by simp only; omega) rfl ?_ ?_
          · simp [LeT, tl]
          · intro m x hx
            simp only [fnd, rdC, akC] at hx ⊢
            split at hx
            · rename_i e; subst e; simpa using hx
            split at hx
            · rename_i e; subst e; simpa using hx
            split at hx
            · rename_i e; subst e; simpa using hx
            cases hx
        · rw [if_neg (show ¬ (decide ((i : Int) < (N : Int)) && r.2 == 0) = true by simp; omega)]
          have eDD : D = (l, r) := by
            rw [← hD]
            rcases Nat.lt_or_ge i N with h | h
            · exact dlF_bad (by omega)
            · rw [show N - i = 0 by omega]; rfl
          subst eDD
          simp only at eE eA
          have hov : overI z16 0 16 (rP b 16 r) = padA 16 (rP b 16 r) := over_pad (rP_len b 16 r)
          have h4 := rN_le (b := b) (k := 16) (r := r) hr
          refine drawI_go TO (fun y : Nat × Int => [(17, 4, rdC b y (akC (.sl 68 g 0 1 0 l.length) z16 z32 ByteArray.empty ByteArray.empty))]) 9 100 mixed_ok (by decide +kernel) ⟨⟨r, rfl, trivial⟩, ?_⟩
          simp only [rdC, akC, List.take_succ_cons, List.take_zero, List.drop_succ_cons, List.drop_zero, pureOpC, unc, isEff, pureStep, absRun, absOps, absOp, evO, constSV, ungd, gdP, gdPs, setD, T_ty, T_size, tTy, tSize, fieldOf, faddrV, lowI, highI, maxP, sliceV, pureOp, memOp, dataOf, nilD, arrAt, blkAt, fnd, Data.len, Data.esz, Data.sub, Op.operands, Call.operands, List.getD, List.getElem?_cons_zero, List.getElem?_cons_succ, Option.getD_some, List.set, List.toList_toArray, Option.map_none, true_and, and_true, and_self, implies_true, if_true, if_false, ite_self, eq_self, ne_eq, not_false_eq_true, forall_const, reduceCtorEq, Nat.zero_add, Nat.add_zero, Int.sub_zero, Int.cast_ofNat_Int, Int.reduceToNat, Int.le_refl, Int.toNat_zero, Option.toArray_none, List.append_toArray, List.nil_append, List.append_nil, Nat.reduceAdd, Nat.reduceSub, Nat.reduceEqDiff, Nat.reduceLeDiff, Nat.succ_ne_self, Int.reduceLE, absI]
          refine callI_go TO (fun s' h' => HOps_go TO 100 h') (tp_inC (n := 17) (k := 16) (r := r) rfl rfl hb2 hr (by decide)) Tryd.func47 (by decide +kernel) rfl rfl rfl ⟨⟨rfl, rfl, by simp only [evO, constSV, gdP, gdPs, List.getD, List.getElem?_cons_zero, List.getElem?_cons_succ, Option.getD_some, and_self]⟩, ⟨rN b 16 r, rfl, trivial⟩, ?_⟩
          simp only [rdC, hov, pureOpC, unc, absRun, absOps, absOp, evO, ungd, gdP, gdPs, setD, T_ty, T_size, tTy, tSize, fieldOf, faddrV, pureOp, memOp, dataOf, arrAt, setA, blkAt, fnd, upd, Op.operands, Call.operands, List.getD, List.getElem?_cons_zero, List.getElem?_cons_succ, Option.getD_some, List.set, List.toList_toArray, Option.map_some, Option.map_none, true_and, and_self, if_true, if_false, ite_self, eq_self, ne_eq, not_false_eq_true, reduceCtorEq, Nat.zero_add, Nat.add_zero, Nat.le_refl, List.append_toArray, List.nil_append, Nat.reduceSub, Nat.reduceEqDiff, Nat.reduceLeDiff, Nat.succ_ne_self, absI]
          refine freezeC_ops 17 3 68 (.ints .u16 l) ⟨⟨rfl, rfl, by simp [fnd], by decide, by simp [Data.len]⟩, ?_⟩
          generalize rN b 16 r = r4 at *
          simp only [List.drop_zero, upd, del, Data.sub, List.set, if_true, if_false, eq_self, List.take_length, Nat.reduceEqDiff]
          refine inC_ops TO 100 (te_inC (n := 17) (r := r4) rfl hb2 hB h4) Tryd.func50 (by decide +kernel) rfl rfl rfl ⟨⟨rfl, rfl, by simp only [evO, gdP, gdPs, List.getD, List.getElem?_cons_zero, List.getElem?_cons_succ, Option.getD_some, and_self]⟩, ?_⟩
          rw [← eE]
          by_cases hE : gaE 0 b = 0
          · rw [eA hE]
            simp only [hE, rdC, Ask.svN, askZ, pureOpC, buildV, fillC, cntC, unc, absRun, absOps, absOp, evO, constSV, ungd, gdP, gdPs, setD, binI, binV, ptrE, T_ty, T_size, T_zero, tTy, tSize, tZero, fieldOf, faddrV, pureOp, memOp, loadV, scal, okC, takeC, dropC, blkAt, fnd, upd, Data.len, retP, resV, retQ, rAs, rA, rA0, rAl, ownN, nodup, bares, bare, bare0, bareL, bareD, Op.operands, List.getD, List.getElem?_cons_zero, List.getElem?_cons_succ, Option.getD_some, List.set, List.map, List.all, List.toList_toArray, Option.bind_some, Option.map_some, true_and, and_true, and_self, implies_true, if_true, if_false, eq_self, ne_eq, not_false_eq_true, reduceCtorEq, Bool.false_eq_true, Nat.zero_add, Nat.add_zero, Int.reduceBNe, List.nil_append, List.append_nil, Nat.reduceAdd, Nat.reduceSub, Nat.reduceEqDiff, Nat.reduceLeDiff, List.replicate_succ, List.replicate_zero, Bool.and_self, Nat.reduceBNe]
          · have hE' : (gaE 0 b != 0) = true := by simpa using hE
            rw [eA0 hE]
            simp only [hE', rdC, Ask.svN, askZ, pureOpC, buildV, fillC, cntC, unc, absRun, absOps, absOp, evO, constSV, ungd, gdP, gdPs, setD, binI, binV, ptrE, T_ty, T_size, T_zero, tTy, tSize, tZero, fieldOf, faddrV, pureOp, memOp, loadV, scal, okC, takeC, dropC, blkAt, fnd, upd, Data.len, retP, resV, retQ, rAs, rA, rA0, rAl, ownN, nodup, bares, bare, bare0, bareL, bareD, Op.operands, List.getD, List.getElem?_cons_zero, List.getElem?_cons_succ, Option.getD_some, List.set, List.map, List.all, List.toList_toArray, Option.bind_some, Option.map_some, true_and, and_true, and_self, implies_true, if_true, if_false, eq_self, ne_eq, not_false_eq_true, reduceCtorEq, Nat.zero_add, Nat.add_zero, List.nil_append, List.append_nil, List.length_nil, Nat.reduceAdd, Nat.reduceSub, Nat.reduceEqDiff, Nat.reduceLeDiff, List.replicate_succ, List.replicate_zero, Bool.and_self, Data.ints.injEq, Nat.reduceBNe]
    have d0 : (c == 0) = false := by simpa using c0
    by_cases c1 : c = 1
    · subst c1
      have eA : gaE 1 b = 0 → gaA 1 b = { askZ with proof := padA 32 (rP b 32 (0, 0)), user := rS b (rN b 32 (0, 0)) } := fun h => by unfold gaA; rw [if_neg (by rw [h]; simp), if_neg (by decide), if_pos rfl]
      have eR : gaR 1 b = rT b (rN b 32 (0, 0)) := rfl
      rw [eR] at eE
      simp only [if_true, if_false, eq_self, Bool.false_eq_true, Int.reduceBEq, beq_self_eq_true]
      have hov : overI z32 0 32 (rP b 32 (0, 0)) = padA 32 (rP b 32 (0, 0)) := over_pad (rP_len b 32 (0, 0))
      have h4 := rN_le (b := b) (k := 32) (r := (0, 0)) (Nat.zero_le _)
      refine drawI_go TO (fun y : Nat × Int => [(17, 4, rdC b y (akC .nil z16 z32 ByteArray.empty ByteArray.empty))]) 9 100 mixed_ok (by decide +kernel) ⟨⟨(0, 0), rfl, trivial⟩, ?_⟩
      simp only [rdC, akC, List.take_succ_cons, List.take_zero, List.drop_succ_cons, List.drop_zero, pureOpC, unc, isEff, pureStep, absRun, absOps, absOp, evO, constSV, ungd, gdP, gdPs, setD, T_ty, T_size, tTy, tSize, fieldOf, faddrV, lowI, highI, maxP, sliceV, pureOp, memOp, dataOf, nilD, arrAt, blkAt, fnd, Data.len, Data.esz, Data.sub, Op.operands, Call.operands, List.getD, List.getElem?_cons_zero, List.getElem?_cons_succ, Option.getD_some, List.set, List.toList_toArray, Option.map_none, true_and, and_true, and_self, implies_true, if_true, if_false, ite_self, eq_self, ne_eq, not_false_eq_true, forall_const, reduceCtorEq, Nat.zero_add, Nat.add_zero, Int.sub_zero, Int.cast_ofNat_Int, Int.reduceToNat, Nat.le_refl, Int.le_refl, Int.toNat_zero, Option.toArray_none, List.append_toArray, List.nil_append, List.append_nil, Nat.reduceAdd, Nat.reduceSub, Nat.reduceEqDiff, Nat.reduceLeDiff, Int.reduceLE, absI]
      refine callI_go TO (fun s' h' => HOps_go TO 100 h') (tp_inC (n := 17) (k := 32) (r := (0, 0)) rfl rfl hb2 (Nat.zero_le _) (by decide)) Tryd.func47 (by decide +kernel) rfl rfl rfl ⟨⟨rfl, rfl, by simp only [evO, constSV, gdP, gdPs, List.getD, List.getElem?_cons_zero, List.getElem?_cons_succ, Option.getD_some, and_self]⟩, ⟨rN b 32 (0, 0), rfl, trivial⟩, ?_⟩
      simp only [rdC, hov, pureOpC, unc, absRun, absOps, absOp, evO, ungd, gdP, gdPs, setD, T_ty, T_size, tTy, tSize, fieldOf, faddrV, pureOp, memOp, dataOf, arrAt, setA, blkAt, fnd, upd, Op.operands, Call.operands, List.getD, List.getElem?_cons_zero, List.getElem?_cons_succ, Option.getD_some, List.set, List.toList_toArray, Option.map_some, Option.map_none, true_and, and_self, if_true, if_false, ite_self, eq_self, ne_eq, not_false_eq_true, reduceCtorEq, Nat.zero_add, Nat.add_zero, Nat.le_refl, List.append_toArray, List.nil_append, Nat.reduceAdd, Nat.reduceSub, Nat.reduceEqDiff, Nat.reduceLeDiff, absI]
      generalize rN b 32 (0, 0) = r4 at *
      refine inC_ops TO 100 (tt_inC (n := 17) (r := r4) rfl hb hB h4) Tryd.func48 (by decide +kernel) rfl rfl rfl ⟨⟨rfl, rfl, by simp only [evO, gdP, gdPs, List.getD, List.getElem?_cons_zero, List.getElem?_cons_succ, Option.getD_some, and_self]⟩, ?_⟩
      have h5 := rT_le hB h4
      simp only [rdC, pureOpC, unc, absRun, absOps, absOp, evO, ungd, gdP, gdPs, setD, T_ty, T_size, tTy, tSize, fieldOf, faddrV, pureOp, memOp, scal, setC, blkAt, fnd, upd, Op.operands, List.getD, List.getElem?_cons_zero, List.getElem?_cons_succ, Option.getD_some, List.set, List.toList_toArray, Option.map_some, Option.map_none, true_and, and_self, if_true, if_false, eq_self, ne_eq, not_false_eq_true, reduceCtorEq, Nat.zero_add, Nat.add_zero, Nat.reduceAdd, Nat.reduceSub, Nat.reduceEqDiff, Nat.reduceLT, Nat.succ_ne_self]
      generalize rT b r4 = r5 at *
      refine inC_ops TO 100 (te_inC (n := 17) (r := r5) rfl hb2 hB h5) Tryd.func50 (by decide +kernel) rfl rfl rfl ⟨⟨rfl, rfl, by simp only [evO, gdP, gdPs, List.getD, List.getElem?_cons_zero, List.getElem?_cons_succ, Option.getD_some, and_self]⟩, ?_⟩
      rw [← eE]
      by_cases hE : gaE 1 b = 0
      · rw [eA hE]
        simp only [hE, rdC, Ask.svN, askZ, pureOpC, buildV, fillC, cntC, unc, absRun, absOps, absOp, evO, constSV, ungd, gdP, gdPs, setD, binI, binV, ptrE, T_ty, T_size, T_zero, tTy, tSize, tZero, fieldOf, faddrV, pureOp, memOp, loadV, scal, okC, takeC, dropC, blkAt, fnd, upd, Data.len, retP, resV, retQ, rAs, rA, rA0, rAl, ownN, nodup, bares, bare, bare0, bareL, bareD, Op.operands, List.getD, List.getElem?_cons_zero, List.getElem?_cons_succ, Option.getD_some, List.set, List.map, List.all, List.toList_toArray, Option.bind_some, Option.map_some, true_and, and_true, and_self, if_true, if_false, eq_self, ne_eq, not_false_eq_true, reduceCtorEq, Bool.false_eq_true, Nat.zero_add, Nat.add_zero, Int.reduceBNe, List.nil_append, List.append_nil, List.length_nil, Nat.reduceAdd, Nat.reduceSub, Nat.reduceEqDiff, Nat.reduceLeDiff, List.replicate_succ, List.replicate_zero, Bool.and_self, Nat.reduceBNe]
      · have hE' : (gaE 1 b != 0) = true := by simpa using hE
        rw [eA0 hE]
        simp only [hE', rdC, Ask.svN, askZ, pureOpC, buildV, fillC, cntC, unc, absRun, absOps, absOp, evO, constSV, ungd, gdP, gdPs, setD, binI, binV, ptrE, T_ty, T_size, T_zero, tTy, tSize, tZero, fieldOf, faddrV, pureOp, memOp, loadV, scal, okC, takeC, dropC, blkAt, fnd, upd, Data.len, retP, resV, retQ, rAs, rA, rA0, rAl, ownN, nodup, bares, bare, bare0, bareL, bareD, Op.operands, List.getD, List.getElem?_cons_zero, List.getElem?_cons_succ, Option.getD_some, List.set, List.map, List.all, List.toList_toArray, Option.bind_some, Option.map_some, true_and, and_true, and_self, if_true, if_false, eq_self, ne_eq, not_false_eq_true, reduceCtorEq, Nat.zero_add, Nat.add_zero, List.nil_append, List.append_nil, List.length_nil, Nat.reduceAdd, Nat.reduceSub, Nat.reduceEqDiff, Nat.reduceLeDiff, List.replicate_succ, List.replicate_zero, Bool.and_self, Nat.reduceBNe]
    have d1 : (c == 1) = false := by simpa using c1
    by_cases c3 : c = 3
    · subst c3
      have eA : gaE 3 b = 0 → gaA 3 b = { askZ with share := rS b (0, 0) } := fun h => by unfold gaA; rw [if_neg (by rw [h]; simp), if_neg (by decide), if_neg (by decide), if_pos rfl]
      have eR : gaR 3 b = rT b (0, 0) := rfl
      rw [eR] at eE
      simp only [if_true, if_false, eq_self, Bool.false_eq_true, Int.reduceBEq, beq_self_eq_true]
      refine inC_ops TO 100 (tt_inC (n := 17) (r := (0, 0)) rfl hb hB (Nat.zero_le _)) Tryd.func48 (by decide +kernel) rfl rfl rfl ⟨⟨rfl, rfl, by simp only [evO, gdP, gdPs, List.getD, List.getElem?_cons_zero, List.getElem?_cons_succ, Option.getD_some, and_self]⟩, ?_⟩
      have h5 := rT_le (r := (0, 0)) hB (Nat.zero_le _)
      simp only [rdC, pureOpC, unc, absRun, absOps, absOp, evO, ungd, gdP, gdPs, setD, T_ty, T_size, tTy, tSize, fieldOf, faddrV, pureOp, memOp, scal, setC, blkAt, fnd, upd, Op.operands, List.getD, List.getElem?_cons_zero, List.getElem?_cons_succ, Option.getD_some, List.set, List.toList_toArray, Option.map_some, Option.map_none, true_and, and_self, if_true, if_false, eq_self, ne_eq, not_false_eq_true, reduceCtorEq, Nat.zero_add, Nat.add_zero, Nat.reduceAdd, Nat.reduceSub, Nat.reduceEqDiff, Nat.reduceLT, Nat.succ_ne_self]
      generalize rT b (0, 0) = r5 at *
      refine inC_ops TO 100 (te_inC (n := 17) (r := r5) rfl hb2 hB h5) Tryd.func50 (by decide +kernel) rfl rfl rfl ⟨⟨rfl, rfl, by simp only [evO, gdP, gdPs, List.getD, List.getElem?_cons_zero, List.getElem?_cons_succ, Option.getD_some, and_self]⟩, ?_⟩
      rw [← eE]
      by_cases hE : gaE 3 b = 0
      · rw [eA hE]
        simp only [hE, rdC, Ask.svN, askZ, pureOpC, buildV, fillC, cntC, unc, absRun, absOps, absOp, evO, constSV, ungd, gdP, gdPs, setD, binI, binV, ptrE, T_ty, T_size, T_zero, tTy, tSize, tZero, fieldOf, faddrV, pureOp, memOp, loadV, scal, okC, takeC, dropC, blkAt, fnd, upd, Data.len, retP, resV, retQ, rAs, rA, rA0, rAl, ownN, nodup, bares, bare, bare0, bareL, bareD, Op.operands, List.getD, List.getElem?_cons_zero, List.getElem?_cons_succ, Option.getD_some, List.set, List.map, List.all, List.toList_toArray, Option.bind_some, Option.map_some, true_and, and_true, and_self, if_true, if_false, eq_self, ne_eq, not_false_eq_true, reduceCtorEq, Bool.false_eq_true, Nat.zero_add, Nat.add_zero, Int.reduceBNe, List.nil_append, List.append_nil, List.length_nil, Nat.reduceAdd, Nat.reduceSub, Nat.reduceEqDiff, Nat.reduceLeDiff, List.replicate_succ, List.replicate_zero, Bool.and_self, Nat.reduceBNe]
      · have hE' : (gaE 3 b != 0) = true := by simpa using hE
        rw [eA0 hE]
        simp only [hE', rdC, Ask.svN, askZ, pureOpC, buildV, fillC, cntC, unc, absRun, absOps, absOp, evO, constSV, ungd, gdP, gdPs, setD, binI, binV, ptrE, T_ty, T_size, T_zero, tTy, tSize, tZero, fieldOf, faddrV, pureOp, memOp, loadV, scal, okC, takeC, dropC, blkAt, fnd, upd, Data.len, retP, resV, retQ, rAs, rA, rA0, rAl, ownN, nodup, bares, bare, bare0, bareL, bareD, Op.operands, List.getD, List.getElem?_cons_zero, List.getElem?_cons_succ, Option.getD_some, List.set, List.map, List.all, List.toList_toArray, Option.bind_some, Option.map_some, true_and, and_true, and_self, if_true, if_false, eq_self, ne_eq, not_false_eq_true, reduceCtorEq, Nat.zero_add, Nat.add_zero, List.nil_append, List.append_nil, List.length_nil, Nat.reduceAdd, Nat.reduceSub, Nat.reduceEqDiff, Nat.reduceLeDiff, List.replicate_succ, List.replicate_zero, Bool.and_self, Nat.reduceBNe]
    have d3 : (c == 3) = false := by simpa using c3
    have eA : gaA c b = askZ := by
      unfold gaA
      rw [if_neg c0, if_neg c1, if_neg c3]
      simp
    have eR : gaR c b = rM b 4 0 5 (0, 0) := by unfold gaR; rw [if_neg c0, if_neg c1, if_neg c3]
    rw [eR] at eE
    simp only [d0, d1, d3, if_false, Bool.false_eq_true]
    refine inC_ops TO 100 (tz_inC (n := 17) (k := 4) (r := (0, 0)) rfl hb2 hB (Nat.zero_le _) rfl) Tryd.func49 (by decide +kernel) rfl rfl rfl ⟨⟨rfl, rfl, by simp only [evO, constSV, gdP, gdPs, List.getD, List.getElem?_cons_zero, List.getElem?_cons_succ, Option.getD_some, and_self]⟩, ?_⟩
    have hl := rM_le (b := b) (k := 4) (m := 0) (e := 5) (r := (0, 0)) (Nat.zero_le _)
    generalize rM b 4 0 5 (0, 0) = r at *
    simp only [rdC, pureOpC, unc, absRun, absOps, absOp, evO, ungd, gdP, gdPs, setD, T_ty, T_size, tTy, tSize, fieldOf, faddrV, pureOp, memOp, blkAt, fnd, upd, Op.operands, List.getD, List.getElem?_cons_zero, List.getElem?_cons_succ, Option.getD_some, List.set, List.toList_toArray, true_and, and_self, if_true, if_false, eq_self, ne_eq, not_false_eq_true, reduceCtorEq, Nat.add_zero, Nat.reduceAdd, Nat.reduceEqDiff]
    refine inC_ops TO 100 (te_inC (n := 17) (r := r) rfl hb2 hB hl) Tryd.func50 (by decide +kernel) rfl rfl rfl ⟨⟨rfl, rfl, by simp only [evO, gdP, gdPs, List.getD, List.getElem?_cons_zero, List.getElem?_cons_succ, Option.getD_some, and_self]⟩, ?_⟩
    rw [← eE, eA]
    by_cases hE : gaE c b = 0
    · simp only [hE, rdC, Ask.svN, askZ, pureOpC, buildV, fillC, cntC, unc, absRun, absOps, absOp, evO, constSV, ungd, gdP, gdPs, setD, binI, binV, ptrE, T_ty, T_size, T_zero, tTy, tSize, tZero, fieldOf, faddrV, pureOp, memOp, loadV, scal, okC, takeC, dropC, blkAt, fnd, upd, Data.len, retP, resV, retQ, rAs, rA, rA0, rAl, ownN, nodup, bares, bare, bare0, bareL, bareD, Op.operands, List.getD, List.getElem?_cons_zero, List.getElem?_cons_succ, Option.getD_some, List.set, List.map, List.all, List.toList_toArray, Option.bind_some, Option.map_some, and_self, if_true, if_false, ite_self, eq_self, ne_eq, not_false_eq_true, reduceCtorEq, Bool.false_eq_true, Nat.zero_add, Nat.add_zero, Int.reduceBNe, List.nil_append, List.append_nil, List.length_nil, Nat.reduceAdd, Nat.reduceSub, Nat.reduceEqDiff, Nat.reduceLeDiff, List.replicate_succ, List.replicate_zero, Bool.and_self, Nat.reduceBNe]
    · have hE' : (gaE c b != 0) = true := by simpa using hE
      simp only [hE', rdC, Ask.svN, askZ, pureOpC, buildV, fillC, cntC, unc, absRun, absOps, absOp, evO, constSV, ungd, gdP, gdPs, setD, binI, binV, ptrE, T_ty, T_size, T_zero, tTy, tSize, tZero, fieldOf, faddrV, pureOp, memOp, loadV, scal, okC, takeC, dropC, blkAt, fnd, upd, Data.len, retP, resV, retQ, rAs, rA, rA0, rAl, ownN, nodup, bares, bare, bare0, bareL, bareD, Op.operands, List.getD, List.getElem?_cons_zero, List.getElem?_cons_succ, Option.getD_some, List.set, List.map, List.all, List.toList_toArray, Option.bind_some, Option.map_some, true_and, and_true, and_self, if_true, if_false, eq_self, ne_eq, not_false_eq_true, reduceCtorEq, Nat.zero_add, Nat.add_zero, List.nil_append, List.append_nil, List.length_nil, Nat.reduceAdd, Nat.reduceSub, Nat.reduceEqDiff, Nat.reduceLeDiff, List.replicate_succ, List.replicate_zero, Bool.and_self, Nat.reduceBNe]


set_option maxHeartbeats 4000000 in
theorem GetSayN_meets (c : Int) (b : List Int) (hc : 0 ≤ c) (hb : b.length ≤ 140737488351232) (hB : Bytes b) : Meets Tryd.prog 20 [.v (.int .u16 c), .v (.view false (.ints .u8 b))] [.v ((gsS c b).svN), .v (.int .i64 (gsE c b))] := by
  have hK := known_meets c hc
  refine meets_go TO 100 Tryd.func20 rfl (fun X => ?_)
  simp only [Tryd.ntmps20, Tryd.results20, pureOpC, svs, blks, AV.sv, absRun, absOps, absOp, evO, constSV, ungd, gdP, gdPs, setD, T_size, T_zero, tSize, tZero, pureOp, memOp, newV, notIn, upd, Lim.add, Op.operands, List.getD, List.getElem?_cons_zero, Option.getD_some, List.set, List.toList_toArray, true_and, and_self, ne_eq, not_false_eq_true, reduceCtorEq, Nat.zero_add, List.cons_append, List.nil_append, List.length_cons, List.length_nil, Nat.reduceAdd, Nat.reduceSub, List.replicate_succ, List.replicate_zero]
  refine call_go TO 100 hK Tryd.func38 (by decide +kernel) rfl rfl rfl ?_
  cases hk : knB c with
  | false =>
    have e1 : gsE c b = 2 := by unfold gsE; rw [if_neg (by rw [hk]; decide)]
    rw [e1, gs_zero (by rw [e1]; decide)]
    simp only [Say.svN, sayZ, pureOpC, buildV, fillC, cntC, unc, absRun, absOps, absOp, evO, constSV, ungd, gdP, gdPs, setD, binI, binV, ptrE, unV, T_ty, T_size, T_zero, tTy, tSize, tZero, fieldOf, faddrV, pureOp, memOp, loadV, newV, notIn, scal, cellsOf, okC, takeC, dropC, blkAt, fnd, upd, Lim.add, retP, resV, retQ, rAs, rA, rA0, rAl, ownN, nodup, bares, bare, bare0, bareL, guardIs, callP, callS, argS, mAs, mA, mA0, mB0, allNotIn, impN, impB, impT, packS, delL, Op.operands, List.getD, List.getElem?_cons_zero, List.getElem?_cons_succ, Option.getD_some, List.set, List.map, List.all, List.toList_toArray, Option.bind_some, Option.map_some, true_and, and_self, if_true, if_false, eq_self, ne_eq, not_false_eq_true, reduceCtorEq, Nat.zero_add, Nat.add_zero, List.cons_append, List.nil_append, List.append_nil, Nat.reduceAdd, Nat.reduceSub, Nat.reduceEqDiff, Nat.reduceLeDiff, Bool.not_false, List.replicate_succ, List.replicate_zero, Bool.and_self, Nat.reduceBNe]
  | true =>
    simp only [pureOpC, buildV, fillC, cntC, unc, absRun, absOps, absOp, evO, constSV, ungd, gdP, gdPs, setD, binI, binV, ptrE, unV, T_ty, T_size, T_zero, tTy, tSize, tZero, fieldOf, faddrV, pureOp, memOp, loadV, newV, notIn, scal, cellsOf, okC, takeC, dropC, blkAt, fnd, upd, Data.len, Data.esz, Lim.add, retP, resV, retQ, rAs, rA, rA0, ownN, nodup, bares, bare, bare0, bareD, guardIs, callP, callS, argS, mAs, mA, mA0, mB0, allNotIn, impN, impB, impT, packS, delL, Op.operands, List.getD, List.getElem?_cons_zero, List.getElem?_cons_succ, Option.getD_some, List.set, List.map, List.all, List.toList_toArray, Option.bind_some, Option.map_some, true_and, and_true, and_self, if_true, if_false, eq_self, ne_eq, not_false_eq_true, reduceCtorEq, Bool.false_eq_true, Nat.zero_add, Nat.add_zero, List.cons_append, List.nil_append, List.append_nil, Nat.reduceAdd, Nat.reduceSub, Nat.reduceEqDiff, Nat.reduceLeDiff, Bool.not_true, List.replicate_succ, List.replicate_zero, Bool.and_true, Bool.and_self, Nat.reduceBNe]
    have eE : gsE c b = rEnd b (gsR c b) := by unfold gsE; rw [if_pos hk]
    by_cases c0 : c = 0
    rotate_left
    · have d0 : (c == 0) = false := by simpa using c0
      have eR : gsR c b = rM b 4 0 5 (0, 0) := by unfold gsR; rw [if_neg c0]
      have eS : gsS c b = sayZ := by unfold gsS; rw [if_neg (fun h => c0 h.2)]
      rw [eR] at eE
      simp only [d0, if_false, Bool.false_eq_true]
      refine inC_ops TO 100 (tz_inC (n := 15) (k := 4) (r := (0, 0)) rfl hb hB (Nat.zero_le _) rfl) Tryd.func49 (by decide +kernel) rfl rfl rfl ⟨⟨rfl, rfl, by simp only [evO, constSV, gdP, gdPs, List.getD, List.getElem?_cons_zero, List.getElem?_cons_succ, Option.getD_some, and_self]⟩, ?_⟩
      have hl := rM_le (b := b) (k := 4) (m := 0) (e := 5) (r := (0, 0)) (Nat.zero_le _)
      generalize rM b 4 0 5 (0, 0) = r at *
      simp only [rdC, pureOpC, unc, absRun, absOps, absOp, evO, ungd, gdP, gdPs, setD, T_ty, T_size, tTy, tSize, fieldOf, faddrV, pureOp, memOp, blkAt, fnd, upd, Op.operands, List.getD, List.getElem?_cons_zero, List.getElem?_cons_succ, Option.getD_some, List.set, List.toList_toArray, true_and, and_self, if_true, if_false, eq_self, ne_eq, not_false_eq_true, reduceCtorEq, Nat.add_zero, Nat.reduceAdd, Nat.reduceEqDiff]
      refine inC_ops TO 100 (te_inC (n := 15) (r := r) rfl hb hB hl) Tryd.func50 (by decide +kernel) rfl rfl rfl ⟨⟨rfl, rfl, by simp only [evO, gdP, gdPs, List.getD, List.getElem?_cons_zero, List.getElem?_cons_succ, Option.getD_some, and_self]⟩, ?_⟩
      rw [← eE, eS]
      by_cases hE : gsE c b = 0
      · simp only [hE, rdC, Say.svN, sayZ, pureOpC, buildV, fillC, cntC, unc, absRun, absOps, absOp, evO, constSV, ungd, gdP, gdPs, setD, binI, binV, ptrE, T_ty, T_size, T_zero, tTy, tSize, tZero, fieldOf, faddrV, pureOp, memOp, loadV, scal, okC, takeC, dropC, blkAt, fnd, upd, retP, resV, retQ, rAs, rA, rA0, rAl, ownN, nodup, bares, bare, bare0, bareL, Op.operands, List.getD, List.getElem?_cons_zero, List.getElem?_cons_succ, Option.getD_some, List.set, List.map, List.all, List.toList_toArray, Option.bind_some, Option.map_some, and_self, if_true, if_false, ite_self, eq_self, ne_eq, not_false_eq_true, reduceCtorEq, Bool.false_eq_true, Nat.zero_add, Nat.add_zero, Int.reduceBNe, List.nil_append, List.append_nil, Nat.reduceAdd, Nat.reduceSub, Nat.reduceEqDiff, Nat.reduceLeDiff, List.replicate_succ, List.replicate_zero, Bool.and_self, Nat.reduceBNe]
      · have hE' : (gsE c b != 0) = true := by simpa using hE
        simp only [hE', rdC, Say.svN, sayZ, pureOpC, buildV, fillC, cntC, unc, absRun, absOps, absOp, evO, constSV, ungd, gdP, gdPs, setD, binI, binV, ptrE, T_ty, T_size, T_zero, tTy, tSize, tZero, fieldOf, faddrV, pureOp, memOp, loadV, scal, okC, takeC, dropC, blkAt, fnd, upd, retP, resV, retQ, rAs, rA, rA0, rAl, ownN, nodup, bares, bare, bare0, bareL, Op.operands, List.getD, List.getElem?_cons_zero, List.getElem?_cons_succ, Option.getD_some, List.set, List.map, List.all, List.toList_toArray, Option.bind_some, Option.map_some, true_and, and_true, and_self, if_true, if_false, eq_self, ne_eq, not_false_eq_true, reduceCtorEq, Nat.zero_add, Nat.add_zero, List.nil_append, List.append_nil, Nat.reduceAdd, Nat.reduceSub, Nat.reduceEqDiff, Nat.reduceLeDiff, List.replicate_succ, List.replicate_zero, Bool.and_self, Nat.reduceBNe]
    subst c0
    have eR : gsR 0 b = rN b 8 (rN b 4 (rM b 2 0 5 (rN b 2 (0, 0)))) := rfl
    have eS : gsS 0 b = if gsE 0 b = 0 then { sayZ with dialect := rV b 2 (0, 0), size := rV b 4 (rM b 2 0 5 (rN b 2 (0, 0))), challenge := padA 8 (rP b 8 (rN b 4 (rM b 2 0 5 (rN b 2 (0, 0))))) } else sayZ := by
      unfold gsS; by_cases h : gsE 0 b = 0 <;> simp [h]
    rw [eR] at eE
    simp only [if_true, eq_self, beq_self_eq_true]
    refine inC_ops TO 100 (tn_inC (n := 15) (k := 2) (r := (0, 0)) rfl hb hB (Nat.zero_le _) rfl) Tryd.func46 (by decide +kernel) rfl rfl rfl ⟨⟨rfl, rfl, by simp only [evO, constSV, gdP, gdPs, List.getD, List.getElem?_cons_zero, List.getElem?_cons_succ, Option.getD_some, and_self]⟩, ?_⟩
    have h1 := rN_le (b := b) (k := 2) (r := (0, 0)) (Nat.zero_le _)
    have v1 := rV_lt b 2 (0, 0) hB
    have w1 : IntKind.u16.wrap (rV b 2 (0, 0)) = rV b 2 (0, 0) := by rw [IntKind.wrap_u16]; omega
    simp only [rdC, w1, pureOpC, unc, absRun, absOps, absOp, evO, ungd, gdP, gdPs, setD, convV, T_ty, T_size, tTy, tSize, fieldOf, faddrV, pureOp, memOp, scal, known, setC, blkAt, fnd, upd, Op.operands, List.getD, List.getElem?_cons_zero, List.getElem?_cons_succ, Option.getD_some, List.set, List.toList_toArray, Option.map_some, Option.map_none, true_and, and_self, if_true, if_false, eq_self, ne_eq, not_false_eq_true, reduceCtorEq, Nat.zero_add, Nat.add_zero, Nat.reduceAdd, Nat.reduceSub, Nat.reduceEqDiff, Nat.reduceLT, Nat.succ_ne_self]
    generalize rN b 2 (0, 0) = r1 at *
    generalize rV b 2 (0, 0) = d at *
    refine inC_ops TO 100 (tz_inC (n := 15) (k := 2) (r := r1) rfl hb hB h1 rfl) Tryd.func49 (by decide +kernel) rfl rfl rfl ⟨⟨rfl, rfl, by simp only [evO, constSV, gdP, gdPs, List.getD, List.getElem?_cons_zero, List.getElem?_cons_succ, Option.getD_some, and_self]⟩, ?_⟩
    have h2 := rM_le (b := b) (k := 2) (m := 0) (e := 5) (r := r1) h1
    simp only [rdC, pureOpC, unc, absRun, absOps, absOp, evO, ungd, gdP, gdPs, setD, T_ty, T_size, tTy, tSize, fieldOf, faddrV, pureOp, memOp, blkAt, fnd, upd, Op.operands, List.getD, List.getElem?_cons_zero, List.getElem?_cons_succ, Option.getD_some, List.set, List.toList_toArray, true_and, and_self, if_true, if_false, eq_self, ne_eq, not_false_eq_true, reduceCtorEq, Nat.add_zero, Nat.reduceAdd, Nat.reduceEqDiff]
    generalize rM b 2 0 5 r1 = r2 at *
    refine inC_ops TO 100 (tn_inC (n := 15) (k := 4) (r := r2) rfl hb hB h2 rfl) Tryd.func46 (by decide +kernel) rfl rfl rfl ⟨⟨rfl, rfl, by simp only [evO, constSV, gdP, gdPs, List.getD, List.getElem?_cons_zero, List.getElem?_cons_succ, Option.getD_some, and_self]⟩, ?_⟩
    have h3 := rN_le (b := b) (k := 4) (r := r2) h2
    simp only [rdC, pureOpC, unc, absRun, absOps, absOp, evO, ungd, gdP, gdPs, setD, T_ty, T_size, tTy, tSize, fieldOf, faddrV, pureOp, memOp, scal, setC, blkAt, fnd, upd, Op.operands, List.getD, List.getElem?_cons_zero, List.getElem?_cons_succ, Option.getD_some, List.set, List.toList_toArray, Option.map_some, Option.map_none, true_and, and_self, if_true, if_false, eq_self, ne_eq, not_false_eq_true, reduceCtorEq, Nat.zero_add, Nat.reduceAdd, Nat.reduceSub, Nat.reduceEqDiff, Nat.reduceLT, Nat.succ_ne_self]
    generalize rN b 4 r2 = r3 at *
    generalize rV b 4 r2 = sz at *
    have hov : overI [0, 0, 0, 0, 0, 0, 0, 0] 0 8 (rP b 8 r3) = padA 8 (rP b 8 r3) := over_pad (rP_len b 8 r3)
    have h4 := rN_le (b := b) (k := 8) (r := r3) h3
    refine drawI_go TO (fun y : Nat × Int => [(15, 4, .cells [.view false (.ints .u8 b), .int .i64 y.1, .int .i64 y.2, .int .u16 d, .int .u64 sz, .arr .u8 8 [0, 0, 0, 0, 0, 0, 0, 0], .int .u8 0, .int .u8 0, .int .u16 0, .int .u64 0, .int .u8 0, .nil, .int .u32 0, .nil, .bool false, .bool false])]) 9 100 mixed_ok (by decide +kernel) ⟨⟨r3, rfl, trivial⟩, ?_⟩
    simp only [List.take_succ_cons, List.take_zero, List.drop_succ_cons, List.drop_zero, pureOpC, unc, isEff, pureStep, absRun, absOps, absOp, evO, constSV, ungd, gdP, gdPs, setD, T_ty, T_size, tTy, tSize, fieldOf, faddrV, lowI, highI, maxP, sliceV, pureOp, memOp, dataOf, nilD, arrAt, blkAt, fnd, Data.len, Data.esz, Data.sub, Op.operands, Call.operands, List.getD, List.getElem?_cons_zero, List.getElem?_cons_succ, Option.getD_some, List.set, List.toList_toArray, Option.map_none, true_and, and_true, and_self, implies_true, if_true, if_false, ite_self, eq_self, ne_eq, not_false_eq_true, forall_const, reduceCtorEq, Nat.zero_add, Nat.add_zero, Int.sub_zero, Int.cast_ofNat_Int, Int.reduceToNat, Int.le_refl, Int.toNat_zero, Option.toArray_none, List.append_toArray, List.nil_append, List.append_nil, Nat.reduceAdd, Nat.reduceSub, Nat.reduceEqDiff, Nat.reduceLeDiff, Nat.succ_ne_self, Int.reduceLE, absI]
    refine callI_go TO (fun s' h' => HOps_go TO 100 h') (tp_inC (n := 15) (k := 8) (r := r3) rfl rfl hb h3 (by decide)) Tryd.func47 (by decide +kernel) rfl rfl rfl ⟨⟨rfl, rfl, by simp only [evO, constSV, gdP, gdPs, List.getD, List.getElem?_cons_zero, List.getElem?_cons_succ, Option.getD_some, and_self]⟩, ⟨rN b 8 r3, rfl, trivial⟩, ?_⟩
    simp only [rdC, hov, pureOpC, unc, absRun, absOps, absOp, evO, ungd, gdP, gdPs, setD, T_ty, T_size, tTy, tSize, fieldOf, faddrV, pureOp, memOp, dataOf, arrAt, setA, blkAt, fnd, upd, Op.operands, Call.operands, List.getD, List.getElem?_cons_zero, List.getElem?_cons_succ, Option.getD_some, List.set, List.toList_toArray, Option.map_some, Option.map_none, true_and, and_self, if_true, if_false, ite_self, eq_self, ne_eq, not_false_eq_true, reduceCtorEq, Nat.zero_add, Nat.add_zero, Nat.le_refl, List.append_toArray, List.nil_append, Nat.reduceAdd, Nat.reduceSub, Nat.reduceEqDiff, Nat.reduceLeDiff, Nat.succ_ne_self, absI]
    generalize rN b 8 r3 = r4 at *
    refine inC_ops TO 100 (te_inC (n := 15) (r := r4) rfl hb hB h4) Tryd.func50 (by decide +kernel) rfl rfl rfl ⟨⟨rfl, rfl, by simp only [evO, gdP, gdPs, List.getD, List.getElem?_cons_zero, List.getElem?_cons_succ, Option.getD_some, and_self]⟩, ?_⟩
    rw [← eE, eS]
    by_cases hE : gsE 0 b = 0
    · simp only [hE, rdC, Say.svN, sayZ, pureOpC, buildV, fillC, cntC, unc, absRun, absOps, absOp, evO, constSV, ungd, gdP, gdPs, setD, binI, binV, ptrE, T_ty, T_size, T_zero, tTy, tSize, tZero, fieldOf, faddrV, pureOp, memOp, loadV, scal, okC, takeC, dropC, blkAt, fnd, upd, retP, resV, retQ, rAs, rA, rA0, rAl, ownN, nodup, bares, bare, bare0, bareL, Op.operands, List.getD, List.getElem?_cons_zero, List.getElem?_cons_succ, Option.getD_some, List.set, List.map, List.all, List.toList_toArray, Option.bind_some, Option.map_some, true_and, and_true, and_self, if_true, if_false, eq_self, ne_eq, not_false_eq_true, reduceCtorEq, Bool.false_eq_true, Nat.zero_add, Nat.add_zero, Int.reduceBNe, List.nil_append, List.append_nil, Nat.reduceAdd, Nat.reduceSub, Nat.reduceEqDiff, Nat.reduceLeDiff, List.replicate_succ, List.replicate_zero, Bool.and_self, Nat.reduceBNe]
    · have hE' : (gsE 0 b != 0) = true := by simpa using hE
      simp only [hE', if_neg hE, rdC, Say.svN, sayZ, pureOpC, buildV, fillC, cntC, unc, absRun, absOps, absOp, evO, constSV, ungd, gdP, gdPs, setD, binI, binV, ptrE, T_ty, T_size, T_zero, tTy, tSize, tZero, fieldOf, faddrV, pureOp, memOp, loadV, scal, okC, takeC, dropC, blkAt, fnd, upd, retP, resV, retQ, rAs, rA, rA0, rAl, ownN, nodup, bares, bare, bare0, bareL, Op.operands, List.getD, List.getElem?_cons_zero, List.getElem?_cons_succ, Option.getD_some, List.set, List.map, List.all, List.toList_toArray, Option.bind_some, Option.map_some, true_and, and_true, and_self, if_true, if_false, eq_self, ne_eq, not_false_eq_true, reduceCtorEq, Nat.zero_add, Nat.add_zero, List.nil_append, List.append_nil, Nat.reduceAdd, Nat.reduceSub, Nat.reduceEqDiff, Nat.reduceLeDiff, List.replicate_succ, List.replicate_zero, Bool.and_self, Nat.reduceBNe]


end Go.Proofs.YtfohefgpchbgkaaDoor.Abs
