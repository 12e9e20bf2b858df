/- What the document's GetSay answers. -/
import Derived.Test.YtfohefgpchbgkaaDoorUB
set_option linter.unusedVariables false
set_option linter.unusedSimpArgs false
set_option maxRecDepth 100000
namespace Go.Proofs.YtfohefgpchbgkaaDoor.Abs
open Go Go.Proofs

theorem fill_step {n : Nat} {p : List Int} {i : Nat} (hi : i < p.length) (hp : p.length ≤ n) : (p.take i ++ List.replicate (n - i) 0).set i (p[i]?.getD 0) = p.take (i + 1) ++ List.replicate (n - (i + 1)) 0 := by
  have hl : (p.take i).length = i := by rw [List.length_take]; omega
  rw [List.set_append_right _ _ (by omega), hl, Nat.sub_self, show n - i = (n - (i + 1)) + 1 by omega, List.replicate_succ, List.set_cons_zero, List.take_add_one, List.getElem?_eq_getElem hi]
  simp only [Option.toList_some, Option.getD_some, List.append_assoc, List.cons_append, List.nil_append]

set_option maxHeartbeats 4000000 in
theorem rGetSay_meets (c : Int) (b : List Int) (hc : 0 ≤ c) (hb : b.length ≤ 140737488351232) (hB : Bytes b) : Meets Tryd.prog 21 [.v (.int .u16 c), .v (.view false (.ints .u8 b))] [.v ((gsS c b).sv true), .v (.int .i64 (gsE c b))] := by
  have hK := Known_meets c hc
  refine meets_go TO 100 Tryd.func21 rfl (fun X => ?_)
  simp only [Tryd.ntmps21, Tryd.results21, pureOpC, svs, blks, AV.sv, absRun, absOps, absOp, evO, constSV, ungd, gdP, gdPs, setD, T_size, T_zero, tSize, tZero, pureOp, memOp, newV, notIn, upd, Lim.add, Op.operands, List.getD, List.getElem?_cons_zero, Option.getD_some, List.set, List.toList_toArray, true_and, and_self, ne_eq, not_false_eq_true, reduceCtorEq, Nat.zero_add, List.cons_append, List.nil_append, List.length_cons, List.length_nil, Nat.reduceAdd, Nat.reduceSub, List.replicate_succ, List.replicate_zero]
  refine call_go TO 100 hK Tryd.func42 (by decide +kernel) rfl rfl rfl ?_
  cases hk : knB c with
  | false =>
    have e1 : gsE c b = 2 := by unfold gsE; rw [if_neg (by rw [hk]; decide)]
    rw [e1, gs_zero (by rw [e1]; decide)]
    simp only [Say.sv, Say.cells, sayZ, pureOpC, buildV, fillC, cntC, unc, absRun, absOps, absOp, evO, constSV, ungd, gdP, gdPs, setD, binI, binV, ptrE, unV, T_ty, T_size, T_zero, tTy, tSize, tZero, fieldOf, pureOp, memOp, loadV, newV, notIn, scal, cellsOf, okC, takeC, dropC, blkAt, fnd, upd, Data.len, Lim.add, retP, resV, retQ, rAs, rA, rA0, rAl, ownN, nodup, bares, bare, bare0, bareL, bareD, guardIs, callP, callS, argS, mAs, mA, mA0, mB0, allNotIn, impN, impB, impT, packS, delL, Op.operands, List.getD, List.getElem?_cons_zero, List.getElem?_cons_succ, Option.getD_some, List.set, List.map, List.all, List.toList_toArray, Option.bind_some, Option.map_some, true_and, and_self, if_true, if_false, eq_self, ne_eq, not_false_eq_true, reduceCtorEq, Nat.zero_add, Nat.add_zero, List.cons_append, List.nil_append, List.append_nil, List.length_nil, Nat.reduceAdd, Nat.reduceSub, Nat.reduceEqDiff, Nat.reduceLeDiff, Bool.not_false, List.replicate_succ, List.replicate_zero, Bool.and_self, Nat.reduceBNe]
  | true =>
    simp only [pureOpC, buildV, fillC, cntC, unc, absRun, absOps, absOp, evO, constSV, ungd, gdP, gdPs, setD, binI, binV, ptrE, unV, T_ty, T_size, T_zero, tTy, tSize, tZero, fieldOf, pureOp, memOp, loadV, newV, notIn, scal, cellsOf, okC, takeC, dropC, blkAt, fnd, upd, Data.len, Data.esz, Lim.add, retP, resV, retQ, rAs, rA, rA0, ownN, nodup, bares, bare, bare0, bareD, guardIs, callP, callS, argS, mAs, mA, mA0, mB0, allNotIn, impN, impB, impT, packS, delL, Op.operands, List.getD, List.getElem?_cons_zero, List.getElem?_cons_succ, Option.getD_some, List.set, List.map, List.all, List.toList_toArray, Option.bind_some, Option.map_some, true_and, and_true, and_self, if_true, if_false, eq_self, ne_eq, not_false_eq_true, reduceCtorEq, Bool.false_eq_true, Nat.zero_add, Nat.add_zero, List.cons_append, List.nil_append, List.append_nil, Nat.reduceAdd, Nat.reduceSub, Nat.reduceEqDiff, Nat.reduceLeDiff, Bool.not_true, List.replicate_succ, List.replicate_zero, Bool.and_true, Bool.and_self, Nat.reduceBNe]
    have eE : gsE c b = rEnd b (gsR c b) := by unfold gsE; rw [if_pos hk]
    by_cases c0 : c = 0
    rotate_left
    · have d0 : (c == 0) = false := by simpa using c0
      have eR : gsR c b = rM b 4 0 5 (0, 0) := by unfold gsR; rw [if_neg c0]
      have eS : gsS c b = sayZ := by unfold gsS; rw [if_neg (fun h => c0 h.2)]
      rw [eR] at eE
      simp only [d0, if_false, Bool.false_eq_true]
      refine inC_ops TO 100 (rm_inC (n := 17) (k := 4) (r := (0, 0)) rfl hb hB (Nat.zero_le _) rfl) Tryd.func51 (by decide +kernel) rfl rfl rfl ⟨⟨rfl, rfl, by simp only [evO, constSV, gdP, gdPs, List.getD, List.getElem?_cons_zero, List.getElem?_cons_succ, Option.getD_some, and_self]⟩, ?_⟩
      have hl := rM_le (b := b) (k := 4) (m := 0) (e := 5) (r := (0, 0)) (Nat.zero_le _)
      generalize rM b 4 0 5 (0, 0) = r at *
      simp only [rdC, pureOpC, absRun, absOps, absOp, evO, ungd, gdP, gdPs, setD, pureOp, memOp, upd, Op.operands, List.getD, List.getElem?_cons_zero, List.getElem?_cons_succ, Option.getD_some, List.set, List.toList_toArray, true_and, and_self, if_true, if_false, eq_self, Nat.reduceAdd, Nat.reduceEqDiff]
      refine inC_ops TO 100 (re_inC (n := 17) (r := r) rfl hb hB hl) Tryd.func55 (by decide +kernel) rfl rfl rfl ⟨⟨rfl, rfl, by simp only [evO, gdP, gdPs, List.getD, List.getElem?_cons_zero, List.getElem?_cons_succ, Option.getD_some, and_self]⟩, ?_⟩
      rw [← eE, eS]
      by_cases hE : gsE c b = 0
      · simp only [hE, rdC, Say.sv, Say.cells, sayZ, pureOpC, buildV, fillC, cntC, unc, absRun, absOps, absOp, evO, constSV, ungd, gdP, gdPs, setD, binI, binV, ptrE, T_ty, T_size, T_zero, tTy, tSize, tZero, pureOp, memOp, loadV, scal, okC, takeC, dropC, blkAt, fnd, upd, Data.len, retP, resV, retQ, rAs, rA, rA0, rAl, ownN, nodup, bares, bare, bare0, bareL, bareD, Op.operands, List.getD, List.getElem?_cons_zero, List.getElem?_cons_succ, Option.getD_some, List.set, List.map, List.all, List.toList_toArray, Option.bind_some, Option.map_some, and_self, if_true, if_false, ite_self, eq_self, ne_eq, not_false_eq_true, reduceCtorEq, Bool.false_eq_true, Nat.zero_add, Nat.add_zero, Int.reduceBNe, List.nil_append, List.append_nil, List.length_nil, Nat.reduceAdd, Nat.reduceSub, Nat.reduceEqDiff, Nat.reduceLeDiff, List.replicate_succ, List.replicate_zero, Bool.and_self, Nat.reduceBNe]
      · have hE' : (gsE c b != 0) = true := by simpa using hE
        simp only [hE', rdC, Say.sv, Say.cells, sayZ, pureOpC, buildV, fillC, cntC, unc, absRun, absOps, absOp, evO, constSV, ungd, gdP, gdPs, setD, binI, binV, ptrE, T_ty, T_size, T_zero, tTy, tSize, tZero, pureOp, memOp, loadV, scal, okC, takeC, dropC, blkAt, fnd, upd, Data.len, retP, resV, retQ, rAs, rA, rA0, rAl, ownN, nodup, bares, bare, bare0, bareL, bareD, Op.operands, List.getD, List.getElem?_cons_zero, List.getElem?_cons_succ, Option.getD_some, List.set, List.map, List.all, List.toList_toArray, Option.bind_some, Option.map_some, true_and, and_true, and_self, if_true, if_false, eq_self, ne_eq, not_false_eq_true, reduceCtorEq, Nat.zero_add, Nat.add_zero, List.nil_append, List.append_nil, List.length_nil, Nat.reduceAdd, Nat.reduceSub, Nat.reduceEqDiff, Nat.reduceLeDiff, List.replicate_succ, List.replicate_zero, Bool.and_self, Nat.reduceBNe]
    subst c0
    have eR : gsR 0 b = rN b 8 (rN b 4 (rM b 2 0 5 (rN b 2 (0, 0)))) := rfl
    have eS : gsS 0 b = if gsE 0 b = 0 then { sayZ with dialect := rV b 2 (0, 0), size := rV b 4 (rM b 2 0 5 (rN b 2 (0, 0))), challenge := padA 8 (rP b 8 (rN b 4 (rM b 2 0 5 (rN b 2 (0, 0))))) } else sayZ := by
      unfold gsS; by_cases h : gsE 0 b = 0 <;> simp [h]
    rw [eR] at eE
    simp only [if_true, eq_self, beq_self_eq_true]
    refine inC_ops TO 100 (rn_inC (n := 17) (k := 2) (r := (0, 0)) rfl hb hB (Nat.zero_le _) rfl) Tryd.func52 (by decide +kernel) rfl rfl rfl ⟨⟨rfl, rfl, by simp only [evO, constSV, gdP, gdPs, List.getD, List.getElem?_cons_zero, List.getElem?_cons_succ, Option.getD_some, and_self]⟩, ?_⟩
    have h1 := rN_le (b := b) (k := 2) (r := (0, 0)) (Nat.zero_le _)
    have v1 := rV_lt b 2 (0, 0) hB
    have w1 : IntKind.u16.wrap (rV b 2 (0, 0)) = rV b 2 (0, 0) := by rw [IntKind.wrap_u16]; omega
    simp only [rdC, w1, pureOpC, unc, absRun, absOps, absOp, evO, ungd, gdP, gdPs, setD, convV, T_ty, T_size, tTy, tSize, fieldOf, faddrV, pureOp, memOp, scal, known, setC, blkAt, fnd, upd, Op.operands, List.getD, List.getElem?_cons_zero, List.getElem?_cons_succ, Option.getD_some, List.set, List.toList_toArray, Option.map_some, Option.map_none, true_and, and_self, if_true, if_false, eq_self, ne_eq, not_false_eq_true, reduceCtorEq, Nat.add_zero, Nat.reduceAdd, Nat.reduceSub, Nat.reduceEqDiff, Nat.reduceLT, Nat.succ_ne_self]
    generalize rN b 2 (0, 0) = r1 at *
    generalize rV b 2 (0, 0) = d at *
    refine inC_ops TO 100 (rm_inC (n := 17) (k := 2) (r := r1) rfl hb hB h1 rfl) Tryd.func51 (by decide +kernel) rfl rfl rfl ⟨⟨rfl, rfl, by simp only [evO, constSV, gdP, gdPs, List.getD, List.getElem?_cons_zero, List.getElem?_cons_succ, Option.getD_some, and_self]⟩, ?_⟩
    have h2 := rM_le (b := b) (k := 2) (m := 0) (e := 5) (r := r1) h1
    simp only [rdC, pureOpC, absRun, absOps, absOp, evO, ungd, gdP, gdPs, setD, pureOp, memOp, upd, Op.operands, List.getD, List.getElem?_cons_zero, List.getElem?_cons_succ, Option.getD_some, List.set, List.toList_toArray, true_and, and_self, if_true, if_false, eq_self, Nat.reduceAdd, Nat.reduceEqDiff]
    generalize rM b 2 0 5 r1 = r2 at *
    refine inC_ops TO 100 (rn_inC (n := 17) (k := 4) (r := r2) rfl hb hB h2 rfl) Tryd.func52 (by decide +kernel) rfl rfl rfl ⟨⟨rfl, rfl, by simp only [evO, constSV, gdP, gdPs, List.getD, List.getElem?_cons_zero, List.getElem?_cons_succ, Option.getD_some, and_self]⟩, ?_⟩
    have h3 := rN_le (b := b) (k := 4) (r := r2) h2
    simp only [rdC, pureOpC, unc, absRun, absOps, absOp, evO, ungd, gdP, gdPs, setD, T_ty, T_size, tTy, tSize, fieldOf, faddrV, pureOp, memOp, scal, setC, blkAt, fnd, upd, Op.operands, List.getD, List.getElem?_cons_zero, List.getElem?_cons_succ, Option.getD_some, List.set, List.toList_toArray, Option.map_some, Option.map_none, true_and, and_self, if_true, if_false, eq_self, ne_eq, not_false_eq_true, reduceCtorEq, Nat.zero_add, Nat.reduceAdd, Nat.reduceSub, Nat.reduceEqDiff, Nat.reduceLT, Nat.succ_ne_self]
    generalize rN b 4 r2 = r3 at *
    generalize rV b 4 r2 = sz at *
    have hpl := rP_len b 8 r3
    have h4 := rN_le (b := b) (k := 8) (r := r3) h3
    refine inC_ops TO 100 (rp_inC (n := 17) (k := 8) (r := r3) rfl rfl hb h3 (by decide)) Tryd.func53 (by decide +kernel) rfl rfl rfl ⟨⟨rfl, rfl, by simp only [evO, constSV, gdP, gdPs, List.getD, List.getElem?_cons_zero, List.getElem?_cons_succ, Option.getD_some, and_self]⟩, ?_⟩
    simp only [rdC, pureOpC, absRun, absOps, absOp, evO, constSV, ungd, gdP, gdPs, setD, upd, Op.operands, List.getD, List.getElem?_cons_zero, List.getElem?_cons_succ, Option.getD_some, List.set, List.toList_toArray, true_and, and_self, if_true, if_false, eq_self, Nat.reduceAdd, Nat.reduceEqDiff]
    generalize rP b 8 r3 = p at *
    generalize rN b 8 r3 = r4 at *
    refine loop_up (fun x : Nat × Nat => x.1 ≤ p.length)
      (fun x => ⟨tl 53 0 [(0, .int .u16 0), (4, .ptr 4 2 0), (6, .ptr 17 4 0), (7, .ptr 7 5 0), (8, .view true (.ints .u8 p)), (9, .int .i64 x.1)], [(4, 2, .cells [.int .u16 0, .int .u64 0, .arr .u8 8 [0, 0, 0, 0, 0, 0, 0, 0], .int .u8 0, .int .u8 0, .int .u16 0, .int .u64 0, .int .u8 0, .nil, .int .u32 0, .nil, .bool false, .bool false]),
        (17, 4, rdC b r4 []), (7, 5, .cells [.int .u16 d, .int .u64 sz, .arr .u8 8 (p.take x.1 ++ List.replicate (8 - x.1) 0), .int .u8 0, .int .u8 0, .int .u16 0, .int .u64 0, .int .u8 0, .nil, .int .u32 0, .nil, .bool false, .bool false])], ⟨x.2, [], 0⟩⟩) (fun x => p.length - x.1) (0, _) (Nat.zero_le _) ⟨rfl, ?_, ?_⟩ ?_
    · simp [LeT, tl]
    · intro m x hx
      simpa [fnd, rdC] using hx
    rintro ⟨i, c⟩ hi ih
    simp only at hi
    refine absRun_ok TO 100 _ _ ?_
    simp only [rdC, pureOpC, unc, absRun, absOps, absOp, evO, constSV, ungd, gdP, gdPs, setD, binI, binV, ptrE, T_ty, T_size, tTy, tSize, fieldOf, faddrV, iaddrV, pureOp, memOp, lenV, loadV, arrAt, setA, blkAt, fnd, upd, elemV, Data.len, Data.esz, Op.operands, Call.operands, List.getD, List.getElem?_cons_zero, List.getElem?_cons_succ, Option.getD_some, List.set, List.toList_toArray, Option.map_some, Option.map_none, exitTo, true_and, and_self, if_true, if_false, ite_self, eq_self, ne_eq, not_false_eq_true, reduceCtorEq, Nat.zero_add, Int.toNat_natCast, Int.cast_ofNat_Int, Nat.le_refl, List.append_toArray, List.cons_append, List.nil_append, Nat.reduceAdd, Nat.reduceSub, Nat.reduceEqDiff, Nat.reduceLeDiff, Nat.reduceLT, Nat.succ_ne_self, beq_self_eq_true, List.replicate_succ, List.replicate_zero, tl]
    by_cases hil : i < p.length
    · have hfs := fill_step hil hpl
      have wi : IntKind.i64.wrap ((i : Int) + 1) = ((i + 1 : Nat) : Int) := by rw [w64 (by omega) (by omega)]; omega
      rw [if_pos (decide_eq_true (by omega))]
      simp only [hfs, wi]
      refine ⟨⟨by omega, by omega⟩, ⟨by omega, by omega⟩, ?_⟩
      refine ih (i + 1, _) _ hil (by simp only; omega) rfl ?_ ?_
      · simp [LeT, tl]
      · intro m x hx
        simpa [fnd, rdC] using hx
    · rw [if_neg (by rw [decide_eq_true_eq]; omega)]
      have hip : i = p.length := by omega
      subst hip
      refine inC_ops TO 100 (re_inC (n := 17) (r := r4) rfl hb hB h4) Tryd.func55 (by decide +kernel) rfl rfl rfl ⟨⟨rfl, rfl, by simp only [evO, gdP, gdPs, List.getD, List.getElem?_cons_zero, List.getElem?_cons_succ, Option.getD_some, and_self]⟩, ?_⟩
      rw [← eE, eS]
      have hpd : padA 8 p = p.take p.length ++ List.replicate (8 - p.length) 0 := by rw [List.take_length]; rfl
      by_cases hE : gsE 0 b = 0
      · simp only [hE, hpd, rdC, Say.sv, Say.cells, sayZ, pureOpC, buildV, fillC, cntC, unc, absRun, absOps, absOp, evO, constSV, ungd, gdP, gdPs, setD, binI, binV, ptrE, T_ty, T_size, T_zero, tTy, tSize, tZero, pureOp, memOp, loadV, scal, okC, takeC, dropC, blkAt, fnd, upd, Data.len, retP, resV, retQ, rAs, rA, rA0, rAl, ownN, nodup, bares, bare, bare0, bareL, bareD, Op.operands, List.getD, List.getElem?_cons_zero, List.getElem?_cons_succ, Option.getD_some, List.set, List.map, List.all, List.toList_toArray, Option.bind_some, Option.map_some, true_and, and_true, and_self, if_true, if_false, eq_self, ne_eq, not_false_eq_true, reduceCtorEq, Bool.false_eq_true, List.take_length, Nat.zero_add, Nat.add_zero, Int.reduceBNe, List.nil_append, List.append_nil, List.length_nil, Nat.reduceAdd, Nat.reduceSub, Nat.reduceEqDiff, Nat.reduceLeDiff, List.replicate_succ, List.replicate_zero, Bool.and_self, Nat.reduceBNe]
      · have hE' : (gsE 0 b != 0) = true := by simpa using hE
        simp only [hE', if_neg hE, rdC, Say.sv, Say.cells, sayZ, pureOpC, buildV, fillC, cntC, unc, absRun, absOps, absOp, evO, constSV, ungd, gdP, gdPs, setD, binI, binV, ptrE, T_ty, T_size, T_zero, tTy, tSize, tZero, pureOp, memOp, loadV, scal, okC, takeC, dropC, blkAt, fnd, upd, Data.len, retP, resV, retQ, rAs, rA, rA0, rAl, ownN, nodup, bares, bare, bare0, bareL, bareD, Op.operands, List.getD, List.getElem?_cons_zero, List.getElem?_cons_succ, Option.getD_some, List.set, List.map, List.all, List.toList_toArray, Option.bind_some, Option.map_some, true_and, and_true, and_self, if_true, if_false, eq_self, ne_eq, not_false_eq_true, reduceCtorEq, List.take_length, Nat.zero_add, Nat.add_zero, List.nil_append, List.append_nil, List.length_nil, Nat.reduceAdd, Nat.reduceSub, Nat.reduceEqDiff, Nat.reduceLeDiff, List.replicate_succ, List.replicate_zero, Bool.and_self, Nat.reduceBNe]

end Go.Proofs.YtfohefgpchbgkaaDoor.Abs
