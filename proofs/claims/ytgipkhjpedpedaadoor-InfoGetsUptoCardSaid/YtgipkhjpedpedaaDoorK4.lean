/- What the document's GetAsk of info answers. -/
import Derived.Test.YtgipkhjpedpedaaDoorK3
set_option linter.unusedVariables false
set_option linter.unusedSimpArgs false
set_option maxRecDepth 100000
namespace Go.Proofs.YtgipkhjpedpedaaDoor.Abs
open Go Go.Proofs

set_option maxHeartbeats 8000000 in
theorem rGetAsk10_meets (c : Int) (b : List Int) (hc : 0 ≤ c) (hb : b.length ≤ 274877906944) (hB : Bytes b) : Meets Tryd.prog 18 [.v (.int .u16 c), .v (.view false (.ints .u8 b))] [.v (igA c b).svZ, .v (.int .i64 (igE c b))] := by
  have hK := iK_meets c hc
  have hb2 : b.length ≤ 140737488351232 := by omega
  refine meets_go TO 100 Tryd.func18 rfl (fun X => ?_)
  simp only [Tryd.ntmps18, Tryd.results18, pureOpC, svs, blks, AV.sv, absRun, absOps, absOp, evO, constSV, ungd, gdP, gdPs, setD, T_size, T_zero, tSize, tZero, pureOp, memOp, newV, notIn, upd, Lim.add, Op.operands, List.getD, List.getElem?_cons_zero, Option.getD_some, List.set, List.toList_toArray, true_and, and_self, ne_eq, not_false_eq_true, reduceCtorEq, Nat.zero_add, List.cons_append, List.nil_append, List.length_cons, List.length_nil, Nat.reduceAdd, Nat.reduceSub, List.replicate_succ, List.replicate_zero]
  refine call_go TO 100 hK Tryd.func36 (by decide +kernel) rfl rfl rfl ?_
  cases hk : ikB c with
  | false =>
    have e1 : igE c b = 2 := by unfold igE; rw [if_neg (by rw [hk]; decide)]
    have e2 : igA c b = askZ := by unfold igA; rw [if_pos (by rw [e1]; decide)]
    rw [e1, e2]
    simp only [Ask.svZ, askZ, pureOpC, buildV, fillC, cntC, unc, absRun, absOps, absOp, evO, constSV, ungd, gdP, gdPs, setD, binI, binV, ptrE, unV, T_ty, T_size, T_zero, tTy, tSize, tZero, fieldOf, pureOp, memOp, loadV, newV, notIn, scal, cellsOf, okC, takeC, dropC, blkAt, fnd, upd, Lim.add, retP, resV, retQ, rAs, rA, rA0, rAl, ownN, nodup, bares, bare, bare0, bareL, guardIs, callP, callS, argS, mAs, mA, mA0, mB0, allNotIn, impN, impB, impT, packS, delL, Op.operands, List.getD, List.getElem?_cons_zero, List.getElem?_cons_succ, Option.getD_some, List.set, List.map, List.all, List.toList_toArray, Option.bind_some, Option.map_some, true_and, and_self, if_true, if_false, eq_self, ne_eq, not_false_eq_true, reduceCtorEq, Nat.zero_add, Nat.add_zero, List.cons_append, List.nil_append, List.append_nil, Nat.reduceAdd, Nat.reduceSub, Nat.reduceEqDiff, Nat.reduceLeDiff, Bool.not_false, List.replicate_succ, List.replicate_zero, Bool.and_self, Nat.reduceBNe]
  | true =>
    have eE : igE c b = rEnd b (igR c b) := by unfold igE; rw [if_pos hk]
    have eA0 : igE c b ≠ 0 → igA c b = askZ := fun h => by unfold igA; rw [if_pos h]
    have eA1 : igE c b = 0 → igA c b = igV c b := fun h => by unfold igA; rw [if_neg (fun g => g h)]
    simp only [pureOpC, buildV, fillC, cntC, unc, absRun, absOps, absOp, evO, constSV, ungd, gdP, gdPs, setD, binI, binV, ptrE, unV, T_ty, T_size, T_zero, tTy, tSize, tZero, fieldOf, pureOp, memOp, loadV, newV, notIn, scal, cellsOf, okC, takeC, dropC, blkAt, fnd, upd, Data.len, Data.esz, Lim.add, retP, resV, retQ, rAs, rA, rA0, ownN, nodup, bares, bare, bare0, bareD, guardIs, callP, callS, argS, mAs, mA, mA0, mB0, allNotIn, impN, impB, impT, packS, delL, Op.operands, List.getD, List.getElem?_cons_zero, List.getElem?_cons_succ, Option.getD_some, List.set, List.map, List.all, List.toList_toArray, Option.bind_some, Option.map_some, true_and, and_true, and_self, if_true, if_false, eq_self, ne_eq, not_false_eq_true, reduceCtorEq, Bool.false_eq_true, Nat.zero_add, Nat.add_zero, List.cons_append, List.nil_append, List.append_nil, Nat.reduceAdd, Nat.reduceSub, Nat.reduceEqDiff, Nat.reduceLeDiff, Bool.not_true, List.replicate_succ, List.replicate_zero, Bool.and_true, Bool.and_self, Nat.reduceBNe]
    by_cases c12 : c = 12
    · subst c12
      have eR : igR 12 b = rM b 4 0 5 (0, 0) := rfl
      have eV : igV 12 b = askZ := rfl
      rw [eR] at eE
      rw [eV] at eA1
      simp only [if_true, eq_self, beq_self_eq_true]
      refine inC_ops TO 100 (rm_inC (n := 15) (k := 4) (m := 0) (e := 5) (r := (0, 0)) (tail := []) rfl hb2 hB (Nat.zero_le _) rfl) Tryd.func48 (by decide +kernel) rfl rfl rfl ⟨⟨rfl, rfl, by simp only [evO, constSV, gdP, gdPs, List.getD, List.getElem?_cons_zero, List.getElem?_cons_succ, Option.getD_some, and_self]⟩, ?_⟩
      have h1 := rM_le (b := b) (k := 4) (m := 0) (e := 5) (r := (0, 0)) (Nat.zero_le _)
      simp only [rdC, pureOpC, unc, absRun, absOps, absOp, evO, constSV, ungd, gdP, gdPs, setD, binI, binV, ptrE, pureOp, memOp, upd, Op.operands, List.getD, List.getElem?_cons_zero, List.getElem?_cons_succ, Option.getD_some, List.set, List.toList_toArray, true_and, and_self, if_true, if_false, eq_self, Bool.false_eq_true, Int.reduceBEq, Nat.reduceAdd, Nat.reduceEqDiff]
      generalize rM b 4 0 5 (0, 0) = r1 at *
      refine inC_ops TO 100 (re_inC (n := 15)  (r := r1) (tail := []) rfl hb2 hB h1) Tryd.func51 (by decide +kernel) rfl rfl rfl ⟨⟨rfl, rfl, by simp only [evO, gdP, gdPs, List.getD, List.getElem?_cons_zero, List.getElem?_cons_succ, Option.getD_some, and_self]⟩, ?_⟩
      rw [← eE]
      by_cases hE : igE 12 b = 0
      · have z := rEnd_zero (eE.symm.trans hE)
        rw [eA1 hE]
        simp only [hE, rdC, Ask.svZ, askZ, pureOpC, buildV, fillC, cntC, unc, absRun, absOps, absOp, evO, constSV, ungd, gdP, gdPs, setD, binI, binV, ptrE, T_ty, T_size, T_zero, tTy, tSize, tZero, pureOp, memOp, loadV, scal, okC, takeC, dropC, blkAt, fnd, upd, retP, resV, retQ, rAs, rA, rA0, rAl, ownN, nodup, bares, bare, bare0, bareL, Op.operands, List.getD, List.getElem?_cons_zero, List.getElem?_cons_succ, Option.getD_some, List.set, List.map, List.all, List.toList_toArray, Option.bind_some, Option.map_some, and_self, if_true, if_false, ite_self, eq_self, ne_eq, not_false_eq_true, reduceCtorEq, Bool.false_eq_true, Nat.zero_add, Nat.add_zero, Int.reduceBNe, List.nil_append, List.append_nil, Nat.reduceAdd, Nat.reduceSub, Nat.reduceEqDiff, Nat.reduceLeDiff, List.replicate_succ, List.replicate_zero, Bool.and_self, Nat.reduceBNe]
      · have hE' : (igE 12 b != 0) = true := by simpa using hE
        rw [eA0 hE]
        simp only [hE', rdC, Ask.svZ, askZ, pureOpC, buildV, fillC, cntC, unc, absRun, absOps, absOp, evO, constSV, ungd, gdP, gdPs, setD, binI, binV, ptrE, T_ty, T_size, T_zero, tTy, tSize, tZero, pureOp, memOp, loadV, scal, okC, takeC, dropC, blkAt, fnd, upd, retP, resV, retQ, rAs, rA, rA0, rAl, ownN, nodup, bares, bare, bare0, bareL, Op.operands, List.getD, List.getElem?_cons_zero, List.getElem?_cons_succ, Option.getD_some, List.set, List.map, List.all, List.toList_toArray, Option.bind_some, Option.map_some, true_and, and_true, and_self, if_true, if_false, eq_self, ne_eq, not_false_eq_true, reduceCtorEq, Nat.zero_add, Nat.add_zero, List.nil_append, List.append_nil, Nat.reduceAdd, Nat.reduceSub, Nat.reduceEqDiff, Nat.reduceLeDiff, List.replicate_succ, List.replicate_zero, Bool.and_self, Nat.reduceBNe]
    have d12 : (c != 12) = true := by simpa using c12
    have d12' : (c == 12) = false := by simpa using c12
    simp only [d12', if_false, Bool.false_eq_true]
    refine inC_ops TO 100 (rn_inC (n := 15) (k := 8) (r := (0, 0)) (tail := []) rfl hb2 hB (Nat.zero_le _) rfl) Tryd.func49 (by decide +kernel) rfl rfl rfl ⟨⟨rfl, rfl, by simp only [evO, constSV, gdP, gdPs, List.getD, List.getElem?_cons_zero, List.getElem?_cons_succ, Option.getD_some, and_self]⟩, ?_⟩
    have h0 := rN_le (b := b) (k := 8) (r := (0, 0)) (Nat.zero_le _)
    by_cases c14 : c = 14
    · subst c14
      have eR : igR 14 b = rU b (rU b (rM b 2 0 5 (rN b 2 (rN b 8 (0, 0))))) := rfl
      have eV : igV 14 b = { askZ with file := rV b 8 (0, 0), most := rV b 2 (rN b 8 (0, 0)), pattern := rS b (rM b 2 0 5 (rN b 2 (rN b 8 (0, 0)))), after := rS b (rU b (rM b 2 0 5 (rN b 2 (rN b 8 (0, 0))))) } := rfl
      rw [eR] at eE
      rw [eV] at eA1
      rw [Same2.end_ (Same2.text (Same2.text (Same2.refl (rM b 2 0 5 (rN b 2 (rN b 8 (0, 0)))))))] at eE
      have eA1 : igE 14 b = 0 → igA 14 b = { askZ with file := rV b 8 (0, 0), most := rV b 2 (rN b 8 (0, 0)), pattern := rS b (rM b 2 0 5 (rN b 2 (rN b 8 (0, 0)))), after := rS b (rT b (rM b 2 0 5 (rN b 2 (rN b 8 (0, 0))))) } := fun h => by rw [eA1 h, tt_ok (eE.symm.trans h)]
      clear eR eV
      simp only [rdC, pureOpC, unc, absRun, absOps, absOp, evO, constSV, ungd, gdP, gdPs, setD, binI, binV, ptrE, T_ty, T_size, tTy, tSize, fieldOf, faddrV, pureOp, memOp, scal, setC, blkAt, fnd, upd, Op.operands, List.getD, List.getElem?_cons_zero, List.getElem?_cons_succ, Option.getD_some, List.set, List.toList_toArray, Option.map_some, Option.map_none, true_and, and_self, if_true, if_false, eq_self, ne_eq, not_false_eq_true, reduceCtorEq, Bool.false_eq_true, Nat.zero_add, Int.reduceBEq, Nat.reduceAdd, Nat.reduceSub, Nat.reduceEqDiff, Nat.reduceLT, Nat.succ_ne_self, beq_self_eq_true]
      generalize rN b 8 (0, 0) = q at *
      generalize rV b 8 (0, 0) = fl at *
      refine inC_ops TO 100 (rn_inC (n := 15) (k := 2) (r := q) (tail := []) rfl hb2 hB h0 rfl) Tryd.func49 (by decide +kernel) rfl rfl rfl ⟨⟨rfl, rfl, by simp only [evO, constSV, gdP, gdPs, List.getD, List.getElem?_cons_zero, List.getElem?_cons_succ, Option.getD_some, and_self]⟩, ?_⟩
      have h1 := rN_le (b := b) (k := 2) (r := q) h0
      have v1 := rV_lt b 2 q hB
      have w1 : IntKind.u16.wrap (rV b 2 q) = rV b 2 q := by rw [IntKind.wrap_u16]; omega
      simp only [rdC, w1, pureOpC, unc, absRun, absOps, absOp, evO, ungd, gdP, gdPs, setD, convV, T_ty, T_size, tTy, tSize, fieldOf, faddrV, pureOp, memOp, scal, known, setC, blkAt, fnd, upd, Op.operands, List.getD, List.getElem?_cons_zero, List.getElem?_cons_succ, Option.getD_some, List.set, List.toList_toArray, Option.map_some, Option.map_none, true_and, and_self, if_true, if_false, eq_self, ne_eq, not_false_eq_true, reduceCtorEq, Nat.zero_add, Nat.reduceAdd, Nat.reduceSub, Nat.reduceEqDiff, Nat.reduceLT, Nat.succ_ne_self]
      generalize rN b 2 q = r1 at *
      refine inC_ops TO 100 (rm_inC (n := 15) (k := 2) (m := 0) (e := 5) (r := r1) (tail := []) rfl hb2 hB h1 rfl) Tryd.func48 (by decide +kernel) rfl rfl rfl ⟨⟨rfl, rfl, by simp only [evO, constSV, gdP, gdPs, List.getD, List.getElem?_cons_zero, List.getElem?_cons_succ, Option.getD_some, and_self]⟩, ?_⟩
      have h2 := rM_le (b := b) (k := 2) (m := 0) (e := 5) (r := r1) h1
      simp only [rdC, pureOpC, absRun, absOps, absOp, evO, ungd, gdP, gdPs, setD, pureOp, memOp, upd, Op.operands, List.getD, List.getElem?_cons_zero, List.getElem?_cons_succ, Option.getD_some, List.set, List.toList_toArray, true_and, and_self, if_true, if_false, eq_self, Nat.reduceAdd, Nat.reduceEqDiff]
      generalize rM b 2 0 5 r1 = r2 at *
      refine inC_ops TO 100 (rt_inC (n := 15)  (r := r2) (tail := []) rfl hb hB h2) Tryd.func50 (by decide +kernel) rfl rfl rfl ⟨⟨rfl, rfl, by simp only [evO, gdP, gdPs, List.getD, List.getElem?_cons_zero, List.getElem?_cons_succ, Option.getD_some, and_self]⟩, ?_⟩
      have h3 := rT_le (b := b) (r := r2) hB h2
      simp only [rdC, pureOpC, unc, absRun, absOps, absOp, evO, ungd, gdP, gdPs, setD, T_ty, T_size, tTy, tSize, fieldOf, faddrV, pureOp, memOp, scal, setC, blkAt, fnd, upd, Op.operands, List.getD, List.getElem?_cons_zero, List.getElem?_cons_succ, Option.getD_some, List.set, List.toList_toArray, Option.map_some, Option.map_none, true_and, and_self, if_true, if_false, eq_self, ne_eq, not_false_eq_true, reduceCtorEq, Nat.zero_add, Nat.reduceAdd, Nat.reduceSub, Nat.reduceEqDiff, Nat.reduceLT, Nat.succ_ne_self]
      generalize rT b r2 = r3 at *
      refine inC_ops TO 100 (rt_inC (n := 15)  (r := r3) (tail := []) rfl hb hB h3) Tryd.func50 (by decide +kernel) rfl rfl rfl ⟨⟨rfl, rfl, by simp only [evO, gdP, gdPs, List.getD, List.getElem?_cons_zero, List.getElem?_cons_succ, Option.getD_some, and_self]⟩, ?_⟩
      have h4 := rT_le (b := b) (r := r3) hB h3
      simp only [rdC, pureOpC, unc, absRun, absOps, absOp, evO, ungd, gdP, gdPs, setD, T_ty, T_size, tTy, tSize, fieldOf, faddrV, pureOp, memOp, scal, setC, blkAt, fnd, upd, Op.operands, List.getD, List.getElem?_cons_zero, List.getElem?_cons_succ, Option.getD_some, List.set, List.toList_toArray, Option.map_some, Option.map_none, true_and, and_self, if_true, if_false, eq_self, ne_eq, not_false_eq_true, reduceCtorEq, Nat.zero_add, Nat.reduceAdd, Nat.reduceSub, Nat.reduceEqDiff, Nat.reduceLT, Nat.succ_ne_self]
      generalize rT b r3 = r4 at *
      refine inC_ops TO 100 (re_inC (n := 15)  (r := r4) (tail := []) rfl hb2 hB h4) Tryd.func51 (by decide +kernel) rfl rfl rfl ⟨⟨rfl, rfl, by simp only [evO, gdP, gdPs, List.getD, List.getElem?_cons_zero, List.getElem?_cons_succ, Option.getD_some, and_self]⟩, ?_⟩
      rw [← eE]
      by_cases hE : igE 14 b = 0
      · have z := rEnd_zero (eE.symm.trans hE)
        rw [eA1 hE]
        simp only [hE, rdC, Ask.svZ, askZ, pureOpC, buildV, fillC, cntC, unc, absRun, absOps, absOp, evO, constSV, ungd, gdP, gdPs, setD, binI, binV, ptrE, T_ty, T_size, T_zero, tTy, tSize, tZero, pureOp, memOp, loadV, scal, okC, takeC, dropC, blkAt, fnd, upd, retP, resV, retQ, rAs, rA, rA0, rAl, ownN, nodup, bares, bare, bare0, bareL, Op.operands, List.getD, List.getElem?_cons_zero, List.getElem?_cons_succ, Option.getD_some, List.set, List.map, List.all, List.toList_toArray, Option.bind_some, Option.map_some, true_and, and_true, and_self, if_true, if_false, eq_self, ne_eq, not_false_eq_true, reduceCtorEq, Bool.false_eq_true, Nat.zero_add, Nat.add_zero, Int.reduceBNe, List.nil_append, List.append_nil, Nat.reduceAdd, Nat.reduceSub, Nat.reduceEqDiff, Nat.reduceLeDiff, List.replicate_succ, List.replicate_zero, Bool.and_self, Nat.reduceBNe]
      · have hE' : (igE 14 b != 0) = true := by simpa using hE
        rw [eA0 hE]
        simp only [hE', rdC, Ask.svZ, askZ, pureOpC, buildV, fillC, cntC, unc, absRun, absOps, absOp, evO, constSV, ungd, gdP, gdPs, setD, binI, binV, ptrE, T_ty, T_size, T_zero, tTy, tSize, tZero, pureOp, memOp, loadV, scal, okC, takeC, dropC, blkAt, fnd, upd, retP, resV, retQ, rAs, rA, rA0, rAl, ownN, nodup, bares, bare, bare0, bareL, Op.operands, List.getD, List.getElem?_cons_zero, List.getElem?_cons_succ, Option.getD_some, List.set, List.map, List.all, List.toList_toArray, Option.bind_some, Option.map_some, true_and, and_true, and_self, if_true, if_false, eq_self, ne_eq, not_false_eq_true, reduceCtorEq, Nat.zero_add, Nat.add_zero, List.nil_append, List.append_nil, Nat.reduceAdd, Nat.reduceSub, Nat.reduceEqDiff, Nat.reduceLeDiff, List.replicate_succ, List.replicate_zero, Bool.and_self, Nat.reduceBNe]
    by_cases c17 : c = 17
    · subst c17
      have eR : igR 17 b = (if rV b 2 (rN b 8 (0, 0)) = 1 then rN b 8 (rN b 2 (rN b 8 (0, 0))) else if rV b 2 (rN b 8 (0, 0)) = 2 then rM b 2 1 5 (rN b 2 (rN b 8 (0, 0)))
        else if rV b 2 (rN b 8 (0, 0)) = 3 then rU b (rM b 2 1 5 (rN b 2 (rN b 8 (0, 0)))) else if (rN b 2 (rN b 8 (0, 0))).2 = 0 then ((rN b 2 (rN b 8 (0, 0))).1, 5) else rN b 2 (rN b 8 (0, 0))) := rfl
      have eV : igV 17 b = (if rV b 2 (rN b 8 (0, 0)) = 1 then { askZ with file := rV b 8 (0, 0), cls := rV b 2 (rN b 8 (0, 0)), size := rV b 8 (rN b 2 (rN b 8 (0, 0))) }
        else if rV b 2 (rN b 8 (0, 0)) = 2 then { askZ with file := rV b 8 (0, 0), cls := rV b 2 (rN b 8 (0, 0)), on := rV b 2 (rN b 2 (rN b 8 (0, 0))) == 1 }
        else if rV b 2 (rN b 8 (0, 0)) = 3 then { askZ with file := rV b 8 (0, 0), cls := rV b 2 (rN b 8 (0, 0)), on := rV b 2 (rN b 2 (rN b 8 (0, 0))) == 1, name := rS b (rM b 2 1 5 (rN b 2 (rN b 8 (0, 0)))) }
        else { askZ with file := rV b 8 (0, 0), cls := rV b 2 (rN b 8 (0, 0)) }) := rfl
      rw [eR] at eE
      rw [eV] at eA1
      clear eR eV
      simp only [rdC, pureOpC, unc, absRun, absOps, absOp, evO, constSV, ungd, gdP, gdPs, setD, binI, binV, ptrE, T_ty, T_size, tTy, tSize, fieldOf, faddrV, pureOp, memOp, scal, setC, blkAt, fnd, upd, Op.operands, List.getD, List.getElem?_cons_zero, List.getElem?_cons_succ, Option.getD_some, List.set, List.toList_toArray, Option.map_some, Option.map_none, true_and, and_self, if_true, if_false, eq_self, ne_eq, not_false_eq_true, reduceCtorEq, Bool.false_eq_true, Nat.zero_add, Int.reduceBEq, Nat.reduceAdd, Nat.reduceSub, Nat.reduceEqDiff, Nat.reduceLT, Nat.succ_ne_self, beq_self_eq_true]
      generalize rN b 8 (0, 0) = q at *
      generalize rV b 8 (0, 0) = fl at *
      refine inC_ops TO 100 (rn_inC (n := 15) (k := 2) (r := q) (tail := []) rfl hb2 hB h0 rfl) Tryd.func49 (by decide +kernel) rfl rfl rfl ⟨⟨rfl, rfl, by simp only [evO, constSV, gdP, gdPs, List.getD, List.getElem?_cons_zero, List.getElem?_cons_succ, Option.getD_some, and_self]⟩, ?_⟩
      have h1 := rN_le (b := b) (k := 2) (r := q) h0
      have v1 := rV_lt b 2 q hB
      have w1 : IntKind.u16.wrap (rV b 2 q) = rV b 2 q := by rw [IntKind.wrap_u16]; omega
      simp only [rdC, w1, pureOpC, unc, absRun, absOps, absOp, evO, constSV, ungd, gdP, gdPs, setD, binI, binV, ptrE, convV, T_ty, T_size, tTy, tSize, fieldOf, faddrV, pickV, pureOp, guardOf, memOp, loadV, scal, known, cellAt, setC, blkAt, fnd, upd, Op.operands, List.getD, List.getElem?_cons_zero, List.getElem?_cons_succ, List.getElem?_nil, Option.getD_some, Option.getD_none, List.set, List.toList_toArray, List.getElem?_toArray, Option.bind_some, Option.map_some, Option.map_none, true_and, and_self, implies_true, imp_self, if_true, if_false, eq_self, ne_eq, not_false_eq_true, reduceCtorEq, Nat.zero_add, Bool.cond_true_left, Bool.cond_false_right, Nat.reduceAdd, Nat.reduceSub, Nat.reduceEqDiff, Nat.reduceLT, Nat.succ_ne_self, gt_iff_lt]
      generalize rN b 2 q = r1 at *
      generalize rV b 2 q = cl at *
      by_cases q1 : cl = 1
      · subst q1
        rw [if_pos rfl] at eE eA1
        have c1 : (r1.2 == 0 && (decide ((1 : Int) < 1) || decide ((3 : Int) < 1))) = false := by simp
        simp only [if_true, if_false, eq_self, Bool.false_eq_true, Bool.not_false, beq_self_eq_true, Bool.and_true, Bool.and_false, Bool.or_false, Int.reduceLT, decide_false]
        refine inC_ops TO 100 (rn_inC (n := 15) (k := 8) (r := r1) (tail := []) rfl hb2 hB h1 rfl) Tryd.func49 (by decide +kernel) rfl rfl rfl ⟨⟨rfl, rfl, by simp only [evO, constSV, gdP, gdPs, List.getD, List.getElem?_cons_zero, List.getElem?_cons_succ, Option.getD_some, and_self]⟩, ?_⟩
        have h2 := rN_le (b := b) (k := 8) (r := r1) h1
        simp only [rdC, pureOpC, unc, absRun, absOps, absOp, evO, constSV, ungd, gdP, gdPs, setD, binI, binV, ptrE, T_ty, T_size, tTy, tSize, fieldOf, faddrV, pureOp, memOp, loadV, scal, cellAt, setC, blkAt, fnd, upd, Op.operands, List.getD, List.getElem?_cons_zero, List.getElem?_cons_succ, List.getElem?_nil, Option.getD_some, Option.getD_none, List.set, List.toList_toArray, Option.map_some, Option.map_none, true_and, and_self, if_true, if_false, eq_self, ne_eq, not_false_eq_true, reduceCtorEq, Bool.false_eq_true, Nat.zero_add, Int.reduceBEq, Nat.reduceAdd, Nat.reduceSub, Nat.reduceEqDiff, Nat.reduceLT, Nat.succ_ne_self]
        generalize rN b 8 r1 = r2 at *
        refine inC_ops TO 100 (re_inC (n := 15)  (r := r2) (tail := []) rfl hb2 hB h2) Tryd.func51 (by decide +kernel) rfl rfl rfl ⟨⟨rfl, rfl, by simp only [evO, gdP, gdPs, List.getD, List.getElem?_cons_zero, List.getElem?_cons_succ, Option.getD_some, and_self]⟩, ?_⟩
        rw [← eE]
        by_cases hE : igE 17 b = 0
        · have z := rEnd_zero (eE.symm.trans hE)
          rw [eA1 hE]
          simp only [hE, rdC, Ask.svZ, askZ, pureOpC, buildV, fillC, cntC, unc, absRun, absOps, absOp, evO, constSV, ungd, gdP, gdPs, setD, binI, binV, ptrE, T_ty, T_size, T_zero, tTy, tSize, tZero, pureOp, memOp, loadV, scal, okC, takeC, dropC, blkAt, fnd, upd, retP, resV, retQ, rAs, rA, rA0, rAl, ownN, nodup, bares, bare, bare0, bareL, Op.operands, List.getD, List.getElem?_cons_zero, List.getElem?_cons_succ, Option.getD_some, List.set, List.map, List.all, List.toList_toArray, Option.bind_some, Option.map_some, true_and, and_true, false_and, and_false, and_self, if_true, if_false, eq_self, ne_eq, not_false_eq_true, reduceCtorEq, Bool.false_eq_true, Nat.zero_add, Nat.add_zero, Int.reduceBNe, List.nil_append, List.append_nil, Nat.reduceAdd, Nat.reduceSub, Nat.reduceEqDiff, Nat.reduceLeDiff, List.replicate_succ, List.replicate_zero, Bool.and_self, Int.reduceEq, Nat.reduceBNe]
        · have hE' : (igE 17 b != 0) = true := by simpa using hE
          rw [eA0 hE]
          simp only [hE', rdC, Ask.svZ, askZ, pureOpC, buildV, fillC, cntC, unc, absRun, absOps, absOp, evO, constSV, ungd, gdP, gdPs, setD, binI, binV, ptrE, T_ty, T_size, T_zero, tTy, tSize, tZero, pureOp, memOp, loadV, scal, okC, takeC, dropC, blkAt, fnd, upd, retP, resV, retQ, rAs, rA, rA0, rAl, ownN, nodup, bares, bare, bare0, bareL, Op.operands, List.getD, List.getElem?_cons_zero, List.getElem?_cons_succ, Option.getD_some, List.set, List.map, List.all, List.toList_toArray, Option.bind_some, Option.map_some, true_and, and_true, false_and, and_false, and_self, if_true, if_false, eq_self, ne_eq, not_false_eq_true, reduceCtorEq, Nat.zero_add, Nat.add_zero, List.nil_append, List.append_nil, Nat.reduceAdd, Nat.reduceSub, Nat.reduceEqDiff, Nat.reduceLeDiff, List.replicate_succ, List.replicate_zero, Bool.and_self, Int.reduceEq, Nat.reduceBNe]
      rw [if_neg q1] at eE eA1
      by_cases q2 : cl = 2
      · subst q2
        rw [if_pos rfl] at eE eA1
        have c1 : (r1.2 == 0 && (decide ((2 : Int) < 1) || decide ((3 : Int) < 2))) = false := by simp
        simp only [if_false, Bool.false_eq_true, Int.reduceBEq, Bool.not_false, Bool.and_true, Bool.and_false, Bool.or_false, Int.reduceLT, decide_false]
        have mv2 : (rM b 2 1 5 r1).2 = 0 → rMV b 2 1 r1 = rV b 2 r1 := mv_ok (by decide)
        refine inC_ops TO 100 (rm_inC (n := 15) (k := 2) (m := 1) (e := 5) (r := r1) (tail := []) rfl hb2 hB h1 rfl) Tryd.func48 (by decide +kernel) rfl rfl rfl ⟨⟨rfl, rfl, by simp only [evO, constSV, gdP, gdPs, List.getD, List.getElem?_cons_zero, List.getElem?_cons_succ, Option.getD_some, and_self]⟩, ?_⟩
        have h2 := rM_le (b := b) (k := 2) (m := 1) (e := 5) (r := r1) h1
        simp only [rdC, pureOpC, unc, absRun, absOps, absOp, evO, constSV, ungd, gdP, gdPs, setD, binI, binV, ptrE, T_ty, T_size, tTy, tSize, fieldOf, faddrV, pureOp, memOp, loadV, scal, cellAt, setC, blkAt, fnd, upd, Op.operands, List.getD, List.getElem?_cons_zero, List.getElem?_cons_succ, List.getElem?_nil, Option.getD_some, Option.getD_none, List.set, List.toList_toArray, Option.map_some, Option.map_none, true_and, and_self, if_true, if_false, eq_self, ne_eq, not_false_eq_true, reduceCtorEq, Bool.false_eq_true, Nat.zero_add, Int.reduceBEq, Nat.reduceAdd, Nat.reduceSub, Nat.reduceEqDiff, Nat.reduceLT, Nat.succ_ne_self]
        generalize rM b 2 1 5 r1 = r2 at *
        refine inC_ops TO 100 (re_inC (n := 15)  (r := r2) (tail := []) rfl hb2 hB h2) Tryd.func51 (by decide +kernel) rfl rfl rfl ⟨⟨rfl, rfl, by simp only [evO, gdP, gdPs, List.getD, List.getElem?_cons_zero, List.getElem?_cons_succ, Option.getD_some, and_self]⟩, ?_⟩
        rw [← eE]
        by_cases hE : igE 17 b = 0
        · have z := rEnd_zero (eE.symm.trans hE)
          have mv := mv2 (by rw [z])
          rw [eA1 hE]
          simp only [hE, rdC, Ask.svZ, askZ, pureOpC, buildV, fillC, cntC, unc, absRun, absOps, absOp, evO, constSV, ungd, gdP, gdPs, setD, binI, binV, ptrE, T_ty, T_size, T_zero, tTy, tSize, tZero, pureOp, memOp, loadV, scal, okC, takeC, dropC, blkAt, fnd, upd, mv, retP, resV, retQ, rAs, rA, rA0, rAl, ownN, nodup, bares, bare, bare0, bareL, Op.operands, List.getD, List.getElem?_cons_zero, List.getElem?_cons_succ, Option.getD_some, List.set, List.map, List.all, List.toList_toArray, Option.bind_some, Option.map_some, true_and, and_true, false_and, and_false, and_self, if_true, if_false, eq_self, ne_eq, not_false_eq_true, reduceCtorEq, Bool.false_eq_true, Nat.zero_add, Nat.add_zero, Int.reduceBNe, List.nil_append, List.append_nil, Nat.reduceAdd, Nat.reduceSub, Nat.reduceEqDiff, Nat.reduceLeDiff, List.replicate_succ, List.replicate_zero, Bool.and_self, Int.reduceEq, Nat.reduceBNe]
        · have hE' : (igE 17 b != 0) = true := by simpa using hE
          rw [eA0 hE]
          simp only [hE', rdC, Ask.svZ, askZ, pureOpC, buildV, fillC, cntC, unc, absRun, absOps, absOp, evO, constSV, ungd, gdP, gdPs, setD, binI, binV, ptrE, T_ty, T_size, T_zero, tTy, tSize, tZero, pureOp, memOp, loadV, scal, okC, takeC, dropC, blkAt, fnd, upd, retP, resV, retQ, rAs, rA, rA0, rAl, ownN, nodup, bares, bare, bare0, bareL, Op.operands, List.getD, List.getElem?_cons_zero, List.getElem?_cons_succ, Option.getD_some, List.set, List.map, List.all, List.toList_toArray, Option.bind_some, Option.map_some, true_and, and_true, false_and, and_false, and_self, if_true, if_false, eq_self, ne_eq, not_false_eq_true, reduceCtorEq, Nat.zero_add, Nat.add_zero, List.nil_append, List.append_nil, Nat.reduceAdd, Nat.reduceSub, Nat.reduceEqDiff, Nat.reduceLeDiff, List.replicate_succ, List.replicate_zero, Bool.and_self, Int.reduceEq, Nat.reduceBNe]
      rw [if_neg q2] at eE eA1
      by_cases q3 : cl = 3
      · subst q3
        rw [if_pos rfl] at eE eA1
        rw [Same2.end_ (Same2.text (Same2.refl (rM b 2 1 5 r1)))] at eE
        have c1 : (r1.2 == 0 && (decide ((3 : Int) < 1) || decide ((3 : Int) < 3))) = false := by simp
        simp only [if_false, Bool.false_eq_true, Int.reduceBEq, Bool.not_false, Bool.and_true, Bool.and_false, Bool.or_false, Int.reduceLT, decide_false]
        have mv2 : (rM b 2 1 5 r1).2 = 0 → rMV b 2 1 r1 = rV b 2 r1 := mv_ok (by decide)
        refine inC_ops TO 100 (rm_inC (n := 15) (k := 2) (m := 1) (e := 5) (r := r1) (tail := []) rfl hb2 hB h1 rfl) Tryd.func48 (by decide +kernel) rfl rfl rfl ⟨⟨rfl, rfl, by simp only [evO, constSV, gdP, gdPs, List.getD, List.getElem?_cons_zero, List.getElem?_cons_succ, Option.getD_some, and_self]⟩, ?_⟩
        have h2 := rM_le (b := b) (k := 2) (m := 1) (e := 5) (r := r1) h1
        simp only [rdC, pureOpC, unc, absRun, absOps, absOp, evO, constSV, ungd, gdP, gdPs, setD, binI, binV, ptrE, T_ty, T_size, tTy, tSize, fieldOf, faddrV, pureOp, memOp, loadV, scal, cellAt, setC, blkAt, fnd, upd, Op.operands, List.getD, List.getElem?_cons_zero, List.getElem?_cons_succ, List.getElem?_nil, Option.getD_some, Option.getD_none, List.set, List.toList_toArray, Option.map_some, Option.map_none, true_and, and_self, if_true, if_false, eq_self, ne_eq, not_false_eq_true, reduceCtorEq, Nat.zero_add, Nat.reduceAdd, Nat.reduceSub, Nat.reduceEqDiff, Nat.reduceLT, Nat.succ_ne_self, beq_self_eq_true]
        generalize rM b 2 1 5 r1 = r2 at *
        have tz2 : (rT b r2).2 = 0 → r2.2 = 0 := rT_zero
        refine inC_ops TO 100 (rt_inC (n := 15)  (r := r2) (tail := []) rfl hb hB h2) Tryd.func50 (by decide +kernel) rfl rfl rfl ⟨⟨rfl, rfl, by simp only [evO, gdP, gdPs, List.getD, List.getElem?_cons_zero, List.getElem?_cons_succ, Option.getD_some, and_self]⟩, ?_⟩
        have h3 := rT_le (b := b) (r := r2) hB h2
        simp only [rdC, pureOpC, unc, absRun, absOps, absOp, evO, ungd, gdP, gdPs, setD, T_ty, T_size, tTy, tSize, fieldOf, faddrV, pureOp, memOp, scal, setC, blkAt, fnd, upd, Op.operands, List.getD, List.getElem?_cons_zero, List.getElem?_cons_succ, Option.getD_some, List.set, List.toList_toArray, Option.map_some, Option.map_none, true_and, and_self, if_true, if_false, eq_self, ne_eq, not_false_eq_true, reduceCtorEq, Nat.zero_add, Nat.reduceAdd, Nat.reduceSub, Nat.reduceEqDiff, Nat.reduceLT, Nat.succ_ne_self]
        generalize rT b r2 = r3 at *
        refine inC_ops TO 100 (re_inC (n := 15)  (r := r3) (tail := []) rfl hb2 hB h3) Tryd.func51 (by decide +kernel) rfl rfl rfl ⟨⟨rfl, rfl, by simp only [evO, gdP, gdPs, List.getD, List.getElem?_cons_zero, List.getElem?_cons_succ, Option.getD_some, and_self]⟩, ?_⟩
        rw [← eE]
        by_cases hE : igE 17 b = 0
        · have z := rEnd_zero (eE.symm.trans hE)
          have mv := mv2 (tz2 (by rw [z]))
          rw [eA1 hE]
          simp only [hE, rdC, Ask.svZ, askZ, pureOpC, buildV, fillC, cntC, unc, absRun, absOps, absOp, evO, constSV, ungd, gdP, gdPs, setD, binI, binV, ptrE, T_ty, T_size, T_zero, tTy, tSize, tZero, pureOp, memOp, loadV, scal, okC, takeC, dropC, blkAt, fnd, upd, mv, retP, resV, retQ, rAs, rA, rA0, rAl, ownN, nodup, bares, bare, bare0, bareL, Op.operands, List.getD, List.getElem?_cons_zero, List.getElem?_cons_succ, Option.getD_some, List.set, List.map, List.all, List.toList_toArray, Option.bind_some, Option.map_some, true_and, and_true, false_and, and_false, and_self, if_true, if_false, eq_self, ne_eq, not_false_eq_true, reduceCtorEq, Bool.false_eq_true, Nat.zero_add, Nat.add_zero, Int.reduceBNe, List.nil_append, List.append_nil, Nat.reduceAdd, Nat.reduceSub, Nat.reduceEqDiff, Nat.reduceLeDiff, List.replicate_succ, List.replicate_zero, Bool.and_self, Int.reduceEq, Nat.reduceBNe]
        · have hE' : (igE 17 b != 0) = true := by simpa using hE
          rw [eA0 hE]
          simp only [hE', rdC, Ask.svZ, askZ, pureOpC, buildV, fillC, cntC, unc, absRun, absOps, absOp, evO, constSV, ungd, gdP, gdPs, setD, binI, binV, ptrE, T_ty, T_size, T_zero, tTy, tSize, tZero, pureOp, memOp, loadV, scal, okC, takeC, dropC, blkAt, fnd, upd, retP, resV, retQ, rAs, rA, rA0, rAl, ownN, nodup, bares, bare, bare0, bareL, Op.operands, List.getD, List.getElem?_cons_zero, List.getElem?_cons_succ, Option.getD_some, List.set, List.map, List.all, List.toList_toArray, Option.bind_some, Option.map_some, true_and, and_true, false_and, and_false, and_self, if_true, if_false, eq_self, ne_eq, not_false_eq_true, reduceCtorEq, Nat.zero_add, Nat.add_zero, List.nil_append, List.append_nil, Nat.reduceAdd, Nat.reduceSub, Nat.reduceEqDiff, Nat.reduceLeDiff, List.replicate_succ, List.replicate_zero, Bool.and_self, Int.reduceEq, Nat.reduceBNe]
      rw [if_neg q3] at eE eA1
      have p1 : (cl == 1) = false := by simpa using q1
      have p3 : (cl == 3) = false := by simpa using q3
      have k3 : 0 ≤ cl := v1.1
      have c0 : (decide (cl < 1) || decide (3 < cl)) = true := by simp; omega
      by_cases q4 : r1.2 = 0
      · rw [if_pos q4] at eE
        have c1 : (r1.2 == 0) = true := by simpa using q4
        simp only [c0, c1, p1, if_true, if_false, eq_self, Bool.false_eq_true, Bool.true_and, Bool.and_self]
        have e5 : rM b 2 1 5 (r1.1, 5) = (r1.1, 5) := rM_err (show (5 : Int) ≠ 0 by decide)
        have mv2 : rMV b 2 1 (r1.1, 5) = 0 := by unfold rMV rV; simp
        refine inC_ops TO 100 (rm_inC (n := 15) (k := 2) (m := 1) (e := 5) (r := (r1.1, 5)) (tail := []) rfl hb2 hB h1 rfl) Tryd.func48 (by decide +kernel) rfl rfl rfl ⟨⟨rfl, rfl, by simp only [evO, constSV, gdP, gdPs, List.getD, List.getElem?_cons_zero, List.getElem?_cons_succ, Option.getD_some, and_self]⟩, ?_⟩
        simp only [rdC, p3, e5, mv2, pureOpC, unc, absRun, absOps, absOp, evO, constSV, ungd, gdP, gdPs, setD, binI, binV, ptrE, T_ty, T_size, tTy, tSize, fieldOf, faddrV, pureOp, memOp, loadV, scal, cellAt, setC, blkAt, fnd, upd, Op.operands, List.getD, List.getElem?_cons_zero, List.getElem?_cons_succ, List.getElem?_nil, Option.getD_some, Option.getD_none, List.set, List.toList_toArray, Option.map_some, Option.map_none, true_and, and_self, if_true, if_false, eq_self, ne_eq, not_false_eq_true, reduceCtorEq, Bool.false_eq_true, Nat.zero_add, Int.reduceBEq, Nat.reduceAdd, Nat.reduceSub, Nat.reduceEqDiff, Nat.reduceLT, Nat.succ_ne_self]
        refine inC_ops TO 100 (re_inC (n := 15)  (r := (r1.1, 5)) (tail := []) rfl hb2 hB h1) Tryd.func51 (by decide +kernel) rfl rfl rfl ⟨⟨rfl, rfl, by simp only [evO, gdP, gdPs, List.getD, List.getElem?_cons_zero, List.getElem?_cons_succ, Option.getD_some, and_self]⟩, ?_⟩
        rw [← eE]
        by_cases hE : igE 17 b = 0
        · have z := rEnd_zero (eE.symm.trans hE)
          rw [eA1 hE]
          simp only [hE, rdC, Ask.svZ, askZ, pureOpC, buildV, fillC, cntC, unc, absRun, absOps, absOp, evO, constSV, ungd, gdP, gdPs, setD, binI, binV, ptrE, T_ty, T_size, T_zero, tTy, tSize, tZero, pureOp, memOp, loadV, scal, okC, takeC, dropC, blkAt, fnd, upd, retP, resV, retQ, rAs, rA, rA0, rAl, ownN, nodup, bares, bare, bare0, bareL, Op.operands, List.getD, List.getElem?_cons_zero, List.getElem?_cons_succ, Option.getD_some, List.set, List.map, List.all, List.toList_toArray, Option.bind_some, Option.map_some, true_and, and_true, and_self, if_true, if_false, eq_self, ne_eq, not_false_eq_true, reduceCtorEq, Bool.false_eq_true, Nat.zero_add, Nat.add_zero, Int.reduceBNe, List.nil_append, List.append_nil, Nat.reduceAdd, Nat.reduceSub, Nat.reduceEqDiff, Nat.reduceLeDiff, List.replicate_succ, List.replicate_zero, Bool.and_self, Nat.reduceBNe]
        · have hE' : (igE 17 b != 0) = true := by simpa using hE
          rw [eA0 hE]
          simp only [hE', rdC, Ask.svZ, askZ, pureOpC, buildV, fillC, cntC, unc, absRun, absOps, absOp, evO, constSV, ungd, gdP, gdPs, setD, binI, binV, ptrE, T_ty, T_size, T_zero, tTy, tSize, tZero, pureOp, memOp, loadV, scal, okC, takeC, dropC, blkAt, fnd, upd, retP, resV, retQ, rAs, rA, rA0, rAl, ownN, nodup, bares, bare, bare0, bareL, Op.operands, List.getD, List.getElem?_cons_zero, List.getElem?_cons_succ, Option.getD_some, List.set, List.map, List.all, List.toList_toArray, Option.bind_some, Option.map_some, true_and, and_true, and_self, if_true, if_false, eq_self, ne_eq, not_false_eq_true, reduceCtorEq, Nat.zero_add, Nat.add_zero, List.nil_append, List.append_nil, Nat.reduceAdd, Nat.reduceSub, Nat.reduceEqDiff, Nat.reduceLeDiff, List.replicate_succ, List.replicate_zero, Bool.and_self, Nat.reduceBNe]
      · rw [if_neg q4] at eE
        have c1 : (r1.2 == 0) = false := by simpa using q4
        simp only [c0, c1, p1, if_false, Bool.false_eq_true, Bool.and_true, Bool.false_and]
        have e5 : rM b 2 1 5 r1 = r1 := rM_err q4
        have mv2 : rMV b 2 1 r1 = 0 := by
          have g : rV b 2 r1 = 0 := by unfold rV; rw [if_pos q4]
          unfold rMV; rw [g]; split <;> rfl
        refine inC_ops TO 100 (rm_inC (n := 15) (k := 2) (m := 1) (e := 5) (r := r1) (tail := []) rfl hb2 hB h1 rfl) Tryd.func48 (by decide +kernel) rfl rfl rfl ⟨⟨rfl, rfl, by simp only [evO, constSV, gdP, gdPs, List.getD, List.getElem?_cons_zero, List.getElem?_cons_succ, Option.getD_some, and_self]⟩, ?_⟩
        simp only [rdC, p3, e5, mv2, pureOpC, unc, absRun, absOps, absOp, evO, constSV, ungd, gdP, gdPs, setD, binI, binV, ptrE, T_ty, T_size, tTy, tSize, fieldOf, faddrV, pureOp, memOp, loadV, scal, cellAt, setC, blkAt, fnd, upd, Op.operands, List.getD, List.getElem?_cons_zero, List.getElem?_cons_succ, List.getElem?_nil, Option.getD_some, Option.getD_none, List.set, List.toList_toArray, Option.map_some, Option.map_none, true_and, and_self, if_true, if_false, eq_self, ne_eq, not_false_eq_true, reduceCtorEq, Bool.false_eq_true, Nat.zero_add, Int.reduceBEq, Nat.reduceAdd, Nat.reduceSub, Nat.reduceEqDiff, Nat.reduceLT, Nat.succ_ne_self]
        refine inC_ops TO 100 (re_inC (n := 15)  (r := r1) (tail := []) rfl hb2 hB h1) Tryd.func51 (by decide +kernel) rfl rfl rfl ⟨⟨rfl, rfl, by simp only [evO, gdP, gdPs, List.getD, List.getElem?_cons_zero, List.getElem?_cons_succ, Option.getD_some, and_self]⟩, ?_⟩
        rw [← eE]
        by_cases hE : igE 17 b = 0
        · have z := rEnd_zero (eE.symm.trans hE)
          rw [eA1 hE]
          simp only [hE, rdC, Ask.svZ, askZ, pureOpC, buildV, fillC, cntC, unc, absRun, absOps, absOp, evO, constSV, ungd, gdP, gdPs, setD, binI, binV, ptrE, T_ty, T_size, T_zero, tTy, tSize, tZero, pureOp, memOp, loadV, scal, okC, takeC, dropC, blkAt, fnd, upd, retP, resV, retQ, rAs, rA, rA0, rAl, ownN, nodup, bares, bare, bare0, bareL, Op.operands, List.getD, List.getElem?_cons_zero, List.getElem?_cons_succ, Option.getD_some, List.set, List.map, List.all, List.toList_toArray, Option.bind_some, Option.map_some, true_and, and_true, and_self, if_true, if_false, eq_self, ne_eq, not_false_eq_true, reduceCtorEq, Bool.false_eq_true, Nat.zero_add, Nat.add_zero, Int.reduceBNe, List.nil_append, List.append_nil, Nat.reduceAdd, Nat.reduceSub, Nat.reduceEqDiff, Nat.reduceLeDiff, List.replicate_succ, List.replicate_zero, Bool.and_self, Nat.reduceBNe]
        · have hE' : (igE 17 b != 0) = true := by simpa using hE
          rw [eA0 hE]
          simp only [hE', rdC, Ask.svZ, askZ, pureOpC, buildV, fillC, cntC, unc, absRun, absOps, absOp, evO, constSV, ungd, gdP, gdPs, setD, binI, binV, ptrE, T_ty, T_size, T_zero, tTy, tSize, tZero, pureOp, memOp, loadV, scal, okC, takeC, dropC, blkAt, fnd, upd, retP, resV, retQ, rAs, rA, rA0, rAl, ownN, nodup, bares, bare, bare0, bareL, Op.operands, List.getD, List.getElem?_cons_zero, List.getElem?_cons_succ, Option.getD_some, List.set, List.map, List.all, List.toList_toArray, Option.bind_some, Option.map_some, true_and, and_true, and_self, if_true, if_false, eq_self, ne_eq, not_false_eq_true, reduceCtorEq, Nat.zero_add, Nat.add_zero, List.nil_append, List.append_nil, Nat.reduceAdd, Nat.reduceSub, Nat.reduceEqDiff, Nat.reduceLeDiff, List.replicate_succ, List.replicate_zero, Bool.and_self, Nat.reduceBNe]
    by_cases c18 : c = 18
    · subst c18
      have eR : igR 18 b = rM b 2 0 5 (rM b 1 0 5 (rN b 1 (rN b 8 (0, 0)))) := rfl
      have eV : igV 18 b = { askZ with file := rV b 8 (0, 0), level := rV b 1 (rN b 8 (0, 0)) } := rfl
      rw [eR] at eE
      rw [eV] at eA1
      clear eR eV
      simp only [rdC, pureOpC, unc, absRun, absOps, absOp, evO, constSV, ungd, gdP, gdPs, setD, binI, binV, ptrE, T_ty, T_size, tTy, tSize, fieldOf, faddrV, pureOp, memOp, scal, setC, blkAt, fnd, upd, Op.operands, List.getD, List.getElem?_cons_zero, List.getElem?_cons_succ, Option.getD_some, List.set, List.toList_toArray, Option.map_some, Option.map_none, true_and, and_self, if_true, if_false, eq_self, ne_eq, not_false_eq_true, reduceCtorEq, Bool.false_eq_true, Nat.zero_add, Int.reduceBEq, Nat.reduceAdd, Nat.reduceSub, Nat.reduceEqDiff, Nat.reduceLT, Nat.succ_ne_self, beq_self_eq_true]
      generalize rN b 8 (0, 0) = q at *
      generalize rV b 8 (0, 0) = fl at *
      refine inC_ops TO 100 (rn_inC (n := 15) (k := 1) (r := q) (tail := []) rfl hb2 hB h0 rfl) Tryd.func49 (by decide +kernel) rfl rfl rfl ⟨⟨rfl, rfl, by simp only [evO, constSV, gdP, gdPs, List.getD, List.getElem?_cons_zero, List.getElem?_cons_succ, Option.getD_some, and_self]⟩, ?_⟩
      have h1 := rN_le (b := b) (k := 1) (r := q) h0
      have v1 := rV_lt b 1 q hB
      have w1 : IntKind.u8.wrap (rV b 1 q) = rV b 1 q := by rw [IntKind.wrap_u8]; omega
      simp only [rdC, w1, pureOpC, unc, absRun, absOps, absOp, evO, ungd, gdP, gdPs, setD, convV, T_ty, T_size, tTy, tSize, fieldOf, faddrV, pureOp, memOp, scal, known, setC, blkAt, fnd, upd, Op.operands, List.getD, List.getElem?_cons_zero, List.getElem?_cons_succ, Option.getD_some, List.set, List.toList_toArray, Option.map_some, Option.map_none, true_and, and_self, if_true, if_false, eq_self, ne_eq, not_false_eq_true, reduceCtorEq, Nat.zero_add, Nat.reduceAdd, Nat.reduceSub, Nat.reduceEqDiff, Nat.reduceLT, Nat.succ_ne_self]
      generalize rN b 1 q = r1 at *
      refine inC_ops TO 100 (rm_inC (n := 15) (k := 1) (m := 0) (e := 5) (r := r1) (tail := []) rfl hb2 hB h1 rfl) Tryd.func48 (by decide +kernel) rfl rfl rfl ⟨⟨rfl, rfl, by simp only [evO, constSV, gdP, gdPs, List.getD, List.getElem?_cons_zero, List.getElem?_cons_succ, Option.getD_some, and_self]⟩, ?_⟩
      have h2 := rM_le (b := b) (k := 1) (m := 0) (e := 5) (r := r1) h1
      simp only [rdC, pureOpC, absRun, absOps, absOp, evO, ungd, gdP, gdPs, setD, pureOp, memOp, upd, Op.operands, List.getD, List.getElem?_cons_zero, List.getElem?_cons_succ, Option.getD_some, List.set, List.toList_toArray, true_and, and_self, if_true, if_false, eq_self, Nat.reduceAdd, Nat.reduceEqDiff]
      generalize rM b 1 0 5 r1 = r2 at *
      refine inC_ops TO 100 (rm_inC (n := 15) (k := 2) (m := 0) (e := 5) (r := r2) (tail := []) rfl hb2 hB h2 rfl) Tryd.func48 (by decide +kernel) rfl rfl rfl ⟨⟨rfl, rfl, by simp only [evO, constSV, gdP, gdPs, List.getD, List.getElem?_cons_zero, List.getElem?_cons_succ, Option.getD_some, and_self]⟩, ?_⟩
      have h3 := rM_le (b := b) (k := 2) (m := 0) (e := 5) (r := r2) h2
      simp only [rdC, pureOpC, absRun, absOps, absOp, evO, ungd, gdP, gdPs, setD, pureOp, memOp, upd, Op.operands, List.getD, List.getElem?_cons_zero, List.getElem?_cons_succ, Option.getD_some, List.set, List.toList_toArray, true_and, and_self, if_true, if_false, eq_self, Nat.reduceAdd, Nat.reduceEqDiff]
      generalize rM b 2 0 5 r2 = r3 at *
      refine inC_ops TO 100 (re_inC (n := 15)  (r := r3) (tail := []) rfl hb2 hB h3) Tryd.func51 (by decide +kernel) rfl rfl rfl ⟨⟨rfl, rfl, by simp only [evO, gdP, gdPs, List.getD, List.getElem?_cons_zero, List.getElem?_cons_succ, Option.getD_some, and_self]⟩, ?_⟩
      rw [← eE]
      by_cases hE : igE 18 b = 0
      · have z := rEnd_zero (eE.symm.trans hE)
        rw [eA1 hE]
        simp only [hE, rdC, Ask.svZ, askZ, pureOpC, buildV, fillC, cntC, unc, absRun, absOps, absOp, evO, constSV, ungd, gdP, gdPs, setD, binI, binV, ptrE, T_ty, T_size, T_zero, tTy, tSize, tZero, pureOp, memOp, loadV, scal, okC, takeC, dropC, blkAt, fnd, upd, retP, resV, retQ, rAs, rA, rA0, rAl, ownN, nodup, bares, bare, bare0, bareL, Op.operands, List.getD, List.getElem?_cons_zero, List.getElem?_cons_succ, Option.getD_some, List.set, List.map, List.all, List.toList_toArray, Option.bind_some, Option.map_some, true_and, and_true, and_self, if_true, if_false, eq_self, ne_eq, not_false_eq_true, reduceCtorEq, Bool.false_eq_true, Nat.zero_add, Nat.add_zero, Int.reduceBNe, List.nil_append, List.append_nil, Nat.reduceAdd, Nat.reduceSub, Nat.reduceEqDiff, Nat.reduceLeDiff, List.replicate_succ, List.replicate_zero, Bool.and_self, Nat.reduceBNe]
      · have hE' : (igE 18 b != 0) = true := by simpa using hE
        rw [eA0 hE]
        simp only [hE', rdC, Ask.svZ, askZ, pureOpC, buildV, fillC, cntC, unc, absRun, absOps, absOp, evO, constSV, ungd, gdP, gdPs, setD, binI, binV, ptrE, T_ty, T_size, T_zero, tTy, tSize, tZero, pureOp, memOp, loadV, scal, okC, takeC, dropC, blkAt, fnd, upd, retP, resV, retQ, rAs, rA, rA0, rAl, ownN, nodup, bares, bare, bare0, bareL, Op.operands, List.getD, List.getElem?_cons_zero, List.getElem?_cons_succ, Option.getD_some, List.set, List.map, List.all, List.toList_toArray, Option.bind_some, Option.map_some, true_and, and_true, and_self, if_true, if_false, eq_self, ne_eq, not_false_eq_true, reduceCtorEq, Nat.zero_add, Nat.add_zero, List.nil_append, List.append_nil, Nat.reduceAdd, Nat.reduceSub, Nat.reduceEqDiff, Nat.reduceLeDiff, List.replicate_succ, List.replicate_zero, Bool.and_self, Nat.reduceBNe]
    have eR : igR c b = (rN b 8 (0, 0)) := by unfold igR; rw [if_neg c12, if_neg c14, if_neg c17, if_neg c18]; rfl
    have eV : igV c b = { askZ with file := rV b 8 (0, 0) } := by unfold igV; rw [if_neg c12, if_neg c14, if_neg c17, if_neg c18]
    have d14 : (c == 14) = false := by simpa using c14
    have d17 : (c == 17) = false := by simpa using c17
    have d18 : (c == 18) = false := by simpa using c18
    rw [eR] at eE
    rw [eV] at eA1
    clear eR eV
    simp only [rdC, d14, d17, d18, pureOpC, unc, absRun, absOps, absOp, evO, constSV, ungd, gdP, gdPs, setD, binI, binV, ptrE, T_ty, T_size, tTy, tSize, fieldOf, faddrV, pureOp, memOp, scal, setC, blkAt, fnd, upd, Op.operands, List.getD, List.getElem?_cons_zero, List.getElem?_cons_succ, Option.getD_some, List.set, List.toList_toArray, Option.map_some, Option.map_none, true_and, and_self, if_true, if_false, eq_self, ne_eq, not_false_eq_true, reduceCtorEq, Bool.false_eq_true, Nat.zero_add, Nat.reduceAdd, Nat.reduceSub, Nat.reduceEqDiff, Nat.reduceLT, Nat.succ_ne_self]
    generalize rN b 8 (0, 0) = q at *
    generalize rV b 8 (0, 0) = fl at *
    refine inC_ops TO 100 (re_inC (n := 15)  (r := q) (tail := []) rfl hb2 hB h0) Tryd.func51 (by decide +kernel) rfl rfl rfl ⟨⟨rfl, rfl, by simp only [evO, gdP, gdPs, List.getD, List.getElem?_cons_zero, List.getElem?_cons_succ, Option.getD_some, and_self]⟩, ?_⟩
    rw [← eE]
    by_cases hE : igE c b = 0
    · have z := rEnd_zero (eE.symm.trans hE)
      rw [eA1 hE]
      simp only [hE, rdC, Ask.svZ, askZ, pureOpC, buildV, fillC, cntC, unc, absRun, absOps, absOp, evO, constSV, ungd, gdP, gdPs, setD, binI, binV, ptrE, T_ty, T_size, T_zero, tTy, tSize, tZero, pureOp, memOp, loadV, scal, okC, takeC, dropC, blkAt, fnd, upd, retP, resV, retQ, rAs, rA, rA0, rAl, ownN, nodup, bares, bare, bare0, bareL, Op.operands, List.getD, List.getElem?_cons_zero, List.getElem?_cons_succ, Option.getD_some, List.set, List.map, List.all, List.toList_toArray, Option.bind_some, Option.map_some, true_and, and_true, and_self, if_true, if_false, eq_self, ne_eq, not_false_eq_true, reduceCtorEq, Bool.false_eq_true, Nat.zero_add, Nat.add_zero, Int.reduceBNe, List.nil_append, List.append_nil, Nat.reduceAdd, Nat.reduceSub, Nat.reduceEqDiff, Nat.reduceLeDiff, List.replicate_succ, List.replicate_zero, Bool.and_self, Nat.reduceBNe]
    · have hE' : (igE c b != 0) = true := by simpa using hE
      rw [eA0 hE]
      simp only [hE', rdC, Ask.svZ, askZ, pureOpC, buildV, fillC, cntC, unc, absRun, absOps, absOp, evO, constSV, ungd, gdP, gdPs, setD, binI, binV, ptrE, T_ty, T_size, T_zero, tTy, tSize, tZero, pureOp, memOp, loadV, scal, okC, takeC, dropC, blkAt, fnd, upd, retP, resV, retQ, rAs, rA, rA0, rAl, ownN, nodup, bares, bare, bare0, bareL, Op.operands, List.getD, List.getElem?_cons_zero, List.getElem?_cons_succ, Option.getD_some, List.set, List.map, List.all, List.toList_toArray, Option.bind_some, Option.map_some, true_and, and_true, and_self, if_true, if_false, eq_self, ne_eq, not_false_eq_true, reduceCtorEq, Nat.zero_add, Nat.add_zero, List.nil_append, List.append_nil, Nat.reduceAdd, Nat.reduceSub, Nat.reduceEqDiff, Nat.reduceLeDiff, List.replicate_succ, List.replicate_zero, Bool.and_self, Nat.reduceBNe]

end Go.Proofs.YtgipkhjpedpedaaDoor.Abs
