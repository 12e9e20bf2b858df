/- What file's GetAsk answers, the data an own slice. -/
import Derived.Test.YtakgefinmlomdaaDoorNY2
set_option linter.unusedVariables false
set_option linter.unusedSimpArgs false
set_option maxRecDepth 100000
namespace Go.Proofs.YtakgefinmlomdaaDoor.Abs
open Go Go.Proofs

def Ask.preK (a : Ask) : List SV := [.nil, .arr .u8 16 a.guid, .arr .u8 32 a.proof, .str a.user, .str a.share, .int .u32 a.access, .int .u32 a.sharing, .int .u32 a.way, .int .u32 a.options, .int .u8 a.level, .int .u8 a.durable, .int .u64 a.file, .str a.name, .int .u64 a.at_, .int .u32 a.n]
def Ask.postK (a : Ask) : List SV := [.view true (.locks a.locks), .int .u16 a.most, .str a.pattern, .str a.after, .int .u16 a.cls, .int .u64 a.size, .bool a.on]
/-- An Ask that was got: no dialects. -/
def Ask.svL (a : Ask) : SV := .agg (a.preK ++ .view true (.ints .u8 a.data) :: a.postK)

theorem Meets.askL {P : Program} {f : FuncId} {args : List AV} {a : Ask} {e : Int} (h1 : a.dialects = []) (h : Meets P f args [.v a.svL, .v (.int .i64 e)]) : Meets P f args [.v (a.sv true), .v (.int .i64 e)] := by
  refine h.weaken ?_
  simp [Ask.svL, Ask.preK, Ask.postK, Ask.sv, Ask.cells, retQ, rAs, rA, rAl, rA0, svs, AV.sv, ownN, nodup, bares, bare, bareL, bare0, bareD, Data.len, h1]

theorem lk_step {b : List Int} {N i : Nat} {r : Nat × Int} {l : List LockR} {D : List LockR × (Nat × Int)} (hi : i < N) (hr : r.2 = 0) (hD : D = lkF b (N - i) r l) : D = lkF b (N - (i + 1)) (lkR b r) (l ++ [lkX b r]) := by
  rw [hD, show N - i = (N - (i + 1)) + 1 by omega, lkF, if_pos hr]

theorem fgA_dialects (c : Int) (b : List Int) : (fgA c b).dialects = [] := by
  unfold fgA fgV
  repeat' split
  all_goals rfl

set_option maxHeartbeats 8000000 in
theorem fGetAskK_meets (c : Int) (b : List Int) (hc : 0 ≤ c) (hb : b.length ≤ 274877906944) (hB : Bytes b) : MeetsK Tryd.prog 18 [.v (.int .u16 c), .v (.view false (.ints .u8 b))] [.v (.agg (fgA c b).preK), .own (.ints .u8 (fgA c b).data), .v (.agg (fgA c b).postK), .v (.int .i64 (fgE c b))] pkA := by
  have hK := fk_meets c hc
  have hb2 : b.length ≤ 140737488351232 := by omega
  refine meetsK_go TO 100 15 Tryd.func18 rfl (fun X => ?_)
  simp only [Tryd.ntmps18, Tryd.results18, pureOpC, svs, blks, AV.sv, absRun, absOps, absOp, evO, constSV, ungd, gdP, gdPs, setD, T_size, T_zero, tSize, tZero, pureOp, memOp, newV, notIn, upd, Lim.add, Op.operands, List.getD, List.getElem?_cons_zero, Option.getD_some, List.set, List.toList_toArray, true_and, and_self, ne_eq, not_false_eq_true, reduceCtorEq, Nat.zero_add, List.cons_append, List.nil_append, List.length_cons, List.length_nil, Nat.reduceAdd, Nat.reduceSub, List.replicate_succ, List.replicate_zero]
  refine call_go TO 100 hK Tryd.func32 (by decide +kernel) rfl rfl rfl ?_
  cases hk : fkB c with
  | false =>
    have e1 : fgE c b = 2 := by unfold fgE; rw [if_neg (by rw [hk]; decide)]
    have e2 : fgA c b = askZ := by unfold fgA; rw [if_pos (by rw [e1]; decide)]
    rw [e1, e2]
    simp only [Ask.preK, Ask.postK, retPK, flat0, List.take_succ_cons, List.take_zero, List.drop_succ_cons, List.drop_zero, askZ, List.take_succ_cons, List.take_zero, List.drop_succ_cons, List.drop_zero, pureOpC, buildV, fillC, cntC, unc, absRun, absOps, absOp, evO, constSV, ungd, gdP, gdPs, setD, binI, binV, ptrE, unV, T_ty, T_size, T_zero, tTy, tSize, tZero, fieldOf, pureOp, memOp, loadV, newV, notIn, scal, cellsOf, okC, takeC, dropC, blkAt, fnd, upd, Data.len, Lim.add, resV, retQ, rAs, rA, rA0, rAl, ownN, nodup, bares, bare, bare0, bareL, bareD, guardIs, callP, callS, argS, mAs, mA, mA0, mB0, allNotIn, impN, impB, impT, packS, delL, Op.operands, List.getD, List.getElem?_cons_zero, List.getElem?_cons_succ, Option.getD_some, List.set, List.map, List.all, List.toList_toArray, Option.bind_some, Option.map_some, true_and, and_self, if_true, if_false, eq_self, ne_eq, not_false_eq_true, reduceCtorEq, Nat.zero_add, Nat.add_zero, List.cons_append, List.nil_append, List.append_nil, List.length_cons, List.length_nil, Nat.reduceAdd, Nat.reduceSub, Nat.reduceEqDiff, Nat.reduceLeDiff, Nat.reduceLT, Bool.not_false, List.replicate_succ, List.replicate_zero, Bool.and_self, Nat.reduceBNe]
  | true =>
    have eE : fgE c b = rEnd b (fgR c b) := by unfold fgE; rw [if_pos hk]
    have eA0 : fgE c b ≠ 0 → fgA c b = askZ := fun h => by unfold fgA; rw [if_pos h]
    have eA1 : fgE c b = 0 → fgA c b = fgV c b := fun h => by unfold fgA; rw [if_neg (fun g => g h)]
    simp only [pureOpC, buildV, fillC, cntC, unc, absRun, absOps, absOp, evO, constSV, ungd, gdP, gdPs, setD, binI, binV, ptrE, unV, T_ty, T_size, T_zero, tTy, tSize, tZero, fieldOf, pureOp, memOp, newV, notIn, scal, cellsOf, okC, takeC, dropC, blkAt, fnd, upd, Lim.add, ownN, nodup, bares, bare, bare0, guardIs, callP, callS, argS, mAs, mA, mA0, mB0, allNotIn, impN, impB, impT, packS, delL, Op.operands, List.getD, List.getElem?_cons_zero, List.getElem?_cons_succ, Option.getD_some, List.set, List.map, List.all, List.toList_toArray, true_and, and_self, if_true, if_false, eq_self, ne_eq, not_false_eq_true, reduceCtorEq, Bool.false_eq_true, Nat.zero_add, Nat.add_zero, List.cons_append, List.nil_append, List.append_nil, Nat.reduceAdd, Nat.reduceSub, Nat.reduceEqDiff, Nat.reduceLeDiff, Bool.not_true, List.replicate_succ, List.replicate_zero, Bool.and_self, Nat.reduceBNe]
    by_cases c5 : c = 5
    · subst c5
      have eR : fgR 5 b = rU b (fc8 b) := rfl
      rw [eR] at eE
      clear eR
      simp only [if_true, if_false, eq_self, Bool.false_eq_true, Int.reduceBEq, beq_self_eq_true]
      refine inC_ops TO 100 (fcre_inC b hb hB) Tryd.func43 (by decide +kernel) rfl rfl rfl ⟨⟨rfl, rfl, by simp only [evO, gdP, gdPs, List.getD, List.getElem?_cons_zero, List.getElem?_cons_succ, Option.getD_some, and_self]⟩, ?_⟩
      have h8 : (rU b (fc8 b)).1 ≤ b.length := fc8_le b hB
      simp only [rdC, crC, Ask.cellsW, zC, pureOpC, cntC, unc, absRun, absOps, absOp, evO, ungd, gdP, gdPs, setD, T_ty, T_size, tTy, tSize, pureOp, memOp, scal, okC, takeC, dropC, blkAt, fnd, upd, Op.operands, List.getD, List.getElem?_cons_zero, List.getElem?_cons_succ, Option.getD_some, List.set, List.toList_toArray, true_and, and_self, if_true, if_false, eq_self, ne_eq, not_false_eq_true, reduceCtorEq, Nat.zero_add, Nat.add_zero, List.nil_append, List.append_nil, Nat.reduceAdd, Nat.reduceSub, Nat.reduceEqDiff, Nat.reduceLeDiff, Bool.and_self]
      generalize rU b (fc8 b) = r1 at *
      refine inC_ops TO 100 (fe_inC (n := 18) (r := r1) (tail := []) rfl hb2 hB h8) Tryd.func49 (by decide +kernel) rfl rfl rfl ⟨⟨rfl, rfl, by simp only [evO, gdP, gdPs, List.getD, List.getElem?_cons_zero, List.getElem?_cons_succ, Option.getD_some, and_self]⟩, ?_⟩
      rw [← eE]
      by_cases hE : fgE 5 b = 0
      · rw [eA1 hE]
        simp only [hE, rdC, Ask.preK, Ask.postK, retPK, flat0, List.take_succ_cons, List.take_zero, List.drop_succ_cons, List.drop_zero, List.take_succ_cons, List.take_zero, List.drop_succ_cons, List.drop_zero, pureOpC, buildV, fillC, cntC, unc, absRun, absOps, absOp, evO, constSV, ungd, gdP, gdPs, setD, binI, binV, ptrE, T_ty, T_size, T_zero, tTy, tSize, tZero, pureOp, memOp, loadV, scal, okC, takeC, dropC, blkAt, fnd, upd, Data.len, resV, retQ, rAs, rA, rA0, rAl, ownN, nodup, bares, bare, bare0, bareL, bareD, Op.operands, List.getD, List.getElem?_cons_zero, List.getElem?_cons_succ, Option.getD_some, List.set, List.map, List.all, List.toList_toArray, Option.bind_some, Option.map_some, true_and, and_true, and_self, if_true, if_false, eq_self, ne_eq, not_false_eq_true, reduceCtorEq, Bool.false_eq_true, Nat.zero_add, Nat.add_zero, Int.reduceBNe, List.nil_append, List.append_nil, List.length_cons, List.length_nil, Nat.reduceAdd, Nat.reduceSub, Nat.reduceEqDiff, Nat.reduceLeDiff, Nat.reduceLT, List.replicate_succ, List.replicate_zero, Bool.and_self, Nat.reduceBNe]
        exact ⟨rfl, rfl⟩
      · have hE' : (fgE 5 b != 0) = true := by simpa using hE
        rw [eA0 hE]
        simp only [hE', rdC, Ask.preK, Ask.postK, retPK, flat0, List.take_succ_cons, List.take_zero, List.drop_succ_cons, List.drop_zero, askZ, List.take_succ_cons, List.take_zero, List.drop_succ_cons, List.drop_zero, pureOpC, buildV, fillC, cntC, unc, absRun, absOps, absOp, evO, constSV, ungd, gdP, gdPs, setD, binI, binV, ptrE, T_ty, T_size, T_zero, tTy, tSize, tZero, pureOp, memOp, loadV, scal, okC, takeC, dropC, blkAt, fnd, upd, Data.len, resV, retQ, rAs, rA, rA0, rAl, ownN, nodup, bares, bare, bare0, bareL, bareD, Op.operands, List.getD, List.getElem?_cons_zero, List.getElem?_cons_succ, Option.getD_some, List.set, List.map, List.all, List.toList_toArray, Option.bind_some, Option.map_some, true_and, and_true, and_self, if_true, if_false, eq_self, ne_eq, not_false_eq_true, reduceCtorEq, Nat.zero_add, Nat.add_zero, List.nil_append, List.append_nil, List.length_cons, List.length_nil, Nat.reduceAdd, Nat.reduceSub, Nat.reduceEqDiff, Nat.reduceLeDiff, Nat.reduceLT, List.replicate_succ, List.replicate_zero, Bool.and_self, Nat.reduceBNe]
    have d5 : (c == 5) = false := by simpa using c5
    simp only [d5, if_false, Bool.false_eq_true]
    by_cases c8 : c = 8
    · subst c8
      have eR : fgR 8 b = rN b 4 (rN b 8 (rN b 8 (0, 0))) := rfl
      have eV : fgV 8 b = { askZ with file := rV b 8 (0, 0), at_ := rV b 8 (rN b 8 (0, 0)), n := rV b 4 (rN b 8 (rN b 8 (0, 0))) } := rfl
      rw [eR] at eE
      rw [eV] at eA1
      clear eR eV
      simp only [if_true, if_false, eq_self, Bool.false_eq_true, Int.reduceBEq, beq_self_eq_true]
      refine inC_ops TO 100 (fn8_inC (n := 18) (r := (0, 0)) (tail := []) rfl hb2 hB (Nat.zero_le _)) Tryd.func44 (by decide +kernel) rfl rfl rfl ⟨⟨rfl, rfl, by simp only [evO, gdP, gdPs, List.getD, List.getElem?_cons_zero, List.getElem?_cons_succ, Option.getD_some, and_self]⟩, ?_⟩
      have h0 := rN_le (b := b) (k := 8) (r := (0, 0)) (Nat.zero_le _)
      simp only [rdC, pureOpC, buildV, fillC, cntC, unc, absRun, absOps, absOp, evO, ungd, gdP, gdPs, setD, T_ty, T_size, T_zero, tTy, tSize, tZero, fieldOf, pureOp, memOp, scal, cellsOf, okC, takeC, dropC, blkAt, fnd, upd, Op.operands, List.getD, List.getElem?_cons_zero, List.getElem?_cons_succ, Option.getD_some, List.set, List.map, List.all, List.toList_toArray, Option.map_some, true_and, and_self, if_true, if_false, eq_self, ne_eq, not_false_eq_true, reduceCtorEq, Nat.zero_add, Nat.add_zero, List.cons_append, List.nil_append, List.append_nil, Nat.reduceAdd, Nat.reduceSub, Nat.reduceEqDiff, Nat.reduceLeDiff, List.replicate_succ, List.replicate_zero, Bool.and_self, Nat.reduceBNe]
      generalize rN b 8 (0, 0) = q at *
      generalize rV b 8 (0, 0) = fl at *
      refine inC_ops TO 100 (fn8_inC (n := 18) (r := q) (tail := []) rfl hb2 hB h0) Tryd.func44 (by decide +kernel) rfl rfl rfl ⟨⟨rfl, rfl, by simp only [evO, gdP, gdPs, List.getD, List.getElem?_cons_zero, List.getElem?_cons_succ, Option.getD_some, and_self]⟩, ?_⟩
      have h1 := rN_le (b := b) (k := 8) (r := q) h0
      simp only [rdC, pureOpC, unc, absRun, absOps, absOp, evO, ungd, gdP, gdPs, setD, T_ty, T_size, tTy, tSize, fieldOf, faddrV, pureOp, memOp, scal, setC, blkAt, fnd, upd, Op.operands, List.getD, List.getElem?_cons_zero, List.getElem?_cons_succ, Option.getD_some, List.set, List.toList_toArray, Option.map_some, Option.map_none, true_and, and_self, if_true, if_false, eq_self, ne_eq, not_false_eq_true, reduceCtorEq, Nat.zero_add, Nat.reduceAdd, Nat.reduceSub, Nat.reduceEqDiff, Nat.reduceLT, Nat.succ_ne_self]
      generalize rN b 8 q = r1 at *
      refine inC_ops TO 100 (fn4_inC (n := 18) (r := r1) (tail := []) rfl hb2 hB h1) Tryd.func45 (by decide +kernel) rfl rfl rfl ⟨⟨rfl, rfl, by simp only [evO, gdP, gdPs, List.getD, List.getElem?_cons_zero, List.getElem?_cons_succ, Option.getD_some, and_self]⟩, ?_⟩
      have h2 := rN_le (b := b) (k := 4) (r := r1) h1
      have v2 := rV_lt b 4 r1 hB
      have w2 : IntKind.u32.wrap (rV b 4 r1) = rV b 4 r1 := by rw [IntKind.wrap_u32]; omega
      simp only [rdC, w2, pureOpC, unc, absRun, absOps, absOp, evO, ungd, gdP, gdPs, setD, convV, T_ty, T_size, tTy, tSize, fieldOf, faddrV, pureOp, memOp, scal, known, setC, blkAt, fnd, upd, Op.operands, List.getD, List.getElem?_cons_zero, List.getElem?_cons_succ, Option.getD_some, List.set, List.toList_toArray, Option.map_some, Option.map_none, true_and, and_self, if_true, if_false, eq_self, ne_eq, not_false_eq_true, reduceCtorEq, Nat.zero_add, Nat.reduceAdd, Nat.reduceSub, Nat.reduceEqDiff, Nat.reduceLT, Nat.succ_ne_self]
      generalize rN b 4 r1 = r2 at *
      refine inC_ops TO 100 (fe_inC (n := 18) (r := r2) (tail := []) rfl hb2 hB h2) Tryd.func49 (by decide +kernel) rfl rfl rfl ⟨⟨rfl, rfl, by simp only [evO, gdP, gdPs, List.getD, List.getElem?_cons_zero, List.getElem?_cons_succ, Option.getD_some, and_self]⟩, ?_⟩
      rw [← eE]
      by_cases hE : fgE 8 b = 0
      · rw [eA1 hE]
        simp only [hE, rdC, Ask.preK, Ask.postK, retPK, flat0, List.take_succ_cons, List.take_zero, List.drop_succ_cons, List.drop_zero, askZ, List.take_succ_cons, List.take_zero, List.drop_succ_cons, List.drop_zero, pureOpC, buildV, fillC, cntC, unc, absRun, absOps, absOp, evO, constSV, ungd, gdP, gdPs, setD, binI, binV, ptrE, T_ty, T_size, T_zero, tTy, tSize, tZero, pureOp, memOp, loadV, scal, okC, takeC, dropC, blkAt, fnd, upd, Data.len, resV, retQ, rAs, rA, rA0, rAl, ownN, nodup, bares, bare, bare0, bareL, bareD, Op.operands, List.getD, List.getElem?_cons_zero, List.getElem?_cons_succ, Option.getD_some, List.set, List.map, List.all, List.toList_toArray, Option.bind_some, Option.map_some, true_and, and_true, and_self, if_true, if_false, eq_self, ne_eq, not_false_eq_true, reduceCtorEq, Bool.false_eq_true, Nat.zero_add, Nat.add_zero, Int.reduceBNe, List.nil_append, List.append_nil, List.length_cons, List.length_nil, Nat.reduceAdd, Nat.reduceSub, Nat.reduceEqDiff, Nat.reduceLeDiff, Nat.reduceLT, List.replicate_succ, List.replicate_zero, Bool.and_self, Nat.reduceBNe]
      · have hE' : (fgE 8 b != 0) = true := by simpa using hE
        rw [eA0 hE]
        simp only [hE', rdC, Ask.preK, Ask.postK, retPK, flat0, List.take_succ_cons, List.take_zero, List.drop_succ_cons, List.drop_zero, askZ, List.take_succ_cons, List.take_zero, List.drop_succ_cons, List.drop_zero, pureOpC, buildV, fillC, cntC, unc, absRun, absOps, absOp, evO, constSV, ungd, gdP, gdPs, setD, binI, binV, ptrE, T_ty, T_size, T_zero, tTy, tSize, tZero, pureOp, memOp, loadV, scal, okC, takeC, dropC, blkAt, fnd, upd, Data.len, resV, retQ, rAs, rA, rA0, rAl, ownN, nodup, bares, bare, bare0, bareL, bareD, Op.operands, List.getD, List.getElem?_cons_zero, List.getElem?_cons_succ, Option.getD_some, List.set, List.map, List.all, List.toList_toArray, Option.bind_some, Option.map_some, true_and, and_true, and_self, if_true, if_false, eq_self, ne_eq, not_false_eq_true, reduceCtorEq, Nat.zero_add, Nat.add_zero, List.nil_append, List.append_nil, List.length_cons, List.length_nil, Nat.reduceAdd, Nat.reduceSub, Nat.reduceEqDiff, Nat.reduceLeDiff, Nat.reduceLT, List.replicate_succ, List.replicate_zero, Bool.and_self, Nat.reduceBNe]
    by_cases c9 : c = 9
    · subst c9
      have eR : fgR 9 b = fdR b (rN b 8 (rN b 8 (0, 0))) := rfl
      have eV : fgV 9 b = { askZ with file := rV b 8 (0, 0), at_ := rV b 8 (rN b 8 (0, 0)), data := fdV b (rN b 8 (rN b 8 (0, 0))) } := rfl
      rw [eR] at eE
      rw [eV] at eA1
      clear eR eV
      have d8 : ((9 : Int) == 8) = false := by decide
      simp only [if_true, if_false, eq_self, Bool.false_eq_true, Int.reduceBEq, beq_self_eq_true]
      refine inC_ops TO 100 (fn8_inC (n := 18) (r := (0, 0)) (tail := []) rfl hb2 hB (Nat.zero_le _)) Tryd.func44 (by decide +kernel) rfl rfl rfl ⟨⟨rfl, rfl, by simp only [evO, gdP, gdPs, List.getD, List.getElem?_cons_zero, List.getElem?_cons_succ, Option.getD_some, and_self]⟩, ?_⟩
      have h0 := rN_le (b := b) (k := 8) (r := (0, 0)) (Nat.zero_le _)
      simp only [rdC, pureOpC, buildV, fillC, cntC, unc, absRun, absOps, absOp, evO, ungd, gdP, gdPs, setD, T_ty, T_size, T_zero, tTy, tSize, tZero, fieldOf, pureOp, memOp, scal, cellsOf, okC, takeC, dropC, blkAt, fnd, upd, Op.operands, List.getD, List.getElem?_cons_zero, List.getElem?_cons_succ, Option.getD_some, List.set, List.map, List.all, List.toList_toArray, Option.map_some, true_and, and_self, if_true, if_false, eq_self, ne_eq, not_false_eq_true, reduceCtorEq, Nat.zero_add, Nat.add_zero, List.cons_append, List.nil_append, List.append_nil, Nat.reduceAdd, Nat.reduceSub, Nat.reduceEqDiff, Nat.reduceLeDiff, List.replicate_succ, List.replicate_zero, Bool.and_self, Nat.reduceBNe]
      generalize rN b 8 (0, 0) = q at *
      generalize rV b 8 (0, 0) = fl at *
      refine inC_ops TO 100 (fn8_inC (n := 18) (r := q) (tail := []) rfl hb2 hB h0) Tryd.func44 (by decide +kernel) rfl rfl rfl ⟨⟨rfl, rfl, by simp only [evO, gdP, gdPs, List.getD, List.getElem?_cons_zero, List.getElem?_cons_succ, Option.getD_some, and_self]⟩, ?_⟩
      have h1 := rN_le (b := b) (k := 8) (r := q) h0
      simp only [rdC, pureOpC, unc, absRun, absOps, absOp, evO, ungd, gdP, gdPs, setD, T_ty, T_size, tTy, tSize, fieldOf, faddrV, pureOp, memOp, scal, setC, blkAt, fnd, upd, Op.operands, List.getD, List.getElem?_cons_zero, List.getElem?_cons_succ, Option.getD_some, List.set, List.toList_toArray, Option.map_some, Option.map_none, true_and, and_self, if_true, if_false, eq_self, ne_eq, not_false_eq_true, reduceCtorEq, Nat.zero_add, Nat.reduceAdd, Nat.reduceSub, Nat.reduceEqDiff, Nat.reduceLT, Nat.succ_ne_self]
      generalize rN b 8 q = r1 at *
      by_cases hok : (fdR b r1).2 = 0
      · skip
        refine inC_ops TO 100 (fd_ok_inC (n := 18) (r := r1) (tail := []) rfl rfl hb2 hB h1 hok) Tryd.func46 (by decide +kernel) rfl rfl rfl ⟨⟨rfl, rfl, by simp only [evO, gdP, gdPs, List.getD, List.getElem?_cons_zero, List.getElem?_cons_succ, Option.getD_some, and_self]⟩, ?_⟩
        have h2 := fdR_le (b := b) h1 hB
        simp only [rdC, pureOpC, unc, absRun, absOps, absOp, evO, ungd, gdP, gdPs, setD, T_ty, T_size, tTy, tSize, fieldOf, faddrV, pureOp, memOp, scal, setC, blkAt, fnd, upd, Op.operands, List.getD, List.getElem?_cons_zero, List.getElem?_cons_succ, Option.getD_some, List.set, List.toList_toArray, Option.map_some, Option.map_none, Option.isSome, true_and, and_self, if_true, if_false, eq_self, ne_eq, not_false_eq_true, reduceCtorEq, Nat.zero_add, Nat.reduceAdd, Nat.reduceSub, Nat.reduceEqDiff, Nat.reduceLT, Nat.succ_ne_self]
        generalize fdR b r1 = r2 at *
        generalize fdV b r1 = dv at *
        refine inC_ops TO 100 (fe_inC (n := 18) (r := r2) (tail := []) rfl hb2 hB h2) Tryd.func49 (by decide +kernel) rfl rfl rfl ⟨⟨rfl, rfl, by simp only [evO, gdP, gdPs, List.getD, List.getElem?_cons_zero, List.getElem?_cons_succ, Option.getD_some, and_self]⟩, ?_⟩
        rw [← eE]
        by_cases hE : fgE 9 b = 0
        · rw [eA1 hE]
          simp only [hE, rdC, Ask.preK, Ask.postK, retPK, flat0, List.take_succ_cons, List.take_zero, List.drop_succ_cons, List.drop_zero, askZ, List.take_succ_cons, List.take_zero, List.drop_succ_cons, List.drop_zero, pureOpC, buildV, fillC, cntC, unc, absRun, absOps, absOp, evO, constSV, ungd, gdP, gdPs, setD, binI, binV, ptrE, T_ty, T_size, T_zero, tTy, tSize, tZero, pureOp, memOp, loadV, notIn, scal, okC, takeC, dropC, blkAt, fnd, upd, Data.len, Data.esz, resV, retQ, rAs, rA, rA0, rAl, ownN, nodup, bares, bare, bare0, bareL, bareD, Op.operands, List.getD, List.getElem?_cons_zero, List.getElem?_cons_succ, Option.getD_some, List.set, List.map, List.all, List.toList_toArray, Option.bind_some, Option.map_some, Option.isSome, true_and, and_true, and_self, if_true, if_false, eq_self, ne_eq, not_false_eq_true, reduceCtorEq, Bool.false_eq_true, Nat.zero_add, Nat.add_zero, Int.reduceBNe, List.nil_append, List.append_nil, List.length_cons, List.length_nil, Nat.reduceAdd, Nat.reduceSub, Nat.reduceEqDiff, Nat.reduceLeDiff, Nat.reduceLT, List.replicate_succ, List.replicate_zero, Bool.and_self, Nat.reduceBNe]
        · have hE' : (fgE 9 b != 0) = true := by simpa using hE
          rw [eA0 hE]
          simp only [hE', rdC, Ask.preK, Ask.postK, retPK, flat0, List.take_succ_cons, List.take_zero, List.drop_succ_cons, List.drop_zero, askZ, List.take_succ_cons, List.take_zero, List.drop_succ_cons, List.drop_zero, pureOpC, buildV, fillC, cntC, unc, absRun, absOps, absOp, evO, constSV, ungd, gdP, gdPs, setD, binI, binV, ptrE, T_ty, T_size, T_zero, tTy, tSize, tZero, pureOp, memOp, loadV, notIn, scal, okC, takeC, dropC, blkAt, fnd, upd, Data.len, Data.esz, resV, retQ, rAs, rA, rA0, rAl, ownN, nodup, bares, bare, bare0, bareL, bareD, Op.operands, List.getD, List.getElem?_cons_zero, List.getElem?_cons_succ, Option.getD_some, List.set, List.map, List.all, List.toList_toArray, Option.bind_some, Option.map_some, Option.isSome, true_and, and_true, and_self, if_true, if_false, eq_self, ne_eq, not_false_eq_true, reduceCtorEq, Nat.zero_add, Nat.add_zero, List.nil_append, List.append_nil, List.length_cons, List.length_nil, Nat.reduceAdd, Nat.reduceSub, Nat.reduceEqDiff, Nat.reduceLeDiff, Nat.reduceLT, List.replicate_succ, List.replicate_zero, Bool.and_self, Data.ints.injEq, Nat.reduceBNe]
      refine inC_ops TO 100 (fd_nil_inC (n := 18) (r := r1) (tail := []) rfl rfl hb2 hB h1 hok) Tryd.func46 (by decide +kernel) rfl rfl rfl ⟨⟨rfl, rfl, by simp only [evO, gdP, gdPs, List.getD, List.getElem?_cons_zero, List.getElem?_cons_succ, Option.getD_some, and_self]⟩, ?_⟩
      have h2 := fdR_le (b := b) h1 hB
      simp only [rdC, pureOpC, unc, absRun, absOps, absOp, evO, ungd, gdP, gdPs, setD, T_ty, T_size, tTy, tSize, fieldOf, faddrV, pureOp, memOp, scal, setC, blkAt, fnd, upd, Op.operands, List.getD, List.getElem?_cons_zero, List.getElem?_cons_succ, Option.getD_some, List.set, List.toList_toArray, Option.map_some, Option.map_none, true_and, and_self, if_true, if_false, ite_self, eq_self, ne_eq, not_false_eq_true, reduceCtorEq, Nat.zero_add, Nat.reduceAdd, Nat.reduceSub, Nat.reduceEqDiff, Nat.reduceLT, Nat.succ_ne_self]
      have hne : fgE 9 b ≠ 0 := by rw [eE, rEnd_err hok]; exact hok
      generalize fdR b r1 = r2 at *
      refine inC_ops TO 100 (fe_inC (n := 18) (r := r2) (tail := []) rfl hb2 hB h2) Tryd.func49 (by decide +kernel) rfl rfl rfl ⟨⟨rfl, rfl, by simp only [evO, gdP, gdPs, List.getD, List.getElem?_cons_zero, List.getElem?_cons_succ, Option.getD_some, and_self]⟩, ?_⟩
      rw [← eE]
      have hE' : (fgE 9 b != 0) = true := by simpa using hne
      rw [eA0 hne]
      simp only [hE', rdC, Ask.preK, Ask.postK, retPK, flat0, List.take_succ_cons, List.take_zero, List.drop_succ_cons, List.drop_zero, askZ, List.take_succ_cons, List.take_zero, List.drop_succ_cons, List.drop_zero, pureOpC, buildV, fillC, cntC, unc, absRun, absOps, absOp, evO, constSV, ungd, gdP, gdPs, setD, binI, binV, ptrE, T_ty, T_size, T_zero, tTy, tSize, tZero, pureOp, memOp, loadV, scal, okC, takeC, dropC, blkAt, fnd, upd, Data.len, resV, retQ, rAs, rA, rA0, rAl, ownN, nodup, bares, bare, bare0, bareL, bareD, Op.operands, List.getD, List.getElem?_cons_zero, List.getElem?_cons_succ, Option.getD_some, List.set, List.map, List.all, List.toList_toArray, Option.bind_some, Option.map_some, true_and, and_true, and_self, if_true, if_false, eq_self, ne_eq, not_false_eq_true, reduceCtorEq, Nat.zero_add, Nat.add_zero, List.nil_append, List.append_nil, List.length_cons, List.length_nil, Nat.reduceAdd, Nat.reduceSub, Nat.reduceEqDiff, Nat.reduceLeDiff, Nat.reduceLT, List.replicate_succ, List.replicate_zero, Bool.and_self, Nat.reduceBNe]
    by_cases c10 : c = 10
    · subst c10
      have eR : fgR 10 b = (lk0 b).2 := rfl
      have eV : fgV 10 b = { askZ with file := rV b 8 (0, 0), locks := (lk0 b).1 } := rfl
      rw [eR] at eE
      rw [eV] at eA1
      clear eR eV
      have e0 : lkF b (rV b 2 (ig1 b)).toNat (rM b 2 0 5 (rM b 2 16 3 (ig1 b))) [] = lk0 b := rfl
      rw [show ig1 b = rN b 8 (0, 0) from rfl] at e0
      generalize lk0 b = D at *
      simp only [if_true, if_false, eq_self, Bool.false_eq_true, Int.reduceBEq, beq_self_eq_true]
      refine inC_ops TO 100 (fn8_inC (n := 18) (r := (0, 0)) (tail := []) rfl hb2 hB (Nat.zero_le _)) Tryd.func44 (by decide +kernel) rfl rfl rfl ⟨⟨rfl, rfl, by simp only [evO, gdP, gdPs, List.getD, List.getElem?_cons_zero, List.getElem?_cons_succ, Option.getD_some, and_self]⟩, ?_⟩
      have h0 := rN_le (b := b) (k := 8) (r := (0, 0)) (Nat.zero_le _)
      simp only [rdC, pureOpC, buildV, fillC, cntC, unc, absRun, absOps, absOp, evO, ungd, gdP, gdPs, setD, T_ty, T_size, T_zero, tTy, tSize, tZero, fieldOf, pureOp, memOp, scal, cellsOf, okC, flatB, takeC, dropC, blkAt, fnd, upd, Op.operands, List.getD, List.getElem?_cons_zero, List.getElem?_cons_succ, Option.getD_some, List.set, List.map, List.all, List.toList_toArray, Option.map_some, true_and, and_self, if_true, if_false, eq_self, ne_eq, not_false_eq_true, reduceCtorEq, Nat.zero_add, Nat.add_zero, List.append_toArray, List.cons_append, List.nil_append, List.append_nil, Nat.reduceAdd, Nat.reduceSub, Nat.reduceEqDiff, Nat.reduceLeDiff, List.replicate_succ, List.replicate_zero, Bool.and_self, Nat.reduceBNe]
      generalize rN b 8 (0, 0) = q at *
      generalize rV b 8 (0, 0) = fl at *
      have vN := rV_lt b 2 q hB
      obtain ⟨N, hNv⟩ : ∃ N : Nat, rV b 2 q = N := ⟨(rV b 2 q).toNat, by omega⟩
      rw [hNv] at e0 vN; rw [Int.toNat_natCast] at e0
      refine inC_ops TO 100 (fs2_inC (n := 18) (m := 16) (e := 3) (r := q) (tail := []) rfl hb2 hB h0) Tryd.func47 (by decide +kernel) rfl rfl rfl ⟨⟨rfl, rfl, by simp only [evO, constSV, gdP, gdPs, List.getD, List.getElem?_cons_zero, List.getElem?_cons_succ, Option.getD_some, and_self]⟩, ?_⟩
      have h1 := rM_le (b := b) (k := 2) (m := 16) (e := 3) (r := q) h0
      simp only [rdC, hNv, pureOpC, unc, absRun, absOps, absOp, evO, ungd, gdP, gdPs, setD, pureOp, memOp, flatB, upd, Op.operands, List.getD, List.getElem?_cons_zero, List.getElem?_cons_succ, Option.getD_some, List.set, List.map, List.all, List.toList_toArray, true_and, and_self, if_true, if_false, eq_self, List.append_toArray, List.append_nil, Nat.reduceAdd, Nat.reduceEqDiff, Bool.and_self]
      generalize rM b 2 16 3 q = r1 at *
      refine inC_ops TO 100 (fs2_inC (n := 18) (m := 0) (e := 5) (r := r1) (tail := []) rfl hb2 hB h1) Tryd.func47 (by decide +kernel) rfl rfl rfl ⟨⟨rfl, rfl, by simp only [evO, constSV, gdP, gdPs, List.getD, List.getElem?_cons_zero, List.getElem?_cons_succ, Option.getD_some, and_self]⟩, ?_⟩
      have h2 := rM_le (b := b) (k := 2) (m := 0) (e := 5) (r := r1) h1
      simp only [rdC, pureOpC, absRun, absOps, absOp, evO, constSV, ungd, gdP, gdPs, setD, upd, Op.operands, List.set, List.toList_toArray, true_and, and_self, if_true, if_false, eq_self, Nat.reduceAdd, Nat.reduceEqDiff]
      generalize rM b 2 0 5 r1 = r2 at *
      refine nilJ_go 7 93 200 16 (.locks []) rfl ⟨⟨by simp, rfl, rfl, by decide⟩, ?_⟩
      simp only [Data.esz, upd, Data.esz, List.set, if_true, if_false, eq_self, Nat.reduceAdd, Nat.reduceEqDiff]
      refine loop_up (fun x : Nat × (Nat × Int) × List LockR × Nat × Nat => x.1 ≤ N ∧ x.2.1.1 ≤ b.length ∧ D = lkF b (N - x.1) x.2.1 x.2.2.1 ∧ x.2.2.1.length ≤ x.1)
        (fun x => ⟨tl 102 0 [(4, .ptr 4 2 0), (5, .int .i64 0), (6, .ptr 18 4 0), (7, .ptr 7 5 0), (8, .int .u64 N), (9, .int .u64 x.1)], [(4, 2, .cells zC),
          (18, 4, rdC b x.2.1 []), (7, 5, .cells ((({ askZ with file := fl } : Ask).cellsW .nil (.sl 93 x.2.2.2.1 0 4 0 x.2.2.1.length)))), (93, x.2.2.2.1, .vec (.locks x.2.2.1))], ⟨x.2.2.2.2, [], 0⟩⟩) (fun x => N - x.1) (0, r2, [], 201, _) ⟨Nat.zero_le _, h2, e0.symm, Nat.le_refl _⟩ ⟨rfl, ?_, ?_⟩ ?_
      · simp [LeT, tl]
      · intro m x hx
        simpa [fnd, rdC, zC, askZ, Ask.cellsW] using hx
      rintro ⟨i, r, l, g, c⟩ ⟨hi, hr, hD, hl⟩ ih
      simp only at hi hr hD hl
      refine absRun_ok TO 100 _ _ ?_
      simp only [rdC, zC, askZ, Ask.cellsW, pureOpC, unc, absRun, absOps, absOp, evO, constSV, ungd, gdP, gdPs, setD, binI, binV, ptrE, T_ty, T_size, tTy, tSize, fieldOf, faddrV, pickV, pureOp, guardOf, memOp, loadV, cellAt, blkAt, fnd, Op.operands, List.getD, List.getElem?_cons_zero, List.getElem?_cons_succ, Option.getD_some, List.set, List.toList_toArray, List.getElem?_toArray, Option.bind_some, exitTo, true_and, and_self, implies_true, imp_self, if_true, if_false, eq_self, ne_eq, not_false_eq_true, reduceCtorEq, Bool.false_eq_true, Nat.zero_add, Bool.cond_false_right, List.cons_append, List.nil_append, Nat.reduceAdd, Nat.reduceSub, Nat.reduceEqDiff, Nat.reduceBEq, Nat.succ_ne_self, beq_self_eq_true, List.replicate_succ, List.replicate_zero, tl]
      by_cases hgo : i < N ∧ r.2 = 0
      · rw [if_pos (show (decide ((i : Int) < (N : Int)) && r.2 == 0) = true by simp; omega)]
        have wi : IntKind.u64.wrap ((i : Int) + 1) = ((i + 1 : Nat) : Int) := by rw [wu64 (by omega) (by omega)]; omega
        have hnx := lk_step hgo.1 hgo.2 hD
        refine inC_ops TO 100 (fn8_inC (n := 18) (r := r) (tail := []) rfl hb2 hB hr) Tryd.func44 (by decide +kernel) rfl rfl rfl ⟨⟨rfl, rfl, by simp only [evO, gdP, gdPs, List.getD, List.getElem?_cons_zero, List.getElem?_cons_succ, Option.getD_some, and_self]⟩, ?_⟩
        have h3 := rN_le (b := b) (k := 8) (r := r) hr
        simp only [rdC, pureOpC, buildV, fillC, cntC, unc, absRun, absOps, absOp, evO, ungd, gdP, gdPs, setD, T_ty, T_size, T_zero, tTy, tSize, tZero, fieldOf, pureOp, memOp, newV, notIn, scal, cellsOf, okC, takeC, dropC, blkAt, fnd, upd, Lim.add, Op.operands, List.getD, List.getElem?_cons_zero, List.getElem?_cons_succ, Option.getD_some, List.set, List.map, List.all, List.toList_toArray, Option.map_some, true_and, and_self, if_true, if_false, eq_self, ne_eq, not_false_eq_true, reduceCtorEq, Nat.zero_add, Nat.add_zero, List.cons_append, List.nil_append, List.append_nil, Nat.reduceAdd, Nat.reduceEqDiff, Bool.and_self, Nat.reduceBNe]
        refine inC_ops TO 100 (fn8_inC (n := 18) (r := (rN b 8 r)) (tail := []) rfl hb2 hB h3) Tryd.func44 (by decide +kernel) rfl rfl rfl ⟨⟨rfl, rfl, by simp only [evO, gdP, gdPs, List.getD, List.getElem?_cons_zero, List.getElem?_cons_succ, Option.getD_some, and_self]⟩, ?_⟩
        have h4 := rN_le (b := b) (k := 8) (r := (rN b 8 r)) h3
        simp only [rdC, pureOpC, unc, absRun, absOps, absOp, evO, ungd, gdP, gdPs, setD, T_ty, T_size, tTy, tSize, fieldOf, faddrV, pureOp, memOp, scal, setC, blkAt, fnd, upd, Op.operands, List.getD, List.getElem?_cons_zero, List.getElem?_cons_succ, Option.getD_some, List.set, List.toList_toArray, Option.map_some, Option.map_none, true_and, and_self, if_true, if_false, eq_self, ne_eq, not_false_eq_true, reduceCtorEq, Nat.zero_add, Nat.reduceSub, Nat.reduceEqDiff, Nat.succ_ne_self]
        refine inC_ops TO 100 (fn2_inC (n := 18) (r := (rN b 8 (rN b 8 r))) (tail := []) rfl hb2 hB h4) Tryd.func48 (by decide +kernel) rfl rfl rfl ⟨⟨rfl, rfl, by simp only [evO, gdP, gdPs, List.getD, List.getElem?_cons_zero, List.getElem?_cons_succ, Option.getD_some, and_self]⟩, ?_⟩
        have h5 := rN_le (b := b) (k := 2) (r := (rN b 8 (rN b 8 r))) h4
        have v5 := rV_lt b 2 (rN b 8 (rN b 8 r)) hB
        have w5 : IntKind.u16.wrap (rV b 2 (rN b 8 (rN b 8 r))) = rV b 2 (rN b 8 (rN b 8 r)) := by rw [IntKind.wrap_u16]; omega
        simp only [rdC, w5, pureOpC, unc, absRun, absOps, absOp, evO, ungd, gdP, gdPs, setD, convV, T_ty, T_size, tTy, tSize, fieldOf, faddrV, pureOp, memOp, scal, flatB, known, setC, blkAt, fnd, upd, Op.operands, List.getD, List.getElem?_cons_zero, List.getElem?_cons_succ, Option.getD_some, List.set, List.map, List.all, List.toList_toArray, Option.map_some, Option.map_none, true_and, and_self, if_true, if_false, eq_self, ne_eq, not_false_eq_true, reduceCtorEq, Nat.zero_add, List.append_toArray, List.append_nil, Nat.reduceSub, Nat.reduceEqDiff, Nat.succ_ne_self, Bool.and_self]
        refine inC_ops TO 100 (fs2_inC (n := 18) (m := 0) (e := 5) (r := (rN b 2 (rN b 8 (rN b 8 r)))) (tail := []) rfl hb2 hB h5) Tryd.func47 (by decide +kernel) rfl rfl rfl ⟨⟨rfl, rfl, by simp only [evO, constSV, gdP, gdPs, List.getD, List.getElem?_cons_zero, List.getElem?_cons_succ, Option.getD_some, and_self]⟩, ?_⟩
        have h6 := rM_le (b := b) (k := 2) (m := 0) (e := 5) (r := (rN b 2 (rN b 8 (rN b 8 r)))) h5
        simp only [rdC, pureOpC, cntC, unc, absRun, absOps, absOp, evO, ungd, gdP, gdPs, setD, T_ty, T_size, tTy, tSize, fieldOf, faddrV, pureOp, memOp, loadV, newV, notIn, dataOf, isSrc, elemsOf, aggsOf, cellAt, arrAt, takeC, dropC, blkAt, fnd, upd, Lim.add, Op.operands, List.getD, List.getElem?_cons_zero, List.getElem?_cons_succ, List.getElem?_nil, Option.getD_some, Option.getD_none, List.set, List.map, List.toList_toArray, Option.bind_some, Option.map_some, true_and, and_self, if_true, if_false, ite_self, eq_self, ne_eq, not_false_eq_true, reduceCtorEq, Nat.zero_add, Nat.add_zero, List.cons_append, List.nil_append, List.length_cons, List.length_nil, Nat.reduceAdd, Nat.reduceSub, Nat.reduceMul, Nat.reduceEqDiff, Nat.reduceLeDiff, Nat.reduceLT, Nat.succ_ne_self]
        refine tell_ops 92 (.vec (.locks [⟨_, _, _, _⟩])) ⟨⟨rfl, fun σ w h => blk_locks h⟩, HOps_go TO 100 ?_⟩
        have hlen : (l ++ [lkX b r]).length = l.length + 1 := by simp
        simp only [wi, List.take_succ_cons, List.take_zero, List.drop_zero, pureOpC, unc, fitT, absRun, absOps, absOp, evO, constSV, ungd, gdP, gdPs, setD, binI, binV, ptrE, T_ty, T_size, T_bytes, tTy, tSize, tBytes, fieldOf, faddrV, pureOp, memOp, notIn, dataOf, appD, isSrc, scal, setC, blkAt, fnd, upd, del, mv, Data.len, Data.esz, Data.sub, Lim.add, Op.operands, Call.operands, List.getD, List.getElem?_cons_zero, List.getElem?_cons_succ, Option.getD_some, List.set, List.toList_toArray, Option.map_some, Option.map_none, Option.isSome, true_and, and_self, if_true, if_false, eq_self, ne_eq, not_false_eq_true, reduceCtorEq, Nat.zero_add, Nat.le_refl, List.append_toArray, List.nil_append, List.length_cons, List.length_nil, Nat.reduceSub, Nat.reduceEqDiff, Nat.reduceLeDiff, Nat.reduceLT, Nat.succ_ne_self]
        have hln : l.length ≤ 65536 := by omega
        refine ⟨⟨by omega, by omega⟩, ?_⟩
        refine ih (i + 1, lkR b r, l ++ [lkX b r], c + 122, _) _ ⟨hgo.1, h6, hnx, by rw [hlen]; omega⟩ (by simp only; omega) rfl ?_ ?_
        · simp [LeT, tl]
        · intro m x hx
          simp only [fnd, rdC, zC, askZ, Ask.cellsW] at hx ⊢
          split at hx
          · rename_i e; subst e; simpa using hx
          split at hx
          · rename_i e; subst e; simpa [lkR] using hx
          split at hx
          · rename_i e; subst e; simpa [lkX] using hx
          split at hx
          · rename_i e; subst e; simpa [lkX] using hx
          cases hx
      · rw [if_neg (show ¬ (decide ((i : Int) < (N : Int)) && r.2 == 0) = true by simp; omega)]
        have hex : D = (l, r) := by
          by_cases h : r.2 = 0
          · rw [hD, show N - i = 0 by omega]; rfl
          · rw [hD, lk_bad h]
        rw [hex] at eE eA1
        refine freezeC_ops 7 16 93 (.locks l) ⟨⟨rfl, rfl, by simp [fnd], by decide, by simp [Data.len]⟩, ?_⟩
        simp only [List.drop_zero, upd, del, Data.sub, List.set, if_true, if_false, eq_self, List.take_length, Nat.reduceEqDiff]
        refine inC_ops TO 100 (fe_inC (n := 18) (r := r) (tail := []) rfl hb2 hB hr) Tryd.func49 (by decide +kernel) rfl rfl rfl ⟨⟨rfl, rfl, by simp only [evO, gdP, gdPs, List.getD, List.getElem?_cons_zero, List.getElem?_cons_succ, Option.getD_some, and_self]⟩, ?_⟩
        rw [← eE]
        by_cases hE : fgE 10 b = 0
        · rw [eA1 hE]
          simp only [hE, rdC, Ask.preK, Ask.postK, retPK, flat0, List.take_succ_cons, List.take_zero, List.drop_succ_cons, List.drop_zero, askZ, List.take_succ_cons, List.take_zero, List.drop_succ_cons, List.drop_zero, pureOpC, buildV, fillC, cntC, unc, absRun, absOps, absOp, evO, constSV, ungd, gdP, gdPs, setD, binI, binV, ptrE, T_ty, T_size, T_zero, tTy, tSize, tZero, pureOp, memOp, loadV, scal, okC, takeC, dropC, blkAt, fnd, upd, Data.len, resV, retQ, rAs, rA, rA0, rAl, ownN, nodup, bares, bare, bare0, bareL, bareD, Op.operands, List.getD, List.getElem?_cons_zero, List.getElem?_cons_succ, Option.getD_some, List.set, List.map, List.all, List.toList_toArray, Option.bind_some, Option.map_some, true_and, and_true, and_self, implies_true, if_true, if_false, eq_self, ne_eq, not_false_eq_true, reduceCtorEq, Bool.false_eq_true, Nat.zero_add, Nat.add_zero, Int.reduceBNe, List.nil_append, List.append_nil, List.length_cons, List.length_nil, Nat.reduceAdd, Nat.reduceSub, Nat.reduceEqDiff, Nat.reduceLeDiff, Nat.reduceLT, List.replicate_succ, List.replicate_zero, Bool.and_self, Nat.reduceBNe]
        · have hE' : (fgE 10 b != 0) = true := by simpa using hE
          rw [eA0 hE]
          simp only [hE', rdC, Ask.preK, Ask.postK, retPK, flat0, List.take_succ_cons, List.take_zero, List.drop_succ_cons, List.drop_zero, askZ, List.take_succ_cons, List.take_zero, List.drop_succ_cons, List.drop_zero, pureOpC, buildV, fillC, cntC, unc, absRun, absOps, absOp, evO, constSV, ungd, gdP, gdPs, setD, binI, binV, ptrE, T_ty, T_size, T_zero, tTy, tSize, tZero, pureOp, memOp, loadV, scal, okC, takeC, dropC, blkAt, fnd, upd, Data.len, resV, retQ, rAs, rA, rA0, rAl, ownN, nodup, bares, bare, bare0, bareL, bareD, Op.operands, List.getD, List.getElem?_cons_zero, List.getElem?_cons_succ, Option.getD_some, List.set, List.map, List.all, List.toList_toArray, Option.bind_some, Option.map_some, true_and, and_true, and_self, implies_true, if_true, if_false, eq_self, ne_eq, not_false_eq_true, reduceCtorEq, Nat.zero_add, Nat.add_zero, List.nil_append, List.append_nil, List.length_cons, List.length_nil, Nat.reduceAdd, Nat.reduceSub, Nat.reduceEqDiff, Nat.reduceLeDiff, Nat.reduceLT, List.replicate_succ, List.replicate_zero, Bool.and_self, Nat.reduceBNe]
    have d8 : (c == 8) = false := by simpa using c8
    have d9 : (c == 9) = false := by simpa using c9
    have d10 : (c == 10) = false := by simpa using c10
    have eR : fgR c b = (rN b 8 (0, 0)) := by unfold fgR; rw [if_neg c5, if_neg c8, if_neg c9, if_neg c10]; rfl
    have eV : fgV c b = { askZ with file := rV b 8 (0, 0) } := by unfold fgV; rw [if_neg c5, if_neg c8, if_neg c9, if_neg c10]
    rw [eR] at eE
    rw [eV] at eA1
    clear eR eV
    simp only [d8, d9, d10, if_false, Bool.false_eq_true]
    refine inC_ops TO 100 (fn8_inC (n := 18) (r := (0, 0)) (tail := []) rfl hb2 hB (Nat.zero_le _)) Tryd.func44 (by decide +kernel) rfl rfl rfl ⟨⟨rfl, rfl, by simp only [evO, gdP, gdPs, List.getD, List.getElem?_cons_zero, List.getElem?_cons_succ, Option.getD_some, and_self]⟩, ?_⟩
    have h1 := rN_le (b := b) (k := 8) (r := (0, 0)) (Nat.zero_le _)
    simp only [rdC, pureOpC, buildV, fillC, cntC, unc, absRun, absOps, absOp, evO, ungd, gdP, gdPs, setD, T_ty, T_size, T_zero, tTy, tSize, tZero, fieldOf, pureOp, memOp, scal, cellsOf, okC, takeC, dropC, blkAt, fnd, upd, Op.operands, List.getD, List.getElem?_cons_zero, List.getElem?_cons_succ, Option.getD_some, List.set, List.map, List.all, List.toList_toArray, Option.map_some, true_and, and_self, if_true, if_false, eq_self, ne_eq, not_false_eq_true, reduceCtorEq, Nat.zero_add, Nat.add_zero, List.cons_append, List.nil_append, List.append_nil, Nat.reduceAdd, Nat.reduceSub, Nat.reduceEqDiff, Nat.reduceLeDiff, List.replicate_succ, List.replicate_zero, Bool.and_self, Nat.reduceBNe]
    generalize rN b 8 (0, 0) = r1 at *
    refine inC_ops TO 100 (fe_inC (n := 18) (r := r1) (tail := []) rfl hb2 hB h1) Tryd.func49 (by decide +kernel) rfl rfl rfl ⟨⟨rfl, rfl, by simp only [evO, gdP, gdPs, List.getD, List.getElem?_cons_zero, List.getElem?_cons_succ, Option.getD_some, and_self]⟩, ?_⟩
    rw [← eE]
    by_cases hE : fgE c b = 0
    · rw [eA1 hE]
      simp only [hE, rdC, Ask.preK, Ask.postK, retPK, flat0, List.take_succ_cons, List.take_zero, List.drop_succ_cons, List.drop_zero, askZ, List.take_succ_cons, List.take_zero, List.drop_succ_cons, List.drop_zero, pureOpC, buildV, fillC, cntC, unc, absRun, absOps, absOp, evO, constSV, ungd, gdP, gdPs, setD, binI, binV, ptrE, T_ty, T_size, T_zero, tTy, tSize, tZero, pureOp, memOp, loadV, scal, okC, takeC, dropC, blkAt, fnd, upd, Data.len, resV, retQ, rAs, rA, rA0, rAl, ownN, nodup, bares, bare, bare0, bareL, bareD, Op.operands, List.getD, List.getElem?_cons_zero, List.getElem?_cons_succ, Option.getD_some, List.set, List.map, List.all, List.toList_toArray, Option.bind_some, Option.map_some, true_and, and_true, and_self, if_true, if_false, eq_self, ne_eq, not_false_eq_true, reduceCtorEq, Bool.false_eq_true, Nat.zero_add, Nat.add_zero, Int.reduceBNe, List.nil_append, List.append_nil, List.length_cons, List.length_nil, Nat.reduceAdd, Nat.reduceSub, Nat.reduceEqDiff, Nat.reduceLeDiff, Nat.reduceLT, List.replicate_succ, List.replicate_zero, Bool.and_self, Nat.reduceBNe]
    · have hE' : (fgE c b != 0) = true := by simpa using hE
      rw [eA0 hE]
      simp only [hE', rdC, Ask.preK, Ask.postK, retPK, flat0, List.take_succ_cons, List.take_zero, List.drop_succ_cons, List.drop_zero, askZ, List.take_succ_cons, List.take_zero, List.drop_succ_cons, List.drop_zero, pureOpC, buildV, fillC, cntC, unc, absRun, absOps, absOp, evO, constSV, ungd, gdP, gdPs, setD, binI, binV, ptrE, T_ty, T_size, T_zero, tTy, tSize, tZero, pureOp, memOp, loadV, scal, okC, takeC, dropC, blkAt, fnd, upd, Data.len, resV, retQ, rAs, rA, rA0, rAl, ownN, nodup, bares, bare, bare0, bareL, bareD, Op.operands, List.getD, List.getElem?_cons_zero, List.getElem?_cons_succ, Option.getD_some, List.set, List.map, List.all, List.toList_toArray, Option.bind_some, Option.map_some, true_and, and_true, and_self, if_true, if_false, eq_self, ne_eq, not_false_eq_true, reduceCtorEq, Nat.zero_add, Nat.add_zero, List.nil_append, List.append_nil, List.length_cons, List.length_nil, Nat.reduceAdd, Nat.reduceSub, Nat.reduceEqDiff, Nat.reduceLeDiff, Nat.reduceLT, List.replicate_succ, List.replicate_zero, Bool.and_self, Nat.reduceBNe]

end Go.Proofs.YtakgefinmlomdaaDoor.Abs
