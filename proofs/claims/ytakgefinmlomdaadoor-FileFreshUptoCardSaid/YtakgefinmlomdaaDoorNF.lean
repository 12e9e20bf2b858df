/- What file's GetSay answers, the data an own slice. -/
import Derived.Test.YtakgefinmlomdaaDoorND
set_option linter.unusedVariables false
set_option linter.unusedSimpArgs false
set_option maxRecDepth 100000
namespace Go.Proofs.YtakgefinmlomdaaDoor.Abs
open Go Go.Proofs

def Say.preK (s : Say) : List SV := [.int .u16 s.dialect, .int .u64 s.size, .arr .u8 8 s.challenge, .int .u8 s.level, .int .u8 s.durable, .int .u16 s.made, .int .u64 s.file, .int .u8 s.kind]
def Say.postK (s : Say) : List SV := [.int .u32 s.n, .nil, .bool s.more, .bool s.gone]
/-- A Say that was got: no entries. -/
def Say.svL (s : Say) : SV := .agg (s.preK ++ .view true (.ints .u8 s.data) :: s.postK)

theorem Meets.sayL {P : Program} {f : FuncId} {args : List AV} {s : Say} {e : Int} (h1 : s.entries = []) (h : Meets P f args [.v s.svL, .v (.int .i64 e)]) : Meets P f args [.v (s.sv true), .v (.int .i64 e)] := by
  refine h.weaken ?_
  simp [Say.svL, Say.preK, Say.postK, Say.sv, Say.cells, retQ, rAs, rA, rAl, rA0, svs, AV.sv, ownN, nodup, bares, bare, bareL, bare0, bareD, Data.len, h1]

theorem kind_ok {b : List Int} {r : Nat × Int} (hB : Bytes b) (h : (rM b 2 2 5 r).2 = 0) : IntKind.u8.wrap (rV b 2 r) = rV b 2 r := by
  have h1 := (rV_lt b 2 r hB).1
  have h2 : rV b 2 r ≤ 2 := by
    unfold rM at h
    by_cases g : (rN b 2 r).2 = 0 ∧ 2 < rV b 2 r
    · rw [if_pos g] at h; cases h
    · rw [if_neg g] at h; omega
  rw [IntKind.wrap_u8]; omega
theorem rMe_zero {b : List Int} {k : Nat} {m e : Int} {r : Nat × Int} (h : (rM b k m e r).2 = 0) : r.2 = 0 := by
  by_cases g : r.2 = 0
  · exact g
  · rw [rM_err g] at h; exact h
theorem rNe_zero {b : List Int} {k : Nat} {r : Nat × Int} (h : (rN b k r).2 = 0) : r.2 = 0 := by
  by_cases g : r.2 = 0
  · exact g
  · rw [rN_err2 g] at h; exact h

theorem ftS_entries (c : Int) (b : List Int) : (ftS c b).entries = [] := by
  unfold ftS ftV
  repeat' split
  all_goals rfl

set_option maxHeartbeats 8000000 in
theorem fGetSayK_meets (c : Int) (b : List Int) (hc : 0 ≤ c) (hb : b.length ≤ 274877906944) (hB : Bytes b) : MeetsK Tryd.prog 20 [.v (.int .u16 c), .v (.view false (.ints .u8 b))] [.v (.agg (ftS c b).preK), .own (.ints .u8 (ftS c b).data), .v (.agg (ftS c b).postK), .v (.int .i64 (ftE c b))] pkA := by
  have hK := fk_meets c hc
  have hb2 : b.length ≤ 140737488351232 := by omega
  refine meetsK_go TO 100 8 Tryd.func20 rfl (fun X => ?_)
  simp only [Tryd.ntmps20, Tryd.results20, pureOpC, svs, blks, AV.sv, absRun, absOps, absOp, evO, constSV, ungd, gdP, gdPs, setD, T_size, T_zero, tSize, tZero, pureOp, memOp, newV, notIn, upd, Lim.add, Op.operands, List.getD, List.getElem?_cons_zero, Option.getD_some, List.set, List.toList_toArray, true_and, and_self, ne_eq, not_false_eq_true, reduceCtorEq, Nat.zero_add, List.cons_append, List.nil_append, List.length_cons, List.length_nil, Nat.reduceAdd, Nat.reduceSub, List.replicate_succ, List.replicate_zero]
  refine call_go TO 100 hK Tryd.func32 (by decide +kernel) rfl rfl rfl ?_
  cases hk : fkB c with
  | false =>
    have e1 : ftE c b = 2 := by unfold ftE; rw [if_neg (by rw [hk]; decide)]
    have e2 : ftS c b = sayZ := by unfold ftS; rw [if_pos (by rw [e1]; decide)]
    rw [e1, e2]
    simp only [Say.preK, Say.postK, retPK, flat0, List.take_succ_cons, List.take_zero, List.drop_succ_cons, List.drop_zero, sayZ, List.take_succ_cons, List.take_zero, List.drop_succ_cons, List.drop_zero, pureOpC, buildV, fillC, cntC, unc, absRun, absOps, absOp, evO, constSV, ungd, gdP, gdPs, setD, binI, binV, ptrE, unV, T_ty, T_size, T_zero, tTy, tSize, tZero, fieldOf, pureOp, memOp, loadV, newV, notIn, scal, cellsOf, okC, flatB, takeC, dropC, blkAt, fnd, upd, Data.len, Lim.add, resV, retQ, rAs, rA, rA0, rAl, ownN, nodup, bares, bare, bare0, bareL, bareD, guardIs, callP, callS, argS, mAs, mA, mA0, mB0, allNotIn, impN, impB, impT, packS, delL, Op.operands, List.getD, List.getElem?_cons_zero, List.getElem?_cons_succ, Option.getD_some, List.set, List.map, List.all, List.toList_toArray, Option.bind_some, Option.map_some, true_and, and_self, if_true, if_false, eq_self, ne_eq, not_false_eq_true, reduceCtorEq, Nat.zero_add, Nat.add_zero, List.append_toArray, List.cons_append, List.nil_append, List.append_nil, List.length_cons, List.length_nil, Nat.reduceAdd, Nat.reduceSub, Nat.reduceEqDiff, Nat.reduceLeDiff, Nat.reduceLT, Bool.not_false, List.replicate_succ, List.replicate_zero, Bool.and_self, Nat.reduceBNe]
  | true =>
    have eE : ftE c b = rEnd b (ftR c b) := by unfold ftE; rw [if_pos hk]
    have eA0 : ftE c b ≠ 0 → ftS c b = sayZ := fun h => by unfold ftS; rw [if_pos h]
    have eA1 : ftE c b = 0 → ftS c b = ftV c b := fun h => by unfold ftS; rw [if_neg (fun g => g h)]
    simp only [pureOpC, buildV, fillC, cntC, unc, absRun, absOps, absOp, evO, constSV, ungd, gdP, gdPs, setD, binI, binV, ptrE, unV, T_ty, T_size, T_zero, tTy, tSize, tZero, fieldOf, pureOp, memOp, newV, notIn, scal, cellsOf, okC, flatB, takeC, dropC, blkAt, fnd, upd, Lim.add, ownN, nodup, bares, bare, bare0, guardIs, callP, callS, argS, mAs, mA, mA0, mB0, allNotIn, impN, impB, impT, packS, delL, Op.operands, List.getD, List.getElem?_cons_zero, List.getElem?_cons_succ, Option.getD_some, List.set, List.map, List.all, List.toList_toArray, true_and, and_self, if_true, if_false, eq_self, ne_eq, not_false_eq_true, reduceCtorEq, Bool.false_eq_true, Nat.zero_add, Nat.add_zero, List.append_toArray, List.cons_append, List.nil_append, List.append_nil, Nat.reduceAdd, Nat.reduceSub, Nat.reduceEqDiff, Nat.reduceLeDiff, Bool.not_true, List.replicate_succ, List.replicate_zero, Bool.and_self, Nat.reduceBNe]
    by_cases c5 : c = 5
    · subst c5
      have eR : ftR 5 b = rM b 2 0 5 (rM b 2 2 5 (rN b 8 (rN b 8 (rM b 2 2 5 (rN b 1 (rN b 1 (0, 0))))))) := rfl
      have eV : ftV 5 b = { sayZ with level := rV b 1 (0, 0), durable := rV b 1 (rN b 1 (0, 0)), made := rV b 2 (rN b 1 (rN b 1 (0, 0))), file := rV b 8 (rM b 2 2 5 (rN b 1 (rN b 1 (0, 0)))), size := rV b 8 (rN b 8 (rM b 2 2 5 (rN b 1 (rN b 1 (0, 0))))), kind := rV b 2 (rN b 8 (rN b 8 (rM b 2 2 5 (rN b 1 (rN b 1 (0, 0)))))) } := rfl
      rw [eR] at eE
      rw [eV] at eA1
      clear eR eV
      simp only [if_true, if_false, eq_self, Bool.false_eq_true, Int.reduceBEq, beq_self_eq_true]
      refine inC_ops TO 100 (fn1_inC (n := 15) (r := (0, 0)) (tail := []) rfl hb2 hB (Nat.zero_le _)) Tryd.func55 (by decide +kernel) rfl rfl rfl ⟨⟨rfl, rfl, by simp only [evO, gdP, gdPs, List.getD, List.getElem?_cons_zero, List.getElem?_cons_succ, Option.getD_some, and_self]⟩, ?_⟩
      have h1 := rN_le (b := b) (k := 1) (r := (0, 0)) (Nat.zero_le _)
      have v1 := rV_lt b 1 (0, 0) hB
      have w1 : IntKind.u8.wrap (rV b 1 (0, 0)) = rV b 1 (0, 0) := by rw [IntKind.wrap_u8]; omega
      simp only [rdC, w1, pureOpC, unc, absRun, absOps, absOp, evO, ungd, gdP, gdPs, setD, convV, T_ty, T_size, tTy, tSize, fieldOf, faddrV, pureOp, memOp, scal, known, setC, blkAt, fnd, upd, Op.operands, List.getD, List.getElem?_cons_zero, List.getElem?_cons_succ, Option.getD_some, List.set, List.toList_toArray, Option.map_some, Option.map_none, true_and, and_self, if_true, if_false, eq_self, ne_eq, not_false_eq_true, reduceCtorEq, Nat.zero_add, Nat.reduceAdd, Nat.reduceSub, Nat.reduceEqDiff, Nat.reduceLT, Nat.succ_ne_self]
      generalize rN b 1 (0, 0) = r1 at *
      refine inC_ops TO 100 (fn1_inC (n := 15) (r := r1) (tail := []) rfl hb2 hB h1) Tryd.func55 (by decide +kernel) rfl rfl rfl ⟨⟨rfl, rfl, by simp only [evO, gdP, gdPs, List.getD, List.getElem?_cons_zero, List.getElem?_cons_succ, Option.getD_some, and_self]⟩, ?_⟩
      have h2 := rN_le (b := b) (k := 1) (r := r1) h1
      have v2 := rV_lt b 1 r1 hB
      have w2 : IntKind.u8.wrap (rV b 1 r1) = rV b 1 r1 := by rw [IntKind.wrap_u8]; omega
      simp only [rdC, w2, pureOpC, unc, absRun, absOps, absOp, evO, ungd, gdP, gdPs, setD, convV, T_ty, T_size, tTy, tSize, fieldOf, faddrV, pureOp, memOp, scal, flatB, known, setC, blkAt, fnd, upd, Op.operands, List.getD, List.getElem?_cons_zero, List.getElem?_cons_succ, Option.getD_some, List.set, List.map, List.all, List.toList_toArray, Option.map_some, Option.map_none, true_and, and_self, if_true, if_false, eq_self, ne_eq, not_false_eq_true, reduceCtorEq, Nat.zero_add, List.append_toArray, List.append_nil, Nat.reduceAdd, Nat.reduceSub, Nat.reduceEqDiff, Nat.reduceLT, Nat.succ_ne_self, Bool.and_self]
      generalize rN b 1 r1 = r2 at *
      refine inC_ops TO 100 (fs2_inC (n := 15) (m := 2) (e := 5) (r := r2) (tail := []) rfl hb2 hB h2) Tryd.func47 (by decide +kernel) rfl rfl rfl ⟨⟨rfl, rfl, by simp only [evO, constSV, gdP, gdPs, List.getD, List.getElem?_cons_zero, List.getElem?_cons_succ, Option.getD_some, and_self]⟩, ?_⟩
      have h3 := rM_le (b := b) (k := 2) (m := 2) (e := 5) (r := r2) h2
      have v3 := rV_lt b 2 r2 hB
      have w3 : IntKind.u16.wrap (rV b 2 r2) = rV b 2 r2 := by rw [IntKind.wrap_u16]; omega
      simp only [rdC, w3, pureOpC, unc, absRun, absOps, absOp, evO, ungd, gdP, gdPs, setD, convV, T_ty, T_size, tTy, tSize, fieldOf, faddrV, pureOp, memOp, scal, known, setC, blkAt, fnd, upd, Op.operands, List.getD, List.getElem?_cons_zero, List.getElem?_cons_succ, Option.getD_some, List.set, List.toList_toArray, Option.map_some, Option.map_none, true_and, and_self, if_true, if_false, eq_self, ne_eq, not_false_eq_true, reduceCtorEq, Nat.zero_add, Nat.reduceAdd, Nat.reduceSub, Nat.reduceEqDiff, Nat.reduceLT, Nat.succ_ne_self]
      generalize rM b 2 2 5 r2 = r3 at *
      have z4 : (rN b 8 r3).2 = 0 → r3.2 = 0 := rNe_zero
      refine inC_ops TO 100 (fn8_inC (n := 15) (r := r3) (tail := []) rfl hb2 hB h3) Tryd.func44 (by decide +kernel) rfl rfl rfl ⟨⟨rfl, rfl, by simp only [evO, gdP, gdPs, List.getD, List.getElem?_cons_zero, List.getElem?_cons_succ, Option.getD_some, and_self]⟩, ?_⟩
      have h4 := rN_le (b := b) (k := 8) (r := r3) h3
      simp only [rdC, pureOpC, unc, absRun, absOps, absOp, evO, ungd, gdP, gdPs, setD, T_ty, T_size, tTy, tSize, fieldOf, faddrV, pureOp, memOp, scal, setC, blkAt, fnd, upd, Op.operands, List.getD, List.getElem?_cons_zero, List.getElem?_cons_succ, Option.getD_some, List.set, List.toList_toArray, Option.map_some, Option.map_none, true_and, and_self, if_true, if_false, eq_self, ne_eq, not_false_eq_true, reduceCtorEq, Nat.zero_add, Nat.reduceAdd, Nat.reduceSub, Nat.reduceEqDiff, Nat.reduceLT, Nat.succ_ne_self]
      generalize rN b 8 r3 = r4 at *
      have z5 : (rN b 8 r4).2 = 0 → r4.2 = 0 := rNe_zero
      refine inC_ops TO 100 (fn8_inC (n := 15) (r := r4) (tail := []) rfl hb2 hB h4) Tryd.func44 (by decide +kernel) rfl rfl rfl ⟨⟨rfl, rfl, by simp only [evO, gdP, gdPs, List.getD, List.getElem?_cons_zero, List.getElem?_cons_succ, Option.getD_some, and_self]⟩, ?_⟩
      have h5 := rN_le (b := b) (k := 8) (r := r4) h4
      simp only [rdC, pureOpC, unc, absRun, absOps, absOp, evO, ungd, gdP, gdPs, setD, T_ty, T_size, tTy, tSize, fieldOf, faddrV, pureOp, memOp, scal, flatB, setC, blkAt, fnd, upd, Op.operands, List.getD, List.getElem?_cons_zero, List.getElem?_cons_succ, Option.getD_some, List.set, List.map, List.all, List.toList_toArray, Option.map_some, Option.map_none, true_and, and_self, if_true, if_false, eq_self, ne_eq, not_false_eq_true, reduceCtorEq, Nat.zero_add, List.append_toArray, List.append_nil, Nat.reduceAdd, Nat.reduceSub, Nat.reduceEqDiff, Nat.reduceLT, Nat.succ_ne_self, Bool.and_self]
      generalize rN b 8 r4 = r5 at *
      have kw : (rM b 2 2 5 r5).2 = 0 → IntKind.u8.wrap (rV b 2 r5) = rV b 2 r5 := kind_ok hB
      have z6 : (rM b 2 2 5 r5).2 = 0 → r5.2 = 0 := rMe_zero
      refine inC_ops TO 100 (fs2_inC (n := 15) (m := 2) (e := 5) (r := r5) (tail := []) rfl hb2 hB h5) Tryd.func47 (by decide +kernel) rfl rfl rfl ⟨⟨rfl, rfl, by simp only [evO, constSV, gdP, gdPs, List.getD, List.getElem?_cons_zero, List.getElem?_cons_succ, Option.getD_some, and_self]⟩, ?_⟩
      have h6 := rM_le (b := b) (k := 2) (m := 2) (e := 5) (r := r5) h5
      simp only [rdC, pureOpC, unc, absRun, absOps, absOp, evO, ungd, gdP, gdPs, setD, convV, T_ty, T_size, tTy, tSize, fieldOf, faddrV, pureOp, memOp, scal, flatB, known, setC, blkAt, fnd, upd, Op.operands, List.getD, List.getElem?_cons_zero, List.getElem?_cons_succ, Option.getD_some, List.set, List.map, List.all, List.toList_toArray, Option.map_some, Option.map_none, true_and, and_self, if_true, if_false, eq_self, ne_eq, not_false_eq_true, reduceCtorEq, Nat.zero_add, List.append_toArray, List.append_nil, Nat.reduceAdd, Nat.reduceSub, Nat.reduceEqDiff, Nat.reduceLT, Nat.succ_ne_self, Bool.and_self]
      generalize rM b 2 2 5 r5 = r6 at *
      have z7 : (rM b 2 0 5 r6).2 = 0 → r6.2 = 0 := rMe_zero
      refine inC_ops TO 100 (fs2_inC (n := 15) (m := 0) (e := 5) (r := r6) (tail := []) rfl hb2 hB h6) Tryd.func47 (by decide +kernel) rfl rfl rfl ⟨⟨rfl, rfl, by simp only [evO, constSV, gdP, gdPs, List.getD, List.getElem?_cons_zero, List.getElem?_cons_succ, Option.getD_some, and_self]⟩, ?_⟩
      have h7 := rM_le (b := b) (k := 2) (m := 0) (e := 5) (r := r6) h6
      simp only [rdC, pureOpC, absRun, absOps, absOp, evO, ungd, gdP, gdPs, setD, pureOp, memOp, upd, Op.operands, List.getD, List.getElem?_cons_zero, List.getElem?_cons_succ, Option.getD_some, List.set, List.toList_toArray, true_and, and_self, if_true, if_false, eq_self, Nat.reduceAdd, Nat.reduceEqDiff]
      generalize rM b 2 0 5 r6 = r7 at *
      refine inC_ops TO 100 (fe_inC (n := 15) (r := r7) (tail := []) rfl hb2 hB h7) Tryd.func49 (by decide +kernel) rfl rfl rfl ⟨⟨rfl, rfl, by simp only [evO, gdP, gdPs, List.getD, List.getElem?_cons_zero, List.getElem?_cons_succ, Option.getD_some, and_self]⟩, ?_⟩
      rw [← eE]
      by_cases hE : ftE 5 b = 0
      · have z := rEnd_zero (eE.symm.trans hE)
        have y6 := z7 (by rw [z])
        have y5 := z6 y6
        have y4 := z5 y5
        have y3 := z4 y4
        have kw2 := kw y6
        rw [eA1 hE]
        simp only [hE, kw2, rdC, Say.preK, Say.postK, retPK, flat0, List.take_succ_cons, List.take_zero, List.drop_succ_cons, List.drop_zero, sayZ, List.take_succ_cons, List.take_zero, List.drop_succ_cons, List.drop_zero, pureOpC, buildV, fillC, cntC, unc, absRun, absOps, absOp, evO, constSV, ungd, gdP, gdPs, setD, binI, binV, ptrE, T_ty, T_size, T_zero, tTy, tSize, tZero, pureOp, memOp, loadV, scal, okC, takeC, dropC, blkAt, fnd, upd, Data.len, resV, retQ, rAs, rA, rA0, rAl, ownN, nodup, bares, bare, bare0, bareL, bareD, Op.operands, List.getD, List.getElem?_cons_zero, List.getElem?_cons_succ, Option.getD_some, List.set, List.map, List.all, List.toList_toArray, Option.bind_some, Option.map_some, true_and, and_true, and_self, if_true, if_false, eq_self, ne_eq, not_false_eq_true, reduceCtorEq, Bool.false_eq_true, Nat.zero_add, Nat.add_zero, Int.reduceBNe, List.nil_append, List.append_nil, List.length_cons, List.length_nil, Nat.reduceAdd, Nat.reduceSub, Nat.reduceEqDiff, Nat.reduceLeDiff, Nat.reduceLT, List.replicate_succ, List.replicate_zero, Bool.and_self, Nat.reduceBNe]
      · have hE' : (ftE 5 b != 0) = true := by simpa using hE
        rw [eA0 hE]
        simp only [hE', rdC, Say.preK, Say.postK, retPK, flat0, List.take_succ_cons, List.take_zero, List.drop_succ_cons, List.drop_zero, sayZ, List.take_succ_cons, List.take_zero, List.drop_succ_cons, List.drop_zero, pureOpC, buildV, fillC, cntC, unc, absRun, absOps, absOp, evO, constSV, ungd, gdP, gdPs, setD, binI, binV, ptrE, T_ty, T_size, T_zero, tTy, tSize, tZero, pureOp, memOp, loadV, scal, okC, takeC, dropC, blkAt, fnd, upd, Data.len, resV, retQ, rAs, rA, rA0, rAl, ownN, nodup, bares, bare, bare0, bareL, bareD, Op.operands, List.getD, List.getElem?_cons_zero, List.getElem?_cons_succ, Option.getD_some, List.set, List.map, List.all, List.toList_toArray, Option.bind_some, Option.map_some, true_and, and_true, and_self, if_true, if_false, eq_self, ne_eq, not_false_eq_true, reduceCtorEq, Nat.zero_add, Nat.add_zero, List.nil_append, List.append_nil, List.length_cons, List.length_nil, Nat.reduceAdd, Nat.reduceSub, Nat.reduceEqDiff, Nat.reduceLeDiff, Nat.reduceLT, List.replicate_succ, List.replicate_zero, Bool.and_self, Nat.reduceBNe]
    by_cases c8 : c = 8
    · subst c8
      have eR : ftR 8 b = fdR b (0, 0) := rfl
      have eV : ftV 8 b = { sayZ with data := fdV b (0, 0) } := rfl
      rw [eR] at eE
      rw [eV] at eA1
      clear eR eV
      simp only [if_true, if_false, eq_self, Bool.false_eq_true, Int.reduceBEq, beq_self_eq_true]
      by_cases hok : (fdR b (0, 0)).2 = 0
      · skip
        refine inC_ops TO 100 (fd_ok_inC (n := 15) (r := (0, 0)) (tail := []) rfl rfl hb2 hB (Nat.zero_le _) hok) Tryd.func46 (by decide +kernel) rfl rfl rfl ⟨⟨rfl, rfl, by simp only [evO, gdP, gdPs, List.getD, List.getElem?_cons_zero, List.getElem?_cons_succ, Option.getD_some, and_self]⟩, ?_⟩
        have h2 := fdR_le (b := b) (r := (0, 0)) (Nat.zero_le _) hB
        simp only [rdC, pureOpC, unc, absRun, absOps, absOp, evO, ungd, gdP, gdPs, setD, T_ty, T_size, tTy, tSize, fieldOf, faddrV, pureOp, memOp, scal, setC, blkAt, fnd, upd, Op.operands, List.getD, List.getElem?_cons_zero, List.getElem?_cons_succ, Option.getD_some, List.set, List.toList_toArray, Option.map_some, Option.map_none, Option.isSome, true_and, and_self, if_true, if_false, eq_self, ne_eq, not_false_eq_true, reduceCtorEq, Nat.zero_add, Nat.reduceAdd, Nat.reduceSub, Nat.reduceEqDiff, Nat.reduceLT, Nat.succ_ne_self]
        generalize fdR b (0, 0) = r2 at *
        generalize fdV b (0, 0) = dv at *
        refine inC_ops TO 100 (fe_inC (n := 15) (r := r2) (tail := []) rfl hb2 hB h2) Tryd.func49 (by decide +kernel) rfl rfl rfl ⟨⟨rfl, rfl, by simp only [evO, gdP, gdPs, List.getD, List.getElem?_cons_zero, List.getElem?_cons_succ, Option.getD_some, and_self]⟩, ?_⟩
        rw [← eE]
        by_cases hE : ftE 8 b = 0
        · skip
          rw [eA1 hE]
          simp only [hE, rdC, Say.preK, Say.postK, retPK, flat0, List.take_succ_cons, List.take_zero, List.drop_succ_cons, List.drop_zero, sayZ, List.take_succ_cons, List.take_zero, List.drop_succ_cons, List.drop_zero, pureOpC, buildV, fillC, cntC, unc, absRun, absOps, absOp, evO, constSV, ungd, gdP, gdPs, setD, binI, binV, ptrE, T_ty, T_size, T_zero, tTy, tSize, tZero, pureOp, memOp, loadV, notIn, scal, okC, takeC, dropC, blkAt, fnd, upd, Data.len, Data.esz, resV, retQ, rAs, rA, rA0, rAl, ownN, nodup, bares, bare, bare0, bareL, bareD, Op.operands, List.getD, List.getElem?_cons_zero, List.getElem?_cons_succ, Option.getD_some, List.set, List.map, List.all, List.toList_toArray, Option.bind_some, Option.map_some, Option.isSome, true_and, and_true, and_self, if_true, if_false, eq_self, ne_eq, not_false_eq_true, reduceCtorEq, Bool.false_eq_true, Nat.zero_add, Nat.add_zero, Int.reduceBNe, List.nil_append, List.append_nil, List.length_cons, List.length_nil, Nat.reduceAdd, Nat.reduceSub, Nat.reduceEqDiff, Nat.reduceLeDiff, Nat.reduceLT, List.replicate_succ, List.replicate_zero, Bool.and_self, Nat.reduceBNe]
        · have hE' : (ftE 8 b != 0) = true := by simpa using hE
          rw [eA0 hE]
          simp only [hE', rdC, Say.preK, Say.postK, retPK, flat0, List.take_succ_cons, List.take_zero, List.drop_succ_cons, List.drop_zero, sayZ, List.take_succ_cons, List.take_zero, List.drop_succ_cons, List.drop_zero, pureOpC, buildV, fillC, cntC, unc, absRun, absOps, absOp, evO, constSV, ungd, gdP, gdPs, setD, binI, binV, ptrE, T_ty, T_size, T_zero, tTy, tSize, tZero, pureOp, memOp, loadV, notIn, scal, okC, takeC, dropC, blkAt, fnd, upd, Data.len, Data.esz, resV, retQ, rAs, rA, rA0, rAl, ownN, nodup, bares, bare, bare0, bareL, bareD, Op.operands, List.getD, List.getElem?_cons_zero, List.getElem?_cons_succ, Option.getD_some, List.set, List.map, List.all, List.toList_toArray, Option.bind_some, Option.map_some, Option.isSome, true_and, and_true, and_self, if_true, if_false, eq_self, ne_eq, not_false_eq_true, reduceCtorEq, Nat.zero_add, Nat.add_zero, List.nil_append, List.append_nil, List.length_cons, List.length_nil, Nat.reduceAdd, Nat.reduceSub, Nat.reduceEqDiff, Nat.reduceLeDiff, Nat.reduceLT, List.replicate_succ, List.replicate_zero, Bool.and_self, Data.ints.injEq, Nat.reduceBNe]
      refine inC_ops TO 100 (fd_nil_inC (n := 15) (r := (0, 0)) (tail := []) rfl rfl hb2 hB (Nat.zero_le _) hok) Tryd.func46 (by decide +kernel) rfl rfl rfl ⟨⟨rfl, rfl, by simp only [evO, gdP, gdPs, List.getD, List.getElem?_cons_zero, List.getElem?_cons_succ, Option.getD_some, and_self]⟩, ?_⟩
      have h2 := fdR_le (b := b) (r := (0, 0)) (Nat.zero_le _) hB
      simp only [rdC, pureOpC, unc, absRun, absOps, absOp, evO, ungd, gdP, gdPs, setD, T_ty, T_size, tTy, tSize, fieldOf, faddrV, pureOp, memOp, scal, setC, blkAt, fnd, upd, Op.operands, List.getD, List.getElem?_cons_zero, List.getElem?_cons_succ, Option.getD_some, List.set, List.toList_toArray, Option.map_some, Option.map_none, true_and, and_self, if_true, if_false, eq_self, ne_eq, not_false_eq_true, reduceCtorEq, Nat.zero_add, Nat.reduceAdd, Nat.reduceSub, Nat.reduceEqDiff, Nat.reduceLT, Nat.succ_ne_self]
      have hne : ftE 8 b ≠ 0 := by rw [eE, rEnd_err hok]; exact hok
      generalize fdR b (0, 0) = r2 at *
      refine inC_ops TO 100 (fe_inC (n := 15) (r := r2) (tail := []) rfl hb2 hB h2) Tryd.func49 (by decide +kernel) rfl rfl rfl ⟨⟨rfl, rfl, by simp only [evO, gdP, gdPs, List.getD, List.getElem?_cons_zero, List.getElem?_cons_succ, Option.getD_some, and_self]⟩, ?_⟩
      rw [← eE]
      have hE' : (ftE 8 b != 0) = true := by simpa using hne
      rw [eA0 hne]
      simp only [hE', rdC, Say.preK, Say.postK, retPK, flat0, List.take_succ_cons, List.take_zero, List.drop_succ_cons, List.drop_zero, sayZ, List.take_succ_cons, List.take_zero, List.drop_succ_cons, List.drop_zero, pureOpC, buildV, fillC, cntC, unc, absRun, absOps, absOp, evO, constSV, ungd, gdP, gdPs, setD, binI, binV, ptrE, T_ty, T_size, T_zero, tTy, tSize, tZero, pureOp, memOp, loadV, scal, okC, takeC, dropC, blkAt, fnd, upd, Data.len, resV, retQ, rAs, rA, rA0, rAl, ownN, nodup, bares, bare, bare0, bareL, bareD, Op.operands, List.getD, List.getElem?_cons_zero, List.getElem?_cons_succ, Option.getD_some, List.set, List.map, List.all, List.toList_toArray, Option.bind_some, Option.map_some, true_and, and_true, and_self, if_true, if_false, eq_self, ne_eq, not_false_eq_true, reduceCtorEq, Nat.zero_add, Nat.add_zero, List.nil_append, List.append_nil, List.length_cons, List.length_nil, Nat.reduceAdd, Nat.reduceSub, Nat.reduceEqDiff, Nat.reduceLeDiff, Nat.reduceLT, List.replicate_succ, List.replicate_zero, Bool.and_self, Nat.reduceBNe]
    by_cases c9 : c = 9
    · subst c9
      have eR : ftR 9 b = rN b 4 (0, 0) := rfl
      have eV : ftV 9 b = { sayZ with n := rV b 4 (0, 0) } := rfl
      rw [eR] at eE
      rw [eV] at eA1
      clear eR eV
      simp only [if_true, if_false, eq_self, Bool.false_eq_true, Int.reduceBEq, beq_self_eq_true]
      refine inC_ops TO 100 (fn4_inC (n := 15) (r := (0, 0)) (tail := []) rfl hb2 hB (Nat.zero_le _)) Tryd.func45 (by decide +kernel) rfl rfl rfl ⟨⟨rfl, rfl, by simp only [evO, gdP, gdPs, List.getD, List.getElem?_cons_zero, List.getElem?_cons_succ, Option.getD_some, and_self]⟩, ?_⟩
      have h1 := rN_le (b := b) (k := 4) (r := (0, 0)) (Nat.zero_le _)
      have v1 := rV_lt b 4 (0, 0) hB
      have w1 : IntKind.u32.wrap (rV b 4 (0, 0)) = rV b 4 (0, 0) := by rw [IntKind.wrap_u32]; omega
      simp only [rdC, w1, pureOpC, unc, absRun, absOps, absOp, evO, ungd, gdP, gdPs, setD, convV, T_ty, T_size, tTy, tSize, fieldOf, faddrV, pureOp, memOp, scal, known, setC, blkAt, fnd, upd, Op.operands, List.getD, List.getElem?_cons_zero, List.getElem?_cons_succ, Option.getD_some, List.set, List.toList_toArray, Option.map_some, Option.map_none, true_and, and_self, if_true, if_false, eq_self, ne_eq, not_false_eq_true, reduceCtorEq, Nat.zero_add, Nat.reduceAdd, Nat.reduceSub, Nat.reduceEqDiff, Nat.reduceLT, Nat.succ_ne_self]
      generalize rN b 4 (0, 0) = r1 at *
      refine inC_ops TO 100 (fe_inC (n := 15) (r := r1) (tail := []) rfl hb2 hB h1) Tryd.func49 (by decide +kernel) rfl rfl rfl ⟨⟨rfl, rfl, by simp only [evO, gdP, gdPs, List.getD, List.getElem?_cons_zero, List.getElem?_cons_succ, Option.getD_some, and_self]⟩, ?_⟩
      rw [← eE]
      by_cases hE : ftE 9 b = 0
      · skip
        rw [eA1 hE]
        simp only [hE, rdC, Say.preK, Say.postK, retPK, flat0, List.take_succ_cons, List.take_zero, List.drop_succ_cons, List.drop_zero, sayZ, List.take_succ_cons, List.take_zero, List.drop_succ_cons, List.drop_zero, pureOpC, buildV, fillC, cntC, unc, absRun, absOps, absOp, evO, constSV, ungd, gdP, gdPs, setD, binI, binV, ptrE, T_ty, T_size, T_zero, tTy, tSize, tZero, pureOp, memOp, loadV, scal, okC, takeC, dropC, blkAt, fnd, upd, Data.len, resV, retQ, rAs, rA, rA0, rAl, ownN, nodup, bares, bare, bare0, bareL, bareD, Op.operands, List.getD, List.getElem?_cons_zero, List.getElem?_cons_succ, Option.getD_some, List.set, List.map, List.all, List.toList_toArray, Option.bind_some, Option.map_some, true_and, and_true, and_self, if_true, if_false, eq_self, ne_eq, not_false_eq_true, reduceCtorEq, Bool.false_eq_true, Nat.zero_add, Nat.add_zero, Int.reduceBNe, List.nil_append, List.append_nil, List.length_cons, List.length_nil, Nat.reduceAdd, Nat.reduceSub, Nat.reduceEqDiff, Nat.reduceLeDiff, Nat.reduceLT, List.replicate_succ, List.replicate_zero, Bool.and_self, Nat.reduceBNe]
      · have hE' : (ftE 9 b != 0) = true := by simpa using hE
        rw [eA0 hE]
        simp only [hE', rdC, Say.preK, Say.postK, retPK, flat0, List.take_succ_cons, List.take_zero, List.drop_succ_cons, List.drop_zero, sayZ, List.take_succ_cons, List.take_zero, List.drop_succ_cons, List.drop_zero, pureOpC, buildV, fillC, cntC, unc, absRun, absOps, absOp, evO, constSV, ungd, gdP, gdPs, setD, binI, binV, ptrE, T_ty, T_size, T_zero, tTy, tSize, tZero, pureOp, memOp, loadV, scal, okC, takeC, dropC, blkAt, fnd, upd, Data.len, resV, retQ, rAs, rA, rA0, rAl, ownN, nodup, bares, bare, bare0, bareL, bareD, Op.operands, List.getD, List.getElem?_cons_zero, List.getElem?_cons_succ, Option.getD_some, List.set, List.map, List.all, List.toList_toArray, Option.bind_some, Option.map_some, true_and, and_true, and_self, if_true, if_false, eq_self, ne_eq, not_false_eq_true, reduceCtorEq, Nat.zero_add, Nat.add_zero, List.nil_append, List.append_nil, List.length_cons, List.length_nil, Nat.reduceAdd, Nat.reduceSub, Nat.reduceEqDiff, Nat.reduceLeDiff, Nat.reduceLT, List.replicate_succ, List.replicate_zero, Bool.and_self, Nat.reduceBNe]
    have d5 : (c == 5) = false := by simpa using c5
    have d8 : (c == 8) = false := by simpa using c8
    have d9 : (c == 9) = false := by simpa using c9
    have eR : ftR c b = rM b 4 0 5 (0, 0) := by unfold ftR; rw [if_neg c5, if_neg c8, if_neg c9]
    have eV : ftV c b = sayZ := by unfold ftV; rw [if_neg c5, if_neg c8, if_neg c9]
    rw [eR] at eE
    rw [eV] at eA1
    clear eR eV
    simp only [d5, d8, d9, if_false, Bool.false_eq_true]
    refine inC_ops TO 100 (fs4_inC (n := 15) (m := 0) (e := 5) (r := (0, 0)) (tail := []) rfl hb2 hB (Nat.zero_le _)) Tryd.func47 (by decide +kernel) rfl rfl rfl ⟨⟨rfl, rfl, by simp only [evO, constSV, gdP, gdPs, List.getD, List.getElem?_cons_zero, List.getElem?_cons_succ, Option.getD_some, and_self]⟩, ?_⟩
    have h1 := rM_le (b := b) (k := 4) (m := 0) (e := 5) (r := (0, 0)) (Nat.zero_le _)
    simp only [rdC, pureOpC, absRun, absOps, absOp, evO, ungd, gdP, gdPs, setD, pureOp, memOp, upd, Op.operands, List.getD, List.getElem?_cons_zero, List.getElem?_cons_succ, Option.getD_some, List.set, List.toList_toArray, true_and, and_self, if_true, if_false, eq_self, Nat.reduceAdd, Nat.reduceEqDiff]
    generalize rM b 4 0 5 (0, 0) = r1 at *
    refine inC_ops TO 100 (fe_inC (n := 15) (r := r1) (tail := []) rfl hb2 hB h1) Tryd.func49 (by decide +kernel) rfl rfl rfl ⟨⟨rfl, rfl, by simp only [evO, gdP, gdPs, List.getD, List.getElem?_cons_zero, List.getElem?_cons_succ, Option.getD_some, and_self]⟩, ?_⟩
    rw [← eE]
    by_cases hE : ftE c b = 0
    · skip
      rw [eA1 hE]
      simp only [hE, rdC, Say.preK, Say.postK, retPK, flat0, List.take_succ_cons, List.take_zero, List.drop_succ_cons, List.drop_zero, sayZ, List.take_succ_cons, List.take_zero, List.drop_succ_cons, List.drop_zero, pureOpC, buildV, fillC, cntC, unc, absRun, absOps, absOp, evO, constSV, ungd, gdP, gdPs, setD, binI, binV, ptrE, T_ty, T_size, T_zero, tTy, tSize, tZero, pureOp, memOp, loadV, scal, okC, takeC, dropC, blkAt, fnd, upd, Data.len, resV, retQ, rAs, rA, rA0, rAl, ownN, nodup, bares, bare, bare0, bareL, bareD, Op.operands, List.getD, List.getElem?_cons_zero, List.getElem?_cons_succ, Option.getD_some, List.set, List.map, List.all, List.toList_toArray, Option.bind_some, Option.map_some, and_self, if_true, if_false, ite_self, eq_self, ne_eq, not_false_eq_true, reduceCtorEq, Bool.false_eq_true, Nat.zero_add, Nat.add_zero, Int.reduceBNe, List.nil_append, List.append_nil, List.length_cons, List.length_nil, Nat.reduceAdd, Nat.reduceSub, Nat.reduceEqDiff, Nat.reduceLeDiff, Nat.reduceLT, List.replicate_succ, List.replicate_zero, Bool.and_self, Nat.reduceBNe]
    · have hE' : (ftE c b != 0) = true := by simpa using hE
      rw [eA0 hE]
      simp only [hE', rdC, Say.preK, Say.postK, retPK, flat0, List.take_succ_cons, List.take_zero, List.drop_succ_cons, List.drop_zero, sayZ, List.take_succ_cons, List.take_zero, List.drop_succ_cons, List.drop_zero, pureOpC, buildV, fillC, cntC, unc, absRun, absOps, absOp, evO, constSV, ungd, gdP, gdPs, setD, binI, binV, ptrE, T_ty, T_size, T_zero, tTy, tSize, tZero, pureOp, memOp, loadV, scal, okC, takeC, dropC, blkAt, fnd, upd, Data.len, resV, retQ, rAs, rA, rA0, rAl, ownN, nodup, bares, bare, bare0, bareL, bareD, Op.operands, List.getD, List.getElem?_cons_zero, List.getElem?_cons_succ, Option.getD_some, List.set, List.map, List.all, List.toList_toArray, Option.bind_some, Option.map_some, true_and, and_true, and_self, if_true, if_false, eq_self, ne_eq, not_false_eq_true, reduceCtorEq, Nat.zero_add, Nat.add_zero, List.nil_append, List.append_nil, List.length_cons, List.length_nil, Nat.reduceAdd, Nat.reduceSub, Nat.reduceEqDiff, Nat.reduceLeDiff, Nat.reduceLT, List.replicate_succ, List.replicate_zero, Bool.and_self, Nat.reduceBNe]

end Go.Proofs.YtakgefinmlomdaaDoor.Abs
