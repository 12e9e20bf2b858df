/- The laws FileBack, FileOnce answer true. -/
import Derived.Test.YtakgefinmlomdaaDoorNL
import Derived.Test.YtakgefinmlomdaaDoorNI
set_option linter.unusedVariables false
set_option linter.unusedSimpArgs false
set_option maxRecDepth 100000
namespace Go.Proofs.YtakgefinmlomdaaDoor.Abs
open Go Go.Proofs

set_option maxHeartbeats 4000000 in
theorem FileOnce_law (c : Int) (b : List Int) (hc : 0 ≤ c ∧ c < 65536) (hb : b.length ≤ 1048576 ∧ Bytes b) : Meets Tryd.prog 9 ([.int .u16 c, .view false (.ints .u8 b)].map .v) [.v (.bool true)] := by
  obtain ⟨hb, hB⟩ := hb
  have h1 := fGetAsk2_meets c b hc.1 (by omega) hB
  have h3 := fGetSay2_meets c b hc.1 (by omega) hB
  have hS := Same_meets b b (by omega)
  rw [decide_eq_true rfl] at hS
  have ht : b.take b.length = b := List.take_length
  have p2 : fgE c b = 0 → Meets Tryd.prog 12 [.v (.int .u16 c), .v ((fgA c b).sv false)] [.own (.ints .u8 b), .v (.int .i64 0)] := fun h => by
    have k := file_once c b hB h
    have hP := fPutAsk_meets c (fgA c b) hc.1 (fg_ok c b hB) (fg_small c b hB)
    rw [k.1, k.2] at hP
    exact hP
  have p4 : ftE c b = 0 → Meets Tryd.prog 27 [.v (.int .u16 c), .v ((ftS c b).sv false)] [.own (.ints .u8 b), .v (.int .i64 0)] := fun h => by
    have k := file_say_once c b hB h
    have hP := fPutSay_meets c (ftS c b) hc.1 (ft_ok c b hB) (ft_small c b hB).data
    rw [k.1, k.2] at hP
    exact hP
  have qs := fg_small c b hB
  have qt := ft_small c b hB
  generalize fgA c b = A at *
  generalize ftS c b = S at *
  simp only [Ask.sv, Ask.cells] at h1 p2
  simp only [Say.sv, Say.cells] at h3 p4
  refine meets_go TO 100 Tryd.func9 rfl (fun X => ?_)
  simp only [Tryd.ntmps9, Tryd.results9, pureOpC, svs, blks, AV.sv, absRun, absOps, absOp, evO, constSV, ungd, gdP, gdPs, setD, pureOp, memOp, Op.operands, List.getD, List.getElem?_cons_zero, List.getElem?_cons_succ, Option.getD_some, List.set, List.map, List.toList_toArray, true_and, and_self, Nat.zero_add, List.cons_append, List.nil_append, List.length_cons, List.length_nil, Nat.reduceAdd, Nat.reduceSub, List.replicate_succ, List.replicate_zero]
  refine call_go TO 100 h1 Tryd.func18 (by decide +kernel) rfl rfl rfl ?_
  simp only [pureOpC, cntC, unc, absRun, absOps, absOp, evO, constSV, ungd, gdP, gdPs, setD, binI, binV, ptrE, T_ty, T_size, T_zero, tTy, tSize, tZero, extractV, pureOp, memOp, loadV, newV, notIn, scal, okC, takeC, dropC, blkAt, fnd, upd, Lim.add, ownN, nodup, bares, bare, bare0, bareL, bareD, guardIs, callP, callS, argS, mAs, mA, mA0, mB0, lowD, allNotIn, impN, impB, impT, packS, delL, Op.operands, List.getD, List.getElem?_cons_zero, List.getElem?_cons_succ, Option.getD_some, List.set, List.map, List.toList_toArray, Option.bind_some, Option.map_some, true_and, and_self, if_true, eq_self, ne_eq, not_false_eq_true, reduceCtorEq, Nat.zero_add, Nat.add_zero, List.nil_append, List.append_nil, Nat.reduceAdd, Nat.reduceSub, Nat.reduceLeDiff, List.replicate_succ, List.replicate_zero, Bool.and_self]
  by_cases hE : fgE c b = 0
  · rw [if_pos (by simp [hE])]
    refine call_go TO 100 (p2 hE) Tryd.func12 (by decide +kernel) rfl rfl rfl ?_
    simp only [pureOpC, unc, absRun, absOps, absOp, evO, constSV, ungd, gdP, gdPs, setD, binI, binV, ptrE, extractV, pureOp, guardOf, notIn, upd, Data.len, Data.esz, ownN, nodup, bares, bare, bare0, bareD, guardIs, callP, callS, argS, mAs, mA, mA0, mB0, mAl, lowD, allNotIn, nm, impN, impB, impT, packS, delL, Op.operands, List.getD, List.getElem?_cons_zero, List.getElem?_cons_succ, Option.getD_some, List.set, List.map, List.toList_toArray, List.getElem?_toArray, Option.bind_some, true_and, and_self, implies_true, if_false, eq_self, Nat.zero_add, Nat.add_zero, Int.reduceBNe, List.append_nil, Nat.reduceAdd, Nat.reduceMul, Nat.reduceEqDiff, Bool.not_false, Bool.and_self]
    refine call_go TO 100 hS Tryd.func14 (by decide +kernel) rfl rfl rfl ?_
    simp only [ht, List.drop_zero, pureOpC, unc, absRun, absOps, absOp, evO, constSV, ungd, gdP, gdPs, setD, unV, pickV, pureOp, guardOf, memOp, notIn, blkAt, fnd, Data.len, Data.esz, Data.sub, retP, resV, retQ, rAs, rA, rA0, ownN, nodup, bares, bare, bare0, guardIs, callP, callS, argS, mAs, mA, mA0, mB0, lowD, allNotIn, impN, impB, impT, packS, delL, Op.operands, List.getD, List.getElem?_cons_zero, List.getElem?_cons_succ, Option.getD_some, List.set, List.map, List.toList_toArray, List.getElem?_toArray, Option.bind_some, true_and, and_true, and_false, and_self, implies_true, if_true, if_false, eq_self, Bool.false_eq_true, Nat.zero_add, Nat.le_refl, Bool.cond_false, List.append_nil, Nat.reduceAdd, Nat.reduceEqDiff, Bool.not_true, Bool.not_false, Bool.and_self]
    refine call_go TO 100 h3 Tryd.func20 (by decide +kernel) rfl rfl rfl ?_
    simp only [pureOpC, cntC, unc, absRun, absOps, absOp, evO, constSV, ungd, gdP, gdPs, setD, binI, binV, ptrE, T_ty, T_size, T_zero, tTy, tSize, tZero, extractV, pureOp, memOp, loadV, newV, notIn, scal, okC, takeC, dropC, blkAt, fnd, upd, Lim.add, ownN, nodup, bares, bare, bare0, bareL, bareD, guardIs, callP, callS, argS, mAs, mA, mA0, mB0, lowD, allNotIn, impN, impB, impT, packS, delL, Op.operands, List.getD, List.getElem?_cons_zero, List.getElem?_cons_succ, Option.getD_some, List.set, List.map, List.toList_toArray, Option.bind_some, Option.map_some, true_and, and_self, if_true, if_false, eq_self, ne_eq, not_false_eq_true, reduceCtorEq, Nat.zero_add, Nat.add_zero, List.nil_append, List.append_nil, Nat.reduceAdd, Nat.reduceSub, Nat.reduceEqDiff, Nat.reduceLeDiff, List.replicate_succ, List.replicate_zero, Bool.and_self]
    by_cases hF : ftE c b = 0
    · rw [if_pos (by simp [hF])]
      refine call_go TO 100 (p4 hF) Tryd.func27 (by decide +kernel) rfl rfl rfl ?_
      simp only [pureOpC, unc, absRun, absOps, absOp, evO, constSV, ungd, gdP, gdPs, setD, binI, binV, ptrE, extractV, pureOp, guardOf, notIn, upd, Data.len, Data.esz, ownN, nodup, bares, bare, bare0, bareD, guardIs, callP, callS, argS, mAs, mA, mA0, mB0, mAl, lowD, allNotIn, nm, impN, impB, impT, packS, delL, Op.operands, List.getD, List.getElem?_cons_zero, List.getElem?_cons_succ, Option.getD_some, List.set, List.map, List.toList_toArray, List.getElem?_toArray, Option.bind_some, true_and, and_self, implies_true, if_false, eq_self, Nat.zero_add, Nat.add_zero, Int.reduceBNe, List.append_nil, Nat.reduceAdd, Nat.reduceMul, Nat.reduceEqDiff, Bool.not_false, Bool.and_self]
      refine call_go TO 100 hS Tryd.func14 (by decide +kernel) rfl rfl rfl ?_
      simp only [ht, List.drop_zero, pureOpC, unc, absRun, absOps, absOp, evO, constSV, ungd, gdP, gdPs, setD, unV, pickV, pureOp, guardOf, memOp, notIn, blkAt, fnd, Data.len, Data.esz, Data.sub, retP, resV, retQ, rAs, rA, rA0, ownN, nodup, bares, bare, bare0, guardIs, callP, callS, argS, mAs, mA, mA0, mB0, lowD, allNotIn, impN, impB, impT, packS, delL, Op.operands, List.getD, List.getElem?_cons_zero, List.getElem?_cons_succ, Option.getD_some, List.set, List.map, List.toList_toArray, List.getElem?_toArray, Option.bind_some, true_and, and_true, and_false, and_self, implies_true, if_true, if_false, eq_self, Bool.false_eq_true, Nat.zero_add, Nat.le_refl, Bool.cond_false, List.append_nil, Nat.reduceAdd, Nat.reduceEqDiff, Bool.not_true, Bool.not_false, Bool.and_self]
      refine call_go TO 100 lives9_meets Tryd.func16 (by decide +kernel) rfl rfl rfl ?_
      simp only [pureOpC, unc, absRun, absOps, absOp, evO, ungd, gdP, gdPs, setD, retP, resV, retQ, rAs, rA, rA0, ownN, nodup, bares, bare, bare0, guardIs, callP, callS, argS, mAs, allNotIn, impN, impB, impT, packS, delL, Op.operands, List.getD, List.getElem?_cons_zero, List.getElem?_cons_succ, Option.getD_some, List.set, List.map, List.toList_toArray, and_self, eq_self, List.append_nil, Bool.and_self]
    · rw [if_neg (by simp [hF])]
      refine call_go TO 100 lives9_meets Tryd.func16 (by decide +kernel) rfl rfl rfl ?_
      simp only [pureOpC, unc, absRun, absOps, absOp, evO, ungd, gdP, gdPs, setD, retP, resV, retQ, rAs, rA, rA0, ownN, nodup, bares, bare, bare0, guardIs, callP, callS, argS, mAs, allNotIn, impN, impB, impT, packS, delL, Op.operands, List.getD, List.getElem?_cons_zero, List.getElem?_cons_succ, Option.getD_some, List.set, List.map, List.toList_toArray, and_self, eq_self, List.append_nil, Bool.and_self]
  · rw [if_neg (by simp [hE])]
    refine call_go TO 100 h3 Tryd.func20 (by decide +kernel) rfl rfl rfl ?_
    simp only [pureOpC, cntC, unc, absRun, absOps, absOp, evO, constSV, ungd, gdP, gdPs, setD, binI, binV, ptrE, T_ty, T_size, T_zero, tTy, tSize, tZero, extractV, pureOp, memOp, loadV, newV, notIn, scal, okC, takeC, dropC, blkAt, fnd, upd, Lim.add, ownN, nodup, bares, bare, bare0, bareL, bareD, guardIs, callP, callS, argS, mAs, mA, mA0, mB0, lowD, allNotIn, impN, impB, impT, packS, delL, Op.operands, List.getD, List.getElem?_cons_zero, List.getElem?_cons_succ, Option.getD_some, List.set, List.map, List.toList_toArray, Option.bind_some, Option.map_some, true_and, and_self, if_true, if_false, eq_self, ne_eq, not_false_eq_true, reduceCtorEq, Nat.zero_add, Nat.add_zero, List.nil_append, List.append_nil, Nat.reduceAdd, Nat.reduceSub, Nat.reduceEqDiff, Nat.reduceLeDiff, List.replicate_succ, List.replicate_zero, Bool.and_self]
    by_cases hF : ftE c b = 0
    · rw [if_pos (by simp [hF])]
      refine call_go TO 100 (p4 hF) Tryd.func27 (by decide +kernel) rfl rfl rfl ?_
      simp only [pureOpC, unc, absRun, absOps, absOp, evO, constSV, ungd, gdP, gdPs, setD, binI, binV, ptrE, extractV, pureOp, guardOf, notIn, upd, Data.len, Data.esz, ownN, nodup, bares, bare, bare0, bareD, guardIs, callP, callS, argS, mAs, mA, mA0, mB0, mAl, lowD, allNotIn, nm, impN, impB, impT, packS, delL, Op.operands, List.getD, List.getElem?_cons_zero, List.getElem?_cons_succ, Option.getD_some, List.set, List.map, List.toList_toArray, List.getElem?_toArray, Option.bind_some, true_and, and_self, implies_true, if_false, eq_self, Nat.zero_add, Nat.add_zero, Int.reduceBNe, List.append_nil, Nat.reduceAdd, Nat.reduceMul, Nat.reduceEqDiff, Bool.not_false, Bool.and_self]
      refine call_go TO 100 hS Tryd.func14 (by decide +kernel) rfl rfl rfl ?_
      simp only [ht, List.drop_zero, pureOpC, unc, absRun, absOps, absOp, evO, constSV, ungd, gdP, gdPs, setD, unV, pickV, pureOp, guardOf, memOp, notIn, blkAt, fnd, Data.len, Data.esz, Data.sub, retP, resV, retQ, rAs, rA, rA0, ownN, nodup, bares, bare, bare0, guardIs, callP, callS, argS, mAs, mA, mA0, mB0, lowD, allNotIn, impN, impB, impT, packS, delL, Op.operands, List.getD, List.getElem?_cons_zero, List.getElem?_cons_succ, Option.getD_some, List.set, List.map, List.toList_toArray, List.getElem?_toArray, Option.bind_some, true_and, and_true, and_false, and_self, implies_true, if_true, if_false, eq_self, Bool.false_eq_true, Nat.zero_add, Nat.le_refl, Bool.cond_false, List.append_nil, Nat.reduceAdd, Nat.reduceEqDiff, Bool.not_true, Bool.not_false, Bool.and_self]
      refine call_go TO 100 lives9_meets Tryd.func16 (by decide +kernel) rfl rfl rfl ?_
      simp only [pureOpC, unc, absRun, absOps, absOp, evO, ungd, gdP, gdPs, setD, retP, resV, retQ, rAs, rA, rA0, ownN, nodup, bares, bare, bare0, guardIs, callP, callS, argS, mAs, allNotIn, impN, impB, impT, packS, delL, Op.operands, List.getD, List.getElem?_cons_zero, List.getElem?_cons_succ, Option.getD_some, List.set, List.map, List.toList_toArray, and_self, eq_self, List.append_nil, Bool.and_self]
    · rw [if_neg (by simp [hF])]
      refine call_go TO 100 lives9_meets Tryd.func16 (by decide +kernel) rfl rfl rfl ?_
      simp only [pureOpC, unc, absRun, absOps, absOp, evO, ungd, gdP, gdPs, setD, retP, resV, retQ, rAs, rA, rA0, ownN, nodup, bares, bare, bare0, guardIs, callP, callS, argS, mAs, allNotIn, impN, impB, impT, packS, delL, Op.operands, List.getD, List.getElem?_cons_zero, List.getElem?_cons_succ, Option.getD_some, List.set, List.map, List.toList_toArray, and_self, eq_self, List.append_nil, Bool.and_self]

set_option maxHeartbeats 4000000 in
theorem FileBack_law (c : Int) (a : Ask) (s : Say) (hc : 0 ≤ c ∧ c < 65536) (ha : a.ok ∧ a.small 1048576) (hs : s.ok ∧ s.small 1048576) : Meets Tryd.prog 8 ([.int .u16 c, a.sv false, s.sv false].map .v) [.v (.bool true)] := by
  obtain ⟨ha, hs1⟩ := ha
  obtain ⟨hs, hs2⟩ := hs
  have hP := fPutAsk_meets c a hc.1 ha hs1
  have hQ := fPutSay_meets c s hc.1 hs hs2.data
  have ll := faL_len c a ha
  have l2 := fsL_len c s hs
  have hBa : Bytes (faL c a) := faL_bytes c a ha
  have hBs : Bytes (fsL c s) := fsL_bytes c s hs
  have h1 := fGetAsk2_meets c (faL c a) hc.1 (by omega) hBa
  have h3 := fGetSay2_meets c (fsL c s) hc.1 (by omega) hBs
  have hA := Asks_meets a a (by have := hs1.dialects; omega) (by have := hs1.data; omega) (by have := hs1.locks; omega)
  rw [asks_dec, decide_eq_true rfl] at hA
  have hS := Says_meets s s (by have := hs2.data; omega) (by have := hs2.entries; omega)
  rw [says_dec, decide_eq_true rfl] at hS
  have k1 : faE c a = 0 → fgE c (faL c a) = 0 ∧ fgA c (faL c a) = a := file_back c a ha
  have k2 : fsE c s = 0 → ftE c (fsL c s) = 0 ∧ ftS c (fsL c s) = s := file_say_back c s hs
  have t1 : (faL c a).take (faL c a).length = faL c a := List.take_length
  have t2 : (fsL c s).take (fsL c s).length = fsL c s := List.take_length
  have A1 : faE c a = 0 → Meets Tryd.prog 18 [.v (.int .u16 c), .v (.view false (.ints .u8 (faL c a)))] [.v (a.sv true), .v (.int .i64 0)] := fun h => by
    rw [(k1 h).1, (k1 h).2] at h1; exact h1
  have A2 : fsE c s = 0 → Meets Tryd.prog 20 [.v (.int .u16 c), .v (.view false (.ints .u8 (fsL c s)))] [.v (s.sv true), .v (.int .i64 0)] := fun h => by
    rw [(k2 h).1, (k2 h).2] at h3; exact h3
  clear k1 k2
  generalize fgE c (faL c a) = e1 at *
  generalize fgA c (faL c a) = x1 at *
  generalize ftE c (fsL c s) = e2 at *
  generalize ftS c (fsL c s) = x2 at *
  generalize faL c a = l at *
  generalize fsL c s = m at *
  generalize faE c a = e at *
  generalize fsE c s = g at *
  simp only [Ask.sv, Ask.cells, Say.sv, Say.cells] at *
  refine meets_go TO 100 Tryd.func8 rfl (fun X => ?_)
  simp only [Tryd.ntmps8, Tryd.results8, pureOpC, unc, svs, blks, AV.sv, absRun, absOps, absOp, evO, constSV, ungd, gdP, gdPs, setD, T_ty, T_size, tTy, tSize, pureOp, memOp, loadV, newV, notIn, cellsOf, takeC, dropC, blkAt, fnd, upd, Lim.add, Op.operands, List.getD, List.getElem?_cons_zero, List.getElem?_cons_succ, Option.getD_some, List.set, List.map, List.toList_toArray, Option.bind_some, Option.map_some, true_and, and_self, if_true, if_false, eq_self, ne_eq, not_false_eq_true, reduceCtorEq, Nat.zero_add, List.cons_append, List.nil_append, List.length_cons, List.length_nil, Nat.reduceAdd, Nat.reduceSub, Nat.reduceEqDiff, Nat.reduceLeDiff, Nat.succ_ne_self, List.replicate_succ, List.replicate_zero]
  refine call_go TO 100 hP Tryd.func12 (by decide +kernel) rfl rfl rfl ?_
  simp only [pureOpC, unc, absRun, absOps, absOp, evO, ungd, gdP, gdPs, setD, extractV, pureOp, memOp, notIn, upd, Data.len, Data.esz, ownN, nodup, bares, bare, bare0, bareD, guardIs, callP, callS, argS, mAs, mA, mA0, mB0, mAl, lowD, allNotIn, nm, impN, impB, impT, packS, delL, Op.operands, List.getD, List.getElem?_cons_zero, List.getElem?_cons_succ, Option.getD_some, List.set, List.map, List.toList_toArray, true_and, and_self, if_false, eq_self, Nat.zero_add, Nat.add_zero, List.append_nil, Nat.reduceAdd, Nat.reduceMul, Nat.reduceEqDiff, Bool.and_self]
  by_cases he : e = 0
  · subst he
    refine call_go TO 100 (A1 rfl) Tryd.func18 (by decide +kernel) rfl rfl rfl ?_
    simp only [t1, List.drop_zero, pureOpC, cntC, unc, absRun, absOps, absOp, evO, constSV, ungd, gdP, gdPs, setD, binI, binV, ptrE, T_ty, T_size, T_zero, tTy, tSize, tZero, extractV, pureOp, guardOf, memOp, loadV, newV, notIn, scal, okC, takeC, dropC, blkAt, fnd, upd, Data.len, Data.esz, Data.sub, Lim.add, ownN, nodup, bares, bare, bare0, bareL, bareD, guardIs, callP, callS, argS, mAs, mA, mA0, mB0, lowD, allNotIn, impN, impB, impT, packS, delL, Op.operands, List.getD, List.getElem?_cons_zero, List.getElem?_cons_succ, Option.getD_some, List.set, List.map, List.toList_toArray, List.getElem?_toArray, Option.bind_some, Option.map_some, true_and, and_self, implies_true, if_true, if_false, eq_self, ne_eq, not_false_eq_true, reduceCtorEq, Nat.zero_add, Nat.add_zero, Nat.le_refl, Int.reduceBNe, List.nil_append, List.append_nil, Nat.reduceAdd, Nat.reduceSub, Nat.reduceEqDiff, Nat.reduceLeDiff, Bool.not_false, beq_self_eq_true, List.replicate_succ, List.replicate_zero, Bool.and_self]
    refine call_go TO 100 hA Tryd.func15 (by decide +kernel) rfl rfl rfl ?_
    simp only [pureOpC, unc, absRun, absOps, absOp, evO, constSV, ungd, gdP, gdPs, setD, unV, T_ty, T_size, tTy, tSize, pickV, pureOp, guardOf, memOp, loadV, takeC, dropC, blkAt, fnd, retP, resV, retQ, rAs, rA, rA0, ownN, nodup, bares, bare, bare0, guardIs, callP, callS, argS, mAs, mA, mA0, mB0, mAl, lowD, allNotIn, impN, impB, impT, packS, delL, Op.operands, List.getD, List.getElem?_cons_zero, List.getElem?_cons_succ, Option.getD_some, List.set, List.map, List.toList_toArray, List.getElem?_toArray, Option.bind_some, Option.map_some, true_and, and_true, and_false, and_self, implies_true, if_true, if_false, eq_self, ne_eq, not_false_eq_true, reduceCtorEq, Bool.false_eq_true, Bool.cond_true, Bool.cond_false, List.append_nil, Nat.reduceAdd, Nat.reduceSub, Nat.reduceEqDiff, Nat.reduceLeDiff, Nat.succ_ne_self, Bool.not_true, Bool.not_false, Bool.and_self]
    refine call_go TO 100 hQ Tryd.func27 (by decide +kernel) rfl rfl rfl ?_
    simp only [pureOpC, unc, absRun, absOps, absOp, evO, ungd, gdP, gdPs, setD, extractV, pureOp, memOp, notIn, upd, Data.len, Data.esz, ownN, nodup, bares, bare, bare0, bareD, guardIs, callP, callS, argS, mAs, mA, mA0, mB0, mAl, lowD, allNotIn, nm, impN, impB, impT, packS, delL, Op.operands, List.getD, List.getElem?_cons_zero, List.getElem?_cons_succ, Option.getD_some, List.set, List.map, List.toList_toArray, true_and, and_self, if_false, eq_self, Nat.zero_add, Nat.add_zero, List.append_nil, Nat.reduceAdd, Nat.reduceMul, Nat.reduceEqDiff, Bool.and_self]
    by_cases hg : g = 0
    · subst hg
      refine call_go TO 100 (A2 rfl) Tryd.func20 (by decide +kernel) rfl rfl rfl ?_
      simp only [t2, List.drop_zero, pureOpC, cntC, unc, absRun, absOps, absOp, evO, constSV, ungd, gdP, gdPs, setD, binI, binV, ptrE, T_ty, T_size, T_zero, tTy, tSize, tZero, extractV, pureOp, guardOf, memOp, loadV, newV, notIn, scal, okC, takeC, dropC, blkAt, fnd, upd, Data.len, Data.esz, Data.sub, Lim.add, ownN, nodup, bares, bare, bare0, bareL, bareD, guardIs, callP, callS, argS, mAs, mA, mA0, mB0, lowD, allNotIn, impN, impB, impT, packS, delL, Op.operands, List.getD, List.getElem?_cons_zero, List.getElem?_cons_succ, Option.getD_some, List.set, List.map, List.toList_toArray, List.getElem?_toArray, Option.bind_some, Option.map_some, true_and, and_self, implies_true, if_true, if_false, eq_self, ne_eq, not_false_eq_true, reduceCtorEq, Nat.zero_add, Nat.add_zero, Nat.le_refl, Int.reduceBNe, List.nil_append, List.append_nil, Nat.reduceAdd, Nat.reduceSub, Nat.reduceEqDiff, Nat.reduceLeDiff, Nat.succ_ne_self, Bool.not_false, beq_self_eq_true, List.replicate_succ, List.replicate_zero, Bool.and_self]
      refine call_go TO 100 hS Tryd.func22 (by decide +kernel) rfl rfl rfl ?_
      simp only [pureOpC, unc, absOps, absOp, evO, constSV, ungd, gdP, gdPs, setD, pickV, pureOp, guardOf, ownN, nodup, bares, bare, bare0, guardIs, callP, callS, argS, mAs, mA, mA0, mB0, mAl, lowD, allNotIn, impN, impB, impT, packS, delL, Op.operands, List.getD, List.getElem?_cons_zero, List.getElem?_cons_succ, Option.getD_some, List.set, List.map, List.toList_toArray, List.getElem?_toArray, Option.bind_some, true_and, and_self, implies_true, eq_self, Bool.cond_true, Bool.cond_false, List.append_nil, Bool.not_false, Bool.and_self]
      refine call_go TO 100 lives9_meets Tryd.func16 (by decide +kernel) rfl rfl rfl ?_
      simp only [pureOpC, unc, absRun, absOps, absOp, evO, constSV, ungd, gdP, gdPs, setD, pickV, guardOf, retP, resV, retQ, rAs, rA, rA0, ownN, nodup, bares, bare, bare0, guardIs, callP, callS, argS, mAs, allNotIn, impN, impB, impT, packS, delL, Op.operands, List.getD, List.getElem?_cons_zero, List.getElem?_cons_succ, Option.getD_some, List.set, List.map, List.toList_toArray, List.getElem?_toArray, Option.bind_some, and_self, eq_self, Bool.cond_true, List.append_nil, Bool.and_self]
    · refine call_go TO 100 h3 Tryd.func20 (by decide +kernel) rfl rfl rfl ?_
      have hg2 : (g == 0) = false := by simpa using hg
      have hg3 : (g != 0) = true := by simpa using hg
      simp only [t2, hg3, List.drop_zero, pureOpC, cntC, unc, absRun, absOps, absOp, evO, constSV, ungd, gdP, gdPs, setD, binI, binV, ptrE, T_ty, T_size, T_zero, tTy, tSize, tZero, extractV, pureOp, guardOf, memOp, loadV, newV, notIn, scal, okC, takeC, dropC, blkAt, fnd, upd, Data.len, Data.esz, Data.sub, Lim.add, ownN, nodup, bares, bare, bare0, bareL, bareD, guardIs, callP, callS, argS, mAs, mA, mA0, mB0, lowD, allNotIn, impN, impB, impT, packS, delL, Op.operands, List.getD, List.getElem?_cons_zero, List.getElem?_cons_succ, Option.getD_some, List.set, List.map, List.toList_toArray, List.getElem?_toArray, Option.bind_some, Option.map_some, true_and, and_self, implies_true, imp_self, if_true, if_false, eq_self, ne_eq, not_false_eq_true, reduceCtorEq, Bool.false_eq_true, Nat.zero_add, Nat.add_zero, Nat.le_refl, List.nil_append, List.append_nil, Nat.reduceAdd, Nat.reduceSub, Nat.reduceEqDiff, Nat.reduceLeDiff, Nat.succ_ne_self, Bool.not_true, List.replicate_succ, List.replicate_zero, Bool.and_self, Bool.false_and]
      refine skip_go TO 100 (.bool false) ?_
      simp only [pureOpC, absOps, absOp, evO, constSV, ungd, gdP, gdPs, setD, pickV, pureOp, guardOf, guardIs, Op.operands, List.getD, List.getElem?_cons_zero, List.getElem?_cons_succ, Option.getD_some, List.set, List.toList_toArray, List.getElem?_toArray, Option.bind_some, true_and, and_self, imp_self, eq_self, Bool.false_eq_true, Bool.cond_false_right, Bool.cond_true, Bool.not_true, Bool.and_false, Bool.false_and]
      refine call_go TO 100 lives9_meets Tryd.func16 (by decide +kernel) rfl rfl rfl ?_
      simp only [pureOpC, unc, absRun, absOps, absOp, evO, constSV, ungd, gdP, gdPs, setD, pickV, guardOf, retP, resV, retQ, rAs, rA, rA0, ownN, nodup, bares, bare, bare0, guardIs, callP, callS, argS, mAs, allNotIn, impN, impB, impT, packS, delL, Op.operands, List.getD, List.getElem?_cons_zero, List.getElem?_cons_succ, Option.getD_some, List.set, List.map, List.toList_toArray, List.getElem?_toArray, Option.bind_some, and_self, eq_self, Bool.cond_true, List.append_nil, Bool.and_self]
  · refine call_go TO 100 h1 Tryd.func18 (by decide +kernel) rfl rfl rfl ?_
    have he2 : (e == 0) = false := by simpa using he
    simp only [t1, he2, List.drop_zero, pureOpC, cntC, unc, absRun, absOps, absOp, evO, constSV, ungd, gdP, gdPs, setD, binI, binV, ptrE, T_ty, T_size, T_zero, tTy, tSize, tZero, extractV, pureOp, guardOf, memOp, loadV, newV, notIn, scal, okC, takeC, dropC, blkAt, fnd, upd, Data.len, Data.esz, Data.sub, Lim.add, ownN, nodup, bares, bare, bare0, bareL, bareD, guardIs, callP, callS, argS, mAs, mA, mA0, mB0, lowD, allNotIn, impN, impB, impT, packS, delL, Op.operands, List.getD, List.getElem?_cons_zero, List.getElem?_cons_succ, Option.getD_some, List.set, List.map, List.toList_toArray, List.getElem?_toArray, Option.bind_some, Option.map_some, true_and, and_self, implies_true, imp_self, if_true, if_false, eq_self, ne_eq, not_false_eq_true, reduceCtorEq, Bool.false_eq_true, Nat.zero_add, Nat.add_zero, Nat.le_refl, List.nil_append, List.append_nil, Nat.reduceAdd, Nat.reduceSub, Nat.reduceEqDiff, Nat.reduceLeDiff, List.replicate_succ, List.replicate_zero, Bool.and_self, Bool.false_and]
    refine skip_go TO 100 (.bool false) ?_
    simp only [pureOpC, unc, absRun, absOps, absOp, evO, constSV, ungd, gdP, gdPs, setD, unV, T_ty, T_size, tTy, tSize, pickV, pureOp, guardOf, memOp, loadV, takeC, dropC, blkAt, fnd, retP, resV, retQ, rAs, rA, rA0, ownN, nodup, bares, bare, bare0, guardIs, Op.operands, List.getD, List.getElem?_cons_zero, List.getElem?_cons_succ, Option.getD_some, List.set, List.map, List.toList_toArray, List.getElem?_toArray, Option.bind_some, Option.map_some, true_and, and_true, and_false, and_self, implies_true, imp_self, if_true, if_false, eq_self, ne_eq, not_false_eq_true, reduceCtorEq, Bool.false_eq_true, Bool.cond_true_left, Bool.cond_false, Nat.reduceAdd, Nat.reduceSub, Nat.reduceEqDiff, Nat.reduceLeDiff, Nat.succ_ne_self, Bool.not_false, Bool.and_self, Bool.false_and, Bool.or_true]
    refine call_go TO 100 hQ Tryd.func27 (by decide +kernel) rfl rfl rfl ?_
    simp only [pureOpC, unc, absRun, absOps, absOp, evO, ungd, gdP, gdPs, setD, extractV, pureOp, memOp, notIn, upd, Data.len, Data.esz, ownN, nodup, bares, bare, bare0, bareD, guardIs, callP, callS, argS, mAs, mA, mA0, mB0, mAl, lowD, allNotIn, nm, impN, impB, impT, packS, delL, Op.operands, List.getD, List.getElem?_cons_zero, List.getElem?_cons_succ, Option.getD_some, List.set, List.map, List.toList_toArray, true_and, and_self, if_false, eq_self, Nat.zero_add, Nat.add_zero, List.append_nil, Nat.reduceAdd, Nat.reduceMul, Nat.reduceEqDiff, Bool.and_self]
    by_cases hg : g = 0
    · subst hg
      refine call_go TO 100 (A2 rfl) Tryd.func20 (by decide +kernel) rfl rfl rfl ?_
      simp only [t2, List.drop_zero, pureOpC, cntC, unc, absRun, absOps, absOp, evO, constSV, ungd, gdP, gdPs, setD, binI, binV, ptrE, T_ty, T_size, T_zero, tTy, tSize, tZero, extractV, pureOp, guardOf, memOp, loadV, newV, notIn, scal, okC, takeC, dropC, blkAt, fnd, upd, Data.len, Data.esz, Data.sub, Lim.add, ownN, nodup, bares, bare, bare0, bareL, bareD, guardIs, callP, callS, argS, mAs, mA, mA0, mB0, lowD, allNotIn, impN, impB, impT, packS, delL, Op.operands, List.getD, List.getElem?_cons_zero, List.getElem?_cons_succ, Option.getD_some, List.set, List.map, List.toList_toArray, List.getElem?_toArray, Option.bind_some, Option.map_some, true_and, and_self, implies_true, if_true, if_false, eq_self, ne_eq, not_false_eq_true, reduceCtorEq, Nat.zero_add, Nat.add_zero, Nat.le_refl, Int.reduceBNe, List.nil_append, List.append_nil, Nat.reduceAdd, Nat.reduceSub, Nat.reduceEqDiff, Nat.reduceLeDiff, Nat.succ_ne_self, Bool.not_false, beq_self_eq_true, List.replicate_succ, List.replicate_zero, Bool.and_self]
      refine call_go TO 100 hS Tryd.func22 (by decide +kernel) rfl rfl rfl ?_
      simp only [pureOpC, unc, absOps, absOp, evO, constSV, ungd, gdP, gdPs, setD, pickV, pureOp, guardOf, ownN, nodup, bares, bare, bare0, guardIs, callP, callS, argS, mAs, mA, mA0, mB0, mAl, lowD, allNotIn, impN, impB, impT, packS, delL, Op.operands, List.getD, List.getElem?_cons_zero, List.getElem?_cons_succ, Option.getD_some, List.set, List.map, List.toList_toArray, List.getElem?_toArray, Option.bind_some, true_and, and_self, implies_true, eq_self, Bool.cond_true, Bool.cond_false, List.append_nil, Bool.not_false, Bool.and_self]
      refine call_go TO 100 lives9_meets Tryd.func16 (by decide +kernel) rfl rfl rfl ?_
      simp only [pureOpC, unc, absRun, absOps, absOp, evO, constSV, ungd, gdP, gdPs, setD, pickV, guardOf, retP, resV, retQ, rAs, rA, rA0, ownN, nodup, bares, bare, bare0, guardIs, callP, callS, argS, mAs, allNotIn, impN, impB, impT, packS, delL, Op.operands, List.getD, List.getElem?_cons_zero, List.getElem?_cons_succ, Option.getD_some, List.set, List.map, List.toList_toArray, List.getElem?_toArray, Option.bind_some, and_self, eq_self, Bool.cond_true, List.append_nil, Bool.and_self]
    · refine call_go TO 100 h3 Tryd.func20 (by decide +kernel) rfl rfl rfl ?_
      have hg2 : (g == 0) = false := by simpa using hg
      have hg3 : (g != 0) = true := by simpa using hg
      simp only [t2, hg3, List.drop_zero, pureOpC, cntC, unc, absRun, absOps, absOp, evO, constSV, ungd, gdP, gdPs, setD, binI, binV, ptrE, T_ty, T_size, T_zero, tTy, tSize, tZero, extractV, pureOp, guardOf, memOp, loadV, newV, notIn, scal, okC, takeC, dropC, blkAt, fnd, upd, Data.len, Data.esz, Data.sub, Lim.add, ownN, nodup, bares, bare, bare0, bareL, bareD, guardIs, callP, callS, argS, mAs, mA, mA0, mB0, lowD, allNotIn, impN, impB, impT, packS, delL, Op.operands, List.getD, List.getElem?_cons_zero, List.getElem?_cons_succ, Option.getD_some, List.set, List.map, List.toList_toArray, List.getElem?_toArray, Option.bind_some, Option.map_some, true_and, and_self, implies_true, imp_self, if_true, if_false, eq_self, ne_eq, not_false_eq_true, reduceCtorEq, Bool.false_eq_true, Nat.zero_add, Nat.add_zero, Nat.le_refl, List.nil_append, List.append_nil, Nat.reduceAdd, Nat.reduceSub, Nat.reduceEqDiff, Nat.reduceLeDiff, Nat.succ_ne_self, Bool.not_true, List.replicate_succ, List.replicate_zero, Bool.and_self, Bool.false_and]
      refine skip_go TO 100 (.bool false) ?_
      simp only [pureOpC, absOps, absOp, evO, constSV, ungd, gdP, gdPs, setD, pickV, pureOp, guardOf, guardIs, Op.operands, List.getD, List.getElem?_cons_zero, List.getElem?_cons_succ, Option.getD_some, List.set, List.toList_toArray, List.getElem?_toArray, Option.bind_some, true_and, and_self, imp_self, eq_self, Bool.false_eq_true, Bool.cond_false_right, Bool.cond_true, Bool.not_true, Bool.and_false, Bool.false_and]
      refine call_go TO 100 lives9_meets Tryd.func16 (by decide +kernel) rfl rfl rfl ?_
      simp only [pureOpC, unc, absRun, absOps, absOp, evO, constSV, ungd, gdP, gdPs, setD, pickV, guardOf, retP, resV, retQ, rAs, rA, rA0, ownN, nodup, bares, bare, bare0, guardIs, callP, callS, argS, mAs, allNotIn, impN, impB, impT, packS, delL, Op.operands, List.getD, List.getElem?_cons_zero, List.getElem?_cons_succ, Option.getD_some, List.set, List.map, List.toList_toArray, List.getElem?_toArray, Option.bind_some, and_self, eq_self, Bool.cond_true, List.append_nil, Bool.and_self]

end Go.Proofs.YtakgefinmlomdaaDoor.Abs
