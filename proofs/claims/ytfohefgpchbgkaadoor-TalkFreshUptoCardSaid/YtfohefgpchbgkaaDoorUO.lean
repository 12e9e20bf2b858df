/- The laws TalkAsks, TalkSays, TalkGets, TalkRows answer true. -/
import Derived.Test.YtfohefgpchbgkaaDoorUN
import Derived.Test.YtfohefgpchbgkaaDoorFX
set_option linter.unusedVariables false
set_option linter.unusedSimpArgs false
set_option maxRecDepth 100000
namespace Go.Proofs.YtfohefgpchbgkaaDoor.Abs
open Go Go.Proofs

theorem paL_len (c : Int) (a : Ask) (ha : a.ok) : (paL c a).length ≤ 546 := by
  have hg := ha.guid.1
  have hp := ha.proof.1
  have h1 := pt_len a.user
  have h2 := pt_len a.share
  unfold paL
  split
  · simp
  · rename_i h0
    split
    · rename_i c0
      subst c0
      have hd : ¬ 16 < a.dialects.length := by
        intro hd
        apply h0
        unfold paE
        split
        · decide
        · simp
      rw [List.length_append, List.length_append, digs_length, flat2_len]; omega
    split
    · rw [List.length_append]; omega
    split
    · omega
    · simp

theorem psL_len (c : Int) (s : Say) (hs : s.ok) : (psL c s).length ≤ 16 := by
  have h := hs.challenge.1
  unfold psL
  split
  · simp
  split
  · rw [List.length_append, List.length_append, digs_length, digs_length]; omega
  · simp

theorem dlF_len (b : List Int) : ∀ (k : Nat) (r : Nat × Int) (l : List Int), (dlF b k r l).1.length ≤ l.length + k
  | 0, r, l => by simp [dlF]
  | k + 1, r, l => by
    unfold dlF
    split
    · have := dlF_len b k (rN b 2 r) (l ++ [rV b 2 r])
      rw [List.length_append, List.length_cons, List.length_nil] at this
      omega
    · simp only; omega

theorem gaA_small (c : Int) (b : List Int) (hB : Bytes b) : (gaA c b).dialects.length ≤ 65536 ∧ (gaA c b).data = [] ∧ (gaA c b).locks = [] := by
  have h1 := dlF_len b (rV b 2 (0, 0)).toNat (rM b 2 16 3 (0, 0)) []
  have h2 := rV_lt b 2 (0, 0) hB
  unfold gaA
  repeat' split
  all_goals refine ⟨?_, rfl, rfl⟩
  all_goals simp only [askZ, List.length_nil]
  all_goals try omega
  unfold gaR0
  simp only [List.length_nil] at h1
  omega

theorem gsS_small (c : Int) (b : List Int) : (gsS c b).data = [] ∧ (gsS c b).entries = [] := by
  unfold gsS
  split
  all_goals exact ⟨rfl, rfl⟩

set_option maxHeartbeats 4000000 in
theorem TalkAsks_law (c : Int) (a : Ask) (hc : 0 ≤ c ∧ c < 65536) (ha : a.ok ∧ a.small 1048576) : Meets Tryd.prog 3 ([.int .u16 c, a.sv false].map .v) [.v (.bool true)] := by
  obtain ⟨ha, hs⟩ := ha
  have hC := CopyAsk_meets a hs
  have hP := PutAsk_meets c a hc.1 ha hs
  have hR := rPutAsk_meets c a hc.1 ha hs
  have hl := paL_len c a ha
  have hS := Same_meets (paL c a) (paL c a) (by omega)
  rw [decide_eq_true rfl] at hS
  have hA := Asks_meets a a (by have := hs.dialects; omega) (by have := hs.data; omega) (by have := hs.locks; omega)
  rw [asks_dec, decide_eq_true rfl] at hA
  have ht : (paL c a).take (paL c a).length = paL c a := List.take_length
  have he : (paE c a == paE c a) = true := by simp
  generalize paL c a = l at *
  generalize paE c a = e at *
  simp only [Ask.sv, Ask.cells] at hC hP hR hA
  refine meets_go TO 100 Tryd.func3 rfl (fun X => ?_)
  simp only [Tryd.ntmps3, Tryd.results3, Ask.sv, Ask.cells, pureOpC, unc, svs, blks, AV.sv, absRun, absOps, absOp, evO, constSV, ungd, gdP, gdPs, setD, T_ty, T_size, tTy, tSize, pureOp, memOp, loadV, newV, notIn, cellsOf, takeC, dropC, blkAt, fnd, upd, Lim.add, Op.operands, List.getD, List.getElem?_cons_zero, List.getElem?_cons_succ, Option.getD_some, List.set, List.map, List.toList_toArray, Option.bind_some, Option.map_some, true_and, and_self, if_true, eq_self, ne_eq, not_false_eq_true, reduceCtorEq, Nat.zero_add, List.cons_append, List.nil_append, List.length_cons, List.length_nil, Nat.reduceAdd, Nat.reduceSub, Nat.reduceLeDiff, List.replicate_succ, List.replicate_zero]
  refine call_go TO 100 hC Tryd.func11 (by decide +kernel) rfl rfl rfl ?_
  simp only [pureOpC, cntC, unc, absRun, absOps, absOp, evO, ungd, gdP, gdPs, setD, T_ty, T_size, T_zero, tTy, tSize, tZero, pureOp, memOp, loadV, newV, notIn, scal, okC, takeC, dropC, blkAt, fnd, upd, Lim.add, ownN, nodup, bares, bare, bare0, bareL, bareD, guardIs, callP, callS, argS, mAs, mA, mA0, mB0, mAl, lowD, allNotIn, impN, impB, impT, packS, delL, Op.operands, List.getD, List.getElem?_cons_zero, List.getElem?_cons_succ, Option.getD_some, List.set, List.map, List.toList_toArray, Option.bind_some, Option.map_some, true_and, and_self, if_true, if_false, eq_self, ne_eq, not_false_eq_true, reduceCtorEq, Nat.zero_add, Nat.add_zero, List.nil_append, List.append_nil, Nat.reduceAdd, Nat.reduceSub, Nat.reduceEqDiff, Nat.reduceLeDiff, List.replicate_succ, List.replicate_zero, Bool.and_self]
  refine call_go TO 100 hP Tryd.func12 (by decide +kernel) rfl rfl rfl ?_
  simp only [pureOpC, unc, absRun, absOps, absOp, evO, ungd, gdP, gdPs, setD, T_ty, T_size, tTy, tSize, extractV, pureOp, memOp, loadV, notIn, takeC, dropC, blkAt, fnd, upd, Data.len, Data.esz, ownN, nodup, bares, bare, bare0, bareD, guardIs, callP, callS, argS, mAs, mA, mA0, mB0, mAl, lowD, allNotIn, nm, impN, impB, impT, packS, delL, Op.operands, List.getD, List.getElem?_cons_zero, List.getElem?_cons_succ, Option.getD_some, List.set, List.map, List.toList_toArray, Option.bind_some, Option.map_some, true_and, and_self, if_true, if_false, eq_self, ne_eq, not_false_eq_true, reduceCtorEq, Nat.zero_add, Nat.add_zero, List.append_nil, Nat.reduceAdd, Nat.reduceSub, Nat.reduceMul, Nat.reduceEqDiff, Nat.reduceLeDiff, Bool.and_self]
  refine call_go TO 100 hR Tryd.func13 (by decide +kernel) rfl rfl rfl ?_
  simp only [pureOpC, unc, absRun, absOps, absOp, evO, ungd, gdP, gdPs, setD, extractV, pureOp, memOp, notIn, upd, Data.len, Data.esz, ownN, nodup, bares, bare, bare0, bareD, guardIs, callP, callS, argS, mAs, mA, mA0, mB0, mAl, lowD, allNotIn, nm, impN, impB, impT, packS, delL, Op.operands, List.getD, List.getElem?_cons_zero, List.getElem?_cons_succ, Option.getD_some, List.set, List.map, List.toList_toArray, true_and, and_self, if_false, eq_self, Nat.zero_add, Nat.add_zero, List.append_nil, Nat.reduceAdd, Nat.reduceMul, Nat.reduceEqDiff, Bool.and_self]
  refine call_go TO 100 hS Tryd.func14 (by decide +kernel) rfl rfl rfl ?_
  simp only [ht, he, List.drop_zero, pureOpC, unc, absOps, absOp, evO, constSV, ungd, gdP, gdPs, setD, binI, binV, ptrE, T_ty, T_size, tTy, tSize, pickV, pureOp, guardOf, loadV, notIn, takeC, dropC, blkAt, fnd, Data.len, Data.esz, Data.sub, ownN, nodup, bares, bare, bare0, guardIs, callP, callS, argS, mAs, mA, mA0, mB0, lowD, allNotIn, impN, impB, impT, packS, delL, Op.operands, List.getD, List.getElem?_cons_zero, List.getElem?_cons_succ, Option.getD_some, List.set, List.map, List.toList_toArray, List.getElem?_toArray, Option.bind_some, Option.map_some, true_and, and_self, implies_true, if_true, if_false, eq_self, ne_eq, not_false_eq_true, reduceCtorEq, Nat.zero_add, Nat.le_refl, Bool.cond_true, List.append_nil, Nat.reduceAdd, Nat.reduceSub, Nat.reduceEqDiff, Nat.reduceLeDiff, Bool.and_self]
  refine call_go TO 100 hA Tryd.func15 (by decide +kernel) rfl rfl rfl ?_
  simp only [pureOpC, unc, absOps, absOp, evO, constSV, ungd, gdP, gdPs, setD, pickV, pureOp, guardOf, ownN, nodup, bares, bare, bare0, guardIs, callP, callS, argS, mAs, mA, mA0, mB0, mAl, lowD, allNotIn, impN, impB, impT, packS, delL, Op.operands, List.getD, List.getElem?_cons_zero, List.getElem?_cons_succ, Option.getD_some, List.set, List.map, List.toList_toArray, List.getElem?_toArray, Option.bind_some, true_and, and_self, implies_true, eq_self, Bool.cond_true, List.append_nil, Bool.and_self]
  refine call_go TO 100 lives8_meets Tryd.func16 (by decide +kernel) rfl rfl rfl ?_
  simp only [pureOpC, unc, absRun, absOps, absOp, evO, constSV, ungd, gdP, gdPs, setD, pickV, guardOf, retP, resV, retQ, rAs, rA, rA0, ownN, nodup, bares, bare, bare0, guardIs, callP, callS, argS, mAs, allNotIn, impN, impB, impT, packS, delL, Op.operands, List.getD, List.getElem?_cons_zero, List.getElem?_cons_succ, Option.getD_some, List.set, List.map, List.toList_toArray, List.getElem?_toArray, Option.bind_some, and_self, eq_self, Bool.cond_true, List.append_nil, Bool.and_self]

set_option maxHeartbeats 4000000 in
theorem TalkSays_law (c : Int) (s : Say) (hc : 0 ≤ c ∧ c < 65536) (ha : s.ok ∧ s.small 1048576) : Meets Tryd.prog 7 ([.int .u16 c, s.sv false].map .v) [.v (.bool true)] := by
  obtain ⟨ha, hs⟩ := ha
  have hC := CopySay_meets s hs
  have hP := PutSay_meets c s hc.1 ha
  have hR := rPutSay_meets c s hc.1 ha hs.entries
  have hl := psL_len c s ha
  have hS := Same_meets (psL c s) (psL c s) (by omega)
  rw [decide_eq_true rfl] at hS
  have hA := Says_meets s s (by have := hs.data; omega) (by have := hs.entries; omega)
  rw [says_dec, decide_eq_true rfl] at hA
  have ht : (psL c s).take (psL c s).length = psL c s := List.take_length
  have he : (psE c s == psE c s) = true := by simp
  generalize psL c s = l at *
  generalize psE c s = e at *
  simp only [Say.sv, Say.cells] at hC hP hR hA
  refine meets_go TO 100 Tryd.func7 rfl (fun X => ?_)
  simp only [Tryd.ntmps7, Tryd.results7, Say.sv, Say.cells, pureOpC, unc, svs, blks, AV.sv, absRun, absOps, absOp, evO, constSV, ungd, gdP, gdPs, setD, T_ty, T_size, tTy, tSize, pureOp, memOp, loadV, newV, notIn, cellsOf, takeC, dropC, blkAt, fnd, upd, Lim.add, Op.operands, List.getD, List.getElem?_cons_zero, List.getElem?_cons_succ, Option.getD_some, List.set, List.map, List.toList_toArray, Option.bind_some, Option.map_some, true_and, and_self, if_true, eq_self, ne_eq, not_false_eq_true, reduceCtorEq, Nat.zero_add, List.cons_append, List.nil_append, List.length_cons, List.length_nil, Nat.reduceAdd, Nat.reduceSub, Nat.reduceLeDiff, List.replicate_succ, List.replicate_zero]
  refine call_go TO 100 hC Tryd.func32 (by decide +kernel) rfl rfl rfl ?_
  simp only [pureOpC, cntC, unc, absRun, absOps, absOp, evO, ungd, gdP, gdPs, setD, T_ty, T_size, T_zero, tTy, tSize, tZero, pureOp, memOp, loadV, newV, notIn, scal, okC, takeC, dropC, blkAt, fnd, upd, Lim.add, ownN, nodup, bares, bare, bare0, bareL, bareD, guardIs, callP, callS, argS, mAs, mA, mA0, mB0, mAl, lowD, allNotIn, impN, impB, impT, packS, delL, Op.operands, List.getD, List.getElem?_cons_zero, List.getElem?_cons_succ, Option.getD_some, List.set, List.map, List.toList_toArray, Option.bind_some, Option.map_some, true_and, and_self, if_true, if_false, eq_self, ne_eq, not_false_eq_true, reduceCtorEq, Nat.zero_add, Nat.add_zero, List.nil_append, List.append_nil, Nat.reduceAdd, Nat.reduceSub, Nat.reduceEqDiff, Nat.reduceLeDiff, List.replicate_succ, List.replicate_zero, Bool.and_self]
  refine call_go TO 100 hP Tryd.func33 (by decide +kernel) rfl rfl rfl ?_
  simp only [pureOpC, unc, absRun, absOps, absOp, evO, ungd, gdP, gdPs, setD, T_ty, T_size, tTy, tSize, extractV, pureOp, memOp, loadV, notIn, takeC, dropC, blkAt, fnd, upd, Data.len, Data.esz, ownN, nodup, bares, bare, bare0, bareD, guardIs, callP, callS, argS, mAs, mA, mA0, mB0, mAl, lowD, allNotIn, nm, impN, impB, impT, packS, delL, Op.operands, List.getD, List.getElem?_cons_zero, List.getElem?_cons_succ, Option.getD_some, List.set, List.map, List.toList_toArray, Option.bind_some, Option.map_some, true_and, and_self, if_true, if_false, eq_self, ne_eq, not_false_eq_true, reduceCtorEq, Nat.zero_add, Nat.add_zero, List.append_nil, Nat.reduceAdd, Nat.reduceSub, Nat.reduceMul, Nat.reduceEqDiff, Nat.reduceLeDiff, Bool.and_self]
  refine call_go TO 100 hR Tryd.func34 (by decide +kernel) rfl rfl rfl ?_
  simp only [pureOpC, unc, absRun, absOps, absOp, evO, ungd, gdP, gdPs, setD, extractV, pureOp, memOp, notIn, upd, Data.len, Data.esz, ownN, nodup, bares, bare, bare0, bareD, guardIs, callP, callS, argS, mAs, mA, mA0, mB0, mAl, lowD, allNotIn, nm, impN, impB, impT, packS, delL, Op.operands, List.getD, List.getElem?_cons_zero, List.getElem?_cons_succ, Option.getD_some, List.set, List.map, List.toList_toArray, true_and, and_self, if_false, eq_self, Nat.zero_add, Nat.add_zero, List.append_nil, Nat.reduceAdd, Nat.reduceMul, Nat.reduceEqDiff, Bool.and_self]
  refine call_go TO 100 hS Tryd.func14 (by decide +kernel) rfl rfl rfl ?_
  simp only [ht, he, List.drop_zero, pureOpC, unc, absOps, absOp, evO, constSV, ungd, gdP, gdPs, setD, binI, binV, ptrE, T_ty, T_size, tTy, tSize, pickV, pureOp, guardOf, loadV, notIn, takeC, dropC, blkAt, fnd, Data.len, Data.esz, Data.sub, ownN, nodup, bares, bare, bare0, guardIs, callP, callS, argS, mAs, mA, mA0, mB0, lowD, allNotIn, impN, impB, impT, packS, delL, Op.operands, List.getD, List.getElem?_cons_zero, List.getElem?_cons_succ, Option.getD_some, List.set, List.map, List.toList_toArray, List.getElem?_toArray, Option.bind_some, Option.map_some, true_and, and_self, implies_true, if_true, if_false, eq_self, ne_eq, not_false_eq_true, reduceCtorEq, Nat.zero_add, Nat.le_refl, Bool.cond_true, List.append_nil, Nat.reduceAdd, Nat.reduceSub, Nat.reduceEqDiff, Nat.reduceLeDiff, Bool.and_self]
  refine call_go TO 100 hA Tryd.func22 (by decide +kernel) rfl rfl rfl ?_
  simp only [pureOpC, unc, absOps, absOp, evO, constSV, ungd, gdP, gdPs, setD, pickV, pureOp, guardOf, ownN, nodup, bares, bare, bare0, guardIs, callP, callS, argS, mAs, mA, mA0, mB0, mAl, lowD, allNotIn, impN, impB, impT, packS, delL, Op.operands, List.getD, List.getElem?_cons_zero, List.getElem?_cons_succ, Option.getD_some, List.set, List.map, List.toList_toArray, List.getElem?_toArray, Option.bind_some, true_and, and_self, implies_true, eq_self, Bool.cond_true, List.append_nil, Bool.and_self]
  refine call_go TO 100 lives8_meets Tryd.func16 (by decide +kernel) rfl rfl rfl ?_
  simp only [pureOpC, unc, absRun, absOps, absOp, evO, constSV, ungd, gdP, gdPs, setD, pickV, guardOf, retP, resV, retQ, rAs, rA, rA0, ownN, nodup, bares, bare, bare0, guardIs, callP, callS, argS, mAs, allNotIn, impN, impB, impT, packS, delL, Op.operands, List.getD, List.getElem?_cons_zero, List.getElem?_cons_succ, Option.getD_some, List.set, List.map, List.toList_toArray, List.getElem?_toArray, Option.bind_some, and_self, eq_self, Bool.cond_true, List.append_nil, Bool.and_self]

set_option maxHeartbeats 4000000 in
theorem TalkGets_law (c : Int) (b : List Int) (hc : 0 ≤ c ∧ c < 65536) (hb : b.length ≤ 1048576 ∧ Bytes b) : Meets Tryd.prog 4 ([.int .u16 c, .view false (.ints .u8 b)].map .v) [.v (.bool true)] := by
  obtain ⟨hb, hB⟩ := hb
  have ht : (b ++ [7, 7, 7]).take b.length = b := List.take_left
  have hwl : (b ++ [7, 7, 7]).length = b.length + 3 := by simp
  have h1 := GetAsk_meets c b hc.1 (by omega) hB
  have h2 := rGetAsk_meets c b hc.1 (by omega) hB
  have h3 := GetSay_meets c b hc.1 (by omega) hB
  have h4 := rGetSay_meets c b hc.1 (by omega) hB
  obtain ⟨q1, q2, q3⟩ := gaA_small c b hB
  obtain ⟨q4, q5⟩ := gsS_small c b
  have hA := Asks_meets (gaA c b) (gaA c b) (by omega) (by rw [q2]; simp) (by rw [q3]; simp)
  rw [asks_dec, decide_eq_true rfl] at hA
  have hS := Says_meets (gsS c b) (gsS c b) (by rw [q4]; simp) (by rw [q5]; simp)
  rw [says_dec, decide_eq_true rfl] at hS
  generalize gaA c b = A at *
  generalize gsS c b = S at *
  have he : (gaE c b == gaE c b) = true := by simp
  have hf : (gsE c b == gsE c b) = true := by simp
  generalize gaE c b = e at *
  generalize gsE c b = f at *
  simp only [Ask.sv, Ask.cells, q2, q3] at h1 h2 hA
  simp only [Say.sv, Say.cells, q4, q5] at h3 h4 hS
  refine meets_go TO 100 Tryd.func4 rfl (fun X => ?_)
  simp only [Tryd.ntmps4, Tryd.results4, pureOpC, svs, blks, AV.sv, absRun, absOps, absOp, evO, constSV, ungd, gdP, gdPs, setD, pureOp, memOp, Op.operands, List.getD, List.getElem?_cons_zero, List.getElem?_cons_succ, Option.getD_some, List.set, List.map, List.toList_toArray, true_and, and_self, Nat.zero_add, List.cons_append, List.nil_append, List.length_cons, List.length_nil, Nat.reduceAdd, Nat.reduceSub, List.replicate_succ, List.replicate_zero]
  refine wide_go 200 (by omega) hB rfl rfl ⟨rfl, rfl⟩ ?_
  simp only [pureOpC, absRun, absOps, absOp, evO, ungd, gdP, gdPs, setD, pureOp, memOp, upd, guardIs, Op.operands, List.getD, List.getElem?_cons_zero, List.getElem?_cons_succ, Option.getD_some, List.set, List.toList_toArray, true_and, and_self, eq_self, Nat.zero_add, List.length_cons, List.length_nil, Nat.reduceAdd, Nat.reduceLT]
  refine call_go TO 100 h1 Tryd.func18 (by decide +kernel) rfl rfl rfl ?_
  simp only [List.drop_zero, pureOpC, cntC, unc, absRun, absOps, absOp, evO, ungd, gdP, gdPs, setD, T_ty, T_size, T_zero, tTy, tSize, tZero, extractV, pureOp, memOp, newV, notIn, scal, okC, takeC, dropC, blkAt, fnd, upd, Data.len, Data.esz, Data.sub, Lim.add, ownN, nodup, bares, bare, bare0, bareL, bareD, guardIs, callP, callS, argS, mAs, mA, mA0, mB0, lowD, allNotIn, impN, impB, impT, packS, delL, Op.operands, List.getD, List.getElem?_cons_zero, List.getElem?_cons_succ, Option.getD_some, List.set, List.map, List.toList_toArray, true_and, and_true, and_self, if_true, if_false, eq_self, ne_eq, not_false_eq_true, reduceCtorEq, Nat.zero_add, Nat.add_zero, List.nil_append, List.append_nil, Nat.reduceAdd, Nat.reduceSub, Nat.reduceEqDiff, Nat.reduceLeDiff, List.replicate_succ, List.replicate_zero, Bool.and_self, ht, hwl]
  refine ⟨by omega, ?_⟩
  refine call_go TO 100 h2 Tryd.func19 (by decide +kernel) rfl rfl rfl ?_
  simp only [pureOpC, cntC, unc, absRun, absOps, absOp, evO, ungd, gdP, gdPs, setD, T_ty, T_size, T_zero, tTy, tSize, tZero, extractV, pureOp, memOp, newV, notIn, scal, okC, takeC, dropC, blkAt, fnd, upd, Lim.add, ownN, nodup, bares, bare, bare0, bareL, bareD, guardIs, callP, callS, argS, mAs, mA, mA0, mB0, lowD, allNotIn, impN, impB, impT, packS, delL, Op.operands, List.getD, List.getElem?_cons_zero, List.getElem?_cons_succ, Option.getD_some, List.set, List.map, List.toList_toArray, true_and, and_self, if_true, if_false, eq_self, ne_eq, not_false_eq_true, reduceCtorEq, Nat.zero_add, Nat.add_zero, List.nil_append, List.append_nil, Nat.reduceAdd, Nat.reduceSub, Nat.reduceEqDiff, Nat.reduceLeDiff, List.replicate_succ, List.replicate_zero, Bool.and_self]
  refine call_go TO 100 h3 Tryd.func20 (by decide +kernel) rfl rfl rfl ?_
  simp only [List.drop_zero, pureOpC, cntC, unc, absRun, absOps, absOp, evO, ungd, gdP, gdPs, setD, T_ty, T_size, T_zero, tTy, tSize, tZero, extractV, pureOp, memOp, newV, notIn, scal, okC, takeC, dropC, blkAt, fnd, upd, Data.len, Data.esz, Data.sub, Lim.add, ownN, nodup, bares, bare, bare0, bareL, bareD, guardIs, callP, callS, argS, mAs, mA, mA0, mB0, lowD, allNotIn, impN, impB, impT, packS, delL, Op.operands, List.getD, List.getElem?_cons_zero, List.getElem?_cons_succ, Option.getD_some, List.set, List.map, List.toList_toArray, true_and, and_true, and_self, if_true, if_false, eq_self, ne_eq, not_false_eq_true, reduceCtorEq, Nat.zero_add, Nat.add_zero, List.nil_append, List.append_nil, Nat.reduceAdd, Nat.reduceSub, Nat.reduceEqDiff, Nat.reduceLeDiff, List.replicate_succ, List.replicate_zero, Bool.and_self, ht, hwl]
  refine ⟨by omega, ?_⟩
  refine call_go TO 100 h4 Tryd.func21 (by decide +kernel) rfl rfl rfl ?_
  simp only [pureOpC, cntC, unc, absRun, absOps, absOp, evO, ungd, gdP, gdPs, setD, T_ty, T_size, T_zero, tTy, tSize, tZero, extractV, pureOp, memOp, loadV, newV, notIn, scal, okC, takeC, dropC, blkAt, fnd, upd, Lim.add, ownN, nodup, bares, bare, bare0, bareL, bareD, guardIs, callP, callS, argS, mAs, mA, mA0, mB0, lowD, allNotIn, impN, impB, impT, packS, delL, Op.operands, List.getD, List.getElem?_cons_zero, List.getElem?_cons_succ, Option.getD_some, List.set, List.map, List.toList_toArray, Option.bind_some, Option.map_some, true_and, and_self, if_true, if_false, eq_self, ne_eq, not_false_eq_true, reduceCtorEq, Nat.zero_add, Nat.add_zero, List.nil_append, List.append_nil, Nat.reduceAdd, Nat.reduceSub, Nat.reduceEqDiff, Nat.reduceLeDiff, List.replicate_succ, List.replicate_zero, Bool.and_self]
  refine call_go TO 100 hA Tryd.func15 (by decide +kernel) rfl rfl rfl ?_
  simp only [pureOpC, unc, absOps, absOp, evO, constSV, ungd, gdP, gdPs, setD, binI, binV, ptrE, T_ty, T_size, tTy, tSize, pickV, pureOp, guardOf, loadV, takeC, dropC, blkAt, fnd, ownN, nodup, bares, bare, bare0, guardIs, callP, callS, argS, mAs, mA, mA0, mB0, mAl, lowD, allNotIn, impN, impB, impT, packS, delL, Op.operands, List.getD, List.getElem?_cons_zero, List.getElem?_cons_succ, Option.getD_some, List.set, List.map, List.toList_toArray, List.getElem?_toArray, Option.bind_some, Option.map_some, true_and, and_self, implies_true, if_true, if_false, eq_self, ne_eq, not_false_eq_true, reduceCtorEq, Bool.cond_true, List.append_nil, Nat.reduceAdd, Nat.reduceSub, Nat.reduceEqDiff, Nat.reduceLeDiff, beq_self_eq_true, Bool.and_self]
  refine call_go TO 100 hS Tryd.func22 (by decide +kernel) rfl rfl rfl ?_
  simp only [pureOpC, unc, absOps, absOp, evO, constSV, ungd, gdP, gdPs, setD, binI, binV, ptrE, pickV, pureOp, guardOf, ownN, nodup, bares, bare, bare0, guardIs, callP, callS, argS, mAs, mA, mA0, mB0, mAl, lowD, allNotIn, impN, impB, impT, packS, delL, Op.operands, List.getD, List.getElem?_cons_zero, List.getElem?_cons_succ, Option.getD_some, List.set, List.map, List.toList_toArray, List.getElem?_toArray, Option.bind_some, true_and, and_self, implies_true, eq_self, Bool.cond_true, List.append_nil, beq_self_eq_true, Bool.and_self]
  refine left_go 200 (by omega) hB rfl rfl ⟨rfl, rfl, rfl⟩ ?_
  simp only [pureOpC, absOps, absOp, evO, constSV, ungd, gdP, gdPs, setD, pickV, pureOp, guardOf, guardIs, Op.operands, List.getD, List.getElem?_cons_zero, List.getElem?_cons_succ, Option.getD_some, List.set, List.toList_toArray, List.getElem?_toArray, Option.bind_some, true_and, and_self, implies_true, eq_self, Nat.zero_add, Bool.cond_true, List.length_cons, List.length_nil, Nat.reduceAdd, Nat.reduceLT]
  refine call_go TO 100 lives8_meets Tryd.func16 (by decide +kernel) rfl rfl rfl ?_
  simp only [pureOpC, unc, absRun, absOps, absOp, evO, constSV, ungd, gdP, gdPs, setD, pickV, guardOf, retP, resV, retQ, rAs, rA, rA0, ownN, nodup, bares, bare, bare0, guardIs, callP, callS, argS, mAs, allNotIn, impN, impB, impT, packS, delL, Op.operands, List.getD, List.getElem?_cons_zero, List.getElem?_cons_succ, Option.getD_some, List.set, List.map, List.toList_toArray, List.getElem?_toArray, Option.bind_some, and_self, eq_self, Bool.cond_true, List.append_nil, Bool.and_self]

set_option maxHeartbeats 4000000 in
theorem TalkRows_law (b : List Int) (at_ most : Int) (s : ByteArray) (hb : b.length ≤ 1048576 ∧ Bytes b) (ha : -9223372036854775808 ≤ at_ ∧ at_ ≤ 9223372036854775807) (hm : -9223372036854775808 ≤ most ∧ most ≤ 9223372036854775807) (hs : s.size ≤ 1048576) :
    Meets Tryd.prog 6 ([.view false (.ints .u8 b), .int .i64 at_, .int .i64 most, .str s].map .v) [.v (.bool true)] := by
  obtain ⟨hb, hB⟩ := hb
  have ht : (b ++ [7, 7, 7]).take b.length = b := List.take_left
  have hwl : (b ++ [7, 7, 7]).length = b.length + 3 := by simp
  have same : ∀ l : List Int, l.length ≤ 140737488351232 → Meets Tryd.prog 14 [.v (.view false (.ints .u8 l)), .v (.view false (.ints .u8 l))] [.v (.bool true)] := fun l hl => by
    have := Same_meets l l hl
    rwa [decide_eq_true rfl] at this
  have h1 := PutRow_meets b
  have h2 := rPutRow_meets b
  have s1 := same (rowL b) (by unfold rowL; split; · simp
                               · rw [List.length_append, digs_length]; omega)
  have h3 := GetRow_meets b at_ most (by omega) hB ha
  have h4 := rGetRow_meets b at_ most (by omega) hB ha
  have s2 := same (grL b at_ most) (by have := grL_len b at_ most; omega)
  have h5 := GetText_meets b at_ (by omega) hB ha
  have h6 := rGetText_meets b at_ (by omega) hB ha
  have h7 := PutText_meets s (by omega)
  have h8 := rPutText_meets s (by omega)
  have s3 := same (ptL s) (by have := pt_len s; omega)
  have ne : ∀ x : Int, (x != x) = false := fun x => by simp
  have ee : ∀ x : Int, (x == x) = true := fun x => by simp
  have tt : ∀ l : List Int, l.take l.length = l := fun l => List.take_length
  have n1 := ne (rowE b)
  have n2 := ne (grE b at_ most)
  have n3 := ne (grX b at_ most)
  have n4 := ne (gtE b at_)
  have n5 := ne (gtX b at_)
  have n6 := ee (ptE s)
  have n7 : (!((gtS b at_).toList == (gtS b at_).toList)) = false := by simp
  generalize rowL b = l1 at *
  generalize rowE b = e1 at *
  generalize grL b at_ most = l2 at *
  generalize grE b at_ most = e2 at *
  generalize grX b at_ most = x2 at *
  generalize gtS b at_ = l3 at *
  generalize gtE b at_ = e3 at *
  generalize gtX b at_ = x3 at *
  generalize ptL s = l4 at *
  generalize ptE s = e4 at *
  refine meets_go TO 100 Tryd.func6 rfl (fun X => ?_)
  simp only [Tryd.ntmps6, Tryd.results6, pureOpC, svs, blks, AV.sv, absRun, absOps, absOp, evO, constSV, ungd, gdP, gdPs, setD, pureOp, memOp, Op.operands, List.getD, List.getElem?_cons_zero, Option.getD_some, List.set, List.map, List.toList_toArray, true_and, and_self, Nat.zero_add, List.cons_append, List.nil_append, List.length_cons, List.length_nil, Nat.reduceAdd, Nat.reduceSub, List.replicate_succ, List.replicate_zero]
  refine wide_go 200 (by omega) hB rfl rfl ⟨rfl, rfl⟩ ?_
  simp only [pureOpC, absRun, absOps, absOp, evO, ungd, gdP, gdPs, setD, pureOp, memOp, upd, guardIs, Op.operands, List.getD, List.getElem?_cons_zero, List.getElem?_cons_succ, Option.getD_some, List.set, List.toList_toArray, true_and, and_self, eq_self, Nat.zero_add, List.length_cons, List.length_nil, Nat.reduceAdd, Nat.reduceLT]
  refine call_go TO 100 h1 Tryd.func24 (by decide +kernel) rfl rfl rfl ?_
  simp only [List.drop_zero, pureOpC, unc, absRun, absOps, absOp, evO, ungd, gdP, gdPs, setD, extractV, pureOp, memOp, notIn, blkAt, fnd, upd, Data.len, Data.esz, Data.sub, ownN, nodup, bares, bare, bare0, bareD, guardIs, callP, callS, argS, mAs, mA, mA0, mB0, lowD, allNotIn, nm, impN, impB, impT, packS, delL, Op.operands, List.getD, List.getElem?_cons_zero, List.getElem?_cons_succ, Option.getD_some, List.set, List.map, List.toList_toArray, true_and, and_true, and_self, if_true, if_false, eq_self, Nat.zero_add, Nat.add_zero, List.append_nil, Nat.reduceAdd, Nat.reduceMul, Nat.reduceEqDiff, Bool.and_self, ht, hwl]
  refine ⟨by omega, ?_⟩
  refine call_go TO 100 h2 Tryd.func25 (by decide +kernel) rfl rfl rfl ?_
  simp only [pureOpC, unc, absRun, absOps, absOp, evO, ungd, gdP, gdPs, setD, extractV, pureOp, memOp, notIn, upd, Data.len, Data.esz, ownN, nodup, bares, bare, bare0, bareD, guardIs, callP, callS, argS, mAs, mA, mA0, mB0, lowD, allNotIn, nm, impN, impB, impT, packS, delL, Op.operands, List.getD, List.getElem?_cons_zero, List.getElem?_cons_succ, Option.getD_some, List.set, List.map, List.toList_toArray, true_and, and_self, if_false, eq_self, Nat.zero_add, Nat.add_zero, List.append_nil, Nat.reduceAdd, Nat.reduceMul, Nat.reduceEqDiff, Bool.and_self]
  refine call_go TO 100 s1 Tryd.func14 (by decide +kernel) rfl rfl rfl ?_
  simp only [List.drop_zero, pureOpC, unc, absRun, absOps, absOp, evO, constSV, ungd, gdP, gdPs, setD, binI, binV, ptrE, unV, pickV, pureOp, guardOf, memOp, notIn, blkAt, fnd, Data.len, Data.esz, Data.sub, retP, resV, retQ, rAs, rA, rA0, ownN, nodup, bares, bare, bare0, guardIs, callP, callS, argS, mAs, mA, mA0, mB0, lowD, allNotIn, impN, impB, impT, packS, delL, Op.operands, List.getD, List.getElem?_cons_zero, List.getElem?_cons_succ, Option.getD_some, List.set, List.map, List.toList_toArray, List.getElem?_toArray, Option.bind_some, true_and, and_true, and_false, and_self, implies_true, if_true, if_false, eq_self, Bool.false_eq_true, Nat.zero_add, Nat.le_refl, Bool.cond_false, List.append_nil, Nat.reduceAdd, Nat.reduceEqDiff, Bool.not_true, Bool.not_false, Bool.and_self, tt, n1]
  refine call_go TO 100 h3 Tryd.func26 (by decide +kernel) rfl rfl rfl ?_
  simp only [List.drop_zero, pureOpC, unc, absRun, absOps, absOp, evO, ungd, gdP, gdPs, setD, extractV, pureOp, memOp, notIn, blkAt, fnd, upd, Data.len, Data.esz, Data.sub, ownN, nodup, bares, bare, bare0, bareD, guardIs, callP, callS, argS, mAs, mA, mA0, mB0, lowD, allNotIn, nm, impN, impB, impT, packS, delL, Op.operands, List.getD, List.getElem?_cons_zero, List.getElem?_cons_succ, Option.getD_some, List.set, List.map, List.toList_toArray, true_and, and_true, and_self, if_true, if_false, eq_self, Nat.zero_add, Nat.add_zero, List.append_nil, Nat.reduceAdd, Nat.reduceMul, Nat.reduceEqDiff, Bool.and_self, ht, hwl]
  refine ⟨by omega, ?_⟩
  refine call_go TO 100 h4 Tryd.func27 (by decide +kernel) rfl rfl rfl ?_
  simp only [pureOpC, unc, absRun, absOps, absOp, evO, ungd, gdP, gdPs, setD, extractV, pureOp, memOp, notIn, upd, Data.len, Data.esz, ownN, nodup, bares, bare, bare0, bareD, guardIs, callP, callS, argS, mAs, mA, mA0, mB0, lowD, allNotIn, nm, impN, impB, impT, packS, delL, Op.operands, List.getD, List.getElem?_cons_zero, List.getElem?_cons_succ, Option.getD_some, List.set, List.map, List.toList_toArray, true_and, and_self, if_false, eq_self, Nat.zero_add, Nat.add_zero, List.append_nil, Nat.reduceAdd, Nat.reduceMul, Nat.reduceEqDiff, Bool.and_self]
  refine call_go TO 100 s2 Tryd.func14 (by decide +kernel) rfl rfl rfl ?_
  simp only [List.drop_zero, pureOpC, unc, absRun, absOps, absOp, evO, constSV, ungd, gdP, gdPs, setD, binI, binV, ptrE, unV, pickV, pureOp, guardOf, memOp, notIn, blkAt, fnd, Data.len, Data.esz, Data.sub, retP, resV, retQ, rAs, rA, rA0, ownN, nodup, bares, bare, bare0, guardIs, callP, callS, argS, mAs, mA, mA0, mB0, lowD, allNotIn, impN, impB, impT, packS, delL, Op.operands, List.getD, List.getElem?_cons_zero, List.getElem?_cons_succ, Option.getD_some, List.set, List.map, List.toList_toArray, List.getElem?_toArray, Option.bind_some, true_and, and_true, and_false, and_self, implies_true, if_true, if_false, eq_self, Bool.false_eq_true, Nat.zero_add, Nat.le_refl, Bool.cond_false, List.append_nil, Nat.reduceAdd, Nat.reduceEqDiff, Bool.not_true, Bool.not_false, Bool.and_self, tt, n2, n3]
  refine call_go TO 100 h5 Tryd.func28 (by decide +kernel) rfl rfl rfl ?_
  simp only [List.drop_zero, pureOpC, unc, absRun, absOps, absOp, evO, ungd, gdP, gdPs, setD, extractV, pureOp, memOp, notIn, blkAt, fnd, Data.len, Data.esz, Data.sub, ownN, nodup, bares, bare, bare0, guardIs, callP, callS, argS, mAs, mA, mA0, mB0, lowD, allNotIn, impN, impB, impT, packS, delL, Op.operands, List.getD, List.getElem?_cons_zero, List.getElem?_cons_succ, Option.getD_some, List.set, List.map, List.toList_toArray, true_and, and_true, and_self, if_true, if_false, eq_self, Nat.zero_add, List.append_nil, Nat.reduceAdd, Nat.reduceEqDiff, Bool.and_self, ht, hwl]
  refine ⟨by omega, ?_⟩
  refine call_go TO 100 h6 Tryd.func29 (by decide +kernel) rfl rfl rfl ?_
  simp only [pureOpC, unc, absRun, absOps, absOp, evO, constSV, ungd, gdP, gdPs, setD, binI, binV, ptrE, binS, extractV, pickV, pureOp, guardOf, memOp, retP, resV, retQ, rAs, rA, rA0, ownN, nodup, bares, bare, bare0, guardIs, callP, callS, argS, mAs, mA, mA0, mB0, lowD, allNotIn, impN, impB, impT, packS, delL, Op.operands, List.getD, List.getElem?_cons_zero, List.getElem?_cons_succ, Option.getD_some, List.set, List.map, List.toList_toArray, List.getElem?_toArray, Option.bind_some, true_and, and_true, and_false, and_self, implies_true, if_false, eq_self, Bool.false_eq_true, Bool.cond_false, List.append_nil, Nat.reduceAdd, Bool.not_true, Bool.not_false, beq_self_eq_true, Bool.and_self, n4, n5]
  refine call_go TO 100 h7 Tryd.func30 (by decide +kernel) rfl rfl rfl ?_
  simp only [pureOpC, unc, absRun, absOps, absOp, evO, ungd, gdP, gdPs, setD, extractV, pureOp, memOp, notIn, upd, Data.len, Data.esz, ownN, nodup, bares, bare, bare0, bareD, guardIs, callP, callS, argS, mAs, mA, mA0, mB0, allNotIn, nm, impN, impB, impT, packS, delL, Op.operands, List.getD, List.getElem?_cons_zero, List.getElem?_cons_succ, Option.getD_some, List.set, List.map, List.toList_toArray, true_and, and_self, if_false, eq_self, Nat.zero_add, Nat.add_zero, List.append_nil, Nat.reduceAdd, Nat.reduceMul, Nat.reduceEqDiff, Bool.and_self]
  refine call_go TO 100 h8 Tryd.func31 (by decide +kernel) rfl rfl rfl ?_
  simp only [pureOpC, unc, absRun, absOps, absOp, evO, ungd, gdP, gdPs, setD, extractV, pureOp, memOp, notIn, upd, Data.len, Data.esz, ownN, nodup, bares, bare, bare0, bareD, guardIs, callP, callS, argS, mAs, mA, mA0, mB0, allNotIn, nm, impN, impB, impT, packS, delL, Op.operands, List.getD, List.getElem?_cons_zero, List.getElem?_cons_succ, Option.getD_some, List.set, List.map, List.toList_toArray, true_and, and_self, if_false, eq_self, Nat.zero_add, Nat.add_zero, List.append_nil, Nat.reduceAdd, Nat.reduceMul, Nat.reduceEqDiff, Bool.and_self]
  refine call_go TO 100 s3 Tryd.func14 (by decide +kernel) rfl rfl rfl ?_
  simp only [List.drop_zero, pureOpC, unc, absOps, absOp, evO, constSV, ungd, gdP, gdPs, setD, binI, binV, ptrE, pickV, pureOp, guardOf, notIn, blkAt, fnd, Data.len, Data.esz, Data.sub, ownN, nodup, bares, bare, bare0, guardIs, callP, callS, argS, mAs, mA, mA0, mB0, lowD, allNotIn, impN, impB, impT, packS, delL, Op.operands, List.getD, List.getElem?_cons_zero, List.getElem?_cons_succ, Option.getD_some, List.set, List.map, List.toList_toArray, List.getElem?_toArray, Option.bind_some, true_and, and_self, implies_true, if_true, if_false, eq_self, Nat.zero_add, Nat.le_refl, Bool.cond_true, List.append_nil, Nat.reduceEqDiff, beq_self_eq_true, Bool.and_self, tt]
  refine left_go 200 (by omega) hB rfl rfl ⟨rfl, rfl, rfl⟩ ?_
  simp only [pureOpC, absOps, absOp, evO, constSV, ungd, gdP, gdPs, setD, pickV, pureOp, guardOf, guardIs, Op.operands, List.getD, List.getElem?_cons_zero, List.getElem?_cons_succ, Option.getD_some, List.set, List.toList_toArray, List.getElem?_toArray, Option.bind_some, true_and, and_self, implies_true, eq_self, Nat.zero_add, Bool.cond_true, List.length_cons, List.length_nil, Nat.reduceAdd, Nat.reduceLT]
  refine call_go TO 100 lives8_meets Tryd.func16 (by decide +kernel) rfl rfl rfl ?_
  simp only [pureOpC, unc, absRun, absOps, absOp, evO, constSV, ungd, gdP, gdPs, setD, pickV, guardOf, retP, resV, retQ, rAs, rA, rA0, ownN, nodup, bares, bare, bare0, guardIs, callP, callS, argS, mAs, allNotIn, impN, impB, impT, packS, delL, Op.operands, List.getD, List.getElem?_cons_zero, List.getElem?_cons_succ, Option.getD_some, List.set, List.map, List.toList_toArray, List.getElem?_toArray, Option.bind_some, and_self, eq_self, Bool.cond_true, List.append_nil, Bool.and_self]

end Go.Proofs.YtfohefgpchbgkaaDoor.Abs
