/- TalkBack, TalkOnce. -/
import Derived.Test.YtfohefgpchbgkaaDoorUO
import Derived.Test.YtfohefgpchbgkaaDoorUP
set_option linter.unusedVariables false
set_option linter.unusedSimpArgs false
set_option maxRecDepth 100000
namespace Go.Proofs.YtfohefgpchbgkaaDoor.Abs
open Go Go.Proofs

theorem pt_size {s : ByteArray} (h : ptE s = 0) : s.size ≤ 4096 := by
  obtain ⟨h1, h2, _⟩ := pt_zero h
  have ha : allAt s 0 = true := by
    unfold utfE at h1
    split at h1
    · assumption
    · cases h1
  have hu : utfL s = (letAt s 0).flatMap uB := by unfold utfL; rw [if_pos ha]
  obtain ⟨_, e⟩ := enc_letters s s.size 0 (by omega) ha
  have e1 := congrArg List.length e
  have k1 : ∀ l : List Int, (u8L (l.flatMap encL)).length ≤ 4 * l.length := by
    intro l
    induction l with
    | nil => simp [u8L]
    | cons x l ih =>
      have := (Lib.encodeRuneZ_length x).2
      simp only [u8L, List.length_map, List.flatMap_cons, List.length_append, List.length_cons] at ih ⊢
      show (Lib.encodeRuneZ x).length + _ ≤ _
      omega
  have k2 : ∀ l : List Int, l.length ≤ (l.flatMap uB).length := by
    intro l
    induction l with
    | nil => simp
    | cons x l ih =>
      have : 1 ≤ (uB x).length := by unfold uB; split <;> simp
      simp only [List.flatMap_cons, List.length_append, List.length_cons]
      omega
  have q1 := k1 (letAt s 0)
  have q2 := k2 (letAt s 0)
  rw [← hu] at q2
  have e2 : s.data.toList.length = s.size := by simp
  simp only [List.drop_zero, e2] at e1
  omega

theorem emp_size : ByteArray.empty.size = 0 := rfl

/-- What GetAsk has read is small, and right. -/
theorem ga_small (c : Int) (b : List Int) (hB : Bytes b) (h : gaE c b = 0) : (gaA c b).small 1048576 := by
  obtain ⟨h1, _⟩ := ask_once c b hB h
  obtain ⟨q1, q2, q3⟩ := gaA_small c b hB
  have hA : gaA c b = if c = 0 then { askZ with dialects := (gaR0 b).1, guid := padA 16 (rP b 16 (gaR0 b).2) } else if c = 1 then { askZ with proof := padA 32 (rP b 32 (0, 0)), user := rS b (rN b 32 (0, 0)) } else if c = 3 then { askZ with share := rS b (0, 0) } else askZ := by
    unfold gaA; rw [if_neg (by simp [h])]
  unfold paE at h1
  split at h1
  · cases h1
  have z := emp_size
  split at h1
  · rename_i c0
    rw [if_pos c0] at hA
    rw [hA] at q1 ⊢
    exact ⟨by have := q1; omega, by simp [askZ, z], by simp [askZ, z], by simp [askZ, z], by simp [askZ], by simp [askZ], by simp [askZ, z], by simp [askZ, z]⟩
  rename_i c0
  rw [if_neg c0] at hA
  split at h1
  · rename_i c1
    rw [if_pos c1] at hA
    have := pt_size h1
    rw [hA] at this ⊢
    exact ⟨by simp [askZ], by simp only at this ⊢; omega, by simp [askZ, z], by simp [askZ, z], by simp [askZ], by simp [askZ], by simp [askZ, z], by simp [askZ, z]⟩
  rename_i c1
  rw [if_neg c1] at hA
  split at h1
  · rename_i c3
    rw [if_pos c3] at hA
    have := pt_size h1
    rw [hA] at this ⊢
    exact ⟨by simp [askZ], by simp [askZ, z], by simp only at this ⊢; omega, by simp [askZ, z], by simp [askZ], by simp [askZ], by simp [askZ, z], by simp [askZ, z]⟩
  rename_i c3
  rw [if_neg c3] at hA
  rw [hA]
  exact ⟨by simp [askZ], by simp [askZ, z], by simp [askZ, z], by simp [askZ, z], by simp [askZ], by simp [askZ], by simp [askZ, z], by simp [askZ, z]⟩

theorem sayZ_ok : sayZ.ok := by
  refine ⟨?_, ?_, ⟨rfl, by unfold Bytes sayZ; decide⟩, ?_, ?_, ?_, ?_, ?_, by unfold Bytes sayZ; decide, ?_, by simp [sayZ]⟩ <;> (unfold sayZ; first | unfold U32 | unfold U8 | unfold U64 | unfold U16) <;> decide

theorem rP_bytes (b : List Int) (k : Nat) (r : Nat × Int) (hB : Bytes b) : Bytes (rP b k r) := by
  unfold rP
  split
  · intro x hx; simp at hx
  split
  · intro x hx; simp at hx
  · exact (hB.drop _).take _

theorem pad_ok {n : Nat} {p : List Int} (h : p.length ≤ n) (hB : Bytes p) : (padA n p).length = n ∧ Bytes (padA n p) := by
  unfold padA
  refine ⟨by simp; omega, ?_⟩
  intro x hx
  rcases List.mem_append.1 hx with hx | hx
  · exact hB x hx
  · rw [(List.mem_replicate.1 hx).2]; omega

theorem dl_u16 (b : List Int) (hB : Bytes b) : ∀ (k : Nat) (r : Nat × Int) (l : List Int), (∀ x ∈ l, U16 x) → ∀ x ∈ (dlF b k r l).1, U16 x
  | 0, r, l, h => h
  | k + 1, r, l, h => by
    unfold dlF
    split
    · refine dl_u16 b hB k _ _ ?_
      intro x hx
      rcases List.mem_append.1 hx with hx | hx
      · exact h x hx
      · have := rV_lt b 2 r hB
        simp only [List.mem_singleton] at hx
        subst hx
        unfold U16
        omega
    · exact h

theorem ga_ok (c : Int) (b : List Int) (hB : Bytes b) : (gaA c b).ok := by
  unfold gaA
  split
  · exact askZ_ok
  split
  · exact { askZ_ok with dialects := dl_u16 b hB _ _ _ (by simp), guid := pad_ok (rP_len b 16 _) (rP_bytes b 16 _ hB) }
  split
  · exact { askZ_ok with proof := pad_ok (rP_len b 32 _) (rP_bytes b 32 _ hB) }
  split
  · exact { askZ_ok with }
  · exact askZ_ok

theorem gs_ok (c : Int) (b : List Int) (hB : Bytes b) : (gsS c b).ok := by
  unfold gsS
  split
  · have h1 := rV_lt b 2 (0, 0) hB
    have h2 := rV_lt b 4 (rM b 2 0 5 (rN b 2 (0, 0))) hB
    exact { sayZ_ok with dialect := by show 0 ≤ rV b 2 (0, 0) ∧ rV b 2 (0, 0) < 65536; omega, size := by show 0 ≤ rV b 4 (rM b 2 0 5 (rN b 2 (0, 0))) ∧ rV b 4 (rM b 2 0 5 (rN b 2 (0, 0))) < 18446744073709551616; omega, challenge := pad_ok (rP_len b 8 _) (rP_bytes b 8 _ hB) }
  · exact sayZ_ok

set_option maxHeartbeats 4000000 in
theorem TalkOnce_law (c : Int) (b : List Int) (hc : 0 ≤ c ∧ c < 65536) (hb : b.length ≤ 1048576 ∧ Bytes b) : Meets Tryd.prog 9 ([.int .u16 c, .view false (.ints .u8 b)].map .v) [.v (.bool true)] := by
  obtain ⟨hb, hB⟩ := hb
  have h1 := GetAsk_meets c b hc.1 (by omega) hB
  have h3 := GetSay_meets c b hc.1 (by omega) hB
  have hS := Same_meets b b (by omega)
  rw [decide_eq_true rfl] at hS
  have ht : b.take b.length = b := List.take_length
  have p2 : gaE c b = 0 → Meets Tryd.prog 12 [.v (.int .u16 c), .v ((gaA c b).sv false)] [.own (.ints .u8 b), .v (.int .i64 0)] := fun h => by
    have k := ask_once c b hB h
    have hP := PutAsk_meets c (gaA c b) hc.1 (ga_ok c b hB) (ga_small c b hB h)
    rw [k.1, k.2] at hP
    exact hP
  have p4 : gsE c b = 0 → Meets Tryd.prog 33 [.v (.int .u16 c), .v ((gsS c b).sv false)] [.own (.ints .u8 b), .v (.int .i64 0)] := fun h => by
    have k := say_once c b hB h
    have hP := PutSay_meets c (gsS c b) hc.1 (gs_ok c b hB)
    rw [k.1, k.2] at hP
    exact hP
  obtain ⟨q1, q2, q3⟩ := gaA_small c b hB
  obtain ⟨q4, q5⟩ := gsS_small c b
  generalize gaA c b = A at *
  generalize gsS c b = S at *
  simp only [Ask.sv, Ask.cells, q2, q3] at h1 p2
  simp only [Say.sv, Say.cells, q4, q5] at h3 p4
  refine meets_go TO 100 Tryd.func9 rfl (fun X => ?_)
  simp only [Tryd.ntmps9, Tryd.results9, pureOpC, svs, blks, AV.sv, absRun, absOps, absOp, evO, constSV, ungd, gdP, gdPs, setD, pureOp, memOp, Op.operands, List.getD, List.getElem?_cons_zero, List.getElem?_cons_succ, Option.getD_some, List.set, List.map, List.toList_toArray, true_and, and_self, Nat.zero_add, List.cons_append, List.nil_append, List.length_cons, List.length_nil, Nat.reduceAdd, Nat.reduceSub, List.replicate_succ, List.replicate_zero]
  refine call_go TO 100 h1 Tryd.func18 (by decide +kernel) rfl rfl rfl ?_
  simp only [pureOpC, cntC, unc, absRun, absOps, absOp, evO, constSV, ungd, gdP, gdPs, setD, binI, binV, ptrE, T_ty, T_size, T_zero, tTy, tSize, tZero, extractV, pureOp, memOp, loadV, newV, notIn, scal, okC, takeC, dropC, blkAt, fnd, upd, Lim.add, ownN, nodup, bares, bare, bare0, bareL, bareD, guardIs, callP, callS, argS, mAs, mA, mA0, mB0, lowD, allNotIn, impN, impB, impT, packS, delL, Op.operands, List.getD, List.getElem?_cons_zero, List.getElem?_cons_succ, Option.getD_some, List.set, List.map, List.toList_toArray, Option.bind_some, Option.map_some, true_and, and_self, if_true, eq_self, ne_eq, not_false_eq_true, reduceCtorEq, Nat.zero_add, Nat.add_zero, List.nil_append, List.append_nil, Nat.reduceAdd, Nat.reduceSub, Nat.reduceLeDiff, List.replicate_succ, List.replicate_zero, Bool.and_self]
  by_cases hE : gaE c b = 0
  · rw [if_pos (by simp [hE])]
    refine call_go TO 100 (p2 hE) Tryd.func12 (by decide +kernel) rfl rfl rfl ?_
    simp only [pureOpC, unc, absRun, absOps, absOp, evO, constSV, ungd, gdP, gdPs, setD, binI, binV, ptrE, extractV, pureOp, guardOf, notIn, upd, Data.len, Data.esz, ownN, nodup, bares, bare, bare0, bareD, guardIs, callP, callS, argS, mAs, mA, mA0, mB0, mAl, lowD, allNotIn, nm, impN, impB, impT, packS, delL, Op.operands, List.getD, List.getElem?_cons_zero, List.getElem?_cons_succ, Option.getD_some, List.set, List.map, List.toList_toArray, List.getElem?_toArray, Option.bind_some, true_and, and_self, implies_true, if_false, eq_self, Nat.zero_add, Nat.add_zero, Int.reduceBNe, List.append_nil, Nat.reduceAdd, Nat.reduceMul, Nat.reduceEqDiff, Bool.not_false, Bool.and_self]
    refine call_go TO 100 hS Tryd.func14 (by decide +kernel) rfl rfl rfl ?_
    simp only [ht, List.drop_zero, pureOpC, unc, absRun, absOps, absOp, evO, constSV, ungd, gdP, gdPs, setD, unV, pickV, pureOp, guardOf, memOp, notIn, blkAt, fnd, Data.len, Data.esz, Data.sub, retP, resV, retQ, rAs, rA, rA0, ownN, nodup, bares, bare, bare0, guardIs, callP, callS, argS, mAs, mA, mA0, mB0, lowD, allNotIn, impN, impB, impT, packS, delL, Op.operands, List.getD, List.getElem?_cons_zero, List.getElem?_cons_succ, Option.getD_some, List.set, List.map, List.toList_toArray, List.getElem?_toArray, Option.bind_some, true_and, and_true, and_false, and_self, implies_true, if_true, if_false, eq_self, Bool.false_eq_true, Nat.zero_add, Nat.le_refl, Bool.cond_false, List.append_nil, Nat.reduceAdd, Nat.reduceEqDiff, Bool.not_true, Bool.not_false, Bool.and_self]
    refine call_go TO 100 h3 Tryd.func20 (by decide +kernel) rfl rfl rfl ?_
    simp only [pureOpC, cntC, unc, absRun, absOps, absOp, evO, constSV, ungd, gdP, gdPs, setD, binI, binV, ptrE, T_ty, T_size, T_zero, tTy, tSize, tZero, extractV, pureOp, memOp, loadV, newV, notIn, scal, okC, takeC, dropC, blkAt, fnd, upd, Lim.add, ownN, nodup, bares, bare, bare0, bareL, bareD, guardIs, callP, callS, argS, mAs, mA, mA0, mB0, lowD, allNotIn, impN, impB, impT, packS, delL, Op.operands, List.getD, List.getElem?_cons_zero, List.getElem?_cons_succ, Option.getD_some, List.set, List.map, List.toList_toArray, Option.bind_some, Option.map_some, true_and, and_self, if_true, if_false, eq_self, ne_eq, not_false_eq_true, reduceCtorEq, Nat.zero_add, Nat.add_zero, List.nil_append, List.append_nil, Nat.reduceAdd, Nat.reduceSub, Nat.reduceEqDiff, Nat.reduceLeDiff, List.replicate_succ, List.replicate_zero, Bool.and_self]
    by_cases hF : gsE c b = 0
    · rw [if_pos (by simp [hF])]
      refine call_go TO 100 (p4 hF) Tryd.func33 (by decide +kernel) rfl rfl rfl ?_
      simp only [pureOpC, unc, absRun, absOps, absOp, evO, constSV, ungd, gdP, gdPs, setD, binI, binV, ptrE, extractV, pureOp, guardOf, notIn, upd, Data.len, Data.esz, ownN, nodup, bares, bare, bare0, bareD, guardIs, callP, callS, argS, mAs, mA, mA0, mB0, mAl, lowD, allNotIn, nm, impN, impB, impT, packS, delL, Op.operands, List.getD, List.getElem?_cons_zero, List.getElem?_cons_succ, Option.getD_some, List.set, List.map, List.toList_toArray, List.getElem?_toArray, Option.bind_some, true_and, and_self, implies_true, if_false, eq_self, Nat.zero_add, Nat.add_zero, Int.reduceBNe, List.append_nil, Nat.reduceAdd, Nat.reduceMul, Nat.reduceEqDiff, Bool.not_false, Bool.and_self]
      refine call_go TO 100 hS Tryd.func14 (by decide +kernel) rfl rfl rfl ?_
      simp only [ht, List.drop_zero, pureOpC, unc, absRun, absOps, absOp, evO, constSV, ungd, gdP, gdPs, setD, unV, pickV, pureOp, guardOf, memOp, notIn, blkAt, fnd, Data.len, Data.esz, Data.sub, retP, resV, retQ, rAs, rA, rA0, ownN, nodup, bares, bare, bare0, guardIs, callP, callS, argS, mAs, mA, mA0, mB0, lowD, allNotIn, impN, impB, impT, packS, delL, Op.operands, List.getD, List.getElem?_cons_zero, List.getElem?_cons_succ, Option.getD_some, List.set, List.map, List.toList_toArray, List.getElem?_toArray, Option.bind_some, true_and, and_true, and_false, and_self, implies_true, if_true, if_false, eq_self, Bool.false_eq_true, Nat.zero_add, Nat.le_refl, Bool.cond_false, List.append_nil, Nat.reduceAdd, Nat.reduceEqDiff, Bool.not_true, Bool.not_false, Bool.and_self]
      refine call_go TO 100 lives8_meets Tryd.func16 (by decide +kernel) rfl rfl rfl ?_
      simp only [pureOpC, unc, absRun, absOps, absOp, evO, ungd, gdP, gdPs, setD, retP, resV, retQ, rAs, rA, rA0, ownN, nodup, bares, bare, bare0, guardIs, callP, callS, argS, mAs, allNotIn, impN, impB, impT, packS, delL, Op.operands, List.getD, List.getElem?_cons_zero, List.getElem?_cons_succ, Option.getD_some, List.set, List.map, List.toList_toArray, and_self, eq_self, List.append_nil, Bool.and_self]
    · rw [if_neg (by simp [hF])]
      refine call_go TO 100 lives8_meets Tryd.func16 (by decide +kernel) rfl rfl rfl ?_
      simp only [pureOpC, unc, absRun, absOps, absOp, evO, ungd, gdP, gdPs, setD, retP, resV, retQ, rAs, rA, rA0, ownN, nodup, bares, bare, bare0, guardIs, callP, callS, argS, mAs, allNotIn, impN, impB, impT, packS, delL, Op.operands, List.getD, List.getElem?_cons_zero, List.getElem?_cons_succ, Option.getD_some, List.set, List.map, List.toList_toArray, and_self, eq_self, List.append_nil, Bool.and_self]
  · rw [if_neg (by simp [hE])]
    refine call_go TO 100 h3 Tryd.func20 (by decide +kernel) rfl rfl rfl ?_
    simp only [pureOpC, cntC, unc, absRun, absOps, absOp, evO, constSV, ungd, gdP, gdPs, setD, binI, binV, ptrE, T_ty, T_size, T_zero, tTy, tSize, tZero, extractV, pureOp, memOp, loadV, newV, notIn, scal, okC, takeC, dropC, blkAt, fnd, upd, Lim.add, ownN, nodup, bares, bare, bare0, bareL, bareD, guardIs, callP, callS, argS, mAs, mA, mA0, mB0, lowD, allNotIn, impN, impB, impT, packS, delL, Op.operands, List.getD, List.getElem?_cons_zero, List.getElem?_cons_succ, Option.getD_some, List.set, List.map, List.toList_toArray, Option.bind_some, Option.map_some, true_and, and_self, if_true, if_false, eq_self, ne_eq, not_false_eq_true, reduceCtorEq, Nat.zero_add, Nat.add_zero, List.nil_append, List.append_nil, Nat.reduceAdd, Nat.reduceSub, Nat.reduceEqDiff, Nat.reduceLeDiff, List.replicate_succ, List.replicate_zero, Bool.and_self]
    by_cases hF : gsE c b = 0
    · rw [if_pos (by simp [hF])]
      refine call_go TO 100 (p4 hF) Tryd.func33 (by decide +kernel) rfl rfl rfl ?_
      simp only [pureOpC, unc, absRun, absOps, absOp, evO, constSV, ungd, gdP, gdPs, setD, binI, binV, ptrE, extractV, pureOp, guardOf, notIn, upd, Data.len, Data.esz, ownN, nodup, bares, bare, bare0, bareD, guardIs, callP, callS, argS, mAs, mA, mA0, mB0, mAl, lowD, allNotIn, nm, impN, impB, impT, packS, delL, Op.operands, List.getD, List.getElem?_cons_zero, List.getElem?_cons_succ, Option.getD_some, List.set, List.map, List.toList_toArray, List.getElem?_toArray, Option.bind_some, true_and, and_self, implies_true, if_false, eq_self, Nat.zero_add, Nat.add_zero, Int.reduceBNe, List.append_nil, Nat.reduceAdd, Nat.reduceMul, Nat.reduceEqDiff, Bool.not_false, Bool.and_self]
      refine call_go TO 100 hS Tryd.func14 (by decide +kernel) rfl rfl rfl ?_
      simp only [ht, List.drop_zero, pureOpC, unc, absRun, absOps, absOp, evO, constSV, ungd, gdP, gdPs, setD, unV, pickV, pureOp, guardOf, memOp, notIn, blkAt, fnd, Data.len, Data.esz, Data.sub, retP, resV, retQ, rAs, rA, rA0, ownN, nodup, bares, bare, bare0, guardIs, callP, callS, argS, mAs, mA, mA0, mB0, lowD, allNotIn, impN, impB, impT, packS, delL, Op.operands, List.getD, List.getElem?_cons_zero, List.getElem?_cons_succ, Option.getD_some, List.set, List.map, List.toList_toArray, List.getElem?_toArray, Option.bind_some, true_and, and_true, and_false, and_self, implies_true, if_true, if_false, eq_self, Bool.false_eq_true, Nat.zero_add, Nat.le_refl, Bool.cond_false, List.append_nil, Nat.reduceAdd, Nat.reduceEqDiff, Bool.not_true, Bool.not_false, Bool.and_self]
      refine call_go TO 100 lives8_meets Tryd.func16 (by decide +kernel) rfl rfl rfl ?_
      simp only [pureOpC, unc, absRun, absOps, absOp, evO, ungd, gdP, gdPs, setD, retP, resV, retQ, rAs, rA, rA0, ownN, nodup, bares, bare, bare0, guardIs, callP, callS, argS, mAs, allNotIn, impN, impB, impT, packS, delL, Op.operands, List.getD, List.getElem?_cons_zero, List.getElem?_cons_succ, Option.getD_some, List.set, List.map, List.toList_toArray, and_self, eq_self, List.append_nil, Bool.and_self]
    · rw [if_neg (by simp [hF])]
      refine call_go TO 100 lives8_meets Tryd.func16 (by decide +kernel) rfl rfl rfl ?_
      simp only [pureOpC, unc, absRun, absOps, absOp, evO, ungd, gdP, gdPs, setD, retP, resV, retQ, rAs, rA, rA0, ownN, nodup, bares, bare, bare0, guardIs, callP, callS, argS, mAs, allNotIn, impN, impB, impT, packS, delL, Op.operands, List.getD, List.getElem?_cons_zero, List.getElem?_cons_succ, Option.getD_some, List.set, List.map, List.toList_toArray, and_self, eq_self, List.append_nil, Bool.and_self]

theorem utfL_bytes (s : ByteArray) : Bytes (utfL s) := by
  unfold utfL
  split
  · rename_i ha
    obtain ⟨e, _⟩ := enc_letters s s.size 0 (by omega) ha
    intro x hx
    obtain ⟨n, hn, hx⟩ := List.mem_flatMap.1 hx
    have := e n hn
    exact runes_bytes ⟨this.1, this.2.1⟩ x hx
  · intro x hx; simp at hx

theorem bytes_app {a b : List Int} (h : Bytes a) (k : Bytes b) : Bytes (a ++ b) := fun x hx => (List.mem_append.1 hx).elim (h x) (k x)

theorem ptL_bytes (s : ByteArray) : Bytes (ptL s) := by
  unfold ptL
  split
  · exact bytes_app (digs_bytes _ _) (utfL_bytes s)
  · intro x hx; simp at hx

theorem paL_bytes (c : Int) (a : Ask) (ha : a.ok) : Bytes (paL c a) := by
  unfold paL
  split
  · intro x hx; simp at hx
  split
  · refine bytes_app (bytes_app (digs_bytes _ _) ?_) ha.guid.2
    intro x hx
    obtain ⟨n, hn, hx⟩ := List.mem_flatMap.1 hx
    exact digs_bytes _ _ x hx
  split
  · exact bytes_app ha.proof.2 (ptL_bytes _)
  split
  · exact ptL_bytes _
  · intro x hx; simp at hx; omega

theorem psL_bytes (c : Int) (s : Say) (hs : s.ok) : Bytes (psL c s) := by
  unfold psL
  split
  · intro x hx; simp at hx
  split
  · exact bytes_app (digs_bytes _ _) (bytes_app (digs_bytes _ _) hs.challenge.2)
  · intro x hx; simp at hx; omega

set_option maxHeartbeats 4000000 in
theorem TalkBack_law (c : Int) (a : Ask) (s : Say) (hc : 0 ≤ c ∧ c < 65536) (ha : a.ok ∧ a.small 1048576) (hs : s.ok ∧ s.small 1048576) : Meets Tryd.prog 8 ([.int .u16 c, a.sv false, s.sv false].map .v) [.v (.bool true)] := by
  obtain ⟨ha, hs1⟩ := ha
  obtain ⟨hs, hs2⟩ := hs
  have hP := PutAsk_meets c a hc.1 ha hs1
  have hQ := PutSay_meets c s hc.1 hs
  have ll := paL_len c a ha
  have l2 := psL_len c s hs
  have hBa : Bytes (paL c a) := paL_bytes c a ha
  have hBs : Bytes (psL c s) := psL_bytes c s hs
  have h1 := GetAsk_meets c (paL c a) hc.1 (by omega) hBa
  have h3 := GetSay_meets c (psL c s) hc.1 (by omega) hBs
  have hA := Asks_meets a a (by have := hs1.dialects; omega) (by have := hs1.data; omega) (by have := hs1.locks; omega)
  rw [asks_dec, decide_eq_true rfl] at hA
  have hS := Says_meets s s (by have := hs2.data; omega) (by have := hs2.entries; omega)
  rw [says_dec, decide_eq_true rfl] at hS
  have k1 : paE c a = 0 → gaE c (paL c a) = 0 ∧ gaA c (paL c a) = a := ask_back c a ha
  have k2 : psE c s = 0 → gsE c (psL c s) = 0 ∧ gsS c (psL c s) = s := say_back c s hs
  have t1 : (paL c a).take (paL c a).length = paL c a := List.take_length
  have t2 : (psL c s).take (psL c s).length = psL c s := List.take_length
  have A1 : paE c a = 0 → Meets Tryd.prog 18 [.v (.int .u16 c), .v (.view false (.ints .u8 (paL c a)))] [.v (a.sv true), .v (.int .i64 0)] := fun h => by
    rw [(k1 h).1, (k1 h).2] at h1; exact h1
  have A2 : psE c s = 0 → Meets Tryd.prog 20 [.v (.int .u16 c), .v (.view false (.ints .u8 (psL c s)))] [.v (s.sv true), .v (.int .i64 0)] := fun h => by
    rw [(k2 h).1, (k2 h).2] at h3; exact h3
  clear k1 k2
  generalize gaE c (paL c a) = e1 at *
  generalize gaA c (paL c a) = x1 at *
  generalize gsE c (psL c s) = e2 at *
  generalize gsS c (psL c s) = x2 at *
  generalize paL c a = l at *
  generalize psL c s = m at *
  generalize paE c a = e at *
  generalize psE c s = g at *
  simp only [Ask.sv, Ask.cells, Say.sv, Say.cells] at *
  refine meets_go TO 100 Tryd.func8 rfl (fun X => ?_)
  simp only [Tryd.ntmps8, Tryd.results8, pureOpC, unc, svs, blks, AV.sv, absRun, absOps, absOp, evO, constSV, ungd, gdP, gdPs, setD, T_ty, T_size, tTy, tSize, pureOp, memOp, loadV, newV, notIn, cellsOf, takeC, dropC, blkAt, fnd, upd, Lim.add, Op.operands, List.getD, List.getElem?_cons_zero, List.getElem?_cons_succ, Option.getD_some, List.set, List.map, List.toList_toArray, Option.bind_some, Option.map_some, true_and, and_self, if_true, if_false, eq_self, ne_eq, not_false_eq_true, reduceCtorEq, Nat.zero_add, List.cons_append, List.nil_append, List.length_cons, List.length_nil, Nat.reduceAdd, Nat.reduceSub, Nat.reduceEqDiff, Nat.reduceLeDiff, Nat.succ_ne_self, List.replicate_succ, List.replicate_zero]
  refine call_go TO 100 hP Tryd.func12 (by decide +kernel) rfl rfl rfl ?_
  simp only [pureOpC, unc, absRun, absOps, absOp, evO, ungd, gdP, gdPs, setD, extractV, pureOp, memOp, notIn, upd, Data.len, Data.esz, ownN, nodup, bares, bare, bare0, bareD, guardIs, callP, callS, argS, mAs, mA, mA0, mB0, mAl, lowD, allNotIn, nm, impN, impB, impT, packS, delL, Op.operands, List.getD, List.getElem?_cons_zero, List.getElem?_cons_succ, Option.getD_some, List.set, List.map, List.toList_toArray, true_and, and_self, if_false, eq_self, Nat.zero_add, Nat.add_zero, List.append_nil, Nat.reduceAdd, Nat.reduceMul, Nat.reduceEqDiff, Bool.and_self]
  by_cases he : e = 0
  · subst he
    refine call_go TO 100 (A1 rfl) Tryd.func18 (by decide +kernel) rfl rfl rfl ?_
    simp only [t1, List.drop_zero, pureOpC, cntC, unc, absRun, absOps, absOp, evO, constSV, ungd, gdP, gdPs, setD, binI, binV, ptrE, T_ty, T_size, T_zero, tTy, tSize, tZero, extractV, pureOp, guardOf, memOp, loadV, newV, notIn, scal, okC, takeC, dropC, blkAt, fnd, upd, Data.len, Data.esz, Data.sub, Lim.add, ownN, nodup, bares, bare, bare0, bareL, bareD, guardIs, callP, callS, argS, mAs, mA, mA0, mB0, lowD, allNotIn, impN, impB, impT, packS, delL, Op.operands, List.getD, List.getElem?_cons_zero, List.getElem?_cons_succ, Option.getD_some, List.set, List.map, List.toList_toArray, List.getElem?_toArray, Option.bind_some, Option.map_some, true_and, and_self, implies_true, if_true, if_false, eq_self, ne_eq, not_false_eq_true, reduceCtorEq, Nat.zero_add, Nat.add_zero, Nat.le_refl, Int.reduceBNe, List.nil_append, List.append_nil, Nat.reduceAdd, Nat.reduceSub, Nat.reduceEqDiff, Nat.reduceLeDiff, Bool.not_false, beq_self_eq_true, List.replicate_succ, List.replicate_zero, Bool.and_self]
    refine call_go TO 100 hA Tryd.func15 (by decide +kernel) rfl rfl rfl ?_
    simp only [pureOpC, unc, absRun, absOps, absOp, evO, constSV, ungd, gdP, gdPs, setD, unV, T_ty, T_size, tTy, tSize, pickV, pureOp, guardOf, memOp, loadV, takeC, dropC, blkAt, fnd, retP, resV, retQ, rAs, rA, rA0, ownN, nodup, bares, bare, bare0, guardIs, callP, callS, argS, mAs, mA, mA0, mB0, mAl, lowD, allNotIn, impN, impB, impT, packS, delL, Op.operands, List.getD, List.getElem?_cons_zero, List.getElem?_cons_succ, Option.getD_some, List.set, List.map, List.toList_toArray, List.getElem?_toArray, Option.bind_some, Option.map_some, true_and, and_true, and_false, and_self, implies_true, if_true, if_false, eq_self, ne_eq, not_false_eq_true, reduceCtorEq, Bool.false_eq_true, Bool.cond_true, Bool.cond_false, List.append_nil, Nat.reduceAdd, Nat.reduceSub, Nat.reduceEqDiff, Nat.reduceLeDiff, Nat.succ_ne_self, Bool.not_true, Bool.not_false, Bool.and_self]
    refine call_go TO 100 hQ Tryd.func33 (by decide +kernel) rfl rfl rfl ?_
    simp only [pureOpC, unc, absRun, absOps, absOp, evO, ungd, gdP, gdPs, setD, extractV, pureOp, memOp, notIn, upd, Data.len, Data.esz, ownN, nodup, bares, bare, bare0, bareD, guardIs, callP, callS, argS, mAs, mA, mA0, mB0, mAl, lowD, allNotIn, nm, impN, impB, impT, packS, delL, Op.operands, List.getD, List.getElem?_cons_zero, List.getElem?_cons_succ, Option.getD_some, List.set, List.map, List.toList_toArray, true_and, and_self, if_false, eq_self, Nat.zero_add, Nat.add_zero, List.append_nil, Nat.reduceAdd, Nat.reduceMul, Nat.reduceEqDiff, Bool.and_self]
    by_cases hg : g = 0
    · subst hg
      refine call_go TO 100 (A2 rfl) Tryd.func20 (by decide +kernel) rfl rfl rfl ?_
      simp only [t2, List.drop_zero, pureOpC, cntC, unc, absRun, absOps, absOp, evO, constSV, ungd, gdP, gdPs, setD, binI, binV, ptrE, T_ty, T_size, T_zero, tTy, tSize, tZero, extractV, pureOp, guardOf, memOp, loadV, newV, notIn, scal, okC, takeC, dropC, blkAt, fnd, upd, Data.len, Data.esz, Data.sub, Lim.add, ownN, nodup, bares, bare, bare0, bareL, bareD, guardIs, callP, callS, argS, mAs, mA, mA0, mB0, lowD, allNotIn, impN, impB, impT, packS, delL, Op.operands, List.getD, List.getElem?_cons_zero, List.getElem?_cons_succ, Option.getD_some, List.set, List.map, List.toList_toArray, List.getElem?_toArray, Option.bind_some, Option.map_some, true_and, and_self, implies_true, if_true, if_false, eq_self, ne_eq, not_false_eq_true, reduceCtorEq, Nat.zero_add, Nat.add_zero, Nat.le_refl, Int.reduceBNe, List.nil_append, List.append_nil, Nat.reduceAdd, Nat.reduceSub, Nat.reduceEqDiff, Nat.reduceLeDiff, Nat.succ_ne_self, Bool.not_false, beq_self_eq_true, List.replicate_succ, List.replicate_zero, Bool.and_self]
      refine call_go TO 100 hS Tryd.func22 (by decide +kernel) rfl rfl rfl ?_
      simp only [pureOpC, unc, absOps, absOp, evO, constSV, ungd, gdP, gdPs, setD, pickV, pureOp, guardOf, ownN, nodup, bares, bare, bare0, guardIs, callP, callS, argS, mAs, mA, mA0, mB0, mAl, lowD, allNotIn, impN, impB, impT, packS, delL, Op.operands, List.getD, List.getElem?_cons_zero, List.getElem?_cons_succ, Option.getD_some, List.set, List.map, List.toList_toArray, List.getElem?_toArray, Option.bind_some, true_and, and_self, implies_true, eq_self, Bool.cond_true, Bool.cond_false, List.append_nil, Bool.not_false, Bool.and_self]
      refine call_go TO 100 lives8_meets Tryd.func16 (by decide +kernel) rfl rfl rfl ?_
      simp only [pureOpC, unc, absRun, absOps, absOp, evO, constSV, ungd, gdP, gdPs, setD, pickV, guardOf, retP, resV, retQ, rAs, rA, rA0, ownN, nodup, bares, bare, bare0, guardIs, callP, callS, argS, mAs, allNotIn, impN, impB, impT, packS, delL, Op.operands, List.getD, List.getElem?_cons_zero, List.getElem?_cons_succ, Option.getD_some, List.set, List.map, List.toList_toArray, List.getElem?_toArray, Option.bind_some, and_self, eq_self, Bool.cond_true, List.append_nil, Bool.and_self]
    · refine call_go TO 100 h3 Tryd.func20 (by decide +kernel) rfl rfl rfl ?_
      have hg2 : (g == 0) = false := by simpa using hg
      have hg3 : (g != 0) = true := by simpa using hg
      simp only [t2, hg3, List.drop_zero, pureOpC, cntC, unc, absRun, absOps, absOp, evO, constSV, ungd, gdP, gdPs, setD, binI, binV, ptrE, T_ty, T_size, T_zero, tTy, tSize, tZero, extractV, pureOp, guardOf, memOp, loadV, newV, notIn, scal, okC, takeC, dropC, blkAt, fnd, upd, Data.len, Data.esz, Data.sub, Lim.add, ownN, nodup, bares, bare, bare0, bareL, bareD, guardIs, callP, callS, argS, mAs, mA, mA0, mB0, lowD, allNotIn, impN, impB, impT, packS, delL, Op.operands, List.getD, List.getElem?_cons_zero, List.getElem?_cons_succ, Option.getD_some, List.set, List.map, List.toList_toArray, List.getElem?_toArray, Option.bind_some, Option.map_some, true_and, and_self, implies_true, imp_self, if_true, if_false, eq_self, ne_eq, not_false_eq_true, reduceCtorEq, Bool.false_eq_true, Nat.zero_add, Nat.add_zero, Nat.le_refl, List.nil_append, List.append_nil, Nat.reduceAdd, Nat.reduceSub, Nat.reduceEqDiff, Nat.reduceLeDiff, Nat.succ_ne_self, Bool.not_true, List.replicate_succ, List.replicate_zero, Bool.and_self, Bool.false_and]
      refine skip_go TO 100 (.bool false) ?_
      simp only [pureOpC, absOps, absOp, evO, constSV, ungd, gdP, gdPs, setD, pickV, pureOp, guardOf, guardIs, Op.operands, List.getD, List.getElem?_cons_zero, List.getElem?_cons_succ, Option.getD_some, List.set, List.toList_toArray, List.getElem?_toArray, Option.bind_some, true_and, and_self, imp_self, eq_self, Bool.false_eq_true, Bool.cond_false_right, Bool.cond_true, Bool.not_true, Bool.and_false, Bool.false_and]
      refine call_go TO 100 lives8_meets Tryd.func16 (by decide +kernel) rfl rfl rfl ?_
      simp only [pureOpC, unc, absRun, absOps, absOp, evO, constSV, ungd, gdP, gdPs, setD, pickV, guardOf, retP, resV, retQ, rAs, rA, rA0, ownN, nodup, bares, bare, bare0, guardIs, callP, callS, argS, mAs, allNotIn, impN, impB, impT, packS, delL, Op.operands, List.getD, List.getElem?_cons_zero, List.getElem?_cons_succ, Option.getD_some, List.set, List.map, List.toList_toArray, List.getElem?_toArray, Option.bind_some, and_self, eq_self, Bool.cond_true, List.append_nil, Bool.and_self]
  · refine call_go TO 100 h1 Tryd.func18 (by decide +kernel) rfl rfl rfl ?_
    have he2 : (e == 0) = false := by simpa using he
    simp only [t1, he2, List.drop_zero, pureOpC, cntC, unc, absRun, absOps, absOp, evO, constSV, ungd, gdP, gdPs, setD, binI, binV, ptrE, T_ty, T_size, T_zero, tTy, tSize, tZero, extractV, pureOp, guardOf, memOp, loadV, newV, notIn, scal, okC, takeC, dropC, blkAt, fnd, upd, Data.len, Data.esz, Data.sub, Lim.add, ownN, nodup, bares, bare, bare0, bareL, bareD, guardIs, callP, callS, argS, mAs, mA, mA0, mB0, lowD, allNotIn, impN, impB, impT, packS, delL, Op.operands, List.getD, List.getElem?_cons_zero, List.getElem?_cons_succ, Option.getD_some, List.set, List.map, List.toList_toArray, List.getElem?_toArray, Option.bind_some, Option.map_some, true_and, and_self, implies_true, imp_self, if_true, if_false, eq_self, ne_eq, not_false_eq_true, reduceCtorEq, Bool.false_eq_true, Nat.zero_add, Nat.add_zero, Nat.le_refl, List.nil_append, List.append_nil, Nat.reduceAdd, Nat.reduceSub, Nat.reduceEqDiff, Nat.reduceLeDiff, List.replicate_succ, List.replicate_zero, Bool.and_self, Bool.false_and]
    refine skip_go TO 100 (.bool false) ?_
    simp only [pureOpC, unc, absRun, absOps, absOp, evO, constSV, ungd, gdP, gdPs, setD, unV, T_ty, T_size, tTy, tSize, pickV, pureOp, guardOf, memOp, loadV, takeC, dropC, blkAt, fnd, retP, resV, retQ, rAs, rA, rA0, ownN, nodup, bares, bare, bare0, guardIs, Op.operands, List.getD, List.getElem?_cons_zero, List.getElem?_cons_succ, Option.getD_some, List.set, List.map, List.toList_toArray, List.getElem?_toArray, Option.bind_some, Option.map_some, true_and, and_true, and_false, and_self, implies_true, imp_self, if_true, if_false, eq_self, ne_eq, not_false_eq_true, reduceCtorEq, Bool.false_eq_true, Bool.cond_true_left, Bool.cond_false, Nat.reduceAdd, Nat.reduceSub, Nat.reduceEqDiff, Nat.reduceLeDiff, Nat.succ_ne_self, Bool.not_false, Bool.and_self, Bool.false_and, Bool.or_true]
    refine call_go TO 100 hQ Tryd.func33 (by decide +kernel) rfl rfl rfl ?_
    simp only [pureOpC, unc, absRun, absOps, absOp, evO, ungd, gdP, gdPs, setD, extractV, pureOp, memOp, notIn, upd, Data.len, Data.esz, ownN, nodup, bares, bare, bare0, bareD, guardIs, callP, callS, argS, mAs, mA, mA0, mB0, mAl, lowD, allNotIn, nm, impN, impB, impT, packS, delL, Op.operands, List.getD, List.getElem?_cons_zero, List.getElem?_cons_succ, Option.getD_some, List.set, List.map, List.toList_toArray, true_and, and_self, if_false, eq_self, Nat.zero_add, Nat.add_zero, List.append_nil, Nat.reduceAdd, Nat.reduceMul, Nat.reduceEqDiff, Bool.and_self]
    by_cases hg : g = 0
    · subst hg
      refine call_go TO 100 (A2 rfl) Tryd.func20 (by decide +kernel) rfl rfl rfl ?_
      simp only [t2, List.drop_zero, pureOpC, cntC, unc, absRun, absOps, absOp, evO, constSV, ungd, gdP, gdPs, setD, binI, binV, ptrE, T_ty, T_size, T_zero, tTy, tSize, tZero, extractV, pureOp, guardOf, memOp, loadV, newV, notIn, scal, okC, takeC, dropC, blkAt, fnd, upd, Data.len, Data.esz, Data.sub, Lim.add, ownN, nodup, bares, bare, bare0, bareL, bareD, guardIs, callP, callS, argS, mAs, mA, mA0, mB0, lowD, allNotIn, impN, impB, impT, packS, delL, Op.operands, List.getD, List.getElem?_cons_zero, List.getElem?_cons_succ, Option.getD_some, List.set, List.map, List.toList_toArray, List.getElem?_toArray, Option.bind_some, Option.map_some, true_and, and_self, implies_true, if_true, if_false, eq_self, ne_eq, not_false_eq_true, reduceCtorEq, Nat.zero_add, Nat.add_zero, Nat.le_refl, Int.reduceBNe, List.nil_append, List.append_nil, Nat.reduceAdd, Nat.reduceSub, Nat.reduceEqDiff, Nat.reduceLeDiff, Nat.succ_ne_self, Bool.not_false, beq_self_eq_true, List.replicate_succ, List.replicate_zero, Bool.and_self]
      refine call_go TO 100 hS Tryd.func22 (by decide +kernel) rfl rfl rfl ?_
      simp only [pureOpC, unc, absOps, absOp, evO, constSV, ungd, gdP, gdPs, setD, pickV, pureOp, guardOf, ownN, nodup, bares, bare, bare0, guardIs, callP, callS, argS, mAs, mA, mA0, mB0, mAl, lowD, allNotIn, impN, impB, impT, packS, delL, Op.operands, List.getD, List.getElem?_cons_zero, List.getElem?_cons_succ, Option.getD_some, List.set, List.map, List.toList_toArray, List.getElem?_toArray, Option.bind_some, true_and, and_self, implies_true, eq_self, Bool.cond_true, Bool.cond_false, List.append_nil, Bool.not_false, Bool.and_self]
      refine call_go TO 100 lives8_meets Tryd.func16 (by decide +kernel) rfl rfl rfl ?_
      simp only [pureOpC, unc, absRun, absOps, absOp, evO, constSV, ungd, gdP, gdPs, setD, pickV, guardOf, retP, resV, retQ, rAs, rA, rA0, ownN, nodup, bares, bare, bare0, guardIs, callP, callS, argS, mAs, allNotIn, impN, impB, impT, packS, delL, Op.operands, List.getD, List.getElem?_cons_zero, List.getElem?_cons_succ, Option.getD_some, List.set, List.map, List.toList_toArray, List.getElem?_toArray, Option.bind_some, and_self, eq_self, Bool.cond_true, List.append_nil, Bool.and_self]
    · refine call_go TO 100 h3 Tryd.func20 (by decide +kernel) rfl rfl rfl ?_
      have hg2 : (g == 0) = false := by simpa using hg
      have hg3 : (g != 0) = true := by simpa using hg
      simp only [t2, hg3, List.drop_zero, pureOpC, cntC, unc, absRun, absOps, absOp, evO, constSV, ungd, gdP, gdPs, setD, binI, binV, ptrE, T_ty, T_size, T_zero, tTy, tSize, tZero, extractV, pureOp, guardOf, memOp, loadV, newV, notIn, scal, okC, takeC, dropC, blkAt, fnd, upd, Data.len, Data.esz, Data.sub, Lim.add, ownN, nodup, bares, bare, bare0, bareL, bareD, guardIs, callP, callS, argS, mAs, mA, mA0, mB0, lowD, allNotIn, impN, impB, impT, packS, delL, Op.operands, List.getD, List.getElem?_cons_zero, List.getElem?_cons_succ, Option.getD_some, List.set, List.map, List.toList_toArray, List.getElem?_toArray, Option.bind_some, Option.map_some, true_and, and_self, implies_true, imp_self, if_true, if_false, eq_self, ne_eq, not_false_eq_true, reduceCtorEq, Bool.false_eq_true, Nat.zero_add, Nat.add_zero, Nat.le_refl, List.nil_append, List.append_nil, Nat.reduceAdd, Nat.reduceSub, Nat.reduceEqDiff, Nat.reduceLeDiff, Nat.succ_ne_self, Bool.not_true, List.replicate_succ, List.replicate_zero, Bool.and_self, Bool.false_and]
      refine skip_go TO 100 (.bool false) ?_
      simp only [pureOpC, absOps, absOp, evO, constSV, ungd, gdP, gdPs, setD, pickV, pureOp, guardOf, guardIs, Op.operands, List.getD, List.getElem?_cons_zero, List.getElem?_cons_succ, Option.getD_some, List.set, List.toList_toArray, List.getElem?_toArray, Option.bind_some, true_and, and_self, imp_self, eq_self, Bool.false_eq_true, Bool.cond_false_right, Bool.cond_true, Bool.not_true, Bool.and_false, Bool.false_and]
      refine call_go TO 100 lives8_meets Tryd.func16 (by decide +kernel) rfl rfl rfl ?_
      simp only [pureOpC, unc, absRun, absOps, absOp, evO, constSV, ungd, gdP, gdPs, setD, pickV, guardOf, retP, resV, retQ, rAs, rA, rA0, ownN, nodup, bares, bare, bare0, guardIs, callP, callS, argS, mAs, allNotIn, impN, impB, impT, packS, delL, Op.operands, List.getD, List.getElem?_cons_zero, List.getElem?_cons_succ, Option.getD_some, List.set, List.map, List.toList_toArray, List.getElem?_toArray, Option.bind_some, and_self, eq_self, Bool.cond_true, List.append_nil, Bool.and_self]

end Go.Proofs.YtfohefgpchbgkaaDoor.Abs
