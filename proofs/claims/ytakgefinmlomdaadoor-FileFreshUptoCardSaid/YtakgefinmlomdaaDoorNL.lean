/- file: what is laid and what is got is small. -/
import Derived.Test.YtakgefinmlomdaaDoorNF
import Derived.Test.YtakgefinmlomdaaDoorN8
import Derived.Test.YtakgefinmlomdaaDoorNK
import Derived.Test.YtakgefinmlomdaaDoorUZ
set_option linter.unusedVariables false
set_option linter.unusedSimpArgs false
set_option maxRecDepth 100000
namespace Go.Proofs.YtakgefinmlomdaaDoor.Abs
open Go Go.Proofs

theorem faL_bad {c : Int} {a : Ask} (h : faE c a ≠ 0) : faL c a = [] := by unfold faL; rw [if_pos h]
theorem fsL_bad {c : Int} {s : Say} (h : fsE c s ≠ 0) : fsL c s = [] := by unfold fsL; rw [if_pos h]

theorem faL_len (c : Int) (a : Ask) (ha : a.ok) : (faL c a).length ≤ 40000 := by
  by_cases h : faE c a = 0
  · obtain ⟨_, _, _, h4, h5, _⟩ := fa_parts h
    have hp := pt_len a.name
    have hl := lkL_len a.locks
    unfold faL
    repeat' split
    all_goals simp only [List.length_append, digs_length, List.length_nil]
    all_goals omega
  · rw [faL_bad h]; simp

theorem fsL_len (c : Int) (s : Say) (hs : s.ok) : (fsL c s).length ≤ 40000 := by
  by_cases h : fsE c s = 0
  · obtain ⟨_, _, _, _, h5⟩ := fs_parts h
    unfold fsL
    repeat' split
    all_goals simp only [List.length_append, digs_length, List.length_nil]
    all_goals omega
  · rw [fsL_bad h]; simp

theorem bytes_nil : Bytes [] := fun x hx => by simp at hx

theorem lkL_bytes (l : List LockR) : Bytes (lkL l) := by
  intro x hx
  obtain ⟨e, he, hx⟩ := List.mem_flatMap.1 hx
  exact bytes_app (digs_bytes _ _) (bytes_app (digs_bytes _ _) (bytes_app (digs_bytes _ _) (digs_bytes _ _))) x hx

theorem faL_bytes (c : Int) (a : Ask) (ha : a.ok) : Bytes (faL c a) := by
  have d := digs_bytes
  have p := ptL_bytes a.name
  have l := lkL_bytes a.locks
  unfold faL
  split
  · exact bytes_nil
  split
  · exact bytes_app (d _ _) (bytes_app (d _ _) (bytes_app (d _ _) (bytes_app (d _ _) (bytes_app (d _ _) (bytes_app (d _ _) (bytes_app (d _ _) (bytes_app (d _ _) p)))))))
  split
  · exact bytes_app (d _ _) (bytes_app (d _ _) (d _ _))
  split
  · exact bytes_app (d _ _) (bytes_app (d _ _) (bytes_app (d _ _) ha.data))
  split
  · exact bytes_app (d _ _) (bytes_app (d _ _) (bytes_app (d _ _) l))
  · exact d _ _

theorem fsL_bytes (c : Int) (s : Say) (hs : s.ok) : Bytes (fsL c s) := by
  have d := digs_bytes
  unfold fsL
  split
  · exact bytes_nil
  split
  · exact bytes_app (d _ _) (bytes_app (d _ _) (bytes_app (d _ _) (bytes_app (d _ _) (bytes_app (d _ _) (bytes_app (d _ _) (d _ _))))))
  split
  · exact bytes_app (d _ _) hs.data
  split
  · exact d _ _
  · exact d _ _

theorem fdV_ok {b : List Int} {r : Nat × Int} (hB : Bytes b) : Bytes (fdV b r) := by
  unfold fdV rP
  split
  · exact bytes_nil
  split
  · exact bytes_nil
  · intro x hx
    exact hB x (List.mem_of_mem_drop (List.mem_of_mem_take hx))

theorem lkF_ok {b : List Int} (hB : Bytes b) : ∀ (k : Nat) (r : Nat × Int) (l : List LockR), (∀ x ∈ l, -9223372036854775808 ≤ x.op ∧ x.op ≤ 9223372036854775807 ∧ U64 x.at_ ∧ U64 x.n ∧ U16 x.mode) →
    ∀ x ∈ (lkF b k r l).1, -9223372036854775808 ≤ x.op ∧ x.op ≤ 9223372036854775807 ∧ U64 x.at_ ∧ U64 x.n ∧ U16 x.mode
  | 0, r, l, h => h
  | k + 1, r, l, h => by
    rw [lkF]
    split
    · refine lkF_ok hB k _ _ fun x hx => ?_
      rcases List.mem_append.1 hx with hx | hx
      · exact h x hx
      · simp only [List.mem_singleton] at hx
        subst hx
        have v := fun k r => rV_lt b k r hB
        unfold lkX
        exact ⟨by simp only; decide, by simp only; decide, ⟨(v 8 _).1, by have := (v 8 r).2; simp only; omega⟩, ⟨(v 8 _).1, by have := (v 8 (rN b 8 r)).2; simp only; omega⟩, ⟨(v 2 _).1, by have := (v 2 (rN b 8 (rN b 8 r))).2; simp only; omega⟩⟩
    · exact h

theorem fg_ok (c : Int) (b : List Int) (hB : Bytes b) : (fgA c b).ok := by
  have v := fun k r => rV_lt b k r hB
  have u64 : ∀ r, U64 (rV b 8 r) := fun r => ⟨(v 8 r).1, by have := (v 8 r).2; omega⟩
  have u32 : ∀ r, U32 (rV b 4 r) := fun r => ⟨(v 4 r).1, by have := (v 4 r).2; omega⟩
  have u8 : ∀ r, U8 (rV b 1 r) := fun r => ⟨(v 1 r).1, by have := (v 1 r).2; omega⟩
  unfold fgA
  split
  · exact askZ_ok
  unfold fgV
  split
  · exact { askZ_ok with access := u32 (0, 0), sharing := u32 (fc1 b), way := u32 (fc2 b), options := u32 (fc3 b), level := u8 (fc4 b), durable := u8 (fc5 b), file := u64 (fc7 b) }
  split
  · exact { askZ_ok with file := u64 (0, 0), at_ := u64 (ig1 b), n := u32 (rN b 8 (ig1 b)) }
  split
  · exact { askZ_ok with file := u64 (0, 0), at_ := u64 (ig1 b), data := fdV_ok hB }
  split
  · exact { askZ_ok with file := u64 (0, 0), locks := lkF_ok hB _ _ _ (fun x hx => by simp at hx) }
  · exact { askZ_ok with file := u64 (0, 0) }

theorem fg_small (c : Int) (b : List Int) (hB : Bytes b) : (fgA c b).small 1048576 := by
  have z := emp_size
  by_cases h : fgE c b = 0
  · obtain ⟨h1, _⟩ := file_once c b hB h
    obtain ⟨_, hw, _, h4, h5, h6⟩ := fa_parts h1
    have hd := fgA_dialects c b
    generalize fgA c b = a at *
    have e1 : (faW c a).user = ByteArray.empty ∧ (faW c a).share = ByteArray.empty ∧ (faW c a).pattern = ByteArray.empty ∧ (faW c a).after = ByteArray.empty := by
      unfold faW; repeat' split
      all_goals exact ⟨rfl, rfl, rfl, rfl⟩
    have e2 : c ≠ 5 → (faW c a).name = ByteArray.empty := fun h5 => by
      unfold faW; rw [if_neg h5]; repeat' split
      all_goals rfl
    rw [hw] at e1 e2
    obtain ⟨t1, t2, t3, t4⟩ := e1
    have hn : a.name.size ≤ 1048576 := by
      by_cases c5 : c = 5
      · have := pt_size (h6 c5); omega
      · rw [e2 c5, z]; omega
    exact ⟨by rw [hd]; simp, by rw [t1, z]; omega, by rw [t2, z]; omega, hn, by omega, by omega, by rw [t3, z]; omega, by rw [t4, z]; omega⟩
  · have : fgA c b = askZ := by unfold fgA; rw [if_pos h]
    rw [this]; exact askZ_small

theorem ft_small (c : Int) (b : List Int) (hB : Bytes b) : (ftS c b).small 1048576 := by
  by_cases h : ftE c b = 0
  · obtain ⟨h1, _⟩ := file_say_once c b hB h
    obtain ⟨_, _, _, _, h5⟩ := fs_parts h1
    have he := ftS_entries c b
    exact ⟨by omega, by rw [he]; simp, fun x hx => by rw [he] at hx; simp at hx⟩
  · have : ftS c b = sayZ := by unfold ftS; rw [if_pos h]
    rw [this]; exact ⟨by simp [sayZ], by simp [sayZ], fun x hx => by simp [sayZ] at hx⟩

theorem ft_ok (c : Int) (b : List Int) (hB : Bytes b) : (ftS c b).ok := by
  have v := fun k r => rV_lt b k r hB
  have u64 : ∀ r, U64 (rV b 8 r) := fun r => ⟨(v 8 r).1, by have := (v 8 r).2; omega⟩
  have u32 : ∀ r, U32 (rV b 4 r) := fun r => ⟨(v 4 r).1, by have := (v 4 r).2; omega⟩
  have u16 : ∀ r, U16 (rV b 2 r) := fun r => ⟨(v 2 r).1, by have := (v 2 r).2; omega⟩
  have u8 : ∀ r, U8 (rV b 1 r) := fun r => ⟨(v 1 r).1, by have := (v 1 r).2; omega⟩
  by_cases h : ftE c b = 0
  · obtain ⟨h1, _⟩ := file_say_once c b hB h
    obtain ⟨_, _, _, hk, _⟩ := fs_parts h1
    have hS : ftS c b = ftV c b := by unfold ftS; rw [if_neg (fun g => g h)]
    rw [hS] at hk ⊢
    by_cases c5 : c = 5
    · subst c5
      have hk2 : rV b 2 (ft5 b) ≤ 2 := hk
      exact { sayZ_ok with level := u8 (0, 0), durable := u8 (ft1 b), made := u16 (ft2 b), file := u64 (ft3 b), size := u64 (ft4 b), kind := ⟨(v 2 (ft5 b)).1, by show rV b 2 (ft5 b) < 256; omega⟩ }
    unfold ftV
    rw [if_neg c5]
    split
    · exact { sayZ_ok with data := fdV_ok hB }
    split
    · exact { sayZ_ok with n := u32 (0, 0) }
    · exact sayZ_ok
  · have : ftS c b = sayZ := by unfold ftS; rw [if_pos h]
    rw [this]; exact sayZ_ok

theorem fGetAsk2_meets (c : Int) (b : List Int) (hc : 0 ≤ c) (hb : b.length ≤ 274877906944) (hB : Bytes b) : Meets Tryd.prog 18 [.v (.int .u16 c), .v (.view false (.ints .u8 b))] [.v ((fgA c b).sv true), .v (.int .i64 (fgE c b))] :=
  Meets.askL (fgA_dialects c b) (fGetAskK_meets c b hc hb hB).view
theorem fGetSay2_meets (c : Int) (b : List Int) (hc : 0 ≤ c) (hb : b.length ≤ 274877906944) (hB : Bytes b) : Meets Tryd.prog 20 [.v (.int .u16 c), .v (.view false (.ints .u8 b))] [.v ((ftS c b).sv true), .v (.int .i64 (ftE c b))] :=
  Meets.sayL (ftS_entries c b) (fGetSayK_meets c b hc hb hB).view
def askF1 : Ask := { askZ with file := 1 }
def askF2 : Ask := { askZ with n := 8193 }

set_option maxHeartbeats 4000000 in
theorem lives9_meets : Meets Tryd.prog 16 [] [.v (.bool true)] := by
  have o : askF1.ok := { askZ_ok with file := ⟨by decide, by decide⟩ }
  have m : askF1.small 1048576 := { askZ_small with }
  have e1 : faE 6 askF1 = 0 := fa_zero (by decide) rfl (fun x hx => by simp [askF1, askZ] at hx) (by decide) (by decide) (fun h => absurd h (by decide))
  have e2 : faL 6 askF1 = [1, 0, 0, 0, 0, 0, 0, 0] := by
    unfold faL
    rw [if_neg (by rw [e1]; decide)]
    decide +kernel
  have h1 := fPutAsk_meets 6 askF1 (by decide) o m
  rw [e1, e2] at h1
  have h2 := fGetSay2_meets 8 [2, 0, 0, 0, 97, 98] (by decide) (by decide) (by unfold Bytes; decide)
  have f1 : ftE 8 [2, 0, 0, 0, 97, 98] = 0 := by decide +kernel
  have f2 : (ftS 8 [2, 0, 0, 0, 97, 98]).data.length = 2 := by decide +kernel
  have h3 := fGetAsk2_meets 8 (List.replicate 19 0) (by decide) (by decide) (by unfold Bytes; decide)
  have g1 : fgE 8 (List.replicate 19 0) = 4 := by decide +kernel
  have o2 : askF2.ok := { askZ_ok with n := ⟨by decide, by decide⟩ }
  have h4 := fCharge_meets 8 askF2 (by decide) o2 (by decide)
  have k1 : chE 8 askF2 = 2 := by decide
  rw [f1] at h2
  rw [g1] at h3
  rw [k1] at h4
  generalize ftS 8 [2, 0, 0, 0, 97, 98] = S at *
  generalize fgA 8 (List.replicate 19 0) = A at *
  simp only [Ask.sv, Ask.cells, askF1, askZ] at h1
  simp only [Ask.sv, Ask.cells, askF2, askZ] at h4
  simp only [Say.sv, Say.cells] at h2
  simp only [Ask.sv, Ask.cells] at h3
  refine meets_go TO 100 Tryd.func16 rfl (fun X => ?_)
  simp only [Tryd.ntmps16, Tryd.results16, pureOpC, buildV, fillC, cntC, unc, svs, blks, absRun, absOps, absOp, evO, constSV, ungd, gdP, gdPs, setD, T_ty, T_size, T_zero, tTy, tSize, tZero, fieldOf, pureOp, memOp, scal, cellsOf, takeC, dropC, Op.operands, List.getElem?_cons_zero, List.getElem?_cons_succ, List.set, List.map, List.all, List.toList_toArray, Option.map_some, true_and, and_self, if_true, eq_self, ne_eq, not_false_eq_true, reduceCtorEq, Nat.add_zero, List.cons_append, List.nil_append, List.length_nil, Nat.reduceAdd, Nat.reduceSub, Nat.reduceLeDiff, List.replicate_succ, List.replicate_zero, Bool.and_self, Nat.reduceBNe]
  refine call_go TO 100 h1 Tryd.func12 (by decide +kernel) rfl rfl rfl ?_
  simp only [pureOpC, unc, absRun, absOps, absOp, evO, constSV, ungd, gdP, gdPs, setD, T_ty, T_size, tTy, tSize, extractV, pureOp, memOp, newV, notIn, elemsOf, intsOf, upd, Data.len, Data.esz, Lim.add, ownN, nodup, bares, bare, bare0, bareD, guardIs, callP, callS, argS, mAs, mA, mA0, mB0, mAl, allNotIn, nm, impN, impB, impT, packS, delL, Op.operands, List.getD, List.getElem?_cons_zero, List.getElem?_cons_succ, Option.getD_some, List.set, List.map, List.toList_toArray, Option.map_some, true_and, and_self, if_true, if_false, eq_self, Nat.zero_add, Nat.add_zero, List.append_nil, List.length_cons, List.length_nil, Nat.reduceAdd, Nat.reduceMul, Nat.reduceEqDiff, Nat.reduceLeDiff, List.replicate_succ, List.replicate_zero, Bool.and_self]
  refine call_go TO 100 h2 Tryd.func20 (by decide +kernel) rfl rfl rfl ?_
  simp only [List.take_succ_cons, List.take_zero, List.drop_zero, pureOpC, cntC, unc, absRun, absOps, absOp, evO, constSV, ungd, gdP, gdPs, setD, T_ty, T_size, T_bytes, T_zero, tTy, tSize, tBytes, tZero, extractV, pureOp, memOp, newV, notIn, scal, zI, okC, takeC, dropC, blkAt, fnd, upd, Data.len, Data.esz, Data.sub, Lim.add, ownN, nodup, bares, bare, bare0, bareL, bareD, guardIs, callP, callS, argS, mAs, mA, mA0, mB0, lowD, allNotIn, impN, impB, impT, packS, delL, Op.operands, List.getD, List.getElem?_cons_zero, List.getElem?_cons_succ, Option.getD_some, List.set, List.map, List.toList_toArray, true_and, and_self, if_true, if_false, eq_self, ne_eq, not_false_eq_true, reduceCtorEq, Nat.zero_add, Nat.add_zero, Int.cast_ofNat_Int, Int.reduceToNat, Nat.le_refl, List.nil_append, List.append_nil, List.length_cons, List.length_nil, Nat.reduceAdd, Nat.reduceSub, Nat.reduceEqDiff, Nat.reduceLeDiff, List.replicate_succ, List.replicate_zero, Bool.and_self, Int.reduceLE, Int.reduceMul]
  refine call_go TO 100 h3 Tryd.func18 (by decide +kernel) rfl rfl rfl ?_
  simp only [f2, List.take_succ_cons, List.take_zero, List.drop_zero, pureOpC, buildV, fillC, cntC, unc, absRun, absOps, absOp, evO, constSV, ungd, gdP, gdPs, setD, binI, binV, ptrE, T_ty, T_size, T_zero, tTy, tSize, tZero, fieldOf, faddrV, iaddrV, extractV, pickV, pureOp, guardOf, memOp, lenV, loadV, newV, notIn, scal, cellsOf, okC, cellAt, takeC, dropC, blkAt, fnd, upd, elemV, Data.len, Data.esz, Data.sub, Lim.add, ownN, nodup, bares, bare, bare0, bareL, bareD, guardIs, callP, callS, argS, mAs, mA, mA0, mB0, lowD, allNotIn, impN, impB, impT, packS, delL, Op.operands, Call.operands, List.getD, List.getElem?_cons_zero, List.getElem?_cons_succ, Option.getD_some, List.set, List.map, List.all, List.toList_toArray, List.getElem?_toArray, Option.bind_some, Option.map_some, true_and, and_self, implies_true, if_true, if_false, eq_self, ne_eq, not_false_eq_true, reduceCtorEq, Nat.zero_add, Nat.add_zero, Int.cast_ofNat_Int, Nat.le_refl, Int.le_refl, Int.toNat_zero, Bool.cond_true, List.append_toArray, List.cons_append, List.nil_append, List.append_nil, List.length_cons, List.length_nil, Nat.reduceAdd, Nat.reduceSub, Nat.reduceEqDiff, Nat.reduceLeDiff, Nat.reduceLT, Nat.succ_ne_self, beq_self_eq_true, List.replicate_succ, List.replicate_zero, Bool.and_self, Int.reduceLT, Nat.reduceBNe]
  refine call_go TO 100 h4 Tryd.func24 (by decide +kernel) rfl rfl rfl ?_
  simp only [pureOpC, unc, absRun, absOps, absOp, evO, constSV, ungd, gdP, gdPs, setD, binI, binV, ptrE, pickV, pureOp, guardOf, Data.len, retP, resV, retQ, rAs, rA, rA0, ownN, nodup, bares, bare, bare0, guardIs, callP, callS, argS, mAs, mA, mA0, mB0, mAl, allNotIn, impN, impB, impT, packS, delL, Op.operands, List.getD, List.getElem?_cons_zero, List.getElem?_cons_succ, Option.getD_some, List.set, List.map, List.toList_toArray, List.getElem?_toArray, Option.bind_some, and_self, implies_true, eq_self, Bool.cond_true, List.append_nil, List.length_nil, beq_self_eq_true, List.replicate_succ, List.replicate_zero, Bool.and_self]

end Go.Proofs.YtakgefinmlomdaaDoor.Abs
