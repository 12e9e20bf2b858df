/- What info's GetSay answers. -/
import Derived.Test.YtgipkhjpedpedaaDoorK3
set_option linter.unusedVariables false
set_option linter.unusedSimpArgs false
set_option maxRecDepth 100000
namespace Go.Proofs.YtgipkhjpedpedaaDoor.Abs
open Go Go.Proofs

/-- A Say, its data nil. -/
def Say.svD (s : Say) : SV := .agg [.int .u16 s.dialect, .int .u64 s.size, .arr .u8 8 s.challenge, .int .u8 s.level, .int .u8 s.durable, .int .u16 s.made, .int .u64 s.file, .int .u8 s.kind, .nil, .int .u32 s.n, .view true (.ents s.entries), .bool s.more, .bool s.gone]

theorem Meets.sayD {P : Program} {f : FuncId} {args : List AV} {s : Say} {e : Int} (h2 : s.data = []) (h : Meets P f args [.v s.svD, .v (.int .i64 e)]) : Meets P f args [.v (s.sv true), .v (.int .i64 e)] := by
  refine h.weaken ?_
  simp [Say.svD, Say.sv, Say.cells, retQ, rAs, rA, rAl, rA0, svs, AV.sv, ownN, nodup, bares, bare, bareL, bare0, bareD, Data.len, h2]

abbrev skC (ent : SV) (more : Bool) : List SV := [.int .u16 0, .int .u64 0, .arr .u8 8 [0, 0, 0, 0, 0, 0, 0, 0], .int .u8 0, .int .u8 0, .int .u16 0, .int .u64 0, .int .u8 0, .nil, .int .u32 0, ent, .bool more, .bool false]

theorem kind_ok {b : List Int} {r : Nat × Int} (hB : Bytes b) (h : (rM b 2 2 5 r).2 = 0) : IntKind.u8.wrap (rV b 2 r) = rV b 2 r := by
  have h1 := (rV_lt b 2 r hB).1
  have h2 : rV b 2 r ≤ 2 := by
    unfold rM at h
    by_cases g : (rN b 2 r).2 = 0 ∧ 2 < rV b 2 r
    · rw [if_pos g] at h; cases h
    · rw [if_neg g] at h; omega
  rw [IntKind.wrap_u8]; omega

theorem size_ok {b : List Int} {r : Nat × Int} (hB : Bytes b) (h : (rM b 8 1048576 5 r).2 = 0) : IntKind.i64.wrap (rV b 8 r) = rV b 8 r := by
  have h1 := (rV_lt b 8 r hB).1
  have h2 : rV b 8 r ≤ 1048576 := by
    unfold rM at h
    by_cases g : (rN b 8 r).2 = 0 ∧ 1048576 < rV b 8 r
    · rw [if_pos g] at h; cases h
    · rw [if_neg g] at h; omega
  exact w64 (by omega) (by omega)

theorem lp_step {b : List Int} {k : Nat} {r : Nat × Int} {l : List EntR} (h : r.2 = 0) : lpR b (k + 1) r l = lpR b k (enR b r) (l ++ [enX b r]) := by
  rw [lpR, if_pos h]
theorem lp_snd {b : List Int} {k : Nat} {r : Nat × Int} {l : List EntR} (h : r.2 ≠ 0) : (lpR b k r l).2 = r := by rw [lp_bad h]

theorem rU_zero {b : List Int} {r : Nat × Int} (h : (rU b r).2 = 0) : r.2 = 0 := by
  by_cases g : r.2 = 0
  · exact g
  · rw [rU_err g] at h; exact h
theorem rMe_zero {b : List Int} {k : Nat} {m e : Int} {r : Nat × Int} (h : (rM b k m e r).2 = 0) : r.2 = 0 := by
  by_cases g : r.2 = 0
  · exact g
  · rw [rM_err g] at h; exact h

theorem lp_end {b : List Int} {k : Nat} {r : Nat × Int} {l : List EntR} (h : r.2 ≠ 0) : rEnd b (lpR b k r l).2 = r.2 := by rw [lp_bad h, rEnd_err h]

/-- One entry, as it is read. -/
theorem en_ok {b : List Int} {r : Nat × Int} (hB : Bytes b) (h : (enR b r).2 = 0) : (⟨rS b (rM b 8 1048576 5 (rM b 2 0 5 (rM b 2 2 5 r))), IntKind.u8.wrap (rV b 2 r), IntKind.i64.wrap (rV b 8 (rM b 2 0 5 (rM b 2 2 5 r)))⟩ : EntR) = enX b r := by
  have h1 := rU_zero h
  have h2 := rMe_zero h1
  have h3 := rMe_zero h2
  unfold enX
  rw [kind_ok hB h3, size_ok hB h1]

theorem lp_next {b : List Int} (hB : Bytes b) {N i : Nat} {r : Nat × Int} {l : List EntR} {D : List EntR × (Nat × Int)} (hi : i < N) (hr : r.2 = 0) (hD : D = lpR b (N - i) r l) :
    ((enR b r).2 = 0 → D = lpR b (N - (i + 1)) (enR b r) (l ++ [⟨rS b (rM b 8 1048576 5 (rM b 2 0 5 (rM b 2 2 5 r))), IntKind.u8.wrap (rV b 2 r), IntKind.i64.wrap (rV b 8 (rM b 2 0 5 (rM b 2 2 5 r)))⟩])) ∧ ((enR b r).2 ≠ 0 → rEnd b D.2 = (enR b r).2) := by
  rw [show N - i = (N - (i + 1)) + 1 by omega, lp_step hr] at hD
  subst hD
  exact ⟨fun h => by rw [en_ok hB h], fun h => lp_end h⟩

set_option maxHeartbeats 8000000 in
theorem iGetSay_meets (c : Int) (b : List Int) (hc : 0 ≤ c) (hb : b.length ≤ 274877906944) (hB : Bytes b) : Meets Tryd.prog 19 [.v (.int .u16 c), .v (.view false (.ints .u8 b))] [.v (itS c b).svD, .v (.int .i64 (itE c b))] := by
  have hK := ik_meets c hc
  have hb2 : b.length ≤ 140737488351232 := by omega
  refine meets_go TO 100 Tryd.func19 rfl (fun X => ?_)
  simp only [Tryd.ntmps19, Tryd.results19, pureOpC, svs, blks, AV.sv, absRun, absOps, absOp, evO, constSV, ungd, gdP, gdPs, setD, T_size, T_zero, tSize, tZero, pureOp, memOp, newV, notIn, upd, Lim.add, Op.operands, List.getD, List.getElem?_cons_zero, Option.getD_some, List.set, List.toList_toArray, true_and, and_self, ne_eq, not_false_eq_true, reduceCtorEq, Nat.zero_add, List.cons_append, List.nil_append, List.length_cons, List.length_nil, Nat.reduceAdd, Nat.reduceSub, List.replicate_succ, List.replicate_zero]
  refine call_go TO 100 hK Tryd.func29 (by decide +kernel) rfl rfl rfl ?_
  have bad : ¬ (ikB c = true ∧ c ≠ 12) → itE c b = 2 ∧ itS c b = sayZ := fun h => by
    have e : itE c b = 2 := by unfold itE; rw [if_neg h]
    exact ⟨e, by unfold itS; rw [if_pos (by rw [e]; decide)]⟩
  by_cases hk : ikB c = true ∧ c ≠ 12
  rotate_left
  · obtain ⟨e1, e2⟩ := bad hk
    have hk2 : (!ikB c || c == 12) = true := by
      cases h : ikB c with
      | false => rfl
      | true => simp [h] at hk; simp [hk]
    rw [e1, e2]
    simp only [hk2, Say.svD, sayZ, pureOpC, buildV, fillC, cntC, unc, absRun, absOps, absOp, evO, constSV, ungd, gdP, gdPs, setD, binI, binV, ptrE, unV, T_ty, T_size, T_zero, tTy, tSize, tZero, fieldOf, pickV, pureOp, guardOf, memOp, loadV, newV, notIn, scal, cellsOf, okC, takeC, dropC, blkAt, fnd, upd, Data.len, Lim.add, retP, resV, retQ, rAs, rA, rA0, rAl, ownN, nodup, bares, bare, bare0, bareL, bareD, guardIs, callP, callS, argS, mAs, mA, mA0, mB0, allNotIn, impN, impB, impT, packS, delL, Op.operands, List.getD, List.getElem?_cons_zero, List.getElem?_cons_succ, Option.getD_some, List.set, List.map, List.all, List.toList_toArray, List.getElem?_toArray, Option.bind_some, Option.map_some, true_and, and_self, implies_true, imp_self, if_true, if_false, eq_self, ne_eq, not_false_eq_true, reduceCtorEq, Nat.zero_add, Nat.add_zero, Bool.cond_true_left, List.cons_append, List.nil_append, List.append_nil, List.length_nil, Nat.reduceAdd, Nat.reduceSub, Nat.reduceEqDiff, Nat.reduceLeDiff, List.replicate_succ, List.replicate_zero, Bool.and_self, Nat.reduceBNe]
  obtain ⟨hk1, c12⟩ := hk
  have d12 : (c == 12) = false := by simpa using c12
  have eE : itE c b = rEnd b (itR c b) := by unfold itE; rw [if_pos ⟨hk1, c12⟩]
  have eA0 : itE c b ≠ 0 → itS c b = sayZ := fun h => by unfold itS; rw [if_pos h]
  have eA1 : itE c b = 0 → itS c b = itV c b := fun h => by unfold itS; rw [if_neg (fun g => g h)]
  clear bad
  simp only [hk1, d12, pureOpC, buildV, fillC, cntC, unc, absRun, absOps, absOp, evO, constSV, ungd, gdP, gdPs, setD, binI, binV, ptrE, unV, T_ty, T_size, T_zero, tTy, tSize, tZero, fieldOf, pickV, pureOp, guardOf, memOp, loadV, newV, notIn, scal, cellsOf, okC, takeC, dropC, blkAt, fnd, upd, Data.len, Data.esz, Lim.add, retP, resV, retQ, rAs, rA, rA0, ownN, nodup, bares, bare, bare0, bareD, guardIs, callP, callS, argS, mAs, mA, mA0, mB0, allNotIn, impN, impB, impT, packS, delL, Op.operands, List.getD, List.getElem?_cons_zero, List.getElem?_cons_succ, Option.getD_some, List.set, List.map, List.all, List.toList_toArray, List.getElem?_toArray, Option.bind_some, Option.map_some, true_and, and_true, and_self, implies_true, if_true, if_false, eq_self, ne_eq, not_false_eq_true, reduceCtorEq, Bool.false_eq_true, Nat.zero_add, Nat.add_zero, Bool.cond_false, List.cons_append, List.nil_append, List.append_nil, Nat.reduceAdd, Nat.reduceSub, Nat.reduceEqDiff, Nat.reduceLeDiff, Bool.not_true, Bool.not_false, List.replicate_succ, List.replicate_zero, Bool.and_true, Bool.and_self, Nat.reduceBNe]
  by_cases c14 : c = 14
  · subst c14
    have eR : itR 14 b = (it0 b).2 := rfl
    have eV : itV 14 b = { sayZ with entries := (it0 b).1, more := rV b 2 (rM b 2 64 3 (0, 0)) == 1 } := rfl
    have e0 : lpR b (rV b 2 (0, 0)).toNat (rM b 2 1 5 (rM b 2 64 3 (0, 0))) [] = it0 b := rfl
    rw [eR] at eE
    rw [eV] at eA1
    clear eR eV
    have vN := rV_lt b 2 (0, 0) hB
    obtain ⟨N, hN⟩ : ∃ N : Nat, rV b 2 (0, 0) = N := ⟨(rV b 2 (0, 0)).toNat, by omega⟩
    rw [hN, Int.toNat_natCast] at e0
    rw [hN] at vN
    have hN2 : N < 65536 := by omega
    generalize it0 b = D at *
    simp only [if_true, if_false, eq_self, Bool.false_eq_true, Int.reduceBEq, beq_self_eq_true]
    refine inC_ops TO 100 (im_inC (n := 22) (k := 2) (m := 64) (e := 3) (r := (0, 0)) (tail := []) rfl hb2 hB (Nat.zero_le _) rfl) Tryd.func52 (by decide +kernel) rfl rfl rfl ⟨⟨rfl, rfl, by simp only [evO, constSV, gdP, gdPs, List.getD, List.getElem?_cons_zero, List.getElem?_cons_succ, Option.getD_some, and_self]⟩, ?_⟩
    have h1 := rM_le (b := b) (k := 2) (m := 64) (e := 3) (r := (0, 0)) (Nat.zero_le _)
    simp only [rdC, hN, pureOpC, absRun, absOps, absOp, evO, ungd, gdP, gdPs, setD, pureOp, memOp, upd, Op.operands, List.getD, List.getElem?_cons_zero, List.getElem?_cons_succ, Option.getD_some, List.set, List.toList_toArray, true_and, and_self, if_true, if_false, eq_self, Nat.reduceAdd, Nat.reduceEqDiff]
    generalize rM b 2 64 3 (0, 0) = r1 at *
    refine inC_ops TO 100 (ib_inC (n := 22)  (r := r1) (tail := []) rfl hb2 hB h1) Tryd.func53 (by decide +kernel) rfl rfl rfl ⟨⟨rfl, rfl, by simp only [evO, gdP, gdPs, List.getD, List.getElem?_cons_zero, List.getElem?_cons_succ, Option.getD_some, and_self]⟩, ?_⟩
    have h2 := rM_le (b := b) (k := 2) (m := 1) (e := 5) (r := r1) h1
    simp only [rdC, pureOpC, unc, absRun, absOps, absOp, evO, constSV, ungd, gdP, gdPs, setD, T_ty, T_size, tTy, tSize, fieldOf, faddrV, pureOp, memOp, scal, setC, blkAt, fnd, upd, Op.operands, List.getD, List.getElem?_cons_zero, List.getElem?_cons_succ, Option.getD_some, List.set, List.toList_toArray, Option.map_some, Option.map_none, true_and, and_self, if_true, if_false, eq_self, ne_eq, not_false_eq_true, reduceCtorEq, Nat.zero_add, Nat.reduceAdd, Nat.reduceSub, Nat.reduceEqDiff, Nat.reduceLT, Nat.succ_ne_self]
    generalize rM b 2 1 5 r1 = r2 at *
    generalize hmo : (rV b 2 r1 == 1) = mo at *
    have mv3 : itE 14 b = 0 → mo = mo := fun h => rfl
    refine nilJ_go 7 64 200 10 (.ents []) rfl ⟨⟨by simp, rfl, rfl, by decide⟩, ?_⟩
    simp only [Data.esz, upd, Data.esz, List.set, if_true, if_false, eq_self, Nat.reduceAdd, Nat.reduceEqDiff]
    refine loop_up (fun x : Nat × (Nat × Int) × List EntR × Nat × Nat => x.1 ≤ N ∧ x.2.1.1 ≤ b.length ∧ (x.2.1.2 = 0 → D = lpR b (N - x.1) x.2.1 x.2.2.1) ∧ x.2.2.1.length ≤ x.1 ∧ (x.2.1.2 ≠ 0 → rEnd b D.2 = x.2.1.2))
      (fun x => ⟨tl 98 0 [(4, .ptr 4 2 0), (5, .int .i64 0), (6, .ptr 22 4 0), (7, .ptr 7 5 0), (8, .int .u64 N), (9, .int .u64 x.1)], [(4, 2, .cells (skC .nil false)),
        (22, 4, rdC b x.2.1 []), (7, 5, .cells (skC (.sl 64 x.2.2.2.1 0 3 0 x.2.2.1.length) mo)), (64, x.2.2.2.1, .vec (.ents x.2.2.1))], ⟨x.2.2.2.2, [], 0⟩⟩) (fun x => N - x.1) (0, r2, [], 201, _) ⟨Nat.zero_le _, h2, fun _ => e0.symm, Nat.le_refl _, fun h => by rw [← e0]; exact lp_end h⟩ ⟨rfl, ?_, ?_⟩ ?_
    · simp [LeT, tl]
    · intro m x hx
      simpa [fnd, rdC] using hx
    rintro ⟨i, r, l, g, c⟩ ⟨hi, hr, hD0, hl, hbad⟩ ih
    simp only at hi hr hD0 hl hbad
    refine absRun_ok TO 100 _ _ ?_
    simp only [rdC, skC, pureOpC, unc, absRun, absOps, absOp, evO, constSV, ungd, gdP, gdPs, setD, binI, binV, ptrE, T_ty, T_size, tTy, tSize, fieldOf, faddrV, pickV, pureOp, guardOf, memOp, loadV, cellAt, blkAt, fnd, Op.operands, List.getD, List.getElem?_cons_zero, List.getElem?_cons_succ, Option.getD_some, List.set, List.toList_toArray, List.getElem?_toArray, Option.bind_some, exitTo, true_and, and_self, implies_true, imp_self, if_true, if_false, eq_self, ne_eq, not_false_eq_true, reduceCtorEq, Bool.false_eq_true, Nat.zero_add, Bool.cond_false_right, List.cons_append, List.nil_append, Nat.reduceAdd, Nat.reduceSub, Nat.reduceEqDiff, Nat.reduceBEq, Nat.succ_ne_self, beq_self_eq_true, List.replicate_succ, List.replicate_zero, tl]
    by_cases hgo : i < N ∧ r.2 = 0
    · rw [if_pos (show (decide ((i : Int) < (N : Int)) && r.2 == 0) = true by simp; omega)]
      have wi : IntKind.u64.wrap ((i : Int) + 1) = ((i + 1 : Nat) : Int) := by rw [wu64 (by omega) (by omega)]; omega
      have hnx := lp_next hB hgo.1 hgo.2 (hD0 hgo.2)
      refine inC_ops TO 100 (im_inC (n := 22) (k := 2) (m := 2) (e := 5) (r := r) (tail := []) rfl hb2 hB hr rfl) Tryd.func52 (by decide +kernel) rfl rfl rfl ⟨⟨rfl, rfl, by simp only [evO, constSV, gdP, gdPs, List.getD, List.getElem?_cons_zero, List.getElem?_cons_succ, Option.getD_some, and_self]⟩, ?_⟩
      have h3 := rM_le (b := b) (k := 2) (m := 2) (e := 5) (r := r) hr
      simp only [rdC, pureOpC, buildV, fillC, cntC, unc, absRun, absOps, absOp, evO, ungd, gdP, gdPs, setD, convV, T_ty, T_size, T_zero, tTy, tSize, tZero, fieldOf, pureOp, memOp, newV, notIn, scal, cellsOf, okC, known, takeC, dropC, blkAt, fnd, upd, Lim.add, Op.operands, List.getD, List.getElem?_cons_zero, List.getElem?_cons_succ, Option.getD_some, List.set, List.map, List.all, List.toList_toArray, Option.map_some, true_and, and_self, if_true, if_false, eq_self, ne_eq, not_false_eq_true, reduceCtorEq, Nat.zero_add, Nat.add_zero, List.cons_append, List.nil_append, List.append_nil, Nat.reduceAdd, Nat.reduceEqDiff, Bool.and_self, Nat.reduceBNe]
      refine inC_ops TO 100 (iz_inC (n := 22) (k := 2) (r := (rM b 2 2 5 r)) (tail := []) rfl hb2 hB h3 rfl) Tryd.func44 (by decide +kernel) rfl rfl rfl ⟨⟨rfl, rfl, by simp only [evO, constSV, gdP, gdPs, List.getD, List.getElem?_cons_zero, List.getElem?_cons_succ, Option.getD_some, and_self]⟩, ?_⟩
      have h4 := rM_le (b := b) (k := 2) (m := 0) (e := 5) (r := (rM b 2 2 5 r)) h3
      simp only [rdC, pureOpC, absRun, absOps, absOp, evO, ungd, gdP, gdPs, setD, pureOp, memOp, upd, Op.operands, List.getD, List.getElem?_cons_zero, List.getElem?_cons_succ, Option.getD_some, List.set, List.toList_toArray, true_and, and_self, if_true, if_false, eq_self, Nat.reduceEqDiff]
      refine inC_ops TO 100 (im_inC (n := 22) (k := 8) (m := 1048576) (e := 5) (r := (rM b 2 0 5 (rM b 2 2 5 r))) (tail := []) rfl hb2 hB h4 rfl) Tryd.func52 (by decide +kernel) rfl rfl rfl ⟨⟨rfl, rfl, by simp only [evO, constSV, gdP, gdPs, List.getD, List.getElem?_cons_zero, List.getElem?_cons_succ, Option.getD_some, and_self]⟩, ?_⟩
      have h5 := rM_le (b := b) (k := 8) (m := 1048576) (e := 5) (r := (rM b 2 0 5 (rM b 2 2 5 r))) h4
      simp only [rdC, pureOpC, unc, absRun, absOps, absOp, evO, ungd, gdP, gdPs, setD, convV, T_ty, T_size, tTy, tSize, fieldOf, faddrV, pureOp, memOp, scal, known, setC, blkAt, fnd, upd, Op.operands, List.getD, List.getElem?_cons_zero, List.getElem?_cons_succ, Option.getD_some, List.set, List.toList_toArray, Option.map_some, Option.map_none, true_and, and_self, if_true, if_false, eq_self, ne_eq, not_false_eq_true, reduceCtorEq, Nat.zero_add, Nat.reduceAdd, Nat.reduceSub, Nat.reduceEqDiff, Nat.succ_ne_self]
      refine inC_ops TO 100 (it_inC (n := 22)  (r := (rM b 8 1048576 5 (rM b 2 0 5 (rM b 2 2 5 r)))) (tail := []) rfl hb hB h5) Tryd.func45 (by decide +kernel) rfl rfl rfl ⟨⟨rfl, rfl, by simp only [evO, gdP, gdPs, List.getD, List.getElem?_cons_zero, List.getElem?_cons_succ, Option.getD_some, and_self]⟩, ?_⟩
      have h6 := rU_le (b := b) (r := (rM b 8 1048576 5 (rM b 2 0 5 (rM b 2 2 5 r)))) hB h5
      simp only [rdC, pureOpC, cntC, unc, absRun, absOps, absOp, evO, ungd, gdP, gdPs, setD, T_ty, T_size, tTy, tSize, fieldOf, faddrV, pureOp, memOp, loadV, newV, notIn, dataOf, isSrc, scal, elemsOf, aggsOf, cellAt, arrAt, takeC, dropC, setC, blkAt, fnd, upd, Lim.add, Op.operands, List.getD, List.getElem?_cons_zero, List.getElem?_cons_succ, List.getElem?_nil, Option.getD_some, Option.getD_none, List.set, List.map, List.toList_toArray, Option.bind_some, Option.map_some, Option.map_none, true_and, and_self, if_true, if_false, ite_self, eq_self, ne_eq, not_false_eq_true, reduceCtorEq, Nat.zero_add, Nat.add_zero, List.cons_append, List.nil_append, List.length_cons, List.length_nil, Nat.reduceAdd, Nat.reduceSub, Nat.reduceMul, Nat.reduceEqDiff, Nat.reduceLeDiff, Nat.reduceLT, Nat.succ_ne_self]
      refine tell_ops 63 (.vec (.ents [⟨_, _, _⟩])) ⟨⟨rfl, fun σ w h => blk_ents h⟩, HOps_go TO 100 ?_⟩
      have hlen : (l ++ [(⟨rS b (rM b 8 1048576 5 (rM b 2 0 5 (rM b 2 2 5 r))), IntKind.u8.wrap (rV b 2 r), IntKind.i64.wrap (rV b 8 (rM b 2 0 5 (rM b 2 2 5 r)))⟩ : EntR)]).length = l.length + 1 := by simp
      simp only [wi, List.take_succ_cons, List.take_zero, List.drop_zero, pureOpC, unc, fitT, absRun, absOps, absOp, evO, constSV, ungd, gdP, gdPs, setD, binI, binV, ptrE, T_ty, T_size, T_bytes, tTy, tSize, tBytes, fieldOf, faddrV, pureOp, memOp, notIn, dataOf, appD, isSrc, scal, setC, blkAt, fnd, upd, del, mv, Data.len, Data.esz, Data.sub, Lim.add, Op.operands, Call.operands, List.getD, List.getElem?_cons_zero, List.getElem?_cons_succ, Option.getD_some, List.set, List.toList_toArray, Option.map_some, Option.map_none, Option.isSome, true_and, and_self, if_true, if_false, eq_self, ne_eq, not_false_eq_true, reduceCtorEq, Nat.zero_add, Nat.le_refl, List.append_toArray, List.nil_append, List.length_cons, List.length_nil, Nat.reduceSub, Nat.reduceEqDiff, Nat.reduceLeDiff, Nat.reduceLT, Nat.succ_ne_self]
      refine ⟨⟨by omega, by omega⟩, ?_⟩
      refine ih (i + 1, enR b r, l ++ [(⟨rS b (rM b 8 1048576 5 (rM b 2 0 5 (rM b 2 2 5 r))), IntKind.u8.wrap (rV b 2 r), IntKind.i64.wrap (rV b 8 (rM b 2 0 5 (rM b 2 2 5 r)))⟩ : EntR)], c + 106, _) _ ⟨hgo.1, h6, hnx.1, by rw [hlen]; omega, hnx.2⟩ (by simp only; omega) rfl ?_ ?_
      · simp [LeT, tl]
      · intro m x hx
        simp only [fnd, rdC, skC, enR] at hx ⊢
        split at hx
        · rename_i e; subst e; simpa using hx
        split at hx
        · rename_i e; subst e; simpa using hx
        split at hx
        · rename_i e; subst e; simpa using hx
        split at hx
        · rename_i e; subst e; simpa using hx
        cases hx
    · rw [if_neg (show ¬ (decide ((i : Int) < (N : Int)) && r.2 == 0) = true by simp; omega)]
      have hex : r.2 = 0 → D = (l, r) := fun h => by rw [hD0 h, show N - i = 0 by omega]; rfl
      have eE2 : itE 14 b = rEnd b r := by
        rw [eE]
        by_cases h : r.2 = 0
        · rw [hex h]
        · rw [hbad h, rEnd_err h]
      refine freezeC_ops 7 10 64 (.ents l) ⟨⟨rfl, rfl, by simp [fnd], by decide, by simp [Data.len]⟩, ?_⟩
      simp only [List.drop_zero, upd, del, Data.sub, List.set, if_true, if_false, eq_self, List.take_length, Nat.reduceEqDiff]
      refine inC_ops TO 100 (ie_inC (n := 22)  (r := r) (tail := []) rfl hb2 hB hr) Tryd.func47 (by decide +kernel) rfl rfl rfl ⟨⟨rfl, rfl, by simp only [evO, gdP, gdPs, List.getD, List.getElem?_cons_zero, List.getElem?_cons_succ, Option.getD_some, and_self]⟩, ?_⟩
      rw [← eE2]
      by_cases hE : itE 14 b = 0
      · have z := rEnd_zero (eE2.symm.trans hE)
        have hl : D.1 = l := by rw [hex (by rw [z])]
        have hmv := mv3 hE
        rw [eA1 hE, hl]
        simp only [hE, rdC, Say.svD, sayZ, pureOpC, buildV, fillC, cntC, unc, absRun, absOps, absOp, evO, constSV, ungd, gdP, gdPs, setD, binI, binV, ptrE, T_ty, T_size, T_zero, tTy, tSize, tZero, pureOp, memOp, loadV, scal, okC, takeC, dropC, blkAt, fnd, upd, Data.len, retP, resV, retQ, rAs, rA, rA0, rAl, ownN, nodup, bares, bare, bare0, bareL, bareD, Op.operands, List.getD, List.getElem?_cons_zero, List.getElem?_cons_succ, Option.getD_some, List.set, List.map, List.all, List.toList_toArray, Option.bind_some, Option.map_some, true_and, and_true, and_self, implies_true, if_true, if_false, eq_self, ne_eq, not_false_eq_true, reduceCtorEq, Bool.false_eq_true, Nat.zero_add, Nat.add_zero, Int.reduceBNe, List.nil_append, List.append_nil, Nat.reduceAdd, Nat.reduceSub, Nat.reduceEqDiff, Nat.reduceLeDiff, List.replicate_succ, List.replicate_zero, Bool.and_self, Nat.reduceBNe]
      · have hE' : (itE 14 b != 0) = true := by simpa using hE
        rw [eA0 hE]
        simp only [hE', rdC, Say.svD, sayZ, pureOpC, buildV, fillC, cntC, unc, absRun, absOps, absOp, evO, constSV, ungd, gdP, gdPs, setD, binI, binV, ptrE, T_ty, T_size, T_zero, tTy, tSize, tZero, pureOp, memOp, loadV, scal, okC, takeC, dropC, blkAt, fnd, upd, Data.len, retP, resV, retQ, rAs, rA, rA0, rAl, ownN, nodup, bares, bare, bare0, bareL, bareD, Op.operands, List.getD, List.getElem?_cons_zero, List.getElem?_cons_succ, Option.getD_some, List.set, List.map, List.all, List.toList_toArray, Option.bind_some, Option.map_some, true_and, and_true, and_self, implies_true, if_true, if_false, eq_self, ne_eq, not_false_eq_true, reduceCtorEq, Nat.zero_add, Nat.add_zero, List.nil_append, List.append_nil, List.length_nil, Nat.reduceAdd, Nat.reduceSub, Nat.reduceEqDiff, Nat.reduceLeDiff, List.replicate_succ, List.replicate_zero, Bool.and_self, Nat.reduceBNe]
  by_cases c16 : c = 16
  · subst c16
    have eR : itR 16 b = rM b 2 1 5 (rM b 2 2 5 (rN b 8 (0, 0))) := rfl
    have eV : itV 16 b = { sayZ with size := rV b 8 (0, 0), kind := rV b 2 (rN b 8 (0, 0)), gone := rV b 2 (rM b 2 2 5 (rN b 8 (0, 0))) == 1 } := rfl
    rw [eR] at eE
    rw [eV] at eA1
    clear eR eV
    simp only [if_true, if_false, eq_self, Bool.false_eq_true, Int.reduceBEq, beq_self_eq_true]
    refine inC_ops TO 100 (in_inC (n := 22) (k := 8) (r := (0, 0)) (tail := []) rfl hb2 hB (Nat.zero_le _) rfl) Tryd.func43 (by decide +kernel) rfl rfl rfl ⟨⟨rfl, rfl, by simp only [evO, constSV, gdP, gdPs, List.getD, List.getElem?_cons_zero, List.getElem?_cons_succ, Option.getD_some, and_self]⟩, ?_⟩
    have h1 := rN_le (b := b) (k := 8) (r := (0, 0)) (Nat.zero_le _)
    simp only [rdC, pureOpC, unc, absRun, absOps, absOp, evO, ungd, gdP, gdPs, setD, T_ty, T_size, tTy, tSize, fieldOf, faddrV, pureOp, memOp, scal, setC, blkAt, fnd, upd, Op.operands, List.getD, List.getElem?_cons_zero, List.getElem?_cons_succ, Option.getD_some, List.set, List.toList_toArray, Option.map_some, Option.map_none, true_and, and_self, if_true, if_false, eq_self, ne_eq, not_false_eq_true, reduceCtorEq, Nat.zero_add, Nat.reduceAdd, Nat.reduceSub, Nat.reduceEqDiff, Nat.reduceLT, Nat.succ_ne_self]
    generalize rN b 8 (0, 0) = r1 at *
    have kw : (rM b 2 2 5 r1).2 = 0 → IntKind.u8.wrap (rV b 2 r1) = rV b 2 r1 := kind_ok hB
    refine inC_ops TO 100 (im_inC (n := 22) (k := 2) (m := 2) (e := 5) (r := r1) (tail := []) rfl hb2 hB h1 rfl) Tryd.func52 (by decide +kernel) rfl rfl rfl ⟨⟨rfl, rfl, by simp only [evO, constSV, gdP, gdPs, List.getD, List.getElem?_cons_zero, List.getElem?_cons_succ, Option.getD_some, and_self]⟩, ?_⟩
    have h2 := rM_le (b := b) (k := 2) (m := 2) (e := 5) (r := r1) h1
    simp only [rdC, pureOpC, unc, absRun, absOps, absOp, evO, ungd, gdP, gdPs, setD, convV, T_ty, T_size, tTy, tSize, fieldOf, faddrV, pureOp, memOp, scal, known, setC, blkAt, fnd, upd, Op.operands, List.getD, List.getElem?_cons_zero, List.getElem?_cons_succ, Option.getD_some, List.set, List.toList_toArray, Option.map_some, Option.map_none, true_and, and_self, if_true, if_false, eq_self, ne_eq, not_false_eq_true, reduceCtorEq, Nat.zero_add, Nat.reduceAdd, Nat.reduceSub, Nat.reduceEqDiff, Nat.reduceLT, Nat.succ_ne_self]
    generalize rM b 2 2 5 r1 = r2 at *
    have mz : (rM b 2 1 5 r2).2 = 0 → r2.2 = 0 := rMe_zero
    refine inC_ops TO 100 (ib_inC (n := 22)  (r := r2) (tail := []) rfl hb2 hB h2) Tryd.func53 (by decide +kernel) rfl rfl rfl ⟨⟨rfl, rfl, by simp only [evO, gdP, gdPs, List.getD, List.getElem?_cons_zero, List.getElem?_cons_succ, Option.getD_some, and_self]⟩, ?_⟩
    have h3 := rM_le (b := b) (k := 2) (m := 1) (e := 5) (r := r2) h2
    simp only [rdC, pureOpC, unc, absRun, absOps, absOp, evO, ungd, gdP, gdPs, setD, T_ty, T_size, tTy, tSize, fieldOf, faddrV, pureOp, memOp, scal, setC, blkAt, fnd, upd, Op.operands, List.getD, List.getElem?_cons_zero, List.getElem?_cons_succ, Option.getD_some, List.set, List.toList_toArray, Option.map_some, Option.map_none, true_and, and_self, if_true, if_false, eq_self, ne_eq, not_false_eq_true, reduceCtorEq, Nat.zero_add, Nat.reduceAdd, Nat.reduceSub, Nat.reduceEqDiff, Nat.reduceLT, Nat.succ_ne_self]
    generalize rM b 2 1 5 r2 = r3 at *
    refine inC_ops TO 100 (ie_inC (n := 22)  (r := r3) (tail := []) rfl hb2 hB h3) Tryd.func47 (by decide +kernel) rfl rfl rfl ⟨⟨rfl, rfl, by simp only [evO, gdP, gdPs, List.getD, List.getElem?_cons_zero, List.getElem?_cons_succ, Option.getD_some, and_self]⟩, ?_⟩
    rw [← eE]
    by_cases hE : itE 16 b = 0
    · have z := rEnd_zero (eE.symm.trans hE)
      have z2 : r2.2 = 0 := mz (by rw [z])
      have kw2 := kw z2
      rw [eA1 hE]
      simp only [hE, kw2, rdC, Say.svD, sayZ, pureOpC, buildV, fillC, cntC, unc, absRun, absOps, absOp, evO, constSV, ungd, gdP, gdPs, setD, binI, binV, ptrE, T_ty, T_size, T_zero, tTy, tSize, tZero, pureOp, memOp, loadV, scal, okC, takeC, dropC, blkAt, fnd, upd, Data.len, retP, resV, retQ, rAs, rA, rA0, rAl, ownN, nodup, bares, bare, bare0, bareL, bareD, Op.operands, List.getD, List.getElem?_cons_zero, List.getElem?_cons_succ, Option.getD_some, List.set, List.map, List.all, List.toList_toArray, Option.bind_some, Option.map_some, true_and, and_true, and_self, if_true, if_false, eq_self, ne_eq, not_false_eq_true, reduceCtorEq, Bool.false_eq_true, Nat.zero_add, Nat.add_zero, Int.reduceBNe, List.nil_append, List.append_nil, List.length_nil, Nat.reduceAdd, Nat.reduceSub, Nat.reduceEqDiff, Nat.reduceLeDiff, List.replicate_succ, List.replicate_zero, Bool.and_self, Nat.reduceBNe]
    · have hE' : (itE 16 b != 0) = true := by simpa using hE
      rw [eA0 hE]
      simp only [hE', rdC, Say.svD, sayZ, pureOpC, buildV, fillC, cntC, unc, absRun, absOps, absOp, evO, constSV, ungd, gdP, gdPs, setD, binI, binV, ptrE, T_ty, T_size, T_zero, tTy, tSize, tZero, pureOp, memOp, loadV, scal, okC, takeC, dropC, blkAt, fnd, upd, Data.len, retP, resV, retQ, rAs, rA, rA0, rAl, ownN, nodup, bares, bare, bare0, bareL, bareD, Op.operands, List.getD, List.getElem?_cons_zero, List.getElem?_cons_succ, Option.getD_some, List.set, List.map, List.all, List.toList_toArray, Option.bind_some, Option.map_some, true_and, and_true, and_self, if_true, if_false, eq_self, ne_eq, not_false_eq_true, reduceCtorEq, Nat.zero_add, Nat.add_zero, List.nil_append, List.append_nil, List.length_nil, Nat.reduceAdd, Nat.reduceSub, Nat.reduceEqDiff, Nat.reduceLeDiff, List.replicate_succ, List.replicate_zero, Bool.and_self, Nat.reduceBNe]
  by_cases c18 : c = 18
  · subst c18
    have eR : itR 18 b = rM b 2 0 5 (rM b 1 0 5 (rN b 1 (rN b 8 (0, 0)))) := rfl
    have eV : itV 18 b = { sayZ with file := rV b 8 (0, 0), level := rV b 1 (rN b 8 (0, 0)) } := rfl
    rw [eR] at eE
    rw [eV] at eA1
    clear eR eV
    simp only [if_true, if_false, eq_self, Bool.false_eq_true, Int.reduceBEq, beq_self_eq_true]
    refine inC_ops TO 100 (in_inC (n := 22) (k := 8) (r := (0, 0)) (tail := []) rfl hb2 hB (Nat.zero_le _) rfl) Tryd.func43 (by decide +kernel) rfl rfl rfl ⟨⟨rfl, rfl, by simp only [evO, constSV, gdP, gdPs, List.getD, List.getElem?_cons_zero, List.getElem?_cons_succ, Option.getD_some, and_self]⟩, ?_⟩
    have h1 := rN_le (b := b) (k := 8) (r := (0, 0)) (Nat.zero_le _)
    simp only [rdC, pureOpC, unc, absRun, absOps, absOp, evO, ungd, gdP, gdPs, setD, T_ty, T_size, tTy, tSize, fieldOf, faddrV, pureOp, memOp, scal, setC, blkAt, fnd, upd, Op.operands, List.getD, List.getElem?_cons_zero, List.getElem?_cons_succ, Option.getD_some, List.set, List.toList_toArray, Option.map_some, Option.map_none, true_and, and_self, if_true, if_false, eq_self, ne_eq, not_false_eq_true, reduceCtorEq, Nat.zero_add, Nat.reduceAdd, Nat.reduceSub, Nat.reduceEqDiff, Nat.reduceLT, Nat.succ_ne_self]
    generalize rN b 8 (0, 0) = r1 at *
    refine inC_ops TO 100 (in_inC (n := 22) (k := 1) (r := r1) (tail := []) rfl hb2 hB h1 rfl) Tryd.func43 (by decide +kernel) rfl rfl rfl ⟨⟨rfl, rfl, by simp only [evO, constSV, gdP, gdPs, List.getD, List.getElem?_cons_zero, List.getElem?_cons_succ, Option.getD_some, and_self]⟩, ?_⟩
    have h2 := rN_le (b := b) (k := 1) (r := r1) h1
    have v2 := rV_lt b 1 r1 hB
    have w2 : IntKind.u8.wrap (rV b 1 r1) = rV b 1 r1 := by rw [IntKind.wrap_u8]; omega
    simp only [rdC, w2, pureOpC, unc, absRun, absOps, absOp, evO, ungd, gdP, gdPs, setD, convV, T_ty, T_size, tTy, tSize, fieldOf, faddrV, pureOp, memOp, scal, known, setC, blkAt, fnd, upd, Op.operands, List.getD, List.getElem?_cons_zero, List.getElem?_cons_succ, Option.getD_some, List.set, List.toList_toArray, Option.map_some, Option.map_none, true_and, and_self, if_true, if_false, eq_self, ne_eq, not_false_eq_true, reduceCtorEq, Nat.zero_add, Nat.reduceAdd, Nat.reduceSub, Nat.reduceEqDiff, Nat.reduceLT, Nat.succ_ne_self]
    generalize rN b 1 r1 = r2 at *
    refine inC_ops TO 100 (iz_inC (n := 22) (k := 1) (r := r2) (tail := []) rfl hb2 hB h2 rfl) Tryd.func44 (by decide +kernel) rfl rfl rfl ⟨⟨rfl, rfl, by simp only [evO, constSV, gdP, gdPs, List.getD, List.getElem?_cons_zero, List.getElem?_cons_succ, Option.getD_some, and_self]⟩, ?_⟩
    have h3 := rM_le (b := b) (k := 1) (m := 0) (e := 5) (r := r2) h2
    simp only [rdC, pureOpC, absRun, absOps, absOp, evO, ungd, gdP, gdPs, setD, pureOp, memOp, upd, Op.operands, List.getD, List.getElem?_cons_zero, List.getElem?_cons_succ, Option.getD_some, List.set, List.toList_toArray, true_and, and_self, if_true, if_false, eq_self, Nat.reduceAdd, Nat.reduceEqDiff]
    generalize rM b 1 0 5 r2 = r3 at *
    refine inC_ops TO 100 (iz_inC (n := 22) (k := 2) (r := r3) (tail := []) rfl hb2 hB h3 rfl) Tryd.func44 (by decide +kernel) rfl rfl rfl ⟨⟨rfl, rfl, by simp only [evO, constSV, gdP, gdPs, List.getD, List.getElem?_cons_zero, List.getElem?_cons_succ, Option.getD_some, and_self]⟩, ?_⟩
    have h4 := rM_le (b := b) (k := 2) (m := 0) (e := 5) (r := r3) h3
    simp only [rdC, pureOpC, absRun, absOps, absOp, evO, ungd, gdP, gdPs, setD, pureOp, memOp, upd, Op.operands, List.getD, List.getElem?_cons_zero, List.getElem?_cons_succ, Option.getD_some, List.set, List.toList_toArray, true_and, and_self, if_true, if_false, eq_self, Nat.reduceAdd, Nat.reduceEqDiff]
    generalize rM b 2 0 5 r3 = r4 at *
    refine inC_ops TO 100 (ie_inC (n := 22)  (r := r4) (tail := []) rfl hb2 hB h4) Tryd.func47 (by decide +kernel) rfl rfl rfl ⟨⟨rfl, rfl, by simp only [evO, gdP, gdPs, List.getD, List.getElem?_cons_zero, List.getElem?_cons_succ, Option.getD_some, and_self]⟩, ?_⟩
    rw [← eE]
    by_cases hE : itE 18 b = 0
    · have z := rEnd_zero (eE.symm.trans hE)
      rw [eA1 hE]
      simp only [hE, rdC, Say.svD, sayZ, pureOpC, buildV, fillC, cntC, unc, absRun, absOps, absOp, evO, constSV, ungd, gdP, gdPs, setD, binI, binV, ptrE, T_ty, T_size, T_zero, tTy, tSize, tZero, pureOp, memOp, loadV, scal, okC, takeC, dropC, blkAt, fnd, upd, Data.len, retP, resV, retQ, rAs, rA, rA0, rAl, ownN, nodup, bares, bare, bare0, bareL, bareD, Op.operands, List.getD, List.getElem?_cons_zero, List.getElem?_cons_succ, Option.getD_some, List.set, List.map, List.all, List.toList_toArray, Option.bind_some, Option.map_some, true_and, and_true, and_self, if_true, if_false, eq_self, ne_eq, not_false_eq_true, reduceCtorEq, Bool.false_eq_true, Nat.zero_add, Nat.add_zero, Int.reduceBNe, List.nil_append, List.append_nil, List.length_nil, Nat.reduceAdd, Nat.reduceSub, Nat.reduceEqDiff, Nat.reduceLeDiff, List.replicate_succ, List.replicate_zero, Bool.and_self, Nat.reduceBNe]
    · have hE' : (itE 18 b != 0) = true := by simpa using hE
      rw [eA0 hE]
      simp only [hE', rdC, Say.svD, sayZ, pureOpC, buildV, fillC, cntC, unc, absRun, absOps, absOp, evO, constSV, ungd, gdP, gdPs, setD, binI, binV, ptrE, T_ty, T_size, T_zero, tTy, tSize, tZero, pureOp, memOp, loadV, scal, okC, takeC, dropC, blkAt, fnd, upd, Data.len, retP, resV, retQ, rAs, rA, rA0, rAl, ownN, nodup, bares, bare, bare0, bareL, bareD, Op.operands, List.getD, List.getElem?_cons_zero, List.getElem?_cons_succ, Option.getD_some, List.set, List.map, List.all, List.toList_toArray, Option.bind_some, Option.map_some, true_and, and_true, and_self, if_true, if_false, eq_self, ne_eq, not_false_eq_true, reduceCtorEq, Nat.zero_add, Nat.add_zero, List.nil_append, List.append_nil, List.length_nil, Nat.reduceAdd, Nat.reduceSub, Nat.reduceEqDiff, Nat.reduceLeDiff, List.replicate_succ, List.replicate_zero, Bool.and_self, Nat.reduceBNe]
  have eR : itR c b = rM b 4 0 5 (0, 0) := by unfold itR; rw [if_neg c14, if_neg c16, if_neg c18]
  have eV : itV c b = sayZ := by unfold itV; rw [if_neg c14, if_neg c16, if_neg c18]
  have d14 : (c == 14) = false := by simpa using c14
  have d16 : (c == 16) = false := by simpa using c16
  have d18 : (c == 18) = false := by simpa using c18
  rw [eR] at eE
  rw [eV] at eA1
  clear eR eV
  simp only [d14, d16, d18, if_false, Bool.false_eq_true]
  refine inC_ops TO 100 (iz_inC (n := 22) (k := 4) (r := (0, 0)) (tail := []) rfl hb2 hB (Nat.zero_le _) rfl) Tryd.func44 (by decide +kernel) rfl rfl rfl ⟨⟨rfl, rfl, by simp only [evO, constSV, gdP, gdPs, List.getD, List.getElem?_cons_zero, List.getElem?_cons_succ, Option.getD_some, and_self]⟩, ?_⟩
  have h1 := rM_le (b := b) (k := 4) (m := 0) (e := 5) (r := (0, 0)) (Nat.zero_le _)
  simp only [rdC, pureOpC, absRun, absOps, absOp, evO, ungd, gdP, gdPs, setD, pureOp, memOp, upd, Op.operands, List.getD, List.getElem?_cons_zero, List.getElem?_cons_succ, Option.getD_some, List.set, List.toList_toArray, true_and, and_self, if_true, if_false, eq_self, Nat.reduceAdd, Nat.reduceEqDiff]
  generalize rM b 4 0 5 (0, 0) = r1 at *
  refine inC_ops TO 100 (ie_inC (n := 22)  (r := r1) (tail := []) rfl hb2 hB h1) Tryd.func47 (by decide +kernel) rfl rfl rfl ⟨⟨rfl, rfl, by simp only [evO, gdP, gdPs, List.getD, List.getElem?_cons_zero, List.getElem?_cons_succ, Option.getD_some, and_self]⟩, ?_⟩
  rw [← eE]
  by_cases hE : itE c b = 0
  · have z := rEnd_zero (eE.symm.trans hE)
    rw [eA1 hE]
    simp only [hE, rdC, Say.svD, sayZ, pureOpC, buildV, fillC, cntC, unc, absRun, absOps, absOp, evO, constSV, ungd, gdP, gdPs, setD, binI, binV, ptrE, T_ty, T_size, T_zero, tTy, tSize, tZero, pureOp, memOp, loadV, scal, okC, takeC, dropC, blkAt, fnd, upd, Data.len, retP, resV, retQ, rAs, rA, rA0, rAl, ownN, nodup, bares, bare, bare0, bareL, bareD, Op.operands, List.getD, List.getElem?_cons_zero, List.getElem?_cons_succ, Option.getD_some, List.set, List.map, List.all, List.toList_toArray, Option.bind_some, Option.map_some, and_self, if_true, if_false, ite_self, eq_self, ne_eq, not_false_eq_true, reduceCtorEq, Bool.false_eq_true, Nat.zero_add, Nat.add_zero, Int.reduceBNe, List.nil_append, List.append_nil, List.length_nil, Nat.reduceAdd, Nat.reduceSub, Nat.reduceEqDiff, Nat.reduceLeDiff, List.replicate_succ, List.replicate_zero, Bool.and_self, Nat.reduceBNe]
  · have hE' : (itE c b != 0) = true := by simpa using hE
    rw [eA0 hE]
    simp only [hE', rdC, Say.svD, sayZ, pureOpC, buildV, fillC, cntC, unc, absRun, absOps, absOp, evO, constSV, ungd, gdP, gdPs, setD, binI, binV, ptrE, T_ty, T_size, T_zero, tTy, tSize, tZero, pureOp, memOp, loadV, scal, okC, takeC, dropC, blkAt, fnd, upd, Data.len, retP, resV, retQ, rAs, rA, rA0, rAl, ownN, nodup, bares, bare, bare0, bareL, bareD, Op.operands, List.getD, List.getElem?_cons_zero, List.getElem?_cons_succ, Option.getD_some, List.set, List.map, List.all, List.toList_toArray, Option.bind_some, Option.map_some, true_and, and_true, and_self, if_true, if_false, eq_self, ne_eq, not_false_eq_true, reduceCtorEq, Nat.zero_add, Nat.add_zero, List.nil_append, List.append_nil, List.length_nil, Nat.reduceAdd, Nat.reduceSub, Nat.reduceEqDiff, Nat.reduceLeDiff, List.replicate_succ, List.replicate_zero, Bool.and_self, Nat.reduceBNe]

end Go.Proofs.YtgipkhjpedpedaaDoor.Abs
