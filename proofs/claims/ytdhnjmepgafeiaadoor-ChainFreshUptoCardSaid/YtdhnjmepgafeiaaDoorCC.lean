/- What chain.parts answers: each part an own slice under a name of its own. -/
import Derived.Test.YtdhnjmepgafeiaaDoorC6
import Derived.Test.YtdhnjmepgafeiaaDoorCE
set_option linter.unusedVariables false
set_option linter.unusedSimpArgs false
set_option maxRecDepth 100000
namespace Go.Proofs.YtdhnjmepgafeiaaDoor.Abs
open Go Go.Proofs

/-- The parts, or an error. -/
def partsQ (K : Nat) (l : List (List Int)) (x : SV) (b' : List (Nat × Nat × Blk)) (c1 : Nat) : Prop :=
  (partsE l = 0 ∧ ∃ g q k, q.map Prod.snd = partsF l ∧ x = .tup [.sl K g 0 1 0 q.length, .int .i64 0] ∧ b' = (K, g, .cells (rowsS 0 q ++ List.replicate k .any)) :: (rowsB 0 q ++ [])) ∨
  (partsE l ≠ 0 ∧ x = .tup [.nil, .int .i64 (partsE l)] ∧ b' = [])

theorem partsQ_err {T : Tab} {rv : Array ResultVar} {K : Nat} {l : List (List Int)} {s : St} {e : Int} (h : partsE l = e) (he : e ≠ 0) (hr : retC T rv (.tup [.nil, .int .i64 e]) [] (s.c.c + 1) s) : endQ T rv (partsQ K l) s :=
  ⟨_, _, _, .inr ⟨by rw [h]; exact he, rfl, rfl⟩, by rw [h]; exact hr⟩

set_option maxHeartbeats 16000000 in
theorem parts_inCE {X : Ctx} {c0 : Nat} (l : List (List Int)) (hl : l.length ≤ 1048576) (hr : ∀ b ∈ l, b.length ≤ 1048576 ∧ Bytes b) : InCE Tryd.prog X 22 [.view false (.rows false l)] [] c0 (partsQ 5071 l) := by
  refine inCE_go TO 5000 Tryd.func22 rfl (absRun_ok TO 100 _ _ ?_)
  simp only [Tryd.ntmps22, Tryd.results22, pureOpC, unc, absRun, absOps, absOp, evO, constSV, ungd, gdP, gdPs, setD, T_ty, tTy, pureOp, lenV, Data.len, Op.operands, Call.operands, List.getD, List.getElem?_cons_zero, List.getElem?_cons_succ, Option.getD_some, List.set, List.toList_toArray, true_and, and_self, Nat.zero_add, List.append_toArray, List.cons_append, List.nil_append, List.length_cons, List.length_nil, Nat.reduceSub, List.replicate_succ, List.replicate_zero]
  have hget : ∀ i, i < l.length → (l[i]?.getD []).length ≤ 1048576 ∧ Bytes (l[i]?.getD []) := fun i h => by rw [List.getElem?_eq_getElem h]; exact hr _ (List.getElem_mem h)
  refine loop_up (fun x : Nat × Nat => x.1 ≤ l.length ∧ ∀ j, j < x.1 → goodB (l[j]?.getD []) = true) (fun x => ⟨tl 74 0 [(0, .view false (.rows false l)), (14, .view false (.rows false l)), (15, .int .i64 l.length), (16, .int .i64 x.1)], [], ⟨x.2, [], 5000⟩⟩) (fun x => l.length - x.1) (0, _) ⟨Nat.zero_le _, by simp⟩ ⟨rfl, ?_, ?_⟩ ?_
  · simp [LeT, tl]
  · intro m x hx; simp [fnd] at hx
  rintro ⟨i, c⟩ ⟨hi, hgd⟩ ih
  simp only at hi hgd
  refine absRun_ok TO 100 _ _ ?_
  simp only [pureOpC, unc, absRun, absOps, absOp, evO, constSV, ungd, gdP, gdPs, setD, binI, binV, ptrE, T_ty, T_size, tTy, tSize, iaddrV, pureOp, memOp, lenV, loadV, elemV, Data.len, Data.esz, Op.operands, Call.operands, List.getD, List.getElem?_cons_zero, List.getElem?_cons_succ, Option.getD_some, List.set, List.toList_toArray, exitTo, true_and, and_self, if_true, eq_self, ne_eq, not_false_eq_true, Nat.zero_add, Int.toNat_natCast, List.append_toArray, List.cons_append, List.nil_append, Nat.reduceAdd, Nat.reduceSub, Nat.reduceLT, Nat.succ_ne_self, beq_self_eq_true, List.replicate_succ, List.replicate_zero, tl, gt_iff_lt]
  split
  · rename_i hc
    have hil : i < l.length := by have := of_decide_eq_true hc; omega
    obtain ⟨q1, q2⟩ := hget i hil
    have hG := hGet07_meets (l[i]?.getD []) 0 (by omega) q2 (by decide)
    simp only [Hd.sv] at hG
    refine ⟨by omega, ?_⟩
    refine call_go TO 100 hG Tryd.func27 (by decide +kernel) rfl rfl rfl ?_
    simp only [pureOpC, cntC, unc, absRun, absOps, absOp, evO, constSV, ungd, gdP, gdPs, setD, binI, binV, ptrE, T_ty, T_size, T_zero, tTy, tSize, tZero, fieldOf, faddrV, extractV, pickV, pureOp, guardOf, memOp, loadV, newV, notIn, scal, okC, cellAt, takeC, dropC, blkAt, fnd, upd, Lim.add, ownN, nodup, bares, bare, bare0, bareL, guardIs, callP, callS, argS, mAs, mA, mA0, mB0, lowD, allNotIn, impN, impB, impT, packS, delL, Op.operands, List.getD, List.getElem?_cons_zero, List.getElem?_cons_succ, Option.getD_some, List.set, List.map, List.toList_toArray, List.getElem?_toArray, Option.bind_some, true_and, and_self, implies_true, imp_self, if_true, if_false, eq_self, ne_eq, not_false_eq_true, reduceCtorEq, Nat.zero_add, Nat.add_zero, Nat.le_refl, Bool.cond_true_left, List.nil_append, List.append_nil, Nat.reduceAdd, Nat.reduceSub, Nat.reduceLT, Nat.succ_ne_self, List.replicate_succ, List.replicate_zero, Bool.and_self]
    have hgb : (gotE (l[i]?.getD []) 0 != 0 || (gotH (l[i]?.getD []) 0).next != 0) = !goodB (l[i]?.getD []) := by
      unfold goodB; simp [bne]
    rw [hgb]
    cases hg : goodB (l[i]?.getD []) with
    | false =>
      obtain ⟨e1, e2⟩ := partsE_bad hil hg
      rw [if_pos (by decide)]
      refine partsQ_err e1 (by decide) ?_
      simp only [retC, rI, resV, flat1, List.getD, List.getElem?_cons_zero, List.getElem?_cons_succ, Option.getD_some, List.map, and_true, and_self, eq_self, Bool.not_false]
      exact ⟨subB0, by omega⟩
    | true =>
      simp only [Bool.not_true, Bool.false_eq_true, if_false]
      rw [w64 (by omega) (by omega)]
      refine ih (i + 1, _) _ ⟨hil, fun j hj => ?_⟩ (by simp only; omega) rfl ?_ ?_
      · rcases Nat.lt_succ_iff_lt_or_eq.1 hj with h | h
        · exact hgd j h
        · rw [h]; exact hg
      · simp [LeT, tl]
      · intro n x hx; simp [fnd] at hx
  rename_i hc
  have hil : i = l.length := by
    have : ¬ ((i : Int) < l.length) := fun h => hc (decide_eq_true h)
    omega
  subst hil
  have hall : l.all goodB = true := by
    rw [List.all_eq_true]
    intro x hx
    obtain ⟨j, hj, rfl⟩ := List.getElem_of_mem hx
    have := hgd j hj
    rw [List.getElem?_eq_getElem hj] at this
    exact this
  have eE : partsE l = if l = [] then 2 else if 8 < l.length then 3 else 0 := by unfold partsE; rw [if_neg (by rw [hall]; simp)]
  by_cases c1 : l = []
  · rw [if_pos c1] at eE
    rw [if_pos (by simp [c1])]
    refine partsQ_err eE (by decide) ?_
    simp only [retC, rI, resV, flat1, List.getD, List.getElem?_cons_zero, List.getElem?_cons_succ, Option.getD_some, List.map, and_true, and_self, eq_self]
    exact ⟨subB0, by omega⟩
  rw [if_neg c1] at eE
  have hpos : 0 < l.length := List.length_pos_iff.2 c1
  rw [if_neg (by simp; omega)]
  by_cases c2 : 8 < l.length
  · rw [if_pos c2] at eE
    rw [if_pos (decide_eq_true (by omega))]
    refine partsQ_err eE (by decide) ?_
    simp only [retC, rI, resV, flat1, List.getD, List.getElem?_cons_zero, List.getElem?_cons_succ, Option.getD_some, List.map, and_true, and_self, eq_self]
    exact ⟨subB0, by omega⟩
  rw [if_neg c2] at eE
  rw [if_neg (by simp; omega)]
  clear ih
  refine loop_up (fun x : List (Nat × List Int) × Nat × Nat × Nat => x.1.map Prod.snd = (partsF l).take x.1.length ∧ x.1.length ≤ l.length)
    (fun x => ⟨tl 74 0 [(0, .view false (.rows false l)), (8, outS 5071 x.2.1 x.1), (41, .view false (.rows false l)), (42, .int .i64 l.length), (43, .int .i64 x.1.length)], outB 5071 x.2.1 x.2.2.1 x.1, ⟨x.2.2.2, [], 5000⟩⟩) (fun x => l.length - x.1.length) ([], 0, 0, _) ⟨rfl, Nat.zero_le _⟩ ⟨rfl, ?_, ?_⟩ ?_
  · simp [LeT, tl, outS]
  · intro m x hx; simp [outB, fnd] at hx
  rintro ⟨q, g, k, c⟩ ⟨hq, hql⟩ ih
  simp only at hq hql
  have fin := fun (g2 k2 : Nat) (p : List Int) (gp : Nat) (s' : St) (h1 : q.length < l.length) (h2 : p = (if q.length + 1 < l.length then partL (l[q.length]?.getD []) else l[q.length]?.getD [])) (h3 : s'.c = ⟨c + 54, [], 5000⟩)
      (h4 : LeT s'.t (tl 74 0 [(0, .view false (.rows false l)), (8, .sl 5071 g2 0 1 0 (q.length + 1)), (41, .view false (.rows false l)), (42, .int .i64 l.length), (43, .int .i64 (q.length + 1 : Nat))]))
      (h5 : ∀ n x, fnd ((5071, g2, .cells (rowsS 0 (q ++ [(gp, p)]) ++ List.replicate k2 .any)) :: (rowsB 0 (q ++ [(gp, p)]) ++ [])) n = some x → fnd s'.b n = some x) =>
    ih (q ++ [(gp, p)], g2, k2, c + 55) s' ⟨by
      rw [List.map_append, List.length_append, hq]
      simp only [List.map_cons, List.map_nil, List.length_cons, List.length_nil, Nat.zero_add]
      rw [take_parts l q.length h1, h2], by simp; omega⟩ (by simp; omega) (by rw [h3]) (by simp only [outS_snoc, List.length_append, List.length_cons, List.length_nil, Nat.zero_add]; exact h4) (by simp only [outB_snoc]; exact h5)
  clear ih
  rcases q with _ | ⟨x0, q0⟩
  · skip
    simp only [outS, outB, List.length_nil] at *
    refine absRun_ok TO 100 _ _ ?_
    simp only [pureOpC, unc, absRun, absOps, absOp, evO, constSV, ungd, gdP, gdPs, setD, binI, binV, ptrE, T_ty, T_size, tTy, tSize, iaddrV, pureOp, memOp, loadV, elemV, Data.len, Data.esz, Op.operands, List.getD, List.getElem?_cons_zero, List.getElem?_cons_succ, Option.getD_some, List.set, List.toList_toArray, exitTo, true_and, and_self, if_true, eq_self, ne_eq, not_false_eq_true, Nat.zero_add, Int.cast_ofNat_Int, Int.le_refl, Int.toNat_zero, List.cons_append, List.nil_append, Nat.reduceAdd, Nat.reduceSub, Nat.reduceLT, Nat.succ_ne_self, beq_self_eq_true, List.replicate_succ, List.replicate_zero, tl]
    split
    · rename_i hc
      have hil : 0 < l.length := by exact hpos
      obtain ⟨q1, q2⟩ := hget 0 hil
      have hg := hgd 0 hil
      have h64 := got_len (last_got _ hg).1
      have hC := clone_meets (l[0]?.getD []) (by omega)
      have hP := Pad_meets (l[0]?.getD []) (by omega)
      have hpd := padL_length (l[0]?.getD [])
      obtain ⟨p1, p2, p3⟩ := padN_le (l[0]?.getD []).length
      have hQ := Put_meets ((padL (l[0]?.getD [])).length : Nat) (4 : Nat) (by omega) (by omega)
      rw [putL_0 (by decide) (by omega), putE_0 (by decide) (by omega)] at hQ
      simp only [Int.cast_ofNat_Int] at hQ
      have wp : IntKind.u64.wrap ((padL (l[0]?.getD [])).length : Int) = (padL (l[0]?.getD [])).length := wu64 (by omega) (by omega)
      have w1 : IntKind.i64.wrap ((l.length : Int) - 1) = l.length - 1 := w64 (by omega) (by omega)
      have hov := over_setN (padL (l[0]?.getD [])) (by omega)
      refine ⟨by omega, ?_⟩
      refine call_go TO 5 hC Tryd.func32 (by decide +kernel) rfl rfl rfl ?_
      simp only [w1, pureOpC, unc, absRun, absOps, absOp, evO, constSV, ungd, gdP, gdPs, setD, binI, binV, ptrE, T_ty, tTy, pureOp, lenV, notIn, upd, Data.len, Data.esz, ownN, nodup, bares, bare, bareD, guardIs, callP, callS, argS, mAs, mA, mA0, mB0, lowD, allNotIn, nm, impN, impB, impT, packS, delL, Op.operands, Call.operands, List.getD, List.getElem?_cons_zero, List.getElem?_cons_succ, Option.getD_some, List.set, List.map, List.toList_toArray, true_and, and_self, eq_self, Nat.add_zero, List.append_toArray, List.nil_append, List.append_nil, Nat.reduceAdd, Nat.reduceMul, Bool.and_self]
      by_cases cl : 0 + 1 < l.length
      · rw [if_pos (decide_eq_true (by omega))]
        refine absRun_ok TO 100 _ _ ?_
        simp only [pureOpC, absRun, absOps, absOp, evO, ungd, gdP, gdPs, setD, pureOp, memOp, Op.operands, List.getD, List.getElem?_cons_zero, List.getElem?_cons_succ, Option.getD_some, List.set, List.toList_toArray, true_and, and_self]
        refine call_go TO 100 hP Tryd.func33 (by decide +kernel) rfl rfl rfl ?_
        simp only [wp, pureOpC, unc, absRun, absOps, absOp, evO, ungd, gdP, gdPs, setD, convV, T_ty, tTy, pureOp, memOp, lenV, notIn, known, blkAt, fnd, upd, Data.len, Data.esz, ownN, nodup, bares, bare, bareD, guardIs, callP, callS, argS, mAs, mA, mA0, mB0, lowD, allNotIn, nm, impN, impB, impT, packS, delL, Op.operands, Call.operands, List.getD, List.getElem?_cons_zero, List.getElem?_cons_succ, Option.getD_some, List.set, List.map, List.toList_toArray, true_and, and_self, if_true, if_false, eq_self, Nat.add_zero, List.append_toArray, List.nil_append, List.append_nil, Nat.reduceAdd, Nat.reduceMul, Nat.reduceEqDiff, Bool.and_self]
        refine call_go TO 1 hQ Tryd.func34 (by decide +kernel) rfl rfl rfl ?_
        have hsb : (((padL (l[0]?.getD [])).length : Int) - 20).toNat = (padL (l[0]?.getD [])).length - 20 := by omega
        have hsl := setN_length (padL (l[0]?.getD [])) (by omega)
        simp only [hsb, hov, List.drop_zero, pureOpC, unc, absRun, absOps, absOp, evO, constSV, ungd, gdP, gdPs, setD, T_ty, T_size, tTy, tSize, extractV, lowI, highI, maxP, sliceV, pureOp, memOp, notIn, dataOf, blkAt, fnd, upd, Data.len, Data.esz, Data.sub, ownN, nodup, bares, bare, bare0, bareD, guardIs, callP, callS, argS, mAs, mA, mA0, mB0, allNotIn, nm, impN, impB, impT, packS, delL, Op.operands, Call.operands, List.getD, List.getElem?_cons_zero, List.getElem?_cons_succ, Option.getD_some, List.set, List.map, List.toList_toArray, Option.map_some, Option.map_none, true_and, and_true, and_self, if_true, if_false, eq_self, ne_eq, not_false_eq_true, List.take_length, Nat.zero_add, Nat.add_zero, Int.reduceToNat, Nat.le_refl, Int.le_refl, Option.toArray_some, Option.toArray_none, List.append_toArray, List.cons_append, List.nil_append, List.append_nil, Nat.reduceAdd, Nat.reduceMul, Nat.reduceEqDiff, Nat.succ_ne_self, Bool.and_self, Int.reduceLE]
        refine ⟨by omega, by omega, ?_⟩
        obtain ⟨pr, hpr⟩ : ∃ pr, pr = setN (padL (l[0]?.getD [])) := ⟨_, rfl⟩
        have hln : (padL (l[0]?.getD [])).length = pr.length := by rw [hpr]; exact hsl.symm
        rw [hln, ← hpr]
        have hpp : pr = (if 0 + 1 < l.length then partL (l[0]?.getD []) else l[0]?.getD []) := by rw [hpr]; rw [if_pos cl]; rfl
        refine HRun.dropB (b := [(90896, c + 1 + 1 + 1 + 1 + 1, .vec (.ints .u8 pr))]) (subBc rfl subB0) ?_
        refine lift_go (c + 50) (by simp only; omega) ?_
        refine ren_go 11 90896 1000000 ⟨by simp, rfl, rfl⟩ (absRun_ok TO 100 _ _ ?_)
        simp only [mv, pureOpC, unc, absRun, absOps, absOp, evO, ungd, gdP, gdPs, setD, T_ty, T_size, tTy, tSize, pureOp, memOp, newV, notIn, dataOf, isSrc, scal, elemsOf, rowsOf, rowOf, arrAt, blkAt, fnd, upd, del, mv, Lim.add, Op.operands, List.getD, List.getElem?_cons_zero, List.getElem?_cons_succ, Option.getD_some, List.set, List.map, List.all, List.toList_toArray, Option.map_some, Option.isSome, true_and, and_self, if_true, if_false, ite_self, eq_self, Nat.zero_add, List.length_cons, List.length_nil, Nat.reduceAdd, Nat.reduceEqDiff, Nat.reduceLeDiff, Bool.and_self]
        refine appendN_ops TO rfl rfl rfl rfl rfl rfl rfl rfl (by decide) rfl rfl (by simp) (fun k2 => HOps_go TO 100 ?_)
        have i1 : IntKind.i64.wrap 1 = 1 := by decide
        simp only [i1, pureOpC, unc, absRun, absOps, absOp, evO, constSV, ungd, gdP, gdPs, setD, binI, binV, ptrE, pureOp, upd, Lim.add, Op.operands, List.getD, List.getElem?_cons_zero, List.getElem?_cons_succ, Option.getD_some, List.set, List.toList_toArray, true_and, and_self, if_false, eq_self, Int.zero_add, Nat.reduceAdd, Nat.reduceEqDiff, Nat.succ_ne_self]
        refine fin (c + 53) k2 pr (c + 51) _ hil hpp rfl ?_ ?_
        · simp [LeT, tl]
        · intro n x hx
          simp only [rowsS, rowsB, List.nil_append, List.cons_append, fnd] at hx ⊢
          split at hx
          · rename_i e; subst e; simpa using hx
          split at hx
          · rename_i e; subst e; simpa using hx
          cases hx
      · rw [if_neg (by simp; omega)]
        obtain ⟨pr, hpr⟩ : ∃ pr, pr = l[0]?.getD [] := ⟨_, rfl⟩
        have hln : (l[0]?.getD []).length = pr.length := by rw [hpr]
        rw [hln, ← hpr]
        have hpp : pr = (if 0 + 1 < l.length then partL (l[0]?.getD []) else l[0]?.getD []) := by rw [hpr]; rw [if_neg cl]
        refine HRun.dropB (b := [(90784, c + 1 + 1 + 1, .vec (.ints .u8 pr))]) (subBc rfl subB0) ?_
        refine lift_go (c + 50) (by simp only; omega) ?_
        refine ren_go 11 90784 1000000 ⟨by simp, rfl, rfl⟩ (absRun_ok TO 100 _ _ ?_)
        simp only [mv, pureOpC, unc, absRun, absOps, absOp, evO, ungd, gdP, gdPs, setD, T_ty, T_size, tTy, tSize, pureOp, memOp, newV, notIn, dataOf, isSrc, scal, elemsOf, rowsOf, rowOf, arrAt, blkAt, fnd, upd, del, mv, Lim.add, Op.operands, List.getD, List.getElem?_cons_zero, List.getElem?_cons_succ, Option.getD_some, List.set, List.map, List.all, List.toList_toArray, Option.map_some, Option.isSome, true_and, and_self, if_true, if_false, ite_self, eq_self, Nat.zero_add, List.length_cons, List.length_nil, Nat.reduceAdd, Nat.reduceEqDiff, Nat.reduceLeDiff, Bool.and_self]
        refine appendN_ops TO rfl rfl rfl rfl rfl rfl rfl rfl (by decide) rfl rfl (by simp) (fun k2 => HOps_go TO 100 ?_)
        have i1 : IntKind.i64.wrap 1 = 1 := by decide
        simp only [i1, pureOpC, unc, absRun, absOps, absOp, evO, constSV, ungd, gdP, gdPs, setD, binI, binV, ptrE, pureOp, upd, Lim.add, Op.operands, List.getD, List.getElem?_cons_zero, List.getElem?_cons_succ, Option.getD_some, List.set, List.toList_toArray, true_and, and_self, if_false, eq_self, Int.zero_add, Nat.reduceAdd, Nat.reduceEqDiff, Nat.succ_ne_self]
        refine fin (c + 53) k2 pr (c + 51) _ hil hpp rfl ?_ ?_
        · simp [LeT, tl]
        · intro n x hx
          simp only [rowsS, rowsB, List.nil_append, List.cons_append, fnd] at hx ⊢
          split at hx
          · rename_i e; subst e; simpa using hx
          split at hx
          · rename_i e; subst e; simpa using hx
          cases hx
    · rename_i hc
      exact absurd (decide_eq_true (by omega)) hc
  · skip
    simp only [outS, outB]
    have hne : (1000000 + (x0 :: q0).length = 5071) = False := eq_false (by omega)
    have hpos2 : 0 < (x0 :: q0).length := by simp
    generalize x0 :: q0 = q at *
    refine absRun_ok TO 100 _ _ ?_
    simp only [pureOpC, unc, absRun, absOps, absOp, evO, constSV, ungd, gdP, gdPs, setD, binI, binV, ptrE, T_ty, T_size, tTy, tSize, iaddrV, pureOp, memOp, loadV, elemV, Data.len, Data.esz, Op.operands, List.getD, List.getElem?_cons_zero, List.getElem?_cons_succ, Option.getD_some, List.set, List.toList_toArray, exitTo, true_and, and_self, if_true, eq_self, ne_eq, not_false_eq_true, Nat.zero_add, Int.toNat_natCast, List.cons_append, List.nil_append, List.append_nil, Nat.reduceAdd, Nat.reduceSub, Nat.reduceLT, Nat.succ_ne_self, beq_self_eq_true, List.replicate_succ, List.replicate_zero, tl]
    split
    · rename_i hc
      have hil : q.length < l.length := by have := of_decide_eq_true hc; omega
      obtain ⟨q1, q2⟩ := hget q.length hil
      have hg := hgd q.length hil
      have h64 := got_len (last_got _ hg).1
      have hC := clone_meets (l[q.length]?.getD []) (by omega)
      have hP := Pad_meets (l[q.length]?.getD []) (by omega)
      have hpd := padL_length (l[q.length]?.getD [])
      obtain ⟨p1, p2, p3⟩ := padN_le (l[q.length]?.getD []).length
      have hQ := Put_meets ((padL (l[q.length]?.getD [])).length : Nat) (4 : Nat) (by omega) (by omega)
      rw [putL_0 (by decide) (by omega), putE_0 (by decide) (by omega)] at hQ
      simp only [Int.cast_ofNat_Int] at hQ
      have wp : IntKind.u64.wrap ((padL (l[q.length]?.getD [])).length : Int) = (padL (l[q.length]?.getD [])).length := wu64 (by omega) (by omega)
      have w1 : IntKind.i64.wrap ((l.length : Int) - 1) = l.length - 1 := w64 (by omega) (by omega)
      have hov := over_setN (padL (l[q.length]?.getD [])) (by omega)
      refine ⟨by omega, ?_⟩
      refine call_go TO 5 hC Tryd.func32 (by decide +kernel) rfl rfl rfl ?_
      simp only [upd_rows0, w1, pureOpC, unc, absRun, absOps, absOp, evO, constSV, ungd, gdP, gdPs, setD, binI, binV, ptrE, T_ty, tTy, pureOp, lenV, notIn, upd, Data.len, Data.esz, ownN, nodup, bares, bare, bareD, guardIs, callP, callS, argS, mAs, mA, mA0, mB0, lowD, allNotIn, nm, impN, impB, impT, packS, delL, Op.operands, Call.operands, List.getD, List.getElem?_cons_zero, List.getElem?_cons_succ, Option.getD_some, List.set, List.map, List.toList_toArray, true_and, and_self, if_false, eq_self, Nat.add_zero, List.append_toArray, List.nil_append, List.append_nil, Nat.reduceAdd, Nat.reduceMul, Nat.reduceEqDiff, Nat.reduceLT, Bool.and_self]
      by_cases cl : q.length + 1 < l.length
      · rw [if_pos (decide_eq_true (by omega))]
        refine absRun_ok TO 100 _ _ ?_
        simp only [pureOpC, absRun, absOps, absOp, evO, ungd, gdP, gdPs, setD, pureOp, memOp, Op.operands, List.getD, List.getElem?_cons_zero, List.getElem?_cons_succ, Option.getD_some, List.set, List.toList_toArray, true_and, and_self]
        refine call_go TO 100 hP Tryd.func33 (by decide +kernel) rfl rfl rfl ?_
        simp only [fnd_rows, upd_rows, wp, pureOpC, unc, absRun, absOps, absOp, evO, ungd, gdP, gdPs, setD, convV, T_ty, tTy, pureOp, memOp, lenV, notIn, known, blkAt, fnd, upd, Data.len, Data.esz, ownN, nodup, bares, bare, bareD, guardIs, callP, callS, argS, mAs, mA, mA0, mB0, lowD, allNotIn, nm, impN, impB, impT, packS, delL, Op.operands, Call.operands, List.getD, List.getElem?_cons_zero, List.getElem?_cons_succ, Option.getD_some, List.set, List.map, List.toList_toArray, true_and, and_self, if_true, if_false, eq_self, Nat.add_zero, List.append_toArray, List.nil_append, List.append_nil, Nat.reduceAdd, Nat.reduceMul, Nat.reduceEqDiff, Nat.reduceLT, Bool.and_self]
        refine call_go TO 1 hQ Tryd.func34 (by decide +kernel) rfl rfl rfl ?_
        have hsb : (((padL (l[q.length]?.getD [])).length : Int) - 20).toNat = (padL (l[q.length]?.getD [])).length - 20 := by omega
        have hsl := setN_length (padL (l[q.length]?.getD [])) (by omega)
        simp only [fnd_rows, upd_rows, hsb, hov, List.drop_zero, pureOpC, unc, absRun, absOps, absOp, evO, constSV, ungd, gdP, gdPs, setD, T_ty, T_size, tTy, tSize, extractV, lowI, highI, maxP, sliceV, pureOp, memOp, notIn, dataOf, blkAt, fnd, upd, Data.len, Data.esz, Data.sub, ownN, nodup, bares, bare, bare0, bareD, guardIs, callP, callS, argS, mAs, mA, mA0, mB0, allNotIn, nm, impN, impB, impT, packS, delL, Op.operands, Call.operands, List.getD, List.getElem?_cons_zero, List.getElem?_cons_succ, Option.getD_some, List.set, List.map, List.toList_toArray, Option.map_some, Option.map_none, true_and, and_true, and_self, if_true, if_false, eq_self, ne_eq, not_false_eq_true, List.take_length, Nat.zero_add, Nat.add_zero, Int.reduceToNat, Nat.le_refl, Int.le_refl, Option.toArray_some, Option.toArray_none, List.append_toArray, List.cons_append, List.nil_append, List.append_nil, Nat.reduceAdd, Nat.reduceMul, Nat.reduceEqDiff, Nat.reduceLT, Nat.succ_ne_self, Bool.and_self, Int.reduceLE]
        refine ⟨by omega, by omega, ?_⟩
        obtain ⟨pr, hpr⟩ : ∃ pr, pr = setN (padL (l[q.length]?.getD [])) := ⟨_, rfl⟩
        have hln : (padL (l[q.length]?.getD [])).length = pr.length := by rw [hpr]; exact hsl.symm
        rw [hln, ← hpr]
        have hpp : pr = (if q.length + 1 < l.length then partL (l[q.length]?.getD []) else l[q.length]?.getD []) := by rw [hpr]; rw [if_pos cl]; rfl
        refine HRun.dropB (b := (5071, g, Blk.cells (rowsS 0 q ++ List.replicate k SV.any)) :: (rowsB 0 q ++ [(90896, c + 1 + 1 + 1 + 1 + 1, Blk.vec (Data.ints IntKind.u8 pr))])) (SubB_rows (subBc rfl subB0)) ?_
        refine lift_go (c + 50) (by simp only; omega) ?_
        refine ren_go 11 90896 (1000000 + q.length) (d := Data.ints IntKind.u8 pr) ⟨by simp, rfl, by simp only [fnd, fnd_rows, fnd, if_true, if_false, eq_self, Nat.reduceEqDiff, Nat.reduceLT]⟩ (absRun_ok TO 100 _ _ ?_)
        simp only [mv, upd_rows_last0, fnd_rows_last0, fnd_rows, del_rows, upd_rows0, hne, pureOpC, unc, absRun, absOps, absOp, evO, ungd, gdP, gdPs, setD, T_ty, T_size, tTy, tSize, pureOp, memOp, newV, notIn, dataOf, isSrc, scal, elemsOf, rowsOf, rowOf, arrAt, blkAt, fnd, upd, del, mv, Lim.add, Op.operands, List.getD, List.getElem?_cons_zero, List.getElem?_cons_succ, Option.getD_some, List.set, List.map, List.all, List.toList_toArray, Option.map_some, Option.isSome, true_and, and_self, if_true, if_false, ite_self, eq_self, Nat.zero_add, List.append_nil, List.length_cons, List.length_nil, Nat.reduceAdd, Nat.reduceEqDiff, Nat.reduceLeDiff, Nat.reduceLT, Bool.and_self]
        have hby : (q.length + 1) * 24 ≤ 140737488355328 := by omega
        refine appendR_ops TO (r := pr) (gr := c + 50 + 1) (xr := Blk.vec (Data.ints IntKind.u8 pr)) rfl rfl rfl rfl rfl rfl rfl rfl ⟨hby, by omega⟩ rfl (by simp only [fnd, fnd_rows, fnd, if_true, if_false, eq_self, Nat.reduceEqDiff, Nat.reduceLT]) (by simp only [fnd, fnd_rows_last, hne, fnd, if_false, eq_self]) (by simp) (fun k2 => HOps_go TO 100 ?_)
        have wq : IntKind.i64.wrap ((q.length : Int) + 1) = ((q.length + 1 : Nat) : Int) := by rw [w64 (by omega) (by omega)]; omega
        simp only [mv, wq, upd_rows, del_rows, pureOpC, unc, absRun, absOps, absOp, evO, constSV, ungd, gdP, gdPs, setD, binI, binV, ptrE, pureOp, upd, del, mv, Lim.add, Op.operands, List.getD, List.getElem?_cons_zero, List.getElem?_cons_succ, Option.getD_some, List.set, List.toList_toArray, true_and, and_self, if_true, if_false, eq_self, Nat.reduceAdd, Nat.reduceLT, Nat.succ_ne_self]
        refine fin (c + 53) k2 pr (c + 51) _ hil hpp rfl ?_ ?_
        · simp [LeT, tl]
        · intro n x hx
          simp only [fnd, List.append_nil] at hx
          split at hx
          · rename_i e; subst e
            show fnd (rowsB 0 _ ++ _) 5071 = _
            rw [fnd_rows (by decide)]; simpa [fnd] using hx
          · show fnd (rowsB 0 _ ++ _) n = _
            rw [fnd_app, hx]
      · rw [if_neg (by simp; omega)]
        obtain ⟨pr, hpr⟩ : ∃ pr, pr = l[q.length]?.getD [] := ⟨_, rfl⟩
        have hln : (l[q.length]?.getD []).length = pr.length := by rw [hpr]
        rw [hln, ← hpr]
        have hpp : pr = (if q.length + 1 < l.length then partL (l[q.length]?.getD []) else l[q.length]?.getD []) := by rw [hpr]; rw [if_neg cl]
        refine HRun.dropB (b := (5071, g, Blk.cells (rowsS 0 q ++ List.replicate k SV.any)) :: (rowsB 0 q ++ [(90784, c + 1 + 1 + 1, Blk.vec (Data.ints IntKind.u8 pr))])) (SubB_rows (subBc rfl subB0)) ?_
        refine lift_go (c + 50) (by simp only; omega) ?_
        refine ren_go 11 90784 (1000000 + q.length) (d := Data.ints IntKind.u8 pr) ⟨by simp, rfl, by simp only [fnd, fnd_rows, fnd, if_true, if_false, eq_self, Nat.reduceEqDiff, Nat.reduceLT]⟩ (absRun_ok TO 100 _ _ ?_)
        simp only [mv, upd_rows_last0, fnd_rows_last0, fnd_rows, del_rows, upd_rows0, hne, pureOpC, unc, absRun, absOps, absOp, evO, ungd, gdP, gdPs, setD, T_ty, T_size, tTy, tSize, pureOp, memOp, newV, notIn, dataOf, isSrc, scal, elemsOf, rowsOf, rowOf, arrAt, blkAt, fnd, upd, del, mv, Lim.add, Op.operands, List.getD, List.getElem?_cons_zero, List.getElem?_cons_succ, Option.getD_some, List.set, List.map, List.all, List.toList_toArray, Option.map_some, Option.isSome, true_and, and_self, if_true, if_false, ite_self, eq_self, Nat.zero_add, List.append_nil, List.length_cons, List.length_nil, Nat.reduceAdd, Nat.reduceEqDiff, Nat.reduceLeDiff, Nat.reduceLT, Bool.and_self]
        have hby : (q.length + 1) * 24 ≤ 140737488355328 := by omega
        refine appendR_ops TO (r := pr) (gr := c + 50 + 1) (xr := Blk.vec (Data.ints IntKind.u8 pr)) rfl rfl rfl rfl rfl rfl rfl rfl ⟨hby, by omega⟩ rfl (by simp only [fnd, fnd_rows, fnd, if_true, if_false, eq_self, Nat.reduceEqDiff, Nat.reduceLT]) (by simp only [fnd, fnd_rows_last, hne, fnd, if_false, eq_self]) (by simp) (fun k2 => HOps_go TO 100 ?_)
        have wq : IntKind.i64.wrap ((q.length : Int) + 1) = ((q.length + 1 : Nat) : Int) := by rw [w64 (by omega) (by omega)]; omega
        simp only [mv, wq, upd_rows, del_rows, pureOpC, unc, absRun, absOps, absOp, evO, constSV, ungd, gdP, gdPs, setD, binI, binV, ptrE, pureOp, upd, del, mv, Lim.add, Op.operands, List.getD, List.getElem?_cons_zero, List.getElem?_cons_succ, Option.getD_some, List.set, List.toList_toArray, true_and, and_self, if_true, if_false, eq_self, Nat.reduceAdd, Nat.reduceLT, Nat.succ_ne_self]
        refine fin (c + 53) k2 pr (c + 51) _ hil hpp rfl ?_ ?_
        · simp [LeT, tl]
        · intro n x hx
          simp only [fnd, List.append_nil] at hx
          split at hx
          · rename_i e; subst e
            show fnd (rowsB 0 _ ++ _) 5071 = _
            rw [fnd_rows (by decide)]; simpa [fnd] using hx
          · show fnd (rowsB 0 _ ++ _) n = _
            rw [fnd_app, hx]
    · rename_i hc
      refine ⟨_, _, c + 10, .inl ⟨eE, g, q, k, ?_, rfl, rfl⟩, ?_⟩
      · have : q.length = l.length := by
          have : ¬ ((q.length : Int) < l.length) := fun h => hc (decide_eq_true h)
          omega
        rw [hq, this, ← partsF_length l, List.take_length]
      · simp only [retC, rI, resV, flat1, List.getD, List.getElem?_cons_zero, List.getElem?_cons_succ, Option.getD_some, List.map, and_true, and_self, eq_self, List.append_nil]
        exact ⟨fun n x h => h, by omega⟩

end Go.Proofs.YtdhnjmepgafeiaaDoor.Abs
