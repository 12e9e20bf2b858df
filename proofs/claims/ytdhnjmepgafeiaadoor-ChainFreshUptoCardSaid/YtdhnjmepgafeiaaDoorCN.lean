/- What chain.Split answers: each part an own slice under a name of its own. -/
import Derived.Test.YtdhnjmepgafeiaaDoorC3
import Derived.Test.YtdhnjmepgafeiaaDoorCI
set_option linter.unusedVariables false
set_option linter.unusedSimpArgs false
set_option maxRecDepth 100000
namespace Go.Proofs.YtdhnjmepgafeiaaDoor.Abs
open Go Go.Proofs

/-- The parts of a chain, or an error. -/
def splitQ (K : Nat) (b : List Int) (x : SV) (b' : List (Nat × Nat × Blk)) (c1 : Nat) : Prop :=
  (splitE b = 0 ∧ ∃ g q k, q.map Prod.snd = splitL b ∧ x = .tup [.sl K g 0 1 0 q.length, .int .i64 0] ∧ b' = (K, g, .cells (rowsS 0 q ++ List.replicate k SV.any)) :: (rowsB 0 q ++ [])) ∨
  (splitE b ≠ 0 ∧ x = .tup [.nil, .int .i64 (splitE b)] ∧ b' = [])

theorem splitQ_err {T : Tab} {rv : Array ResultVar} {K : Nat} {b : List Int} {s : St} {e : Int} (h : splitE b = e) (he : e ≠ 0) (hr : retC T rv (.tup [.nil, .int .i64 e]) [] (s.c.c + 1) s) : endQ T rv (splitQ K b) s :=
  ⟨_, _, _, .inr ⟨by rw [h]; exact he, by rw [h], rfl⟩, hr⟩

theorem renC_ops {P : Program} {X : Ctx} {s : St} {ops : Array Oper} {rest : List Oper} {todo : List Item} {Φ : St → Prop} (m j n n' : Nat) {gm g len : Nat} {l : List SV} {d : Data} (hm : fnd s.b m = some (gm, .cells l)) (hl : l.all one1 = true) (hj : l[j]? = some (.sl n g 0 1 0 len)) (hn : fnd s.b n = some (g, .vec d)) (hmn : m ≠ n) (hmn' : m ≠ n') (hd : d.len ≠ 0)
    (h : HOps P X ops rest todo ⟨s.t, upd (mv s.b n n' (s.c.c + 1) (.vec d)) m gm (.cells (l.set j (.sl n' (s.c.c + 1) 0 1 0 len))), ⟨s.c.c + 1 + 1, [], s.c.o⟩⟩ Φ) : HOps P X ops rest todo s Φ := fun i hi => renC_go m j n n' hm hl hj hn hmn hmn' hd (h i hi)
theorem dropB_ops {P : Program} {X : Ctx} {s : St} {ops : Array Oper} {rest : List Oper} {todo : List Item} {Φ : St → Prop} (b : List (Nat × Nat × Blk)) (hl : ∀ n x, fnd b n = some x → fnd s.b n = some x) (h : HOps P X ops rest todo ⟨s.t, b, s.c⟩ Φ) : HOps P X ops rest todo s Φ := fun i hi => HRun.dropB hl (h i hi)

theorem sub_split {q : List (Nat × List Int)} {g M m6 m5 : Nat} {X Y V Z Z' : Blk} {R : List Int} : SubB ((5064, g, X) :: (rowsB 0 (q ++ [(M, R)]) ++ [(5006, m6, Y), (5063, m5, Z')])) (upd (mv ((5064, g, X) :: (rowsB 0 q ++ [(5006, m6, Y), (5062, m5, V), (5063, m5, Z)])) 5062 (1000000 + q.length) M (.vec (.ints .u8 R))) 5063 m5 Z') := by
  intro n x h
  rw [fnd_upd, fnd_mv]
  by_cases h1 : n = 5063
  · subst h1
    rw [if_pos rfl]
    simp only [fnd] at h
    rw [if_neg (by decide), fnd_rows (by decide)] at h
    exact h
  rw [if_neg h1]
  by_cases h2 : n = 1000000 + q.length
  · subst h2
    rw [if_pos rfl]
    simp only [fnd] at h
    rw [if_neg (by omega), fnd_rows_last] at h
    exact h
  rw [if_neg h2]
  simp only [fnd] at h
  by_cases h3 : n = 5064
  · subst h3
    rw [if_pos rfl] at h
    rw [if_neg (by decide)]
    simp only [fnd, if_true]
    exact h
  rw [if_neg h3] at h
  by_cases h4 : n = 5062
  · subst h4
    rw [fnd_rows (by decide)] at h
    simp [fnd] at h
  rw [rowsB_snoc, fnd_app, fnd_app] at h
  rw [if_neg h4]
  simp only [fnd]
  rw [if_neg h3, fnd_app]
  cases e : fnd (rowsB 0 q) n with
  | some y => rw [e] at h; exact h
  | none =>
    rw [e] at h
    simp only [fnd, Nat.zero_add, if_neg h1, if_neg h2, if_neg h4] at h ⊢
    exact h

set_option maxHeartbeats 16000000 in
theorem split_inCE {X : Ctx} {c0 : Nat} (b : List Int) (hb : b.length ≤ 140737488351232) (hB : Bytes b) : InCE Tryd.prog X 15 [.view false (.ints .u8 b)] [] c0 (splitQ 5064 b) := by
  refine inCE_go TO 5000 Tryd.func15 rfl (absRun_ok TO 100 _ _ ?_)
  simp only [Tryd.ntmps15, Tryd.results15, pureOpC, absRun, absOps, absOp, evO, constSV, ungd, gdP, gdPs, setD, Op.operands, List.getD, List.getElem?_cons_zero, List.getElem?_cons_succ, Option.getD_some, List.set, List.toList_toArray, true_and, and_self, Nat.zero_add, List.cons_append, List.nil_append, List.length_cons, List.length_nil, Nat.reduceSub, List.replicate_succ, List.replicate_zero]
  refine loop_up (fun x : List Int × List (Nat × List Int) × Nat × Nat × Nat => x.1.length ≤ b.length ∧ Bytes x.1 ∧ x.2.1.length ≤ 8 ∧ splitF (9 - x.2.1.length) x.1 (x.2.1.map Prod.snd) = splitF 9 b [])
    (fun x => ⟨tl 72 0 [(4, outS 5064 x.2.2.1 x.2.1), (5, .view false (.ints .u8 x.1))], outB 5064 x.2.2.1 x.2.2.2.1 x.2.1, ⟨x.2.2.2.2, [], 5000⟩⟩) (fun x => 9 - x.2.1.length) (b, [], 0, 0, _) ⟨Nat.le_refl _, hB, Nat.zero_le _, rfl⟩ ⟨rfl, ?_, ?_⟩ ?_
  · simp [LeT, tl, outS]
  · intro m x hx; simp [outB, fnd] at hx
  rintro ⟨r, q, g, k, c⟩ ⟨hr, hrB, hl, hS⟩ ih
  simp only at hr hrB hl hS
  have hG := hGet07_meets r 0 (by omega) hrB (by decide)
  simp only [Hd.sv] at hG
  have hfin : ∀ o e, splitF (9 - q.length) r (q.map Prod.snd) = (o, e) → splitL b = o ∧ splitE b = e := by
    intro o e h
    unfold splitL splitE
    rw [← hS, h]; exact ⟨rfl, rfl⟩
  obtain ⟨k0, hk⟩ : ∃ k0, 9 - q.length = k0 + 1 := ⟨8 - q.length, by omega⟩
  rw [hk, split_step, List.length_map] at hfin hS
  obtain ⟨n0, n1⟩ := next_lt r hrB
  obtain ⟨f0, f1⟩ := flags_lt r hrB
  have hfl := and_mod4 (gotH r 0).flags f0 f1
  have hrl : relB (gotH r 0) = ((gotH r 0).flags / 4 % 2 == 1) := rfl
  obtain ⟨N, hN⟩ : ∃ N : Nat, (gotH r 0).next = N := ⟨(gotH r 0).next.toNat, by omega⟩
  rw [hN] at n0 n1 hfin hS
  have wN : IntKind.i64.wrap (N : Int) = N := w64 (by omega) (by omega)
  have hrem : remI (N : Int) 8 = (N : Int) % 8 := by unfold remI; rw [Int.tmod_eq_emod_of_nonneg (by omega)]
  rcases q with _ | ⟨x0, q0⟩
  · skip
    simp only [outS, outB, List.length_nil, List.map_nil] at *
    refine absRun_ok TO 100 _ _ ?_
    simp only [pureOpC, absRun, absOps, absOp, evO, ungd, gdP, gdPs, setD, pureOp, memOp, Op.operands, List.getD, List.getElem?_cons_zero, List.getElem?_cons_succ, Option.getD_some, List.set, List.toList_toArray, true_and, and_self, List.cons_append, List.nil_append, Nat.reduceAdd, Nat.reduceSub, List.replicate_succ, List.replicate_zero, tl]
    refine call_go TO 100 hG Tryd.func27 (by decide +kernel) rfl rfl rfl ?_
    simp only [List.drop_zero, pureOpC, cntC, unc, fitT, absRun, absOps, absOp, evO, constSV, ungd, gdP, gdPs, setD, binI, binV, ptrE, convV, T_ty, T_size, T_bytes, T_zero, tTy, tSize, tBytes, tZero, fieldOf, faddrV, extractV, lowI, highI, maxP, sliceV, pickV, pureOp, guardOf, memOp, lenV, loadV, newV, notIn, dataOf, isSrc, scal, elemsOf, rowsOf, rowOf, zI, okC, known, cellAt, arrAt, takeC, dropC, blkAt, fnd, upd, Data.len, Data.esz, Data.sub, Lim.add, ownN, nodup, bares, bare, bare0, bareL, guardIs, callP, callS, argS, mAs, mA, mA0, mB0, lowD, allNotIn, impN, impB, impT, packS, delL, Op.operands, Call.operands, List.getD, List.getElem?_cons_zero, List.getElem?_cons_succ, Option.getD_some, List.set, List.map, List.all, List.toList_toArray, List.getElem?_toArray, Option.bind_some, Option.map_some, Option.map_none, Option.isSome, true_and, and_true, and_self, implies_true, imp_self, if_true, if_false, ite_self, eq_self, ne_eq, not_false_eq_true, reduceCtorEq, Bool.false_eq_true, List.take_length, Nat.zero_add, Nat.add_zero, Int.sub_zero, Int.toNat_natCast, Nat.le_refl, Int.le_refl, Int.toNat_zero, Int.reduceBEq, Bool.cond_true_left, Bool.cond_false_right, Bool.cond_true, Option.toArray_some, Option.toArray_none, List.append_toArray, List.cons_append, List.nil_append, List.append_nil, List.length_cons, List.length_nil, Nat.reduceAdd, Nat.reduceSub, Nat.reduceEqDiff, Nat.reduceLeDiff, Nat.reduceLT, Nat.succ_ne_self, beq_self_eq_true, List.replicate_succ, List.replicate_zero, Bool.and_self, Int.reduceEq, gt_iff_lt]
    rw [hN, wN, hrem, hfl]
    by_cases c1 : gotE r 0 = 0
    rotate_left
    · rw [if_pos c1] at hfin
      obtain ⟨s1, s2⟩ := hfin _ _ rfl
      rw [if_pos (by simpa using c1)]
      refine splitQ_err s2 c1 ?_
      simp only [retC, rI, resV, flat1, List.getD, List.getElem?_cons_zero, List.getElem?_cons_succ, Option.getD_some, List.map, and_true, and_self, eq_self]
      exact ⟨subB0, by omega⟩
    rw [if_neg (by simpa using c1)] at hfin hS ⊢
    by_cases c2 : (N : Int) % 8 ≠ 0 ∨ (0 < (N : Int) ∧ (N : Int) < 64)
    · rw [if_pos c2] at hfin
      obtain ⟨s1, s2⟩ := hfin _ _ rfl
      rw [if_pos (by simpa using c2)]
      refine splitQ_err s2 (by decide) ?_
      simp only [retC, rI, resV, flat1, List.getD, List.getElem?_cons_zero, List.getElem?_cons_succ, Option.getD_some, List.map, and_true, and_self, eq_self]
      exact ⟨subB0, by omega⟩
    rw [if_neg c2] at hfin hS
    rw [if_neg (by simpa using c2)]
    by_cases c3 : (r.length : Int) < (N : Int)
    · rw [if_pos c3] at hfin
      obtain ⟨s1, s2⟩ := hfin _ _ rfl
      rw [if_pos (decide_eq_true c3)]
      refine splitQ_err s2 (by decide) ?_
      simp only [retC, rI, resV, flat1, List.getD, List.getElem?_cons_zero, List.getElem?_cons_succ, Option.getD_some, List.map, and_true, and_self, eq_self]
      exact ⟨subB0, by omega⟩
    rw [if_neg c3] at hfin hS
    rw [if_neg (by simpa using c3)]
    rw [if_neg (by decide)] at hfin hS
    have c5e : (4 * ((gotH r 0).flags / 4 % 2) != 0) = relB (gotH r 0) := by
      rw [Bool.eq_iff_iff, hrl]
      simp only [beq_iff_eq, bne_iff_ne, ne_eq]
      omega
    rw [c5e]
    by_cases c5 : relB (gotH r 0) = true
    · rw [if_pos ⟨trivial, c5⟩] at hfin
      obtain ⟨s1, s2⟩ := hfin _ _ rfl
      rw [if_pos c5]
      refine splitQ_err s2 (by decide) ?_
      simp only [retC, rI, resV, flat1, List.getD, List.getElem?_cons_zero, List.getElem?_cons_succ, Option.getD_some, List.map, and_true, and_self, eq_self]
      exact ⟨subB0, by omega⟩
    rw [if_neg (fun h => c5 h.2)] at hfin hS
    rw [if_neg c5]
    by_cases c6 : (N : Int) = 0
    · rw [if_pos c6] at hfin
      obtain ⟨s1, s2⟩ := hfin _ _ rfl
      rw [if_pos (by simpa using c6)]
      have hrow : r.length ≠ 0 := by have := got_len c1; omega
      refine ⟨by omega, by omega, ?_⟩
      refine lift_ops (c + 50) (by simp only; omega) ?_
      refine renC_ops 5063 0 5062 1000000 (gm := (c + 1 + 1 + 1 + 1 + 1 + 1 + 1 + 1 + 1 + 1)) (g := (c + 1 + 1 + 1 + 1 + 1 + 1 + 1 + 1 + 1 + 1)) (l := [SV.sl 5062 (c + 1 + 1 + 1 + 1 + 1 + 1 + 1 + 1 + 1 + 1) 0 1 0 r.length]) (d := Data.ints IntKind.u8 r) (by simp only [fnd, fnd, if_true, if_false, eq_self, Nat.reduceEqDiff, Nat.succ_ne_self]) rfl rfl (by simp only [fnd, fnd, if_true, if_false, eq_self, Nat.reduceEqDiff]) (by decide) (by decide) (show r.length ≠ 0 by exact hrow) ?_
      simp only [mv, upd, del, mv, List.set, if_true, if_false, eq_self, Nat.reduceEqDiff]
      refine appendN_ops TO rfl rfl rfl rfl rfl rfl rfl rfl (by decide) rfl rfl (by simp) (fun k2 => HOps_go TO 100 ?_)
      simp only [pureOpC, unc, absRun, absOps, absOp, evO, constSV, ungd, gdP, gdPs, setD, binI, binV, ptrE, T_ty, T_size, tTy, tSize, fieldOf, faddrV, lowI, highI, maxP, sliceV, pureOp, loadV, cellAt, blkAt, fnd, upd, Data.len, Data.esz, Data.sub, Lim.add, Op.operands, List.getD, List.getElem?_cons_zero, List.getElem?_cons_succ, Option.getD_some, List.set, List.toList_toArray, Option.map_some, Option.map_none, exitTo, true_and, and_true, and_self, if_true, if_false, eq_self, ne_eq, not_false_eq_true, reduceCtorEq, Bool.false_eq_true, Nat.zero_add, Int.toNat_natCast, Int.le_refl, Option.toArray_some, Option.toArray_none, List.append_toArray, List.cons_append, List.nil_append, List.append_nil, Nat.reduceAdd, Nat.reduceSub, Nat.reduceEqDiff, Nat.reduceBEq, Nat.reduceLT, Nat.succ_ne_self, beq_self_eq_true]
      refine ⟨by omega, ?_⟩
      rw [if_pos (by simpa using c6)]
      refine ⟨_, _, c + 100, .inl ⟨s2, c + 50 + 1 + 1, ([] : List (Nat × List Int)) ++ [(c + 50 + 1, r)], k2, by rw [s1]; simp, rfl, rfl⟩, ?_⟩
      simp only [retC, rI, List.length_cons, List.length_nil, resV, flat1, List.getD, List.getElem?_cons_zero, List.getElem?_cons_succ, Option.getD_some, List.map, and_true, and_self, eq_self, Nat.zero_add, List.nil_append, List.append_nil, List.length_cons, List.length_nil]
      refine ⟨?_, by omega⟩
      · intro n x hx
        simp only [rowsS, rowsB, List.nil_append, List.cons_append, fnd] at hx ⊢
        split at hx
        · rename_i e; subst e; simpa using hx
        split at hx
        · rename_i e; subst e; simpa using hx
        cases hx
    · rw [if_neg c6] at hS
      rw [if_neg (by simpa using c6)]
      simp only [Int.toNat_natCast] at hS ⊢
      have hlt : (r.take N).length = N := by rw [List.length_take]; omega
      refine ⟨by omega, by omega, ?_⟩
      refine lift_ops (c + 50) (by simp only; omega) ?_
      refine renC_ops 5063 0 5062 1000000 (gm := (c + 1 + 1 + 1 + 1 + 1 + 1 + 1 + 1 + 1)) (g := (c + 1 + 1 + 1 + 1 + 1 + 1 + 1 + 1 + 1)) (l := [SV.sl 5062 (c + 1 + 1 + 1 + 1 + 1 + 1 + 1 + 1 + 1) 0 1 0 (r.take N).length]) (d := Data.ints IntKind.u8 (r.take N)) (by simp only [fnd, fnd, if_true, if_false, eq_self, Nat.reduceEqDiff, Nat.succ_ne_self]) rfl rfl (by simp only [fnd, fnd, if_true, if_false, eq_self, Nat.reduceEqDiff]) (by decide) (by decide) (show (r.take N).length ≠ 0 by omega) ?_
      simp only [mv, upd, del, mv, List.set, if_true, if_false, eq_self, Nat.reduceEqDiff]
      refine appendN_ops TO rfl rfl rfl rfl rfl rfl rfl rfl (by decide) rfl rfl (by simp) (fun k2 => HOps_go TO 100 ?_)
      have e8 : splitF 8 (r.drop N) [r.take N] = splitF 9 b [] := by
        have h8 : k0 = 8 := by omega
        rw [h8] at hS
        exact hS
      have hsub : ((r.length : Int) - (N : Int)).toNat = r.length - N := by omega
      have htk : (r.drop N).take (r.length - N) = r.drop N := by rw [List.take_of_length_le]; rw [List.length_drop]; exact Nat.le_refl _
      simp only [hsub, htk, pureOpC, unc, absRun, absOps, absOp, evO, constSV, ungd, gdP, gdPs, setD, binI, binV, ptrE, T_ty, T_size, tTy, tSize, fieldOf, faddrV, lowI, highI, maxP, sliceV, pureOp, loadV, cellAt, blkAt, fnd, upd, Data.len, Data.esz, Data.sub, Lim.add, Op.operands, List.getD, List.getElem?_cons_zero, List.getElem?_cons_succ, Option.getD_some, List.set, List.toList_toArray, Option.map_some, Option.map_none, exitTo, true_and, and_true, and_self, if_true, if_false, eq_self, ne_eq, not_false_eq_true, reduceCtorEq, Bool.false_eq_true, Nat.zero_add, Int.toNat_natCast, Int.le_refl, Option.toArray_some, Option.toArray_none, List.append_toArray, List.cons_append, List.nil_append, List.append_nil, Nat.reduceAdd, Nat.reduceSub, Nat.reduceEqDiff, Nat.reduceBEq, Nat.reduceLT, Nat.succ_ne_self, beq_self_eq_true]
      refine ⟨⟨by omega, by omega⟩, ?_⟩
      rw [if_neg (by simpa using c6)]
      refine ih (r.drop N, ([] : List (Nat × List Int)) ++ [(c + 50 + 1, r.take N)], c + 50 + 1 + 1, k2, _) _ ⟨by simp; omega, hrB.drop N, by simp, e8⟩ (by simp) rfl ?_ ?_
      · simp [LeT, tl]
      · simp only
        intro n x hx
        simp only [rowsS, rowsB, List.nil_append, List.cons_append, fnd] at hx ⊢
        split at hx
        · rename_i e; subst e; simpa using hx
        split at hx
        · rename_i e; subst e; simpa using hx
        cases hx
  · skip
    simp only [outS, outB]
    have hne : (1000000 + (x0 :: q0).length = 5064) = False := eq_false (by omega)
    have hpos2 : 0 < (x0 :: q0).length := by simp
    generalize x0 :: q0 = q at *
    refine absRun_ok TO 100 _ _ ?_
    simp only [pureOpC, absRun, absOps, absOp, evO, ungd, gdP, gdPs, setD, pureOp, memOp, Op.operands, List.getD, List.getElem?_cons_zero, List.getElem?_cons_succ, Option.getD_some, List.set, List.toList_toArray, true_and, and_self, List.cons_append, List.nil_append, List.append_nil, Nat.reduceAdd, Nat.reduceSub, List.replicate_succ, List.replicate_zero, tl]
    refine call_go TO 100 hG Tryd.func27 (by decide +kernel) rfl rfl rfl ?_
    simp only [fnd_rows, upd_rows, upd_rows0, List.drop_zero, pureOpC, cntC, unc, fitT, absRun, absOps, absOp, evO, constSV, ungd, gdP, gdPs, setD, binI, binV, ptrE, convV, T_ty, T_size, T_bytes, T_zero, tTy, tSize, tBytes, tZero, fieldOf, faddrV, extractV, lowI, highI, maxP, sliceV, pickV, pureOp, guardOf, memOp, lenV, loadV, newV, notIn, dataOf, isSrc, scal, elemsOf, rowsOf, rowOf, zI, okC, known, cellAt, arrAt, takeC, dropC, blkAt, fnd, upd, Data.len, Data.esz, Data.sub, Lim.add, ownN, nodup, bares, bare, bare0, bareL, guardIs, callP, callS, argS, mAs, mA, mA0, mB0, lowD, allNotIn, impN, impB, impT, packS, delL, Op.operands, Call.operands, List.getD, List.getElem?_cons_zero, List.getElem?_cons_succ, Option.getD_some, List.set, List.map, List.all, List.toList_toArray, List.getElem?_toArray, Option.bind_some, Option.map_some, Option.map_none, Option.isSome, true_and, and_true, and_self, implies_true, imp_self, if_true, if_false, ite_self, eq_self, ne_eq, not_false_eq_true, reduceCtorEq, List.take_length, Nat.zero_add, Nat.add_zero, Int.sub_zero, Int.toNat_natCast, Nat.le_refl, Int.le_refl, Int.toNat_zero, Bool.cond_true_left, Bool.cond_false_right, Option.toArray_some, Option.toArray_none, List.append_toArray, List.cons_append, List.nil_append, List.append_nil, List.length_cons, List.length_nil, Nat.reduceAdd, Nat.reduceSub, Nat.reduceEqDiff, Nat.reduceLeDiff, Nat.reduceLT, Nat.succ_ne_self, List.replicate_succ, List.replicate_zero, Bool.and_self, Int.reduceEq, gt_iff_lt]
    rw [hN, wN, hrem, hfl]
    by_cases c1 : gotE r 0 = 0
    rotate_left
    · rw [if_pos c1] at hfin
      obtain ⟨s1, s2⟩ := hfin _ _ rfl
      rw [if_pos (by simpa using c1)]
      refine splitQ_err s2 c1 ?_
      simp only [retC, rI, resV, flat1, List.getD, List.getElem?_cons_zero, List.getElem?_cons_succ, Option.getD_some, List.map, and_true, and_self, eq_self]
      exact ⟨subB0, by omega⟩
    rw [if_neg (by simpa using c1)] at hfin hS ⊢
    by_cases c2 : (N : Int) % 8 ≠ 0 ∨ (0 < (N : Int) ∧ (N : Int) < 64)
    · rw [if_pos c2] at hfin
      obtain ⟨s1, s2⟩ := hfin _ _ rfl
      rw [if_pos (by simpa using c2)]
      refine splitQ_err s2 (by decide) ?_
      simp only [retC, rI, resV, flat1, List.getD, List.getElem?_cons_zero, List.getElem?_cons_succ, Option.getD_some, List.map, and_true, and_self, eq_self]
      exact ⟨subB0, by omega⟩
    rw [if_neg c2] at hfin hS
    rw [if_neg (by simpa using c2)]
    by_cases c3 : (r.length : Int) < (N : Int)
    · rw [if_pos c3] at hfin
      obtain ⟨s1, s2⟩ := hfin _ _ rfl
      rw [if_pos (decide_eq_true c3)]
      refine splitQ_err s2 (by decide) ?_
      simp only [retC, rI, resV, flat1, List.getD, List.getElem?_cons_zero, List.getElem?_cons_succ, Option.getD_some, List.map, and_true, and_self, eq_self]
      exact ⟨subB0, by omega⟩
    rw [if_neg c3] at hfin hS
    rw [if_neg (by simpa using c3)]
    by_cases c4 : q.length = 8
    · rw [if_pos c4] at hfin
      obtain ⟨s1, s2⟩ := hfin _ _ rfl
      rw [if_pos (by simp; omega)]
      refine splitQ_err s2 (by decide) ?_
      simp only [retC, rI, resV, flat1, List.getD, List.getElem?_cons_zero, List.getElem?_cons_succ, Option.getD_some, List.map, and_true, and_self, eq_self]
      exact ⟨subB0, by omega⟩
    rw [if_neg c4] at hfin hS
    rw [if_neg (by simp; omega)]
    have c5e : ((q.length : Int) == 0 && 4 * ((gotH r 0).flags / 4 % 2) != 0) = decide (q.length = 0 ∧ relB (gotH r 0) = true) := by
      rw [Bool.eq_iff_iff, hrl]
      simp only [Bool.and_eq_true, beq_iff_eq, bne_iff_ne, ne_eq, decide_eq_true_eq]
      omega
    rw [c5e]
    by_cases c5 : q.length = 0 ∧ relB (gotH r 0) = true
    · rw [if_pos c5] at hfin
      obtain ⟨s1, s2⟩ := hfin _ _ rfl
      rw [if_pos (by simpa using c5)]
      refine splitQ_err s2 (by decide) ?_
      simp only [retC, rI, resV, flat1, List.getD, List.getElem?_cons_zero, List.getElem?_cons_succ, Option.getD_some, List.map, and_true, and_self, eq_self]
      exact ⟨subB0, by omega⟩
    rw [if_neg c5] at hfin hS
    rw [if_neg (by simpa using c5)]
    by_cases c6 : (N : Int) = 0
    · rw [if_pos c6] at hfin
      obtain ⟨s1, s2⟩ := hfin _ _ rfl
      rw [if_pos (by simpa using c6)]
      have hrow : r.length ≠ 0 := by have := got_len c1; omega
      refine ⟨by omega, by omega, ?_⟩
      refine lift_ops (c + 50) (by simp only; omega) ?_
      refine renC_ops 5063 0 5062 (1000000 + q.length) (gm := (c + 1 + 1 + 1 + 1 + 1 + 1 + 1 + 1 + 1 + 1)) (g := (c + 1 + 1 + 1 + 1 + 1 + 1 + 1 + 1 + 1 + 1)) (l := [SV.sl 5062 (c + 1 + 1 + 1 + 1 + 1 + 1 + 1 + 1 + 1 + 1) 0 1 0 r.length]) (d := Data.ints IntKind.u8 r) (by simp only [fnd, fnd_rows, fnd, if_true, if_false, eq_self, Nat.reduceEqDiff, Nat.reduceLT, Nat.succ_ne_self]) rfl rfl (by simp only [fnd, fnd_rows, fnd, if_true, if_false, eq_self, Nat.reduceEqDiff, Nat.reduceLT]) (by decide) (by omega) (show r.length ≠ 0 by exact hrow) ?_
      refine dropB_ops ((5064, g, Blk.cells (rowsS 0 q ++ List.replicate k SV.any)) :: (rowsB 0 (q ++ [(c + 50 + 1, r)]) ++ [(5006, c + 1, Blk.cells [SV.int IntKind.u16 (gotH r 0).charge, SV.int IntKind.u32 (gotH r 0).status, SV.int IntKind.u16 (gotH r 0).cmd, SV.int IntKind.u16 (gotH r 0).credits, SV.int IntKind.u32 (gotH r 0).flags, SV.int IntKind.u32 (N : Int), SV.int IntKind.u64 (gotH r 0).id, SV.int IntKind.u64 (gotH r 0).async, SV.int IntKind.u32 (gotH r 0).tree, SV.int IntKind.u64 (gotH r 0).session, SV.arr IntKind.u8 16 (gotH r 0).sig]), (5063, (c + 1 + 1 + 1 + 1 + 1 + 1 + 1 + 1 + 1 + 1), Blk.cells [SV.sl (1000000 + q.length) (c + 50 + 1) 0 1 0 r.length])])) sub_split ?_
      have hby : (q.length + 1) * 24 ≤ 140737488355328 := by omega
      refine appendR_ops TO (r := r) (gr := c + 50 + 1) (xr := Blk.vec (Data.ints IntKind.u8 r)) rfl rfl rfl rfl rfl rfl rfl rfl ⟨hby, by omega⟩ rfl (by simp only [fnd, fnd_rows, fnd, if_true, if_false, eq_self, Nat.reduceEqDiff, Nat.reduceLT]) (by simp only [fnd, fnd_rows_last, hne, fnd, if_false, eq_self]) (by simp) (fun k2 => HOps_go TO 100 ?_)
      simp only [mv, fnd_rows, upd_rows, del_rows, pureOpC, unc, absRun, absOps, absOp, evO, constSV, ungd, gdP, gdPs, setD, binI, binV, ptrE, T_ty, T_size, tTy, tSize, fieldOf, faddrV, lowI, highI, maxP, sliceV, pureOp, loadV, cellAt, blkAt, fnd, upd, del, mv, Data.len, Data.esz, Data.sub, Lim.add, Op.operands, List.getD, List.getElem?_cons_zero, List.getElem?_cons_succ, Option.getD_some, List.set, List.toList_toArray, Option.map_some, Option.map_none, exitTo, true_and, and_true, and_self, if_true, if_false, eq_self, ne_eq, not_false_eq_true, reduceCtorEq, Bool.false_eq_true, Nat.zero_add, Int.toNat_natCast, Int.le_refl, Option.toArray_some, Option.toArray_none, List.append_toArray, List.cons_append, List.nil_append, List.append_nil, Nat.reduceAdd, Nat.reduceSub, Nat.reduceEqDiff, Nat.reduceBEq, Nat.reduceLT, Nat.succ_ne_self, beq_self_eq_true]
      refine ⟨by omega, ?_⟩
      rw [if_pos (by simpa using c6)]
      refine ⟨_, _, c + 100, .inl ⟨s2, c + 50 + 1 + 1, q ++ [(c + 50 + 1, r)], k2, by rw [s1]; simp, rfl, rfl⟩, ?_⟩
      simp only [retC, rI, List.length_append, List.length_cons, List.length_nil, resV, flat1, List.getD, List.getElem?_cons_zero, List.getElem?_cons_succ, Option.getD_some, List.map, and_true, and_self, eq_self, Nat.zero_add, List.append_nil, List.length_cons, List.length_nil]
      refine ⟨?_, by omega⟩
      · intro n x hx
        simp only [fnd] at hx
        split at hx
        · rename_i e; subst e
          show fnd (rowsB 0 _ ++ _) 5064 = _
          rw [fnd_rows (by decide)]; simpa [fnd] using hx
        · show fnd (rowsB 0 _ ++ _) n = _
          rw [fnd_app, hx]
    · rw [if_neg c6] at hS
      rw [if_neg (by simpa using c6)]
      simp only [Int.toNat_natCast] at hS ⊢
      have hlt : (r.take N).length = N := by rw [List.length_take]; omega
      refine ⟨by omega, by omega, ?_⟩
      refine lift_ops (c + 50) (by simp only; omega) ?_
      refine renC_ops 5063 0 5062 (1000000 + q.length) (gm := (c + 1 + 1 + 1 + 1 + 1 + 1 + 1 + 1 + 1)) (g := (c + 1 + 1 + 1 + 1 + 1 + 1 + 1 + 1 + 1)) (l := [SV.sl 5062 (c + 1 + 1 + 1 + 1 + 1 + 1 + 1 + 1 + 1) 0 1 0 (r.take N).length]) (d := Data.ints IntKind.u8 (r.take N)) (by simp only [fnd, fnd_rows, fnd, if_true, if_false, eq_self, Nat.reduceEqDiff, Nat.reduceLT, Nat.succ_ne_self]) rfl rfl (by simp only [fnd, fnd_rows, fnd, if_true, if_false, eq_self, Nat.reduceEqDiff, Nat.reduceLT]) (by decide) (by omega) (show (r.take N).length ≠ 0 by omega) ?_
      refine dropB_ops ((5064, g, Blk.cells (rowsS 0 q ++ List.replicate k SV.any)) :: (rowsB 0 (q ++ [(c + 50 + 1, (r.take N))]) ++ [(5006, c + 1, Blk.cells [SV.int IntKind.u16 (gotH r 0).charge, SV.int IntKind.u32 (gotH r 0).status, SV.int IntKind.u16 (gotH r 0).cmd, SV.int IntKind.u16 (gotH r 0).credits, SV.int IntKind.u32 (gotH r 0).flags, SV.int IntKind.u32 (N : Int), SV.int IntKind.u64 (gotH r 0).id, SV.int IntKind.u64 (gotH r 0).async, SV.int IntKind.u32 (gotH r 0).tree, SV.int IntKind.u64 (gotH r 0).session, SV.arr IntKind.u8 16 (gotH r 0).sig]), (5063, (c + 1 + 1 + 1 + 1 + 1 + 1 + 1 + 1 + 1), Blk.cells [SV.sl (1000000 + q.length) (c + 50 + 1) 0 1 0 (r.take N).length])])) sub_split ?_
      have hby : (q.length + 1) * 24 ≤ 140737488355328 := by omega
      refine appendR_ops TO (r := (r.take N)) (gr := c + 50 + 1) (xr := Blk.vec (Data.ints IntKind.u8 (r.take N))) rfl rfl rfl rfl rfl rfl rfl rfl ⟨hby, by omega⟩ rfl (by simp only [fnd, fnd_rows, fnd, if_true, if_false, eq_self, Nat.reduceEqDiff, Nat.reduceLT]) (by simp only [fnd, fnd_rows_last, hne, fnd, if_false, eq_self]) (by simp) (fun k2 => HOps_go TO 100 ?_)
      have hsub : ((r.length : Int) - (N : Int)).toNat = r.length - N := by omega
      have htk : (r.drop N).take (r.length - N) = r.drop N := by rw [List.take_of_length_le]; rw [List.length_drop]; exact Nat.le_refl _
      simp only [mv, hsub, htk, fnd_rows, upd_rows, del_rows, pureOpC, unc, absRun, absOps, absOp, evO, constSV, ungd, gdP, gdPs, setD, binI, binV, ptrE, T_ty, T_size, tTy, tSize, fieldOf, faddrV, lowI, highI, maxP, sliceV, pureOp, loadV, cellAt, blkAt, fnd, upd, del, mv, Data.len, Data.esz, Data.sub, Lim.add, Op.operands, List.getD, List.getElem?_cons_zero, List.getElem?_cons_succ, Option.getD_some, List.set, List.toList_toArray, Option.map_some, Option.map_none, exitTo, true_and, and_true, and_self, if_true, if_false, eq_self, ne_eq, not_false_eq_true, reduceCtorEq, Bool.false_eq_true, Nat.zero_add, Int.toNat_natCast, Int.le_refl, Option.toArray_some, Option.toArray_none, List.append_toArray, List.cons_append, List.nil_append, List.append_nil, Nat.reduceAdd, Nat.reduceSub, Nat.reduceEqDiff, Nat.reduceBEq, Nat.reduceLT, Nat.succ_ne_self, beq_self_eq_true]
      refine ⟨⟨by omega, by omega⟩, ?_⟩
      rw [if_neg (by simpa using c6)]
      refine ih (r.drop N, q ++ [(c + 50 + 1, r.take N)], c + 50 + 1 + 1, k2, _) _ ⟨by simp; omega, hrB.drop N, by simp; omega, by rw [← hS, List.map_append, List.length_append, List.length_singleton, show 9 - (q.length + 1) = k0 by omega]; rfl⟩ (by simp; omega) rfl ?_ ?_
      · simp [LeT, tl, outS_snoc]
      · simp only [outB_snoc]
        intro n x hx
        simp only [fnd, List.append_nil] at hx
        split at hx
        · rename_i e; subst e
          show fnd (rowsB 0 _ ++ _) 5064 = _
          rw [fnd_rows (by decide)]; simpa [fnd] using hx
        · show fnd (rowsB 0 _ ++ _) n = _
          rw [fnd_app, hx]

end Go.Proofs.YtdhnjmepgafeiaaDoor.Abs
