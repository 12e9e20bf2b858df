/- How much is charged. -/
import Derived.Test.YtakgefinmlomdaaDoorNY1
import Derived.Test.YtakgefinmlomdaaDoorRX
set_option linter.unusedVariables false
set_option linter.unusedSimpArgs false
set_option maxRecDepth 100000
namespace Go.Proofs.YtakgefinmlomdaaDoor.Abs
open Go Go.Proofs

def chN (c : Int) (a : Ask) : Int := if c = 8 then a.n else if c = 9 then (a.data.length : Int) else 0
def chE (c : Int) (a : Ask) : Int := if 8192 < chN c a then (chN c a - 1) / 8192 + 1 else 1

theorem quo_ok {x : Int} (h0 : 0 ≤ x) (h1 : x < 4611686018427387904) : quoI .i64 x 8192 = x / 8192 := by
  unfold quoI
  rw [Int.tdiv_eq_ediv_of_nonneg h0]
  exact w64 (by omega) (by omega)
theorem rem_ok {x : Int} (h0 : 0 ≤ x) : remI x 8192 = x % 8192 := by
  unfold remI
  exact Int.tmod_eq_emod_of_nonneg h0

/-- The most of two numbers. -/
theorem max_ops {P : Program} {X : Ctx} {ops : Array Oper} {o : Oper} {rest : List Oper} {k : List Item} {s : St} {Φ : St → Prop} {x y : Operand} {ts : Array TypeId} {d : Nat} {kd kd' : IntKind} {p q : Int}
    (ho : o.op = .call { callee := .builtin .max, args := #[x, y], argTypes := ts }) (hg : o.guard = none) (hd : o.dst = some d) (hx : evO s.t x = .int kd p) (hy : evO s.t y = .int kd' q)
    (h : HOps P X ops rest k ⟨s.t.set d (.int kd (if p < q then q else p)), s.b, s.c⟩ Φ) : HOps P X ops (o :: rest) k s Φ := by
  intro i hi σ w a hR
  obtain ⟨ho', hrest⟩ := ops_at hi
  have hv := V_evO hR x
  rw [hx] at hv
  have hv : a.eval x = .int kd p := hv
  have hv2 := V_evO hR y
  rw [hy] at hv2
  have hv2 : a.eval y = .int kd' q := hv2
  have hu : (execOp a.eval o).run P w = .ok (.value (.int kd (if p < q then q else p))) w := by
    simp [execOp, ho, resolve, invoke, builtin, hv, hv2, run_max_int2]
  rw [List.length_cons, List.range'_succ]
  refine Fins.opValue (v := .int kd (if p < q then q else p)) ho' (by simp [Region.wanted, hg]) (.inl hu) ((h (i + 1) hrest).after ?_ Tr.refl)
  rw [hd]
  exact R_set hR (dst := some d) (sv := .int kd (if p < q then q else p)) (show V X s.b s.c σ w _ _ from rfl)

set_option maxHeartbeats 4000000 in
theorem rCharge_meets (c : Int) (a : Ask) (hc : 0 ≤ c) (ha : a.ok) (hs : a.data.length ≤ 1048576) : Meets Tryd.prog 25 [.v (.int .u16 c), .v (a.sv false)] [.v (.int .i64 (chE c a))] := by
  have n0 := ha.n.1
  have n1 := ha.n.2
  have wn : IntKind.i64.wrap a.n = a.n := w64 (by omega) (by omega)
  have key : ∀ x : Int, 0 ≤ x → x < 4611686018427387904 → 8192 < x → IntKind.i64.wrap (quoI IntKind.i64 (IntKind.i64.wrap (x - 1)) 8192 + 1) = (x - 1) / 8192 + 1 := fun x h0 h1 h2 => by
    rw [w64 (x := x - 1) (by omega) (by omega), quo_ok (by omega) (by omega), w64 (by omega) (by omega)]
  refine meets_go TO 100 Tryd.func25 rfl (fun X => ?_)
  simp only [Tryd.ntmps25, Tryd.results25, Ask.sv, Ask.cells, wn, pureOpC, unc, svs, blks, AV.sv, absRun, absOps, absOp, evO, constSV, ungd, gdP, gdPs, setD, binI, binV, ptrE, convV, T_ty, T_size, tTy, tSize, fieldOf, faddrV, pureOp, memOp, lenV, loadV, newV, notIn, cellsOf, known, cellAt, blkAt, fnd, upd, Data.len, Lim.add, retP, resV, retQ, rAs, rA, rA0, ownN, nodup, bares, bare, bare0, Op.operands, Call.operands, List.getD, List.getElem?_cons_zero, List.getElem?_cons_succ, Option.getD_some, List.set, List.map, List.toList_toArray, true_and, and_true, and_self, if_true, if_false, eq_self, ne_eq, not_false_eq_true, reduceCtorEq, Bool.false_eq_true, Nat.zero_add, Int.reduceSub, List.append_toArray, List.cons_append, List.nil_append, List.length_cons, List.length_nil, Nat.reduceAdd, Nat.reduceSub, Nat.reduceLT, Nat.succ_ne_self, List.replicate_succ, List.replicate_zero, Bool.and_self, Int.reduceLT, Int.reduceEq, Int.reduceNeg, decide_false, gt_iff_lt]
  unfold chE chN
  by_cases c8 : c = 8
  · subst c8
    rw [if_pos (by decide), if_neg (by decide), if_pos rfl]
    by_cases h : 8192 < a.n
    · rw [if_pos (by simpa using h), if_pos h]; exact key _ (by omega) (by omega) h
    · rw [if_neg (by simpa using h), if_neg h]
  · rw [if_neg (by simpa using c8), if_neg c8]
    by_cases c9 : c = 9
    · subst c9
      rw [if_pos (by decide), if_pos rfl]
      by_cases h : 8192 < (a.data.length : Int)
      · rw [if_pos (by simpa using h), if_pos h]; exact key _ (by omega) (by omega) h
      · rw [if_neg (by simpa using h), if_neg h]
    · rw [if_neg (by simpa using c9), if_neg c9, if_neg (by decide)]

set_option maxHeartbeats 4000000 in
theorem fCharge_meets (c : Int) (a : Ask) (hc : 0 ≤ c) (ha : a.ok) (hs : a.data.length ≤ 1048576) : Meets Tryd.prog 24 [.v (.int .u16 c), .v (a.sv false)] [.v (.int .i64 (chE c a))] := by
  have n0 := ha.n.1
  have n1 := ha.n.2
  have wn : IntKind.i64.wrap a.n = a.n := w64 (by omega) (by omega)
  have key : ∀ x : Int, 0 ≤ x → x < 4611686018427387904 → (if IntKind.i64.wrap (quoI IntKind.i64 x 8192 + quoI IntKind.i64 (IntKind.i64.wrap (remI x 8192 + 8191)) 8192) < 1 then 1 else IntKind.i64.wrap (quoI IntKind.i64 x 8192 + quoI IntKind.i64 (IntKind.i64.wrap (remI x 8192 + 8191)) 8192)) = if 8192 < x then (x - 1) / 8192 + 1 else 1 := fun x h0 h1 => by
    rw [rem_ok h0, w64 (x := x % 8192 + 8191) (by omega) (by omega), quo_ok (x := x % 8192 + 8191) (by omega) (by omega), quo_ok h0 h1, w64 (by omega) (by omega)]
    split <;> split <;> omega
  refine meets_go TO 100 Tryd.func24 rfl (fun X => ?_)
  simp only [Tryd.ntmps24, Tryd.results24, Ask.sv, Ask.cells, wn, pureOpC, unc, svs, blks, AV.sv, absRun, absOps, absOp, evO, constSV, ungd, gdP, gdPs, setD, binI, binV, ptrE, convV, T_ty, T_size, tTy, tSize, fieldOf, faddrV, pureOp, memOp, lenV, loadV, newV, notIn, cellsOf, known, cellAt, blkAt, fnd, upd, Data.len, Lim.add, retP, resV, retQ, rAs, rA, rA0, ownN, nodup, bares, bare, bare0, Op.operands, Call.operands, List.getD, List.getElem?_cons_zero, List.getElem?_cons_succ, Option.getD_some, List.set, List.map, List.toList_toArray, exitTo, true_and, and_true, and_self, if_true, if_false, eq_self, ne_eq, not_false_eq_true, reduceCtorEq, Bool.false_eq_true, Nat.zero_add, List.append_toArray, List.cons_append, List.nil_append, List.length_cons, List.length_nil, Nat.reduceAdd, Nat.reduceSub, Nat.reduceBEq, Nat.reduceLT, Nat.succ_ne_self, beq_self_eq_true, List.replicate_succ, List.replicate_zero, Bool.and_self, Int.reduceEq]
  by_cases c9 : c = 9
  · subst c9
    rw [if_pos (by decide)]
    refine max_ops rfl rfl rfl rfl rfl (HOps_go TO 100 ?_)
    simp only [pureOpC, unc, absRun, absOps, absOp, evO, ungd, gdP, gdPs, setD, retP, resV, retQ, rAs, rA, rA0, ownN, nodup, bares, bare, bare0, Op.operands, List.getD, List.getElem?_cons_zero, List.getElem?_cons_succ, Option.getD_some, List.set, List.map, List.toList_toArray, true_and, and_true, and_self, eq_self, beq_self_eq_true, Bool.and_self]
    exact key _ (by omega) (by omega)
  · rw [if_neg (by simpa using c9)]
    by_cases c8 : c = 8
    · subst c8
      rw [if_pos (by decide), if_neg (by decide)]
      refine max_ops rfl rfl rfl rfl rfl (HOps_go TO 100 ?_)
      simp only [pureOpC, unc, absRun, absOps, absOp, evO, ungd, gdP, gdPs, setD, retP, resV, retQ, rAs, rA, rA0, ownN, nodup, bares, bare, bare0, Op.operands, List.getD, List.getElem?_cons_zero, List.getElem?_cons_succ, Option.getD_some, List.set, List.map, List.toList_toArray, true_and, and_true, and_self, eq_self, Int.reduceBNe, Int.reduceBEq, beq_self_eq_true, Bool.and_self]
      exact key _ (by omega) (by omega)
    · rw [if_neg (by simpa using c8), if_pos (by simpa using c8)]
      unfold chE chN
      rw [if_neg c8, if_neg c9, if_neg (by decide)]

theorem chE_le (c : Int) (a : Ask) (h1 : a.data.length ≤ 32768) (h2 : c = 8 → a.n ≤ 32768) : 1 ≤ chE c a ∧ chE c a ≤ 4 := by
  have : chN c a ≤ 32768 := by
    unfold chN
    split
    · exact h2 ‹_›
    split <;> omega
  unfold chE
  split <;> omega

end Go.Proofs.YtakgefinmlomdaaDoor.Abs
