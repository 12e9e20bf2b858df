/- Joined: N0 N2 N3 N4 N5 N6 N7. -/
import Derived.Test.YtakgefinmlomdaaDoorRB
import Derived.Test.YtakgefinmlomdaaDoorIX
/- file: numbers taken off, numbers laid. -/
set_option linter.unusedVariables false
set_option linter.unusedSimpArgs false
set_option maxRecDepth 100000
namespace Go.Proofs.YtakgefinmlomdaaDoor.Abs
open Go Go.Proofs

theorem ite_both {c : Prop} [Decidable c] {p q : Prop} (h1 : c → p) (h2 : ¬ c → q) : if c then p else q := by
  split
  · exact h1 ‹_›
  · exact h2 ‹_›

/-- What the writer's blocks are, one number laid. -/
abbrev wrU (b : List (Nat × Nat × Blk)) (n g m K gK : Nat) (l : List Int) (len : Nat) (tail : List SV) : List (Nat × Nat × Blk) :=
  upd (upd (del b m) K gK (.vec (.ints .u8 l))) n g (.cells (.sl K gK 0 1 0 len :: tail))

theorem over_sub {b0 : List (Nat × Nat × Blk)} {I g1 m K G n g : Nat} {x y z : Blk} (h : fnd b0 I = none) : SubB (upd (upd (del b0 m) K G y) n g z) (upd (upd (del (upd b0 I g1 x) m) K G y) n g z) := by
  intro q w hw
  simp only [fnd_upd, fnd_del] at hw ⊢
  split at hw
  · rename_i e; rw [if_pos e]; exact hw
  rename_i e; rw [if_neg e]
  split at hw
  · rename_i e; rw [if_pos e]; exact hw
  rename_i e; rw [if_neg e]
  split at hw
  · cases hw
  rename_i e; rw [if_neg e]
  split
  · rename_i e; subst e; rw [h] at hw; cases hw
  · exact hw

set_option maxHeartbeats 1000000 in
theorem fn_inC {X : Ctx} {b0 : List (Nat × Nat × Blk)} {n g c0 : Nat} {b : List Int} {r : Nat × Int} {k : Nat} {tail : List SV} (hn : fnd b0 n = some (g, rdC b r tail))
    (hb : b.length ≤ 140737488351232) (hB : Bytes b) (hr : r.1 ≤ b.length) (hk : szB k = true) :
    InC Tryd.prog X 65 [.ptr n g 0, .int .i64 k] b0 c0 (.int .u64 (rV b k r)) (upd b0 n g (rdC b (rN b k r) tail)) (c0 + 12) := by
  have hk8 : (k : Int) ≤ 8 := by rcases szB_cases hk with h | h | h | h <;> omega
  refine inC_go TO 5000 Tryd.func65 rfl (absRun_ok TO 100 _ _ ?_)
  simp only [Tryd.ntmps65, Tryd.results65, retC, rI, hn, rdC, pureOpC, unc, absRun, absOps, absOp, evO, constSV, ungd, gdP, gdPs, setD, binI, binV, ptrE, T_ty, T_size, tTy, tSize, fieldOf, faddrV, pureOp, loadV, cellAt, blkAt, resV, flatV, flat2, Op.operands, List.getD, List.getElem?_cons_zero, List.getElem?_cons_succ, Option.getD_some, List.set, List.map, List.toList_toArray, true_and, and_true, and_self, if_true, if_false, eq_self, ne_eq, not_false_eq_true, reduceCtorEq, Nat.zero_add, List.cons_append, List.nil_append, List.length_cons, List.length_nil, Nat.reduceAdd, Nat.reduceSub, Nat.succ_ne_self, List.replicate_succ, List.replicate_zero, SV.int.injEq]
  by_cases h0 : r.2 = 0
  rotate_left
  · have e1 : rN b k r = r := by unfold rN; rw [if_pos h0]
    have e2 : rV b k r = 0 := by unfold rV; rw [if_pos h0]
    rw [if_pos (by simpa using h0), e1, e2]
    exact ⟨SubB_same hn, by omega, rfl⟩
  rw [if_neg (by simpa using h0)]
  have wd : IntKind.i64.wrap ((b.length : Int) - r.1) = (b.length : Int) - r.1 := w64 (by omega) (by omega)
  refine draw_go TO 12 100 mixed_ok (by decide +kernel) ?_
  simp only [hn, rdC, retC, rI, wd, List.take_succ_cons, List.take_zero, List.drop_succ_cons, List.drop_zero, pureOpC, unc, isEff, absD, pureStep, absRun, absOps, absOp, evO, constSV, ungd, gdP, gdPs, setD, binI, binV, ptrE, T_ty, T_size, tTy, tSize, fieldOf, faddrV, pureOp, memOp, lenV, loadV, scal, cellAt, setC, blkAt, Data.len, resV, flatV, flat2, Op.operands, Call.operands, List.getD, List.getElem?_cons_zero, List.getElem?_cons_succ, Option.getD_some, List.set, List.map, List.toList_toArray, Option.map_some, true_and, and_true, and_self, implies_true, imp_self, if_true, if_false, eq_self, ne_eq, not_false_eq_true, forall_const, reduceCtorEq, Nat.zero_add, Nat.add_zero, List.append_toArray, List.nil_append, Nat.reduceSub, Nat.succ_ne_self, SV.int.injEq]
  by_cases h1 : b.length < r.1 + k
  · have e1 : rN b k r = (r.1, 4) := by unfold rN; rw [if_neg (by simpa using h0), if_pos h1]
    have e2 : rV b k r = 0 := by unfold rV; rw [if_neg (by simpa using h0), if_pos h1]
    rw [if_pos (decide_eq_true (by omega)), e1, e2]
    exact ⟨SubB_refl, by omega, rfl⟩
  rw [if_neg (by simp; omega)]
  have e1 : rN b k r = (r.1 + k, 0) := by unfold rN; rw [if_neg (by simpa using h0), if_neg h1]
  have e2 : rV b k r = getV b r.1 k := by unfold rV; rw [if_neg (by simpa using h0), if_neg h1]
  rw [e1, e2]
  have hG := Get_meets b r.1 k hb hB
  have wa : IntKind.i64.wrap ((r.1 : Int) + k) = ((r.1 + k : Nat) : Int) := by rw [w64 (by omega) (by omega)]; omega
  refine draw_go TO 15 100 mixed_ok (by decide +kernel) ?_
  simp only [hn, rdC, retC, rI, List.take_succ_cons, List.take_zero, List.drop_succ_cons, List.drop_zero, pureOpC, gloadV, GT, unc, isEff, absD, pureStep, absRun, absOps, absOp, evO, ungd, gdP, gdPs, setD, binI, binV, ptrE, binS, T_ty, T_size, tTy, tSize, fieldOf, faddrV, pureOp, memOp, loadV, scal, cellAt, blkAt, elemV, Data.len, Data.esz, resV, flatV, flat2, Op.operands, List.getD, List.getElem?_cons_zero, List.getElem?_cons_succ, Option.getD_some, List.set, List.map, List.toList_toArray, Option.isSome, true_and, and_true, and_self, implies_true, imp_self, if_true, if_false, eq_self, ne_eq, not_false_eq_true, forall_const, reduceCtorEq, Nat.zero_add, Nat.add_zero, Nat.reduceSub, Nat.succ_ne_self]
  refine callDS_go TO (fun s' h' => HOps_go TO 100 h') hG Tryd.func78 (by decide +kernel) rfl rfl rfl SubB_refl ?_
  simp only [hn, rdC, retC, rI, wa, h0, pureOpC, unc, isEff, absD, pureStep, absRun, absOps, absOp, evO, ungd, gdP, gdPs, setD, binI, binV, ptrE, T_ty, T_size, tTy, tSize, fieldOf, faddrV, extractV, pureOp, memOp, loadV, scal, cellAt, setC, blkAt, resV, ownN, nodup, bares, bare, bare0, flatV, flat2, guardIs, callP, callS, argS, mAs, mA, mA0, mB0, lowD, allNotIn, impN, impB, impT, packS, delL, Op.operands, List.getD, List.getElem?_cons_zero, List.getElem?_cons_succ, Option.getD_some, List.set, List.map, List.toList_toArray, Option.map_some, true_and, and_true, and_self, if_true, if_false, eq_self, ne_eq, not_false_eq_true, Nat.zero_add, Int.reduceBNe, List.append_nil, Nat.reduceSub, Nat.succ_ne_self, Bool.and_self]
  exact ⟨SubB_refl, by omega⟩

set_option maxHeartbeats 1000000 in
theorem fe_inC {X : Ctx} {b0 : List (Nat × Nat × Blk)} {n g c0 : Nat} {b : List Int} {r : Nat × Int}  {tail : List SV} (hn : fnd b0 n = some (g, rdC b r tail))
    (hb : b.length ≤ 140737488351232) (hB : Bytes b) (hr : r.1 ≤ b.length)  :
    InC Tryd.prog X 49 [.ptr n g 0] b0 c0 (.int .i64 (rEnd b r)) (upd b0 n g (rdC b (r.1, rEnd b r) tail)) (c0 + 8) := by
  refine inC_go TO 5000 Tryd.func49 rfl (absRun_ok TO 100 _ _ ?_)
  simp only [Tryd.ntmps49, Tryd.results49, rdC, pureOpC, absRun, absOps, absOp, evO, constSV, ungd, gdP, gdPs, setD, Op.operands, List.set, List.toList_toArray, true_and, and_self, Nat.zero_add, List.cons_append, List.nil_append, List.length_cons, List.length_nil, Nat.reduceSub, List.replicate_succ, List.replicate_zero]
  refine draw_go TO 17 100 mixed_ok (by decide +kernel) ?_
  simp only [hn, rdC, retC, rI, fnd_same, List.take_succ_cons, List.take_zero, List.drop_succ_cons, List.drop_zero, pureOpC, gloadV, GT, unc, isEff, absD, pureStep, absRun, absOps, absOp, evO, constSV, ungd, gdP, gdPs, setD, binI, binV, ptrE, T_ty, T_size, tTy, tSize, fieldOf, faddrV, pickV, pureOp, guardOf, memOp, lenV, loadV, scal, cellAt, setC, blkAt, elemV, Data.len, Data.esz, resV, flatV, flat2, Op.operands, Call.operands, List.getD, List.getElem?_cons_zero, List.getElem?_cons_succ, Option.getD_some, List.set, List.map, List.toList_toArray, List.getElem?_toArray, Option.bind_some, Option.map_some, true_and, and_true, and_self, implies_true, imp_self, if_true, if_false, eq_self, ne_eq, not_false_eq_true, forall_const, reduceCtorEq, Nat.zero_add, Nat.add_zero, Bool.cond_false_right, List.append_toArray, List.nil_append, Nat.reduceSub, Nat.succ_ne_self, SV.int.injEq]
  have eE : rEnd b r = if r.2 = 0 ∧ r.1 ≠ b.length then 5 else r.2 := rfl
  by_cases h1 : r.2 = 0 ∧ r.1 ≠ b.length
  · rw [if_pos h1] at eE
    rw [if_pos (by simp; omega), eE]
    exact ⟨SubB_refl, by omega, rfl⟩
  · rw [if_neg h1] at eE
    rw [if_neg (by simp; omega), eE]
    exact ⟨SubB_same hn, by omega, rfl⟩

set_option maxHeartbeats 1000000 in
theorem fw_inC {X : Ctx} {b0 : List (Nat × Nat × Blk)} {n g m gm c0 : Nat} {l : List Int} {x : Int} {k : Nat} {tail : List SV} (hn : fnd b0 n = some (g, .cells (.sl m gm 0 1 0 l.length :: tail))) (hm : fnd b0 m = some (gm, .vec (.ints .u8 l)))
    (hnm : n ≠ m) (hnK : n ≠ 5020) (hI : fnd b0 90176 = none) (hl : l.length ≤ 1000000000) (hk : szB k = true) (h0 : 0 ≤ x) (hx : x < 256 ^ k) (hx2 : x < 18446744073709551616) :
    InC Tryd.prog X 36 [.ptr n g 0, .int .u64 x, .int .i64 k] b0 c0 (.tup []) (wrU b0 n g m 5020 (c0 + 2) (l ++ digs k x) (l ++ digs k x).length tail) (c0 + 12) := by
  have hk8 : (k : Int) ≤ 8 := by rcases szB_cases hk with h | h | h | h <;> omega
  have hQ := Put_meets x k h0 hx2
  rw [putL_k hk hx, putE_k hk hx] at hQ
  have hd := digs_length k x
  have ht : (digs k x).take k = digs k x := List.take_of_length_le (Nat.le_of_eq hd)
  have hmI : m ≠ 90176 := by rintro rfl; rw [hI] at hm; cases hm
  have hnI : n ≠ 90176 := by rintro rfl; rw [hI] at hn; cases hn
  refine inC_go TO 5000 Tryd.func36 rfl (absRun_ok TO 100 _ _ ?_)
  simp only [Tryd.ntmps36, Tryd.results36, pureOpC, absRun, absOps, absOp, evO, ungd, gdP, gdPs, setD, pureOp, memOp, Op.operands, List.getD, List.getElem?_cons_zero, List.getElem?_cons_succ, Option.getD_some, List.set, List.toList_toArray, true_and, and_self, Nat.zero_add, List.cons_append, List.nil_append, List.length_cons, List.length_nil, Nat.reduceAdd, Nat.reduceSub, List.replicate_succ, List.replicate_zero]
  refine call_go TO 0 hQ Tryd.func60 (by decide +kernel) rfl rfl rfl ?_
  simp only [hd, pureOpC, unc, absRun, absOps, absOp, evO, ungd, gdP, gdPs, setD, extractV, pureOp, notIn, Data.len, Data.esz, ownN, nodup, bares, bare, bare0, bareD, guardIs, callP, callS, argS, mAs, mA, mA0, mB0, allNotIn, nm, impN, impB, impT, packS, delL, Op.operands, List.getD, List.getElem?_cons_zero, List.getElem?_cons_succ, Option.getD_some, List.set, List.map, List.toList_toArray, true_and, and_self, eq_self, Nat.add_zero, List.append_nil, Nat.reduceAdd, Nat.reduceMul, Bool.and_self]
  refine absRun_ok TO 100 _ _ ?_
  simp only [blkAt, fnd_upd, fnd_del, mv, hn, hm, hd, ht, hnm, hnK, hmI, hnI, ne_eq, not_false_eq_true, if_true, if_false, List.drop_zero, pureOpC, unc, fitT, absRun, absOps, absOp, evO, ungd, gdP, gdPs, setD, T_ty, T_size, T_bytes, T_zero, tTy, tSize, tBytes, tZero, fieldOf, faddrV, pureOp, memOp, loadV, notIn, dataOf, appD, isSrc, scal, zI, cellAt, setC, blkAt, mv, Data.len, Data.esz, Data.sub, Lim.add, Op.operands, Call.operands, List.getD, List.getElem?_cons_zero, List.getElem?_cons_succ, Option.getD_some, List.set, List.map, List.toList_toArray, Option.isSome, true_and, and_true, and_self, if_true, if_false, eq_self, ne_eq, not_false_eq_true, Nat.zero_add, Nat.add_zero, Nat.le_refl, List.append_toArray, List.nil_append, Nat.reduceAdd, Nat.reduceSub, Nat.reduceEqDiff, Nat.succ_ne_self, retC]
  have hz : (l ++ digs k x).length = l.length + k := by rw [List.length_append, hd]
  exact ⟨⟨by omega, by omega⟩, over_sub hI, by omega⟩

end Go.Proofs.YtakgefinmlomdaaDoor.Abs

/- OWN LIBRARY: a closure over a receiver (a method value), called, by what the method does to its caller's memory. -/
set_option linter.unusedVariables false
set_option linter.unusedSimpArgs false
set_option maxRecDepth 100000
namespace Go.Proofs.YtakgefinmlomdaaDoor.Abs
open Go

section
variable {P : Program} {T : Tab} {X : Ctx} {s : St} {σ : Env} {w : World} {a : Act}

theorem inC_callV (hR : R X s σ w a) {f : FuncId} {args : List SV} {b' : List (Nat × Nat × Blk)} {c1 d : Nat} {x : SV} (hC : InC P X f args s.b (s.c.c + 1) x b' c1) {vals : Array Value}
    (hsz : vals.size = args.length) (hvs : ∀ (j : Nat) (y : SV), args[j]? = some y → ∃ v, vals[j]? = some v ∧ V2 X s.b s.c σ w y v) :
    Calls P f vals w fun e w' => ∃ v σ', e = .returned v ∧ R X ⟨s.t.set d x, b', ⟨c1, [], s.c.o⟩⟩ σ' w' (a.put (some d) v) ∧ Tr X s.b s.c σ w b' ⟨c1, [], s.c.o⟩ σ' w' := by
  have hb := R_raise (c1 := s.c.c + 1) (o := 0) hR (Nat.lt_succ_self _)
  have hin : R X ⟨args, s.b, ⟨s.c.c + 1, [], 0⟩⟩ σ w ⟨vals, []⟩ := by
    refine { hb with sz := hsz, tm := fun j hj => ?_, df := rfl }
    obtain ⟨y, hy⟩ : ∃ y, args[j]? = some y := ⟨args[j], by simp⟩
    obtain ⟨v, hv, hV⟩ := hvs j y hy
    have e1 : args.getD j .any = y := by simp only [List.getD]; rw [hy]; rfl
    have e2 : vals.getD j undef = v := by rw [Array.getD_eq_getD_getElem?, hv]; rfl
    show V X s.b ⟨s.c.c + 1, [], 0⟩ σ w (args.getD j .any) (vals.getD j undef)
    rw [e1, e2]
    exact V_of_V2 (hV.tr (Tr_raise (Nat.lt_succ_self _)))
  refine (hC σ w _ hin).mono ?_
  rintro e w' ⟨v, σ', rfl, hv, hR', hT⟩
  have t3 : Tr X b' ⟨c1, [], 0⟩ σ' w' b' ⟨c1, [], s.c.o⟩ σ' w' := ⟨fun _ _ h => h, fun _ _ h _ => ⟨h, rfl⟩, fun _ _ h => ⟨rfl, h⟩, fun _ _ _ _ _ _ => Nat.le_refl _⟩
  have hT2 : Tr X s.b s.c σ w b' ⟨c1, [], s.c.o⟩ σ' w' := (Tr_raise (Nat.lt_succ_self _)).trans (hT.trans t3)
  have ht := put_tm (dst := some d) hR.sz (fun i hi => (hR.tm i hi).tr hT2) (V_of_V2 (hv.tr t3))
  have hR2 := R_off (o := s.c.o) hR'
  exact ⟨v, σ', rfl, { hR2 with sz := ht.1, tm := ht.2, df := hR.df }, hT2⟩

/-- A method value is called. -/
theorem inCclo_ops (TO : TabOk P T) {ops : Array Oper} {o : Oper} {rest : List Oper} {k : List Item} {Φ : St → Prop} {f : FuncId} {fn : Func} {y : Operand} {arz : Array Operand} {ts : Array TypeId} {d : Nat} {first args : List SV} {b' : List (Nat × Nat × Blk)} {c1 : Nat} {x : SV} (n : Nat)
    (hC : InC P X f (first ++ args) s.b (s.c.c + 1) x b' c1) (hf : P.funcs[f]? = some fn) (hname : (fn.name == "runtime.NumGoroutine") = false) (hb : fn.body.isSome = true)
    (ho : o.op = .call { callee := .value y, args := arz, argTypes := ts }) (hy : ungd (evO s.t y) = .clo (.func f) first []) (hd : o.dst = some d)
    (h : (argC s.t arz.toList = args ∧ guardIs ops s.t true o.guard ∧ gdPs s.t true (y :: arz.toList)) ∧ absOps P X T ops k Φ (absRun P X T Φ n k) rest ⟨s.t.set d x, b', ⟨c1, [], s.c.o⟩⟩) : HOps P X ops (o :: rest) k s Φ := by
  obtain ⟨⟨ha, hg, hgd⟩, h⟩ := h
  intro i hi σ w a hR
  obtain ⟨ho', hrest⟩ := ops_at hi
  have hw : Region.wanted o (yielded ops a.tmps) = true := by
    cases e : o.guard with
    | none => simp [Region.wanted, e]
    | some jw => obtain ⟨j, w'⟩ := jw; rw [e] at hg; simp only [Region.wanted, e]; exact guardOf_ok hR hg
  have hV := V_ungd (V_evO hR y) hgd.1 rfl
  rw [hy] at hV
  obtain ⟨vs, us, e0, h1, h2⟩ := hV
  have hus : us = #[] := by
    have := All1_len h2
    simpa using this.symm
  subst hus
  have hvl := All1_len h1
  simp only [Array.length_toList] at hvl
  rw [List.length_cons, List.range'_succ]
  refine Fins.opCall (f := f) (args := vs ++ (arz.toList.map a.eval).toArray) (w' := w) ho' hw ?_ ?_
  · simp only [execOp, ho, resolve]
    have e2 : (arz.toList.map a.eval).toArray = arz.map a.eval := Array.ext' (by rw [Array.toList_map])
    simp [e0, Deferred.ofValue, invoke, run_callFunc hf hb hname, e2]
  · refine (inC_callV (d := d) hR hC ?_ ?_).mono ?_
    · rw [← ha]; simp [argC, hvl]
    · intro j z hz
      by_cases hj : j < first.length
      · rw [List.getElem?_append_left hj] at hz
        obtain ⟨v, hv, hV⟩ := All1_get h1 hz
        exact ⟨v, by rw [Array.getElem?_append_left (by omega)]; simpa using hv, V2_of_V1 hV⟩
      · rw [List.getElem?_append_right (by omega), ← ha] at hz
        obtain ⟨v, hv, hV⟩ := evalsC hR hgd.2 hz
        exact ⟨v, by rw [Array.getElem?_append_right (by omega), ← hvl, List.getElem?_toArray]; exact hv, hV⟩
    · rintro e w' ⟨v, σ', rfl, hR', hT⟩
      exact ⟨v, rfl, by rw [hd]; exact (HOps_go TO n h (i + 1) hrest).after hR' hT⟩

end

end Go.Proofs.YtakgefinmlomdaaDoor.Abs

/- file: numbers of a size, method values, counted bytes. -/
set_option linter.unusedVariables false
set_option linter.unusedSimpArgs false
set_option maxRecDepth 100000
namespace Go.Proofs.YtakgefinmlomdaaDoor.Abs
open Go Go.Proofs

theorem fClone_meets (b : List Int) (hb : b.length ≤ 140737488355328) : Meets Tryd.prog 66 [.v (.view false (.ints .u8 b))] [.own (.ints .u8 b)] := by
  refine meets_go TO 100 Tryd.func66 rfl (fun X => ?_)
  simp only [Tryd.ntmps66, Tryd.results66, pureOpC, unc, svs, blks, AV.sv, absRun, absOps, absOp, evO, constSV, ungd, gdP, gdPs, setD, binV, ptrE, pureOp, memOp, Op.operands, List.getD, List.getElem?_cons_zero, List.getElem?_cons_succ, Option.getD_some, List.set, List.toList_toArray, true_and, and_self, Nat.zero_add, List.cons_append, List.nil_append, List.length_cons, List.length_nil, Nat.reduceAdd, Nat.reduceSub, List.replicate_succ, List.replicate_zero]
  refine nilcmp_ops TO rfl rfl rfl rfl rfl (fun r hr => HOps_go TO 100 ?_)
  cases r with
  | true =>
    have h0 : b.length = 0 := hr rfl
    simp only [pureOpC, unc, fitT, absRun, absOps, absOp, evO, constSV, ungd, gdP, gdPs, setD, T_ty, T_size, T_bytes, T_zero, tTy, tSize, tBytes, tZero, pureOp, memOp, newV, notIn, dataOf, appD, isSrc, elemsOf, intsOf, zI, blkAt, fnd, upd, del, mv, Data.len, Data.esz, Lim.add, retP, resV, retQ, rAs, rA, ownN, nodup, bares, bare, bareD, Op.operands, Call.operands, List.getD, List.getElem?_cons_zero, List.getElem?_cons_succ, Option.getD_some, List.set, List.map, List.toList_toArray, true_and, and_true, and_self, if_true, if_false, eq_self, Nat.zero_add, List.append_toArray, List.nil_append, List.length_nil, Nat.reduceAdd, Nat.reduceEqDiff, Nat.reduceLeDiff, Bool.and_self]
    exact h0
  | false =>
    simp only [pureOpC, unc, fitT, absRun, absOps, absOp, evO, constSV, ungd, gdP, gdPs, setD, T_ty, T_size, T_bytes, T_zero, tTy, tSize, tBytes, tZero, pureOp, memOp, newV, notIn, dataOf, appD, isSrc, elemsOf, intsOf, zI, blkAt, fnd, upd, del, mv, Data.len, Data.esz, Lim.add, retP, resV, retQ, rAs, rA, ownN, nodup, bares, bare, bareD, Op.operands, Call.operands, List.getD, List.getElem?_cons_zero, List.getElem?_cons_succ, Option.getD_some, List.set, List.map, List.toList_toArray, true_and, and_true, and_self, if_true, if_false, eq_self, Bool.false_eq_true, Nat.zero_add, List.append_toArray, List.nil_append, List.length_nil, Nat.reduceAdd, Nat.reduceEqDiff, Nat.reduceLeDiff, Bool.and_self]
    exact ⟨by omega, by omega⟩

set_option maxHeartbeats 1000000 in
theorem fn1_inC {X : Ctx} {b0 : List (Nat × Nat × Blk)} {n g c0 : Nat} {b : List Int} {r : Nat × Int} {tail : List SV} (hn : fnd b0 n = some (g, rdC b r tail))
    (hb : b.length ≤ 140737488351232) (hB : Bytes b) (hr : r.1 ≤ b.length) :
    InC Tryd.prog X 55 [.ptr n g 0] b0 c0 (.int .u64 (rV b 1 r)) (upd b0 n g (rdC b (rN b 1 r) tail)) (c0 + 24) := by
  refine inC_go TO 5000 Tryd.func55 rfl (absRun_ok TO 100 _ _ ?_)
  simp only [Tryd.ntmps55, Tryd.results55, rdC, pureOpC, absRun, absOps, absOp, evO, constSV, ungd, gdP, gdPs, setD, pureOp, memOp, Op.operands, List.getD, List.getElem?_cons_zero, Option.getD_some, List.set, List.toList_toArray, true_and, and_self, Nat.zero_add, List.cons_append, List.nil_append, List.length_cons, List.length_nil, Nat.reduceSub, List.replicate_succ, List.replicate_zero]
  refine inC_ops TO 100 (fn_inC (k := 1) hn hb hB hr rfl) Tryd.func65 (by decide +kernel) rfl rfl rfl ⟨⟨rfl, rfl, by simp only [evO, constSV, gdP, gdPs, List.getD, List.getElem?_cons_zero, List.getElem?_cons_succ, Option.getD_some, and_self]⟩, ?_⟩
  simp only [rdC, retC, rI, pureOpC, absRun, absOps, absOp, evO, ungd, gdP, gdPs, setD, resV, flatV, flat2, Op.operands, List.getD, List.getElem?_cons_zero, List.getElem?_cons_succ, Option.getD_some, List.set, List.map, List.toList_toArray, true_and, and_true, and_self, eq_self, retC, rI]
  first | exact ⟨SubB_refl, by omega, rfl⟩ | exact ⟨SubB_refl, by omega⟩

set_option maxHeartbeats 1000000 in
theorem fn2_inC {X : Ctx} {b0 : List (Nat × Nat × Blk)} {n g c0 : Nat} {b : List Int} {r : Nat × Int} {tail : List SV} (hn : fnd b0 n = some (g, rdC b r tail))
    (hb : b.length ≤ 140737488351232) (hB : Bytes b) (hr : r.1 ≤ b.length) :
    InC Tryd.prog X 48 [.ptr n g 0] b0 c0 (.int .u64 (rV b 2 r)) (upd b0 n g (rdC b (rN b 2 r) tail)) (c0 + 24) := by
  refine inC_go TO 5000 Tryd.func48 rfl (absRun_ok TO 100 _ _ ?_)
  simp only [Tryd.ntmps48, Tryd.results48, rdC, pureOpC, absRun, absOps, absOp, evO, constSV, ungd, gdP, gdPs, setD, pureOp, memOp, Op.operands, List.getD, List.getElem?_cons_zero, Option.getD_some, List.set, List.toList_toArray, true_and, and_self, Nat.zero_add, List.cons_append, List.nil_append, List.length_cons, List.length_nil, Nat.reduceSub, List.replicate_succ, List.replicate_zero]
  refine inC_ops TO 100 (fn_inC (k := 2) hn hb hB hr rfl) Tryd.func65 (by decide +kernel) rfl rfl rfl ⟨⟨rfl, rfl, by simp only [evO, constSV, gdP, gdPs, List.getD, List.getElem?_cons_zero, List.getElem?_cons_succ, Option.getD_some, and_self]⟩, ?_⟩
  simp only [rdC, retC, rI, pureOpC, absRun, absOps, absOp, evO, ungd, gdP, gdPs, setD, resV, flatV, flat2, Op.operands, List.getD, List.getElem?_cons_zero, List.getElem?_cons_succ, Option.getD_some, List.set, List.map, List.toList_toArray, true_and, and_true, and_self, eq_self, retC, rI]
  first | exact ⟨SubB_refl, by omega, rfl⟩ | exact ⟨SubB_refl, by omega⟩

set_option maxHeartbeats 1000000 in
theorem fn4_inC {X : Ctx} {b0 : List (Nat × Nat × Blk)} {n g c0 : Nat} {b : List Int} {r : Nat × Int} {tail : List SV} (hn : fnd b0 n = some (g, rdC b r tail))
    (hb : b.length ≤ 140737488351232) (hB : Bytes b) (hr : r.1 ≤ b.length) :
    InC Tryd.prog X 45 [.ptr n g 0] b0 c0 (.int .u64 (rV b 4 r)) (upd b0 n g (rdC b (rN b 4 r) tail)) (c0 + 24) := by
  refine inC_go TO 5000 Tryd.func45 rfl (absRun_ok TO 100 _ _ ?_)
  simp only [Tryd.ntmps45, Tryd.results45, rdC, pureOpC, absRun, absOps, absOp, evO, constSV, ungd, gdP, gdPs, setD, pureOp, memOp, Op.operands, List.getD, List.getElem?_cons_zero, Option.getD_some, List.set, List.toList_toArray, true_and, and_self, Nat.zero_add, List.cons_append, List.nil_append, List.length_cons, List.length_nil, Nat.reduceSub, List.replicate_succ, List.replicate_zero]
  refine inC_ops TO 100 (fn_inC (k := 4) hn hb hB hr rfl) Tryd.func65 (by decide +kernel) rfl rfl rfl ⟨⟨rfl, rfl, by simp only [evO, constSV, gdP, gdPs, List.getD, List.getElem?_cons_zero, List.getElem?_cons_succ, Option.getD_some, and_self]⟩, ?_⟩
  simp only [rdC, retC, rI, pureOpC, absRun, absOps, absOp, evO, ungd, gdP, gdPs, setD, resV, flatV, flat2, Op.operands, List.getD, List.getElem?_cons_zero, List.getElem?_cons_succ, Option.getD_some, List.set, List.map, List.toList_toArray, true_and, and_true, and_self, eq_self, retC, rI]
  first | exact ⟨SubB_refl, by omega, rfl⟩ | exact ⟨SubB_refl, by omega⟩

set_option maxHeartbeats 1000000 in
theorem fn8_inC {X : Ctx} {b0 : List (Nat × Nat × Blk)} {n g c0 : Nat} {b : List Int} {r : Nat × Int} {tail : List SV} (hn : fnd b0 n = some (g, rdC b r tail))
    (hb : b.length ≤ 140737488351232) (hB : Bytes b) (hr : r.1 ≤ b.length) :
    InC Tryd.prog X 44 [.ptr n g 0] b0 c0 (.int .u64 (rV b 8 r)) (upd b0 n g (rdC b (rN b 8 r) tail)) (c0 + 24) := by
  refine inC_go TO 5000 Tryd.func44 rfl (absRun_ok TO 100 _ _ ?_)
  simp only [Tryd.ntmps44, Tryd.results44, rdC, pureOpC, absRun, absOps, absOp, evO, constSV, ungd, gdP, gdPs, setD, pureOp, memOp, Op.operands, List.getD, List.getElem?_cons_zero, Option.getD_some, List.set, List.toList_toArray, true_and, and_self, Nat.zero_add, List.cons_append, List.nil_append, List.length_cons, List.length_nil, Nat.reduceSub, List.replicate_succ, List.replicate_zero]
  refine inC_ops TO 100 (fn_inC (k := 8) hn hb hB hr rfl) Tryd.func65 (by decide +kernel) rfl rfl rfl ⟨⟨rfl, rfl, by simp only [evO, constSV, gdP, gdPs, List.getD, List.getElem?_cons_zero, List.getElem?_cons_succ, Option.getD_some, and_self]⟩, ?_⟩
  simp only [rdC, retC, rI, pureOpC, absRun, absOps, absOp, evO, ungd, gdP, gdPs, setD, resV, flatV, flat2, Op.operands, List.getD, List.getElem?_cons_zero, List.getElem?_cons_succ, Option.getD_some, List.set, List.map, List.toList_toArray, true_and, and_true, and_self, eq_self, retC, rI]
  first | exact ⟨SubB_refl, by omega, rfl⟩ | exact ⟨SubB_refl, by omega⟩

set_option maxHeartbeats 1000000 in
theorem fs2_inC {m e : Int} {X : Ctx} {b0 : List (Nat × Nat × Blk)} {n g c0 : Nat} {b : List Int} {r : Nat × Int} {tail : List SV} (hn : fnd b0 n = some (g, rdC b r tail))
    (hb : b.length ≤ 140737488351232) (hB : Bytes b) (hr : r.1 ≤ b.length) :
    InC Tryd.prog X 47 [.ptr n g 0, .clo (.func 48) [.ptr n g 0] [], .int .u64 m, .int .i64 e] b0 c0 (.int .u64 (rV b 2 r)) (upd b0 n g (rdC b (rM b 2 m e r) tail)) (c0 + 40) := by
  have hM : rM b 2 m e r = if (rN b 2 r).2 = 0 ∧ m < rV b 2 r then ((rN b 2 r).1, e) else rN b 2 r := rfl
  refine inC_go TO 5000 Tryd.func47 rfl (absRun_ok TO 100 _ _ ?_)
  simp only [Tryd.ntmps47, Tryd.results47, rdC, pureOpC, absRun, absOps, absOp, evO, constSV, ungd, gdP, gdPs, setD, pureOp, memOp, Op.operands, List.getD, List.getElem?_cons_zero, List.getElem?_cons_succ, Option.getD_some, List.set, List.toList_toArray, true_and, and_self, Nat.zero_add, List.cons_append, List.nil_append, List.length_cons, List.length_nil, Nat.reduceAdd, Nat.reduceSub, List.replicate_succ, List.replicate_zero]
  refine inCclo_ops TO (first := [.ptr n g 0]) (args := []) 100 (fn2_inC hn hb hB hr) Tryd.func48 (by decide +kernel) rfl rfl rfl rfl ⟨⟨rfl, by simp only [guardIs, eq_self], by simp only [evO, gdP, gdPs, List.getD, List.getElem?_cons_zero, List.getElem?_cons_succ, Option.getD_some, and_self]⟩, ?_⟩
  rw [hM]
  generalize rN b 2 r = q at *
  generalize rV b 2 r = v at *
  simp only [rdC, retC, rI, fnd_same, upd_same, pureOpC, unc, absRun, absOps, absOp, evO, constSV, ungd, gdP, gdPs, setD, binI, binV, ptrE, T_ty, T_size, tTy, tSize, fieldOf, faddrV, pickV, pureOp, guardOf, memOp, loadV, scal, cellAt, setC, blkAt, resV, flatV, flat2, Op.operands, List.getD, List.getElem?_cons_zero, List.getElem?_cons_succ, Option.getD_some, List.set, List.map, List.toList_toArray, List.getElem?_toArray, Option.bind_some, Option.map_some, true_and, and_true, and_self, implies_true, imp_self, if_true, if_false, eq_self, ne_eq, not_false_eq_true, reduceCtorEq, Nat.zero_add, Bool.cond_false_right, Nat.reduceSub, Nat.succ_ne_self, gt_iff_lt, retC, rI, fnd_same, upd_same]
  by_cases h1 : q.2 = 0 ∧ m < v
  · have c1 : (decide (m < v) && q.2 == 0) = true := by simp; omega
    rw [if_pos h1, if_pos c1]
    first | exact ⟨SubB_refl, by omega, rfl⟩ | exact ⟨SubB_refl, by omega⟩
  · have c1 : ¬ (decide (m < v) && q.2 == 0) = true := by simp; omega
    rw [if_neg h1, if_neg c1]
    first | exact ⟨SubB_refl, by omega, rfl⟩ | exact ⟨SubB_refl, by omega⟩

set_option maxHeartbeats 1000000 in
theorem fs4_inC {m e : Int} {X : Ctx} {b0 : List (Nat × Nat × Blk)} {n g c0 : Nat} {b : List Int} {r : Nat × Int} {tail : List SV} (hn : fnd b0 n = some (g, rdC b r tail))
    (hb : b.length ≤ 140737488351232) (hB : Bytes b) (hr : r.1 ≤ b.length) :
    InC Tryd.prog X 47 [.ptr n g 0, .clo (.func 45) [.ptr n g 0] [], .int .u64 m, .int .i64 e] b0 c0 (.int .u64 (rV b 4 r)) (upd b0 n g (rdC b (rM b 4 m e r) tail)) (c0 + 40) := by
  have hM : rM b 4 m e r = if (rN b 4 r).2 = 0 ∧ m < rV b 4 r then ((rN b 4 r).1, e) else rN b 4 r := rfl
  refine inC_go TO 5000 Tryd.func47 rfl (absRun_ok TO 100 _ _ ?_)
  simp only [Tryd.ntmps47, Tryd.results47, rdC, pureOpC, absRun, absOps, absOp, evO, constSV, ungd, gdP, gdPs, setD, pureOp, memOp, Op.operands, List.getD, List.getElem?_cons_zero, List.getElem?_cons_succ, Option.getD_some, List.set, List.toList_toArray, true_and, and_self, Nat.zero_add, List.cons_append, List.nil_append, List.length_cons, List.length_nil, Nat.reduceAdd, Nat.reduceSub, List.replicate_succ, List.replicate_zero]
  refine inCclo_ops TO (first := [.ptr n g 0]) (args := []) 100 (fn4_inC hn hb hB hr) Tryd.func45 (by decide +kernel) rfl rfl rfl rfl ⟨⟨rfl, by simp only [guardIs, eq_self], by simp only [evO, gdP, gdPs, List.getD, List.getElem?_cons_zero, List.getElem?_cons_succ, Option.getD_some, and_self]⟩, ?_⟩
  rw [hM]
  generalize rN b 4 r = q at *
  generalize rV b 4 r = v at *
  simp only [rdC, retC, rI, fnd_same, upd_same, pureOpC, unc, absRun, absOps, absOp, evO, constSV, ungd, gdP, gdPs, setD, binI, binV, ptrE, T_ty, T_size, tTy, tSize, fieldOf, faddrV, pickV, pureOp, guardOf, memOp, loadV, scal, cellAt, setC, blkAt, resV, flatV, flat2, Op.operands, List.getD, List.getElem?_cons_zero, List.getElem?_cons_succ, Option.getD_some, List.set, List.map, List.toList_toArray, List.getElem?_toArray, Option.bind_some, Option.map_some, true_and, and_true, and_self, implies_true, imp_self, if_true, if_false, eq_self, ne_eq, not_false_eq_true, reduceCtorEq, Nat.zero_add, Bool.cond_false_right, Nat.reduceSub, Nat.succ_ne_self, gt_iff_lt, retC, rI, fnd_same, upd_same]
  by_cases h1 : q.2 = 0 ∧ m < v
  · have c1 : (decide (m < v) && q.2 == 0) = true := by simp; omega
    rw [if_pos h1, if_pos c1]
    first | exact ⟨SubB_refl, by omega, rfl⟩ | exact ⟨SubB_refl, by omega⟩
  · have c1 : ¬ (decide (m < v) && q.2 == 0) = true := by simp; omega
    rw [if_neg h1, if_neg c1]
    first | exact ⟨SubB_refl, by omega, rfl⟩ | exact ⟨SubB_refl, by omega⟩

end Go.Proofs.YtakgefinmlomdaaDoor.Abs

/- file: known, asked. -/
set_option linter.unusedVariables false
set_option linter.unusedSimpArgs false
set_option maxRecDepth 100000
namespace Go.Proofs.YtakgefinmlomdaaDoor.Abs
open Go Go.Proofs

theorem fk_meets (c : Int) (hc : 0 ≤ c) : Meets Tryd.prog 32 [.v (.int .u16 c)] [.v (.bool (fkB c))] := by
  refine meets_go TO 100 Tryd.func32 rfl (fun X => ?_)
  simp only [Tryd.ntmps32, Tryd.results32, pureOpC, unc, svs, blks, AV.sv, absRun, absOps, absOp, evO, constSV, ungd, gdP, gdPs, setD, binI, binV, ptrE, pickV, pureOp, guardOf, retP, resV, retQ, rAs, rA, rA0, ownN, nodup, bares, bare, bare0, Op.operands, List.getD, List.getElem?_cons_zero, List.getElem?_cons_succ, Option.getD_some, List.set, List.map, List.toList_toArray, List.getElem?_toArray, Option.bind_some, true_and, and_true, and_self, implies_true, imp_self, eq_self, Nat.zero_add, Bool.cond_false_right, List.cons_append, List.nil_append, List.length_cons, List.length_nil, Nat.reduceAdd, Nat.reduceSub, List.replicate_succ, List.replicate_zero, Bool.and_self, ge_iff_le]
  unfold fkB
  cases decide (5 ≤ c) <;> rfl

theorem fK_meets (c : Int) (hc : 0 ≤ c) : Meets Tryd.prog 37 [.v (.int .u16 c)] [.v (.bool (fkB c))] := by
  refine meets_go TO 100 Tryd.func37 rfl (fun X => ?_)
  simp only [Tryd.ntmps37, Tryd.results37, pureOpC, unc, svs, blks, AV.sv, absRun, absOps, absOp, evO, constSV, ungd, gdP, gdPs, setD, binI, binV, ptrE, pickV, pureOp, guardOf, retP, resV, retQ, rAs, rA, rA0, ownN, nodup, bares, bare, bare0, Op.operands, List.getD, List.getElem?_cons_zero, List.getElem?_cons_succ, Option.getD_some, List.set, List.map, List.toList_toArray, List.getElem?_toArray, Option.bind_some, true_and, and_true, and_self, implies_true, imp_self, eq_self, Nat.zero_add, Bool.cond_false_right, List.cons_append, List.nil_append, List.length_cons, List.length_nil, Nat.reduceAdd, Nat.reduceSub, List.replicate_succ, List.replicate_zero, Bool.and_self, ge_iff_le]
  unfold fkB
  cases decide (5 ≤ c) <;> rfl

/-- An Ask, its lists told as they are. -/
def Ask.cellsW (a : Ask) (dat lk : SV) : List SV := [.nil, .arr .u8 16 a.guid, .arr .u8 32 a.proof, .str a.user, .str a.share, .int .u32 a.access, .int .u32 a.sharing, .int .u32 a.way, .int .u32 a.options, .int .u8 a.level, .int .u8 a.durable, .int .u64 a.file, .str a.name, .int .u64 a.at_, .int .u32 a.n, dat, lk, .int .u16 a.most, .str a.pattern, .str a.after, .int .u16 a.cls, .int .u64 a.size, .bool a.on]
def faC (c : Int) (a : Ask) : List SV := (faW c a).cellsW (if c = 9 then .view false (.ints .u8 a.data) else .nil) (if c = 10 then .view false (.locks a.locks) else .nil)

set_option maxHeartbeats 4000000 in
theorem fasked_inC {X : Ctx} {b0 : List (Nat × Nat × Blk)} {c0 : Nat} (c : Int) (a : Ask) (h3 : fnd b0 5003 = none) (h4 : fnd b0 5004 = none) (h5 : fnd b0 5005 = none) :
    InC Tryd.prog X 34 [.int .u16 c, a.sv false] b0 c0 (.agg (faC c a)) b0 (c0 + 30) := by
  refine inC_go TO 5000 Tryd.func34 rfl (absRun_ok TO 100 _ _ ?_)
  simp only [Tryd.ntmps34, Tryd.results34, Ask.sv, Ask.cells, blkAt, fnd_upd, Nat.reduceEqDiff, if_true, if_false, pureOpC, cntC, unc, absRun, absOps, absOp, evO, constSV, ungd, gdP, gdPs, setD, binI, binV, ptrE, T_ty, T_size, T_zero, tTy, tSize, tZero, fieldOf, faddrV, pureOp, memOp, loadV, newV, notIn, scal, cellsOf, okC, cellAt, takeC, dropC, setC, blkAt, Lim.add, resV, flatV, flat2, Op.operands, List.getD, List.getElem?_cons_zero, List.getElem?_cons_succ, Option.getD_some, List.set, List.map, List.toList_toArray, Option.bind_some, Option.map_some, Option.map_none, true_and, and_true, and_self, if_true, if_false, eq_self, ne_eq, not_false_eq_true, reduceCtorEq, Nat.zero_add, Nat.add_zero, List.cons_append, List.nil_append, List.append_nil, List.length_cons, List.length_nil, Nat.reduceAdd, Nat.reduceSub, Nat.reduceEqDiff, Nat.reduceLeDiff, Nat.reduceLT, Nat.succ_ne_self, List.replicate_succ, List.replicate_zero, Bool.and_self, retC, rI, upd_same]
  by_cases c5 : c = 5
  · subst c5
    simp only [if_true, if_false, eq_self, Bool.false_eq_true, Int.reduceBEq, beq_self_eq_true]
    refine drawI_go TO (fun y : List SV => [(5003, c0 + 1, .cells (a.cells false)), (5005, c0 + 1 + 1, .cells y)]) 14 100 mixed_ok (by decide +kernel) ⟨⟨_, by simp [Ask.cells, fnd_upd], fnd_same _ _ _ _, trivial⟩, ?_⟩
    simp only [Ask.cells, blkAt, fnd_upd, Nat.reduceEqDiff, if_true, if_false, List.take_succ_cons, List.take_zero, List.drop_succ_cons, List.drop_zero, pureOpC, unc, isEff, pureStep, subB, absRun, absOps, absOp, evO, ungd, gdP, gdPs, setD, T_ty, T_size, tTy, tSize, fieldOf, faddrV, pureOp, memOp, loadV, scal, cellAt, setC, blkAt, fnd, Op.operands, List.getD, List.getElem?_cons_zero, List.getElem?_cons_succ, Option.getD_some, List.set, List.toList_toArray, Option.map_some, Option.map_none, Option.isSome, true_and, and_true, and_self, implies_true, if_true, if_false, eq_self, ne_eq, not_false_eq_true, forall_const, reduceCtorEq, Nat.zero_add, Nat.reduceSub, Nat.reduceEqDiff, Nat.reduceLT, Nat.succ_ne_self, absI, upd_same]
    refine ⟨⟨_, rfl⟩, ⟨_, rfl⟩, ⟨_, rfl⟩, ?_⟩
    refine drawI_go TO (fun y : List SV => [(5003, c0 + 1, .cells (a.cells false)), (5005, c0 + 1 + 1, .cells y)]) 14 100 mixed_ok (by decide +kernel) ⟨⟨_, by simp [Ask.cells, fnd_upd], fnd_same _ _ _ _, trivial⟩, ?_⟩
    simp only [Ask.cells, blkAt, fnd_upd, Nat.reduceEqDiff, if_true, if_false, List.take_succ_cons, List.take_zero, List.drop_succ_cons, List.drop_zero, pureOpC, cntC, gloadV, GT, unc, isEff, pureStep, subB, absRun, absOps, absOp, evO, ungd, gdP, gdPs, setD, T_ty, T_size, tTy, tSize, fieldOf, faddrV, pureOp, memOp, loadV, scal, okC, cellAt, takeC, dropC, setC, blkAt, fnd, elemV, Data.len, Data.esz, resV, flatV, flat1, flat2, Op.operands, List.getD, List.getElem?_cons_zero, List.getElem?_cons_succ, Option.getD_some, List.set, List.map, List.toList_toArray, Option.bind_some, Option.map_some, Option.map_none, Option.isSome, true_and, and_true, false_and, and_false, and_self, implies_true, imp_self, if_true, if_false, eq_self, ne_eq, not_false_eq_true, forall_const, reduceCtorEq, Nat.zero_add, Nat.add_zero, List.nil_append, List.append_nil, Nat.reduceAdd, Nat.reduceSub, Nat.reduceEqDiff, Nat.reduceLeDiff, Nat.reduceLT, Nat.succ_ne_self, Bool.and_self, retC, rI, absI, upd_same]
    exact ⟨⟨_, rfl⟩, ⟨_, rfl⟩, ⟨_, rfl⟩, (by intro q w hw; have n1 : q ≠ 5003 := (by rintro rfl; rw [h3] at hw; cases hw); have n2 : q ≠ 5004 := (by rintro rfl; rw [h4] at hw; cases hw); have n3 : q ≠ 5005 := (by rintro rfl; rw [h5] at hw; cases hw); simp only [fnd_upd, n1, n2, n3, if_false]; exact hw), by omega, by simp [faC, faW, Ask.cellsW, askZ]⟩
  have d5 : (c == 5) = false := by simpa using c5
  simp only [d5, if_false, Bool.false_eq_true]
  by_cases c8 : c = 8
  · subst c8
    simp only [if_true, if_false, eq_self, Bool.false_eq_true, Int.reduceBEq, beq_self_eq_true]
    refine drawI_go TO (fun y : List SV => [(5003, c0 + 1, .cells (a.cells false)), (5005, c0 + 1 + 1, .cells y)]) 6 100 mixed_ok (by decide +kernel) ⟨⟨_, by simp [Ask.cells, fnd_upd], fnd_same _ _ _ _, trivial⟩, ?_⟩
    simp only [Ask.cells, blkAt, fnd_upd, Nat.reduceEqDiff, if_true, if_false, List.take_succ_cons, List.take_zero, List.drop_succ_cons, List.drop_zero, pureOpC, cntC, gloadV, GT, unc, isEff, pureStep, subB, absRun, absOps, absOp, evO, ungd, gdP, gdPs, setD, T_ty, T_size, tTy, tSize, fieldOf, faddrV, pureOp, memOp, loadV, scal, okC, cellAt, takeC, dropC, setC, blkAt, fnd, elemV, Data.len, Data.esz, resV, flatV, flat1, flat2, Op.operands, List.getD, List.getElem?_cons_zero, List.getElem?_cons_succ, Option.getD_some, List.set, List.map, List.toList_toArray, Option.bind_some, Option.map_some, Option.map_none, Option.isSome, true_and, and_true, false_and, and_false, and_self, implies_true, imp_self, if_true, if_false, eq_self, ne_eq, not_false_eq_true, forall_const, reduceCtorEq, Nat.zero_add, Nat.add_zero, List.nil_append, List.append_nil, Nat.reduceAdd, Nat.reduceSub, Nat.reduceEqDiff, Nat.reduceLeDiff, Nat.reduceLT, Nat.succ_ne_self, Bool.and_self, retC, rI, absI, upd_same]
    exact ⟨⟨_, rfl⟩, (by intro q w hw; have n1 : q ≠ 5003 := (by rintro rfl; rw [h3] at hw; cases hw); have n2 : q ≠ 5004 := (by rintro rfl; rw [h4] at hw; cases hw); have n3 : q ≠ 5005 := (by rintro rfl; rw [h5] at hw; cases hw); simp only [fnd_upd, n1, n2, n3, if_false]; exact hw), by omega, by simp [faC, faW, Ask.cellsW, askZ]⟩
  have d8 : (c == 8) = false := by simpa using c8
  simp only [d8, if_false, Bool.false_eq_true]
  by_cases c9 : c = 9
  · subst c9
    simp only [if_true, if_false, eq_self, Bool.false_eq_true, Int.reduceBEq, beq_self_eq_true]
    refine drawI_go TO (fun y : List SV => [(5003, c0 + 1, .cells (a.cells false)), (5005, c0 + 1 + 1, .cells y)]) 6 100 mixed_ok (by decide +kernel) ⟨⟨_, by simp [Ask.cells, fnd_upd], fnd_same _ _ _ _, trivial⟩, ?_⟩
    simp only [Ask.cells, blkAt, fnd_upd, Nat.reduceEqDiff, if_true, if_false, List.take_succ_cons, List.take_zero, List.drop_succ_cons, List.drop_zero, pureOpC, cntC, gloadV, GT, unc, isEff, pureStep, subB, absRun, absOps, absOp, evO, ungd, gdP, gdPs, setD, T_ty, T_size, tTy, tSize, fieldOf, faddrV, pureOp, memOp, loadV, scal, okC, cellAt, takeC, dropC, setC, blkAt, fnd, elemV, Data.len, Data.esz, resV, flatV, flat1, flat2, Op.operands, List.getD, List.getElem?_cons_zero, List.getElem?_cons_succ, Option.getD_some, List.set, List.map, List.toList_toArray, Option.bind_some, Option.map_some, Option.map_none, Option.isSome, true_and, and_true, false_and, and_false, and_self, implies_true, imp_self, if_true, if_false, eq_self, ne_eq, not_false_eq_true, forall_const, reduceCtorEq, Nat.zero_add, Nat.add_zero, List.nil_append, List.append_nil, Nat.reduceAdd, Nat.reduceSub, Nat.reduceEqDiff, Nat.reduceLeDiff, Nat.reduceLT, Nat.succ_ne_self, Bool.and_self, retC, rI, absI, upd_same]
    exact ⟨⟨_, rfl⟩, (by intro q w hw; have n1 : q ≠ 5003 := (by rintro rfl; rw [h3] at hw; cases hw); have n2 : q ≠ 5004 := (by rintro rfl; rw [h4] at hw; cases hw); have n3 : q ≠ 5005 := (by rintro rfl; rw [h5] at hw; cases hw); simp only [fnd_upd, n1, n2, n3, if_false]; exact hw), by omega, by simp [faC, faW, Ask.cellsW, askZ]⟩
  have d9 : (c == 9) = false := by simpa using c9
  simp only [d9, if_false, Bool.false_eq_true]
  refine ite_both (fun c10 => ?_) (fun c10 => ?_)
  · have c10 : c = 10 := by simpa using c10
    subst c10
    exact ⟨(by intro q w hw; have n1 : q ≠ 5003 := (by rintro rfl; rw [h3] at hw; cases hw); have n2 : q ≠ 5004 := (by rintro rfl; rw [h4] at hw; cases hw); have n3 : q ≠ 5005 := (by rintro rfl; rw [h5] at hw; cases hw); simp only [fnd_upd, n1, n2, n3, if_false]; exact hw), by omega, by simp [faC, faW, Ask.cellsW, askZ]⟩
  · have c10 : ¬ c = 10 := by simpa using c10
    exact ⟨(by intro q w hw; have n1 : q ≠ 5003 := (by rintro rfl; rw [h3] at hw; cases hw); have n2 : q ≠ 5004 := (by rintro rfl; rw [h4] at hw; cases hw); have n3 : q ≠ 5005 := (by rintro rfl; rw [h5] at hw; cases hw); simp only [fnd_upd, n1, n2, n3, if_false]; exact hw), by omega, by simp [faC, faW, Ask.cellsW, askZ, c5, c8, c9, c10]⟩

def fsC (c : Int) (s : Say) : List SV :=
  [.int .u16 0, .int .u64 (fsW c s).size, .arr .u8 8 [0, 0, 0, 0, 0, 0, 0, 0], .int .u8 (fsW c s).level, .int .u8 (fsW c s).durable, .int .u16 (fsW c s).made, .int .u64 (fsW c s).file, .int .u8 (fsW c s).kind, if c = 8 then .view false (.ints .u8 s.data) else .nil, .int .u32 (fsW c s).n, .nil, .bool false, .bool false]

set_option maxHeartbeats 4000000 in
theorem fsaid_inC {X : Ctx} {b0 : List (Nat × Nat × Blk)} {c0 : Nat} (c : Int) (s : Say) (h3 : fnd b0 5003 = none) (h4 : fnd b0 5004 = none) :
    InC Tryd.prog X 58 [.int .u16 c, s.sv false] b0 c0 (.agg (fsC c s)) b0 (c0 + 12) := by
  have hsub : ∀ x y g g', SubB b0 (upd (upd b0 5003 g x) 5004 g' y) := fun x y g g' n z hz => by
    rw [fnd_upd, fnd_upd]
    have n1 : n ≠ 5004 := by rintro rfl; rw [h4] at hz; cases hz
    have n2 : n ≠ 5003 := by rintro rfl; rw [h3] at hz; cases hz
    rw [if_neg n1, if_neg n2]; exact hz
  refine inC_go TO 5000 Tryd.func58 rfl (absRun_ok TO 100 _ _ ?_)
  simp only [Tryd.ntmps58, Tryd.results58, Say.sv, Say.cells, blkAt, fnd_upd, Nat.reduceEqDiff, if_true, if_false, pureOpC, buildV, fillC, cntC, unc, absRun, absOps, absOp, evO, constSV, ungd, gdP, gdPs, setD, binI, binV, ptrE, T_ty, T_size, T_zero, tTy, tSize, tZero, fieldOf, faddrV, pureOp, memOp, loadV, newV, notIn, scal, cellsOf, okC, cellAt, takeC, dropC, blkAt, Lim.add, resV, flatV, flat2, Op.operands, List.getD, List.getElem?_cons_zero, List.getElem?_cons_succ, Option.getD_some, List.set, List.map, List.all, List.toList_toArray, Option.bind_some, Option.map_some, true_and, and_true, and_self, if_true, if_false, eq_self, ne_eq, not_false_eq_true, reduceCtorEq, Nat.zero_add, Nat.add_zero, Nat.le_refl, List.cons_append, List.nil_append, List.append_nil, List.length_cons, List.length_nil, Nat.reduceAdd, Nat.reduceSub, Nat.reduceEqDiff, Nat.reduceLeDiff, Nat.reduceLT, Nat.succ_ne_self, List.replicate_succ, List.replicate_zero, Bool.and_self, retC, rI, upd_same, Nat.reduceBNe]
  repeat' split
  all_goals simp only [beq_iff_eq] at *
  all_goals first | exact ⟨hsub _ _ _ _, by omega, by simp_all [fsC, fsW, sayZ]⟩

end Go.Proofs.YtakgefinmlomdaaDoor.Abs

/- file: asked of the document. -/
set_option linter.unusedVariables false
set_option linter.unusedSimpArgs false
set_option maxRecDepth 100000
namespace Go.Proofs.YtakgefinmlomdaaDoor.Abs
open Go Go.Proofs

set_option maxHeartbeats 4000000 in
theorem frasked_inC {X : Ctx} {b0 : List (Nat × Nat × Blk)} {c0 : Nat} (c : Int) (a : Ask) (h3 : fnd b0 5003 = none) (h4 : fnd b0 5004 = none) (h5 : fnd b0 5005 = none) :
    InC Tryd.prog X 38 [.int .u16 c, a.sv false] b0 c0 (.agg (faC c a)) b0 (c0 + 30) := by
  refine inC_go TO 5000 Tryd.func38 rfl (absRun_ok TO 100 _ _ ?_)
  simp only [Tryd.ntmps38, Tryd.results38, Ask.sv, Ask.cells, blkAt, fnd_upd, Nat.reduceEqDiff, if_true, if_false, pureOpC, buildV, fillC, cntC, unc, absRun, absOps, absOp, evO, constSV, ungd, gdP, gdPs, setD, binI, binV, ptrE, T_ty, T_size, T_zero, tTy, tSize, tZero, fieldOf, faddrV, pureOp, memOp, loadV, newV, notIn, scal, cellsOf, okC, cellAt, takeC, dropC, setC, blkAt, Lim.add, resV, flatV, flat2, Op.operands, List.getD, List.getElem?_cons_zero, List.getElem?_cons_succ, Option.getD_some, List.set, List.map, List.all, List.toList_toArray, Option.bind_some, Option.map_some, Option.map_none, true_and, and_true, and_self, if_true, if_false, eq_self, ne_eq, not_false_eq_true, reduceCtorEq, Nat.zero_add, Nat.add_zero, List.cons_append, List.nil_append, List.append_nil, List.length_cons, List.length_nil, Nat.reduceAdd, Nat.reduceSub, Nat.reduceEqDiff, Nat.reduceLeDiff, Nat.reduceLT, Nat.succ_ne_self, List.replicate_succ, List.replicate_zero, Bool.and_self, retC, rI, upd_same, Nat.reduceBNe]
  by_cases c5 : c = 5
  · subst c5
    simp only [if_true, if_false, eq_self, Bool.false_eq_true, Int.reduceBEq, beq_self_eq_true]
    refine drawI_go TO (fun y : List SV => [(5003, c0 + 1, .cells (a.cells false)), (5005, c0 + 1 + 1, .cells y)]) 14 100 mixed_ok (by decide +kernel) ⟨⟨_, by simp [Ask.cells, fnd_upd], fnd_same _ _ _ _, trivial⟩, ?_⟩
    simp only [Ask.cells, blkAt, fnd_upd, Nat.reduceEqDiff, if_true, if_false, List.take_succ_cons, List.take_zero, List.drop_succ_cons, List.drop_zero, pureOpC, unc, isEff, pureStep, subB, absRun, absOps, absOp, evO, ungd, gdP, gdPs, setD, T_ty, T_size, tTy, tSize, fieldOf, faddrV, pureOp, memOp, loadV, scal, cellAt, setC, blkAt, fnd, Op.operands, List.getD, List.getElem?_cons_zero, List.getElem?_cons_succ, Option.getD_some, List.set, List.toList_toArray, Option.map_some, Option.map_none, Option.isSome, true_and, and_true, and_self, implies_true, if_true, if_false, eq_self, ne_eq, not_false_eq_true, forall_const, reduceCtorEq, Nat.zero_add, Nat.reduceSub, Nat.reduceEqDiff, Nat.reduceLT, Nat.succ_ne_self, absI, upd_same]
    refine ⟨⟨_, rfl⟩, ⟨_, rfl⟩, ⟨_, rfl⟩, ?_⟩
    refine drawI_go TO (fun y : List SV => [(5003, c0 + 1, .cells (a.cells false)), (5005, c0 + 1 + 1, .cells y)]) 10 100 mixed_ok (by decide +kernel) ⟨⟨_, by simp [Ask.cells, fnd_upd], fnd_same _ _ _ _, trivial⟩, ?_⟩
    simp only [Ask.cells, blkAt, fnd_upd, Nat.reduceEqDiff, if_true, if_false, List.take_succ_cons, List.take_zero, List.drop_succ_cons, List.drop_zero, pureOpC, cntC, gloadV, GT, unc, isEff, pureStep, subB, absRun, absOps, absOp, evO, ungd, gdP, gdPs, setD, T_ty, T_size, tTy, tSize, fieldOf, faddrV, pureOp, memOp, loadV, scal, okC, cellAt, takeC, dropC, setC, blkAt, fnd, elemV, resV, flatV, flat1, flat2, Op.operands, List.getD, List.getElem?_cons_zero, List.getElem?_cons_succ, Option.getD_some, List.set, List.map, List.toList_toArray, Option.bind_some, Option.map_some, Option.map_none, Option.isSome, true_and, and_true, false_and, and_false, and_self, implies_true, imp_self, if_true, if_false, eq_self, ne_eq, not_false_eq_true, forall_const, reduceCtorEq, Nat.zero_add, Nat.add_zero, List.nil_append, List.append_nil, Nat.reduceAdd, Nat.reduceSub, Nat.reduceEqDiff, Nat.reduceLeDiff, Nat.reduceLT, Nat.succ_ne_self, Bool.and_self, retC, rI, absI, upd_same]
    exact ⟨⟨_, rfl⟩, ⟨_, rfl⟩, (by intro q w hw; have n1 : q ≠ 5003 := (by rintro rfl; rw [h3] at hw; cases hw); have n2 : q ≠ 5004 := (by rintro rfl; rw [h4] at hw; cases hw); have n3 : q ≠ 5005 := (by rintro rfl; rw [h5] at hw; cases hw); simp only [fnd_upd, n1, n2, n3, if_false]; exact hw), by omega, by simp [faC, faW, Ask.cellsW, askZ]⟩
  have d5 : (c == 5) = false := by simpa using c5
  simp only [d5, if_false, Bool.false_eq_true]
  by_cases c8 : c = 8
  · subst c8
    simp only [if_true, if_false, eq_self, Bool.false_eq_true, Int.reduceBEq, beq_self_eq_true]
    refine drawI_go TO (fun y : List SV => [(5003, c0 + 1, .cells (a.cells false)), (5005, c0 + 1 + 1, .cells y)]) 6 100 mixed_ok (by decide +kernel) ⟨⟨_, by simp [Ask.cells, fnd_upd], fnd_same _ _ _ _, trivial⟩, ?_⟩
    simp only [Ask.cells, blkAt, fnd_upd, Nat.reduceEqDiff, if_true, if_false, List.take_succ_cons, List.take_zero, List.drop_succ_cons, List.drop_zero, pureOpC, cntC, gloadV, GT, unc, isEff, pureStep, subB, absRun, absOps, absOp, evO, ungd, gdP, gdPs, setD, T_ty, T_size, tTy, tSize, fieldOf, faddrV, pureOp, memOp, loadV, scal, okC, cellAt, takeC, dropC, setC, blkAt, fnd, elemV, resV, flatV, flat1, flat2, Op.operands, List.getD, List.getElem?_cons_zero, List.getElem?_cons_succ, Option.getD_some, List.set, List.map, List.toList_toArray, Option.bind_some, Option.map_some, Option.map_none, Option.isSome, true_and, and_true, false_and, and_false, and_self, implies_true, imp_self, if_true, if_false, eq_self, ne_eq, not_false_eq_true, forall_const, reduceCtorEq, Nat.zero_add, Nat.add_zero, List.nil_append, List.append_nil, Nat.reduceAdd, Nat.reduceSub, Nat.reduceEqDiff, Nat.reduceLeDiff, Nat.reduceLT, Nat.succ_ne_self, Bool.and_self, retC, rI, absI, upd_same]
    exact ⟨⟨_, rfl⟩, (by intro q w hw; have n1 : q ≠ 5003 := (by rintro rfl; rw [h3] at hw; cases hw); have n2 : q ≠ 5004 := (by rintro rfl; rw [h4] at hw; cases hw); have n3 : q ≠ 5005 := (by rintro rfl; rw [h5] at hw; cases hw); simp only [fnd_upd, n1, n2, n3, if_false]; exact hw), by omega, by simp [faC, faW, Ask.cellsW, askZ]⟩
  have d8 : (c == 8) = false := by simpa using c8
  simp only [d8, if_false, Bool.false_eq_true]
  by_cases c9 : c = 9
  · subst c9
    simp only [if_true, if_false, eq_self, Bool.false_eq_true, Int.reduceBEq, beq_self_eq_true]
    refine drawI_go TO (fun y : List SV => [(5003, c0 + 1, .cells (a.cells false)), (5005, c0 + 1 + 1, .cells y)]) 6 100 mixed_ok (by decide +kernel) ⟨⟨_, by simp [Ask.cells, fnd_upd], fnd_same _ _ _ _, trivial⟩, ?_⟩
    simp only [Ask.cells, blkAt, fnd_upd, Nat.reduceEqDiff, if_true, if_false, List.take_succ_cons, List.take_zero, List.drop_succ_cons, List.drop_zero, pureOpC, cntC, gloadV, GT, unc, isEff, pureStep, subB, absRun, absOps, absOp, evO, ungd, gdP, gdPs, setD, T_ty, T_size, tTy, tSize, fieldOf, faddrV, pureOp, memOp, loadV, scal, okC, cellAt, takeC, dropC, setC, blkAt, fnd, elemV, resV, flatV, flat1, flat2, Op.operands, List.getD, List.getElem?_cons_zero, List.getElem?_cons_succ, Option.getD_some, List.set, List.map, List.toList_toArray, Option.bind_some, Option.map_some, Option.map_none, Option.isSome, true_and, and_true, false_and, and_false, and_self, implies_true, imp_self, if_true, if_false, eq_self, ne_eq, not_false_eq_true, forall_const, reduceCtorEq, Nat.zero_add, Nat.add_zero, List.nil_append, List.append_nil, Nat.reduceAdd, Nat.reduceSub, Nat.reduceEqDiff, Nat.reduceLeDiff, Nat.reduceLT, Nat.succ_ne_self, Bool.and_self, retC, rI, absI, upd_same]
    exact ⟨⟨_, rfl⟩, (by intro q w hw; have n1 : q ≠ 5003 := (by rintro rfl; rw [h3] at hw; cases hw); have n2 : q ≠ 5004 := (by rintro rfl; rw [h4] at hw; cases hw); have n3 : q ≠ 5005 := (by rintro rfl; rw [h5] at hw; cases hw); simp only [fnd_upd, n1, n2, n3, if_false]; exact hw), by omega, by simp [faC, faW, Ask.cellsW, askZ]⟩
  have d9 : (c == 9) = false := by simpa using c9
  simp only [d9, if_false, Bool.false_eq_true]
  refine ite_both (fun c10 => ?_) (fun c10 => ?_)
  · have c10 : c = 10 := by simpa using c10
    subst c10
    exact ⟨(by intro q w hw; have n1 : q ≠ 5003 := (by rintro rfl; rw [h3] at hw; cases hw); have n2 : q ≠ 5004 := (by rintro rfl; rw [h4] at hw; cases hw); have n3 : q ≠ 5005 := (by rintro rfl; rw [h5] at hw; cases hw); simp only [fnd_upd, n1, n2, n3, if_false]; exact hw), by omega, by simp [faC, faW, Ask.cellsW, askZ]⟩
  · have c10 : ¬ c = 10 := by simpa using c10
    exact ⟨(by intro q w hw; have n1 : q ≠ 5003 := (by rintro rfl; rw [h3] at hw; cases hw); have n2 : q ≠ 5004 := (by rintro rfl; rw [h4] at hw; cases hw); have n3 : q ≠ 5005 := (by rintro rfl; rw [h5] at hw; cases hw); simp only [fnd_upd, n1, n2, n3, if_false]; exact hw), by omega, by simp [faC, faW, Ask.cellsW, askZ, c5, c8, c9, c10]⟩

end Go.Proofs.YtakgefinmlomdaaDoor.Abs

/- file: counted bytes taken off. -/
set_option linter.unusedVariables false
set_option linter.unusedSimpArgs false
set_option maxRecDepth 100000
namespace Go.Proofs.YtakgefinmlomdaaDoor.Abs
open Go Go.Proofs

end Go.Proofs.YtakgefinmlomdaaDoor.Abs

/- file: same, sameSay; asked and said in plain words. -/
set_option linter.unusedVariables false
set_option linter.unusedSimpArgs false
set_option maxRecDepth 100000
namespace Go.Proofs.YtakgefinmlomdaaDoor.Abs
open Go Go.Proofs

def fsameB (a b : Ask) : Bool := ((a.dialects.length : Int) == (b.dialects.length : Int)) && (a.guid == b.guid) && (a.proof == b.proof) && (a.user.toList == b.user.toList) && (a.share.toList == b.share.toList) && (a.access == b.access) && (a.sharing == b.sharing) && (a.way == b.way) && (a.options == b.options) &&
  (a.level == b.level) && (a.durable == b.durable) && (a.file == b.file) && (a.name.toList == b.name.toList) && (a.at_ == b.at_) && (a.n == b.n) && ((a.data.length : Int) == (b.data.length : Int)) && ((a.locks.length : Int) == (b.locks.length : Int)) && (a.most == b.most) && (a.pattern.toList == b.pattern.toList) && (a.after.toList == b.after.toList) && (a.cls == b.cls) && (a.size == b.size) && (a.on == b.on)

set_option maxHeartbeats 8000000 in
theorem fsame_meets (a b : Ask) : Meets Tryd.prog 33 [.v (a.sv false), .v (b.sv false)] [.v (.bool (fsameB a b))] := by
  unfold fsameB
  obtain ⟨q1, hq1⟩ : ∃ q1 : Bool, (((a.dialects.length : Int) == (b.dialects.length : Int)) && (a.guid == b.guid) && (a.proof == b.proof) && (a.user.toList == b.user.toList) && (a.share.toList == b.share.toList) && (a.access == b.access)) = q1 := ⟨_, rfl⟩
  rw [hq1]
  obtain ⟨q2, hq2⟩ : ∃ q2 : Bool, (q1 && (a.sharing == b.sharing) && (a.way == b.way) && (a.options == b.options) && (a.level == b.level) && (a.durable == b.durable)) = q2 := ⟨_, rfl⟩
  rw [hq2]
  obtain ⟨q3, hq3⟩ : ∃ q3 : Bool, (q2 && (a.file == b.file) && (a.name.toList == b.name.toList) && (a.at_ == b.at_) && (a.n == b.n)) = q3 := ⟨_, rfl⟩
  rw [hq3]
  obtain ⟨q4, hq4⟩ : ∃ q4 : Bool, (q3 && ((a.data.length : Int) == (b.data.length : Int)) && ((a.locks.length : Int) == (b.locks.length : Int)) && (a.most == b.most)) = q4 := ⟨_, rfl⟩
  rw [hq4]
  refine meets_go TO 2 Tryd.func33 rfl (fun X => ?_)
  simp only [Tryd.ntmps33, Tryd.results33, Ask.sv, Ask.cells, List.append_eq, pureOpC, unc, svs, blks, AV.sv, absRun, absOps, absOp, evO, constSV, ungd, gdP, gdPs, setD, pureOp, memOp, newV, notIn, cellsOf, upd, Lim.add, Op.operands, List.getD, List.getElem?_cons_zero, List.getElem?_cons_succ, Option.getD_some, List.set, List.toList_toArray, true_and, and_self, if_false, Nat.zero_add, List.cons_append, List.nil_append, List.length_cons, List.length_nil, Nat.reduceAdd, Nat.reduceSub, Nat.succ_ne_self, List.replicate_succ, List.replicate_zero]
  refine absRun_ok TO 1 _ _ ?_
  simp only [absRun]
  refine HRun_region (part_ops TO 42 ?_)
  simp only [absOpsN, hq1, pureOpC, unc, absOp, evO, constSV, ungd, gdP, gdPs, setD, binI, binV, ptrE, binS, T_ty, T_size, tTy, tSize, fieldOf, faddrV, pickV, pureOp, guardOf, lenV, loadV, isI, isA, cellAt, arrAt, blkAt, fnd, Data.len, Op.operands, Call.operands, List.getD, List.getElem?_cons_zero, List.getElem?_cons_succ, Option.getD_some, List.set, List.toList_toArray, List.getElem?_toArray, Option.bind_some, true_and, and_self, implies_true, imp_self, if_true, if_false, ite_self, eq_self, ne_eq, not_false_eq_true, reduceCtorEq, Nat.zero_add, Nat.add_zero, Nat.le_refl, Bool.cond_false_right, List.append_toArray, List.nil_append, Nat.reduceAdd, Nat.reduceSub, Nat.reduceEqDiff, Nat.reduceLeDiff, Nat.reduceLT, Nat.succ_ne_self]
  refine weak_ops (tl 170 0 [(2, .ptr 2 2 0), (3, .ptr 3 2 0), (4, .bool false), (46, .bool q1)]) (by simp [LeT, tl]) (part_ops TO 35 ?_)
  simp only [absOpsN, tl, hq2, pureOpC, unc, absOp, evO, constSV, ungd, gdP, gdPs, setD, binI, binV, ptrE, T_ty, T_size, tTy, tSize, fieldOf, faddrV, pickV, pureOp, guardOf, loadV, cellAt, blkAt, fnd, Op.operands, List.getD, List.getElem?_cons_zero, List.getElem?_cons_succ, Option.getD_some, List.set, List.toList_toArray, List.getElem?_toArray, Option.bind_some, true_and, and_self, implies_true, imp_self, if_true, if_false, eq_self, ne_eq, not_false_eq_true, reduceCtorEq, Nat.zero_add, Bool.cond_false_right, List.cons_append, List.nil_append, Nat.reduceAdd, Nat.reduceSub, Nat.reduceEqDiff, Nat.reduceLT, Nat.succ_ne_self, List.replicate_succ, List.replicate_zero, tl]
  refine weak_ops (tl 170 0 [(2, .ptr 2 2 0), (3, .ptr 3 2 0), (4, .bool false), (81, .bool q2)]) (by simp [LeT, tl]) (part_ops TO 28 ?_)
  simp only [absOpsN, tl, hq3, pureOpC, unc, absOp, evO, constSV, ungd, gdP, gdPs, setD, binI, binV, ptrE, binS, T_ty, T_size, tTy, tSize, fieldOf, faddrV, pickV, pureOp, guardOf, loadV, cellAt, blkAt, fnd, Op.operands, List.getD, List.getElem?_cons_zero, List.getElem?_cons_succ, Option.getD_some, List.set, List.toList_toArray, List.getElem?_toArray, Option.bind_some, true_and, and_self, implies_true, imp_self, if_true, if_false, eq_self, ne_eq, not_false_eq_true, reduceCtorEq, Nat.zero_add, Bool.cond_false_right, List.cons_append, List.nil_append, Nat.reduceAdd, Nat.reduceSub, Nat.reduceEqDiff, Nat.reduceLT, Nat.succ_ne_self, List.replicate_succ, List.replicate_zero, tl]
  refine weak_ops (tl 170 0 [(2, .ptr 2 2 0), (3, .ptr 3 2 0), (4, .bool false), (109, .bool q3)]) (by simp [LeT, tl]) (part_ops TO 25 ?_)
  simp only [absOpsN, tl, hq4, pureOpC, unc, absOp, evO, constSV, ungd, gdP, gdPs, setD, binI, binV, ptrE, T_ty, T_size, tTy, tSize, fieldOf, faddrV, pickV, pureOp, guardOf, lenV, loadV, cellAt, blkAt, fnd, Data.len, Op.operands, Call.operands, List.getD, List.getElem?_cons_zero, List.getElem?_cons_succ, Option.getD_some, List.set, List.toList_toArray, List.getElem?_toArray, Option.bind_some, true_and, and_self, implies_true, imp_self, if_true, if_false, eq_self, ne_eq, not_false_eq_true, reduceCtorEq, Nat.zero_add, Bool.cond_false_right, List.append_toArray, List.cons_append, List.nil_append, Nat.reduceAdd, Nat.reduceSub, Nat.reduceEqDiff, Nat.reduceLT, Nat.succ_ne_self, List.replicate_succ, List.replicate_zero, tl]
  refine weak_ops (tl 170 0 [(2, .ptr 2 2 0), (3, .ptr 3 2 0), (4, .bool false), (134, .bool q4)]) (by simp [LeT, tl]) (HOps_go TO 100 ?_)
  simp only [tl, pureOpC, unc, absRun, absOps, absOp, evO, constSV, ungd, gdP, gdPs, setD, binI, binV, ptrE, binS, T_ty, T_size, tTy, tSize, fieldOf, faddrV, pickV, pureOp, guardOf, loadV, isB, cellAt, blkAt, fnd, retP, resV, retQ, rAs, rA, rA0, ownN, nodup, bares, bare, bare0, Op.operands, List.getD, List.getElem?_cons_zero, List.getElem?_cons_succ, Option.getD_some, List.set, List.map, List.toList_toArray, List.getElem?_toArray, Option.bind_some, and_self, implies_true, imp_self, if_true, if_false, eq_self, ne_eq, not_false_eq_true, reduceCtorEq, Nat.zero_add, Bool.cond_false_right, List.cons_append, List.nil_append, Nat.reduceAdd, Nat.reduceSub, Nat.reduceEqDiff, Nat.reduceLT, Nat.succ_ne_self, List.replicate_succ, List.replicate_zero, Bool.and_self, tl]

def fsameSayB (a b : Say) : Bool := (a.dialect == b.dialect) && (a.size == b.size) && (a.challenge == b.challenge) && (a.level == b.level) && (a.durable == b.durable) && (a.made == b.made) && (a.file == b.file) && (a.kind == b.kind) && ((a.data.length : Int) == (b.data.length : Int)) && (a.n == b.n) && ((a.entries.length : Int) == (b.entries.length : Int)) && (a.more == b.more) && (a.gone == b.gone)

set_option maxHeartbeats 8000000 in
theorem fsameSay_meets (a b : Say) : Meets Tryd.prog 57 [.v (a.sv false), .v (b.sv false)] [.v (.bool (fsameSayB a b))] := by
  refine meets_go TO 100 Tryd.func57 rfl (fun X => ?_)
  simp only [Tryd.ntmps57, Tryd.results57, Say.sv, Say.cells, fsameSayB, List.append_eq, pureOpC, unc, svs, blks, AV.sv, absRun, absOps, absOp, evO, constSV, ungd, gdP, gdPs, setD, binI, binV, ptrE, T_ty, T_size, tTy, tSize, fieldOf, faddrV, pickV, pureOp, guardOf, memOp, lenV, loadV, newV, notIn, cellsOf, isB, isI, isA, cellAt, arrAt, blkAt, fnd, upd, Data.len, Lim.add, retP, resV, retQ, rAs, rA, rA0, ownN, nodup, bares, bare, bare0, Op.operands, Call.operands, List.getD, List.getElem?_cons_zero, List.getElem?_cons_succ, Option.getD_some, List.set, List.map, List.toList_toArray, List.getElem?_toArray, Option.bind_some, true_and, and_true, and_self, implies_true, imp_self, if_true, if_false, ite_self, eq_self, ne_eq, not_false_eq_true, reduceCtorEq, Nat.zero_add, Nat.add_zero, Bool.cond_false_right, List.append_toArray, List.cons_append, List.nil_append, List.length_cons, List.length_nil, Nat.reduceAdd, Nat.reduceSub, Nat.reduceEqDiff, Nat.reduceLeDiff, Nat.reduceLT, Nat.succ_ne_self, List.replicate_succ, List.replicate_zero, Bool.and_self]

theorem len_same {α : Type} [DecidableEq α] {x y : List α} (h : x = y ∨ x = []) : ((x.length : Int) == (y.length : Int)) = decide (x = y) := by
  rw [Bool.eq_iff_iff, beq_iff_eq, decide_eq_true_eq]
  rcases h with h | h
  · rw [h]; simp
  · rw [h]
    simp only [List.length_nil]
    constructor
    · intro h; exact (List.length_eq_zero_iff.1 (by omega)).symm
    · intro h; rw [← h]; rfl

theorem fsame_want (c : Int) (a : Ask) : fsameB (faW c a) a = decide (faW c a = a) := by
  have hz : ((faW c a).dialects = a.dialects ∨ (faW c a).dialects = []) ∧ ((faW c a).data = a.data ∨ (faW c a).data = []) ∧ ((faW c a).locks = a.locks ∨ (faW c a).locks = []) := by
    unfold faW; repeat' split
    all_goals exact ⟨.inr rfl, by first | exact .inl rfl | exact .inr rfl, by first | exact .inl rfl | exact .inr rfl⟩
  generalize faW c a = w at *
  obtain ⟨z1, z2, z3⟩ := hz
  rw [Bool.eq_iff_iff, decide_eq_true_eq, ← asksB_iff]
  unfold fsameB asksB
  rw [len_same z1, len_same z2, len_same z3]

theorem fsame_say (c : Int) (s : Say) : fsameSayB (fsW c s) s = decide (fsW c s = s) := by
  have hz : ((fsW c s).data = s.data ∨ (fsW c s).data = []) ∧ ((fsW c s).entries = s.entries ∨ (fsW c s).entries = []) := by
    unfold fsW; repeat' split
    all_goals exact ⟨by first | exact .inl rfl | exact .inr rfl, .inr rfl⟩
  generalize fsW c s = w at *
  obtain ⟨z1, z2⟩ := hz
  rw [Bool.eq_iff_iff, decide_eq_true_eq, ← saysB_iff]
  unfold fsameSayB saysB
  rw [len_same z1, len_same z2]

theorem InC.agg {P : Program} {X : Ctx} {f : FuncId} {args : List SV} {b b' : List (Nat × Nat × Blk)} {c0 c1 : Nat} {l m : List SV} (h : InC P X f args b c0 (.agg l) b' c1) (hr : rAl ⟨[], b', ⟨c1, [], 0⟩⟩ l m) : InC P X f args b c0 (.agg m) b' c1 := by
  intro σ w vals hR
  refine (h σ w vals hR).mono ?_
  rintro e w' ⟨v, σ', rfl, ⟨cs, e2, hc⟩, hR', hT⟩
  exact ⟨v, σ', rfl, ⟨cs, e2, rAl_ok (s := ⟨[], b', ⟨c1, [], 0⟩⟩) hr hc⟩, hR', hT⟩

theorem faC_sv (c : Int) (a : Ask) (b : List (Nat × Nat × Blk)) (c1 : Nat) : rAl ⟨[], b, ⟨c1, [], 0⟩⟩ (faC c a) ((faW c a).cells false) := by
  unfold faC
  by_cases c9 : c = 9
  · subst c9
    have e : (faW 9 a).data = a.data := rfl
    have e2 : (faW 9 a).locks = [] := rfl
    simp [Ask.cellsW, Ask.cells, rAl, rA0, e, e2, Data.len]
    first | exact rfl | exact ⟨rfl, rfl⟩
  by_cases c10 : c = 10
  · subst c10
    have e : (faW 10 a).data = [] := rfl
    have e2 : (faW 10 a).locks = a.locks := rfl
    simp [Ask.cellsW, Ask.cells, rAl, rA0, e, e2, Data.len]
    exact rfl
  have e0 : (faW c a).dialects = [] := by unfold faW; repeat' split
                                          all_goals rfl
  have e : (faW c a).data = [] := by unfold faW; rw [if_neg c9]; repeat' split
                                     all_goals rfl
  have e2 : (faW c a).locks = [] := by unfold faW; rw [if_neg c10]; repeat' split
                                       all_goals rfl
  simp [Ask.cellsW, Ask.cells, rAl, rA0, c9, c10, e0, e, e2, Data.len]

theorem fasked2_inC {X : Ctx} {b0 : List (Nat × Nat × Blk)} {c0 : Nat} (c : Int) (a : Ask) (h3 : fnd b0 5003 = none) (h4 : fnd b0 5004 = none) (h5 : fnd b0 5005 = none) :
    InC Tryd.prog X 34 [.int .u16 c, a.sv false] b0 c0 ((faW c a).sv false) b0 (c0 + 30) := (fasked_inC c a h3 h4 h5).agg (faC_sv c a _ _)

theorem frasked2_inC {X : Ctx} {b0 : List (Nat × Nat × Blk)} {c0 : Nat} (c : Int) (a : Ask) (h3 : fnd b0 5003 = none) (h4 : fnd b0 5004 = none) (h5 : fnd b0 5005 = none) :
    InC Tryd.prog X 38 [.int .u16 c, a.sv false] b0 c0 ((faW c a).sv false) b0 (c0 + 30) := (frasked_inC c a h3 h4 h5).agg (faC_sv c a _ _)

theorem fsaid2_inC {X : Ctx} {b0 : List (Nat × Nat × Blk)} {c0 : Nat} (c : Int) (s : Say) (h3 : fnd b0 5003 = none) (h4 : fnd b0 5004 = none) :
    InC Tryd.prog X 58 [.int .u16 c, s.sv false] b0 c0 ((fsW c s).sv false) b0 (c0 + 12) := by
  refine (fsaid_inC c s h3 h4).agg ?_
  unfold fsC fsW
  repeat' split
  all_goals simp_all [rAl, rA0, Say.cells, sayZ, Data.len, List.replicate]

end Go.Proofs.YtakgefinmlomdaaDoor.Abs
