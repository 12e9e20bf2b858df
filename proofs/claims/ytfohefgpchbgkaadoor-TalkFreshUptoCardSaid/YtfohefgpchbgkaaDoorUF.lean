/- slices.Grow of nothing, slices.Concat; lists compared. -/
import Derived.Test.YtfohefgpchbgkaaDoorUE
import Derived.Test.YtfohefgpchbgkaaDoorRX
import Derived.Test.YtfohefgpchbgkaaDoorV2
set_option linter.unusedVariables false
set_option linter.unusedSimpArgs false
set_option maxRecDepth 100000
namespace Go.Proofs.YtfohefgpchbgkaaDoor.Abs
open Go Go.Proofs

theorem zero_cell (n i : Nat) (h : i < n) : (Builtin.zeroCells #[.int .u8 0] n)[i]? = some (.int .u8 0) := by
  unfold Builtin.zeroCells
  rw [Array.getElem?_map, Array.getElem?_range, if_pos (by simpa using h)]
  simp [Nat.mod_one]

theorem zero_size (n : Nat) : (Builtin.zeroCells #[.int .u8 0] n).size = n := by
  unfold Builtin.zeroCells; simp

theorem Grow_meets (n : Nat) (h0 : 0 < n) (hn : n ≤ 100000000) : Meets Tryd.prog 69 [.v .nil, .v (.int .i64 n)] [.own (.ints .u8 [])] := by
  intro X σ vals hR
  have hv0 : vals.getD 0 undef = .slice none 0 0 := hR.tm 0 (by simp [svs])
  have hv1 : vals.getD 1 undef = .int .i64 n := hR.tm 1 (by simp [svs])
  have hsz : vals.size = 2 := hR.sz
  have hvals : vals = #[.slice none 0 0, .int .i64 n] := by
    apply Array.ext
    · exact hsz
    · intro i h1 h2
      have hi : i = 0 ∨ i = 1 := by omega
      rcases hi with rfl | rfl
      · simpa [Array.getD, h1] using hv0
      · simpa [Array.getD, h1] using hv1
  subst hvals
  obtain ⟨i0, hi0, hz0, hs0, hb0⟩ := info_parts (show (Tryd.prog.info? (Tryd.laysGrow_ren.t 25)).map (fun i => (i.zero, i.size, i.bytes)) = some (some (.int .u8 0), 1, 1) by kernel_rfl)
  have hC := Any8.slices_Grow_grow Tryd.laysGrow i0 (.int .u8 0) hi0 hz0 (by omega) none 0 0 n [] X.w0 (Nat.le_refl _) (by omega) (by rw [hb0]; omega) (by omega) (by simp) (fun _ => rfl) (fun a h => by cases h)
  have hG := grownCap_le_maxLen X.w0 (0 + n) 0 (Tryd.laysGrow_ren.t 25) (by unfold maxLen; omega)
  have hG2 := grownCap_ge X.w0 (0 + n) 0 (Tryd.laysGrow_ren.t 25)
  generalize grownCap X.w0 (0 + n) 0 (Tryd.laysGrow_ren.t 25) = G at *
  refine Calls.mono (show Calls Tryd.prog 69 #[.slice none 0 0, .int .i64 n] X.w0 _ from hC) ?_
  rintro e w' ⟨rfl, rfl⟩
  refine ⟨[_], fun m => if m = 0 then some X.w0.heap.size else none, rfl, ?_⟩
  have hcs : ∀ i, i < G → ((#[] : Array Value) ++ Builtin.zeroCells #[.int .u8 0] (0 + n - 0) ++ Builtin.zeroCells #[.int .u8 0] (G - (0 + n)))[i]? = some (.int .u8 0) := by
    intro i hi
    by_cases h : i < n
    · rw [Array.getElem?_append_left (by simp [zero_size]; omega)]
      simp only [Array.empty_append]
      exact zero_cell _ _ (by omega)
    · rw [Array.getElem?_append_right (by simp [zero_size]; omega)]
      exact zero_cell _ _ (by simp [zero_size]; omega)
  have hcsz : ((#[] : Array Value) ++ Builtin.zeroCells #[.int .u8 0] (0 + n - 0) ++ Builtin.zeroCells #[.int .u8 0] (G - (0 + n))).size = G := by
    simp only [Array.size_append, zero_size]; simp; omega
  have hzc : (Value.int .u8 0).cells = #[.int .u8 0] := rfl
  have hmax : G < 9223372036854775808 := by unfold maxLen at hG; omega
  have hheap : ∀ (o : Obj), (X.w0.drew.alloc o).heap = X.w0.heap.push o := fun o => rfl
  refine {
    sz := rfl
    tm := fun i hi => ?_
    df := rfl
    bl := fun m g x hx => ?_
    inj := fun m m' x x' B hx hx' => ?_
    fr := ?_
    st := ⟨rfl, rfl, rfl⟩
    ro := hR.ro
    gl := hR.gl }
  · have : i = 0 := by simp [svs] at hi; omega
    subst this
    refine And.intro (.inl (Nat.lt_succ_self _)) (fun _ => ⟨_, G, rfl, Nat.zero_le _, fun hc => ⟨X.w0.heap.size, rfl, rfl, ?_⟩⟩)
    simp only [blockSize, hheap]
    rw [Array.getElem?_push_size]
    simp only [hzc]
    rw [hcsz]
    simp [Data.esz]
  · simp only [blks, fnd] at hx
    split at hx
    · rename_i e
      subst e
      simp only [Option.some.injEq, Prod.mk.injEq] at hx
      obtain ⟨rfl, rfl⟩ := hx
      refine ⟨.inl (Nat.lt_succ_self _), .inr ⟨X.w0.heap.size, _, _, _, rfl, by rw [hheap, Array.getElem?_push_size], .inl rfl, by simp [Data.len], fun i j hi => by simp [Data.len] at hi, ?_⟩, fun B hB => ?_⟩
      · simp only [hzc]
        refine ⟨fun i hi => ⟨0, ?_⟩, by rw [hcsz]; exact hmax⟩
        rw [hcsz] at hi
        exact hcs i hi
      · simp only [if_true, Option.some.injEq] at hB
        subst hB
        rw [hheap, Array.size_push]
        exact ⟨by omega, .inr (Nat.le_refl _)⟩
    · cases hx
  · simp only [blks, fnd] at hx hx'
    split at hx
    · split at hx'
      · rename_i e e'; intro _ _; rw [e, e']
      · cases hx'
    · cases hx
  · rw [hheap, Array.size_push]
    refine ⟨by omega, fun B hB _ => ?_⟩
    rw [Array.getElem?_push_lt hB, Array.getElem?_eq_getElem hB]

theorem flat_take8 (p : List (List Int)) (i : Nat) (h : i < p.length) : (p.take (i + 1)).flatten = (p.take i).flatten ++ p[i]?.getD [] := by
  rw [List.take_add_one, List.getElem?_eq_getElem h, List.flatten_append]; simp

theorem flat_le8 (p : List (List Int)) (i : Nat) : ((p.take i).flatten).length ≤ p.flatten.length := by
  have := congrArg (fun l : List (List Int) => l.flatten.length) (List.take_append_drop i p)
  simp only [List.flatten_append, List.length_append] at this
  omega

set_option maxHeartbeats 4000000 in
theorem Concat_meets (p : List (List Int)) (h0 : 0 < p.flatten.length) (hf : p.flatten.length ≤ 100000000) (hl : p.length ≤ 1000000) : Meets Tryd.prog 41 [.v (.view false (.rows false p))] [.own (.ints .u8 p.flatten)] := by
  have hG := Grow_meets p.flatten.length h0 hf
  refine meets_go TO 100 Tryd.func41 rfl (fun X => ?_)
  simp only [Tryd.ntmps41, Tryd.results41, pureOpC, unc, svs, blks, AV.sv, absRun, absOps, absOp, evO, constSV, ungd, gdP, gdPs, setD, T_ty, tTy, pureOp, lenV, Data.len, Op.operands, Call.operands, List.getD, List.getElem?_cons_zero, List.getElem?_cons_succ, Option.getD_some, List.set, List.toList_toArray, true_and, and_self, Nat.zero_add, List.append_toArray, List.cons_append, List.nil_append, List.length_cons, List.length_nil, Nat.reduceAdd, Nat.reduceSub, List.replicate_succ, List.replicate_zero]
  refine loop_up (fun x : Nat × Nat => x.1 ≤ p.length)
    (fun x => ⟨tl 36 0 [(0, .view false (.rows false p)), (3, .int .i64 ((p.take x.1).flatten.length : Nat)), (9, .view false (.rows false p)), (10, .int .i64 p.length), (11, .int .i64 x.1)], [], ⟨x.2, [], 0⟩⟩) (fun x => p.length - x.1) (0, _) (Nat.zero_le _) ⟨rfl, ?_, ?_⟩ ?_
  · simp [LeT, tl]
  · intro m x hx
    simp [fnd] at hx
  rintro ⟨i, c⟩ hi ih
  simp only at hi
  refine absRun_ok TO 100 _ _ ?_
  simp only [pureOpC, unc, absRun, absOps, absOp, evO, constSV, ungd, gdP, gdPs, setD, binI, binV, ptrE, T_ty, T_size, tTy, tSize, iaddrV, pureOp, memOp, lenV, loadV, elemV, Data.len, Data.esz, Op.operands, Call.operands, List.getD, List.getElem?_cons_zero, List.getElem?_cons_succ, Option.getD_some, List.set, List.toList_toArray, exitTo, true_and, and_self, if_true, eq_self, ne_eq, not_false_eq_true, Nat.zero_add, Int.toNat_natCast, List.append_toArray, List.cons_append, List.nil_append, Nat.reduceAdd, Nat.reduceSub, Nat.reduceLT, Nat.succ_ne_self, beq_self_eq_true, List.replicate_succ, List.replicate_zero, tl]
  have hle := flat_le8 p (i + 1)
  by_cases hil : i < p.length
  · have hfs := flat_take8 p i hil
    rw [hfs, List.length_append] at hle
    have wi : IntKind.i64.wrap ((i : Int) + 1) = ((i + 1 : Nat) : Int) := by rw [w64 (by omega) (by omega)]; omega
    have ws : IntKind.i64.wrap (((p.take i).flatten.length : Int) + ((p[i]?.getD []).length : Int)) = (((p.take (i + 1)).flatten.length : Nat) : Int) := by
      rw [hfs, List.length_append, w64 (by omega) (by omega)]; omega
    rw [if_pos (decide_eq_true (by omega))]
    simp only [ws, wi]
    refine ⟨by omega, ?_⟩
    rw [if_neg (by simp)]
    refine ih (i + 1, _) _ hil (by simp only; omega) rfl ?_ ?_
    · simp [LeT, tl]
    · intro m x hx
      simp [fnd] at hx
  rw [if_neg (by rw [decide_eq_true_eq]; omega)]
  have hip : i = p.length := by omega
  subst hip
  rw [List.take_length]
  refine call_go TO 100 hG Tryd.func69 (by decide +kernel) rfl rfl rfl ?_
  simp only [pureOpC, unc, absRun, absOps, absOp, evO, constSV, ungd, gdP, gdPs, setD, T_ty, tTy, pureOp, lenV, notIn, upd, Data.len, Data.esz, ownN, nodup, bares, bare, bareD, guardIs, callP, callS, argS, mAs, mA, mA0, mB0, allNotIn, nm, impN, impB, impT, packS, delL, Op.operands, Call.operands, List.getD, List.getElem?_cons_zero, List.getElem?_cons_succ, Option.getD_some, List.set, List.map, List.toList_toArray, true_and, and_self, eq_self, Nat.zero_add, Nat.add_zero, List.append_toArray, List.nil_append, List.append_nil, List.length_nil, Nat.reduceAdd, Nat.reduceMul, Bool.and_self]
  refine ren_go 6 10384 33 ⟨by simp, rfl, rfl⟩ ?_
  simp only [upd, del, mv, List.set, if_true, eq_self]
  refine loop_up (fun x : Nat × Nat × Nat => x.1 ≤ p.length)
    (fun x => ⟨tl 36 0 [(0, .view false (.rows false p)), (6, .sl 33 x.2.1 0 1 0 ((p.take x.1).flatten.length)), (25, .view false (.rows false p)), (26, .int .i64 p.length), (27, .int .i64 x.1)], [(33, x.2.1, .vec (.ints .u8 (p.take x.1).flatten))], ⟨x.2.2, [], 0⟩⟩) (fun x => p.length - x.1) (0, c + 4, _) (Nat.zero_le _) ⟨rfl, ?_, ?_⟩ ?_
  · simp [LeT, tl]
  · intro m x hx
    simpa [fnd] using hx
  clear ih
  rintro ⟨i, g, c⟩ hi ih
  simp only at hi
  refine absRun_ok TO 100 _ _ ?_
  simp only [pureOpC, unc, fitT, absRun, absOps, absOp, evO, constSV, ungd, gdP, gdPs, setD, binI, binV, ptrE, T_ty, T_size, T_bytes, T_zero, tTy, tSize, tBytes, tZero, iaddrV, pureOp, memOp, loadV, notIn, dataOf, appD, isSrc, zI, blkAt, fnd, upd, del, mv, elemV, Data.len, Data.esz, Lim.add, retP, resV, retQ, rAs, rA, ownN, nodup, bares, bare, bareD, Op.operands, Call.operands, List.getD, List.getElem?_cons_zero, List.getElem?_cons_succ, Option.getD_some, List.set, List.map, List.toList_toArray, exitTo, true_and, and_true, and_self, if_true, eq_self, ne_eq, not_false_eq_true, Nat.zero_add, Int.toNat_natCast, List.append_toArray, List.cons_append, List.nil_append, Nat.reduceAdd, Nat.reduceSub, Nat.reduceLT, Nat.succ_ne_self, beq_self_eq_true, List.replicate_succ, List.replicate_zero, Bool.and_self, Data.ints.injEq, tl]
  have hle := flat_le8 p (i + 1)
  by_cases hil : i < p.length
  · have hfs := flat_take8 p i hil
    rw [hfs, List.length_append] at hle
    have wi : IntKind.i64.wrap ((i : Int) + 1) = ((i + 1 : Nat) : Int) := by rw [w64 (by omega) (by omega)]; omega
    rw [if_pos (decide_eq_true (by omega))]
    simp only [wi]
    refine ⟨by omega, ⟨by omega, by omega⟩, ?_⟩
    rw [← hfs]
    refine ih (i + 1, c + 3, _) _ hil (by simp only; omega) rfl ?_ ?_
    · simp [LeT, tl]
    · intro m x hx
      simpa [fnd] using hx
  rw [if_neg (by rw [decide_eq_true_eq]; omega)]
  have hip : i = p.length := by omega
  subst hip
  rw [List.take_length]
  exact ⟨rfl, rfl⟩

end Go.Proofs.YtfohefgpchbgkaaDoor.Abs
