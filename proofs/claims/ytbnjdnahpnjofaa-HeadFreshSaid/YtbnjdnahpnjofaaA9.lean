/- OWN LIBRARY, part 9: stores, copies, lists that are written out, bytes of a string. -/
import Derived.Test.YtbnjdnahpnjofaaA8
set_option linter.unusedVariables false
set_option linter.unusedSimpArgs false
namespace Go.Proofs.Ytbnjdnahpnjofaa.Abs
open Go

section
variable {P : Program} {T : Tab} {X : Ctx} {s : St} {σ : Env} {w : World} {a : Act}

/-- Cells of a named block are written over: what is then told of the block. -/
theorem store_does (hR : R X s σ w a) {o : Oper} {n g B off : Nat} {x x' : Blk} {cs : Array Value} {t : TypeId} {fr : Nat × Nat} {vs : List Value} {u : Value} {sv : SV}
    (hn : fnd s.b n = some (g, x)) (hB : σ n = some B) (hold : w.heap[B]? = some (.cells cs t fr)) (hfree : Free fr cs.size) (hlen : off + vs.length ≤ cs.size) (h1 : ∀ v ∈ vs, v.oneCell' = true)
    (hrun : ∀ w', (storeCells ⟨B, off, none⟩ vs).run P w = .ok () w' → ∃ nx, (execOp a.eval o).run P w = .ok nx w' ∧ (nx = .value u ∨ (nx = .skip ∧ u = undef)))
    (hx : ∀ w' (cs' : Array Value), cs'.toList = cs.toList.take off ++ vs ++ cs.toList.drop (off + vs.length) → Wrote B w w' cs' t fr → Tr X s.b s.c σ w (upd s.b n g x') s.c σ w' → BlkOk X (upd s.b n g x') s.c σ w' n x')
    (hv : ∀ w', V X (upd s.b n g x') s.c σ w' sv u) : Does P X s σ ⟨setD s.t o.dst sv, upd s.b n g x', s.c⟩ w a o := by
  obtain ⟨w', cs', hr, hW, he⟩ := storeCells_run (P := P) (o := off) vs 0 cs w hold hfree (by omega) h1
  simp only [Nat.add_zero] at he
  have hsz : cs'.size = cs.size := by
    have := congrArg List.length he
    simp only [Array.length_toList, List.length_append, List.length_take, List.length_drop] at this
    omega
  obtain ⟨nx, hex, hnx⟩ := hrun w' hr
  exact ⟨nx, u, w', σ, hex, hnx, R_write hR hn hB hold hW hsz (hx w' cs' he hW (Tr_write hR hn hB hold hW hsz)) (hv w')⟩

theorem run_store_one (TO : TabOk P T) {o : Oper} {t : TypeId} {x y : Operand} {B off : Nat} {vs : List Value} (ho : o.op = .store t x y) (ha : a.eval x = .pointer (some ⟨B, off, none⟩)) (hc : (a.eval y).cells.toList = vs) (hs : T.size t = vs.length) (h0 : T.size t ≠ 0) :
    ∀ w', (storeCells ⟨B, off, none⟩ vs).run P w = .ok () w' → ∃ nx, (execOp a.eval o).run P w = .ok nx w' ∧ (nx = .value undef ∨ (nx = .skip ∧ undef = undef)) := by
  intro w' hr
  refine ⟨.skip, ?_, .inr ⟨rfl, rfl⟩⟩
  have hsz : (a.eval y).cells.size = T.size t := by rw [hs, ← hc]; simp
  simp only [execOp, ho, Instr.storeAt, ha]
  simp [Instr.sureAddr, storeVar, size_run TO h0, hsz, hc, hr]

theorem list_set_seg (l : List Value) (i : Nat) (v : Value) (h : i < l.length) : l.set i v = l.take i ++ [v] ++ l.drop (i + 1) := by
  rw [List.set_eq_take_append_cons_drop, if_pos h]; simp

theorem store_ptr_ok (TO : TabOk P T) (hR : R X s σ w a) {o : Oper} {t : TypeId} {x y : Operand} {n g off : Nat} {sv : SV} {l l2 : List SV} (ho : o.op = .store t x y)
    (hx : V2 X s.b s.c σ w (.ptr n g off) (a.eval x)) (hy : V2 X s.b s.c σ w sv (a.eval y)) (hb : blkAt s.b n g = some (.cells l)) (hsc : scal s.b sv = true) (hl : setC l off sv = some l2) (h1 : T.size t = 1) :
    Does P X s σ ⟨setD s.t o.dst .any, upd s.b n g (.cells l2), s.c⟩ w a o := by
  obtain ⟨_, hlv⟩ := hx
  obtain ⟨B, hB, ha⟩ := hlv (blkAt_live hb)
  obtain ⟨B', cs, ty, fr, hB', hheap, hfree, hcells⟩ := (hR.bl n g _ (blkAt_fnd hb)).2.1
  obtain rfl : B = B' := by simpa using hB.symm.trans hB'
  obtain ⟨hc1, hone, hv0⟩ := scal_cells hsc hy
  obtain ⟨hlt, hok⟩ := setC_ok hcells hl hv0
  have hlt' : off < cs.size := by simpa using hlt
  refine store_does hR (blkAt_fnd hb) hB hheap hfree (vs := [a.eval y]) (off := off) (by simp; omega) (by simp [hone]) (run_store_one TO ho ha (by rw [hc1]) (by simp [h1]) (by omega)) ?_ (fun w' => V.any _)
  intro w' cs' he hW hT
  refine ⟨B, cs', ty, fr, hB, hW.here, ?_, ?_⟩
  · have : cs'.size = cs.size := by
      have := congrArg List.length he
      simp only [Array.length_toList, List.length_append, List.length_take, List.length_drop, List.length_cons, List.length_nil] at this
      omega
    rw [this]; exact hfree
  · rw [he, List.length_singleton, ← list_set_seg _ _ _ hlt]
    exact hok.tr hT

theorem store_arr_ok (TO : TabOk P T) (hR : R X s σ w a) {o : Oper} {t : TypeId} {x y : Operand} {n g off m : Nat} {k : IntKind} {l l2 : List SV} {l' l0 : List Int} (ho : o.op = .store t x y)
    (hx : V2 X s.b s.c σ w (.ptr n g off) (a.eval x)) (hy : V2 X s.b s.c σ w (.arr k m l') (a.eval y)) (hb : blkAt s.b n g = some (.cells l)) (hl0 : arrAt l off = some (k, m, l0)) (hl : setA l off l' = some l2) (h1 : T.size t = m) (h0 : m ≠ 0) :
    Does P X s σ ⟨setD s.t o.dst .any, upd s.b n g (.cells l2), s.c⟩ w a o := by
  obtain ⟨_, hlv⟩ := hx
  obtain ⟨B, hB, ha⟩ := hlv (blkAt_live hb)
  obtain ⟨B', cs, ty, fr, hB', hheap, hfree, hcells⟩ := (hR.bl n g _ (blkAt_fnd hb)).2.1
  obtain rfl : B = B' := by simpa using hB.symm.trans hB'
  obtain ⟨hy1, hy2⟩ := (hy : _ ∧ _)
  obtain ⟨g1, g2, g3⟩ := arrAt_len hcells hl0
  have hok := setA_ok hcells hl0 hl hy2
  have hlc : cs.toList.length = cs.size := by simp
  refine store_does hR (blkAt_fnd hb) hB hheap hfree (vs := l'.map (.int k)) (off := off) (by simp; omega) (by intro v hv; obtain ⟨q, _, rfl⟩ := List.mem_map.1 hv; rfl) (run_store_one TO ho ha (by rw [hy1]; simp [Value.cells]) (by simp [h1, hy2]) (by omega)) ?_ (fun w' => V.any _)
  intro w' cs' he hW hT
  refine ⟨B, cs', ty, fr, hB, hW.here, ?_, ?_⟩
  · have : cs'.size = cs.size := by
      have := congrArg List.length he
      simp only [Array.length_toList, List.length_append, List.length_take, List.length_drop, List.length_map] at this
      omega
    rw [this]; exact hfree
  · rw [he, List.length_map, hy2]
    exact hok.tr hT

theorem okC_one {b : List (Nat × Nat × Blk)} {c : Lim} : ∀ {m : List SV} {cs : List Value}, okC b m = true → CellsOk X b c σ w m cs → ∀ v ∈ cs, v.oneCell' = true
  | [], cs, _, h => by rw [show cs = [] from h]; simp
  | x :: r, cs, hk, h => by
    cases x
    case arr k n l =>
      simp only [okC] at hk
      obtain ⟨h1, cs', rfl, h2⟩ := h
      intro v hv
      rcases List.mem_append.1 hv with hv | hv
      · obtain ⟨q, _, rfl⟩ := List.mem_map.1 hv; rfl
      · exact okC_one hk h2 v hv
    case lit z =>
      obtain ⟨v, cs', rfl, h1, h2⟩ := h
      obtain rfl : v = z := h1
      intro u hu
      unfold okC at hk
      split at hk
      · rename_i e; cases e
      · rename_i e; cases e
      · rename_i e
        simp only [List.cons.injEq, SV.lit.injEq] at e
        obtain ⟨rfl, rfl⟩ := e
        rcases List.mem_cons.1 hu with rfl | hu
        · rfl
        · exact okC_one hk h2 u hu
      · rename_i e
        simp only [List.cons.injEq] at e
        obtain ⟨rfl, rfl⟩ := e
        simp [scal] at hk
    all_goals
      simp only [okC, Bool.and_eq_true] at hk
      obtain ⟨v, cs', rfl, h1, h2⟩ := h
      intro u hu
      rcases List.mem_cons.1 hu with rfl | hu
      · exact (scal_cells hk.1 (V2_of_V1 (V1_of_V0 h1))).2.1
      · exact okC_one hk.2 h2 u hu

theorem store_agg_ok (TO : TabOk P T) (hR : R X s σ w a) {o : Oper} {t : TypeId} {x y : Operand} {n g off : Nat} {l m p q : List SV} (ho : o.op = .store t x y)
    (hx : V2 X s.b s.c σ w (.ptr n g off) (a.eval x)) (hy : V2 X s.b s.c σ w (.agg m) (a.eval y)) (hb : blkAt s.b n g = some (.cells l)) (hk : okC s.b m = true)
    (hp : takeC l off = some p) (hq : dropC l (off + T.size t) = some q) (h1 : cntC m = T.size t) (h0 : T.size t ≠ 0) :
    Does P X s σ ⟨setD s.t o.dst .any, upd s.b n g (.cells (p ++ m ++ q)), s.c⟩ w a o := by
  obtain ⟨_, hlv⟩ := hx
  obtain ⟨B, hB, ha⟩ := hlv (blkAt_live hb)
  obtain ⟨B', cs, ty, fr, hB', hheap, hfree, hcells⟩ := (hR.bl n g _ (blkAt_fnd hb)).2.1
  obtain rfl : B = B' := by simpa using hB.symm.trans hB'
  obtain ⟨vs, hy1, hy2⟩ := hy
  obtain ⟨g1, g2⟩ := takeC_ok hcells hp
  obtain ⟨g3, g4⟩ := dropC_ok hcells hq
  have hn := cntC_ok hy2
  have hlc : cs.toList.length = cs.size := by simp
  have hvl : vs.toList.length = T.size t := by rw [← hn, h1]
  refine store_does hR (blkAt_fnd hb) hB hheap hfree (vs := vs.toList) (off := off) (by omega) (okC_one hk hy2) (run_store_one TO ho ha (by rw [hy1]; rfl) hvl.symm h0) ?_ (fun w' => V.any _)
  intro w' cs' he hW hT
  refine ⟨B, cs', ty, fr, hB, hW.here, ?_, ?_⟩
  · have : cs'.size = cs.size := by
      have := congrArg List.length he
      have hv2 : vs.size = T.size t := by rw [← hvl]; simp
      simp only [Array.length_toList, List.length_append, List.length_take, List.length_drop] at this hlc g3
      omega
    rw [this]; exact hfree
  · rw [he, hvl]
    exact (CellsOk_app (CellsOk_app g2 hy2) g4).tr hT

theorem take_map_set (l : List Int) (k : IntKind) (i : Nat) (v : Int) (cs : List Value) (o n : Nat) (hl : l.length = n) (hi : i < n) (hn : o + n ≤ cs.length) (hcs : ∀ j, j < n → cs[o + j]? = some (.int k (l.getD j 0))) :
    cs.take o ++ (l.set i v).map (.int k) ++ cs.drop (o + n) = cs.take (o + i) ++ [.int k v] ++ cs.drop (o + i + 1) := by
  have e1 : cs = cs.take o ++ l.map (.int k) ++ cs.drop (o + n) := by
    have h2 : (cs.drop o).take n = l.map (.int k) := by
      apply List.ext_getElem?
      intro j
      by_cases hj : j < n
      · rw [List.getElem?_take, if_pos hj, List.getElem?_drop, hcs j hj, map_getD _ _ _ (by omega)]
      · rw [List.getElem?_eq_none (by simp; omega), List.getElem?_eq_none (by simp; omega)]
    rw [← h2, List.append_assoc, ← List.drop_drop, List.take_append_drop, List.take_append_drop]
  rw [← list_set_seg _ _ _ (by omega)]
  conv => rhs; rw [e1]
  rw [List.set_append, if_pos (by simp; omega), List.set_append, if_neg (by simp; omega), List.map_set]
  have : (cs.take o).length = o := by simp; omega
  rw [this, Nat.add_sub_cancel_left]

theorem store_eptr_cells_ok (TO : TabOk P T) (hR : R X s σ w a) {o : Oper} {t : TypeId} {x y : Operand} {n g seg i m n' : Nat} {k : IntKind} {v : Int} {l l2 : List SV} {l' : List Int} (ho : o.op = .store t x y)
    (hx : V2 X s.b s.c σ w (.eptr n g seg 1 i m) (a.eval x)) (hy : a.eval y = .int k v) (hb : blkAt s.b n g = some (.cells l)) (hl0 : arrAt l seg = some (k, n', l')) (hl : setA l seg (l'.set i v) = some l2) (hm : m ≤ n') (h1 : T.size t = 1) :
    Does P X s σ ⟨setD s.t o.dst .any, upd s.b n g (.cells l2), s.c⟩ w a o := by
  obtain ⟨him, _, hlv⟩ := hx
  obtain ⟨B, hB, ha⟩ := hlv (blkAt_live hb)
  obtain ⟨B', cs, ty, fr, hB', hheap, hfree, hcells⟩ := (hR.bl n g _ (blkAt_fnd hb)).2.1
  obtain rfl : B = B' := by simpa using hB.symm.trans hB'
  obtain ⟨g1, g2, g3⟩ := arrAt_len hcells hl0
  have hok := setA_ok hcells hl0 hl (by simp [g2])
  have hlc : cs.toList.length = cs.size := by simp
  rw [Nat.mul_one] at ha
  rw [take_map_set l' k i v _ _ _ g2 (by omega) g1 g3] at hok
  refine store_does hR (blkAt_fnd hb) hB hheap hfree (vs := [.int k v]) (off := seg + i) (by simp; omega) (by simp [Value.oneCell']) (run_store_one TO ho ha (by rw [hy]; simp [Value.cells]) (by simp [h1]) (by omega)) ?_ (fun w' => V.any _)
  intro w' cs' he hW hT
  refine ⟨B, cs', ty, fr, hB, hW.here, ?_, ?_⟩
  · have : cs'.size = cs.size := by
      have := congrArg List.length he
      simp only [Array.length_toList, List.length_append, List.length_take, List.length_drop, List.length_cons, List.length_nil] at this
      omega
    rw [this]; exact hfree
  · rw [he, List.length_singleton]
    exact hok.tr hT

/-- The numbers at the begin of a block are known; some are written over. -/
theorem holds_ints {vw : Bool → Nat → Prop} {B : Nat} {k : IntKind} {l : List Int} {cs : Array Value} {t : TypeId} {fr : Nat × Nat} (hheap : w.heap[B]? = some (.cells cs t fr)) :
    Holds vw w B 0 (.ints k l) ↔ ∀ i, i < l.length → cs[i]? = some (.int k (l.getD i 0)) := by
  constructor
  · intro h i hi
    obtain ⟨x, hx, hc⟩ := h i 0 hi (by simp [Data.esz])
    simp only [Data.esz, Nat.mul_one, Nat.zero_add, Nat.add_zero] at hx
    rw [cell_block hheap] at hx
    rw [hx, show x = _ from hc]
  · intro h i j hi hj
    simp only [Data.esz] at hj
    obtain rfl : j = 0 := by omega
    refine ⟨_, ?_, rfl⟩
    simp only [Data.esz, Nat.mul_one, Nat.zero_add, Nat.add_zero]
    rw [cell_block hheap]
    exact h i hi

theorem store_eptr_vec_ok (TO : TabOk P T) (hR : R X s σ w a) {o : Oper} {t : TypeId} {x y : Operand} {n g i m : Nat} {k : IntKind} {v : Int} {l : List Int} (ho : o.op = .store t x y)
    (hx : V2 X s.b s.c σ w (.eptr n g 0 1 i m) (a.eval x)) (hy : a.eval y = .int k v) (hb : blkAt s.b n g = some (.vec (.ints k l))) (hm : m ≤ l.length) (h1 : T.size t = 1) :
    Does P X s σ ⟨setD s.t o.dst .any, upd s.b n g (.vec (.ints k (l.set i v))), s.c⟩ w a o := by
  obtain ⟨him, _, hlv⟩ := hx
  obtain ⟨B, hB, ha⟩ := hlv (blkAt_live hb)
  rcases (hR.bl n g _ (blkAt_fnd hb)).2.1 with ⟨hno, _⟩ | ⟨B', cs, ty, fr, hB', hheap, hfree, hsz, hh, hft⟩
  · rw [hno] at hB; simp at hB
  obtain rfl : B = B' := by simpa using hB.symm.trans hB'
  simp only [Data.len, Data.esz, Nat.mul_one] at hsz
  rw [holds_ints hheap] at hh
  rw [Nat.mul_one, Nat.zero_add] at ha
  refine store_does hR (blkAt_fnd hb) hB hheap hfree (vs := [.int k v]) (off := i) (by simp; omega) (by simp [Value.oneCell']) (run_store_one TO ho ha (by rw [hy]; simp [Value.cells]) (by simp [h1]) (by omega)) ?_ (fun w' => V.any _)
  intro w' cs' he hW hT
  have hs' : cs'.size = cs.size := by
    have := congrArg List.length he
    simp only [Array.length_toList, List.length_append, List.length_take, List.length_drop, List.length_cons, List.length_nil] at this
    omega
  refine .inr ⟨B, cs', ty, fr, hB, hW.here, by rw [hs']; exact hfree, by simp [Data.len, Data.esz, hs']; omega, ?_⟩
  have e1 : cs'.toList = cs.toList.set i (.int k v) := by rw [he, List.length_singleton, ← list_set_seg _ _ _ (by simp; omega)]
  refine ⟨?_, fun q hq => ?_, by rw [hs']; exact hft.2⟩
  rotate_left
  · rw [← Array.getElem?_toList, e1, List.getElem?_set]
    by_cases e : i = q
    · subst e; exact ⟨v, by simp [show i < cs.size by omega]⟩
    · rw [if_neg e]
      obtain ⟨z, hz⟩ := hft.1 q (by omega)
      exact ⟨z, by rw [← hz, Array.getElem?_toList]⟩
  rw [holds_ints hW.here]
  intro j hj
  rw [List.length_set] at hj
  rw [← Array.getElem?_toList, e1, List.getElem?_set]
  by_cases e : i = j
  · subst e; simp [List.getD, hj, show i < cs.size by omega]
  · rw [if_neg e]
    have := hh j hj
    rw [← Array.getElem?_toList] at this
    rw [this]
    simp [List.getD, List.getElem?_set, e]
end

end Go.Proofs.Ytbnjdnahpnjofaa.Abs
