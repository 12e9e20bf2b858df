/- OWN LIBRARY, part 10: lists that are written out, bytes of a string, copies. -/
import Derived.Test.YtbnjdnahpnjofaaA9
import Derived.Laws.IdiomStrings
set_option linter.unusedVariables false
set_option linter.unusedSimpArgs false
namespace Go.Proofs.Ytbnjdnahpnjofaa.Abs
open Go

def idx : Nat → List Value → List (Nat × Value)
  | _, [] => []
  | i, v :: vs => (i, v) :: idx (i + 1) vs

theorem fill_ok : ∀ (vs : List Value) (i : Nat) (cs : Array Value), (∀ v ∈ vs, v.cells = #[v]) → i + vs.length ≤ cs.size →
    ∃ cs', Instr.fill (fun i => some (i * 1, 1)) cs (idx i vs) = some cs' ∧ cs'.toList = cs.toList.take i ++ vs ++ cs.toList.drop (i + vs.length)
  | [], i, cs, _, _ => ⟨cs, rfl, by simp⟩
  | v :: vs, i, cs, h1, h2 => by
    have hv := h1 v (by simp)
    obtain ⟨cs', e1, e2⟩ := fill_ok vs (i + 1) (cs.setIfInBounds i v) (fun x hx => h1 x (by simp [hx])) (by simp at h2 ⊢; omega)
    refine ⟨cs', ?_, ?_⟩
    · simp only [idx, Instr.fill, hv]
      rw [if_neg (by simp at h2 ⊢; omega)]
      simpa using e1
    · rw [e2]
      have e := list_seg_step cs.toList i v vs (by simp at h2 ⊢; omega)
      simpa [Array.toList_setIfInBounds, Nat.add_assoc] using e

section
variable {P : Program} {T : Tab} {X : Ctx} {s : St} {σ : Env} {w : World} {a : Act}

def AllV (X : Ctx) (b : List (Nat × Nat × Blk)) (c : Lim) (σ : Env) (w : World) : List SV → List Value → Prop
  | [], vs => vs = []
  | x :: r, vs => ∃ v vs', vs = v :: vs' ∧ V2 X b c σ w x v ∧ AllV X b c σ w r vs'

theorem elems_ok {b : List (Nat × Nat × Blk)} {c : Lim} {ρ : Operand → SV} : ∀ {parts : List (Nat × Operand)} {i : Nat} {xs : List SV}, elemsOf ρ i parts = some xs → (∀ q ∈ parts, V2 X b c σ w (ρ q.2) (a.eval q.2)) →
    ∃ vs, parts.map (fun q => (q.1, a.eval q.2)) = idx i vs ∧ AllV X b c σ w xs vs
  | [], i, xs, h, _ => by simp only [elemsOf, Option.some.injEq] at h; subst h; exact ⟨[], rfl, rfl⟩
  | (j, x) :: r, i, xs, h, hv => by
    simp only [elemsOf] at h
    split at h
    · rename_i hj
      subst hj
      cases e : elemsOf ρ (j + 1) r <;> simp only [e, Option.map_none, Option.map_some, reduceCtorEq, Option.some.injEq] at h
      subst h
      obtain ⟨vs, e1, e2⟩ := elems_ok e (fun q hq => hv q (by simp [hq]))
      exact ⟨a.eval x :: vs, by simp [idx, e1], _, _, rfl, hv (j, x) (by simp), e2⟩
    · simp at h

theorem intsOf_ok {b : List (Nat × Nat × Blk)} {c : Lim} {k : IntKind} : ∀ {xs : List SV} {vs : List Value} {l : List Int}, intsOf k xs = some l → AllV X b c σ w xs vs → vs = l.map (.int k) ∧ l.length = xs.length
  | [], vs, l, h, hv => by simp only [intsOf, Option.some.injEq] at h; subst h; exact ⟨hv, rfl⟩
  | x :: xs, vs, l, h, hv => by
    obtain ⟨v, vs', rfl, h1, h2⟩ := hv
    cases x <;> simp only [intsOf, reduceCtorEq] at h
    rename_i k' n
    split at h
    · rename_i hk
      subst hk
      cases e : intsOf k' xs <;> simp only [e, Option.map_none, Option.map_some, reduceCtorEq, Option.some.injEq] at h
      subst h
      obtain ⟨e1, e2⟩ := intsOf_ok e h2
      exact ⟨by rw [e1, show v = .int k' n from h1]; rfl, by simp [e2]⟩
    · simp at h

theorem strsOf_ok {b : List (Nat × Nat × Blk)} {c : Lim} : ∀ {xs : List SV} {vs : List Value} {l : List ByteArray}, strsOf xs = some l → AllV X b c σ w xs vs → vs = l.map .string ∧ l.length = xs.length
  | [], vs, l, h, hv => by simp only [strsOf, Option.some.injEq] at h; subst h; exact ⟨hv, rfl⟩
  | x :: xs, vs, l, h, hv => by
    obtain ⟨v, vs', rfl, h1, h2⟩ := hv
    cases x <;> simp only [strsOf, reduceCtorEq] at h
    rename_i n
    cases e : strsOf xs <;> simp only [e, Option.map_none, Option.map_some, reduceCtorEq, Option.some.injEq] at h
    subst h
    obtain ⟨e1, e2⟩ := strsOf_ok e h2
    exact ⟨by rw [e1, show v = .string n from h1]; rfl, by simp [e2]⟩

theorem rowsOf_ok {b : List (Nat × Nat × Blk)} {c : Lim} : ∀ {xs : List SV} {vs : List Value} {t : Bool} {l : List (List Int)}, rowsOf b xs = some (t, l) → AllV X b c σ w xs vs →
    l.length = xs.length ∧ vs.length = xs.length ∧ ∀ i, i < l.length → ∃ v, vs[i]? = some v ∧ IsRow (Vw X b σ w t) w (l.getD i []) v
  | [], vs, t, l, h, hv => by
    simp only [rowsOf, Option.some.injEq, Prod.mk.injEq] at h; obtain ⟨rfl, rfl⟩ := h; rw [show vs = [] from hv]
    exact ⟨rfl, rfl, fun i hi => by simp at hi⟩
  | x :: xs, vs, t, l, h, hv => by
    obtain ⟨v, vs', rfl, h1, h2⟩ := hv
    simp only [rowsOf] at h
    cases e1 : rowOf b x <;> simp only [e1, reduceCtorEq] at h
    cases e2 : rowsOf b xs <;> simp only [e2, reduceCtorEq] at h
    rename_i q1 q2
    obtain ⟨t1, l1⟩ := q1
    obtain ⟨t2, l2⟩ := q2
    simp only [Option.some.injEq, Prod.mk.injEq] at h
    obtain ⟨rfl, rfl⟩ := h
    obtain ⟨g1, g2, g3⟩ := rowsOf_ok e2 h2
    have hr : IsRow (Vw X b σ w t1) w l1 v := by
      cases x <;> try (simp only [rowOf, reduceCtorEq] at e1; done)
      case nil =>
        simp only [rowOf, Option.some.injEq, Prod.mk.injEq] at e1
        obtain ⟨rfl, rfl⟩ := e1
        rw [show v = _ from h1]
        exact ⟨none, 0, rfl, Nat.le_refl _, fun h => absurd rfl h⟩
      case view tag d =>
        cases d <;> try (simp only [rowOf, reduceCtorEq] at e1; done)
        rename_i k q
        cases k <;> try (simp only [rowOf, reduceCtorEq] at e1; done)
        simp only [rowOf, Option.some.injEq, Prod.mk.injEq] at e1
        obtain ⟨rfl, rfl⟩ := e1
        obtain ⟨ad, cap, rfl, hc, hh⟩ := h1
        refine ⟨ad, cap, rfl, hc, fun hne => ?_⟩
        obtain ⟨B, o, rfl, hv, hd⟩ := hh hne
        refine ⟨B, o, rfl, hv, fun i hi => ?_⟩
        obtain ⟨y, hy, hc⟩ := hd i 0 hi (by simp [Data.esz])
        simp only [Data.esz, Nat.mul_one, Nat.add_zero] at hy
        rw [hy, show y = _ from hc]
    refine ⟨by simp [g1], by simp [g2], fun i hi => ?_⟩
    cases i with
    | zero => exact ⟨v, rfl, hr.weak (tag' := t1 && t2) (by intro h; rw [Bool.and_eq_true] at h; exact h.1)⟩
    | succ i =>
      obtain ⟨u, hu, hrow⟩ := g3 i (by simp at hi; omega)
      have := hrow.weak (tag' := t1 && t2) (by intro h; rw [Bool.and_eq_true] at h; exact h.2)
      exact ⟨u, by simpa using hu, by simpa [List.getD] using this⟩

theorem buildSlice_does (TO : TabOk P T) (hR : R X s σ w a) {o : Oper} {t e : TypeId} {len : Nat} {parts : Array (Nat × Operand)} {vs : List Value} {d : Data} {dd : Nat} (ho : o.op = .buildSlice t len parts) (hn : dd ∉ s.c.d)
    (ht : T.ty t = .slice e) (hparts : parts.toList.map (fun q => (q.1, a.eval q.2)) = idx 0 vs) (hcells : ∀ v ∈ vs, v.cells = #[v]) (hlen : vs.length = len) (hs : T.size e = 1) (hl : len ≤ 16777216) (hez : d.esz = 1) (hdl : d.len = len)
    (hc : ∀ i, i < len → ∃ v, vs[i]? = some v ∧ CellOk (Vw X s.b σ w) w i 0 d v) :
    Does P X s σ ⟨setD s.t o.dst (.sl dd s.c.c 0 1 0 len), upd s.b dd s.c.c (.vec d), s.c.add dd⟩ w a o := by
  obtain ⟨i, hi, his, hib, z, hz, hzo, _⟩ := TO.info e (by omega)
  have ht' := TO.ty t
  rw [ht] at ht'; simp only [tyOk] at ht'
  have hparts' : (parts.map fun q => (q.1, a.eval q.2)).toList = idx 0 vs := by simpa using hparts
  -- whatever the zeros are
  have key : ∀ zc : Array Value, ∃ cs', Instr.fill (fun i => some (i * 1, 1)) ((Array.range (len * 1)).map (fun x => zc[x % zc.size]!)) (idx 0 vs) = some cs' ∧ cs'.toList = vs := by
    intro zc
    obtain ⟨cs', e1, e2⟩ := fill_ok vs 0 ((Array.range (len * 1)).map (fun x => zc[x % zc.size]!)) hcells (by simp [hlen])
    refine ⟨cs', e1, ?_⟩
    rw [e2]
    simp [hlen]
  have hrun : ∃ cs', cs'.toList = vs ∧ (Instr.buildSlice t len (parts.map fun q => (q.1, a.eval q.2))).run P w = .ok (.slice (some ⟨w.heap.size, 0, none⟩) len len) (w.alloc (.cells cs' e)) := by
    by_cases h0 : len * 1 = 0
    · obtain ⟨cs', e1, e2⟩ := key #[]
      refine ⟨cs', e2, ?_⟩
      simp only [Instr.buildSlice, Sem.run_bind, run_underlying ht', Result.andThen_ok, size_run TO (t := e) (by omega), hs]
      rw [if_neg (by omega)]
      simp only [h0, if_true, Sem.run_bind, Sem.run_pure, Result.andThen_ok, hparts']
      rw [h0] at e1
      rw [e1]
      simp [newRow]
    · obtain ⟨cs', e1, e2⟩ := key z.cells
      refine ⟨cs', e2, ?_⟩
      simp only [Instr.buildSlice, Sem.run_bind, run_underlying ht', Result.andThen_ok, size_run TO (t := e) (by omega), hs]
      rw [if_neg (by omega)]
      have hzv : (zeroValue e).run P w = .ok z w := by simp [zeroValue, typeInfo, hi, hz]
      simp only [h0, if_false, Sem.run_pure, Sem.run_bind, Result.andThen_ok, hparts', hzv]
      rw [e1]
      simp [newRow]
  obtain ⟨cs', e2, hr⟩ := hrun
  refine ⟨.value (.slice (some ⟨w.heap.size, 0, none⟩) len len), _, w.alloc (.cells cs' e), bind1 σ dd w.heap.size, ?_, .inl rfl, ?_⟩
  · simp only [execOp, ho]
    simp only [Sem.run_bind, hr, Result.andThen_ok, Sem.run_pure]
  · have hcs : cs'.size = len := by rw [← hlen, ← e2]; simp
    refine R_new hR hn rfl ⟨rfl, rfl, rfl⟩ (.inr ⟨w.heap.size, cs', e, (0, 0), by simp [bind1], heap_new w _, free0 _, by rw [hez, hdl, hcs]; omega, ?_, ?_⟩) ?_
    · intro i j hi hj
      rw [hez] at hj ⊢
      obtain rfl : j = 0 := by omega
      obtain ⟨v, hv, hcell⟩ := hc i (by omega)
      refine ⟨v, ?_, CellOk.tr (Tr_new hR hn rfl) hcell⟩
      rw [World.cell?_alloc_new, ← Array.getElem?_toList, e2]
      simpa using hv
    · cases d <;> try trivial
      refine ⟨fun i hi => ?_, by omega⟩
      obtain ⟨v, hv, hcell⟩ := hc i (by omega)
      exact ⟨_, by rw [← Array.getElem?_toList, e2, hv, show v = _ from hcell]⟩
    · refine ⟨Lim.ok_new _ _, fun _ => ⟨_, len, rfl, Nat.le_refl _, fun _ => ⟨w.heap.size, by simp [bind1], by simp, ?_⟩⟩⟩
      simp only [blockSize, heap_new, hcs]; omega

theorem buildCells_does (TO : TabOk P T) (hR : R X s σ w a) {o : Oper} {t e : TypeId} {len : Nat} {parts : Array (Nat × Operand)} {vs : List Value} {xs : List SV} {dd : Nat} (ho : o.op = .buildSlice t len parts) (hn : dd ∉ s.c.d)
    (ht : T.ty t = .slice e) (hparts : parts.toList.map (fun q => (q.1, a.eval q.2)) = idx 0 vs) (hcells : ∀ v ∈ vs, v.cells = #[v]) (hlen : vs.length = len) (hs : T.size e = 1) (hl : len ≤ 16777216) (hc : CellsOk X s.b s.c σ w xs vs) :
    Does P X s σ ⟨setD s.t o.dst (.sl dd s.c.c 0 1 0 len), upd s.b dd s.c.c (.cells xs), s.c.add dd⟩ w a o := by
  obtain ⟨i, hi, his, hib, z, hz, hzo, _⟩ := TO.info e (by omega)
  have ht' := TO.ty t
  rw [ht] at ht'; simp only [tyOk] at ht'
  have hparts' : (parts.map fun q => (q.1, a.eval q.2)).toList = idx 0 vs := by simpa using hparts
  -- whatever the zeros are
  have key : ∀ zc : Array Value, ∃ cs', Instr.fill (fun i => some (i * 1, 1)) ((Array.range (len * 1)).map (fun x => zc[x % zc.size]!)) (idx 0 vs) = some cs' ∧ cs'.toList = vs := by
    intro zc
    obtain ⟨cs', e1, e2⟩ := fill_ok vs 0 ((Array.range (len * 1)).map (fun x => zc[x % zc.size]!)) hcells (by simp [hlen])
    refine ⟨cs', e1, ?_⟩
    rw [e2]
    simp [hlen]
  have hrun : ∃ cs', cs'.toList = vs ∧ (Instr.buildSlice t len (parts.map fun q => (q.1, a.eval q.2))).run P w = .ok (.slice (some ⟨w.heap.size, 0, none⟩) len len) (w.alloc (.cells cs' e)) := by
    by_cases h0 : len * 1 = 0
    · obtain ⟨cs', e1, e2⟩ := key #[]
      refine ⟨cs', e2, ?_⟩
      simp only [Instr.buildSlice, Sem.run_bind, run_underlying ht', Result.andThen_ok, size_run TO (t := e) (by omega), hs]
      rw [if_neg (by omega)]
      simp only [h0, if_true, Sem.run_bind, Sem.run_pure, Result.andThen_ok, hparts']
      rw [h0] at e1
      rw [e1]
      simp [newRow]
    · obtain ⟨cs', e1, e2⟩ := key z.cells
      refine ⟨cs', e2, ?_⟩
      simp only [Instr.buildSlice, Sem.run_bind, run_underlying ht', Result.andThen_ok, size_run TO (t := e) (by omega), hs]
      rw [if_neg (by omega)]
      have hzv : (zeroValue e).run P w = .ok z w := by simp [zeroValue, typeInfo, hi, hz]
      simp only [h0, if_false, Sem.run_pure, Sem.run_bind, Result.andThen_ok, hparts', hzv]
      rw [e1]
      simp [newRow]
  obtain ⟨cs', e2, hr⟩ := hrun
  refine ⟨.value (.slice (some ⟨w.heap.size, 0, none⟩) len len), _, w.alloc (.cells cs' e), bind1 σ dd w.heap.size, ?_, .inl rfl, ?_⟩
  · simp only [execOp, ho]
    simp only [Sem.run_bind, hr, Result.andThen_ok, Sem.run_pure]
  · have hcs : cs'.size = len := by rw [← hlen, ← e2]; simp
    refine R_new hR hn rfl ⟨rfl, rfl, rfl⟩ ⟨w.heap.size, cs', e, (0, 0), by simp [bind1], heap_new w _, free0 _, by rw [e2]; exact hc.tr (Tr_new hR hn rfl)⟩ ?_
    refine ⟨Lim.ok_new _ _, fun _ => ⟨_, len, rfl, Nat.le_refl _, fun _ => ⟨w.heap.size, by simp [bind1], by simp, ?_⟩⟩⟩
    simp only [blockSize, heap_new, hcs]; omega

theorem scalAll_ok {b : List (Nat × Nat × Blk)} {c : Lim} : ∀ {xs : List SV} {vs : List Value}, xs.all (scal b) = true → AllV X b c σ w xs vs → CellsOk X b c σ w xs vs ∧ (∀ v ∈ vs, v.cells = #[v]) ∧ vs.length = xs.length
  | [], vs, _, hv => by rw [show vs = [] from hv]; exact ⟨rfl, by simp, rfl⟩
  | x :: r, vs, h, hv => by
    obtain ⟨v, vs', rfl, h1, h2⟩ := hv
    simp only [List.all_cons, Bool.and_eq_true] at h
    obtain ⟨g1, g2, g3⟩ := scalAll_ok h.2 h2
    obtain ⟨k1, _, k3⟩ := scal_cells h.1 h1
    refine ⟨?_, ?_, by simp [g3]⟩
    · cases x
      case arr => exact k3.elim
      all_goals exact ⟨v, vs', rfl, k3, g1⟩
    · intro u hu
      rcases List.mem_cons.1 hu with rfl | hu
      · exact k1
      · exact g2 u hu

theorem fillN_ok (sz : Nat) : ∀ (vs : List Value) (i : Nat) (cs : Array Value), (∀ v ∈ vs, v.cells.size = sz) → (i + vs.length) * sz ≤ cs.size →
    ∃ cs', Instr.fill (fun i => some (i * sz, sz)) cs (idx i vs) = some cs' ∧ cs'.toList = cs.toList.take (i * sz) ++ (vs.map fun v => v.cells.toList).flatten ++ cs.toList.drop ((i + vs.length) * sz)
  | [], i, cs, _, _ => ⟨cs, rfl, by simp⟩
  | v :: vs, i, cs, h1, h2 => by
    have hv := h1 v (by simp)
    have hm : (i + (v :: vs).length) * sz = i * sz + sz + vs.length * sz := by simp only [List.length_cons, Nat.add_mul, Nat.one_mul]; omega
    have hm2 : (i + 1 + vs.length) * sz = i * sz + sz + vs.length * sz := by simp only [Nat.add_mul, Nat.one_mul]
    have hm1 : (i + 1) * sz = i * sz + sz := by simp only [Nat.add_mul, Nat.one_mul]
    have hf := fold_cells v (i * sz) cs (by omega)
    obtain ⟨cs', e1, e2⟩ := fillN_ok sz vs (i + 1) (v.cells.zipIdx.foldl (fun cs q => cs.setIfInBounds (i * sz + q.2) q.1) cs) (fun x hx => h1 x (by simp [hx])) (by
      have hl : (v.cells.zipIdx.foldl (fun cs q => cs.setIfInBounds (i * sz + q.2) q.1) cs).size = cs.size := by
        have := congrArg List.length hf
        simp only [Array.length_toList, List.length_append, List.length_take, List.length_drop] at this
        omega
      rw [hl]; omega)
    refine ⟨cs', ?_, ?_⟩
    · simp only [idx, Instr.fill]
      rw [if_neg (by simp; omega)]
      exact e1
    · rw [e2, hf, hm1, hm2, hm]
      have hl1 : (cs.toList.take (i * sz) ++ v.cells.toList).length = i * sz + sz := by simp; omega
      have t1 : (cs.toList.take (i * sz) ++ v.cells.toList ++ cs.toList.drop (i * sz + v.cells.size)).take (i * sz + sz) = cs.toList.take (i * sz) ++ v.cells.toList := by
        rw [← hl1]; exact List.take_left
      have t2 : (cs.toList.take (i * sz) ++ v.cells.toList ++ cs.toList.drop (i * sz + v.cells.size)).drop (i * sz + sz + vs.length * sz) = cs.toList.drop (i * sz + sz + vs.length * sz) := by
        rw [List.drop_append, hl1, List.drop_eq_nil_of_le (by omega), List.drop_drop, hv, List.nil_append, Nat.add_sub_cancel_left]
      rw [t1, t2]
      simp

theorem aggsOf_ok {b : List (Nat × Nat × Blk)} {c : Lim} {sz : Nat} : ∀ {xs : List SV} {vs : List Value} {l : List SV}, aggsOf b sz xs = some l → AllV X b c σ w xs vs → CellsOk X b c σ w l ((vs.map fun v => v.cells.toList).flatten) ∧ (∀ v ∈ vs, v.cells.size = sz) ∧ vs.length = xs.length
  | [], vs, l, h, hv => by simp only [aggsOf, Option.some.injEq] at h; subst h; rw [show vs = [] from hv]; exact ⟨rfl, by simp, rfl⟩
  | x :: r, vs, l, h, hv => by
    obtain ⟨v, vs', rfl, h1, h2⟩ := hv
    cases x <;> simp only [aggsOf, reduceCtorEq] at h
    rename_i m
    split at h
    · rename_i hc
      cases e : aggsOf b sz r <;> simp only [e, Option.map_none, Option.map_some, reduceCtorEq, Option.some.injEq] at h
      subst h
      obtain ⟨g1, g2, g3⟩ := aggsOf_ok e h2
      obtain ⟨cs, rfl, hcs⟩ := h1
      have hn := cntC_ok hcs
      refine ⟨?_, ?_, by simp [g3]⟩
      · simpa [Value.cells] using CellsOk_app hcs g1
      · intro u hu
        rcases List.mem_cons.1 hu with rfl | hu
        · simp only [Value.cells]; simpa using hn.symm.trans hc
        · exact g2 u hu
    · simp at h

theorem buildAggs_does (TO : TabOk P T) (hR : R X s σ w a) {o : Oper} {t e : TypeId} {len : Nat} {parts : Array (Nat × Operand)} {vs : List Value} {l : List SV} {dd : Nat} (ho : o.op = .buildSlice t len parts) (hn : dd ∉ s.c.d)
    (ht : T.ty t = .slice e) (hparts : parts.toList.map (fun q => (q.1, a.eval q.2)) = idx 0 vs) (hcells : ∀ v ∈ vs, v.cells.size = T.size e) (hlen : vs.length = len) (hs : T.size e ≠ 0) (hl : len * T.size e ≤ 16777216) (hc : CellsOk X s.b s.c σ w l ((vs.map fun v => v.cells.toList).flatten)) :
    Does P X s σ ⟨setD s.t o.dst (.sl dd s.c.c 0 (T.size e) 0 len), upd s.b dd s.c.c (.cells l), s.c.add dd⟩ w a o := by
  obtain ⟨i, hi, his, hib, z, hz, hzo, _⟩ := TO.info e hs
  have ht' := TO.ty t
  rw [ht] at ht'; simp only [tyOk] at ht'
  have hparts' : (parts.map fun q => (q.1, a.eval q.2)).toList = idx 0 vs := by simpa using hparts
  have hflat : ((vs.map fun v => v.cells.toList).flatten).length = len * T.size e := by
    rw [← hlen]
    clear hparts hparts' hc hlen
    induction vs with
    | nil => simp
    | cons v vs ih =>
      have := ih (fun u hu => hcells u (by simp [hu]))
      simp only [List.map_cons, List.flatten_cons, List.length_append, this, List.length_cons, Nat.add_mul, Nat.one_mul]
      have := hcells v (by simp)
      simp [this]; omega
  have key : ∀ zc : Array Value, ∃ cs', Instr.fill (fun i => some (i * T.size e, T.size e)) ((Array.range (len * T.size e)).map (fun x => zc[x % zc.size]!)) (idx 0 vs) = some cs' ∧ cs'.toList = (vs.map fun v => v.cells.toList).flatten := by
    intro zc
    obtain ⟨cs', e1, e2⟩ := fillN_ok (T.size e) vs 0 ((Array.range (len * T.size e)).map (fun x => zc[x % zc.size]!)) hcells (by simp [hlen])
    refine ⟨cs', e1, ?_⟩
    rw [e2]
    simp [hlen]
  have hrun : ∃ cs', cs'.toList = (vs.map fun v => v.cells.toList).flatten ∧ (Instr.buildSlice t len (parts.map fun q => (q.1, a.eval q.2))).run P w = .ok (.slice (some ⟨w.heap.size, 0, none⟩) len len) (w.alloc (.cells cs' e)) := by
    by_cases h0 : len * T.size e = 0
    · obtain ⟨cs', e1, e2⟩ := key #[]
      refine ⟨cs', e2, ?_⟩
      simp only [Instr.buildSlice, Sem.run_bind, run_underlying ht', Result.andThen_ok, size_run TO (t := e) hs]
      rw [if_neg (by omega)]
      simp only [h0, if_true, Sem.run_bind, Sem.run_pure, Result.andThen_ok, hparts']
      rw [h0] at e1
      rw [e1]
      simp [newRow]
    · obtain ⟨cs', e1, e2⟩ := key z.cells
      refine ⟨cs', e2, ?_⟩
      simp only [Instr.buildSlice, Sem.run_bind, run_underlying ht', Result.andThen_ok, size_run TO (t := e) hs]
      rw [if_neg (by omega)]
      have hzv : (zeroValue e).run P w = .ok z w := by simp [zeroValue, typeInfo, hi, hz]
      simp only [h0, if_false, Sem.run_pure, Sem.run_bind, Result.andThen_ok, hparts', hzv]
      rw [e1]
      simp [newRow]
  obtain ⟨cs', e2, hr⟩ := hrun
  refine ⟨.value (.slice (some ⟨w.heap.size, 0, none⟩) len len), _, w.alloc (.cells cs' e), bind1 σ dd w.heap.size, ?_, .inl rfl, ?_⟩
  · simp only [execOp, ho]
    simp only [Sem.run_bind, hr, Result.andThen_ok, Sem.run_pure]
  · have hcs : cs'.size = len * T.size e := by rw [← hflat, ← e2]; simp
    refine R_new hR hn rfl ⟨rfl, rfl, rfl⟩ ⟨w.heap.size, cs', e, (0, 0), by simp [bind1], heap_new w _, free0 _, by rw [e2]; exact hc.tr (Tr_new hR hn rfl)⟩ ?_
    refine ⟨Lim.ok_new _ _, fun _ => ⟨_, len, rfl, Nat.le_refl _, fun _ => ⟨w.heap.size, by simp [bind1], by simp, ?_⟩⟩⟩
    simp only [blockSize, heap_new, hcs, Nat.zero_add]; exact Nat.le_refl _

theorem isStr_eq {x : TyI} (h : isStr x) : x = .string := by cases x <;> simp_all [isStr]

theorem strBytes_ok (TO : TabOk P T) (hR : R X s σ w a) {o : Oper} {src dst' e : TypeId} {x : Operand} {str : ByteArray} {dd : Nat} (ho : o.op = .convert src dst' x) (hn : dd ∉ s.c.d)
    (hx : a.eval x = .string str) (ht : T.ty dst' = .slice e) (he : T.ty e = .int .u8) (hsrc : isStr (T.ty src)) (hss : str.size ≤ 4611686018427387904) :
    Does P X s σ ⟨setD s.t o.dst (.sl dd s.c.c 0 1 0 str.size), upd s.b dd s.c.c (.vec (.ints .u8 (str.data.toList.map byteI))), s.c.add dd⟩ w a o := by
  have hq := TO.ty src
  rw [isStr_eq hsrc] at hq; simp only [tyOk] at hq
  have ht' := TO.ty dst'
  rw [ht] at ht'; simp only [tyOk] at ht'
  have he' := TO.ty e
  rw [he] at he'; simp only [tyOk] at he'
  have hrun := run_bytes_of_string (P := P) w src dst' e str hq ht' he'
  have hcap : str.size ≤ grownCap w str.size 0 e := by simp only [grownCap, Question.cut]; omega
  have hcap2 : grownCap w str.size 0 e < 9223372036854775808 := by
    simp only [grownCap, Question.cut]
    have e63 : (2 : Nat) ^ 63 = 9223372036854775808 := rfl
    rw [e63]
    exact Nat.lt_of_lt_of_le (Nat.add_lt_add_left (Nat.mod_lt _ (by omega)) _) (by omega)
  generalize grownCap w str.size 0 e = cap at hrun hcap hcap2
  have hsd : str.data.size = str.size := rfl
  have hcsz : (bytesRow str cap).size = cap := by simp only [bytesRow, Array.size_append, Array.size_map, Array.size_replicate]; omega
  have hlen : (str.data.toList.map byteI).length = str.size := by simp only [List.length_map, Array.length_toList]; rfl
  have hget : ∀ i, i < str.size → (bytesRow str cap)[i]? = some (.int .u8 ((str.data.toList.map byteI).getD i 0)) := by
    intro i hi
    have hi' : i < str.data.size := hi
    have e2 : (str.data.toList.map byteI).getD i 0 = (str.data[i].toNat : Int) := by
      simp only [List.getD, List.getElem?_map, Array.getElem?_toList, Array.getElem?_eq_getElem hi', Option.map_some, Option.getD_some, byteI]
    rw [e2]
    simp only [bytesRow]
    rw [Array.getElem?_append_left (by simpa using hi'), Array.getElem?_map, Array.getElem?_eq_getElem hi']
    rfl
  have hgetF : Fit (.ints .u8 (str.data.toList.map byteI)) (bytesRow str cap) := by
    refine ⟨fun i hi => ?_, by rw [hcsz]; exact hcap2⟩
    by_cases c : i < str.size
    · exact ⟨_, hget i c⟩
    · refine ⟨0, ?_⟩
      rw [hcsz] at hi
      have c' : ¬ i < str.data.size := c
      simp only [bytesRow]
      rw [Array.getElem?_append_right (by rw [Array.size_map]; omega), Array.getElem?_replicate, if_pos (by rw [Array.size_map]; omega)]
  generalize bytesRow str cap = cells at hrun hcsz hget hgetF
  refine ⟨.value (.slice (some ⟨w.heap.size, 0, none⟩) str.size cap), _, w.drew.alloc (.cells cells e (cells.size, cells.size + 1)), bind1 σ dd w.heap.size, ?_, .inl rfl, ?_⟩
  · simp only [execOp, ho, hx]
    simp only [Sem.run_bind, hrun, Result.andThen_ok, Sem.run_pure]
  · have hheap : (w.drew.alloc (.cells cells e (cells.size, cells.size + 1))).heap[w.heap.size]? = some (.cells cells e (cells.size, cells.size + 1)) := by show (w.heap.push _)[w.heap.size]? = _; simp
    refine R_new (o := .cells cells e (cells.size, cells.size + 1)) hR hn rfl ⟨rfl, rfl, rfl⟩ (.inr ⟨w.heap.size, cells, e, (cells.size, cells.size + 1), by simp [bind1], hheap, ?_, by rw [hcsz]; simp only [Data.len, Data.esz, hlen]; omega, ?_, hgetF⟩) ?_
    · exact .inr (Nat.le_refl _)
    · rw [holds_ints hheap]
      intro i hi
      exact hget i (by rw [hlen] at hi; exact hi)
    · refine ⟨Lim.ok_new _ _, fun _ => ⟨_, cap, rfl, hcap, fun _ => ⟨w.heap.size, by simp [bind1], by simp, ?_⟩⟩⟩
      simp only [blockSize, hheap]; omega

/-- Bytes, as bytes: the block is marked, else it stays. -/
theorem convSl_ok (TO : TabOk P T) (hR : R X s σ w a) {o : Oper} {src e : TypeId} {x : Operand} {n g seg e' off len : Nat} {d : Data} (ho : o.op = .convert src src x)
    (hx : V2 X s.b s.c σ w (.sl n g seg e' off len) (a.eval x)) (ht : T.ty src = .slice e) (he : T.ty e = .int .u8) (hb : blkAt s.b n g = some (.vec d)) (hl : len ≠ 0) :
    Does P X s σ ⟨setD s.t o.dst (.sl n g seg e' off len), upd s.b n g (.vec d), s.c⟩ w a o := by
  have ht' := TO.ty src
  rw [ht] at ht'; simp only [tyOk] at ht'
  have he' := TO.ty e
  rw [he] at he'; simp only [tyOk] at he'
  have hx0 := hx
  obtain ⟨hc, hlv⟩ := hx
  obtain ⟨ad, cap, hax, hlc, hcap⟩ := hlv (blkAt_live hb)
  obtain ⟨B, hB, had, hbs⟩ := hcap (by omega)
  subst had
  rcases (hR.bl n g _ (blkAt_fnd hb)).2.1 with ⟨hn, _⟩ | ⟨B', cs, ty, fr, hB', hheap, hfree, hsz, hh, hft⟩
  · rw [hn] at hB; cases hB
  obtain rfl : B = B' := by simpa using hB.symm.trans hB'
  have hlt : B < w.heap.size := (Array.getElem?_eq_some_iff.1 hheap).1
  obtain ⟨fr', hfree', hW⟩ : ∃ fr', Free fr' cs.size ∧ Wrote B w (w.freeze { block := B, off := cs.size, spot := none } 1) cs ty fr' := by
    refine ⟨if fr.1 == fr.2 then (cs.size, cs.size + 1) else (min fr.1 cs.size, max fr.2 (cs.size + 1)), ?_, ?_, ?_, ?_, rfl, rfl, rfl⟩
    · split
      · exact .inr (Nat.le_refl _)
      · rename_i h
        have h' : fr.1 ≠ fr.2 := by simpa using h
        rcases hfree with h1 | h1
        · exact absurd h1 h'
        · exact .inr (by simp only; omega)
    · simp [World.freeze, Array.getElem?_modify, hheap]
    · intro B' hne
      simp only [World.freeze, Array.getElem?_modify]
      rw [if_neg (by decide)]
      rw [Array.getElem?_modify, if_neg (by simpa using fun e => hne e.symm)]
    · simp [World.freeze]
  have hshape : w.shape? B = some (ty, cs.size) := by simp [World.shape?, hheap]
  have hrun : (convert src src (a.eval x)).run P w = .ok (a.eval x) (w.freeze { block := B, off := cs.size, spot := none } 1) := by
    rw [hax]
    simp [convert, run_underlying ht', run_underlying he', markStringish, hshape]
  have hRW := R_write (dst := o.dst) (sv := .sl n g seg e' off len) (v := a.eval x) (x' := .vec d) hR (blkAt_fnd hb) hB hheap hW rfl
    (.inr ⟨B, cs, ty, fr', hB, hW.here, hfree', hsz, (by
      have T := Tr_write (x' := .vec d) hR (blkAt_fnd hb) hB hheap hW rfl
      intro i j hi hj
      obtain ⟨y, hy, hcell⟩ := hh i j hi hj
      refine ⟨y, ?_, hcell.tr T⟩
      rw [cell_block hW.here]; rw [cell_block hheap] at hy; exact hy), hft⟩)
    ((V_of_V2 hx0).tr (Tr_write (x' := .vec d) hR (blkAt_fnd hb) hB hheap hW rfl))
  exact ⟨.value (a.eval x), a.eval x, _, σ, by simp [execOp, ho, hrun], .inl rfl, hRW.1, hRW.2⟩

theorem overI_length {l m : List Int} {off len : Nat} (h : off + len ≤ l.length) : (overI l off len m).length = l.length := by
  simp only [overI, List.length_append, List.length_take, List.length_drop]; omega

/-- A copy into numbers of a named block. -/
theorem copy_run (TO : TabOk P T) {o : Oper} {t t2 e : TypeId} {x y : Operand} {B off len cap : Nat} {ad : Option Addr} {d : Data} {cs : List Value} (ho : o.op = .call { callee := .builtin .copy, args := #[x, y], argTypes := #[t, t2] })
    (ht : T.ty t = .slice e) (hs : T.size e = 1) (hx : a.eval x = .slice ad len cap) (had : len ≠ 0 → ad = some ⟨B, off, none⟩) (hez : d.esz = 1) (hsrc : Src P X s.b σ w d (a.eval y) cs) :
    ∀ w', (storeCells ⟨B, off, none⟩ (cs.take (min d.len len))).run P w = .ok () w' → ∃ nx, (execOp a.eval o).run P w = .ok nx w' ∧ (nx = .value (.int .i64 (min d.len len : Nat)) ∨ (nx = .skip ∧ Value.int .i64 (min d.len len : Nat) = undef)) := by
  intro w' hr
  have ht' := TO.ty t
  rw [ht] at ht'; simp only [tyOk] at ht'
  obtain ⟨hlo, hfi⟩ := hsrc.2 w rfl
  have hf := hfi (min d.len len) (Nat.min_le_left _ _)
  rw [hez, Nat.mul_one] at hf
  refine ⟨.value (.int .i64 (min d.len len : Nat)), ?_, .inl rfl⟩
  simp only [execOp, ho, resolve]
  by_cases hl0 : len = 0
  · subst hl0
    simp only [Nat.min_zero, List.take_zero, storeCells] at hr hf
    obtain rfl : w = w' := by simpa using hr
    cases ad with
    | none => simp [invoke, builtin, Builtin.copy_, hx, run_underlying ht', hlo, size_run TO (t := e) (by omega), hs, hf, goInt]
    | some q => simp [invoke, builtin, Builtin.copy_, hx, run_underlying ht', hlo, size_run TO (t := e) (by omega), hs, hf, goInt, storeCells]
  · rw [had hl0] at hx
    have hmin : Nat.min d.len len = min d.len len := rfl
    simp [invoke, builtin, Builtin.copy_, hx, run_underlying ht', hlo, size_run TO (t := e) (by omega), hs, hmin, hf, goInt, hr]

theorem cs_ints {k : IntKind} {m : List Int} {cs : List Value} (h : Cs X s.b σ w (.ints k m) cs) : cs = m.map (.int k) := by
  obtain ⟨h1, h2⟩ := h
  simp only [Data.len, Data.esz, Nat.mul_one] at h1
  apply List.ext_getElem?
  intro i
  by_cases hi : i < m.length
  · obtain ⟨x, hx, hc⟩ := h2 i 0 hi (by simp [Data.esz])
    simp only [Data.esz, Nat.mul_one, Nat.add_zero] at hx
    rw [hx, map_getD _ _ _ hi, show x = _ from hc]
  · rw [List.getElem?_eq_none (by omega), List.getElem?_eq_none (by simp; omega)]

theorem copy_vec_ok (TO : TabOk P T) (hR : R X s σ w a) {o : Oper} {t t2 e : TypeId} {x y : Operand} {n g off len : Nat} {k : IntKind} {l m : List Int} {cs : List Value} (ho : o.op = .call { callee := .builtin .copy, args := #[x, y], argTypes := #[t, t2] })
    (ht : T.ty t = .slice e) (hs : T.size e = 1) (hx : V2 X s.b s.c σ w (.sl n g 0 1 off len) (a.eval x)) (hb : blkAt s.b n g = some (.vec (.ints k l))) (hle : off + len ≤ l.length) (hsrc : Src P X s.b σ w (.ints k m) (a.eval y) cs) :
    Does P X s σ ⟨setD s.t o.dst (.int .i64 (min m.length len : Nat)), upd s.b n g (.vec (.ints k (overI l off len m))), s.c⟩ w a o := by
  obtain ⟨_, hlv⟩ := hx
  obtain ⟨ad, cap, hax, hlc, hcap⟩ := hlv (blkAt_live hb)
  have hcs := cs_ints hsrc.1
  rcases (hR.bl n g _ (blkAt_fnd hb)).2.1 with ⟨hno, hl0⟩ | ⟨B, cs0, ty, fr, hB, hheap, hfree, hsz, hh, hft⟩
  · -- no block: nothing is written
    have hl00 : l = [] := List.eq_nil_of_length_eq_zero hl0
    subst hl00
    obtain rfl : len = 0 := by simp at hle; omega
    obtain rfl : off = 0 := by simp at hle; omega
    have := copy_run (B := 0) (off := 0) TO ho ht hs hax (fun h => absurd rfl h) rfl hsrc w (by simp [storeCells])
    obtain ⟨nx, h1, h2⟩ := this
    simp only [Data.len] at h2
    refine ⟨nx, _, w, σ, h1, h2, ?_⟩
    have e1 : overI [] 0 0 m = [] := by simp [overI]
    rw [e1]
    have hsame : ∀ q, fnd (upd s.b n g (.vec (.ints k []))) q = fnd s.b q := by
      intro q
      rw [fnd_upd]
      by_cases e : q = n
      · rw [if_pos e, e, blkAt_fnd hb]
      · rw [if_neg e]
    have hR2 := hR.drop (b := upd s.b n g (.vec (.ints k []))) (fun q x hx => by rw [← hsame q]; exact hx)
    have := put_tm (dst := o.dst) (v := .int .i64 (min m.length 0 : Nat)) hR2.sz hR2.tm (sv := .int .i64 (min m.length 0 : Nat)) rfl
    exact ⟨{ hR2 with sz := this.1, tm := this.2, df := by cases o.dst <;> exact hR.df }, Tr.drop (fun q x hx => by rw [← hsame q]; exact hx)⟩
  · simp only [Data.len, Data.esz, Nat.mul_one] at hsz
    rw [holds_ints hheap] at hh
    have had : len ≠ 0 → ad = some ⟨B, off, none⟩ := by
      intro h0
      obtain ⟨B', hB', e1, _⟩ := hcap (by omega)
      obtain rfl : B = B' := by simpa using hB.symm.trans hB'
      rw [e1, Nat.zero_add, Nat.mul_one]
    have hmin : (cs.take (min m.length len)).length = min m.length len := by rw [hcs]; simp
    refine store_does hR (blkAt_fnd hb) hB hheap hfree (vs := cs.take (min m.length len)) (off := off) (by rw [hmin]; omega) ?_ (copy_run TO ho ht hs hax had rfl hsrc) ?_ (fun w' => rfl)
    · intro v hv; rw [hcs, ← List.map_take] at hv; obtain ⟨q, _, rfl⟩ := List.mem_map.1 hv; rfl
    · intro w' cs' he hW hT
      rw [hmin] at he
      have hs' : cs'.size = cs0.size := by
        have := congrArg List.length he
        simp only [Array.length_toList, List.length_append, List.length_take, List.length_drop, hmin] at this
        omega
      refine .inr ⟨B, cs', ty, fr, hB, hW.here, by rw [hs']; exact hfree, by simp only [Data.len, Data.esz, overI_length hle]; omega, ?_, ?_⟩
      rotate_left
      · refine ⟨fun i hi => ?_, by rw [hs']; exact hft.2⟩
        rw [← Array.getElem?_toList, he]
        by_cases c1 : i < (cs0.toList.take off).length
        · rw [List.append_assoc, List.getElem?_append_left c1]
          have c2 : i < cs0.size := by simp at c1; omega
          obtain ⟨z, hz⟩ := hft.1 i c2
          exact ⟨z, by rw [List.getElem?_take, if_pos (by simp at c1; omega), Array.getElem?_toList, hz]⟩
        · by_cases c2 : i < (cs0.toList.take off ++ cs.take (min m.length len)).length
          · rw [List.getElem?_append_left c2, List.getElem?_append_right (Nat.le_of_not_lt c1)]
            have c3 : i - (cs0.toList.take off).length < (cs.take (min m.length len)).length := by rw [List.length_append] at c2; omega
            have e5 : cs.take (min m.length len) = (m.take (min m.length len)).map (.int k) := by rw [hcs, List.map_take]
            rw [e5] at c3 ⊢
            rw [List.length_map] at c3
            exact ⟨(m.take (min m.length len))[i - (cs0.toList.take off).length], by rw [List.getElem?_map, List.getElem?_eq_getElem c3]; rfl⟩
          · rw [List.getElem?_append_right (Nat.le_of_not_lt c2), List.getElem?_drop]
            rw [List.length_append] at c2
            have c3 : off + min m.length len + (i - (cs0.toList.take off ++ cs.take (min m.length len)).length) < cs0.size := by
              simp only [List.length_append, List.length_take, Array.length_toList] at *; omega
            obtain ⟨z, hz⟩ := hft.1 _ c3
            exact ⟨z, by rw [Array.getElem?_toList, hz]⟩
      rw [holds_ints hW.here]
      intro j hj
      rw [overI_length hle] at hj
      have hj0 := hh j hj
      rw [← Array.getElem?_toList] at hj0 ⊢
      rw [he]
      by_cases c1 : j < off
      · rw [List.append_assoc, List.getElem?_append_left (by simp; omega), List.getElem?_take, if_pos c1, hj0]
        simp only [overI, List.getD]
        rw [List.append_assoc, List.getElem?_append_left (by simp; omega), List.getElem?_take, if_pos c1]
      · by_cases c2 : j < off + min m.length len
        · have eA : (cs0.toList.take off ++ cs.take (min m.length len)).length = off + min m.length len := by rw [List.length_append, hmin]; simp; omega
          rw [List.getElem?_append_left (by rw [eA]; exact c2), List.getElem?_append_right (by simp; omega)]
          have e0 : (cs0.toList.take off).length = off := by simp; omega
          rw [e0, List.getElem?_take, if_pos (by omega), hcs, map_getD _ _ _ (by omega)]
          simp only [overI, List.getD]
          have e1 : (l.take off).length = off := by simp; omega
          rw [List.getElem?_append_left (by simp only [List.length_append, List.length_take]; omega), List.getElem?_append_right (by omega), e1, List.getElem?_take, if_pos (by omega)]
        · have e0 : (cs0.toList.take off ++ cs.take (min m.length len)).length = off + min m.length len := by rw [List.length_append, hmin]; simp; omega
          have e1 : (l.take off ++ m.take (min m.length len)).length = off + min m.length len := by simp only [List.length_append, List.length_take]; omega
          rw [List.getElem?_append_right (by omega), e0, List.getElem?_drop, show off + min m.length len + (j - (off + min m.length len)) = j by omega, hj0]
          simp only [overI, List.getD]
          rw [List.getElem?_append_right (by omega), e1, List.getElem?_drop, show off + min m.length len + (j - (off + min m.length len)) = j by omega]
end

end Go.Proofs.Ytbnjdnahpnjofaa.Abs
