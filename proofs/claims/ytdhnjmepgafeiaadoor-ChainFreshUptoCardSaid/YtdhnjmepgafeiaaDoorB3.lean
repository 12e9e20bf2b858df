/- OWN LIBRARY, parts 10 to 14. -/
import Derived.Test.YtdhnjmepgafeiaaDoorB2
import Derived.Laws.IdiomStrings
/- OWN LIBRARY, part 10: lists that are written out, bytes of a string, copies. -/
set_option linter.unusedVariables false
set_option linter.unusedSimpArgs false
namespace Go.Proofs.YtdhnjmepgafeiaaDoor.Abs
open Go

def idx : Nat → List Value → List (Nat × Value)
  | _, [] => []
  | i, v :: vs => (i, v) :: idx (i + 1) vs

theorem fill_ok : ∀ (vs : List Value) (i : Nat) (cs : Array Value), (∀ v ∈ vs, v.cells = #[v]) → i + vs.length ≤ cs.size →
    ∃ cs', Instr.fill (fun i => some (i * 1, 1)) cs (idx i vs) = some cs' ∧ cs'.toList = cs.toList.take i ++ vs ++ cs.toList.drop (i + vs.length)
  | [], i, cs, _, _ => ⟨cs, rfl, by simp⟩
  | v :: vs, i, cs, h1, h2 => by
    have hv := h1 v (by simp)
    obtain ⟨cs', e1, e2⟩ := fill_ok vs (i + 1) (cs.setIfInBounds i v) (fun x hx => h1 x (by simp [hx])) (by simp at h2 ⊢; omega)
    refine ⟨cs', ?_, ?_⟩
    · simp only [idx, Instr.fill, hv]
      rw [if_neg (by simp at h2 ⊢; omega)]
      simpa using e1
    · rw [e2]
      have e := list_seg_step cs.toList i v vs (by simp at h2 ⊢; omega)
      simpa [Array.toList_setIfInBounds, Nat.add_assoc] using e

section
variable {P : Program} {T : Tab} {X : Ctx} {s : St} {σ : Env} {w : World} {a : Act}

def AllV (X : Ctx) (b : List (Nat × Nat × Blk)) (c : Lim) (σ : Env) (w : World) : List SV → List Value → Prop
  | [], vs => vs = []
  | x :: r, vs => ∃ v vs', vs = v :: vs' ∧ V2 X b c σ w x v ∧ AllV X b c σ w r vs'

theorem elems_ok {b : List (Nat × Nat × Blk)} {c : Lim} {ρ : Operand → SV} : ∀ {parts : List (Nat × Operand)} {i : Nat} {xs : List SV}, elemsOf ρ i parts = some xs → (∀ q ∈ parts, V2 X b c σ w (ρ q.2) (a.eval q.2)) →
    ∃ vs, parts.map (fun q => (q.1, a.eval q.2)) = idx i vs ∧ AllV X b c σ w xs vs
  | [], i, xs, h, _ => by simp only [elemsOf, Option.some.injEq] at h; subst h; exact ⟨[], rfl, rfl⟩
  | (j, x) :: r, i, xs, h, hv => by
    simp only [elemsOf] at h
    split at h
    · rename_i hj
      subst hj
      cases e : elemsOf ρ (j + 1) r <;> simp only [e, Option.map_none, Option.map_some, reduceCtorEq, Option.some.injEq] at h
      subst h
      obtain ⟨vs, e1, e2⟩ := elems_ok e (fun q hq => hv q (by simp [hq]))
      exact ⟨a.eval x :: vs, by simp [idx, e1], _, _, rfl, hv (j, x) (by simp), e2⟩
    · simp at h

theorem intsOf_ok {b : List (Nat × Nat × Blk)} {c : Lim} {k : IntKind} : ∀ {xs : List SV} {vs : List Value} {l : List Int}, intsOf k xs = some l → AllV X b c σ w xs vs → vs = l.map (.int k) ∧ l.length = xs.length
  | [], vs, l, h, hv => by simp only [intsOf, Option.some.injEq] at h; subst h; exact ⟨hv, rfl⟩
  | x :: xs, vs, l, h, hv => by
    obtain ⟨v, vs', rfl, h1, h2⟩ := hv
    cases x <;> simp only [intsOf, reduceCtorEq] at h
    rename_i k' n
    split at h
    · rename_i hk
      subst hk
      cases e : intsOf k' xs <;> simp only [e, Option.map_none, Option.map_some, reduceCtorEq, Option.some.injEq] at h
      subst h
      obtain ⟨e1, e2⟩ := intsOf_ok e h2
      exact ⟨by rw [e1, show v = .int k' n from h1]; rfl, by simp [e2]⟩
    · simp at h

theorem strsOf_ok {b : List (Nat × Nat × Blk)} {c : Lim} : ∀ {xs : List SV} {vs : List Value} {l : List ByteArray}, strsOf xs = some l → AllV X b c σ w xs vs → vs = l.map .string ∧ l.length = xs.length
  | [], vs, l, h, hv => by simp only [strsOf, Option.some.injEq] at h; subst h; exact ⟨hv, rfl⟩
  | x :: xs, vs, l, h, hv => by
    obtain ⟨v, vs', rfl, h1, h2⟩ := hv
    cases x <;> simp only [strsOf, reduceCtorEq] at h
    rename_i n
    cases e : strsOf xs <;> simp only [e, Option.map_none, Option.map_some, reduceCtorEq, Option.some.injEq] at h
    subst h
    obtain ⟨e1, e2⟩ := strsOf_ok e h2
    exact ⟨by rw [e1, show v = .string n from h1]; rfl, by simp [e2]⟩

theorem rowsOf_ok {b : List (Nat × Nat × Blk)} {c : Lim} : ∀ {xs : List SV} {vs : List Value} {t : Bool} {l : List (List Int)}, rowsOf b xs = some (t, l) → AllV X b c σ w xs vs →
    l.length = xs.length ∧ vs.length = xs.length ∧ ∀ i, i < l.length → ∃ v, vs[i]? = some v ∧ IsRow (Vw X b σ w t) w (l.getD i []) v
  | [], vs, t, l, h, hv => by
    simp only [rowsOf, Option.some.injEq, Prod.mk.injEq] at h; obtain ⟨rfl, rfl⟩ := h; rw [show vs = [] from hv]
    exact ⟨rfl, rfl, fun i hi => by simp at hi⟩
  | x :: xs, vs, t, l, h, hv => by
    obtain ⟨v, vs', rfl, h1, h2⟩ := hv
    simp only [rowsOf] at h
    cases e1 : rowOf b x <;> simp only [e1, reduceCtorEq] at h
    cases e2 : rowsOf b xs <;> simp only [e2, reduceCtorEq] at h
    rename_i q1 q2
    obtain ⟨t1, l1⟩ := q1
    obtain ⟨t2, l2⟩ := q2
    simp only [Option.some.injEq, Prod.mk.injEq] at h
    obtain ⟨rfl, rfl⟩ := h
    obtain ⟨g1, g2, g3⟩ := rowsOf_ok e2 h2
    have hr : IsRow (Vw X b σ w t1) w l1 v := by
      cases x <;> try (simp only [rowOf, reduceCtorEq] at e1; done)
      case nil =>
        simp only [rowOf, Option.some.injEq, Prod.mk.injEq] at e1
        obtain ⟨rfl, rfl⟩ := e1
        rw [show v = _ from h1]
        exact ⟨none, 0, rfl, Nat.le_refl _, fun h => absurd rfl h⟩
      case view tag d =>
        cases d <;> try (simp only [rowOf, reduceCtorEq] at e1; done)
        rename_i k q
        cases k <;> try (simp only [rowOf, reduceCtorEq] at e1; done)
        simp only [rowOf, Option.some.injEq, Prod.mk.injEq] at e1
        obtain ⟨rfl, rfl⟩ := e1
        obtain ⟨ad, cap, rfl, hc, hh⟩ := h1
        refine ⟨ad, cap, rfl, hc, fun hne => ?_⟩
        obtain ⟨B, o, rfl, hv, hd⟩ := hh hne
        refine ⟨B, o, rfl, hv, fun i hi => ?_⟩
        obtain ⟨y, hy, hc⟩ := hd i 0 hi (by simp [Data.esz])
        simp only [Data.esz, Nat.mul_one, Nat.add_zero] at hy
        rw [hy, show y = _ from hc]
    refine ⟨by simp [g1], by simp [g2], fun i hi => ?_⟩
    cases i with
    | zero => exact ⟨v, rfl, hr.weak (tag' := t1 && t2) (by intro h; rw [Bool.and_eq_true] at h; exact h.1)⟩
    | succ i =>
      obtain ⟨u, hu, hrow⟩ := g3 i (by simp at hi; omega)
      have := hrow.weak (tag' := t1 && t2) (by intro h; rw [Bool.and_eq_true] at h; exact h.2)
      exact ⟨u, by simpa using hu, by simpa [List.getD] using this⟩

theorem buildSlice_does (TO : TabOk P T) (hR : R X s σ w a) {o : Oper} {t e : TypeId} {len : Nat} {parts : Array (Nat × Operand)} {vs : List Value} {d : Data} {dd : Nat} (ho : o.op = .buildSlice t len parts) (hn : dd ∉ s.c.d)
    (ht : T.ty t = .slice e) (hparts : parts.toList.map (fun q => (q.1, a.eval q.2)) = idx 0 vs) (hcells : ∀ v ∈ vs, v.cells = #[v]) (hlen : vs.length = len) (hs : T.size e = 1) (hl : len ≤ 16777216) (hez : d.esz = 1) (hdl : d.len = len)
    (hc : ∀ i, i < len → ∃ v, vs[i]? = some v ∧ CellOk (Vw X s.b σ w) w i 0 d v) :
    Does P X s σ ⟨setD s.t o.dst (.sl dd s.c.c 0 1 0 len), upd s.b dd s.c.c (.vec d), s.c.add dd⟩ w a o := by
  obtain ⟨i, hi, his, hib, z, hz, hzo, _⟩ := TO.info e (by omega)
  have ht' := TO.ty t
  rw [ht] at ht'; simp only [tyOk] at ht'
  have hparts' : (parts.map fun q => (q.1, a.eval q.2)).toList = idx 0 vs := by simpa using hparts
  -- whatever the zeros are
  have key : ∀ zc : Array Value, ∃ cs', Instr.fill (fun i => some (i * 1, 1)) ((Array.range (len * 1)).map (fun x => zc[x % zc.size]!)) (idx 0 vs) = some cs' ∧ cs'.toList = vs := by
    intro zc
    obtain ⟨cs', e1, e2⟩ := fill_ok vs 0 ((Array.range (len * 1)).map (fun x => zc[x % zc.size]!)) hcells (by simp [hlen])
    refine ⟨cs', e1, ?_⟩
    rw [e2]
    simp [hlen]
  have hrun : ∃ cs', cs'.toList = vs ∧ (Instr.buildSlice t len (parts.map fun q => (q.1, a.eval q.2))).run P w = .ok (.slice (some ⟨w.heap.size, 0, none⟩) len len) (w.alloc (.cells cs' e)) := by
    by_cases h0 : len * 1 = 0
    · obtain ⟨cs', e1, e2⟩ := key #[]
      refine ⟨cs', e2, ?_⟩
      simp only [Instr.buildSlice, Sem.run_bind, run_underlying ht', Result.andThen_ok, size_run TO (t := e) (by omega), hs]
      rw [if_neg (by omega)]
      simp only [h0, if_true, Sem.run_bind, Sem.run_pure, Result.andThen_ok, hparts']
      rw [h0] at e1
      rw [e1]
      simp [newRow]
    · obtain ⟨cs', e1, e2⟩ := key z.cells
      refine ⟨cs', e2, ?_⟩
      simp only [Instr.buildSlice, Sem.run_bind, run_underlying ht', Result.andThen_ok, size_run TO (t := e) (by omega), hs]
      rw [if_neg (by omega)]
      have hzv : (zeroValue e).run P w = .ok z w := by simp [zeroValue, typeInfo, hi, hz]
      simp only [h0, if_false, Sem.run_pure, Sem.run_bind, Result.andThen_ok, hparts', hzv]
      rw [e1]
      simp [newRow]
  obtain ⟨cs', e2, hr⟩ := hrun
  refine ⟨.value (.slice (some ⟨w.heap.size, 0, none⟩) len len), _, w.alloc (.cells cs' e), bind1 σ dd w.heap.size, ?_, .inl rfl, ?_⟩
  · simp only [execOp, ho]
    simp only [Sem.run_bind, hr, Result.andThen_ok, Sem.run_pure]
  · have hcs : cs'.size = len := by rw [← hlen, ← e2]; simp
    refine R_new hR hn rfl ⟨rfl, rfl, rfl⟩ (.inr ⟨w.heap.size, cs', e, (0, 0), by simp [bind1], heap_new w _, free0 _, by rw [hez, hdl, hcs]; omega, ?_, ?_⟩) ?_
    · intro i j hi hj
      rw [hez] at hj ⊢
      obtain rfl : j = 0 := by omega
      obtain ⟨v, hv, hcell⟩ := hc i (by omega)
      refine ⟨v, ?_, CellOk.tr (Tr_new hR hn rfl) hcell⟩
      rw [World.cell?_alloc_new, ← Array.getElem?_toList, e2]
      simpa using hv
    · cases d <;> try trivial
      refine ⟨fun i hi => ?_, by omega⟩
      obtain ⟨v, hv, hcell⟩ := hc i (by omega)
      exact ⟨_, by rw [← Array.getElem?_toList, e2, hv, show v = _ from hcell]⟩
    · refine ⟨Lim.ok_new _ _, fun _ => ⟨_, len, rfl, Nat.le_refl _, fun _ => ⟨w.heap.size, by simp [bind1], by simp, ?_⟩⟩⟩
      simp only [blockSize, heap_new, hcs]; omega

theorem buildCells_does (TO : TabOk P T) (hR : R X s σ w a) {o : Oper} {t e : TypeId} {len : Nat} {parts : Array (Nat × Operand)} {vs : List Value} {xs : List SV} {dd : Nat} (ho : o.op = .buildSlice t len parts) (hn : dd ∉ s.c.d)
    (ht : T.ty t = .slice e) (hparts : parts.toList.map (fun q => (q.1, a.eval q.2)) = idx 0 vs) (hcells : ∀ v ∈ vs, v.cells = #[v]) (hlen : vs.length = len) (hs : T.size e = 1) (hl : len ≤ 16777216) (hc : CellsOk X s.b s.c σ w xs vs) :
    Does P X s σ ⟨setD s.t o.dst (.sl dd s.c.c 0 1 0 len), upd s.b dd s.c.c (.cells xs), s.c.add dd⟩ w a o := by
  obtain ⟨i, hi, his, hib, z, hz, hzo, _⟩ := TO.info e (by omega)
  have ht' := TO.ty t
  rw [ht] at ht'; simp only [tyOk] at ht'
  have hparts' : (parts.map fun q => (q.1, a.eval q.2)).toList = idx 0 vs := by simpa using hparts
  -- whatever the zeros are
  have key : ∀ zc : Array Value, ∃ cs', Instr.fill (fun i => some (i * 1, 1)) ((Array.range (len * 1)).map (fun x => zc[x % zc.size]!)) (idx 0 vs) = some cs' ∧ cs'.toList = vs := by
    intro zc
    obtain ⟨cs', e1, e2⟩ := fill_ok vs 0 ((Array.range (len * 1)).map (fun x => zc[x % zc.size]!)) hcells (by simp [hlen])
    refine ⟨cs', e1, ?_⟩
    rw [e2]
    simp [hlen]
  have hrun : ∃ cs', cs'.toList = vs ∧ (Instr.buildSlice t len (parts.map fun q => (q.1, a.eval q.2))).run P w = .ok (.slice (some ⟨w.heap.size, 0, none⟩) len len) (w.alloc (.cells cs' e)) := by
    by_cases h0 : len * 1 = 0
    · obtain ⟨cs', e1, e2⟩ := key #[]
      refine ⟨cs', e2, ?_⟩
      simp only [Instr.buildSlice, Sem.run_bind, run_underlying ht', Result.andThen_ok, size_run TO (t := e) (by omega), hs]
      rw [if_neg (by omega)]
      simp only [h0, if_true, Sem.run_bind, Sem.run_pure, Result.andThen_ok, hparts']
      rw [h0] at e1
      rw [e1]
      simp [newRow]
    · obtain ⟨cs', e1, e2⟩ := key z.cells
      refine ⟨cs', e2, ?_⟩
      simp only [Instr.buildSlice, Sem.run_bind, run_underlying ht', Result.andThen_ok, size_run TO (t := e) (by omega), hs]
      rw [if_neg (by omega)]
      have hzv : (zeroValue e).run P w = .ok z w := by simp [zeroValue, typeInfo, hi, hz]
      simp only [h0, if_false, Sem.run_pure, Sem.run_bind, Result.andThen_ok, hparts', hzv]
      rw [e1]
      simp [newRow]
  obtain ⟨cs', e2, hr⟩ := hrun
  refine ⟨.value (.slice (some ⟨w.heap.size, 0, none⟩) len len), _, w.alloc (.cells cs' e), bind1 σ dd w.heap.size, ?_, .inl rfl, ?_⟩
  · simp only [execOp, ho]
    simp only [Sem.run_bind, hr, Result.andThen_ok, Sem.run_pure]
  · have hcs : cs'.size = len := by rw [← hlen, ← e2]; simp
    refine R_new hR hn rfl ⟨rfl, rfl, rfl⟩ ⟨w.heap.size, cs', e, (0, 0), by simp [bind1], heap_new w _, free0 _, by rw [e2]; exact hc.tr (Tr_new hR hn rfl)⟩ ?_
    refine ⟨Lim.ok_new _ _, fun _ => ⟨_, len, rfl, Nat.le_refl _, fun _ => ⟨w.heap.size, by simp [bind1], by simp, ?_⟩⟩⟩
    simp only [blockSize, heap_new, hcs]; omega

theorem scalAll_ok {b : List (Nat × Nat × Blk)} {c : Lim} : ∀ {xs : List SV} {vs : List Value}, xs.all (scal b) = true → AllV X b c σ w xs vs → CellsOk X b c σ w xs vs ∧ (∀ v ∈ vs, v.cells = #[v]) ∧ vs.length = xs.length
  | [], vs, _, hv => by rw [show vs = [] from hv]; exact ⟨rfl, by simp, rfl⟩
  | x :: r, vs, h, hv => by
    obtain ⟨v, vs', rfl, h1, h2⟩ := hv
    simp only [List.all_cons, Bool.and_eq_true] at h
    obtain ⟨g1, g2, g3⟩ := scalAll_ok h.2 h2
    obtain ⟨k1, _, k3⟩ := scal_cells h.1 h1
    refine ⟨?_, ?_, by simp [g3]⟩
    · cases x
      case arr => exact k3.elim
      all_goals exact ⟨v, vs', rfl, k3, g1⟩
    · intro u hu
      rcases List.mem_cons.1 hu with rfl | hu
      · exact k1
      · exact g2 u hu

theorem fillN_ok (sz : Nat) : ∀ (vs : List Value) (i : Nat) (cs : Array Value), (∀ v ∈ vs, v.cells.size = sz) → (i + vs.length) * sz ≤ cs.size →
    ∃ cs', Instr.fill (fun i => some (i * sz, sz)) cs (idx i vs) = some cs' ∧ cs'.toList = cs.toList.take (i * sz) ++ (vs.map fun v => v.cells.toList).flatten ++ cs.toList.drop ((i + vs.length) * sz)
  | [], i, cs, _, _ => ⟨cs, rfl, by simp⟩
  | v :: vs, i, cs, h1, h2 => by
    have hv := h1 v (by simp)
    have hm : (i + (v :: vs).length) * sz = i * sz + sz + vs.length * sz := by simp only [List.length_cons, Nat.add_mul, Nat.one_mul]; omega
    have hm2 : (i + 1 + vs.length) * sz = i * sz + sz + vs.length * sz := by simp only [Nat.add_mul, Nat.one_mul]
    have hm1 : (i + 1) * sz = i * sz + sz := by simp only [Nat.add_mul, Nat.one_mul]
    have hf := fold_cells v (i * sz) cs (by omega)
    obtain ⟨cs', e1, e2⟩ := fillN_ok sz vs (i + 1) (v.cells.zipIdx.foldl (fun cs q => cs.setIfInBounds (i * sz + q.2) q.1) cs) (fun x hx => h1 x (by simp [hx])) (by
      have hl : (v.cells.zipIdx.foldl (fun cs q => cs.setIfInBounds (i * sz + q.2) q.1) cs).size = cs.size := by
        have := congrArg List.length hf
        simp only [Array.length_toList, List.length_append, List.length_take, List.length_drop] at this
        omega
      rw [hl]; omega)
    refine ⟨cs', ?_, ?_⟩
    · simp only [idx, Instr.fill]
      rw [if_neg (by simp; omega)]
      exact e1
    · rw [e2, hf, hm1, hm2, hm]
      have hl1 : (cs.toList.take (i * sz) ++ v.cells.toList).length = i * sz + sz := by simp; omega
      have t1 : (cs.toList.take (i * sz) ++ v.cells.toList ++ cs.toList.drop (i * sz + v.cells.size)).take (i * sz + sz) = cs.toList.take (i * sz) ++ v.cells.toList := by
        rw [← hl1]; exact List.take_left
      have t2 : (cs.toList.take (i * sz) ++ v.cells.toList ++ cs.toList.drop (i * sz + v.cells.size)).drop (i * sz + sz + vs.length * sz) = cs.toList.drop (i * sz + sz + vs.length * sz) := by
        rw [List.drop_append, hl1, List.drop_eq_nil_of_le (by omega), List.drop_drop, hv, List.nil_append, Nat.add_sub_cancel_left]
      rw [t1, t2]
      simp

theorem aggsOf_ok {b : List (Nat × Nat × Blk)} {c : Lim} {sz : Nat} : ∀ {xs : List SV} {vs : List Value} {l : List SV}, aggsOf b sz xs = some l → AllV X b c σ w xs vs → CellsOk X b c σ w l ((vs.map fun v => v.cells.toList).flatten) ∧ (∀ v ∈ vs, v.cells.size = sz) ∧ vs.length = xs.length
  | [], vs, l, h, hv => by simp only [aggsOf, Option.some.injEq] at h; subst h; rw [show vs = [] from hv]; exact ⟨rfl, by simp, rfl⟩
  | x :: r, vs, l, h, hv => by
    obtain ⟨v, vs', rfl, h1, h2⟩ := hv
    cases x <;> simp only [aggsOf, reduceCtorEq] at h
    rename_i m
    split at h
    · rename_i hc
      cases e : aggsOf b sz r <;> simp only [e, Option.map_none, Option.map_some, reduceCtorEq, Option.some.injEq] at h
      subst h
      obtain ⟨g1, g2, g3⟩ := aggsOf_ok e h2
      obtain ⟨cs, rfl, hcs⟩ := h1
      have hn := cntC_ok hcs
      refine ⟨?_, ?_, by simp [g3]⟩
      · simpa [Value.cells] using CellsOk_app hcs g1
      · intro u hu
        rcases List.mem_cons.1 hu with rfl | hu
        · simp only [Value.cells]; simpa using hn.symm.trans hc
        · exact g2 u hu
    · simp at h

theorem buildAggs_does (TO : TabOk P T) (hR : R X s σ w a) {o : Oper} {t e : TypeId} {len : Nat} {parts : Array (Nat × Operand)} {vs : List Value} {l : List SV} {dd : Nat} (ho : o.op = .buildSlice t len parts) (hn : dd ∉ s.c.d)
    (ht : T.ty t = .slice e) (hparts : parts.toList.map (fun q => (q.1, a.eval q.2)) = idx 0 vs) (hcells : ∀ v ∈ vs, v.cells.size = T.size e) (hlen : vs.length = len) (hs : T.size e ≠ 0) (hl : len * T.size e ≤ 16777216) (hc : CellsOk X s.b s.c σ w l ((vs.map fun v => v.cells.toList).flatten)) :
    Does P X s σ ⟨setD s.t o.dst (.sl dd s.c.c 0 (T.size e) 0 len), upd s.b dd s.c.c (.cells l), s.c.add dd⟩ w a o := by
  obtain ⟨i, hi, his, hib, z, hz, hzo, _⟩ := TO.info e hs
  have ht' := TO.ty t
  rw [ht] at ht'; simp only [tyOk] at ht'
  have hparts' : (parts.map fun q => (q.1, a.eval q.2)).toList = idx 0 vs := by simpa using hparts
  have hflat : ((vs.map fun v => v.cells.toList).flatten).length = len * T.size e := by
    rw [← hlen]
    clear hparts hparts' hc hlen
    induction vs with
    | nil => simp
    | cons v vs ih =>
      have := ih (fun u hu => hcells u (by simp [hu]))
      simp only [List.map_cons, List.flatten_cons, List.length_append, this, List.length_cons, Nat.add_mul, Nat.one_mul]
      have := hcells v (by simp)
      simp [this]; omega
  have key : ∀ zc : Array Value, ∃ cs', Instr.fill (fun i => some (i * T.size e, T.size e)) ((Array.range (len * T.size e)).map (fun x => zc[x % zc.size]!)) (idx 0 vs) = some cs' ∧ cs'.toList = (vs.map fun v => v.cells.toList).flatten := by
    intro zc
    obtain ⟨cs', e1, e2⟩ := fillN_ok (T.size e) vs 0 ((Array.range (len * T.size e)).map (fun x => zc[x % zc.size]!)) hcells (by simp [hlen])
    refine ⟨cs', e1, ?_⟩
    rw [e2]
    simp [hlen]
  have hrun : ∃ cs', cs'.toList = (vs.map fun v => v.cells.toList).flatten ∧ (Instr.buildSlice t len (parts.map fun q => (q.1, a.eval q.2))).run P w = .ok (.slice (some ⟨w.heap.size, 0, none⟩) len len) (w.alloc (.cells cs' e)) := by
    by_cases h0 : len * T.size e = 0
    · obtain ⟨cs', e1, e2⟩ := key #[]
      refine ⟨cs', e2, ?_⟩
      simp only [Instr.buildSlice, Sem.run_bind, run_underlying ht', Result.andThen_ok, size_run TO (t := e) hs]
      rw [if_neg (by omega)]
      simp only [h0, if_true, Sem.run_bind, Sem.run_pure, Result.andThen_ok, hparts']
      rw [h0] at e1
      rw [e1]
      simp [newRow]
    · obtain ⟨cs', e1, e2⟩ := key z.cells
      refine ⟨cs', e2, ?_⟩
      simp only [Instr.buildSlice, Sem.run_bind, run_underlying ht', Result.andThen_ok, size_run TO (t := e) hs]
      rw [if_neg (by omega)]
      have hzv : (zeroValue e).run P w = .ok z w := by simp [zeroValue, typeInfo, hi, hz]
      simp only [h0, if_false, Sem.run_pure, Sem.run_bind, Result.andThen_ok, hparts', hzv]
      rw [e1]
      simp [newRow]
  obtain ⟨cs', e2, hr⟩ := hrun
  refine ⟨.value (.slice (some ⟨w.heap.size, 0, none⟩) len len), _, w.alloc (.cells cs' e), bind1 σ dd w.heap.size, ?_, .inl rfl, ?_⟩
  · simp only [execOp, ho]
    simp only [Sem.run_bind, hr, Result.andThen_ok, Sem.run_pure]
  · have hcs : cs'.size = len * T.size e := by rw [← hflat, ← e2]; simp
    refine R_new hR hn rfl ⟨rfl, rfl, rfl⟩ ⟨w.heap.size, cs', e, (0, 0), by simp [bind1], heap_new w _, free0 _, by rw [e2]; exact hc.tr (Tr_new hR hn rfl)⟩ ?_
    refine ⟨Lim.ok_new _ _, fun _ => ⟨_, len, rfl, Nat.le_refl _, fun _ => ⟨w.heap.size, by simp [bind1], by simp, ?_⟩⟩⟩
    simp only [blockSize, heap_new, hcs, Nat.zero_add]; exact Nat.le_refl _

theorem isStr_eq {x : TyI} (h : isStr x) : x = .string := by cases x <;> simp_all [isStr]

theorem strBytes_ok (TO : TabOk P T) (hR : R X s σ w a) {o : Oper} {src dst' e : TypeId} {x : Operand} {str : ByteArray} {dd : Nat} (ho : o.op = .convert src dst' x) (hn : dd ∉ s.c.d)
    (hx : a.eval x = .string str) (ht : T.ty dst' = .slice e) (he : T.ty e = .int .u8) (hsrc : isStr (T.ty src)) (hss : str.size ≤ 4611686018427387904) :
    Does P X s σ ⟨setD s.t o.dst (.sl dd s.c.c 0 1 0 str.size), upd s.b dd s.c.c (.vec (.ints .u8 (str.data.toList.map byteI))), s.c.add dd⟩ w a o := by
  have hq := TO.ty src
  rw [isStr_eq hsrc] at hq; simp only [tyOk] at hq
  have ht' := TO.ty dst'
  rw [ht] at ht'; simp only [tyOk] at ht'
  have he' := TO.ty e
  rw [he] at he'; simp only [tyOk] at he'
  have hrun := run_bytes_of_string (P := P) w src dst' e str hq ht' he'
  have hcap : str.size ≤ grownCap w str.size 0 e := by simp only [grownCap, Question.cut]; omega
  have hcap2 : grownCap w str.size 0 e < 9223372036854775808 := by
    simp only [grownCap, Question.cut]
    have e63 : (2 : Nat) ^ 63 = 9223372036854775808 := rfl
    rw [e63]
    exact Nat.lt_of_lt_of_le (Nat.add_lt_add_left (Nat.mod_lt _ (by omega)) _) (by omega)
  generalize grownCap w str.size 0 e = cap at hrun hcap hcap2
  have hsd : str.data.size = str.size := rfl
  have hcsz : (bytesRow str cap).size = cap := by simp only [bytesRow, Array.size_append, Array.size_map, Array.size_replicate]; omega
  have hlen : (str.data.toList.map byteI).length = str.size := by simp only [List.length_map, Array.length_toList]; rfl
  have hget : ∀ i, i < str.size → (bytesRow str cap)[i]? = some (.int .u8 ((str.data.toList.map byteI).getD i 0)) := by
    intro i hi
    have hi' : i < str.data.size := hi
    have e2 : (str.data.toList.map byteI).getD i 0 = (str.data[i].toNat : Int) := by
      simp only [List.getD, List.getElem?_map, Array.getElem?_toList, Array.getElem?_eq_getElem hi', Option.map_some, Option.getD_some, byteI]
    rw [e2]
    simp only [bytesRow]
    rw [Array.getElem?_append_left (by simpa using hi'), Array.getElem?_map, Array.getElem?_eq_getElem hi']
    rfl
  have hgetF : Fit (.ints .u8 (str.data.toList.map byteI)) (bytesRow str cap) := by
    refine ⟨fun i hi => ?_, by rw [hcsz]; exact hcap2⟩
    by_cases c : i < str.size
    · exact ⟨_, hget i c⟩
    · refine ⟨0, ?_⟩
      rw [hcsz] at hi
      have c' : ¬ i < str.data.size := c
      simp only [bytesRow]
      rw [Array.getElem?_append_right (by rw [Array.size_map]; omega), Array.getElem?_replicate, if_pos (by rw [Array.size_map]; omega)]
  generalize bytesRow str cap = cells at hrun hcsz hget hgetF
  refine ⟨.value (.slice (some ⟨w.heap.size, 0, none⟩) str.size cap), _, w.drew.alloc (.cells cells e (cells.size, cells.size + 1)), bind1 σ dd w.heap.size, ?_, .inl rfl, ?_⟩
  · simp only [execOp, ho, hx]
    simp only [Sem.run_bind, hrun, Result.andThen_ok, Sem.run_pure]
  · have hheap : (w.drew.alloc (.cells cells e (cells.size, cells.size + 1))).heap[w.heap.size]? = some (.cells cells e (cells.size, cells.size + 1)) := by show (w.heap.push _)[w.heap.size]? = _; simp
    refine R_new (o := .cells cells e (cells.size, cells.size + 1)) hR hn rfl ⟨rfl, rfl, rfl⟩ (.inr ⟨w.heap.size, cells, e, (cells.size, cells.size + 1), by simp [bind1], hheap, ?_, by rw [hcsz]; simp only [Data.len, Data.esz, hlen]; omega, ?_, hgetF⟩) ?_
    · exact .inr (Nat.le_refl _)
    · rw [holds_ints hheap]
      intro i hi
      exact hget i (by rw [hlen] at hi; exact hi)
    · refine ⟨Lim.ok_new _ _, fun _ => ⟨_, cap, rfl, hcap, fun _ => ⟨w.heap.size, by simp [bind1], by simp, ?_⟩⟩⟩
      simp only [blockSize, hheap]; omega

/-- Bytes, as bytes: the block is marked, else it stays. -/
theorem convSl_ok (TO : TabOk P T) (hR : R X s σ w a) {o : Oper} {src e : TypeId} {x : Operand} {n g seg e' off len : Nat} {d : Data} (ho : o.op = .convert src src x)
    (hx : V2 X s.b s.c σ w (.sl n g seg e' off len) (a.eval x)) (ht : T.ty src = .slice e) (he : T.ty e = .int .u8) (hb : blkAt s.b n g = some (.vec d)) (hl : len ≠ 0) :
    Does P X s σ ⟨setD s.t o.dst (.sl n g seg e' off len), upd s.b n g (.vec d), s.c⟩ w a o := by
  have ht' := TO.ty src
  rw [ht] at ht'; simp only [tyOk] at ht'
  have he' := TO.ty e
  rw [he] at he'; simp only [tyOk] at he'
  have hx0 := hx
  obtain ⟨hc, hlv⟩ := hx
  obtain ⟨ad, cap, hax, hlc, hcap⟩ := hlv (blkAt_live hb)
  obtain ⟨B, hB, had, hbs⟩ := hcap (by omega)
  subst had
  rcases (hR.bl n g _ (blkAt_fnd hb)).2.1 with ⟨hn, _⟩ | ⟨B', cs, ty, fr, hB', hheap, hfree, hsz, hh, hft⟩
  · rw [hn] at hB; cases hB
  obtain rfl : B = B' := by simpa using hB.symm.trans hB'
  have hlt : B < w.heap.size := (Array.getElem?_eq_some_iff.1 hheap).1
  obtain ⟨fr', hfree', hW⟩ : ∃ fr', Free fr' cs.size ∧ Wrote B w (w.freeze { block := B, off := cs.size, spot := none } 1) cs ty fr' := by
    refine ⟨if fr.1 == fr.2 then (cs.size, cs.size + 1) else (min fr.1 cs.size, max fr.2 (cs.size + 1)), ?_, ?_, ?_, ?_, rfl, rfl, rfl⟩
    · split
      · exact .inr (Nat.le_refl _)
      · rename_i h
        have h' : fr.1 ≠ fr.2 := by simpa using h
        rcases hfree with h1 | h1
        · exact absurd h1 h'
        · exact .inr (by simp only; omega)
    · simp [World.freeze, Array.getElem?_modify, hheap]
    · intro B' hne
      simp only [World.freeze, Array.getElem?_modify]
      rw [if_neg (by decide)]
      rw [Array.getElem?_modify, if_neg (by simpa using fun e => hne e.symm)]
    · simp [World.freeze]
  have hshape : w.shape? B = some (ty, cs.size) := by simp [World.shape?, hheap]
  have hrun : (convert src src (a.eval x)).run P w = .ok (a.eval x) (w.freeze { block := B, off := cs.size, spot := none } 1) := by
    rw [hax]
    simp [convert, run_underlying ht', run_underlying he', markStringish, hshape]
  have hRW := R_write (dst := o.dst) (sv := .sl n g seg e' off len) (v := a.eval x) (x' := .vec d) hR (blkAt_fnd hb) hB hheap hW rfl
    (.inr ⟨B, cs, ty, fr', hB, hW.here, hfree', hsz, (by
      have T := Tr_write (x' := .vec d) hR (blkAt_fnd hb) hB hheap hW rfl
      intro i j hi hj
      obtain ⟨y, hy, hcell⟩ := hh i j hi hj
      refine ⟨y, ?_, hcell.tr T⟩
      rw [cell_block hW.here]; rw [cell_block hheap] at hy; exact hy), hft⟩)
    ((V_of_V2 hx0).tr (Tr_write (x' := .vec d) hR (blkAt_fnd hb) hB hheap hW rfl))
  exact ⟨.value (a.eval x), a.eval x, _, σ, by simp [execOp, ho, hrun], .inl rfl, hRW.1, hRW.2⟩

theorem overI_length {l m : List Int} {off len : Nat} (h : off + len ≤ l.length) : (overI l off len m).length = l.length := by
  simp only [overI, List.length_append, List.length_take, List.length_drop]; omega

/-- A copy into numbers of a named block. -/
theorem copy_run (TO : TabOk P T) {o : Oper} {t t2 e : TypeId} {x y : Operand} {B off len cap : Nat} {ad : Option Addr} {d : Data} {cs : List Value} (ho : o.op = .call { callee := .builtin .copy, args := #[x, y], argTypes := #[t, t2] })
    (ht : T.ty t = .slice e) (hs : T.size e = 1) (hx : a.eval x = .slice ad len cap) (had : len ≠ 0 → ad = some ⟨B, off, none⟩) (hez : d.esz = 1) (hsrc : Src P X s.b σ w d (a.eval y) cs) :
    ∀ w', (storeCells ⟨B, off, none⟩ (cs.take (min d.len len))).run P w = .ok () w' → ∃ nx, (execOp a.eval o).run P w = .ok nx w' ∧ (nx = .value (.int .i64 (min d.len len : Nat)) ∨ (nx = .skip ∧ Value.int .i64 (min d.len len : Nat) = undef)) := by
  intro w' hr
  have ht' := TO.ty t
  rw [ht] at ht'; simp only [tyOk] at ht'
  obtain ⟨hlo, hfi⟩ := hsrc.2 w rfl
  have hf := hfi (min d.len len) (Nat.min_le_left _ _)
  rw [hez, Nat.mul_one] at hf
  refine ⟨.value (.int .i64 (min d.len len : Nat)), ?_, .inl rfl⟩
  simp only [execOp, ho, resolve]
  by_cases hl0 : len = 0
  · subst hl0
    simp only [Nat.min_zero, List.take_zero, storeCells] at hr hf
    obtain rfl : w = w' := by simpa using hr
    cases ad with
    | none => simp [invoke, builtin, Builtin.copy_, hx, run_underlying ht', hlo, size_run TO (t := e) (by omega), hs, hf, goInt]
    | some q => simp [invoke, builtin, Builtin.copy_, hx, run_underlying ht', hlo, size_run TO (t := e) (by omega), hs, hf, goInt, storeCells]
  · rw [had hl0] at hx
    have hmin : Nat.min d.len len = min d.len len := rfl
    simp [invoke, builtin, Builtin.copy_, hx, run_underlying ht', hlo, size_run TO (t := e) (by omega), hs, hmin, hf, goInt, hr]

theorem cs_ints {k : IntKind} {m : List Int} {cs : List Value} (h : Cs X s.b σ w (.ints k m) cs) : cs = m.map (.int k) := by
  obtain ⟨h1, h2⟩ := h
  simp only [Data.len, Data.esz, Nat.mul_one] at h1
  apply List.ext_getElem?
  intro i
  by_cases hi : i < m.length
  · obtain ⟨x, hx, hc⟩ := h2 i 0 hi (by simp [Data.esz])
    simp only [Data.esz, Nat.mul_one, Nat.add_zero] at hx
    rw [hx, map_getD _ _ _ hi, show x = _ from hc]
  · rw [List.getElem?_eq_none (by omega), List.getElem?_eq_none (by simp; omega)]

theorem copy_vec_ok (TO : TabOk P T) (hR : R X s σ w a) {o : Oper} {t t2 e : TypeId} {x y : Operand} {n g off len : Nat} {k : IntKind} {l m : List Int} {cs : List Value} (ho : o.op = .call { callee := .builtin .copy, args := #[x, y], argTypes := #[t, t2] })
    (ht : T.ty t = .slice e) (hs : T.size e = 1) (hx : V2 X s.b s.c σ w (.sl n g 0 1 off len) (a.eval x)) (hb : blkAt s.b n g = some (.vec (.ints k l))) (hle : off + len ≤ l.length) (hsrc : Src P X s.b σ w (.ints k m) (a.eval y) cs) :
    Does P X s σ ⟨setD s.t o.dst (.int .i64 (min m.length len : Nat)), upd s.b n g (.vec (.ints k (overI l off len m))), s.c⟩ w a o := by
  obtain ⟨_, hlv⟩ := hx
  obtain ⟨ad, cap, hax, hlc, hcap⟩ := hlv (blkAt_live hb)
  have hcs := cs_ints hsrc.1
  rcases (hR.bl n g _ (blkAt_fnd hb)).2.1 with ⟨hno, hl0⟩ | ⟨B, cs0, ty, fr, hB, hheap, hfree, hsz, hh, hft⟩
  · -- no block: nothing is written
    have hl00 : l = [] := List.eq_nil_of_length_eq_zero hl0
    subst hl00
    obtain rfl : len = 0 := by simp at hle; omega
    obtain rfl : off = 0 := by simp at hle; omega
    have := copy_run (B := 0) (off := 0) TO ho ht hs hax (fun h => absurd rfl h) rfl hsrc w (by simp [storeCells])
    obtain ⟨nx, h1, h2⟩ := this
    simp only [Data.len] at h2
    refine ⟨nx, _, w, σ, h1, h2, ?_⟩
    have e1 : overI [] 0 0 m = [] := by simp [overI]
    rw [e1]
    have hsame : ∀ q, fnd (upd s.b n g (.vec (.ints k []))) q = fnd s.b q := by
      intro q
      rw [fnd_upd]
      by_cases e : q = n
      · rw [if_pos e, e, blkAt_fnd hb]
      · rw [if_neg e]
    have hR2 := hR.drop (b := upd s.b n g (.vec (.ints k []))) (fun q x hx => by rw [← hsame q]; exact hx)
    have := put_tm (dst := o.dst) (v := .int .i64 (min m.length 0 : Nat)) hR2.sz hR2.tm (sv := .int .i64 (min m.length 0 : Nat)) rfl
    exact ⟨{ hR2 with sz := this.1, tm := this.2, df := by cases o.dst <;> exact hR.df }, Tr.drop (fun q x hx => by rw [← hsame q]; exact hx)⟩
  · simp only [Data.len, Data.esz, Nat.mul_one] at hsz
    rw [holds_ints hheap] at hh
    have had : len ≠ 0 → ad = some ⟨B, off, none⟩ := by
      intro h0
      obtain ⟨B', hB', e1, _⟩ := hcap (by omega)
      obtain rfl : B = B' := by simpa using hB.symm.trans hB'
      rw [e1, Nat.zero_add, Nat.mul_one]
    have hmin : (cs.take (min m.length len)).length = min m.length len := by rw [hcs]; simp
    refine store_does hR (blkAt_fnd hb) hB hheap hfree (vs := cs.take (min m.length len)) (off := off) (by rw [hmin]; omega) ?_ (copy_run TO ho ht hs hax had rfl hsrc) ?_ (fun w' => rfl)
    · intro v hv; rw [hcs, ← List.map_take] at hv; obtain ⟨q, _, rfl⟩ := List.mem_map.1 hv; rfl
    · intro w' cs' he hW hT
      rw [hmin] at he
      have hs' : cs'.size = cs0.size := by
        have := congrArg List.length he
        simp only [Array.length_toList, List.length_append, List.length_take, List.length_drop, hmin] at this
        omega
      refine .inr ⟨B, cs', ty, fr, hB, hW.here, by rw [hs']; exact hfree, by simp only [Data.len, Data.esz, overI_length hle]; omega, ?_, ?_⟩
      rotate_left
      · refine ⟨fun i hi => ?_, by rw [hs']; exact hft.2⟩
        rw [← Array.getElem?_toList, he]
        by_cases c1 : i < (cs0.toList.take off).length
        · rw [List.append_assoc, List.getElem?_append_left c1]
          have c2 : i < cs0.size := by simp at c1; omega
          obtain ⟨z, hz⟩ := hft.1 i c2
          exact ⟨z, by rw [List.getElem?_take, if_pos (by simp at c1; omega), Array.getElem?_toList, hz]⟩
        · by_cases c2 : i < (cs0.toList.take off ++ cs.take (min m.length len)).length
          · rw [List.getElem?_append_left c2, List.getElem?_append_right (Nat.le_of_not_lt c1)]
            have c3 : i - (cs0.toList.take off).length < (cs.take (min m.length len)).length := by rw [List.length_append] at c2; omega
            have e5 : cs.take (min m.length len) = (m.take (min m.length len)).map (.int k) := by rw [hcs, List.map_take]
            rw [e5] at c3 ⊢
            rw [List.length_map] at c3
            exact ⟨(m.take (min m.length len))[i - (cs0.toList.take off).length], by rw [List.getElem?_map, List.getElem?_eq_getElem c3]; rfl⟩
          · rw [List.getElem?_append_right (Nat.le_of_not_lt c2), List.getElem?_drop]
            rw [List.length_append] at c2
            have c3 : off + min m.length len + (i - (cs0.toList.take off ++ cs.take (min m.length len)).length) < cs0.size := by
              simp only [List.length_append, List.length_take, Array.length_toList] at *; omega
            obtain ⟨z, hz⟩ := hft.1 _ c3
            exact ⟨z, by rw [Array.getElem?_toList, hz]⟩
      rw [holds_ints hW.here]
      intro j hj
      rw [overI_length hle] at hj
      have hj0 := hh j hj
      rw [← Array.getElem?_toList] at hj0 ⊢
      rw [he]
      by_cases c1 : j < off
      · rw [List.append_assoc, List.getElem?_append_left (by simp; omega), List.getElem?_take, if_pos c1, hj0]
        simp only [overI, List.getD]
        rw [List.append_assoc, List.getElem?_append_left (by simp; omega), List.getElem?_take, if_pos c1]
      · by_cases c2 : j < off + min m.length len
        · have eA : (cs0.toList.take off ++ cs.take (min m.length len)).length = off + min m.length len := by rw [List.length_append, hmin]; simp; omega
          rw [List.getElem?_append_left (by rw [eA]; exact c2), List.getElem?_append_right (by simp; omega)]
          have e0 : (cs0.toList.take off).length = off := by simp; omega
          rw [e0, List.getElem?_take, if_pos (by omega), hcs, map_getD _ _ _ (by omega)]
          simp only [overI, List.getD]
          have e1 : (l.take off).length = off := by simp; omega
          rw [List.getElem?_append_left (by simp only [List.length_append, List.length_take]; omega), List.getElem?_append_right (by omega), e1, List.getElem?_take, if_pos (by omega)]
        · have e0 : (cs0.toList.take off ++ cs.take (min m.length len)).length = off + min m.length len := by rw [List.length_append, hmin]; simp; omega
          have e1 : (l.take off ++ m.take (min m.length len)).length = off + min m.length len := by simp only [List.length_append, List.length_take]; omega
          rw [List.getElem?_append_right (by omega), e0, List.getElem?_drop, show off + min m.length len + (j - (off + min m.length len)) = j by omega, hj0]
          simp only [overI, List.getD]
          rw [List.getElem?_append_right (by omega), e1, List.getElem?_drop, show off + min m.length len + (j - (off + min m.length len)) = j by omega]
end

end Go.Proofs.YtdhnjmepgafeiaaDoor.Abs

/- OWN LIBRARY, part 11: copies into arrays; what is appended; all operations that make or write memory. -/
set_option linter.unusedVariables false
set_option linter.unusedSimpArgs false
namespace Go.Proofs.YtdhnjmepgafeiaaDoor.Abs
open Go

theorem take_map_over (l : List Int) (k : IntKind) (off len : Nat) (m : List Int) (cs : List Value) (o n : Nat) (hl : l.length = n) (hle : off + len ≤ n) (hn : o + n ≤ cs.length) (hcs : ∀ j, j < n → cs[o + j]? = some (.int k (l.getD j 0))) :
    cs.take o ++ (overI l off len m).map (Value.int k) ++ cs.drop (o + n) = cs.take (o + off) ++ (m.map (Value.int k)).take (min m.length len) ++ cs.drop (o + off + min m.length len) := by
  have hov : (overI l off len m).length = n := by rw [overI_length (by omega), hl]
  have hmin : ((m.map (Value.int k)).take (min m.length len)).length = min m.length len := by simp
  apply List.ext_getElem?
  intro j
  have e1 : (cs.take o).length = o := by simp; omega
  have e2 : (cs.take o ++ (overI l off len m).map (Value.int k)).length = o + n := by rw [List.length_append, e1, List.length_map, hov]
  have e3 : (cs.take (o + off)).length = o + off := by simp; omega
  have e4 : (cs.take (o + off) ++ (m.map (Value.int k)).take (min m.length len)).length = o + off + min m.length len := by rw [List.length_append, e3, hmin]
  have e5 : (l.take off).length = off := by simp; omega
  have e6 : (l.take off ++ m.take (min m.length len)).length = off + min m.length len := by rw [List.length_append, e5]; simp
  by_cases c1 : j < o
  · rw [List.append_assoc, List.getElem?_append_left (by omega), List.append_assoc, List.getElem?_append_left (by omega), List.getElem?_take, if_pos c1, List.getElem?_take, if_pos (by omega)]
  · by_cases c2 : j < o + n
    · rw [List.getElem?_append_left (by omega), List.getElem?_append_right (by omega), e1, List.getElem?_map]
      have hj := hcs (j - o) (by omega)
      rw [show o + (j - o) = j by omega] at hj
      have hlj : l[j - o]? = some (l.getD (j - o) 0) := by simp [List.getD, show j - o < l.length by omega]
      by_cases c3 : j < o + off
      · rw [List.append_assoc, List.getElem?_append_left (by omega), List.getElem?_take, if_pos c3, hj]
        simp only [overI]
        rw [List.append_assoc, List.getElem?_append_left (by omega), List.getElem?_take, if_pos (by omega), hlj]; rfl
      · by_cases c4 : j < o + off + min m.length len
        · rw [List.getElem?_append_left (by omega), List.getElem?_append_right (by omega), e3, List.getElem?_take, if_pos (by omega), List.getElem?_map]
          simp only [overI]
          rw [List.getElem?_append_left (by omega), List.getElem?_append_right (by omega), e5, List.getElem?_take, if_pos (by omega), show j - o - off = j - (o + off) by omega]
        · rw [List.getElem?_append_right (by omega), e4, List.getElem?_drop, show o + off + min m.length len + (j - (o + off + min m.length len)) = j by omega, hj]
          simp only [overI]
          rw [List.getElem?_append_right (by omega), e6, List.getElem?_drop, show off + min m.length len + (j - o - (off + min m.length len)) = j - o by omega, hlj]; rfl
    · rw [List.getElem?_append_right (by omega), e2, List.getElem?_drop, List.getElem?_append_right (by omega), e4, List.getElem?_drop]
      congr 1; omega

section
variable {P : Program} {T : Tab} {X : Ctx} {s : St} {σ : Env} {w : World} {a : Act}

theorem copy_cells_ok (TO : TabOk P T) (hR : R X s σ w a) {o : Oper} {t t2 e : TypeId} {x y : Operand} {n g seg off len n' : Nat} {k : IntKind} {l l2 : List SV} {l' m : List Int} {cs : List Value} (ho : o.op = .call { callee := .builtin .copy, args := #[x, y], argTypes := #[t, t2] })
    (ht : T.ty t = .slice e) (hs : T.size e = 1) (hx : V2 X s.b s.c σ w (.sl n g seg 1 off len) (a.eval x)) (hb : blkAt s.b n g = some (.cells l)) (ha : arrAt l seg = some (k, n', l')) (hl2 : setA l seg (overI l' off len m) = some l2) (hle : off + len ≤ n') (hsrc : Src P X s.b σ w (.ints k m) (a.eval y) cs) :
    Does P X s σ ⟨setD s.t o.dst (.int .i64 (min m.length len : Nat)), upd s.b n g (.cells l2), s.c⟩ w a o := by
  obtain ⟨_, hlv⟩ := hx
  obtain ⟨ad, cap, hax, hlc, hcap⟩ := hlv (blkAt_live hb)
  have hcs := cs_ints hsrc.1
  obtain ⟨B, cs0, ty, fr, hB, hheap, hfree, hcells⟩ := (hR.bl n g _ (blkAt_fnd hb)).2.1
  obtain ⟨g1, g2, g3⟩ := arrAt_len hcells ha
  have hok := setA_ok hcells ha hl2 (by rw [overI_length (by omega), g2])
  have hlc0 : cs0.toList.length = cs0.size := by simp
  rw [take_map_over l' k off len m _ _ _ g2 hle g1 g3, ← hcs] at hok
  have had : len ≠ 0 → ad = some ⟨B, seg + off, none⟩ := by
    intro h0
    obtain ⟨B', hB', e1, _⟩ := hcap (by omega)
    obtain rfl : B = B' := by simpa using hB.symm.trans hB'
    rw [e1, Nat.mul_one]
  have hmin : (cs.take (min m.length len)).length = min m.length len := by rw [hcs]; simp
  refine store_does hR (blkAt_fnd hb) hB hheap hfree (vs := cs.take (min m.length len)) (off := seg + off) (by rw [hmin]; omega) ?_ (copy_run TO ho ht hs hax had rfl hsrc) ?_ (fun w' => rfl)
  · intro v hv; rw [hcs, ← List.map_take] at hv; obtain ⟨q, _, rfl⟩ := List.mem_map.1 hv; rfl
  · intro w' cs' he hW hT
    rw [hmin] at he
    have hs' : cs'.size = cs0.size := by
      have := congrArg List.length he
      simp only [Array.length_toList, List.length_append, List.length_take, List.length_drop, hmin] at this
      omega
    exact ⟨B, cs', ty, fr, hB, hW.here, by rw [hs']; exact hfree, by rw [he]; exact hok.tr hT⟩

theorem appD_facts {dx dy dz : Data} (h : appD dx dy = some dz) : dz.len = dx.len + dy.len ∧ dz.esz = dx.esz ∧ dy.esz = dx.esz := by
  cases dx <;> cases dy <;> simp only [appD, reduceCtorEq] at h
  case ints.ints k l k' m =>
    split at h <;> simp only [reduceCtorEq, Option.some.injEq] at h
    subst h; simp [Data.len, Data.esz]
  all_goals
    simp only [Option.some.injEq] at h
    subst h; simp [Data.len, Data.esz]

theorem appD_left {b : List (Nat × Nat × Blk)} {dx dy dz : Data} (h : appD dx dy = some dz) {i j : Nat} {x : Value} (hi : i < dx.len) (hc : CellOk (Vw X b σ w) w i j dx x) : CellOk (Vw X b σ w) w i j dz x := by
  have hg : ∀ {α : Type} (p q : List α) (z : α), i < p.length → (p ++ q).getD i z = p.getD i z := by
    intro α p q z hp; simp [List.getD, List.getElem?_append_left hp]
  cases dx <;> cases dy <;> simp only [appD, reduceCtorEq] at h
  case ints.ints k l k' m =>
    split at h <;> simp only [reduceCtorEq, Option.some.injEq] at h
    subst h
    simp only [CellOk, Data.len] at hc hi ⊢
    rw [hg _ _ _ hi]; exact hc
  case rows.rows t l t' m =>
    simp only [Option.some.injEq] at h
    subst h
    simp only [CellOk, Data.len] at hc hi ⊢
    rw [hg _ _ _ hi]; exact hc.weak (by intro h; rw [Bool.and_eq_true] at h; exact h.1)
  all_goals
    simp only [Option.some.injEq] at h
    subst h
    simp only [CellOk, Data.len] at hc hi ⊢
    rw [hg _ _ _ hi]; exact hc

theorem appD_right {b : List (Nat × Nat × Blk)} {dx dy dz : Data} (h : appD dx dy = some dz) {i j : Nat} {x : Value} (hc : CellOk (Vw X b σ w) w i j dy x) : CellOk (Vw X b σ w) w (dx.len + i) j dz x := by
  have hg : ∀ {α : Type} (p q : List α) (z : α), (p ++ q).getD (p.length + i) z = q.getD i z := by
    intro α p q z; simp only [List.getD]; rw [List.getElem?_append_right (by omega), Nat.add_sub_cancel_left]
  cases dx <;> cases dy <;> simp only [appD, reduceCtorEq] at h
  case ints.ints k l k' m =>
    split at h <;> simp only [reduceCtorEq, Option.some.injEq] at h
    rename_i hk
    subst h; subst hk
    simp only [CellOk, Data.len] at hc ⊢
    rw [hg]; exact hc
  case rows.rows t l t' m =>
    simp only [Option.some.injEq] at h
    subst h
    simp only [CellOk, Data.len] at hc ⊢
    rw [hg]; exact hc.weak (by intro h; rw [Bool.and_eq_true] at h; exact h.2)
  all_goals
    simp only [Option.some.injEq] at h
    subst h
    simp only [CellOk, Data.len] at hc ⊢
    rw [hg]; exact hc

/-- Data, cells: the one half from the one, the other from the other. -/
theorem Cs.app {b : List (Nat × Nat × Blk)} {dx dy dz : Data} {xs ys : List Value} (h : appD dx dy = some dz) (hx : Cs X b σ w dx xs) (hy : Cs X b σ w dy ys) : Cs X b σ w dz (xs ++ ys) := by
  obtain ⟨f1, f2, f3⟩ := appD_facts h
  refine ⟨by rw [List.length_append, hx.1, hy.1, f1, f2, f3, Nat.add_mul], fun i j hi hj => ?_⟩
  rw [f2] at hj ⊢
  by_cases c : i < dx.len
  · obtain ⟨v, hv, hc⟩ := hx.2 i j c hj
    refine ⟨v, ?_, appD_left h c hc⟩
    rw [List.getElem?_append_left (by rw [hx.1]; exact mul_idx c hj)]; exact hv
  · obtain ⟨v, hv, hc⟩ := hy.2 (i - dx.len) j (by omega) (by rw [f3]; exact hj)
    have := appD_right h hc
    rw [show dx.len + (i - dx.len) = i by omega] at this
    refine ⟨v, ?_, this⟩
    obtain ⟨q, rfl⟩ : ∃ q, i = dx.len + q := ⟨i - dx.len, by omega⟩
    rw [Nat.add_sub_cancel_left, f3] at hv
    rw [List.getElem?_append_right (by rw [hx.1, Nat.add_mul]; omega), hx.1, ← hv, Nat.add_mul]
    congr 1; omega

theorem Cs.tr {b b' : List (Nat × Nat × Blk)} {c c' : Lim} {σ' : Env} {w' : World} (Tt : Tr X b c σ w b' c' σ' w') {d : Data} {cs : List Value} (h : Cs X b σ w d cs) : Cs X b' σ' w' d cs :=
  ⟨h.1, fun i j hi hj => let ⟨x, hx, hc⟩ := h.2 i j hi hj; ⟨x, hx, hc.tr Tt⟩⟩

/-- Cells at the begin of a block. -/
theorem holds_of_cs {b : List (Nat × Nat × Blk)} {d : Data} {cs : List Value} {B : Nat} {arr : Array Value} {t : TypeId} {fr : Nat × Nat} (hheap : w.heap[B]? = some (.cells arr t fr)) (hpre : ∀ q, q < cs.length → arr[q]? = cs[q]?) (h : Cs X b σ w d cs) : Holds (Vw X b σ w) w B 0 d := by
  intro i j hi hj
  obtain ⟨x, hx, hc⟩ := h.2 i j hi hj
  refine ⟨x, ?_, hc⟩
  rw [cell_block hheap, Nat.zero_add, hpre _ (by rw [h.1]; exact mul_idx hi hj), hx]

theorem cs_of_holds {b : List (Nat × Nat × Blk)} {d : Data} {B : Nat} {arr : Array Value} {t : TypeId} {fr : Nat × Nat} (hheap : w.heap[B]? = some (.cells arr t fr)) (hsz : d.len * d.esz ≤ arr.size) (h : Holds (Vw X b σ w) w B 0 d) : Cs X b σ w d (arr.toList.take (d.len * d.esz)) := by
  refine ⟨by simp; omega, fun i j hi hj => ?_⟩
  obtain ⟨x, hx, hc⟩ := h i j hi hj
  refine ⟨x, ?_, hc⟩
  rw [cell_block hheap, Nat.zero_add] at hx
  rw [List.getElem?_take, if_pos (mul_idx hi hj)]
  simpa using hx

theorem isSrc_ok (TO : TabOk P T) {t : TypeId} (h : isSrc (T.ty t) = true) : (∃ e', P.underlying t = some (.slice e')) ∨ P.underlying t = some .string := by
  have ht := TO.ty t
  cases e : T.ty t <;> rw [e] at h ht <;> simp only [isSrc, tyOk, Bool.false_eq_true] at h ht
  · exact .inr ht
  · exact .inl ⟨_, ht⟩

/-- What append answers where there is room. -/
theorem append_in (TO : TabOk P T) {t t2 e ty : TypeId} (ht : T.ty t = .slice e) (h2 : isSrc (T.ty t2) = true) {base : Option Addr} {n cap : Nat} {y : Value} {d : Data} {ys : List Value} (hs : T.size e = d.esz) (hsrc : Src P X s.b σ w d y ys) (hroom : n + d.len ≤ cap) {w' : World}
    (hst : ∀ q, base = some q → (storeCells (q.add (n * d.esz)) ys).run P w = .ok () w') (hno : base = none → w' = w) :
    (Builtin.append_ #[t, t2] ty #[.slice base n cap, y]).run P w = .ok (.slice base (n + d.len) cap) w' := by
  have ht' := TO.ty t
  rw [ht] at ht'; simp only [tyOk] at ht'
  have hq2 := isSrc_ok TO h2
  obtain ⟨hlo, hfi⟩ := hsrc.2 w rfl
  have hf := hfi d.len (Nat.le_refl _)
  have hall : ys.take (d.len * d.esz) = ys := List.take_of_length_le (by rw [hsrc.1.1]; omega)
  rw [hall] at hf
  have hez := d.esz_pos
  have hso := size_run (P := P) (w := w) TO (t := e) (by omega)
  rw [hs] at hso
  cases base with
  | none =>
    rw [hno rfl]
    rcases hq2 with ⟨e', hq2⟩ | hq2 <;>
    simp [Builtin.append_, run_underlying ht', run_underlying hq2, hso, hlo, hroom, hf]
  | some q =>
    have := hst q rfl
    rcases hq2 with ⟨e', hq2⟩ | hq2 <;>
    simp [Builtin.append_, run_underlying ht', run_underlying hq2, hso, hlo, hroom, hf, this]

theorem zI_cells {k : IntKind} {l : List SV} {z : Value} (h : zI k l) (hz : ZeroOk l z.cells.toList) : z.cells = #[.int k 0] := by
  have : z.cells.toList = [.int k 0] := by
    cases l with
    | nil => simp [zI] at h
    | cons y r =>
      cases r with
      | cons _ _ => cases y <;> simp [zI] at h
      | nil =>
        cases y <;> simp only [zI] at h
        obtain ⟨rfl, rfl⟩ := h
        obtain ⟨v, cs', e1, e2, e3⟩ := hz
        rw [e1, show cs' = [] from e3]
        cases v <;> simp only [constSV, SV.int.injEq, reduceCtorEq] at e2
        · obtain ⟨rfl, rfl⟩ := e2; rfl
        all_goals (try (rename_i a1 a2 a3; cases a1 <;> (try cases a2) <;> (try cases a3) <;> simp only [constSV, reduceCtorEq] at e2))
  exact Array.ext' this

theorem cs_get {k : IntKind} {m : List Int} {cs : List Value} (h : Cs X s.b σ w (.ints k m) cs) : ∀ i, i < cs.length → ∃ z, cs[i]? = some (.int k z) := by
  intro i hi
  obtain ⟨h1, h2⟩ := h
  simp only [Data.len, Data.esz, Nat.mul_one] at h1
  obtain ⟨x, hx, hc⟩ := h2 i 0 (by simp only [Data.len]; omega) (by simp [Data.esz])
  simp only [Data.esz, Nat.mul_one, Nat.add_zero] at hx
  exact ⟨_, by rw [hx, show x = _ from hc]⟩

theorem fit_app {b : List (Nat × Nat × Blk)} {e : TypeId} {d : Data} {zs : List Value} {rest : Array Value} (hft : fitT T e d) (hcs : Cs X b σ w d zs) (h : ∀ k, zI k (T.zero e) → ∀ i, i < rest.size → rest[i]? = some (.int k 0)) (hsz : d.esz = 1 → (zs.toArray ++ rest).size < 9223372036854775808) : Fit d (zs.toArray ++ rest) := by
  cases d <;> try trivial
  rename_i k l
  refine ⟨fun i hi => ?_, hsz rfl⟩
  rw [Array.size_append, List.size_toArray] at hi
  by_cases c : i < zs.length
  · obtain ⟨z, hz⟩ := cs_get (s := ⟨[], b, ⟨0, [], 0⟩⟩) hcs i c
    exact ⟨z, by rw [Array.getElem?_append_left (by simpa using c)]; simpa using hz⟩
  · refine ⟨0, ?_⟩
    rw [Array.getElem?_append_right (by simpa using Nat.le_of_not_lt c), List.size_toArray]
    exact h k hft _ (by omega)

theorem appD_fit {dx dy dz : Data} (h : appD dx dy = some dz) {cs : Array Value} : (Fit dx cs → Fit dz cs) ∧ (Fit dy cs → Fit dz cs) := by
  cases dx <;> cases dy <;> simp only [appD, reduceCtorEq] at h
  · rename_i k l k' m
    split at h
    · rename_i e
      subst e
      obtain rfl := Option.some.inj h
      exact ⟨id, id⟩
    · simp at h
  all_goals (obtain rfl := Option.some.inj h; exact ⟨fun _ => trivial, fun _ => trivial⟩)

theorem fit_over {b : List (Nat × Nat × Blk)} {dx dy dz : Data} (h : appD dx dy = some dz) {cs cs' : Array Value} {ys : List Value} {o : Nat} (hf : Fit dx cs) (hy : Cs X b σ w dy ys) (hoy : o + ys.length ≤ cs.size) (he : cs'.toList = cs.toList.take o ++ ys ++ cs.toList.drop (o + ys.length)) : Fit dz cs' := by
  cases dx <;> cases dy <;> simp only [appD, reduceCtorEq] at h
  · rename_i k l k' m
    split at h
    · rename_i e
      subst e
      obtain rfl := Option.some.inj h
      have hlen := congrArg List.length he
      simp only [Array.length_toList, List.length_append, List.length_take, List.length_drop] at hlen
      refine ⟨fun i hi => ?_, by have := hf.2; omega⟩
      rw [← Array.getElem?_toList, he]
      by_cases c1 : i < (cs.toList.take o).length
      · rw [List.append_assoc, List.getElem?_append_left c1]
        have c2 : i < cs.size := by simp at c1; omega
        obtain ⟨z, hz⟩ := hf.1 i c2
        refine ⟨z, ?_⟩
        rw [List.getElem?_take, if_pos (by simp at c1; omega), Array.getElem?_toList, hz]
      · by_cases c2 : i < (cs.toList.take o ++ ys).length
        · rw [List.getElem?_append_left c2, List.getElem?_append_right (Nat.le_of_not_lt c1)]
          exact cs_get (s := ⟨[], b, ⟨0, [], 0⟩⟩) hy _ (by rw [List.length_append] at c2; omega)
        · rw [List.getElem?_append_right (Nat.le_of_not_lt c2), List.getElem?_drop]
          rw [List.length_append] at c2
          have c3 : o + ys.length + (i - (cs.toList.take o ++ ys).length) < cs.size := by
            simp only [List.length_append, List.length_take, Array.length_toList] at *; omega
          obtain ⟨z, hz⟩ := hf.1 _ c3
          exact ⟨z, by rw [Array.getElem?_toList, hz]⟩
    · simp at h
  all_goals (obtain rfl := Option.some.inj h; trivial)

/-- What append answers where there is no room: a new block. -/
theorem append_out (TO : TabOk P T) {t t2 e ty : TypeId} (ht : T.ty t = .slice e) (h2 : isSrc (T.ty t2) = true) {base : Option Addr} {n cap : Nat} {y : Value} {d : Data} {xs ys : List Value} (hs : T.size e = d.esz) (hsrc : Src P X s.b σ w d y ys) (hroom : cap < n + d.len)
    (hb : (n + d.len) * T.bytes e ≤ 140737488355328) (h63 : n + d.len ≤ 4611686018427387904)
    (hold : ∀ w1 : World, w1.heap = w.heap → (Builtin.firstCells d.esz n (.slice base n cap)).run P w1 = .ok xs.toArray w1) :
    ∃ newCap rest, (Builtin.append_ #[t, t2] ty #[.slice base n cap, y]).run P w = .ok (.slice (some ⟨w.heap.size, 0, none⟩) (n + d.len) newCap) (w.drew.alloc (.cells (xs.toArray ++ ys.toArray ++ rest) e)) ∧ n + d.len ≤ newCap ∧ newCap < 9223372036854775808 ∧ rest.size = (newCap - (n + d.len)) * d.esz ∧ (∀ k, zI k (T.zero e) → ∀ i, i < rest.size → rest[i]? = some (.int k 0)) := by
  have ht' := TO.ty t
  rw [ht] at ht'; simp only [tyOk] at ht'
  have hq2 := isSrc_ok TO h2
  obtain ⟨hlo, hfi⟩ := hsrc.2 w rfl
  obtain ⟨hlo', hfi'⟩ := hsrc.2 w.drew rfl
  have hf := hfi' d.len (Nat.le_refl _)
  have hall : ys.take (d.len * d.esz) = ys := List.take_of_length_le (by rw [hsrc.1.1]; omega)
  rw [hall] at hf
  have hez := d.esz_pos
  obtain ⟨i, hi, his, hib, z, hz, hzo, hzs⟩ := TO.info e (by omega)
  have hso := size_run (P := P) (w := w) TO (t := e) (by omega)
  rw [hs] at hso
  have hfit := growslice_fits (need := n + d.len) (old := cap) (bytes := i.bytes) hroom (by rw [hib]; exact hb)
  have hn : ¬ (n + d.len ≤ cap) := by omega
  have h63' : ¬ (9223372036854775807 < ((n : Int) + (d.len : Int))) := by omega
  have h48' : ¬ (281474976710656 < Builtin.nextslicecap (n + d.len) cap * i.bytes) := by omega
  have hfo := hold w.drew rfl
  have hzl : z.cells.size = d.esz := by rw [hzs, hs]
  refine ⟨grownCap w (n + d.len) cap e, Builtin.zeroCells z.cells (grownCap w (n + d.len) cap e - (n + d.len)), ?_, ?_, ?_, ?_, ?_⟩
  · have hsz : i.size = d.esz := his.trans hs
    rcases hq2 with ⟨e', hq2⟩ | hq2 <;>
    simp [Builtin.append_, run_underlying ht', run_underlying hq2, sizeOf, hsz, hlo, hn, typeInfo, hi, hz, zeroValue, Question.forced, hf, hfo, newRow, h63', h48', grownCap, askRoom]
    all_goals (congr 2; apply Array.ext'; simp [List.append_assoc])
  · simp only [grownCap, Question.cut]; omega
  · simp only [grownCap, Question.cut]
    have e63 : (2 : Nat) ^ 63 = 9223372036854775808 := rfl
    rw [e63]
    exact Nat.lt_of_lt_of_le (Nat.add_lt_add_left (Nat.mod_lt _ (by omega)) _) (by omega)
  · simp [Builtin.zeroCells, hzl]
  · intro k hk j hj
    rw [zI_cells hk hzo] at hj ⊢
    simp only [Builtin.zeroCells, Array.size_map, Array.size_range] at hj
    simp only [Builtin.zeroCells]
    rw [Array.getElem?_map, Array.getElem?_range]
    simp at hj
    simp [hj, Nat.mod_one]

theorem run_append_exec {o : Oper} {t t2 : TypeId} {x y : Operand} {u : Value} {w' : World} (ho : o.op = .call { callee := .builtin .append, args := #[x, y], argTypes := #[t, t2] })
    (h : (Builtin.append_ #[t, t2] o.type #[a.eval x, a.eval y]).run P w = .ok u w') : (execOp a.eval o).run P w = .ok (.value u) w' := by
  simp only [execOp, ho, resolve]
  simp [invoke, builtin, h]

/-- A new block with cells that hold data. -/
theorem append_new_R {b0 : List (Nat × Nat × Blk)} (hR : R X ⟨s.t, b0, s.c⟩ σ w a) {dst : Option Nat} {dd : Nat} {d : Data} {zs : List Value} {rest : Array Value} {e : TypeId} {newCap : Nat} (hn : dd ∉ s.c.d)
    (hcs : Cs X b0 σ w d zs) (hrest : rest.size = (newCap - d.len) * d.esz) (hcap : d.len ≤ newCap) (hft : Fit d (zs.toArray ++ rest)) :
    R X ⟨setD s.t dst (.sl dd s.c.c 0 d.esz 0 d.len), upd b0 dd s.c.c (.vec d), s.c.add dd⟩ (bind1 σ dd w.heap.size) (w.drew.alloc (.cells (zs.toArray ++ rest) e)) (a.put dst (.slice (some ⟨w.heap.size, 0, none⟩) d.len newCap)) ∧ Tr X b0 s.c σ w (upd b0 dd s.c.c (.vec d)) (s.c.add dd) (bind1 σ dd w.heap.size) (w.drew.alloc (.cells (zs.toArray ++ rest) e)) := by
  have hheap : (w.drew.alloc (.cells (zs.toArray ++ rest) e)).heap[w.heap.size]? = some (.cells (zs.toArray ++ rest) e) := by show (w.heap.push _)[w.heap.size]? = _; simp
  have hsz : (zs.toArray ++ rest).size = newCap * d.esz := by
    rw [Array.size_append, hrest, List.size_toArray, hcs.1, ← Nat.add_mul]; congr 1; omega
  have hT := Tr_new (s := ⟨s.t, b0, s.c⟩) (w' := w.drew.alloc (.cells (zs.toArray ++ rest) e)) (n := dd) (x := .vec d) hR hn rfl
  refine R_new (s := ⟨s.t, b0, s.c⟩) (o := .cells (zs.toArray ++ rest) e) hR hn rfl ⟨rfl, rfl, rfl⟩ (.inr ⟨w.heap.size, _, e, (0, 0), by simp [bind1], hheap, free0 _, by rw [hsz]; exact Nat.mul_le_mul_right _ hcap, ?_, hft⟩) ?_
  · refine holds_of_cs hheap (fun q hq => ?_) (hcs.tr hT)
    rw [Array.getElem?_append_left (by simpa using hq)]; simp
  · refine ⟨Lim.ok_new _ _, fun _ => ⟨_, newCap, rfl, hcap, fun _ => ⟨w.heap.size, by simp [bind1], by simp, ?_⟩⟩⟩
    simp only [blockSize, hheap, hsz, Nat.zero_add]; exact Nat.le_refl _

theorem append_nil_ok (TO : TabOk P T) (hR : R X s σ w a) {o : Oper} {t t2 e : TypeId} {x y : Operand} {dd : Nat} {d : Data} {ys : List Value} (ho : o.op = .call { callee := .builtin .append, args := #[x, y], argTypes := #[t, t2] })
    (hn : dd ∉ s.c.d) (ht : T.ty t = .slice e) (h2 : isSrc (T.ty t2) = true) (hft : fitT T e d) (hs : T.size e = d.esz) (hx : a.eval x = .slice none 0 0) (hsrc : Src P X s.b σ w d (a.eval y) ys)
    (hb : d.len * T.bytes e ≤ 140737488355328) (h63 : d.len ≤ 4611686018427387904) :
    Does P X s σ ⟨setD s.t o.dst (.sl dd s.c.c 0 d.esz 0 d.len), upd s.b dd s.c.c (.vec d), s.c.add dd⟩ w a o := by
  by_cases h0 : d.len = 0
  · have hr := append_in (base := none) (n := 0) (cap := 0) (ty := o.type) TO ht h2 hs hsrc (by omega) (w' := w) (fun q hq => by simp at hq) (fun _ => rfl)
    rw [h0] at hr
    refine ⟨_, .slice none 0 0, w, fun m => if m = dd then none else σ m, run_append_exec ho (by rw [hx]; exact hr), .inl rfl, ?_⟩
    refine R_none hR hn (.inl ⟨by simp, h0⟩) ⟨Lim.ok_new _ _, fun _ => ⟨none, 0, by rw [h0], by omega, fun h => absurd rfl h⟩⟩
  · obtain ⟨newCap, rest, hr, hc1, hc0, hc2, hc3⟩ := append_out (base := none) (n := 0) (cap := 0) (ty := o.type) (xs := []) TO ht h2 hs hsrc (by omega) (by simpa using hb) (by omega) (fun w1 _ => by simp [Builtin.firstCells])
    simp only [Nat.zero_add, List.nil_append] at hr hc1 hc0 hc2
    have e1 : (#[] : Array Value) ++ ys.toArray ++ rest = ys.toArray ++ rest := by simp
    rw [e1] at hr
    refine ⟨_, _, _, bind1 σ dd w.heap.size, run_append_exec ho (by rw [hx]; exact hr), .inl rfl, ?_⟩
    exact append_new_R hR hn hsrc.1 hc2 hc1 (fit_app hft hsrc.1 hc3 (fun h1 => by
      have h2 := hsrc.1.1
      rw [h1, Nat.mul_one] at h2 hc2
      rw [Array.size_append, List.size_toArray, h2, hc2]; omega))

theorem append_own_ok (TO : TabOk P T) (hR : R X s σ w a) {o : Oper} {t t2 e : TypeId} {x y : Operand} {dd n g : Nat} {dx dy dz : Data} {ys : List Value} (ho : o.op = .call { callee := .builtin .append, args := #[x, y], argTypes := #[t, t2] })
    (hn : dd ∉ s.c.d) (ht : T.ty t = .slice e) (h2 : isSrc (T.ty t2) = true) (hft : fitT T e dz) (hs : T.size e = dx.esz) (hx : V2 X s.b s.c σ w (.sl n g 0 dx.esz 0 dx.len) (a.eval x)) (hbk : blkAt s.b n g = some (.vec dx))
    (hz : appD dx dy = some dz) (hsrc : Src P X s.b σ w dy (a.eval y) ys)
    (hb : (dx.len + dy.len) * T.bytes e ≤ 140737488355328) (h63 : dx.len + dy.len ≤ 4611686018427387904) :
    Does P X s σ ⟨setD s.t o.dst (.sl dd s.c.c 0 dx.esz 0 dz.len), mv s.b n dd s.c.c (.vec dz), s.c.add dd⟩ w a o := by
  obtain ⟨f1, f2, f3⟩ := appD_facts hz
  have hs' : T.size e = dy.esz := by rw [f3]; exact hs
  obtain ⟨_, hlv⟩ := hx
  obtain ⟨base, cap, hax, hlc, hcap⟩ := hlv (blkAt_live hbk)
  have hfnd := blkAt_fnd hbk
  -- without the old name
  have hdrop : R X ⟨s.t, del s.b n, s.c⟩ σ w a := hR.drop (fun q v hq => by rw [fnd_del] at hq; split at hq <;> simp_all)
  have hTd : Tr X s.b s.c σ w (del s.b n) s.c σ w := by
    have hl : ∀ q v, fnd (del s.b n) q = some v → fnd s.b q = some v := fun q v hq => by rw [fnd_del] at hq; split at hq <;> simp_all
    refine ⟨fun _ _ h => h, fun q g ⟨v, hv⟩ _ => ⟨⟨v, hl q _ hv⟩, rfl⟩, fun tag B hv => ⟨rfl, hv.1, ?_⟩, fun _ _ _ _ _ _ => Nat.le_refl _⟩
    rcases hv.2 with hv | ⟨hv, hnn⟩
    · exact .inl hv
    · exact .inr ⟨hv, fun ⟨q, v, h1, h2⟩ => hnn ⟨q, v, hl q v h1, h2⟩⟩
  have hblk := (hR.bl n g _ hfnd).2.1
  by_cases hroom : dx.len + dy.len ≤ cap
  · -- there is room
    rcases hblk with ⟨hno, hx0⟩ | ⟨B, cs, ty, fr, hB, hheap, hfree, hsz, hh, hfc0⟩
    · have hcap0 : cap = 0 := by
        rcases Nat.eq_zero_or_pos cap with h | h
        · exact h
        · obtain ⟨B, hB, _⟩ := hcap (by omega); rw [hno] at hB; simp at hB
      have hys : ys = [] := List.eq_nil_of_length_eq_zero (by have h9 : dy.len = 0 := (by omega); rw [hsrc.1.1, h9]; simp)
      have hr := append_in (base := base) (n := dx.len) (cap := cap) (ty := o.type) TO ht h2 hs' hsrc hroom (w' := w) (fun q hq => by rw [hys]; rfl) (fun _ => rfl)
      refine ⟨_, _, w, fun m => if m = dd then none else σ m, run_append_exec ho (by rw [hax]; exact hr), .inl rfl, ?_⟩
      have hfin := R_none (s := ⟨s.t, del s.b n, s.c⟩) (x := .vec dz) (dst := o.dst) (sv := .sl dd s.c.c 0 dx.esz 0 dz.len) (v := .slice base (dx.len + dy.len) cap) hdrop hn (.inl ⟨by simp, by omega⟩) ⟨Lim.ok_new _ _, fun _ => ⟨base, cap, by rw [f1], by omega, fun h => absurd hcap0 h⟩⟩
      exact ⟨hfin.1, hTd.trans hfin.2⟩
    · by_cases hy0 : dy.len = 0
      · have hys : ys = [] := List.eq_nil_of_length_eq_zero (by rw [hsrc.1.1, hy0]; simp)
        have hr := append_in (base := base) (n := dx.len) (cap := cap) (ty := o.type) TO ht h2 hs' hsrc hroom (w' := w) (fun q hq => by rw [hys]; rfl) (fun _ => rfl)
        have hW : Wrote B w w cs ty fr := ⟨hheap, fun _ _ => rfl, rfl, rfl, rfl, rfl⟩
        refine ⟨_, _, w, bind1 σ dd B, run_append_exec ho (by rw [hax]; exact hr), .inl rfl, ?_⟩
        refine R_mv hR hfnd hB hn hheap hW rfl (.inr ⟨B, cs, ty, fr, by simp [bind1], hheap, hfree, by rw [f1, f2, hy0]; exact hsz, ?_, (appD_fit hz).1 hfc0⟩) ?_
        · have hT := Tr_mv (x' := .vec dz) hR hfnd hB hn hheap hW rfl
          intro i j hi hj
          rw [f2] at hj ⊢
          obtain ⟨v, hv, hc⟩ := hh i j (by omega) hj
          exact ⟨v, hv, (appD_left hz (by omega) hc).tr hT⟩
        · refine ⟨Lim.ok_new _ _, fun _ => ⟨base, cap, by rw [f1], by omega, fun h => ?_⟩⟩
          obtain ⟨B', hB', e1, e2⟩ := hcap h
          obtain rfl : B = B' := by simpa using hB.symm.trans hB'
          exact ⟨B, by simp [bind1], e1, e2⟩
      · obtain ⟨B', hB', e1, e2⟩ := hcap (by omega)
        obtain rfl : B = B' := by simpa using hB.symm.trans hB'
        have hbs : (0 + cap) * dx.esz ≤ cs.size := by simpa [blockSize, hheap] using e2
        have hm1 : (dx.len + dy.len) * dx.esz ≤ cap * dx.esz := Nat.mul_le_mul_right _ hroom
        have hyl : ys.length = dy.len * dx.esz := by rw [hsrc.1.1, f3]
        obtain ⟨w', cs', hst, hW, he⟩ := storeCells_run (P := P) (o := dx.len * dx.esz) ys 0 cs w hheap hfree (by rw [hyl]; rw [Nat.add_mul] at hm1; rw [Nat.zero_add] at hbs; omega) (cs_one hsrc.1)
        simp only [Nat.add_zero] at he
        have hr := append_in (base := base) (n := dx.len) (cap := cap) (ty := o.type) TO ht h2 hs' hsrc hroom (w' := w') (fun q hq => by
          rw [e1] at hq; simp only [Option.some.injEq] at hq; subst hq
          rw [addr_add, f3]; simpa using hst) (fun h => by rw [e1] at h; simp at h)
        have hcsl : cs.toList.length = cs.size := by simp
        have hs2 : cs'.size = cs.size := by
          have := congrArg List.length he
          simp only [Array.length_toList, List.length_append, List.length_take, List.length_drop] at this
          rw [Nat.add_mul] at hm1; rw [Nat.zero_add] at hbs
          omega
        refine ⟨_, _, w', bind1 σ dd B, run_append_exec ho (by rw [hax]; exact hr), .inl rfl, ?_⟩
        refine R_mv hR hfnd hB hn hheap hW hs2 (.inr ⟨B, cs', ty, fr, by simp [bind1], hW.here, by rw [hs2]; exact hfree, by rw [f1, f2, hs2]; rw [Nat.zero_add] at hbs; omega, ?_, fit_over hz hfc0 hsrc.1 (by rw [hyl]; rw [Nat.add_mul] at hm1; rw [Nat.zero_add] at hbs; omega) he⟩) ?_
        · have hT := Tr_mv (x' := .vec dz) hR hfnd hB hn hheap hW hs2
          have hcsx := cs_of_holds hheap hsz hh
          have happ := Cs.app hz hcsx hsrc.1
          refine holds_of_cs hW.here (fun q hq => ?_) (happ.tr hT)
          rw [List.length_append, hcsx.1] at hq
          rw [← Array.getElem?_toList, he, List.getElem?_append_left (by simp; omega)]
        · refine ⟨Lim.ok_new _ _, fun _ => ⟨base, cap, by rw [f1], by omega, fun h => ⟨B, by simp [bind1], e1, ?_⟩⟩⟩
          simp only [blockSize, hW.here, hs2]; simpa using hbs
  · -- there is none
    have hfc : ∃ xs, Cs X s.b σ w dx xs ∧ ∀ w1 : World, w1.heap = w.heap → (Builtin.firstCells dy.esz dx.len (.slice base dx.len cap)).run P w1 = .ok xs.toArray w1 := by
      rcases hblk with ⟨hno, hx0⟩ | ⟨B, cs, ty, fr, hB, hheap, hfree, hsz, hh, hfc0⟩
      · have := src_empty (P := P) (X := X) (b := s.b) (σ := σ) (w := w) (a := base) (cap := cap) hx0
        refine ⟨[], this.1, fun w1 hw1 => ?_⟩
        have := (this.2 w1 hw1).2 0 (by omega)
        rw [hx0, f3]; simpa using this
      · by_cases hx0 : dx.len = 0
        · have := src_empty (P := P) (X := X) (b := s.b) (σ := σ) (w := w) (a := base) (cap := cap) hx0
          refine ⟨[], this.1, fun w1 hw1 => ?_⟩
          have := (this.2 w1 hw1).2 0 (by omega)
          rw [hx0, f3]; simpa using this
        · obtain ⟨B', hB', e1, e2⟩ := hcap (by omega)
          obtain rfl : B = B' := by simpa using hB.symm.trans hB'
          obtain ⟨xs, hxs⟩ := src_of_holds (P := P) (cap := cap) rfl hh
          refine ⟨xs, hxs.1, fun w1 hw1 => ?_⟩
          have := (hxs.2 w1 hw1).2 dx.len (Nat.le_refl _)
          rw [List.take_of_length_le (by rw [hxs.1.1]; omega)] at this
          rw [f3, e1]; simpa using this
    obtain ⟨xs, hcsx, hfirst⟩ := hfc
    obtain ⟨newCap, rest, hr, hc1, hc0, hc2, hc3⟩ := append_out (base := base) (n := dx.len) (cap := cap) (ty := o.type) (xs := xs) TO ht h2 hs' hsrc (by omega) hb h63 hfirst
    have e1 : xs.toArray ++ ys.toArray ++ rest = (xs ++ ys).toArray ++ rest := by simp
    rw [e1, ← f1] at hr
    refine ⟨_, _, _, bind1 σ dd w.heap.size, run_append_exec ho (by rw [hax]; exact hr), .inl rfl, ?_⟩
    rw [← f2]
    have hfin := append_new_R (b0 := del s.b n) (dst := o.dst) (e := e) hdrop hn ((Cs.app hz hcsx hsrc.1).tr hTd) (by rw [hc2, f1, f3, f2]) (by rw [f1]; exact hc1) (fit_app hft (Cs.app hz hcsx hsrc.1) hc3 (fun h1 => by
      have h2 := (Cs.app hz hcsx hsrc.1).1
      rw [h1, Nat.mul_one] at h2
      have h4 : dy.esz = 1 := by rw [f3, ← f2]; exact h1
      have h5 : rest.size = newCap - (dx.len + dy.len) := by rw [hc2, h4, Nat.mul_one]
      rw [Array.size_append, List.size_toArray, h2, h5, f1]; omega))
    exact ⟨hfin.1, hTd.trans hfin.2⟩
end

end Go.Proofs.YtdhnjmepgafeiaaDoor.Abs

/- OWN LIBRARY, part 12: the run, told step by step, is the run. -/
set_option linter.unusedVariables false
set_option linter.unusedSimpArgs false
namespace Go.Proofs.YtdhnjmepgafeiaaDoor.Abs
open Go

section
variable {P : Program} {T : Tab} {X : Ctx} {s : St} {σ : Env} {w : World} {a : Act}

theorem memOp_ok (TO : TabOk P T) (hR : R X s σ w a) {ρ : Operand → SV} {o : Oper} {p : Prop} {s' : St}
    (hρ : ∀ x, x ∈ o.op.operands.toList → V2 X s.b s.c σ w (ρ x) (a.eval x)) (h : memOp T s o.dst ρ o.op = .go p s') (hp : p) : Does P X s σ s' w a o := by
  have hbl : ∀ n g y, fnd s.b n = some (g, y) → BlkOk X s.b s.c σ w n y := fun n g y hy => (hR.bl n g y hy).2.1
  cases ho : o.op <;> rw [ho] at h hρ <;> try (simp only [memOp, reduceCtorEq] at h; done)
  case alloc e => exact alloc_ok TO hR ho h hp
  case box e x =>
    simp only [memOp] at h
    cases hl : cellsOf s.b (ρ x) <;> simp only [hl, reduceCtorEq] at h
    exact box_ok hR ho (hρ x (by simp [Op.operands])) hl h hp
  case buildSlice t len parts =>
    simp only [memOp] at h
    cases ht : T.ty t <;> simp only [ht, reduceCtorEq] at h
    rename_i e
    cases hx : elemsOf ρ 0 parts.toList <;> simp only [hx, reduceCtorEq] at h
    rename_i xs
    obtain ⟨vs, hv1, hv2⟩ := elems_ok (a := a) hx (fun q hq => hρ q.2 (by simp [Op.operands]; exact ⟨q.1, by simpa using hq⟩))
    cases he : T.ty e <;> simp only [he, reduceCtorEq] at h
    case int k =>
      cases hi : intsOf k xs <;> simp only [hi, reduceCtorEq] at h
      rename_i l
      obtain ⟨d, hn, ⟨h1, h2, h3⟩, rfl⟩ := newV_go h hp
      obtain ⟨e1, e2⟩ := intsOf_ok hi hv2
      refine buildSlice_does TO hR ho hn ht hv1 ?_ (by rw [e1, List.length_map, e2, h1]) h2 h3 rfl (by simp only [Data.len]; rw [e2, h1]) ?_
      · intro v hv; rw [e1] at hv; obtain ⟨q, _, rfl⟩ := List.mem_map.1 hv; rfl
      · intro i hi; rw [e1]; exact ⟨_, map_getD _ _ _ (by omega), rfl⟩
    case string =>
      cases hi : strsOf xs <;> simp only [hi, reduceCtorEq] at h
      rename_i l
      obtain ⟨d, hn, ⟨h1, h2, h3⟩, rfl⟩ := newV_go h hp
      obtain ⟨e1, e2⟩ := strsOf_ok hi hv2
      refine buildSlice_does TO hR ho hn ht hv1 ?_ (by rw [e1, List.length_map, e2, h1]) h2 h3 rfl (by simp only [Data.len]; rw [e2, h1]) ?_
      · intro v hv; rw [e1] at hv; obtain ⟨q, _, rfl⟩ := List.mem_map.1 hv; rfl
      · intro i hi; rw [e1]; exact ⟨.string (l.getD i default), by simp [List.getD, show i < l.length by omega], rfl⟩
    case slice e' =>
      cases hi : rowsOf s.b xs <;> simp only [hi, reduceCtorEq] at h
      case none =>
        cases hall : xs.all (scal s.b) <;> simp only [hall, reduceCtorEq] at h
        obtain ⟨d, hn, ⟨h1, h2, h3⟩, rfl⟩ := newV_go h hp
        obtain ⟨g1, g2, g3⟩ := scalAll_ok hall hv2
        exact buildCells_does TO hR ho hn ht hv1 g2 (by omega) h2 h3 g1
      rename_i q
      obtain ⟨tg, l⟩ := q
      try simp only at h
      obtain ⟨d, hn, ⟨h1, h2, h3⟩, rfl⟩ := newV_go h hp
      obtain ⟨e1, e2, e3⟩ := rowsOf_ok hi hv2
      refine buildSlice_does TO hR ho hn ht hv1 ?_ (by omega) h2 h3 rfl (by simp only [Data.len]; omega) ?_
      · intro v hv
        obtain ⟨i, hi⟩ := List.mem_iff_getElem?.1 hv
        have hil : i < vs.length := by
          rcases Nat.lt_or_ge i vs.length with h | h
          · exact h
          · simp [List.getElem?_eq_none h] at hi
        obtain ⟨u, hu, ad, cap, rfl, _⟩ := e3 i (by omega)
        rw [hi] at hu
        simp only [Option.some.injEq] at hu
        subst hu; rfl
      · intro i hi; exact e3 i (by omega)
    case struct fs =>
      cases hi : aggsOf s.b (T.size e) xs <;> simp only [hi, reduceCtorEq] at h
      rename_i l
      obtain ⟨d, hn, ⟨h1, h2, h3⟩, rfl⟩ := newV_go h hp
      obtain ⟨g1, g2, g3⟩ := aggsOf_ok hi hv2
      exact buildAggs_does TO hR ho hn ht hv1 g2 (by omega) h2 h3 g1
  case store t x y =>
    simp only [memOp] at h
    have hx := hρ x (by simp [Op.operands])
    have hy := hρ y (by simp [Op.operands])
    cases ex : ρ x <;> rw [ex] at hx <;> simp only [ex, reduceCtorEq] at h
    case ptr n g off =>
      cases eb : blkAt s.b n g <;> simp only [eb, reduceCtorEq] at h
      rename_i bk
      cases bk <;> simp only [reduceCtorEq] at h
      rename_i l
      have key : one (T.ty t) = true → (match scal s.b (ρ y), setC l off (ρ y) with
          | true, some l2 => Res.go (T.size t = 1) ⟨setD s.t o.dst .any, upd s.b n g (.cells l2), s.c⟩
          | _, _ => .stop) = .go p s' → Does P X s σ s' w a o := by
        intro _ h
        cases e1 : scal s.b (ρ y) <;> simp only [e1, reduceCtorEq] at h
        cases e2 : setC l off (ρ y) <;> simp only [e2, reduceCtorEq, Res.go.injEq] at h
        obtain ⟨rfl, rfl⟩ := h
        exact store_ptr_ok TO hR ho hx hy eb e1 e2 hp
      cases et : T.ty t <;> simp only [et, reduceCtorEq] at h
      case struct fs =>
        cases ey : ρ y <;> rw [ey] at hy <;> simp only [ey, reduceCtorEq] at h
        rename_i m
        cases e1 : okC s.b m <;> simp only [e1, reduceCtorEq] at h
        cases e2 : takeC l off <;> simp only [e2, reduceCtorEq] at h
        cases e3 : dropC l (off + T.size t) <;> simp only [e3, reduceCtorEq, Res.go.injEq] at h
        obtain ⟨rfl, rfl⟩ := h
        exact store_agg_ok TO hR ho hx hy eb e1 e2 e3 hp.1 hp.2
      case array m e =>
        cases ey : ρ y <;> rw [ey] at hy <;> simp only [ey, reduceCtorEq] at h
        rename_i k m' l'
        cases ea : arrAt l off <;> simp only [ea, reduceCtorEq] at h
        rename_i q
        obtain ⟨k', n', l0⟩ := q
        simp only at h
        cases e2 : setA l off l' <;> simp only [e2, reduceCtorEq, Res.go.injEq] at h
        obtain ⟨rfl, rfl⟩ := h
        obtain ⟨rfl, rfl, h3, h4⟩ := hp
        exact store_arr_ok TO hR ho hx hy eb ea e2 h3 h4
      all_goals exact key (by rw [et]; rfl) h
    case eptr n g seg e i m =>
      cases eb : blkAt s.b n g <;> simp only [eb, reduceCtorEq] at h
      rename_i bk
      cases bk <;> try (simp only [reduceCtorEq] at h; done)
      case vec d =>
        cases d <;> try (simp only [reduceCtorEq] at h; done)
        rename_i k l
        cases ey : ρ y <;> rw [ey] at hy <;> simp only [ey, reduceCtorEq] at h
        rename_i k' v
        cases et : T.ty t <;> simp only [et, reduceCtorEq, Res.go.injEq] at h
        obtain ⟨rfl, rfl⟩ := h
        obtain ⟨rfl, rfl, rfl, h4, h5⟩ := hp
        exact store_eptr_vec_ok TO hR ho hx hy eb h4 h5
      case cells l =>
        cases ey : ρ y <;> rw [ey] at hy <;> simp only [ey, reduceCtorEq] at h
        rename_i k' v
        cases et : T.ty t <;> simp only [et, reduceCtorEq] at h
        cases ea : arrAt l seg <;> simp only [ea, reduceCtorEq] at h
        rename_i q
        obtain ⟨k, n', l'⟩ := q
        simp only at h
        cases e2 : setA l seg (l'.set i v) <;> simp only [e2, reduceCtorEq, Res.go.injEq] at h
        obtain ⟨rfl, rfl⟩ := h
        obtain ⟨rfl, rfl, h4, h5⟩ := hp
        exact store_eptr_cells_ok TO hR ho hx hy eb ea e2 h4 h5
  case convert src dst' x =>
    simp only [memOp] at h
    have hx := hρ x (by simp [Op.operands])
    cases ex : ρ x <;> rw [ex] at hx <;> simp only [ex, reduceCtorEq] at h
    case sl n g seg e' off len =>
      cases et : T.ty dst' <;> simp only [et, reduceCtorEq] at h
      rename_i e
      cases ee : T.ty e <;> simp only [ee, reduceCtorEq] at h
      rename_i k
      cases k <;> simp only [reduceCtorEq] at h
      cases eb : blkAt s.b n g <;> simp only [eb, reduceCtorEq] at h
      rename_i bk
      cases bk <;> simp only [reduceCtorEq, Res.go.injEq] at h
      obtain ⟨rfl, rfl⟩ := h
      obtain ⟨rfl, hl⟩ := hp
      exact convSl_ok TO hR ho hx et ee eb hl
    rename_i str
    cases et : T.ty dst' <;> simp only [et, reduceCtorEq] at h
    rename_i e
    cases ee : T.ty e <;> simp only [ee, reduceCtorEq] at h
    rename_i k
    cases k <;> simp only [reduceCtorEq] at h
    obtain ⟨d, hn, h1, rfl⟩ := newV_go h hp
    exact strBytes_ok TO hR ho hn hx et ee h1.1 h1.2
  case makeSlice t len cap =>
    simp only [memOp] at h
    have hx := hρ len (by simp [Op.operands])
    have hy := hρ cap (by simp [Op.operands])
    cases et : T.ty t <;> simp only [et, reduceCtorEq] at h
    rename_i e
    cases ex : ρ len <;> rw [ex] at hx <;> simp only [ex, reduceCtorEq] at h
    rename_i k1 n
    cases ey : ρ cap <;> rw [ey] at hy <;> simp only [ey, reduceCtorEq] at h
    rename_i k2 m
    cases ee : T.ty e <;> simp only [ee, reduceCtorEq] at h
    exact make_ok TO hR ho et ee hx hy h hp
  case call cl =>
    obtain ⟨callee, arz, ts⟩ := cl
    cases callee <;> try (simp only [memOp, reduceCtorEq] at h; done)
    rename_i bi
    cases bi <;> try (simp only [memOp, reduceCtorEq] at h; done)
    case append =>
      obtain ⟨arz⟩ := arz
      obtain ⟨ts⟩ := ts
      match arz, ts, h, hρ, ho with
      | [x, y], [t, t2], h, hρ, ho =>
        have hx := hρ x (by simp [Op.operands, Call.operands])
        have hy := hρ y (by simp [Op.operands, Call.operands])
        simp only [memOp] at h
        cases hd : o.dst <;> simp only [hd, reduceCtorEq] at h
        rename_i dd
        cases et : T.ty t <;> simp only [et, reduceCtorEq] at h
        rename_i e
        cases e2 : isSrc (T.ty t2) <;> simp only [e2, reduceCtorEq] at h
        cases ed : dataOf T e s.b (ρ y) <;> simp only [ed, reduceCtorEq] at h
        rename_i q
        obtain ⟨pd, dy⟩ := q
        simp only at h
        cases ex : ρ x <;> rw [ex] at hx <;> simp only [ex, reduceCtorEq] at h
        case nil =>
          simp only [Res.go.injEq] at h
          obtain ⟨rfl, rfl⟩ := h
          obtain ⟨h0, h1, hft, h2, h3, h4⟩ := hp
          obtain ⟨ys, hsrc⟩ := dataOf_ok (P := P) ed h0 hy hbl
          have := append_nil_ok TO hR ho (notIn_ok h1) et e2 hft h2 hx hsrc h3 h4
          rw [hd] at this; exact this
        case sl n g seg e' off len =>
          cases eb : blkAt s.b n g <;> simp only [eb, reduceCtorEq] at h
          rename_i bk
          cases bk <;> simp only [reduceCtorEq] at h
          rename_i dx
          cases ez : appD dx dy <;> simp only [ez, reduceCtorEq, Res.go.injEq] at h
          rename_i dz
          obtain ⟨rfl, rfl⟩ := h
          obtain ⟨h0, h1, hft, h2, rfl, rfl, rfl, rfl, h3, h4⟩ := hp
          obtain ⟨ys, hsrc⟩ := dataOf_ok (P := P) ed h0 hy hbl
          have := append_own_ok TO hR ho (notIn_ok h1) et e2 hft h2 hx eb ez hsrc h3 h4
          rw [hd] at this; exact this
      | [], _, h, _, _ => simp [memOp] at h
      | [_], _, h, _, _ => simp [memOp] at h
      | _ :: _ :: _ :: _, _, h, _, _ => simp [memOp] at h
      | [_, _], [], h, _, _ => simp [memOp] at h
      | [_, _], [_], h, _, _ => simp [memOp] at h
      | [_, _], _ :: _ :: _ :: _, h, _, _ => simp [memOp] at h
    case copy =>
      obtain ⟨arz⟩ := arz
      obtain ⟨ts⟩ := ts
      match arz, ts, h, hρ, ho with
      | [x, y], [t, t2], h, hρ, ho =>
        have hx := hρ x (by simp [Op.operands, Call.operands])
        have hy := hρ y (by simp [Op.operands, Call.operands])
        simp only [memOp] at h
        cases et : T.ty t <;> simp only [et, reduceCtorEq] at h
        rename_i e
        cases ex : ρ x <;> rw [ex] at hx <;> simp only [ex, reduceCtorEq] at h
        rename_i n g seg e' off len
        cases ed : dataOf T e s.b (ρ y) <;> simp only [ed, reduceCtorEq] at h
        rename_i q
        obtain ⟨pd, dy⟩ := q
        cases dy <;> try (simp only [reduceCtorEq] at h; done)
        rename_i k m
        simp only at h
        cases eb : blkAt s.b n g <;> simp only [eb, reduceCtorEq] at h
        rename_i bk
        cases bk <;> try (simp only [reduceCtorEq] at h; done)
        case vec dv =>
          cases dv <;> try (simp only [reduceCtorEq] at h; done)
          rename_i k' l
          simp only [Res.go.injEq] at h
          obtain ⟨rfl, rfl⟩ := h
          obtain ⟨h0, h1, rfl, rfl, rfl, h2⟩ := hp
          obtain ⟨ys, hsrc⟩ := dataOf_ok (P := P) ed h0 hy hbl
          exact copy_vec_ok TO hR ho et h1 hx eb h2 hsrc
        case cells l =>
          simp only at h
          cases ea : arrAt l seg <;> simp only [ea, reduceCtorEq] at h
          rename_i q
          obtain ⟨k', n', l'⟩ := q
          simp only at h
          cases e2 : setA l seg (overI l' off len m) <;> simp only [e2, reduceCtorEq, Res.go.injEq] at h
          obtain ⟨rfl, rfl⟩ := h
          obtain ⟨h0, h1, rfl, rfl, h2⟩ := hp
          obtain ⟨ys, hsrc⟩ := dataOf_ok (P := P) ed h0 hy hbl
          exact copy_cells_ok TO hR ho et h1 hx eb ea e2 h2 hsrc
      | [], _, h, _, _ => simp [memOp] at h
      | [_], _, h, _, _ => simp [memOp] at h
      | _ :: _ :: _ :: _, _, h, _, _ => simp [memOp] at h
      | [_, _], [], h, _, _ => simp [memOp] at h
      | [_, _], [_], h, _, _ => simp [memOp] at h
      | [_, _], _ :: _ :: _ :: _, h, _, _ => simp [memOp] at h
end

end Go.Proofs.YtdhnjmepgafeiaaDoor.Abs

/- OWN LIBRARY, part 13: regions, and what lies between them, told step by step. -/
set_option linter.unusedVariables false
set_option linter.unusedSimpArgs false
namespace Go.Proofs.YtdhnjmepgafeiaaDoor.Abs
open Go

section
variable {P : Program} {T : Tab} {X : Ctx} {s : St} {σ : Env} {w : World} {a : Act}

theorem R_set (hR : R X s σ w a) {dst : Option Nat} {sv : SV} {u : Value} (hv : V X s.b s.c σ w sv u) : R X { s with t := setD s.t dst sv } σ w (a.put dst u) := by
  have h := put_tm (dst := dst) hR.sz hR.tm hv
  exact { hR with sz := h.1, tm := h.2, df := by cases dst <;> exact hR.df }

theorem ok_bump {l : Lim} {o n g : Nat} (h : l.ok n g) : Lim.ok ⟨l.c + 1, [], o⟩ n g := by
  rcases h with h | ⟨h, _⟩
  · exact .inl (by show g < l.c + 1; omega)
  · exact .inl (by show g < l.c + 1; omega)

theorem Tr_bump {o : Nat} : Tr X s.b s.c σ w s.b ⟨s.c.c + 1, [], o⟩ σ w := ⟨fun _ _ => ok_bump, fun n g h _ => ⟨h, rfl⟩, fun tag B hv => ⟨rfl, hv⟩, fun _ _ _ _ _ _ => Nat.le_refl _⟩

theorem R_bump {o : Nat} (hR : R X s σ w a) : R X ⟨s.t, s.b, ⟨s.c.c + 1, [], o⟩⟩ σ w a := by
  have hl : ∀ n g, s.c.ok n g → Lim.ok ⟨s.c.c + 1, [], o⟩ n g := fun _ _ => ok_bump
  have hT : Tr X s.b s.c σ w s.b ⟨s.c.c + 1, [], o⟩ σ w := Tr_bump
  exact { hR with
    tm := fun i hi => (hR.tm i hi).tr hT
    bl := fun n g x hx => let ⟨h1, h2, h3⟩ := hR.bl n g x hx; ⟨hl _ _ h1, h2.tr hT rfl (fun _ _ => rfl), h3⟩ }

theorem tmps_get (hR : R X s σ w a) {d : Nat} {x : SV} (h : s.t.getD d .any = x) (hx : x ≠ .any) : ∃ v, a.tmps[d]? = some v ∧ V X s.b s.c σ w x v := by
  have hd : d < s.t.length := by
    rcases Nat.lt_or_ge d s.t.length with h' | h'
    · exact h'
    · simp [List.getD, List.getElem?_eq_none h'] at h; exact absurd h.symm hx
  have := hR.tm d hd
  rw [h] at this
  have hd' : d < a.tmps.size := by rw [hR.sz]; exact hd
  refine ⟨a.tmps[d], by simp [hd'], ?_⟩
  simpa [Array.getD, hd'] using this

theorem guardOf_ok (hR : R X s σ w a) {ops : Array Oper} {j : Nat} {want g : Bool} (h : guardOf ops s.t j want = some g) : (yielded ops a.tmps j == some want) = g := by
  unfold guardOf at h
  cases ed : (ops[j]?).bind (·.dst) <;> simp only [ed, reduceCtorEq] at h
  rename_i d
  cases ex : s.t.getD d .any <;> simp only [ex, reduceCtorEq, Option.some.injEq] at h
  case bool b =>
    obtain ⟨v, hv, hV⟩ := tmps_get hR ex (by simp)
    obtain rfl : v = .bool b := hV
    simp only [yielded, ed, Option.bind_some, hv]
    subst h
    cases want <;> cases b <;> rfl
  case gd c x =>
    cases x <;> simp only [reduceCtorEq, Option.some.injEq] at h
    rename_i b
    obtain ⟨v, hv, hV1, hV2⟩ := tmps_get hR ex (by simp)
    subst h
    cases c
    · rw [hV2 rfl] at hv
      simp only [yielded, ed, Option.bind_some, hv]
      rfl
    · obtain rfl : v = .bool b := hV1 rfl
      simp only [yielded, ed, Option.bind_some, hv]
      cases want <;> cases b <;> rfl

theorem run_pick {o : Oper} {c x y : Operand} {t : Bool} (ho : o.op = .pick c x y) (hc : a.eval c = .bool t) : (execOp a.eval o).run P w = .ok (.value (if t then a.eval x else a.eval y)) w := by
  simp only [execOp, ho, hc]
  cases t <;> simp [asBool]

theorem pickV_ok {b : List (Nat × Nat × Blk)} {cl : Lim} {t : Bool} {x y v : SV} {x' y' : Value} (h : pickV t x y = some v) (hx : t = true → V2 X b cl σ w x x') (hy : t = false → V2 X b cl σ w y y') : V2 X b cl σ w v (if t then x' else y') := by
  cases x <;> cases y <;> simp only [pickV, reduceCtorEq, Option.some.injEq] at h
  subst h
  cases t
  · exact hy rfl
  · exact hx rfl

/-- One operation, told: it is done so, or it is passed by. -/
theorem absOp_ok (TO : TabOk P T) (hR : R X s σ w a) {ops : Array Oper} {o : Oper} {p : Prop} {s' : St} (h : absOp T ops s o = .go p s') (hp : p) :
    (Region.wanted o (yielded ops a.tmps) = true ∧ Does P X s σ s' w a o) ∨ (Region.wanted o (yielded ops a.tmps) = false ∧ ∃ σ', R X s' σ' w (a.put o.dst undef) ∧ Tr X s.b s.c σ w s'.b s'.c σ' w) := by
  unfold absOp at h
  cases hg : o.guard with
  | none =>
    left
    refine ⟨by simp [Region.wanted, hg], ?_⟩
    simp only [hg] at h
    have other : (match pureOpC T s (fun x => ungd (evO s.t x)) o.op with
        | some (p, v) => Res.go (gdPs s.t true o.op.operands.toList ∧ p) { s with t := setD s.t o.dst v }
        | none => match memOp T s o.dst (fun x => unc (ungd (evO s.t x))) o.op with
          | .go p s' => .go (gdPs s.t true o.op.operands.toList ∧ p) s'
          | .stop => .stop) = .go p s' → Does P X s σ s' w a o := by
      intro h
      cases e : pureOpC T s (fun x => ungd (evO s.t x)) o.op with
      | some q =>
        obtain ⟨p', v⟩ := q
        simp only [e, Res.go.injEq] at h
        obtain ⟨rfl, rfl⟩ := h
        obtain ⟨u, hu, hv⟩ := pureOpC_ok TO hR (fun x hx => V_ungd (V_evO hR x) (gdPs_mem hp.1 x hx) rfl) e hp.2
        exact ⟨.value u, u, w, σ, hu, .inl rfl, R_set hR (V_of_V2 hv), Tr.refl⟩
      | none =>
        simp only [e] at h
        cases e2 : memOp T s o.dst (fun x => unc (ungd (evO s.t x))) o.op <;> simp only [e2, reduceCtorEq, Res.go.injEq] at h
        obtain ⟨rfl, rfl⟩ := h
        exact memOp_ok TO hR (fun x hx => V2_unc (V_ungd (V_evO hR x) (gdPs_mem hp.1 x hx) rfl)) e2 hp.2
    cases ho : o.op <;> (try (rw [ho] at other h; exact other h))
    rename_i c x y
    rw [ho] at h
    simp only at h
    cases ec : evO s.t c <;> simp only [ec, reduceCtorEq] at h
    rename_i t
    cases e1 : pickV t (ungd (evO s.t x)) (ungd (evO s.t y)) <;> simp only [e1, reduceCtorEq, Res.go.injEq] at h
    obtain ⟨rfl, rfl⟩ := h
    have hc := V_evO hR c
    rw [ec] at hc
    have hv := pickV_ok (X := X) (b := s.b) (cl := s.c) (σ := σ) (w := w) (x' := a.eval x) (y' := a.eval y) e1 (fun ht => V_ungd (V_evO hR x) hp.1 ht) (fun ht => V_ungd (V_evO hR y) hp.2 (by rw [ht]; rfl))
    exact ⟨_, _, w, σ, run_pick ho hc, .inl rfl, R_set hR (V_of_V2 hv), Tr.refl⟩
  | some jw =>
    obtain ⟨j, want⟩ := jw
    simp only [hg] at h
    cases eg : guardOf ops s.t j want <;> simp only [eg, reduceCtorEq] at h
    rename_i g
    have hgd := guardOf_ok hR eg
    have hw : Region.wanted o (yielded ops a.tmps) = g := by simp only [Region.wanted, hg]; exact hgd
    -- what is told of the value, in either case
    have fin : ∀ v, (g = true → ∃ u, (execOp a.eval o).run P w = .ok (.value u) w ∧ V2 X s.b s.c σ w v u) → s' = { s with t := setD s.t o.dst (.gd g v) } →
        (Region.wanted o (yielded ops a.tmps) = true ∧ Does P X s σ s' w a o) ∨ (Region.wanted o (yielded ops a.tmps) = false ∧ ∃ σ', R X s' σ' w (a.put o.dst undef) ∧ Tr X s.b s.c σ w s'.b s'.c σ' w) := by
      rintro v hv rfl
      rw [hw]
      cases g with
      | true =>
        obtain ⟨u, hu, hv⟩ := hv rfl
        exact .inl ⟨rfl, .value u, u, w, σ, hu, .inl rfl, R_set hR ⟨fun _ => hv, fun h => by simp at h⟩, Tr.refl⟩
      | false => exact .inr ⟨rfl, σ, R_set hR ⟨fun h => by simp at h, fun _ => rfl⟩, Tr.refl⟩
    have other : (match pureOpC T s (fun x => ungd (evO s.t x)) o.op with
        | some (p, v) => Res.go (gdPs s.t g o.op.operands.toList ∧ (g = true → p)) { s with t := setD s.t o.dst (.gd g v) }
        | none => .stop) = .go p s' → (Region.wanted o (yielded ops a.tmps) = true ∧ Does P X s σ s' w a o) ∨ (Region.wanted o (yielded ops a.tmps) = false ∧ ∃ σ', R X s' σ' w (a.put o.dst undef) ∧ Tr X s.b s.c σ w s'.b s'.c σ' w) := by
      intro h
      cases e : pureOpC T s (fun x => ungd (evO s.t x)) o.op with
      | none => simp [e] at h
      | some q =>
        obtain ⟨p', v⟩ := q
        simp only [e, Res.go.injEq] at h
        obtain ⟨rfl, rfl⟩ := h
        refine fin v (fun hgt => ?_) rfl
        exact pureOpC_ok TO hR (fun x hx => V_ungd (V_evO hR x) (gdPs_mem hp.1 x hx) hgt) e (hp.2 hgt)
    cases ho : o.op <;> (try (rw [ho] at other h; exact other h))
    rename_i c x y
    rw [ho] at h
    simp only at h
    cases ec : ungd (evO s.t c) <;> simp only [ec, reduceCtorEq] at h
    rename_i t
    cases e1 : pickV t (ungd (evO s.t x)) (ungd (evO s.t y)) <;> simp only [e1, reduceCtorEq, Res.go.injEq] at h
    obtain ⟨rfl, rfl⟩ := h
    refine fin _ (fun hgt => ?_) rfl
    have hc := V_ungd (V_evO hR c) hp.1 hgt
    rw [ec] at hc
    have hv := pickV_ok (X := X) (b := s.b) (cl := s.c) (σ := σ) (w := w) (x' := a.eval x) (y' := a.eval y) e1 (fun ht => V_ungd (V_evO hR x) hp.2.1 (by rw [hgt, ht]; rfl)) (fun ht => V_ungd (V_evO hR y) hp.2.2 (by rw [hgt, ht]; rfl))
    exact ⟨_, run_pick ho hc, hv⟩

theorem HOps_step (TO : TabOk P T) {ops : Array Oper} {o : Oper} {rest : List Oper} {k : List Item} {Φ : St → Prop} {p : Prop} {s' : St} (h : absOp T ops s o = .go p s') (hp : p) (hn : HOps P X ops rest k s' Φ) : HOps P X ops (o :: rest) k s Φ := by
  intro i hi σ w a hR
  have ho : ops[i]? = some o := by
    have := congrArg (fun l : List Oper => l[0]?) hi
    simpa using this
  have hrest : ops.toList.drop (i + 1) = rest := by
    have := congrArg List.tail hi
    simpa using this
  rw [List.length_cons, List.range'_succ]
  rcases absOp_ok TO hR h hp with ⟨hw, nx, u, w', σ', hr, hnx, hR', hT⟩ | ⟨hw, σ', hR', hT⟩
  · refine Fins.opValue (v := u) ho hw ?_ ((hn (i + 1) hrest).after hR' hT)
    rcases hnx with rfl | ⟨rfl, rfl⟩
    · exact .inl hr
    · exact .inr ⟨hr, rfl⟩
  · exact Fins.opSkip ho hw ((hn (i + 1) hrest).after hR' hT)

theorem HOps_nil {ops : Array Oper} {k : List Item} {Φ : St → Prop} (h : HRun P X k s Φ) : HOps P X ops [] k s Φ := by
  intro i _ σ w a hR
  exact Fins.region_end (h σ w a hR)

theorem absOps_ok (TO : TabOk P T) {ops : Array Oper} {k : List Item} {Φ : St → Prop} {next : St → Prop} (hn : ∀ s, next s → HRun P X k s Φ) : ∀ (rest : List Oper) (s : St), absOps P X T ops k Φ next rest s → HOps P X ops rest k s Φ
  | [], s, h => HOps_nil (hn s h)
  | o :: rest, s, h => by
    simp only [absOps] at h
    cases e : absOp T ops s o with
    | go p s' =>
      simp only [e] at h
      exact HOps_step TO e h.1 (absOps_ok TO hn rest s' h.2)
    | stop => simp only [e] at h; exact h

theorem HRun_region {id : Nat} {ops : Array Oper} {k : List Item} {Φ : St → Prop} (h : HOps P X ops ops.toList k ⟨s.t, s.b, ⟨s.c.c + 1, [], s.c.o⟩⟩ Φ) : HRun P X (.code (.region id ops false) :: k) s Φ := by
  intro σ w a hR
  refine Fins.region ?_
  have := (h 0 (by simp)).after (s := s) (R_bump hR) (Tr_bump (s := s))
  rw [List.range_eq_range']
  simpa using this

theorem absRun_ok (TO : TabOk P T) {Φ : St → Prop} : ∀ (n : Nat) (todo : List Item) (s : St), absRun P X T Φ n todo s → HRun P X todo s Φ
  | 0, todo, s, h => by simpa only [absRun] using h
  | n + 1, todo, s, h => by
    unfold absRun at h
    split at h
    · intro σ w a hR; exact Fins.done ⟨s, σ, h, hR, Tr.refl⟩
    · intro σ w a hR; exact Fins.ret ⟨s, σ, h, hR, Tr.refl⟩
    · intro σ w a hR; exact Fins.skip (absRun_ok TO n _ s h σ w a hR)
    · intro σ w a hR; exact Fins.inBlock (absRun_ok TO n _ s h σ w a hR)
    · intro σ w a hR; exact Fins.label (absRun_ok TO n _ s h σ w a hR)
    · intro σ w a hR; exact Fins.inScope (absRun_ok TO n _ s h σ w a hR)
    · intro σ w a hR; exact Fins.scope (absRun_ok TO n _ s h σ w a hR)
    · intro σ w a hR; exact Fins.seq (absRun_ok TO n _ s h σ w a hR)
    · intro σ w a hR; exact Fins.block (absRun_ok TO n _ s h σ w a hR)
    · rename_i id k
      cases e : exitTo id k with
      | some k' =>
        simp only [e] at h
        intro σ w a hR; exact Fins.exit e (absRun_ok TO n _ s h σ w a hR)
      | none => simp only [e] at h; exact h
    · rename_i c x y k
      cases e : evO s.t c <;> simp only [e] at h <;> try exact h
      rename_i b
      intro σ w a hR
      have hc := V_evO hR c
      rw [e] at hc
      refine Fins.cond hc ?_
      cases b
      · rw [if_neg (by simp)] at h ⊢; exact absRun_ok TO n _ s h σ w a hR
      · rw [if_pos rfl] at h ⊢; exact absRun_ok TO n _ s h σ w a hR
    · exact HRun_region (absOps_ok TO (fun s' h' => absRun_ok TO n _ s' h') _ _ h)
    · exact h
end

end Go.Proofs.YtdhnjmepgafeiaaDoor.Abs

/- OWN LIBRARY, part 14: what a function answers, told by values; calls. -/
set_option linter.unusedVariables false
set_option linter.unusedSimpArgs false
namespace Go.Proofs.YtdhnjmepgafeiaaDoor.Abs
open Go

/-- An argument or a result: a value that bears no name, or a slice with its room, handed over. -/
inductive AV where
  | v (x : SV)
  | own (d : Data)

def AV.sv (n : Nat) : AV → SV
  | .v x => x
  | .own d => .sl n 0 0 d.esz 0 d.len

def svs : Nat → List AV → List SV
  | _, [] => []
  | n, x :: l => x.sv n :: svs (n + 1) l

def blks : Nat → List AV → List (Nat × Nat × Blk)
  | _, [] => []
  | n, .v _ :: l => blks (n + 1) l
  | n, .own d :: l => (n, 0, .vec d) :: blks (n + 1) l

theorem fnd_blks : ∀ {l : List AV} {i n : Nat} {x : Nat × Blk}, fnd (blks i l) n = some x → ∃ j d, n = i + j ∧ l[j]? = some (.own d) ∧ x = (0, .vec d)
  | [], i, n, x, h => by simp [blks, fnd] at h
  | .v y :: l, i, n, x, h => by
    obtain ⟨j, d, h1, h2, h3⟩ := fnd_blks (l := l) (i := i + 1) h
    exact ⟨j + 1, d, by omega, by simpa using h2, h3⟩
  | .own d :: l, i, n, x, h => by
    simp only [blks, fnd] at h
    split at h
    · rename_i e
      simp only [Option.some.injEq] at h
      exact ⟨0, d, by omega, rfl, h.symm⟩
    · obtain ⟨j, d, h1, h2, h3⟩ := fnd_blks (l := l) (i := i + 1) h
      exact ⟨j + 1, d, by omega, by simpa using h2, h3⟩

theorem fnd_blks_own : ∀ {l : List AV} {i j : Nat} {d : Data}, l[j]? = some (.own d) → fnd (blks i l) (i + j) = some (0, .vec d)
  | [], i, j, d, h => by simp at h
  | .v y :: l, i, 0, d, h => by simp at h
  | .v y :: l, i, j + 1, d, h => by
    have := fnd_blks_own (l := l) (i := i + 1) (j := j) (by simpa using h)
    rw [show i + (j + 1) = i + 1 + j by omega]; exact this
  | .own e :: l, i, 0, d, h => by
    simp only [List.getElem?_cons_zero, Option.some.injEq, AV.own.injEq] at h
    subst h; simp [blks, fnd]
  | .own e :: l, i, j + 1, d, h => by
    have := fnd_blks_own (l := l) (i := i + 1) (j := j) (by simpa using h)
    rw [show i + (j + 1) = i + 1 + j by omega]
    simp only [blks, fnd]
    rw [if_neg (by omega)]; exact this

theorem svs_get : ∀ {l : List AV} {i j : Nat}, (svs i l)[j]? = (l[j]?).map (AV.sv (i + j))
  | [], i, j => by simp [svs]
  | x :: l, i, 0 => by simp [svs]
  | x :: l, i, j + 1 => by
    have := svs_get (l := l) (i := i + 1) (j := j)
    rw [show i + (j + 1) = i + 1 + j by omega]
    simpa [svs] using this

theorem svs_length : ∀ {l : List AV} {i : Nat}, (svs i l).length = l.length
  | [], i => rfl
  | x :: l, i => by simp [svs, svs_length (l := l)]

/-- One value, or a tuple of them. -/
def pack : List Value → Value
  | [v] => v
  | vs => .tuple vs.toArray

/-- Such a function, called with such arguments, answers so, and leaves all memory that was there as it is, but for what was handed over. -/
def Meets (P : Program) (f : FuncId) (args rs : List AV) : Prop :=
  ∀ (X : Ctx) (σ : Env) (vals : Array Value), R X ⟨svs 1000 args, blks 1000 args, ⟨1, [], 0⟩⟩ σ X.w0 ⟨vals, []⟩ →
    Calls P f vals X.w0 fun e w' => ∃ vs σ', e = .returned (pack vs) ∧ R X ⟨svs 0 rs, blks 0 rs, ⟨1, [], 0⟩⟩ σ' w' ⟨vs.toArray, []⟩

def lowD : Data → Data
  | .rows _ l => .rows false l
  | d => d

theorem Fit.low {d : Data} {cs : Array Value} (h : Fit d cs) : Fit (lowD d) cs := by cases d <;> exact h

theorem lowD_len (d : Data) : (lowD d).len = d.len := by cases d <;> rfl
theorem lowD_esz (d : Data) : (lowD d).esz = d.esz := by cases d <;> rfl

/-- A value as it is handed in, one cell; slices of slices that are told by cells are not. -/
def mB0 (b : List (Nat × Nat × Blk)) (own : List Nat) : SV → SV → Prop
  | .bool p, .bool q => p = q
  | .int k n, .int k' n' => k = k' ∧ n = n'
  | .str p, .str q => p = q
  | .nil, .nil => True
  | .nil, .view false d => d.len = 0
  | .view _ d, .view false d' => lowD d = d'
  | .sl n g seg e off len, .view false d' => notIn own n ∧ match blkAt b n g with
    | some (.vec d) => seg = 0 ∧ e = d.esz ∧ off + len ≤ d.len ∧ lowD (d.sub off len) = d'
    | some (.cells l) => match arrAt l seg with
      | some (k, n', l') => e = 1 ∧ off + len ≤ n' ∧ .ints k ((l'.drop off).take len) = d'
      | none => False
    | _ => False
  | _, _ => False

/-- Cells, as rows of bytes. -/
def rowsM (b : List (Nat × Nat × Blk)) (own : List Nat) : List SV → List (List Int) → Prop
  | [], [] => True
  | x :: r, y :: q => mB0 b own x (.view false (.ints .u8 y)) ∧ rowsM b own r q
  | _, _ => False

/-- A value as it is handed in, one cell. -/
def mA0 (b : List (Nat × Nat × Blk)) (own : List Nat) (x y : SV) : Prop :=
  match x, y with
  | .sl n g seg e off len, .view false (.rows false rows) => match blkAt b n g with
    | some (.cells l) => notIn own n ∧ seg = 0 ∧ e = 1 ∧ off = 0 ∧ len = l.length ∧ rowsM b own l rows
    | _ => mB0 b own (.sl n g seg e off len) (.view false (.rows false rows))
  | x, y => mB0 b own x y

def mAl (b : List (Nat × Nat × Blk)) (own : List Nat) : List SV → List SV → Prop
  | [], [] => True
  | .arr k n l :: r, .arr k' n' l' :: r' => (k = k' ∧ n = n' ∧ l = l') ∧ mAl b own r r'
  | x :: r, y :: r' => mA0 b own x y ∧ mAl b own r r'
  | _, _ => False

/-- A value as it is handed in. -/
def mA (b : List (Nat × Nat × Blk)) (own : List Nat) : SV → AV → Prop
  | .arr k n l, .v (.arr k' n' l') => k = k' ∧ n = n' ∧ l = l'
  | .agg l, .v (.agg l') => mAl b own l l'
  | .nil, .own d => d.len = 0
  | .sl n g seg e off len, .own d => match blkAt b n g with
    | some (.vec d') => lowD d' = d ∧ seg = 0 ∧ e = d.esz ∧ off = 0 ∧ len = d.len
    | _ => False
  | x, .v y => mA0 b own x y
  | _, _ => False

/-- The names of what is handed over. -/
def ownN : List SV → List AV → List Nat
  | .sl n _ _ _ _ _ :: r, .own _ :: l => n :: ownN r l
  | _ :: r, _ :: l => ownN r l
  | _, _ => []

def mAs (b : List (Nat × Nat × Blk)) (own : List Nat) : List SV → List AV → Prop
  | [], [] => True
  | x :: r, y :: l => mA b own x y ∧ mAs b own r l
  | _, _ => False

def nodup : List Nat → Prop
  | [] => True
  | n :: l => notIn l n ∧ nodup l

/-- Is a value one that bears no name and lies in new memory? -/
def bareD : Data → Bool
  | .rows t _ => t
  | _ => true

def bare0 : SV → Bool
  | .any | .bool _ | .int _ _ | .str _ | .lit _ | .nil => true
  | .view t d => t && bareD d
  | _ => false

def bareL : List SV → Bool
  | [] => true
  | .arr _ _ _ :: r => bareL r
  | x :: r => bare0 x && bareL r

def bare : AV → Bool
  | .own d => bareD d
  | .v (.arr _ _ _) => true
  | .v (.agg l) => bareL l
  | .v x => bare0 x

def bares : List AV → Bool
  | [] => true
  | x :: l => bare x && bares l

section
variable {X X' : Ctx} {b b' : List (Nat × Nat × Blk)} {c c' : Lim} {σ σ' : Env} {w : World}

/-- What is told in one context is told in another. -/
theorem IsRow.vw {vw vw' : Nat → Prop} {l : List Int} {v : Value} (h : IsRow vw w l v) (hv : ∀ B, vw B → vw' B) : IsRow vw' w l v := by
  obtain ⟨a, cap, e, h1, h2⟩ := h
  refine ⟨a, cap, e, h1, fun hn => ?_⟩
  obtain ⟨B, o, e, h3, hc⟩ := h2 hn
  exact ⟨B, o, e, hv B h3, hc⟩

theorem bareD_cell {i j : Nat} {d : Data} {v : Value} (hb : bareD d = true) (h : CellOk (Vw X b σ w) w i j d v) (hv : ∀ B, Vw X b σ w true B → Vw X' b' σ' w true B) : CellOk (Vw X' b' σ' w) w i j d v := by
  cases d
  case rows t l =>
    simp only [bareD] at hb
    subst hb
    exact IsRow.vw h hv
  all_goals exact h

theorem bareD_holds {B o : Nat} {d : Data} (hb : bareD d = true) (h : Holds (Vw X b σ w) w B o d) (hv : ∀ B, Vw X b σ w true B → Vw X' b' σ' w true B) : Holds (Vw X' b' σ' w) w B o d := by
  intro i j hi hj
  obtain ⟨x, hx, hc⟩ := h i j hi hj
  exact ⟨x, hx, bareD_cell hb hc hv⟩

theorem bare0_tr {x : SV} {v : Value} (hb : bare0 x = true) (h : V0 X b c σ w x v) (hv : ∀ B, Vw X b σ w true B → Vw X' b' σ' w true B) : V0 X' b' c' σ' w x v := by
  cases x <;> simp only [bare0, Bool.false_eq_true] at hb <;> try exact h
  rename_i t d
  rw [Bool.and_eq_true] at hb
  obtain ⟨rfl, hd⟩ := hb
  obtain ⟨a, cap, e, h1, h2⟩ := h
  refine ⟨a, cap, e, h1, fun hn => ?_⟩
  obtain ⟨B, o, e, h3, hh⟩ := h2 hn
  exact ⟨B, o, e, hv B h3, bareD_holds hd hh hv⟩

theorem bareL_tr : ∀ {l : List SV} {cs : List Value}, bareL l = true → CellsOk X b c σ w l cs → (∀ B, Vw X b σ w true B → Vw X' b' σ' w true B) → CellsOk X' b' c' σ' w l cs := by
  intro l
  induction l with
  | nil => intro cs _ h _; exact h
  | cons x r ih =>
    intro cs hb h hv
    cases x
    case arr k n m => obtain ⟨h1, cs', e, h2⟩ := h; exact ⟨h1, cs', e, ih (by simpa only [bareL] using hb) h2 hv⟩
    all_goals
      simp only [bareL, Bool.and_eq_true] at hb
      obtain ⟨v, cs', e, h1, h2⟩ := h
      exact ⟨v, cs', e, bare0_tr hb.1 h1 hv, ih hb.2 h2 hv⟩

theorem bare_tr {x : SV} {v : Value} (hb : bare (.v x) = true) (h : V X b c σ w x v) (hv : ∀ B, Vw X b σ w true B → Vw X' b' σ' w true B) : V1 X' b' c' σ' w x v := by
  cases x
  case agg l => obtain ⟨cs, e, h⟩ := h; exact ⟨cs, e, bareL_tr hb h hv⟩
  case arr => exact h
  all_goals
    first
    | (simp only [bare, bare0, Bool.false_eq_true] at hb; done)
    | (simp only [bare] at hb; simp only [V, V2, V1] at h ⊢; exact bare0_tr (c := c) (c' := c') hb h hv)

/-- A value that is handed in. -/
theorem low_cell {i j : Nat} {d : Data} {v : Value} (h : CellOk (Vw X b σ w) w i j d v) (hv : ∀ t B, Vw X b σ w t B → Vw X' b' σ' w false B) : CellOk (Vw X' b' σ' w) w i j (lowD d) v := by
  cases d
  case rows t l => exact IsRow.vw h (hv t)
  all_goals exact h

theorem low_holds {B o : Nat} {d : Data} (h : Holds (Vw X b σ w) w B o d) (hv : ∀ t B, Vw X b σ w t B → Vw X' b' σ' w false B) : Holds (Vw X' b' σ' w) w B o (lowD d) := by
  intro i j hi hj
  rw [lowD_len] at hi; rw [lowD_esz] at hj ⊢
  obtain ⟨x, hx, hc⟩ := h i j hi hj
  exact ⟨x, hx, low_cell hc hv⟩

theorem mB0_ok {own : List Nat} {x y : SV} {v : Value} (h : mB0 b own x y) (hx : V0 X b c σ w x v) (hv : ∀ t B, Vw X b σ w t B → Vw X' b' σ' w false B)
    (hn : ∀ n g B z, n ∉ own → fnd b n = some (g, z) → σ n = some B → Vw X' b' σ' w false B) (hbl : ∀ n g y, fnd b n = some (g, y) → BlkOk X b c σ w n y) : V0 X' b' c' σ' w y v := by
  cases x <;> cases y <;> try (simp only [mB0] at h; done)
  case bool.bool => simp only [mB0] at h; subst h; exact hx
  case int.int => simp only [mB0] at h; obtain ⟨rfl, rfl⟩ := h; exact hx
  case str.str => simp only [mB0] at h; subst h; exact hx
  case nil.nil => exact hx
  case nil.view t d =>
    cases t <;> simp only [mB0] at h
    rw [show v = _ from hx]
    exact ⟨none, 0, by rw [h], by omega, fun hne => absurd h hne⟩
  case view.view t d t' d' =>
    cases t' <;> simp only [mB0] at h
    subst h
    obtain ⟨a, cap, e, h1, h2⟩ := hx
    refine ⟨a, cap, by rw [lowD_len]; exact e, by rw [lowD_len]; exact h1, fun hne => ?_⟩
    rw [lowD_len] at hne
    obtain ⟨B, o, e, h3, hh⟩ := h2 hne
    exact ⟨B, o, e, hv t B h3, low_holds hh hv⟩
  case sl.view n g seg e off len t d' =>
    cases t <;> simp only [mB0] at h
    obtain ⟨hno, h⟩ := h
    obtain ⟨_, hl⟩ := hx
    cases eb : blkAt b n g <;> simp only [eb] at h
    rename_i bk
    obtain ⟨a, cap, rfl, hlc, hcap⟩ := hl (blkAt_live eb)
    have hfnd := blkAt_fnd eb
    cases bk <;> simp only at h
    case vec dv =>
      obtain ⟨rfl, rfl, hle, rfl⟩ := h
      have hsl := sub_len hle
      refine ⟨a, cap, by rw [lowD_len, hsl], by rw [lowD_len, hsl]; exact hlc, fun hne => ?_⟩
      rw [lowD_len, hsl] at hne
      obtain ⟨B, hB, rfl, _⟩ := hcap (by omega)
      rcases hbl n g _ hfnd with ⟨hno', _⟩ | ⟨B', cs, ty, fr, hB', hheap, hfree, hsz, hh, _⟩
      · rw [hno'] at hB; simp at hB
      obtain rfl : B = B' := by simpa using hB.symm.trans hB'
      exact ⟨B, _, rfl, hn n g B _ (notIn_ok hno) hfnd hB, low_holds (hh.sub hle) hv⟩
    case cells l =>
      cases ea : arrAt l seg <;> simp only [ea] at h
      rename_i q
      obtain ⟨k, n', l'⟩ := q
      simp only at h
      obtain ⟨rfl, hle, rfl⟩ := h
      obtain ⟨B', cs, ty, fr, hB', hheap, hfree, hcells⟩ := hbl n g _ hfnd
      obtain ⟨g1, g2, g3⟩ := arrAt_len hcells ea
      have hsl : (Data.ints k ((l'.drop off).take len)).len = len := by simp [Data.len]; omega
      refine ⟨a, cap, by rw [hsl], by rw [hsl]; exact hlc, fun hne => ?_⟩
      rw [hsl] at hne
      obtain ⟨B, hB, rfl, _⟩ := hcap (by omega)
      obtain rfl : B = B' := by simpa using hB.symm.trans hB'
      refine ⟨B, _, rfl, hn n g B _ (notIn_ok hno) hfnd hB, fun i j hi hj => ?_⟩
      simp only [Data.esz] at hj
      obtain rfl : j = 0 := by omega
      rw [hsl] at hi
      refine ⟨.int k (l'.getD (off + i) 0), ?_, ?_⟩
      · rw [cell_block hheap]
        have := g3 (off + i) (by omega)
        simp only [Data.esz, Nat.mul_one, Nat.add_zero]
        rw [Nat.add_assoc]
        simpa using this
      · simp only [CellOk, List.getD, List.getElem?_take, List.getElem?_drop]
        rw [if_pos (by omega)]

theorem isView_row {l : List Int} {v : Value} {vw : Bool → Nat → Prop} (h : IsView vw w false (.ints .u8 l) v) : IsRow (vw false) w l v := by
  obtain ⟨a, cap, rfl, h1, h2⟩ := h
  refine ⟨a, cap, rfl, h1, fun hl => ?_⟩
  obtain ⟨B, o, rfl, hv, hh⟩ := h2 hl
  refine ⟨B, o, rfl, hv, fun i hi => ?_⟩
  obtain ⟨x, hx, hc⟩ := hh i 0 hi (by simp [Data.esz])
  simp only [Data.esz, Nat.mul_one, Nat.add_zero] at hx
  rw [hx, show x = _ from hc]

theorem rowsM_ok {own : List Nat} (hv : ∀ t B, Vw X b σ w t B → Vw X' b' σ' w false B)
    (hn : ∀ n g B z, n ∉ own → fnd b n = some (g, z) → σ n = some B → Vw X' b' σ' w false B) (hbl : ∀ n g y, fnd b n = some (g, y) → BlkOk X b c σ w n y) :
    ∀ {l : List SV} {rows : List (List Int)} {cs : List Value}, rowsM b own l rows → CellsOk X b c σ w l cs → rows.length = l.length ∧ cs.length = l.length ∧ ∀ i, i < l.length → ∃ v, cs[i]? = some v ∧ IsRow (Vw X' b' σ' w false) w (rows.getD i []) v
  | [], [], cs, _, hc => ⟨by simp, by rw [show cs = [] from hc]; rfl, fun i hi => by simp at hi⟩
  | x :: r, y :: q, cs, h, hc => by
    have hx : ∃ v cs', cs = v :: cs' ∧ V0 X b c σ w x v ∧ CellsOk X b c σ w r cs' := by
      cases x
      case arr => exact absurd h.1 (by simp [mB0])
      all_goals exact hc
    obtain ⟨v, cs', rfl, h1, h2⟩ := hx
    obtain ⟨g1, g2, g3⟩ := rowsM_ok hv hn hbl h.2 h2
    have hV := mB0_ok (c' := c) h.1 h1 hv hn hbl
    refine ⟨by simp [g1], by simp [g2], fun i hi => ?_⟩
    cases i with
    | zero => exact ⟨v, rfl, isView_row hV⟩
    | succ i =>
      obtain ⟨u, hu, hr⟩ := g3 i (by simpa using hi)
      exact ⟨u, by simpa using hu, by simpa [List.getD] using hr⟩
  | [], _ :: _, _, h, _ => h.elim
  | _ :: _, [], _, h, _ => h.elim

theorem mA0_ok {own : List Nat} {x y : SV} {v : Value} (h : mA0 b own x y) (hx : V0 X b c σ w x v) (hv : ∀ t B, Vw X b σ w t B → Vw X' b' σ' w false B)
    (hn : ∀ n g B z, n ∉ own → fnd b n = some (g, z) → σ n = some B → Vw X' b' σ' w false B) (hbl : ∀ n g y, fnd b n = some (g, y) → BlkOk X b c σ w n y) : V0 X' b' c' σ' w y v := by
  unfold mA0 at h
  split at h
  · rename_i n g seg e off len rows
    split at h
    · rename_i l eb
      obtain ⟨hno, rfl, rfl, rfl, rfl, hr⟩ := h
      obtain ⟨_, hl⟩ := hx
      obtain ⟨a, cap, rfl, hlc, hcap⟩ := hl (blkAt_live eb)
      have hfnd := blkAt_fnd eb
      obtain ⟨B', cs, ty, fr, hB', hheap, hfree, hcells⟩ := hbl n g _ hfnd
      obtain ⟨g1, g2, g3⟩ := rowsM_ok (X' := X') (b' := b') (σ' := σ') hv hn hbl hr hcells
      refine ⟨a, cap, by simp only [Data.len, g1], by simp only [Data.len, g1]; exact hlc, fun hne => ?_⟩
      simp only [Data.len, g1] at hne
      obtain ⟨B, hB, rfl, _⟩ := hcap (by omega)
      obtain rfl : B = B' := by simpa using hB.symm.trans hB'
      refine ⟨B, _, rfl, hn n g B _ (notIn_ok hno) hfnd hB, fun i j hi hj => ?_⟩
      simp only [Data.esz] at hj
      obtain rfl : j = 0 := by omega
      simp only [Data.len, g1] at hi
      obtain ⟨u, hu, hrow⟩ := g3 i hi
      refine ⟨u, ?_, hrow⟩
      rw [cell_block hheap]
      simpa [Data.esz] using hu
    · exact mB0_ok h hx hv hn hbl
  · exact mB0_ok h hx hv hn hbl

theorem mAl_ok {own : List Nat} (hv : ∀ t B, Vw X b σ w t B → Vw X' b' σ' w false B)
    (hn : ∀ n g B z, n ∉ own → fnd b n = some (g, z) → σ n = some B → Vw X' b' σ' w false B) (hbl : ∀ n g y, fnd b n = some (g, y) → BlkOk X b c σ w n y) :
    ∀ {l m : List SV} {cs : List Value}, mAl b own l m → CellsOk X b c σ w l cs → CellsOk X' b' c' σ' w m cs := by
  intro l
  induction l with
  | nil => intro m cs h hx; cases m <;> simp only [mAl] at h; exact hx
  | cons x r ih =>
    intro m cs h hx
    cases m with
    | nil => cases x <;> simp only [mAl] at h
    | cons y m =>
      have gen : mA0 b own x y ∧ mAl b own r m → (∃ v cs', cs = v :: cs' ∧ V0 X b c σ w x v ∧ CellsOk X b c σ w r cs') → CellsOk X' b' c' σ' w (y :: m) cs := by
        rintro ⟨h1, h2⟩ ⟨v, cs', rfl, h3, h4⟩
        have h5 := mA0_ok (c' := c') h1 h3 hv hn hbl
        have h6 := ih h2 h4
        cases y
        case arr => cases x <;> simp only [mA0, mB0] at h1
        all_goals exact ⟨v, cs', rfl, h5, h6⟩
      cases x
      case arr k n q =>
        cases y <;> simp only [mAl, mA0, mB0, false_and] at h
        obtain ⟨⟨rfl, rfl, rfl⟩, h2⟩ := h
        obtain ⟨h1, cs', rfl, h3⟩ := hx
        exact ⟨h1, cs', rfl, ih h2 h3⟩
      all_goals exact gen (by simpa only [mAl] using h) hx
end

end Go.Proofs.YtdhnjmepgafeiaaDoor.Abs
