/- OWN LIBRARY, part 8: operations that make or write memory do what was told of them. -/
import Derived.Test.YtbnjdnahpnjofaaA7
set_option linter.unusedVariables false
set_option linter.unusedSimpArgs false
namespace Go.Proofs.Ytbnjdnahpnjofaa.Abs
open Go

theorem notIn_ok : ∀ {l : List Nat} {n : Nat}, notIn l n → n ∉ l
  | [], _, _, h => by simp at h
  | m :: l, n, hn, h => by
    simp only [notIn] at hn
    split at hn
    · exact hn
    · rename_i hne
      rcases List.mem_cons.1 h with rfl | h
      · exact hne rfl
      · exact notIn_ok hn h

theorem free0 (n : Nat) : Free (0, 0) n := .inl rfl

section
variable {P : Program} {T : Tab} {X : Ctx} {s : St} {σ : Env} {w : World} {a : Act}

theorem heap_new (w : World) (o : Obj) : (w.alloc o).heap[w.heap.size]? = some o := by
  show (w.heap.push o)[w.heap.size]? = _
  simp

/-- What is wanted of an operation. -/
def Does (P : Program) (X : Ctx) (s : St) (σ : Env) (s' : St) (w : World) (a : Act) (o : Oper) : Prop :=
  ∃ nx u w' σ', (execOp a.eval o).run P w = .ok nx w' ∧ (nx = .value u ∨ (nx = .skip ∧ u = undef)) ∧ R X s' σ' w' (a.put o.dst u) ∧ Tr X s.b s.c σ w s'.b s'.c σ' w'

theorem newV_go {dst : Option Nat} {p0 p : Prop} {x : Blk} {f : Nat → SV} {s' : St} (h : newV s dst p0 x f = .go p s') (hp : p) :
    ∃ d, d ∉ s.c.d ∧ p0 ∧ s' = ⟨setD s.t dst (f d), upd s.b d s.c.c x, s.c.add d⟩ := by
  cases dst with
  | none => simp [newV] at h
  | some d =>
    simp only [newV, Res.go.injEq] at h
    obtain ⟨rfl, rfl⟩ := h
    exact ⟨s.c.o + d, notIn_ok hp.1, hp.2, rfl⟩

theorem alloc_ok (TO : TabOk P T) (hR : R X s σ w a) {o : Oper} {e : TypeId} {p : Prop} {s' : St} (ho : o.op = .alloc e)
    (h : newV s o.dst (T.size e ≠ 0) (.cells (T.zero e)) (fun d => .ptr d s.c.c 0) = .go p s') (hp : p) : Does P X s σ s' w a o := by
  obtain ⟨d, hn, hs, rfl⟩ := newV_go h hp
  obtain ⟨i, hi, _, _, z, hz, hzo, _⟩ := TO.info e hs
  refine ⟨.value (.pointer (some ⟨w.heap.size, 0, none⟩)), _, w.alloc (.cells z.cells e), bind1 σ d w.heap.size, ?_, .inl rfl, ?_⟩
  · simp only [execOp, ho]
    simp [Instr.alloc, zeroValue, typeInfo, hi, hz, newVar, newRow]
  · refine R_new hR hn rfl ⟨rfl, rfl, rfl⟩ ⟨w.heap.size, z.cells, e, (0, 0), by simp [bind1], heap_new w _, free0 _, CellsOk_zero hzo⟩ ?_
    exact ⟨Lim.ok_new _ _, fun _ => ⟨w.heap.size, by simp [bind1], rfl⟩⟩

theorem box_ok (hR : R X s σ w a) {o : Oper} {e : TypeId} {x : Operand} {sv : SV} {l : List SV} {p : Prop} {s' : St} (ho : o.op = .box e x) (hx : V2 X s.b s.c σ w sv (a.eval x)) (hl : cellsOf s.b sv = some l)
    (h : newV s o.dst True (.cells l) (fun d => .ptr d s.c.c 0) = .go p s') (hp : p) : Does P X s σ s' w a o := by
  obtain ⟨d, hn, _, rfl⟩ := newV_go h hp
  refine ⟨.value (.pointer (some ⟨w.heap.size, 0, none⟩)), _, w.alloc (.cells (a.eval x).cells e), bind1 σ d w.heap.size, ?_, .inl rfl, ?_⟩
  · simp only [execOp, ho]
    simp [Instr.box, newVar, newRow]
  · refine R_new hR hn rfl ⟨rfl, rfl, rfl⟩ ⟨w.heap.size, (a.eval x).cells, e, (0, 0), by simp [bind1], heap_new w _, free0 _, ?_⟩ ?_
    · exact CellsOk.tr (Tr_new hR hn rfl) (cellsOf_ok hl hx)
    · exact ⟨Lim.ok_new _ _, fun _ => ⟨w.heap.size, by simp [bind1], rfl⟩⟩

theorem make_ok (TO : TabOk P T) (hR : R X s σ w a) {o : Oper} {t e : TypeId} {len cap : Operand} {k1 k2 k : IntKind} {n m : Int} {p : Prop} {s' : St} (ho : o.op = .makeSlice t len cap)
    (ht : T.ty t = .slice e) (he : T.ty e = .int k) (h1 : a.eval len = .int k1 n) (h2 : a.eval cap = .int k2 m)
    (h : newV s o.dst (T.size e = 1 ∧ zI k (T.zero e) ∧ n = m ∧ 0 ≤ n ∧ n * T.bytes e ≤ 281474976710656 ∧ n ≤ 4611686018427387904) (.vec (.ints k (List.replicate n.toNat 0))) (fun d => .slc d s.c.c 1 n.toNat n.toNat) = .go p s') (hp : p) : Does P X s σ s' w a o := by
  obtain ⟨d, hn, ⟨hs1, hzI, rfl, h0, hb, h63⟩, rfl⟩ := newV_go h hp
  obtain ⟨i, hi, his, hib, z, hz, hzo, _⟩ := TO.info e (by omega)
  have ht' := TO.ty t
  rw [ht] at ht'; simp only [tyOk] at ht'
  have hzc : z.cells = #[.int k 0] := by
    have : z.cells.toList = [.int k 0] := by
      cases hq : T.zero e with
      | nil => rw [hq] at hzI; simp [zI] at hzI
      | cons y r =>
        rw [hq] at hzI hzo
        cases r with
        | cons _ _ => cases y <;> simp [zI] at hzI
        | nil =>
          cases y <;> simp only [zI] at hzI
          obtain ⟨rfl, rfl⟩ := hzI
          obtain ⟨v, cs', e1, e2, e3⟩ := hzo
          rw [e1, show cs' = [] from e3]
          cases v <;> simp only [constSV, SV.int.injEq, reduceCtorEq] at e2
          · obtain ⟨rfl, rfl⟩ := e2; rfl
          all_goals (try (rename_i a1 a2 a3; cases a1 <;> (try cases a2) <;> (try cases a3) <;> simp only [constSV, reduceCtorEq] at e2))
    exact Array.ext' this
  have hr := run_make (P := P) w t e i z ht' hi hz k1 k2 n n h0 (Int.le_refl _) (by rw [hib, Int.mul_comm]; exact hb) (by omega)
  rw [his, hs1, Nat.mul_one, hzc] at hr
  have hget : ∀ j, j < n.toNat → (madeCells #[Value.int k 0] n.toNat)[j]? = some (.int k 0) := by
    intro j hj; simp [madeCells, hj, Nat.mod_one]
  refine ⟨.value (.slice (some ⟨w.heap.size, 0, none⟩) n.toNat n.toNat), _, w.alloc (.cells (madeCells #[Value.int k 0] n.toNat) e), bind1 σ d w.heap.size, ?_, .inl rfl, ?_⟩
  · simp only [execOp, ho, h1, h2]
    simp only [Sem.run_bind, hr, Result.andThen_ok, Sem.run_pure]
  · refine R_new hR hn rfl ⟨rfl, rfl, rfl⟩ (.inr ⟨w.heap.size, madeCells #[Value.int k 0] n.toNat, e, (0, 0), by simp [bind1], heap_new w _, free0 _, by simp [Data.len, Data.esz, size_madeCells], ?_, fun i hi => ⟨0, hget i (by simpa [size_madeCells] using hi)⟩, by rw [size_madeCells]; omega⟩) ?_
    · intro i j hi hj
      simp only [Data.esz] at hj
      obtain rfl : j = 0 := by omega
      simp only [Data.len, List.length_replicate] at hi
      refine ⟨.int k 0, ?_, ?_⟩
      · rw [World.cell?_alloc_new]; simpa [Data.esz] using hget i hi
      · simp [CellOk, List.getD, hi]
    · refine ⟨Lim.ok_new _ _, fun _ => ⟨_, rfl, Nat.le_refl _, fun _ => ⟨w.heap.size, by simp [bind1], rfl, ?_⟩⟩⟩
      simp only [blockSize, heap_new, size_madeCells]; omega
end

end Go.Proofs.Ytbnjdnahpnjofaa.Abs
