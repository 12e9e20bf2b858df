/- OWN LIBRARY: an empty block gets a name; cells told otherwise; the least of two. -/
import Derived.Test.YtbnjdnahpnjofaaDev
import Derived.Test.YtbnjdnahpnjofaaR0
set_option linter.unusedVariables false
set_option linter.unusedSimpArgs false
namespace Go.Proofs.Ytbnjdnahpnjofaa.Abs
open Go

theorem put_none (a : Act) (v : Value) : a.put none v = a := rfl

/-- A name for a block that holds nothing. -/
theorem newb_go {P : Program} {X : Ctx} {todo : List Item} {s : St} {Φ : St → Prop} (n : Nat) (d : Data) (hd : d.len = 0)
    (h : HRun P X todo ⟨s.t, upd s.b n (s.c.c + 1) (.vec d), ⟨s.c.c + 1 + 1, [], s.c.o⟩⟩ Φ) : HRun P X todo s Φ := by
  intro σ w a hR
  have hR1 := R_bump (o := s.c.o) hR
  obtain ⟨hR2, hT2⟩ := R_none (n := n) (x := .vec d) (dst := none) (sv := .any) (v := undef) hR1 (by simp) (.inl ⟨by simp, hd⟩) trivial
  rw [put_none] at hR2
  have hR3 := R_bump (o := s.c.o) hR2
  refine (h _ w a hR3).mono fun a' w' ⟨s', σ', h1, h2, h3⟩ => ⟨s', σ', h1, h2, ?_⟩
  exact (Tr_bump (o := s.c.o)).trans (hT2.trans ((Tr_bump (s := ⟨s.t, upd s.b n (s.c.c + 1) (.vec d), (⟨s.c.c + 1, [], s.c.o⟩ : Lim).add n⟩) (o := s.c.o)).trans h3))

/-- Cells, told otherwise. -/
theorem cells_go {P : Program} {X : Ctx} {todo : List Item} {s : St} {Φ : St → Prop} (m : Nat) {gm : Nat} {l : List SV} (l' : List SV)
    (h : (fnd s.b m = some (gm, .cells l) ∧ ∀ σ w cs, CellsOk X s.b s.c σ w l cs → CellsOk X s.b s.c σ w l' cs) ∧ HRun P X todo ⟨s.t, upd s.b m gm (.cells l'), s.c⟩ Φ) : HRun P X todo s Φ := by
  obtain ⟨⟨hm, hw⟩, h⟩ := h
  intro σ w a hR
  have T : Tr X s.b s.c σ w (upd s.b m gm (.cells l')) s.c σ w := Tr_upd hm
  have hf : ∀ k y, fnd (upd s.b m gm (.cells l')) k = some y → ∃ z, fnd s.b k = some z := by
    intro k y hk
    rw [fnd_upd] at hk
    split at hk
    · rename_i e; subst e; exact ⟨_, hm⟩
    · exact ⟨_, hk⟩
  have hR' : R X ⟨s.t, upd s.b m gm (.cells l'), s.c⟩ σ w a := by
    refine { sz := hR.sz, tm := fun j hj => (hR.tm j hj).tr T, df := hR.df, bl := ?_, inj := ?_, fr := hR.fr, st := hR.st, ro := hR.ro, gl := hR.gl }
    · intro k gk x hk
      simp only at hk
      rw [fnd_upd] at hk
      split at hk
      · rename_i e
        subst e
        simp only [Option.some.injEq, Prod.mk.injEq] at hk
        obtain ⟨rfl, rfl⟩ := hk
        obtain ⟨h1, h2, h3⟩ := hR.bl k gm _ hm
        obtain ⟨B, cs, t, fr, hs, hheap, hfree, hcells⟩ := h2
        exact ⟨h1, ⟨B, cs, t, fr, hs, hheap, hfree, (hw σ w _ hcells).tr T⟩, h3⟩
      · obtain ⟨h1, h2, h3⟩ := hR.bl k gk x hk
        exact ⟨h1, h2.tr T rfl (fun _ _ => rfl), h3⟩
    · intro k k' x x' B hk hk' hs hs'
      obtain ⟨z, hz⟩ := hf k x hk
      obtain ⟨z', hz'⟩ := hf k' x' hk'
      exact hR.inj k k' z z' B hz hz' hs hs'
  exact (h σ w a hR').mono fun a' w' ⟨s', σ', h1, h2, h3⟩ => ⟨s', σ', h1, h2, T.trans h3⟩

/-- Nothing, as an empty part of a block. -/
theorem V0_nil_sl {X : Ctx} {b : List (Nat × Nat × Blk)} {c : Lim} {σ : Env} {w : World} {n g seg e off : Nat} {v : Value} (hc : c.ok n g) (h : V0 X b c σ w .nil v) : V0 X b c σ w (.sl n g seg e off 0) v :=
  ⟨hc, fun _ => ⟨none, 0, h, Nat.le_refl _, fun h => absurd rfl h⟩⟩

/-- The least of two numbers. -/
theorem min_ops {P : Program} {X : Ctx} {ops : Array Oper} {o : Oper} {rest : List Oper} {k : List Item} {s : St} {Φ : St → Prop} {x y : Operand} {ts : Array TypeId} {d : Nat} {kd kd' : IntKind} {p q : Int}
    (ho : o.op = .call { callee := .builtin .min, args := #[x, y], argTypes := ts }) (hg : o.guard = none) (hd : o.dst = some d) (hx : evO s.t x = .int kd p) (hy : evO s.t y = .int kd' q)
    (h : HOps P X ops rest k ⟨s.t.set d (.int kd (if q < p then q else p)), s.b, s.c⟩ Φ) : HOps P X ops (o :: rest) k s Φ := by
  intro i hi σ w a hR
  have ho' : ops[i]? = some o := by
    have := congrArg (fun l : List Oper => l[0]?) hi
    simpa using this
  have hrest : ops.toList.drop (i + 1) = rest := by
    have := congrArg List.tail hi
    simpa using this
  have hv := V_evO hR x
  rw [hx] at hv
  have hv : a.eval x = .int kd p := hv
  have hv2 := V_evO hR y
  rw [hy] at hv2
  have hv2 : a.eval y = .int kd' q := hv2
  have hu : (execOp a.eval o).run P w = .ok (.value (.int kd (if q < p then q else p))) w := by
    simp [execOp, ho, resolve, invoke, builtin, hv, hv2, run_min_int2]
  rw [List.length_cons, List.range'_succ]
  refine Fins.opValue (v := .int kd (if q < p then q else p)) ho' (by simp [Region.wanted, hg]) (.inl hu) ((h (i + 1) hrest).after ?_ Tr.refl)
  rw [hd]
  exact R_set hR (dst := some d) (sv := .int kd (if q < p then q else p)) (show V X s.b s.c σ w _ _ from rfl)

end Go.Proofs.Ytbnjdnahpnjofaa.Abs
