/- Joined: R0 R1 R2 R3 R4 R5 R6. -/
import Derived.Test.YtdhnjmepgafeiaaDoorB5
import Derived.Deep.Matrix
import Derived.Laws.BytesArg
/- OWN LIBRARY: a row of one own slice is told by value from here on. -/
set_option linter.unusedVariables false
set_option linter.unusedSimpArgs false
namespace Go.Proofs.YtdhnjmepgafeiaaDoor.Abs
open Go

theorem Tr_upd {X : Ctx} {b : List (Nat × Nat × Blk)} {c : Lim} {σ : Env} {w : World} {m g : Nat} {x x' : Blk} (h : fnd b m = some (g, x)) : Tr X b c σ w (upd b m g x') c σ w := by
  have hN : ∀ B, Named (upd b m g x') σ B → Named b σ B := by
    rintro B ⟨k, y, h1, h2⟩
    rw [fnd_upd] at h1
    split at h1
    · rename_i e; subst e; exact ⟨k, _, h, h2⟩
    · exact ⟨k, y, h1, h2⟩
  refine ⟨fun _ _ h => h, ?_, fun tag B hv => ⟨rfl, hv.1, hv.2.imp id fun h => ⟨h.1, fun k => h.2 (hN _ k)⟩⟩, fun _ _ _ _ _ _ => Nat.le_refl _⟩
  rintro k gk ⟨y, hy⟩ _
  rw [fnd_upd] at hy
  split at hy
  · rename_i e; subst e
    simp only [Option.some.injEq, Prod.mk.injEq] at hy
    obtain ⟨rfl, _⟩ := hy
    exact ⟨⟨_, h⟩, rfl⟩
  · exact ⟨⟨y, hy⟩, rfl⟩

theorem R_rows {X : Ctx} {s : St} {σ : Env} {w : World} {a : Act} {m gm n g off len : Nat} {l : List Int} (hR : R X s σ w a) (hm : fnd s.b m = some (gm, .cells [.sl n g 0 1 off len])) (hn : fnd s.b n = some (g, .vec (.ints .u8 l))) (hmn : m ≠ n) (hl : off + len ≤ l.length) :
    R X ⟨s.t, upd (del s.b n) m gm (.vec (.rows true [(l.drop off).take len])), s.c⟩ σ w a := by
  have hmd : fnd (del s.b n) m = some (gm, .cells [.sl n g 0 1 off len]) := by rw [fnd_del, if_neg hmn]; exact hm
  have T : Tr X s.b s.c σ w (upd (del s.b n) m gm (.vec (.rows true [(l.drop off).take len]))) s.c σ w := (Tr_del n).trans (Tr_upd hmd)
  obtain ⟨hok, hbk, hB0⟩ := hR.bl n g _ hn
  obtain ⟨hokm, hbm, hBm⟩ := hR.bl m gm _ hm
  have hdl : ((l.drop off).take len).length = len := by rw [List.length_take, List.length_drop]; omega
  have hfn : ∀ k y, fnd (upd (del s.b n) m gm (.vec (.rows true [(l.drop off).take len]))) k = some y → k ≠ n ∧ ∃ z, fnd s.b k = some z := by
    intro k y hk
    rw [fnd_upd] at hk
    split at hk
    · rename_i e; subst e; exact ⟨hmn, _, hm⟩
    · rw [fnd_del] at hk
      split at hk
      · cases hk
      · rename_i e; exact ⟨e, _, hk⟩
  refine { sz := hR.sz, tm := fun j hj => (hR.tm j hj).tr T, df := hR.df, bl := ?_, inj := ?_, fr := hR.fr, st := hR.st, ro := hR.ro, gl := hR.gl }
  · intro k gk x hk
    have hk0 := hk
    simp only at hk
    rw [fnd_upd] at hk
    split at hk
    · rename_i e
      subst e
      simp only [Option.some.injEq, Prod.mk.injEq] at hk
      obtain ⟨rfl, rfl⟩ := hk
      refine ⟨hokm, ?_, hBm⟩
      obtain ⟨B, cs, t, fr, hs, hheap, hfree, hcells⟩ := hbm
      obtain ⟨v, r, hcs, hv, hr⟩ := hcells
      have hr : r = [] := hr
      subst hr
      obtain ⟨_, hv⟩ := (hv : s.c.ok n g ∧ (Live s.b n g → _))
      obtain ⟨ad, cap, hval, hcap, hpt⟩ := hv ⟨_, hn⟩
      have hsz : cs.size = 1 := by rw [← Array.length_toList, hcs]; rfl
      refine .inr ⟨B, cs, t, fr, hs, hheap, hfree, by simp [Data.len, Data.esz, hsz], ?_, trivial⟩
      intro i j hi hj
      simp only [Data.len, List.length_cons, List.length_nil] at hi
      simp only [Data.esz] at hj
      obtain rfl : i = 0 := by omega
      obtain rfl : j = 0 := by omega
      refine ⟨v, ?_, ?_⟩
      · have : cs[0]? = some v := by rw [← Array.getElem?_toList, hcs]; rfl
        rw [cell_block hheap]; simpa [Data.esz] using this
      · show IsRow _ w ((l.drop off).take len) v
        refine ⟨ad, cap, by rw [hdl]; exact hval, by rw [hdl]; exact hcap, fun h0 => ?_⟩
        rw [hdl] at h0
        obtain ⟨B', hs', hadr, _⟩ := hpt (by omega)
        refine ⟨B', 0 + off * 1, hadr, ⟨(hB0 B' hs').1, .inr ⟨(hB0 B' hs').2, ?_⟩⟩, ?_⟩
        · rintro ⟨q, y, hq, hs2⟩
          obtain ⟨hqn, z, hz⟩ := hfn q y hq
          exact hqn (hR.inj q n _ _ B' hz hn hs2 hs')
        · rcases hbk with ⟨hnone, _⟩ | ⟨B2, cs2, t2, fr2, hs3, hheap2, _, _, hh, _⟩
          · rw [hnone] at hs'; cases hs'
          · obtain rfl : B' = B2 := Option.some.inj (hs'.symm.trans hs3)
            intro p hp
            rw [hdl] at hp
            obtain ⟨x, hx, hc⟩ := hh (off + p) 0 (by simp only [Data.len]; omega) (by simp [Data.esz])
            have hc : x = .int .u8 (l.getD (off + p) 0) := hc
            simp only [Data.esz] at hx
            rw [show 0 + off * 1 + p = 0 + (off + p) * 1 + 0 by omega, hx, hc]
            simp [List.getD, List.getElem?_take, List.getElem?_drop, hp]
    · rename_i hne
      rw [fnd_del] at hk
      split at hk
      · cases hk
      · obtain ⟨h1, h2, h3⟩ := hR.bl k gk x hk
        exact ⟨h1, h2.tr T rfl (fun _ _ => rfl), h3⟩
  · intro k k' x x' B hk hk' hs hs'
    obtain ⟨_, z, hz⟩ := hfn k x hk
    obtain ⟨_, z', hz'⟩ := hfn k' x' hk'
    exact hR.inj k k' z z' B hz hz' hs hs'

/-- Ahead of an operation: the one own slice in a row of one is told by value from here on. -/
theorem rows_ops {P : Program} {X : Ctx} {ops : Array Oper} {rest : List Oper} {k : List Item} {s : St} {Φ : St → Prop} (m n : Nat) {gm g off len : Nat} {l : List Int}
    (h : (fnd s.b m = some (gm, .cells [.sl n g 0 1 off len]) ∧ fnd s.b n = some (g, .vec (.ints .u8 l)) ∧ m ≠ n ∧ off + len ≤ l.length) ∧ HOps P X ops rest k ⟨s.t, upd (del s.b n) m gm (.vec (.rows true [(l.drop off).take len])), s.c⟩ Φ) : HOps P X ops rest k s Φ := by
  obtain ⟨⟨h1, h2, h3, h4⟩, h⟩ := h
  intro j hj σ w a hR
  exact (h j hj).after (R_rows hR h1 h2 h3 h4) ((Tr_del n).trans (Tr_upd (by rw [fnd_del, if_neg h3]; exact h1)))

end Go.Proofs.YtdhnjmepgafeiaaDoor.Abs

/- OWN LIBRARY: rows of bytes, as they are handed in. -/
set_option linter.unusedVariables false
set_option linter.unusedSimpArgs false
namespace Go.Proofs.YtdhnjmepgafeiaaDoor.Abs
open Go Go.ChangeShapes Go.WideShapes Go.RowKit Go.Deep

theorem bulk_elem {H : Type} {d : DataW H} {elems spare : List (DataW H)} (h : d ∈ elems) : Rows.uptoBulk d + 1 ≤ Rows.uptoBulk (.slice elems spare) := by
  have := bulk_part h
  simp only [Rows.uptoBulk]
  omega

theorem open_rows {H : Type} {enc : TypeId × Value → H} {P : Program} {W : World} {base : Nat} {held : Bool} {t e q : TypeId} {a : Option Addr} {len cap : Nat} {d : DataW H} {ps : List MemPlace}
    (ht : P.underlying t = some (.slice e)) (he : P.underlying e = some (.slice q)) (hq : P.underlying q = some (.int .u8)) (ce : P.cellsOf e = 1) (cq : P.cellsOf q = 1)
    (h : DataW.Trod enc P W base (fun _ => true) held t (.slice a len cap) d ps) :
    ∃ l : List (List Int), Arg W (.view false (.rows false l)) (.slice a len cap) ∧ l.length = len ∧ (∀ x ∈ l, ∀ z ∈ x, (Lit.int .u8 z).wf = true) ∧ (∀ N, Rows.uptoBulk d ≤ N → len ≤ N ∧ ∀ x ∈ l, x.length ≤ N) := by
  obtain ⟨fuel, hf⟩ := h
  rcases open_int_rows ht he hq ce cq hf with ⟨hcs, hx⟩ | ⟨a', len', cap', A, L, C, Z, hcs, hb, hl, hm, hx, hr⟩
  · simp [Value.cells] at hcs
    obtain ⟨rfl, rfl, rfl⟩ := hcs
    refine ⟨[], ?_, rfl, by simp, fun N _ => ⟨Nat.zero_le _, by simp⟩⟩
    show IsView _ _ _ _ _
    exact ⟨none, 0, rfl, Nat.le_refl _, fun h => absurd rfl h⟩
  · simp [Value.cells] at hcs
    obtain ⟨rfl, rfl, rfl⟩ := hcs
    obtain ⟨hx, _⟩ := Prod.mk.inj hx
    subst hx
    obtain ⟨l, hl0⟩ : ∃ l : List (List Int), l = (List.range len).map fun r => (Z r).take (L r) := ⟨_, rfl⟩
    have hll : l.length = len := by rw [hl0]; simp
    have hlg : ∀ i, i < len → l.getD i [] = (Z i).take (L i) := by
      intro i hi
      rw [hl0]; simp [List.getD, hi]
    have hzl : ∀ i, i < len → ((Z i).take (L i)).length = L i := by
      intro i hi
      obtain ⟨_, h1, _, h2, _⟩ := hr i (by omega)
      rw [List.length_take, h2]; omega
    have hmem : ∀ x ∈ l, ∃ i, i < len ∧ x = (Z i).take (L i) := by
      intro x hx
      rw [hl0] at hx
      obtain ⟨i, hi, rfl⟩ := List.mem_map.1 hx
      exact ⟨i, by simpa using hi, rfl⟩
    refine ⟨l, ?_, hll, ?_, ?_⟩
    · show IsView _ _ _ _ _
      refine ⟨some a', cap, by simp only [Data.len, hll], by simp only [Data.len, hll]; exact hl, ?_⟩
      simp only [Data.len, hll]
      intro h0
      have hc0 : ∃ u, W.cell? a' = some u := ⟨_, by simpa [Addr.add] using (hr 0 (by omega)).1⟩
      obtain ⟨hbl, hxa, _⟩ := cell_addr hc0 (hr 0 (by omega)).1
      refine ⟨a'.block, a'.off, by rw [← hxa], ⟨hbl, .inl ⟨rfl, hbl⟩⟩, ?_⟩
      intro i j hi hj
      simp only [Data.len, hll] at hi
      simp only [Data.esz] at hj ⊢
      obtain rfl : j = 0 := by omega
      obtain ⟨r1, r2, r3, r4, r5, r6, r7⟩ := hr i (by omega)
      obtain ⟨_, _, hc⟩ := cell_addr hc0 r1
      refine ⟨.slice (A i) (L i) (C i), by simpa using hc, ?_⟩
      show IsRow _ W (l.getD i []) _
      rw [hlg i hi]
      refine ⟨A i, C i, by rw [hzl i hi], by rw [hzl i hi]; exact r2, fun hne => ?_⟩
      rw [hzl i hi] at hne
      cases hA : A i with
      | none => have := r6 hA; omega
      | some b =>
        obtain ⟨_, hcell⟩ := r7 b hA
        have hb0 : ∃ u, W.cell? b = some u := ⟨_, by simpa [Addr.add] using hcell 0 (by omega)⟩
        obtain ⟨hbb, hxb, _⟩ := cell_addr hb0 (hcell 0 (by omega))
        refine ⟨b.block, b.off, by rw [← hxb], ⟨hbb, .inl ⟨rfl, hbb⟩⟩, fun p hp => ?_⟩
        rw [hzl i hi] at hp
        obtain ⟨_, _, hcp⟩ := cell_addr hb0 (hcell p (by omega))
        rw [hcp]
        simp [List.getD, List.getElem?_take, hp]
    · intro x hx z hz
      obtain ⟨i, hi, rfl⟩ := hmem x hx
      exact (hr i (by omega)).2.2.2.2.1 z (List.mem_of_mem_take hz)
    · intro N hN
      have h1 := bulk_slice ((List.range len).map fun r => intRow (H := H) .u8 (A r) (L r) (Z r)) ((List.range (cap - len)).map fun j => intRow (H := H) .u8 (A (len + j)) (L (len + j)) (Z (len + j)))
      simp only [List.length_map, List.length_range] at h1
      refine ⟨by omega, fun x hx => ?_⟩
      obtain ⟨i, hi, rfl⟩ := hmem x hx
      rw [hzl i hi]
      obtain ⟨r1, r2, r3, r4, r5, r6, r7⟩ := hr i (by omega)
      cases hA : A i with
      | none => have := r6 hA; omega
      | some b =>
        have h2 := bulk_elem (spare := (List.range (cap - len)).map fun j => intRow (H := H) .u8 (A (len + j)) (L (len + j)) (Z (len + j))) (List.mem_map.2 ⟨i, List.mem_range.2 hi, rfl⟩ : intRow (H := H) .u8 (A i) (L i) (Z i) ∈ (List.range len).map fun r => intRow (H := H) .u8 (A r) (L r) (Z r))
        have h3 : L i ≤ Rows.uptoBulk (intRow (H := H) .u8 (A i) (L i) (Z i)) := by
          rw [hA]
          have := bulk_slice (lits (H := H) .u8 ((Z i).take (L i))) (lits .u8 ((Z i).drop (L i)))
          have hl2 : (lits (H := H) .u8 ((Z i).take (L i))).length = L i := by rw [show (lits (H := H) .u8 ((Z i).take (L i))).length = ((Z i).take (L i)).length by simp [lits], hzl i hi]
          rw [hl2] at this
          show L i ≤ Rows.uptoBulk (.slice _ _)
          omega
        omega

end Go.Proofs.YtdhnjmepgafeiaaDoor.Abs

/- OWN LIBRARY: an empty block gets a name; cells told otherwise; the least of two. -/
set_option linter.unusedVariables false
set_option linter.unusedSimpArgs false
namespace Go.Proofs.YtdhnjmepgafeiaaDoor.Abs
open Go

theorem put_none (a : Act) (v : Value) : a.put none v = a := rfl

/-- A name for a block that holds nothing. -/
theorem newb_go {P : Program} {X : Ctx} {todo : List Item} {s : St} {Φ : St → Prop} (n : Nat) (d : Data) (hd : d.len = 0)
    (h : HRun P X todo ⟨s.t, upd s.b n (s.c.c + 1) (.vec d), ⟨s.c.c + 1 + 1, [], s.c.o⟩⟩ Φ) : HRun P X todo s Φ := by
  intro σ w a hR
  have hR1 := R_bump (o := s.c.o) hR
  obtain ⟨hR2, hT2⟩ := R_none (n := n) (x := .vec d) (dst := none) (sv := .any) (v := undef) hR1 (by simp) (.inl ⟨by simp, hd⟩) trivial
  rw [put_none] at hR2
  have hR3 := R_bump (o := s.c.o) hR2
  refine (h _ w a hR3).mono fun a' w' ⟨s', σ', h1, h2, h3⟩ => ⟨s', σ', h1, h2, ?_⟩
  exact (Tr_bump (o := s.c.o)).trans (hT2.trans ((Tr_bump (s := ⟨s.t, upd s.b n (s.c.c + 1) (.vec d), (⟨s.c.c + 1, [], s.c.o⟩ : Lim).add n⟩) (o := s.c.o)).trans h3))

/-- Cells, told otherwise. -/
theorem cells_go {P : Program} {X : Ctx} {todo : List Item} {s : St} {Φ : St → Prop} (m : Nat) {gm : Nat} {l : List SV} (l' : List SV)
    (h : (fnd s.b m = some (gm, .cells l) ∧ ∀ σ w cs, CellsOk X s.b s.c σ w l cs → CellsOk X s.b s.c σ w l' cs) ∧ HRun P X todo ⟨s.t, upd s.b m gm (.cells l'), s.c⟩ Φ) : HRun P X todo s Φ := by
  obtain ⟨⟨hm, hw⟩, h⟩ := h
  intro σ w a hR
  have T : Tr X s.b s.c σ w (upd s.b m gm (.cells l')) s.c σ w := Tr_upd hm
  have hf : ∀ k y, fnd (upd s.b m gm (.cells l')) k = some y → ∃ z, fnd s.b k = some z := by
    intro k y hk
    rw [fnd_upd] at hk
    split at hk
    · rename_i e; subst e; exact ⟨_, hm⟩
    · exact ⟨_, hk⟩
  have hR' : R X ⟨s.t, upd s.b m gm (.cells l'), s.c⟩ σ w a := by
    refine { sz := hR.sz, tm := fun j hj => (hR.tm j hj).tr T, df := hR.df, bl := ?_, inj := ?_, fr := hR.fr, st := hR.st, ro := hR.ro, gl := hR.gl }
    · intro k gk x hk
      simp only at hk
      rw [fnd_upd] at hk
      split at hk
      · rename_i e
        subst e
        simp only [Option.some.injEq, Prod.mk.injEq] at hk
        obtain ⟨rfl, rfl⟩ := hk
        obtain ⟨h1, h2, h3⟩ := hR.bl k gm _ hm
        obtain ⟨B, cs, t, fr, hs, hheap, hfree, hcells⟩ := h2
        exact ⟨h1, ⟨B, cs, t, fr, hs, hheap, hfree, (hw σ w _ hcells).tr T⟩, h3⟩
      · obtain ⟨h1, h2, h3⟩ := hR.bl k gk x hk
        exact ⟨h1, h2.tr T rfl (fun _ _ => rfl), h3⟩
    · intro k k' x x' B hk hk' hs hs'
      obtain ⟨z, hz⟩ := hf k x hk
      obtain ⟨z', hz'⟩ := hf k' x' hk'
      exact hR.inj k k' z z' B hz hz' hs hs'
  exact (h σ w a hR').mono fun a' w' ⟨s', σ', h1, h2, h3⟩ => ⟨s', σ', h1, h2, T.trans h3⟩

/-- Nothing, as an empty part of a block. -/
theorem V0_nil_sl {X : Ctx} {b : List (Nat × Nat × Blk)} {c : Lim} {σ : Env} {w : World} {n g seg e off : Nat} {v : Value} (hc : c.ok n g) (h : V0 X b c σ w .nil v) : V0 X b c σ w (.sl n g seg e off 0) v :=
  ⟨hc, fun _ => ⟨none, 0, h, Nat.le_refl _, fun h => absurd rfl h⟩⟩

/-- The least of two numbers. -/
theorem min_ops {P : Program} {X : Ctx} {ops : Array Oper} {o : Oper} {rest : List Oper} {k : List Item} {s : St} {Φ : St → Prop} {x y : Operand} {ts : Array TypeId} {d : Nat} {kd kd' : IntKind} {p q : Int}
    (ho : o.op = .call { callee := .builtin .min, args := #[x, y], argTypes := ts }) (hg : o.guard = none) (hd : o.dst = some d) (hx : evO s.t x = .int kd p) (hy : evO s.t y = .int kd' q)
    (h : HOps P X ops rest k ⟨s.t.set d (.int kd (if q < p then q else p)), s.b, s.c⟩ Φ) : HOps P X ops (o :: rest) k s Φ := by
  intro i hi σ w a hR
  have ho' : ops[i]? = some o := by
    have := congrArg (fun l : List Oper => l[0]?) hi
    simpa using this
  have hrest : ops.toList.drop (i + 1) = rest := by
    have := congrArg List.tail hi
    simpa using this
  have hv := V_evO hR x
  rw [hx] at hv
  have hv : a.eval x = .int kd p := hv
  have hv2 := V_evO hR y
  rw [hy] at hv2
  have hv2 : a.eval y = .int kd' q := hv2
  have hu : (execOp a.eval o).run P w = .ok (.value (.int kd (if q < p then q else p))) w := by
    simp [execOp, ho, resolve, invoke, builtin, hv, hv2, run_min_int2]
  rw [List.length_cons, List.range'_succ]
  refine Fins.opValue (v := .int kd (if q < p then q else p)) ho' (by simp [Region.wanted, hg]) (.inl hu) ((h (i + 1) hrest).after ?_ Tr.refl)
  rw [hd]
  exact R_set hR (dst := some d) (sv := .int kd (if q < p then q else p)) (show V X s.b s.c σ w _ _ from rfl)

end Go.Proofs.YtdhnjmepgafeiaaDoor.Abs

/- OWN LIBRARY: iterators over strings; bytes as a string; the told end of a block forgotten. -/
set_option linter.unusedVariables false
set_option linter.unusedSimpArgs false
namespace Go.Proofs.YtdhnjmepgafeiaaDoor.Abs
open Go

theorem ops_at {ops : Array Oper} {o : Oper} {rest : List Oper} {i : Nat} (hi : ops.toList.drop i = o :: rest) : ops[i]? = some o ∧ ops.toList.drop (i + 1) = rest := by
  constructor
  · have := congrArg (fun l : List Oper => l[0]?) hi
    simpa using this
  · have := congrArg List.tail hi
    simpa using this

/-- An iterator over a string. -/
theorem range_ops {P : Program} {T : Tab} {X : Ctx} (TO : TabOk P T) {ops : Array Oper} {o : Oper} {rest : List Oper} {k : List Item} {s : St} {Φ : St → Prop} {t : TypeId} {x : Operand} {d : Nat} {str : ByteArray}
    (ho : o.op = .range t x) (hg : o.guard = none) (hd : o.dst = some d) (hT : T.ty t = .string) (hx : evO s.t x = .str str) (hn : s.c.o + d ∉ s.c.d)
    (h : HOps P X ops rest k ⟨s.t.set d (.ptr (s.c.o + d) s.c.c 0), upd s.b (s.c.o + d) s.c.c (.iter str 0), s.c.add (s.c.o + d)⟩ Φ) : HOps P X ops (o :: rest) k s Φ := by
  intro i hi σ w a hR
  obtain ⟨ho', hrest⟩ := ops_at hi
  have hv := V_evO hR x
  rw [hx] at hv
  have hv : a.eval x = .string str := hv
  have ht := TO.ty t
  rw [hT] at ht; simp only [tyOk] at ht
  have hu : (execOp a.eval o).run P w = .ok (.value (.pointer (some ⟨w.heap.size, 0, none⟩))) { w with heap := w.heap.push (.stringIter str 0) } := by
    simp [execOp, ho, hv, Instr.range, run_underlying ht]
  have hnew := R_new (w' := { w with heap := w.heap.push (.stringIter str 0) }) (n := s.c.o + d) (o := .stringIter str 0) (x := .iter str 0) (dst := some d) (sv := .ptr (s.c.o + d) s.c.c 0) (v := .pointer (some ⟨w.heap.size, 0, none⟩)) hR hn rfl ⟨rfl, rfl, rfl⟩
    ⟨w.heap.size, by simp [bind1], by simp⟩ ⟨Lim.ok_new _ _, fun _ => ⟨w.heap.size, by simp [bind1], rfl⟩⟩
  rw [List.length_cons, List.range'_succ]
  refine Fins.opValue (v := .pointer (some ⟨w.heap.size, 0, none⟩)) ho' (by simp [Region.wanted, hg]) (.inl hu) ((h (i + 1) hrest).after ?_ hnew.2)
  rw [hd]
  exact hnew.1

/-- An iterator goes on. -/
theorem R_iter {X : Ctx} {s : St} {σ : Env} {w w' : World} {a : Act} (hR : R X s σ w a) {n g B : Nat} {x x' : Blk} {dst : Option Nat} {sv : SV} {v : Value} {ob : Obj} (hn : fnd s.b n = some (g, x)) (hB : σ n = some B) (hold : ∀ cs t fr, w.heap[B]? ≠ some (.cells cs t fr))
    (hw : w' = { w with heap := w.heap.setIfInBounds B ob }) (hx : BlkOk X (upd s.b n g x') s.c σ w' n x') (hv : V X (upd s.b n g x') s.c σ w' sv v) :
    R X ⟨setD s.t dst sv, upd s.b n g x', s.c⟩ σ w' (a.put dst v) ∧ Tr X s.b s.c σ w (upd s.b n g x') s.c σ w' := by
  have hother : ∀ B', B' ≠ B → w'.heap[B']? = w.heap[B']? := fun B' h => by subst hw; simp [Array.getElem?_setIfInBounds, h.symm]
  have hsize : w'.heap.size = w.heap.size := by subst hw; simp
  have hgB := (hR.bl n g x hn).2.2 B hB
  have T : Tr X s.b s.c σ w (upd s.b n g x') s.c σ w' := by
    refine ⟨fun _ _ h => h, ?_, ?_, ?_⟩
    · rintro m g0 ⟨y, hy⟩ _
      rw [fnd_upd] at hy
      split at hy
      · rename_i e; subst e
        simp only [Option.some.injEq, Prod.mk.injEq] at hy
        exact ⟨⟨x, by rw [hn, hy.1]⟩, rfl⟩
      · exact ⟨⟨y, hy⟩, rfl⟩
    · intro tag B0 hv0
      have hne : B0 ≠ B := by
        rintro rfl
        rcases hv0.2 with ⟨_, h⟩ | ⟨_, h⟩
        · obtain ⟨h1, h2⟩ := hR.ro _ h
          rcases hgB.2 with h3 | h3
          · exact h2 h3
          · omega
        · exact h ⟨n, _, hn, hB⟩
      refine ⟨hother B0 hne, by rw [hsize]; exact hv0.1, hv0.2.imp id fun h => ⟨h.1, ?_⟩⟩
      rintro ⟨m, y, hy, hs⟩
      rw [fnd_upd] at hy
      split at hy
      · rename_i e; subst e; exact h.2 ⟨m, _, hn, hs⟩
      · exact h.2 ⟨m, y, hy, hs⟩
    · intro m g0 B0 hl hg0 hs0
      by_cases e : B0 = B
      · subst e
        have : blockSize w B0 = 0 := by
          unfold blockSize
          split
          · rename_i hh; exact absurd hh (hold _ _ _)
          · rfl
        omega
      · simp only [blockSize, hother B0 e]; exact Nat.le_refl _
  have ht := put_tm (dst := dst) hR.sz (fun i hi => (hR.tm i hi).tr T) hv
  refine ⟨?_, T⟩
  have hf : ∀ m y, fnd (upd s.b n g x') m = some y → (m = n ∧ y = (g, x')) ∨ (m ≠ n ∧ fnd s.b m = some y) := by
    intro m y hy
    rw [fnd_upd] at hy
    by_cases e : m = n
    · rw [if_pos e] at hy; simp at hy; exact .inl ⟨e, hy.symm⟩
    · rw [if_neg e] at hy; exact .inr ⟨e, hy⟩
  have hf2 : ∀ m y, fnd (upd s.b n g x') m = some y → ∃ z, fnd s.b m = some z := by
    intro m y hy
    rcases hf m y hy with ⟨rfl, _⟩ | ⟨_, h⟩
    · exact ⟨_, hn⟩
    · exact ⟨_, h⟩
  refine ⟨ht.1, ht.2, ?_, ?_, ?_, ?_, ?_, hR.ro, hR.gl⟩
  · cases dst <;> exact hR.df
  · intro m g0 y hy
    rcases hf m _ hy with ⟨rfl, e⟩ | ⟨hne, hy⟩
    · simp only [Prod.mk.injEq] at e
      obtain ⟨rfl, rfl⟩ := e
      refine ⟨(hR.bl m _ x hn).1, hx, fun B' hB' => ?_⟩
      rw [hsize]
      exact (hR.bl m _ x hn).2.2 B' hB'
    · obtain ⟨h1, h2, h3⟩ := hR.bl m g0 y hy
      refine ⟨h1, h2.tr T rfl (fun B' hB' => ?_), fun B' hB' => by rw [hsize]; exact h3 B' hB'⟩
      refine hother B' ?_
      rintro rfl
      exact hne (hR.inj m n _ _ _ hy hn hB' hB)
  · intro m m' y y' B' hy hy' hs1 hs2
    obtain ⟨z, hz⟩ := hf2 m _ hy
    obtain ⟨z', hz'⟩ := hf2 m' _ hy'
    exact hR.inj m m' z z' B' hz hz' hs1 hs2
  · refine ⟨by rw [hsize]; exact hR.fr.1, fun B' hB' hm => ?_⟩
    rw [← hR.fr.2 B' hB' hm]
    refine hother B' ?_
    rintro rfl
    rcases hgB.2 with h3 | h3
    · exact hm h3
    · omega
  · subst hw; exact hR.st

/-- The next letter, if there is one. -/
theorem next_ops {P : Program} {X : Ctx} {ops : Array Oper} {o : Oper} {rest : List Oper} {k : List Item} {s : St} {Φ : St → Prop} {it : Operand} {d n g p : Nat} {str : ByteArray}
    (ho : o.op = .next it true) (hg : o.guard = none) (hd : o.dst = some d) (hit : evO s.t it = .ptr n g 0) (hn : fnd s.b n = some (g, .iter str p))
    (h1 : p < str.size → HOps P X ops rest k ⟨s.t.set d (.tup [.bool true, .int .i64 p, .int .i32 (Utf8.decode str p).1]), upd s.b n g (.iter str (p + (Utf8.decode str p).2)), s.c⟩ Φ)
    (h2 : ¬ p < str.size → HOps P X ops rest k ⟨s.t.set d (.tup [.bool false]), s.b, s.c⟩ Φ) : HOps P X ops (o :: rest) k s Φ := by
  intro i hi σ w a hR
  obtain ⟨ho', hrest⟩ := ops_at hi
  have hv := V_evO hR it
  rw [hit] at hv
  obtain ⟨_, hv⟩ := (hv : s.c.ok n g ∧ (Live s.b n g → ∃ B, σ n = some B ∧ a.eval it = .pointer (some ⟨B, 0, none⟩)))
  obtain ⟨B, hB, hv⟩ := hv ⟨_, hn⟩
  obtain ⟨B', hB', hheap⟩ := (hR.bl n g _ hn).2.1
  obtain rfl := Option.some.inj (hB.symm.trans hB')
  rw [List.length_cons, List.range'_succ]
  have hBs : B < w.heap.size := ((hR.bl n g _ hn).2.2 B hB).1
  by_cases hp : p < str.size
  · have hu : (execOp a.eval o).run P w = .ok (.value (.tuple #[.bool true, .int .i64 p, .int .i32 (Utf8.decode str p).1])) { w with heap := w.heap.setIfInBounds B (.stringIter str (p + (Utf8.decode str p).2)) } := by
      simp [execOp, ho, hv, Instr.next, getObj, setObj, Sem.run, hheap, hp, goInt, Result.andThen]
    have hit := R_iter (w' := { w with heap := w.heap.setIfInBounds B (.stringIter str (p + (Utf8.decode str p).2)) }) (n := n) (g := g) (B := B) (x := .iter str p) (x' := .iter str (p + (Utf8.decode str p).2)) (dst := some d) (sv := .tup [.bool true, .int .i64 p, .int .i32 (Utf8.decode str p).1]) (v := .tuple #[.bool true, .int .i64 p, .int .i32 (Utf8.decode str p).1]) hR hn hB
      (fun cs t fr hh => by rw [hheap] at hh; cases hh) rfl ⟨B, hB, by simp [hBs]⟩ ⟨_, rfl, _, _, rfl, rfl, _, _, rfl, rfl, _, _, rfl, rfl, rfl⟩
    refine Fins.opValue (v := .tuple #[.bool true, .int .i64 p, .int .i32 (Utf8.decode str p).1]) ho' (by simp [Region.wanted, hg]) (.inl hu) ((h1 hp (i + 1) hrest).after ?_ hit.2)
    rw [hd]
    exact hit.1
  · have hu : (execOp a.eval o).run P w = .ok (.value (.tuple #[.bool false])) w := by
      simp [execOp, ho, hv, Instr.next, getObj, setObj, Sem.run, hheap, hp, goInt, Result.andThen]
    refine Fins.opValue (v := .tuple #[.bool false]) ho' (by simp [Region.wanted, hg]) (.inl hu) ((h2 hp (i + 1) hrest).after ?_ Tr.refl)
    rw [hd]
    exact R_set hR (dst := some d) (sv := .tup [.bool false]) (show V X s.b s.c σ w _ _ from ⟨_, rfl, _, _, rfl, rfl, rfl⟩)

/-- Bytes, as a string. -/
theorem bytes_str {P : Program} {w : World} {src dst e : TypeId} (hs : P.underlying src = some (.slice e)) (he : P.underlying e = some (.int .u8)) (hd : P.underlying dst = some .string) {a : Option Addr} {len cap : Nat} {l : List Int} (hl : l.length = len)
    (h : len ≠ 0 → ∃ B o, a = some ⟨B, o, none⟩ ∧ ∀ i, i < len → w.cell? ⟨B, o + i, none⟩ = some (.int .u8 (l.getD i 0))) : (convert src dst (.slice a len cap)).run P w = .ok (.string (strOfNums l)) w := by
  by_cases h0 : len = 0
  · subst h0
    have : l = [] := List.eq_nil_of_length_eq_zero hl
    subst this
    rw [run_convert_bytes_string w src dst e _ 0 cap hs he hd]
    cases a with
    | none => simp [Conv.bytesToString]; rfl
    | some ad =>
      rw [run_bytesToString w ad 0 cap [] (by simp [loadCells, loadCellsFrom]; try rfl)]
      rfl
  · obtain ⟨B, o, rfl, hc⟩ := h h0
    exact run_convert_bytes_arg w src e hs he B o len cap l hl hc dst hd

/-- An own slice of bytes, as a string. -/
theorem str_ops {P : Program} {T : Tab} {X : Ctx} (TO : TabOk P T) {ops : Array Oper} {o : Oper} {rest : List Oper} {k : List Item} {s : St} {Φ : St → Prop} {src dst e : TypeId} {x : Operand} {d n g off len : Nat} {l : List Int}
    (ho : o.op = .convert src dst x) (hg : o.guard = none) (hd : o.dst = some d) (hT : T.ty src = .slice e) (hE : T.ty e = .int .u8) (hD : T.ty dst = .string) (hx : evO s.t x = .sl n g 0 1 off len) (hn : fnd s.b n = some (g, .vec (.ints .u8 l))) (hl : off + len ≤ l.length)
    (h : HOps P X ops rest k ⟨s.t.set d (.str (strOfNums ((l.drop off).take len))), s.b, s.c⟩ Φ) : HOps P X ops (o :: rest) k s Φ := by
  intro i hi σ w a hR
  obtain ⟨ho', hrest⟩ := ops_at hi
  have hv := V_evO hR x
  rw [hx] at hv
  obtain ⟨_, hv⟩ := (hv : s.c.ok n g ∧ (Live s.b n g → ∃ ad cap, a.eval x = .slice ad len cap ∧ len ≤ cap ∧ (cap ≠ 0 → ∃ B, σ n = some B ∧ ad = some ⟨B, 0 + off * 1, none⟩ ∧ 0 + (off + cap) * 1 ≤ blockSize w B)))
  obtain ⟨ad, cap, hval, hcap, hpt⟩ := hv ⟨_, hn⟩
  have h1 := TO.ty src
  rw [hT] at h1; simp only [tyOk] at h1
  have h2 := TO.ty e
  rw [hE] at h2; simp only [tyOk] at h2
  have h3 := TO.ty dst
  rw [hD] at h3; simp only [tyOk] at h3
  have hdl : ((l.drop off).take len).length = len := by rw [List.length_take, List.length_drop]; omega
  have hu : (execOp a.eval o).run P w = .ok (.value (.string (strOfNums ((l.drop off).take len)))) w := by
    have := bytes_str (P := P) (w := w) h1 h2 h3 (a := ad) (len := len) (cap := cap) hdl (fun h0 => by
      obtain ⟨B, hB, rfl, _⟩ := hpt (by omega)
      refine ⟨B, _, rfl, fun j hj => ?_⟩
      rcases (hR.bl n g _ hn).2.1 with ⟨hno, _⟩ | ⟨B2, cs, ty, fr, hB2, hheap, _, _, hh, _⟩
      · rw [hno] at hB; cases hB
      · obtain rfl := Option.some.inj (hB.symm.trans hB2)
        obtain ⟨z, hz, hc⟩ := hh (off + j) 0 (by simp only [Data.len]; omega) (by simp [Data.esz])
        have hc : z = .int .u8 (l.getD (off + j) 0) := hc
        simp only [Data.esz] at hz
        rw [show 0 + off * 1 + j = 0 + (off + j) * 1 + 0 by omega, hz, hc]
        simp [List.getD, List.getElem?_take, List.getElem?_drop, hj])
    simp [execOp, ho, hval, this]
  rw [List.length_cons, List.range'_succ]
  refine Fins.opValue (v := .string (strOfNums ((l.drop off).take len))) ho' (by simp [Region.wanted, hg]) (.inl hu) ((h (i + 1) hrest).after ?_ Tr.refl)
  rw [hd]
  exact R_set hR (dst := some d) (sv := .str (strOfNums ((l.drop off).take len))) (show V X s.b s.c σ w _ _ from rfl)

end Go.Proofs.YtdhnjmepgafeiaaDoor.Abs

/- OWN LIBRARY: a block of a slice gets another name. -/
set_option linter.unusedVariables false
set_option linter.unusedSimpArgs false
namespace Go.Proofs.YtdhnjmepgafeiaaDoor.Abs
open Go

theorem put_same {X : Ctx} {s : St} {σ : Env} {w : World} {a : Act} (hR : R X s σ w a) {i : Nat} (hi : i < s.t.length) : a.put (some i) (a.tmps.getD i undef) = a := by
  have hi' : i < a.tmps.size := by rw [hR.sz]; exact hi
  obtain ⟨tm, df⟩ := a
  simp only [Act.put]
  congr 1
  apply Array.ext_getElem?
  intro j
  rw [Array.getElem?_setIfInBounds]
  have hi'' : i < tm.size := hi'
  by_cases e : i = j
  · subst e; simp [Array.getD, hi'']
  · simp [e]

theorem Wrote.same {B : Nat} {w : World} {cs : Array Value} {t : TypeId} {fr : Nat × Nat} (h : w.heap[B]? = some (.cells cs t fr)) : Wrote B w w cs t fr :=
  ⟨h, fun _ _ => rfl, rfl, ⟨rfl, rfl, rfl⟩⟩

theorem named_lt {X : Ctx} {s : St} {σ : Env} {w : World} {a : Act} (hR : R X s σ w a) {n : Nat} {y : Nat × Blk} (h : fnd s.b n = some y) : s.c.ok n y.1 ∧ BlkOk X s.b s.c σ w n y.2 := by
  obtain ⟨g, x⟩ := y
  obtain ⟨h1, h2, _⟩ := hR.bl n g x h
  exact ⟨h1, h2⟩

/-- The slice of a slot and its block, under another name. -/
theorem ren_go {P : Program} {X : Ctx} {todo : List Item} {s : St} {Φ : St → Prop} (i n m : Nat) {g e len : Nat} {d : Data} (ht : i < s.t.length ∧ s.t.getD i .any = .sl n g 0 e 0 len ∧ fnd s.b n = some (g, .vec d))
    (h : HRun P X todo ⟨s.t.set i (.sl m (s.c.c + 1) 0 e 0 len), mv s.b n m (s.c.c + 1) (.vec d), ⟨s.c.c + 1 + 1, [], s.c.o⟩⟩ Φ) : HRun P X todo s Φ := by
  intro σ w a hR
  obtain ⟨hi, hti, hn⟩ := ht
  have hR1 := R_bump (o := s.c.o) hR
  have hv := hR1.tm i hi
  have ht2 : (⟨s.t, s.b, ⟨s.c.c + 1, [], s.c.o⟩⟩ : St).t.getD i .any = .sl n g 0 e 0 len := hti
  rw [ht2] at hv
  obtain ⟨hok, hlive⟩ : (⟨s.c.c + 1, [], s.c.o⟩ : Lim).ok n g ∧ (Live s.b n g → _) := hv
  obtain ⟨va, cap, hval, hcap, hroom⟩ := hlive ⟨_, hn⟩
  have hput := put_same hR1 (i := i) hi
  obtain ⟨_, hblk, hown⟩ := hR1.bl n g (.vec d) hn
  have fin : ∀ σ', R X ⟨setD s.t (some i) (.sl m (s.c.c + 1) 0 e 0 len), mv s.b n m (s.c.c + 1) (.vec d), (⟨s.c.c + 1, [], s.c.o⟩ : Lim).add m⟩ σ' w a → Tr X s.b ⟨s.c.c + 1, [], s.c.o⟩ σ w (mv s.b n m (s.c.c + 1) (.vec d)) ((⟨s.c.c + 1, [], s.c.o⟩ : Lim).add m) σ' w →
      Fins P todo a w fun a' w' => ∃ s' σ', Φ s' ∧ R X s' σ' w' a' ∧ Tr X s.b s.c σ w s'.b s'.c σ' w' := by
    intro σ' hR2 hT2
    have hR3 := R_bump (o := s.c.o) hR2
    refine (h _ w a hR3).mono fun a' w' ⟨s', σ', h1, h2, h3⟩ => ⟨s', σ', h1, h2, ?_⟩
    exact (Tr_bump (o := s.c.o)).trans (hT2.trans ((Tr_bump (s := ⟨s.t, mv s.b n m (s.c.c + 1) (.vec d), (⟨s.c.c + 1, [], s.c.o⟩ : Lim).add m⟩) (o := s.c.o)).trans h3))
  rcases hblk with ⟨hs, hd⟩ | ⟨B, cs, t, fr, hs, hheap, hfree, hsz, hholds, hfit⟩
  · -- nothing there
    have hc0 : cap = 0 := by
      by_cases hc : cap = 0
      · exact hc
      · obtain ⟨B, hB, _⟩ := hroom hc
        have hB : σ n = some B := hB
        rw [hs] at hB; cases hB
    obtain ⟨hR2, hT2⟩ := R_none (n := m) (x := .vec d) (dst := some i) (sv := .sl m (s.c.c + 1) 0 e 0 len) (v := a.tmps.getD i undef) (hR1.drop (b := del s.b n) (fun k x hk => by
        rw [fnd_del] at hk
        split at hk
        · cases hk
        · exact hk)) (by simp)
      (.inl ⟨by simp, hd⟩) ⟨Lim.ok_new _ _, fun _ => ⟨va, cap, hval, hcap, fun hc => absurd hc0 hc⟩⟩
    rw [hput] at hR2
    refine fin _ hR2 ?_
    refine (Tr_del n).trans ?_
    exact hT2
  · obtain ⟨hR2, hT2⟩ := R_mv (n := n) (m := m) (x' := .vec d) (dst := some i) (sv := .sl m (s.c.c + 1) 0 e 0 len) (v := a.tmps.getD i undef) hR1 hn hs (by simp) hheap (Wrote.same hheap) rfl
      (by
        have T := Tr_mv (x' := .vec d) hR1 hn hs (show m ∉ (⟨s.c.c + 1, [], s.c.o⟩ : Lim).d by simp) hheap (Wrote.same hheap) rfl
        refine .inr ⟨B, cs, t, fr, by simp [bind1], hheap, hfree, hsz, ?_, hfit⟩
        exact hholds.tr T rfl)
      ⟨Lim.ok_new _ _, fun _ => ⟨va, cap, hval, hcap, fun hc => by
        obtain ⟨B', hB', ha, hb⟩ := hroom hc
        have hB' : σ n = some B' := hB'
        rw [hs] at hB'
        cases hB'
        exact ⟨B, by simp [bind1], ha, hb⟩⟩⟩
    rw [hput] at hR2
    exact fin _ hR2 hT2

theorem ren_ops {P : Program} {X : Ctx} {ops : Array Oper} {rest : List Oper} {k : List Item} {s : St} {Φ : St → Prop} (i n m : Nat) {g e len : Nat} {d : Data} (ht : i < s.t.length ∧ s.t.getD i .any = .sl n g 0 e 0 len ∧ fnd s.b n = some (g, .vec d))
    (h : HOps P X ops rest k ⟨s.t.set i (.sl m (s.c.c + 1) 0 e 0 len), mv s.b n m (s.c.c + 1) (.vec d), ⟨s.c.c + 1 + 1, [], s.c.o⟩⟩ Φ) : HOps P X ops rest k s Φ :=
  fun j hj => ren_go i n m ht (h j hj)

end Go.Proofs.YtdhnjmepgafeiaaDoor.Abs

/- OWN LIBRARY: what a function does to memory that its caller holds (InC); in plain regions and in drawn ones. -/
set_option linter.unusedVariables false
set_option linter.unusedSimpArgs false
namespace Go.Proofs.YtdhnjmepgafeiaaDoor.Abs
open Go

section
variable {P : Program} {T : Tab} {X : Ctx} {s : St} {σ : Env} {w : World} {a : Act}

theorem ok_raise {l : Lim} {c1 o n g : Nat} (hc : l.c < c1) (h : l.ok n g) : Lim.ok ⟨c1, [], o⟩ n g := by
  rcases h with h | ⟨h, _⟩
  · exact .inl (by simp only; omega)
  · exact .inl (by simp only; omega)

theorem Tr_raise {b : List (Nat × Nat × Blk)} {c : Lim} {c1 o : Nat} (hc : c.c < c1) : Tr X b c σ w b ⟨c1, [], o⟩ σ w :=
  ⟨fun _ _ => ok_raise hc, fun n g h _ => ⟨h, rfl⟩, fun tag B hv => ⟨rfl, hv⟩, fun _ _ _ _ _ _ => Nat.le_refl _⟩

theorem R_raise {c1 o : Nat} (hR : R X s σ w a) (hc : s.c.c < c1) : R X ⟨s.t, s.b, ⟨c1, [], o⟩⟩ σ w a := by
  have hT : Tr X s.b s.c σ w s.b ⟨c1, [], o⟩ σ w := Tr_raise hc
  exact { hR with
    tm := fun i hi => (hR.tm i hi).tr hT
    bl := fun n g x hx => let ⟨h1, h2, h3⟩ := hR.bl n g x hx; ⟨ok_raise hc h1, h2.tr hT rfl (fun _ _ => rfl), h3⟩ }

/-- Slots are counted from elsewhere. -/
theorem R_off {o : Nat} (hR : R X s σ w a) : R X ⟨s.t, s.b, ⟨s.c.c, s.c.d, o⟩⟩ σ w a := by
  have hT : Tr X s.b s.c σ w s.b ⟨s.c.c, s.c.d, o⟩ σ w := ⟨fun _ _ h => h, fun _ _ h _ => ⟨h, rfl⟩, fun _ _ h => ⟨rfl, h⟩, fun _ _ _ _ _ _ => Nat.le_refl _⟩
  exact { hR with
    tm := fun i hi => (hR.tm i hi).tr hT
    bl := fun n g x hx => let ⟨h1, h2, h3⟩ := hR.bl n g x hx; ⟨h1, h2.tr hT rfl (fun _ _ => rfl), h3⟩ }

/-- The contract of a function that works on memory of its caller: what is told behind it, and what it answers. -/
def InC (P : Program) (X : Ctx) (f : FuncId) (args : List SV) (b : List (Nat × Nat × Blk)) (c0 : Nat) (x : SV) (b' : List (Nat × Nat × Blk)) (c1 : Nat) : Prop :=
  ∀ (σ : Env) (w : World) (vals : Array Value), R X ⟨args, b, ⟨c0, [], 0⟩⟩ σ w ⟨vals, []⟩ →
    Calls P f vals w fun e w' => ∃ v σ', e = .returned v ∧ V2 X b' ⟨c1, [], 0⟩ σ' w' x v ∧ R X ⟨[], b', ⟨c1, [], 0⟩⟩ σ' w' ⟨#[], []⟩ ∧ Tr X b ⟨c0, [], 0⟩ σ w b' ⟨c1, [], 0⟩ σ' w'

/-- Alike, but for nothing told as an empty part. -/
def rI (y x : SV) : Prop :=
  match y, x with
  | .nil, .view t d => d.len = 0
  | y, x => y = x

theorem rI_ok {b : List (Nat × Nat × Blk)} {c : Lim} {y x : SV} {v : Value} (h : rI y x) (hv : V2 X b c σ w y v) : V2 X b c σ w x v := by
  unfold rI at h
  split at h
  · rename_i t d
    have hv : v = .slice none 0 0 := hv
    subst hv
    show IsView _ _ _ _ _
    exact ⟨none, 0, by rw [h], by rw [h]; exact Nat.le_refl _, fun h0 => absurd h h0⟩
  · subst h; exact hv

theorem rI_ok1 {b : List (Nat × Nat × Blk)} {c : Lim} {y x : SV} {v : Value} (h : rI y x) (hv : V1 X b c σ w y v) : V1 X b c σ w x v := by
  unfold rI at h
  split at h
  · rename_i t d
    have hv : v = .slice none 0 0 := hv
    subst hv
    show IsView _ _ _ _ _
    exact ⟨none, 0, by rw [h], by rw [h]; exact Nat.le_refl _, fun h0 => absurd h h0⟩
  · subst h; exact hv

def retC (T : Tab) (rv : Array ResultVar) (x : SV) (b' : List (Nat × Nat × Blk)) (c1 : Nat) (s' : St) : Prop :=
  SubB b' s'.b ∧ s'.c.c < c1 ∧
  match rv.toList.map (resV T s') with
  | [] => x = .tup []
  | [some (p, y)] => p ∧ rI y x ∧ flatV y = true
  | [some (p, y), some (q, z)] => p ∧ q ∧ (match x with | .tup [x1, x2] => rI y x1 ∧ rI z x2 | _ => False) ∧ flat1 y = true ∧ flat1 z = true
  | _ => False

theorem R_tm0 {b' : List (Nat × Nat × Blk)} {c1 o1 : Nat} (hR : R X s σ w a) (hc : s.c.c < c1) (hb : SubB b' s.b) : R X ⟨[], b', ⟨c1, [], o1⟩⟩ σ w ⟨#[], []⟩ := by
  have h1 := (R_raise (c1 := c1) (o := o1) hR hc).drop (b := b') hb
  exact { h1 with sz := rfl, tm := fun i hi => by simp at hi, df := rfl }

theorem Tr_sub {b b' : List (Nat × Nat × Blk)} {c : Lim} (hb : SubB b' b) : Tr X b c σ w b' c σ w := Tr.drop hb

theorem inC_go (TO : TabOk P T) (off : Nat) {f : FuncId} {fn : Func} {c : Code} {args : List SV} {b b' : List (Nat × Nat × Blk)} {c0 c1 : Nat} {x : SV} (hf : P.funcs[f]? = some fn) (hb : fn.body = some c)
    (h : HRun P X [.code c] ⟨args ++ List.replicate (fn.ntmps - args.length) .any, b, ⟨c0, [], off⟩⟩ (retC T fn.results x b' c1)) : InC P X f args b c0 x b' c1 := by
  intro σ w vals hR
  have hvs : vals.size = args.length := hR.sz
  refine calls_of_fin hf hb ?_
  have hb2 : R X ⟨args, b, ⟨c0, [], off⟩⟩ σ w ⟨vals, []⟩ := R_off hR
  have hR2 : R X ⟨args ++ List.replicate (fn.ntmps - args.length) .any, b, ⟨c0, [], off⟩⟩ σ w { tmps := vals ++ Array.replicate (fn.ntmps - vals.size) undef, defers := [] } := by
    refine { hb2 with sz := by simp [hvs], tm := fun j hj => ?_, df := rfl }
    show V X b ⟨c0, [], off⟩ σ w ((args ++ List.replicate (fn.ntmps - args.length) SV.any).getD j .any) _
    by_cases hlt : j < args.length
    · have hV := hb2.tm j hlt
      have e1 : (args ++ List.replicate (fn.ntmps - args.length) SV.any).getD j .any = args.getD j .any := by
        simp only [List.getD]; rw [List.getElem?_append_left (by omega)]
      have e2 : (vals ++ Array.replicate (fn.ntmps - vals.size) undef).getD j undef = vals.getD j undef := by
        rw [Array.getD_eq_getD_getElem?, Array.getElem?_append_left (by omega), Array.getD_eq_getD_getElem?]
      rw [e1, e2]
      exact hV
    · have e1 : (args ++ List.replicate (fn.ntmps - args.length) SV.any).getD j .any = .any := by
        simp only [List.getD]; rw [List.getElem?_append_right (by omega)]
        rw [List.getElem?_replicate]; split <;> rfl
      rw [e1]; exact V.any _
  refine (h σ w _ hR2).mono ?_
  rintro a' w' ⟨s', σ', ⟨hsub, hcc, hi⟩, hR', hT'⟩
  refine ⟨hR'.df, ?_⟩
  have hT : Tr X b ⟨c0, [], 0⟩ σ w b' ⟨c1, [], 0⟩ σ' w' := by
    have t1 : Tr X b ⟨c0, [], 0⟩ σ w b ⟨c0, [], off⟩ σ w := ⟨fun _ _ h => h, fun _ _ h _ => ⟨h, rfl⟩, fun _ _ h => ⟨rfl, h⟩, fun _ _ _ _ _ _ => Nat.le_refl _⟩
    exact t1.trans (hT'.trans ((Tr_raise hcc).trans (Tr_sub hsub)))
  have tv : Tr X s'.b s'.c σ' w' b' ⟨c1, [], 0⟩ σ' w' := (Tr_raise hcc).trans (Tr_sub hsub)
  obtain ⟨rv, hrv⟩ : ∃ l : List ResultVar, fn.results = l.toArray := ⟨fn.results.toList, by simp⟩
  rw [hrv] at hi
  match rv, hrv with
  | [], hrv =>
    simp only [List.map_nil] at hi
    subst hi
    exact ⟨.tuple #[], by simp [results, hrv], .tuple #[], σ', rfl, ⟨#[], rfl, rfl⟩, R_tm0 hR' hcc hsub, hT⟩
  | [r1], hrv =>
    simp only [List.map_cons, List.map_nil] at hi
    cases e1 : resV T s' r1 <;> simp only [e1] at hi
    rename_i q1
    obtain ⟨p1, x1⟩ := q1
    simp only at hi
    obtain ⟨v1, hr1, hv1⟩ := resV_ok TO hR' e1 hi.1
    refine ⟨v1, run_results1 hrv hr1, v1, σ', rfl, rI_ok hi.2.1 ?_, R_tm0 hR' hcc hsub, hT⟩
    exact (V2_of_V' hv1 hi.2.2).tr tv
  | [r1, r2], hrv =>
    simp only [List.map_cons, List.map_nil] at hi
    cases e1 : resV T s' r1 <;> simp only [e1] at hi
    rename_i q1
    obtain ⟨p1, x1⟩ := q1
    cases e2 : resV T s' r2 <;> simp only [e2] at hi
    rename_i q2
    obtain ⟨p2, x2⟩ := q2
    simp only at hi
    obtain ⟨v1, hr1, hv1⟩ := resV_ok TO hR' e1 hi.1
    obtain ⟨v2, hr2, hv2⟩ := resV_ok TO hR' e2 hi.2.1
    obtain ⟨_, _, hx, f1, f2⟩ := hi
    split at hx
    · obtain ⟨h1, h2⟩ := hx
      exact ⟨_, run_results2 hrv hr1 hr2, _, σ', rfl, ⟨_, rfl, v1, _, rfl, rI_ok1 h1 ((V1_of_V hv1 f1).tr tv), v2, _, rfl, rI_ok1 h2 ((V1_of_V hv2 f2).tr tv), rfl⟩, R_tm0 hR' hcc hsub, hT⟩
    · exact hx.elim
  | _ :: _ :: _ :: _, hrv =>
    exfalso
    simp only [List.map_cons] at hi
    split at hi <;> simp_all

theorem inC_call (hR : R X s σ w a) {f : FuncId} {xs : List Operand} {args : List SV} {b' : List (Nat × Nat × Blk)} {c1 d : Nat} {x : SV} (hC : InC P X f args s.b (s.c.c + 1) x b' c1)
    (hgd : gdPs s.t true xs) (ha : argC s.t xs = args) :
    Calls P f (xs.map a.eval).toArray w fun e w' => ∃ v σ', e = .returned v ∧ R X ⟨s.t.set d x, b', ⟨c1, [], s.c.o⟩⟩ σ' w' (a.put (some d) v) ∧ Tr X s.b s.c σ w b' ⟨c1, [], s.c.o⟩ σ' w' := by
  have hb := R_raise (c1 := s.c.c + 1) (o := 0) hR (Nat.lt_succ_self _)
  have hlen : args.length = xs.length := by rw [← ha]; simp [argC]
  have hin : R X ⟨args, s.b, ⟨s.c.c + 1, [], 0⟩⟩ σ w ⟨(xs.map a.eval).toArray, []⟩ := by
    refine { hb with sz := by simp [hlen], tm := fun j hj => ?_, df := rfl }
    obtain ⟨y, hy⟩ : ∃ y, args[j]? = some y := ⟨args[j], by simp⟩
    obtain ⟨v, hv, hV⟩ := evalsC hR hgd (by rw [ha]; exact hy)
    have e1 : (⟨args, s.b, ⟨s.c.c + 1, [], 0⟩⟩ : St).t.getD j .any = y := by simp only [List.getD]; rw [hy]; rfl
    have e2 : ((xs.map a.eval).toArray).getD j undef = v := by
      rw [Array.getD_eq_getD_getElem?, List.getElem?_toArray, hv]; rfl
    show V X s.b ⟨s.c.c + 1, [], 0⟩ σ w (args.getD j .any) (((xs.map a.eval).toArray).getD j undef)
    rw [show args.getD j .any = y from e1, e2]
    exact V_of_V2 (hV.tr (Tr_raise (Nat.lt_succ_self _)))
  refine (hC σ w _ hin).mono ?_
  rintro e w' ⟨v, σ', rfl, hv, hR', hT⟩
  have hT2 : Tr X s.b s.c σ w b' ⟨c1, [], s.c.o⟩ σ' w' := by
    have t1 : Tr X b' ⟨c1, [], 0⟩ σ' w' b' ⟨c1, [], s.c.o⟩ σ' w' := ⟨fun _ _ h => h, fun _ _ h _ => ⟨h, rfl⟩, fun _ _ h => ⟨rfl, h⟩, fun _ _ _ _ _ _ => Nat.le_refl _⟩
    exact (Tr_raise (Nat.lt_succ_self _)).trans (hT.trans t1)
  have t3 : Tr X b' ⟨c1, [], 0⟩ σ' w' b' ⟨c1, [], s.c.o⟩ σ' w' := ⟨fun _ _ h => h, fun _ _ h _ => ⟨h, rfl⟩, fun _ _ h => ⟨rfl, h⟩, fun _ _ _ _ _ _ => Nat.le_refl _⟩
  have ht := put_tm (dst := some d) hR.sz (fun i hi => (hR.tm i hi).tr hT2) (V_of_V2 (hv.tr t3))
  have hR2 := R_off (o := s.c.o) hR'
  exact ⟨v, σ', rfl, { hR2 with sz := ht.1, tm := ht.2, df := hR.df }, hT2⟩

theorem inC_ops (TO : TabOk P T) {ops : Array Oper} {o : Oper} {rest : List Oper} {k : List Item} {Φ : St → Prop} {f : FuncId} {fn : Func} {xs : Array Operand} {ts : Array TypeId} {d : Nat} {args : List SV} {b' : List (Nat × Nat × Blk)} {c1 : Nat} {x : SV} (n : Nat)
    (hC : InC P X f args s.b (s.c.c + 1) x b' c1) (hf : P.funcs[f]? = some fn) (hname : (fn.name == "runtime.NumGoroutine") = false) (hb : fn.body.isSome = true)
    (ho : o.op = .call { callee := .value (.func f), args := xs, argTypes := ts }) (hd : o.dst = some d)
    (h : (argC s.t xs.toList = args ∧ guardIs ops s.t true o.guard ∧ gdPs s.t true xs.toList) ∧ absOps P X T ops k Φ (absRun P X T Φ n k) rest ⟨s.t.set d x, b', ⟨c1, [], s.c.o⟩⟩) : HOps P X ops (o :: rest) k s Φ := by
  obtain ⟨⟨ha, hg, hgd⟩, h⟩ := h
  intro i hi σ w a hR
  obtain ⟨ho', hrest⟩ := ops_at hi
  have hw : Region.wanted o (yielded ops a.tmps) = true := by
    cases e : o.guard with
    | none => simp [Region.wanted, e]
    | some jw => obtain ⟨j, w'⟩ := jw; rw [e] at hg; simp only [Region.wanted, e]; exact guardOf_ok hR hg
  rw [List.length_cons, List.range'_succ]
  refine Fins.opCall (f := f) (args := (xs.toList.map a.eval).toArray) (w' := w) ho' hw ?_ ?_
  · simp only [execOp, ho, resolve]
    have e1 : a.eval (.func f) = .func (.func f) #[] #[] := rfl
    have e2 : (xs.toList.map a.eval).toArray = xs.map a.eval := Array.ext' (by rw [Array.toList_map])
    simp [e1, Deferred.ofValue, invoke, run_callFunc hf hb hname, e2]
  · refine (inC_call (d := d) hR hC hgd ha).mono ?_
    rintro e w' ⟨v, σ', rfl, hR', hT⟩
    exact ⟨v, rfl, by rw [hd]; exact (HOps_go TO n h (i + 1) hrest).after hR' hT⟩

theorem argC_agree {ops : Array Oper} {o : Oper} {t t' : List SV} {f : FuncId} {xs : Array Operand} {ts : Array TypeId} (hag : Agree ops o t t') (ho : o.op = .call { callee := .value (.func f), args := xs, argTypes := ts }) :
    argC t' xs.toList = argC t xs.toList ∧ (gdPs t true xs.toList → gdPs t' true xs.toList) := by
  have hargs := gdPs_args hag ho
  refine ⟨?_, fun h => by rw [gdPs_agree hargs]; exact h⟩
  unfold argC
  exact List.map_congr_left fun x hx => by rw [hargs x hx]

/-- In a region that draws its order: blocks of a family stay of it. -/
def absI {α : Type} (P : Program) (X : Ctx) (T : Tab) (ops : Array Oper) (F : α → List (Nat × Nat × Blk)) (Q next : St → Prop) : List Oper → St → Prop
  | [], s => next s
  | o :: rest, s => match isEff T o.op with
    | false => match pureStep T ops s.t s.b o with
      | some (p, x) => (∀ y, pureStep T ops s.t (F y) o = some (p, x)) ∧ p ∧ absI P X T ops F Q next rest ⟨setD s.t o.dst x, s.b, s.c⟩
      | none => lexT P X T ops (fun b => ∃ y, SubB (F y) b) Q (o :: rest) s
    | true => match absOp T ops s o with
      | .go p s' => p ∧ (∃ y, subB (F y) s'.b) ∧ absI P X T ops F Q next rest s'
      | .stop => lexT P X T ops (fun b => ∃ y, SubB (F y) b) Q (o :: rest) s

theorem absI_ok (TO : TabOk P T) {α : Type} {ops : Array Oper} {F : α → List (Nat × Nat × Blk)} {Q next : St → Prop} (hn : ∀ s, next s → Q s) : ∀ (rest : List Oper) (s : St), absI P X T ops F Q next rest s → lexT P X T ops (fun b => ∃ y, SubB (F y) b) Q rest s
  | [], s, h => hn s h
  | o :: rest, s, h => by
    unfold absI at h
    cases e : isEff T o.op with
    | false =>
      simp only [e] at h
      cases e2 : pureStep T ops s.t s.b o with
      | none => simp only [e2] at h; exact h
      | some r =>
        obtain ⟨p, x⟩ := r
        simp only [e2] at h
        unfold lexT
        rw [e]
        refine ⟨x, ?_, absI_ok TO hn rest _ h.2.2⟩
        intro t' b' c' hag ⟨y, hsub⟩ σ w a hR
        have h1 : pureStep T ops t' b' o = some (p, x) := by rw [pureStep_agree hag]; exact pureStep_sub hsub (h.1 y)
        have h2 := pureStep_abs (s := ⟨t', b', c'⟩) h1
        rcases absOp_ok TO hR h2 h.2.1 with h3 | h3
        · exact .inl h3
        · exact .inr (.inl h3)
    | true =>
      simp only [e] at h
      cases e2 : absOp T ops s o with
      | stop => simp only [e2] at h; exact h
      | go p s' =>
        simp only [e2] at h
        have hl := absOp_loc (T := T) (ops := ops) (o := o) (t := s.t) (t' := s.t) (b := s.b) (c := s.c) Agree.refl
        rw [e2] at hl
        obtain ⟨x, b', c', rfl, _⟩ := hl
        unfold lexT
        rw [e]
        obtain ⟨hp, ⟨y, hy⟩, h⟩ := h
        refine ⟨x, b', c', fun t' hag σ w a hR => ?_, ⟨y, subB_ok hy⟩, absI_ok TO hn rest _ h⟩
        have hl := absOp_loc (T := T) (ops := ops) (o := o) (t := s.t) (t' := t') (b := s.b) (c := s.c) hag
        rw [e2] at hl
        obtain ⟨x2, b2, c2, h1, h2⟩ := hl
        have hx : absOp T ops ⟨t', s.b, s.c⟩ o = .go p ⟨setD t' o.dst x, b', c'⟩ := by
          rw [h2]
          simp only [St.mk.injEq] at h1
          obtain ⟨h3, rfl, rfl⟩ := h1
          congr 2
          cases ed : o.dst with
          | none => rfl
          | some d =>
            simp only [ed, setD] at h3 ⊢
            by_cases hd : d < s.t.length
            · have := congrArg (fun l : List SV => l[d]?) h3
              simp [hd] at this
              rw [this]
            · have h4 : t'.length ≤ d := by rw [hag.1]; exact Nat.le_of_not_lt hd
              rw [List.set_eq_of_length_le h4, List.set_eq_of_length_le h4]
        rcases absOp_ok TO hR hx hp with h3 | h3
        · exact .inl h3
        · exact .inr (.inl h3)

theorem callI_go (TO : TabOk P T) {α : Type} {ops : Array Oper} {F : α → List (Nat × Nat × Blk)} {Q next : St → Prop} (hn : ∀ s, next s → Q s) {o : Oper} {rest : List Oper} {f : FuncId} {fn : Func} {xs : Array Operand} {ts : Array TypeId} {d : Nat} {args : List SV} {b' : List (Nat × Nat × Blk)} {c1 : Nat} {x : SV}
    (hC : InC P X f args s.b (s.c.c + 1) x b' c1) (hf : P.funcs[f]? = some fn) (hname : (fn.name == "runtime.NumGoroutine") = false) (hb : fn.body.isSome = true)
    (ho : o.op = .call { callee := .value (.func f), args := xs, argTypes := ts }) (hd : o.dst = some d)
    (h : (argC s.t xs.toList = args ∧ guardIs ops s.t true o.guard ∧ gdPs s.t true xs.toList) ∧ (∃ y, subB (F y) b') ∧ absI P X T ops F Q next rest ⟨s.t.set d x, b', ⟨c1, [], s.c.o⟩⟩) :
    lexT P X T ops (fun b => ∃ y, SubB (F y) b) Q (o :: rest) s := by
  obtain ⟨⟨ha, hg, hgd⟩, ⟨y, hy⟩, h⟩ := h
  have he : isEff T o.op = true := by rw [ho]; rfl
  unfold lexT
  rw [he]
  refine ⟨x, b', ⟨c1, [], s.c.o⟩, fun t' hag σ w a hR => ?_, ⟨y, subB_ok hy⟩, ?_⟩
  · obtain ⟨hA, hG⟩ := argC_agree hag ho
    have hw : Region.wanted o (yielded ops a.tmps) = true := by
      cases e : o.guard with
      | none => simp [Region.wanted, e]
      | some jw =>
        obtain ⟨j, w'⟩ := jw
        rw [e] at hg
        simp only [Region.wanted, e]
        exact guardOf_ok (s := ⟨t', s.b, s.c⟩) hR (by rw [guardOf_agree hag e]; exact hg)
    refine .inr (.inr ⟨hw, f, (xs.toList.map a.eval).toArray, ?_, ?_⟩)
    · simp only [execOp, ho, resolve]
      have e1 : a.eval (.func f) = .func (.func f) #[] #[] := rfl
      have e2 : (xs.toList.map a.eval).toArray = xs.map a.eval := Array.ext' (by rw [Array.toList_map])
      simp [e1, Deferred.ofValue, invoke, run_callFunc hf hb hname, e2]
    · rw [hd]
      exact inC_call (s := ⟨t', s.b, s.c⟩) (d := d) hR hC (hG hgd) (hA.trans ha)
  · have := absI_ok TO hn rest _ h
    rw [hd]
    exact this

theorem drawI_go (TO : TabOk P T) {α : Type} (F : α → List (Nat × Nat × Blk)) (m n : Nat) {id : Nat} {ops : Array Oper} {k : List Item} {Φ : St → Prop} (hm : P.follows .mixedOrders = true) (hok : drawOk T ops m = true)
    (h : (∃ y, subB (F y) s.b) ∧ absI P X T ops F (fun s' => HOps P X ops (ops.toList.drop m) k s' Φ) (absOps P X T ops k Φ (absRun P X T Φ n k) (ops.toList.drop m)) (ops.toList.take m) ⟨s.t, s.b, ⟨s.c.c + 1, [], s.c.o⟩⟩) :
    HRun P X (.code (.region id ops true) :: k) s Φ := by
  obtain ⟨⟨y, hy⟩, h⟩ := h
  exact HRun_drawI (fun b => ∃ y, SubB (F y) b) hm hok ⟨y, subB_ok hy⟩ (absI_ok TO (fun s' hs => HOps_go TO n hs) _ _ h)

/-- A block written over: what was told of the others still holds; of itself, if it is as it was. -/
theorem SubB_same {b : List (Nat × Nat × Blk)} {n g : Nat} {x : Blk} (h : fnd b n = some (g, x)) : SubB (upd b n g x) b := by
  intro m y hy
  rw [fnd_upd] at hy
  split at hy
  · rename_i e; subst e; rw [h]; exact hy
  · exact hy
theorem SubB_refl {b : List (Nat × Nat × Blk)} : SubB b b := fun _ _ h => h

theorem SubB_new {b : List (Nat × Nat × Blk)} {n g : Nat} {x : Blk} (h : fnd b n = none) : SubB b (upd b n g x) := by
  intro m y hy
  rw [fnd_upd]
  split
  · rename_i e; subst e; rw [h] at hy; cases hy
  · exact hy
theorem SubB_del_new {b : List (Nat × Nat × Blk)} {n g : Nat} {x : Blk} (h : fnd b n = none) : SubB b (del (upd b n g x) n) := by
  intro m y hy
  rw [fnd_del, fnd_upd]
  split
  · rename_i e; subst e; rw [h] at hy; cases hy
  · exact hy

/-- As callD_go; which blocks stay is shown apart. -/
theorem callDS_go (TO : TabOk P T) {ops : Array Oper} {b0 : List (Nat × Nat × Blk)} {Q next : St → Prop} (hn : ∀ s, next s → Q s) {o : Oper} {rest : List Oper} {s : St} {f : FuncId} {fn : Func} {ags : Array Operand} {ts : Array TypeId} {d : Nat} {fs rs : List AV}
    (hM : Meets P f fs rs) (hf : P.funcs[f]? = some fn) (hname : (fn.name == "runtime.NumGoroutine") = false) (hb : fn.body.isSome = true)
    (ho : o.op = .call { callee := .value (.func f), args := ags, argTypes := ts }) (hd : o.dst = some d) (hs : SubB b0 (callS s d ags.toList fs rs).b)
    (h : guardIs ops s.t true o.guard ∧ callP s d ags.toList fs rs ∧ absD P X T ops b0 Q next rest (callS s d ags.toList fs rs)) : lexT P X T ops (SubB b0) Q (o :: rest) s := by
  obtain ⟨hg, hp, h⟩ := h
  have he : isEff T o.op = true := by rw [ho]; rfl
  unfold lexT
  rw [he]
  refine ⟨packS (impT (nm (s.c.o + d)) s.c.c 0 rs), (callS s d ags.toList fs rs).b, (callS s d ags.toList fs rs).c, fun t' hag σ w a hR => ?_, hs, ?_⟩
  · have hargs := gdPs_args hag ho
    have hA : argS t' ags.toList = argS s.t ags.toList := by
      unfold argS
      exact List.map_congr_left fun x hx => by rw [hargs x hx]
    have hp' : callP ⟨t', s.b, s.c⟩ d ags.toList fs rs := by
      unfold callP at hp ⊢
      simp only [hA, gdPs_agree hargs]
      exact hp
    have hS : callS ⟨t', s.b, s.c⟩ d ags.toList fs rs = ⟨setD t' o.dst (packS (impT (nm (s.c.o + d)) s.c.c 0 rs)), (callS s d ags.toList fs rs).b, (callS s d ags.toList fs rs).c⟩ := by
      unfold callS
      simp only [hA, hd]
      rfl
    have hw : Region.wanted o (yielded ops a.tmps) = true := by
      cases e : o.guard with
      | none => simp [Region.wanted, e]
      | some jw =>
        obtain ⟨j, w'⟩ := jw
        rw [e] at hg
        simp only [Region.wanted, e]
        exact guardOf_ok (s := ⟨t', s.b, s.c⟩) hR (by rw [guardOf_agree hag e]; exact hg)
    refine .inr (.inr ⟨hw, f, (ags.toList.map a.eval).toArray, ?_, ?_⟩)
    · simp only [execOp, ho, resolve]
      have e1 : a.eval (.func f) = .func (.func f) #[] #[] := rfl
      have e2 : (ags.toList.map a.eval).toArray = ags.map a.eval := Array.ext' (by rw [Array.toList_map])
      simp [e1, Deferred.ofValue, invoke, run_callFunc hf hb hname, e2]
    · rw [← hS, hd]
      exact call_R hR hM hp'
  · have := absD_ok TO hn rest _ h
    rw [hd]
    exact this

end

end Go.Proofs.YtdhnjmepgafeiaaDoor.Abs

/- OWN LIBRARY: a slice that lies in a variable's cell, told by value from here on. -/
set_option linter.unusedVariables false
set_option linter.unusedSimpArgs false
namespace Go.Proofs.YtdhnjmepgafeiaaDoor.Abs
open Go

section
variable {X : Ctx} {s : St} {σ : Env} {w : World} {a : Act}

theorem Data.sub_len {d : Data} {off len : Nat} (h : off + len ≤ d.len) : (d.sub off len).len = len := by
  cases d <;> simp only [Data.sub, Data.len, List.length_take, List.length_drop] at * <;> omega
theorem Data.sub_esz {d : Data} {off len : Nat} : (d.sub off len).esz = d.esz := by cases d <;> rfl

theorem sub_cell {vw : Bool → Nat → Prop} {d : Data} {off len p q : Nat} {x : Value} (h : CellOk vw w (off + p) q d x) (hp : p < len) : CellOk vw w p q (d.sub off len) x := by
  cases d with
  | ints k l =>
    have h : x = .int k (l.getD (off + p) 0) := h
    show x = .int k (((l.drop off).take len).getD p 0)
    rw [h]; simp [List.getD, List.getElem?_take, List.getElem?_drop, hp]
  | strs l =>
    have h : x = .string (l.getD (off + p) default) := h
    show x = .string (((l.drop off).take len).getD p default)
    rw [h]; simp [List.getD, List.getElem?_take, List.getElem?_drop, hp]
  | rows t l =>
    have h : IsRow (vw t) w (l.getD (off + p) []) x := h
    show IsRow (vw t) w (((l.drop off).take len).getD p []) x
    have e : ((l.drop off).take len).getD p [] = l.getD (off + p) [] := by simp [List.getD, List.getElem?_take, List.getElem?_drop, hp]
    rw [e]; exact h
  | locks l =>
    have e : ((l.drop off).take len).getD p default = l.getD (off + p) default := by simp [List.getD, List.getElem?_take, List.getElem?_drop, hp]
    simp only [CellOk, Data.sub] at h ⊢
    rw [e]; exact h
  | ents l =>
    have e : ((l.drop off).take len).getD p default = l.getD (off + p) default := by simp [List.getD, List.getElem?_take, List.getElem?_drop, hp]
    simp only [CellOk, Data.sub] at h ⊢
    rw [e]; exact h

theorem V0_freeze {b' : List (Nat × Nat × Blk)} {c' : Lim} (hR : R X s σ w a) {n g off len : Nat} {d : Data} {v : Value} (hn : fnd s.b n = some (g, .vec d)) (hl : off + len ≤ d.len)
    (T : Tr X s.b s.c σ w b' c' σ w) (hfn : ∀ k y, fnd b' k = some y → k ≠ n ∧ ∃ z, fnd s.b k = some z) (hv : V0 X s.b s.c σ w (.sl n g 0 d.esz off len) v) : V0 X b' c' σ w (.view true (d.sub off len)) v := by
  obtain ⟨_, hv⟩ := hv
  obtain ⟨ad, cap, hval, hcap, hpt⟩ := hv ⟨_, hn⟩
  obtain ⟨hok, hbk, hB0⟩ := hR.bl n g _ hn
  show IsView (Vw X b' σ w) w true (d.sub off len) v
  refine ⟨ad, cap, by rw [Data.sub_len hl]; exact hval, by rw [Data.sub_len hl]; exact hcap, fun h0 => ?_⟩
  rw [Data.sub_len hl] at h0
  obtain ⟨B, hs, hadr, _⟩ := hpt (by omega)
  refine ⟨B, 0 + off * d.esz, hadr, ?_, ?_⟩
  · refine ⟨(hB0 B hs).1, .inr ⟨(hB0 B hs).2, ?_⟩⟩
    rintro ⟨m, x, hm, hs2⟩
    obtain ⟨hne, z, hz⟩ := hfn m x hm
    exact hne (hR.inj m n _ _ B hz hn hs2 hs)
  · rcases hbk with ⟨hnone, _⟩ | ⟨B', cs, t, fr, hs', hheap, _, _, hh, _⟩
    · rw [hnone] at hs; cases hs
    · obtain rfl : B = B' := Option.some.inj (hs.symm.trans hs')
      intro p q hp hq
      rw [Data.sub_len hl] at hp
      rw [Data.sub_esz] at hq ⊢
      obtain ⟨x, hx, hc⟩ := hh (off + p) q (by omega) hq
      refine ⟨x, ?_, sub_cell (hc.tr T) hp⟩
      rw [← hx]; congr 2
      rw [Nat.add_mul]; omega

theorem CellsOk.swap {b b' : List (Nat × Nat × Blk)} {c c' : Lim} (T : Tr X b c σ w b' c' σ w) {n g seg e off len : Nat} {x : SV} (hx : ∀ v, V0 X b c σ w (.sl n g seg e off len) v → V0 X b' c' σ w x v) (hna : ∀ k m q, x ≠ .arr k m q) :
    ∀ {l : List SV} {cs : List Value} {j : Nat}, CellsOk X b c σ w l cs → l[j]? = some (.sl n g seg e off len) → CellsOk X b' c' σ w (l.set j x) cs := by
  intro l
  induction l with
  | nil => intro cs j h e; simp at e
  | cons y r ih =>
    intro cs j h ej
    cases j with
    | zero =>
      simp only [List.getElem?_cons_zero, Option.some.injEq] at ej
      subst ej
      obtain ⟨v, cs', e, h1, h2⟩ := h
      have h3 := hx v h1
      have h4 := CellsOk.tr T h2
      simp only [List.set_cons_zero]
      cases x with
      | arr k m q => exact absurd rfl (hna k m q)
      | _ => exact ⟨v, cs', e, h3, h4⟩
    | succ j =>
      simp only [List.getElem?_cons_succ] at ej
      simp only [List.set_cons_succ]
      cases y with
      | arr k n' l' => obtain ⟨h1, cs', e, h2⟩ := h; exact ⟨h1, cs', e, ih h2 ej⟩
      | _ => obtain ⟨v, cs', e, h1, h2⟩ := h; exact ⟨v, cs', e, h1.tr T, ih h2 ej⟩

theorem R_freezeC (hR : R X s σ w a) {m gm j n g off len : Nat} {l : List SV} {d : Data} (hm : fnd s.b m = some (gm, .cells l)) (hj : l[j]? = some (.sl n g 0 d.esz off len)) (hn : fnd s.b n = some (g, .vec d)) (hmn : m ≠ n) (hl : off + len ≤ d.len) :
    R X ⟨s.t, upd (del s.b n) m gm (.cells (l.set j (.view true (d.sub off len)))), s.c⟩ σ w a ∧ Tr X s.b s.c σ w (upd (del s.b n) m gm (.cells (l.set j (.view true (d.sub off len))))) s.c σ w := by
  have hmd : fnd (del s.b n) m = some (gm, .cells l) := by rw [fnd_del, if_neg hmn]; exact hm
  have T : Tr X s.b s.c σ w (upd (del s.b n) m gm (.cells (l.set j (.view true (d.sub off len))))) s.c σ w := (Tr_del n).trans (Tr_upd hmd)
  have hfn : ∀ k y, fnd (upd (del s.b n) m gm (.cells (l.set j (.view true (d.sub off len))))) k = some y → k ≠ n ∧ ∃ z, fnd s.b k = some z := by
    intro k y hk
    rw [fnd_upd] at hk
    split at hk
    · rename_i e; subst e; exact ⟨hmn, _, hm⟩
    · rw [fnd_del] at hk
      split at hk
      · cases hk
      · rename_i e; exact ⟨e, _, hk⟩
  refine ⟨?_, T⟩
  refine { sz := hR.sz, tm := fun j hj => (hR.tm j hj).tr T, df := hR.df, bl := ?_, inj := ?_, fr := hR.fr, st := hR.st, ro := hR.ro, gl := hR.gl }
  · intro k gk x hk
    simp only at hk
    rw [fnd_upd] at hk
    split at hk
    · rename_i e
      subst e
      simp only [Option.some.injEq, Prod.mk.injEq] at hk
      obtain ⟨rfl, rfl⟩ := hk
      obtain ⟨h1, ⟨B, cs, t, fr, hs, hheap, hfree, hcells⟩, h3⟩ := hR.bl k gm _ hm
      refine ⟨h1, ⟨B, cs, t, fr, hs, hheap, hfree, ?_⟩, h3⟩
      exact CellsOk.swap T (fun v hv => V0_freeze hR hn hl T hfn hv) (fun _ _ _ h => by cases h) hcells hj
    · rw [fnd_del] at hk
      split at hk
      · cases hk
      · obtain ⟨h1, h2, h3⟩ := hR.bl k gk x hk
        exact ⟨h1, h2.tr T rfl (fun _ _ => rfl), h3⟩
  · intro k k' x x' B hk hk' hs hs'
    obtain ⟨_, z, hz⟩ := hfn k x hk
    obtain ⟨_, z', hz'⟩ := hfn k' x' hk'
    exact hR.inj k k' z z' B hz hz' hs hs'

theorem freezeC_go {P : Program} {todo : List Item} {Φ : St → Prop} (m j n : Nat) {gm g off len : Nat} {l : List SV} (d : Data)
    (h : (fnd s.b m = some (gm, .cells l) ∧ l[j]? = some (.sl n g 0 d.esz off len) ∧ fnd s.b n = some (g, .vec d) ∧ m ≠ n ∧ off + len ≤ d.len) ∧ HRun P X todo ⟨s.t, upd (del s.b n) m gm (.cells (l.set j (.view true (d.sub off len)))), s.c⟩ Φ) : HRun P X todo s Φ := by
  obtain ⟨⟨h1, h2, h3, h4, h5⟩, h⟩ := h
  intro σ w a hR
  obtain ⟨hR', T⟩ := R_freezeC hR h1 h2 h3 h4 h5
  exact h.after hR' T

theorem freezeC_ops {P : Program} {ops : Array Oper} {rest : List Oper} {k : List Item} {Φ : St → Prop} (m j n : Nat) {gm g off len : Nat} {l : List SV} (d : Data)
    (h : (fnd s.b m = some (gm, .cells l) ∧ l[j]? = some (.sl n g 0 d.esz off len) ∧ fnd s.b n = some (g, .vec d) ∧ m ≠ n ∧ off + len ≤ d.len) ∧ HOps P X ops rest k ⟨s.t, upd (del s.b n) m gm (.cells (l.set j (.view true (d.sub off len)))), s.c⟩ Φ) : HOps P X ops rest k s Φ :=
  fun i hi => freezeC_go m j n d ⟨h.1, h.2 i hi⟩

end

end Go.Proofs.YtdhnjmepgafeiaaDoor.Abs
