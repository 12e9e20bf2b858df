/- Joined: R0 R1 R2 R3 R4 R5 R6 R7 R8 R9. -/
import Derived.Test.YtakgefinmlomdaaDoorB5
import Derived.Deep.Matrix
import Derived.Laws.BytesArg
import Derived.ChangeArms
import Derived.DataReads
/- OWN LIBRARY: a row of one own slice is told by value from here on. -/
set_option linter.unusedVariables false
set_option linter.unusedSimpArgs false
namespace Go.Proofs.YtakgefinmlomdaaDoor.Abs
open Go

theorem Tr_upd {X : Ctx} {b : List (Nat × Nat × Blk)} {c : Lim} {σ : Env} {w : World} {m g : Nat} {x x' : Blk} (h : fnd b m = some (g, x)) : Tr X b c σ w (upd b m g x') c σ w := by
  have hN : ∀ B, Named (upd b m g x') σ B → Named b σ B := by
    rintro B ⟨k, y, h1, h2⟩
    rw [fnd_upd] at h1
    split at h1
    · rename_i e; subst e; exact ⟨k, _, h, h2⟩
    · exact ⟨k, y, h1, h2⟩
  refine ⟨fun _ _ h => h, ?_, fun tag B hv => ⟨rfl, hv.1, hv.2.imp id fun h => ⟨h.1, fun k => h.2 (hN _ k)⟩⟩, fun _ _ _ _ _ _ => Nat.le_refl _⟩
  rintro k gk ⟨y, hy⟩ _
  rw [fnd_upd] at hy
  split at hy
  · rename_i e; subst e
    simp only [Option.some.injEq, Prod.mk.injEq] at hy
    obtain ⟨rfl, _⟩ := hy
    exact ⟨⟨_, h⟩, rfl⟩
  · exact ⟨⟨y, hy⟩, rfl⟩

end Go.Proofs.YtakgefinmlomdaaDoor.Abs

/- OWN LIBRARY: rows of bytes, as they are handed in. -/
set_option linter.unusedVariables false
set_option linter.unusedSimpArgs false
namespace Go.Proofs.YtakgefinmlomdaaDoor.Abs
open Go Go.ChangeShapes Go.WideShapes Go.RowKit Go.Deep

theorem bulk_elem {H : Type} {d : DataW H} {elems spare : List (DataW H)} (h : d ∈ elems) : Rows.uptoBulk d + 1 ≤ Rows.uptoBulk (.slice elems spare) := by
  have := bulk_part h
  simp only [Rows.uptoBulk]
  omega

end Go.Proofs.YtakgefinmlomdaaDoor.Abs

/- OWN LIBRARY: an empty block gets a name; cells told otherwise; the least of two. -/
set_option linter.unusedVariables false
set_option linter.unusedSimpArgs false
namespace Go.Proofs.YtakgefinmlomdaaDoor.Abs
open Go

theorem put_none (a : Act) (v : Value) : a.put none v = a := rfl

/-- A name for a block that holds nothing. -/
theorem newb_go {P : Program} {X : Ctx} {todo : List Item} {s : St} {Φ : St → Prop} (n : Nat) (d : Data) (hd : d.len = 0)
    (h : HRun P X todo ⟨s.t, upd s.b n (s.c.c + 1) (.vec d), ⟨s.c.c + 1 + 1, [], s.c.o⟩⟩ Φ) : HRun P X todo s Φ := by
  intro σ w a hR
  have hR1 := R_bump (o := s.c.o) hR
  obtain ⟨hR2, hT2⟩ := R_none (n := n) (x := .vec d) (dst := none) (sv := .any) (v := undef) hR1 (by simp) (.inl ⟨by simp, hd⟩) trivial
  rw [put_none] at hR2
  have hR3 := R_bump (o := s.c.o) hR2
  refine (h _ w a hR3).mono fun a' w' ⟨s', σ', h1, h2, h3⟩ => ⟨s', σ', h1, h2, ?_⟩
  exact (Tr_bump (o := s.c.o)).trans (hT2.trans ((Tr_bump (s := ⟨s.t, upd s.b n (s.c.c + 1) (.vec d), (⟨s.c.c + 1, [], s.c.o⟩ : Lim).add n⟩) (o := s.c.o)).trans h3))

/-- Cells, told otherwise. -/
theorem cells_go {P : Program} {X : Ctx} {todo : List Item} {s : St} {Φ : St → Prop} (m : Nat) {gm : Nat} {l : List SV} (l' : List SV)
    (h : (fnd s.b m = some (gm, .cells l) ∧ ∀ σ w cs, CellsOk X s.b s.c σ w l cs → CellsOk X s.b s.c σ w l' cs) ∧ HRun P X todo ⟨s.t, upd s.b m gm (.cells l'), s.c⟩ Φ) : HRun P X todo s Φ := by
  obtain ⟨⟨hm, hw⟩, h⟩ := h
  intro σ w a hR
  have T : Tr X s.b s.c σ w (upd s.b m gm (.cells l')) s.c σ w := Tr_upd hm
  have hf : ∀ k y, fnd (upd s.b m gm (.cells l')) k = some y → ∃ z, fnd s.b k = some z := by
    intro k y hk
    rw [fnd_upd] at hk
    split at hk
    · rename_i e; subst e; exact ⟨_, hm⟩
    · exact ⟨_, hk⟩
  have hR' : R X ⟨s.t, upd s.b m gm (.cells l'), s.c⟩ σ w a := by
    refine { sz := hR.sz, tm := fun j hj => (hR.tm j hj).tr T, df := hR.df, bl := ?_, inj := ?_, fr := hR.fr, st := hR.st, ro := hR.ro, gl := hR.gl }
    · intro k gk x hk
      simp only at hk
      rw [fnd_upd] at hk
      split at hk
      · rename_i e
        subst e
        simp only [Option.some.injEq, Prod.mk.injEq] at hk
        obtain ⟨rfl, rfl⟩ := hk
        obtain ⟨h1, h2, h3⟩ := hR.bl k gm _ hm
        obtain ⟨B, cs, t, fr, hs, hheap, hfree, hcells⟩ := h2
        exact ⟨h1, ⟨B, cs, t, fr, hs, hheap, hfree, (hw σ w _ hcells).tr T⟩, h3⟩
      · obtain ⟨h1, h2, h3⟩ := hR.bl k gk x hk
        exact ⟨h1, h2.tr T rfl (fun _ _ => rfl), h3⟩
    · intro k k' x x' B hk hk' hs hs'
      obtain ⟨z, hz⟩ := hf k x hk
      obtain ⟨z', hz'⟩ := hf k' x' hk'
      exact hR.inj k k' z z' B hz hz' hs hs'
  exact (h σ w a hR').mono fun a' w' ⟨s', σ', h1, h2, h3⟩ => ⟨s', σ', h1, h2, T.trans h3⟩

/-- Nothing, as an empty part of a block. -/
theorem V0_nil_sl {X : Ctx} {b : List (Nat × Nat × Blk)} {c : Lim} {σ : Env} {w : World} {n g seg e off : Nat} {v : Value} (hc : c.ok n g) (h : V0 X b c σ w .nil v) : V0 X b c σ w (.sl n g seg e off 0) v :=
  ⟨hc, fun _ => ⟨none, 0, h, Nat.le_refl _, fun h => absurd rfl h⟩⟩

end Go.Proofs.YtakgefinmlomdaaDoor.Abs

/- OWN LIBRARY: iterators over strings; bytes as a string; the told end of a block forgotten. -/
set_option linter.unusedVariables false
set_option linter.unusedSimpArgs false
namespace Go.Proofs.YtakgefinmlomdaaDoor.Abs
open Go

theorem ops_at {ops : Array Oper} {o : Oper} {rest : List Oper} {i : Nat} (hi : ops.toList.drop i = o :: rest) : ops[i]? = some o ∧ ops.toList.drop (i + 1) = rest := by
  constructor
  · have := congrArg (fun l : List Oper => l[0]?) hi
    simpa using this
  · have := congrArg List.tail hi
    simpa using this

/-- An iterator over a string. -/
theorem range_ops {P : Program} {T : Tab} {X : Ctx} (TO : TabOk P T) {ops : Array Oper} {o : Oper} {rest : List Oper} {k : List Item} {s : St} {Φ : St → Prop} {t : TypeId} {x : Operand} {d : Nat} {str : ByteArray}
    (ho : o.op = .range t x) (hg : o.guard = none) (hd : o.dst = some d) (hT : T.ty t = .string) (hx : evO s.t x = .str str) (hn : s.c.o + d ∉ s.c.d)
    (h : HOps P X ops rest k ⟨s.t.set d (.ptr (s.c.o + d) s.c.c 0), upd s.b (s.c.o + d) s.c.c (.iter str 0), s.c.add (s.c.o + d)⟩ Φ) : HOps P X ops (o :: rest) k s Φ := by
  intro i hi σ w a hR
  obtain ⟨ho', hrest⟩ := ops_at hi
  have hv := V_evO hR x
  rw [hx] at hv
  have hv : a.eval x = .string str := hv
  have ht := TO.ty t
  rw [hT] at ht; simp only [tyOk] at ht
  have hu : (execOp a.eval o).run P w = .ok (.value (.pointer (some ⟨w.heap.size, 0, none⟩))) { w with heap := w.heap.push (.stringIter str 0) } := by
    simp [execOp, ho, hv, Instr.range, run_underlying ht]
  have hnew := R_new (w' := { w with heap := w.heap.push (.stringIter str 0) }) (n := s.c.o + d) (o := .stringIter str 0) (x := .iter str 0) (dst := some d) (sv := .ptr (s.c.o + d) s.c.c 0) (v := .pointer (some ⟨w.heap.size, 0, none⟩)) hR hn rfl ⟨rfl, rfl, rfl⟩
    ⟨w.heap.size, by simp [bind1], by simp⟩ ⟨Lim.ok_new _ _, fun _ => ⟨w.heap.size, by simp [bind1], rfl⟩⟩
  rw [List.length_cons, List.range'_succ]
  refine Fins.opValue (v := .pointer (some ⟨w.heap.size, 0, none⟩)) ho' (by simp [Region.wanted, hg]) (.inl hu) ((h (i + 1) hrest).after ?_ hnew.2)
  rw [hd]
  exact hnew.1

/-- An iterator goes on. -/
theorem R_iter {X : Ctx} {s : St} {σ : Env} {w w' : World} {a : Act} (hR : R X s σ w a) {n g B : Nat} {x x' : Blk} {dst : Option Nat} {sv : SV} {v : Value} {ob : Obj} (hn : fnd s.b n = some (g, x)) (hB : σ n = some B) (hold : ∀ cs t fr, w.heap[B]? ≠ some (.cells cs t fr))
    (hw : w' = { w with heap := w.heap.setIfInBounds B ob }) (hx : BlkOk X (upd s.b n g x') s.c σ w' n x') (hv : V X (upd s.b n g x') s.c σ w' sv v) :
    R X ⟨setD s.t dst sv, upd s.b n g x', s.c⟩ σ w' (a.put dst v) ∧ Tr X s.b s.c σ w (upd s.b n g x') s.c σ w' := by
  have hother : ∀ B', B' ≠ B → w'.heap[B']? = w.heap[B']? := fun B' h => by subst hw; simp [h.symm]
  have hsize : w'.heap.size = w.heap.size := by subst hw; simp
  have hgB := (hR.bl n g x hn).2.2 B hB
  have T : Tr X s.b s.c σ w (upd s.b n g x') s.c σ w' := by
    refine ⟨fun _ _ h => h, ?_, ?_, ?_⟩
    · rintro m g0 ⟨y, hy⟩ _
      rw [fnd_upd] at hy
      split at hy
      · rename_i e; subst e
        simp only [Option.some.injEq, Prod.mk.injEq] at hy
        exact ⟨⟨x, by rw [hn, hy.1]⟩, rfl⟩
      · exact ⟨⟨y, hy⟩, rfl⟩
    · intro tag B0 hv0
      have hne : B0 ≠ B := by
        rintro rfl
        rcases hv0.2 with ⟨_, h⟩ | ⟨_, h⟩
        · obtain ⟨h1, h2⟩ := hR.ro _ h
          rcases hgB.2 with h3 | h3
          · exact h2 h3
          · omega
        · exact h ⟨n, _, hn, hB⟩
      refine ⟨hother B0 hne, by rw [hsize]; exact hv0.1, hv0.2.imp id fun h => ⟨h.1, ?_⟩⟩
      rintro ⟨m, y, hy, hs⟩
      rw [fnd_upd] at hy
      split at hy
      · rename_i e; subst e; exact h.2 ⟨m, _, hn, hs⟩
      · exact h.2 ⟨m, y, hy, hs⟩
    · intro m g0 B0 hl hg0 hs0
      by_cases e : B0 = B
      · subst e
        have : blockSize w B0 = 0 := by
          unfold blockSize
          split
          · rename_i hh; exact absurd hh (hold _ _ _)
          · rfl
        omega
      · simp only [blockSize, hother B0 e]; exact Nat.le_refl _
  have ht := put_tm (dst := dst) hR.sz (fun i hi => (hR.tm i hi).tr T) hv
  refine ⟨?_, T⟩
  have hf : ∀ m y, fnd (upd s.b n g x') m = some y → (m = n ∧ y = (g, x')) ∨ (m ≠ n ∧ fnd s.b m = some y) := by
    intro m y hy
    rw [fnd_upd] at hy
    by_cases e : m = n
    · rw [if_pos e] at hy; simp at hy; exact .inl ⟨e, hy.symm⟩
    · rw [if_neg e] at hy; exact .inr ⟨e, hy⟩
  have hf2 : ∀ m y, fnd (upd s.b n g x') m = some y → ∃ z, fnd s.b m = some z := by
    intro m y hy
    rcases hf m y hy with ⟨rfl, _⟩ | ⟨_, h⟩
    · exact ⟨_, hn⟩
    · exact ⟨_, h⟩
  refine ⟨ht.1, ht.2, ?_, ?_, ?_, ?_, ?_, hR.ro, hR.gl⟩
  · cases dst <;> exact hR.df
  · intro m g0 y hy
    rcases hf m _ hy with ⟨rfl, e⟩ | ⟨hne, hy⟩
    · simp only [Prod.mk.injEq] at e
      obtain ⟨rfl, rfl⟩ := e
      refine ⟨(hR.bl m _ x hn).1, hx, fun B' hB' => ?_⟩
      rw [hsize]
      exact (hR.bl m _ x hn).2.2 B' hB'
    · obtain ⟨h1, h2, h3⟩ := hR.bl m g0 y hy
      refine ⟨h1, h2.tr T rfl (fun B' hB' => ?_), fun B' hB' => by rw [hsize]; exact h3 B' hB'⟩
      refine hother B' ?_
      rintro rfl
      exact hne (hR.inj m n _ _ _ hy hn hB' hB)
  · intro m m' y y' B' hy hy' hs1 hs2
    obtain ⟨z, hz⟩ := hf2 m _ hy
    obtain ⟨z', hz'⟩ := hf2 m' _ hy'
    exact hR.inj m m' z z' B' hz hz' hs1 hs2
  · refine ⟨by rw [hsize]; exact hR.fr.1, fun B' hB' hm => ?_⟩
    rw [← hR.fr.2 B' hB' hm]
    refine hother B' ?_
    rintro rfl
    rcases hgB.2 with h3 | h3
    · exact hm h3
    · omega
  · subst hw; exact hR.st

/-- The next letter, if there is one. -/
theorem next_ops {P : Program} {X : Ctx} {ops : Array Oper} {o : Oper} {rest : List Oper} {k : List Item} {s : St} {Φ : St → Prop} {it : Operand} {d n g p : Nat} {str : ByteArray}
    (ho : o.op = .next it true) (hg : o.guard = none) (hd : o.dst = some d) (hit : evO s.t it = .ptr n g 0) (hn : fnd s.b n = some (g, .iter str p))
    (h1 : p < str.size → HOps P X ops rest k ⟨s.t.set d (.tup [.bool true, .int .i64 p, .int .i32 (Utf8.decode str p).1]), upd s.b n g (.iter str (p + (Utf8.decode str p).2)), s.c⟩ Φ)
    (h2 : ¬ p < str.size → HOps P X ops rest k ⟨s.t.set d (.tup [.bool false]), s.b, s.c⟩ Φ) : HOps P X ops (o :: rest) k s Φ := by
  intro i hi σ w a hR
  obtain ⟨ho', hrest⟩ := ops_at hi
  have hv := V_evO hR it
  rw [hit] at hv
  obtain ⟨_, hv⟩ := (hv : s.c.ok n g ∧ (Live s.b n g → ∃ B, σ n = some B ∧ a.eval it = .pointer (some ⟨B, 0, none⟩)))
  obtain ⟨B, hB, hv⟩ := hv ⟨_, hn⟩
  obtain ⟨B', hB', hheap⟩ := (hR.bl n g _ hn).2.1
  obtain rfl := Option.some.inj (hB.symm.trans hB')
  rw [List.length_cons, List.range'_succ]
  have hBs : B < w.heap.size := ((hR.bl n g _ hn).2.2 B hB).1
  by_cases hp : p < str.size
  · have hu : (execOp a.eval o).run P w = .ok (.value (.tuple #[.bool true, .int .i64 p, .int .i32 (Utf8.decode str p).1])) { w with heap := w.heap.setIfInBounds B (.stringIter str (p + (Utf8.decode str p).2)) } := by
      simp [execOp, ho, hv, Instr.next, getObj, setObj, Sem.run, hheap, hp, goInt, Result.andThen]
    have hit := R_iter (w' := { w with heap := w.heap.setIfInBounds B (.stringIter str (p + (Utf8.decode str p).2)) }) (n := n) (g := g) (B := B) (x := .iter str p) (x' := .iter str (p + (Utf8.decode str p).2)) (dst := some d) (sv := .tup [.bool true, .int .i64 p, .int .i32 (Utf8.decode str p).1]) (v := .tuple #[.bool true, .int .i64 p, .int .i32 (Utf8.decode str p).1]) hR hn hB
      (fun cs t fr hh => by rw [hheap] at hh; cases hh) rfl ⟨B, hB, by simp [hBs]⟩ ⟨_, rfl, _, _, rfl, rfl, _, _, rfl, rfl, _, _, rfl, rfl, rfl⟩
    refine Fins.opValue (v := .tuple #[.bool true, .int .i64 p, .int .i32 (Utf8.decode str p).1]) ho' (by simp [Region.wanted, hg]) (.inl hu) ((h1 hp (i + 1) hrest).after ?_ hit.2)
    rw [hd]
    exact hit.1
  · have hu : (execOp a.eval o).run P w = .ok (.value (.tuple #[.bool false])) w := by
      simp [execOp, ho, hv, Instr.next, getObj, setObj, Sem.run, hheap, hp, goInt, Result.andThen]
    refine Fins.opValue (v := .tuple #[.bool false]) ho' (by simp [Region.wanted, hg]) (.inl hu) ((h2 hp (i + 1) hrest).after ?_ Tr.refl)
    rw [hd]
    exact R_set hR (dst := some d) (sv := .tup [.bool false]) (show V X s.b s.c σ w _ _ from ⟨_, rfl, _, _, rfl, rfl, rfl⟩)

/-- Bytes, as a string. -/
theorem bytes_str {P : Program} {w : World} {src dst e : TypeId} (hs : P.underlying src = some (.slice e)) (he : P.underlying e = some (.int .u8)) (hd : P.underlying dst = some .string) {a : Option Addr} {len cap : Nat} {l : List Int} (hl : l.length = len)
    (h : len ≠ 0 → ∃ B o, a = some ⟨B, o, none⟩ ∧ ∀ i, i < len → w.cell? ⟨B, o + i, none⟩ = some (.int .u8 (l.getD i 0))) : (convert src dst (.slice a len cap)).run P w = .ok (.string (strOfNums l)) w := by
  by_cases h0 : len = 0
  · subst h0
    have : l = [] := List.eq_nil_of_length_eq_zero hl
    subst this
    rw [run_convert_bytes_string w src dst e _ 0 cap hs he hd]
    cases a with
    | none => simp [Conv.bytesToString]; rfl
    | some ad =>
      rw [run_bytesToString w ad 0 cap [] (by simp [loadCells, loadCellsFrom]; try rfl)]
      rfl
  · obtain ⟨B, o, rfl, hc⟩ := h h0
    exact run_convert_bytes_arg w src e hs he B o len cap l hl hc dst hd

/-- An own slice of bytes, as a string. -/
theorem str_ops {P : Program} {T : Tab} {X : Ctx} (TO : TabOk P T) {ops : Array Oper} {o : Oper} {rest : List Oper} {k : List Item} {s : St} {Φ : St → Prop} {src dst e : TypeId} {x : Operand} {d n g off len : Nat} {l : List Int}
    (ho : o.op = .convert src dst x) (hg : o.guard = none) (hd : o.dst = some d) (hT : T.ty src = .slice e) (hE : T.ty e = .int .u8) (hD : T.ty dst = .string) (hx : evO s.t x = .sl n g 0 1 off len) (hn : fnd s.b n = some (g, .vec (.ints .u8 l))) (hl : off + len ≤ l.length)
    (h : HOps P X ops rest k ⟨s.t.set d (.str (strOfNums ((l.drop off).take len))), s.b, s.c⟩ Φ) : HOps P X ops (o :: rest) k s Φ := by
  intro i hi σ w a hR
  obtain ⟨ho', hrest⟩ := ops_at hi
  have hv := V_evO hR x
  rw [hx] at hv
  obtain ⟨_, hv⟩ := (hv : s.c.ok n g ∧ (Live s.b n g → ∃ ad cap, a.eval x = .slice ad len cap ∧ len ≤ cap ∧ (cap ≠ 0 → ∃ B, σ n = some B ∧ ad = some ⟨B, 0 + off * 1, none⟩ ∧ 0 + (off + cap) * 1 ≤ blockSize w B)))
  obtain ⟨ad, cap, hval, hcap, hpt⟩ := hv ⟨_, hn⟩
  have h1 := TO.ty src
  rw [hT] at h1; simp only [tyOk] at h1
  have h2 := TO.ty e
  rw [hE] at h2; simp only [tyOk] at h2
  have h3 := TO.ty dst
  rw [hD] at h3; simp only [tyOk] at h3
  have hdl : ((l.drop off).take len).length = len := by rw [List.length_take, List.length_drop]; omega
  have hu : (execOp a.eval o).run P w = .ok (.value (.string (strOfNums ((l.drop off).take len)))) w := by
    have := bytes_str (P := P) (w := w) h1 h2 h3 (a := ad) (len := len) (cap := cap) hdl (fun h0 => by
      obtain ⟨B, hB, rfl, _⟩ := hpt (by omega)
      refine ⟨B, _, rfl, fun j hj => ?_⟩
      rcases (hR.bl n g _ hn).2.1 with ⟨hno, _⟩ | ⟨B2, cs, ty, fr, hB2, hheap, _, _, hh, _⟩
      · rw [hno] at hB; cases hB
      · obtain rfl := Option.some.inj (hB.symm.trans hB2)
        obtain ⟨z, hz, hc⟩ := hh (off + j) 0 (by simp only [Data.len]; omega) (by simp [Data.esz])
        have hc : z = .int .u8 (l.getD (off + j) 0) := hc
        simp only [Data.esz] at hz
        rw [show 0 + off * 1 + j = 0 + (off + j) * 1 + 0 by omega, hz, hc]
        simp [List.getD, List.getElem?_drop, hj])
    simp [execOp, ho, hval, this]
  rw [List.length_cons, List.range'_succ]
  refine Fins.opValue (v := .string (strOfNums ((l.drop off).take len))) ho' (by simp [Region.wanted, hg]) (.inl hu) ((h (i + 1) hrest).after ?_ Tr.refl)
  rw [hd]
  exact R_set hR (dst := some d) (sv := .str (strOfNums ((l.drop off).take len))) (show V X s.b s.c σ w _ _ from rfl)

end Go.Proofs.YtakgefinmlomdaaDoor.Abs

/- OWN LIBRARY: a block of a slice gets another name. -/
set_option linter.unusedVariables false
set_option linter.unusedSimpArgs false
namespace Go.Proofs.YtakgefinmlomdaaDoor.Abs
open Go

theorem put_same {X : Ctx} {s : St} {σ : Env} {w : World} {a : Act} (hR : R X s σ w a) {i : Nat} (hi : i < s.t.length) : a.put (some i) (a.tmps.getD i undef) = a := by
  have hi' : i < a.tmps.size := by rw [hR.sz]; exact hi
  obtain ⟨tm, df⟩ := a
  simp only [Act.put]
  congr 1
  apply Array.ext_getElem?
  intro j
  rw [Array.getElem?_setIfInBounds]
  have hi'' : i < tm.size := hi'
  by_cases e : i = j
  · subst e; simp [Array.getD, hi'']
  · simp [e]

theorem Wrote.same {B : Nat} {w : World} {cs : Array Value} {t : TypeId} {fr : Nat × Nat} (h : w.heap[B]? = some (.cells cs t fr)) : Wrote B w w cs t fr :=
  ⟨h, fun _ _ => rfl, rfl, ⟨rfl, rfl, rfl⟩⟩

/-- The slice of a slot and its block, under another name. -/
theorem ren_go {P : Program} {X : Ctx} {todo : List Item} {s : St} {Φ : St → Prop} (i n m : Nat) {g e len : Nat} {d : Data} (ht : i < s.t.length ∧ s.t.getD i .any = .sl n g 0 e 0 len ∧ fnd s.b n = some (g, .vec d))
    (h : HRun P X todo ⟨s.t.set i (.sl m (s.c.c + 1) 0 e 0 len), mv s.b n m (s.c.c + 1) (.vec d), ⟨s.c.c + 1 + 1, [], s.c.o⟩⟩ Φ) : HRun P X todo s Φ := by
  intro σ w a hR
  obtain ⟨hi, hti, hn⟩ := ht
  have hR1 := R_bump (o := s.c.o) hR
  have hv := hR1.tm i hi
  have ht2 : (⟨s.t, s.b, ⟨s.c.c + 1, [], s.c.o⟩⟩ : St).t.getD i .any = .sl n g 0 e 0 len := hti
  rw [ht2] at hv
  obtain ⟨hok, hlive⟩ : (⟨s.c.c + 1, [], s.c.o⟩ : Lim).ok n g ∧ (Live s.b n g → _) := hv
  obtain ⟨va, cap, hval, hcap, hroom⟩ := hlive ⟨_, hn⟩
  have hput := put_same hR1 (i := i) hi
  obtain ⟨_, hblk, hown⟩ := hR1.bl n g (.vec d) hn
  have fin : ∀ σ', R X ⟨setD s.t (some i) (.sl m (s.c.c + 1) 0 e 0 len), mv s.b n m (s.c.c + 1) (.vec d), (⟨s.c.c + 1, [], s.c.o⟩ : Lim).add m⟩ σ' w a → Tr X s.b ⟨s.c.c + 1, [], s.c.o⟩ σ w (mv s.b n m (s.c.c + 1) (.vec d)) ((⟨s.c.c + 1, [], s.c.o⟩ : Lim).add m) σ' w →
      Fins P todo a w fun a' w' => ∃ s' σ', Φ s' ∧ R X s' σ' w' a' ∧ Tr X s.b s.c σ w s'.b s'.c σ' w' := by
    intro σ' hR2 hT2
    have hR3 := R_bump (o := s.c.o) hR2
    refine (h _ w a hR3).mono fun a' w' ⟨s', σ', h1, h2, h3⟩ => ⟨s', σ', h1, h2, ?_⟩
    exact (Tr_bump (o := s.c.o)).trans (hT2.trans ((Tr_bump (s := ⟨s.t, mv s.b n m (s.c.c + 1) (.vec d), (⟨s.c.c + 1, [], s.c.o⟩ : Lim).add m⟩) (o := s.c.o)).trans h3))
  rcases hblk with ⟨hs, hd⟩ | ⟨B, cs, t, fr, hs, hheap, hfree, hsz, hholds, hfit⟩
  · -- nothing there
    have hc0 : cap = 0 := by
      by_cases hc : cap = 0
      · exact hc
      · obtain ⟨B, hB, _⟩ := hroom hc
        have hB : σ n = some B := hB
        rw [hs] at hB; cases hB
    obtain ⟨hR2, hT2⟩ := R_none (n := m) (x := .vec d) (dst := some i) (sv := .sl m (s.c.c + 1) 0 e 0 len) (v := a.tmps.getD i undef) (hR1.drop (b := del s.b n) (fun k x hk => by
        rw [fnd_del] at hk
        split at hk
        · cases hk
        · exact hk)) (by simp)
      (.inl ⟨by simp, hd⟩) ⟨Lim.ok_new _ _, fun _ => ⟨va, cap, hval, hcap, fun hc => absurd hc0 hc⟩⟩
    rw [hput] at hR2
    refine fin _ hR2 ?_
    refine (Tr_del n).trans ?_
    exact hT2
  · obtain ⟨hR2, hT2⟩ := R_mv (n := n) (m := m) (x' := .vec d) (dst := some i) (sv := .sl m (s.c.c + 1) 0 e 0 len) (v := a.tmps.getD i undef) hR1 hn hs (by simp) hheap (Wrote.same hheap) rfl
      (by
        have T := Tr_mv (x' := .vec d) hR1 hn hs (show m ∉ (⟨s.c.c + 1, [], s.c.o⟩ : Lim).d by simp) hheap (Wrote.same hheap) rfl
        refine .inr ⟨B, cs, t, fr, by simp [bind1], hheap, hfree, hsz, ?_, hfit⟩
        exact hholds.tr T rfl)
      ⟨Lim.ok_new _ _, fun _ => ⟨va, cap, hval, hcap, fun hc => by
        obtain ⟨B', hB', ha, hb⟩ := hroom hc
        have hB' : σ n = some B' := hB'
        rw [hs] at hB'
        cases hB'
        exact ⟨B, by simp [bind1], ha, hb⟩⟩⟩
    rw [hput] at hR2
    exact fin _ hR2 hT2

end Go.Proofs.YtakgefinmlomdaaDoor.Abs

/- OWN LIBRARY: what a function does to memory that its caller holds (InC); in plain regions and in drawn ones. -/
set_option linter.unusedVariables false
set_option linter.unusedSimpArgs false
namespace Go.Proofs.YtakgefinmlomdaaDoor.Abs
open Go

section
variable {P : Program} {T : Tab} {X : Ctx} {s : St} {σ : Env} {w : World} {a : Act}

theorem ok_raise {l : Lim} {c1 o n g : Nat} (hc : l.c < c1) (h : l.ok n g) : Lim.ok ⟨c1, [], o⟩ n g := by
  rcases h with h | ⟨h, _⟩
  · exact .inl (by simp only; omega)
  · exact .inl (by simp only; omega)

theorem Tr_raise {b : List (Nat × Nat × Blk)} {c : Lim} {c1 o : Nat} (hc : c.c < c1) : Tr X b c σ w b ⟨c1, [], o⟩ σ w :=
  ⟨fun _ _ => ok_raise hc, fun n g h _ => ⟨h, rfl⟩, fun tag B hv => ⟨rfl, hv⟩, fun _ _ _ _ _ _ => Nat.le_refl _⟩

theorem R_raise {c1 o : Nat} (hR : R X s σ w a) (hc : s.c.c < c1) : R X ⟨s.t, s.b, ⟨c1, [], o⟩⟩ σ w a := by
  have hT : Tr X s.b s.c σ w s.b ⟨c1, [], o⟩ σ w := Tr_raise hc
  exact { hR with
    tm := fun i hi => (hR.tm i hi).tr hT
    bl := fun n g x hx => let ⟨h1, h2, h3⟩ := hR.bl n g x hx; ⟨ok_raise hc h1, h2.tr hT rfl (fun _ _ => rfl), h3⟩ }

/-- Slots are counted from elsewhere. -/
theorem R_off {o : Nat} (hR : R X s σ w a) : R X ⟨s.t, s.b, ⟨s.c.c, s.c.d, o⟩⟩ σ w a := by
  have hT : Tr X s.b s.c σ w s.b ⟨s.c.c, s.c.d, o⟩ σ w := ⟨fun _ _ h => h, fun _ _ h _ => ⟨h, rfl⟩, fun _ _ h => ⟨rfl, h⟩, fun _ _ _ _ _ _ => Nat.le_refl _⟩
  exact { hR with
    tm := fun i hi => (hR.tm i hi).tr hT
    bl := fun n g x hx => let ⟨h1, h2, h3⟩ := hR.bl n g x hx; ⟨h1, h2.tr hT rfl (fun _ _ => rfl), h3⟩ }

/-- The contract of a function that works on memory of its caller: what is told behind it, and what it answers. -/
def InC (P : Program) (X : Ctx) (f : FuncId) (args : List SV) (b : List (Nat × Nat × Blk)) (c0 : Nat) (x : SV) (b' : List (Nat × Nat × Blk)) (c1 : Nat) : Prop :=
  ∀ (σ : Env) (w : World) (vals : Array Value), R X ⟨args, b, ⟨c0, [], 0⟩⟩ σ w ⟨vals, []⟩ →
    Calls P f vals w fun e w' => ∃ v σ', e = .returned v ∧ V2 X b' ⟨c1, [], 0⟩ σ' w' x v ∧ R X ⟨[], b', ⟨c1, [], 0⟩⟩ σ' w' ⟨#[], []⟩ ∧ Tr X b ⟨c0, [], 0⟩ σ w b' ⟨c1, [], 0⟩ σ' w'

/-- Alike, but for nothing told as an empty part. -/
def rI (y x : SV) : Prop :=
  match y, x with
  | .nil, .view t d => d.len = 0
  | y, x => y = x

theorem rI_ok {b : List (Nat × Nat × Blk)} {c : Lim} {y x : SV} {v : Value} (h : rI y x) (hv : V2 X b c σ w y v) : V2 X b c σ w x v := by
  unfold rI at h
  split at h
  · rename_i t d
    have hv : v = .slice none 0 0 := hv
    subst hv
    show IsView _ _ _ _ _
    exact ⟨none, 0, by rw [h], by rw [h]; exact Nat.le_refl _, fun h0 => absurd h h0⟩
  · subst h; exact hv

theorem rI_ok1 {b : List (Nat × Nat × Blk)} {c : Lim} {y x : SV} {v : Value} (h : rI y x) (hv : V1 X b c σ w y v) : V1 X b c σ w x v := by
  unfold rI at h
  split at h
  · rename_i t d
    have hv : v = .slice none 0 0 := hv
    subst hv
    show IsView _ _ _ _ _
    exact ⟨none, 0, by rw [h], by rw [h]; exact Nat.le_refl _, fun h0 => absurd h h0⟩
  · subst h; exact hv

def retC (T : Tab) (rv : Array ResultVar) (x : SV) (b' : List (Nat × Nat × Blk)) (c1 : Nat) (s' : St) : Prop :=
  SubB b' s'.b ∧ s'.c.c < c1 ∧
  match rv.toList.map (resV T s') with
  | [] => x = .tup []
  | [some (p, y)] => p ∧ rI y x ∧ flatV y = true
  | [some (p, y), some (q, z)] => p ∧ q ∧ (match x with | .tup [x1, x2] => rI y x1 ∧ rI z x2 | _ => False) ∧ flat1 y = true ∧ flat1 z = true
  | _ => False

theorem R_tm0 {b' : List (Nat × Nat × Blk)} {c1 o1 : Nat} (hR : R X s σ w a) (hc : s.c.c < c1) (hb : SubB b' s.b) : R X ⟨[], b', ⟨c1, [], o1⟩⟩ σ w ⟨#[], []⟩ := by
  have h1 := (R_raise (c1 := c1) (o := o1) hR hc).drop (b := b') hb
  exact { h1 with sz := rfl, tm := fun i hi => by simp at hi, df := rfl }

theorem Tr_sub {b b' : List (Nat × Nat × Blk)} {c : Lim} (hb : SubB b' b) : Tr X b c σ w b' c σ w := Tr.drop hb

theorem inC_go (TO : TabOk P T) (off : Nat) {f : FuncId} {fn : Func} {c : Code} {args : List SV} {b b' : List (Nat × Nat × Blk)} {c0 c1 : Nat} {x : SV} (hf : P.funcs[f]? = some fn) (hb : fn.body = some c)
    (h : HRun P X [.code c] ⟨args ++ List.replicate (fn.ntmps - args.length) .any, b, ⟨c0, [], off⟩⟩ (retC T fn.results x b' c1)) : InC P X f args b c0 x b' c1 := by
  intro σ w vals hR
  have hvs : vals.size = args.length := hR.sz
  refine calls_of_fin hf hb ?_
  have hb2 : R X ⟨args, b, ⟨c0, [], off⟩⟩ σ w ⟨vals, []⟩ := R_off hR
  have hR2 : R X ⟨args ++ List.replicate (fn.ntmps - args.length) .any, b, ⟨c0, [], off⟩⟩ σ w { tmps := vals ++ Array.replicate (fn.ntmps - vals.size) undef, defers := [] } := by
    refine { hb2 with sz := by simp [hvs], tm := fun j hj => ?_, df := rfl }
    show V X b ⟨c0, [], off⟩ σ w ((args ++ List.replicate (fn.ntmps - args.length) SV.any).getD j .any) _
    by_cases hlt : j < args.length
    · have hV := hb2.tm j hlt
      have e1 : (args ++ List.replicate (fn.ntmps - args.length) SV.any).getD j .any = args.getD j .any := by
        simp only [List.getD]; rw [List.getElem?_append_left (by omega)]
      have e2 : (vals ++ Array.replicate (fn.ntmps - vals.size) undef).getD j undef = vals.getD j undef := by
        rw [Array.getD_eq_getD_getElem?, Array.getElem?_append_left (by omega), Array.getD_eq_getD_getElem?]
      rw [e1, e2]
      exact hV
    · have e1 : (args ++ List.replicate (fn.ntmps - args.length) SV.any).getD j .any = .any := by
        simp only [List.getD]; rw [List.getElem?_append_right (by omega)]
        rw [List.getElem?_replicate]; split <;> rfl
      rw [e1]; exact V.any _
  refine (h σ w _ hR2).mono ?_
  rintro a' w' ⟨s', σ', ⟨hsub, hcc, hi⟩, hR', hT'⟩
  refine ⟨hR'.df, ?_⟩
  have hT : Tr X b ⟨c0, [], 0⟩ σ w b' ⟨c1, [], 0⟩ σ' w' := by
    have t1 : Tr X b ⟨c0, [], 0⟩ σ w b ⟨c0, [], off⟩ σ w := ⟨fun _ _ h => h, fun _ _ h _ => ⟨h, rfl⟩, fun _ _ h => ⟨rfl, h⟩, fun _ _ _ _ _ _ => Nat.le_refl _⟩
    exact t1.trans (hT'.trans ((Tr_raise hcc).trans (Tr_sub hsub)))
  have tv : Tr X s'.b s'.c σ' w' b' ⟨c1, [], 0⟩ σ' w' := (Tr_raise hcc).trans (Tr_sub hsub)
  obtain ⟨rv, hrv⟩ : ∃ l : List ResultVar, fn.results = l.toArray := ⟨fn.results.toList, by simp⟩
  rw [hrv] at hi
  match rv, hrv with
  | [], hrv =>
    simp only [List.map_nil] at hi
    subst hi
    exact ⟨.tuple #[], by simp [results, hrv], .tuple #[], σ', rfl, ⟨#[], rfl, rfl⟩, R_tm0 hR' hcc hsub, hT⟩
  | [r1], hrv =>
    simp only [List.map_cons, List.map_nil] at hi
    cases e1 : resV T s' r1 <;> simp only [e1] at hi
    rename_i q1
    obtain ⟨p1, x1⟩ := q1
    simp only at hi
    obtain ⟨v1, hr1, hv1⟩ := resV_ok TO hR' e1 hi.1
    refine ⟨v1, run_results1 hrv hr1, v1, σ', rfl, rI_ok hi.2.1 ?_, R_tm0 hR' hcc hsub, hT⟩
    exact (V2_of_V' hv1 hi.2.2).tr tv
  | [r1, r2], hrv =>
    simp only [List.map_cons, List.map_nil] at hi
    cases e1 : resV T s' r1 <;> simp only [e1] at hi
    rename_i q1
    obtain ⟨p1, x1⟩ := q1
    cases e2 : resV T s' r2 <;> simp only [e2] at hi
    rename_i q2
    obtain ⟨p2, x2⟩ := q2
    simp only at hi
    obtain ⟨v1, hr1, hv1⟩ := resV_ok TO hR' e1 hi.1
    obtain ⟨v2, hr2, hv2⟩ := resV_ok TO hR' e2 hi.2.1
    obtain ⟨_, _, hx, f1, f2⟩ := hi
    split at hx
    · obtain ⟨h1, h2⟩ := hx
      exact ⟨_, run_results2 hrv hr1 hr2, _, σ', rfl, ⟨_, rfl, v1, _, rfl, rI_ok1 h1 ((V1_of_V hv1 f1).tr tv), v2, _, rfl, rI_ok1 h2 ((V1_of_V hv2 f2).tr tv), rfl⟩, R_tm0 hR' hcc hsub, hT⟩
    · exact hx.elim
  | _ :: _ :: _ :: _, hrv =>
    exfalso
    simp only [List.map_cons] at hi
    split at hi <;> simp_all

theorem inC_call (hR : R X s σ w a) {f : FuncId} {xs : List Operand} {args : List SV} {b' : List (Nat × Nat × Blk)} {c1 d : Nat} {x : SV} (hC : InC P X f args s.b (s.c.c + 1) x b' c1)
    (hgd : gdPs s.t true xs) (ha : argC s.t xs = args) :
    Calls P f (xs.map a.eval).toArray w fun e w' => ∃ v σ', e = .returned v ∧ R X ⟨s.t.set d x, b', ⟨c1, [], s.c.o⟩⟩ σ' w' (a.put (some d) v) ∧ Tr X s.b s.c σ w b' ⟨c1, [], s.c.o⟩ σ' w' := by
  have hb := R_raise (c1 := s.c.c + 1) (o := 0) hR (Nat.lt_succ_self _)
  have hlen : args.length = xs.length := by rw [← ha]; simp [argC]
  have hin : R X ⟨args, s.b, ⟨s.c.c + 1, [], 0⟩⟩ σ w ⟨(xs.map a.eval).toArray, []⟩ := by
    refine { hb with sz := by simp [hlen], tm := fun j hj => ?_, df := rfl }
    obtain ⟨y, hy⟩ : ∃ y, args[j]? = some y := ⟨args[j], by simp⟩
    obtain ⟨v, hv, hV⟩ := evalsC hR hgd (by rw [ha]; exact hy)
    have e1 : (⟨args, s.b, ⟨s.c.c + 1, [], 0⟩⟩ : St).t.getD j .any = y := by simp only [List.getD]; rw [hy]; rfl
    have e2 : ((xs.map a.eval).toArray).getD j undef = v := by
      rw [Array.getD_eq_getD_getElem?, List.getElem?_toArray, hv]; rfl
    show V X s.b ⟨s.c.c + 1, [], 0⟩ σ w (args.getD j .any) (((xs.map a.eval).toArray).getD j undef)
    rw [show args.getD j .any = y from e1, e2]
    exact V_of_V2 (hV.tr (Tr_raise (Nat.lt_succ_self _)))
  refine (hC σ w _ hin).mono ?_
  rintro e w' ⟨v, σ', rfl, hv, hR', hT⟩
  have hT2 : Tr X s.b s.c σ w b' ⟨c1, [], s.c.o⟩ σ' w' := by
    have t1 : Tr X b' ⟨c1, [], 0⟩ σ' w' b' ⟨c1, [], s.c.o⟩ σ' w' := ⟨fun _ _ h => h, fun _ _ h _ => ⟨h, rfl⟩, fun _ _ h => ⟨rfl, h⟩, fun _ _ _ _ _ _ => Nat.le_refl _⟩
    exact (Tr_raise (Nat.lt_succ_self _)).trans (hT.trans t1)
  have t3 : Tr X b' ⟨c1, [], 0⟩ σ' w' b' ⟨c1, [], s.c.o⟩ σ' w' := ⟨fun _ _ h => h, fun _ _ h _ => ⟨h, rfl⟩, fun _ _ h => ⟨rfl, h⟩, fun _ _ _ _ _ _ => Nat.le_refl _⟩
  have ht := put_tm (dst := some d) hR.sz (fun i hi => (hR.tm i hi).tr hT2) (V_of_V2 (hv.tr t3))
  have hR2 := R_off (o := s.c.o) hR'
  exact ⟨v, σ', rfl, { hR2 with sz := ht.1, tm := ht.2, df := hR.df }, hT2⟩

theorem inC_ops (TO : TabOk P T) {ops : Array Oper} {o : Oper} {rest : List Oper} {k : List Item} {Φ : St → Prop} {f : FuncId} {fn : Func} {xs : Array Operand} {ts : Array TypeId} {d : Nat} {args : List SV} {b' : List (Nat × Nat × Blk)} {c1 : Nat} {x : SV} (n : Nat)
    (hC : InC P X f args s.b (s.c.c + 1) x b' c1) (hf : P.funcs[f]? = some fn) (hname : (fn.name == "runtime.NumGoroutine") = false) (hb : fn.body.isSome = true)
    (ho : o.op = .call { callee := .value (.func f), args := xs, argTypes := ts }) (hd : o.dst = some d)
    (h : (argC s.t xs.toList = args ∧ guardIs ops s.t true o.guard ∧ gdPs s.t true xs.toList) ∧ absOps P X T ops k Φ (absRun P X T Φ n k) rest ⟨s.t.set d x, b', ⟨c1, [], s.c.o⟩⟩) : HOps P X ops (o :: rest) k s Φ := by
  obtain ⟨⟨ha, hg, hgd⟩, h⟩ := h
  intro i hi σ w a hR
  obtain ⟨ho', hrest⟩ := ops_at hi
  have hw : Region.wanted o (yielded ops a.tmps) = true := by
    cases e : o.guard with
    | none => simp [Region.wanted, e]
    | some jw => obtain ⟨j, w'⟩ := jw; rw [e] at hg; simp only [Region.wanted, e]; exact guardOf_ok hR hg
  rw [List.length_cons, List.range'_succ]
  refine Fins.opCall (f := f) (args := (xs.toList.map a.eval).toArray) (w' := w) ho' hw ?_ ?_
  · simp only [execOp, ho, resolve]
    have e1 : a.eval (.func f) = .func (.func f) #[] #[] := rfl
    have e2 : (xs.toList.map a.eval).toArray = xs.map a.eval := Array.ext' (by rw [Array.toList_map])
    simp [e1, Deferred.ofValue, invoke, run_callFunc hf hb hname, e2]
  · refine (inC_call (d := d) hR hC hgd ha).mono ?_
    rintro e w' ⟨v, σ', rfl, hR', hT⟩
    exact ⟨v, rfl, by rw [hd]; exact (HOps_go TO n h (i + 1) hrest).after hR' hT⟩

theorem argC_agree {ops : Array Oper} {o : Oper} {t t' : List SV} {f : FuncId} {xs : Array Operand} {ts : Array TypeId} (hag : Agree ops o t t') (ho : o.op = .call { callee := .value (.func f), args := xs, argTypes := ts }) :
    argC t' xs.toList = argC t xs.toList ∧ (gdPs t true xs.toList → gdPs t' true xs.toList) := by
  have hargs := gdPs_args hag ho
  refine ⟨?_, fun h => by rw [gdPs_agree hargs]; exact h⟩
  unfold argC
  exact List.map_congr_left fun x hx => by rw [hargs x hx]

/-- In a region that draws its order: blocks of a family stay of it. -/
def absI {α : Type} (P : Program) (X : Ctx) (T : Tab) (ops : Array Oper) (F : α → List (Nat × Nat × Blk)) (Q next : St → Prop) : List Oper → St → Prop
  | [], s => next s
  | o :: rest, s => match isEff T o.op with
    | false => match pureStep T ops s.t s.b o with
      | some (p, x) => (∀ y, pureStep T ops s.t (F y) o = some (p, x)) ∧ p ∧ absI P X T ops F Q next rest ⟨setD s.t o.dst x, s.b, s.c⟩
      | none => lexT P X T ops (fun b => ∃ y, SubB (F y) b) Q (o :: rest) s
    | true => match absOp T ops s o with
      | .go p s' => p ∧ (∃ y, subB (F y) s'.b) ∧ absI P X T ops F Q next rest s'
      | .stop => lexT P X T ops (fun b => ∃ y, SubB (F y) b) Q (o :: rest) s

theorem absI_ok (TO : TabOk P T) {α : Type} {ops : Array Oper} {F : α → List (Nat × Nat × Blk)} {Q next : St → Prop} (hn : ∀ s, next s → Q s) : ∀ (rest : List Oper) (s : St), absI P X T ops F Q next rest s → lexT P X T ops (fun b => ∃ y, SubB (F y) b) Q rest s
  | [], s, h => hn s h
  | o :: rest, s, h => by
    unfold absI at h
    cases e : isEff T o.op with
    | false =>
      simp only [e] at h
      cases e2 : pureStep T ops s.t s.b o with
      | none => simp only [e2] at h; exact h
      | some r =>
        obtain ⟨p, x⟩ := r
        simp only [e2] at h
        unfold lexT
        rw [e]
        refine ⟨x, ?_, absI_ok TO hn rest _ h.2.2⟩
        intro t' b' c' hag ⟨y, hsub⟩ σ w a hR
        have h1 : pureStep T ops t' b' o = some (p, x) := by rw [pureStep_agree hag]; exact pureStep_sub hsub (h.1 y)
        have h2 := pureStep_abs (s := ⟨t', b', c'⟩) h1
        rcases absOp_ok TO hR h2 h.2.1 with h3 | h3
        · exact .inl h3
        · exact .inr (.inl h3)
    | true =>
      simp only [e] at h
      cases e2 : absOp T ops s o with
      | stop => simp only [e2] at h; exact h
      | go p s' =>
        simp only [e2] at h
        have hl := absOp_loc (T := T) (ops := ops) (o := o) (t := s.t) (t' := s.t) (b := s.b) (c := s.c) Agree.refl
        rw [e2] at hl
        obtain ⟨x, b', c', rfl, _⟩ := hl
        unfold lexT
        rw [e]
        obtain ⟨hp, ⟨y, hy⟩, h⟩ := h
        refine ⟨x, b', c', fun t' hag σ w a hR => ?_, ⟨y, subB_ok hy⟩, absI_ok TO hn rest _ h⟩
        have hl := absOp_loc (T := T) (ops := ops) (o := o) (t := s.t) (t' := t') (b := s.b) (c := s.c) hag
        rw [e2] at hl
        obtain ⟨x2, b2, c2, h1, h2⟩ := hl
        have hx : absOp T ops ⟨t', s.b, s.c⟩ o = .go p ⟨setD t' o.dst x, b', c'⟩ := by
          rw [h2]
          simp only [St.mk.injEq] at h1
          obtain ⟨h3, rfl, rfl⟩ := h1
          congr 2
          cases ed : o.dst with
          | none => rfl
          | some d =>
            simp only [ed, setD] at h3 ⊢
            by_cases hd : d < s.t.length
            · have := congrArg (fun l : List SV => l[d]?) h3
              simp [hd] at this
              rw [this]
            · have h4 : t'.length ≤ d := by rw [hag.1]; exact Nat.le_of_not_lt hd
              rw [List.set_eq_of_length_le h4, List.set_eq_of_length_le h4]
        rcases absOp_ok TO hR hx hp with h3 | h3
        · exact .inl h3
        · exact .inr (.inl h3)

theorem drawI_go (TO : TabOk P T) {α : Type} (F : α → List (Nat × Nat × Blk)) (m n : Nat) {id : Nat} {ops : Array Oper} {k : List Item} {Φ : St → Prop} (hm : P.follows .mixedOrders = true) (hok : drawOk T ops m = true)
    (h : (∃ y, subB (F y) s.b) ∧ absI P X T ops F (fun s' => HOps P X ops (ops.toList.drop m) k s' Φ) (absOps P X T ops k Φ (absRun P X T Φ n k) (ops.toList.drop m)) (ops.toList.take m) ⟨s.t, s.b, ⟨s.c.c + 1, [], s.c.o⟩⟩) :
    HRun P X (.code (.region id ops true) :: k) s Φ := by
  obtain ⟨⟨y, hy⟩, h⟩ := h
  exact HRun_drawI (fun b => ∃ y, SubB (F y) b) hm hok ⟨y, subB_ok hy⟩ (absI_ok TO (fun s' hs => HOps_go TO n hs) _ _ h)

/-- A block written over: what was told of the others still holds; of itself, if it is as it was. -/
theorem SubB_same {b : List (Nat × Nat × Blk)} {n g : Nat} {x : Blk} (h : fnd b n = some (g, x)) : SubB (upd b n g x) b := by
  intro m y hy
  rw [fnd_upd] at hy
  split at hy
  · rename_i e; subst e; rw [h]; exact hy
  · exact hy
theorem SubB_refl {b : List (Nat × Nat × Blk)} : SubB b b := fun _ _ h => h

theorem SubB_new {b : List (Nat × Nat × Blk)} {n g : Nat} {x : Blk} (h : fnd b n = none) : SubB b (upd b n g x) := by
  intro m y hy
  rw [fnd_upd]
  split
  · rename_i e; subst e; rw [h] at hy; cases hy
  · exact hy
theorem SubB_del_new {b : List (Nat × Nat × Blk)} {n g : Nat} {x : Blk} (h : fnd b n = none) : SubB b (del (upd b n g x) n) := by
  intro m y hy
  rw [fnd_del, fnd_upd]
  split
  · rename_i e; subst e; rw [h] at hy; cases hy
  · exact hy

/-- As callD_go; which blocks stay is shown apart. -/
theorem callDS_go (TO : TabOk P T) {ops : Array Oper} {b0 : List (Nat × Nat × Blk)} {Q next : St → Prop} (hn : ∀ s, next s → Q s) {o : Oper} {rest : List Oper} {s : St} {f : FuncId} {fn : Func} {ags : Array Operand} {ts : Array TypeId} {d : Nat} {fs rs : List AV}
    (hM : Meets P f fs rs) (hf : P.funcs[f]? = some fn) (hname : (fn.name == "runtime.NumGoroutine") = false) (hb : fn.body.isSome = true)
    (ho : o.op = .call { callee := .value (.func f), args := ags, argTypes := ts }) (hd : o.dst = some d) (hs : SubB b0 (callS s d ags.toList fs rs).b)
    (h : guardIs ops s.t true o.guard ∧ callP s d ags.toList fs rs ∧ absD P X T ops b0 Q next rest (callS s d ags.toList fs rs)) : lexT P X T ops (SubB b0) Q (o :: rest) s := by
  obtain ⟨hg, hp, h⟩ := h
  have he : isEff T o.op = true := by rw [ho]; rfl
  unfold lexT
  rw [he]
  refine ⟨packS (impT (nm (s.c.o + d)) s.c.c 0 rs), (callS s d ags.toList fs rs).b, (callS s d ags.toList fs rs).c, fun t' hag σ w a hR => ?_, hs, ?_⟩
  · have hargs := gdPs_args hag ho
    have hA : argS t' ags.toList = argS s.t ags.toList := by
      unfold argS
      exact List.map_congr_left fun x hx => by rw [hargs x hx]
    have hp' : callP ⟨t', s.b, s.c⟩ d ags.toList fs rs := by
      unfold callP at hp ⊢
      simp only [hA, gdPs_agree hargs]
      exact hp
    have hS : callS ⟨t', s.b, s.c⟩ d ags.toList fs rs = ⟨setD t' o.dst (packS (impT (nm (s.c.o + d)) s.c.c 0 rs)), (callS s d ags.toList fs rs).b, (callS s d ags.toList fs rs).c⟩ := by
      unfold callS
      simp only [hA, hd]
      rfl
    have hw : Region.wanted o (yielded ops a.tmps) = true := by
      cases e : o.guard with
      | none => simp [Region.wanted, e]
      | some jw =>
        obtain ⟨j, w'⟩ := jw
        rw [e] at hg
        simp only [Region.wanted, e]
        exact guardOf_ok (s := ⟨t', s.b, s.c⟩) hR (by rw [guardOf_agree hag e]; exact hg)
    refine .inr (.inr ⟨hw, f, (ags.toList.map a.eval).toArray, ?_, ?_⟩)
    · simp only [execOp, ho, resolve]
      have e1 : a.eval (.func f) = .func (.func f) #[] #[] := rfl
      have e2 : (ags.toList.map a.eval).toArray = ags.map a.eval := Array.ext' (by rw [Array.toList_map])
      simp [e1, Deferred.ofValue, invoke, run_callFunc hf hb hname, e2]
    · rw [← hS, hd]
      exact call_R hR hM hp'
  · have := absD_ok TO hn rest _ h
    rw [hd]
    exact this

end

end Go.Proofs.YtakgefinmlomdaaDoor.Abs

/- OWN LIBRARY: a slice that lies in a variable's cell, told by value from here on. -/
set_option linter.unusedVariables false
set_option linter.unusedSimpArgs false
namespace Go.Proofs.YtakgefinmlomdaaDoor.Abs
open Go

section
variable {X : Ctx} {s : St} {σ : Env} {w : World} {a : Act}

theorem Data.sub_len {d : Data} {off len : Nat} (h : off + len ≤ d.len) : (d.sub off len).len = len := by
  cases d <;> simp only [Data.sub, Data.len, List.length_take, List.length_drop] at * <;> omega
theorem Data.sub_esz {d : Data} {off len : Nat} : (d.sub off len).esz = d.esz := by cases d <;> rfl

theorem sub_cell {vw : Bool → Nat → Prop} {d : Data} {off len p q : Nat} {x : Value} (h : CellOk vw w (off + p) q d x) (hp : p < len) : CellOk vw w p q (d.sub off len) x := by
  cases d with
  | ints k l =>
    have h : x = .int k (l.getD (off + p) 0) := h
    show x = .int k (((l.drop off).take len).getD p 0)
    rw [h]; simp [List.getD, List.getElem?_take, List.getElem?_drop, hp]
  | strs l =>
    have h : x = .string (l.getD (off + p) default) := h
    show x = .string (((l.drop off).take len).getD p default)
    rw [h]; simp [List.getD, List.getElem?_take, List.getElem?_drop, hp]
  | rows t l =>
    have h : IsRow (vw t) w (l.getD (off + p) []) x := h
    show IsRow (vw t) w (((l.drop off).take len).getD p []) x
    have e : ((l.drop off).take len).getD p [] = l.getD (off + p) [] := by simp [List.getD, List.getElem?_take, List.getElem?_drop, hp]
    rw [e]; exact h
  | locks l =>
    have e : ((l.drop off).take len).getD p default = l.getD (off + p) default := by simp [List.getD, List.getElem?_take, List.getElem?_drop, hp]
    simp only [CellOk, Data.sub] at h ⊢
    rw [e]; exact h
  | ents l =>
    have e : ((l.drop off).take len).getD p default = l.getD (off + p) default := by simp [List.getD, List.getElem?_take, List.getElem?_drop, hp]
    simp only [CellOk, Data.sub] at h ⊢
    rw [e]; exact h

theorem V0_freeze {b' : List (Nat × Nat × Blk)} {c' : Lim} (hR : R X s σ w a) {n g off len : Nat} {d : Data} {v : Value} (hn : fnd s.b n = some (g, .vec d)) (hl : off + len ≤ d.len)
    (T : Tr X s.b s.c σ w b' c' σ w) (hfn : ∀ k y, fnd b' k = some y → k ≠ n ∧ ∃ z, fnd s.b k = some z) (hv : V0 X s.b s.c σ w (.sl n g 0 d.esz off len) v) : V0 X b' c' σ w (.view true (d.sub off len)) v := by
  obtain ⟨_, hv⟩ := hv
  obtain ⟨ad, cap, hval, hcap, hpt⟩ := hv ⟨_, hn⟩
  obtain ⟨hok, hbk, hB0⟩ := hR.bl n g _ hn
  show IsView (Vw X b' σ w) w true (d.sub off len) v
  refine ⟨ad, cap, by rw [Data.sub_len hl]; exact hval, by rw [Data.sub_len hl]; exact hcap, fun h0 => ?_⟩
  rw [Data.sub_len hl] at h0
  obtain ⟨B, hs, hadr, _⟩ := hpt (by omega)
  refine ⟨B, 0 + off * d.esz, hadr, ?_, ?_⟩
  · refine ⟨(hB0 B hs).1, .inr ⟨(hB0 B hs).2, ?_⟩⟩
    rintro ⟨m, x, hm, hs2⟩
    obtain ⟨hne, z, hz⟩ := hfn m x hm
    exact hne (hR.inj m n _ _ B hz hn hs2 hs)
  · rcases hbk with ⟨hnone, _⟩ | ⟨B', cs, t, fr, hs', hheap, _, _, hh, _⟩
    · rw [hnone] at hs; cases hs
    · obtain rfl : B = B' := Option.some.inj (hs.symm.trans hs')
      intro p q hp hq
      rw [Data.sub_len hl] at hp
      rw [Data.sub_esz] at hq ⊢
      obtain ⟨x, hx, hc⟩ := hh (off + p) q (by omega) hq
      refine ⟨x, ?_, sub_cell (hc.tr T) hp⟩
      rw [← hx]; congr 2
      rw [Nat.add_mul]; omega

theorem CellsOk.swap {b b' : List (Nat × Nat × Blk)} {c c' : Lim} (T : Tr X b c σ w b' c' σ w) {n g seg e off len : Nat} {x : SV} (hx : ∀ v, V0 X b c σ w (.sl n g seg e off len) v → V0 X b' c' σ w x v) (hna : ∀ k m q, x ≠ .arr k m q) :
    ∀ {l : List SV} {cs : List Value} {j : Nat}, CellsOk X b c σ w l cs → l[j]? = some (.sl n g seg e off len) → CellsOk X b' c' σ w (l.set j x) cs := by
  intro l
  induction l with
  | nil => intro cs j h e; simp at e
  | cons y r ih =>
    intro cs j h ej
    cases j with
    | zero =>
      simp only [List.getElem?_cons_zero, Option.some.injEq] at ej
      subst ej
      obtain ⟨v, cs', e, h1, h2⟩ := h
      have h3 := hx v h1
      have h4 := CellsOk.tr T h2
      simp only [List.set_cons_zero]
      cases x with
      | arr k m q => exact absurd rfl (hna k m q)
      | _ => exact ⟨v, cs', e, h3, h4⟩
    | succ j =>
      simp only [List.getElem?_cons_succ] at ej
      simp only [List.set_cons_succ]
      cases y with
      | arr k n' l' => obtain ⟨h1, cs', e, h2⟩ := h; exact ⟨h1, cs', e, ih h2 ej⟩
      | _ => obtain ⟨v, cs', e, h1, h2⟩ := h; exact ⟨v, cs', e, h1.tr T, ih h2 ej⟩

theorem R_freezeC (hR : R X s σ w a) {m gm j n g off len : Nat} {l : List SV} {d : Data} (hm : fnd s.b m = some (gm, .cells l)) (hj : l[j]? = some (.sl n g 0 d.esz off len)) (hn : fnd s.b n = some (g, .vec d)) (hmn : m ≠ n) (hl : off + len ≤ d.len) :
    R X ⟨s.t, upd (del s.b n) m gm (.cells (l.set j (.view true (d.sub off len)))), s.c⟩ σ w a ∧ Tr X s.b s.c σ w (upd (del s.b n) m gm (.cells (l.set j (.view true (d.sub off len))))) s.c σ w := by
  have hmd : fnd (del s.b n) m = some (gm, .cells l) := by rw [fnd_del, if_neg hmn]; exact hm
  have T : Tr X s.b s.c σ w (upd (del s.b n) m gm (.cells (l.set j (.view true (d.sub off len))))) s.c σ w := (Tr_del n).trans (Tr_upd hmd)
  have hfn : ∀ k y, fnd (upd (del s.b n) m gm (.cells (l.set j (.view true (d.sub off len))))) k = some y → k ≠ n ∧ ∃ z, fnd s.b k = some z := by
    intro k y hk
    rw [fnd_upd] at hk
    split at hk
    · rename_i e; subst e; exact ⟨hmn, _, hm⟩
    · rw [fnd_del] at hk
      split at hk
      · cases hk
      · rename_i e; exact ⟨e, _, hk⟩
  refine ⟨?_, T⟩
  refine { sz := hR.sz, tm := fun j hj => (hR.tm j hj).tr T, df := hR.df, bl := ?_, inj := ?_, fr := hR.fr, st := hR.st, ro := hR.ro, gl := hR.gl }
  · intro k gk x hk
    simp only at hk
    rw [fnd_upd] at hk
    split at hk
    · rename_i e
      subst e
      simp only [Option.some.injEq, Prod.mk.injEq] at hk
      obtain ⟨rfl, rfl⟩ := hk
      obtain ⟨h1, ⟨B, cs, t, fr, hs, hheap, hfree, hcells⟩, h3⟩ := hR.bl k gm _ hm
      refine ⟨h1, ⟨B, cs, t, fr, hs, hheap, hfree, ?_⟩, h3⟩
      exact CellsOk.swap T (fun v hv => V0_freeze hR hn hl T hfn hv) (fun _ _ _ h => by cases h) hcells hj
    · rw [fnd_del] at hk
      split at hk
      · cases hk
      · obtain ⟨h1, h2, h3⟩ := hR.bl k gk x hk
        exact ⟨h1, h2.tr T rfl (fun _ _ => rfl), h3⟩
  · intro k k' x x' B hk hk' hs hs'
    obtain ⟨_, z, hz⟩ := hfn k x hk
    obtain ⟨_, z', hz'⟩ := hfn k' x' hk'
    exact hR.inj k k' z z' B hz hz' hs hs'

theorem freezeC_go {P : Program} {todo : List Item} {Φ : St → Prop} (m j n : Nat) {gm g off len : Nat} {l : List SV} (d : Data)
    (h : (fnd s.b m = some (gm, .cells l) ∧ l[j]? = some (.sl n g 0 d.esz off len) ∧ fnd s.b n = some (g, .vec d) ∧ m ≠ n ∧ off + len ≤ d.len) ∧ HRun P X todo ⟨s.t, upd (del s.b n) m gm (.cells (l.set j (.view true (d.sub off len)))), s.c⟩ Φ) : HRun P X todo s Φ := by
  obtain ⟨⟨h1, h2, h3, h4, h5⟩, h⟩ := h
  intro σ w a hR
  obtain ⟨hR', T⟩ := R_freezeC hR h1 h2 h3 h4 h5
  exact h.after hR' T

theorem freezeC_ops {P : Program} {ops : Array Oper} {rest : List Oper} {k : List Item} {Φ : St → Prop} (m j n : Nat) {gm g off len : Nat} {l : List SV} (d : Data)
    (h : (fnd s.b m = some (gm, .cells l) ∧ l[j]? = some (.sl n g 0 d.esz off len) ∧ fnd s.b n = some (g, .vec d) ∧ m ≠ n ∧ off + len ≤ d.len) ∧ HOps P X ops rest k ⟨s.t, upd (del s.b n) m gm (.cells (l.set j (.view true (d.sub off len)))), s.c⟩ Φ) : HOps P X ops rest k s Φ :=
  fun i hi => freezeC_go m j n d ⟨h.1, h.2 i hi⟩

end

end Go.Proofs.YtakgefinmlomdaaDoor.Abs

/- OWN LIBRARY: structs of a text and a struct of numbers, compared. -/
set_option linter.unusedVariables false
set_option linter.unusedSimpArgs false
namespace Go.Proofs.YtakgefinmlomdaaDoor.Abs
open Go

section
variable {P : Program} {T : Tab} {X : Ctx} {s : St} {σ : Env} {w : World} {a : Act}

theorem eqN_run (TO : TabOk P T) {t ts t1 : TypeId} {fs1 : List (Nat × TypeId)} {b : List (Nat × Nat × Blk)} {c : Lim} {a1 a2 : ByteArray} {m1 m2 : List SV} {p1 : Prop} {r1 : Bool} {xs ys : Array Value}
    (hT : T.ty t = .struct [(0, ts), (1, t1)]) (hS : T.ty ts = .string) (h1 : T.ty t1 = .struct fs1) (he : T.eqS t1 = true) (hz : T.size t1 ≠ 0) (hc1 : cntC m1 = T.size t1) (hc2 : cntC m2 = T.size t1)
    (hh : P.stoodInHeld t = false ∧ P.eqGuardType P.depth t = false ∧ ∀ f ∈ (P.fieldsOf t).toList, f.name ≠ "_")
    (hx : CellsOk X b c σ w (.str a1 :: m1) xs.toList) (hy : CellsOk X b c σ w (.str a2 :: m2) ys.toList) (hF : eqF T m1 m2 fs1 = some (p1, r1)) (hp : p1) :
    (Op.equalIn 10000 t (.agg xs) (.agg ys)).run P w = .ok ((a1.toList == a2.toList) && r1) w := by
  have ht := TO.ty t
  rw [hT] at ht; simp only [tyOk] at ht
  obtain ⟨fl, hfl, hm⟩ := ht
  have hfo : P.fieldsOf t = fl := by unfold Program.fieldsOf; rw [hfl]
  have ht1 := TO.ty t1
  rw [h1] at ht1; simp only [tyOk] at ht1
  obtain ⟨fl1, hfl1, hm1⟩ := ht1
  have hfo1 : P.fieldsOf t1 = fl1 := by unfold Program.fieldsOf; rw [hfl1]
  obtain ⟨g1, g2, g3⟩ := TO.eq t1 he
  obtain ⟨v1, c1, ex, hv1, hr1⟩ := hx
  obtain ⟨v2, c2, ey, hv2, hr2⟩ := hy
  obtain rfl : v1 = .string a1 := hv1
  obtain rfl : v2 = .string a2 := hv2
  have l1 := cntC_ok hr1
  have l2 := cntC_ok hr2
  rw [run_equalIn_struct w 9999 t xs ys (by rw [hfo]; exact hfl) hh.1, hfo]
  obtain ⟨f0, f1, hlist⟩ : ∃ f0 f1, fl.toList = [f0, f1] := by
    have hl := congrArg List.length hm
    match h : fl.toList, hl with
    | [f0, f1], _ => exact ⟨f0, f1, rfl⟩
    | [], hl => simp at hl
    | [_], hl => simp at hl
    | _ :: _ :: _ :: _, hl => simp at hl
  rw [hlist] at hm ⊢
  simp only [List.map_cons, List.map_nil, List.cons.injEq, Prod.mk.injEq, and_true] at hm
  obtain ⟨⟨o0, t0⟩, o1, tt1⟩ := hm
  have hn := hh.2.2
  rw [hfo, hlist] at hn
  have n0 := hn f0 (by simp)
  have n1 := hn f1 (by simp)
  have hts := TO.ty ts
  rw [hS] at hts; simp only [tyOk] at hts
  have x0 : xs[0]? = some (.string a1) := by rw [← Array.getElem?_toList, ex]; rfl
  have y0 : ys[0]? = some (.string a2) := by rw [← Array.getElem?_toList, ey]; rfl
  have pa : (part ts xs 0).run P w = .ok (.string a1) w := by simp [part, isAgg_one TO (show one (T.ty ts) = true by rw [hS]; rfl), x0]
  have pb : (part ts ys 0).run P w = .ok (.string a2) w := by simp [part, isAgg_one TO (show one (T.ty ts) = true by rw [hS]; rfl), y0]
  have q1 : (xs.extract 1 (1 + T.size t1)).toList = c1 := by
    rw [Array.toList_extract, ex]
    simp only [List.extract_eq_take_drop, List.drop_succ_cons, List.drop_zero]
    rw [show 1 + T.size t1 - 1 = c1.length by omega, List.take_length]
  have q2 : (ys.extract 1 (1 + T.size t1)).toList = c2 := by
    rw [Array.toList_extract, ey]
    simp only [List.extract_eq_take_drop, List.drop_succ_cons, List.drop_zero]
    rw [show 1 + T.size t1 - 1 = c2.length by omega, List.take_length]
  have hag := isAgg_struct (w := w) TO h1
  have hsz := size_run (w := w) TO hz
  have pc : (part t1 xs 1).run P w = .ok (.agg (xs.extract 1 (1 + T.size t1))) w := by simp only [part, Sem.run_bind, hag, Result.andThen_ok, if_true, hsz, Sem.run_pure]
  have pd : (part t1 ys 1).run P w = .ok (.agg (ys.extract 1 (1 + T.size t1))) w := by simp only [part, Sem.run_bind, hag, Result.andThen_ok, if_true, hsz, Sem.run_pure]
  have hrun := eqF_ok TO 9996 (l := m1) (m := m2) (xs := xs.extract 1 (1 + T.size t1)) (ys := ys.extract 1 (1 + T.size t1)) (by rw [q1]; exact hr1) (by rw [q2]; exact hr2) (fl := fl1.toList) (by rw [← hfo1]; exact g3) (by rw [hm1]; exact hF) hp
  have hin : (Op.equalIn 9999 t1 (.agg (xs.extract 1 (1 + T.size t1))) (.agg (ys.extract 1 (1 + T.size t1)))).run P w = .ok r1 w := by
    rw [run_equalIn_struct w 9998 t1 _ _ (by rw [hfo1]; exact hfl1) g1, hfo1]
    exact hrun
  have hstr : (Op.equalIn 9999 ts (.string a1) (.string a2)).run P w = .ok (a1.toList == a2.toList) w := run_equalIn_string w 9998 ts _ _ hts
  simp only [Op.eqFields, if_pos n0, if_pos n1, o0, t0, o1, tt1, Sem.run_bind, pa, pb, pc, pd, hstr, hin, Result.andThen_ok]
  cases (a1.toList == a2.toList) <;> cases r1 <;> simp [pc, pd, hin]

theorem eqN_ops (TO : TabOk P T) {ops : Array Oper} {o : Oper} {rest : List Oper} {k : List Item} {Φ : St → Prop} {t ts t1 yt : TypeId} {fs1 : List (Nat × TypeId)} {x y : Operand} {d : Nat} {a1 a2 : ByteArray} {m1 m2 : List SV} {p1 : Prop} {r1 : Bool}
    (ho : o.op = .binOp .neq t x y yt) (hg : o.guard = none) (hd : o.dst = some d)
    (hT : T.ty t = .struct [(0, ts), (1, t1)]) (hS : T.ty ts = .string) (h1 : T.ty t1 = .struct fs1) (he : T.eqS t1 = true) (hz : T.size t1 ≠ 0) (hc1 : cntC m1 = T.size t1) (hc2 : cntC m2 = T.size t1)
    (hh : P.stoodInHeld t = false ∧ P.eqGuardType P.depth t = false ∧ ∀ f ∈ (P.fieldsOf t).toList, f.name ≠ "_")
    (hx : evO s.t x = .agg (.str a1 :: m1)) (hy : evO s.t y = .agg (.str a2 :: m2)) (hF : eqF T m1 m2 fs1 = some (p1, r1)) (hp : p1)
    (h : HOps P X ops rest k ⟨s.t.set d (.bool (!((a1.toList == a2.toList) && r1))), s.b, s.c⟩ Φ) : HOps P X ops (o :: rest) k s Φ := by
  intro i hi σ w a hR
  obtain ⟨ho', hrest⟩ := ops_at hi
  have hv := V_evO hR x
  rw [hx] at hv
  have hw := V_evO hR y
  rw [hy] at hw
  obtain ⟨xs, ex, hcx⟩ := (hv : ∃ cs, a.eval x = .agg cs ∧ CellsOk X s.b s.c σ w (.str a1 :: m1) cs.toList)
  obtain ⟨ys, ey, hcy⟩ := (hw : ∃ cs, a.eval y = .agg cs ∧ CellsOk X s.b s.c σ w (.str a2 :: m2) cs.toList)
  have hEq := eqN_run TO hT hS h1 he hz hc1 hc2 hh hcx hcy hF hp
  have hu : (execOp a.eval o).run P w = .ok (.value (.bool (!((a1.toList == a2.toList) && r1)))) w := by
    simp [execOp, ho, ex, ey, run_eqGuard_agg w _ t _ _ xs ys hh.2.1, run_neq_struct, hEq]
  rw [List.length_cons, List.range'_succ]
  refine Fins.opValue (v := .bool (!((a1.toList == a2.toList) && r1))) ho' (by simp [Region.wanted, hg]) (.inl hu) ((h (i + 1) hrest).after ?_ Tr.refl)
  rw [hd]
  exact R_set hR (dst := some d) (sv := .bool (!((a1.toList == a2.toList) && r1))) (show V X s.b s.c σ w _ _ from rfl)

end

end Go.Proofs.YtakgefinmlomdaaDoor.Abs

/- OWN LIBRARY: a call under a guard of which it is not known whether it holds. -/
set_option linter.unusedVariables false
set_option linter.unusedSimpArgs false
namespace Go.Proofs.YtakgefinmlomdaaDoor.Abs
open Go

section
variable {P : Program} {T : Tab} {X : Ctx} {s : St} {σ : Env} {w : World} {a : Act}

theorem HRun.retell {todo : List Item} {t : List SV} {Φ : St → Prop} (hlen : t.length = s.t.length) (hv : ∀ i σ w v, V X s.b s.c σ w (s.t.getD i .any) v → V X s.b s.c σ w (t.getD i .any) v) (h : HRun P X todo ⟨t, s.b, s.c⟩ Φ) : HRun P X todo s Φ := by
  intro σ w a hR
  exact h σ w a { hR with sz := by rw [hR.sz, hlen], tm := fun i hi => hv i σ w _ (hR.tm i (by simpa [hlen] using hi)) }

theorem callG_ops {ops : Array Oper} {o : Oper} {rest : List Oper} {k : List Item} {Φ : St → Prop} {f : FuncId} {fn : Func} {arz : Array Operand} {ts : Array TypeId} {d j : Nat} {fs : List AV} {x : SV} {g wt : Bool}
    (hM : Meets P f fs [.v x]) (hf : P.funcs[f]? = some fn) (hname : (fn.name == "runtime.NumGoroutine") = false) (hb : fn.body.isSome = true)
    (ho : o.op = .call { callee := .value (.func f), args := arz, argTypes := ts }) (hd : o.dst = some d) (hj : o.guard = some (j, wt)) (hg : guardOf ops s.t j wt = some g) (hfl : flat2 x = true)
    (hp : g = true → callP s d arz.toList fs [.v x] ∧ ownN (argS s.t arz.toList) fs = []) (hn : HOps P X ops rest k ⟨s.t.set d (.gd g x), s.b, s.c⟩ Φ) : HOps P X ops (o :: rest) k s Φ := by
  cases g with
  | true =>
    obtain ⟨hp, hown⟩ := hp rfl
    refine HOps_call hM ho hd (by rw [hj]; exact hg) hf hb hname hp ?_
    have e : callS s d arz.toList fs [.v x] = ⟨s.t.set d x, s.b, s.c⟩ := by
      unfold callS
      rw [hown]
      rfl
    rw [e]
    intro i hi
    refine HRun.retell (t := s.t.set d (.gd true x)) (by simp) ?_ (hn i hi)
    intro q σ w v hv
    by_cases hq : d = q
    · subst hq
      by_cases hl : d < s.t.length
      · have e1 : (s.t.set d x).getD d .any = x := by simp [List.getD, hl]
        have e2 : (s.t.set d (.gd true x)).getD d .any = .gd true x := by simp [List.getD, hl]
        simp only [e1] at hv
        rw [e2]
        refine ⟨fun _ => ?_, fun h => by cases h⟩
        cases x <;> first | exact hv | cases hfl
      · have e2 : (s.t.set d (.gd true x)).getD d .any = .any := by simp [List.getD, hl]
        rw [e2]; exact V.any _
    · have e1 : (s.t.set d x).getD q .any = s.t.getD q .any := by simp [List.getD, List.getElem?_set, hq]
      have e2 : (s.t.set d (.gd true x)).getD q .any = s.t.getD q .any := by simp [List.getD, List.getElem?_set, hq]
      simp only [e1] at hv
      rw [e2]; exact hv
  | false =>
    have := HOps_skipG (P := P) (X := X) (s := s) x (ops := ops) (o := o) (rest := rest) (k := k) (Φ := Φ) (by rw [hj]; exact hg) (by rw [hd]; exact hn)
    exact this

theorem callG_go (TO : TabOk P T) (n : Nat) {ops : Array Oper} {o : Oper} {rest : List Oper} {k : List Item} {Φ : St → Prop} {f : FuncId} {fn : Func} {arz : Array Operand} {ts : Array TypeId} {d j : Nat} {fs : List AV} {x : SV} {g wt : Bool}
    (hM : Meets P f fs [.v x]) (hf : P.funcs[f]? = some fn) (hname : (fn.name == "runtime.NumGoroutine") = false) (hb : fn.body.isSome = true)
    (ho : o.op = .call { callee := .value (.func f), args := arz, argTypes := ts }) (hd : o.dst = some d) (hj : o.guard = some (j, wt)) (hg : guardOf ops s.t j wt = some g) (hfl : flat2 x = true)
    (h : (g = true → callP s d arz.toList fs [.v x] ∧ ownN (argS s.t arz.toList) fs = []) ∧ absOps P X T ops k Φ (absRun P X T Φ n k) rest ⟨s.t.set d (.gd g x), s.b, s.c⟩) : HOps P X ops (o :: rest) k s Φ :=
  callG_ops hM hf hname hb ho hd hj hg hfl h.1 (HOps_go TO n h.2)

end

end Go.Proofs.YtakgefinmlomdaaDoor.Abs

/- OWN LIBRARY: structs with slices among their fields, as they are handed in. -/
set_option linter.unusedVariables false
set_option linter.unusedSimpArgs false
namespace Go.Proofs.YtakgefinmlomdaaDoor.Abs
open Go Go.ChangeShapes Go.WideShapes Go.RowKit Go.Deep

theorem choose_list {R : Type} [Inhabited R] {Pr : Nat → R → Prop} (n : Nat) (h : ∀ i, i < n → ∃ r, Pr i r) : ∃ l : List R, l.length = n ∧ ∀ i, i < n → Pr i (l.getD i default) := by
  refine ⟨(List.range n).map (fun i => if hi : i < n then (h i hi).choose else default), by simp, fun i hi => ?_⟩
  simp only [List.getD, List.getElem?_map, List.getElem?_range hi, Option.map_some, Option.getD_some, dif_pos hi]
  exact (h i hi).choose_spec

theorem add_at (B o k : Nat) : Addr.add ⟨B, o, none⟩ k = ⟨B, o + k, none⟩ := by
  unfold Addr.add
  split
  · rename_i e; subst e; rfl
  · rfl

section
variable {H : Type} {enc : TypeId × Value → H} {P : Program} {W : World} {base : Nat} {held : Bool}

/-- What a field tells: how many cells, and of its datum and its cells. -/
def FieldIs (enc : TypeId × Value → H) (P : Program) (W : World) (base : Nat) (held : Bool) (t : TypeId) (n : Nat) (S : DataW H → List SV → Prop) : Prop :=
  P.cellsOf t = n ∧ ∀ m cs x, cs.length = n → DataW.trod enc P W base (fun _ => true) held m t cs = some x →
    ∃ sv, S x.1 sv ∧ ∀ ls r, CellsOk (X0 W) [] ⟨1, [], 0⟩ (fun _ => none) W ls r → CellsOk (X0 W) [] ⟨1, [], 0⟩ (fun _ => none) W (sv ++ ls) (cs ++ r)

def FieldsAre (enc : TypeId × Value → H) (P : Program) (W : World) (base : Nat) (held : Bool) : Nat → List Field → List (Nat × (DataW H → List SV → Prop)) → Prop
  | _, [], [] => True
  | o, f :: fl, (n, S) :: ks => f.offset = o ∧ FieldIs enc P W base held f.type n S ∧ FieldsAre enc P W base held (o + n) fl ks
  | _, _, _ => False

def Told (ds : List (DataW H)) : List (Nat × (DataW H → List SV → Prop)) → List SV → Prop
  | [], ls => ls = []
  | (_, S) :: ks, ls => ∃ d sv r, d ∈ ds ∧ ls = sv ++ r ∧ S d sv ∧ Told ds ks r

theorem fields_told {ds : List (DataW H)} : ∀ {ks : List (Nat × (DataW H → List SV → Prop))} {fl : List Field} {o : Nat} {cs : List Value}, FieldsAre enc P W base held o fl ks →
    (∀ f ∈ fl, ∃ m y, DataW.trod enc P W base (fun _ => true) held m f.type ((cs.drop f.offset).take (P.cellsOf f.type)) = some y ∧ y.1 ∈ ds) → cs.length = o + (ks.map (·.1)).foldr (· + ·) 0 →
    ∃ ls, Told ds ks ls ∧ CellsOk (X0 W) [] ⟨1, [], 0⟩ (fun _ => none) W ls (cs.drop o)
  | [], [], o, cs, _, _, hl => ⟨[], rfl, by
    show cs.drop o = []
    exact List.drop_eq_nil_of_le (by simp at hl; omega)⟩
  | [], f :: fl, o, cs, h, _, _ => h.elim
  | (n, S) :: ks, [], o, cs, h, _, _ => h.elim
  | (n, S) :: ks, f :: fl, o, cs, h, ht, hl => by
    obtain ⟨rfl, ⟨hc, hS⟩, hr⟩ := h
    obtain ⟨m, y, hy, hm⟩ := ht f (by simp)
    simp only [List.map_cons, List.foldr_cons] at hl
    rw [hc] at hy
    obtain ⟨sv, h1, h2⟩ := hS m _ y (by rw [List.length_take, List.length_drop]; omega) hy
    obtain ⟨ls, h3, h4⟩ := fields_told hr (fun g hg => ht g (by simp [hg])) (by omega)
    refine ⟨sv ++ ls, ⟨y.1, sv, ls, hm, rfl, h1, h3⟩, ?_⟩
    have := h2 ls _ h4
    rw [← List.drop_drop, List.take_append_drop] at this
    exact this

theorem struct_told {t : TypeId} {fs : Array Field} {ks : List (Nat × (DataW H → List SV → Prop))} {m : Nat} {cs : List Value} {x : DataW H × List MemPlace} (ht : P.underlying t = some (.struct fs)) (hk : FieldsAre enc P W base held 0 fs.toList ks) (hn : P.cellsOf t = (ks.map (·.1)).foldr (· + ·) 0)
    (hf : DataW.trod enc P W base (fun _ => true) held m t cs = some x) :
    ∃ ls ds, Told ds ks ls ∧ CellsOk (X0 W) [] ⟨1, [], 0⟩ (fun _ => none) W ls cs ∧ ∀ e ∈ ds, Rows.uptoBulk e + 1 ≤ Rows.uptoBulk x.1 := by
  obtain ⟨xs, m', _, rfl, hl, hxl, hx⟩ := DataW.trod_struct ht hf
  obtain ⟨ls, h1, h2⟩ := fields_told (cs := cs) (ds := xs.map (·.1)) hk (fun f hf => by
    obtain ⟨i, hi⟩ := List.mem_iff_getElem?.1 hf
    have hi' : fs[i]? = some f := by simpa using hi
    have hlt : i < xs.length := by
      rw [hxl]
      exact (Array.getElem?_eq_some_iff.1 hi').1
    exact ⟨m', xs[i], by rw [← List.getElem?_eq_getElem hlt]; exact hx i f hi', List.mem_map.2 ⟨_, List.getElem_mem hlt, rfl⟩⟩) (by rw [hl, hn, Nat.zero_add])
  refine ⟨ls, xs.map (·.1), h1, by simpa using h2, fun e he => ?_⟩
  have := bulk_part he
  simp only [Rows.uptoBulk]
  omega

/-- A struct, opened. -/
theorem open_fields {b0 : Nat} {r : Reach} {t : TypeId} {fs : Array Field} {ks : List (Nat × (DataW H → List SV → Prop))} {v : Value} {d : DataW H} {ps : List MemPlace} (ht : P.underlying t = some (.struct fs)) (hk : FieldsAre enc P W base held 0 fs.toList ks) (hn : P.cellsOf t = (ks.map (·.1)).foldr (· + ·) 0)
    (hval : Value.okWide P W r b0 t v) (h : DataW.Trod enc P W base (fun _ => true) held t v d ps) :
    ∃ ls ds, Told ds ks ls ∧ Arg W (.agg ls) v ∧ ∀ e ∈ ds, Rows.uptoBulk e ≤ Rows.uptoBulk d := by
  unfold Value.okWide at hval
  rw [ht] at hval
  obtain ⟨cs, rfl, hcs, _⟩ := hval
  obtain ⟨fuel, hf⟩ := h
  obtain ⟨ls, ds, h1, h2, h3⟩ := struct_told ht hk hn hf
  exact ⟨ls, ds, h1, ⟨cs, rfl, h2⟩, fun e he => Nat.le_of_succ_le (h3 e he)⟩

theorem fInt {t : TypeId} {k : IntKind} (hu : P.underlying t = some (.int k)) (hc : P.cellsOf t = 1) : FieldIs enc P W base held t 1 (fun _ l => ∃ z, l = [.int k z] ∧ (Lit.int k z).wf = true) := by
  refine ⟨hc, fun m cs x _ hf => ?_⟩
  obtain ⟨z, rfl, _, hw⟩ := DataW.trod_int hu hf
  exact ⟨_, ⟨z, rfl, hw⟩, fun ls r h => ⟨_, _, rfl, rfl, h⟩⟩

theorem fBool {t : TypeId} (hu : P.underlying t = some .bool) (hc : P.cellsOf t = 1) : FieldIs enc P W base held t 1 (fun _ l => ∃ z, l = [.bool z]) := by
  refine ⟨hc, fun m cs x _ hf => ?_⟩
  obtain ⟨z, rfl, _⟩ := DataW.trod_bool hu hf
  exact ⟨_, ⟨z, rfl⟩, fun ls r h => ⟨_, _, rfl, rfl, h⟩⟩

theorem fStr {t : TypeId} (hu : P.underlying t = some .string) (hc : P.cellsOf t = 1) : FieldIs enc P W base held t 1 (fun d l => ∃ z : ByteArray, l = [.str z] ∧ z.size ≤ Rows.uptoBulk d) := by
  refine ⟨hc, fun m cs x _ hf => ?_⟩
  obtain ⟨z, rfl, rfl, _⟩ := DataW.trod_string hu hf
  refine ⟨_, ⟨z, rfl, ?_⟩, fun ls r h => ⟨_, _, rfl, rfl, h⟩⟩
  rw [bulk_string, Array.length_toList]
  exact Nat.le_succ _

theorem fArr {t e : TypeId} {k : IntKind} {n : Nat} (ht : P.underlying t = some (.array n e)) (he : P.underlying e = some (.int k)) (hce : P.cellsOf e = 1) (hc : P.cellsOf t = n) : FieldIs enc P W base held t n (fun _ l => ∃ z, l = [.arr k n z] ∧ z.length = n ∧ ∀ x ∈ z, (Lit.int k x).wf = true) := by
  refine ⟨hc, fun m cs x hl hf => ?_⟩
  obtain ⟨zs, rfl, hz, hw⟩ := arr_cells ht he hce hl hf
  exact ⟨_, ⟨zs, rfl, hz, hw⟩, fun ls r h => ⟨hz, _, rfl, h⟩⟩

theorem fInts {t e : TypeId} {k : IntKind} (hu : P.underlying t = some (.slice e)) (he : P.underlying e = some (.int k)) (hce : P.cellsOf e = 1) (hc : P.cellsOf t = 1) : FieldIs enc P W base held t 1 (fun d l => ∃ z, l = [.view false (.ints k z)] ∧ z.length ≤ Rows.uptoBulk d ∧ ∀ x ∈ z, (Lit.int k x).wf = true) := by
  refine ⟨hc, fun m cs x hl hf => ?_⟩
  have hcs : ∃ a len cap, cs = [.slice a len cap] := by
    rcases open_ints hu he hce hf with ⟨h, _⟩ | ⟨_, _, _, _, h, _⟩
    · exact ⟨_, _, _, h⟩
    · exact ⟨_, _, _, h⟩
  obtain ⟨a, len, cap, rfl⟩ := hcs
  have hT : DataW.Trod enc P W base (fun _ => true) held t (.slice a len cap) x.1 x.2 := ⟨m, by simpa [Value.cells] using hf⟩
  obtain ⟨zs, hz⟩ := open_its hu he hce hT
  have hb := bulk_its hu he hce hT
  refine ⟨_, ⟨zs.take len, rfl, by rw [hz.len]; exact hb, fun x hx => hz.wf x hx⟩, fun ls r h => ⟨_, _, rfl, arg_ints hz, h⟩⟩

/-- A slice whose elements are structs of whole numbers and strings. -/
theorem slice_of {R : Type} [Inhabited R] {t e : TypeId} {n m : Nat} {cs : List Value} {x : DataW H × List MemPlace} (ht : P.underlying t = some (.slice e)) (hce : P.cellsOf e = n) (hn : 0 < n) (Q : DataW H → List Value → R → Prop)
    (hel : ∀ m cs y, DataW.trod enc P W base (fun _ => true) held m e cs = some y → ∃ r, Q y.1 cs r) (h : DataW.trod enc P W base (fun _ => true) held m t cs = some x) :
    ∃ (a : Option Addr) (len cap : Nat) (l : List R), cs = [.slice a len cap] ∧ len ≤ cap ∧ l.length = len ∧ len ≤ Rows.uptoBulk x.1 ∧
      (len ≠ 0 → ∃ B o, a = some ⟨B, o, none⟩ ∧ B < W.heap.size ∧ ∀ i, i < len → ∃ d c, Q d c (l.getD i default) ∧ Rows.uptoBulk d ≤ Rows.uptoBulk x.1 ∧ ∀ j, j < n → W.cell? ⟨B, o + i * n + j, none⟩ = c[j]? ∧ c.length = n) := by
  rcases DataW.trod_slice ht h with ⟨rfl, rfl⟩ | ⟨a, len, cap, elems, rest, m', _, rfl, rfl, _, hl, _, hlen, hE, _⟩
  · exact ⟨none, 0, 0, [], rfl, Nat.le_refl _, rfl, Nat.zero_le _, fun h => absurd rfl h⟩
  · have key : ∀ i, i < len → ∃ y c, elems[i]? = some y ∧ (∀ j, j < n → W.cell? ((a.add (i * n)).add j) = c[j]? ∧ c.length = n) ∧ DataW.trod enc P W base (fun _ => true) held m' e c = some y := by
      intro i hi
      have h1 := hE i hi
      rw [hce, List.getElem?_eq_getElem (by omega)] at h1
      obtain ⟨c, hc, hy⟩ := Option.bind_eq_some_iff.1 h1
      obtain ⟨_, hcl, hcc⟩ := World.cells?_some hc
      exact ⟨_, c, List.getElem?_eq_getElem (by omega), fun j hj => ⟨hcc j hj, hcl⟩, hy⟩
    have hb := bulk_slice (elems.map (·.1)) (rest.map (·.1))
    simp only [List.length_map] at hb
    obtain ⟨l, hll, hlg⟩ := choose_list (R := R) (Pr := fun i r => ∃ d c, Q d c r ∧ Rows.uptoBulk d ≤ Rows.uptoBulk (.slice (elems.map (·.1)) (rest.map (·.1))) ∧ ∀ j, j < n → W.cell? ((a.add (i * n)).add j) = c[j]? ∧ c.length = n) len (fun i hi => by
      obtain ⟨y, c, h1, h2, h3⟩ := key i hi
      obtain ⟨r, hr⟩ := hel m' c y h3
      have hmem : y.1 ∈ elems.map (·.1) := List.mem_map.2 ⟨y, List.mem_of_getElem? h1, rfl⟩
      have := bulk_elem (spare := rest.map (·.1)) hmem
      exact ⟨r, y.1, c, hr, by omega, h2⟩)
    refine ⟨some a, len, cap, l, rfl, hl, hll, by dsimp only; omega, fun h0 => ?_⟩
    have ha0 : ∃ u, W.cell? a = some u := by
      obtain ⟨d, c, _, _, h3⟩ := hlg 0 (by omega)
      obtain ⟨h4, h5⟩ := h3 0 hn
      have e0 : (a.add (0 * n)).add 0 = a := by simp [Addr.add]
      rw [e0, List.getElem?_eq_getElem (by omega)] at h4
      exact ⟨_, h4⟩
    have ha1 := ha0
    obtain ⟨u, hu⟩ := ha1
    obtain ⟨hB, hx, _⟩ := cell_addr ha0 (show W.cell? (a.add 0) = some u by simpa [Addr.add] using hu)
    refine ⟨a.block, a.off, by rw [← hx], hB, fun i hi => ?_⟩
    obtain ⟨d, c, h1, h2, h3⟩ := hlg i hi
    refine ⟨d, c, h1, h2, fun j hj => ?_⟩
    have := h3 j hj
    rw [hx, add_at, add_at] at this
    exact this

/-- The elements of a slice of locks. -/
theorem fLocks {t e : TypeId} {f0 f1 f2 f3 : Field} (hu : P.underlying t = some (.slice e)) (hc : P.cellsOf t = 1) (he : P.underlying e = some (.struct #[f0, f1, f2, f3])) (hce : P.cellsOf e = 4)
    (hf : FieldsAre enc P W base held 0 [f0, f1, f2, f3] [(1, fun _ l => ∃ z, l = [.int .i64 z] ∧ (Lit.int .i64 z).wf = true), (1, fun _ l => ∃ z, l = [.int .u64 z] ∧ (Lit.int .u64 z).wf = true), (1, fun _ l => ∃ z, l = [.int .u64 z] ∧ (Lit.int .u64 z).wf = true), (1, fun _ l => ∃ z, l = [.int .u16 z] ∧ (Lit.int .u16 z).wf = true)]) :
    FieldIs enc P W base held t 1 (fun d l => ∃ z, l = [.view false (.locks z)] ∧ z.length ≤ Rows.uptoBulk d ∧ ∀ x ∈ z, (Lit.int .i64 x.op).wf = true ∧ (Lit.int .u64 x.at_).wf = true ∧ (Lit.int .u64 x.n).wf = true ∧ (Lit.int .u16 x.mode).wf = true) := by
  refine ⟨hc, fun m cs x hl h => ?_⟩
  obtain ⟨a, len, cap, z, rfl, h1, h2, h3, h4⟩ := slice_of (R := LockR) hu hce (by omega)
    (fun _ c r => c = [.int .i64 r.op, .int .u64 r.at_, .int .u64 r.n, .int .u16 r.mode] ∧ (Lit.int .i64 r.op).wf = true ∧ (Lit.int .u64 r.at_).wf = true ∧ (Lit.int .u64 r.n).wf = true ∧ (Lit.int .u16 r.mode).wf = true)
    (fun m c y hy => by
      obtain ⟨ls, ds, hT, hC, _⟩ := struct_told he hf (by rw [hce]; rfl) hy
      obtain ⟨_, _, _, _, rfl, ⟨z0, rfl, w0⟩, _, _, _, _, rfl, ⟨z1, rfl, w1⟩, _, _, _, _, rfl, ⟨z2, rfl, w2⟩, _, _, _, _, rfl, ⟨z3, rfl, w3⟩, rfl⟩ := hT
      obtain ⟨_, _, rfl, rfl, _, _, rfl, rfl, _, _, rfl, rfl, _, _, rfl, rfl, rfl⟩ := hC
      exact ⟨⟨z0, z1, z2, z3⟩, rfl, w0, w1, w2, w3⟩) h
  subst h2
  refine ⟨_, ⟨z, rfl, h3, ?_⟩, fun ls r hr => ⟨_, _, rfl, ?_, hr⟩⟩
  · intro y hy
    obtain ⟨i, hi⟩ := List.mem_iff_getElem?.1 hy
    have hlt : i < z.length := (List.getElem?_eq_some_iff.1 hi).1
    obtain ⟨B, o, _, _, h5⟩ := h4 (by omega)
    obtain ⟨d, c, ⟨_, h6⟩, _⟩ := h5 i hlt
    rw [List.getD, hi] at h6
    exact h6
  · show IsView _ _ _ _ _
    refine ⟨a, cap, rfl, h1, fun h0 => ?_⟩
    obtain ⟨B, o, rfl, hB, h5⟩ := h4 h0
    refine ⟨B, o, rfl, ⟨hB, .inl ⟨rfl, hB⟩⟩, fun i j hi hj => ?_⟩
    obtain ⟨d, c, ⟨hcc, _⟩, _, h6⟩ := h5 i hi
    subst hcc
    simp only [Data.esz] at hj
    have h7 := (h6 j hj).1
    rcases (show j = 0 ∨ j = 1 ∨ j = 2 ∨ j = 3 by omega) with rfl | rfl | rfl | rfl
    all_goals exact ⟨_, h7, rfl⟩

theorem fEnts {t e : TypeId} {f0 f1 g0 g1 : Field} (hu : P.underlying t = some (.slice e)) (hc : P.cellsOf t = 1) (he : P.underlying e = some (.struct #[f0, f1])) (hce : P.cellsOf e = 3) (hs : P.underlying f1.type = some (.struct #[g0, g1])) (hcs : P.cellsOf f1.type = 2) (h0 : f0.offset = 0) (h1 : f1.offset = 1) (hstr : P.underlying f0.type = some .string) (hc0 : P.cellsOf f0.type = 1)
    (hg : FieldsAre enc P W base held 0 [g0, g1] [(1, fun _ l => ∃ z, l = [.int .u8 z] ∧ (Lit.int .u8 z).wf = true), (1, fun _ l => ∃ z, l = [.int .i64 z] ∧ (Lit.int .i64 z).wf = true)]) :
    FieldIs enc P W base held t 1 (fun d l => ∃ z, l = [.view false (.ents z)] ∧ z.length ≤ Rows.uptoBulk d ∧ ∀ x ∈ z, x.name.size ≤ Rows.uptoBulk d ∧ (Lit.int .u8 x.kind).wf = true ∧ (Lit.int .i64 x.size).wf = true) := by
  have hin : FieldIs enc P W base held f1.type 2 (fun _ l => ∃ z y, l = [.int .u8 z, .int .i64 y] ∧ (Lit.int .u8 z).wf = true ∧ (Lit.int .i64 y).wf = true) := by
    refine ⟨hcs, fun m c x hl h => ?_⟩
    obtain ⟨ls, ds, hT, hC, _⟩ := struct_told hs hg (by rw [hcs]; rfl) h
    obtain ⟨_, _, _, _, rfl, ⟨z0, rfl, w0⟩, _, _, _, _, rfl, ⟨z1, rfl, w1⟩, rfl⟩ := hT
    obtain ⟨_, _, rfl, rfl, _, _, rfl, rfl, rfl⟩ := hC
    exact ⟨_, ⟨z0, z1, rfl, w0, w1⟩, fun ls r hr => ⟨_, _, rfl, rfl, _, _, rfl, rfl, hr⟩⟩
  refine ⟨hc, fun m cs x hl h => ?_⟩
  obtain ⟨a, len, cap, z, rfl, h1, h2, h3, h4⟩ := slice_of (R := EntR) hu hce (by omega)
    (fun d c r => c = [.string r.name, .int .u8 r.kind, .int .i64 r.size] ∧ r.name.size ≤ Rows.uptoBulk d ∧ (Lit.int .u8 r.kind).wf = true ∧ (Lit.int .i64 r.size).wf = true)
    (fun m c y hy => by
      obtain ⟨ls, ds, hT, hC, hb⟩ := struct_told (ks := [(1, fun d l => ∃ z : ByteArray, l = [.str z] ∧ z.size ≤ Rows.uptoBulk d), (2, fun _ l => ∃ z y, l = [.int .u8 z, .int .i64 y] ∧ (Lit.int .u8 z).wf = true ∧ (Lit.int .i64 y).wf = true)]) he ⟨h0, fStr hstr hc0, h1, hin, trivial⟩ (by rw [hce]; rfl) hy
      obtain ⟨d0, _, _, hd, rfl, ⟨z0, rfl, w0⟩, _, _, _, _, rfl, ⟨z1, z2, rfl, w1, w2⟩, rfl⟩ := hT
      obtain ⟨_, _, rfl, rfl, _, _, rfl, rfl, _, _, rfl, rfl, rfl⟩ := hC
      have := hb d0 hd
      exact ⟨⟨z0, z1, z2⟩, rfl, by simp only; omega, w1, w2⟩) h
  subst h2
  refine ⟨_, ⟨z, rfl, h3, ?_⟩, fun ls r hr => ⟨_, _, rfl, ?_, hr⟩⟩
  · intro y hy
    obtain ⟨i, hi⟩ := List.mem_iff_getElem?.1 hy
    have hlt : i < z.length := (List.getElem?_eq_some_iff.1 hi).1
    obtain ⟨B, o, _, _, h5⟩ := h4 (by omega)
    obtain ⟨d, c, ⟨_, h6, h7, h8⟩, hbd, _⟩ := h5 i hlt
    rw [List.getD, hi] at h6 h7 h8
    exact ⟨Nat.le_trans h6 hbd, h7, h8⟩
  · show IsView _ _ _ _ _
    refine ⟨a, cap, rfl, h1, fun h0 => ?_⟩
    obtain ⟨B, o, rfl, hB, h5⟩ := h4 h0
    refine ⟨B, o, rfl, ⟨hB, .inl ⟨rfl, hB⟩⟩, fun i j hi hj => ?_⟩
    obtain ⟨d, c, ⟨hcc, _⟩, _, h6⟩ := h5 i hi
    subst hcc
    simp only [Data.esz] at hj
    have h7 := (h6 j hj).1
    rcases (show j = 0 ∨ j = 1 ∨ j = 2 by omega) with rfl | rfl | rfl
    all_goals exact ⟨_, h7, rfl⟩
end

end Go.Proofs.YtakgefinmlomdaaDoor.Abs
