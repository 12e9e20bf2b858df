/- OWN LIBRARY, part 28: structs as they are handed in. -/
import Derived.Test.YtbnjdnahpnjofaaA21
import Derived.ChangeArms
set_option linter.unusedVariables false
set_option linter.unusedSimpArgs false
namespace Go.Proofs.Ytbnjdnahpnjofaa.Abs
open Go Go.ChangeShapes Go.WideShapes Go.RowKit

/-- A kind of a field. -/
inductive FK where
  | i (k : IntKind)
  | b
  | s
  | a (k : IntKind) (n : Nat)

def FK.n : FK → Nat
  | .a _ n => n
  | _ => 1

def FKok (P : Program) : Nat → List Field → List FK → Prop
  | _, [], [] => True
  | o, f :: fl, .i k :: ks => f.offset = o ∧ P.cellsOf f.type = 1 ∧ P.underlying f.type = some (.int k) ∧ FKok P (o + 1) fl ks
  | o, f :: fl, .b :: ks => f.offset = o ∧ P.cellsOf f.type = 1 ∧ P.underlying f.type = some .bool ∧ FKok P (o + 1) fl ks
  | o, f :: fl, .s :: ks => f.offset = o ∧ P.cellsOf f.type = 1 ∧ P.underlying f.type = some .string ∧ FKok P (o + 1) fl ks
  | o, f :: fl, .a k n :: ks => f.offset = o ∧ P.cellsOf f.type = n ∧ (∃ e, P.underlying f.type = some (.array n e) ∧ P.underlying e = some (.int k) ∧ P.cellsOf e = 1) ∧ FKok P (o + n) fl ks
  | _, _, _ => False

def Shape : List FK → List SV → Prop
  | [], ls => ls = []
  | .i k :: ks, ls => ∃ z r, ls = .int k z :: r ∧ (Lit.int k z).wf = true ∧ Shape ks r
  | .b :: ks, ls => ∃ z r, ls = .bool z :: r ∧ Shape ks r
  | .s :: ks, ls => ∃ z r, ls = .str z :: r ∧ z.size ≤ maxLen ∧ Shape ks r
  | .a k n :: ks, ls => ∃ z r, ls = .arr k n z :: r ∧ z.length = n ∧ (∀ x ∈ z, (Lit.int k x).wf = true) ∧ Shape ks r

section
variable {H : Type} {enc : TypeId × Value → H} {P : Program} {W : World} {base : Nat} {spare : Nat → Bool} {held : Bool}

theorem arr_cells {t e : TypeId} {k : IntKind} {n fuel : Nat} {cs : List Value} {x : DataW H × List MemPlace} (ht : P.underlying t = some (.array n e)) (he : P.underlying e = some (.int k)) (hc : P.cellsOf e = 1) (hl : cs.length = n)
    (hf : DataW.trod enc P W base spare held fuel t cs = some x) : ∃ zs : List Int, cs = zs.map (.int k) ∧ zs.length = n ∧ ∀ z ∈ zs, (Lit.int k z).wf = true := by
  obtain ⟨xs, m, _, _, _, hx, hi⟩ := DataW.trod_array ht hf
  have key : ∀ i (hi : i < cs.length), ∃ z, cs[i] = .int k z ∧ (Lit.int k z).wf = true := by
    intro i hlt
    have hin : i < n := by omega
    have h1 := hi i hin
    rw [hc, List.getElem?_eq_getElem (by omega)] at h1
    have h2 : ((cs.drop (i * 1)).take 1) = [cs[i]] := by
      rw [Nat.mul_one, List.drop_eq_getElem_cons hlt]; rfl
    rw [h2] at h1
    obtain ⟨z, h3, _, h4⟩ := DataW.trod_int he h1
    exact ⟨z, by simpa using h3, h4⟩
  have all : ∀ l : List Value, (∀ i (hi : i < l.length), ∃ z, l[i] = .int k z ∧ (Lit.int k z).wf = true) → ∃ zs : List Int, l = zs.map (.int k) ∧ ∀ x ∈ zs, (Lit.int k x).wf = true := by
    intro l
    induction l with
    | nil => intro _; exact ⟨[], rfl, by simp⟩
    | cons a l ih =>
      intro hk
      obtain ⟨z, hz, hw⟩ := hk 0 (by simp)
      obtain ⟨zs, h1, h2⟩ := ih (fun i hi => hk (i + 1) (by simpa using hi))
      refine ⟨z :: zs, by rw [h1]; simpa using hz, ?_⟩
      intro x hx
      rcases List.mem_cons.1 hx with rfl | hx
      · exact hw
      · exact h2 x hx
  obtain ⟨zs, h1, h2⟩ := all cs key
  exact ⟨zs, h1, by rw [← hl, h1, List.length_map], h2⟩

theorem fields_ok : ∀ {ks : List FK} {fl : List Field} {o : Nat} {cs : List Value}, FKok P o fl ks →
    (∀ f ∈ fl, ∃ m y, DataW.trod enc P W base spare held m f.type ((cs.drop f.offset).take (P.cellsOf f.type)) = some y) → cs.length = o + (ks.map FK.n).foldr (· + ·) 0 →
    ∃ ls, Shape ks ls ∧ CellsOk (X0 W) [] ⟨1, [], 0⟩ (fun _ => none) W ls (cs.drop o)
  | [], [], o, cs, _, _, hl => ⟨[], rfl, by
    show cs.drop o = []
    exact List.drop_eq_nil_of_le (by simp at hl; omega)⟩
  | [], f :: fl, o, cs, h, _, _ => h.elim
  | k :: ks, [], o, cs, h, _, _ => by cases k <;> exact h.elim
  | k :: ks, f :: fl, o, cs, h, ht, hl => by
    obtain ⟨m, y, hy⟩ := ht f (by simp)
    simp only [List.map_cons, List.foldr_cons] at hl
    cases k with
    | i k =>
      obtain ⟨rfl, hc, hu, hr⟩ := h
      simp only [FK.n] at hl
      rw [hc] at hy
      obtain ⟨z, hz, _, hw⟩ := DataW.trod_int hu hy
      obtain ⟨ls, h1, h2⟩ := fields_ok hr (fun g hg => ht g (by simp [hg])) (by omega)
      refine ⟨.int k z :: ls, ⟨z, ls, rfl, hw, h1⟩, .int k z, cs.drop (f.offset + 1), ?_, rfl, h2⟩
      rw [← List.take_append_drop 1 (cs.drop f.offset), hz, List.drop_drop]; rfl
    | b =>
      obtain ⟨rfl, hc, hu, hr⟩ := h
      simp only [FK.n] at hl
      rw [hc] at hy
      obtain ⟨z, hz, _⟩ := DataW.trod_bool hu hy
      obtain ⟨ls, h1, h2⟩ := fields_ok hr (fun g hg => ht g (by simp [hg])) (by omega)
      refine ⟨.bool z :: ls, ⟨z, ls, rfl, h1⟩, .bool z, cs.drop (f.offset + 1), ?_, rfl, h2⟩
      rw [← List.take_append_drop 1 (cs.drop f.offset), hz, List.drop_drop]; rfl
    | s =>
      obtain ⟨rfl, hc, hu, hr⟩ := h
      simp only [FK.n] at hl
      rw [hc] at hy
      obtain ⟨z, hz, _, hw⟩ := DataW.trod_string hu hy
      obtain ⟨ls, h1, h2⟩ := fields_ok hr (fun g hg => ht g (by simp [hg])) (by omega)
      refine ⟨.str z :: ls, ⟨z, ls, rfl, hw, h1⟩, .string z, cs.drop (f.offset + 1), ?_, rfl, h2⟩
      rw [← List.take_append_drop 1 (cs.drop f.offset), hz, List.drop_drop]; rfl
    | a k n =>
      obtain ⟨rfl, hc, ⟨e, hu, he, hce⟩, hr⟩ := h
      simp only [FK.n] at hl
      rw [hc] at hy
      obtain ⟨zs, hz, hzl, hw⟩ := arr_cells hu he hce (by rw [List.length_take, List.length_drop]; omega) hy
      obtain ⟨ls, h1, h2⟩ := fields_ok hr (fun g hg => ht g (by simp [hg])) (by omega)
      refine ⟨.arr k n zs :: ls, ⟨zs, ls, rfl, hzl, hw, h1⟩, hzl, cs.drop (f.offset + n), ?_, h2⟩
      rw [← List.take_append_drop n (cs.drop f.offset), hz, List.drop_drop]

/-- A struct, opened. -/
theorem open_struct {b0 : Nat} {r : Reach} {t : TypeId} {fs : Array Field} {ks : List FK} {v : Value} {d : DataW H} {ps : List MemPlace} (ht : P.underlying t = some (.struct fs)) (hk : FKok P 0 fs.toList ks) (hn : P.cellsOf t = (ks.map FK.n).foldr (· + ·) 0)
    (hval : Value.okWide P W r b0 t v) (h : DataW.Trod enc P W base spare held t v d ps) :
    ∃ ls, Shape ks ls ∧ Arg W (.agg ls) v := by
  unfold Value.okWide at hval
  rw [ht] at hval
  obtain ⟨cs, rfl, hcs, _⟩ := hval
  obtain ⟨fuel, hf⟩ := h
  obtain ⟨xs, m, _, _, hl, hxl, hx⟩ := DataW.trod_struct ht hf
  obtain ⟨ls, h1, h2⟩ := fields_ok (cs := cs.toList) hk (fun f hf => by
    obtain ⟨i, hi⟩ := List.mem_iff_getElem?.1 hf
    have hi' : fs[i]? = some f := by simpa using hi
    have hlt : i < xs.length := by
      rw [hxl]
      exact (Array.getElem?_eq_some_iff.1 hi').1
    exact ⟨m, xs[i], by rw [← List.getElem?_eq_getElem hlt]; exact hx i f hi'⟩) (by rw [Array.length_toList, hcs, hn, Nat.zero_add])
  exact ⟨ls, h1, cs, rfl, by simpa using h2⟩
end

end Go.Proofs.Ytbnjdnahpnjofaa.Abs
