/- OWN LIBRARY: rows of bytes, as they are handed in. -/
import Derived.Test.YtbnjdnahpnjofaaB5
import Derived.Deep.Matrix
set_option linter.unusedVariables false
set_option linter.unusedSimpArgs false
namespace Go.Proofs.Ytbnjdnahpnjofaa.Abs
open Go Go.ChangeShapes Go.WideShapes Go.RowKit Go.Deep

theorem bulk_elem {H : Type} {d : DataW H} {elems spare : List (DataW H)} (h : d ∈ elems) : Rows.uptoBulk d + 1 ≤ Rows.uptoBulk (.slice elems spare) := by
  have := bulk_part h
  simp only [Rows.uptoBulk]
  omega

theorem open_rows {H : Type} {enc : TypeId × Value → H} {P : Program} {W : World} {base : Nat} {held : Bool} {t e q : TypeId} {a : Option Addr} {len cap : Nat} {d : DataW H} {ps : List MemPlace}
    (ht : P.underlying t = some (.slice e)) (he : P.underlying e = some (.slice q)) (hq : P.underlying q = some (.int .u8)) (ce : P.cellsOf e = 1) (cq : P.cellsOf q = 1)
    (h : DataW.Trod enc P W base (fun _ => true) held t (.slice a len cap) d ps) :
    ∃ l : List (List Int), Arg W (.view false (.rows false l)) (.slice a len cap) ∧ l.length = len ∧ (∀ x ∈ l, ∀ z ∈ x, (Lit.int .u8 z).wf = true) ∧ (∀ N, Rows.uptoBulk d ≤ N → len ≤ N ∧ ∀ x ∈ l, x.length ≤ N) := by
  obtain ⟨fuel, hf⟩ := h
  rcases open_int_rows ht he hq ce cq hf with ⟨hcs, hx⟩ | ⟨a', len', cap', A, L, C, Z, hcs, hb, hl, hm, hx, hr⟩
  · simp [Value.cells] at hcs
    obtain ⟨rfl, rfl, rfl⟩ := hcs
    refine ⟨[], ?_, rfl, by simp, fun N _ => ⟨Nat.zero_le _, by simp⟩⟩
    show IsView _ _ _ _ _
    exact ⟨none, 0, rfl, Nat.le_refl _, fun h => absurd rfl h⟩
  · simp [Value.cells] at hcs
    obtain ⟨rfl, rfl, rfl⟩ := hcs
    obtain ⟨hx, _⟩ := Prod.mk.inj hx
    subst hx
    obtain ⟨l, hl0⟩ : ∃ l : List (List Int), l = (List.range len).map fun r => (Z r).take (L r) := ⟨_, rfl⟩
    have hll : l.length = len := by rw [hl0]; simp
    have hlg : ∀ i, i < len → l.getD i [] = (Z i).take (L i) := by
      intro i hi
      rw [hl0]; simp [List.getD, hi]
    have hzl : ∀ i, i < len → ((Z i).take (L i)).length = L i := by
      intro i hi
      obtain ⟨_, h1, _, h2, _⟩ := hr i (by omega)
      rw [List.length_take, h2]; omega
    have hmem : ∀ x ∈ l, ∃ i, i < len ∧ x = (Z i).take (L i) := by
      intro x hx
      rw [hl0] at hx
      obtain ⟨i, hi, rfl⟩ := List.mem_map.1 hx
      exact ⟨i, by simpa using hi, rfl⟩
    refine ⟨l, ?_, hll, ?_, ?_⟩
    · show IsView _ _ _ _ _
      refine ⟨some a', cap, by simp only [Data.len, hll], by simp only [Data.len, hll]; exact hl, ?_⟩
      simp only [Data.len, hll]
      intro h0
      have hc0 : ∃ u, W.cell? a' = some u := ⟨_, by simpa [Addr.add] using (hr 0 (by omega)).1⟩
      obtain ⟨hbl, hxa, _⟩ := cell_addr hc0 (hr 0 (by omega)).1
      refine ⟨a'.block, a'.off, by rw [← hxa], ⟨hbl, .inl ⟨rfl, hbl⟩⟩, ?_⟩
      intro i j hi hj
      simp only [Data.len, hll] at hi
      simp only [Data.esz] at hj ⊢
      obtain rfl : j = 0 := by omega
      obtain ⟨r1, r2, r3, r4, r5, r6, r7⟩ := hr i (by omega)
      obtain ⟨_, _, hc⟩ := cell_addr hc0 r1
      refine ⟨.slice (A i) (L i) (C i), by simpa using hc, ?_⟩
      show IsRow _ W (l.getD i []) _
      rw [hlg i hi]
      refine ⟨A i, C i, by rw [hzl i hi], by rw [hzl i hi]; exact r2, fun hne => ?_⟩
      rw [hzl i hi] at hne
      cases hA : A i with
      | none => have := r6 hA; omega
      | some b =>
        obtain ⟨_, hcell⟩ := r7 b hA
        have hb0 : ∃ u, W.cell? b = some u := ⟨_, by simpa [Addr.add] using hcell 0 (by omega)⟩
        obtain ⟨hbb, hxb, _⟩ := cell_addr hb0 (hcell 0 (by omega))
        refine ⟨b.block, b.off, by rw [← hxb], ⟨hbb, .inl ⟨rfl, hbb⟩⟩, fun p hp => ?_⟩
        rw [hzl i hi] at hp
        obtain ⟨_, _, hcp⟩ := cell_addr hb0 (hcell p (by omega))
        rw [hcp]
        simp [List.getD, List.getElem?_take, hp]
    · intro x hx z hz
      obtain ⟨i, hi, rfl⟩ := hmem x hx
      exact (hr i (by omega)).2.2.2.2.1 z (List.mem_of_mem_take hz)
    · intro N hN
      have h1 := bulk_slice ((List.range len).map fun r => intRow (H := H) .u8 (A r) (L r) (Z r)) ((List.range (cap - len)).map fun j => intRow (H := H) .u8 (A (len + j)) (L (len + j)) (Z (len + j)))
      simp only [List.length_map, List.length_range] at h1
      refine ⟨by omega, fun x hx => ?_⟩
      obtain ⟨i, hi, rfl⟩ := hmem x hx
      rw [hzl i hi]
      obtain ⟨r1, r2, r3, r4, r5, r6, r7⟩ := hr i (by omega)
      cases hA : A i with
      | none => have := r6 hA; omega
      | some b =>
        have h2 := bulk_elem (spare := (List.range (cap - len)).map fun j => intRow (H := H) .u8 (A (len + j)) (L (len + j)) (Z (len + j))) (List.mem_map.2 ⟨i, List.mem_range.2 hi, rfl⟩ : intRow (H := H) .u8 (A i) (L i) (Z i) ∈ (List.range len).map fun r => intRow (H := H) .u8 (A r) (L r) (Z r))
        have h3 : L i ≤ Rows.uptoBulk (intRow (H := H) .u8 (A i) (L i) (Z i)) := by
          rw [hA]
          have := bulk_slice (lits (H := H) .u8 ((Z i).take (L i))) (lits .u8 ((Z i).drop (L i)))
          have hl2 : (lits (H := H) .u8 ((Z i).take (L i))).length = L i := by rw [show (lits (H := H) .u8 ((Z i).take (L i))).length = ((Z i).take (L i)).length by simp [lits], hzl i hi]
          rw [hl2] at this
          show L i ≤ Rows.uptoBulk (.slice _ _)
          omega
        omega

end Go.Proofs.Ytbnjdnahpnjofaa.Abs
