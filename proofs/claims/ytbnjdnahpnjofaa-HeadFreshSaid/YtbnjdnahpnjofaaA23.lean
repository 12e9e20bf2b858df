/- OWN LIBRARY, part 23: the room behind a slice of an own block of numbers, told. -/
import Derived.Test.YtbnjdnahpnjofaaA22
set_option linter.unusedVariables false
set_option linter.unusedSimpArgs false
namespace Go.Proofs.Ytbnjdnahpnjofaa.Abs
open Go

def zOf : Option Value → Int
  | some (.int _ z) => z
  | _ => 0

theorem R_open {X : Ctx} {s : St} {σ : Env} {w : World} {a : Act} (hR : R X s σ w a) {i n g : Nat} {k : IntKind} {l : List Int} (hi : i < s.t.length) (ht : s.t.getD i .any = .sl n g 0 1 0 l.length) (hn : fnd s.b n = some (g, .vec (.ints k l))) :
    ∃ extra : List Int, l.length + extra.length < 9223372036854775808 ∧ R X ⟨s.t.set i (.slc n g 1 l.length (l.length + extra.length)), upd s.b n g (.vec (.ints k (l ++ extra))), s.c⟩ σ w a ∧ Tr X s.b s.c σ w (upd s.b n g (.vec (.ints k (l ++ extra)))) s.c σ w := by
  have hv := hR.tm i hi
  rw [ht] at hv
  obtain ⟨hc, hlv⟩ := hv
  obtain ⟨ad, cap, hax, hlc, hcap⟩ := hlv ⟨_, hn⟩
  have hput : a.put (some i) (a.tmps.getD i undef) = a := by
    have hi' : i < a.tmps.size := by rw [hR.sz]; exact hi
    obtain ⟨tm, df⟩ := a
    simp only [Act.put]
    congr 1
    apply Array.ext_getElem?
    intro j
    rw [Array.getElem?_setIfInBounds]
    have hi'' : i < tm.size := hi'
    by_cases e : i = j
    · subst e; simp [Array.getD, hi'']
    · simp [e]
  rcases (hR.bl n g _ hn).2.1 with ⟨hno, hl0⟩ | ⟨B, cs, ty, fr, hB, hheap, hfree, hsz, hh, hft⟩
  · have hc0 : cap = 0 := by
      rcases Nat.eq_zero_or_pos cap with h | h
      · exact h
      · obtain ⟨B, hB, _⟩ := hcap (by omega); rw [hno] at hB; simp at hB
    simp only [Data.len] at hl0
    have hl00 : l = [] := List.eq_nil_of_length_eq_zero hl0
    subst hl00
    have hsame : ∀ q, fnd (upd s.b n g (.vec (.ints k ([] ++ [])))) q = fnd s.b q := by
      intro q
      rw [fnd_upd]
      by_cases e : q = n
      · rw [if_pos e, e, hn]; rfl
      · rw [if_neg e]
    have hT : Tr X s.b s.c σ w (upd s.b n g (.vec (.ints k ([] ++ [])))) s.c σ w := Tr.drop (fun q x hx => by rw [← hsame q]; exact hx)
    have hR2 := hR.drop (b := upd s.b n g (.vec (.ints k ([] ++ [])))) (fun q x hx => by rw [← hsame q]; exact hx)
    refine ⟨[], by simp, ?_, hT⟩
    have := put_tm (dst := some i) (v := a.tmps.getD i undef) hR2.sz hR2.tm (sv := .slc n g 1 0 0) ⟨hc, fun _ => ⟨ad, by rw [hax, hc0]; rfl, Nat.le_refl _, fun h => absurd rfl h⟩⟩
    rw [hput] at this
    exact { hR2 with sz := this.1, tm := this.2 }
  · simp only [Data.len, Data.esz, Nat.mul_one] at hsz
    rw [holds_ints hheap] at hh
    by_cases hc0 : cap = 0
    · have hl00 : l = [] := List.eq_nil_of_length_eq_zero (by omega)
      subst hl00
      refine ⟨[], by simp, ?_⟩
      have hW : Wrote B w w cs ty fr := ⟨hheap, fun _ _ => rfl, rfl, rfl, rfl, rfl⟩
      have := R_write (dst := some i) (v := a.tmps.getD i undef) (sv := .slc n g 1 0 0) (x' := .vec (.ints k ([] ++ []))) hR hn hB hheap hW rfl (.inr ⟨B, cs, ty, fr, hB, hheap, hfree, by simp [Data.len], by rw [holds_ints hheap]; exact hh, hft⟩)
        ⟨hc, fun _ => ⟨ad, by rw [hax, hc0]; rfl, Nat.le_refl _, fun h => absurd rfl h⟩⟩
      rw [hput] at this
      exact this
    · obtain ⟨B', hB', e1, e2⟩ := hcap hc0
      obtain rfl : B = B' := by simpa using hB.symm.trans hB'
      have hbs : cap ≤ cs.size := by simpa [blockSize, hheap] using e2
      refine ⟨(List.range (cap - l.length)).map (fun j => zOf cs[l.length + j]?), by have := hft.2; simp; omega, ?_⟩
      generalize hex : (List.range (cap - l.length)).map (fun j => zOf cs[l.length + j]?) = extra
      have hel : extra.length = cap - l.length := by rw [← hex]; simp
      have hW : Wrote B w w cs ty fr := ⟨hheap, fun _ _ => rfl, rfl, rfl, rfl, rfl⟩
      have hcell : ∀ j, j < (l ++ extra).length → cs[j]? = some (.int k ((l ++ extra).getD j 0)) := by
        intro j hj
        rw [List.length_append] at hj
        by_cases c1 : j < l.length
        · rw [hh j c1]; simp [List.getD, List.getElem?_append_left c1]
        · obtain ⟨z, hz⟩ := hft.1 j (by omega)
          have : (l ++ extra).getD j 0 = z := by
            simp only [List.getD]
            rw [List.getElem?_append_right (by omega), ← hex, List.getElem?_map, List.getElem?_range (by omega)]
            simp only [Option.map_some, Option.getD_some]
            rw [show l.length + (j - l.length) = j by omega, hz]; rfl
          rw [this, hz]
      have := R_write (dst := some i) (v := a.tmps.getD i undef) (sv := .slc n g 1 l.length (l.length + extra.length)) (x' := .vec (.ints k (l ++ extra))) hR hn hB hheap hW rfl
        (.inr ⟨B, cs, ty, fr, hB, hheap, hfree, by simp only [Data.len, Data.esz, List.length_append]; omega, by rw [holds_ints hheap]; exact hcell, hft⟩)
        ⟨hc, fun _ => ⟨ad, by rw [hax, hel]; congr 1; omega, by omega, fun _ => ⟨B, hB, by simpa using e1, by rw [hel]; simpa [blockSize, hheap, show l.length + (cap - l.length) = cap by omega] using hbs⟩⟩⟩
      rw [hput] at this
      exact this

/-- Whatever stands behind a slice of an own block of numbers: it is told. -/
theorem open_go {P : Program} {X : Ctx} {todo : List Item} {s : St} {Φ : St → Prop} (i : Nat) {n g : Nat} {k : IntKind} {l : List Int} (ht : i < s.t.length ∧ s.t.getD i .any = .sl n g 0 1 0 l.length ∧ fnd s.b n = some (g, .vec (.ints k l)))
    (h : ∀ extra : List Int, l.length + extra.length < 9223372036854775808 → HRun P X todo ⟨s.t.set i (.slc n g 1 l.length (l.length + extra.length)), upd s.b n g (.vec (.ints k (l ++ extra))), s.c⟩ Φ) : HRun P X todo s Φ := by
  intro σ w a hR
  obtain ⟨extra, hx, hR', hT⟩ := R_open hR ht.1 ht.2.1 ht.2.2
  exact (h extra hx).after hR' hT

end Go.Proofs.Ytbnjdnahpnjofaa.Abs
