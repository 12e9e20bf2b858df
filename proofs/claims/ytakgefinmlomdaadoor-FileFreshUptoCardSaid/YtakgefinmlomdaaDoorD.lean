/- What the door lays: the two tables of unicode/utf8, as the rows list them, are the tables of the own library. -/
import Derived.Test.YtakgefinmlomdaaDoorRows
import Derived.Test.YtakgefinmlomdaaDoorTie
import Derived.Test.YtakgefinmlomdaaDoorCards
import Derived.Test.YtakgefinmlomdaaDoorB5
import Derived.Test.YtakgefinmlomdaaDoorT
import Derived.Test.YtakgefinmlomdaaDoorV
import Derived.Lib.LaidU8T
import Derived.ProofKit
import Derived.LaidMore
import Derived.Lay
import Derived.OpenShut
import Derived.Stop.Joined
import Derived.SevenTiedAt
set_option linter.unusedVariables false
namespace Go.Proofs.YtakgefinmlomdaaDoor
open Go.ChangeShapes Go.WideShapes Go.ChangeAt Go.RowKit
open Go.Proofs.YtakgefinmlomdaaDoor.Abs
theorem own : ownKnob Tryd.prog.godebug = none := by kernel_rfl
theorem laidOut : laidOutB Tryd.prog = true := by kernel_rfl
def laidL : List (String × DataW Unit) := [("unicode/utf8.acceptRanges", Rows.laid_unicode_utf8_acceptRanges), ("unicode/utf8.first", Rows.laid_unicode_utf8_first)]
theorem door_met (os : Os) (args : Array Value) : laidMetH Tryd.prog laidL ((World.laidAll Tryd.prog os laidL).forCall (fun _ _ => 0) ⟨#[], args, []⟩).memory := by
  rw [MakeChecks.laidMetH_plain _ _ _ (by kernel_rfl)]
  exact laidMet_laidAll _ (by kernel_rfl) (by kernel_rfl)
theorem accept_eq : Rows.laid_unicode_utf8_acceptRanges (H := Unit) = Go.Lib.acceptData := by kernel_rfl
theorem first_eq : Rows.laid_unicode_utf8_first = Go.Lib.firstData := by kernel_rfl
theorem tabs {W : World} (h : laidMetH Tryd.prog laidL W) : Go.Lib.Utf8Tabs 0 1 W := by
  rw [MakeChecks.laidMetH_plain _ _ _ (by kernel_rfl)] at h
  have h4 := Go.Lib.laidMet.reads h (List.Mem.head _)
  have h3 := Go.Lib.laidMet.reads h (List.Mem.tail _ (List.Mem.head _))
  rw [accept_eq] at h4
  rw [first_eq] at h3
  exact utf8Tabs_of_readsT (U8Types.of196 Tryd.laysValid) ⟨by kernel_rfl, by kernel_rfl, by kernel_rfl, by kernel_rfl, by kernel_rfl, by kernel_rfl, by kernel_rfl⟩ h3 h4
theorem cell_lt {W : World} {g i : Nat} {v : Value} (h : W.cell? ⟨g, i, none⟩ = some v) : g < W.heap.size := by
  unfold World.cell? at h
  split at h
  · rename_i e; exact (Array.getElem?_eq_some_iff.1 e).1
  · cases h
theorem of_laid {W : World} (h : laidMetH Tryd.prog laidL W) : ∀ g k l, GT g = some (k, l) → g < W.heap.size ∧ ∀ i, i < l.length → W.cell? ⟨g, i, none⟩ = some (.int k (l.getD i 0)) := by
  obtain ⟨t1, t2⟩ := tabs h
  intro g k l hg
  unfold GT at hg
  split at hg
  · simp only [Option.some.injEq, Prod.mk.injEq] at hg
    obtain ⟨rfl, rfl⟩ := hg
    refine ⟨cell_lt (t1 0 (by omega)), fun i hi => ?_⟩
    have hi' : i < 256 := by simpa [G0] using hi
    rw [t1 i hi']
    simp [G0, List.getD, hi']
  · simp only [Option.some.injEq, Prod.mk.injEq] at hg
    obtain ⟨rfl, rfl⟩ := hg
    refine ⟨cell_lt (t2 0 (by omega)).1, fun i hi => ?_⟩
    have hi' : i < 32 := by simpa [G1] using hi
    obtain ⟨a, b⟩ := t2 (i / 2) (by omega)
    have hd : G1.getD i 0 = if i % 2 = 0 then (Go.Lib.accLo (i / 2) : Int) else (Go.Lib.accHi (i / 2) : Int) := by simp [G1, List.getD, hi']
    rw [hd]
    by_cases e : i % 2 = 0
    · rw [if_pos e, ← a]; congr 1; congr 1; omega
    · rw [if_neg e, ← b]; congr 1; congr 1; omega
  · cases hg
end Go.Proofs.YtakgefinmlomdaaDoor
