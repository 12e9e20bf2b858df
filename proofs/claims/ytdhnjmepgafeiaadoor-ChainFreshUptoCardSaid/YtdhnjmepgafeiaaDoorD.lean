/- What the door lays: the table of refectory/sha.constants, as the rows list it, is the table of the own library. -/
import Derived.Test.YtdhnjmepgafeiaaDoorRows
import Derived.Test.YtdhnjmepgafeiaaDoorTie
import Derived.Test.YtdhnjmepgafeiaaDoorCards
import Derived.Test.YtdhnjmepgafeiaaDoorB5
import Derived.Test.YtdhnjmepgafeiaaDoorT
import Derived.ProofKit
import Derived.LaidMore
import Derived.OpenShut
import Derived.Stop.Joined
import Derived.SevenTiedAt
set_option linter.unusedVariables false
namespace Go.Proofs.YtdhnjmepgafeiaaDoor
open Go.ChangeShapes Go.WideShapes Go.ChangeAt Go.RowKit
open Go.Proofs.YtdhnjmepgafeiaaDoor.Abs
theorem own : ownKnob Tryd.prog.godebug = none := by kernel_rfl
theorem laidOut : laidOutB Tryd.prog = true := by kernel_rfl
def laidL : List (String × DataW Unit) := [("refectory/sha.constants", Rows.laid_refectory_sha_constants)]
theorem gName : Tryd.prog.globalNamed "refectory/sha.constants" = some 0 := by kernel_rfl
theorem gType : (Tryd.prog.globals[0]?).map (·.type) = some 81 := by kernel_rfl
theorem door_met (os : Os) (args : Array Value) : laidMetH Tryd.prog laidL ((World.doorLaid Tryd.prog 400 os).forCall (fun _ _ => 0) ⟨#[], args, []⟩).memory :=
  laidMetH_of_parts3 (fuel := 8) (laidMet_of_run' 8 (by kernel_rfl) (by kernel_rfl)) (by kernel_rfl) (by kernel_rfl)
theorem dat_eq : Rows.laid_refectory_sha_constants (H := Unit) = .agg (G0.map fun z => .lit (.int .u32 z)) := rfl
theorem of_laid {W : World} (h : laidMetH Tryd.prog laidL W) : ∀ g k l, GT g = some (k, l) → g < W.heap.size ∧ ∀ i, i < l.length → W.cell? ⟨g, i, none⟩ = some (.int k (l.getD i 0)) := by
  intro g k l hg
  unfold GT at hg
  split at hg
  · simp only [Option.some.injEq, Prod.mk.injEq] at hg
    obtain ⟨rfl, rfl⟩ := hg
    rw [MakeChecks.laidMetH_plain _ _ _ (by kernel_rfl)] at h
    obtain ⟨ps, ⟨g0, t0, cs0, f0, p0, q0, hg0, ht0, hv0, hd0, _, _⟩, _, _⟩ := h
    obtain rfl := Option.some.inj (gName.symm.trans hg0)
    obtain rfl := Option.some.inj (gType.symm.trans ht0)
    obtain ⟨xs, m1, _, hx1, hlen, hn3, hel⟩ := DataW.trod_array Tryd.underlying81 hd0
    have c1 : Tryd.prog.cellsOf 41 = 1 := by kernel_rfl
    simp only [Prod.mk.injEq] at hx1
    have hx2 := hx1.1
    rw [dat_eq] at hx2
    simp only [DataW.agg.injEq] at hx2
    have hgl : G0.length = 64 := rfl
    have key : ∀ i, i < 64 → W.cell? ⟨0, i, none⟩ = some (.int .u32 (G0.getD i 0)) := by
      intro i hi
      have hxi := congrArg (fun l => l[i]?) hx2
      simp only [List.getElem?_map] at hxi
      have h0 := hel i hi
      rw [List.getElem?_eq_getElem (by omega)] at h0
      obtain ⟨z, e1, e2, _⟩ := DataW.trod_int Tryd.underlying41 h0
      rw [c1] at e1
      have hc := World.var?_cell hg0 hv0 i
      rw [List.getElem?_eq_getElem (show i < G0.length by omega), List.getElem?_eq_getElem (show i < xs.length by omega)] at hxi
      simp only [Option.map_some, Option.some.injEq] at hxi
      rw [e2] at hxi
      simp only [DataW.lit.injEq, Lit.int.injEq, true_and] at hxi
      have hgd : G0.getD i 0 = z := by
        rw [List.getD, List.getElem?_eq_getElem (show i < G0.length by omega)]
        exact hxi
      rw [hgd, hc]
      have e3 := congrArg (fun l : List Value => l[0]?) e1
      simp only [Nat.mul_one, List.getElem?_take, List.getElem?_drop, Nat.add_zero, Array.getElem?_toList, List.getElem?_cons_zero] at e3
      simpa using e3
    refine ⟨?_, fun i hi => key i (by omega)⟩
    have := key 0 (by decide)
    unfold World.cell? at this
    split at this
    · rename_i e; exact (Array.getElem?_eq_some_iff.1 e).1
    · cases this
  · cases hg
end Go.Proofs.YtdhnjmepgafeiaaDoor
