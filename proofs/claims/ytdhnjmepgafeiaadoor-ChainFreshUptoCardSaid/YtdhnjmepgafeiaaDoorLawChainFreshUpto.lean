/- The row of the law ChainFresh, out of its contract, for every input that its row lets in. -/
import Derived.Test.YtdhnjmepgafeiaaDoorU0
import Derived.Test.YtdhnjmepgafeiaaDoorD
import Derived.Test.YtdhnjmepgafeiaaDoorRows
import Derived.Test.YtdhnjmepgafeiaaDoorCO
import Derived.Test.YtdhnjmepgafeiaaDoorB5
import Derived.Test.YtdhnjmepgafeiaaDoorRX
import Derived.WalkKit
import Derived.ProofKit
import Derived.OpenShut
import Derived.ShutString
import Derived.ChangeOld
import Derived.Below
import Derived.SizedLaws
import Derived.Carry
namespace Go.Proofs.YtdhnjmepgafeiaaDoor.chainFresh
open Go.ChangeShapes Go.WideShapes Go.ChangeAt Go.RowKit
open Go.ChangeMaps (open_string shut_string)
open Go.Proofs.YtdhnjmepgafeiaaDoor.Abs
set_option linter.unusedVariables false
set_option maxRecDepth 100000 in
set_option maxHeartbeats 4000000 in
theorem lifted (os : Os) (started : os.Started) (H : Type) (enc : TypeId × Value → H) (F : Stop.Interp) :
    ReturnsInHanded {} Tryd.checked os 4 .any (fun w args => ((Rows.OpenSpec.upto Rows.chainFreshSpec).pre enc Tryd.prog Tryd.f4 [] false w args ∧ laidMetH Tryd.prog laidL w) ∧ sizedMet enc Tryd.prog Tryd.f4 (Rows.OpenSpec.upto Rows.chainFreshSpec) false w args) (((Rows.OpenSpec.upto Rows.chainFreshSpec).at F).post enc Tryd.prog Tryd.f4 false true false false) := by
  refine returnsInHanded_of_cond_and (C := Tryd.checked) (s := (Rows.OpenSpec.upto Rows.chainFreshSpec)) (k := Rows.uptoSmall) rfl (X := fun w _ => laidMetH Tryd.prog laidL w) (fun _ _ _ hh h => h.of_heap hh) own started (by kernel_rfl) Tryd.func4
    (cond_witness_shaped (enc := enc) (C := Tryd.checked) (os := os) (s := (Rows.OpenSpec.upto Rows.chainFreshSpec)) (k := Rows.uptoSmall) rfl (X := fun w _ => laidMetH Tryd.prog laidL w) false (World.doorLaid Tryd.prog 400 os) #[.slice none 0 0] 8 rfl (World.shaped_of_RefB (by kernel_rfl) (by kernel_rfl)) (by kernel_rfl) (x := ([.nil], [], [])) (by kernel_rfl) rfl (by kernel_rfl) (by kernel_rfl) (door_met os _)) ?_
  intro W base args ds gs before hval0 hW hcnd hk0 hsz0 hL _
  show Calls Tryd.prog 4 args W fun e W' => ∃ v, e = .returned v ∧ Rows.chainFreshSpec.post enc Tryd.prog Tryd.f4 false true false false W args v W'
  have hsz : (DataW.weightsEach Tryd.prog (Tryd.f4.params.toList ++ Rows.chainFreshSpec.plain.varTypes Tryd.prog) (ds ++ gs)).all (· ≤ reachBytes) = true := hsz0
  have hval : ∀ (j : Nat) t v, Tryd.f4.params[j]? = some t → args[j]? = some v → Value.okWide Tryd.prog W .any base t v := hval0
  have hW' := hW
  obtain ⟨p, q, hA0, hV, rfl, hfz, hnd⟩ := hW
  have hA : DataW.TrodAll enc Tryd.prog W 0 (fun _ => true) true Tryd.f4.params.toList args.toList ds p := hA0
  rw [Tryd.params4] at hA hval hsz
  obtain ⟨v0, vs0, d0, ds0, p0, q0, hargs, rfl, rfl, h0, r0⟩ := trodAll_cons hA
  obtain ⟨rfl, rfl, rfl⟩ := trodAll_nil r0
  obtain rfl : args = #[v0] := by cases args; simp_all
  obtain ⟨rfl, rfl⟩ := trodVars_none hV
  have hbk : Rows.uptoBulkAll ([d0] ++ []) ≤ 1048576 := of_decide_eq_true hk0
  obtain ⟨a0, len0, cap0, rfl⟩ := okWide_slice Tryd.underlying23 (hval 0 23 v0 rfl rfl)
  have k0 := h0
  have lt0 : ∀ x ∈ p0, x.block < W.heap.size := by obtain ⟨m, hm⟩ := k0; exact DataW.trod_lt m _ _ _ hm
  obtain ⟨l0, ar0, ln0, wf0, bk0⟩ := open_rows Tryd.underlying23 Tryd.underlying22 Tryd.underlying5 (by kernel_rfl) (by kernel_rfl) h0
  obtain ⟨bl0, br0⟩ := bk0 1048576 (Nat.le_trans (bulk_part (by simp)) hbk)
  clear hA0 hval0 hsz0 hsz
  have hM := ChainFresh_law l0 ⟨by rw [ln0]; exact bl0, fun x hx => ⟨br0 x hx, fun z hz => wf_u8 (wf0 x hx z hz)⟩⟩
  have hAr : Args W [.view false (.rows false l0)] [.slice a0 len0 cap0] := ⟨ar0, trivial⟩
  have hC := law_walk (P := Tryd.prog) (f := 4) (args := [.view false (.rows false l0)]) (vals := [.slice a0 len0 cap0]) hM hAr (of_laid hL)
  refine hC.mono fun e W' ⟨he, bel⟩ => ?_
  subst he
  exact ⟨_, rfl, _, _, _, [], _, [], hW', trodAll_mk1 (shut_bool Tryd.underlying4 _), (trodAll_cons_mk (Below.trod laidOut (by kernel_rfl) (of_decide_eq_true (by kernel_rfl)) k0 bel lt0) trodAll_mk0), rfl, bel.frame _, fun h => by cases h⟩
theorem proved : Rows.ChainFreshUptoSaid :=
  OpenClaim.holds_of_cond 4 Tryd.f4 rfl rfl rfl rfl rfl rfl rfl ⟨rfl, rfl, rfl, rfl, rfl⟩ rfl rfl rfl rfl rfl (by kernel_rfl) Tryd.func4 (by kernel_rfl)
    (of_decide_eq_true (by kernel_rfl)) (by unfold Func.isWrapper; first | (rw [if_pos (by decide +kernel)]; kernel_rfl) | (rw [if_neg (by decide +kernel)]; exact ⟨rfl, rfl⟩))
    (fun os started H enc _ F => lifted os started H enc F)
theorem card : Rows.ChainFreshUptoCardSaid :=
  Claim7.holds_tied_plain_at .later [] [.data] true (true, "a9d3a5b1ea49a8301c88ba0b5d7917d2b88d6ba8380c7b980c2b7aa3b215416c") false
    proved (fun _ h => by cases h) (by kernel_rfl) (fun _ h => by cases h) chainFreshUpto_row_tie rfl ⟨rfl, rfl⟩ (by kernel_rfl) rfl
    (fun f fn hf hfn => by
      obtain rfl : f = 4 := Option.some.inj ((show Tryd.prog.funcNamed "refectory/refectorylaw12.ChainFresh" = some 4 by kernel_rfl).symm.trans hf) |>.symm
      obtain rfl : fn = Tryd.f4 := (Option.some.inj (Tryd.func4.symm.trans hfn)).symm
      exact ⟨by kernel_rfl, fun j t ht => by
        rw [Tryd.params4] at ht
        have hm : t ∈ [23] := by simpa using Array.mem_of_getElem? ht
        have hall : ([23].all fun u => !Tryd.prog.wantsStandIn u) = true := by kernel_rfl
        exact (show Tryd.prog.wantsStandIn t = false by simpa using List.all_eq_true.1 hall t hm)⟩)
    (by kernel_rfl)
#print axioms card
end Go.Proofs.YtdhnjmepgafeiaaDoor.chainFresh
namespace Go.Proofs.YtdhnjmepgafeiaaDoor
/-- The row, under a short name, for the claim. -/
theorem chainFreshUpto_holds : Rows.ChainFreshUptoCardSaid := chainFresh.card
end Go.Proofs.YtdhnjmepgafeiaaDoor
