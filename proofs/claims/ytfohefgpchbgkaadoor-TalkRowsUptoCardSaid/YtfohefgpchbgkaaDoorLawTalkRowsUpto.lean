/- The row of the law TalkRows, out of its contract, for every input that its row lets in. -/
import Derived.Lay
import Derived.Test.YtfohefgpchbgkaaDoorU0
import Derived.Test.YtfohefgpchbgkaaDoorD
import Derived.Test.YtfohefgpchbgkaaDoorRows
import Derived.Test.YtfohefgpchbgkaaDoorUO
import Derived.Test.YtfohefgpchbgkaaDoorB5
import Derived.WalkKit
import Derived.ProofKit
import Derived.OpenShut
import Derived.ShutString
import Derived.ChangeOld
import Derived.Below
import Derived.SizedLaws
import Derived.Carry
namespace Go.Proofs.YtfohefgpchbgkaaDoor.talkRows
open Go.ChangeShapes Go.WideShapes Go.ChangeAt Go.RowKit
open Go.ChangeMaps (open_string shut_string)
open Go.Proofs.YtfohefgpchbgkaaDoor.Abs
set_option linter.unusedVariables false
set_option maxRecDepth 100000 in
set_option maxHeartbeats 4000000 in
theorem lifted (os : Os) (started : os.Started) (H : Type) (enc : TypeId × Value → H) (F : Stop.Interp) :
    ReturnsInHanded {} Tryd.checked os 6 .any (fun w args => ((Rows.OpenSpec.upto Rows.talkRowsSpec).pre enc Tryd.prog Tryd.f6 [] false w args ∧ laidMetH Tryd.prog laidL w) ∧ sizedMet enc Tryd.prog Tryd.f6 (Rows.OpenSpec.upto Rows.talkRowsSpec) false w args) (((Rows.OpenSpec.upto Rows.talkRowsSpec).at F).post enc Tryd.prog Tryd.f6 false true false false) := by
  refine returnsInHanded_of_cond_and (C := Tryd.checked) (s := (Rows.OpenSpec.upto Rows.talkRowsSpec)) (k := Rows.uptoSmall) rfl (X := fun w _ => laidMetH Tryd.prog laidL w) (fun _ _ _ hh h => h.of_heap hh) own started (by kernel_rfl) Tryd.func6
    (cond_witness_shaped (enc := enc) (C := Tryd.checked) (os := os) (s := (Rows.OpenSpec.upto Rows.talkRowsSpec)) (k := Rows.uptoSmall) rfl (X := fun w _ => laidMetH Tryd.prog laidL w) false (World.laidAll Tryd.prog os laidL) #[.slice none 0 0, .int .i64 0, .int .i64 0, .string ByteArray.empty] 8 (World.laidAll_os _ _ _) (World.shaped_of_ZipB (by kernel_rfl) (by kernel_rfl)) (by kernel_rfl) (x := ([.nil, .lit (.int .i64 0), .lit (.int .i64 0), .lit (.string [])], [], [])) (by kernel_rfl) rfl (by kernel_rfl) (by kernel_rfl) (door_met os _)) ?_
  intro W base args ds gs before hval0 hW hcnd hk0 hsz0 hL _
  show Calls Tryd.prog 6 args W fun e W' => ∃ v, e = .returned v ∧ Rows.talkRowsSpec.post enc Tryd.prog Tryd.f6 false true false false W args v W'
  have hsz : (DataW.weightsEach Tryd.prog (Tryd.f6.params.toList ++ Rows.talkRowsSpec.plain.varTypes Tryd.prog) (ds ++ gs)).all (· ≤ reachBytes) = true := hsz0
  have hval : ∀ (j : Nat) t v, Tryd.f6.params[j]? = some t → args[j]? = some v → Value.okWide Tryd.prog W .any base t v := hval0
  have hW' := hW
  obtain ⟨p, q, hA0, hV, rfl, hfz, hnd⟩ := hW
  have hA : DataW.TrodAll enc Tryd.prog W 0 (fun _ => true) true Tryd.f6.params.toList args.toList ds p := hA0
  rw [Tryd.params6] at hA hval hsz
  obtain ⟨v0, vs0, d0, ds0, p0, q0, hargs, rfl, rfl, h0, r0⟩ := trodAll_cons hA
  obtain ⟨v1, vs1, d1, ds1, p1, q1, rfl, rfl, rfl, h1, r1⟩ := trodAll_cons r0
  obtain ⟨v2, vs2, d2, ds2, p2, q2, rfl, rfl, rfl, h2, r2⟩ := trodAll_cons r1
  obtain ⟨v3, vs3, d3, ds3, p3, q3, rfl, rfl, rfl, h3, r3⟩ := trodAll_cons r2
  obtain ⟨rfl, rfl, rfl⟩ := trodAll_nil r3
  obtain rfl : args = #[v0, v1, v2, v3] := by cases args; simp_all
  obtain ⟨rfl, rfl⟩ := trodVars_none hV
  have hbk : Rows.uptoBulkAll ([d0, d1, d2, d3] ++ []) ≤ 1048576 := of_decide_eq_true hk0
  obtain ⟨a0, len0, cap0, rfl⟩ := okWide_slice Tryd.underlying29 (hval 0 29 v0 rfl rfl)
  have k0 := h0
  have lt0 : ∀ x ∈ p0, x.block < W.heap.size := by obtain ⟨m, hm⟩ := k0; exact DataW.trod_lt m _ _ _ hm
  obtain ⟨z0, w0⟩ := open_its Tryd.underlying29 Tryd.underlying5 (by kernel_rfl) h0
  have y0 : len0 * 1 ≤ 140737488351232 := sized_its hsz (j := 0) (t := 29) rfl rfl Tryd.underlying29 Tryd.underlying5 (by kernel_rfl) (by kernel_rfl) h0
  have b0 : len0 ≤ 1048576 := Nat.le_trans (bulk_its Tryd.underlying29 Tryd.underlying5 (by kernel_rfl) h0) (Nat.le_trans (bulk_part (by simp)) hbk)
  obtain ⟨a1, rfl, rfl, rfl, w1⟩ := open_int Tryd.underlying3 (hval 1 3 v1 rfl rfl) h1
  obtain ⟨a2, rfl, rfl, rfl, w2⟩ := open_int Tryd.underlying3 (hval 2 3 v2 rfl rfl) h2
  obtain ⟨a3, rfl, rfl, rfl, y3⟩ := open_string Tryd.underlying9 (hval 3 9 v3 rfl rfl) h3
  have w3 : a3.size ≤ 140737488351232 := by
    have z := sized_string hsz (j := 3) (t := 9) rfl rfl
    rw [Array.length_toList] at z
    exact z
  have b3 : a3.size ≤ 1048576 := by
    have z : Rows.uptoBulk (DataW.lit (H := H) (.string a3.data.toList)) ≤ 1048576 := Nat.le_trans (bulk_part (by simp)) hbk
    rw [bulk_string, Array.length_toList] at z
    exact Nat.le_of_succ_le z
  clear hA0 hval0 hsz0 hsz
  have hM := TalkRows_law (z0.take len0) a1 a2 a3 ⟨by rw [w0.len]; omega, fun x hx => wf_u8 (w0.wf x hx)⟩ (wf_i64 w1) (wf_i64 w2) b3
  have hAr : Args W [.view false (.ints .u8 (z0.take len0)), .int .i64 a1, .int .i64 a2, .str a3] [.slice a0 len0 cap0, .int .i64 a1, .int .i64 a2, .string a3] := ⟨arg_ints w0, arg_int, arg_int, arg_str, trivial⟩
  have hC := law_walk (P := Tryd.prog) (f := 6) (args := [.view false (.ints .u8 (z0.take len0)), .int .i64 a1, .int .i64 a2, .str a3]) (vals := [.slice a0 len0 cap0, .int .i64 a1, .int .i64 a2, .string a3]) hM hAr (of_laid hL)
  refine hC.mono fun e W' ⟨he, bel⟩ => ?_
  subst he
  exact ⟨_, rfl, _, _, _, [], _, [], hW', trodAll_mk1 (shut_bool Tryd.underlying4 _), (trodAll_cons_mk (Below.trod laidOut (by kernel_rfl) (of_decide_eq_true (by kernel_rfl)) k0 bel lt0) (trodAll_cons_mk (shut_int Tryd.underlying3 w1) (trodAll_cons_mk (shut_int Tryd.underlying3 w2) (trodAll_cons_mk (shut_string Tryd.underlying9 y3) trodAll_mk0)))), rfl, bel.frame _, fun h => by cases h⟩
theorem proved : Rows.TalkRowsUptoSaid :=
  OpenClaim.holds_of_cond 6 Tryd.f6 rfl rfl rfl rfl rfl rfl rfl ⟨rfl, rfl, rfl, rfl, rfl⟩ rfl rfl rfl rfl rfl (by kernel_rfl) Tryd.func6 (by kernel_rfl)
    (of_decide_eq_true (by kernel_rfl)) (by unfold Func.isWrapper; first | (rw [if_pos (by decide +kernel)]; kernel_rfl) | (rw [if_neg (by decide +kernel)]; exact ⟨rfl, rfl⟩))
    (fun os started H enc _ F => lifted os started H enc F)
theorem card : Rows.TalkRowsUptoCardSaid :=
  Claim7.holds_tied_plain_at .later [] [.data, .pinned] true (true, "f5842b2157fe778cdf0db53e222ec6d05bcdf5a8b43c0372c4f9890c0833427a") false
    proved (fun _ h => by cases h) (by kernel_rfl) (fun _ h => by cases h) talkRowsUpto_row_tie rfl ⟨rfl, rfl⟩ (by kernel_rfl) rfl
    (fun f fn hf hfn => by
      obtain rfl : f = 6 := Option.some.inj ((show Tryd.prog.funcNamed "refectory/refectorylaw08.TalkRows" = some 6 by kernel_rfl).symm.trans hf) |>.symm
      obtain rfl : fn = Tryd.f6 := (Option.some.inj (Tryd.func6.symm.trans hfn)).symm
      exact ⟨by kernel_rfl, fun j t ht => by
        rw [Tryd.params6] at ht
        have hm : t ∈ [29, 3, 3, 9] := by simpa using Array.mem_of_getElem? ht
        have hall : ([29, 3, 3, 9].all fun u => !Tryd.prog.wantsStandIn u) = true := by kernel_rfl
        exact (show Tryd.prog.wantsStandIn t = false by simpa using List.all_eq_true.1 hall t hm)⟩)
    (by kernel_rfl)
#print axioms card
end Go.Proofs.YtfohefgpchbgkaaDoor.talkRows
namespace Go.Proofs.YtfohefgpchbgkaaDoor
/-- The row, under a short name, for the claim. -/
theorem talkRowsUpto_holds : Rows.TalkRowsUptoCardSaid := talkRows.card
end Go.Proofs.YtfohefgpchbgkaaDoor
