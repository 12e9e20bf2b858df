/- The row of the law MacSums, out of its contract, for every input that its row lets in. -/
import Derived.Test.YtcbeacpikgilnaaDoorU0
import Derived.Test.YtcbeacpikgilnaaDoorD
import Derived.Test.YtcbeacpikgilnaaDoorRows
import Derived.Test.YtcbeacpikgilnaaDoorMY
import Derived.Test.YtcbeacpikgilnaaDoorA21
import Derived.Test.YtcbeacpikgilnaaDoorA22
import Derived.WalkKit
import Derived.ProofKit
import Derived.OpenShut
import Derived.ShutString
import Derived.ChangeOld
import Derived.Below
import Derived.SizedLaws
import Derived.Carry
namespace Go.Proofs.YtcbeacpikgilnaaDoor.macSums
open Go.ChangeShapes Go.WideShapes Go.ChangeAt Go.RowKit
open Go.ChangeMaps (open_string shut_string)
open Go.Proofs.YtcbeacpikgilnaaDoor.Abs
set_option linter.unusedVariables false
set_option maxRecDepth 100000 in
set_option maxHeartbeats 4000000 in
theorem lifted (os : Os) (started : os.Started) (H : Type) (enc : TypeId × Value → H) (F : Stop.Interp) :
    ReturnsInHanded {} Tryd.checked os 13 .any (fun w args => ((Rows.OpenSpec.upto Rows.macSumsSpec).pre enc Tryd.prog Tryd.f13 [] false w args ∧ laidMetH Tryd.prog laidL w) ∧ sizedMet enc Tryd.prog Tryd.f13 (Rows.OpenSpec.upto Rows.macSumsSpec) false w args) (((Rows.OpenSpec.upto Rows.macSumsSpec).at F).post enc Tryd.prog Tryd.f13 false true false false) := by
  refine returnsInHanded_of_cond_and (C := Tryd.checked) (s := (Rows.OpenSpec.upto Rows.macSumsSpec)) (k := Rows.uptoSmall) rfl (X := fun w _ => laidMetH Tryd.prog laidL w) (fun _ _ _ hh h => h.of_heap hh) own started (by kernel_rfl) Tryd.func13
    (cond_witness_shaped (enc := enc) (C := Tryd.checked) (os := os) (s := (Rows.OpenSpec.upto Rows.macSumsSpec)) (k := Rows.uptoSmall) rfl (X := fun w _ => laidMetH Tryd.prog laidL w) false (World.doorLaid Tryd.prog 400 os) #[.slice none 0 0, .slice none 0 0, .string ByteArray.empty, .string ByteArray.empty, .string ByteArray.empty, .agg #[.int .u8 0, .int .u8 0, .int .u8 0, .int .u8 0, .int .u8 0, .int .u8 0, .int .u8 0, .int .u8 0]] 8 rfl (World.shaped_of_RefB (by kernel_rfl) (by kernel_rfl)) (by kernel_rfl) (x := ([.nil, .nil, .lit (.string []), .lit (.string []), .lit (.string []), .agg [.lit (.int .u8 0), .lit (.int .u8 0), .lit (.int .u8 0), .lit (.int .u8 0), .lit (.int .u8 0), .lit (.int .u8 0), .lit (.int .u8 0), .lit (.int .u8 0)]], [], [])) (by kernel_rfl) rfl (by kernel_rfl) (by kernel_rfl) (door_met os _)) ?_
  intro W base args ds gs before hval0 hW hcnd hk0 hsz0 hL _
  show Calls Tryd.prog 13 args W fun e W' => ∃ v, e = .returned v ∧ Rows.macSumsSpec.post enc Tryd.prog Tryd.f13 false true false false W args v W'
  have hsz : (DataW.weightsEach Tryd.prog (Tryd.f13.params.toList ++ Rows.macSumsSpec.plain.varTypes Tryd.prog) (ds ++ gs)).all (· ≤ reachBytes) = true := hsz0
  have hval : ∀ (j : Nat) t v, Tryd.f13.params[j]? = some t → args[j]? = some v → Value.okWide Tryd.prog W .any base t v := hval0
  have hW' := hW
  obtain ⟨p, q, hA0, hV, rfl, hfz, hnd⟩ := hW
  have hA : DataW.TrodAll enc Tryd.prog W 0 (fun _ => true) true Tryd.f13.params.toList args.toList ds p := hA0
  rw [Tryd.params13] at hA hval hsz
  obtain ⟨v0, vs0, d0, ds0, p0, q0, hargs, rfl, rfl, h0, r0⟩ := trodAll_cons hA
  obtain ⟨v1, vs1, d1, ds1, p1, q1, rfl, rfl, rfl, h1, r1⟩ := trodAll_cons r0
  obtain ⟨v2, vs2, d2, ds2, p2, q2, rfl, rfl, rfl, h2, r2⟩ := trodAll_cons r1
  obtain ⟨v3, vs3, d3, ds3, p3, q3, rfl, rfl, rfl, h3, r3⟩ := trodAll_cons r2
  obtain ⟨v4, vs4, d4, ds4, p4, q4, rfl, rfl, rfl, h4, r4⟩ := trodAll_cons r3
  obtain ⟨v5, vs5, d5, ds5, p5, q5, rfl, rfl, rfl, h5, r5⟩ := trodAll_cons r4
  obtain ⟨rfl, rfl, rfl⟩ := trodAll_nil r5
  obtain rfl : args = #[v0, v1, v2, v3, v4, v5] := by cases args; simp_all
  obtain ⟨rfl, rfl⟩ := trodVars_none hV
  have hbk : Rows.uptoBulkAll ([d0, d1, d2, d3, d4, d5] ++ []) ≤ 1048576 := of_decide_eq_true hk0
  obtain ⟨a0, len0, cap0, rfl⟩ := okWide_slice Tryd.underlying30 (hval 0 30 v0 rfl rfl)
  have k0 := h0
  have lt0 : ∀ x ∈ p0, x.block < W.heap.size := by obtain ⟨m, hm⟩ := k0; exact DataW.trod_lt m _ _ _ hm
  obtain ⟨z0, w0⟩ := open_its Tryd.underlying30 Tryd.underlying5 (by kernel_rfl) h0
  have y0 : len0 * 1 ≤ 140737488351232 := sized_its hsz (j := 0) (t := 30) rfl rfl Tryd.underlying30 Tryd.underlying5 (by kernel_rfl) (by kernel_rfl) h0
  have b0 : len0 ≤ 1048576 := Nat.le_trans (bulk_its Tryd.underlying30 Tryd.underlying5 (by kernel_rfl) h0) (Nat.le_trans (bulk_part (by simp)) hbk)
  obtain ⟨a1, len1, cap1, rfl⟩ := okWide_slice Tryd.underlying30 (hval 1 30 v1 rfl rfl)
  have k1 := h1
  have lt1 : ∀ x ∈ p1, x.block < W.heap.size := by obtain ⟨m, hm⟩ := k1; exact DataW.trod_lt m _ _ _ hm
  obtain ⟨z1, w1⟩ := open_its Tryd.underlying30 Tryd.underlying5 (by kernel_rfl) h1
  have y1 : len1 * 1 ≤ 140737488351232 := sized_its hsz (j := 1) (t := 30) rfl rfl Tryd.underlying30 Tryd.underlying5 (by kernel_rfl) (by kernel_rfl) h1
  have b1 : len1 ≤ 1048576 := Nat.le_trans (bulk_its Tryd.underlying30 Tryd.underlying5 (by kernel_rfl) h1) (Nat.le_trans (bulk_part (by simp)) hbk)
  obtain ⟨a2, rfl, rfl, rfl, y2⟩ := open_string Tryd.underlying9 (hval 2 9 v2 rfl rfl) h2
  have w2 : a2.size ≤ 140737488351232 := by
    have z := sized_string hsz (j := 2) (t := 9) rfl rfl
    rw [Array.length_toList] at z
    exact z
  have b2 : a2.size ≤ 1048576 := by
    have z : Rows.uptoBulk (DataW.lit (H := H) (.string a2.data.toList)) ≤ 1048576 := Nat.le_trans (bulk_part (by simp)) hbk
    rw [bulk_string, Array.length_toList] at z
    exact Nat.le_of_succ_le z
  obtain ⟨a3, rfl, rfl, rfl, y3⟩ := open_string Tryd.underlying9 (hval 3 9 v3 rfl rfl) h3
  have w3 : a3.size ≤ 140737488351232 := by
    have z := sized_string hsz (j := 3) (t := 9) rfl rfl
    rw [Array.length_toList] at z
    exact z
  have b3 : a3.size ≤ 1048576 := by
    have z : Rows.uptoBulk (DataW.lit (H := H) (.string a3.data.toList)) ≤ 1048576 := Nat.le_trans (bulk_part (by simp)) hbk
    rw [bulk_string, Array.length_toList] at z
    exact Nat.le_of_succ_le z
  obtain ⟨a4, rfl, rfl, rfl, y4⟩ := open_string Tryd.underlying9 (hval 4 9 v4 rfl rfl) h4
  have w4 : a4.size ≤ 140737488351232 := by
    have z := sized_string hsz (j := 4) (t := 9) rfl rfl
    rw [Array.length_toList] at z
    exact z
  have b4 : a4.size ≤ 1048576 := by
    have z : Rows.uptoBulk (DataW.lit (H := H) (.string a4.data.toList)) ≤ 1048576 := Nat.le_trans (bulk_part (by simp)) hbk
    rw [bulk_string, Array.length_toList] at z
    exact Nat.le_of_succ_le z
  have k5 := h5
  have lt5 : ∀ x ∈ p5, x.block < W.heap.size := by obtain ⟨m, hm⟩ := k5; exact DataW.trod_lt m _ _ _ hm
  obtain ⟨a5, rfl, l5, w5⟩ := open_arr Tryd.underlying50 Tryd.underlying5 (by kernel_rfl) (by kernel_rfl) (hval 5 50 v5 rfl rfl) h5
  clear hA0 hval0 hsz0 hsz
  have hM := MacSums_law (z0.take len0) (z1.take len1) a2 a3 a4 a5 ⟨by rw [w0.len]; omega, fun x hx => wf_u8 (w0.wf x hx)⟩ ⟨by rw [w1.len]; omega, fun x hx => wf_u8 (w1.wf x hx)⟩ b2 b3 b4 ⟨l5, fun x hx => wf_u8 (w5 x hx)⟩
  have hAr : Args W [.view false (.ints .u8 (z0.take len0)), .view false (.ints .u8 (z1.take len1)), .str a2, .str a3, .str a4, .arr .u8 8 a5] [.slice a0 len0 cap0, .slice a1 len1 cap1, .string a2, .string a3, .string a4, .agg (a5.map (.int .u8)).toArray] := ⟨arg_ints w0, arg_ints w1, arg_str, arg_str, arg_str, arg_arr l5, trivial⟩
  have hC := law_walk (P := Tryd.prog) (f := 13) (args := [.view false (.ints .u8 (z0.take len0)), .view false (.ints .u8 (z1.take len1)), .str a2, .str a3, .str a4, .arr .u8 8 a5]) (vals := [.slice a0 len0 cap0, .slice a1 len1 cap1, .string a2, .string a3, .string a4, .agg (a5.map (.int .u8)).toArray]) hM hAr (of_laid hL)
  refine hC.mono fun e W' ⟨he, bel⟩ => ?_
  subst he
  exact ⟨_, rfl, _, _, _, [], _, [], hW', trodAll_mk1 (shut_bool Tryd.underlying4 _), (trodAll_cons_mk (Below.trod laidOut (by kernel_rfl) (of_decide_eq_true (by kernel_rfl)) k0 bel lt0) (trodAll_cons_mk (Below.trod laidOut (by kernel_rfl) (of_decide_eq_true (by kernel_rfl)) k1 bel lt1) (trodAll_cons_mk (shut_string Tryd.underlying9 y2) (trodAll_cons_mk (shut_string Tryd.underlying9 y3) (trodAll_cons_mk (shut_string Tryd.underlying9 y4) (trodAll_cons_mk (Below.trod laidOut (by kernel_rfl) (of_decide_eq_true (by kernel_rfl)) k5 bel lt5) trodAll_mk0)))))), rfl, bel.frame _, fun h => by cases h⟩
theorem proved : Rows.MacSumsUptoSaid :=
  OpenClaim.holds_of_cond 13 Tryd.f13 rfl rfl rfl rfl rfl rfl rfl ⟨rfl, rfl, rfl, rfl, rfl⟩ rfl rfl rfl rfl rfl (by kernel_rfl) Tryd.func13 (by kernel_rfl)
    (of_decide_eq_true (by kernel_rfl)) (by unfold Func.isWrapper; first | (rw [if_pos (by decide +kernel)]; kernel_rfl) | (rw [if_neg (by decide +kernel)]; exact ⟨rfl, rfl⟩))
    (fun os started H enc _ F => lifted os started H enc F)
theorem card : Rows.MacSumsUptoCardSaid :=
  Claim7.holds_tied_plain_at .later [] [.data] true (true, "bf80d300521b99d80bf6d3e2811c1e991be36a852aa973a504dc969d26d7bde1") false
    proved (fun _ h => by cases h) (by kernel_rfl) (fun _ h => by cases h) macSumsUpto_row_tie rfl ⟨rfl, rfl⟩ (by kernel_rfl) rfl
    (fun f fn hf hfn => by
      obtain rfl : f = 13 := Option.some.inj ((show Tryd.prog.funcNamed "refectory/refectorylaw04.MacSums" = some 13 by kernel_rfl).symm.trans hf) |>.symm
      obtain rfl : fn = Tryd.f13 := (Option.some.inj (Tryd.func13.symm.trans hfn)).symm
      exact ⟨by kernel_rfl, fun j t ht => by
        rw [Tryd.params13] at ht
        have hm : t ∈ [30, 30, 9, 9, 9, 50] := by simpa using Array.mem_of_getElem? ht
        have hall : ([30, 30, 9, 9, 9, 50].all fun u => !Tryd.prog.wantsStandIn u) = true := by kernel_rfl
        exact (show Tryd.prog.wantsStandIn t = false by simpa using List.all_eq_true.1 hall t hm)⟩)
    (by kernel_rfl)
#print axioms card
end Go.Proofs.YtcbeacpikgilnaaDoor.macSums
namespace Go.Proofs.YtcbeacpikgilnaaDoor
/-- The row, under a short name, for the claim. -/
theorem macSumsUpto_holds : Rows.MacSumsUptoCardSaid := macSums.card
end Go.Proofs.YtcbeacpikgilnaaDoor
