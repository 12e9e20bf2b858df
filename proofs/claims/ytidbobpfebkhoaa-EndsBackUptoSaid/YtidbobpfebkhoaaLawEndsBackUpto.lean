/- The row of the law EndsBack, out of its contract, for every input that its row lets in. -/
import Derived.Test.YtidbobpfebkhoaaRows
import Derived.Test.YtidbobpfebkhoaaL6
import Derived.Test.YtidbobpfebkhoaaA21
import Derived.Test.YtidbobpfebkhoaaA22
import Derived.WalkKit
import Derived.ProofKit
import Derived.OpenShut
import Derived.ShutString
import Derived.ChangeOld
import Derived.Below
import Derived.SizedLaws
import Derived.Carry
namespace Go.Proofs.Ytidbobpfebkhoaa.endsBack
open Go.ChangeShapes Go.WideShapes Go.ChangeAt Go.RowKit
open Go.ChangeMaps (open_string shut_string)
open Go.Proofs.Ytidbobpfebkhoaa.Abs
set_option linter.unusedVariables false
theorem own : ownKnob Try.prog.godebug = none := by kernel_rfl
theorem laidOut : laidOutB Try.prog = true := by kernel_rfl
set_option maxRecDepth 100000 in
set_option maxHeartbeats 4000000 in
theorem lifted (os : Os) (started : os.Started) (H : Type) (enc : TypeId × Value → H) (F : Stop.Interp) :
    ReturnsInHanded {} Try.checked os 6 .any ((Rows.OpenSpec.upto Rows.endsBackSpec).pre6 enc Try.prog Try.f6 Rows.endsBackUptoRow.domain false) (((Rows.OpenSpec.upto Rows.endsBackSpec).at F).post enc Try.prog Try.f6 false true false false) := by
  refine returnsInHanded_of_cond_sized (C := Try.checked) (s := (Rows.OpenSpec.upto Rows.endsBackSpec)) (k := Rows.uptoSmall) rfl own started (by kernel_rfl) Try.func6
    (OpenSpec.witness (enc := enc) (C := Try.checked) (s := (Rows.OpenSpec.upto Rows.endsBackSpec)) (k := Rows.uptoSmall) rfl false ⟨#[], #[.int .u64 0, .int .u8 0, .slice none 0 0, .slice none 0 0], []⟩ 8 (by kernel_rfl) (by kernel_rfl) (by kernel_rfl) (x := ([.lit (.int .u64 0), .lit (.int .u8 0), .nil, .nil], [], [])) (by kernel_rfl) rfl (by kernel_rfl)) ?_
  intro W base args ds gs before hval0 hW hcnd hk0 hsz0 _
  show Calls Try.prog 6 args W fun e W' => ∃ v, e = .returned v ∧ Rows.endsBackSpec.post enc Try.prog Try.f6 false true false false W args v W'
  have hsz : (DataW.weightsEach Try.prog (Try.f6.params.toList ++ Rows.endsBackSpec.plain.varTypes Try.prog) (ds ++ gs)).all (· ≤ reachBytes) = true := hsz0
  have hval : ∀ (j : Nat) t v, Try.f6.params[j]? = some t → args[j]? = some v → Value.okWide Try.prog W .any base t v := hval0
  have hW' := hW
  obtain ⟨p, q, hA0, hV, rfl, hfz, hnd⟩ := hW
  have hA : DataW.TrodAll enc Try.prog W 0 (fun _ => true) true Try.f6.params.toList args.toList ds p := hA0
  rw [Try.params6] at hA hval hsz
  obtain ⟨v0, vs0, d0, ds0, p0, q0, hargs, rfl, rfl, h0, r0⟩ := trodAll_cons hA
  obtain ⟨v1, vs1, d1, ds1, p1, q1, rfl, rfl, rfl, h1, r1⟩ := trodAll_cons r0
  obtain ⟨v2, vs2, d2, ds2, p2, q2, rfl, rfl, rfl, h2, r2⟩ := trodAll_cons r1
  obtain ⟨v3, vs3, d3, ds3, p3, q3, rfl, rfl, rfl, h3, r3⟩ := trodAll_cons r2
  obtain ⟨rfl, rfl, rfl⟩ := trodAll_nil r3
  obtain rfl : args = #[v0, v1, v2, v3] := by cases args; simp_all
  obtain ⟨rfl, rfl⟩ := trodVars_none hV
  have hbk : Rows.uptoBulkAll ([d0, d1, d2, d3] ++ []) ≤ 1048576 := of_decide_eq_true hk0
  obtain ⟨a0, rfl, rfl, rfl, w0⟩ := open_int Try.underlying22 (hval 0 22 v0 rfl rfl) h0
  obtain ⟨a1, rfl, rfl, rfl, w1⟩ := open_int Try.underlying5 (hval 1 5 v1 rfl rfl) h1
  obtain ⟨a2, len2, cap2, rfl⟩ := okWide_slice Try.underlying23 (hval 2 23 v2 rfl rfl)
  have k2 := h2
  have lt2 : ∀ x ∈ p2, x.block < W.heap.size := by obtain ⟨m, hm⟩ := k2; exact DataW.trod_lt m _ _ _ hm
  obtain ⟨z2, w2⟩ := open_its Try.underlying23 Try.underlying5 (by kernel_rfl) h2
  have y2 : len2 * 1 ≤ 140737488351232 := sized_its hsz (j := 2) (t := 23) rfl rfl Try.underlying23 Try.underlying5 (by kernel_rfl) (by kernel_rfl) h2
  have b2 : len2 ≤ 1048576 := Nat.le_trans (bulk_its Try.underlying23 Try.underlying5 (by kernel_rfl) h2) (Nat.le_trans (bulk_part (by simp)) hbk)
  obtain ⟨a3, len3, cap3, rfl⟩ := okWide_slice Try.underlying23 (hval 3 23 v3 rfl rfl)
  have k3 := h3
  have lt3 : ∀ x ∈ p3, x.block < W.heap.size := by obtain ⟨m, hm⟩ := k3; exact DataW.trod_lt m _ _ _ hm
  obtain ⟨z3, w3⟩ := open_its Try.underlying23 Try.underlying5 (by kernel_rfl) h3
  have y3 : len3 * 1 ≤ 140737488351232 := sized_its hsz (j := 3) (t := 23) rfl rfl Try.underlying23 Try.underlying5 (by kernel_rfl) (by kernel_rfl) h3
  have b3 : len3 ≤ 1048576 := Nat.le_trans (bulk_its Try.underlying23 Try.underlying5 (by kernel_rfl) h3) (Nat.le_trans (bulk_part (by simp)) hbk)
  clear hA0 hval0 hsz0 hsz
  have hM := EndsBack_law a0 a1 (z2.take len2) (z3.take len3) (wf_u64 w0) (wf_u8 w1) ⟨by rw [w2.len]; omega, fun x hx => wf_u8 (w2.wf x hx)⟩ ⟨by rw [w3.len]; omega, fun x hx => wf_u8 (w3.wf x hx)⟩
  refine (law_walk (f := 6) (args := [.int .u64 a0, .int .u8 a1, .view false (.ints .u8 (z2.take len2)), .view false (.ints .u8 (z3.take len3))]) (vals := [.int .u64 a0, .int .u8 a1, .slice a2 len2 cap2, .slice a3 len3 cap3]) hM ⟨arg_int, arg_int, arg_ints w2, arg_ints w3, trivial⟩).mono fun e W' ⟨he, bel⟩ => ?_
  subst he
  exact ⟨_, rfl, _, _, _, [], _, [], hW', trodAll_mk1 (shut_bool Try.underlying4 _), (trodAll_cons_mk (shut_int Try.underlying22 w0) (trodAll_cons_mk (shut_int Try.underlying5 w1) (trodAll_cons_mk (Below.trod laidOut (by kernel_rfl) (of_decide_eq_true (by kernel_rfl)) k2 bel lt2) (trodAll_cons_mk (Below.trod laidOut (by kernel_rfl) (of_decide_eq_true (by kernel_rfl)) k3 bel lt3) trodAll_mk0)))), rfl, bel.frame _, fun h => by cases h⟩
theorem proved : Rows.EndsBackUptoSaid :=
  OpenClaim.holds_of_cond 6 Try.f6 rfl rfl rfl rfl rfl rfl rfl ⟨rfl, rfl, rfl, rfl, rfl⟩ rfl rfl rfl rfl rfl (by kernel_rfl) Try.func6 (by kernel_rfl)
    (of_decide_eq_true (by kernel_rfl)) (by unfold Func.isWrapper; first | (rw [if_pos (by decide +kernel)]; kernel_rfl) | (rw [if_neg (by decide +kernel)]; exact ⟨rfl, rfl⟩))
    (fun os started H enc _ F => lifted os started H enc F)
#print axioms proved
end Go.Proofs.Ytidbobpfebkhoaa.endsBack
namespace Go.Proofs.Ytidbobpfebkhoaa
/-- The row, under a short name, for the claim. -/
theorem endsBackUpto_holds : Rows.EndsBackUptoSaid := endsBack.proved
end Go.Proofs.Ytidbobpfebkhoaa
