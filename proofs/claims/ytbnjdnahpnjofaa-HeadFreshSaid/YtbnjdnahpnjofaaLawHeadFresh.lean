/- The row of the law HeadFresh, out of its contract, for every input that its row lets in. -/
import Derived.Test.YtbnjdnahpnjofaaRows
import Derived.Test.YtbnjdnahpnjofaaQ8
import Derived.Test.YtbnjdnahpnjofaaA21
import Derived.Test.YtbnjdnahpnjofaaA28
import Derived.WalkKit
import Derived.ProofKit
import Derived.OpenShut
import Derived.ShutString
import Derived.ChangeOld
import Derived.Below
import Derived.SizedLaws
import Derived.Carry
namespace Go.Proofs.Ytbnjdnahpnjofaa.headFresh
open Go.ChangeShapes Go.WideShapes Go.ChangeAt Go.RowKit
open Go.ChangeMaps (open_string shut_string)
open Go.Proofs.Ytbnjdnahpnjofaa.Abs
set_option linter.unusedVariables false
theorem own : ownKnob Try.prog.godebug = none := by kernel_rfl
theorem laidOut : laidOutB Try.prog = true := by kernel_rfl
set_option maxRecDepth 100000 in
set_option maxHeartbeats 4000000 in
theorem lifted (os : Os) (started : os.Started) (H : Type) (enc : TypeId × Value → H) :
    ReturnsInHanded {} Try.checked os 13 .any (Rows.headFreshSpec.pre6 enc Try.prog Try.f13 Rows.headFreshRow.domain false) (Rows.headFreshSpec.post enc Try.prog Try.f13 false true false false) := by
  refine returnsInHanded_of_change_sized (C := Try.checked) own started (by kernel_rfl) Try.func13
    (ChangeSpec.witness6 (enc := enc) (C := Try.checked) false ⟨#[], #[.agg #[.int .u16 0, .int .u32 0, .int .u16 0, .int .u16 0, .int .u32 0, .int .u32 0, .int .u64 0, .int .u64 0, .int .u32 0, .int .u64 0, .int .u8 0, .int .u8 0, .int .u8 0, .int .u8 0, .int .u8 0, .int .u8 0, .int .u8 0, .int .u8 0, .int .u8 0, .int .u8 0, .int .u8 0, .int .u8 0, .int .u8 0, .int .u8 0, .int .u8 0, .int .u8 0]], []⟩ 8 (by kernel_rfl) (by kernel_rfl) (by kernel_rfl) (by kernel_rfl)) ?_
  intro W base args ds gs before hval0 hW hcnd hsz0 _
  have hsz : (DataW.weightsEach Try.prog (Try.f13.params.toList ++ Rows.headFreshSpec.plain.varTypes Try.prog) (ds ++ gs)).all (· ≤ reachBytes) = true := hsz0
  have hval : ∀ (j : Nat) t v, Try.f13.params[j]? = some t → args[j]? = some v → Value.okWide Try.prog W .any base t v := hval0
  have hW' := hW
  obtain ⟨p, q, hA0, hV, rfl, hfz, hnd⟩ := hW
  have hA : DataW.TrodAll enc Try.prog W 0 (fun _ => true) true Try.f13.params.toList args.toList ds p := hA0
  rw [Try.params13] at hA hval hsz
  obtain ⟨v0, vs0, d0, ds0, p0, q0, hargs, rfl, rfl, h0, r0⟩ := trodAll_cons hA
  obtain ⟨rfl, rfl, rfl⟩ := trodAll_nil r0
  obtain rfl : args = #[v0] := by cases args; simp_all
  obtain ⟨rfl, rfl⟩ := trodVars_none hV
  have k0 := h0
  have lt0 : ∀ x ∈ p0, x.block < W.heap.size := by obtain ⟨m, hm⟩ := k0; exact DataW.trod_lt m _ _ _ hm
  obtain ⟨ls0, sh0, ar0⟩ := open_struct (ks := [.i .u16, .i .u32, .i .u16, .i .u16, .i .u32, .i .u32, .i .u64, .i .u64, .i .u32, .i .u64, .a .u8 16]) Try.underlying51 ⟨rfl, by kernel_rfl, Try.underlying34, ⟨rfl, by kernel_rfl, Try.underlying46, ⟨rfl, by kernel_rfl, Try.underlying47, ⟨rfl, by kernel_rfl, Try.underlying34, ⟨rfl, by kernel_rfl, Try.underlying46, ⟨rfl, by kernel_rfl, Try.underlying46, ⟨rfl, by kernel_rfl, Try.underlying48, ⟨rfl, by kernel_rfl, Try.underlying48, ⟨rfl, by kernel_rfl, Try.underlying46, ⟨rfl, by kernel_rfl, Try.underlying48, ⟨rfl, by kernel_rfl, ⟨_, Try.underlying49, Try.underlying5, by kernel_rfl⟩, trivial⟩⟩⟩⟩⟩⟩⟩⟩⟩⟩⟩ (by kernel_rfl) (hval 0 51 v0 rfl rfl) h0
  obtain ⟨a0_0, _, rfl, wa0_0, ⟨a0_1, _, rfl, wa0_1, ⟨a0_2, _, rfl, wa0_2, ⟨a0_3, _, rfl, wa0_3, ⟨a0_4, _, rfl, wa0_4, ⟨a0_5, _, rfl, wa0_5, ⟨a0_6, _, rfl, wa0_6, ⟨a0_7, _, rfl, wa0_7, ⟨a0_8, _, rfl, wa0_8, ⟨a0_9, _, rfl, wa0_9, ⟨a0_10, _, rfl, la0_10, wa0_10, rfl⟩⟩⟩⟩⟩⟩⟩⟩⟩⟩⟩ := sh0
  clear hA0 hval0 hsz0 hsz
  have hM := HeadFresh_law (⟨a0_0, a0_1, a0_2, a0_3, a0_4, a0_5, a0_6, a0_7, a0_8, a0_9, a0_10⟩ : Hd) ⟨wf_u16 wa0_0, wf_u32 wa0_1, wf_u16 wa0_2, wf_u16 wa0_3, wf_u32 wa0_4, wf_u32 wa0_5, wf_u64 wa0_6, wf_u64 wa0_7, wf_u32 wa0_8, wf_u64 wa0_9, la0_10, fun x hx => wf_u8 (wa0_10 x hx)⟩
  have hAr : Args W [.agg [.int .u16 a0_0, .int .u32 a0_1, .int .u16 a0_2, .int .u16 a0_3, .int .u32 a0_4, .int .u32 a0_5, .int .u64 a0_6, .int .u64 a0_7, .int .u32 a0_8, .int .u64 a0_9, .arr .u8 16 a0_10]] [v0] := ⟨ar0, trivial⟩
  have hC := law_walk (P := Try.prog) (f := 13) (args := [.agg [.int .u16 a0_0, .int .u32 a0_1, .int .u16 a0_2, .int .u16 a0_3, .int .u32 a0_4, .int .u32 a0_5, .int .u64 a0_6, .int .u64 a0_7, .int .u32 a0_8, .int .u64 a0_9, .arr .u8 16 a0_10]]) (vals := [v0]) hM hAr (fun g k l h => by simp [GT] at h)
  refine hC.mono fun e W' ⟨he, bel⟩ => ?_
  subst he
  exact ⟨_, rfl, _, _, _, [], _, [], hW', trodAll_mk1 (shut_bool Try.underlying4 _), (trodAll_cons_mk (Below.trod laidOut (by kernel_rfl) (of_decide_eq_true (by kernel_rfl)) k0 bel lt0) trodAll_mk0), rfl, bel.frame _, fun h => by cases h⟩
theorem proved : Rows.HeadFreshSaid :=
  OpenClaim.holds_of_wide 13 Try.f13 rfl rfl rfl rfl rfl rfl rfl ⟨rfl, rfl, rfl, rfl, rfl⟩ rfl rfl rfl rfl rfl (by kernel_rfl) Try.func13 (by kernel_rfl)
    (of_decide_eq_true (by kernel_rfl)) (by unfold Func.isWrapper; first | (rw [if_pos (by decide +kernel)]; kernel_rfl) | (rw [if_neg (by decide +kernel)]; exact ⟨rfl, rfl⟩))
    (fun os started H enc _ => lifted os started H enc)
#print axioms proved
end Go.Proofs.Ytbnjdnahpnjofaa.headFresh
namespace Go.Proofs.Ytbnjdnahpnjofaa
/-- The row, under a short name, for the claim. -/
theorem headFresh_holds : Rows.HeadFreshSaid := headFresh.proved
end Go.Proofs.Ytbnjdnahpnjofaa
