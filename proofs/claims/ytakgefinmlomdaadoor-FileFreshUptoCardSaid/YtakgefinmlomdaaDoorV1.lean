/- What utf8.ValidString answers, as a told contract. -/
import Derived.Test.YtakgefinmlomdaaDoorV
import Derived.Test.YtakgefinmlomdaaDoorB5
import Derived.Test.YtakgefinmlomdaaDoorFX
set_option linter.unusedVariables false
set_option linter.unusedSimpArgs false
set_option maxRecDepth 100000
namespace Go.Proofs.YtakgefinmlomdaaDoor.Abs
open Go Go.Proofs

theorem tabs_of {X : Ctx} {s : St} {σ : Env} {w : World} {a : Act} (hR : R X s σ w a) : Lib.Utf8Tabs (Tryd.laysValid_ren.g 3) (Tryd.laysValid_ren.g 4) X.w0 := by
  have h0 := (hR.gl 0 .u8 G0 rfl).2
  have h1 := (hR.gl 1 .u8 G1 rfl).2
  have l0 : G0.length = 256 := by unfold G0; rw [List.length_map, List.length_range]
  have l1 : G1.length = 32 := by unfold G1; rw [List.length_map, List.length_range]
  have g0 : ∀ c, c < 256 → G0.getD c 0 = (Lib.firstT c : Int) := fun c hc => by
    unfold G0; simp [List.getD, List.getElem?_map, List.getElem?_range hc]
  have g1 : ∀ j, j < 32 → G1.getD j 0 = if j % 2 = 0 then (Lib.accLo (j / 2) : Int) else (Lib.accHi (j / 2) : Int) := fun j hj => by
    unfold G1; simp [List.getD, List.getElem?_map, List.getElem?_range hj]
  refine ⟨fun c hc => ?_, fun i hi => ⟨?_, ?_⟩⟩
  · have := h0 c (by omega)
    rw [g0 c hc] at this
    exact this
  · have := h1 (2 * i) (by omega)
    rw [g1 (2 * i) (by omega), if_pos (by omega), show 2 * i / 2 = i by omega] at this
    exact this
  · have := h1 (2 * i + 1) (by omega)
    rw [g1 (2 * i + 1) (by omega), if_neg (by omega), show (2 * i + 1) / 2 = i by omega] at this
    exact this

theorem valid_meets (s : ByteArray) (hs : s.size ≤ 9223372036854775807) : Meets Tryd.prog 89 [.v (.str s)] [.v (.bool (Lib.validD s.data.toList))] := by
  intro X σ vals hR
  have hT := tabs_of hR
  have hv := hR.tm 0 (by simp [svs])
  have hsz := hR.sz
  have hvals : vals = #[.string s] := by
    have e1 : vals.size = 1 := hsz
    have e2 : vals.getD 0 undef = .string s := hv
    apply Array.ext
    · exact e1
    · intro i h1 h2
      have : i = 0 := by omega
      subst this
      simpa [Array.getD, h1] using e2
  subst hvals
  have hC : Calls Tryd.prog 89 #[.string s] X.w0 _ := Any.utf8_ValidString Tryd.laysValid s X.w0 hs hT
  refine hC.mono ?_
  rintro e w' ⟨rfl, hb⟩
  refine ⟨[.bool (Lib.validD s.data.toList)], fun _ => none, rfl, ?_⟩
  exact {
    sz := rfl
    tm := fun i hi => by
      have : i = 0 := by simp [svs] at hi; omega
      subst this
      rfl
    df := rfl
    bl := fun n g x h => by simp [blks, fnd] at h
    inj := fun n m x y B h => by simp [blks, fnd] at h
    fr := ⟨hb.size, fun B hB _ => hb.block B hB⟩
    st := ⟨hb.os, hb.tape, hb.output⟩
    ro := hR.ro
    gl := hR.gl }

end Go.Proofs.YtakgefinmlomdaaDoor.Abs
