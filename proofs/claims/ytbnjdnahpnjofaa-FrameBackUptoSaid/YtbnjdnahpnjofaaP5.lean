/- Streams of frames: plain laws. -/
import Derived.Test.YtbnjdnahpnjofaaDev
import Derived.Test.YtbnjdnahpnjofaaP1
import Derived.Test.YtbnjdnahpnjofaaR2
set_option linter.unusedVariables false
set_option linter.unusedSimpArgs false
set_option maxRecDepth 100000
set_option pp.structureInstances false
namespace Go.Proofs.Ytbnjdnahpnjofaa.Abs
open Go Go.Proofs

def okM (m : List Int) : Bool := m.length != 0 && decide (m.length ≤ 3000)
def frm (m : List Int) : List Int := hdrL m.length ++ m
def strm (W : List (List Int)) : List Int := (W.map frm).flatten
def wantF (l : List (List Int)) (i : Nat) : List (List Int) := (l.take i).filter okM

theorem okM_iff (m : List Int) : okM m = true ↔ 1 ≤ m.length ∧ m.length ≤ 3000 := by
  unfold okM; rw [Bool.and_eq_true, decide_eq_true_eq, bne_iff_ne]; omega

theorem frm_len (m : List Int) : (frm m).length = m.length + 4 := by simp [frm, hdrL]
theorem strm_app (W : List (List Int)) (m : List Int) : strm (W ++ [m]) = strm W ++ frm m := by simp [strm]

theorem wantF_step (l : List (List Int)) (i : Nat) (h : i < l.length) : wantF l (i + 1) = if okM (l[i]?.getD []) = true then wantF l i ++ [l[i]?.getD []] else wantF l i := by
  unfold wantF
  rw [List.take_add_one, List.getElem?_eq_getElem h, List.filter_append]
  simp only [Option.toList_some, Option.getD_some, List.filter_cons, List.filter_nil]
  split <;> simp

theorem hdr_bytes (n : Nat) (h : n ≤ 3000) : Bytes (hdrL n) := by
  intro x hx
  simp only [hdrL, List.mem_cons, List.not_mem_nil, or_false] at hx
  rcases hx with rfl | rfl | rfl | rfl <;> omega

theorem strm_bytes {W : List (List Int)} (h : ∀ m ∈ W, okM m = true ∧ Bytes m) : Bytes (strm W) := by
  intro x hx
  obtain ⟨f, hf, hxf⟩ := List.mem_flatten.1 hx
  obtain ⟨m, hm, rfl⟩ := List.mem_map.1 hf
  obtain ⟨h1, h2⟩ := h m hm
  exact (hdr_bytes m.length ((okM_iff m).1 h1).2).app h2 x hxf

theorem strm_len {W : List (List Int)} (h : ∀ m ∈ W, okM m = true) : (strm W).length ≤ W.length * 3004 := by
  induction W with
  | nil => simp [strm]
  | cons m W ih =>
    have e : strm (m :: W) = frm m ++ strm W := rfl
    rw [e, List.length_append, frm_len, List.length_cons]
    have := ih fun x hx => h x (by simp [hx])
    have := ((okM_iff m).1 (h m (by simp))).2
    omega

theorem fstV_hdr (m q : List Int) (h : m.length ≤ 3000) : fstV (hdrL m.length ++ q) = m.length := by
  simp only [fstV, hdrL, List.cons_append, List.getElem?_cons_succ, List.getElem?_cons_zero, Option.getD_some, Int.toNat_natCast]
  omega

theorem prefix_get {p r s : List Int} (h : p ++ r = s) (k : Nat) (hk : k < p.length) : p[k]?.getD 0 = s[k]?.getD 0 := by
  subst h; rw [List.getElem?_append_left hk]

/-- What a beginning of a stream of frames begins with. -/
theorem strm_cut {W : List (List Int)} (h : ∀ m ∈ W, okM m = true) {p r : List Int} (e : p ++ r = strm W) :
    (fstE p = 4 ∧ (r = [] → W = [] ∧ p = [])) ∨ ∃ m W', W = m :: W' ∧ fstE p = 0 ∧ m.length + 4 ≤ p.length ∧ m.length ≤ 3000 ∧ fstN p = m.length ∧ (p.drop 4).take m.length = m ∧ p.drop (4 + m.length) ++ r = strm W' := by
  cases W with
  | nil =>
    have : p = [] := (List.append_eq_nil_iff.1 (show p ++ r = [] from e)).1
    subst this
    exact .inl ⟨rfl, fun _ => ⟨rfl, rfl⟩⟩
  | cons m W =>
    have hm := (okM_iff m).1 (h m (by simp))
    have e2 : p ++ r = hdrL m.length ++ (m ++ strm W) := by rw [e]; simp [strm, frm]
    have hlen := congrArg List.length e2
    simp only [List.length_append, show (hdrL m.length).length = 4 from rfl] at hlen
    have g0 : 0 < p.length → p[0]?.getD 0 = 0 := fun hp => by rw [prefix_get e2 0 hp]; rfl
    have hV : 4 ≤ p.length → fstV p = m.length := fun hp => by
      have := fstV_hdr m (m ++ strm W) hm.2
      rw [← this]
      unfold fstV
      rw [prefix_get e2 1 (by omega), prefix_get e2 2 (by omega), prefix_get e2 3 (by omega)]
    by_cases c : m.length + 4 ≤ p.length
    · refine .inr ⟨m, W, rfl, ?_, c, hm.2, ?_⟩
      · unfold fstE
        rw [if_neg (fun hh => hh.2 (g0 hh.1)), if_neg (by omega), hV (by omega), if_neg (by omega), if_neg (by omega), if_neg (by omega)]
      · have hE : fstE p = 0 := by
          unfold fstE
          rw [if_neg (fun hh => hh.2 (g0 hh.1)), if_neg (by omega), hV (by omega), if_neg (by omega), if_neg (by omega), if_neg (by omega)]
        refine ⟨by unfold fstN; rw [if_pos hE, hV (by omega)], ?_, ?_⟩
        · have h1 : (p ++ r).drop 4 = m ++ strm W := by rw [e2]; rfl
          rw [List.drop_append_of_le_length (by omega)] at h1
          have h2 := congrArg (List.take m.length) h1
          rw [List.take_append_of_le_length (by rw [List.length_drop]; omega), List.take_append_of_le_length (Nat.le_refl _), List.take_length] at h2
          exact h2
        · have h1 : (p ++ r).drop (4 + m.length) = strm W := by
            rw [e2, ← List.drop_drop]
            show (m ++ strm W).drop m.length = _
            rw [List.drop_left]
          rw [List.drop_append_of_le_length (by omega)] at h1
          exact h1
    · refine .inl ⟨?_, fun hr => ?_⟩
      · unfold fstE
        rw [if_neg (fun hh => hh.2 (g0 hh.1))]
        by_cases c4 : p.length < 4
        · rw [if_pos c4]
        · rw [if_neg c4, hV (by omega), if_neg (by omega), if_neg (by omega), if_pos (by omega)]
      · subst hr
        simp only [List.length_nil] at hlen
        omega

end Go.Proofs.Ytbnjdnahpnjofaa.Abs
