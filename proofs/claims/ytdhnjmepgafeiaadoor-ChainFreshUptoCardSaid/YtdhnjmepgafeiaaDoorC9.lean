/- The law ChainBack answers true. -/
import Derived.Test.YtdhnjmepgafeiaaDoorC7
set_option linter.unusedVariables false
set_option linter.unusedSimpArgs false
set_option maxRecDepth 100000
namespace Go.Proofs.YtdhnjmepgafeiaaDoor.Abs
open Go Go.Proofs

theorem joinL_le (l : List (List Int)) (hr : ∀ b ∈ l, b.length ≤ 1048576 ∧ Bytes b) : (partsL l).length ≤ 8 ∧ (joinL l).length ≤ 8388672 := by
  by_cases h0 : partsE l = 0
  · obtain ⟨hg, hne, h8, hF⟩ := partsE_ok h0
    have hFl := partsF_len l (fun b hb => ⟨hg b hb, (hr b hb).1⟩)
    rw [← hF] at hFl
    have h1 := flatten_len hFl
    have h2 : (partsL l).length ≤ 8 := by rw [hF, partsF_length]; exact h8
    have h3 : (partsL l).length * 1048584 ≤ 8 * 1048584 := Nat.mul_le_mul_right _ h2
    refine ⟨h2, ?_⟩
    unfold joinL
    omega
  · have e1 : partsL l = [] := by unfold partsL; rw [if_neg h0]
    unfold joinL
    rw [e1]
    exact ⟨by decide, by decide⟩

theorem split_rel (b : List Int) (l : List (List Int)) (k : Nat) (hg : ∀ x ∈ b :: l, goodB x = true ∧ x.length ≤ 1048576) (hr : relB (gotH b 0) = true) : splitF (k + 1) (partsF (b :: l)).flatten [] = ([], 5) := by
  obtain ⟨hgb, hlb⟩ := hg b (by simp)
  cases l with
  | nil =>
    obtain ⟨g1, g2⟩ := last_got b hgb
    simp only [partsF, List.flatten_cons, List.flatten_nil, List.append_nil]
    unfold splitF
    rw [if_neg (by rw [g1]; simp), g2, if_neg (by decide), if_neg (by omega), if_neg (by decide), if_pos ⟨rfl, hr⟩]
  | cons c l =>
    have hb := got_len (last_got b hgb).1
    obtain ⟨p1, p2, p3⟩ := padN_le b.length
    obtain ⟨g1, g2, g3⟩ := part_got b (partsF (c :: l)).flatten hgb (by omega)
    rw [partsF_flatten_cons]
    unfold splitF
    have hrel : relB (gotH (partL b ++ (partsF (c :: l)).flatten) 0) = relB (gotH b 0) := by rw [g2]; rfl
    have hnx : (gotH (partL b ++ (partsF (c :: l)).flatten) 0).next = ((padN b.length : Nat) : Int) := by rw [g2]
    rw [if_neg (by rw [g1]; simp), hnx, if_neg (by omega), if_neg (by rw [List.length_append, g3]; omega), if_neg (by decide), if_pos ⟨rfl, by rw [hrel]; exact hr⟩]

theorem join_head (b : List Int) (l : List (List Int)) (hg : ∀ x ∈ b :: l, goodB x = true ∧ x.length ≤ 1048576) : gotE (partsF (b :: l)).flatten 0 = 0 ∧ relB (gotH (partsF (b :: l)).flatten 0) = relB (gotH b 0) := by
  obtain ⟨hgb, hlb⟩ := hg b (by simp)
  cases l with
  | nil =>
    simp only [partsF, List.flatten_cons, List.flatten_nil, List.append_nil]
    exact ⟨(last_got b hgb).1, trivial⟩
  | cons c l =>
    obtain ⟨g1, g2, g3⟩ := part_got b (partsF (c :: l)).flatten hgb (by omega)
    rw [partsF_flatten_cons]
    exact ⟨g1, by rw [g2]; rfl⟩

theorem partL_get (b : List Int) (hg : goodB b = true) (k : Nat) (hk : k < b.length) (h : k < 20 ∨ 23 < k) : (partL b)[k]?.getD 0 = b[k]?.getD 0 := by
  have hb := got_len (last_got b hg).1
  have hpl := padL_length b
  obtain ⟨p1, p2, p3⟩ := padN_le b.length
  unfold partL
  rw [setN_other (padL b) (by omega) k (by omega), padL_get b k hk]

theorem partL_bytes (b : List Int) (h : Bytes b) : Bytes (partL b) := by
  unfold partL setN
  have hBp : Bytes (padL b) := by unfold padL; exact h.app (Bytes.zeros _)
  exact ((hBp.take 20).app (digs_bytes _ _)).app (hBp.drop 24)

theorem partsF_bytes : ∀ (l : List (List Int)), (∀ b ∈ l, Bytes b) → ∀ p ∈ partsF l, Bytes p
  | [], _, p, hp => by simp [partsF] at hp
  | [b], h, p, hp => by
    simp only [partsF, List.mem_singleton] at hp
    subst hp
    exact h p (by simp)
  | b :: c :: l, h, p, hp => by
    simp only [partsF, List.mem_cons] at hp
    rcases hp with rfl | hp
    · exact partL_bytes b (h b (by simp))
    · exact partsF_bytes (c :: l) (fun x hx => h x (by simp [hx])) p (by simpa [partsF] using hp)

theorem bytes_flatten {l : List (List Int)} (h : ∀ b ∈ l, Bytes b) : Bytes l.flatten := by
  intro x hx
  obtain ⟨b, hb, hxb⟩ := List.mem_flatten.1 hx
  exact h b hb x hxb

theorem back_part (l : List (List Int)) (hg : ∀ x ∈ l, goodB x = true ∧ x.length ≤ 1048576) (i : Nat) (hi : i < l.length) :
    (l[i]?.getD []).length ≤ ((partsF l)[i]?.getD []).length ∧ ((partsF l)[i]?.getD []).length ≤ (l[i]?.getD []).length + 7 ∧ (i + 1 < l.length → ((partsF l)[i]?.getD []).length % 8 = 0) ∧
    (∀ k, k < (l[i]?.getD []).length → (k < 20 ∨ 23 < k) → ((partsF l)[i]?.getD [])[k]?.getD 0 = (l[i]?.getD [])[k]?.getD 0) ∧ gotE ((partsF l)[i]?.getD []) 0 = 0 ∧
    (gotH ((partsF l)[i]?.getD []) 0).next = if i + 1 < l.length then (((partsF l)[i]?.getD []).length : Int) else 0 := by
  obtain ⟨hgb, hlb⟩ := hg (l[i]?.getD []) (by rw [List.getElem?_eq_getElem hi]; exact List.getElem_mem hi)
  rw [partsF_get l i hi]
  simp only [Option.getD_some]
  generalize l[i]?.getD [] = b at *
  by_cases h : i + 1 < l.length
  · rw [if_pos h, if_pos h]
    obtain ⟨p1, p2, p3⟩ := padN_le b.length
    obtain ⟨g1, g2, g3⟩ := part_got b [] hgb (by omega)
    rw [List.append_nil] at g1 g2
    refine ⟨by omega, by omega, fun _ => by omega, fun k hk h2 => partL_get b hgb k hk h2, g1, ?_⟩
    rw [g2, g3]
  · rw [if_neg h, if_neg h]
    obtain ⟨g1, g2⟩ := last_got b hgb
    exact ⟨by omega, by omega, fun h2 => absurd h2 h, fun k _ _ => rfl, g1, g2⟩

end Go.Proofs.YtdhnjmepgafeiaaDoor.Abs
