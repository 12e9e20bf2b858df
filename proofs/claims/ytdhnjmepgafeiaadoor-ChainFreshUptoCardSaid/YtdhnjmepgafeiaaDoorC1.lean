/- PLAIN LAWS of chains: parts of messages, and what their chain is cut into. -/
import Derived.Test.YtdhnjmepgafeiaaDoorC0
set_option linter.unusedVariables false
set_option linter.unusedSimpArgs false
set_option maxRecDepth 100000
namespace Go.Proofs.YtdhnjmepgafeiaaDoor.Abs
open Go Go.Proofs

/-- A message, padded, with its Next. -/
def setN (p : List Int) : List Int := p.take 20 ++ digs 4 p.length ++ p.drop 24
def partL (b : List Int) : List Int := setN (padL b)

def partsF : List (List Int) → List (List Int)
  | [] => []
  | [b] => [b]
  | b :: c :: l => partL b :: partsF (c :: l)

def goodB (b : List Int) : Bool := gotE b 0 == 0 && (gotH b 0).next == 0
def partsE (l : List (List Int)) : Int := if l.all goodB = false then 2 else if l = [] then 2 else if 8 < l.length then 3 else 0
def partsL (l : List (List Int)) : List (List Int) := if partsE l = 0 then partsF l else []
def joinL (l : List (List Int)) : List Int := (partsL l).flatten

theorem setN_length (p : List Int) (h : 64 ≤ p.length) : (setN p).length = p.length := by
  unfold setN
  simp only [List.length_append, List.length_take, List.length_drop, digs_length]
  omega

theorem setN_other (p : List Int) (h : 64 ≤ p.length) (j : Nat) (hj : j < 20 ∨ 24 ≤ j) : (setN p)[j]? = p[j]? := by
  unfold setN
  have l1 : (p.take 20).length = 20 := by rw [List.length_take]; omega
  have l2 : (p.take 20 ++ digs 4 p.length).length = 24 := by rw [List.length_append, l1, digs_length]
  rcases hj with hj | hj
  · rw [List.append_assoc, List.getElem?_append_left (by omega), List.getElem?_take, if_pos hj]
  · rw [List.getElem?_append_right (by omega), l2, List.getElem?_drop, show 24 + (j - 24) = j by omega]

theorem setN_next (p : List Int) (h : 64 ≤ p.length) (h2 : p.length < 4294967296) : getV (setN p) 20 4 = p.length := by
  have l1 : (p.take 20).length = 20 := by rw [List.length_take]; omega
  exact getV_at (setN p) (p.take 20) (p.drop 24) p.length 20 4 (by decide) (by omega) (by omega) rfl (by rw [l1]; rfl)

theorem padL_get (b : List Int) (j : Nat) (hj : j < b.length) : (padL b)[j]? = b[j]? := by
  unfold padL
  rw [List.getElem?_append_left hj]

theorem got_same {p q : List Int} (h : 64 ≤ q.length) (hh : ∀ j, j < 64 → p[j]? = q[j]?) (e : gotE p 0 = 0) : gotE q 0 = 0 ∧ gotH q 0 = gotH p 0 := by
  have hp := got_len e
  obtain ⟨e1, e2⟩ := got_next hp h (fun j hj _ => hh j hj) e
  refine ⟨e1, ?_⟩
  rw [e2]
  have : getV q 20 4 = getV p 20 4 := getV_cong (j := 20) (m := 20) (k := 4) (by omega) (by omega) fun i hi => (hh (20 + i) (by omega)).symm
  rw [this]
  have hn : (gotH p 0).next = getV p 20 4 := by unfold gotH; rw [if_pos e]; rfl
  rw [← hn]

/-- A part, whatever is behind it: its head, its Next. -/
theorem part_got (b rest : List Int) (hg : goodB b = true) (hl : b.length ≤ 4294967000) :
    gotE (partL b ++ rest) 0 = 0 ∧ gotH (partL b ++ rest) 0 = { gotH b 0 with next := ((padN b.length : Nat) : Int) } ∧ (partL b).length = padN b.length := by
  simp only [goodB, Bool.and_eq_true, beq_iff_eq] at hg
  have hb := got_len hg.1
  obtain ⟨p1, p2, p3⟩ := padN_le b.length
  have hpl := padL_length b
  have hpl64 : 64 ≤ (padL b).length := by omega
  obtain ⟨e1, e2⟩ := got_same (q := padL b) hpl64 (fun j hj => (padL_get b j (by omega)).symm) hg.1
  have hsl := setN_length (padL b) hpl64
  obtain ⟨e3, e4⟩ := got_next (q := setN (padL b)) hpl64 (by omega) (fun j _ hj => (setN_other _ hpl64 j hj).symm) e1
  obtain ⟨e5, e6⟩ := got_same (q := partL b ++ rest) (by rw [List.length_append]; unfold partL; omega) (fun j hj => (List.getElem?_append_left (by unfold partL; omega)).symm) e3
  refine ⟨e5, ?_, by unfold partL; omega⟩
  unfold partL at e6 ⊢
  rw [e6, e4, e2, setN_next _ hpl64 (by omega), hpl]

theorem last_got (b : List Int) (hg : goodB b = true) : gotE b 0 = 0 ∧ (gotH b 0).next = 0 := by
  simpa [goodB] using hg

theorem partsF_flatten_cons (b c : List Int) (l : List (List Int)) : (partsF (b :: c :: l)).flatten = partL b ++ (partsF (c :: l)).flatten := rfl
theorem partsF_length : ∀ l, (partsF l).length = l.length
  | [] => rfl
  | [_] => rfl
  | b :: c :: l => by simp [partsF, partsF_length (c :: l)]

/-- The parts of a chain, cut again. -/
theorem split_parts : ∀ (l : List (List Int)) (k : Nat) (acc : List (List Int)), l ≠ [] → (∀ b ∈ l, goodB b = true ∧ b.length ≤ 1048576) → acc.length + l.length ≤ 8 → l.length ≤ k → (acc ≠ [] ∨ ∀ b, l.head? = some b → relB (gotH b 0) = false) →
    splitF k (partsF l).flatten acc = (acc ++ partsF l, 0)
  | [], _, _, h, _, _, _, _ => absurd rfl h
  | [b], k, acc, _, hg, h8, hk, hr => by
    obtain ⟨k, rfl⟩ : ∃ q, k = q + 1 := ⟨k - 1, by simp at hk; omega⟩
    obtain ⟨g1, g2⟩ := last_got b (hg b (by simp)).1
    simp only [partsF, List.flatten_cons, List.flatten_nil, List.append_nil]
    simp only [List.length_cons, List.length_nil] at h8
    unfold splitF
    rw [if_neg (by rw [g1]; simp), g2, if_neg (by decide), if_neg (by omega), if_neg (by omega), if_neg, if_pos rfl]
    rintro ⟨h1, h2⟩
    rcases hr with h | h
    · exact h (List.length_eq_zero_iff.1 h1)
    · rw [h b rfl] at h2; cases h2
  | b :: c :: l, k, acc, _, hg, h8, hk, hr => by
    obtain ⟨k, rfl⟩ : ∃ q, k = q + 1 := ⟨k - 1, by simp at hk; omega⟩
    obtain ⟨hgb, hlb⟩ := hg b (by simp)
    have hb := got_len (last_got b hgb).1
    obtain ⟨p1, p2, p3⟩ := padN_le b.length
    obtain ⟨g1, g2, g3⟩ := part_got b (partsF (c :: l)).flatten hgb (by omega)
    rw [partsF_flatten_cons]
    simp only [List.length_cons] at h8 hk
    unfold splitF
    have hrel : relB (gotH (partL b ++ (partsF (c :: l)).flatten) 0) = relB (gotH b 0) := by rw [g2]; rfl
    have hnx : (gotH (partL b ++ (partsF (c :: l)).flatten) 0).next = ((padN b.length : Nat) : Int) := by rw [g2]
    rw [if_neg (by rw [g1]; simp), hnx, if_neg (by omega), if_neg (by rw [List.length_append, g3]; omega), if_neg (by omega), if_neg, if_neg (by omega)]
    · rw [Int.toNat_natCast, ← g3, List.drop_left, List.take_left, split_parts (c :: l) k (acc ++ [partL b]) (by simp) (fun x hx => hg x (by simp [hx])) (by simp; omega) (by simp; omega) (.inl (by simp))]
      simp [partsF]
    · rintro ⟨h1, h2⟩
      rcases hr with h | h
      · exact h (List.length_eq_zero_iff.1 h1)
      · rw [hrel, h b rfl] at h2; cases h2

end Go.Proofs.YtdhnjmepgafeiaaDoor.Abs
