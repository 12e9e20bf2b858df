/- PLAIN LAWS of sealed chains: what they are cut into. -/
import Derived.Test.YtdhnjmepgafeiaaDoorCH
set_option linter.unusedVariables false
set_option linter.unusedSimpArgs false
set_option maxRecDepth 100000
namespace Go.Proofs.YtdhnjmepgafeiaaDoor.Abs
open Go Go.Proofs

theorem or8_small {x : Int} (h0 : 0 ≤ x) (h : x < 16) : 0 ≤ or8 x ∧ or8 x < 16 ∧ or8 x / 2 % 2 = x / 2 % 2 ∧ or8 x / 4 % 2 = x / 4 % 2 ∧ or8 x / 8 % 2 = 1 := by
  obtain ⟨n, rfl⟩ : ∃ n : Nat, x = n := ⟨x.toNat, by omega⟩
  have : ∀ n : Fin 16, 0 ≤ or8 ((n : Nat) : Int) ∧ or8 ((n : Nat) : Int) < 16 ∧ or8 ((n : Nat) : Int) / 2 % 2 = ((n : Nat) : Int) / 2 % 2 ∧ or8 ((n : Nat) : Int) / 4 % 2 = ((n : Nat) : Int) / 4 % 2 ∧ or8 ((n : Nat) : Int) / 8 % 2 = 1 := by decide +kernel
  exact this ⟨n, by omega⟩

/-- Heads of bytes that differ in the flag of signed parts and in the sign alone. -/
theorem got_seal {p q : List Int} (hp : 64 ≤ p.length) (hq : 64 ≤ q.length) (hB : Bytes p) (h : ∀ j, j < 48 → j ≠ 16 → p[j]? = q[j]?) (h16 : q[16]?.getD 0 = or8 (p[16]?.getD 0)) (e : gotE p 0 = 0) :
    gotE q 0 = 0 ∧ (gotH q 0).next = (gotH p 0).next ∧ relB (gotH q 0) = relB (gotH p 0) ∧ ((gotH q 0).flags / 8 % 2 == 1) = true := by
  have g : ∀ j k : Nat, j + k ≤ 48 → (j + k ≤ 16 ∨ 17 ≤ j) → getV q j k = getV p j k := fun j k hjk hd => getV_cong (by omega) (by omega) fun i hi => (h (j + i) (by omega) (by omega)).symm
  have g0 := g 0 4 (by decide) (by decide)
  have g4 := g 4 2 (by decide) (by decide)
  have g6 := g 6 2 (by decide) (by decide)
  have g8 := g 8 4 (by decide) (by decide)
  have g12 := g 12 2 (by decide) (by decide)
  have g14 := g 14 2 (by decide) (by decide)
  have g20 := g 20 4 (by decide) (by decide)
  have g24 := g 24 8 (by decide) (by decide)
  have g32 := g 32 8 (by decide) (by decide)
  have g32' := g 32 4 (by decide) (by decide)
  have g36 := g 36 4 (by decide) (by decide)
  have g40 := g 40 8 (by decide) (by decide)
  have p16 := getV_16 hp
  have q16 := getV_16 hq
  have e17 : q[17]?.getD 0 = p[17]?.getD 0 := by rw [h 17 (by decide) (by decide)]
  have e18 : q[18]?.getD 0 = p[18]?.getD 0 := by rw [h 18 (by decide) (by decide)]
  have e19 : q[19]?.getD 0 = p[19]?.getD 0 := by rw [h 19 (by decide) (by decide)]
  rw [h16, e17, e18, e19] at q16
  have b0 := byte_at hB 16
  have b1 := byte_at hB 17
  have b2 := byte_at hB 18
  have b3 := byte_at hB 19
  have ep : formB p 0 = true := by
    unfold gotE at e
    rw [if_neg (by omega), if_neg (by omega)] at e
    split at e
    · assumption
    · cases e
  have hpH : gotH p 0 = getH p 0 := by unfold gotH; rw [if_pos e]
  have ep' := ep
  unfold formB mayB at ep'
  simp only [Bool.and_eq_true, decide_eq_true_eq, Int.zero_add] at ep'
  have hf16 : getV p 16 4 < 16 := ep'.1.2.1.2
  obtain ⟨k1, k2, k3, k4, k5⟩ := or8_small b0.1 (show p[16]?.getD 0 < 16 by omega)
  have hq16 : getV q 16 4 = or8 (p[16]?.getD 0) := by omega
  have hp16 : getV p 16 4 = p[16]?.getD 0 := by omega
  have hfl : flB (getV q 16 4) = flB (getV p 16 4) := by unfold flB; rw [hq16, hp16, k3]
  simp only [Int.cast_ofNat_Int, Int.natCast_zero] at g0 g4 g6 g8 g12 g14 g20 g24 g32 g32' g36 g40
  have hH : getH q 0 = { getH p 0 with flags := getV q 16 4, sig := (q.drop 48).take 16 } := by
    simp only [getH, Int.zero_add, g6, g8, g12, g14, g20, g24, g32, g36, g40, hfl, show ((48 : Int).toNat) = 48 from rfl]
  have hm : mayB (getH q 0) = mayB (getH p 0) := by
    have hh : hasB (getH q 0) = hasB (getH p 0) := by
      rw [hH]; unfold hasB
      show (getV q 16 4 / 2 % 2 == 1) = (getV p (0 + 16) 4 / 2 % 2 == 1)
      rw [hq16, Int.zero_add, hp16, k3]
    unfold mayB
    rw [hh]
    have d1 : decide ((getH q 0).flags < 16) = true := by
      rw [hH]; exact decide_eq_true (by show getV q 16 4 < 16; omega)
    have d2 : decide ((getH p 0).flags < 16) = true := decide_eq_true (by show getV p (0 + 16) 4 < 16; rw [Int.zero_add]; omega)
    rw [d1, d2, hH]
  have hf : formB q 0 = formB p 0 := by
    unfold formB
    rw [hm]
    simp only [Int.zero_add, g0, g4, hfl, g32']
  have eq0 : gotE q 0 = 0 := by
    unfold gotE
    rw [if_neg (by omega), if_neg (by omega), hf, ep]
    rfl
  have hqH : gotH q 0 = { getH p 0 with flags := getV q 16 4, sig := (q.drop 48).take 16 } := by unfold gotH; rw [if_pos eq0, hH]
  refine ⟨eq0, ?_, ?_, ?_⟩
  · rw [hqH, hpH]
  · rw [hqH, hpH]
    unfold relB
    show (getV q 16 4 / 4 % 2 == 1) = (getV p (0 + 16) 4 / 4 % 2 == 1)
    rw [hq16, Int.zero_add, hp16, k4]
  · rw [hqH]
    show (getV q 16 4 / 8 % 2 == 1) = true
    rw [hq16, k5]; rfl

theorem sealP_length {K p : List Int} (h : 64 ≤ p.length) : (sealP K p).length = p.length := by
  unfold sealP
  rw [signL_length, orF_length, if_neg (by omega)]

theorem sealP_get {K p : List Int} (h : 64 ≤ p.length) {j : Nat} (hj : j < 48) : (sealP K p)[j]? = (orF p)[j]? := by
  have hl := orF_length p
  unfold sealP
  rw [signL_eq (by omega), List.getElem?_append_left (by rw [List.length_take]; omega), List.getElem?_take, if_pos hj]

theorem seal_got {K p : List Int} (rest : List Int) (hB : Bytes p) (e : gotE p 0 = 0) :
    gotE (sealP K p ++ rest) 0 = 0 ∧ (gotH (sealP K p ++ rest) 0).next = (gotH p 0).next ∧ relB (gotH (sealP K p ++ rest) 0) = relB (gotH p 0) ∧ ((gotH (sealP K p ++ rest) 0).flags / 8 % 2 == 1) = true := by
  have h := got_len e
  have hl := sealP_length (K := K) h
  have hg : ∀ j, j < 48 → (sealP K p ++ rest)[j]? = (orF p)[j]? := fun j hj => by rw [List.getElem?_append_left (by omega), sealP_get h hj]
  refine got_seal h (by rw [List.length_append]; omega) hB (fun j hj hne => ?_) ?_ e
  · rw [hg j hj]
    unfold orF
    rw [List.getElem?_set, if_neg (by omega)]
  · rw [hg 16 (by decide)]
    unfold orF
    rw [List.getElem?_set, if_pos rfl, if_pos (by omega)]; rfl

/-- Parts that make a chain. -/
def okH : List (List Int) → Prop
  | [] => True
  | [q] => gotE q 0 = 0 ∧ (gotH q 0).next = 0
  | q :: c :: l => (∀ rest, gotE (q ++ rest) 0 = 0 ∧ (gotH (q ++ rest) 0).next = (q.length : Int) ∧ relB (gotH (q ++ rest) 0) = relB (gotH q 0)) ∧ q.length % 8 = 0 ∧ 64 ≤ q.length ∧ okH (c :: l)

theorem split_okH : ∀ (l : List (List Int)) (k : Nat) (acc : List (List Int)), l ≠ [] → okH l → acc.length + l.length ≤ 8 → l.length ≤ k → (acc ≠ [] ∨ ∀ b, l.head? = some b → relB (gotH b 0) = false) →
    splitF k l.flatten acc = (acc ++ l, 0)
  | [], _, _, h, _, _, _, _ => absurd rfl h
  | [b], k, acc, _, hg, h8, hk, hr => by
    obtain ⟨k, rfl⟩ : ∃ q, k = q + 1 := ⟨k - 1, by simp at hk; omega⟩
    obtain ⟨g1, g2⟩ : gotE b 0 = 0 ∧ (gotH b 0).next = 0 := hg
    simp only [List.flatten_cons, List.flatten_nil, List.append_nil]
    simp only [List.length_cons, List.length_nil] at h8
    unfold splitF
    rw [if_neg (by rw [g1]; simp), g2, if_neg (by decide), if_neg (by omega), if_neg (by omega), if_neg, if_pos rfl]
    rintro ⟨h1, h2⟩
    rcases hr with h | h
    · exact h (List.length_eq_zero_iff.1 h1)
    · rw [h b rfl] at h2; cases h2
  | b :: c :: l, k, acc, _, hg, h8, hk, hr => by
    obtain ⟨k, rfl⟩ : ∃ q, k = q + 1 := ⟨k - 1, by simp at hk; omega⟩
    obtain ⟨hgb, hb8, hb, hgc⟩ : (∀ rest, gotE (b ++ rest) 0 = 0 ∧ (gotH (b ++ rest) 0).next = (b.length : Int) ∧ relB (gotH (b ++ rest) 0) = relB (gotH b 0)) ∧ b.length % 8 = 0 ∧ 64 ≤ b.length ∧ okH (c :: l) := hg
    obtain ⟨g1, hnx, hrel⟩ := hgb (c :: l).flatten
    rw [List.flatten_cons]
    simp only [List.length_cons] at h8 hk
    unfold splitF
    rw [if_neg (by rw [g1]; simp), hnx, if_neg (by omega), if_neg (by rw [List.length_append]; omega), if_neg (by omega), if_neg, if_neg (by omega)]
    · rw [Int.toNat_natCast, List.drop_left, List.take_left, split_okH (c :: l) k (acc ++ [b]) (by simp) hgc (by simp; omega) (by simp; omega) (.inl (by simp))]
      simp
    · rintro ⟨h1, h2⟩
      rcases hr with h | h
      · exact h (List.length_eq_zero_iff.1 h1)
      · rw [hrel, h b rfl] at h2; cases h2

theorem head_okH {b : List Int} {l : List (List Int)} (hg : okH (b :: l)) : gotE (b :: l).flatten 0 = 0 ∧ relB (gotH (b :: l).flatten 0) = relB (gotH b 0) := by
  cases l with
  | nil =>
    simp only [List.flatten_cons, List.flatten_nil, List.append_nil]
    exact ⟨hg.1, trivial⟩
  | cons c l =>
    obtain ⟨g1, _, g3⟩ := hg.1 (c :: l).flatten
    rw [List.flatten_cons]
    exact ⟨g1, g3⟩

theorem split_relC {b : List Int} {l : List (List Int)} (k : Nat) (hg : okH (b :: l)) (hr : relB (gotH b 0) = true) : splitF (k + 1) (b :: l).flatten [] = ([], 5) := by
  cases l with
  | nil =>
    obtain ⟨g1, g2⟩ : gotE b 0 = 0 ∧ (gotH b 0).next = 0 := hg
    simp only [List.flatten_cons, List.flatten_nil, List.append_nil]
    unfold splitF
    rw [if_neg (by rw [g1]; simp), g2, if_neg (by decide), if_neg (by omega), if_neg (by decide), if_pos ⟨rfl, hr⟩]
  | cons c l =>
    obtain ⟨hgb, hb8, hb, hgc⟩ : (∀ rest, gotE (b ++ rest) 0 = 0 ∧ (gotH (b ++ rest) 0).next = (b.length : Int) ∧ relB (gotH (b ++ rest) 0) = relB (gotH b 0)) ∧ b.length % 8 = 0 ∧ 64 ≤ b.length ∧ okH (c :: l) := hg
    obtain ⟨g1, hnx, hrel⟩ := hgb (c :: l).flatten
    rw [List.flatten_cons]
    unfold splitF
    rw [if_neg (by rw [g1]; simp), hnx, if_neg (by omega), if_neg (by rw [List.length_append]; omega), if_neg (by decide), if_pos ⟨rfl, by rw [hrel]; exact hr⟩]

theorem okH_seal (K : List Int) : ∀ (l : List (List Int)), (∀ b ∈ l, goodB b = true ∧ b.length ≤ 1048576 ∧ Bytes b) → okH (sealF K l)
  | [], _ => trivial
  | [b], h => by
    obtain ⟨h1, h2, h3⟩ := h b (by simp)
    obtain ⟨g1, g2⟩ := last_got b h1
    have := seal_got (K := K) [] h3 g1
    rw [List.append_nil] at this
    exact ⟨this.1, by rw [this.2.1]; exact g2⟩
  | b :: c :: l, h => by
    obtain ⟨h1, h2, h3⟩ := h b (by simp)
    obtain ⟨p1, p2, p3⟩ := padN_le b.length
    obtain ⟨g1, g2, g3⟩ := part_got b [] h1 (by omega)
    rw [List.append_nil] at g1 g2
    have hb := got_len g1
    have hBp : Bytes (partL b) := by
      unfold partL setN
      have hBp : Bytes (padL b) := by unfold padL; exact h3.app (Bytes.zeros _)
      exact ((hBp.take 20).app (digs_bytes _ _)).app (hBp.drop 24)
    have hsl := sealP_length (K := K) hb
    have hn : (gotH (partL b) 0).next = ((padN b.length : Nat) : Int) := by rw [g2]
    have hc : sealF K (b :: c :: l) = sealP K (partL b) :: sealF K (c :: l) := rfl
    have hrec := okH_seal K (c :: l) (fun x hx => h x (by simp [hx]))
    have hne : ∃ d m, sealF K (c :: l) = d :: m := by
      cases l with
      | nil => exact ⟨_, _, rfl⟩
      | cons x m => exact ⟨_, _, rfl⟩
    obtain ⟨d, m, hd⟩ := hne
    rw [hc, hd]
    rw [hd] at hrec
    refine ⟨fun rest => ?_, by rw [hsl]; omega, by omega, hrec⟩
    obtain ⟨s1, s2, s3, _⟩ := seal_got (K := K) rest hBp g1
    have s0 := seal_got (K := K) [] hBp g1
    rw [List.append_nil] at s0
    exact ⟨s1, by rw [s2, hn, hsl, g3], by rw [s3, s0.2.2.1]⟩

/-- What is told of each sealed part. -/
theorem sealF_part (K : List Int) (l : List (List Int)) (h : ∀ b ∈ l, goodB b = true ∧ b.length ≤ 1048576 ∧ Bytes b) : ∀ s ∈ sealF K l, 64 ≤ s.length ∧ s.length ≤ 1048584 ∧ Bytes s ∧ gotE s 0 = 0 ∧ ((gotH s 0).flags / 8 % 2 == 1) = true ∧ checkE K s = 0 := by
  intro s hs
  obtain ⟨p, hp, rfl⟩ := List.mem_map.1 hs
  obtain ⟨h1, h2, h3⟩ := partsF_64 l h p hp
  have h4 := partsF_got l (fun b hb => ⟨(h b hb).1, (h b hb).2.1⟩) p hp
  have hl := sealP_length (K := K) h1
  have hg := seal_got (K := K) [] h3 h4
  rw [List.append_nil] at hg
  refine ⟨by omega, by omega, signL_bytes (orF_bytes h3), hg.1, hg.2.2.2, checkE_sign (by rw [orF_length]; omega)⟩

theorem sealF_length (K : List Int) (l : List (List Int)) : (sealF K l).length = l.length := by simp [sealF, partsF_length]

end Go.Proofs.YtdhnjmepgafeiaaDoor.Abs
