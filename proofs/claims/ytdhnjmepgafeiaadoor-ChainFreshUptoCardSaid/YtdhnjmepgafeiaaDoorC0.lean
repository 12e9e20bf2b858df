/- PLAIN LAWS of chains: what splitting answers; heads of bytes that differ in their Next alone. -/
import Derived.Test.YtdhnjmepgafeiaaDoorQ6
set_option linter.unusedVariables false
set_option linter.unusedSimpArgs false
set_option maxRecDepth 100000
namespace Go.Proofs.YtdhnjmepgafeiaaDoor.Abs
open Go Go.Proofs

def relB (h : Hd) : Bool := h.flags / 4 % 2 == 1

/-- The parts of bytes, behind parts that were cut before. -/
def splitF : Nat → List Int → List (List Int) → List (List Int) × Int
  | 0, _, _ => ([], 99)
  | k + 1, r, l =>
    if gotE r 0 ≠ 0 then ([], gotE r 0)
    else if (gotH r 0).next % 8 ≠ 0 ∨ (0 < (gotH r 0).next ∧ (gotH r 0).next < 64) then ([], 5)
    else if (r.length : Int) < (gotH r 0).next then ([], 4)
    else if l.length = 8 then ([], 3)
    else if l.length = 0 ∧ relB (gotH r 0) = true then ([], 5)
    else if (gotH r 0).next = 0 then (l ++ [r], 0)
    else splitF k (r.drop (gotH r 0).next.toNat) (l ++ [r.take (gotH r 0).next.toNat])

def splitL (b : List Int) : List (List Int) := (splitF 9 b []).1
def splitE (b : List Int) : Int := (splitF 9 b []).2

theorem splitF_cover : ∀ (k : Nat) (r : List Int) (l : List (List Int)), (splitF k r l).2 = 0 → l.length ≤ 8 →
    (splitF k r l).1.flatten = l.flatten ++ r ∧ l.length < (splitF k r l).1.length ∧ (splitF k r l).1.length ≤ 8
  | 0, r, l, h, _ => by simp [splitF] at h
  | k + 1, r, l, h, hl => by
    unfold splitF at h ⊢
    split at h
    · rename_i c; exact absurd h c
    rename_i c1
    rw [if_neg c1]
    split at h
    · cases h
    rename_i c2
    rw [if_neg c2]
    split at h
    · cases h
    rename_i c3
    rw [if_neg c3]
    split at h
    · cases h
    rename_i c4
    rw [if_neg c4]
    split at h
    · cases h
    rename_i c5
    rw [if_neg c5]
    split at h
    · rename_i c6
      rw [if_pos c6]
      simp; omega
    · rename_i c6
      rw [if_neg c6]
      obtain ⟨e1, e2, e3⟩ := splitF_cover k _ _ h (by simp; omega)
      refine ⟨?_, by simp at e2; omega, e3⟩
      rw [e1]
      simp

theorem splitF_err : ∀ (k : Nat) (r : List Int) (l : List (List Int)), (splitF k r l).2 ≠ 0 → (splitF k r l).1 = []
  | 0, r, l, h => rfl
  | k + 1, r, l, h => by
    unfold splitF at h ⊢
    split
    · rfl
    split
    · rfl
    split
    · rfl
    split
    · rfl
    split
    · rfl
    rename_i c1 c2 c3 c4 c5
    rw [if_neg c1, if_neg c2, if_neg c3, if_neg c4, if_neg c5] at h
    split
    · rename_i c6; rw [if_pos c6] at h; exact absurd rfl h
    · rename_i c6
      rw [if_neg c6] at h
      exact splitF_err k _ _ h

/-- Numbers within bytes hang on these bytes alone. -/
theorem getV_cong {p q : List Int} {j m k : Nat} (hp : j + k ≤ p.length) (hq : m + k ≤ q.length) (h : ∀ i, i < k → p[j + i]? = q[m + i]?) : getV p j k = getV q m k := by
  have e1 : ∀ (b : List Int) (j : Nat), j + k ≤ b.length → cutE b.length j k = 0 := fun b j hb => by unfold cutE; rw [if_neg (by omega), if_neg (by omega)]
  have e2 : ∀ (b : List Int) (j : Nat), j + k ≤ b.length → cutL b j k = (b.drop j).take k := fun b j hb => by unfold cutL; rw [if_pos (e1 b j hb), Int.toNat_natCast, Int.toNat_natCast]
  have e3 : (p.drop j).take k = (q.drop m).take k := by
    apply List.ext_getElem?
    intro i
    rw [List.getElem?_take, List.getElem?_take]
    split
    · rename_i hi
      rw [List.getElem?_drop, List.getElem?_drop]
      exact h i hi
    · rfl
  unfold getV getE
  rw [e1 p j hp, e1 q m hq, e2 p j hp, e2 q m hq, e3]

/-- Heads of bytes that differ in their Next alone. -/
theorem got_next {p q : List Int} (hp : 64 ≤ p.length) (hq : 64 ≤ q.length) (h : ∀ j, j < 64 → (j < 20 ∨ 24 ≤ j) → p[j]? = q[j]?) (e : gotE p 0 = 0) :
    gotE q 0 = 0 ∧ gotH q 0 = { gotH p 0 with next := getV q 20 4 } := by
  have g : ∀ j k : Nat, j + k ≤ 64 → (j + k ≤ 20 ∨ 24 ≤ j) → getV q j k = getV p j k := fun j k hjk hd => getV_cong (by omega) (by omega) fun i hi => (h (j + i) (by omega) (by omega)).symm
  have g0 := g 0 4 (by decide) (by decide)
  have g4 := g 4 2 (by decide) (by decide)
  have g6 := g 6 2 (by decide) (by decide)
  have g8 := g 8 4 (by decide) (by decide)
  have g12 := g 12 2 (by decide) (by decide)
  have g14 := g 14 2 (by decide) (by decide)
  have g16 := g 16 4 (by decide) (by decide)
  have g24 := g 24 8 (by decide) (by decide)
  have g32 := g 32 8 (by decide) (by decide)
  have g32' := g 32 4 (by decide) (by decide)
  have g36 := g 36 4 (by decide) (by decide)
  have g40 := g 40 8 (by decide) (by decide)
  simp only [Int.cast_ofNat_Int, Int.natCast_zero] at g0 g4 g6 g8 g12 g14 g16 g24 g32 g32' g36 g40
  have gs : (q.drop 48).take 16 = (p.drop 48).take 16 := by
    apply List.ext_getElem?
    intro i
    rw [List.getElem?_take, List.getElem?_take]
    split
    · rename_i hi
      rw [List.getElem?_drop, List.getElem?_drop]
      exact (h (48 + i) (by omega) (by omega)).symm
    · rfl
  have hH : getH q 0 = { getH p 0 with next := getV q 20 4 } := by
    simp only [getH, Int.zero_add, g6, g8, g12, g14, g16, g24, g32, g36, g40, show ((48 : Int).toNat) = 48 from rfl, gs]
  have hm : mayB (getH q 0) = mayB (getH p 0) := by rw [hH]; rfl
  have hf : formB q 0 = formB p 0 := by
    unfold formB
    rw [hm]
    simp only [Int.zero_add, g0, g4, g16, g32']
  have ep : formB p 0 = true := by
    unfold gotE at e
    rw [if_neg (by omega), if_neg (by omega)] at e
    split at e
    · assumption
    · cases e
  have eq0 : gotE q 0 = 0 := by
    unfold gotE
    rw [if_neg (by omega), if_neg (by omega), hf, ep]
    rfl
  refine ⟨eq0, ?_⟩
  unfold gotH
  rw [if_pos eq0, if_pos e, hH]

theorem got_len {p : List Int} (e : gotE p 0 = 0) : 64 ≤ p.length := by
  unfold gotE at e
  split at e
  · cases e
  · split at e
    · cases e
    · omega

/-- At a place, or of what stands there. -/
theorem got_drop (b : List Int) (a : Nat) (h : a ≤ b.length) : gotE (b.drop a) 0 = gotE b a ∧ gotH (b.drop a) 0 = gotH b a := by
  have hl : (b.drop a).length = b.length - a := List.length_drop
  by_cases hs : (b.length : Int) - a < 64
  · have e1 : gotE b a = 4 := by unfold gotE; rw [if_neg (by omega), if_pos hs]
    have e2 : gotE (b.drop a) 0 = 4 := by unfold gotE; rw [if_neg (by omega), if_pos (by omega)]
    refine ⟨by rw [e1, e2], ?_⟩
    unfold gotH; rw [e1, e2]; rfl
  · have g : ∀ j k : Nat, j + k ≤ 64 → getV (b.drop a) j k = getV b ((a + j : Nat) : Int) k := fun j k hjk => getV_cong (by omega) (by omega) fun i hi => by rw [List.getElem?_drop, Nat.add_assoc]
    have g0 := g 0 4 (by decide)
    have g4 := g 4 2 (by decide)
    have g6 := g 6 2 (by decide)
    have g8 := g 8 4 (by decide)
    have g12 := g 12 2 (by decide)
    have g14 := g 14 2 (by decide)
    have g16 := g 16 4 (by decide)
    have g20 := g 20 4 (by decide)
    have g24 := g 24 8 (by decide)
    have g32 := g 32 8 (by decide)
    have g32' := g 32 4 (by decide)
    have g36 := g 36 4 (by decide)
    have g40 := g 40 8 (by decide)
    simp only [Int.natCast_add, Int.cast_ofNat_Int, Int.natCast_zero, Int.add_zero] at g0 g4 g6 g8 g12 g14 g16 g20 g24 g32 g32' g36 g40
    have hH : getH (b.drop a) 0 = getH b a := by
      simp only [getH, Int.zero_add, g6, g8, g12, g14, g16, g20, g24, g32, g36, g40, show ((48 : Int).toNat) = 48 from rfl, List.drop_drop, show ((a : Int) + 48).toNat = a + 48 by omega]
    have hf : formB (b.drop a) 0 = formB b a := by
      unfold formB
      rw [hH]
      simp only [Int.zero_add, g0, g4, g16, g32']
    have hE : gotE (b.drop a) 0 = gotE b a := by
      have x1 : gotE (b.drop a) 0 = if formB (b.drop a) 0 then 0 else 5 := by unfold gotE; rw [if_neg (by omega), if_neg (by omega)]
      have x2 : gotE b a = if formB b a then 0 else 5 := by unfold gotE; rw [if_neg (by omega), if_neg (by omega)]
      rw [x1, x2, hf]
    refine ⟨hE, ?_⟩
    unfold gotH
    rw [hE, hH]

end Go.Proofs.YtdhnjmepgafeiaaDoor.Abs
