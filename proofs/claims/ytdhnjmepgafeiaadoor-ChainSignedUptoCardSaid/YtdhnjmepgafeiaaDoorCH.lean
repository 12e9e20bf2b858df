/- Plain facts of the flag of signed parts. -/
import Derived.Test.YtdhnjmepgafeiaaDoorCD
set_option linter.unusedVariables false
set_option linter.unusedSimpArgs false
set_option maxRecDepth 100000
namespace Go.Proofs.YtdhnjmepgafeiaaDoor.Abs
open Go Go.Proofs

theorem partsF_got : ∀ (l : List (List Int)), (∀ b ∈ l, goodB b = true ∧ b.length ≤ 1048576) → ∀ p ∈ partsF l, gotE p 0 = 0
  | [], _, p, hp => by simp [partsF] at hp
  | [b], h, p, hp => by
    simp only [partsF, List.mem_singleton] at hp
    subst hp
    exact (last_got p (h p (by simp)).1).1
  | b :: c :: l, h, p, hp => by
    simp only [partsF, List.mem_cons] at hp
    rcases hp with rfl | hp
    · obtain ⟨h1, h2⟩ := h b (by simp)
      have := (part_got b [] h1 (by omega)).1
      rw [List.append_nil] at this
      exact this
    · exact partsF_got (c :: l) (fun x hx => h x (by simp [hx])) p (by simpa [partsF] using hp)

/-- Whether a part bears the flag of signed parts. -/
def sgB (p : List Int) : Bool := p[16]?.getD 0 / 8 % 2 == 1

theorem byte_at {p : List Int} (hB : Bytes p) (i : Nat) : 0 ≤ p[i]?.getD 0 ∧ p[i]?.getD 0 < 256 := by
  cases e : p[i]? with
  | none => simp
  | some x => exact hB x (List.mem_of_getElem? e)

theorem getV_16 {p : List Int} (h : 64 ≤ p.length) : getV p 16 4 = p[16]?.getD 0 + 256 * (p[17]?.getD 0 + 256 * (p[18]?.getD 0 + 256 * (p[19]?.getD 0))) := by
  have e : getV p 16 4 = getV (p.drop 16 |>.take 4) 0 4 := by
    have := getV_cong (p := p) (q := (p.drop 16).take 4) (j := 16) (m := 0) (k := 4) (by omega) (by simp; omega) (fun i hi => by
      rw [Nat.zero_add, List.getElem?_take, if_pos hi, List.getElem?_drop])
    exact this
  have d : (p.drop 16).take 4 = [p[16]?.getD 0, p[17]?.getD 0, p[18]?.getD 0, p[19]?.getD 0] := by
    apply List.ext_getElem?
    intro i
    rw [List.getElem?_take, List.getElem?_drop]
    have g : ∀ j, j < p.length → p[j]? = some (p[j]?.getD 0) := fun j hj => by rw [List.getElem?_eq_getElem hj]; rfl
    have : i = 0 ∨ i = 1 ∨ i = 2 ∨ i = 3 ∨ 4 ≤ i := by omega
    rcases this with rfl | rfl | rfl | rfl | h4
    · simpa using g 16 (by omega)
    · simpa using g 17 (by omega)
    · simpa using g 18 (by omega)
    · simpa using g 19 (by omega)
    · rw [if_neg (by omega), List.getElem?_eq_none (by simp; omega)]
  rw [e, d]
  have : getE ([p[16]?.getD 0, p[17]?.getD 0, p[18]?.getD 0, p[19]?.getD 0] : List Int).length 0 4 = 0 := by simp only [List.length_cons, List.length_nil]; decide
  unfold getV
  rw [if_pos this]
  have c0 : cutE ([p[16]?.getD 0, p[17]?.getD 0, p[18]?.getD 0, p[19]?.getD 0] : List Int).length 0 4 = 0 := by simp only [List.length_cons, List.length_nil]; decide
  unfold cutL
  rw [if_pos c0]
  simp only [Int.toNat_zero, List.drop_zero, show Int.toNat 4 = 4 from rfl, List.take_succ_cons, List.take_zero, val]
  omega

theorem flags_16 {p : List Int} (hB : Bytes p) (e : gotE p 0 = 0) : ((gotH p 0).flags / 8 % 2 == 1) = sgB p := by
  have h := got_len e
  have h1 : (gotH p 0).flags = getV p 16 4 := by unfold gotH; rw [if_pos e]; rfl
  have b0 := byte_at hB 16
  have b1 := byte_at hB 17
  have b2 := byte_at hB 18
  have b3 := byte_at hB 19
  rw [h1, getV_16 h]
  unfold sgB
  have : (p[16]?.getD 0 + 256 * (p[17]?.getD 0 + 256 * (p[18]?.getD 0 + 256 * (p[19]?.getD 0)))) / 8 % 2 = p[16]?.getD 0 / 8 % 2 := by omega
  rw [this]

theorem or8_eq {x : Int} (h0 : 0 ≤ x) (h : x < 256) : or8 x = if x / 8 % 2 == 1 then x else IntKind.u8.wrap (x + 8) := by
  obtain ⟨n, rfl⟩ : ∃ n : Nat, x = n := ⟨x.toNat, by omega⟩
  have hn : n < 256 := by omega
  have : ∀ n : Fin 256, or8 ((n : Nat) : Int) = if ((n : Nat) : Int) / 8 % 2 == 1 then ((n : Nat) : Int) else IntKind.u8.wrap (((n : Nat) : Int) + 8) := by decide +kernel
  exact this ⟨n, hn⟩

theorem orF_flag {p : List Int} (hB : Bytes p) (h : 64 ≤ p.length) (hs : sgB p = true) : orF p = p := by
  have b0 := byte_at hB 16
  unfold orF
  have hs' : (p[16]?.getD 0 / 8 % 2 == 1) = true := hs
  rw [or8_eq b0.1 b0.2, if_pos hs']
  apply List.ext_getElem?
  intro i
  rw [List.getElem?_set]
  split
  · rename_i e; subst e
    rw [if_pos (by omega), List.getElem?_eq_getElem (by omega)]; rfl
  · rfl

theorem orF_none {p : List Int} (hB : Bytes p) (hs : sgB p = false) : p.set 16 (IntKind.u8.wrap (p[16]?.getD 0 + 8)) = orF p := by
  have b0 := byte_at hB 16
  unfold orF
  have hs' : (p[16]?.getD 0 / 8 % 2 == 1) = false := hs
  rw [or8_eq b0.1 b0.2, hs']; rfl

end Go.Proofs.YtdhnjmepgafeiaaDoor.Abs
