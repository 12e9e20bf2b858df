/- PLAIN LAWS for numbers as bytes. -/
import Derived.Test.YtbnjdnahpnjofaaB5
set_option linter.unusedVariables false
namespace Go.Proofs.Ytbnjdnahpnjofaa.Abs
open Go

/-- Slots, of which some are told. -/
def tl (n : Nat) : Nat → List (Nat × SV) → List SV
  | i, [] => List.replicate (n - i) .any
  | i, (p, x) :: r => List.replicate (p - i) .any ++ x :: tl n (p + 1) r

theorem w64 {x : Int} (h0 : -9223372036854775808 ≤ x) (h1 : x ≤ 9223372036854775807) : IntKind.i64.wrap x = x := by
  rw [IntKind.wrap_i64]; omega

/-- Is it a size? -/
def szB (n : Int) : Bool := n == 1 || n == 2 || n == 4 || n == 8

/-- What cutting bytes at a place answers. -/
def cutE (len : Nat) (at_ n : Int) : Int := if at_ < 0 ∨ (len : Int) < at_ ∨ n < 0 then 2 else if (len : Int) - at_ < n then 4 else 0
def cutL (b : List Int) (at_ n : Int) : List Int := if cutE b.length at_ n = 0 then (b.drop at_.toNat).take n.toNat else []

theorem cutE_zero {len : Nat} {at_ n : Int} (h : cutE len at_ n = 0) : 0 ≤ at_ ∧ at_ ≤ len ∧ 0 ≤ n ∧ n ≤ (len : Int) - at_ := by
  unfold cutE at h
  split at h
  · simp at h
  · split at h
    · simp at h
    · omega

theorem cutL_length (b : List Int) (at_ n : Int) : (cutL b at_ n).length ≤ b.length := by
  unfold cutL; split
  · simp; omega
  · simp

theorem cutL_length_eq {b : List Int} {at_ n : Int} (h : cutE b.length at_ n = 0) : ((cutL b at_ n).length : Int) = n := by
  have := cutE_zero h
  unfold cutL; rw [if_pos h]
  simp; omega

/-- Bytes, as a number, the lowest first. -/
def val : List Int → Int
  | [] => 0
  | c :: l => c + 256 * val l

def Bytes (l : List Int) : Prop := ∀ x ∈ l, 0 ≤ x ∧ x < 256

theorem Bytes.drop {l : List Int} (h : Bytes l) (n : Nat) : Bytes (l.drop n) := fun x hx => h x (List.mem_of_mem_drop hx)
theorem Bytes.take {l : List Int} (h : Bytes l) (n : Nat) : Bytes (l.take n) := fun x hx => h x (List.mem_of_mem_take hx)
theorem Bytes.cut {l : List Int} (h : Bytes l) (at_ n : Int) : Bytes (cutL l at_ n) := by
  unfold cutL; split
  · exact (h.drop _).take _
  · intro x hx; simp at hx
theorem Bytes.app {l m : List Int} (h : Bytes l) (k : Bytes m) : Bytes (l ++ m) := fun x hx => (List.mem_append.1 hx).elim (h x) (k x)
theorem Bytes.getD {l : List Int} (h : Bytes l) (i : Nat) : 0 ≤ l.getD i 0 ∧ l.getD i 0 < 256 := by
  by_cases hi : i < l.length
  · have : l.getD i 0 = l[i] := by simp [List.getD, hi]
    rw [this]; exact h _ (List.getElem_mem hi)
  · have : l.getD i 0 = 0 := by simp [List.getD, List.getElem?_eq_none (Nat.le_of_not_lt hi)]
    rw [this]; omega

/-- The bytes of a number, so many. -/
def digs : Nat → Int → List Int
  | 0, _ => []
  | k + 1, n => n % 256 :: digs k (n / 256)

theorem digs_length (k : Nat) (n : Int) : (digs k n).length = k := by
  induction k generalizing n with
  | zero => rfl
  | succ k ih => simp [digs, ih]

theorem digs_bytes (k : Nat) (n : Int) : Bytes (digs k n) := by
  induction k generalizing n with
  | zero => intro x hx; simp [digs] at hx
  | succ k ih =>
    intro x hx
    rcases List.mem_cons.1 hx with rfl | hx
    · omega
    · exact ih _ x hx

theorem val_bounds {l : List Int} (h : Bytes l) : 0 ≤ val l ∧ val l < 256 ^ l.length := by
  induction l with
  | nil => simp [val]
  | cons c l ih =>
    have hc := h c (by simp)
    have hl := ih (fun x hx => h x (by simp [hx]))
    simp only [val, List.length_cons, Int.pow_succ]
    omega

theorem val_snoc (l : List Int) (c : Int) : val (l ++ [c]) = val l + c * 256 ^ l.length := by
  induction l with
  | nil => simp [val]
  | cons d l ih =>
    simp only [List.cons_append, val, ih, List.length_cons, Int.pow_succ, Int.mul_add]
    rw [Int.mul_comm (256 ^ l.length) 256, ← Int.mul_assoc c, Int.mul_comm c 256, Int.mul_assoc]
    omega

theorem digs_val {l : List Int} (h : Bytes l) : digs l.length (val l) = l := by
  induction l with
  | nil => rfl
  | cons c l ih =>
    have hc := h c (by simp)
    simp only [List.length_cons, digs, val]
    rw [show (c + 256 * val l) % 256 = c by omega, show (c + 256 * val l) / 256 = val l by omega, ih (fun x hx => h x (by simp [hx]))]

theorem val_digs (k : Nat) (n : Int) (h0 : 0 ≤ n) (h : n < 256 ^ k) : val (digs k n) = n := by
  induction k generalizing n with
  | zero => simp [digs, val] at h ⊢; omega
  | succ k ih =>
    simp only [digs, val]
    rw [ih (n / 256) (by omega) (by rw [Int.pow_succ] at h; omega)]
    omega

theorem digs_snoc (k : Nat) (n : Int) : digs (k + 1) n = digs k n ++ [n / 256 ^ k % 256] := by
  induction k generalizing n with
  | zero => simp [digs]
  | succ k ih =>
    rw [digs, ih (n / 256)]
    simp only [digs, List.cons_append]
    rw [Int.ediv_ediv_of_nonneg (by omega), Int.pow_succ, Int.mul_comm (256 ^ k) 256]

/-- What putting a number in so many bytes answers. -/
def putE (n size : Int) : Int := if szB size = true ∧ n < 256 ^ size.toNat then 0 else 2
def putL (n size : Int) : List Int := if putE n size = 0 then digs size.toNat n else []

theorem szB_cases {n : Int} (h : szB n = true) : n = 1 ∨ n = 2 ∨ n = 4 ∨ n = 8 := by
  simp only [szB, Bool.or_eq_true, beq_iff_eq] at h; omega

theorem wu8 (x : Int) : IntKind.u8.wrap x = x % 256 := by rw [IntKind.wrap_u8]
theorem wu64 {x : Int} (h0 : 0 ≤ x) (h : x < 18446744073709551616) : IntKind.u64.wrap x = x := by rw [IntKind.wrap_u64]; omega

theorem fdiv_pow (n : Int) (i : Nat) : n.fdiv (2 ^ (8 * i)) = n / 256 ^ i := by
  rw [Int.pow_mul, Int.fdiv_eq_ediv_of_nonneg _ (Int.le_of_lt (Int.pow_pos (by decide)))]
  rfl

theorem shr_bytes (n : Int) (k : Nat) (hk : k ≤ 8) : shrI .u64 n (8 * (k : Int)) = n / 256 ^ k := by
  unfold shrI
  rw [show min (8 * (k : Int)).toNat IntKind.u64.bits = 8 * k by
    have : IntKind.u64.bits = 64 := rfl
    omega, fdiv_pow]

theorem div_zero_iff {n d : Int} (h0 : 0 ≤ n) (hk : 0 < d) : n / d = 0 ↔ n < d :=
  ⟨fun h => by have := Int.lt_ediv_add_one_mul_self n hk; rw [h] at this; simpa using this, fun h => Int.ediv_eq_zero_of_lt h0 h⟩

theorem set_digs {n : Int} {i k : Nat} (h : i < k) : (digs i n ++ List.replicate (k - i) 0).set i (n / 256 ^ i % 256) = digs (i + 1) n ++ List.replicate (k - (i + 1)) 0 := by
  obtain ⟨r, hr⟩ : ∃ r, k - i = r + 1 := ⟨k - i - 1, by omega⟩
  rw [hr, show k - (i + 1) = r by omega, digs_snoc, List.replicate_succ, List.set_append_right _ _ (by rw [digs_length]; exact Nat.le_refl _), digs_length]
  simp

theorem rem_byte {n : Int} (h0 : 0 ≤ n) : remI n 256 = n % 256 := by unfold remI; exact Int.tmod_eq_emod_of_nonneg h0
theorem quo_byte {n : Int} (h0 : 0 ≤ n) (hn : n < 18446744073709551616) : quoI .u64 n 256 = n / 256 := by
  unfold quoI
  rw [Int.tdiv_eq_ediv_of_nonneg h0, wu64 (by omega) (by omega)]
theorem mod_byte (n : Int) : n % 256 % 256 = n % 256 := by omega
theorem pow_byte (n : Int) (i : Nat) : n / 256 ^ i / 256 = n / 256 ^ (i + 1) := by
  rw [Int.ediv_ediv_of_nonneg (Int.le_of_lt (Int.pow_pos (by decide))), Int.pow_succ]
theorem div_lt {n b : Int} (h0 : 0 ≤ n) (hn : n < b) (i : Nat) : 0 ≤ n / 256 ^ i ∧ n / 256 ^ i < b := by
  have hk : 0 < (256 : Int) ^ i := Int.pow_pos (by decide)
  refine ⟨Int.ediv_nonneg h0 (Int.le_of_lt hk), Int.lt_of_le_of_lt (Int.ediv_le_self _ h0) hn⟩

def getE (len : Nat) (at_ n : Int) : Int := if szB n = true then cutE len at_ n else 2
def getV (b : List Int) (at_ n : Int) : Int := if getE b.length at_ n = 0 then val (cutL b at_ n) else 0

theorem ofInt_toNat {a : Int} (h0 : 0 ≤ a) (h : a < 18446744073709551616) : (BitVec.ofInt 64 a).toNat = a.toNat := by
  rw [BitVec.toNat_ofInt, show ((2 ^ 64 : Nat) : Int) = 18446744073709551616 from rfl, Int.emod_eq_of_lt h0 h]

theorem or_bytes {a c : Int} {i : Nat} (h0 : 0 ≤ a) (h : a < 256 ^ i) (c0 : 0 ≤ c) (hc : c < 256) (hi : i < 8) :
    bitsI .or .u64 a (shlI .u64 (IntKind.u64.wrap c) (8 * (i : Int))) = a + c * 256 ^ i := by
  have hp : (256 : Int) ^ i * 256 ≤ 18446744073709551616 := by
    have : i = 0 ∨ i = 1 ∨ i = 2 ∨ i = 3 ∨ i = 4 ∨ i = 5 ∨ i = 6 ∨ i = 7 := by omega
    rcases this with rfl | rfl | rfl | rfl | rfl | rfl | rfl | rfl <;> decide +kernel
  have hk : 0 < (256 : Int) ^ i := Int.pow_pos (by decide)
  have hcm : c * 256 ^ i ≤ 255 * 256 ^ i := Int.mul_le_mul_of_nonneg_right (by omega) (by omega)
  have hcm0 : 0 ≤ c * 256 ^ i := Int.mul_nonneg c0 (by omega)
  have e0 : IntKind.u64.wrap c = c := wu64 c0 (by omega)
  have e1 : shlI .u64 c (8 * (i : Int)) = c * 256 ^ i := by
    unfold shlI
    rw [show min (8 * (i : Int)).toNat IntKind.u64.bits = 8 * i by
      have : IntKind.u64.bits = 64 := rfl
      omega, Int.pow_mul]
    exact wu64 hcm0 (by simp only [show ((2 : Int) ^ 8) = 256 from rfl]; omega)
  rw [e0, e1]
  unfold bitsI
  have e2 : (BitVec.ofInt IntKind.u64.bits a ||| BitVec.ofInt IntKind.u64.bits (c * 256 ^ i)).toNat = (a + c * 256 ^ i).toNat := by
    rw [BitVec.toNat_or]
    have : IntKind.u64.bits = 64 := rfl
    rw [this, ofInt_toNat h0 (by omega), ofInt_toNat hcm0 (by omega)]
    obtain ⟨x, rfl⟩ := Int.eq_ofNat_of_zero_le h0
    obtain ⟨y, rfl⟩ := Int.eq_ofNat_of_zero_le c0
    have h2 : x < 2 ^ (8 * i) := by
      rw [Nat.pow_mul]
      have : ((x : Nat) : Int) < ((256 ^ i : Nat) : Int) := by simpa using h
      exact_mod_cast this
    have e3 : ((y : Int) * 256 ^ i).toNat = 2 ^ (8 * i) * y := by
      rw [Nat.pow_mul, Nat.mul_comm]
      have : ((y : Int) * 256 ^ i) = ((y * 256 ^ i : Nat) : Int) := by rw [Int.natCast_mul, Int.natCast_pow]; rfl
      rw [this]; rfl
    have e4 : ((x : Int) + (y : Int) * 256 ^ i).toNat = 2 ^ (8 * i) * y + x := by
      rw [Nat.pow_mul, Nat.mul_comm]
      have : ((x : Int) + (y : Int) * 256 ^ i) = ((y * 256 ^ i + x : Nat) : Int) := by rw [Int.natCast_add, Int.natCast_mul, Int.natCast_pow, Int.add_comm]; rfl
      rw [this]; rfl
    rw [e3, e4, Nat.two_pow_add_eq_or_of_lt h2, Nat.or_comm]
    rfl
  simp only [e2]
  rw [Int.toNat_of_nonneg (by omega)]
  exact wu64 (by omega) (by omega)

/-- Are the bytes of a part all 0? -/
def zeroB (b : List Int) (at_ n : Int) : Bool := cutE b.length at_ n == 0 && (cutL b at_ n).all (· == 0)

def orAll (l : List Int) : Int := l.foldl (fun a c => bitsI .or .u8 a c) 0

theorem or_u8 {a c : Int} (h0 : 0 ≤ a) (h : a < 256) (c0 : 0 ≤ c) (hc : c < 256) : 0 ≤ bitsI .or .u8 a c ∧ bitsI .or .u8 a c < 256 ∧ (bitsI .or .u8 a c = 0 ↔ a = 0 ∧ c = 0) := by
  have e : bitsI .or .u8 a c = ((BitVec.ofInt 8 a ||| BitVec.ofInt 8 c).toNat : Int) := by
    show IntKind.u8.wrap ((BitVec.ofInt 8 a ||| BitVec.ofInt 8 c).toNat : Int) = _
    rw [wu8]
    have := (BitVec.ofInt 8 a ||| BitVec.ofInt 8 c).isLt
    omega
  have lt := (BitVec.ofInt 8 a ||| BitVec.ofInt 8 c).isLt
  have z : ∀ {x : Int}, 0 ≤ x → x < 256 → (BitVec.ofInt 8 x = 0#8 ↔ x = 0) := by
    intro x hx0 hx
    constructor
    · intro hh
      have h1 := congrArg BitVec.toNat hh
      rw [BitVec.toNat_ofInt] at h1
      have h2 : ((0#8 : BitVec 8).toNat) = 0 := rfl
      have h3 : ((2 ^ 8 : Nat) : Int) = 256 := rfl
      rw [h2, h3, Int.emod_eq_of_lt hx0 hx] at h1
      omega
    · rintro rfl; rfl
  refine ⟨by omega, by omega, ?_⟩
  rw [← z h0 h, ← z c0 hc, ← BitVec.or_eq_zero_iff, e]
  constructor
  · intro hh
    apply BitVec.eq_of_toNat_eq
    have : ((0#8 : BitVec 8).toNat) = 0 := rfl
    omega
  · intro hh; rw [hh]; rfl

theorem orAll_bounds {l : List Int} (h : Bytes l) : 0 ≤ orAll l ∧ orAll l < 256 ∧ (orAll l = 0 ↔ ∀ x ∈ l, x = 0) := by
  have key : ∀ (l : List Int) (a : Int), Bytes l → 0 ≤ a → a < 256 → 0 ≤ l.foldl (fun a c => bitsI .or .u8 a c) a ∧ l.foldl (fun a c => bitsI .or .u8 a c) a < 256 ∧ (l.foldl (fun a c => bitsI .or .u8 a c) a = 0 ↔ a = 0 ∧ ∀ x ∈ l, x = 0) := by
    intro l
    induction l with
    | nil => intro a _ h0 h1; exact ⟨h0, h1, by simp⟩
    | cons c l ih =>
      intro a hb h0 h1
      have hc := hb c (by simp)
      have ho := or_u8 h0 h1 hc.1 hc.2
      obtain ⟨i1, i2, i3⟩ := ih (bitsI .or .u8 a c) (fun x hx => hb x (by simp [hx])) ho.1 ho.2.1
      refine ⟨i1, i2, ?_⟩
      rw [List.foldl_cons, i3, ho.2.2]
      simp [and_assoc]
  have := key l 0 h (by omega) (by omega)
  simpa [orAll] using this

theorem orAll_snoc (l : List Int) (c : Int) : orAll (l ++ [c]) = bitsI .or .u8 (orAll l) c := by simp [orAll]

/-- Padded to a multiple of 8. -/
def padN (n : Nat) : Nat := (n + 7) / 8 * 8
def padL (b : List Int) : List Int := b ++ List.replicate (padN b.length - b.length) 0

theorem padN_le (n : Nat) : n ≤ padN n ∧ padN n < n + 8 ∧ padN n % 8 = 0 := by unfold padN; omega
theorem padL_length (b : List Int) : (padL b).length = padN b.length := by
  have := padN_le b.length
  simp [padL]; omega

theorem andNot7 {x : Int} (h0 : 0 ≤ x) (h : x < 9223372036854775808) : bitsI .andNot .i64 x 7 = x / 8 * 8 := by
  have e : (BitVec.ofInt 64 x &&& ~~~ BitVec.ofInt 64 7) = (BitVec.ofInt 64 x >>> 3) <<< 3 := by
    apply BitVec.eq_of_getLsbD_eq
    intro i hi
    have h7 : (BitVec.ofInt 64 7).getLsbD i = decide (i < 3) := by
      have : (BitVec.ofInt 64 7) = BitVec.ofNat 64 (2 ^ 3 - 1) := rfl
      rw [this, BitVec.getLsbD_ofNat, Nat.testBit_two_pow_sub_one]
      simp [hi]
    rw [BitVec.getLsbD_and, BitVec.getLsbD_not, h7, BitVec.getLsbD_shiftLeft, BitVec.getLsbD_ushiftRight]
    by_cases hl : i < 3
    · simp [hl, hi]
    · simp [hl, hi, show 3 + (i - 3) = i by omega]
  have e2 : bitsI .andNot .i64 x 7 = IntKind.i64.wrap ((BitVec.ofInt 64 x &&& ~~~ BitVec.ofInt 64 7).toNat : Int) := rfl
  rw [e2, e, BitVec.toNat_shiftLeft, BitVec.toNat_ushiftRight, ofInt_toNat h0 (by omega), Nat.shiftLeft_eq, Nat.shiftRight_eq_div_pow]
  have h3 : (2 : Nat) ^ 3 = 8 := rfl
  have h4 : (2 : Nat) ^ 64 = 18446744073709551616 := rfl
  rw [h3, h4, Nat.mod_eq_of_lt (by omega), w64 (by omega) (by omega)]
  omega

theorem cutE_ok {len : Nat} {at_ n : Int} (h0 : 0 ≤ at_) (h1 : 0 ≤ n) (h2 : at_ + n ≤ len) : cutE len at_ n = 0 := by
  unfold cutE; rw [if_neg (by omega), if_neg (by omega)]

theorem cutL_ok {b : List Int} {at_ n : Int} (h0 : 0 ≤ at_) (h1 : 0 ≤ n) (h2 : at_ + n ≤ b.length) : cutL b at_ n = (b.drop at_.toNat).take n.toNat := by
  unfold cutL; rw [if_pos (cutE_ok h0 h1 h2)]

theorem take_padL (b : List Int) : (padL b).take b.length = b := by simp [padL]

theorem zeroB_padL (b : List Int) : zeroB (padL b) b.length ((padL b).length - b.length) = true := by
  have hl := padL_length b
  have hp := padN_le b.length
  have h2 : (b.length : Int) + ((padL b).length - b.length) ≤ (padL b).length := by omega
  unfold zeroB
  rw [cutE_ok (by omega) (by omega) h2, cutL_ok (by omega) (by omega) h2]
  simp only [beq_self_eq_true, Bool.true_and, List.all_eq_true, beq_iff_eq]
  intro x hx
  have hx' := List.mem_of_mem_take hx
  rw [Int.toNat_natCast] at hx'
  simp [padL] at hx'
  exact hx'.2

theorem padL_padL (b : List Int) : padL (padL b) = padL b := by
  have hl := padL_length b
  have hp := padN_le b.length
  have e : padN (padL b).length = (padL b).length := by rw [hl]; unfold padN at *; omega
  show padL b ++ List.replicate (padN (padL b).length - (padL b).length) 0 = padL b
  rw [e]; simp

/-- A number of a size's bytes, and its bytes. -/
theorem putL_val {l : List Int} (h : Bytes l) (hs : szB l.length = true) : putE (val l) l.length = 0 ∧ putL (val l) l.length = l := by
  have hv := val_bounds h
  have e : putE (val l) l.length = 0 := by unfold putE; rw [if_pos ⟨hs, by simpa using hv.2⟩]
  refine ⟨e, ?_⟩
  unfold putL; rw [if_pos e, Int.toNat_natCast, digs_val h]

theorem val_u64 {l : List Int} (h : Bytes l) (hl : l.length ≤ 8) : 0 ≤ val l ∧ val l < 18446744073709551616 := by
  have hv := val_bounds h
  have hp : (256 : Int) ^ l.length ≤ 18446744073709551616 := by
    have : l.length = 0 ∨ l.length = 1 ∨ l.length = 2 ∨ l.length = 3 ∨ l.length = 4 ∨ l.length = 5 ∨ l.length = 6 ∨ l.length = 7 ∨ l.length = 8 := by omega
    rcases this with h | h | h | h | h | h | h | h | h <;> rw [h] <;> decide +kernel
  omega

theorem szB_of {k : Int} (h : k = 1 ∨ k = 2 ∨ k = 4 ∨ k = 8) : szB k = true := by
  rcases h with rfl | rfl | rfl | rfl <;> rfl

theorem cut_split {b : List Int} {at_ n m : Int} (h : cutE b.length at_ n = 0) (hm : 0 ≤ m) : cutE b.length (at_ + n) m = cutE b.length at_ (n + m) ∧
    (cutE b.length (at_ + n) m = 0 → cutL b at_ (n + m) = cutL b at_ n ++ cutL b (at_ + n) m) := by
  have h0 := cutE_zero h
  constructor
  · have e1 : cutE b.length (at_ + n) m = if (b.length : Int) - (at_ + n) < m then 4 else 0 := by unfold cutE; rw [if_neg (by omega)]
    have e2 : cutE b.length at_ (n + m) = if (b.length : Int) - at_ < n + m then 4 else 0 := by unfold cutE; rw [if_neg (by omega)]
    rw [e1, e2]
    by_cases h1 : (b.length : Int) - (at_ + n) < m
    · rw [if_pos h1, if_pos (by omega)]
    · rw [if_neg h1, if_neg (by omega)]
  · intro h2
    have h3 := cutE_zero h2
    rw [cutL_ok (by omega) (by omega) (by omega), cutL_ok (by omega) (by omega) (by omega), cutL_ok (by omega) (by omega) (by omega)]
    rw [show (n + m).toNat = n.toNat + m.toNat by omega, List.take_add, List.drop_drop, show (at_ + n).toNat = at_.toNat + n.toNat by omega]

theorem zeroB_split {b : List Int} {at_ n m : Int} (h : cutE b.length at_ n = 0) (hm : 0 ≤ m) (h2 : cutE b.length (at_ + n) m = 0) : zeroB b at_ (n + m) = (zeroB b at_ n && zeroB b (at_ + n) m) := by
  obtain ⟨e1, e2⟩ := cut_split h hm
  unfold zeroB
  rw [e2 h2, ← e1, h, h2, List.all_append]
  simp

end Go.Proofs.Ytbnjdnahpnjofaa.Abs
