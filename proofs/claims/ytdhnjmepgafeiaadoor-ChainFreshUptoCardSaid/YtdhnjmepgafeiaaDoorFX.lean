/- Joined: E0 F1 F2 F3 F4 F7 F13 W0. -/
import Derived.Test.YtdhnjmepgafeiaaDoorB5
import Derived.Test.YtdhnjmepgafeiaaDoorT
/- PLAIN LAWS for numbers as bytes. -/
set_option linter.unusedVariables false
namespace Go.Proofs.YtdhnjmepgafeiaaDoor.Abs
open Go

/-- Slots, of which some are told. -/
def tl (n : Nat) : Nat → List (Nat × SV) → List SV
  | i, [] => List.replicate (n - i) .any
  | i, (p, x) :: r => List.replicate (p - i) .any ++ x :: tl n (p + 1) r

theorem w64 {x : Int} (h0 : -9223372036854775808 ≤ x) (h1 : x ≤ 9223372036854775807) : IntKind.i64.wrap x = x := by
  rw [IntKind.wrap_i64]; omega

/-- Is it a size? -/
def szB (n : Int) : Bool := n == 1 || n == 2 || n == 4 || n == 8

/-- What cutting bytes at a place answers. -/
def cutE (len : Nat) (at_ n : Int) : Int := if at_ < 0 ∨ (len : Int) < at_ ∨ n < 0 then 2 else if (len : Int) - at_ < n then 4 else 0
def cutL (b : List Int) (at_ n : Int) : List Int := if cutE b.length at_ n = 0 then (b.drop at_.toNat).take n.toNat else []

theorem cutE_zero {len : Nat} {at_ n : Int} (h : cutE len at_ n = 0) : 0 ≤ at_ ∧ at_ ≤ len ∧ 0 ≤ n ∧ n ≤ (len : Int) - at_ := by
  unfold cutE at h
  split at h
  · simp at h
  · split at h
    · simp at h
    · omega

theorem cutL_length (b : List Int) (at_ n : Int) : (cutL b at_ n).length ≤ b.length := by
  unfold cutL; split
  · simp; omega
  · simp

theorem cutL_length_eq {b : List Int} {at_ n : Int} (h : cutE b.length at_ n = 0) : ((cutL b at_ n).length : Int) = n := by
  have := cutE_zero h
  unfold cutL; rw [if_pos h]
  simp; omega

/-- Bytes, as a number, the lowest first. -/
def val : List Int → Int
  | [] => 0
  | c :: l => c + 256 * val l

def Bytes (l : List Int) : Prop := ∀ x ∈ l, 0 ≤ x ∧ x < 256

theorem Bytes.drop {l : List Int} (h : Bytes l) (n : Nat) : Bytes (l.drop n) := fun x hx => h x (List.mem_of_mem_drop hx)
theorem Bytes.take {l : List Int} (h : Bytes l) (n : Nat) : Bytes (l.take n) := fun x hx => h x (List.mem_of_mem_take hx)
theorem Bytes.cut {l : List Int} (h : Bytes l) (at_ n : Int) : Bytes (cutL l at_ n) := by
  unfold cutL; split
  · exact (h.drop _).take _
  · intro x hx; simp at hx
theorem Bytes.app {l m : List Int} (h : Bytes l) (k : Bytes m) : Bytes (l ++ m) := fun x hx => (List.mem_append.1 hx).elim (h x) (k x)
theorem Bytes.getD {l : List Int} (h : Bytes l) (i : Nat) : 0 ≤ l.getD i 0 ∧ l.getD i 0 < 256 := by
  by_cases hi : i < l.length
  · have : l.getD i 0 = l[i] := by simp [List.getD, hi]
    rw [this]; exact h _ (List.getElem_mem hi)
  · have : l.getD i 0 = 0 := by simp [List.getD, List.getElem?_eq_none (Nat.le_of_not_lt hi)]
    rw [this]; omega

/-- The bytes of a number, so many. -/
def digs : Nat → Int → List Int
  | 0, _ => []
  | k + 1, n => n % 256 :: digs k (n / 256)

theorem digs_length (k : Nat) (n : Int) : (digs k n).length = k := by
  induction k generalizing n with
  | zero => rfl
  | succ k ih => simp [digs, ih]

theorem digs_bytes (k : Nat) (n : Int) : Bytes (digs k n) := by
  induction k generalizing n with
  | zero => intro x hx; simp [digs] at hx
  | succ k ih =>
    intro x hx
    rcases List.mem_cons.1 hx with rfl | hx
    · omega
    · exact ih _ x hx

theorem val_bounds {l : List Int} (h : Bytes l) : 0 ≤ val l ∧ val l < 256 ^ l.length := by
  induction l with
  | nil => simp [val]
  | cons c l ih =>
    have hc := h c (by simp)
    have hl := ih (fun x hx => h x (by simp [hx]))
    simp only [val, List.length_cons, Int.pow_succ]
    omega

theorem val_snoc (l : List Int) (c : Int) : val (l ++ [c]) = val l + c * 256 ^ l.length := by
  induction l with
  | nil => simp [val]
  | cons d l ih =>
    simp only [List.cons_append, val, ih, List.length_cons, Int.pow_succ, Int.mul_add]
    rw [Int.mul_comm (256 ^ l.length) 256, ← Int.mul_assoc c, Int.mul_comm c 256, Int.mul_assoc]
    omega

theorem digs_val {l : List Int} (h : Bytes l) : digs l.length (val l) = l := by
  induction l with
  | nil => rfl
  | cons c l ih =>
    have hc := h c (by simp)
    simp only [List.length_cons, digs, val]
    rw [show (c + 256 * val l) % 256 = c by omega, show (c + 256 * val l) / 256 = val l by omega, ih (fun x hx => h x (by simp [hx]))]

theorem val_digs (k : Nat) (n : Int) (h0 : 0 ≤ n) (h : n < 256 ^ k) : val (digs k n) = n := by
  induction k generalizing n with
  | zero => simp [digs, val] at h ⊢; omega
  | succ k ih =>
    simp only [digs, val]
    rw [ih (n / 256) (by omega) (by rw [Int.pow_succ] at h; omega)]
    omega

theorem digs_snoc (k : Nat) (n : Int) : digs (k + 1) n = digs k n ++ [n / 256 ^ k % 256] := by
  induction k generalizing n with
  | zero => simp [digs]
  | succ k ih =>
    rw [digs, ih (n / 256)]
    simp only [digs, List.cons_append]
    rw [Int.ediv_ediv_of_nonneg (by omega), Int.pow_succ, Int.mul_comm (256 ^ k) 256]

/-- What putting a number in so many bytes answers. -/
def putE (n size : Int) : Int := if szB size = true ∧ n < 256 ^ size.toNat then 0 else 2
def putL (n size : Int) : List Int := if putE n size = 0 then digs size.toNat n else []

theorem szB_cases {n : Int} (h : szB n = true) : n = 1 ∨ n = 2 ∨ n = 4 ∨ n = 8 := by
  simp only [szB, Bool.or_eq_true, beq_iff_eq] at h; omega

theorem wu8 (x : Int) : IntKind.u8.wrap x = x % 256 := by rw [IntKind.wrap_u8]
theorem wu64 {x : Int} (h0 : 0 ≤ x) (h : x < 18446744073709551616) : IntKind.u64.wrap x = x := by rw [IntKind.wrap_u64]; omega

theorem fdiv_pow (n : Int) (i : Nat) : n.fdiv (2 ^ (8 * i)) = n / 256 ^ i := by
  rw [Int.pow_mul, Int.fdiv_eq_ediv_of_nonneg _ (Int.le_of_lt (Int.pow_pos (by decide)))]
  rfl

theorem shr_bytes (n : Int) (k : Nat) (hk : k ≤ 8) : shrI .u64 n (8 * (k : Int)) = n / 256 ^ k := by
  unfold shrI
  rw [show min (8 * (k : Int)).toNat IntKind.u64.bits = 8 * k by
    have : IntKind.u64.bits = 64 := rfl
    omega, fdiv_pow]

theorem div_zero_iff {n d : Int} (h0 : 0 ≤ n) (hk : 0 < d) : n / d = 0 ↔ n < d :=
  ⟨fun h => by have := Int.lt_ediv_add_one_mul_self n hk; rw [h] at this; simpa using this, fun h => Int.ediv_eq_zero_of_lt h0 h⟩

theorem set_digs {n : Int} {i k : Nat} (h : i < k) : (digs i n ++ List.replicate (k - i) 0).set i (n / 256 ^ i % 256) = digs (i + 1) n ++ List.replicate (k - (i + 1)) 0 := by
  obtain ⟨r, hr⟩ : ∃ r, k - i = r + 1 := ⟨k - i - 1, by omega⟩
  rw [hr, show k - (i + 1) = r by omega, digs_snoc, List.replicate_succ, List.set_append_right _ _ (by rw [digs_length]; exact Nat.le_refl _), digs_length]
  simp

theorem rem_byte {n : Int} (h0 : 0 ≤ n) : remI n 256 = n % 256 := by unfold remI; exact Int.tmod_eq_emod_of_nonneg h0
theorem quo_byte {n : Int} (h0 : 0 ≤ n) (hn : n < 18446744073709551616) : quoI .u64 n 256 = n / 256 := by
  unfold quoI
  rw [Int.tdiv_eq_ediv_of_nonneg h0, wu64 (by omega) (by omega)]
theorem mod_byte (n : Int) : n % 256 % 256 = n % 256 := by omega
theorem pow_byte (n : Int) (i : Nat) : n / 256 ^ i / 256 = n / 256 ^ (i + 1) := by
  rw [Int.ediv_ediv_of_nonneg (Int.le_of_lt (Int.pow_pos (by decide))), Int.pow_succ]
theorem div_lt {n b : Int} (h0 : 0 ≤ n) (hn : n < b) (i : Nat) : 0 ≤ n / 256 ^ i ∧ n / 256 ^ i < b := by
  have hk : 0 < (256 : Int) ^ i := Int.pow_pos (by decide)
  refine ⟨Int.ediv_nonneg h0 (Int.le_of_lt hk), Int.lt_of_le_of_lt (Int.ediv_le_self _ h0) hn⟩

def getE (len : Nat) (at_ n : Int) : Int := if szB n = true then cutE len at_ n else 2
def getV (b : List Int) (at_ n : Int) : Int := if getE b.length at_ n = 0 then val (cutL b at_ n) else 0

theorem ofInt_toNat {a : Int} (h0 : 0 ≤ a) (h : a < 18446744073709551616) : (BitVec.ofInt 64 a).toNat = a.toNat := by
  rw [BitVec.toNat_ofInt, show ((2 ^ 64 : Nat) : Int) = 18446744073709551616 from rfl, Int.emod_eq_of_lt h0 h]

theorem or_bytes {a c : Int} {i : Nat} (h0 : 0 ≤ a) (h : a < 256 ^ i) (c0 : 0 ≤ c) (hc : c < 256) (hi : i < 8) :
    bitsI .or .u64 a (shlI .u64 (IntKind.u64.wrap c) (8 * (i : Int))) = a + c * 256 ^ i := by
  have hp : (256 : Int) ^ i * 256 ≤ 18446744073709551616 := by
    have : i = 0 ∨ i = 1 ∨ i = 2 ∨ i = 3 ∨ i = 4 ∨ i = 5 ∨ i = 6 ∨ i = 7 := by omega
    rcases this with rfl | rfl | rfl | rfl | rfl | rfl | rfl | rfl <;> decide +kernel
  have hk : 0 < (256 : Int) ^ i := Int.pow_pos (by decide)
  have hcm : c * 256 ^ i ≤ 255 * 256 ^ i := Int.mul_le_mul_of_nonneg_right (by omega) (by omega)
  have hcm0 : 0 ≤ c * 256 ^ i := Int.mul_nonneg c0 (by omega)
  have e0 : IntKind.u64.wrap c = c := wu64 c0 (by omega)
  have e1 : shlI .u64 c (8 * (i : Int)) = c * 256 ^ i := by
    unfold shlI
    rw [show min (8 * (i : Int)).toNat IntKind.u64.bits = 8 * i by
      have : IntKind.u64.bits = 64 := rfl
      omega, Int.pow_mul]
    exact wu64 hcm0 (by simp only [show ((2 : Int) ^ 8) = 256 from rfl]; omega)
  rw [e0, e1]
  unfold bitsI
  have e2 : (BitVec.ofInt IntKind.u64.bits a ||| BitVec.ofInt IntKind.u64.bits (c * 256 ^ i)).toNat = (a + c * 256 ^ i).toNat := by
    rw [BitVec.toNat_or]
    have : IntKind.u64.bits = 64 := rfl
    rw [this, ofInt_toNat h0 (by omega), ofInt_toNat hcm0 (by omega)]
    obtain ⟨x, rfl⟩ := Int.eq_ofNat_of_zero_le h0
    obtain ⟨y, rfl⟩ := Int.eq_ofNat_of_zero_le c0
    have h2 : x < 2 ^ (8 * i) := by
      rw [Nat.pow_mul]
      have : ((x : Nat) : Int) < ((256 ^ i : Nat) : Int) := by simpa using h
      exact_mod_cast this
    have e3 : ((y : Int) * 256 ^ i).toNat = 2 ^ (8 * i) * y := by
      rw [Nat.pow_mul, Nat.mul_comm]
      have : ((y : Int) * 256 ^ i) = ((y * 256 ^ i : Nat) : Int) := by rw [Int.natCast_mul, Int.natCast_pow]; rfl
      rw [this]; rfl
    have e4 : ((x : Int) + (y : Int) * 256 ^ i).toNat = 2 ^ (8 * i) * y + x := by
      rw [Nat.pow_mul, Nat.mul_comm]
      have : ((x : Int) + (y : Int) * 256 ^ i) = ((y * 256 ^ i + x : Nat) : Int) := by rw [Int.natCast_add, Int.natCast_mul, Int.natCast_pow, Int.add_comm]; rfl
      rw [this]; rfl
    rw [e3, e4, Nat.two_pow_add_eq_or_of_lt h2, Nat.or_comm]
    rfl
  simp only [e2]
  rw [Int.toNat_of_nonneg (by omega)]
  exact wu64 (by omega) (by omega)

/-- Are the bytes of a part all 0? -/
def zeroB (b : List Int) (at_ n : Int) : Bool := cutE b.length at_ n == 0 && (cutL b at_ n).all (· == 0)

def orAll (l : List Int) : Int := l.foldl (fun a c => bitsI .or .u8 a c) 0

theorem or_u8 {a c : Int} (h0 : 0 ≤ a) (h : a < 256) (c0 : 0 ≤ c) (hc : c < 256) : 0 ≤ bitsI .or .u8 a c ∧ bitsI .or .u8 a c < 256 ∧ (bitsI .or .u8 a c = 0 ↔ a = 0 ∧ c = 0) := by
  have e : bitsI .or .u8 a c = ((BitVec.ofInt 8 a ||| BitVec.ofInt 8 c).toNat : Int) := by
    show IntKind.u8.wrap ((BitVec.ofInt 8 a ||| BitVec.ofInt 8 c).toNat : Int) = _
    rw [wu8]
    have := (BitVec.ofInt 8 a ||| BitVec.ofInt 8 c).isLt
    omega
  have lt := (BitVec.ofInt 8 a ||| BitVec.ofInt 8 c).isLt
  have z : ∀ {x : Int}, 0 ≤ x → x < 256 → (BitVec.ofInt 8 x = 0#8 ↔ x = 0) := by
    intro x hx0 hx
    constructor
    · intro hh
      have h1 := congrArg BitVec.toNat hh
      rw [BitVec.toNat_ofInt] at h1
      have h2 : ((0#8 : BitVec 8).toNat) = 0 := rfl
      have h3 : ((2 ^ 8 : Nat) : Int) = 256 := rfl
      rw [h2, h3, Int.emod_eq_of_lt hx0 hx] at h1
      omega
    · rintro rfl; rfl
  refine ⟨by omega, by omega, ?_⟩
  rw [← z h0 h, ← z c0 hc, ← BitVec.or_eq_zero_iff, e]
  constructor
  · intro hh
    apply BitVec.eq_of_toNat_eq
    have : ((0#8 : BitVec 8).toNat) = 0 := rfl
    omega
  · intro hh; rw [hh]; rfl

theorem orAll_bounds {l : List Int} (h : Bytes l) : 0 ≤ orAll l ∧ orAll l < 256 ∧ (orAll l = 0 ↔ ∀ x ∈ l, x = 0) := by
  have key : ∀ (l : List Int) (a : Int), Bytes l → 0 ≤ a → a < 256 → 0 ≤ l.foldl (fun a c => bitsI .or .u8 a c) a ∧ l.foldl (fun a c => bitsI .or .u8 a c) a < 256 ∧ (l.foldl (fun a c => bitsI .or .u8 a c) a = 0 ↔ a = 0 ∧ ∀ x ∈ l, x = 0) := by
    intro l
    induction l with
    | nil => intro a _ h0 h1; exact ⟨h0, h1, by simp⟩
    | cons c l ih =>
      intro a hb h0 h1
      have hc := hb c (by simp)
      have ho := or_u8 h0 h1 hc.1 hc.2
      obtain ⟨i1, i2, i3⟩ := ih (bitsI .or .u8 a c) (fun x hx => hb x (by simp [hx])) ho.1 ho.2.1
      refine ⟨i1, i2, ?_⟩
      rw [List.foldl_cons, i3, ho.2.2]
      simp [and_assoc]
  have := key l 0 h (by omega) (by omega)
  simpa [orAll] using this

theorem orAll_snoc (l : List Int) (c : Int) : orAll (l ++ [c]) = bitsI .or .u8 (orAll l) c := by simp [orAll]

/-- Padded to a multiple of 8. -/
def padN (n : Nat) : Nat := (n + 7) / 8 * 8
def padL (b : List Int) : List Int := b ++ List.replicate (padN b.length - b.length) 0

theorem padN_le (n : Nat) : n ≤ padN n ∧ padN n < n + 8 ∧ padN n % 8 = 0 := by unfold padN; omega
theorem padL_length (b : List Int) : (padL b).length = padN b.length := by
  have := padN_le b.length
  simp [padL]; omega

theorem andNot7 {x : Int} (h0 : 0 ≤ x) (h : x < 9223372036854775808) : bitsI .andNot .i64 x 7 = x / 8 * 8 := by
  have e : (BitVec.ofInt 64 x &&& ~~~ BitVec.ofInt 64 7) = (BitVec.ofInt 64 x >>> 3) <<< 3 := by
    apply BitVec.eq_of_getLsbD_eq
    intro i hi
    have h7 : (BitVec.ofInt 64 7).getLsbD i = decide (i < 3) := by
      have : (BitVec.ofInt 64 7) = BitVec.ofNat 64 (2 ^ 3 - 1) := rfl
      rw [this, BitVec.getLsbD_ofNat, Nat.testBit_two_pow_sub_one]
      simp [hi]
    rw [BitVec.getLsbD_and, BitVec.getLsbD_not, h7, BitVec.getLsbD_shiftLeft, BitVec.getLsbD_ushiftRight]
    by_cases hl : i < 3
    · simp [hl, hi]
    · simp [hl, hi, show 3 + (i - 3) = i by omega]
  have e2 : bitsI .andNot .i64 x 7 = IntKind.i64.wrap ((BitVec.ofInt 64 x &&& ~~~ BitVec.ofInt 64 7).toNat : Int) := rfl
  rw [e2, e, BitVec.toNat_shiftLeft, BitVec.toNat_ushiftRight, ofInt_toNat h0 (by omega), Nat.shiftLeft_eq, Nat.shiftRight_eq_div_pow]
  have h3 : (2 : Nat) ^ 3 = 8 := rfl
  have h4 : (2 : Nat) ^ 64 = 18446744073709551616 := rfl
  rw [h3, h4, Nat.mod_eq_of_lt (by omega), w64 (by omega) (by omega)]
  omega

theorem cutE_ok {len : Nat} {at_ n : Int} (h0 : 0 ≤ at_) (h1 : 0 ≤ n) (h2 : at_ + n ≤ len) : cutE len at_ n = 0 := by
  unfold cutE; rw [if_neg (by omega), if_neg (by omega)]

theorem cutL_ok {b : List Int} {at_ n : Int} (h0 : 0 ≤ at_) (h1 : 0 ≤ n) (h2 : at_ + n ≤ b.length) : cutL b at_ n = (b.drop at_.toNat).take n.toNat := by
  unfold cutL; rw [if_pos (cutE_ok h0 h1 h2)]

theorem take_padL (b : List Int) : (padL b).take b.length = b := by simp [padL]

theorem zeroB_padL (b : List Int) : zeroB (padL b) b.length ((padL b).length - b.length) = true := by
  have hl := padL_length b
  have hp := padN_le b.length
  have h2 : (b.length : Int) + ((padL b).length - b.length) ≤ (padL b).length := by omega
  unfold zeroB
  rw [cutE_ok (by omega) (by omega) h2, cutL_ok (by omega) (by omega) h2]
  simp only [beq_self_eq_true, Bool.true_and, List.all_eq_true, beq_iff_eq]
  intro x hx
  have hx' := List.mem_of_mem_take hx
  rw [Int.toNat_natCast] at hx'
  simp [padL] at hx'
  exact hx'.2

theorem padL_padL (b : List Int) : padL (padL b) = padL b := by
  have hl := padL_length b
  have hp := padN_le b.length
  have e : padN (padL b).length = (padL b).length := by rw [hl]; unfold padN at *; omega
  show padL b ++ List.replicate (padN (padL b).length - (padL b).length) 0 = padL b
  rw [e]; simp

/-- A number of a size's bytes, and its bytes. -/
theorem putL_val {l : List Int} (h : Bytes l) (hs : szB l.length = true) : putE (val l) l.length = 0 ∧ putL (val l) l.length = l := by
  have hv := val_bounds h
  have e : putE (val l) l.length = 0 := by unfold putE; rw [if_pos ⟨hs, by simpa using hv.2⟩]
  refine ⟨e, ?_⟩
  unfold putL; rw [if_pos e, Int.toNat_natCast, digs_val h]

theorem val_u64 {l : List Int} (h : Bytes l) (hl : l.length ≤ 8) : 0 ≤ val l ∧ val l < 18446744073709551616 := by
  have hv := val_bounds h
  have hp : (256 : Int) ^ l.length ≤ 18446744073709551616 := by
    have : l.length = 0 ∨ l.length = 1 ∨ l.length = 2 ∨ l.length = 3 ∨ l.length = 4 ∨ l.length = 5 ∨ l.length = 6 ∨ l.length = 7 ∨ l.length = 8 := by omega
    rcases this with h | h | h | h | h | h | h | h | h <;> rw [h] <;> decide +kernel
  omega

theorem szB_of {k : Int} (h : k = 1 ∨ k = 2 ∨ k = 4 ∨ k = 8) : szB k = true := by
  rcases h with rfl | rfl | rfl | rfl <;> rfl

theorem cut_split {b : List Int} {at_ n m : Int} (h : cutE b.length at_ n = 0) (hm : 0 ≤ m) : cutE b.length (at_ + n) m = cutE b.length at_ (n + m) ∧
    (cutE b.length (at_ + n) m = 0 → cutL b at_ (n + m) = cutL b at_ n ++ cutL b (at_ + n) m) := by
  have h0 := cutE_zero h
  constructor
  · have e1 : cutE b.length (at_ + n) m = if (b.length : Int) - (at_ + n) < m then 4 else 0 := by unfold cutE; rw [if_neg (by omega)]
    have e2 : cutE b.length at_ (n + m) = if (b.length : Int) - at_ < n + m then 4 else 0 := by unfold cutE; rw [if_neg (by omega)]
    rw [e1, e2]
    by_cases h1 : (b.length : Int) - (at_ + n) < m
    · rw [if_pos h1, if_pos (by omega)]
    · rw [if_neg h1, if_neg (by omega)]
  · intro h2
    have h3 := cutE_zero h2
    rw [cutL_ok (by omega) (by omega) (by omega), cutL_ok (by omega) (by omega) (by omega), cutL_ok (by omega) (by omega) (by omega)]
    rw [show (n + m).toNat = n.toNat + m.toNat by omega, List.take_add, List.drop_drop, show (at_ + n).toNat = at_.toNat + n.toNat by omega]

theorem zeroB_split {b : List Int} {at_ n m : Int} (h : cutE b.length at_ n = 0) (hm : 0 ≤ m) (h2 : cutE b.length (at_ + n) m = 0) : zeroB b at_ (n + m) = (zeroB b at_ n && zeroB b (at_ + n) m) := by
  obtain ⟨e1, e2⟩ := cut_split h hm
  unfold zeroB
  rw [e2 h2, ← e1, h, h2, List.all_append]
  simp

end Go.Proofs.YtdhnjmepgafeiaaDoor.Abs

/- What ends.isSize, ref.Size and ends.Put answer, for every number and size. -/
set_option linter.unusedVariables false
set_option linter.unusedSimpArgs false
set_option maxRecDepth 100000
namespace Go.Proofs.YtdhnjmepgafeiaaDoor.Abs
open Go Go.Proofs

theorem isSize_meets (n : Int) : Meets Tryd.prog 46 [.v (.int .i64 n)] [.v (.bool (szB n))] := by
  refine meets_go TO 100 Tryd.func46 rfl (fun X => ?_)
  simp only [Tryd.ntmps46, Tryd.results46, pureOpC, unc, svs, blks, AV.sv, absRun, absOps, absOp, evO, constSV, ungd, gdP, gdPs, setD, binI, binV, ptrE, pickV, pureOp, guardOf, retP, resV, retQ, rAs, rA, rA0, ownN, nodup, bares, bare, bare0, Op.operands, List.getD, List.getElem?_cons_zero, List.getElem?_cons_succ, Option.getD_some, List.set, List.map, List.toList_toArray, List.getElem?_toArray, Option.bind_some, true_and, and_true, and_self, implies_true, imp_self, eq_self, Nat.zero_add, Bool.cond_true_left, List.cons_append, List.nil_append, List.length_cons, List.length_nil, Nat.reduceAdd, Nat.reduceSub, List.replicate_succ, List.replicate_zero, Bool.and_self]
  by_cases h1 : n = 1 <;> by_cases h2 : n = 2 <;> by_cases h3 : n = 4 <;> by_cases h4 : n = 8 <;> simp [szB, h1, h2, h3, h4] <;> omega

theorem Size_meets (n : Int) : Meets Tryd.prog 47 [.v (.int .i64 n)] [.v (.bool (szB n))] := by
  refine meets_go TO 100 Tryd.func47 rfl (fun X => ?_)
  simp only [Tryd.ntmps47, Tryd.results47, pureOpC, unc, svs, blks, AV.sv, absRun, absOps, absOp, evO, constSV, ungd, gdP, gdPs, setD, binI, binV, ptrE, pickV, pureOp, guardOf, retP, resV, retQ, rAs, rA, rA0, ownN, nodup, bares, bare, bare0, Op.operands, List.getD, List.getElem?_cons_zero, List.getElem?_cons_succ, Option.getD_some, List.set, List.map, List.toList_toArray, List.getElem?_toArray, Option.bind_some, true_and, and_true, and_self, implies_true, imp_self, eq_self, Nat.zero_add, Bool.cond_true_left, List.cons_append, List.nil_append, List.length_cons, List.length_nil, Nat.reduceAdd, Nat.reduceSub, List.replicate_succ, List.replicate_zero, Bool.and_self]
  by_cases h1 : n = 1 <;> by_cases h2 : n = 2 <;> by_cases h3 : n = 4 <;> by_cases h4 : n = 8 <;> simp [szB, h1, h2, h3, h4] <;> omega

def Put_S (n : Int) (k i : Nat) : St := ⟨[.int .u64 n, .any, .any, .any, .any, .any, .slc 24 4 1 k k] ++ List.replicate 19 .any ++ [.int .i64 k, .int .i64 i] ++ List.replicate 13 .any,
  [(24, 4, .vec (.ints .u8 (digs i n ++ List.replicate (k - i) 0)))], ⟨5 + 4 * i, [], 0⟩⟩

theorem Put_meets (n size : Int) (h0 : 0 ≤ n) (hn : n < 18446744073709551616) : Meets Tryd.prog 34 [.v (.int .u64 n), .v (.int .i64 size)] [.own (.ints .u8 (putL n size)), .v (.int .i64 (putE n size))] := by
  refine meets_go TO 100 Tryd.func34 rfl (fun X => ?_)
  simp only [Tryd.ntmps34, Tryd.results34, pureOpC, svs, blks, AV.sv, absRun, absOps, absOp, evO, constSV, ungd, gdP, gdPs, setD, pureOp, memOp, Op.operands, List.getD, List.getElem?_cons_zero, List.getElem?_cons_succ, Option.getD_some, List.set, List.toList_toArray, true_and, and_self, Nat.zero_add, List.cons_append, List.nil_append, List.length_cons, List.length_nil, Nat.reduceAdd, Nat.reduceSub, List.replicate_succ, List.replicate_zero]
  refine call_go TO 100 (isSize_meets size) Tryd.func46 (by decide +kernel) rfl rfl rfl ?_
  simp only [pureOpC, unc, absRun, absOps, absOp, evO, constSV, ungd, gdP, gdPs, setD, binI, binV, ptrE, unV, convV, T_ty, T_size, T_bytes, T_zero, tTy, tSize, tBytes, tZero, pickV, pureOp, guardOf, memOp, lenV, newV, notIn, zI, known, blkAt, fnd, upd, Data.len, Lim.add, retP, resV, retQ, rAs, rA, rA0, ownN, nodup, bares, bare, bare0, bareD, guardIs, callP, callS, argS, mAs, mA, mA0, mB0, allNotIn, impN, impB, impT, packS, delL, Op.operands, Call.operands, List.getD, List.getElem?_cons_zero, List.getElem?_cons_succ, Option.getD_some, List.set, List.map, List.toList_toArray, List.getElem?_toArray, Option.bind_some, true_and, and_true, and_self, implies_true, imp_self, if_true, eq_self, Nat.zero_add, Int.cast_ofNat_Int, Bool.cond_true_left, Bool.cond_false_right, List.append_toArray, List.nil_append, List.append_nil, Nat.reduceAdd, Bool.and_self]
  cases hs : szB size with
  | false =>
    have e : putE n size = 2 := by simp [putE, hs]
    simp [putL, e]
  | true =>
    have hsz := szB_cases hs
    obtain ⟨k, rfl⟩ : ∃ k : Nat, size = k := ⟨size.toNat, by omega⟩
    have e1 : IntKind.i64.wrap (8 * (k : Int)) = 8 * k := w64 (by omega) (by omega)
    have e2 : IntKind.u64.wrap (8 * (k : Int)) = 8 * k := wu64 (by omega) (by omega)
    have e3 := shr_bytes n k (by omega)
    rw [e1, e2, e3]
    refine ⟨fun _ => by omega, ?_⟩
    have hk : 0 < (256 : Int) ^ k := Int.pow_pos (by decide)
    have e4 : (n / 256 ^ k != 0) = decide (¬ n < 256 ^ k) := by
      rw [Bool.eq_iff_iff]
      simp only [bne_iff_ne, ne_eq, decide_eq_true_eq]
      rw [div_zero_iff h0 hk]
    rw [e4]
    have e5 : putE n k = if n < 256 ^ k then 0 else 2 := by simp [putE, hs]
    have e6 : k = 8 → n < 256 ^ k := by rintro rfl; simpa using hn
    split
    · rename_i h
      simp only [Bool.not_true, Bool.false_or, Bool.and_eq_true, decide_eq_true_eq] at h
      rw [if_neg h.2] at e5
      simp [putL, e5]
    · rename_i h
      simp only [Bool.not_true, Bool.false_or, Bool.and_eq_true, decide_eq_true_eq] at h
      have h' : n < 256 ^ k := by
        by_cases h8 : k = 8
        · exact e6 h8
        · exact Classical.byContradiction fun hc => h ⟨by omega, hc⟩
      rw [if_pos h'] at e5
      refine ⟨⟨by omega, by omega, by omega⟩, ?_⟩
      refine loop_go (fun i => i ≤ k) (Put_S n k) (fun i => k - i) 0 (Nat.zero_le _) ⟨rfl, ?_, ?_⟩ ?_
      · simp [Put_S, LeT]
      · intro m x hx; simpa [Put_S, fnd, digs] using hx
      · intro i hi ih
        refine absRun_ok TO 100 _ _ ?_
        simp only [Put_S, pureOpC, unc, absRun, absOps, absOp, evO, constSV, ungd, gdP, gdPs, setD, binI, binV, ptrE, convV, T_ty, T_size, tTy, tSize, iaddrV, pureOp, memOp, notIn, known, blkAt, fnd, upd, Data.len, Data.esz, retP, resV, retQ, rAs, rA, rA0, ownN, nodup, bares, bare, bare0, bareD, Op.operands, List.getD, List.getElem?_cons_zero, List.getElem?_cons_succ, Option.getD_some, List.set, List.map, List.toList_toArray, exitTo, true_and, and_true, and_self, if_true, eq_self, ne_eq, not_false_eq_true, Nat.zero_add, Int.toNat_natCast, List.cons_append, List.nil_append, Nat.succ_ne_self, beq_self_eq_true, List.replicate_succ, List.replicate_zero, Bool.and_self, Data.ints.injEq]
        split
        · rename_i hc
          have hik : i < k := by simpa using hc
          have f1 : IntKind.i64.wrap (8 * (i : Int)) = 8 * i := w64 (by omega) (by omega)
          have f2 : IntKind.u64.wrap (8 * (i : Int)) = 8 * i := wu64 (by omega) (by omega)
          have f3 := shr_bytes n i (by omega)
          simp only [f1, f2, f3, wu8]
          rw [w64 (by omega) (by omega), set_digs hik]
          refine ⟨by omega, ⟨by omega, by omega⟩, by simp [digs_length]; omega, ih (i + 1) _ hik (by omega) ?_ ?_ ?_⟩
          · simp [Put_S]; omega
          · simp [Put_S, LeT]
          · intro m x hx; simpa [Put_S, fnd] using hx
        · rename_i hc
          have hik : ¬ i < k := by simpa using hc
          obtain rfl : i = k := by omega
          have e7 : putL n (i : Int) = digs i n := by simp [putL, e5]
          simp [e7, e5, digs_length]
end Go.Proofs.YtdhnjmepgafeiaaDoor.Abs

/- What the document's Put answers: the same as ends.Put. -/
set_option linter.unusedVariables false
set_option linter.unusedSimpArgs false
set_option maxRecDepth 100000
namespace Go.Proofs.YtdhnjmepgafeiaaDoor.Abs
open Go Go.Proofs

def rPut_S (n : Int) (k i : Nat) : St := match i with
  | 0 => ⟨[.int .u64 n, .int .i64 k, .any, .any, .any, .any, .nil, .int .i64 0] ++ List.replicate 19 .any, [], ⟨5, [], 0⟩⟩
  | i + 1 => ⟨[.int .u64 (n / 256 ^ (i + 1)), .int .i64 k, .any, .any, .any, .any, .sl 21 (7 + 4 * i) 0 1 0 (i + 1), .int .i64 ((i : Int) + 1)] ++ List.replicate 19 .any, [(21, 7 + 4 * i, .vec (.ints .u8 (digs (i + 1) n)))], ⟨5 + 4 * (i + 1), [], 0⟩⟩

theorem rPut_meets (n size : Int) (h0 : 0 ≤ n) (hn : n < 18446744073709551616) : Meets Tryd.prog 37 [.v (.int .u64 n), .v (.int .i64 size)] [.own (.ints .u8 (putL n size)), .v (.int .i64 (putE n size))] := by
  refine meets_go TO 100 Tryd.func37 rfl (fun X => ?_)
  simp only [Tryd.ntmps37, Tryd.results37, pureOpC, svs, blks, AV.sv, absRun, absOps, absOp, evO, constSV, ungd, gdP, gdPs, setD, pureOp, memOp, Op.operands, List.getD, List.getElem?_cons_zero, List.getElem?_cons_succ, Option.getD_some, List.set, List.toList_toArray, true_and, and_self, Nat.zero_add, List.cons_append, List.nil_append, List.length_cons, List.length_nil, Nat.reduceAdd, Nat.reduceSub, List.replicate_succ, List.replicate_zero]
  refine call_go TO 100 (Size_meets size) Tryd.func47 (by decide +kernel) rfl rfl rfl ?_
  simp only [pureOpC, unc, absRun, absOps, absOp, evO, constSV, ungd, gdP, gdPs, setD, unV, pureOp, Data.len, retP, resV, retQ, rAs, rA, rA0, ownN, nodup, bares, bare, bare0, bareD, guardIs, callP, callS, argS, mAs, mA, mA0, mB0, allNotIn, impN, impB, impT, packS, delL, Op.operands, List.getD, List.getElem?_cons_zero, List.getElem?_cons_succ, Option.getD_some, List.set, List.map, List.toList_toArray, true_and, and_true, and_self, eq_self, List.append_nil, Nat.reduceAdd, Bool.and_self]
  cases hs : szB size with
  | false =>
    have e : putE n size = 2 := by simp [putE, hs]
    simp [putL, e]
  | true =>
    have hsz := szB_cases hs
    obtain ⟨k, rfl⟩ : ∃ k : Nat, size = k := ⟨size.toNat, by omega⟩
    have hk : 0 < (256 : Int) ^ k := Int.pow_pos (by decide)
    have e5 : putE n k = if n < 256 ^ k then 0 else 2 := by simp [putE, hs]
    simp only [Bool.not_true, Bool.false_eq_true, if_false]
    refine loop_go (fun i => i ≤ k) (rPut_S n k) (fun i => k - i) 0 (Nat.zero_le _) ⟨rfl, ?_, ?_⟩ ?_
    · simp [rPut_S, LeT]
    · intro m x hx; simp [rPut_S, fnd] at hx
    · intro i hi ih
      refine absRun_ok TO 100 _ _ ?_
      cases i with
      | zero =>
        simp only [rPut_S, List.take_succ_cons, List.take_zero, List.drop_zero, pureOpC, unc, fitT, absRun, absOps, absOp, evO, constSV, ungd, gdP, gdPs, setD, binI, binV, ptrE, convV, T_ty, T_size, T_bytes, T_zero, tTy, tSize, tBytes, tZero, pureOp, memOp, newV, notIn, dataOf, isSrc, elemsOf, intsOf, zI, known, blkAt, fnd, upd, Data.len, Data.esz, Data.sub, Lim.add, retP, resV, retQ, rAs, rA, rA0, ownN, nodup, bares, bare, bare0, bareD, Op.operands, Call.operands, List.getD, List.getElem?_cons_zero, List.getElem?_cons_succ, Option.getD_some, List.set, List.map, List.toList_toArray, Option.map_some, exitTo, true_and, and_true, and_self, if_true, if_false, eq_self, ne_eq, Nat.zero_add, Int.zero_add, Nat.le_refl, List.append_toArray, List.cons_append, List.nil_append, List.length_cons, List.length_nil, Nat.reduceAdd, Nat.reduceMul, Nat.reduceLeDiff, Nat.succ_ne_self, beq_self_eq_true, List.replicate_succ, List.replicate_zero, Bool.and_self]
        split
        · rename_i hc
          have hk0 : 0 < k := by simpa using hc
          rw [rem_byte h0, quo_byte h0 hn, wu8, mod_byte]
          refine ⟨by omega, by omega, ih 1 _ hk0 (by omega) ?_ ?_ ?_⟩
          · simp [rPut_S]
          · simp [rPut_S, LeT, w64]
          · intro m x hx
            simp only [rPut_S, fnd] at hx ⊢
            split at hx
            · rename_i e; subst e; simpa [digs] using hx
            · cases hx
        · rename_i hc
          have : ¬ 0 < k := by simpa using hc
          omega
      | succ i =>
        obtain ⟨d0, d1⟩ := div_lt h0 hn (i + 1)
        simp only [rPut_S, List.take_succ_cons, List.take_zero, List.drop_zero, pureOpC, unc, fitT, absRun, absOps, absOp, evO, constSV, ungd, gdP, gdPs, setD, binI, binV, ptrE, convV, T_ty, T_size, T_bytes, T_zero, tTy, tSize, tBytes, tZero, pureOp, memOp, newV, notIn, dataOf, appD, isSrc, elemsOf, intsOf, zI, known, blkAt, fnd, upd, del, mv, Data.len, Data.esz, Data.sub, Lim.add, retP, resV, retQ, rAs, rA, rA0, ownN, nodup, bares, bare, bare0, bareD, Op.operands, Call.operands, List.getD, List.getElem?_cons_zero, List.getElem?_cons_succ, Option.getD_some, List.set, List.map, List.toList_toArray, Option.map_some, exitTo, true_and, and_true, and_self, if_true, if_false, eq_self, ne_eq, Nat.zero_add, Nat.le_refl, List.append_toArray, List.cons_append, List.nil_append, List.length_cons, List.length_nil, Nat.reduceEqDiff, Nat.reduceLeDiff, Nat.succ_ne_self, beq_self_eq_true, List.replicate_succ, List.replicate_zero, Bool.and_self, Data.ints.injEq]
        split
        · rename_i hc
          have hik : i + 1 < k := by
            have : (i : Int) + 1 < k := by simpa using hc
            omega
          rw [rem_byte d0, quo_byte d0 d1, wu8, mod_byte, pow_byte, ← digs_snoc, w64 (by omega) (by omega)]
          refine ⟨by omega, ⟨by simp [digs_length], by omega, by omega⟩, by omega, ih (i + 2) _ hik (by omega) ?_ ?_ ?_⟩
          · simp [rPut_S]; omega
          · simp [rPut_S, LeT, digs_length]; omega
          · intro m x hx
            simp only [rPut_S, fnd] at hx ⊢
            split at hx
            · rename_i e; subst e; simpa [show 5 + 4 * (i + 1) + 1 + 1 = 7 + 4 * (i + 1) by omega] using hx
            · cases hx
        · rename_i hc
          have hik : ¬ i + 1 < k := by
            have : ¬ (i : Int) + 1 < k := by simpa using hc
            omega
          obtain rfl : i + 1 = k := by omega
          by_cases hlt : n < 256 ^ (i + 1)
          · rw [if_pos hlt] at e5
            have e7 : putL n ((i + 1 : Nat) : Int) = digs (i + 1) n := by simp only [putL, e5]; simp
            have e8 : n / 256 ^ (i + 1) = 0 := (div_zero_iff h0 hk).2 hlt
            rw [e7, e8, e5]
            simp [digs_length]
          · rw [if_neg hlt] at e5
            have e7 : putL n ((i + 1 : Nat) : Int) = [] := by simp only [putL, e5]; simp
            have e8 : ¬ n / 256 ^ (i + 1) = 0 := fun h => hlt ((div_zero_iff h0 hk).1 h)
            rw [e7, e5, if_pos (by simp; omega)]
            simp
end Go.Proofs.YtdhnjmepgafeiaaDoor.Abs

/- What ends.Get answers, for whatever bytes, place and size. -/
set_option linter.unusedVariables false
set_option linter.unusedSimpArgs false
set_option maxRecDepth 100000
namespace Go.Proofs.YtdhnjmepgafeiaaDoor.Abs
open Go Go.Proofs

def Get_S (c0 : Nat) (l : List Int) (i : Nat) : St := ⟨List.replicate 8 .any ++ [.view false (.ints .u8 l), .any, .int .u64 (val (l.take i))] ++ List.replicate 15 .any ++ [.view false (.ints .u8 l), .int .i64 l.length, .int .i64 i] ++ List.replicate 14 .any, [], ⟨c0 + 4 * i, [], 0⟩⟩

theorem Get_meets (b : List Int) (at_ n : Int) (hb : b.length ≤ 140737488351232) (hB : Bytes b) : Meets Tryd.prog 40 [.v (.view false (.ints .u8 b)), .v (.int .i64 at_), .v (.int .i64 n)] [.v (.int .u64 (getV b at_ n)), .v (.int .i64 (getE b.length at_ n))] := by
  refine meets_go TO 100 Tryd.func40 rfl (fun X => ?_)
  simp only [Tryd.ntmps40, Tryd.results40, pureOpC, svs, blks, AV.sv, absRun, absOps, absOp, evO, constSV, ungd, gdP, gdPs, setD, pureOp, memOp, Op.operands, List.getD, List.getElem?_cons_zero, List.getElem?_cons_succ, Option.getD_some, List.set, List.toList_toArray, true_and, and_self, Nat.zero_add, List.cons_append, List.nil_append, List.length_cons, List.length_nil, Nat.reduceAdd, Nat.reduceSub, List.replicate_succ, List.replicate_zero]
  refine call_go TO 100 (isSize_meets n) Tryd.func46 (by decide +kernel) rfl rfl rfl ?_
  simp only [pureOpC, unc, absRun, absOps, absOp, evO, constSV, ungd, gdP, gdPs, setD, unV, pureOp, memOp, retP, resV, retQ, rAs, rA, rA0, ownN, nodup, bares, bare, bare0, guardIs, callP, callS, argS, mAs, mA, mA0, mB0, allNotIn, impN, impB, impT, packS, delL, Op.operands, List.getD, List.getElem?_cons_zero, List.getElem?_cons_succ, Option.getD_some, List.set, List.map, List.toList_toArray, true_and, and_true, and_self, eq_self, List.append_nil, Nat.reduceAdd, Bool.and_self]
  cases hs : szB n with
  | false => simp [getV, getE, hs]
  | true =>
    have hsz := szB_cases hs
    simp only [Bool.not_true, Bool.false_eq_true, if_false]
    refine in_go TO 100000 100 100 Tryd.func50 (by decide +kernel) rfl rfl rfl ?_
    simp only [Tryd.ntmps50, Tryd.results50, pureOpC, unc, absRun, absOps, absOp, evO, constSV, ungd, gdP, gdPs, setD, binI, binV, ptrE, T_ty, T_size, tTy, tSize, extractV, lowI, highI, maxP, sliceV, pickV, pureOp, guardOf, lenV, Data.len, Data.esz, Data.sub, retP, resV, retQ, rAs, rA, rA0, ownN, nodup, bares, bare, bare0, inRet, flats, flatV, flat1, guardIs, argC, Op.operands, Call.operands, List.getD, List.getElem?_cons_zero, List.getElem?_cons_succ, Option.getD_some, List.set, List.map, List.all, List.toList_toArray, List.getElem?_toArray, Option.bind_some, Option.map_some, Option.isSome, true_and, and_true, and_self, implies_true, imp_self, if_true, if_false, eq_self, ne_eq, not_false_eq_true, Bool.false_eq_true, Nat.zero_add, Int.reduceBNe, Bool.cond_true_left, Option.toArray_some, List.append_toArray, List.cons_append, List.nil_append, List.size_toArray, List.length_cons, List.length_nil, Nat.reduceAdd, Nat.reduceSub, Nat.succ_ne_self, List.replicate_succ, List.replicate_zero, Bool.and_self]
    simp only [Bool.or_eq_true, decide_eq_true_eq]
    split
    · rename_i h
      have e : cutE b.length at_ n = 2 := by unfold cutE; rw [if_pos (by omega)]
      simp [getV, getE, hs, e]
    · rename_i h
      rw [w64 (by omega) (by omega)]
      split
      · rename_i h2
        have e : cutE b.length at_ n = 4 := by unfold cutE; rw [if_neg (by omega), if_pos h2]
        simp [getV, getE, hs, e]
      · rename_i h2
        have e : cutE b.length at_ n = 0 := by unfold cutE; rw [if_neg (by omega), if_neg h2]
        have e2 : IntKind.i64.wrap (at_ + n) = at_ + n := w64 (by omega) (by omega)
        rw [e2, show (at_ + n - at_).toNat = n.toNat by congr 1; omega]
        have e3 : cutL b at_ n = (b.drop at_.toNat).take n.toNat := by unfold cutL; rw [if_pos e]
        have e4 : ((cutL b at_ n).length : Int) = n := cutL_length_eq e
        have e5 : getV b at_ n = val (cutL b at_ n) := by simp [getV, getE, hs, e]
        have e6 : getE b.length at_ n = 0 := by simp [getE, hs, e]
        have hB' : Bytes (cutL b at_ n) := hB.cut at_ n
        rw [← e3, e5, e6]
        refine ⟨⟨by omega, by omega, by omega⟩, ?_⟩
        generalize cutL b at_ n = l at *
        refine loop_go (fun i => i ≤ l.length) (Get_S 12 l) (fun i => l.length - i) 0 (Nat.zero_le _) ⟨rfl, ?_, ?_⟩ ?_
        · simp [Get_S, LeT, val]
        · intro m x hx; simp [Get_S, fnd] at hx
        · intro i hi ih
          refine absRun_ok TO 100 _ _ ?_
          simp only [Get_S, pureOpC, unc, absRun, absOps, absOp, evO, constSV, ungd, gdP, gdPs, setD, binI, binV, ptrE, convV, T_ty, T_size, tTy, tSize, iaddrV, pureOp, loadV, known, elemV, Data.len, Data.esz, retP, resV, retQ, rAs, rA, rA0, ownN, nodup, bares, bare, bare0, Op.operands, List.getD, List.getElem?_cons_zero, List.getElem?_cons_succ, Option.getD_some, List.set, List.map, List.toList_toArray, exitTo, true_and, and_true, and_self, if_true, eq_self, ne_eq, not_false_eq_true, Int.toNat_natCast, List.cons_append, List.nil_append, Nat.reduceLT, Nat.succ_ne_self, beq_self_eq_true, List.replicate_succ, List.replicate_zero, Bool.and_self, Int.toNat_natCast]
          split
          · rename_i hc
            have hil : i < l.length := by simpa using hc
            have f1 : IntKind.i64.wrap (8 * (i : Int)) = 8 * i := w64 (by omega) (by omega)
            have f2 : IntKind.u64.wrap (8 * (i : Int)) = 8 * i := wu64 (by omega) (by omega)
            have g : l[i]?.getD 0 = l[i] := by simp [hil]
            have hb1 := hB' l[i] (List.getElem_mem hil)
            have hv := val_bounds (hB'.take i)
            rw [List.length_take_of_le hi] at hv
            have hs1 : val (l.take (i + 1)) = val (l.take i) + l[i] * 256 ^ i := by
              rw [List.take_add_one, List.getElem?_eq_getElem hil]
              show val (l.take i ++ [l[i]]) = _
              rw [val_snoc, List.length_take_of_le hi]
            simp only [f1, f2, g]
            rw [or_bytes hv.1 hv.2 hb1.1 hb1.2 (by omega), ← hs1, w64 (by omega) (by omega)]
            refine ⟨⟨by omega, by omega⟩, by omega, ih (i + 1) _ hil (by omega) ?_ ?_ ?_⟩
            · simp [Get_S]; omega
            · simp [Get_S, LeT]
            · intro m x hx; simp [Get_S, fnd] at hx
          · rename_i hc
            have hil : ¬ i < l.length := by simpa using hc
            obtain rfl : i = l.length := by omega
            simp
end Go.Proofs.YtdhnjmepgafeiaaDoor.Abs

/- What the document's Get answers: the same as ends.Get. -/
set_option linter.unusedVariables false
set_option linter.unusedSimpArgs false
set_option maxRecDepth 100000
namespace Go.Proofs.YtdhnjmepgafeiaaDoor.Abs
open Go Go.Proofs

def rGet_S (c0 m : Nat) (b l : List Int) (at_ : Int) (j : Nat) : St := ⟨[.view false (.ints .u8 b), .int .i64 at_] ++ List.replicate 6 .any ++ [.int .u64 (val (l.drop j)), .int .i64 ((j : Int) - 1)] ++ List.replicate 36 .any, [], ⟨c0 + 3 * (m - j), [], 0⟩⟩

theorem rGet_meets (b : List Int) (at_ n : Int) (hb : b.length ≤ 140737488351232) (hB : Bytes b) : Meets Tryd.prog 42 [.v (.view false (.ints .u8 b)), .v (.int .i64 at_), .v (.int .i64 n)] [.v (.int .u64 (getV b at_ n)), .v (.int .i64 (getE b.length at_ n))] := by
  refine meets_go TO 100 Tryd.func42 rfl (fun X => ?_)
  simp only [Tryd.ntmps42, Tryd.results42, pureOpC, svs, blks, AV.sv, absRun, absOps, absOp, evO, constSV, ungd, gdP, gdPs, setD, pureOp, memOp, Op.operands, List.getD, List.getElem?_cons_zero, List.getElem?_cons_succ, Option.getD_some, List.set, List.toList_toArray, true_and, and_self, Nat.zero_add, List.cons_append, List.nil_append, List.length_cons, List.length_nil, Nat.reduceAdd, Nat.reduceSub, List.replicate_succ, List.replicate_zero]
  refine call_go TO 100 (Size_meets n) Tryd.func47 (by decide +kernel) rfl rfl rfl ?_
  simp only [pureOpC, unc, absRun, absOps, absOp, evO, constSV, ungd, gdP, gdPs, setD, binI, binV, ptrE, unV, T_ty, tTy, pickV, pureOp, guardOf, lenV, Data.len, retP, resV, retQ, rAs, rA, rA0, ownN, nodup, bares, bare, bare0, guardIs, callP, callS, argS, mAs, mA, mA0, mB0, allNotIn, impN, impB, impT, packS, delL, Op.operands, Call.operands, List.getD, List.getElem?_cons_zero, List.getElem?_cons_succ, Option.getD_some, List.set, List.map, List.toList_toArray, List.getElem?_toArray, Option.bind_some, true_and, and_true, and_self, implies_true, imp_self, eq_self, Bool.cond_true_left, List.append_toArray, List.nil_append, List.append_nil, Nat.reduceAdd, Bool.and_self]
  simp only [Bool.or_eq_true, decide_eq_true_eq, Bool.not_eq_true', gt_iff_lt]
  split
  · rename_i h
    have e : getE b.length at_ n = 2 := by
      unfold getE
      split
      · rename_i hs; unfold cutE; rw [if_pos]; rw [hs] at h; simp at h; omega
      · rfl
    simp [getV, e]
  · rename_i h
    have hs : szB n = true := by
      cases hs : szB n with
      | true => rfl
      | false => exact absurd (.inl (.inl hs)) h
    have hsz := szB_cases hs
    have h' : ¬ (at_ < 0 ∨ (b.length : Int) < at_) := by
      intro hc; apply h; rcases hc with h1 | h1
      · exact .inl (.inr h1)
      · exact .inr h1
    rw [w64 (by omega) (by omega)]
    split
    · rename_i h2
      have e : cutE b.length at_ n = 4 := by unfold cutE; rw [if_neg (by omega), if_pos h2]
      simp [getV, getE, hs, e]
    · rename_i h2
      have e : cutE b.length at_ n = 0 := by unfold cutE; rw [if_neg (by omega), if_neg h2]
      have e3 : cutL b at_ n = (b.drop at_.toNat).take n.toNat := by unfold cutL; rw [if_pos e]
      have e4 : ((cutL b at_ n).length : Int) = n := cutL_length_eq e
      have e5 : getV b at_ n = val (cutL b at_ n) := by simp [getV, getE, hs, e]
      have e6 : getE b.length at_ n = 0 := by simp [getE, hs, e]
      have hB' : Bytes (cutL b at_ n) := hB.cut at_ n
      have eg : ∀ i : Nat, i < (cutL b at_ n).length → b[(at_ + i).toNat]?.getD 0 = (cutL b at_ n)[i]?.getD 0 := by
        intro i hi
        rw [e3, List.getElem?_take_of_lt (by omega), List.getElem?_drop]
        congr 2; omega
      rw [e5, e6]
      generalize cutL b at_ n = l at *
      rw [w64 (by omega) (by omega)]
      refine loop_go (fun j => j ≤ l.length) (rGet_S 6 l.length b l at_) (fun j => j) l.length (Nat.le_refl _) ⟨?_, ?_, ?_⟩ ?_
      · simp [rGet_S]
      · simp [rGet_S, LeT, val]; omega
      · intro m x hx; simp [rGet_S, fnd] at hx
      · intro j hj ih
        refine absRun_ok TO 100 _ _ ?_
        simp only [rGet_S, pureOpC, unc, absRun, absOps, absOp, evO, constSV, ungd, gdP, gdPs, setD, binI, binV, ptrE, convV, T_ty, T_size, tTy, tSize, iaddrV, pureOp, loadV, known, elemV, Data.len, Data.esz, retP, resV, retQ, rAs, rA, rA0, ownN, nodup, bares, bare, bare0, Op.operands, List.getD, List.getElem?_cons_zero, List.getElem?_cons_succ, Option.getD_some, List.set, List.map, List.toList_toArray, exitTo, true_and, and_true, and_self, if_true, eq_self, ne_eq, not_false_eq_true, List.cons_append, List.nil_append, Nat.reduceLT, Nat.succ_ne_self, beq_self_eq_true, List.replicate_succ, List.replicate_zero, Bool.and_self]
        split
        · rename_i hc
          have hj1 : 1 ≤ j := by
            have : (j : Int) - 1 ≥ 0 := by simpa using hc
            omega
          obtain ⟨i, rfl⟩ : ∃ i, j = i + 1 := ⟨j - 1, by omega⟩
          have e8 : (((i + 1 : Nat) : Int) - 1) = i := by omega
          have hv := val_bounds (hB'.drop (i + 1))
          have hv0 := val_bounds (hB'.drop i)
          rw [List.length_drop] at hv hv0
          have hil : i < l.length := by omega
          have hg : l[i]?.getD 0 = l[i] := by simp [hil]
          have hb1 := hB' l[i] (List.getElem_mem hil)
          have hs1 : val (l.drop i) = l[i] + 256 * val (l.drop (i + 1)) := by
            rw [List.drop_eq_getElem_cons hil]; rfl
          have hp : (256 : Int) ^ (l.length - i) ≤ 18446744073709551616 := by
            have : l.length - i = 1 ∨ l.length - i = 2 ∨ l.length - i = 3 ∨ l.length - i = 4 ∨ l.length - i = 5 ∨ l.length - i = 6 ∨ l.length - i = 7 ∨ l.length - i = 8 := by omega
            rcases this with h | h | h | h | h | h | h | h <;> rw [h] <;> decide +kernel
          rw [e8]
          have f1 : IntKind.i64.wrap (at_ + (i : Int)) = at_ + i := w64 (by omega) (by omega)
          have f2 : IntKind.i64.wrap ((i : Int) - 1) = i - 1 := w64 (by omega) (by omega)
          have f3 : IntKind.u64.wrap (256 * val (l.drop (i + 1))) = 256 * val (l.drop (i + 1)) := wu64 (by omega) (by omega)
          have f4 : IntKind.u64.wrap l[i] = l[i] := wu64 (by omega) (by omega)
          simp only [f1, f2, f3, eg i hil, hg, f4]
          rw [Int.add_comm (256 * _), ← hs1, wu64 (by omega) (by omega)]
          refine ⟨⟨by omega, by omega⟩, ih i _ (by omega) (by omega) ?_ ?_ ?_⟩
          · simp [rGet_S]; omega
          · simp [rGet_S, LeT]
          · intro m x hx; simp [rGet_S, fnd] at hx
        · rename_i hc
          have : ¬ (j : Int) - 1 ≥ 0 := by simpa using hc
          obtain rfl : j = 0 := by omega
          rfl
end Go.Proofs.YtdhnjmepgafeiaaDoor.Abs

/- What ends.Pad and the document's Pad answer. -/
set_option linter.unusedVariables false
set_option linter.unusedSimpArgs false
set_option maxRecDepth 100000
namespace Go.Proofs.YtdhnjmepgafeiaaDoor.Abs
open Go Go.Proofs


theorem Pad_meets (b : List Int) (hb : b.length ≤ 140737488351240) : Meets Tryd.prog 33 [.v (.view false (.ints .u8 b))] [.own (.ints .u8 (padL b))] := by
  refine meets_go TO 100 Tryd.func33 rfl (fun X => ?_)
  simp only [Tryd.ntmps33, Tryd.results33, pureOpC, unc, svs, blks, AV.sv, absRun, absOps, absOp, evO, constSV, ungd, gdP, gdPs, setD, binI, binV, ptrE, T_ty, T_size, T_bytes, T_zero, tTy, tSize, tBytes, tZero, pureOp, memOp, lenV, newV, notIn, dataOf, zI, blkAt, fnd, upd, Data.len, Data.esz, Lim.add, retP, resV, retQ, rAs, rA, ownN, nodup, bares, bare, bareD, Op.operands, Call.operands, List.getD, List.getElem?_cons_zero, List.getElem?_cons_succ, Option.getD_some, List.set, List.map, List.toList_toArray, true_and, and_true, and_self, if_true, eq_self, Nat.zero_add, Int.cast_ofNat_Int, List.append_toArray, List.cons_append, List.nil_append, List.length_cons, List.length_nil, Nat.reduceAdd, Nat.reduceSub, List.replicate_succ, List.replicate_zero, Bool.and_self, Data.ints.injEq]
  have hp := padN_le b.length
  have e : bitsI .andNot .i64 (IntKind.i64.wrap ((b.length : Int) + 7)) 7 = padN b.length := by
    rw [w64 (by omega) (by omega), andNot7 (by omega) (by omega)]
    unfold padN; omega
  simp only [e, Int.toNat_natCast]
  refine ⟨⟨by omega, by omega, by omega⟩, by simp, ?_, by rw [padL_length]⟩
  unfold overI padL
  simp [Nat.min_eq_left hp.1]

def rPad_S (b : List Int) (i : Nat) : St := match i with
  | 0 => ⟨[.any, .any, .any, .sl 6 4 0 1 0 b.length] ++ List.replicate 11 .any, [(6, 4, .vec (.ints .u8 b))], ⟨4, [6], 0⟩⟩
  | i + 1 => ⟨[.any, .any, .any, .sl 13 (6 + 2 * i) 0 1 0 (b.length + (i + 1))] ++ List.replicate 11 .any, [(13, 6 + 2 * i, .vec (.ints .u8 (b ++ List.replicate (i + 1) 0)))], ⟨6 + 2 * i, [13, 12], 0⟩⟩

theorem rPad_meets (b : List Int) (hb : b.length ≤ 140737488351240) : Meets Tryd.prog 36 [.v (.view false (.ints .u8 b))] [.own (.ints .u8 (padL b))] := by
  refine meets_go TO 100 Tryd.func36 rfl (fun X => ?_)
  simp only [Tryd.ntmps36, Tryd.results36, pureOpC, unc, fitT, svs, blks, AV.sv, absRun, absOps, absOp, evO, constSV, ungd, gdP, gdPs, setD, T_ty, T_size, T_bytes, T_zero, tTy, tSize, tBytes, tZero, pureOp, memOp, notIn, dataOf, isSrc, zI, upd, Data.len, Data.esz, Lim.add, Op.operands, Call.operands, List.getD, List.getElem?_cons_zero, List.getElem?_cons_succ, Option.getD_some, List.set, List.toList_toArray, true_and, and_self, eq_self, Nat.zero_add, List.append_toArray, List.cons_append, List.nil_append, List.length_cons, List.length_nil, Nat.reduceAdd, Nat.reduceSub, List.replicate_succ, List.replicate_zero]
  refine ⟨by omega, ?_⟩
  have hp := padN_le b.length
  refine loop_go (fun i => b.length + i ≤ padN b.length) (rPad_S b) (fun i => padN b.length - (b.length + i)) 0 hp.1 ⟨rfl, ?_, ?_⟩ ?_
  · simp [rPad_S, LeT]
  · intro m x hx; simpa [rPad_S, fnd] using hx
  · intro i hi ih
    refine absRun_ok TO 100 _ _ ?_
    have hdone : ∀ m : Nat, b.length + m ≤ padN b.length → (b.length + m) % 8 = 0 → m = padN b.length - b.length := by
      intro m h1 h2; omega
    have hmore : ∀ m : Nat, b.length + m ≤ padN b.length → ¬ (b.length + m) % 8 = 0 → b.length + (m + 1) ≤ padN b.length := by
      intro m h1 h2; omega
    have hrem : ∀ m : Nat, (remI ((m : Nat) : Int) 8 != 0) = decide (¬ m % 8 = 0) := by
      intro m
      have : remI ((m : Nat) : Int) 8 = ((m % 8 : Nat) : Int) := by unfold remI; rw [Int.tmod_eq_emod_of_nonneg (by omega)]; rfl
      rw [this, Bool.eq_iff_iff]; simp only [bne_iff_ne, ne_eq, decide_eq_true_eq]; omega
    cases i with
    | zero =>
      simp only [rPad_S, List.take_succ_cons, List.take_zero, List.drop_zero, pureOpC, unc, fitT, absRun, absOps, absOp, evO, constSV, ungd, gdP, gdPs, setD, binI, binV, ptrE, T_ty, T_size, T_bytes, T_zero, tTy, tSize, tBytes, tZero, pureOp, memOp, lenV, newV, notIn, dataOf, appD, isSrc, elemsOf, intsOf, zI, blkAt, fnd, upd, del, mv, Data.len, Data.esz, Data.sub, Lim.add, retP, resV, retQ, rAs, rA, ownN, nodup, bares, bare, bareD, Op.operands, Call.operands, List.getD, List.getElem?_cons_zero, List.getElem?_cons_succ, Option.getD_some, List.set, List.map, List.toList_toArray, Option.map_some, exitTo, true_and, and_true, and_self, if_true, if_false, eq_self, ne_eq, Nat.zero_add, Nat.le_refl, List.append_toArray, List.cons_append, List.nil_append, List.length_cons, List.length_nil, Nat.reduceAdd, Nat.reduceEqDiff, Nat.reduceLeDiff, Nat.succ_ne_self, beq_self_eq_true, List.replicate_succ, List.replicate_zero, Bool.and_self, Data.ints.injEq]
      rw [hrem]
      refine ⟨by omega, ?_⟩
      split
      · rename_i hc
        have hc' : ¬ (b.length + 0) % 8 = 0 := by simpa using hc
        refine ⟨by omega, ih 1 _ (hmore 0 hi hc') (by have := hmore 0 hi hc'; omega) ?_ ?_ ?_⟩
        · simp [rPad_S]
        · simp [rPad_S, LeT]
        · intro m x hx
          simp only [rPad_S, fnd] at hx ⊢
          split at hx
          · rename_i e; subst e; simpa using hx
          · cases hx
      · rename_i hc
        have hc' : (b.length + 0) % 8 = 0 := by simpa using hc
        have h0 := hdone 0 hi hc'
        have e : padL b = b := by simp [padL, ← h0]
        rw [e]; exact ⟨rfl, rfl⟩
    | succ i =>
      simp only [rPad_S, List.take_succ_cons, List.take_zero, List.drop_zero, pureOpC, unc, fitT, absRun, absOps, absOp, evO, constSV, ungd, gdP, gdPs, setD, binI, binV, ptrE, T_ty, T_size, T_bytes, T_zero, tTy, tSize, tBytes, tZero, pureOp, memOp, lenV, newV, notIn, dataOf, appD, isSrc, elemsOf, intsOf, zI, blkAt, fnd, upd, del, mv, Data.len, Data.esz, Data.sub, Lim.add, retP, resV, retQ, rAs, rA, ownN, nodup, bares, bare, bareD, Op.operands, Call.operands, List.getD, List.getElem?_cons_zero, List.getElem?_cons_succ, Option.getD_some, List.set, List.map, List.toList_toArray, Option.map_some, exitTo, true_and, and_true, and_self, if_true, if_false, eq_self, ne_eq, Nat.zero_add, Nat.le_refl, List.append_toArray, List.cons_append, List.nil_append, List.length_cons, List.length_nil, Nat.reduceEqDiff, Nat.reduceLeDiff, Nat.succ_ne_self, beq_self_eq_true, List.replicate_succ, List.replicate_zero, Bool.and_self, Data.ints.injEq]
      rw [hrem]
      rw [← List.replicate_succ]
      refine ⟨by omega, ?_⟩
      split
      · rename_i hc
        have hc' : ¬ (b.length + (i + 1)) % 8 = 0 := by simpa using hc
        have hm := hmore (i + 1) hi hc'
        refine ⟨⟨by simp, by omega, by omega⟩, ih (i + 2) _ hm (by omega) ?_ ?_ ?_⟩
        · simp [rPad_S]; omega
        · simp [rPad_S, LeT]; omega
        · intro m x hx
          simp only [rPad_S, fnd] at hx ⊢
          split at hx
          · rename_i e; subst e
            rw [show 6 + 2 * i + 1 + 1 = 6 + 2 * (i + 1) by omega]
            simpa [List.replicate_succ', List.append_assoc] using hx
          · cases hx
      · rename_i hc
        have hc' : (b.length + (i + 1)) % 8 = 0 := by simpa using hc
        have h0 := hdone (i + 1) hi hc'
        have e : padL b = b ++ List.replicate (i + 1) 0 := by simp only [padL, ← h0]
        rw [e]; exact ⟨rfl, by simp⟩

end Go.Proofs.YtdhnjmepgafeiaaDoor.Abs

/- Same answers whether two rows of bytes are alike. -/
set_option linter.unusedVariables false
set_option linter.unusedSimpArgs false
set_option maxRecDepth 100000
namespace Go.Proofs.YtdhnjmepgafeiaaDoor.Abs
open Go Go.Proofs

theorem mixed_ok : Tryd.prog.follows .mixedOrders = true := by decide +kernel

def Same_S (a b : List Int) (i : Nat) : St := ⟨[.view false (.ints .u8 a), .view false (.ints .u8 b), .any, .any, .any, .int .i64 i] ++ List.replicate 20 .any, [], ⟨4 + 3 * i, [], 0⟩⟩

theorem Same_meets (a b : List Int) (ha : a.length ≤ 140737488351232) : Meets Tryd.prog 11 [.v (.view false (.ints .u8 a)), .v (.view false (.ints .u8 b))] [.v (.bool (decide (a = b)))] := by
  refine meets_go TO 100 Tryd.func11 rfl (fun X => ?_)
  simp only [Tryd.ntmps11, Tryd.results11, pureOpC, unc, svs, blks, AV.sv, absRun, absOps, absOp, evO, constSV, ungd, gdP, gdPs, setD, binI, binV, ptrE, T_ty, tTy, pureOp, lenV, Data.len, retP, resV, retQ, rAs, rA, rA0, ownN, nodup, bares, bare, bare0, Op.operands, Call.operands, List.getD, List.getElem?_cons_zero, List.getElem?_cons_succ, Option.getD_some, List.set, List.map, List.toList_toArray, true_and, and_true, and_self, eq_self, Nat.zero_add, List.append_toArray, List.cons_append, List.nil_append, List.length_cons, List.length_nil, Nat.reduceAdd, Nat.reduceSub, List.replicate_succ, List.replicate_zero, Bool.and_self]
  split
  · rename_i h
    simp only [bne_iff_ne, ne_eq, Int.natCast_inj] at h
    simp; intro e; exact h (by rw [e])
  · rename_i h
    have hl : a.length = b.length := by simp at h; omega
    refine loop_go (fun i => i ≤ a.length ∧ a.take i = b.take i) (Same_S a b) (fun i => a.length - i) 0 ⟨by omega, by simp⟩ ⟨rfl, ?_, ?_⟩ ?_
    · simp [Same_S, LeT]
    · intro n x hx; simp [Same_S, fnd] at hx
    · rintro i ⟨hi, ht⟩ ih
      refine absRun_ok TO 100 _ _ ?_
      simp only [Same_S, pureOpC, unc, absRun, absOps, absOp, evO, constSV, ungd, gdP, gdPs, setD, binI, binV, ptrE, T_ty, tTy, pureOp, lenV, Data.len, retP, resV, retQ, rAs, rA, rA0, ownN, nodup, bares, bare, bare0, Op.operands, Call.operands, List.getD, List.getElem?_cons_zero, List.getElem?_cons_succ, Option.getD_some, List.set, List.map, List.toList_toArray, exitTo, true_and, and_true, and_self, if_true, eq_self, List.append_toArray, List.cons_append, List.nil_append, beq_self_eq_true, List.replicate_succ, List.replicate_zero, Bool.and_self]
      split
      · rename_i h
        have h' : i < a.length := by simpa using h
        refine draw_go TO 9 100 mixed_ok (by decide +kernel) ?_
        simp only [List.take_succ_cons, List.take_zero, List.drop_succ_cons, List.drop_zero, pureOpC, unc, isEff, absD, pureStep, absRun, absOps, absOp, evO, constSV, ungd, gdP, gdPs, setD, binI, binV, ptrE, binS, T_ty, T_size, tTy, tSize, iaddrV, pureOp, memOp, loadV, elemV, Data.len, Data.esz, retP, resV, retQ, rAs, rA, rA0, ownN, nodup, bares, bare, bare0, Op.operands, List.getD, List.getElem?_cons_zero, List.getElem?_cons_succ, Option.getD_some, List.set, List.map, List.toList_toArray, true_and, and_true, and_self, implies_true, imp_self, eq_self, ne_eq, not_false_eq_true, forall_const, reduceCtorEq, Int.toNat_natCast, Nat.reduceLT, Nat.succ_ne_self, Bool.and_self, Int.toNat_natCast]
        refine ⟨⟨by omega, by omega⟩, ⟨by omega, by omega⟩, ?_⟩
        have hb' : i < b.length := by omega
        have ea : a[i]?.getD 0 = a[i] := by simp [h']
        have eb : b[i]?.getD 0 = b[i] := by simp [hb']
        rw [ea, eb]
        split
        · rename_i hn
          simp only [bne_iff_ne, ne_eq] at hn
          have : ¬ a = b := by rintro rfl; exact hn rfl
          simp [this]
        · rename_i hn
          have hn' : a[i] = b[i] := by simpa using hn
          rw [w64 (by omega) (by omega)]
          refine ih (i + 1) _ ⟨by omega, ?_⟩ (by omega) ?_ ?_ ?_
          · rw [List.take_add_one, List.take_add_one, ht, List.getElem?_eq_getElem h', List.getElem?_eq_getElem hb', hn']
          · simp [Same_S]; omega
          · simp [Same_S, LeT]
          · intro n x hx; simp [Same_S, fnd] at hx
      · rename_i h
        have h' : ¬ i < a.length := by simpa using h
        have e : i = a.length := by omega
        subst e
        have : a = b := by
          rw [List.take_length, hl, List.take_length] at ht; exact ht
        simp [this]
end Go.Proofs.YtdhnjmepgafeiaaDoor.Abs

/- Room behind bytes: Wide is walked into, whatever stands around; so is Left. -/
set_option linter.unusedVariables false
set_option linter.unusedSimpArgs false
set_option maxRecDepth 100000
namespace Go.Proofs.YtdhnjmepgafeiaaDoor.Abs
open Go Go.Proofs

theorem wideL (b : List Int) : (((overI (List.replicate (b.length + 3) 0) 0 (b.length + 3) b).set b.length 7).set (b.length + 1) 7).set (b.length + 2) 7 = b ++ [7, 7, 7] := by
  have e : overI (List.replicate (b.length + 3) 0) 0 (b.length + 3) b = b ++ [0, 0, 0] := by
    unfold overI
    rw [show min b.length (b.length + 3) = b.length by omega, List.take_zero, List.nil_append, List.take_length, Nat.zero_add, List.drop_replicate, show b.length + 3 - b.length = 3 by omega]
    rfl
  rw [e, List.set_append_right _ _ (Nat.le_refl _), List.set_append_right _ _ (by omega), List.set_append_right _ _ (by omega), Nat.sub_self, show b.length + 1 - b.length = 1 by omega, show b.length + 2 - b.length = 2 by omega]
  rfl

end Go.Proofs.YtdhnjmepgafeiaaDoor.Abs
