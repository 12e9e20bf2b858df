/- Joined: E0 F1 F2 F3 F4 F5 F13 W0. -/
import Derived.Test.YtakgefinmlomdaaDoorB5
import Derived.Test.YtakgefinmlomdaaDoorT
/- PLAIN LAWS for numbers as bytes. -/
set_option linter.unusedVariables false
namespace Go.Proofs.YtakgefinmlomdaaDoor.Abs
open Go

/-- Slots, of which some are told. -/
def tl (n : Nat) : Nat → List (Nat × SV) → List SV
  | i, [] => List.replicate (n - i) .any
  | i, (p, x) :: r => List.replicate (p - i) .any ++ x :: tl n (p + 1) r

theorem w64 {x : Int} (h0 : -9223372036854775808 ≤ x) (h1 : x ≤ 9223372036854775807) : IntKind.i64.wrap x = x := by
  rw [IntKind.wrap_i64]; omega

/-- Is it a size? -/
def szB (n : Int) : Bool := n == 1 || n == 2 || n == 4 || n == 8

/-- What cutting bytes at a place answers. -/
def cutE (len : Nat) (at_ n : Int) : Int := if at_ < 0 ∨ (len : Int) < at_ ∨ n < 0 then 2 else if (len : Int) - at_ < n then 4 else 0
def cutL (b : List Int) (at_ n : Int) : List Int := if cutE b.length at_ n = 0 then (b.drop at_.toNat).take n.toNat else []

theorem cutE_zero {len : Nat} {at_ n : Int} (h : cutE len at_ n = 0) : 0 ≤ at_ ∧ at_ ≤ len ∧ 0 ≤ n ∧ n ≤ (len : Int) - at_ := by
  unfold cutE at h
  split at h
  · simp at h
  · split at h
    · simp at h
    · omega

theorem cutL_length (b : List Int) (at_ n : Int) : (cutL b at_ n).length ≤ b.length := by
  unfold cutL; split
  · simp; omega
  · simp

theorem cutL_length_eq {b : List Int} {at_ n : Int} (h : cutE b.length at_ n = 0) : ((cutL b at_ n).length : Int) = n := by
  have := cutE_zero h
  unfold cutL; rw [if_pos h]
  simp; omega

/-- Bytes, as a number, the lowest first. -/
def val : List Int → Int
  | [] => 0
  | c :: l => c + 256 * val l

def Bytes (l : List Int) : Prop := ∀ x ∈ l, 0 ≤ x ∧ x < 256

theorem Bytes.drop {l : List Int} (h : Bytes l) (n : Nat) : Bytes (l.drop n) := fun x hx => h x (List.mem_of_mem_drop hx)
theorem Bytes.take {l : List Int} (h : Bytes l) (n : Nat) : Bytes (l.take n) := fun x hx => h x (List.mem_of_mem_take hx)
theorem Bytes.cut {l : List Int} (h : Bytes l) (at_ n : Int) : Bytes (cutL l at_ n) := by
  unfold cutL; split
  · exact (h.drop _).take _
  · intro x hx; simp at hx
theorem Bytes.app {l m : List Int} (h : Bytes l) (k : Bytes m) : Bytes (l ++ m) := fun x hx => (List.mem_append.1 hx).elim (h x) (k x)
theorem Bytes.getD {l : List Int} (h : Bytes l) (i : Nat) : 0 ≤ l.getD i 0 ∧ l.getD i 0 < 256 := by
  by_cases hi : i < l.length
  · have : l.getD i 0 = l[i] := by simp [List.getD, hi]
    rw [this]; exact h _ (List.getElem_mem hi)
  · have : l.getD i 0 = 0 := by simp [List.getD, List.getElem?_eq_none (Nat.le_of_not_lt hi)]
    rw [this]; omega

/-- The bytes of a number, so many. -/
def digs : Nat → Int → List Int
  | 0, _ => []
  | k + 1, n => n % 256 :: digs k (n / 256)

theorem digs_length (k : Nat) (n : Int) : (digs k n).length = k := by
  induction k generalizing n with
  | zero => rfl
  | succ k ih => simp [digs, ih]

theorem digs_bytes (k : Nat) (n : Int) : Bytes (digs k n) := by
  induction k generalizing n with
  | zero => intro x hx; simp [digs] at hx
  | succ k ih =>
    intro x hx
    rcases List.mem_cons.1 hx with rfl | hx
    · omega
    · exact ih _ x hx

theorem val_bounds {l : List Int} (h : Bytes l) : 0 ≤ val l ∧ val l < 256 ^ l.length := by
  induction l with
  | nil => simp [val]
  | cons c l ih =>
    have hc := h c (by simp)
    have hl := ih (fun x hx => h x (by simp [hx]))
    simp only [val, List.length_cons, Int.pow_succ]
    omega

theorem val_snoc (l : List Int) (c : Int) : val (l ++ [c]) = val l + c * 256 ^ l.length := by
  induction l with
  | nil => simp [val]
  | cons d l ih =>
    simp only [List.cons_append, val, ih, List.length_cons, Int.pow_succ, Int.mul_add]
    rw [Int.mul_comm (256 ^ l.length) 256, ← Int.mul_assoc c, Int.mul_comm c 256, Int.mul_assoc]
    omega

theorem digs_val {l : List Int} (h : Bytes l) : digs l.length (val l) = l := by
  induction l with
  | nil => rfl
  | cons c l ih =>
    have hc := h c (by simp)
    simp only [List.length_cons, digs, val]
    rw [show (c + 256 * val l) % 256 = c by omega, show (c + 256 * val l) / 256 = val l by omega, ih (fun x hx => h x (by simp [hx]))]

theorem val_digs (k : Nat) (n : Int) (h0 : 0 ≤ n) (h : n < 256 ^ k) : val (digs k n) = n := by
  induction k generalizing n with
  | zero => simp [digs, val] at h ⊢; omega
  | succ k ih =>
    simp only [digs, val]
    rw [ih (n / 256) (by omega) (by rw [Int.pow_succ] at h; omega)]
    omega

theorem digs_snoc (k : Nat) (n : Int) : digs (k + 1) n = digs k n ++ [n / 256 ^ k % 256] := by
  induction k generalizing n with
  | zero => simp [digs]
  | succ k ih =>
    rw [digs, ih (n / 256)]
    simp only [digs, List.cons_append]
    rw [Int.ediv_ediv_of_nonneg (by omega), Int.pow_succ, Int.mul_comm (256 ^ k) 256]

/-- What putting a number in so many bytes answers. -/
def putE (n size : Int) : Int := if szB size = true ∧ n < 256 ^ size.toNat then 0 else 2
def putL (n size : Int) : List Int := if putE n size = 0 then digs size.toNat n else []

theorem szB_cases {n : Int} (h : szB n = true) : n = 1 ∨ n = 2 ∨ n = 4 ∨ n = 8 := by
  simp only [szB, Bool.or_eq_true, beq_iff_eq] at h; omega

theorem wu8 (x : Int) : IntKind.u8.wrap x = x % 256 := by rw [IntKind.wrap_u8]
theorem wu64 {x : Int} (h0 : 0 ≤ x) (h : x < 18446744073709551616) : IntKind.u64.wrap x = x := by rw [IntKind.wrap_u64]; omega

theorem fdiv_pow (n : Int) (i : Nat) : n.fdiv (2 ^ (8 * i)) = n / 256 ^ i := by
  rw [Int.pow_mul, Int.fdiv_eq_ediv_of_nonneg _ (Int.le_of_lt (Int.pow_pos (by decide)))]
  rfl

theorem shr_bytes (n : Int) (k : Nat) (hk : k ≤ 8) : shrI .u64 n (8 * (k : Int)) = n / 256 ^ k := by
  unfold shrI
  rw [show min (8 * (k : Int)).toNat IntKind.u64.bits = 8 * k by
    have : IntKind.u64.bits = 64 := rfl
    omega, fdiv_pow]

theorem div_zero_iff {n d : Int} (h0 : 0 ≤ n) (hk : 0 < d) : n / d = 0 ↔ n < d :=
  ⟨fun h => by have := Int.lt_ediv_add_one_mul_self n hk; rw [h] at this; simpa using this, fun h => Int.ediv_eq_zero_of_lt h0 h⟩

theorem set_digs {n : Int} {i k : Nat} (h : i < k) : (digs i n ++ List.replicate (k - i) 0).set i (n / 256 ^ i % 256) = digs (i + 1) n ++ List.replicate (k - (i + 1)) 0 := by
  obtain ⟨r, hr⟩ : ∃ r, k - i = r + 1 := ⟨k - i - 1, by omega⟩
  rw [hr, show k - (i + 1) = r by omega, digs_snoc, List.replicate_succ, List.set_append_right _ _ (by rw [digs_length]; exact Nat.le_refl _), digs_length]
  simp

theorem rem_byte {n : Int} (h0 : 0 ≤ n) : remI n 256 = n % 256 := by unfold remI; exact Int.tmod_eq_emod_of_nonneg h0
theorem quo_byte {n : Int} (h0 : 0 ≤ n) (hn : n < 18446744073709551616) : quoI .u64 n 256 = n / 256 := by
  unfold quoI
  rw [Int.tdiv_eq_ediv_of_nonneg h0, wu64 (by omega) (by omega)]
theorem mod_byte (n : Int) : n % 256 % 256 = n % 256 := by omega
theorem pow_byte (n : Int) (i : Nat) : n / 256 ^ i / 256 = n / 256 ^ (i + 1) := by
  rw [Int.ediv_ediv_of_nonneg (Int.le_of_lt (Int.pow_pos (by decide))), Int.pow_succ]
theorem div_lt {n b : Int} (h0 : 0 ≤ n) (hn : n < b) (i : Nat) : 0 ≤ n / 256 ^ i ∧ n / 256 ^ i < b := by
  have hk : 0 < (256 : Int) ^ i := Int.pow_pos (by decide)
  refine ⟨Int.ediv_nonneg h0 (Int.le_of_lt hk), Int.lt_of_le_of_lt (Int.ediv_le_self _ h0) hn⟩

def getE (len : Nat) (at_ n : Int) : Int := if szB n = true then cutE len at_ n else 2
def getV (b : List Int) (at_ n : Int) : Int := if getE b.length at_ n = 0 then val (cutL b at_ n) else 0

theorem ofInt_toNat {a : Int} (h0 : 0 ≤ a) (h : a < 18446744073709551616) : (BitVec.ofInt 64 a).toNat = a.toNat := by
  rw [BitVec.toNat_ofInt, show ((2 ^ 64 : Nat) : Int) = 18446744073709551616 from rfl, Int.emod_eq_of_lt h0 h]

theorem or_bytes {a c : Int} {i : Nat} (h0 : 0 ≤ a) (h : a < 256 ^ i) (c0 : 0 ≤ c) (hc : c < 256) (hi : i < 8) :
    bitsI .or .u64 a (shlI .u64 (IntKind.u64.wrap c) (8 * (i : Int))) = a + c * 256 ^ i := by
  have hp : (256 : Int) ^ i * 256 ≤ 18446744073709551616 := by
    have : i = 0 ∨ i = 1 ∨ i = 2 ∨ i = 3 ∨ i = 4 ∨ i = 5 ∨ i = 6 ∨ i = 7 := by omega
    rcases this with rfl | rfl | rfl | rfl | rfl | rfl | rfl | rfl <;> decide +kernel
  have hk : 0 < (256 : Int) ^ i := Int.pow_pos (by decide)
  have hcm : c * 256 ^ i ≤ 255 * 256 ^ i := Int.mul_le_mul_of_nonneg_right (by omega) (by omega)
  have hcm0 : 0 ≤ c * 256 ^ i := Int.mul_nonneg c0 (by omega)
  have e0 : IntKind.u64.wrap c = c := wu64 c0 (by omega)
  have e1 : shlI .u64 c (8 * (i : Int)) = c * 256 ^ i := by
    unfold shlI
    rw [show min (8 * (i : Int)).toNat IntKind.u64.bits = 8 * i by
      have : IntKind.u64.bits = 64 := rfl
      omega, Int.pow_mul]
    exact wu64 hcm0 (by simp only [show ((2 : Int) ^ 8) = 256 from rfl]; omega)
  rw [e0, e1]
  unfold bitsI
  have e2 : (BitVec.ofInt IntKind.u64.bits a ||| BitVec.ofInt IntKind.u64.bits (c * 256 ^ i)).toNat = (a + c * 256 ^ i).toNat := by
    rw [BitVec.toNat_or]
    have : IntKind.u64.bits = 64 := rfl
    rw [this, ofInt_toNat h0 (by omega), ofInt_toNat hcm0 (by omega)]
    obtain ⟨x, rfl⟩ := Int.eq_ofNat_of_zero_le h0
    obtain ⟨y, rfl⟩ := Int.eq_ofNat_of_zero_le c0
    have h2 : x < 2 ^ (8 * i) := by
      rw [Nat.pow_mul]
      have : ((x : Nat) : Int) < ((256 ^ i : Nat) : Int) := by simpa using h
      exact_mod_cast this
    have e3 : ((y : Int) * 256 ^ i).toNat = 2 ^ (8 * i) * y := by
      rw [Nat.pow_mul, Nat.mul_comm]
      have : ((y : Int) * 256 ^ i) = ((y * 256 ^ i : Nat) : Int) := by rw [Int.natCast_mul, Int.natCast_pow]; rfl
      rw [this]; rfl
    have e4 : ((x : Int) + (y : Int) * 256 ^ i).toNat = 2 ^ (8 * i) * y + x := by
      rw [Nat.pow_mul, Nat.mul_comm]
      have : ((x : Int) + (y : Int) * 256 ^ i) = ((y * 256 ^ i + x : Nat) : Int) := by rw [Int.natCast_add, Int.natCast_mul, Int.natCast_pow, Int.add_comm]; rfl
      rw [this]; rfl
    rw [e3, e4, Nat.two_pow_add_eq_or_of_lt h2, Nat.or_comm]
    rfl
  simp only [e2]
  rw [Int.toNat_of_nonneg (by omega)]
  exact wu64 (by omega) (by omega)

/-- Are the bytes of a part all 0? -/
def zeroB (b : List Int) (at_ n : Int) : Bool := cutE b.length at_ n == 0 && (cutL b at_ n).all (· == 0)

def orAll (l : List Int) : Int := l.foldl (fun a c => bitsI .or .u8 a c) 0

/-- Padded to a multiple of 8. -/
def padN (n : Nat) : Nat := (n + 7) / 8 * 8
def padL (b : List Int) : List Int := b ++ List.replicate (padN b.length - b.length) 0

theorem cutE_ok {len : Nat} {at_ n : Int} (h0 : 0 ≤ at_) (h1 : 0 ≤ n) (h2 : at_ + n ≤ len) : cutE len at_ n = 0 := by
  unfold cutE; rw [if_neg (by omega), if_neg (by omega)]

theorem cutL_ok {b : List Int} {at_ n : Int} (h0 : 0 ≤ at_) (h1 : 0 ≤ n) (h2 : at_ + n ≤ b.length) : cutL b at_ n = (b.drop at_.toNat).take n.toNat := by
  unfold cutL; rw [if_pos (cutE_ok h0 h1 h2)]

end Go.Proofs.YtakgefinmlomdaaDoor.Abs

/- What ends.isSize, ref.Size and ends.Put answer, for every number and size. -/
set_option linter.unusedVariables false
set_option linter.unusedSimpArgs false
set_option maxRecDepth 100000
namespace Go.Proofs.YtakgefinmlomdaaDoor.Abs
open Go Go.Proofs

theorem isSize_meets (n : Int) : Meets Tryd.prog 72 [.v (.int .i64 n)] [.v (.bool (szB n))] := by
  refine meets_go TO 100 Tryd.func72 rfl (fun X => ?_)
  simp only [Tryd.ntmps72, Tryd.results72, pureOpC, unc, svs, blks, AV.sv, absRun, absOps, absOp, evO, constSV, ungd, gdP, gdPs, setD, binI, binV, ptrE, pickV, pureOp, guardOf, retP, resV, retQ, rAs, rA, rA0, ownN, nodup, bares, bare, bare0, Op.operands, List.getD, List.getElem?_cons_zero, List.getElem?_cons_succ, Option.getD_some, List.set, List.map, List.toList_toArray, List.getElem?_toArray, Option.bind_some, true_and, and_true, and_self, implies_true, imp_self, eq_self, Nat.zero_add, Bool.cond_true_left, List.cons_append, List.nil_append, List.length_cons, List.length_nil, Nat.reduceAdd, Nat.reduceSub, List.replicate_succ, List.replicate_zero, Bool.and_self]
  by_cases h1 : n = 1 <;> by_cases h2 : n = 2 <;> by_cases h3 : n = 4 <;> by_cases h4 : n = 8 <;> simp [szB, h1, h2, h3, h4] <;> omega

theorem Size_meets (n : Int) : Meets Tryd.prog 73 [.v (.int .i64 n)] [.v (.bool (szB n))] := by
  refine meets_go TO 100 Tryd.func73 rfl (fun X => ?_)
  simp only [Tryd.ntmps73, Tryd.results73, pureOpC, unc, svs, blks, AV.sv, absRun, absOps, absOp, evO, constSV, ungd, gdP, gdPs, setD, binI, binV, ptrE, pickV, pureOp, guardOf, retP, resV, retQ, rAs, rA, rA0, ownN, nodup, bares, bare, bare0, Op.operands, List.getD, List.getElem?_cons_zero, List.getElem?_cons_succ, Option.getD_some, List.set, List.map, List.toList_toArray, List.getElem?_toArray, Option.bind_some, true_and, and_true, and_self, implies_true, imp_self, eq_self, Nat.zero_add, Bool.cond_true_left, List.cons_append, List.nil_append, List.length_cons, List.length_nil, Nat.reduceAdd, Nat.reduceSub, List.replicate_succ, List.replicate_zero, Bool.and_self]
  by_cases h1 : n = 1 <;> by_cases h2 : n = 2 <;> by_cases h3 : n = 4 <;> by_cases h4 : n = 8 <;> simp [szB, h1, h2, h3, h4] <;> omega

def Put_S (n : Int) (k i : Nat) : St := ⟨[.int .u64 n, .any, .any, .any, .any, .any, .slc 24 4 1 k k] ++ List.replicate 19 .any ++ [.int .i64 k, .int .i64 i] ++ List.replicate 13 .any,
  [(24, 4, .vec (.ints .u8 (digs i n ++ List.replicate (k - i) 0)))], ⟨5 + 4 * i, [], 0⟩⟩

theorem Put_meets (n size : Int) (h0 : 0 ≤ n) (hn : n < 18446744073709551616) : Meets Tryd.prog 60 [.v (.int .u64 n), .v (.int .i64 size)] [.own (.ints .u8 (putL n size)), .v (.int .i64 (putE n size))] := by
  refine meets_go TO 100 Tryd.func60 rfl (fun X => ?_)
  simp only [Tryd.ntmps60, Tryd.results60, pureOpC, svs, blks, AV.sv, absRun, absOps, absOp, evO, constSV, ungd, gdP, gdPs, setD, pureOp, memOp, Op.operands, List.getD, List.getElem?_cons_zero, List.getElem?_cons_succ, Option.getD_some, List.set, List.toList_toArray, true_and, and_self, Nat.zero_add, List.cons_append, List.nil_append, List.length_cons, List.length_nil, Nat.reduceAdd, Nat.reduceSub, List.replicate_succ, List.replicate_zero]
  refine call_go TO 100 (isSize_meets size) Tryd.func72 (by decide +kernel) rfl rfl rfl ?_
  simp only [pureOpC, unc, absRun, absOps, absOp, evO, constSV, ungd, gdP, gdPs, setD, binI, binV, ptrE, unV, convV, T_ty, T_size, T_bytes, T_zero, tTy, tSize, tBytes, tZero, pickV, pureOp, guardOf, memOp, lenV, newV, notIn, zI, known, blkAt, fnd, upd, Data.len, Lim.add, retP, resV, retQ, rAs, rA, rA0, ownN, nodup, bares, bare, bare0, bareD, guardIs, callP, callS, argS, mAs, mA, mA0, mB0, allNotIn, impN, impB, impT, packS, delL, Op.operands, Call.operands, List.getD, List.getElem?_cons_zero, List.getElem?_cons_succ, Option.getD_some, List.set, List.map, List.toList_toArray, List.getElem?_toArray, Option.bind_some, true_and, and_true, and_self, implies_true, imp_self, if_true, eq_self, Nat.zero_add, Int.cast_ofNat_Int, Bool.cond_true_left, Bool.cond_false_right, List.append_toArray, List.nil_append, List.append_nil, Nat.reduceAdd, Bool.and_self]
  cases hs : szB size with
  | false =>
    have e : putE n size = 2 := by simp [putE, hs]
    simp [putL, e]
  | true =>
    have hsz := szB_cases hs
    obtain ⟨k, rfl⟩ : ∃ k : Nat, size = k := ⟨size.toNat, by omega⟩
    have e1 : IntKind.i64.wrap (8 * (k : Int)) = 8 * k := w64 (by omega) (by omega)
    have e2 : IntKind.u64.wrap (8 * (k : Int)) = 8 * k := wu64 (by omega) (by omega)
    have e3 := shr_bytes n k (by omega)
    rw [e1, e2, e3]
    refine ⟨fun _ => by omega, ?_⟩
    have hk : 0 < (256 : Int) ^ k := Int.pow_pos (by decide)
    have e4 : (n / 256 ^ k != 0) = decide (¬ n < 256 ^ k) := by
      rw [Bool.eq_iff_iff]
      simp only [bne_iff_ne, ne_eq, decide_eq_true_eq]
      rw [div_zero_iff h0 hk]
    rw [e4]
    have e5 : putE n k = if n < 256 ^ k then 0 else 2 := by simp [putE, hs]
    have e6 : k = 8 → n < 256 ^ k := by rintro rfl; simpa using hn
    split
    · rename_i h
      simp only [Bool.not_true, Bool.false_or, Bool.and_eq_true, decide_eq_true_eq] at h
      rw [if_neg h.2] at e5
      simp [putL, e5]
    · rename_i h
      simp only [Bool.not_true, Bool.false_or, Bool.and_eq_true, decide_eq_true_eq] at h
      have h' : n < 256 ^ k := by
        by_cases h8 : k = 8
        · exact e6 h8
        · exact Classical.byContradiction fun hc => h ⟨by omega, hc⟩
      rw [if_pos h'] at e5
      refine ⟨⟨by omega, by omega, by omega⟩, ?_⟩
      refine loop_go (fun i => i ≤ k) (Put_S n k) (fun i => k - i) 0 (Nat.zero_le _) ⟨rfl, ?_, ?_⟩ ?_
      · simp [Put_S, LeT]
      · intro m x hx; simpa [Put_S, fnd, digs] using hx
      · intro i hi ih
        refine absRun_ok TO 100 _ _ ?_
        simp only [Put_S, pureOpC, unc, absRun, absOps, absOp, evO, constSV, ungd, gdP, gdPs, setD, binI, binV, ptrE, convV, T_ty, T_size, tTy, tSize, iaddrV, pureOp, memOp, notIn, known, blkAt, fnd, upd, Data.len, Data.esz, retP, resV, retQ, rAs, rA, rA0, ownN, nodup, bares, bare, bare0, bareD, Op.operands, List.getD, List.getElem?_cons_zero, List.getElem?_cons_succ, Option.getD_some, List.set, List.map, List.toList_toArray, exitTo, true_and, and_true, and_self, if_true, eq_self, ne_eq, not_false_eq_true, Nat.zero_add, Int.toNat_natCast, List.cons_append, List.nil_append, Nat.succ_ne_self, beq_self_eq_true, List.replicate_succ, List.replicate_zero, Bool.and_self, Data.ints.injEq]
        split
        · rename_i hc
          have hik : i < k := by simpa using hc
          have f1 : IntKind.i64.wrap (8 * (i : Int)) = 8 * i := w64 (by omega) (by omega)
          have f2 : IntKind.u64.wrap (8 * (i : Int)) = 8 * i := wu64 (by omega) (by omega)
          have f3 := shr_bytes n i (by omega)
          simp only [f1, f2, f3, wu8]
          rw [w64 (by omega) (by omega), set_digs hik]
          refine ⟨by omega, ⟨by omega, by omega⟩, by simp [digs_length]; omega, ih (i + 1) _ hik (by omega) ?_ ?_ ?_⟩
          · simp [Put_S]; omega
          · simp [Put_S, LeT]
          · intro m x hx; simpa [Put_S, fnd] using hx
        · rename_i hc
          have hik : ¬ i < k := by simpa using hc
          obtain rfl : i = k := by omega
          have e7 : putL n (i : Int) = digs i n := by simp [putL, e5]
          simp [e7, e5, digs_length]
end Go.Proofs.YtakgefinmlomdaaDoor.Abs

/- What the document's Put answers: the same as ends.Put. -/
set_option linter.unusedVariables false
set_option linter.unusedSimpArgs false
set_option maxRecDepth 100000
namespace Go.Proofs.YtakgefinmlomdaaDoor.Abs
open Go Go.Proofs

def rPut_S (n : Int) (k i : Nat) : St := match i with
  | 0 => ⟨[.int .u64 n, .int .i64 k, .any, .any, .any, .any, .nil, .int .i64 0] ++ List.replicate 19 .any, [], ⟨5, [], 0⟩⟩
  | i + 1 => ⟨[.int .u64 (n / 256 ^ (i + 1)), .int .i64 k, .any, .any, .any, .any, .sl 21 (7 + 4 * i) 0 1 0 (i + 1), .int .i64 ((i : Int) + 1)] ++ List.replicate 19 .any, [(21, 7 + 4 * i, .vec (.ints .u8 (digs (i + 1) n)))], ⟨5 + 4 * (i + 1), [], 0⟩⟩

theorem rPut_meets (n size : Int) (h0 : 0 ≤ n) (hn : n < 18446744073709551616) : Meets Tryd.prog 61 [.v (.int .u64 n), .v (.int .i64 size)] [.own (.ints .u8 (putL n size)), .v (.int .i64 (putE n size))] := by
  refine meets_go TO 100 Tryd.func61 rfl (fun X => ?_)
  simp only [Tryd.ntmps61, Tryd.results61, pureOpC, svs, blks, AV.sv, absRun, absOps, absOp, evO, constSV, ungd, gdP, gdPs, setD, pureOp, memOp, Op.operands, List.getD, List.getElem?_cons_zero, List.getElem?_cons_succ, Option.getD_some, List.set, List.toList_toArray, true_and, and_self, Nat.zero_add, List.cons_append, List.nil_append, List.length_cons, List.length_nil, Nat.reduceAdd, Nat.reduceSub, List.replicate_succ, List.replicate_zero]
  refine call_go TO 100 (Size_meets size) Tryd.func73 (by decide +kernel) rfl rfl rfl ?_
  simp only [pureOpC, unc, absRun, absOps, absOp, evO, constSV, ungd, gdP, gdPs, setD, unV, pureOp, Data.len, retP, resV, retQ, rAs, rA, rA0, ownN, nodup, bares, bare, bare0, bareD, guardIs, callP, callS, argS, mAs, mA, mA0, mB0, allNotIn, impN, impB, impT, packS, delL, Op.operands, List.getD, List.getElem?_cons_zero, List.getElem?_cons_succ, Option.getD_some, List.set, List.map, List.toList_toArray, true_and, and_true, and_self, eq_self, List.append_nil, Nat.reduceAdd, Bool.and_self]
  cases hs : szB size with
  | false =>
    have e : putE n size = 2 := by simp [putE, hs]
    simp [putL, e]
  | true =>
    have hsz := szB_cases hs
    obtain ⟨k, rfl⟩ : ∃ k : Nat, size = k := ⟨size.toNat, by omega⟩
    have hk : 0 < (256 : Int) ^ k := Int.pow_pos (by decide)
    have e5 : putE n k = if n < 256 ^ k then 0 else 2 := by simp [putE, hs]
    simp only [Bool.not_true, Bool.false_eq_true, if_false]
    refine loop_go (fun i => i ≤ k) (rPut_S n k) (fun i => k - i) 0 (Nat.zero_le _) ⟨rfl, ?_, ?_⟩ ?_
    · simp [rPut_S, LeT]
    · intro m x hx; simp [rPut_S, fnd] at hx
    · intro i hi ih
      refine absRun_ok TO 100 _ _ ?_
      cases i with
      | zero =>
        simp only [rPut_S, List.take_succ_cons, List.take_zero, List.drop_zero, pureOpC, unc, fitT, absRun, absOps, absOp, evO, constSV, ungd, gdP, gdPs, setD, binI, binV, ptrE, convV, T_ty, T_size, T_bytes, T_zero, tTy, tSize, tBytes, tZero, pureOp, memOp, newV, notIn, dataOf, isSrc, elemsOf, intsOf, zI, known, blkAt, fnd, upd, Data.len, Data.esz, Data.sub, Lim.add, retP, resV, retQ, rAs, rA, rA0, ownN, nodup, bares, bare, bare0, bareD, Op.operands, Call.operands, List.getD, List.getElem?_cons_zero, List.getElem?_cons_succ, Option.getD_some, List.set, List.map, List.toList_toArray, Option.map_some, exitTo, true_and, and_true, and_self, if_true, if_false, eq_self, ne_eq, Nat.zero_add, Int.zero_add, Nat.le_refl, List.append_toArray, List.cons_append, List.nil_append, List.length_cons, List.length_nil, Nat.reduceAdd, Nat.reduceMul, Nat.reduceLeDiff, Nat.succ_ne_self, beq_self_eq_true, List.replicate_succ, List.replicate_zero, Bool.and_self]
        split
        · rename_i hc
          have hk0 : 0 < k := by simpa using hc
          rw [rem_byte h0, quo_byte h0 hn, wu8, mod_byte]
          refine ⟨by omega, by omega, ih 1 _ hk0 (by omega) ?_ ?_ ?_⟩
          · simp [rPut_S]
          · simp [rPut_S, LeT, w64]
          · intro m x hx
            simp only [rPut_S, fnd] at hx ⊢
            split at hx
            · rename_i e; subst e; simpa [digs] using hx
            · cases hx
        · rename_i hc
          have : ¬ 0 < k := by simpa using hc
          omega
      | succ i =>
        obtain ⟨d0, d1⟩ := div_lt h0 hn (i + 1)
        simp only [rPut_S, List.take_succ_cons, List.take_zero, List.drop_zero, pureOpC, unc, fitT, absRun, absOps, absOp, evO, constSV, ungd, gdP, gdPs, setD, binI, binV, ptrE, convV, T_ty, T_size, T_bytes, T_zero, tTy, tSize, tBytes, tZero, pureOp, memOp, newV, notIn, dataOf, appD, isSrc, elemsOf, intsOf, zI, known, blkAt, fnd, upd, del, mv, Data.len, Data.esz, Data.sub, Lim.add, retP, resV, retQ, rAs, rA, rA0, ownN, nodup, bares, bare, bare0, bareD, Op.operands, Call.operands, List.getD, List.getElem?_cons_zero, List.getElem?_cons_succ, Option.getD_some, List.set, List.map, List.toList_toArray, Option.map_some, exitTo, true_and, and_true, and_self, if_true, if_false, eq_self, ne_eq, Nat.zero_add, Nat.le_refl, List.append_toArray, List.cons_append, List.nil_append, List.length_cons, List.length_nil, Nat.reduceEqDiff, Nat.reduceLeDiff, Nat.succ_ne_self, beq_self_eq_true, List.replicate_succ, List.replicate_zero, Bool.and_self, Data.ints.injEq]
        split
        · rename_i hc
          have hik : i + 1 < k := by
            have : (i : Int) + 1 < k := by simpa using hc
            omega
          rw [rem_byte d0, quo_byte d0 d1, wu8, mod_byte, pow_byte, ← digs_snoc, w64 (by omega) (by omega)]
          refine ⟨by omega, ⟨by simp [digs_length], by omega, by omega⟩, by omega, ih (i + 2) _ hik (by omega) ?_ ?_ ?_⟩
          · simp [rPut_S]; omega
          · simp [rPut_S, LeT, digs_length]; omega
          · intro m x hx
            simp only [rPut_S, fnd] at hx ⊢
            split at hx
            · rename_i e; subst e; simpa [show 5 + 4 * (i + 1) + 1 + 1 = 7 + 4 * (i + 1) by omega] using hx
            · cases hx
        · rename_i hc
          have hik : ¬ i + 1 < k := by
            have : ¬ (i : Int) + 1 < k := by simpa using hc
            omega
          obtain rfl : i + 1 = k := by omega
          by_cases hlt : n < 256 ^ (i + 1)
          · rw [if_pos hlt] at e5
            have e7 : putL n ((i + 1 : Nat) : Int) = digs (i + 1) n := by simp only [putL, e5]; simp
            have e8 : n / 256 ^ (i + 1) = 0 := (div_zero_iff h0 hk).2 hlt
            rw [e7, e8, e5]
            simp [digs_length]
          · rw [if_neg hlt] at e5
            have e7 : putL n ((i + 1 : Nat) : Int) = [] := by simp only [putL, e5]; simp
            have e8 : ¬ n / 256 ^ (i + 1) = 0 := fun h => hlt ((div_zero_iff h0 hk).1 h)
            rw [e7, e5, if_pos (by simp; omega)]
            simp
end Go.Proofs.YtakgefinmlomdaaDoor.Abs

/- What ends.Get answers, for whatever bytes, place and size. -/
set_option linter.unusedVariables false
set_option linter.unusedSimpArgs false
set_option maxRecDepth 100000
namespace Go.Proofs.YtakgefinmlomdaaDoor.Abs
open Go Go.Proofs

def Get_S (c0 : Nat) (l : List Int) (i : Nat) : St := ⟨List.replicate 8 .any ++ [.view false (.ints .u8 l), .any, .int .u64 (val (l.take i))] ++ List.replicate 15 .any ++ [.view false (.ints .u8 l), .int .i64 l.length, .int .i64 i] ++ List.replicate 14 .any, [], ⟨c0 + 4 * i, [], 0⟩⟩

theorem Get_meets (b : List Int) (at_ n : Int) (hb : b.length ≤ 140737488351232) (hB : Bytes b) : Meets Tryd.prog 78 [.v (.view false (.ints .u8 b)), .v (.int .i64 at_), .v (.int .i64 n)] [.v (.int .u64 (getV b at_ n)), .v (.int .i64 (getE b.length at_ n))] := by
  refine meets_go TO 100 Tryd.func78 rfl (fun X => ?_)
  simp only [Tryd.ntmps78, Tryd.results78, pureOpC, svs, blks, AV.sv, absRun, absOps, absOp, evO, constSV, ungd, gdP, gdPs, setD, pureOp, memOp, Op.operands, List.getD, List.getElem?_cons_zero, List.getElem?_cons_succ, Option.getD_some, List.set, List.toList_toArray, true_and, and_self, Nat.zero_add, List.cons_append, List.nil_append, List.length_cons, List.length_nil, Nat.reduceAdd, Nat.reduceSub, List.replicate_succ, List.replicate_zero]
  refine call_go TO 100 (isSize_meets n) Tryd.func72 (by decide +kernel) rfl rfl rfl ?_
  simp only [pureOpC, unc, absRun, absOps, absOp, evO, constSV, ungd, gdP, gdPs, setD, unV, pureOp, memOp, retP, resV, retQ, rAs, rA, rA0, ownN, nodup, bares, bare, bare0, guardIs, callP, callS, argS, mAs, mA, mA0, mB0, allNotIn, impN, impB, impT, packS, delL, Op.operands, List.getD, List.getElem?_cons_zero, List.getElem?_cons_succ, Option.getD_some, List.set, List.map, List.toList_toArray, true_and, and_true, and_self, eq_self, List.append_nil, Nat.reduceAdd, Bool.and_self]
  cases hs : szB n with
  | false => simp [getV, getE, hs]
  | true =>
    have hsz := szB_cases hs
    simp only [Bool.not_true, Bool.false_eq_true, if_false]
    refine in_go TO 100000 100 100 Tryd.func86 (by decide +kernel) rfl rfl rfl ?_
    simp only [Tryd.ntmps86, Tryd.results86, pureOpC, unc, absRun, absOps, absOp, evO, constSV, ungd, gdP, gdPs, setD, binI, binV, ptrE, T_ty, T_size, tTy, tSize, extractV, lowI, highI, maxP, sliceV, pickV, pureOp, guardOf, lenV, Data.len, Data.esz, Data.sub, retP, resV, retQ, rAs, rA, rA0, ownN, nodup, bares, bare, bare0, inRet, flats, flatV, flat1, guardIs, argC, Op.operands, Call.operands, List.getD, List.getElem?_cons_zero, List.getElem?_cons_succ, Option.getD_some, List.set, List.map, List.all, List.toList_toArray, List.getElem?_toArray, Option.bind_some, Option.map_some, Option.isSome, true_and, and_true, and_self, implies_true, imp_self, if_true, if_false, eq_self, ne_eq, not_false_eq_true, Bool.false_eq_true, Nat.zero_add, Int.reduceBNe, Bool.cond_true_left, Option.toArray_some, List.append_toArray, List.cons_append, List.nil_append, List.size_toArray, List.length_cons, List.length_nil, Nat.reduceAdd, Nat.reduceSub, Nat.succ_ne_self, List.replicate_succ, List.replicate_zero, Bool.and_self]
    simp only [Bool.or_eq_true, decide_eq_true_eq]
    split
    · rename_i h
      have e : cutE b.length at_ n = 2 := by unfold cutE; rw [if_pos (by omega)]
      simp [getV, getE, hs, e]
    · rename_i h
      rw [w64 (by omega) (by omega)]
      split
      · rename_i h2
        have e : cutE b.length at_ n = 4 := by unfold cutE; rw [if_neg (by omega), if_pos h2]
        simp [getV, getE, hs, e]
      · rename_i h2
        have e : cutE b.length at_ n = 0 := by unfold cutE; rw [if_neg (by omega), if_neg h2]
        have e2 : IntKind.i64.wrap (at_ + n) = at_ + n := w64 (by omega) (by omega)
        rw [e2, show (at_ + n - at_).toNat = n.toNat by congr 1; omega]
        have e3 : cutL b at_ n = (b.drop at_.toNat).take n.toNat := by unfold cutL; rw [if_pos e]
        have e4 : ((cutL b at_ n).length : Int) = n := cutL_length_eq e
        have e5 : getV b at_ n = val (cutL b at_ n) := by simp [getV, getE, hs, e]
        have e6 : getE b.length at_ n = 0 := by simp [getE, hs, e]
        have hB' : Bytes (cutL b at_ n) := hB.cut at_ n
        rw [← e3, e5, e6]
        refine ⟨⟨by omega, by omega, by omega⟩, ?_⟩
        generalize cutL b at_ n = l at *
        refine loop_go (fun i => i ≤ l.length) (Get_S 12 l) (fun i => l.length - i) 0 (Nat.zero_le _) ⟨rfl, ?_, ?_⟩ ?_
        · simp [Get_S, LeT, val]
        · intro m x hx; simp [Get_S, fnd] at hx
        · intro i hi ih
          refine absRun_ok TO 100 _ _ ?_
          simp only [Get_S, pureOpC, unc, absRun, absOps, absOp, evO, constSV, ungd, gdP, gdPs, setD, binI, binV, ptrE, convV, T_ty, T_size, tTy, tSize, iaddrV, pureOp, loadV, known, elemV, Data.len, Data.esz, retP, resV, retQ, rAs, rA, rA0, ownN, nodup, bares, bare, bare0, Op.operands, List.getD, List.getElem?_cons_zero, List.getElem?_cons_succ, Option.getD_some, List.set, List.map, List.toList_toArray, exitTo, true_and, and_true, and_self, if_true, eq_self, ne_eq, not_false_eq_true, Int.toNat_natCast, List.cons_append, List.nil_append, Nat.reduceLT, Nat.succ_ne_self, beq_self_eq_true, List.replicate_succ, List.replicate_zero, Bool.and_self, Int.toNat_natCast]
          split
          · rename_i hc
            have hil : i < l.length := by simpa using hc
            have f1 : IntKind.i64.wrap (8 * (i : Int)) = 8 * i := w64 (by omega) (by omega)
            have f2 : IntKind.u64.wrap (8 * (i : Int)) = 8 * i := wu64 (by omega) (by omega)
            have g : l[i]?.getD 0 = l[i] := by simp [hil]
            have hb1 := hB' l[i] (List.getElem_mem hil)
            have hv := val_bounds (hB'.take i)
            rw [List.length_take_of_le hi] at hv
            have hs1 : val (l.take (i + 1)) = val (l.take i) + l[i] * 256 ^ i := by
              rw [List.take_add_one, List.getElem?_eq_getElem hil]
              show val (l.take i ++ [l[i]]) = _
              rw [val_snoc, List.length_take_of_le hi]
            simp only [f1, f2, g]
            rw [or_bytes hv.1 hv.2 hb1.1 hb1.2 (by omega), ← hs1, w64 (by omega) (by omega)]
            refine ⟨⟨by omega, by omega⟩, by omega, ih (i + 1) _ hil (by omega) ?_ ?_ ?_⟩
            · simp [Get_S]; omega
            · simp [Get_S, LeT]
            · intro m x hx; simp [Get_S, fnd] at hx
          · rename_i hc
            have hil : ¬ i < l.length := by simpa using hc
            obtain rfl : i = l.length := by omega
            simp
end Go.Proofs.YtakgefinmlomdaaDoor.Abs

/- What the document's Get answers: the same as ends.Get. -/
set_option linter.unusedVariables false
set_option linter.unusedSimpArgs false
set_option maxRecDepth 100000
namespace Go.Proofs.YtakgefinmlomdaaDoor.Abs
open Go Go.Proofs

def rGet_S (c0 m : Nat) (b l : List Int) (at_ : Int) (j : Nat) : St := ⟨[.view false (.ints .u8 b), .int .i64 at_] ++ List.replicate 6 .any ++ [.int .u64 (val (l.drop j)), .int .i64 ((j : Int) - 1)] ++ List.replicate 36 .any, [], ⟨c0 + 3 * (m - j), [], 0⟩⟩

theorem rGet_meets (b : List Int) (at_ n : Int) (hb : b.length ≤ 140737488351232) (hB : Bytes b) : Meets Tryd.prog 67 [.v (.view false (.ints .u8 b)), .v (.int .i64 at_), .v (.int .i64 n)] [.v (.int .u64 (getV b at_ n)), .v (.int .i64 (getE b.length at_ n))] := by
  refine meets_go TO 100 Tryd.func67 rfl (fun X => ?_)
  simp only [Tryd.ntmps67, Tryd.results67, pureOpC, svs, blks, AV.sv, absRun, absOps, absOp, evO, constSV, ungd, gdP, gdPs, setD, pureOp, memOp, Op.operands, List.getD, List.getElem?_cons_zero, List.getElem?_cons_succ, Option.getD_some, List.set, List.toList_toArray, true_and, and_self, Nat.zero_add, List.cons_append, List.nil_append, List.length_cons, List.length_nil, Nat.reduceAdd, Nat.reduceSub, List.replicate_succ, List.replicate_zero]
  refine call_go TO 100 (Size_meets n) Tryd.func73 (by decide +kernel) rfl rfl rfl ?_
  simp only [pureOpC, unc, absRun, absOps, absOp, evO, constSV, ungd, gdP, gdPs, setD, binI, binV, ptrE, unV, T_ty, tTy, pickV, pureOp, guardOf, lenV, Data.len, retP, resV, retQ, rAs, rA, rA0, ownN, nodup, bares, bare, bare0, guardIs, callP, callS, argS, mAs, mA, mA0, mB0, allNotIn, impN, impB, impT, packS, delL, Op.operands, Call.operands, List.getD, List.getElem?_cons_zero, List.getElem?_cons_succ, Option.getD_some, List.set, List.map, List.toList_toArray, List.getElem?_toArray, Option.bind_some, true_and, and_true, and_self, implies_true, imp_self, eq_self, Bool.cond_true_left, List.append_toArray, List.nil_append, List.append_nil, Nat.reduceAdd, Bool.and_self]
  simp only [Bool.or_eq_true, decide_eq_true_eq, Bool.not_eq_true', gt_iff_lt]
  split
  · rename_i h
    have e : getE b.length at_ n = 2 := by
      unfold getE
      split
      · rename_i hs; unfold cutE; rw [if_pos]; rw [hs] at h; simp at h; omega
      · rfl
    simp [getV, e]
  · rename_i h
    have hs : szB n = true := by
      cases hs : szB n with
      | true => rfl
      | false => exact absurd (.inl (.inl hs)) h
    have hsz := szB_cases hs
    have h' : ¬ (at_ < 0 ∨ (b.length : Int) < at_) := by
      intro hc; apply h; rcases hc with h1 | h1
      · exact .inl (.inr h1)
      · exact .inr h1
    rw [w64 (by omega) (by omega)]
    split
    · rename_i h2
      have e : cutE b.length at_ n = 4 := by unfold cutE; rw [if_neg (by omega), if_pos h2]
      simp [getV, getE, hs, e]
    · rename_i h2
      have e : cutE b.length at_ n = 0 := by unfold cutE; rw [if_neg (by omega), if_neg h2]
      have e3 : cutL b at_ n = (b.drop at_.toNat).take n.toNat := by unfold cutL; rw [if_pos e]
      have e4 : ((cutL b at_ n).length : Int) = n := cutL_length_eq e
      have e5 : getV b at_ n = val (cutL b at_ n) := by simp [getV, getE, hs, e]
      have e6 : getE b.length at_ n = 0 := by simp [getE, hs, e]
      have hB' : Bytes (cutL b at_ n) := hB.cut at_ n
      have eg : ∀ i : Nat, i < (cutL b at_ n).length → b[(at_ + i).toNat]?.getD 0 = (cutL b at_ n)[i]?.getD 0 := by
        intro i hi
        rw [e3, List.getElem?_take_of_lt (by omega), List.getElem?_drop]
        congr 2; omega
      rw [e5, e6]
      generalize cutL b at_ n = l at *
      rw [w64 (by omega) (by omega)]
      refine loop_go (fun j => j ≤ l.length) (rGet_S 6 l.length b l at_) (fun j => j) l.length (Nat.le_refl _) ⟨?_, ?_, ?_⟩ ?_
      · simp [rGet_S]
      · simp [rGet_S, LeT, val]; omega
      · intro m x hx; simp [rGet_S, fnd] at hx
      · intro j hj ih
        refine absRun_ok TO 100 _ _ ?_
        simp only [rGet_S, pureOpC, unc, absRun, absOps, absOp, evO, constSV, ungd, gdP, gdPs, setD, binI, binV, ptrE, convV, T_ty, T_size, tTy, tSize, iaddrV, pureOp, loadV, known, elemV, Data.len, Data.esz, retP, resV, retQ, rAs, rA, rA0, ownN, nodup, bares, bare, bare0, Op.operands, List.getD, List.getElem?_cons_zero, List.getElem?_cons_succ, Option.getD_some, List.set, List.map, List.toList_toArray, exitTo, true_and, and_true, and_self, if_true, eq_self, ne_eq, not_false_eq_true, List.cons_append, List.nil_append, Nat.reduceLT, Nat.succ_ne_self, beq_self_eq_true, List.replicate_succ, List.replicate_zero, Bool.and_self]
        split
        · rename_i hc
          have hj1 : 1 ≤ j := by
            have : (j : Int) - 1 ≥ 0 := by simpa using hc
            omega
          obtain ⟨i, rfl⟩ : ∃ i, j = i + 1 := ⟨j - 1, by omega⟩
          have e8 : (((i + 1 : Nat) : Int) - 1) = i := by omega
          have hv := val_bounds (hB'.drop (i + 1))
          have hv0 := val_bounds (hB'.drop i)
          rw [List.length_drop] at hv hv0
          have hil : i < l.length := by omega
          have hg : l[i]?.getD 0 = l[i] := by simp [hil]
          have hb1 := hB' l[i] (List.getElem_mem hil)
          have hs1 : val (l.drop i) = l[i] + 256 * val (l.drop (i + 1)) := by
            rw [List.drop_eq_getElem_cons hil]; rfl
          have hp : (256 : Int) ^ (l.length - i) ≤ 18446744073709551616 := by
            have : l.length - i = 1 ∨ l.length - i = 2 ∨ l.length - i = 3 ∨ l.length - i = 4 ∨ l.length - i = 5 ∨ l.length - i = 6 ∨ l.length - i = 7 ∨ l.length - i = 8 := by omega
            rcases this with h | h | h | h | h | h | h | h <;> rw [h] <;> decide +kernel
          rw [e8]
          have f1 : IntKind.i64.wrap (at_ + (i : Int)) = at_ + i := w64 (by omega) (by omega)
          have f2 : IntKind.i64.wrap ((i : Int) - 1) = i - 1 := w64 (by omega) (by omega)
          have f3 : IntKind.u64.wrap (256 * val (l.drop (i + 1))) = 256 * val (l.drop (i + 1)) := wu64 (by omega) (by omega)
          have f4 : IntKind.u64.wrap l[i] = l[i] := wu64 (by omega) (by omega)
          simp only [f1, f2, f3, eg i hil, hg, f4]
          rw [Int.add_comm (256 * _), ← hs1, wu64 (by omega) (by omega)]
          refine ⟨⟨by omega, by omega⟩, ih i _ (by omega) (by omega) ?_ ?_ ?_⟩
          · simp [rGet_S]; omega
          · simp [rGet_S, LeT]
          · intro m x hx; simp [rGet_S, fnd] at hx
        · rename_i hc
          have : ¬ (j : Int) - 1 ≥ 0 := by simpa using hc
          obtain rfl : j = 0 := by omega
          rfl
end Go.Proofs.YtakgefinmlomdaaDoor.Abs

/- What ends.Part, the document's Part, and size answer. -/
set_option linter.unusedVariables false
set_option linter.unusedSimpArgs false
set_option maxRecDepth 100000
namespace Go.Proofs.YtakgefinmlomdaaDoor.Abs
open Go Go.Proofs

theorem Part_meets (b : List Int) (at_ n : Int) (hb : b.length ≤ 140737488351232) : Meets Tryd.prog 84 [.v (.view false (.ints .u8 b)), .v (.int .i64 at_), .v (.int .i64 n)] [.own (.ints .u8 (cutL b at_ n)), .v (.int .i64 (cutE b.length at_ n))] := by
  refine meets_go TO 100 Tryd.func84 rfl (fun X => ?_)
  simp only [Tryd.ntmps84, Tryd.results84, List.take_succ_cons, List.take_zero, List.drop_succ_cons, List.drop_zero, pureOpC, buildV, fillC, intsP, cntC, arrPV, fieldV, gloadV, GT, unc, capV, sliceC, fitT, isEff, absD, pureStep, subB, svs, blks, AV.sv, absRun, absOps, absOp, evO, constSV, ungd, gdP, gdPs, setD, binI, binV, ptrE, isP, unV, convV, binS, T_ty, T_size, T_bytes, T_zero, tTy, tSize, tBytes, tZero, fieldOf, faddrV, iaddrV, indexV, extractV, lowI, highI, maxP, sliceV, pickV, pureOp, guardOf, memOp, lenV, loadV, newV, notIn, dataOf, nilD, appD, isSrc, scal, cellsOf, elemsOf, intsOf, strsOf, rowsOf, rowOf, zI, aggsOf, okC, flatB, eqF, eq1, T_eq, tEq, isStr, isB, isI, isA, known, cellAt, arrAt, takeC, dropC, setC, setA, blkAt, fnd, upd, del, mv, elemV, one, Data.len, Data.esz, Data.sub, Lim.add, retP, resV, retQ, rAs, rA, rA0, rAl, ownN, nodup, bares, bare, bare0, bareL, bareD, inRet, flats, flatV, flat1, flat2, guardIs, callP, callS, argS, argC, mAs, mA, mA0, mB0, rowsM, mAl, lowD, allNotIn, nm, impN, impB, impT, packS, delL, Op.operands, Call.operands, List.getD, List.getElem?_cons_zero, List.getElem?_cons_succ, List.getElem?_nil, Option.getD_some, Option.getD_none, List.set, List.map, List.all, List.toList_toArray, List.getElem?_toArray, Option.bind_some, Option.bind_none, Option.map_some, Option.map_none, Option.isSome, exitTo, true_and, and_true, false_and, and_false, and_self, implies_true, reduceIte, imp_self, if_true, if_false, ite_self, eq_self, ne_eq, not_false_eq_true, not_true_eq_false, false_implies, true_implies, forall_const, reduceCtorEq, Bool.false_eq_true, List.take_length, Nat.zero_add, Nat.add_zero, Int.sub_zero, Int.zero_add, Int.add_zero, Int.toNat_natCast, Int.cast_ofNat_Int, Int.reduceToNat, Int.reduceSub, Int.reduceAdd, Nat.le_refl, Int.le_refl, Int.toNat_zero, Int.reduceBNe, Int.reduceBEq, Bool.cond_true_left, Bool.cond_false_right, Bool.cond_true, Bool.cond_false, Option.toArray_some, Option.toArray_none, List.append_toArray, List.cons_append, List.nil_append, List.append_nil, List.size_toArray, List.length_cons, List.length_nil, Nat.reduceAdd, Nat.reduceSub, Nat.reduceMul, Nat.reduceDiv, Nat.reduceEqDiff, Nat.reduceBEq, Nat.reduceLeDiff, Nat.reduceLT, Nat.succ_ne_self, Bool.not_true, Bool.not_false, beq_self_eq_true, List.replicate_succ, List.replicate_zero, Bool.and_true, Bool.true_and, Bool.and_self, Bool.and_false, Bool.false_and, Bool.or_false, Bool.or_true, Bool.false_or, Bool.true_or, SV.sl.injEq, SV.int.injEq, Data.ints.injEq]
  refine in_go TO 100000 100 100 Tryd.func86 (by decide +kernel) rfl rfl rfl ?_
  simp only [Tryd.ntmps86, Tryd.results86, Tryd.results84, List.take_succ_cons, List.take_zero, List.drop_succ_cons, List.drop_zero, pureOpC, buildV, fillC, intsP, cntC, arrPV, fieldV, gloadV, GT, unc, capV, sliceC, fitT, isEff, absD, pureStep, subB, svs, blks, AV.sv, absRun, absOps, absOp, evO, constSV, ungd, gdP, gdPs, setD, binI, binV, ptrE, isP, unV, convV, binS, T_ty, T_size, T_bytes, T_zero, tTy, tSize, tBytes, tZero, fieldOf, faddrV, iaddrV, indexV, extractV, lowI, highI, maxP, sliceV, pickV, pureOp, guardOf, memOp, lenV, loadV, newV, notIn, dataOf, nilD, appD, isSrc, scal, cellsOf, elemsOf, intsOf, strsOf, rowsOf, rowOf, zI, aggsOf, okC, flatB, eqF, eq1, T_eq, tEq, isStr, isB, isI, isA, known, cellAt, arrAt, takeC, dropC, setC, setA, blkAt, fnd, upd, del, mv, elemV, one, Data.len, Data.esz, Data.sub, Lim.add, retP, resV, retQ, rAs, rA, rA0, rAl, ownN, nodup, bares, bare, bare0, bareL, bareD, inRet, flats, flatV, flat1, flat2, guardIs, callP, callS, argS, argC, mAs, mA, mA0, mB0, rowsM, mAl, lowD, allNotIn, nm, impN, impB, impT, packS, delL, Op.operands, Call.operands, List.getD, List.getElem?_cons_zero, List.getElem?_cons_succ, List.getElem?_nil, Option.getD_some, Option.getD_none, List.set, List.map, List.all, List.toList_toArray, List.getElem?_toArray, Option.bind_some, Option.bind_none, Option.map_some, Option.map_none, Option.isSome, exitTo, true_and, and_true, false_and, and_false, and_self, implies_true, reduceIte, imp_self, if_true, if_false, ite_self, eq_self, ne_eq, not_false_eq_true, not_true_eq_false, false_implies, true_implies, forall_const, reduceCtorEq, Bool.false_eq_true, List.take_length, Nat.zero_add, Nat.add_zero, Int.sub_zero, Int.zero_add, Int.add_zero, Int.toNat_natCast, Int.cast_ofNat_Int, Int.reduceToNat, Int.reduceSub, Int.reduceAdd, Nat.le_refl, Int.le_refl, Int.toNat_zero, Int.reduceBNe, Int.reduceBEq, Bool.cond_true_left, Bool.cond_false_right, Bool.cond_true, Bool.cond_false, Option.toArray_some, Option.toArray_none, List.append_toArray, List.cons_append, List.nil_append, List.append_nil, List.size_toArray, List.length_cons, List.length_nil, Nat.reduceAdd, Nat.reduceSub, Nat.reduceMul, Nat.reduceDiv, Nat.reduceEqDiff, Nat.reduceBEq, Nat.reduceLeDiff, Nat.reduceLT, Nat.succ_ne_self, Bool.not_true, Bool.not_false, beq_self_eq_true, List.replicate_succ, List.replicate_zero, Bool.and_true, Bool.true_and, Bool.and_self, Bool.and_false, Bool.false_and, Bool.or_false, Bool.or_true, Bool.false_or, Bool.true_or, SV.sl.injEq, SV.int.injEq, Data.ints.injEq]
  simp only [Bool.or_eq_true, decide_eq_true_eq]
  split
  · rename_i h
    have e : cutE b.length at_ n = 2 := by unfold cutE; rw [if_pos (by omega)]
    simp [cutL, e]
  · rename_i h
    rw [w64 (by omega) (by omega)]
    split
    · rename_i h2
      have e : cutE b.length at_ n = 4 := by unfold cutE; rw [if_neg (by omega), if_pos h2]
      simp [cutL, e]
    · rename_i h2
      have e : cutE b.length at_ n = 0 := by unfold cutE; rw [if_neg (by omega), if_neg h2]
      have e2 : IntKind.i64.wrap (at_ + n) = at_ + n := w64 (by omega) (by omega)
      rw [e2, show (at_ + n - at_).toNat = n.toNat by congr 1; omega]
      have e3 : cutL b at_ n = (b.drop at_.toNat).take n.toNat := by unfold cutL; rw [if_pos e]
      rw [e3, e]
      refine ⟨⟨by omega, by omega, by omega⟩, ⟨?_, ?_⟩, ?_⟩
      all_goals simp
      all_goals omega

end Go.Proofs.YtakgefinmlomdaaDoor.Abs

/- Same answers whether two rows of bytes are alike. -/
set_option linter.unusedVariables false
set_option linter.unusedSimpArgs false
set_option maxRecDepth 100000
namespace Go.Proofs.YtakgefinmlomdaaDoor.Abs
open Go Go.Proofs

theorem mixed_ok : Tryd.prog.follows .mixedOrders = true := by decide +kernel

def Same_S (a b : List Int) (i : Nat) : St := ⟨[.view false (.ints .u8 a), .view false (.ints .u8 b), .any, .any, .any, .int .i64 i] ++ List.replicate 20 .any, [], ⟨4 + 3 * i, [], 0⟩⟩

theorem Same_meets (a b : List Int) (ha : a.length ≤ 140737488351232) : Meets Tryd.prog 14 [.v (.view false (.ints .u8 a)), .v (.view false (.ints .u8 b))] [.v (.bool (decide (a = b)))] := by
  refine meets_go TO 100 Tryd.func14 rfl (fun X => ?_)
  simp only [Tryd.ntmps14, Tryd.results14, pureOpC, unc, svs, blks, AV.sv, absRun, absOps, absOp, evO, constSV, ungd, gdP, gdPs, setD, binI, binV, ptrE, T_ty, tTy, pureOp, lenV, Data.len, retP, resV, retQ, rAs, rA, rA0, ownN, nodup, bares, bare, bare0, Op.operands, Call.operands, List.getD, List.getElem?_cons_zero, List.getElem?_cons_succ, Option.getD_some, List.set, List.map, List.toList_toArray, true_and, and_true, and_self, eq_self, Nat.zero_add, List.append_toArray, List.cons_append, List.nil_append, List.length_cons, List.length_nil, Nat.reduceAdd, Nat.reduceSub, List.replicate_succ, List.replicate_zero, Bool.and_self]
  split
  · rename_i h
    simp only [bne_iff_ne, ne_eq, Int.natCast_inj] at h
    simp; intro e; exact h (by rw [e])
  · rename_i h
    have hl : a.length = b.length := by simp at h; omega
    refine loop_go (fun i => i ≤ a.length ∧ a.take i = b.take i) (Same_S a b) (fun i => a.length - i) 0 ⟨by omega, by simp⟩ ⟨rfl, ?_, ?_⟩ ?_
    · simp [Same_S, LeT]
    · intro n x hx; simp [Same_S, fnd] at hx
    · rintro i ⟨hi, ht⟩ ih
      refine absRun_ok TO 100 _ _ ?_
      simp only [Same_S, pureOpC, unc, absRun, absOps, absOp, evO, constSV, ungd, gdP, gdPs, setD, binI, binV, ptrE, T_ty, tTy, pureOp, lenV, Data.len, retP, resV, retQ, rAs, rA, rA0, ownN, nodup, bares, bare, bare0, Op.operands, Call.operands, List.getD, List.getElem?_cons_zero, List.getElem?_cons_succ, Option.getD_some, List.set, List.map, List.toList_toArray, exitTo, true_and, and_true, and_self, if_true, eq_self, List.append_toArray, List.cons_append, List.nil_append, beq_self_eq_true, List.replicate_succ, List.replicate_zero, Bool.and_self]
      split
      · rename_i h
        have h' : i < a.length := by simpa using h
        refine draw_go TO 9 100 mixed_ok (by decide +kernel) ?_
        simp only [List.take_succ_cons, List.take_zero, List.drop_succ_cons, List.drop_zero, pureOpC, unc, isEff, absD, pureStep, absRun, absOps, absOp, evO, constSV, ungd, gdP, gdPs, setD, binI, binV, ptrE, binS, T_ty, T_size, tTy, tSize, iaddrV, pureOp, memOp, loadV, elemV, Data.len, Data.esz, retP, resV, retQ, rAs, rA, rA0, ownN, nodup, bares, bare, bare0, Op.operands, List.getD, List.getElem?_cons_zero, List.getElem?_cons_succ, Option.getD_some, List.set, List.map, List.toList_toArray, true_and, and_true, and_self, implies_true, imp_self, eq_self, ne_eq, not_false_eq_true, forall_const, reduceCtorEq, Int.toNat_natCast, Nat.reduceLT, Nat.succ_ne_self, Bool.and_self, Int.toNat_natCast]
        refine ⟨⟨by omega, by omega⟩, ⟨by omega, by omega⟩, ?_⟩
        have hb' : i < b.length := by omega
        have ea : a[i]?.getD 0 = a[i] := by simp [h']
        have eb : b[i]?.getD 0 = b[i] := by simp [hb']
        rw [ea, eb]
        split
        · rename_i hn
          simp only [bne_iff_ne, ne_eq] at hn
          have : ¬ a = b := by rintro rfl; exact hn rfl
          simp [this]
        · rename_i hn
          have hn' : a[i] = b[i] := by simpa using hn
          rw [w64 (by omega) (by omega)]
          refine ih (i + 1) _ ⟨by omega, ?_⟩ (by omega) ?_ ?_ ?_
          · rw [List.take_add_one, List.take_add_one, ht, List.getElem?_eq_getElem h', List.getElem?_eq_getElem hb', hn']
          · simp [Same_S]; omega
          · simp [Same_S, LeT]
          · intro n x hx; simp [Same_S, fnd] at hx
      · rename_i h
        have h' : ¬ i < a.length := by simpa using h
        have e : i = a.length := by omega
        subst e
        have : a = b := by
          rw [List.take_length, hl, List.take_length] at ht; exact ht
        simp [this]
end Go.Proofs.YtakgefinmlomdaaDoor.Abs

/- Room behind bytes: Wide is walked into, whatever stands around; so is Left. -/
set_option linter.unusedVariables false
set_option linter.unusedSimpArgs false
set_option maxRecDepth 100000
namespace Go.Proofs.YtakgefinmlomdaaDoor.Abs
open Go Go.Proofs

theorem wideL (b : List Int) : (((overI (List.replicate (b.length + 3) 0) 0 (b.length + 3) b).set b.length 7).set (b.length + 1) 7).set (b.length + 2) 7 = b ++ [7, 7, 7] := by
  have e : overI (List.replicate (b.length + 3) 0) 0 (b.length + 3) b = b ++ [0, 0, 0] := by
    unfold overI
    rw [show min b.length (b.length + 3) = b.length by omega, List.take_zero, List.nil_append, List.take_length, Nat.zero_add, List.drop_replicate, show b.length + 3 - b.length = 3 by omega]
    rfl
  rw [e, List.set_append_right _ _ (Nat.le_refl _), List.set_append_right _ _ (by omega), List.set_append_right _ _ (by omega), Nat.sub_self, show b.length + 1 - b.length = 1 by omega, show b.length + 2 - b.length = 2 by omega]
  rfl

theorem wide_go {X : Ctx} {ops : Array Oper} {o : Oper} {rest : List Oper} {k : List Item} {s : St} {Φ : St → Prop} {xs : Array Operand} {ts : Array TypeId} {d : Nat} {b : List Int} (off : Nat)
    (hb : b.length ≤ 140737488351232) (hB : Bytes b) (ho : o.op = .call { callee := .value (.func 17), args := xs, argTypes := ts }) (hd : o.dst = some d)
    (ha : argC s.t xs.toList = [.view false (.ints .u8 b)] ∧ xs.size = 1)
    (h : guardIs ops s.t true o.guard ∧ gdPs s.t true xs.toList ∧ (d < s.t.length ∧ absOps Tryd.prog X T ops k Φ (absRun Tryd.prog X T Φ 100 k) rest ⟨s.t.set d (.slc (s.c.o + off + 9) (s.c.c + 1 + 1 + 1) 1 b.length (b.length + 3)), upd s.b (s.c.o + off + 9) (s.c.c + 1 + 1 + 1) (.vec (.ints .u8 (b ++ [7, 7, 7]))), ⟨s.c.c + 16, [], s.c.o⟩⟩)) : HOps Tryd.prog X ops (o :: rest) k s Φ := by
  obtain ⟨hg, hgd, hdl, h⟩ := h
  obtain ⟨ha1, ha2⟩ := ha
  refine HOps_in TO off ho hd hg Tryd.func17 rfl (by decide +kernel) hgd ?_
  refine unrRun_ok TO 100 _ _ ?_
  rw [ha1, ha2]
  generalize s.c.c = c0 at *
  generalize s.c.o = o0 at *
  generalize s.b = b0 at *
  have e1 : IntKind.i64.wrap ((b.length : Int) + 3) = ((b.length + 3 : Nat) : Int) := by rw [w64 (by omega) (by omega)]; omega
  have e2 : IntKind.i64.wrap ((b.length : Int) + 1) = ((b.length + 1 : Nat) : Int) := by rw [w64 (by omega) (by omega)]; omega
  have e3 : IntKind.i64.wrap (((b.length + 1 : Nat) : Int) + 1) = ((b.length + 2 : Nat) : Int) := by rw [w64 (by omega) (by omega)]; omega
  have e4 : IntKind.i64.wrap (((b.length + 2 : Nat) : Int) + 1) = ((b.length + 3 : Nat) : Int) := by rw [w64 (by omega) (by omega)]; omega
  have m1 : min b.length (b.length + 3) = b.length := by omega
  have d1 : decide (((b.length : Nat) : Int) < ((b.length + 3 : Nat) : Int)) = true := by simp; omega
  have d2 : decide (((b.length + 1 : Nat) : Int) < ((b.length + 3 : Nat) : Int)) = true := decide_eq_true (by omega)
  have d3 : decide (((b.length + 2 : Nat) : Int) < ((b.length + 3 : Nat) : Int)) = true := decide_eq_true (by omega)
  have d4 : decide (((b.length + 3 : Nat) : Int) < ((b.length + 3 : Nat) : Int)) = false := by simp
  have w := wideL b
  have hwl : (b ++ [7, 7, 7]).length = b.length + 3 := by simp
  have ho : (overI (List.replicate (b.length + 3) 0) 0 (b.length + 3) b).length = b.length + 3 := by rw [overI_length (by simp)]; simp
  rw [show List.replicate (b.length + 3) (0 : Int) = 0 :: 0 :: 0 :: List.replicate b.length 0 from rfl] at w ho
  simp only [Tryd.ntmps17, Tryd.results17, unrRun, pureOpC, unc, sliceC, absOps, absOp, evO, constSV, ungd, gdP, gdPs, setD, binI, binV, ptrE, T_ty, T_size, T_bytes, T_zero, tTy, tSize, tBytes, tZero, iaddrV, lowI, highI, pureOp, memOp, lenV, newV, notIn, dataOf, zI, blkAt, Data.len, Lim.add, resV, inRet, flats, flatV, flat2, Op.operands, Call.operands, List.getD, List.getElem?_cons_zero, List.getElem?_cons_succ, Option.getD_some, List.set, List.map, List.toList_toArray, Option.map_some, Option.map_none, exitTo, true_and, and_true, and_self, if_true, if_false, eq_self, ne_eq, not_false_eq_true, Bool.false_eq_true, Nat.zero_add, Int.toNat_natCast, Int.cast_ofNat_Int, Nat.le_refl, Option.toArray_some, Option.toArray_none, List.append_toArray, List.cons_append, List.nil_append, List.append_nil, List.length_cons, Nat.reduceSub, Nat.succ_ne_self, beq_self_eq_true, List.replicate_succ, List.replicate_zero, fnd_same, upd_same, e1, e2, e3, e4, m1, d1, d2, d3, d4, w, List.length_set, ho, List.length_replicate]
  repeat refine ⟨by omega, ?_⟩
  have hget : (s.t.set d (SV.slc (o0 + off + 9) (c0 + 1 + 1 + 1) 1 b.length (b.length + 3)))[d]?.getD SV.any = SV.slc (o0 + off + 9) (c0 + 1 + 1 + 1) 1 b.length (b.length + 3) := by simp [hdl]
  simp only [hget]
  exact ⟨trivial, HOps_go TO 100 h⟩

theorem left_go {X : Ctx} {ops : Array Oper} {o : Oper} {rest : List Oper} {k : List Item} {s : St} {Φ : St → Prop} {xs : Array Operand} {ts : Array TypeId} {d n g : Nat} {b : List Int} (off : Nat)
    (hb : b.length ≤ 140737488351232) (hB : Bytes b) (ho : o.op = .call { callee := .value (.func 23), args := xs, argTypes := ts }) (hd : o.dst = some d)
    (ha : argC s.t xs.toList = [.slc n g 1 b.length (b.length + 3), .view false (.ints .u8 b)] ∧ xs.size = 2 ∧ blkAt s.b n g = some (.vec (.ints .u8 (b ++ [7, 7, 7]))))
    (h : guardIs ops s.t true o.guard ∧ gdPs s.t true xs.toList ∧ (d < s.t.length ∧ absOps Tryd.prog X T ops k Φ (absRun Tryd.prog X T Φ 100 k) rest ⟨s.t.set d (.bool true), s.b, ⟨s.c.c + 5, [], s.c.o⟩⟩)) : HOps Tryd.prog X ops (o :: rest) k s Φ := by
  obtain ⟨hg, hgd, hdl, h⟩ := h
  obtain ⟨ha1, ha2, hbk⟩ := ha
  refine HOps_in TO off ho hd hg Tryd.func23 rfl (by decide +kernel) hgd ?_
  refine absRun_ok TO 100 _ _ ?_
  rw [ha1, ha2]
  generalize s.c.c = c0 at *
  generalize s.c.o = o0 at *
  generalize s.b = b0 at *
  have hS := Same_meets b b hb
  rw [show decide (b = b) = true by simp] at hS
  have ht : (b ++ [7, 7, 7]).take b.length = b := List.take_left
  have hwl : (b ++ [7, 7, 7]).length = b.length + 3 := by simp
  have hbk' : fnd b0 n = some (g, .vec (.ints .u8 (b ++ [7, 7, 7]))) := blkAt_fnd hbk
  simp only [Tryd.ntmps23, Tryd.results23, pureOpC, absRun, absOps, absOp, evO, constSV, ungd, gdP, gdPs, setD, pureOp, memOp, flats, flatV, flat2, Op.operands, List.getD, List.getElem?_cons_zero, List.getElem?_cons_succ, Option.getD_some, List.set, List.toList_toArray, true_and, and_self, List.cons_append, List.nil_append, Nat.reduceSub, List.replicate_succ, List.replicate_zero]
  refine call_go TO 100 hS Tryd.func14 (by decide +kernel) rfl rfl rfl ?_
  have e1 : IntKind.i64.wrap ((b.length : Int) + 3) = ((b.length + 3 : Nat) : Int) := by rw [w64 (by omega) (by omega)]; omega
  have e2 : IntKind.i64.wrap ((b.length : Int) + 1) = ((b.length + 1 : Nat) : Int) := by rw [w64 (by omega) (by omega)]; omega
  have e3 : IntKind.i64.wrap ((b.length : Int) + 2) = ((b.length + 2 : Nat) : Int) := by rw [w64 (by omega) (by omega)]; omega
  have d4 : decide (((b.length + 3 : Nat) : Int) < ((b.length + 3 : Nat) : Int)) = false := by simp
  have g0 : (b ++ [7, 7, 7])[b.length]?.getD 0 = 7 := by rw [List.getElem?_append_right (Nat.le_refl _), Nat.sub_self]; rfl
  have g1 : (b ++ [7, 7, 7])[b.length + 1]?.getD 0 = 7 := by rw [List.getElem?_append_right (by omega), show b.length + 1 - b.length = 1 by omega]; rfl
  have g2 : (b ++ [7, 7, 7])[b.length + 2]?.getD 0 = 7 := by rw [List.getElem?_append_right (by omega), show b.length + 2 - b.length = 2 by omega]; rfl
  have hget : (s.t.set d (SV.bool true))[d]?.getD SV.any = SV.bool true := by simp [hdl]
  simp only [List.drop_zero, pureOpC, unc, capV, sliceC, absRun, absOps, absOp, evO, constSV, ungd, gdP, gdPs, setD, binI, binV, ptrE, unV, T_ty, T_size, tTy, tSize, iaddrV, lowI, highI, pickV, pureOp, guardOf, lenV, loadV, notIn, blkAt, elemV, Data.len, Data.esz, Data.sub, resV, ownN, nodup, bares, bare, bare0, inRet, guardIs, callP, callS, argS, mAs, mA, mA0, mB0, lowD, allNotIn, impN, impB, impT, packS, delL, Op.operands, Call.operands, List.getD, List.getElem?_cons_zero, List.getElem?_cons_succ, Option.getD_some, List.set, List.map, List.toList_toArray, List.getElem?_toArray, Option.bind_some, Option.map_some, Option.map_none, true_and, and_true, and_self, implies_true, if_true, if_false, eq_self, ne_eq, not_false_eq_true, forall_const, Bool.false_eq_true, Nat.zero_add, Int.toNat_natCast, Nat.le_refl, Int.le_refl, Bool.cond_true, Bool.cond_false, Option.toArray_some, Option.toArray_none, List.append_toArray, List.cons_append, List.nil_append, List.append_nil, Nat.succ_ne_self, Bool.not_true, Bool.not_false, beq_self_eq_true, Bool.and_self, hbk', ht, hwl, e1, e2, e3, d4, g0, g1, g2, hget]
  repeat refine ⟨by omega, ?_⟩
  exact HOps_go TO 100 h

end Go.Proofs.YtakgefinmlomdaaDoor.Abs
