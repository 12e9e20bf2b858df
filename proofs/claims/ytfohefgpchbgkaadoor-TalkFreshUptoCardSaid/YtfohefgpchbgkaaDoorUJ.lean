/- Asks and Says, compared, in plain words. -/
import Derived.Test.YtfohefgpchbgkaaDoorUI
set_option linter.unusedVariables false
set_option linter.unusedSimpArgs false
set_option maxRecDepth 100000
namespace Go.Proofs.YtfohefgpchbgkaaDoor.Abs
open Go Go.Proofs

/- In plain words. -/
def U8 (x : Int) : Prop := 0 ≤ x ∧ x < 256
def U16 (x : Int) : Prop := 0 ≤ x ∧ x < 65536
def U32 (x : Int) : Prop := 0 ≤ x ∧ x < 4294967296
def U64 (x : Int) : Prop := 0 ≤ x ∧ x < 18446744073709551616

structure Ask.ok (a : Ask) : Prop where
  dialects : ∀ x ∈ a.dialects, U16 x
  guid : a.guid.length = 16 ∧ Bytes a.guid
  proof : a.proof.length = 32 ∧ Bytes a.proof
  access : U32 a.access
  sharing : U32 a.sharing
  way : U32 a.way
  options : U32 a.options
  level : U8 a.level
  durable : U8 a.durable
  file : U64 a.file
  at_ : U64 a.at_
  n : U32 a.n
  data : Bytes a.data
  locks : ∀ x ∈ a.locks, -9223372036854775808 ≤ x.op ∧ x.op ≤ 9223372036854775807 ∧ U64 x.at_ ∧ U64 x.n ∧ U16 x.mode
  most : U16 a.most
  cls : U16 a.cls
  size : U64 a.size

/-- How much there is of it. -/
structure Ask.small (a : Ask) (N : Nat) : Prop where
  dialects : a.dialects.length ≤ N
  user : a.user.size ≤ N
  share : a.share.size ≤ N
  name : a.name.size ≤ N
  data : a.data.length ≤ N
  locks : a.locks.length ≤ N
  pattern : a.pattern.size ≤ N
  after : a.after.size ≤ N

structure Say.ok (s : Say) : Prop where
  dialect : U16 s.dialect
  size : U64 s.size
  challenge : s.challenge.length = 8 ∧ Bytes s.challenge
  level : U8 s.level
  durable : U8 s.durable
  made : U16 s.made
  file : U64 s.file
  kind : U8 s.kind
  data : Bytes s.data
  n : U32 s.n
  entries : ∀ x ∈ s.entries, U8 x.kind ∧ -9223372036854775808 ≤ x.size ∧ x.size ≤ 9223372036854775807

structure Say.small (s : Say) (N : Nat) : Prop where
  data : s.data.length ≤ N
  entries : s.entries.length ≤ N
  names : ∀ x ∈ s.entries, x.name.size ≤ N

theorem asksB_iff (a b : Ask) : asksB a b = true ↔ a = b := by
  unfold asksB
  simp only [str_eq, Bool.and_eq_true, decide_eq_true_eq, beq_iff_eq]
  constructor
  · rintro ⟨⟨⟨⟨⟨⟨⟨⟨⟨⟨⟨⟨⟨⟨⟨⟨⟨⟨⟨⟨⟨⟨h1, h2⟩, h3⟩, h4⟩, h5⟩, h6⟩, h7⟩, h8⟩, h9⟩, h10⟩, h11⟩, h12⟩, h13⟩, h14⟩, h15⟩, h16⟩, h17⟩, h18⟩, h19⟩, h20⟩, h21⟩, h22⟩, h23⟩
    cases a; cases b; simp only at *
    subst h1 h2 h3 h4 h5 h6 h7 h8 h9 h10 h11 h12 h13 h14 h15 h16 h17 h18 h19 h20 h21 h22 h23
    rfl
  · rintro rfl; simp

theorem saysB_iff (a b : Say) : saysB a b = true ↔ a = b := by
  unfold saysB
  simp only [Bool.and_eq_true, decide_eq_true_eq, beq_iff_eq]
  constructor
  · rintro ⟨⟨⟨⟨⟨⟨⟨⟨⟨⟨⟨⟨h1, h2⟩, h3⟩, h4⟩, h5⟩, h6⟩, h7⟩, h8⟩, h9⟩, h10⟩, h11⟩, h12⟩, h13⟩
    cases a; cases b; simp only at *
    subst h1 h2 h3 h4 h5 h6 h7 h8 h9 h10 h11 h12 h13
    rfl
  · rintro rfl; simp

instance : DecidableEq Ask := fun a b => decidable_of_iff (asksB a b = true) (asksB_iff a b)
instance : DecidableEq Say := fun a b => decidable_of_iff (saysB a b = true) (saysB_iff a b)

theorem or_nat {k : IntKind} {x y : Int} {B : Nat} (hk : k.bits = B) (hs : k.signed = false) (x0 : 0 ≤ x) (xh : x < 2 ^ B) (y0 : 0 ≤ y) (yh : y < 2 ^ B) : bitsI .or k x y = ((x.toNat ||| y.toNat : Nat) : Int) ∧ bitsI .or k x y < 2 ^ B := by
  subst hk
  have e1 : (BitVec.ofInt k.bits x).toNat = x.toNat := by
    rw [BitVec.toNat_ofInt]
    rw [Int.emod_eq_of_lt x0 (by simpa using xh)]
  have e2 : (BitVec.ofInt k.bits y).toNat = y.toNat := by
    rw [BitVec.toNat_ofInt]
    rw [Int.emod_eq_of_lt y0 (by simpa using yh)]
  have hx : x.toNat < 2 ^ k.bits := by
    have : ((x.toNat : Nat) : Int) < ((2 ^ k.bits : Nat) : Int) := by rw [Int.toNat_of_nonneg x0]; simpa using xh
    exact_mod_cast this
  have hy : y.toNat < 2 ^ k.bits := by
    have : ((y.toNat : Nat) : Int) < ((2 ^ k.bits : Nat) : Int) := by rw [Int.toNat_of_nonneg y0]; simpa using yh
    exact_mod_cast this
  have ho : x.toNat ||| y.toNat < 2 ^ k.bits := Nat.or_lt_two_pow hx hy
  have hi : ((x.toNat ||| y.toNat : Nat) : Int) < 2 ^ k.bits := by exact_mod_cast ho
  have e3 : bitsI .or k x y = k.wrap ((BitVec.ofInt k.bits x ||| BitVec.ofInt k.bits y).toNat : Int) := rfl
  have e4 : k.wrap ((x.toNat ||| y.toNat : Nat) : Int) = ((x.toNat ||| y.toNat : Nat) : Int) := by
    unfold IntKind.wrap
    simp only [hs, Bool.false_and, Bool.false_eq_true, if_false]
    exact Int.emod_eq_of_lt (Int.natCast_nonneg _) hi
  rw [e3, BitVec.toNat_or, e1, e2, e4]
  exact ⟨rfl, hi⟩

theorem or_zero {k : IntKind} {x y : Int} {B : Nat} (hk : k.bits = B) (hs : k.signed = false) (x0 : 0 ≤ x) (xh : x < 2 ^ B) (y0 : 0 ≤ y) (yh : y < 2 ^ B) : bitsI .or k x y = 0 ↔ x = 0 ∧ y = 0 := by
  rw [(or_nat hk hs x0 xh y0 yh).1]
  have : ((x.toNat ||| y.toNat : Nat) : Int) = 0 ↔ x.toNat ||| y.toNat = 0 := by omega
  rw [this, Nat.or_eq_zero_iff]
  omega

theorem or_in {k : IntKind} {x y : Int} {B : Nat} (hk : k.bits = B) (hs : k.signed = false) (x0 : 0 ≤ x) (xh : x < 2 ^ B) (y0 : 0 ≤ y) (yh : y < 2 ^ B) : 0 ≤ bitsI .or k x y ∧ bitsI .or k x y < 2 ^ B := by
  obtain ⟨h1, h2⟩ := or_nat hk hs x0 xh y0 yh
  exact ⟨by rw [h1]; exact Int.natCast_nonneg _, h2⟩

theorem emp_str (a : ByteArray) : (a.toList == (ByteArray.mk #[]).toList) = decide (a = ByteArray.empty) := str_eq a _

theorem bareB_iff (a : Ask) (h : a.ok) : bareB a = true ↔ a.access = 0 ∧ a.sharing = 0 ∧ a.way = 0 ∧ a.options = 0 ∧ a.n = 0 ∧ a.level = 0 ∧ a.durable = 0 ∧ a.file = 0 ∧ a.at_ = 0 ∧ a.size = 0 ∧ a.name = ByteArray.empty ∧ a.data = [] ∧ a.locks = [] ∧ a.most = 0 ∧ a.cls = 0 ∧ a.pattern = ByteArray.empty ∧ a.after = ByteArray.empty ∧ a.on = false := by
  have p32 : ((2 : Int) ^ 32) = 4294967296 := by decide
  have p64 : ((2 : Int) ^ 64) = 18446744073709551616 := by decide
  have p16 : ((2 : Int) ^ 16) = 65536 := by decide
  have p8 : ((2 : Int) ^ 8) = 256 := by decide
  have a32 : ∀ {x : Int}, U32 x → x < 2 ^ 32 := fun h => by rw [p32]; exact h.2
  have a64 : ∀ {x : Int}, U64 x → x < 2 ^ 64 := fun h => by rw [p64]; exact h.2
  have a16 : ∀ {x : Int}, U16 x → x < 2 ^ 16 := fun h => by rw [p16]; exact h.2
  have a8 : ∀ {x : Int}, U8 x → x < 2 ^ 8 := fun h => by rw [p8]; exact h.2
  have z32 : ∀ x y : Int, (0 ≤ x ∧ x < 2 ^ 32) → (0 ≤ y ∧ y < 2 ^ 32) → (bitsI .or .u32 x y = 0 ↔ x = 0 ∧ y = 0) := fun x y hx hy => or_zero rfl rfl hx.1 hx.2 hy.1 hy.2
  have i32 : ∀ x y : Int, (0 ≤ x ∧ x < 2 ^ 32) → (0 ≤ y ∧ y < 2 ^ 32) → 0 ≤ bitsI .or .u32 x y ∧ bitsI .or .u32 x y < 2 ^ 32 := fun x y hx hy => or_in rfl rfl hx.1 hx.2 hy.1 hy.2
  have z64 : ∀ x y : Int, (0 ≤ x ∧ x < 2 ^ 64) → (0 ≤ y ∧ y < 2 ^ 64) → (bitsI .or .u64 x y = 0 ↔ x = 0 ∧ y = 0) := fun x y hx hy => or_zero rfl rfl hx.1 hx.2 hy.1 hy.2
  have i64 : ∀ x y : Int, (0 ≤ x ∧ x < 2 ^ 64) → (0 ≤ y ∧ y < 2 ^ 64) → 0 ≤ bitsI .or .u64 x y ∧ bitsI .or .u64 x y < 2 ^ 64 := fun x y hx hy => or_in rfl rfl hx.1 hx.2 hy.1 hy.2
  have b1 := (⟨h.access.1, a32 h.access⟩ : 0 ≤ a.access ∧ a.access < 2 ^ 32)
  have b2 := (⟨h.sharing.1, a32 h.sharing⟩ : 0 ≤ a.sharing ∧ a.sharing < 2 ^ 32)
  have b3 := (⟨h.way.1, a32 h.way⟩ : 0 ≤ a.way ∧ a.way < 2 ^ 32)
  have b4 := (⟨h.options.1, a32 h.options⟩ : 0 ≤ a.options ∧ a.options < 2 ^ 32)
  have b5 := (⟨h.n.1, a32 h.n⟩ : 0 ≤ a.n ∧ a.n < 2 ^ 32)
  have c1 := (⟨h.file.1, a64 h.file⟩ : 0 ≤ a.file ∧ a.file < 2 ^ 64)
  have c2 := (⟨h.at_.1, a64 h.at_⟩ : 0 ≤ a.at_ ∧ a.at_ < 2 ^ 64)
  have c3 := (⟨h.size.1, a64 h.size⟩ : 0 ≤ a.size ∧ a.size < 2 ^ 64)
  have e1 := i32 _ _ b1 b2
  have e2 := i32 _ _ e1 b3
  have e3 := i32 _ _ e2 b4
  have f1 := i64 _ _ c1 c2
  have o1 : bitsI .or .u8 a.level a.durable = 0 ↔ a.level = 0 ∧ a.durable = 0 := or_zero rfl rfl h.level.1 (a8 h.level) h.durable.1 (a8 h.durable)
  have o2 : bitsI .or .u16 a.most a.cls = 0 ↔ a.most = 0 ∧ a.cls = 0 := or_zero rfl rfl h.most.1 (a16 h.most) h.cls.1 (a16 h.cls)
  unfold bareB
  simp only [Bool.and_eq_true, beq_iff_eq, emp_str, decide_eq_true_eq, z32 _ _ e3 b5, z32 _ _ e2 b4, z32 _ _ e1 b3, z32 _ _ b1 b2, z64 _ _ f1 c3, z64 _ _ c1 c2, o1, o2, Bool.not_eq_true']
  have l1 : ((a.data.length : Int) = 0) ↔ a.data = [] := by rw [← List.length_eq_zero_iff]; omega
  have l2 : ((a.locks.length : Int) = 0) ↔ a.locks = [] := by rw [← List.length_eq_zero_iff]; omega
  rw [l1, l2]
  simp only [and_assoc]

theorem emptyB_iff (s : Say) (h : s.ok) : emptyB s = true ↔ s.level = 0 ∧ s.durable = 0 ∧ s.made = 0 ∧ s.file = 0 ∧ s.kind = 0 ∧ s.data = [] ∧ s.n = 0 ∧ s.entries = [] ∧ s.more = false ∧ s.gone = false := by
  have o1 : bitsI .or .u8 s.level s.durable = 0 ↔ s.level = 0 ∧ s.durable = 0 := or_zero (B := 8) rfl rfl h.level.1 (by have := h.level.2; simpa using this) h.durable.1 (by have := h.durable.2; simpa using this)
  unfold emptyB
  have l1 : ((s.data.length : Int) = 0) ↔ s.data = [] := by rw [← List.length_eq_zero_iff]; omega
  have l2 : ((s.entries.length : Int) = 0) ↔ s.entries = [] := by rw [← List.length_eq_zero_iff]; omega
  simp only [Bool.and_eq_true, beq_iff_eq, o1, Bool.not_eq_true', l1, l2, and_assoc]

end Go.Proofs.YtfohefgpchbgkaaDoor.Abs
