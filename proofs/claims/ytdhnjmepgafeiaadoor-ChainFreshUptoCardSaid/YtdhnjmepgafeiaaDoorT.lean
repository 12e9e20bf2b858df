/- THE TABLE OF THIS SEAT's TYPES, as the own library asks for it. -/
import Derived.Test.YtdhnjmepgafeiaaDoorB4
import Derived.Test.YtdhnjmepgafeiaaDoorProg
import Derived.KernelRfl
import Derived.OwnWalk
set_option maxRecDepth 100000
set_option linter.unusedVariables false
set_option linter.unusedSimpArgs false
namespace Go.Proofs.YtdhnjmepgafeiaaDoor.Abs
open Go Go.Proofs

def tTy (t : Nat) : TyI :=
  match t with
  | 2 => .int .i64
  | 3 => .int .i64
  | 4 => .bool
  | 5 => .int .u8
  | 9 => .string
  | 12 => .int .u64
  | 13 => .struct [(0, 9), (1, 12)]
  | 21 => .int .i32
  | 22 => .slice 5
  | 23 => .slice 22
  | 27 => .int .i64
  | 40 => .int .u16
  | 41 => .int .u32
  | 42 => .int .u16
  | 43 => .int .u64
  | 44 => .array 16 5
  | 45 => .struct [(0, 40), (1, 41), (2, 42), (3, 40), (4, 41), (5, 41), (6, 43), (7, 43), (8, 41), (9, 43), (10, 44)]
  | 46 => .struct [(0, 40), (1, 41), (2, 42), (3, 40), (4, 41), (5, 41), (6, 43), (7, 43), (8, 41), (9, 43), (10, 44)]
  | 67 => .array 32 5
  | 71 => .int .u64
  | 74 => .slice 42
  | 76 => .array 64 5
  | 77 => .array 8 41
  | 81 => .array 64 41
  | 85 => .slice 43
  | 101 => .pointer 5
  | _ => .other

def tSize (t : Nat) : Nat :=
  match t with
  | 2 => 1
  | 3 => 1
  | 4 => 1
  | 5 => 1
  | 9 => 1
  | 12 => 1
  | 13 => 2
  | 21 => 1
  | 22 => 1
  | 23 => 1
  | 27 => 1
  | 40 => 1
  | 41 => 1
  | 42 => 1
  | 43 => 1
  | 44 => 16
  | 45 => 26
  | 46 => 26
  | 67 => 32
  | 71 => 1
  | 74 => 1
  | 76 => 64
  | 77 => 8
  | 81 => 64
  | 85 => 1
  | 101 => 1
  | _ => 0

def tBytes (t : Nat) : Nat :=
  match t with
  | 2 => 8
  | 3 => 8
  | 4 => 1
  | 5 => 1
  | 9 => 16
  | 12 => 8
  | 13 => 24
  | 21 => 4
  | 22 => 24
  | 23 => 24
  | 27 => 8
  | 40 => 2
  | 41 => 4
  | 42 => 2
  | 43 => 8
  | 44 => 16
  | 45 => 72
  | 46 => 72
  | 67 => 32
  | 71 => 8
  | 74 => 24
  | 76 => 64
  | 77 => 32
  | 81 => 256
  | 85 => 24
  | 101 => 8
  | _ => 0

def tZero (t : Nat) : List SV :=
  match t with
  | 2 => [.int .i64 0]
  | 3 => [.int .i64 0]
  | 4 => [.bool false]
  | 5 => [.int .u8 0]
  | 9 => [.str ByteArray.empty]
  | 12 => [.int .u64 0]
  | 13 => [.str ByteArray.empty, .int .u64 0]
  | 21 => [.int .i32 0]
  | 22 => [.nil]
  | 23 => [.nil]
  | 27 => [.int .i64 0]
  | 40 => [.int .u16 0]
  | 41 => [.int .u32 0]
  | 42 => [.int .u16 0]
  | 43 => [.int .u64 0]
  | 44 => [.arr .u8 16 (List.replicate 16 0)]
  | 45 => [.int .u16 0, .int .u32 0, .int .u16 0, .int .u16 0, .int .u32 0, .int .u32 0, .int .u64 0, .int .u64 0, .int .u32 0, .int .u64 0, .arr .u8 16 (List.replicate 16 0)]
  | 46 => [.int .u16 0, .int .u32 0, .int .u16 0, .int .u16 0, .int .u32 0, .int .u32 0, .int .u64 0, .int .u64 0, .int .u32 0, .int .u64 0, .arr .u8 16 (List.replicate 16 0)]
  | 67 => [.arr .u8 32 (List.replicate 32 0)]
  | 71 => [.int .u64 0]
  | 74 => [.nil]
  | 76 => [.arr .u8 64 (List.replicate 64 0)]
  | 77 => [.arr .u32 8 (List.replicate 8 0)]
  | 81 => [.arr .u32 64 (List.replicate 64 0)]
  | 85 => [.nil]
  | 101 => [.lit (.pointer none)]
  | _ => []

def tEq (t : Nat) : Bool :=
  match t with
  | 46 => true
  | _ => false

def T : Tab := ⟨tTy, tSize, tBytes, tZero, tEq⟩

theorem T_eq : T.eqS = tEq := rfl
theorem T_ty : T.ty = tTy := rfl
theorem T_size : T.size = tSize := rfl
theorem T_bytes : T.bytes = tBytes := rfl
theorem T_zero : T.zero = tZero := rfl

theorem inf2 : (Tryd.prog.info? 2).map (fun i => (i.zero, i.size, i.bytes)) = some (some (.int .i64 0), 1, 8) := by kernel_rfl
theorem und2 : Tryd.prog.underlying 2 = some (TypeDesc.int .i64) := by kernel_rfl
theorem inf3 : (Tryd.prog.info? 3).map (fun i => (i.zero, i.size, i.bytes)) = some (some (.int .i64 0), 1, 8) := by kernel_rfl
theorem und3 : Tryd.prog.underlying 3 = some (TypeDesc.int .i64) := by kernel_rfl
theorem inf4 : (Tryd.prog.info? 4).map (fun i => (i.zero, i.size, i.bytes)) = some (some (.bool false), 1, 1) := by kernel_rfl
theorem und4 : Tryd.prog.underlying 4 = some TypeDesc.bool := by kernel_rfl
theorem inf5 : (Tryd.prog.info? 5).map (fun i => (i.zero, i.size, i.bytes)) = some (some (.int .u8 0), 1, 1) := by kernel_rfl
theorem und5 : Tryd.prog.underlying 5 = some (TypeDesc.int .u8) := by kernel_rfl
theorem inf9 : (Tryd.prog.info? 9).map (fun i => (i.zero, i.size, i.bytes)) = some (some (.string ByteArray.empty), 1, 16) := by kernel_rfl
theorem und9 : Tryd.prog.underlying 9 = some TypeDesc.string := by kernel_rfl
theorem inf12 : (Tryd.prog.info? 12).map (fun i => (i.zero, i.size, i.bytes)) = some (some (.int .u64 0), 1, 8) := by kernel_rfl
theorem und12 : Tryd.prog.underlying 12 = some (TypeDesc.int .u64) := by kernel_rfl
theorem inf13 : (Tryd.prog.info? 13).map (fun i => (i.zero, i.size, i.bytes)) = some (some (.agg #[.string ByteArray.empty, .int .u64 0]), 2, 24) := by kernel_rfl
theorem und13 : (Tryd.prog.underlying 13).map (fun d => match d with | .struct f => f.toList.map (fun x => (x.offset, x.type)) | _ => []) = some [(0, 9), (1, 12)] := by kernel_rfl
theorem inf21 : (Tryd.prog.info? 21).map (fun i => (i.zero, i.size, i.bytes)) = some (some (.int .i32 0), 1, 4) := by kernel_rfl
theorem und21 : Tryd.prog.underlying 21 = some (TypeDesc.int .i32) := by kernel_rfl
theorem inf22 : (Tryd.prog.info? 22).map (fun i => (i.zero, i.size, i.bytes)) = some (some (.slice none 0 0), 1, 24) := by kernel_rfl
theorem und22 : Tryd.prog.underlying 22 = some (TypeDesc.slice 5) := by kernel_rfl
theorem inf23 : (Tryd.prog.info? 23).map (fun i => (i.zero, i.size, i.bytes)) = some (some (.slice none 0 0), 1, 24) := by kernel_rfl
theorem und23 : Tryd.prog.underlying 23 = some (TypeDesc.slice 22) := by kernel_rfl
theorem inf27 : (Tryd.prog.info? 27).map (fun i => (i.zero, i.size, i.bytes)) = some (some (.int .i64 0), 1, 8) := by kernel_rfl
theorem und27 : Tryd.prog.underlying 27 = some (TypeDesc.int .i64) := by kernel_rfl
theorem inf40 : (Tryd.prog.info? 40).map (fun i => (i.zero, i.size, i.bytes)) = some (some (.int .u16 0), 1, 2) := by kernel_rfl
theorem und40 : Tryd.prog.underlying 40 = some (TypeDesc.int .u16) := by kernel_rfl
theorem inf41 : (Tryd.prog.info? 41).map (fun i => (i.zero, i.size, i.bytes)) = some (some (.int .u32 0), 1, 4) := by kernel_rfl
theorem und41 : Tryd.prog.underlying 41 = some (TypeDesc.int .u32) := by kernel_rfl
theorem inf42 : (Tryd.prog.info? 42).map (fun i => (i.zero, i.size, i.bytes)) = some (some (.int .u16 0), 1, 2) := by kernel_rfl
theorem und42 : Tryd.prog.underlying 42 = some (TypeDesc.int .u16) := by kernel_rfl
theorem inf43 : (Tryd.prog.info? 43).map (fun i => (i.zero, i.size, i.bytes)) = some (some (.int .u64 0), 1, 8) := by kernel_rfl
theorem und43 : Tryd.prog.underlying 43 = some (TypeDesc.int .u64) := by kernel_rfl
theorem inf44 : (Tryd.prog.info? 44).map (fun i => (i.zero, i.size, i.bytes)) = some (some (.agg #[.int .u8 0, .int .u8 0, .int .u8 0, .int .u8 0, .int .u8 0, .int .u8 0, .int .u8 0, .int .u8 0, .int .u8 0, .int .u8 0, .int .u8 0, .int .u8 0, .int .u8 0, .int .u8 0, .int .u8 0, .int .u8 0]), 16, 16) := by kernel_rfl
theorem und44 : Tryd.prog.underlying 44 = some (TypeDesc.array 16 5) := by kernel_rfl
theorem inf45 : (Tryd.prog.info? 45).map (fun i => (i.zero, i.size, i.bytes)) = some (some (.agg #[.int .u16 0, .int .u32 0, .int .u16 0, .int .u16 0, .int .u32 0, .int .u32 0, .int .u64 0, .int .u64 0, .int .u32 0, .int .u64 0, .int .u8 0, .int .u8 0, .int .u8 0, .int .u8 0, .int .u8 0, .int .u8 0, .int .u8 0, .int .u8 0, .int .u8 0, .int .u8 0, .int .u8 0, .int .u8 0, .int .u8 0, .int .u8 0, .int .u8 0, .int .u8 0]), 26, 72) := by kernel_rfl
theorem und45 : (Tryd.prog.underlying 45).map (fun d => match d with | .struct f => f.toList.map (fun x => (x.offset, x.type)) | _ => []) = some [(0, 40), (1, 41), (2, 42), (3, 40), (4, 41), (5, 41), (6, 43), (7, 43), (8, 41), (9, 43), (10, 44)] := by kernel_rfl
theorem inf46 : (Tryd.prog.info? 46).map (fun i => (i.zero, i.size, i.bytes)) = some (some (.agg #[.int .u16 0, .int .u32 0, .int .u16 0, .int .u16 0, .int .u32 0, .int .u32 0, .int .u64 0, .int .u64 0, .int .u32 0, .int .u64 0, .int .u8 0, .int .u8 0, .int .u8 0, .int .u8 0, .int .u8 0, .int .u8 0, .int .u8 0, .int .u8 0, .int .u8 0, .int .u8 0, .int .u8 0, .int .u8 0, .int .u8 0, .int .u8 0, .int .u8 0, .int .u8 0]), 26, 72) := by kernel_rfl
theorem und46 : (Tryd.prog.underlying 46).map (fun d => match d with | .struct f => f.toList.map (fun x => (x.offset, x.type)) | _ => []) = some [(0, 40), (1, 41), (2, 42), (3, 40), (4, 41), (5, 41), (6, 43), (7, 43), (8, 41), (9, 43), (10, 44)] := by kernel_rfl
theorem inf67 : (Tryd.prog.info? 67).map (fun i => (i.zero, i.size, i.bytes)) = some (some (.agg #[.int .u8 0, .int .u8 0, .int .u8 0, .int .u8 0, .int .u8 0, .int .u8 0, .int .u8 0, .int .u8 0, .int .u8 0, .int .u8 0, .int .u8 0, .int .u8 0, .int .u8 0, .int .u8 0, .int .u8 0, .int .u8 0, .int .u8 0, .int .u8 0, .int .u8 0, .int .u8 0, .int .u8 0, .int .u8 0, .int .u8 0, .int .u8 0, .int .u8 0, .int .u8 0, .int .u8 0, .int .u8 0, .int .u8 0, .int .u8 0, .int .u8 0, .int .u8 0]), 32, 32) := by kernel_rfl
theorem und67 : Tryd.prog.underlying 67 = some (TypeDesc.array 32 5) := by kernel_rfl
theorem inf71 : (Tryd.prog.info? 71).map (fun i => (i.zero, i.size, i.bytes)) = some (some (.int .u64 0), 1, 8) := by kernel_rfl
theorem und71 : Tryd.prog.underlying 71 = some (TypeDesc.int .u64) := by kernel_rfl
theorem inf74 : (Tryd.prog.info? 74).map (fun i => (i.zero, i.size, i.bytes)) = some (some (.slice none 0 0), 1, 24) := by kernel_rfl
theorem und74 : Tryd.prog.underlying 74 = some (TypeDesc.slice 42) := by kernel_rfl
theorem inf76 : (Tryd.prog.info? 76).map (fun i => (i.zero, i.size, i.bytes)) = some (some (.agg #[.int .u8 0, .int .u8 0, .int .u8 0, .int .u8 0, .int .u8 0, .int .u8 0, .int .u8 0, .int .u8 0, .int .u8 0, .int .u8 0, .int .u8 0, .int .u8 0, .int .u8 0, .int .u8 0, .int .u8 0, .int .u8 0, .int .u8 0, .int .u8 0, .int .u8 0, .int .u8 0, .int .u8 0, .int .u8 0, .int .u8 0, .int .u8 0, .int .u8 0, .int .u8 0, .int .u8 0, .int .u8 0, .int .u8 0, .int .u8 0, .int .u8 0, .int .u8 0, .int .u8 0, .int .u8 0, .int .u8 0, .int .u8 0, .int .u8 0, .int .u8 0, .int .u8 0, .int .u8 0, .int .u8 0, .int .u8 0, .int .u8 0, .int .u8 0, .int .u8 0, .int .u8 0, .int .u8 0, .int .u8 0, .int .u8 0, .int .u8 0, .int .u8 0, .int .u8 0, .int .u8 0, .int .u8 0, .int .u8 0, .int .u8 0, .int .u8 0, .int .u8 0, .int .u8 0, .int .u8 0, .int .u8 0, .int .u8 0, .int .u8 0, .int .u8 0]), 64, 64) := by kernel_rfl
theorem und76 : Tryd.prog.underlying 76 = some (TypeDesc.array 64 5) := by kernel_rfl
theorem inf77 : (Tryd.prog.info? 77).map (fun i => (i.zero, i.size, i.bytes)) = some (some (.agg #[.int .u32 0, .int .u32 0, .int .u32 0, .int .u32 0, .int .u32 0, .int .u32 0, .int .u32 0, .int .u32 0]), 8, 32) := by kernel_rfl
theorem und77 : Tryd.prog.underlying 77 = some (TypeDesc.array 8 41) := by kernel_rfl
theorem inf81 : (Tryd.prog.info? 81).map (fun i => (i.zero, i.size, i.bytes)) = some (some (.agg #[.int .u32 0, .int .u32 0, .int .u32 0, .int .u32 0, .int .u32 0, .int .u32 0, .int .u32 0, .int .u32 0, .int .u32 0, .int .u32 0, .int .u32 0, .int .u32 0, .int .u32 0, .int .u32 0, .int .u32 0, .int .u32 0, .int .u32 0, .int .u32 0, .int .u32 0, .int .u32 0, .int .u32 0, .int .u32 0, .int .u32 0, .int .u32 0, .int .u32 0, .int .u32 0, .int .u32 0, .int .u32 0, .int .u32 0, .int .u32 0, .int .u32 0, .int .u32 0, .int .u32 0, .int .u32 0, .int .u32 0, .int .u32 0, .int .u32 0, .int .u32 0, .int .u32 0, .int .u32 0, .int .u32 0, .int .u32 0, .int .u32 0, .int .u32 0, .int .u32 0, .int .u32 0, .int .u32 0, .int .u32 0, .int .u32 0, .int .u32 0, .int .u32 0, .int .u32 0, .int .u32 0, .int .u32 0, .int .u32 0, .int .u32 0, .int .u32 0, .int .u32 0, .int .u32 0, .int .u32 0, .int .u32 0, .int .u32 0, .int .u32 0, .int .u32 0]), 64, 256) := by kernel_rfl
theorem und81 : Tryd.prog.underlying 81 = some (TypeDesc.array 64 41) := by kernel_rfl
theorem inf85 : (Tryd.prog.info? 85).map (fun i => (i.zero, i.size, i.bytes)) = some (some (.slice none 0 0), 1, 24) := by kernel_rfl
theorem und85 : Tryd.prog.underlying 85 = some (TypeDesc.slice 43) := by kernel_rfl
theorem inf101 : (Tryd.prog.info? 101).map (fun i => (i.zero, i.size, i.bytes)) = some (some (.pointer none), 1, 8) := by kernel_rfl
theorem und101 : Tryd.prog.underlying 101 = some (TypeDesc.pointer 5) := by kernel_rfl

theorem struct_of {P : Program} {t : Nat} {l : List (Nat × TypeId)} (h : (P.underlying t).map (fun d => match d with | .struct f => f.toList.map (fun x => (x.offset, x.type)) | _ => []) = some l) (hl : l ≠ []) :
    ∃ f, P.underlying t = some (.struct f) ∧ f.toList.map (fun x => (x.offset, x.type)) = l := by
  cases e : P.underlying t with
  | none => rw [e] at h; simp at h
  | some d =>
    rw [e] at h
    simp only [Option.map_some, Option.some.injEq] at h
    cases d <;> simp only at h <;> first | exact ⟨_, rfl, h⟩ | exact absurd h.symm hl

theorem info_of {P : Program} {t : Nat} {z : Value} {size bytes : Nat} {l : List SV} (h : (P.info? t).map (fun i => (i.zero, i.size, i.bytes)) = some (some z, size, bytes)) (hz : ZeroOk l z.cells.toList) (hs : z.cells.size = size) :
    ∃ i, P.info? t = some i ∧ i.size = size ∧ i.bytes = bytes ∧ ∃ z, i.zero = some z ∧ ZeroOk l z.cells.toList ∧ z.cells.size = size := by
  obtain ⟨i, h1, h2, h3, h4⟩ := info_parts h
  exact ⟨i, h1, h3, h4, z, h2, hz, hs⟩

theorem tyOk_T (t : Nat) : tyOk Tryd.prog t (tTy t) := by
  unfold tTy
  split
  · exact und2
  · exact und3
  · exact und4
  · exact und5
  · exact und9
  · exact und12
  · exact struct_of und13 (by simp)
  · exact und21
  · exact und22
  · exact und23
  · exact und27
  · exact und40
  · exact und41
  · exact und42
  · exact und43
  · exact und44
  · exact struct_of und45 (by simp)
  · exact struct_of und46 (by simp)
  · exact und67
  · exact und71
  · exact und74
  · exact und76
  · exact und77
  · exact und81
  · exact und85
  · exact und101
  · trivial

theorem infoOk_T (t : Nat) (h : tSize t ≠ 0) : ∃ i, Tryd.prog.info? t = some i ∧ i.size = tSize t ∧ i.bytes = tBytes t ∧ ∃ z, i.zero = some z ∧ ZeroOk (tZero t) z.cells.toList ∧ z.cells.size = tSize t := by
  unfold tSize at h ⊢
  unfold tBytes tZero
  split at h
  · exact info_of inf2 (⟨_, _, rfl, rfl, rfl⟩) rfl
  · exact info_of inf3 (⟨_, _, rfl, rfl, rfl⟩) rfl
  · exact info_of inf4 (⟨_, _, rfl, rfl, rfl⟩) rfl
  · exact info_of inf5 (⟨_, _, rfl, rfl, rfl⟩) rfl
  · exact info_of inf9 (⟨_, _, rfl, rfl, rfl⟩) rfl
  · exact info_of inf12 (⟨_, _, rfl, rfl, rfl⟩) rfl
  · exact info_of inf13 (⟨_, _, rfl, rfl, ⟨_, _, rfl, rfl, rfl⟩⟩) rfl
  · exact info_of inf21 (⟨_, _, rfl, rfl, rfl⟩) rfl
  · exact info_of inf22 (⟨_, _, rfl, rfl, rfl⟩) rfl
  · exact info_of inf23 (⟨_, _, rfl, rfl, rfl⟩) rfl
  · exact info_of inf27 (⟨_, _, rfl, rfl, rfl⟩) rfl
  · exact info_of inf40 (⟨_, _, rfl, rfl, rfl⟩) rfl
  · exact info_of inf41 (⟨_, _, rfl, rfl, rfl⟩) rfl
  · exact info_of inf42 (⟨_, _, rfl, rfl, rfl⟩) rfl
  · exact info_of inf43 (⟨_, _, rfl, rfl, rfl⟩) rfl
  · exact info_of inf44 (⟨rfl, _, rfl, rfl⟩) rfl
  · exact info_of inf45 (⟨_, _, rfl, rfl, ⟨_, _, rfl, rfl, ⟨_, _, rfl, rfl, ⟨_, _, rfl, rfl, ⟨_, _, rfl, rfl, ⟨_, _, rfl, rfl, ⟨_, _, rfl, rfl, ⟨_, _, rfl, rfl, ⟨_, _, rfl, rfl, ⟨_, _, rfl, rfl, ⟨rfl, _, rfl, rfl⟩⟩⟩⟩⟩⟩⟩⟩⟩⟩⟩) rfl
  · exact info_of inf46 (⟨_, _, rfl, rfl, ⟨_, _, rfl, rfl, ⟨_, _, rfl, rfl, ⟨_, _, rfl, rfl, ⟨_, _, rfl, rfl, ⟨_, _, rfl, rfl, ⟨_, _, rfl, rfl, ⟨_, _, rfl, rfl, ⟨_, _, rfl, rfl, ⟨_, _, rfl, rfl, ⟨rfl, _, rfl, rfl⟩⟩⟩⟩⟩⟩⟩⟩⟩⟩⟩) rfl
  · exact info_of inf67 (⟨rfl, _, rfl, rfl⟩) rfl
  · exact info_of inf71 (⟨_, _, rfl, rfl, rfl⟩) rfl
  · exact info_of inf74 (⟨_, _, rfl, rfl, rfl⟩) rfl
  · exact info_of inf76 (⟨rfl, _, rfl, rfl⟩) rfl
  · exact info_of inf77 (⟨rfl, _, rfl, rfl⟩) rfl
  · exact info_of inf81 (⟨rfl, _, rfl, rfl⟩) rfl
  · exact info_of inf85 (⟨_, _, rfl, rfl, rfl⟩) rfl
  · exact info_of inf101 (⟨_, _, rfl, rfl, rfl⟩) rfl
  · exact absurd rfl h

theorem names_of {l : List Field} (h : (l.all fun f => f.name != "_") = true) : ∀ f ∈ l, f.name ≠ "_" := fun f hf => by simpa using List.all_eq_true.1 h f hf

theorem eqOk_T (t : Nat) (h : tEq t = true) : Tryd.prog.stoodInHeld t = false ∧ Tryd.prog.eqGuardType Tryd.prog.depth t = false ∧ ∀ f ∈ (Tryd.prog.fieldsOf t).toList, f.name ≠ "_" := by
  unfold tEq at h
  split at h
  · exact ⟨by kernel_rfl, by kernel_rfl, names_of (by kernel_rfl)⟩
  · cases h

theorem TO : TabOk Tryd.prog T := ⟨tyOk_T, infoOk_T, Nat.le_of_ble_eq_true (by kernel_rfl), eqOk_T⟩

end Go.Proofs.YtdhnjmepgafeiaaDoor.Abs
