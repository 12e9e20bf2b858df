/- THE TABLE OF THIS SEAT's TYPES, as the own library asks for it. -/
import Derived.Test.YtcbeacpikgilnaaDoorA20
import Derived.Test.YtcbeacpikgilnaaDoorProg
import Derived.KernelRfl
import Derived.OwnWalk
set_option maxRecDepth 100000
set_option linter.unusedVariables false
set_option linter.unusedSimpArgs false
namespace Go.Proofs.YtcbeacpikgilnaaDoor.Abs
open Go Go.Proofs

def tTy (t : Nat) : TyI :=
  match t with
  | 2 => .int .i64
  | 3 => .int .i64
  | 4 => .bool
  | 5 => .int .u8
  | 9 => .string
  | 12 => .int .u64
  | 13 => .struct [(0, 9), (1, 12)]
  | 21 => .int .i32
  | 22 => .int .u32
  | 23 => .array 8 22
  | 24 => .array 64 5
  | 29 => .int .u64
  | 30 => .slice 5
  | 34 => .array 32 5
  | 37 => .int .u64
  | 41 => .int .i64
  | 48 => .array 16 5
  | 50 => .array 8 5
  | 54 => .array 64 22
  | 58 => .slice 29
  | 67 => .slice 30
  | 78 => .pointer 5
  | _ => .other

def tSize (t : Nat) : Nat :=
  match t with
  | 2 => 1
  | 3 => 1
  | 4 => 1
  | 5 => 1
  | 9 => 1
  | 12 => 1
  | 13 => 2
  | 21 => 1
  | 22 => 1
  | 23 => 8
  | 24 => 64
  | 29 => 1
  | 30 => 1
  | 34 => 32
  | 37 => 1
  | 41 => 1
  | 48 => 16
  | 50 => 8
  | 54 => 64
  | 58 => 1
  | 67 => 1
  | 78 => 1
  | _ => 0

def tBytes (t : Nat) : Nat :=
  match t with
  | 2 => 8
  | 3 => 8
  | 4 => 1
  | 5 => 1
  | 9 => 16
  | 12 => 8
  | 13 => 24
  | 21 => 4
  | 22 => 4
  | 23 => 32
  | 24 => 64
  | 29 => 8
  | 30 => 24
  | 34 => 32
  | 37 => 8
  | 41 => 8
  | 48 => 16
  | 50 => 8
  | 54 => 256
  | 58 => 24
  | 67 => 24
  | 78 => 8
  | _ => 0

def tZero (t : Nat) : List SV :=
  match t with
  | 2 => [.int .i64 0]
  | 3 => [.int .i64 0]
  | 4 => [.bool false]
  | 5 => [.int .u8 0]
  | 9 => [.str ByteArray.empty]
  | 12 => [.int .u64 0]
  | 13 => [.str ByteArray.empty, .int .u64 0]
  | 21 => [.int .i32 0]
  | 22 => [.int .u32 0]
  | 23 => [.arr .u32 8 (List.replicate 8 0)]
  | 24 => [.arr .u8 64 (List.replicate 64 0)]
  | 29 => [.int .u64 0]
  | 30 => [.nil]
  | 34 => [.arr .u8 32 (List.replicate 32 0)]
  | 37 => [.int .u64 0]
  | 41 => [.int .i64 0]
  | 48 => [.arr .u8 16 (List.replicate 16 0)]
  | 50 => [.arr .u8 8 (List.replicate 8 0)]
  | 54 => [.arr .u32 64 (List.replicate 64 0)]
  | 58 => [.nil]
  | 67 => [.nil]
  | 78 => [.lit (.pointer none)]
  | _ => []

def T : Tab := ⟨tTy, tSize, tBytes, tZero⟩

theorem T_ty : T.ty = tTy := rfl
theorem T_size : T.size = tSize := rfl
theorem T_bytes : T.bytes = tBytes := rfl
theorem T_zero : T.zero = tZero := rfl

theorem inf2 : (Tryd.prog.info? 2).map (fun i => (i.zero, i.size, i.bytes)) = some (some (.int .i64 0), 1, 8) := by kernel_rfl
theorem und2 : Tryd.prog.underlying 2 = some (TypeDesc.int .i64) := by kernel_rfl
theorem inf3 : (Tryd.prog.info? 3).map (fun i => (i.zero, i.size, i.bytes)) = some (some (.int .i64 0), 1, 8) := by kernel_rfl
theorem und3 : Tryd.prog.underlying 3 = some (TypeDesc.int .i64) := by kernel_rfl
theorem inf4 : (Tryd.prog.info? 4).map (fun i => (i.zero, i.size, i.bytes)) = some (some (.bool false), 1, 1) := by kernel_rfl
theorem und4 : Tryd.prog.underlying 4 = some TypeDesc.bool := by kernel_rfl
theorem inf5 : (Tryd.prog.info? 5).map (fun i => (i.zero, i.size, i.bytes)) = some (some (.int .u8 0), 1, 1) := by kernel_rfl
theorem und5 : Tryd.prog.underlying 5 = some (TypeDesc.int .u8) := by kernel_rfl
theorem inf9 : (Tryd.prog.info? 9).map (fun i => (i.zero, i.size, i.bytes)) = some (some (.string ByteArray.empty), 1, 16) := by kernel_rfl
theorem und9 : Tryd.prog.underlying 9 = some TypeDesc.string := by kernel_rfl
theorem inf12 : (Tryd.prog.info? 12).map (fun i => (i.zero, i.size, i.bytes)) = some (some (.int .u64 0), 1, 8) := by kernel_rfl
theorem und12 : Tryd.prog.underlying 12 = some (TypeDesc.int .u64) := by kernel_rfl
theorem inf13 : (Tryd.prog.info? 13).map (fun i => (i.zero, i.size, i.bytes)) = some (some (.agg #[.string ByteArray.empty, .int .u64 0]), 2, 24) := by kernel_rfl
theorem und13 : (Tryd.prog.underlying 13).map (fun d => match d with | .struct f => f.toList.map (fun x => (x.offset, x.type)) | _ => []) = some [(0, 9), (1, 12)] := by kernel_rfl
theorem inf21 : (Tryd.prog.info? 21).map (fun i => (i.zero, i.size, i.bytes)) = some (some (.int .i32 0), 1, 4) := by kernel_rfl
theorem und21 : Tryd.prog.underlying 21 = some (TypeDesc.int .i32) := by kernel_rfl
theorem inf22 : (Tryd.prog.info? 22).map (fun i => (i.zero, i.size, i.bytes)) = some (some (.int .u32 0), 1, 4) := by kernel_rfl
theorem und22 : Tryd.prog.underlying 22 = some (TypeDesc.int .u32) := by kernel_rfl
theorem inf23 : (Tryd.prog.info? 23).map (fun i => (i.zero, i.size, i.bytes)) = some (some (.agg #[.int .u32 0, .int .u32 0, .int .u32 0, .int .u32 0, .int .u32 0, .int .u32 0, .int .u32 0, .int .u32 0]), 8, 32) := by kernel_rfl
theorem und23 : Tryd.prog.underlying 23 = some (TypeDesc.array 8 22) := by kernel_rfl
theorem inf24 : (Tryd.prog.info? 24).map (fun i => (i.zero, i.size, i.bytes)) = some (some (.agg #[.int .u8 0, .int .u8 0, .int .u8 0, .int .u8 0, .int .u8 0, .int .u8 0, .int .u8 0, .int .u8 0, .int .u8 0, .int .u8 0, .int .u8 0, .int .u8 0, .int .u8 0, .int .u8 0, .int .u8 0, .int .u8 0, .int .u8 0, .int .u8 0, .int .u8 0, .int .u8 0, .int .u8 0, .int .u8 0, .int .u8 0, .int .u8 0, .int .u8 0, .int .u8 0, .int .u8 0, .int .u8 0, .int .u8 0, .int .u8 0, .int .u8 0, .int .u8 0, .int .u8 0, .int .u8 0, .int .u8 0, .int .u8 0, .int .u8 0, .int .u8 0, .int .u8 0, .int .u8 0, .int .u8 0, .int .u8 0, .int .u8 0, .int .u8 0, .int .u8 0, .int .u8 0, .int .u8 0, .int .u8 0, .int .u8 0, .int .u8 0, .int .u8 0, .int .u8 0, .int .u8 0, .int .u8 0, .int .u8 0, .int .u8 0, .int .u8 0, .int .u8 0, .int .u8 0, .int .u8 0, .int .u8 0, .int .u8 0, .int .u8 0, .int .u8 0]), 64, 64) := by kernel_rfl
theorem und24 : Tryd.prog.underlying 24 = some (TypeDesc.array 64 5) := by kernel_rfl
theorem inf29 : (Tryd.prog.info? 29).map (fun i => (i.zero, i.size, i.bytes)) = some (some (.int .u64 0), 1, 8) := by kernel_rfl
theorem und29 : Tryd.prog.underlying 29 = some (TypeDesc.int .u64) := by kernel_rfl
theorem inf30 : (Tryd.prog.info? 30).map (fun i => (i.zero, i.size, i.bytes)) = some (some (.slice none 0 0), 1, 24) := by kernel_rfl
theorem und30 : Tryd.prog.underlying 30 = some (TypeDesc.slice 5) := by kernel_rfl
theorem inf34 : (Tryd.prog.info? 34).map (fun i => (i.zero, i.size, i.bytes)) = some (some (.agg #[.int .u8 0, .int .u8 0, .int .u8 0, .int .u8 0, .int .u8 0, .int .u8 0, .int .u8 0, .int .u8 0, .int .u8 0, .int .u8 0, .int .u8 0, .int .u8 0, .int .u8 0, .int .u8 0, .int .u8 0, .int .u8 0, .int .u8 0, .int .u8 0, .int .u8 0, .int .u8 0, .int .u8 0, .int .u8 0, .int .u8 0, .int .u8 0, .int .u8 0, .int .u8 0, .int .u8 0, .int .u8 0, .int .u8 0, .int .u8 0, .int .u8 0, .int .u8 0]), 32, 32) := by kernel_rfl
theorem und34 : Tryd.prog.underlying 34 = some (TypeDesc.array 32 5) := by kernel_rfl
theorem inf37 : (Tryd.prog.info? 37).map (fun i => (i.zero, i.size, i.bytes)) = some (some (.int .u64 0), 1, 8) := by kernel_rfl
theorem und37 : Tryd.prog.underlying 37 = some (TypeDesc.int .u64) := by kernel_rfl
theorem inf41 : (Tryd.prog.info? 41).map (fun i => (i.zero, i.size, i.bytes)) = some (some (.int .i64 0), 1, 8) := by kernel_rfl
theorem und41 : Tryd.prog.underlying 41 = some (TypeDesc.int .i64) := by kernel_rfl
theorem inf48 : (Tryd.prog.info? 48).map (fun i => (i.zero, i.size, i.bytes)) = some (some (.agg #[.int .u8 0, .int .u8 0, .int .u8 0, .int .u8 0, .int .u8 0, .int .u8 0, .int .u8 0, .int .u8 0, .int .u8 0, .int .u8 0, .int .u8 0, .int .u8 0, .int .u8 0, .int .u8 0, .int .u8 0, .int .u8 0]), 16, 16) := by kernel_rfl
theorem und48 : Tryd.prog.underlying 48 = some (TypeDesc.array 16 5) := by kernel_rfl
theorem inf50 : (Tryd.prog.info? 50).map (fun i => (i.zero, i.size, i.bytes)) = some (some (.agg #[.int .u8 0, .int .u8 0, .int .u8 0, .int .u8 0, .int .u8 0, .int .u8 0, .int .u8 0, .int .u8 0]), 8, 8) := by kernel_rfl
theorem und50 : Tryd.prog.underlying 50 = some (TypeDesc.array 8 5) := by kernel_rfl
theorem inf54 : (Tryd.prog.info? 54).map (fun i => (i.zero, i.size, i.bytes)) = some (some (.agg #[.int .u32 0, .int .u32 0, .int .u32 0, .int .u32 0, .int .u32 0, .int .u32 0, .int .u32 0, .int .u32 0, .int .u32 0, .int .u32 0, .int .u32 0, .int .u32 0, .int .u32 0, .int .u32 0, .int .u32 0, .int .u32 0, .int .u32 0, .int .u32 0, .int .u32 0, .int .u32 0, .int .u32 0, .int .u32 0, .int .u32 0, .int .u32 0, .int .u32 0, .int .u32 0, .int .u32 0, .int .u32 0, .int .u32 0, .int .u32 0, .int .u32 0, .int .u32 0, .int .u32 0, .int .u32 0, .int .u32 0, .int .u32 0, .int .u32 0, .int .u32 0, .int .u32 0, .int .u32 0, .int .u32 0, .int .u32 0, .int .u32 0, .int .u32 0, .int .u32 0, .int .u32 0, .int .u32 0, .int .u32 0, .int .u32 0, .int .u32 0, .int .u32 0, .int .u32 0, .int .u32 0, .int .u32 0, .int .u32 0, .int .u32 0, .int .u32 0, .int .u32 0, .int .u32 0, .int .u32 0, .int .u32 0, .int .u32 0, .int .u32 0, .int .u32 0]), 64, 256) := by kernel_rfl
theorem und54 : Tryd.prog.underlying 54 = some (TypeDesc.array 64 22) := by kernel_rfl
theorem inf58 : (Tryd.prog.info? 58).map (fun i => (i.zero, i.size, i.bytes)) = some (some (.slice none 0 0), 1, 24) := by kernel_rfl
theorem und58 : Tryd.prog.underlying 58 = some (TypeDesc.slice 29) := by kernel_rfl
theorem inf67 : (Tryd.prog.info? 67).map (fun i => (i.zero, i.size, i.bytes)) = some (some (.slice none 0 0), 1, 24) := by kernel_rfl
theorem und67 : Tryd.prog.underlying 67 = some (TypeDesc.slice 30) := by kernel_rfl
theorem inf78 : (Tryd.prog.info? 78).map (fun i => (i.zero, i.size, i.bytes)) = some (some (.pointer none), 1, 8) := by kernel_rfl
theorem und78 : Tryd.prog.underlying 78 = some (TypeDesc.pointer 5) := by kernel_rfl

theorem struct_of {P : Program} {t : Nat} {l : List (Nat × TypeId)} (h : (P.underlying t).map (fun d => match d with | .struct f => f.toList.map (fun x => (x.offset, x.type)) | _ => []) = some l) (hl : l ≠ []) :
    ∃ f, P.underlying t = some (.struct f) ∧ f.toList.map (fun x => (x.offset, x.type)) = l := by
  cases e : P.underlying t with
  | none => rw [e] at h; simp at h
  | some d =>
    rw [e] at h
    simp only [Option.map_some, Option.some.injEq] at h
    cases d <;> simp only at h <;> first | exact ⟨_, rfl, h⟩ | exact absurd h.symm hl

theorem info_of {P : Program} {t : Nat} {z : Value} {size bytes : Nat} {l : List SV} (h : (P.info? t).map (fun i => (i.zero, i.size, i.bytes)) = some (some z, size, bytes)) (hz : ZeroOk l z.cells.toList) (hs : z.cells.size = size) :
    ∃ i, P.info? t = some i ∧ i.size = size ∧ i.bytes = bytes ∧ ∃ z, i.zero = some z ∧ ZeroOk l z.cells.toList ∧ z.cells.size = size := by
  obtain ⟨i, h1, h2, h3, h4⟩ := info_parts h
  exact ⟨i, h1, h3, h4, z, h2, hz, hs⟩

theorem tyOk_T (t : Nat) : tyOk Tryd.prog t (tTy t) := by
  unfold tTy
  split
  · exact und2
  · exact und3
  · exact und4
  · exact und5
  · exact und9
  · exact und12
  · exact struct_of und13 (by simp)
  · exact und21
  · exact und22
  · exact und23
  · exact und24
  · exact und29
  · exact und30
  · exact und34
  · exact und37
  · exact und41
  · exact und48
  · exact und50
  · exact und54
  · exact und58
  · exact und67
  · exact und78
  · trivial

theorem infoOk_T (t : Nat) (h : tSize t ≠ 0) : ∃ i, Tryd.prog.info? t = some i ∧ i.size = tSize t ∧ i.bytes = tBytes t ∧ ∃ z, i.zero = some z ∧ ZeroOk (tZero t) z.cells.toList ∧ z.cells.size = tSize t := by
  unfold tSize at h ⊢
  unfold tBytes tZero
  split at h
  · exact info_of inf2 (⟨_, _, rfl, rfl, rfl⟩) rfl
  · exact info_of inf3 (⟨_, _, rfl, rfl, rfl⟩) rfl
  · exact info_of inf4 (⟨_, _, rfl, rfl, rfl⟩) rfl
  · exact info_of inf5 (⟨_, _, rfl, rfl, rfl⟩) rfl
  · exact info_of inf9 (⟨_, _, rfl, rfl, rfl⟩) rfl
  · exact info_of inf12 (⟨_, _, rfl, rfl, rfl⟩) rfl
  · exact info_of inf13 (⟨_, _, rfl, rfl, ⟨_, _, rfl, rfl, rfl⟩⟩) rfl
  · exact info_of inf21 (⟨_, _, rfl, rfl, rfl⟩) rfl
  · exact info_of inf22 (⟨_, _, rfl, rfl, rfl⟩) rfl
  · exact info_of inf23 (⟨rfl, _, rfl, rfl⟩) rfl
  · exact info_of inf24 (⟨rfl, _, rfl, rfl⟩) rfl
  · exact info_of inf29 (⟨_, _, rfl, rfl, rfl⟩) rfl
  · exact info_of inf30 (⟨_, _, rfl, rfl, rfl⟩) rfl
  · exact info_of inf34 (⟨rfl, _, rfl, rfl⟩) rfl
  · exact info_of inf37 (⟨_, _, rfl, rfl, rfl⟩) rfl
  · exact info_of inf41 (⟨_, _, rfl, rfl, rfl⟩) rfl
  · exact info_of inf48 (⟨rfl, _, rfl, rfl⟩) rfl
  · exact info_of inf50 (⟨rfl, _, rfl, rfl⟩) rfl
  · exact info_of inf54 (⟨rfl, _, rfl, rfl⟩) rfl
  · exact info_of inf58 (⟨_, _, rfl, rfl, rfl⟩) rfl
  · exact info_of inf67 (⟨_, _, rfl, rfl, rfl⟩) rfl
  · exact info_of inf78 (⟨_, _, rfl, rfl, rfl⟩) rfl
  · exact absurd rfl h

theorem TO : TabOk Tryd.prog T := ⟨tyOk_T, infoOk_T, Nat.le_of_ble_eq_true (by kernel_rfl)⟩

end Go.Proofs.YtcbeacpikgilnaaDoor.Abs
