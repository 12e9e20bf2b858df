/- THE TABLE OF THIS SEAT's TYPES, as the own library asks for it. -/
import Derived.Test.YtbnjdnahpnjofaaB4
import Derived.Test.YtbnjdnahpnjofaaProg
import Derived.KernelRfl
import Derived.OwnWalk
set_option maxRecDepth 100000
set_option linter.unusedVariables false
set_option linter.unusedSimpArgs false
namespace Go.Proofs.Ytbnjdnahpnjofaa.Abs
open Go Go.Proofs

def tTy (t : Nat) : TyI :=
  match t with
  | 2 => .int .i64
  | 3 => .int .i64
  | 4 => .bool
  | 5 => .int .u8
  | 9 => .string
  | 12 => .int .u64
  | 13 => .struct [(0, 9), (1, 12)]
  | 21 => .int .i32
  | 22 => .slice 5
  | 24 => .int .i64
  | 30 => .slice 22
  | 31 => .slice 34
  | 32 => .pointer 44
  | 34 => .int .u16
  | 41 => .int .u64
  | 43 => .struct [(0, 4), (1, 4), (2, 22)]
  | 44 => .struct [(0, 4), (1, 4), (2, 22)]
  | 46 => .int .u32
  | 47 => .int .u16
  | 48 => .int .u64
  | 49 => .array 16 5
  | 50 => .struct [(0, 34), (1, 46), (2, 47), (3, 34), (4, 46), (5, 46), (6, 48), (7, 48), (8, 46), (9, 48), (10, 49)]
  | 51 => .struct [(0, 34), (1, 46), (2, 47), (3, 34), (4, 46), (5, 46), (6, 48), (7, 48), (8, 46), (9, 48), (10, 49)]
  | 64 => .slice 67
  | 66 => .struct [(0, 3), (1, 3), (2, 48)]
  | 67 => .struct [(0, 3), (1, 3), (2, 48)]
  | 71 => .slice 47
  | 87 => .pointer 5
  | _ => .other

def tSize (t : Nat) : Nat :=
  match t with
  | 2 => 1
  | 3 => 1
  | 4 => 1
  | 5 => 1
  | 9 => 1
  | 12 => 1
  | 13 => 2
  | 21 => 1
  | 22 => 1
  | 24 => 1
  | 30 => 1
  | 31 => 1
  | 32 => 1
  | 34 => 1
  | 41 => 1
  | 43 => 3
  | 44 => 3
  | 46 => 1
  | 47 => 1
  | 48 => 1
  | 49 => 16
  | 50 => 26
  | 51 => 26
  | 64 => 1
  | 66 => 3
  | 67 => 3
  | 71 => 1
  | 87 => 1
  | _ => 0

def tBytes (t : Nat) : Nat :=
  match t with
  | 2 => 8
  | 3 => 8
  | 4 => 1
  | 5 => 1
  | 9 => 16
  | 12 => 8
  | 13 => 24
  | 21 => 4
  | 22 => 24
  | 24 => 8
  | 30 => 24
  | 31 => 24
  | 32 => 8
  | 34 => 2
  | 41 => 8
  | 43 => 32
  | 44 => 32
  | 46 => 4
  | 47 => 2
  | 48 => 8
  | 49 => 16
  | 50 => 72
  | 51 => 72
  | 64 => 24
  | 66 => 24
  | 67 => 24
  | 71 => 24
  | 87 => 8
  | _ => 0

def tZero (t : Nat) : List SV :=
  match t with
  | 2 => [.int .i64 0]
  | 3 => [.int .i64 0]
  | 4 => [.bool false]
  | 5 => [.int .u8 0]
  | 9 => [.str ByteArray.empty]
  | 12 => [.int .u64 0]
  | 13 => [.str ByteArray.empty, .int .u64 0]
  | 21 => [.int .i32 0]
  | 22 => [.nil]
  | 24 => [.int .i64 0]
  | 30 => [.nil]
  | 31 => [.nil]
  | 32 => [.lit (.pointer none)]
  | 34 => [.int .u16 0]
  | 41 => [.int .u64 0]
  | 43 => [.bool false, .bool false, .nil]
  | 44 => [.bool false, .bool false, .nil]
  | 46 => [.int .u32 0]
  | 47 => [.int .u16 0]
  | 48 => [.int .u64 0]
  | 49 => [.arr .u8 16 (List.replicate 16 0)]
  | 50 => [.int .u16 0, .int .u32 0, .int .u16 0, .int .u16 0, .int .u32 0, .int .u32 0, .int .u64 0, .int .u64 0, .int .u32 0, .int .u64 0, .arr .u8 16 (List.replicate 16 0)]
  | 51 => [.int .u16 0, .int .u32 0, .int .u16 0, .int .u16 0, .int .u32 0, .int .u32 0, .int .u64 0, .int .u64 0, .int .u32 0, .int .u64 0, .arr .u8 16 (List.replicate 16 0)]
  | 64 => [.nil]
  | 66 => [.int .i64 0, .int .i64 0, .int .u64 0]
  | 67 => [.int .i64 0, .int .i64 0, .int .u64 0]
  | 71 => [.nil]
  | 87 => [.lit (.pointer none)]
  | _ => []

def tEq (t : Nat) : Bool :=
  match t with
  | 51 => true
  | 67 => true
  | _ => false

def T : Tab := ⟨tTy, tSize, tBytes, tZero, tEq⟩

theorem T_eq : T.eqS = tEq := rfl
theorem T_ty : T.ty = tTy := rfl
theorem T_size : T.size = tSize := rfl
theorem T_bytes : T.bytes = tBytes := rfl
theorem T_zero : T.zero = tZero := rfl

theorem inf2 : (Try.prog.info? 2).map (fun i => (i.zero, i.size, i.bytes)) = some (some (.int .i64 0), 1, 8) := by kernel_rfl
theorem und2 : Try.prog.underlying 2 = some (TypeDesc.int .i64) := by kernel_rfl
theorem inf3 : (Try.prog.info? 3).map (fun i => (i.zero, i.size, i.bytes)) = some (some (.int .i64 0), 1, 8) := by kernel_rfl
theorem und3 : Try.prog.underlying 3 = some (TypeDesc.int .i64) := by kernel_rfl
theorem inf4 : (Try.prog.info? 4).map (fun i => (i.zero, i.size, i.bytes)) = some (some (.bool false), 1, 1) := by kernel_rfl
theorem und4 : Try.prog.underlying 4 = some TypeDesc.bool := by kernel_rfl
theorem inf5 : (Try.prog.info? 5).map (fun i => (i.zero, i.size, i.bytes)) = some (some (.int .u8 0), 1, 1) := by kernel_rfl
theorem und5 : Try.prog.underlying 5 = some (TypeDesc.int .u8) := by kernel_rfl
theorem inf9 : (Try.prog.info? 9).map (fun i => (i.zero, i.size, i.bytes)) = some (some (.string ByteArray.empty), 1, 16) := by kernel_rfl
theorem und9 : Try.prog.underlying 9 = some TypeDesc.string := by kernel_rfl
theorem inf12 : (Try.prog.info? 12).map (fun i => (i.zero, i.size, i.bytes)) = some (some (.int .u64 0), 1, 8) := by kernel_rfl
theorem und12 : Try.prog.underlying 12 = some (TypeDesc.int .u64) := by kernel_rfl
theorem inf13 : (Try.prog.info? 13).map (fun i => (i.zero, i.size, i.bytes)) = some (some (.agg #[.string ByteArray.empty, .int .u64 0]), 2, 24) := by kernel_rfl
theorem und13 : (Try.prog.underlying 13).map (fun d => match d with | .struct f => f.toList.map (fun x => (x.offset, x.type)) | _ => []) = some [(0, 9), (1, 12)] := by kernel_rfl
theorem inf21 : (Try.prog.info? 21).map (fun i => (i.zero, i.size, i.bytes)) = some (some (.int .i32 0), 1, 4) := by kernel_rfl
theorem und21 : Try.prog.underlying 21 = some (TypeDesc.int .i32) := by kernel_rfl
theorem inf22 : (Try.prog.info? 22).map (fun i => (i.zero, i.size, i.bytes)) = some (some (.slice none 0 0), 1, 24) := by kernel_rfl
theorem und22 : Try.prog.underlying 22 = some (TypeDesc.slice 5) := by kernel_rfl
theorem inf24 : (Try.prog.info? 24).map (fun i => (i.zero, i.size, i.bytes)) = some (some (.int .i64 0), 1, 8) := by kernel_rfl
theorem und24 : Try.prog.underlying 24 = some (TypeDesc.int .i64) := by kernel_rfl
theorem inf30 : (Try.prog.info? 30).map (fun i => (i.zero, i.size, i.bytes)) = some (some (.slice none 0 0), 1, 24) := by kernel_rfl
theorem und30 : Try.prog.underlying 30 = some (TypeDesc.slice 22) := by kernel_rfl
theorem inf31 : (Try.prog.info? 31).map (fun i => (i.zero, i.size, i.bytes)) = some (some (.slice none 0 0), 1, 24) := by kernel_rfl
theorem und31 : Try.prog.underlying 31 = some (TypeDesc.slice 34) := by kernel_rfl
theorem inf32 : (Try.prog.info? 32).map (fun i => (i.zero, i.size, i.bytes)) = some (some (.pointer none), 1, 8) := by kernel_rfl
theorem und32 : Try.prog.underlying 32 = some (TypeDesc.pointer 44) := by kernel_rfl
theorem inf34 : (Try.prog.info? 34).map (fun i => (i.zero, i.size, i.bytes)) = some (some (.int .u16 0), 1, 2) := by kernel_rfl
theorem und34 : Try.prog.underlying 34 = some (TypeDesc.int .u16) := by kernel_rfl
theorem inf41 : (Try.prog.info? 41).map (fun i => (i.zero, i.size, i.bytes)) = some (some (.int .u64 0), 1, 8) := by kernel_rfl
theorem und41 : Try.prog.underlying 41 = some (TypeDesc.int .u64) := by kernel_rfl
theorem inf43 : (Try.prog.info? 43).map (fun i => (i.zero, i.size, i.bytes)) = some (some (.agg #[.bool false, .bool false, .slice none 0 0]), 3, 32) := by kernel_rfl
theorem und43 : (Try.prog.underlying 43).map (fun d => match d with | .struct f => f.toList.map (fun x => (x.offset, x.type)) | _ => []) = some [(0, 4), (1, 4), (2, 22)] := by kernel_rfl
theorem inf44 : (Try.prog.info? 44).map (fun i => (i.zero, i.size, i.bytes)) = some (some (.agg #[.bool false, .bool false, .slice none 0 0]), 3, 32) := by kernel_rfl
theorem und44 : (Try.prog.underlying 44).map (fun d => match d with | .struct f => f.toList.map (fun x => (x.offset, x.type)) | _ => []) = some [(0, 4), (1, 4), (2, 22)] := by kernel_rfl
theorem inf46 : (Try.prog.info? 46).map (fun i => (i.zero, i.size, i.bytes)) = some (some (.int .u32 0), 1, 4) := by kernel_rfl
theorem und46 : Try.prog.underlying 46 = some (TypeDesc.int .u32) := by kernel_rfl
theorem inf47 : (Try.prog.info? 47).map (fun i => (i.zero, i.size, i.bytes)) = some (some (.int .u16 0), 1, 2) := by kernel_rfl
theorem und47 : Try.prog.underlying 47 = some (TypeDesc.int .u16) := by kernel_rfl
theorem inf48 : (Try.prog.info? 48).map (fun i => (i.zero, i.size, i.bytes)) = some (some (.int .u64 0), 1, 8) := by kernel_rfl
theorem und48 : Try.prog.underlying 48 = some (TypeDesc.int .u64) := by kernel_rfl
theorem inf49 : (Try.prog.info? 49).map (fun i => (i.zero, i.size, i.bytes)) = some (some (.agg #[.int .u8 0, .int .u8 0, .int .u8 0, .int .u8 0, .int .u8 0, .int .u8 0, .int .u8 0, .int .u8 0, .int .u8 0, .int .u8 0, .int .u8 0, .int .u8 0, .int .u8 0, .int .u8 0, .int .u8 0, .int .u8 0]), 16, 16) := by kernel_rfl
theorem und49 : Try.prog.underlying 49 = some (TypeDesc.array 16 5) := by kernel_rfl
theorem inf50 : (Try.prog.info? 50).map (fun i => (i.zero, i.size, i.bytes)) = some (some (.agg #[.int .u16 0, .int .u32 0, .int .u16 0, .int .u16 0, .int .u32 0, .int .u32 0, .int .u64 0, .int .u64 0, .int .u32 0, .int .u64 0, .int .u8 0, .int .u8 0, .int .u8 0, .int .u8 0, .int .u8 0, .int .u8 0, .int .u8 0, .int .u8 0, .int .u8 0, .int .u8 0, .int .u8 0, .int .u8 0, .int .u8 0, .int .u8 0, .int .u8 0, .int .u8 0]), 26, 72) := by kernel_rfl
theorem und50 : (Try.prog.underlying 50).map (fun d => match d with | .struct f => f.toList.map (fun x => (x.offset, x.type)) | _ => []) = some [(0, 34), (1, 46), (2, 47), (3, 34), (4, 46), (5, 46), (6, 48), (7, 48), (8, 46), (9, 48), (10, 49)] := by kernel_rfl
theorem inf51 : (Try.prog.info? 51).map (fun i => (i.zero, i.size, i.bytes)) = some (some (.agg #[.int .u16 0, .int .u32 0, .int .u16 0, .int .u16 0, .int .u32 0, .int .u32 0, .int .u64 0, .int .u64 0, .int .u32 0, .int .u64 0, .int .u8 0, .int .u8 0, .int .u8 0, .int .u8 0, .int .u8 0, .int .u8 0, .int .u8 0, .int .u8 0, .int .u8 0, .int .u8 0, .int .u8 0, .int .u8 0, .int .u8 0, .int .u8 0, .int .u8 0, .int .u8 0]), 26, 72) := by kernel_rfl
theorem und51 : (Try.prog.underlying 51).map (fun d => match d with | .struct f => f.toList.map (fun x => (x.offset, x.type)) | _ => []) = some [(0, 34), (1, 46), (2, 47), (3, 34), (4, 46), (5, 46), (6, 48), (7, 48), (8, 46), (9, 48), (10, 49)] := by kernel_rfl
theorem inf64 : (Try.prog.info? 64).map (fun i => (i.zero, i.size, i.bytes)) = some (some (.slice none 0 0), 1, 24) := by kernel_rfl
theorem und64 : Try.prog.underlying 64 = some (TypeDesc.slice 67) := by kernel_rfl
theorem inf66 : (Try.prog.info? 66).map (fun i => (i.zero, i.size, i.bytes)) = some (some (.agg #[.int .i64 0, .int .i64 0, .int .u64 0]), 3, 24) := by kernel_rfl
theorem und66 : (Try.prog.underlying 66).map (fun d => match d with | .struct f => f.toList.map (fun x => (x.offset, x.type)) | _ => []) = some [(0, 3), (1, 3), (2, 48)] := by kernel_rfl
theorem inf67 : (Try.prog.info? 67).map (fun i => (i.zero, i.size, i.bytes)) = some (some (.agg #[.int .i64 0, .int .i64 0, .int .u64 0]), 3, 24) := by kernel_rfl
theorem und67 : (Try.prog.underlying 67).map (fun d => match d with | .struct f => f.toList.map (fun x => (x.offset, x.type)) | _ => []) = some [(0, 3), (1, 3), (2, 48)] := by kernel_rfl
theorem inf71 : (Try.prog.info? 71).map (fun i => (i.zero, i.size, i.bytes)) = some (some (.slice none 0 0), 1, 24) := by kernel_rfl
theorem und71 : Try.prog.underlying 71 = some (TypeDesc.slice 47) := by kernel_rfl
theorem inf87 : (Try.prog.info? 87).map (fun i => (i.zero, i.size, i.bytes)) = some (some (.pointer none), 1, 8) := by kernel_rfl
theorem und87 : Try.prog.underlying 87 = some (TypeDesc.pointer 5) := by kernel_rfl

theorem struct_of {P : Program} {t : Nat} {l : List (Nat × TypeId)} (h : (P.underlying t).map (fun d => match d with | .struct f => f.toList.map (fun x => (x.offset, x.type)) | _ => []) = some l) (hl : l ≠ []) :
    ∃ f, P.underlying t = some (.struct f) ∧ f.toList.map (fun x => (x.offset, x.type)) = l := by
  cases e : P.underlying t with
  | none => rw [e] at h; simp at h
  | some d =>
    rw [e] at h
    simp only [Option.map_some, Option.some.injEq] at h
    cases d <;> simp only at h <;> first | exact ⟨_, rfl, h⟩ | exact absurd h.symm hl

theorem info_of {P : Program} {t : Nat} {z : Value} {size bytes : Nat} {l : List SV} (h : (P.info? t).map (fun i => (i.zero, i.size, i.bytes)) = some (some z, size, bytes)) (hz : ZeroOk l z.cells.toList) (hs : z.cells.size = size) :
    ∃ i, P.info? t = some i ∧ i.size = size ∧ i.bytes = bytes ∧ ∃ z, i.zero = some z ∧ ZeroOk l z.cells.toList ∧ z.cells.size = size := by
  obtain ⟨i, h1, h2, h3, h4⟩ := info_parts h
  exact ⟨i, h1, h3, h4, z, h2, hz, hs⟩

theorem tyOk_T (t : Nat) : tyOk Try.prog t (tTy t) := by
  unfold tTy
  split
  · exact und2
  · exact und3
  · exact und4
  · exact und5
  · exact und9
  · exact und12
  · exact struct_of und13 (by simp)
  · exact und21
  · exact und22
  · exact und24
  · exact und30
  · exact und31
  · exact und32
  · exact und34
  · exact und41
  · exact struct_of und43 (by simp)
  · exact struct_of und44 (by simp)
  · exact und46
  · exact und47
  · exact und48
  · exact und49
  · exact struct_of und50 (by simp)
  · exact struct_of und51 (by simp)
  · exact und64
  · exact struct_of und66 (by simp)
  · exact struct_of und67 (by simp)
  · exact und71
  · exact und87
  · trivial

theorem infoOk_T (t : Nat) (h : tSize t ≠ 0) : ∃ i, Try.prog.info? t = some i ∧ i.size = tSize t ∧ i.bytes = tBytes t ∧ ∃ z, i.zero = some z ∧ ZeroOk (tZero t) z.cells.toList ∧ z.cells.size = tSize t := by
  unfold tSize at h ⊢
  unfold tBytes tZero
  split at h
  · exact info_of inf2 (⟨_, _, rfl, rfl, rfl⟩) rfl
  · exact info_of inf3 (⟨_, _, rfl, rfl, rfl⟩) rfl
  · exact info_of inf4 (⟨_, _, rfl, rfl, rfl⟩) rfl
  · exact info_of inf5 (⟨_, _, rfl, rfl, rfl⟩) rfl
  · exact info_of inf9 (⟨_, _, rfl, rfl, rfl⟩) rfl
  · exact info_of inf12 (⟨_, _, rfl, rfl, rfl⟩) rfl
  · exact info_of inf13 (⟨_, _, rfl, rfl, ⟨_, _, rfl, rfl, rfl⟩⟩) rfl
  · exact info_of inf21 (⟨_, _, rfl, rfl, rfl⟩) rfl
  · exact info_of inf22 (⟨_, _, rfl, rfl, rfl⟩) rfl
  · exact info_of inf24 (⟨_, _, rfl, rfl, rfl⟩) rfl
  · exact info_of inf30 (⟨_, _, rfl, rfl, rfl⟩) rfl
  · exact info_of inf31 (⟨_, _, rfl, rfl, rfl⟩) rfl
  · exact info_of inf32 (⟨_, _, rfl, rfl, rfl⟩) rfl
  · exact info_of inf34 (⟨_, _, rfl, rfl, rfl⟩) rfl
  · exact info_of inf41 (⟨_, _, rfl, rfl, rfl⟩) rfl
  · exact info_of inf43 (⟨_, _, rfl, rfl, ⟨_, _, rfl, rfl, ⟨_, _, rfl, rfl, rfl⟩⟩⟩) rfl
  · exact info_of inf44 (⟨_, _, rfl, rfl, ⟨_, _, rfl, rfl, ⟨_, _, rfl, rfl, rfl⟩⟩⟩) rfl
  · exact info_of inf46 (⟨_, _, rfl, rfl, rfl⟩) rfl
  · exact info_of inf47 (⟨_, _, rfl, rfl, rfl⟩) rfl
  · exact info_of inf48 (⟨_, _, rfl, rfl, rfl⟩) rfl
  · exact info_of inf49 (⟨rfl, _, rfl, rfl⟩) rfl
  · exact info_of inf50 (⟨_, _, rfl, rfl, ⟨_, _, rfl, rfl, ⟨_, _, rfl, rfl, ⟨_, _, rfl, rfl, ⟨_, _, rfl, rfl, ⟨_, _, rfl, rfl, ⟨_, _, rfl, rfl, ⟨_, _, rfl, rfl, ⟨_, _, rfl, rfl, ⟨_, _, rfl, rfl, ⟨rfl, _, rfl, rfl⟩⟩⟩⟩⟩⟩⟩⟩⟩⟩⟩) rfl
  · exact info_of inf51 (⟨_, _, rfl, rfl, ⟨_, _, rfl, rfl, ⟨_, _, rfl, rfl, ⟨_, _, rfl, rfl, ⟨_, _, rfl, rfl, ⟨_, _, rfl, rfl, ⟨_, _, rfl, rfl, ⟨_, _, rfl, rfl, ⟨_, _, rfl, rfl, ⟨_, _, rfl, rfl, ⟨rfl, _, rfl, rfl⟩⟩⟩⟩⟩⟩⟩⟩⟩⟩⟩) rfl
  · exact info_of inf64 (⟨_, _, rfl, rfl, rfl⟩) rfl
  · exact info_of inf66 (⟨_, _, rfl, rfl, ⟨_, _, rfl, rfl, ⟨_, _, rfl, rfl, rfl⟩⟩⟩) rfl
  · exact info_of inf67 (⟨_, _, rfl, rfl, ⟨_, _, rfl, rfl, ⟨_, _, rfl, rfl, rfl⟩⟩⟩) rfl
  · exact info_of inf71 (⟨_, _, rfl, rfl, rfl⟩) rfl
  · exact info_of inf87 (⟨_, _, rfl, rfl, rfl⟩) rfl
  · exact absurd rfl h

theorem names_of {l : List Field} (h : (l.all fun f => f.name != "_") = true) : ∀ f ∈ l, f.name ≠ "_" := fun f hf => by simpa using List.all_eq_true.1 h f hf

theorem eqOk_T (t : Nat) (h : tEq t = true) : Try.prog.stoodInHeld t = false ∧ Try.prog.eqGuardType Try.prog.depth t = false ∧ ∀ f ∈ (Try.prog.fieldsOf t).toList, f.name ≠ "_" := by
  unfold tEq at h
  split at h
  · exact ⟨by kernel_rfl, by kernel_rfl, names_of (by kernel_rfl)⟩
  · exact ⟨by kernel_rfl, by kernel_rfl, names_of (by kernel_rfl)⟩
  · cases h

theorem TO : TabOk Try.prog T := ⟨tyOk_T, infoOk_T, Nat.le_of_ble_eq_true (by kernel_rfl), eqOk_T⟩

end Go.Proofs.Ytbnjdnahpnjofaa.Abs
