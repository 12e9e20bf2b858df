/- THE TABLE OF THIS SEAT's TYPES, as the own library asks for it. -/
import Derived.Test.YtfohefgpchbgkaaDoorB4
import Derived.Test.YtfohefgpchbgkaaDoorProg
import Derived.KernelRfl
import Derived.OwnWalk
set_option maxRecDepth 100000
set_option linter.unusedVariables false
set_option linter.unusedSimpArgs false
namespace Go.Proofs.YtfohefgpchbgkaaDoor.Abs
open Go Go.Proofs

def tTy (t : Nat) : TyI :=
  match t with
  | 2 => .int .i64
  | 3 => .int .i64
  | 4 => .bool
  | 5 => .int .u8
  | 9 => .string
  | 12 => .int .u64
  | 13 => .struct [(0, 9), (1, 12)]
  | 21 => .int .i32
  | 22 => .int .u16
  | 23 => .int .u16
  | 24 => .slice 22
  | 25 => .array 16 5
  | 26 => .array 32 5
  | 27 => .int .u32
  | 28 => .int .u64
  | 29 => .slice 5
  | 30 => .slice 103
  | 31 => .struct [(0, 24), (1, 25), (17, 26), (49, 9), (50, 9), (51, 27), (52, 27), (53, 27), (54, 27), (55, 5), (56, 5), (57, 28), (58, 9), (59, 28), (60, 27), (61, 29), (62, 30), (63, 22), (64, 9), (65, 9), (66, 22), (67, 28), (68, 4)]
  | 32 => .struct [(0, 24), (1, 25), (17, 26), (49, 9), (50, 9), (51, 27), (52, 27), (53, 27), (54, 27), (55, 5), (56, 5), (57, 28), (58, 9), (59, 28), (60, 27), (61, 29), (62, 30), (63, 22), (64, 9), (65, 9), (66, 22), (67, 28), (68, 4)]
  | 34 => .int .i64
  | 44 => .array 8 5
  | 45 => .int .u8
  | 46 => .slice 108
  | 47 => .struct [(0, 22), (1, 28), (2, 44), (10, 5), (11, 5), (12, 22), (13, 28), (14, 45), (15, 29), (16, 27), (17, 46), (18, 4), (19, 4)]
  | 48 => .struct [(0, 22), (1, 28), (2, 44), (10, 5), (11, 5), (12, 22), (13, 28), (14, 45), (15, 29), (16, 27), (17, 46), (18, 4), (19, 4)]
  | 53 => .int .u64
  | 74 => .pointer 78
  | 75 => .struct [(0, 29), (1, 3), (2, 34)]
  | 76 => .struct [(0, 29), (1, 3), (2, 34)]
  | 77 => .struct [(0, 76), (3, 32)]
  | 78 => .struct [(0, 76), (3, 32)]
  | 84 => .pointer 86
  | 85 => .struct [(0, 29), (1, 3), (2, 34)]
  | 86 => .struct [(0, 29), (1, 3), (2, 34)]
  | 88 => .pointer 90
  | 89 => .struct [(0, 76), (3, 48)]
  | 90 => .struct [(0, 76), (3, 48)]
  | 100 => .slice 29
  | 102 => .struct [(0, 3), (1, 28), (2, 28), (3, 22)]
  | 103 => .struct [(0, 3), (1, 28), (2, 28), (3, 22)]
  | 104 => .pointer 76
  | 105 => .struct [(0, 45), (1, 3)]
  | 106 => .struct [(0, 45), (1, 3)]
  | 107 => .struct [(0, 9), (1, 106)]
  | 108 => .struct [(0, 9), (1, 106)]
  | 113 => .slice 3
  | 121 => .array 256 5
  | 122 => .struct [(0, 5), (1, 5)]
  | 123 => .struct [(0, 5), (1, 5)]
  | 124 => .array 16 123
  | 136 => .pointer 5
  | _ => .other

def tSize (t : Nat) : Nat :=
  match t with
  | 2 => 1
  | 3 => 1
  | 4 => 1
  | 5 => 1
  | 9 => 1
  | 12 => 1
  | 13 => 2
  | 21 => 1
  | 22 => 1
  | 23 => 1
  | 24 => 1
  | 25 => 16
  | 26 => 32
  | 27 => 1
  | 28 => 1
  | 29 => 1
  | 30 => 1
  | 31 => 69
  | 32 => 69
  | 34 => 1
  | 44 => 8
  | 45 => 1
  | 46 => 1
  | 47 => 20
  | 48 => 20
  | 53 => 1
  | 74 => 1
  | 75 => 3
  | 76 => 3
  | 77 => 72
  | 78 => 72
  | 84 => 1
  | 85 => 3
  | 86 => 3
  | 88 => 1
  | 89 => 23
  | 90 => 23
  | 100 => 1
  | 102 => 4
  | 103 => 4
  | 104 => 1
  | 105 => 2
  | 106 => 2
  | 107 => 3
  | 108 => 3
  | 113 => 1
  | 121 => 256
  | 122 => 2
  | 123 => 2
  | 124 => 32
  | 136 => 1
  | _ => 0

def tBytes (t : Nat) : Nat :=
  match t with
  | 2 => 8
  | 3 => 8
  | 4 => 1
  | 5 => 1
  | 9 => 16
  | 12 => 8
  | 13 => 24
  | 21 => 4
  | 22 => 2
  | 23 => 2
  | 24 => 24
  | 25 => 16
  | 26 => 32
  | 27 => 4
  | 28 => 8
  | 29 => 24
  | 30 => 24
  | 31 => 280
  | 32 => 280
  | 34 => 8
  | 44 => 8
  | 45 => 1
  | 46 => 24
  | 47 => 112
  | 48 => 112
  | 53 => 8
  | 74 => 8
  | 75 => 40
  | 76 => 40
  | 77 => 320
  | 78 => 320
  | 84 => 8
  | 85 => 40
  | 86 => 40
  | 88 => 8
  | 89 => 152
  | 90 => 152
  | 100 => 24
  | 102 => 32
  | 103 => 32
  | 104 => 8
  | 105 => 16
  | 106 => 16
  | 107 => 32
  | 108 => 32
  | 113 => 24
  | 121 => 256
  | 122 => 2
  | 123 => 2
  | 124 => 32
  | 136 => 8
  | _ => 0

def tZero (t : Nat) : List SV :=
  match t with
  | 2 => [.int .i64 0]
  | 3 => [.int .i64 0]
  | 4 => [.bool false]
  | 5 => [.int .u8 0]
  | 9 => [.str ByteArray.empty]
  | 12 => [.int .u64 0]
  | 13 => [.str ByteArray.empty, .int .u64 0]
  | 21 => [.int .i32 0]
  | 22 => [.int .u16 0]
  | 23 => [.int .u16 0]
  | 24 => [.nil]
  | 25 => [.arr .u8 16 (List.replicate 16 0)]
  | 26 => [.arr .u8 32 (List.replicate 32 0)]
  | 27 => [.int .u32 0]
  | 28 => [.int .u64 0]
  | 29 => [.nil]
  | 30 => [.nil]
  | 31 => [.nil, .arr .u8 16 (List.replicate 16 0), .arr .u8 32 (List.replicate 32 0), .str ByteArray.empty, .str ByteArray.empty, .int .u32 0, .int .u32 0, .int .u32 0, .int .u32 0, .int .u8 0, .int .u8 0, .int .u64 0, .str ByteArray.empty, .int .u64 0, .int .u32 0, .nil, .nil, .int .u16 0, .str ByteArray.empty, .str ByteArray.empty, .int .u16 0, .int .u64 0, .bool false]
  | 32 => [.nil, .arr .u8 16 (List.replicate 16 0), .arr .u8 32 (List.replicate 32 0), .str ByteArray.empty, .str ByteArray.empty, .int .u32 0, .int .u32 0, .int .u32 0, .int .u32 0, .int .u8 0, .int .u8 0, .int .u64 0, .str ByteArray.empty, .int .u64 0, .int .u32 0, .nil, .nil, .int .u16 0, .str ByteArray.empty, .str ByteArray.empty, .int .u16 0, .int .u64 0, .bool false]
  | 34 => [.int .i64 0]
  | 44 => [.arr .u8 8 (List.replicate 8 0)]
  | 45 => [.int .u8 0]
  | 46 => [.nil]
  | 47 => [.int .u16 0, .int .u64 0, .arr .u8 8 (List.replicate 8 0), .int .u8 0, .int .u8 0, .int .u16 0, .int .u64 0, .int .u8 0, .nil, .int .u32 0, .nil, .bool false, .bool false]
  | 48 => [.int .u16 0, .int .u64 0, .arr .u8 8 (List.replicate 8 0), .int .u8 0, .int .u8 0, .int .u16 0, .int .u64 0, .int .u8 0, .nil, .int .u32 0, .nil, .bool false, .bool false]
  | 53 => [.int .u64 0]
  | 74 => [.lit (.pointer none)]
  | 75 => [.nil, .int .i64 0, .int .i64 0]
  | 76 => [.nil, .int .i64 0, .int .i64 0]
  | 77 => [.nil, .int .i64 0, .int .i64 0, .nil, .arr .u8 16 (List.replicate 16 0), .arr .u8 32 (List.replicate 32 0), .str ByteArray.empty, .str ByteArray.empty, .int .u32 0, .int .u32 0, .int .u32 0, .int .u32 0, .int .u8 0, .int .u8 0, .int .u64 0, .str ByteArray.empty, .int .u64 0, .int .u32 0, .nil, .nil, .int .u16 0, .str ByteArray.empty, .str ByteArray.empty, .int .u16 0, .int .u64 0, .bool false]
  | 78 => [.nil, .int .i64 0, .int .i64 0, .nil, .arr .u8 16 (List.replicate 16 0), .arr .u8 32 (List.replicate 32 0), .str ByteArray.empty, .str ByteArray.empty, .int .u32 0, .int .u32 0, .int .u32 0, .int .u32 0, .int .u8 0, .int .u8 0, .int .u64 0, .str ByteArray.empty, .int .u64 0, .int .u32 0, .nil, .nil, .int .u16 0, .str ByteArray.empty, .str ByteArray.empty, .int .u16 0, .int .u64 0, .bool false]
  | 84 => [.lit (.pointer none)]
  | 85 => [.nil, .int .i64 0, .int .i64 0]
  | 86 => [.nil, .int .i64 0, .int .i64 0]
  | 88 => [.lit (.pointer none)]
  | 89 => [.nil, .int .i64 0, .int .i64 0, .int .u16 0, .int .u64 0, .arr .u8 8 (List.replicate 8 0), .int .u8 0, .int .u8 0, .int .u16 0, .int .u64 0, .int .u8 0, .nil, .int .u32 0, .nil, .bool false, .bool false]
  | 90 => [.nil, .int .i64 0, .int .i64 0, .int .u16 0, .int .u64 0, .arr .u8 8 (List.replicate 8 0), .int .u8 0, .int .u8 0, .int .u16 0, .int .u64 0, .int .u8 0, .nil, .int .u32 0, .nil, .bool false, .bool false]
  | 100 => [.nil]
  | 102 => [.int .i64 0, .int .u64 0, .int .u64 0, .int .u16 0]
  | 103 => [.int .i64 0, .int .u64 0, .int .u64 0, .int .u16 0]
  | 104 => [.lit (.pointer none)]
  | 105 => [.int .u8 0, .int .i64 0]
  | 106 => [.int .u8 0, .int .i64 0]
  | 107 => [.str ByteArray.empty, .int .u8 0, .int .i64 0]
  | 108 => [.str ByteArray.empty, .int .u8 0, .int .i64 0]
  | 113 => [.nil]
  | 121 => [.arr .u8 256 (List.replicate 256 0)]
  | 122 => [.int .u8 0, .int .u8 0]
  | 123 => [.int .u8 0, .int .u8 0]
  | 124 => [.int .u8 0, .int .u8 0, .int .u8 0, .int .u8 0, .int .u8 0, .int .u8 0, .int .u8 0, .int .u8 0, .int .u8 0, .int .u8 0, .int .u8 0, .int .u8 0, .int .u8 0, .int .u8 0, .int .u8 0, .int .u8 0, .int .u8 0, .int .u8 0, .int .u8 0, .int .u8 0, .int .u8 0, .int .u8 0, .int .u8 0, .int .u8 0, .int .u8 0, .int .u8 0, .int .u8 0, .int .u8 0, .int .u8 0, .int .u8 0, .int .u8 0, .int .u8 0]
  | 136 => [.lit (.pointer none)]
  | _ => []

def tEq (t : Nat) : Bool :=
  match t with
  | 103 => true
  | 106 => true
  | 123 => true
  | _ => false

def T : Tab := ⟨tTy, tSize, tBytes, tZero, tEq⟩

theorem T_eq : T.eqS = tEq := rfl
theorem T_ty : T.ty = tTy := rfl
theorem T_size : T.size = tSize := rfl
theorem T_bytes : T.bytes = tBytes := rfl
theorem T_zero : T.zero = tZero := rfl

theorem inf2 : (Tryd.prog.info? 2).map (fun i => (i.zero, i.size, i.bytes)) = some (some (.int .i64 0), 1, 8) := by kernel_rfl
theorem und2 : Tryd.prog.underlying 2 = some (TypeDesc.int .i64) := by kernel_rfl
theorem inf3 : (Tryd.prog.info? 3).map (fun i => (i.zero, i.size, i.bytes)) = some (some (.int .i64 0), 1, 8) := by kernel_rfl
theorem und3 : Tryd.prog.underlying 3 = some (TypeDesc.int .i64) := by kernel_rfl
theorem inf4 : (Tryd.prog.info? 4).map (fun i => (i.zero, i.size, i.bytes)) = some (some (.bool false), 1, 1) := by kernel_rfl
theorem und4 : Tryd.prog.underlying 4 = some TypeDesc.bool := by kernel_rfl
theorem inf5 : (Tryd.prog.info? 5).map (fun i => (i.zero, i.size, i.bytes)) = some (some (.int .u8 0), 1, 1) := by kernel_rfl
theorem und5 : Tryd.prog.underlying 5 = some (TypeDesc.int .u8) := by kernel_rfl
theorem inf9 : (Tryd.prog.info? 9).map (fun i => (i.zero, i.size, i.bytes)) = some (some (.string ByteArray.empty), 1, 16) := by kernel_rfl
theorem und9 : Tryd.prog.underlying 9 = some TypeDesc.string := by kernel_rfl
theorem inf12 : (Tryd.prog.info? 12).map (fun i => (i.zero, i.size, i.bytes)) = some (some (.int .u64 0), 1, 8) := by kernel_rfl
theorem und12 : Tryd.prog.underlying 12 = some (TypeDesc.int .u64) := by kernel_rfl
theorem inf13 : (Tryd.prog.info? 13).map (fun i => (i.zero, i.size, i.bytes)) = some (some (.agg #[.string ByteArray.empty, .int .u64 0]), 2, 24) := by kernel_rfl
theorem und13 : (Tryd.prog.underlying 13).map (fun d => match d with | .struct f => f.toList.map (fun x => (x.offset, x.type)) | _ => []) = some [(0, 9), (1, 12)] := by kernel_rfl
theorem inf21 : (Tryd.prog.info? 21).map (fun i => (i.zero, i.size, i.bytes)) = some (some (.int .i32 0), 1, 4) := by kernel_rfl
theorem und21 : Tryd.prog.underlying 21 = some (TypeDesc.int .i32) := by kernel_rfl
theorem inf22 : (Tryd.prog.info? 22).map (fun i => (i.zero, i.size, i.bytes)) = some (some (.int .u16 0), 1, 2) := by kernel_rfl
theorem und22 : Tryd.prog.underlying 22 = some (TypeDesc.int .u16) := by kernel_rfl
theorem inf23 : (Tryd.prog.info? 23).map (fun i => (i.zero, i.size, i.bytes)) = some (some (.int .u16 0), 1, 2) := by kernel_rfl
theorem und23 : Tryd.prog.underlying 23 = some (TypeDesc.int .u16) := by kernel_rfl
theorem inf24 : (Tryd.prog.info? 24).map (fun i => (i.zero, i.size, i.bytes)) = some (some (.slice none 0 0), 1, 24) := by kernel_rfl
theorem und24 : Tryd.prog.underlying 24 = some (TypeDesc.slice 22) := by kernel_rfl
theorem inf25 : (Tryd.prog.info? 25).map (fun i => (i.zero, i.size, i.bytes)) = some (some (.agg #[.int .u8 0, .int .u8 0, .int .u8 0, .int .u8 0, .int .u8 0, .int .u8 0, .int .u8 0, .int .u8 0, .int .u8 0, .int .u8 0, .int .u8 0, .int .u8 0, .int .u8 0, .int .u8 0, .int .u8 0, .int .u8 0]), 16, 16) := by kernel_rfl
theorem und25 : Tryd.prog.underlying 25 = some (TypeDesc.array 16 5) := by kernel_rfl
theorem inf26 : (Tryd.prog.info? 26).map (fun i => (i.zero, i.size, i.bytes)) = some (some (.agg #[.int .u8 0, .int .u8 0, .int .u8 0, .int .u8 0, .int .u8 0, .int .u8 0, .int .u8 0, .int .u8 0, .int .u8 0, .int .u8 0, .int .u8 0, .int .u8 0, .int .u8 0, .int .u8 0, .int .u8 0, .int .u8 0, .int .u8 0, .int .u8 0, .int .u8 0, .int .u8 0, .int .u8 0, .int .u8 0, .int .u8 0, .int .u8 0, .int .u8 0, .int .u8 0, .int .u8 0, .int .u8 0, .int .u8 0, .int .u8 0, .int .u8 0, .int .u8 0]), 32, 32) := by kernel_rfl
theorem und26 : Tryd.prog.underlying 26 = some (TypeDesc.array 32 5) := by kernel_rfl
theorem inf27 : (Tryd.prog.info? 27).map (fun i => (i.zero, i.size, i.bytes)) = some (some (.int .u32 0), 1, 4) := by kernel_rfl
theorem und27 : Tryd.prog.underlying 27 = some (TypeDesc.int .u32) := by kernel_rfl
theorem inf28 : (Tryd.prog.info? 28).map (fun i => (i.zero, i.size, i.bytes)) = some (some (.int .u64 0), 1, 8) := by kernel_rfl
theorem und28 : Tryd.prog.underlying 28 = some (TypeDesc.int .u64) := by kernel_rfl
theorem inf29 : (Tryd.prog.info? 29).map (fun i => (i.zero, i.size, i.bytes)) = some (some (.slice none 0 0), 1, 24) := by kernel_rfl
theorem und29 : Tryd.prog.underlying 29 = some (TypeDesc.slice 5) := by kernel_rfl
theorem inf30 : (Tryd.prog.info? 30).map (fun i => (i.zero, i.size, i.bytes)) = some (some (.slice none 0 0), 1, 24) := by kernel_rfl
theorem und30 : Tryd.prog.underlying 30 = some (TypeDesc.slice 103) := by kernel_rfl
theorem inf31 : (Tryd.prog.info? 31).map (fun i => (i.zero, i.size, i.bytes)) = some (some (.agg #[.slice none 0 0, .int .u8 0, .int .u8 0, .int .u8 0, .int .u8 0, .int .u8 0, .int .u8 0, .int .u8 0, .int .u8 0, .int .u8 0, .int .u8 0, .int .u8 0, .int .u8 0, .int .u8 0, .int .u8 0, .int .u8 0, .int .u8 0, .int .u8 0, .int .u8 0, .int .u8 0, .int .u8 0, .int .u8 0, .int .u8 0, .int .u8 0, .int .u8 0, .int .u8 0, .int .u8 0, .int .u8 0, .int .u8 0, .int .u8 0, .int .u8 0, .int .u8 0, .int .u8 0, .int .u8 0, .int .u8 0, .int .u8 0, .int .u8 0, .int .u8 0, .int .u8 0, .int .u8 0, .int .u8 0, .int .u8 0, .int .u8 0, .int .u8 0, .int .u8 0, .int .u8 0, .int .u8 0, .int .u8 0, .int .u8 0, .string ByteArray.empty, .string ByteArray.empty, .int .u32 0, .int .u32 0, .int .u32 0, .int .u32 0, .int .u8 0, .int .u8 0, .int .u64 0, .string ByteArray.empty, .int .u64 0, .int .u32 0, .slice none 0 0, .slice none 0 0, .int .u16 0, .string ByteArray.empty, .string ByteArray.empty, .int .u16 0, .int .u64 0, .bool false]), 69, 280) := by kernel_rfl
theorem und31 : (Tryd.prog.underlying 31).map (fun d => match d with | .struct f => f.toList.map (fun x => (x.offset, x.type)) | _ => []) = some [(0, 24), (1, 25), (17, 26), (49, 9), (50, 9), (51, 27), (52, 27), (53, 27), (54, 27), (55, 5), (56, 5), (57, 28), (58, 9), (59, 28), (60, 27), (61, 29), (62, 30), (63, 22), (64, 9), (65, 9), (66, 22), (67, 28), (68, 4)] := by kernel_rfl
theorem inf32 : (Tryd.prog.info? 32).map (fun i => (i.zero, i.size, i.bytes)) = some (some (.agg #[.slice none 0 0, .int .u8 0, .int .u8 0, .int .u8 0, .int .u8 0, .int .u8 0, .int .u8 0, .int .u8 0, .int .u8 0, .int .u8 0, .int .u8 0, .int .u8 0, .int .u8 0, .int .u8 0, .int .u8 0, .int .u8 0, .int .u8 0, .int .u8 0, .int .u8 0, .int .u8 0, .int .u8 0, .int .u8 0, .int .u8 0, .int .u8 0, .int .u8 0, .int .u8 0, .int .u8 0, .int .u8 0, .int .u8 0, .int .u8 0, .int .u8 0, .int .u8 0, .int .u8 0, .int .u8 0, .int .u8 0, .int .u8 0, .int .u8 0, .int .u8 0, .int .u8 0, .int .u8 0, .int .u8 0, .int .u8 0, .int .u8 0, .int .u8 0, .int .u8 0, .int .u8 0, .int .u8 0, .int .u8 0, .int .u8 0, .string ByteArray.empty, .string ByteArray.empty, .int .u32 0, .int .u32 0, .int .u32 0, .int .u32 0, .int .u8 0, .int .u8 0, .int .u64 0, .string ByteArray.empty, .int .u64 0, .int .u32 0, .slice none 0 0, .slice none 0 0, .int .u16 0, .string ByteArray.empty, .string ByteArray.empty, .int .u16 0, .int .u64 0, .bool false]), 69, 280) := by kernel_rfl
theorem und32 : (Tryd.prog.underlying 32).map (fun d => match d with | .struct f => f.toList.map (fun x => (x.offset, x.type)) | _ => []) = some [(0, 24), (1, 25), (17, 26), (49, 9), (50, 9), (51, 27), (52, 27), (53, 27), (54, 27), (55, 5), (56, 5), (57, 28), (58, 9), (59, 28), (60, 27), (61, 29), (62, 30), (63, 22), (64, 9), (65, 9), (66, 22), (67, 28), (68, 4)] := by kernel_rfl
theorem inf34 : (Tryd.prog.info? 34).map (fun i => (i.zero, i.size, i.bytes)) = some (some (.int .i64 0), 1, 8) := by kernel_rfl
theorem und34 : Tryd.prog.underlying 34 = some (TypeDesc.int .i64) := by kernel_rfl
theorem inf44 : (Tryd.prog.info? 44).map (fun i => (i.zero, i.size, i.bytes)) = some (some (.agg #[.int .u8 0, .int .u8 0, .int .u8 0, .int .u8 0, .int .u8 0, .int .u8 0, .int .u8 0, .int .u8 0]), 8, 8) := by kernel_rfl
theorem und44 : Tryd.prog.underlying 44 = some (TypeDesc.array 8 5) := by kernel_rfl
theorem inf45 : (Tryd.prog.info? 45).map (fun i => (i.zero, i.size, i.bytes)) = some (some (.int .u8 0), 1, 1) := by kernel_rfl
theorem und45 : Tryd.prog.underlying 45 = some (TypeDesc.int .u8) := by kernel_rfl
theorem inf46 : (Tryd.prog.info? 46).map (fun i => (i.zero, i.size, i.bytes)) = some (some (.slice none 0 0), 1, 24) := by kernel_rfl
theorem und46 : Tryd.prog.underlying 46 = some (TypeDesc.slice 108) := by kernel_rfl
theorem inf47 : (Tryd.prog.info? 47).map (fun i => (i.zero, i.size, i.bytes)) = some (some (.agg #[.int .u16 0, .int .u64 0, .int .u8 0, .int .u8 0, .int .u8 0, .int .u8 0, .int .u8 0, .int .u8 0, .int .u8 0, .int .u8 0, .int .u8 0, .int .u8 0, .int .u16 0, .int .u64 0, .int .u8 0, .slice none 0 0, .int .u32 0, .slice none 0 0, .bool false, .bool false]), 20, 112) := by kernel_rfl
theorem und47 : (Tryd.prog.underlying 47).map (fun d => match d with | .struct f => f.toList.map (fun x => (x.offset, x.type)) | _ => []) = some [(0, 22), (1, 28), (2, 44), (10, 5), (11, 5), (12, 22), (13, 28), (14, 45), (15, 29), (16, 27), (17, 46), (18, 4), (19, 4)] := by kernel_rfl
theorem inf48 : (Tryd.prog.info? 48).map (fun i => (i.zero, i.size, i.bytes)) = some (some (.agg #[.int .u16 0, .int .u64 0, .int .u8 0, .int .u8 0, .int .u8 0, .int .u8 0, .int .u8 0, .int .u8 0, .int .u8 0, .int .u8 0, .int .u8 0, .int .u8 0, .int .u16 0, .int .u64 0, .int .u8 0, .slice none 0 0, .int .u32 0, .slice none 0 0, .bool false, .bool false]), 20, 112) := by kernel_rfl
theorem und48 : (Tryd.prog.underlying 48).map (fun d => match d with | .struct f => f.toList.map (fun x => (x.offset, x.type)) | _ => []) = some [(0, 22), (1, 28), (2, 44), (10, 5), (11, 5), (12, 22), (13, 28), (14, 45), (15, 29), (16, 27), (17, 46), (18, 4), (19, 4)] := by kernel_rfl
theorem inf53 : (Tryd.prog.info? 53).map (fun i => (i.zero, i.size, i.bytes)) = some (some (.int .u64 0), 1, 8) := by kernel_rfl
theorem und53 : Tryd.prog.underlying 53 = some (TypeDesc.int .u64) := by kernel_rfl
theorem inf74 : (Tryd.prog.info? 74).map (fun i => (i.zero, i.size, i.bytes)) = some (some (.pointer none), 1, 8) := by kernel_rfl
theorem und74 : Tryd.prog.underlying 74 = some (TypeDesc.pointer 78) := by kernel_rfl
theorem inf75 : (Tryd.prog.info? 75).map (fun i => (i.zero, i.size, i.bytes)) = some (some (.agg #[.slice none 0 0, .int .i64 0, .int .i64 0]), 3, 40) := by kernel_rfl
theorem und75 : (Tryd.prog.underlying 75).map (fun d => match d with | .struct f => f.toList.map (fun x => (x.offset, x.type)) | _ => []) = some [(0, 29), (1, 3), (2, 34)] := by kernel_rfl
theorem inf76 : (Tryd.prog.info? 76).map (fun i => (i.zero, i.size, i.bytes)) = some (some (.agg #[.slice none 0 0, .int .i64 0, .int .i64 0]), 3, 40) := by kernel_rfl
theorem und76 : (Tryd.prog.underlying 76).map (fun d => match d with | .struct f => f.toList.map (fun x => (x.offset, x.type)) | _ => []) = some [(0, 29), (1, 3), (2, 34)] := by kernel_rfl
theorem inf77 : (Tryd.prog.info? 77).map (fun i => (i.zero, i.size, i.bytes)) = some (some (.agg #[.slice none 0 0, .int .i64 0, .int .i64 0, .slice none 0 0, .int .u8 0, .int .u8 0, .int .u8 0, .int .u8 0, .int .u8 0, .int .u8 0, .int .u8 0, .int .u8 0, .int .u8 0, .int .u8 0, .int .u8 0, .int .u8 0, .int .u8 0, .int .u8 0, .int .u8 0, .int .u8 0, .int .u8 0, .int .u8 0, .int .u8 0, .int .u8 0, .int .u8 0, .int .u8 0, .int .u8 0, .int .u8 0, .int .u8 0, .int .u8 0, .int .u8 0, .int .u8 0, .int .u8 0, .int .u8 0, .int .u8 0, .int .u8 0, .int .u8 0, .int .u8 0, .int .u8 0, .int .u8 0, .int .u8 0, .int .u8 0, .int .u8 0, .int .u8 0, .int .u8 0, .int .u8 0, .int .u8 0, .int .u8 0, .int .u8 0, .int .u8 0, .int .u8 0, .int .u8 0, .string ByteArray.empty, .string ByteArray.empty, .int .u32 0, .int .u32 0, .int .u32 0, .int .u32 0, .int .u8 0, .int .u8 0, .int .u64 0, .string ByteArray.empty, .int .u64 0, .int .u32 0, .slice none 0 0, .slice none 0 0, .int .u16 0, .string ByteArray.empty, .string ByteArray.empty, .int .u16 0, .int .u64 0, .bool false]), 72, 320) := by kernel_rfl
theorem und77 : (Tryd.prog.underlying 77).map (fun d => match d with | .struct f => f.toList.map (fun x => (x.offset, x.type)) | _ => []) = some [(0, 76), (3, 32)] := by kernel_rfl
theorem inf78 : (Tryd.prog.info? 78).map (fun i => (i.zero, i.size, i.bytes)) = some (some (.agg #[.slice none 0 0, .int .i64 0, .int .i64 0, .slice none 0 0, .int .u8 0, .int .u8 0, .int .u8 0, .int .u8 0, .int .u8 0, .int .u8 0, .int .u8 0, .int .u8 0, .int .u8 0, .int .u8 0, .int .u8 0, .int .u8 0, .int .u8 0, .int .u8 0, .int .u8 0, .int .u8 0, .int .u8 0, .int .u8 0, .int .u8 0, .int .u8 0, .int .u8 0, .int .u8 0, .int .u8 0, .int .u8 0, .int .u8 0, .int .u8 0, .int .u8 0, .int .u8 0, .int .u8 0, .int .u8 0, .int .u8 0, .int .u8 0, .int .u8 0, .int .u8 0, .int .u8 0, .int .u8 0, .int .u8 0, .int .u8 0, .int .u8 0, .int .u8 0, .int .u8 0, .int .u8 0, .int .u8 0, .int .u8 0, .int .u8 0, .int .u8 0, .int .u8 0, .int .u8 0, .string ByteArray.empty, .string ByteArray.empty, .int .u32 0, .int .u32 0, .int .u32 0, .int .u32 0, .int .u8 0, .int .u8 0, .int .u64 0, .string ByteArray.empty, .int .u64 0, .int .u32 0, .slice none 0 0, .slice none 0 0, .int .u16 0, .string ByteArray.empty, .string ByteArray.empty, .int .u16 0, .int .u64 0, .bool false]), 72, 320) := by kernel_rfl
theorem und78 : (Tryd.prog.underlying 78).map (fun d => match d with | .struct f => f.toList.map (fun x => (x.offset, x.type)) | _ => []) = some [(0, 76), (3, 32)] := by kernel_rfl
theorem inf84 : (Tryd.prog.info? 84).map (fun i => (i.zero, i.size, i.bytes)) = some (some (.pointer none), 1, 8) := by kernel_rfl
theorem und84 : Tryd.prog.underlying 84 = some (TypeDesc.pointer 86) := by kernel_rfl
theorem inf85 : (Tryd.prog.info? 85).map (fun i => (i.zero, i.size, i.bytes)) = some (some (.agg #[.slice none 0 0, .int .i64 0, .int .i64 0]), 3, 40) := by kernel_rfl
theorem und85 : (Tryd.prog.underlying 85).map (fun d => match d with | .struct f => f.toList.map (fun x => (x.offset, x.type)) | _ => []) = some [(0, 29), (1, 3), (2, 34)] := by kernel_rfl
theorem inf86 : (Tryd.prog.info? 86).map (fun i => (i.zero, i.size, i.bytes)) = some (some (.agg #[.slice none 0 0, .int .i64 0, .int .i64 0]), 3, 40) := by kernel_rfl
theorem und86 : (Tryd.prog.underlying 86).map (fun d => match d with | .struct f => f.toList.map (fun x => (x.offset, x.type)) | _ => []) = some [(0, 29), (1, 3), (2, 34)] := by kernel_rfl
theorem inf88 : (Tryd.prog.info? 88).map (fun i => (i.zero, i.size, i.bytes)) = some (some (.pointer none), 1, 8) := by kernel_rfl
theorem und88 : Tryd.prog.underlying 88 = some (TypeDesc.pointer 90) := by kernel_rfl
theorem inf89 : (Tryd.prog.info? 89).map (fun i => (i.zero, i.size, i.bytes)) = some (some (.agg #[.slice none 0 0, .int .i64 0, .int .i64 0, .int .u16 0, .int .u64 0, .int .u8 0, .int .u8 0, .int .u8 0, .int .u8 0, .int .u8 0, .int .u8 0, .int .u8 0, .int .u8 0, .int .u8 0, .int .u8 0, .int .u16 0, .int .u64 0, .int .u8 0, .slice none 0 0, .int .u32 0, .slice none 0 0, .bool false, .bool false]), 23, 152) := by kernel_rfl
theorem und89 : (Tryd.prog.underlying 89).map (fun d => match d with | .struct f => f.toList.map (fun x => (x.offset, x.type)) | _ => []) = some [(0, 76), (3, 48)] := by kernel_rfl
theorem inf90 : (Tryd.prog.info? 90).map (fun i => (i.zero, i.size, i.bytes)) = some (some (.agg #[.slice none 0 0, .int .i64 0, .int .i64 0, .int .u16 0, .int .u64 0, .int .u8 0, .int .u8 0, .int .u8 0, .int .u8 0, .int .u8 0, .int .u8 0, .int .u8 0, .int .u8 0, .int .u8 0, .int .u8 0, .int .u16 0, .int .u64 0, .int .u8 0, .slice none 0 0, .int .u32 0, .slice none 0 0, .bool false, .bool false]), 23, 152) := by kernel_rfl
theorem und90 : (Tryd.prog.underlying 90).map (fun d => match d with | .struct f => f.toList.map (fun x => (x.offset, x.type)) | _ => []) = some [(0, 76), (3, 48)] := by kernel_rfl
theorem inf100 : (Tryd.prog.info? 100).map (fun i => (i.zero, i.size, i.bytes)) = some (some (.slice none 0 0), 1, 24) := by kernel_rfl
theorem und100 : Tryd.prog.underlying 100 = some (TypeDesc.slice 29) := by kernel_rfl
theorem inf102 : (Tryd.prog.info? 102).map (fun i => (i.zero, i.size, i.bytes)) = some (some (.agg #[.int .i64 0, .int .u64 0, .int .u64 0, .int .u16 0]), 4, 32) := by kernel_rfl
theorem und102 : (Tryd.prog.underlying 102).map (fun d => match d with | .struct f => f.toList.map (fun x => (x.offset, x.type)) | _ => []) = some [(0, 3), (1, 28), (2, 28), (3, 22)] := by kernel_rfl
theorem inf103 : (Tryd.prog.info? 103).map (fun i => (i.zero, i.size, i.bytes)) = some (some (.agg #[.int .i64 0, .int .u64 0, .int .u64 0, .int .u16 0]), 4, 32) := by kernel_rfl
theorem und103 : (Tryd.prog.underlying 103).map (fun d => match d with | .struct f => f.toList.map (fun x => (x.offset, x.type)) | _ => []) = some [(0, 3), (1, 28), (2, 28), (3, 22)] := by kernel_rfl
theorem inf104 : (Tryd.prog.info? 104).map (fun i => (i.zero, i.size, i.bytes)) = some (some (.pointer none), 1, 8) := by kernel_rfl
theorem und104 : Tryd.prog.underlying 104 = some (TypeDesc.pointer 76) := by kernel_rfl
theorem inf105 : (Tryd.prog.info? 105).map (fun i => (i.zero, i.size, i.bytes)) = some (some (.agg #[.int .u8 0, .int .i64 0]), 2, 16) := by kernel_rfl
theorem und105 : (Tryd.prog.underlying 105).map (fun d => match d with | .struct f => f.toList.map (fun x => (x.offset, x.type)) | _ => []) = some [(0, 45), (1, 3)] := by kernel_rfl
theorem inf106 : (Tryd.prog.info? 106).map (fun i => (i.zero, i.size, i.bytes)) = some (some (.agg #[.int .u8 0, .int .i64 0]), 2, 16) := by kernel_rfl
theorem und106 : (Tryd.prog.underlying 106).map (fun d => match d with | .struct f => f.toList.map (fun x => (x.offset, x.type)) | _ => []) = some [(0, 45), (1, 3)] := by kernel_rfl
theorem inf107 : (Tryd.prog.info? 107).map (fun i => (i.zero, i.size, i.bytes)) = some (some (.agg #[.string ByteArray.empty, .int .u8 0, .int .i64 0]), 3, 32) := by kernel_rfl
theorem und107 : (Tryd.prog.underlying 107).map (fun d => match d with | .struct f => f.toList.map (fun x => (x.offset, x.type)) | _ => []) = some [(0, 9), (1, 106)] := by kernel_rfl
theorem inf108 : (Tryd.prog.info? 108).map (fun i => (i.zero, i.size, i.bytes)) = some (some (.agg #[.string ByteArray.empty, .int .u8 0, .int .i64 0]), 3, 32) := by kernel_rfl
theorem und108 : (Tryd.prog.underlying 108).map (fun d => match d with | .struct f => f.toList.map (fun x => (x.offset, x.type)) | _ => []) = some [(0, 9), (1, 106)] := by kernel_rfl
theorem inf113 : (Tryd.prog.info? 113).map (fun i => (i.zero, i.size, i.bytes)) = some (some (.slice none 0 0), 1, 24) := by kernel_rfl
theorem und113 : Tryd.prog.underlying 113 = some (TypeDesc.slice 3) := by kernel_rfl
theorem inf121 : (Tryd.prog.info? 121).map (fun i => (i.zero, i.size, i.bytes)) = some (some (.agg #[.int .u8 0, .int .u8 0, .int .u8 0, .int .u8 0, .int .u8 0, .int .u8 0, .int .u8 0, .int .u8 0, .int .u8 0, .int .u8 0, .int .u8 0, .int .u8 0, .int .u8 0, .int .u8 0, .int .u8 0, .int .u8 0, .int .u8 0, .int .u8 0, .int .u8 0, .int .u8 0, .int .u8 0, .int .u8 0, .int .u8 0, .int .u8 0, .int .u8 0, .int .u8 0, .int .u8 0, .int .u8 0, .int .u8 0, .int .u8 0, .int .u8 0, .int .u8 0, .int .u8 0, .int .u8 0, .int .u8 0, .int .u8 0, .int .u8 0, .int .u8 0, .int .u8 0, .int .u8 0, .int .u8 0, .int .u8 0, .int .u8 0, .int .u8 0, .int .u8 0, .int .u8 0, .int .u8 0, .int .u8 0, .int .u8 0, .int .u8 0, .int .u8 0, .int .u8 0, .int .u8 0, .int .u8 0, .int .u8 0, .int .u8 0, .int .u8 0, .int .u8 0, .int .u8 0, .int .u8 0, .int .u8 0, .int .u8 0, .int .u8 0, .int .u8 0, .int .u8 0, .int .u8 0, .int .u8 0, .int .u8 0, .int .u8 0, .int .u8 0, .int .u8 0, .int .u8 0, .int .u8 0, .int .u8 0, .int .u8 0, .int .u8 0, .int .u8 0, .int .u8 0, .int .u8 0, .int .u8 0, .int .u8 0, .int .u8 0, .int .u8 0, .int .u8 0, .int .u8 0, .int .u8 0, .int .u8 0, .int .u8 0, .int .u8 0, .int .u8 0, .int .u8 0, .int .u8 0, .int .u8 0, .int .u8 0, .int .u8 0, .int .u8 0, .int .u8 0, .int .u8 0, .int .u8 0, .int .u8 0, .int .u8 0, .int .u8 0, .int .u8 0, .int .u8 0, .int .u8 0, .int .u8 0, .int .u8 0, .int .u8 0, .int .u8 0, .int .u8 0, .int .u8 0, .int .u8 0, .int .u8 0, .int .u8 0, .int .u8 0, .int .u8 0, .int .u8 0, .int .u8 0, .int .u8 0, .int .u8 0, .int .u8 0, .int .u8 0, .int .u8 0, .int .u8 0, .int .u8 0, .int .u8 0, .int .u8 0, .int .u8 0, .int .u8 0, .int .u8 0, .int .u8 0, .int .u8 0, .int .u8 0, .int .u8 0, .int .u8 0, .int .u8 0, .int .u8 0, .int .u8 0, .int .u8 0, .int .u8 0, .int .u8 0, .int .u8 0, .int .u8 0, .int .u8 0, .int .u8 0, .int .u8 0, .int .u8 0, .int .u8 0, .int .u8 0, .int .u8 0, .int .u8 0, .int .u8 0, .int .u8 0, .int .u8 0, .int .u8 0, .int .u8 0, .int .u8 0, .int .u8 0, .int .u8 0, .int .u8 0, .int .u8 0, .int .u8 0, .int .u8 0, .int .u8 0, .int .u8 0, .int .u8 0, .int .u8 0, .int .u8 0, .int .u8 0, .int .u8 0, .int .u8 0, .int .u8 0, .int .u8 0, .int .u8 0, .int .u8 0, .int .u8 0, .int .u8 0, .int .u8 0, .int .u8 0, .int .u8 0, .int .u8 0, .int .u8 0, .int .u8 0, .int .u8 0, .int .u8 0, .int .u8 0, .int .u8 0, .int .u8 0, .int .u8 0, .int .u8 0, .int .u8 0, .int .u8 0, .int .u8 0, .int .u8 0, .int .u8 0, .int .u8 0, .int .u8 0, .int .u8 0, .int .u8 0, .int .u8 0, .int .u8 0, .int .u8 0, .int .u8 0, .int .u8 0, .int .u8 0, .int .u8 0, .int .u8 0, .int .u8 0, .int .u8 0, .int .u8 0, .int .u8 0, .int .u8 0, .int .u8 0, .int .u8 0, .int .u8 0, .int .u8 0, .int .u8 0, .int .u8 0, .int .u8 0, .int .u8 0, .int .u8 0, .int .u8 0, .int .u8 0, .int .u8 0, .int .u8 0, .int .u8 0, .int .u8 0, .int .u8 0, .int .u8 0, .int .u8 0, .int .u8 0, .int .u8 0, .int .u8 0, .int .u8 0, .int .u8 0, .int .u8 0, .int .u8 0, .int .u8 0, .int .u8 0, .int .u8 0, .int .u8 0, .int .u8 0, .int .u8 0, .int .u8 0, .int .u8 0, .int .u8 0, .int .u8 0, .int .u8 0, .int .u8 0, .int .u8 0, .int .u8 0, .int .u8 0, .int .u8 0, .int .u8 0, .int .u8 0, .int .u8 0]), 256, 256) := by kernel_rfl
theorem und121 : Tryd.prog.underlying 121 = some (TypeDesc.array 256 5) := by kernel_rfl
theorem inf122 : (Tryd.prog.info? 122).map (fun i => (i.zero, i.size, i.bytes)) = some (some (.agg #[.int .u8 0, .int .u8 0]), 2, 2) := by kernel_rfl
theorem und122 : (Tryd.prog.underlying 122).map (fun d => match d with | .struct f => f.toList.map (fun x => (x.offset, x.type)) | _ => []) = some [(0, 5), (1, 5)] := by kernel_rfl
theorem inf123 : (Tryd.prog.info? 123).map (fun i => (i.zero, i.size, i.bytes)) = some (some (.agg #[.int .u8 0, .int .u8 0]), 2, 2) := by kernel_rfl
theorem und123 : (Tryd.prog.underlying 123).map (fun d => match d with | .struct f => f.toList.map (fun x => (x.offset, x.type)) | _ => []) = some [(0, 5), (1, 5)] := by kernel_rfl
theorem inf124 : (Tryd.prog.info? 124).map (fun i => (i.zero, i.size, i.bytes)) = some (some (.agg #[.int .u8 0, .int .u8 0, .int .u8 0, .int .u8 0, .int .u8 0, .int .u8 0, .int .u8 0, .int .u8 0, .int .u8 0, .int .u8 0, .int .u8 0, .int .u8 0, .int .u8 0, .int .u8 0, .int .u8 0, .int .u8 0, .int .u8 0, .int .u8 0, .int .u8 0, .int .u8 0, .int .u8 0, .int .u8 0, .int .u8 0, .int .u8 0, .int .u8 0, .int .u8 0, .int .u8 0, .int .u8 0, .int .u8 0, .int .u8 0, .int .u8 0, .int .u8 0]), 32, 32) := by kernel_rfl
theorem und124 : Tryd.prog.underlying 124 = some (TypeDesc.array 16 123) := by kernel_rfl
theorem inf136 : (Tryd.prog.info? 136).map (fun i => (i.zero, i.size, i.bytes)) = some (some (.pointer none), 1, 8) := by kernel_rfl
theorem und136 : Tryd.prog.underlying 136 = some (TypeDesc.pointer 5) := by kernel_rfl

theorem struct_of {P : Program} {t : Nat} {l : List (Nat × TypeId)} (h : (P.underlying t).map (fun d => match d with | .struct f => f.toList.map (fun x => (x.offset, x.type)) | _ => []) = some l) (hl : l ≠ []) :
    ∃ f, P.underlying t = some (.struct f) ∧ f.toList.map (fun x => (x.offset, x.type)) = l := by
  cases e : P.underlying t with
  | none => rw [e] at h; simp at h
  | some d =>
    rw [e] at h
    simp only [Option.map_some, Option.some.injEq] at h
    cases d <;> simp only at h <;> first | exact ⟨_, rfl, h⟩ | exact absurd h.symm hl

theorem info_of {P : Program} {t : Nat} {z : Value} {size bytes : Nat} {l : List SV} (h : (P.info? t).map (fun i => (i.zero, i.size, i.bytes)) = some (some z, size, bytes)) (hz : ZeroOk l z.cells.toList) (hs : z.cells.size = size) :
    ∃ i, P.info? t = some i ∧ i.size = size ∧ i.bytes = bytes ∧ ∃ z, i.zero = some z ∧ ZeroOk l z.cells.toList ∧ z.cells.size = size := by
  obtain ⟨i, h1, h2, h3, h4⟩ := info_parts h
  exact ⟨i, h1, h3, h4, z, h2, hz, hs⟩

theorem tyOk_T (t : Nat) : tyOk Tryd.prog t (tTy t) := by
  unfold tTy
  split
  · exact und2
  · exact und3
  · exact und4
  · exact und5
  · exact und9
  · exact und12
  · exact struct_of und13 (by simp)
  · exact und21
  · exact und22
  · exact und23
  · exact und24
  · exact und25
  · exact und26
  · exact und27
  · exact und28
  · exact und29
  · exact und30
  · exact struct_of und31 (by simp)
  · exact struct_of und32 (by simp)
  · exact und34
  · exact und44
  · exact und45
  · exact und46
  · exact struct_of und47 (by simp)
  · exact struct_of und48 (by simp)
  · exact und53
  · exact und74
  · exact struct_of und75 (by simp)
  · exact struct_of und76 (by simp)
  · exact struct_of und77 (by simp)
  · exact struct_of und78 (by simp)
  · exact und84
  · exact struct_of und85 (by simp)
  · exact struct_of und86 (by simp)
  · exact und88
  · exact struct_of und89 (by simp)
  · exact struct_of und90 (by simp)
  · exact und100
  · exact struct_of und102 (by simp)
  · exact struct_of und103 (by simp)
  · exact und104
  · exact struct_of und105 (by simp)
  · exact struct_of und106 (by simp)
  · exact struct_of und107 (by simp)
  · exact struct_of und108 (by simp)
  · exact und113
  · exact und121
  · exact struct_of und122 (by simp)
  · exact struct_of und123 (by simp)
  · exact und124
  · exact und136
  · trivial

theorem infoOk_T (t : Nat) (h : tSize t ≠ 0) : ∃ i, Tryd.prog.info? t = some i ∧ i.size = tSize t ∧ i.bytes = tBytes t ∧ ∃ z, i.zero = some z ∧ ZeroOk (tZero t) z.cells.toList ∧ z.cells.size = tSize t := by
  unfold tSize at h ⊢
  unfold tBytes tZero
  split at h
  · exact info_of inf2 (⟨_, _, rfl, rfl, rfl⟩) rfl
  · exact info_of inf3 (⟨_, _, rfl, rfl, rfl⟩) rfl
  · exact info_of inf4 (⟨_, _, rfl, rfl, rfl⟩) rfl
  · exact info_of inf5 (⟨_, _, rfl, rfl, rfl⟩) rfl
  · exact info_of inf9 (⟨_, _, rfl, rfl, rfl⟩) rfl
  · exact info_of inf12 (⟨_, _, rfl, rfl, rfl⟩) rfl
  · exact info_of inf13 (⟨_, _, rfl, rfl, ⟨_, _, rfl, rfl, rfl⟩⟩) rfl
  · exact info_of inf21 (⟨_, _, rfl, rfl, rfl⟩) rfl
  · exact info_of inf22 (⟨_, _, rfl, rfl, rfl⟩) rfl
  · exact info_of inf23 (⟨_, _, rfl, rfl, rfl⟩) rfl
  · exact info_of inf24 (⟨_, _, rfl, rfl, rfl⟩) rfl
  · exact info_of inf25 (⟨rfl, _, rfl, rfl⟩) rfl
  · exact info_of inf26 (⟨rfl, _, rfl, rfl⟩) rfl
  · exact info_of inf27 (⟨_, _, rfl, rfl, rfl⟩) rfl
  · exact info_of inf28 (⟨_, _, rfl, rfl, rfl⟩) rfl
  · exact info_of inf29 (⟨_, _, rfl, rfl, rfl⟩) rfl
  · exact info_of inf30 (⟨_, _, rfl, rfl, rfl⟩) rfl
  · exact info_of inf31 (⟨_, _, rfl, rfl, ⟨rfl, _, rfl, ⟨rfl, _, rfl, ⟨_, _, rfl, rfl, ⟨_, _, rfl, rfl, ⟨_, _, rfl, rfl, ⟨_, _, rfl, rfl, ⟨_, _, rfl, rfl, ⟨_, _, rfl, rfl, ⟨_, _, rfl, rfl, ⟨_, _, rfl, rfl, ⟨_, _, rfl, rfl, ⟨_, _, rfl, rfl, ⟨_, _, rfl, rfl, ⟨_, _, rfl, rfl, ⟨_, _, rfl, rfl, ⟨_, _, rfl, rfl, ⟨_, _, rfl, rfl, ⟨_, _, rfl, rfl, ⟨_, _, rfl, rfl, ⟨_, _, rfl, rfl, ⟨_, _, rfl, rfl, ⟨_, _, rfl, rfl, rfl⟩⟩⟩⟩⟩⟩⟩⟩⟩⟩⟩⟩⟩⟩⟩⟩⟩⟩⟩⟩⟩⟩⟩) rfl
  · exact info_of inf32 (⟨_, _, rfl, rfl, ⟨rfl, _, rfl, ⟨rfl, _, rfl, ⟨_, _, rfl, rfl, ⟨_, _, rfl, rfl, ⟨_, _, rfl, rfl, ⟨_, _, rfl, rfl, ⟨_, _, rfl, rfl, ⟨_, _, rfl, rfl, ⟨_, _, rfl, rfl, ⟨_, _, rfl, rfl, ⟨_, _, rfl, rfl, ⟨_, _, rfl, rfl, ⟨_, _, rfl, rfl, ⟨_, _, rfl, rfl, ⟨_, _, rfl, rfl, ⟨_, _, rfl, rfl, ⟨_, _, rfl, rfl, ⟨_, _, rfl, rfl, ⟨_, _, rfl, rfl, ⟨_, _, rfl, rfl, ⟨_, _, rfl, rfl, ⟨_, _, rfl, rfl, rfl⟩⟩⟩⟩⟩⟩⟩⟩⟩⟩⟩⟩⟩⟩⟩⟩⟩⟩⟩⟩⟩⟩⟩) rfl
  · exact info_of inf34 (⟨_, _, rfl, rfl, rfl⟩) rfl
  · exact info_of inf44 (⟨rfl, _, rfl, rfl⟩) rfl
  · exact info_of inf45 (⟨_, _, rfl, rfl, rfl⟩) rfl
  · exact info_of inf46 (⟨_, _, rfl, rfl, rfl⟩) rfl
  · exact info_of inf47 (⟨_, _, rfl, rfl, ⟨_, _, rfl, rfl, ⟨rfl, _, rfl, ⟨_, _, rfl, rfl, ⟨_, _, rfl, rfl, ⟨_, _, rfl, rfl, ⟨_, _, rfl, rfl, ⟨_, _, rfl, rfl, ⟨_, _, rfl, rfl, ⟨_, _, rfl, rfl, ⟨_, _, rfl, rfl, ⟨_, _, rfl, rfl, ⟨_, _, rfl, rfl, rfl⟩⟩⟩⟩⟩⟩⟩⟩⟩⟩⟩⟩⟩) rfl
  · exact info_of inf48 (⟨_, _, rfl, rfl, ⟨_, _, rfl, rfl, ⟨rfl, _, rfl, ⟨_, _, rfl, rfl, ⟨_, _, rfl, rfl, ⟨_, _, rfl, rfl, ⟨_, _, rfl, rfl, ⟨_, _, rfl, rfl, ⟨_, _, rfl, rfl, ⟨_, _, rfl, rfl, ⟨_, _, rfl, rfl, ⟨_, _, rfl, rfl, ⟨_, _, rfl, rfl, rfl⟩⟩⟩⟩⟩⟩⟩⟩⟩⟩⟩⟩⟩) rfl
  · exact info_of inf53 (⟨_, _, rfl, rfl, rfl⟩) rfl
  · exact info_of inf74 (⟨_, _, rfl, rfl, rfl⟩) rfl
  · exact info_of inf75 (⟨_, _, rfl, rfl, ⟨_, _, rfl, rfl, ⟨_, _, rfl, rfl, rfl⟩⟩⟩) rfl
  · exact info_of inf76 (⟨_, _, rfl, rfl, ⟨_, _, rfl, rfl, ⟨_, _, rfl, rfl, rfl⟩⟩⟩) rfl
  · exact info_of inf77 (⟨_, _, rfl, rfl, ⟨_, _, rfl, rfl, ⟨_, _, rfl, rfl, ⟨_, _, rfl, rfl, ⟨rfl, _, rfl, ⟨rfl, _, rfl, ⟨_, _, rfl, rfl, ⟨_, _, rfl, rfl, ⟨_, _, rfl, rfl, ⟨_, _, rfl, rfl, ⟨_, _, rfl, rfl, ⟨_, _, rfl, rfl, ⟨_, _, rfl, rfl, ⟨_, _, rfl, rfl, ⟨_, _, rfl, rfl, ⟨_, _, rfl, rfl, ⟨_, _, rfl, rfl, ⟨_, _, rfl, rfl, ⟨_, _, rfl, rfl, ⟨_, _, rfl, rfl, ⟨_, _, rfl, rfl, ⟨_, _, rfl, rfl, ⟨_, _, rfl, rfl, ⟨_, _, rfl, rfl, ⟨_, _, rfl, rfl, ⟨_, _, rfl, rfl, rfl⟩⟩⟩⟩⟩⟩⟩⟩⟩⟩⟩⟩⟩⟩⟩⟩⟩⟩⟩⟩⟩⟩⟩⟩⟩⟩) rfl
  · exact info_of inf78 (⟨_, _, rfl, rfl, ⟨_, _, rfl, rfl, ⟨_, _, rfl, rfl, ⟨_, _, rfl, rfl, ⟨rfl, _, rfl, ⟨rfl, _, rfl, ⟨_, _, rfl, rfl, ⟨_, _, rfl, rfl, ⟨_, _, rfl, rfl, ⟨_, _, rfl, rfl, ⟨_, _, rfl, rfl, ⟨_, _, rfl, rfl, ⟨_, _, rfl, rfl, ⟨_, _, rfl, rfl, ⟨_, _, rfl, rfl, ⟨_, _, rfl, rfl, ⟨_, _, rfl, rfl, ⟨_, _, rfl, rfl, ⟨_, _, rfl, rfl, ⟨_, _, rfl, rfl, ⟨_, _, rfl, rfl, ⟨_, _, rfl, rfl, ⟨_, _, rfl, rfl, ⟨_, _, rfl, rfl, ⟨_, _, rfl, rfl, ⟨_, _, rfl, rfl, rfl⟩⟩⟩⟩⟩⟩⟩⟩⟩⟩⟩⟩⟩⟩⟩⟩⟩⟩⟩⟩⟩⟩⟩⟩⟩⟩) rfl
  · exact info_of inf84 (⟨_, _, rfl, rfl, rfl⟩) rfl
  · exact info_of inf85 (⟨_, _, rfl, rfl, ⟨_, _, rfl, rfl, ⟨_, _, rfl, rfl, rfl⟩⟩⟩) rfl
  · exact info_of inf86 (⟨_, _, rfl, rfl, ⟨_, _, rfl, rfl, ⟨_, _, rfl, rfl, rfl⟩⟩⟩) rfl
  · exact info_of inf88 (⟨_, _, rfl, rfl, rfl⟩) rfl
  · exact info_of inf89 (⟨_, _, rfl, rfl, ⟨_, _, rfl, rfl, ⟨_, _, rfl, rfl, ⟨_, _, rfl, rfl, ⟨_, _, rfl, rfl, ⟨rfl, _, rfl, ⟨_, _, rfl, rfl, ⟨_, _, rfl, rfl, ⟨_, _, rfl, rfl, ⟨_, _, rfl, rfl, ⟨_, _, rfl, rfl, ⟨_, _, rfl, rfl, ⟨_, _, rfl, rfl, ⟨_, _, rfl, rfl, ⟨_, _, rfl, rfl, ⟨_, _, rfl, rfl, rfl⟩⟩⟩⟩⟩⟩⟩⟩⟩⟩⟩⟩⟩⟩⟩⟩) rfl
  · exact info_of inf90 (⟨_, _, rfl, rfl, ⟨_, _, rfl, rfl, ⟨_, _, rfl, rfl, ⟨_, _, rfl, rfl, ⟨_, _, rfl, rfl, ⟨rfl, _, rfl, ⟨_, _, rfl, rfl, ⟨_, _, rfl, rfl, ⟨_, _, rfl, rfl, ⟨_, _, rfl, rfl, ⟨_, _, rfl, rfl, ⟨_, _, rfl, rfl, ⟨_, _, rfl, rfl, ⟨_, _, rfl, rfl, ⟨_, _, rfl, rfl, ⟨_, _, rfl, rfl, rfl⟩⟩⟩⟩⟩⟩⟩⟩⟩⟩⟩⟩⟩⟩⟩⟩) rfl
  · exact info_of inf100 (⟨_, _, rfl, rfl, rfl⟩) rfl
  · exact info_of inf102 (⟨_, _, rfl, rfl, ⟨_, _, rfl, rfl, ⟨_, _, rfl, rfl, ⟨_, _, rfl, rfl, rfl⟩⟩⟩⟩) rfl
  · exact info_of inf103 (⟨_, _, rfl, rfl, ⟨_, _, rfl, rfl, ⟨_, _, rfl, rfl, ⟨_, _, rfl, rfl, rfl⟩⟩⟩⟩) rfl
  · exact info_of inf104 (⟨_, _, rfl, rfl, rfl⟩) rfl
  · exact info_of inf105 (⟨_, _, rfl, rfl, ⟨_, _, rfl, rfl, rfl⟩⟩) rfl
  · exact info_of inf106 (⟨_, _, rfl, rfl, ⟨_, _, rfl, rfl, rfl⟩⟩) rfl
  · exact info_of inf107 (⟨_, _, rfl, rfl, ⟨_, _, rfl, rfl, ⟨_, _, rfl, rfl, rfl⟩⟩⟩) rfl
  · exact info_of inf108 (⟨_, _, rfl, rfl, ⟨_, _, rfl, rfl, ⟨_, _, rfl, rfl, rfl⟩⟩⟩) rfl
  · exact info_of inf113 (⟨_, _, rfl, rfl, rfl⟩) rfl
  · exact info_of inf121 (⟨rfl, _, rfl, rfl⟩) rfl
  · exact info_of inf122 (⟨_, _, rfl, rfl, ⟨_, _, rfl, rfl, rfl⟩⟩) rfl
  · exact info_of inf123 (⟨_, _, rfl, rfl, ⟨_, _, rfl, rfl, rfl⟩⟩) rfl
  · exact info_of inf124 (⟨_, _, rfl, rfl, ⟨_, _, rfl, rfl, ⟨_, _, rfl, rfl, ⟨_, _, rfl, rfl, ⟨_, _, rfl, rfl, ⟨_, _, rfl, rfl, ⟨_, _, rfl, rfl, ⟨_, _, rfl, rfl, ⟨_, _, rfl, rfl, ⟨_, _, rfl, rfl, ⟨_, _, rfl, rfl, ⟨_, _, rfl, rfl, ⟨_, _, rfl, rfl, ⟨_, _, rfl, rfl, ⟨_, _, rfl, rfl, ⟨_, _, rfl, rfl, ⟨_, _, rfl, rfl, ⟨_, _, rfl, rfl, ⟨_, _, rfl, rfl, ⟨_, _, rfl, rfl, ⟨_, _, rfl, rfl, ⟨_, _, rfl, rfl, ⟨_, _, rfl, rfl, ⟨_, _, rfl, rfl, ⟨_, _, rfl, rfl, ⟨_, _, rfl, rfl, ⟨_, _, rfl, rfl, ⟨_, _, rfl, rfl, ⟨_, _, rfl, rfl, ⟨_, _, rfl, rfl, ⟨_, _, rfl, rfl, ⟨_, _, rfl, rfl, rfl⟩⟩⟩⟩⟩⟩⟩⟩⟩⟩⟩⟩⟩⟩⟩⟩⟩⟩⟩⟩⟩⟩⟩⟩⟩⟩⟩⟩⟩⟩⟩⟩) rfl
  · exact info_of inf136 (⟨_, _, rfl, rfl, rfl⟩) rfl
  · exact absurd rfl h

theorem names_of {l : List Field} (h : (l.all fun f => f.name != "_") = true) : ∀ f ∈ l, f.name ≠ "_" := fun f hf => by simpa using List.all_eq_true.1 h f hf

theorem eqOk_T (t : Nat) (h : tEq t = true) : Tryd.prog.stoodInHeld t = false ∧ Tryd.prog.eqGuardType Tryd.prog.depth t = false ∧ ∀ f ∈ (Tryd.prog.fieldsOf t).toList, f.name ≠ "_" := by
  unfold tEq at h
  split at h
  · exact ⟨by kernel_rfl, by kernel_rfl, names_of (by kernel_rfl)⟩
  · exact ⟨by kernel_rfl, by kernel_rfl, names_of (by kernel_rfl)⟩
  · exact ⟨by kernel_rfl, by kernel_rfl, names_of (by kernel_rfl)⟩
  · cases h

theorem TO : TabOk Tryd.prog T := ⟨tyOk_T, infoOk_T, Nat.le_of_ble_eq_true (by kernel_rfl), eqOk_T⟩

end Go.Proofs.YtfohefgpchbgkaaDoor.Abs
