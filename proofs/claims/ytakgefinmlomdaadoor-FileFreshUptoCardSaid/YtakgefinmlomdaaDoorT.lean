/- THE TABLE OF THIS SEAT's TYPES, as the own library asks for it. -/
import Derived.Test.YtakgefinmlomdaaDoorB4
import Derived.Test.YtakgefinmlomdaaDoorProg
import Derived.KernelRfl
import Derived.OwnWalk
set_option maxRecDepth 100000
set_option linter.unusedVariables false
set_option linter.unusedSimpArgs false
namespace Go.Proofs.YtakgefinmlomdaaDoor.Abs
open Go Go.Proofs

def tTy (t : Nat) : TyI :=
  match t with
  | 2 => .int .i64
  | 3 => .int .i64
  | 4 => .bool
  | 5 => .int .u8
  | 9 => .string
  | 12 => .int .u64
  | 13 => .struct [(0, 9), (1, 12)]
  | 21 => .int .i32
  | 22 => .int .u16
  | 23 => .int .u16
  | 24 => .slice 22
  | 25 => .array 16 5
  | 26 => .array 32 5
  | 27 => .int .u32
  | 28 => .int .u64
  | 29 => .slice 5
  | 30 => .slice 65
  | 31 => .struct [(0, 24), (1, 25), (17, 26), (49, 9), (50, 9), (51, 27), (52, 27), (53, 27), (54, 27), (55, 5), (56, 5), (57, 28), (58, 9), (59, 28), (60, 27), (61, 29), (62, 30), (63, 22), (64, 9), (65, 9), (66, 22), (67, 28), (68, 4)]
  | 32 => .struct [(0, 24), (1, 25), (17, 26), (49, 9), (50, 9), (51, 27), (52, 27), (53, 27), (54, 27), (55, 5), (56, 5), (57, 28), (58, 9), (59, 28), (60, 27), (61, 29), (62, 30), (63, 22), (64, 9), (65, 9), (66, 22), (67, 28), (68, 4)]
  | 34 => .int .i64
  | 44 => .array 8 5
  | 45 => .int .u8
  | 46 => .slice 105
  | 47 => .struct [(0, 22), (1, 28), (2, 44), (10, 5), (11, 5), (12, 22), (13, 28), (14, 45), (15, 29), (16, 27), (17, 46), (18, 4), (19, 4)]
  | 48 => .struct [(0, 22), (1, 28), (2, 44), (10, 5), (11, 5), (12, 22), (13, 28), (14, 45), (15, 29), (16, 27), (17, 46), (18, 4), (19, 4)]
  | 53 => .int .u64
  | 64 => .struct [(0, 3), (1, 28), (2, 28), (3, 22)]
  | 65 => .struct [(0, 3), (1, 28), (2, 28), (3, 22)]
  | 66 => .pointer 68
  | 67 => .struct [(0, 29)]
  | 68 => .struct [(0, 29)]
  | 75 => .pointer 77
  | 76 => .struct [(0, 29), (1, 3), (2, 34)]
  | 77 => .struct [(0, 29), (1, 3), (2, 34)]
  | 83 => .pointer 85
  | 84 => .struct [(0, 29), (1, 3), (2, 34)]
  | 85 => .struct [(0, 29), (1, 3), (2, 34)]
  | 92 => .slice 27
  | 95 => .pointer 27
  | 96 => .slice 95
  | 102 => .struct [(0, 45), (1, 3)]
  | 103 => .struct [(0, 45), (1, 3)]
  | 104 => .struct [(0, 9), (1, 103)]
  | 105 => .struct [(0, 9), (1, 103)]
  | 107 => .slice 3
  | 126 => .array 256 5
  | 127 => .struct [(0, 5), (1, 5)]
  | 128 => .struct [(0, 5), (1, 5)]
  | 129 => .array 16 128
  | 139 => .pointer 5
  | _ => .other

def tSize (t : Nat) : Nat :=
  match t with
  | 2 => 1
  | 3 => 1
  | 4 => 1
  | 5 => 1
  | 9 => 1
  | 12 => 1
  | 13 => 2
  | 21 => 1
  | 22 => 1
  | 23 => 1
  | 24 => 1
  | 25 => 16
  | 26 => 32
  | 27 => 1
  | 28 => 1
  | 29 => 1
  | 30 => 1
  | 31 => 69
  | 32 => 69
  | 34 => 1
  | 44 => 8
  | 45 => 1
  | 46 => 1
  | 47 => 20
  | 48 => 20
  | 53 => 1
  | 64 => 4
  | 65 => 4
  | 66 => 1
  | 67 => 1
  | 68 => 1
  | 75 => 1
  | 76 => 3
  | 77 => 3
  | 83 => 1
  | 84 => 3
  | 85 => 3
  | 92 => 1
  | 95 => 1
  | 96 => 1
  | 102 => 2
  | 103 => 2
  | 104 => 3
  | 105 => 3
  | 107 => 1
  | 126 => 256
  | 127 => 2
  | 128 => 2
  | 129 => 32
  | 139 => 1
  | _ => 0

def tBytes (t : Nat) : Nat :=
  match t with
  | 2 => 8
  | 3 => 8
  | 4 => 1
  | 5 => 1
  | 9 => 16
  | 12 => 8
  | 13 => 24
  | 21 => 4
  | 22 => 2
  | 23 => 2
  | 24 => 24
  | 25 => 16
  | 26 => 32
  | 27 => 4
  | 28 => 8
  | 29 => 24
  | 30 => 24
  | 31 => 280
  | 32 => 280
  | 34 => 8
  | 44 => 8
  | 45 => 1
  | 46 => 24
  | 47 => 112
  | 48 => 112
  | 53 => 8
  | 64 => 32
  | 65 => 32
  | 66 => 8
  | 67 => 24
  | 68 => 24
  | 75 => 8
  | 76 => 40
  | 77 => 40
  | 83 => 8
  | 84 => 40
  | 85 => 40
  | 92 => 24
  | 95 => 8
  | 96 => 24
  | 102 => 16
  | 103 => 16
  | 104 => 32
  | 105 => 32
  | 107 => 24
  | 126 => 256
  | 127 => 2
  | 128 => 2
  | 129 => 32
  | 139 => 8
  | _ => 0

def tZero (t : Nat) : List SV :=
  match t with
  | 2 => [.int .i64 0]
  | 3 => [.int .i64 0]
  | 4 => [.bool false]
  | 5 => [.int .u8 0]
  | 9 => [.str ByteArray.empty]
  | 12 => [.int .u64 0]
  | 13 => [.str ByteArray.empty, .int .u64 0]
  | 21 => [.int .i32 0]
  | 22 => [.int .u16 0]
  | 23 => [.int .u16 0]
  | 24 => [.nil]
  | 25 => [.arr .u8 16 (List.replicate 16 0)]
  | 26 => [.arr .u8 32 (List.replicate 32 0)]
  | 27 => [.int .u32 0]
  | 28 => [.int .u64 0]
  | 29 => [.nil]
  | 30 => [.nil]
  | 31 => [.nil, .arr .u8 16 (List.replicate 16 0), .arr .u8 32 (List.replicate 32 0), .str ByteArray.empty, .str ByteArray.empty, .int .u32 0, .int .u32 0, .int .u32 0, .int .u32 0, .int .u8 0, .int .u8 0, .int .u64 0, .str ByteArray.empty, .int .u64 0, .int .u32 0, .nil, .nil, .int .u16 0, .str ByteArray.empty, .str ByteArray.empty, .int .u16 0, .int .u64 0, .bool false]
  | 32 => [.nil, .arr .u8 16 (List.replicate 16 0), .arr .u8 32 (List.replicate 32 0), .str ByteArray.empty, .str ByteArray.empty, .int .u32 0, .int .u32 0, .int .u32 0, .int .u32 0, .int .u8 0, .int .u8 0, .int .u64 0, .str ByteArray.empty, .int .u64 0, .int .u32 0, .nil, .nil, .int .u16 0, .str ByteArray.empty, .str ByteArray.empty, .int .u16 0, .int .u64 0, .bool false]
  | 34 => [.int .i64 0]
  | 44 => [.arr .u8 8 (List.replicate 8 0)]
  | 45 => [.int .u8 0]
  | 46 => [.nil]
  | 47 => [.int .u16 0, .int .u64 0, .arr .u8 8 (List.replicate 8 0), .int .u8 0, .int .u8 0, .int .u16 0, .int .u64 0, .int .u8 0, .nil, .int .u32 0, .nil, .bool false, .bool false]
  | 48 => [.int .u16 0, .int .u64 0, .arr .u8 8 (List.replicate 8 0), .int .u8 0, .int .u8 0, .int .u16 0, .int .u64 0, .int .u8 0, .nil, .int .u32 0, .nil, .bool false, .bool false]
  | 53 => [.int .u64 0]
  | 64 => [.int .i64 0, .int .u64 0, .int .u64 0, .int .u16 0]
  | 65 => [.int .i64 0, .int .u64 0, .int .u64 0, .int .u16 0]
  | 66 => [.lit (.pointer none)]
  | 67 => [.nil]
  | 68 => [.nil]
  | 75 => [.lit (.pointer none)]
  | 76 => [.nil, .int .i64 0, .int .i64 0]
  | 77 => [.nil, .int .i64 0, .int .i64 0]
  | 83 => [.lit (.pointer none)]
  | 84 => [.nil, .int .i64 0, .int .i64 0]
  | 85 => [.nil, .int .i64 0, .int .i64 0]
  | 92 => [.nil]
  | 95 => [.lit (.pointer none)]
  | 96 => [.nil]
  | 102 => [.int .u8 0, .int .i64 0]
  | 103 => [.int .u8 0, .int .i64 0]
  | 104 => [.str ByteArray.empty, .int .u8 0, .int .i64 0]
  | 105 => [.str ByteArray.empty, .int .u8 0, .int .i64 0]
  | 107 => [.nil]
  | 126 => [.arr .u8 256 (List.replicate 256 0)]
  | 127 => [.int .u8 0, .int .u8 0]
  | 128 => [.int .u8 0, .int .u8 0]
  | 129 => [.int .u8 0, .int .u8 0, .int .u8 0, .int .u8 0, .int .u8 0, .int .u8 0, .int .u8 0, .int .u8 0, .int .u8 0, .int .u8 0, .int .u8 0, .int .u8 0, .int .u8 0, .int .u8 0, .int .u8 0, .int .u8 0, .int .u8 0, .int .u8 0, .int .u8 0, .int .u8 0, .int .u8 0, .int .u8 0, .int .u8 0, .int .u8 0, .int .u8 0, .int .u8 0, .int .u8 0, .int .u8 0, .int .u8 0, .int .u8 0, .int .u8 0, .int .u8 0]
  | 139 => [.lit (.pointer none)]
  | _ => []

def tEq (t : Nat) : Bool :=
  match t with
  | 65 => true
  | 103 => true
  | 128 => true
  | _ => false

def T : Tab := ⟨tTy, tSize, tBytes, tZero, tEq⟩

theorem T_eq : T.eqS = tEq := rfl
theorem T_ty : T.ty = tTy := rfl
theorem T_size : T.size = tSize := rfl
theorem T_bytes : T.bytes = tBytes := rfl
theorem T_zero : T.zero = tZero := rfl

theorem inf2 : (Tryd.prog.info? 2).map (fun i => (i.zero, i.size, i.bytes)) = some (some (.int .i64 0), 1, 8) := by kernel_rfl
theorem und2 : Tryd.prog.underlying 2 = some (TypeDesc.int .i64) := by kernel_rfl
theorem inf3 : (Tryd.prog.info? 3).map (fun i => (i.zero, i.size, i.bytes)) = some (some (.int .i64 0), 1, 8) := by kernel_rfl
theorem und3 : Tryd.prog.underlying 3 = some (TypeDesc.int .i64) := by kernel_rfl
theorem inf4 : (Tryd.prog.info? 4).map (fun i => (i.zero, i.size, i.bytes)) = some (some (.bool false), 1, 1) := by kernel_rfl
theorem und4 : Tryd.prog.underlying 4 = some TypeDesc.bool := by kernel_rfl
theorem inf5 : (Tryd.prog.info? 5).map (fun i => (i.zero, i.size, i.bytes)) = some (some (.int .u8 0), 1, 1) := by kernel_rfl
theorem und5 : Tryd.prog.underlying 5 = some (TypeDesc.int .u8) := by kernel_rfl
theorem inf9 : (Tryd.prog.info? 9).map (fun i => (i.zero, i.size, i.bytes)) = some (some (.string ByteArray.empty), 1, 16) := by kernel_rfl
theorem und9 : Tryd.prog.underlying 9 = some TypeDesc.string := by kernel_rfl
theorem inf12 : (Tryd.prog.info? 12).map (fun i => (i.zero, i.size, i.bytes)) = some (some (.int .u64 0), 1, 8) := by kernel_rfl
theorem und12 : Tryd.prog.underlying 12 = some (TypeDesc.int .u64) := by kernel_rfl
theorem inf13 : (Tryd.prog.info? 13).map (fun i => (i.zero, i.size, i.bytes)) = some (some (.agg #[.string ByteArray.empty, .int .u64 0]), 2, 24) := by kernel_rfl
theorem und13 : (Tryd.prog.underlying 13).map (fun d => match d with | .struct f => f.toList.map (fun x => (x.offset, x.type)) | _ => []) = some [(0, 9), (1, 12)] := by kernel_rfl
theorem inf21 : (Tryd.prog.info? 21).map (fun i => (i.zero, i.size, i.bytes)) = some (some (.int .i32 0), 1, 4) := by kernel_rfl
theorem und21 : Tryd.prog.underlying 21 = some (TypeDesc.int .i32) := by kernel_rfl
theorem inf22 : (Tryd.prog.info? 22).map (fun i => (i.zero, i.size, i.bytes)) = some (some (.int .u16 0), 1, 2) := by kernel_rfl
theorem und22 : Tryd.prog.underlying 22 = some (TypeDesc.int .u16) := by kernel_rfl
theorem inf23 : (Tryd.prog.info? 23).map (fun i => (i.zero, i.size, i.bytes)) = some (some (.int .u16 0), 1, 2) := by kernel_rfl
theorem und23 : Tryd.prog.underlying 23 = some (TypeDesc.int .u16) := by kernel_rfl
theorem inf24 : (Tryd.prog.info? 24).map (fun i => (i.zero, i.size, i.bytes)) = some (some (.slice none 0 0), 1, 24) := by kernel_rfl
theorem und24 : Tryd.prog.underlying 24 = some (TypeDesc.slice 22) := by kernel_rfl
theorem inf25 : (Tryd.prog.info? 25).map (fun i => (i.zero, i.size, i.bytes)) = some (some (.agg #[.int .u8 0, .int .u8 0, .int .u8 0, .int .u8 0, .int .u8 0, .int .u8 0, .int .u8 0, .int .u8 0, .int .u8 0, .int .u8 0, .int .u8 0, .int .u8 0, .int .u8 0, .int .u8 0, .int .u8 0, .int .u8 0]), 16, 16) := by kernel_rfl
theorem und25 : Tryd.prog.underlying 25 = some (TypeDesc.array 16 5) := by kernel_rfl
theorem inf26 : (Tryd.prog.info? 26).map (fun i => (i.zero, i.size, i.bytes)) = some (some (.agg #[.int .u8 0, .int .u8 0, .int .u8 0, .int .u8 0, .int .u8 0, .int .u8 0, .int .u8 0, .int .u8 0, .int .u8 0, .int .u8 0, .int .u8 0, .int .u8 0, .int .u8 0, .int .u8 0, .int .u8 0, .int .u8 0, .int .u8 0, .int .u8 0, .int .u8 0, .int .u8 0, .int .u8 0, .int .u8 0, .int .u8 0, .int .u8 0, .int .u8 0, .int .u8 0, .int .u8 0, .int .u8 0, .int .u8 0, .int .u8 0, .int .u8 0, .int .u8 0]), 32, 32) := by kernel_rfl
theorem und26 : Tryd.prog.underlying 26 = some (TypeDesc.array 32 5) := by kernel_rfl
theorem inf27 : (Tryd.prog.info? 27).map (fun i => (i.zero, i.size, i.bytes)) = some (some (.int .u32 0), 1, 4) := by kernel_rfl
theorem und27 : Tryd.prog.underlying 27 = some (TypeDesc.int .u32) := by kernel_rfl
theorem inf28 : (Tryd.prog.info? 28).map (fun i => (i.zero, i.size, i.bytes)) = some (some (.int .u64 0), 1, 8) := by kernel_rfl
theorem und28 : Tryd.prog.underlying 28 = some (TypeDesc.int .u64) := by kernel_rfl
theorem inf29 : (Tryd.prog.info? 29).map (fun i => (i.zero, i.size, i.bytes)) = some (some (.slice none 0 0), 1, 24) := by kernel_rfl
theorem und29 : Tryd.prog.underlying 29 = some (TypeDesc.slice 5) := by kernel_rfl
theorem inf30 : (Tryd.prog.info? 30).map (fun i => (i.zero, i.size, i.bytes)) = some (some (.slice none 0 0), 1, 24) := by kernel_rfl
theorem und30 : Tryd.prog.underlying 30 = some (TypeDesc.slice 65) := by kernel_rfl
theorem inf31 : (Tryd.prog.info? 31).map (fun i => (i.zero, i.size, i.bytes)) = some (some (.agg #[.slice none 0 0, .int .u8 0, .int .u8 0, .int .u8 0, .int .u8 0, .int .u8 0, .int .u8 0, .int .u8 0, .int .u8 0, .int .u8 0, .int .u8 0, .int .u8 0, .int .u8 0, .int .u8 0, .int .u8 0, .int .u8 0, .int .u8 0, .int .u8 0, .int .u8 0, .int .u8 0, .int .u8 0, .int .u8 0, .int .u8 0, .int .u8 0, .int .u8 0, .int .u8 0, .int .u8 0, .int .u8 0, .int .u8 0, .int .u8 0, .int .u8 0, .int .u8 0, .int .u8 0, .int .u8 0, .int .u8 0, .int .u8 0, .int .u8 0, .int .u8 0, .int .u8 0, .int .u8 0, .int .u8 0, .int .u8 0, .int .u8 0, .int .u8 0, .int .u8 0, .int .u8 0, .int .u8 0, .int .u8 0, .int .u8 0, .string ByteArray.empty, .string ByteArray.empty, .int .u32 0, .int .u32 0, .int .u32 0, .int .u32 0, .int .u8 0, .int .u8 0, .int .u64 0, .string ByteArray.empty, .int .u64 0, .int .u32 0, .slice none 0 0, .slice none 0 0, .int .u16 0, .string ByteArray.empty, .string ByteArray.empty, .int .u16 0, .int .u64 0, .bool false]), 69, 280) := by kernel_rfl
theorem und31 : (Tryd.prog.underlying 31).map (fun d => match d with | .struct f => f.toList.map (fun x => (x.offset, x.type)) | _ => []) = some [(0, 24), (1, 25), (17, 26), (49, 9), (50, 9), (51, 27), (52, 27), (53, 27), (54, 27), (55, 5), (56, 5), (57, 28), (58, 9), (59, 28), (60, 27), (61, 29), (62, 30), (63, 22), (64, 9), (65, 9), (66, 22), (67, 28), (68, 4)] := by kernel_rfl
theorem inf32 : (Tryd.prog.info? 32).map (fun i => (i.zero, i.size, i.bytes)) = some (some (.agg #[.slice none 0 0, .int .u8 0, .int .u8 0, .int .u8 0, .int .u8 0, .int .u8 0, .int .u8 0, .int .u8 0, .int .u8 0, .int .u8 0, .int .u8 0, .int .u8 0, .int .u8 0, .int .u8 0, .int .u8 0, .int .u8 0, .int .u8 0, .int .u8 0, .int .u8 0, .int .u8 0, .int .u8 0, .int .u8 0, .int .u8 0, .int .u8 0, .int .u8 0, .int .u8 0, .int .u8 0, .int .u8 0, .int .u8 0, .int .u8 0, .int .u8 0, .int .u8 0, .int .u8 0, .int .u8 0, .int .u8 0, .int .u8 0, .int .u8 0, .int .u8 0, .int .u8 0, .int .u8 0, .int .u8 0, .int .u8 0, .int .u8 0, .int .u8 0, .int .u8 0, .int .u8 0, .int .u8 0, .int .u8 0, .int .u8 0, .string ByteArray.empty, .string ByteArray.empty, .int .u32 0, .int .u32 0, .int .u32 0, .int .u32 0, .int .u8 0, .int .u8 0, .int .u64 0, .string ByteArray.empty, .int .u64 0, .int .u32 0, .slice none 0 0, .slice none 0 0, .int .u16 0, .string ByteArray.empty, .string ByteArray.empty, .int .u16 0, .int .u64 0, .bool false]), 69, 280) := by kernel_rfl
theorem und32 : (Tryd.prog.underlying 32).map (fun d => match d with | .struct f => f.toList.map (fun x => (x.offset, x.type)) | _ => []) = some [(0, 24), (1, 25), (17, 26), (49, 9), (50, 9), (51, 27), (52, 27), (53, 27), (54, 27), (55, 5), (56, 5), (57, 28), (58, 9), (59, 28), (60, 27), (61, 29), (62, 30), (63, 22), (64, 9), (65, 9), (66, 22), (67, 28), (68, 4)] := by kernel_rfl
theorem inf34 : (Tryd.prog.info? 34).map (fun i => (i.zero, i.size, i.bytes)) = some (some (.int .i64 0), 1, 8) := by kernel_rfl
theorem und34 : Tryd.prog.underlying 34 = some (TypeDesc.int .i64) := by kernel_rfl
theorem inf44 : (Tryd.prog.info? 44).map (fun i => (i.zero, i.size, i.bytes)) = some (some (.agg #[.int .u8 0, .int .u8 0, .int .u8 0, .int .u8 0, .int .u8 0, .int .u8 0, .int .u8 0, .int .u8 0]), 8, 8) := by kernel_rfl
theorem und44 : Tryd.prog.underlying 44 = some (TypeDesc.array 8 5) := by kernel_rfl
theorem inf45 : (Tryd.prog.info? 45).map (fun i => (i.zero, i.size, i.bytes)) = some (some (.int .u8 0), 1, 1) := by kernel_rfl
theorem und45 : Tryd.prog.underlying 45 = some (TypeDesc.int .u8) := by kernel_rfl
theorem inf46 : (Tryd.prog.info? 46).map (fun i => (i.zero, i.size, i.bytes)) = some (some (.slice none 0 0), 1, 24) := by kernel_rfl
theorem und46 : Tryd.prog.underlying 46 = some (TypeDesc.slice 105) := by kernel_rfl
theorem inf47 : (Tryd.prog.info? 47).map (fun i => (i.zero, i.size, i.bytes)) = some (some (.agg #[.int .u16 0, .int .u64 0, .int .u8 0, .int .u8 0, .int .u8 0, .int .u8 0, .int .u8 0, .int .u8 0, .int .u8 0, .int .u8 0, .int .u8 0, .int .u8 0, .int .u16 0, .int .u64 0, .int .u8 0, .slice none 0 0, .int .u32 0, .slice none 0 0, .bool false, .bool false]), 20, 112) := by kernel_rfl
theorem und47 : (Tryd.prog.underlying 47).map (fun d => match d with | .struct f => f.toList.map (fun x => (x.offset, x.type)) | _ => []) = some [(0, 22), (1, 28), (2, 44), (10, 5), (11, 5), (12, 22), (13, 28), (14, 45), (15, 29), (16, 27), (17, 46), (18, 4), (19, 4)] := by kernel_rfl
theorem inf48 : (Tryd.prog.info? 48).map (fun i => (i.zero, i.size, i.bytes)) = some (some (.agg #[.int .u16 0, .int .u64 0, .int .u8 0, .int .u8 0, .int .u8 0, .int .u8 0, .int .u8 0, .int .u8 0, .int .u8 0, .int .u8 0, .int .u8 0, .int .u8 0, .int .u16 0, .int .u64 0, .int .u8 0, .slice none 0 0, .int .u32 0, .slice none 0 0, .bool false, .bool false]), 20, 112) := by kernel_rfl
theorem und48 : (Tryd.prog.underlying 48).map (fun d => match d with | .struct f => f.toList.map (fun x => (x.offset, x.type)) | _ => []) = some [(0, 22), (1, 28), (2, 44), (10, 5), (11, 5), (12, 22), (13, 28), (14, 45), (15, 29), (16, 27), (17, 46), (18, 4), (19, 4)] := by kernel_rfl
theorem inf53 : (Tryd.prog.info? 53).map (fun i => (i.zero, i.size, i.bytes)) = some (some (.int .u64 0), 1, 8) := by kernel_rfl
theorem und53 : Tryd.prog.underlying 53 = some (TypeDesc.int .u64) := by kernel_rfl
theorem inf64 : (Tryd.prog.info? 64).map (fun i => (i.zero, i.size, i.bytes)) = some (some (.agg #[.int .i64 0, .int .u64 0, .int .u64 0, .int .u16 0]), 4, 32) := by kernel_rfl
theorem und64 : (Tryd.prog.underlying 64).map (fun d => match d with | .struct f => f.toList.map (fun x => (x.offset, x.type)) | _ => []) = some [(0, 3), (1, 28), (2, 28), (3, 22)] := by kernel_rfl
theorem inf65 : (Tryd.prog.info? 65).map (fun i => (i.zero, i.size, i.bytes)) = some (some (.agg #[.int .i64 0, .int .u64 0, .int .u64 0, .int .u16 0]), 4, 32) := by kernel_rfl
theorem und65 : (Tryd.prog.underlying 65).map (fun d => match d with | .struct f => f.toList.map (fun x => (x.offset, x.type)) | _ => []) = some [(0, 3), (1, 28), (2, 28), (3, 22)] := by kernel_rfl
theorem inf66 : (Tryd.prog.info? 66).map (fun i => (i.zero, i.size, i.bytes)) = some (some (.pointer none), 1, 8) := by kernel_rfl
theorem und66 : Tryd.prog.underlying 66 = some (TypeDesc.pointer 68) := by kernel_rfl
theorem inf67 : (Tryd.prog.info? 67).map (fun i => (i.zero, i.size, i.bytes)) = some (some (.agg #[.slice none 0 0]), 1, 24) := by kernel_rfl
theorem und67 : (Tryd.prog.underlying 67).map (fun d => match d with | .struct f => f.toList.map (fun x => (x.offset, x.type)) | _ => []) = some [(0, 29)] := by kernel_rfl
theorem inf68 : (Tryd.prog.info? 68).map (fun i => (i.zero, i.size, i.bytes)) = some (some (.agg #[.slice none 0 0]), 1, 24) := by kernel_rfl
theorem und68 : (Tryd.prog.underlying 68).map (fun d => match d with | .struct f => f.toList.map (fun x => (x.offset, x.type)) | _ => []) = some [(0, 29)] := by kernel_rfl
theorem inf75 : (Tryd.prog.info? 75).map (fun i => (i.zero, i.size, i.bytes)) = some (some (.pointer none), 1, 8) := by kernel_rfl
theorem und75 : Tryd.prog.underlying 75 = some (TypeDesc.pointer 77) := by kernel_rfl
theorem inf76 : (Tryd.prog.info? 76).map (fun i => (i.zero, i.size, i.bytes)) = some (some (.agg #[.slice none 0 0, .int .i64 0, .int .i64 0]), 3, 40) := by kernel_rfl
theorem und76 : (Tryd.prog.underlying 76).map (fun d => match d with | .struct f => f.toList.map (fun x => (x.offset, x.type)) | _ => []) = some [(0, 29), (1, 3), (2, 34)] := by kernel_rfl
theorem inf77 : (Tryd.prog.info? 77).map (fun i => (i.zero, i.size, i.bytes)) = some (some (.agg #[.slice none 0 0, .int .i64 0, .int .i64 0]), 3, 40) := by kernel_rfl
theorem und77 : (Tryd.prog.underlying 77).map (fun d => match d with | .struct f => f.toList.map (fun x => (x.offset, x.type)) | _ => []) = some [(0, 29), (1, 3), (2, 34)] := by kernel_rfl
theorem inf83 : (Tryd.prog.info? 83).map (fun i => (i.zero, i.size, i.bytes)) = some (some (.pointer none), 1, 8) := by kernel_rfl
theorem und83 : Tryd.prog.underlying 83 = some (TypeDesc.pointer 85) := by kernel_rfl
theorem inf84 : (Tryd.prog.info? 84).map (fun i => (i.zero, i.size, i.bytes)) = some (some (.agg #[.slice none 0 0, .int .i64 0, .int .i64 0]), 3, 40) := by kernel_rfl
theorem und84 : (Tryd.prog.underlying 84).map (fun d => match d with | .struct f => f.toList.map (fun x => (x.offset, x.type)) | _ => []) = some [(0, 29), (1, 3), (2, 34)] := by kernel_rfl
theorem inf85 : (Tryd.prog.info? 85).map (fun i => (i.zero, i.size, i.bytes)) = some (some (.agg #[.slice none 0 0, .int .i64 0, .int .i64 0]), 3, 40) := by kernel_rfl
theorem und85 : (Tryd.prog.underlying 85).map (fun d => match d with | .struct f => f.toList.map (fun x => (x.offset, x.type)) | _ => []) = some [(0, 29), (1, 3), (2, 34)] := by kernel_rfl
theorem inf92 : (Tryd.prog.info? 92).map (fun i => (i.zero, i.size, i.bytes)) = some (some (.slice none 0 0), 1, 24) := by kernel_rfl
theorem und92 : Tryd.prog.underlying 92 = some (TypeDesc.slice 27) := by kernel_rfl
theorem inf95 : (Tryd.prog.info? 95).map (fun i => (i.zero, i.size, i.bytes)) = some (some (.pointer none), 1, 8) := by kernel_rfl
theorem und95 : Tryd.prog.underlying 95 = some (TypeDesc.pointer 27) := by kernel_rfl
theorem inf96 : (Tryd.prog.info? 96).map (fun i => (i.zero, i.size, i.bytes)) = some (some (.slice none 0 0), 1, 24) := by kernel_rfl
theorem und96 : Tryd.prog.underlying 96 = some (TypeDesc.slice 95) := by kernel_rfl
theorem inf102 : (Tryd.prog.info? 102).map (fun i => (i.zero, i.size, i.bytes)) = some (some (.agg #[.int .u8 0, .int .i64 0]), 2, 16) := by kernel_rfl
theorem und102 : (Tryd.prog.underlying 102).map (fun d => match d with | .struct f => f.toList.map (fun x => (x.offset, x.type)) | _ => []) = some [(0, 45), (1, 3)] := by kernel_rfl
theorem inf103 : (Tryd.prog.info? 103).map (fun i => (i.zero, i.size, i.bytes)) = some (some (.agg #[.int .u8 0, .int .i64 0]), 2, 16) := by kernel_rfl
theorem und103 : (Tryd.prog.underlying 103).map (fun d => match d with | .struct f => f.toList.map (fun x => (x.offset, x.type)) | _ => []) = some [(0, 45), (1, 3)] := by kernel_rfl
theorem inf104 : (Tryd.prog.info? 104).map (fun i => (i.zero, i.size, i.bytes)) = some (some (.agg #[.string ByteArray.empty, .int .u8 0, .int .i64 0]), 3, 32) := by kernel_rfl
theorem und104 : (Tryd.prog.underlying 104).map (fun d => match d with | .struct f => f.toList.map (fun x => (x.offset, x.type)) | _ => []) = some [(0, 9), (1, 103)] := by kernel_rfl
theorem inf105 : (Tryd.prog.info? 105).map (fun i => (i.zero, i.size, i.bytes)) = some (some (.agg #[.string ByteArray.empty, .int .u8 0, .int .i64 0]), 3, 32) := by kernel_rfl
theorem und105 : (Tryd.prog.underlying 105).map (fun d => match d with | .struct f => f.toList.map (fun x => (x.offset, x.type)) | _ => []) = some [(0, 9), (1, 103)] := by kernel_rfl
theorem inf107 : (Tryd.prog.info? 107).map (fun i => (i.zero, i.size, i.bytes)) = some (some (.slice none 0 0), 1, 24) := by kernel_rfl
theorem und107 : Tryd.prog.underlying 107 = some (TypeDesc.slice 3) := by kernel_rfl
theorem inf126 : (Tryd.prog.info? 126).map (fun i => (i.zero, i.size, i.bytes)) = some (some (.agg #[.int .u8 0, .int .u8 0, .int .u8 0, .int .u8 0, .int .u8 0, .int .u8 0, .int .u8 0, .int .u8 0, .int .u8 0, .int .u8 0, .int .u8 0, .int .u8 0, .int .u8 0, .int .u8 0, .int .u8 0, .int .u8 0, .int .u8 0, .int .u8 0, .int .u8 0, .int .u8 0, .int .u8 0, .int .u8 0, .int .u8 0, .int .u8 0, .int .u8 0, .int .u8 0, .int .u8 0, .int .u8 0, .int .u8 0, .int .u8 0, .int .u8 0, .int .u8 0, .int .u8 0, .int .u8 0, .int .u8 0, .int .u8 0, .int .u8 0, .int .u8 0, .int .u8 0, .int .u8 0, .int .u8 0, .int .u8 0, .int .u8 0, .int .u8 0, .int .u8 0, .int .u8 0, .int .u8 0, .int .u8 0, .int .u8 0, .int .u8 0, .int .u8 0, .int .u8 0, .int .u8 0, .int .u8 0, .int .u8 0, .int .u8 0, .int .u8 0, .int .u8 0, .int .u8 0, .int .u8 0, .int .u8 0, .int .u8 0, .int .u8 0, .int .u8 0, .int .u8 0, .int .u8 0, .int .u8 0, .int .u8 0, .int .u8 0, .int .u8 0, .int .u8 0, .int .u8 0, .int .u8 0, .int .u8 0, .int .u8 0, .int .u8 0, .int .u8 0, .int .u8 0, .int .u8 0, .int .u8 0, .int .u8 0, .int .u8 0, .int .u8 0, .int .u8 0, .int .u8 0, .int .u8 0, .int .u8 0, .int .u8 0, .int .u8 0, .int .u8 0, .int .u8 0, .int .u8 0, .int .u8 0, .int .u8 0, .int .u8 0, .int .u8 0, .int .u8 0, .int .u8 0, .int .u8 0, .int .u8 0, .int .u8 0, .int .u8 0, .int .u8 0, .int .u8 0, .int .u8 0, .int .u8 0, .int .u8 0, .int .u8 0, .int .u8 0, .int .u8 0, .int .u8 0, .int .u8 0, .int .u8 0, .int .u8 0, .int .u8 0, .int .u8 0, .int .u8 0, .int .u8 0, .int .u8 0, .int .u8 0, .int .u8 0, .int .u8 0, .int .u8 0, .int .u8 0, .int .u8 0, .int .u8 0, .int .u8 0, .int .u8 0, .int .u8 0, .int .u8 0, .int .u8 0, .int .u8 0, .int .u8 0, .int .u8 0, .int .u8 0, .int .u8 0, .int .u8 0, .int .u8 0, .int .u8 0, .int .u8 0, .int .u8 0, .int .u8 0, .int .u8 0, .int .u8 0, .int .u8 0, .int .u8 0, .int .u8 0, .int .u8 0, .int .u8 0, .int .u8 0, .int .u8 0, .int .u8 0, .int .u8 0, .int .u8 0, .int .u8 0, .int .u8 0, .int .u8 0, .int .u8 0, .int .u8 0, .int .u8 0, .int .u8 0, .int .u8 0, .int .u8 0, .int .u8 0, .int .u8 0, .int .u8 0, .int .u8 0, .int .u8 0, .int .u8 0, .int .u8 0, .int .u8 0, .int .u8 0, .int .u8 0, .int .u8 0, .int .u8 0, .int .u8 0, .int .u8 0, .int .u8 0, .int .u8 0, .int .u8 0, .int .u8 0, .int .u8 0, .int .u8 0, .int .u8 0, .int .u8 0, .int .u8 0, .int .u8 0, .int .u8 0, .int .u8 0, .int .u8 0, .int .u8 0, .int .u8 0, .int .u8 0, .int .u8 0, .int .u8 0, .int .u8 0, .int .u8 0, .int .u8 0, .int .u8 0, .int .u8 0, .int .u8 0, .int .u8 0, .int .u8 0, .int .u8 0, .int .u8 0, .int .u8 0, .int .u8 0, .int .u8 0, .int .u8 0, .int .u8 0, .int .u8 0, .int .u8 0, .int .u8 0, .int .u8 0, .int .u8 0, .int .u8 0, .int .u8 0, .int .u8 0, .int .u8 0, .int .u8 0, .int .u8 0, .int .u8 0, .int .u8 0, .int .u8 0, .int .u8 0, .int .u8 0, .int .u8 0, .int .u8 0, .int .u8 0, .int .u8 0, .int .u8 0, .int .u8 0, .int .u8 0, .int .u8 0, .int .u8 0, .int .u8 0, .int .u8 0, .int .u8 0, .int .u8 0, .int .u8 0, .int .u8 0, .int .u8 0, .int .u8 0, .int .u8 0, .int .u8 0, .int .u8 0, .int .u8 0, .int .u8 0, .int .u8 0, .int .u8 0, .int .u8 0, .int .u8 0, .int .u8 0, .int .u8 0, .int .u8 0, .int .u8 0]), 256, 256) := by kernel_rfl
theorem und126 : Tryd.prog.underlying 126 = some (TypeDesc.array 256 5) := by kernel_rfl
theorem inf127 : (Tryd.prog.info? 127).map (fun i => (i.zero, i.size, i.bytes)) = some (some (.agg #[.int .u8 0, .int .u8 0]), 2, 2) := by kernel_rfl
theorem und127 : (Tryd.prog.underlying 127).map (fun d => match d with | .struct f => f.toList.map (fun x => (x.offset, x.type)) | _ => []) = some [(0, 5), (1, 5)] := by kernel_rfl
theorem inf128 : (Tryd.prog.info? 128).map (fun i => (i.zero, i.size, i.bytes)) = some (some (.agg #[.int .u8 0, .int .u8 0]), 2, 2) := by kernel_rfl
theorem und128 : (Tryd.prog.underlying 128).map (fun d => match d with | .struct f => f.toList.map (fun x => (x.offset, x.type)) | _ => []) = some [(0, 5), (1, 5)] := by kernel_rfl
theorem inf129 : (Tryd.prog.info? 129).map (fun i => (i.zero, i.size, i.bytes)) = some (some (.agg #[.int .u8 0, .int .u8 0, .int .u8 0, .int .u8 0, .int .u8 0, .int .u8 0, .int .u8 0, .int .u8 0, .int .u8 0, .int .u8 0, .int .u8 0, .int .u8 0, .int .u8 0, .int .u8 0, .int .u8 0, .int .u8 0, .int .u8 0, .int .u8 0, .int .u8 0, .int .u8 0, .int .u8 0, .int .u8 0, .int .u8 0, .int .u8 0, .int .u8 0, .int .u8 0, .int .u8 0, .int .u8 0, .int .u8 0, .int .u8 0, .int .u8 0, .int .u8 0]), 32, 32) := by kernel_rfl
theorem und129 : Tryd.prog.underlying 129 = some (TypeDesc.array 16 128) := by kernel_rfl
theorem inf139 : (Tryd.prog.info? 139).map (fun i => (i.zero, i.size, i.bytes)) = some (some (.pointer none), 1, 8) := by kernel_rfl
theorem und139 : Tryd.prog.underlying 139 = some (TypeDesc.pointer 5) := by kernel_rfl

theorem struct_of {P : Program} {t : Nat} {l : List (Nat × TypeId)} (h : (P.underlying t).map (fun d => match d with | .struct f => f.toList.map (fun x => (x.offset, x.type)) | _ => []) = some l) (hl : l ≠ []) :
    ∃ f, P.underlying t = some (.struct f) ∧ f.toList.map (fun x => (x.offset, x.type)) = l := by
  cases e : P.underlying t with
  | none => rw [e] at h; simp at h
  | some d =>
    rw [e] at h
    simp only [Option.map_some, Option.some.injEq] at h
    cases d <;> simp only at h <;> first | exact ⟨_, rfl, h⟩ | exact absurd h.symm hl

theorem info_of {P : Program} {t : Nat} {z : Value} {size bytes : Nat} {l : List SV} (h : (P.info? t).map (fun i => (i.zero, i.size, i.bytes)) = some (some z, size, bytes)) (hz : ZeroOk l z.cells.toList) (hs : z.cells.size = size) :
    ∃ i, P.info? t = some i ∧ i.size = size ∧ i.bytes = bytes ∧ ∃ z, i.zero = some z ∧ ZeroOk l z.cells.toList ∧ z.cells.size = size := by
  obtain ⟨i, h1, h2, h3, h4⟩ := info_parts h
  exact ⟨i, h1, h3, h4, z, h2, hz, hs⟩

theorem tyOk_T (t : Nat) : tyOk Tryd.prog t (tTy t) := by
  unfold tTy
  split
  · exact und2
  · exact und3
  · exact und4
  · exact und5
  · exact und9
  · exact und12
  · exact struct_of und13 (by simp)
  · exact und21
  · exact und22
  · exact und23
  · exact und24
  · exact und25
  · exact und26
  · exact und27
  · exact und28
  · exact und29
  · exact und30
  · exact struct_of und31 (by simp)
  · exact struct_of und32 (by simp)
  · exact und34
  · exact und44
  · exact und45
  · exact und46
  · exact struct_of und47 (by simp)
  · exact struct_of und48 (by simp)
  · exact und53
  · exact struct_of und64 (by simp)
  · exact struct_of und65 (by simp)
  · exact und66
  · exact struct_of und67 (by simp)
  · exact struct_of und68 (by simp)
  · exact und75
  · exact struct_of und76 (by simp)
  · exact struct_of und77 (by simp)
  · exact und83
  · exact struct_of und84 (by simp)
  · exact struct_of und85 (by simp)
  · exact und92
  · exact und95
  · exact und96
  · exact struct_of und102 (by simp)
  · exact struct_of und103 (by simp)
  · exact struct_of und104 (by simp)
  · exact struct_of und105 (by simp)
  · exact und107
  · exact und126
  · exact struct_of und127 (by simp)
  · exact struct_of und128 (by simp)
  · exact und129
  · exact und139
  · trivial

theorem infoOk_T (t : Nat) (h : tSize t ≠ 0) : ∃ i, Tryd.prog.info? t = some i ∧ i.size = tSize t ∧ i.bytes = tBytes t ∧ ∃ z, i.zero = some z ∧ ZeroOk (tZero t) z.cells.toList ∧ z.cells.size = tSize t := by
  unfold tSize at h ⊢
  unfold tBytes tZero
  split at h
  · exact info_of inf2 (⟨_, _, rfl, rfl, rfl⟩) rfl
  · exact info_of inf3 (⟨_, _, rfl, rfl, rfl⟩) rfl
  · exact info_of inf4 (⟨_, _, rfl, rfl, rfl⟩) rfl
  · exact info_of inf5 (⟨_, _, rfl, rfl, rfl⟩) rfl
  · exact info_of inf9 (⟨_, _, rfl, rfl, rfl⟩) rfl
  · exact info_of inf12 (⟨_, _, rfl, rfl, rfl⟩) rfl
  · exact info_of inf13 (⟨_, _, rfl, rfl, ⟨_, _, rfl, rfl, rfl⟩⟩) rfl
  · exact info_of inf21 (⟨_, _, rfl, rfl, rfl⟩) rfl
  · exact info_of inf22 (⟨_, _, rfl, rfl, rfl⟩) rfl
  · exact info_of inf23 (⟨_, _, rfl, rfl, rfl⟩) rfl
  · exact info_of inf24 (⟨_, _, rfl, rfl, rfl⟩) rfl
  · exact info_of inf25 (⟨rfl, _, rfl, rfl⟩) rfl
  · exact info_of inf26 (⟨rfl, _, rfl, rfl⟩) rfl
  · exact info_of inf27 (⟨_, _, rfl, rfl, rfl⟩) rfl
  · exact info_of inf28 (⟨_, _, rfl, rfl, rfl⟩) rfl
  · exact info_of inf29 (⟨_, _, rfl, rfl, rfl⟩) rfl
  · exact info_of inf30 (⟨_, _, rfl, rfl, rfl⟩) rfl
  · exact info_of inf31 (⟨_, _, rfl, rfl, ⟨rfl, _, rfl, ⟨rfl, _, rfl, ⟨_, _, rfl, rfl, ⟨_, _, rfl, rfl, ⟨_, _, rfl, rfl, ⟨_, _, rfl, rfl, ⟨_, _, rfl, rfl, ⟨_, _, rfl, rfl, ⟨_, _, rfl, rfl, ⟨_, _, rfl, rfl, ⟨_, _, rfl, rfl, ⟨_, _, rfl, rfl, ⟨_, _, rfl, rfl, ⟨_, _, rfl, rfl, ⟨_, _, rfl, rfl, ⟨_, _, rfl, rfl, ⟨_, _, rfl, rfl, ⟨_, _, rfl, rfl, ⟨_, _, rfl, rfl, ⟨_, _, rfl, rfl, ⟨_, _, rfl, rfl, ⟨_, _, rfl, rfl, rfl⟩⟩⟩⟩⟩⟩⟩⟩⟩⟩⟩⟩⟩⟩⟩⟩⟩⟩⟩⟩⟩⟩⟩) rfl
  · exact info_of inf32 (⟨_, _, rfl, rfl, ⟨rfl, _, rfl, ⟨rfl, _, rfl, ⟨_, _, rfl, rfl, ⟨_, _, rfl, rfl, ⟨_, _, rfl, rfl, ⟨_, _, rfl, rfl, ⟨_, _, rfl, rfl, ⟨_, _, rfl, rfl, ⟨_, _, rfl, rfl, ⟨_, _, rfl, rfl, ⟨_, _, rfl, rfl, ⟨_, _, rfl, rfl, ⟨_, _, rfl, rfl, ⟨_, _, rfl, rfl, ⟨_, _, rfl, rfl, ⟨_, _, rfl, rfl, ⟨_, _, rfl, rfl, ⟨_, _, rfl, rfl, ⟨_, _, rfl, rfl, ⟨_, _, rfl, rfl, ⟨_, _, rfl, rfl, ⟨_, _, rfl, rfl, rfl⟩⟩⟩⟩⟩⟩⟩⟩⟩⟩⟩⟩⟩⟩⟩⟩⟩⟩⟩⟩⟩⟩⟩) rfl
  · exact info_of inf34 (⟨_, _, rfl, rfl, rfl⟩) rfl
  · exact info_of inf44 (⟨rfl, _, rfl, rfl⟩) rfl
  · exact info_of inf45 (⟨_, _, rfl, rfl, rfl⟩) rfl
  · exact info_of inf46 (⟨_, _, rfl, rfl, rfl⟩) rfl
  · exact info_of inf47 (⟨_, _, rfl, rfl, ⟨_, _, rfl, rfl, ⟨rfl, _, rfl, ⟨_, _, rfl, rfl, ⟨_, _, rfl, rfl, ⟨_, _, rfl, rfl, ⟨_, _, rfl, rfl, ⟨_, _, rfl, rfl, ⟨_, _, rfl, rfl, ⟨_, _, rfl, rfl, ⟨_, _, rfl, rfl, ⟨_, _, rfl, rfl, ⟨_, _, rfl, rfl, rfl⟩⟩⟩⟩⟩⟩⟩⟩⟩⟩⟩⟩⟩) rfl
  · exact info_of inf48 (⟨_, _, rfl, rfl, ⟨_, _, rfl, rfl, ⟨rfl, _, rfl, ⟨_, _, rfl, rfl, ⟨_, _, rfl, rfl, ⟨_, _, rfl, rfl, ⟨_, _, rfl, rfl, ⟨_, _, rfl, rfl, ⟨_, _, rfl, rfl, ⟨_, _, rfl, rfl, ⟨_, _, rfl, rfl, ⟨_, _, rfl, rfl, ⟨_, _, rfl, rfl, rfl⟩⟩⟩⟩⟩⟩⟩⟩⟩⟩⟩⟩⟩) rfl
  · exact info_of inf53 (⟨_, _, rfl, rfl, rfl⟩) rfl
  · exact info_of inf64 (⟨_, _, rfl, rfl, ⟨_, _, rfl, rfl, ⟨_, _, rfl, rfl, ⟨_, _, rfl, rfl, rfl⟩⟩⟩⟩) rfl
  · exact info_of inf65 (⟨_, _, rfl, rfl, ⟨_, _, rfl, rfl, ⟨_, _, rfl, rfl, ⟨_, _, rfl, rfl, rfl⟩⟩⟩⟩) rfl
  · exact info_of inf66 (⟨_, _, rfl, rfl, rfl⟩) rfl
  · exact info_of inf67 (⟨_, _, rfl, rfl, rfl⟩) rfl
  · exact info_of inf68 (⟨_, _, rfl, rfl, rfl⟩) rfl
  · exact info_of inf75 (⟨_, _, rfl, rfl, rfl⟩) rfl
  · exact info_of inf76 (⟨_, _, rfl, rfl, ⟨_, _, rfl, rfl, ⟨_, _, rfl, rfl, rfl⟩⟩⟩) rfl
  · exact info_of inf77 (⟨_, _, rfl, rfl, ⟨_, _, rfl, rfl, ⟨_, _, rfl, rfl, rfl⟩⟩⟩) rfl
  · exact info_of inf83 (⟨_, _, rfl, rfl, rfl⟩) rfl
  · exact info_of inf84 (⟨_, _, rfl, rfl, ⟨_, _, rfl, rfl, ⟨_, _, rfl, rfl, rfl⟩⟩⟩) rfl
  · exact info_of inf85 (⟨_, _, rfl, rfl, ⟨_, _, rfl, rfl, ⟨_, _, rfl, rfl, rfl⟩⟩⟩) rfl
  · exact info_of inf92 (⟨_, _, rfl, rfl, rfl⟩) rfl
  · exact info_of inf95 (⟨_, _, rfl, rfl, rfl⟩) rfl
  · exact info_of inf96 (⟨_, _, rfl, rfl, rfl⟩) rfl
  · exact info_of inf102 (⟨_, _, rfl, rfl, ⟨_, _, rfl, rfl, rfl⟩⟩) rfl
  · exact info_of inf103 (⟨_, _, rfl, rfl, ⟨_, _, rfl, rfl, rfl⟩⟩) rfl
  · exact info_of inf104 (⟨_, _, rfl, rfl, ⟨_, _, rfl, rfl, ⟨_, _, rfl, rfl, rfl⟩⟩⟩) rfl
  · exact info_of inf105 (⟨_, _, rfl, rfl, ⟨_, _, rfl, rfl, ⟨_, _, rfl, rfl, rfl⟩⟩⟩) rfl
  · exact info_of inf107 (⟨_, _, rfl, rfl, rfl⟩) rfl
  · exact info_of inf126 (⟨rfl, _, rfl, rfl⟩) rfl
  · exact info_of inf127 (⟨_, _, rfl, rfl, ⟨_, _, rfl, rfl, rfl⟩⟩) rfl
  · exact info_of inf128 (⟨_, _, rfl, rfl, ⟨_, _, rfl, rfl, rfl⟩⟩) rfl
  · exact info_of inf129 (⟨_, _, rfl, rfl, ⟨_, _, rfl, rfl, ⟨_, _, rfl, rfl, ⟨_, _, rfl, rfl, ⟨_, _, rfl, rfl, ⟨_, _, rfl, rfl, ⟨_, _, rfl, rfl, ⟨_, _, rfl, rfl, ⟨_, _, rfl, rfl, ⟨_, _, rfl, rfl, ⟨_, _, rfl, rfl, ⟨_, _, rfl, rfl, ⟨_, _, rfl, rfl, ⟨_, _, rfl, rfl, ⟨_, _, rfl, rfl, ⟨_, _, rfl, rfl, ⟨_, _, rfl, rfl, ⟨_, _, rfl, rfl, ⟨_, _, rfl, rfl, ⟨_, _, rfl, rfl, ⟨_, _, rfl, rfl, ⟨_, _, rfl, rfl, ⟨_, _, rfl, rfl, ⟨_, _, rfl, rfl, ⟨_, _, rfl, rfl, ⟨_, _, rfl, rfl, ⟨_, _, rfl, rfl, ⟨_, _, rfl, rfl, ⟨_, _, rfl, rfl, ⟨_, _, rfl, rfl, ⟨_, _, rfl, rfl, ⟨_, _, rfl, rfl, rfl⟩⟩⟩⟩⟩⟩⟩⟩⟩⟩⟩⟩⟩⟩⟩⟩⟩⟩⟩⟩⟩⟩⟩⟩⟩⟩⟩⟩⟩⟩⟩⟩) rfl
  · exact info_of inf139 (⟨_, _, rfl, rfl, rfl⟩) rfl
  · exact absurd rfl h

theorem names_of {l : List Field} (h : (l.all fun f => f.name != "_") = true) : ∀ f ∈ l, f.name ≠ "_" := fun f hf => by simpa using List.all_eq_true.1 h f hf

theorem eqOk_T (t : Nat) (h : tEq t = true) : Tryd.prog.stoodInHeld t = false ∧ Tryd.prog.eqGuardType Tryd.prog.depth t = false ∧ ∀ f ∈ (Tryd.prog.fieldsOf t).toList, f.name ≠ "_" := by
  unfold tEq at h
  split at h
  · exact ⟨by kernel_rfl, by kernel_rfl, names_of (by kernel_rfl)⟩
  · exact ⟨by kernel_rfl, by kernel_rfl, names_of (by kernel_rfl)⟩
  · exact ⟨by kernel_rfl, by kernel_rfl, names_of (by kernel_rfl)⟩
  · cases h

theorem TO : TabOk Tryd.prog T := ⟨tyOk_T, infoOk_T, Nat.le_of_ble_eq_true (by kernel_rfl), eqOk_T⟩

end Go.Proofs.YtakgefinmlomdaaDoor.Abs
