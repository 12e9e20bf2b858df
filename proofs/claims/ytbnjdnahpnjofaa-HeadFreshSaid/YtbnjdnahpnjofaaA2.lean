/- OWN LIBRARY, part 2: the operations, on told states (definitions). -/
import Derived.Test.YtbnjdnahpnjofaaA1
set_option linter.unusedVariables false
namespace Go.Proofs.Ytbnjdnahpnjofaa.Abs
open Go

/-- What a type is, as far as it is asked here. -/
inductive TyI where
  | int (k : IntKind)
  | bool
  | string
  | slice (e : TypeId)
  | array (n : Nat) (e : TypeId)
  | struct (fs : List (Nat × TypeId))
  | pointer (e : TypeId)
  | other

/-- The table of the program's types. -/
structure Tab where
  ty : TypeId → TyI
  size : TypeId → Nat
  bytes : TypeId → Nat
  zero : TypeId → List SV
  eqS : TypeId → Bool

def constSV : Value → SV
  | .bool b => .bool b
  | .int k n => .int k n
  | .string s => .str s
  | .slice none 0 0 => .nil
  | v => .lit v

def evO (t : List SV) : Operand → SV
  | .tmp i => t.getD i .any
  | .const v => constSV v
  | .global g => .lit (.pointer (some ⟨g, 0, none⟩))
  | .func f => .lit (.func (.func f) #[] #[])

def ungd : SV → SV
  | .gd _ x => x
  | x => x

def gdP (g : Bool) : SV → Prop
  | .gd c _ => g = true → c = true
  | _ => True

def setD (t : List SV) : Option Nat → SV → List SV
  | some d, x => t.set d x
  | none, _ => t

/-- The bits of two numbers. -/
def bitsI (op : BinOp) (k : IntKind) (x y : Int) : Int :=
  match op with
  | .and => k.wrap (BitVec.ofInt k.bits x &&& BitVec.ofInt k.bits y).toNat
  | .or => k.wrap (BitVec.ofInt k.bits x ||| BitVec.ofInt k.bits y).toNat
  | .xor => k.wrap (BitVec.ofInt k.bits x ^^^ BitVec.ofInt k.bits y).toNat
  | _ => k.wrap (BitVec.ofInt k.bits x &&& ~~~ BitVec.ofInt k.bits y).toNat

def shlI (k : IntKind) (x y : Int) : Int := k.wrap (x * 2 ^ min y.toNat k.bits)
def shrI (k : IntKind) (x y : Int) : Int := x.fdiv (2 ^ min y.toNat k.bits)
def quoI (k : IntKind) (x y : Int) : Int := k.wrap (x.tdiv y)
def remI (x y : Int) : Int := x.tmod y

def binI (op : BinOp) (k : IntKind) (a : Int) (k' : IntKind) (b : Int) : Option (Prop × SV) :=
  match op with
  | .add => some (k = k', .int k (k.wrap (a + b)))
  | .sub => some (k = k', .int k (k.wrap (a - b)))
  | .mul => some (k = k', .int k (k.wrap (a * b)))
  | .quo => some (k = k' ∧ b ≠ 0, .int k (quoI k a b))
  | .rem => some (k = k' ∧ b ≠ 0, .int k (remI a b))
  | .and => some (k = k', .int k (bitsI .and k a b))
  | .or => some (k = k', .int k (bitsI .or k a b))
  | .xor => some (k = k', .int k (bitsI .xor k a b))
  | .andNot => some (k = k', .int k (bitsI .andNot k a b))
  | .shl => some (0 ≤ b, .int k (shlI k a b))
  | .shr => some (0 ≤ b, .int k (shrI k a b))
  | .eql => some (k = k', .bool (a == b))
  | .neq => some (k = k', .bool (a != b))
  | .lss => some (k = k', .bool (decide (a < b)))
  | .leq => some (k = k', .bool (decide (a ≤ b)))
  | .gtr => some (k = k', .bool (decide (a > b)))
  | .geq => some (k = k', .bool (decide (a ≥ b)))

def binS (op : BinOp) (a b : ByteArray) : Option (Prop × SV) :=
  match op with
  | .eql => some (True, .bool (a.toList == b.toList))
  | .neq => some (True, .bool (!(a.toList == b.toList)))
  | _ => none

def known : TyI → Bool
  | .other => false
  | _ => true

def isB : TyI → Prop
  | .bool => True
  | _ => False
def isI (k : IntKind) : TyI → Prop
  | .int k' => k' = k
  | _ => False

/-- An array of numbers of a length. -/
def isA (T : Tab) (n : Nat) (k : IntKind) : TyI → Prop
  | .array m e => m = n ∧ isI k (T.ty e) ∧ T.size e = 1
  | _ => False

/-- The cell at a place of a variable. -/
def cellAt : List SV → Nat → Option SV
  | [], _ => none
  | .arr k n l :: r, o => if o < n then some (.int k (l.getD o 0)) else cellAt r (o - n)
  | x :: r, o => if o = 0 then some x else cellAt r (o - 1)

/-- The array that begins at a place of a variable. -/
def arrAt : List SV → Nat → Option (IntKind × Nat × List Int)
  | [], _ => none
  | .arr k n l :: r, o => if o = 0 then some (k, n, l) else if n ≤ o then arrAt r (o - n) else none
  | _ :: r, o => if o = 0 then none else arrAt r (o - 1)

/-- A field of two structs, compared. -/
def eq1 (T : Tab) (l m : List SV) (o : Nat) (ft : TypeId) : Option (Prop × Bool) :=
  match T.ty ft with
  | .int _ => match cellAt l o, cellAt m o with
    | some (.int k a), some (.int k' b) => some (k = k', a == b)
    | _, _ => none
  | .bool => match cellAt l o, cellAt m o with
    | some (.bool a), some (.bool b) => some (True, a == b)
    | _, _ => none
  | .string => match cellAt l o, cellAt m o with
    | some (.str a), some (.str b) => some (True, a.toList == b.toList)
    | _, _ => none
  | .array n _ => match arrAt l o, arrAt m o with
    | some (k, n1, a), some (k', n2, b) => some (k = k' ∧ n1 = n ∧ n2 = n ∧ isA T n k (T.ty ft) ∧ T.size ft = n ∧ n ≠ 0, a == b)
    | _, _ => none
  | _ => none

/-- Two structs, compared field by field. -/
def eqF (T : Tab) (l m : List SV) : List (Nat × TypeId) → Option (Prop × Bool)
  | [] => some (True, true)
  | (o, ft) :: fs => match eq1 T l m o ft, eqF T l m fs with
    | some (p, r), some (q, r') => some (p ∧ q, r && r')
    | _, _ => none

def binV (T : Tab) (op : BinOp) (t : TypeId) : SV → SV → Option (Prop × SV)
  | .int k a, .int k' b => binI op k a k' b
  | .str a, .str b => binS op a b
  | .bool a, .bool b =>
    match op with
    | .eql => some (isB (T.ty t), .bool (a == b))
    | .neq => some (isB (T.ty t), .bool (!(a == b)))
    | _ => none
  | .arr k n l, .arr k' n' l' =>
    match op with
    | .eql => some (k = k' ∧ n = n' ∧ isA T n k (T.ty t), .bool (l == l'))
    | .neq => some (k = k' ∧ n = n' ∧ isA T n k (T.ty t), .bool (!(l == l')))
    | _ => none
  | .agg l, .agg m => match T.ty t with
    | .struct fs => match eqF T l m fs with
      | some (p, r) => match op with
        | .eql => some (T.eqS t = true ∧ p, .bool r)
        | .neq => some (T.eqS t = true ∧ p, .bool (!r))
        | _ => none
      | none => none
    | _ => none
  | _, _ => none

def unV (op : UnOp) : SV → Option (Prop × SV)
  | .bool b => match op with | .not => some (True, .bool (!b)) | _ => none
  | .int k n => match op with
    | .neg => some (True, .int k (k.wrap (0 - n)))
    | .xor => some (True, .int k (bitsI .xor k (if k.signed then -1 else k.max) n))
    | _ => none
  | _ => none

def convV (T : Tab) (dst : TypeId) : SV → Option (Prop × SV)
  | .int _ n => match T.ty dst with | .int k => some (True, .int k (k.wrap n)) | _ => none
  | .str s => match T.ty dst with | .string => some (True, .str s) | _ => none
  | _ => none

/-- The field at a place of a struct. -/
def fieldOf (fs : List (Nat × TypeId)) (f : Nat) : Option (Nat × TypeId) := fs[f]?

def blkAt (b : List (Nat × Nat × Blk)) (n g : Nat) : Option Blk :=
  match fnd b n with
  | some (g', x) => if g' = g then some x else none
  | none => none

def isP : TyI → Prop
  | .pointer _ => True
  | _ => False

/-- A pointer, compared with nil. -/
def ptrE (T : Tab) (b : List (Nat × Nat × Blk)) (op : BinOp) (t : TypeId) : SV → SV → Option (Prop × SV)
  | .ptr n g _, .lit (.pointer none) => match blkAt b n g with
    | some _ => match op with
      | .eql => some (isP (T.ty t), .bool false)
      | .neq => some (isP (T.ty t), .bool true)
      | _ => none
    | none => none
  | .lit (.pointer none), .lit (.pointer none) => match op with
    | .eql => some (isP (T.ty t), .bool true)
    | .neq => some (isP (T.ty t), .bool false)
    | _ => none
  | _, _ => none

def faddrV (T : Tab) (b : List (Nat × Nat × Blk)) (t : TypeId) (f : Nat) : SV → Option (Prop × SV)
  | .ptr n g off => match T.ty t with
    | .struct fs => match fieldOf fs f with
      | some (o, ft) => match blkAt b n g with
        | some _ => some (T.size ft ≠ 0, .ptr n g (off + o))
        | none => none
      | none => none
    | _ => none
  | .eptr n g seg e i m => match T.ty t with
    | .struct fs => match fieldOf fs f with
      | some (o, ft) => match blkAt b n g with
        | some _ => some (T.size ft ≠ 0, .ptr n g (seg + i * e + o))
        | none => none
      | none => none
    | _ => none
  | .vptr tag d i j => match T.ty t with
    | .struct fs => match fieldOf fs f with
      | some (o, ft) => some (T.size ft ≠ 0, .vptr tag d i (j + o))
      | none => none
    | _ => none
  | _ => none

def iaddrV (T : Tab) (b : List (Nat × Nat × Blk)) (t : TypeId) : SV → SV → Option (Prop × SV)
  | .ptr n g off, .int _ i => match T.ty t with
    | .array len e => match blkAt b n g with
      | some _ => some (T.size e ≠ 0 ∧ 0 ≤ i ∧ i < len, .eptr n g off (T.size e) i.toNat len)
      | none => none
    | _ => none
  | .sl n g seg e off len, .int _ i => match T.ty t with
    | .slice et => match blkAt b n g with
      | some _ => some (T.size et ≠ 0 ∧ T.size et = e ∧ 0 ≤ i ∧ i < len, .eptr n g seg e (off + i.toNat) (off + len))
      | none => none
    | _ => none
  | .view tag d, .int _ i => match T.ty t with
    | .slice et => some (T.size et ≠ 0 ∧ T.size et = d.esz ∧ 0 ≤ i ∧ i < d.len, .vptr tag d i.toNat 0)
    | _ => none
  | _, _ => none

def indexV (T : Tab) (t : TypeId) : SV → SV → Option (Prop × SV)
  | .arr k n l, .int _ i => match T.ty t with
    | .array m e => some (m = n ∧ T.size e = 1 ∧ isI k (T.ty e) ∧ 0 ≤ i ∧ i < n, .int k (l.getD i.toNat 0))
    | _ => none
  | .str s, .int _ i => match T.ty t with
    | .string => some (0 ≤ i ∧ i < s.size, .int .u8 ((s.data.toList.getD i.toNat 0).toNat : Int))
    | _ => none
  | _, _ => none

def extractV (i : Nat) : SV → Option (Prop × SV)
  | .tup l => match l[i]? with
    | some x => some (True, x)
    | none => none
  | _ => none

/-- The bounds of a cut: low, high, whether there is room known behind. -/
def lowI : Option SV → Option Int
  | none => some 0
  | some (.int _ i) => some i
  | _ => none
def highI (len : Nat) : Option SV → Option Int
  | none => some len
  | some (.int _ i) => some i
  | _ => none
def maxP (h : Int) (hi : Option SV) : Option SV → Prop
  | none => True
  | some (.int _ i) => i = h ∧ hi.isSome = true
  | _ => False

/-- So many cells from the begin. -/
def takeC : List SV → Nat → Option (List SV)
  | _, 0 => some []
  | [], _ + 1 => none
  | .arr k n l :: r, m + 1 => if n ≤ m + 1 then (takeC r (m + 1 - n)).map (.arr k n l :: ·) else none
  | x :: r, m + 1 => (takeC r m).map (x :: ·)

def dropC : List SV → Nat → Option (List SV)
  | l, 0 => some l
  | [], _ + 1 => none
  | .arr _ n _ :: r, m + 1 => if n ≤ m + 1 then dropC r (m + 1 - n) else none
  | _ :: r, m + 1 => dropC r m

def setC : List SV → Nat → SV → Option (List SV)
  | [], _, _ => none
  | .arr k n l :: r, o, x => if o < n then (match x with | .int k' v => if k = k' then some (.arr k n (l.set o v) :: r) else none | _ => none) else (setC r (o - n) x).map (.arr k n l :: ·)
  | y :: r, o, x => if o = 0 then some (x :: r) else (setC r (o - 1) x).map (y :: ·)

/-- The array at a place, another one in its stead. -/
def setA : List SV → Nat → List Int → Option (List SV)
  | [], _, _ => none
  | .arr k n l :: r, o, l' => if o = 0 then some (.arr k n l' :: r) else if n ≤ o then (setA r (o - n) l').map (.arr k n l :: ·) else none
  | y :: r, o, l' => if o = 0 then none else (setA r (o - 1) l').map (y :: ·)

def sliceV (T : Tab) (b : List (Nat × Nat × Blk)) (t : TypeId) (x : SV) (lo hi mx : Option SV) : Option (Prop × SV) :=
  match x with
  | .view tag d => match T.ty t with
    | .slice et => match lowI lo, highI d.len hi with
      | some l, some h => some (T.size et ≠ 0 ∧ T.size et = d.esz ∧ 0 ≤ l ∧ l ≤ h ∧ h ≤ d.len ∧ maxP h hi mx, .view tag (d.sub l.toNat (h - l).toNat))
      | _, _ => none
    | _ => none
  | .sl n g seg e off len => match T.ty t with
    | .slice et => match lowI lo, highI len hi with
      | some l, some h => match blkAt b n g with
        | some _ => some (T.size et ≠ 0 ∧ T.size et = e ∧ 0 ≤ l ∧ l ≤ h ∧ h ≤ len ∧ maxP h hi mx, .sl n g seg e (off + l.toNat) (h - l).toNat)
        | none => none
      | _, _ => none
    | _ => none
  | .nil => match T.ty t with
    | .slice et => match lowI lo, highI 0 hi with
      | some l, some h => some (T.size et ≠ 0 ∧ l = 0 ∧ h = 0 ∧ maxP h hi mx, .nil)
      | _, _ => none
    | _ => none
  | .ptr n g off => match T.ty t with
    | .array len e => match lowI lo, highI len hi with
      | some l, some h => match blkAt b n g with
        | some (.cells cs) => match arrAt cs off with
          | some (_, m, _) => some (T.size e = 1 ∧ m = len ∧ 0 ≤ l ∧ l ≤ h ∧ h ≤ len ∧ maxP h hi mx, .sl n g off 1 l.toNat (h - l).toNat)
          | none => none
        | _ => none
      | _, _ => none
    | _ => none
  | .str s => match T.ty t with
    | .string => match lowI lo, highI s.size hi, mx with
      | some l, some h, none => some (0 ≤ l ∧ l ≤ h ∧ h ≤ s.size, .str (s.extract l.toNat h.toNat))
      | _, _, _ => none
    | _ => none
  | _ => none

def pickV (c : Bool) : SV → SV → Option SV
  | .bool a, .bool b => some (.bool (cond c a b))
  | _, _ => none

/-- An element of data, its cell at a place. -/
def elemV (i j : Nat) : Data → SV
  | .ints k l => .int k (l.getD i 0)
  | .strs l => .str (l.getD i default)
  | .rows t l => .view t (.ints .u8 (l.getD i []))
  | .locks l => match j with | 0 => .int .i64 (l.getD i default).op | 1 => .int .u64 (l.getD i default).at_ | 2 => .int .u64 (l.getD i default).n | _ => .int .u16 (l.getD i default).mode
  | .ents l => match j with | 0 => .str (l.getD i default).name | 1 => .int .u8 (l.getD i default).kind | _ => .int .i64 (l.getD i default).size

/-- Is it a type of one cell? -/
def one : TyI → Bool
  | .int _ | .bool | .string | .slice _ | .pointer _ => true
  | _ => false

/-- A package's table of numbers, loaded. -/
def gloadV (T : Tab) (t : TypeId) : Value → Option (Prop × SV)
  | .pointer (some ad) => match T.ty t, GT ad.block with
    | .array m _, some (k, l) => some (ad.off = 0 ∧ ad.spot = none ∧ l.length = m ∧ T.size t = m ∧ m ≠ 0, .arr k m l)
    | _, _ => none
  | _ => none

def loadV (T : Tab) (b : List (Nat × Nat × Blk)) (t : TypeId) : SV → Option (Prop × SV)
  | .ptr n g off => match blkAt b n g with
    | some (.cells l) =>
      match T.ty t with
      | .struct _ => match (dropC l off).bind (takeC · (T.size t)) with
        | some m => some (T.size t ≠ 0, .agg m)
        | none => none
      | .array m e => match arrAt l off with
        | some (k, m', l') => some (m' = m ∧ T.size t = m ∧ m ≠ 0, .arr k m l')
        | none => none
      | .other => none
      | _ => match cellAt l off with
        | some x => some (True, x)
        | none => none
    | _ => none
  | .eptr n g seg e i m => match blkAt b n g with
    | some (.vec d) => match T.ty t with
      | .array m' _ => match d with
        | .ints k l => some (seg = 0 ∧ e = 1 ∧ T.size t = m' ∧ m' ≠ 0 ∧ i + m' ≤ m ∧ m ≤ l.length, .arr k m' ((l.drop i).take m'))
        | _ => none
      | .struct _ | .other => none
      | _ => some (seg = 0 ∧ e = 1 ∧ d.esz = 1 ∧ m ≤ d.len, elemV i 0 d)
    | some (.cells l) => match T.ty t with
      | .array m' _ => match arrAt l seg with
        | some (k, n', l') => some (e = 1 ∧ T.size t = m' ∧ m' ≠ 0 ∧ i + m' ≤ m ∧ m ≤ n', .arr k m' ((l'.drop i).take m'))
        | none => none
      | .int _ => match arrAt l seg with
        | some (k, n', l') => some (e = 1 ∧ m ≤ n', .int k (l'.getD i 0))
        | none => none
      | .struct _ => match (dropC l (seg + i * e)).bind (takeC · (T.size t)) with
        | some q => some (T.size t ≠ 0, .agg q)
        | none => none
      | .other => none
      | _ => match cellAt l (seg + i * e) with
        | some x => some (True, x)
        | none => none
    | none => none
  | .vptr tag d i j => match T.ty t with
    | .struct _ => match d with
      | .locks l => some (T.size t = 4 ∧ j = 0, .agg [elemV i 0 d, elemV i 1 d, elemV i 2 d, elemV i 3 d])
      | .ents l => some (T.size t = 3 ∧ j = 0, .agg [elemV i 0 d, elemV i 1 d, elemV i 2 d])
      | _ => none
    | .array m e => match d with
      | .ints k l => some (T.size t = m ∧ m ≠ 0 ∧ j = 0 ∧ i + m ≤ l.length, .arr k m ((l.drop i).take m))
      | _ => none
    | .other => none
    | _ => some (j < d.esz, elemV i j d)
  | .lit v => gloadV T t v
  | _ => none

def lenV (T : Tab) (b : List (Nat × Nat × Blk)) (t : TypeId) : SV → Option (Prop × SV)
  | .sl n g _ _ _ len => match T.ty t with
    | .slice _ => match blkAt b n g with
      | some _ => some (True, .int .i64 len)
      | none => none
    | _ => none
  | .view _ d => match T.ty t with
    | .slice _ => some (True, .int .i64 d.len)
    | _ => none
  | .nil => match T.ty t with
    | .slice _ => some (True, .int .i64 0)
    | _ => none
  | .str s => match T.ty t with
    | .string => some (True, .int .i64 s.size)
    | _ => none
  | _ => none

/-- A value that fills one cell, for sure. -/
def scal (b : List (Nat × Nat × Blk)) : SV → Bool
  | .bool _ | .int _ _ | .str _ | .nil | .view _ _ | .vptr _ _ _ _ => true
  | .ptr n g _ | .eptr n g _ _ _ _ | .sl n g _ _ _ _ => (blkAt b n g).isSome
  | _ => false

def cellsOf (b : List (Nat × Nat × Blk)) : SV → Option (List SV)
  | .agg l => some l
  | .arr k n l => some [.arr k n l]
  | x => match scal b x with
    | true => some [x]
    | false => none

/-- Each a cell, or numbers. -/
def okC (b : List (Nat × Nat × Blk)) : List SV → Bool
  | [] => true
  | .arr _ _ _ :: r => okC b r
  | .lit (.pointer none) :: r => okC b r
  | x :: r => scal b x && okC b r

/-- How many cells. -/
def cntC : List SV → Nat
  | [] => 0
  | .arr _ n _ :: r => n + cntC r
  | _ :: r => 1 + cntC r

/-- Cells, some fields written over. -/
def fillC (T : Tab) (b : List (Nat × Nat × Blk)) (fs : List (Nat × TypeId)) : List SV → List (Nat × SV) → Option (Prop × List SV)
  | cs, [] => some (True, cs)
  | cs, (i, x) :: r => match fieldOf fs i with
    | some (o, ft) => match takeC cs o, dropC cs (o + T.size ft), cellsOf b x with
      | some p, some q, some l => match fillC T b fs (p ++ l ++ q) r with
        | some (c, cs') => some (cntC l = T.size ft ∧ c, cs')
        | none => none
      | _, _, _ => none
    | none => none

def intsP (k : IntKind) : Nat → List (Nat × SV) → Option (List Int)
  | _, [] => some []
  | i, (j, .int k' n) :: r => if j = i then if k' = k then (intsP k (i + 1) r).map (n :: ·) else none else none
  | _, _ => none

/-- A struct or an array, built. -/
def buildV (T : Tab) (b : List (Nat × Nat × Blk)) (t : TypeId) (xs : List (Nat × SV)) : Option (Prop × SV) :=
  match T.ty t with
  | .struct fs => match fillC T b fs (T.zero t) xs with
    | some (p, l) => some (T.size t ≠ 0 ∧ (fs.all fun q => T.size q.2 != 0) = true ∧ p, .agg l)
    | none => none
  | .array m e => match T.ty e, T.zero t with
    | .int k, [.arr k' m' l0] => match xs with
      | [] => some (T.size t ≠ 0 ∧ T.size e = 1, .arr k' m' l0)
      | x :: r => match intsP k 0 (x :: r) with
        | some l => some (T.size t ≠ 0 ∧ T.size e = 1 ∧ l.length = m' ∧ k' = k, .arr k m' l)
        | none => none
    | _, _ => none
  | _ => none

/-- A slice of numbers, as a pointer to an array. -/
def arrPV (T : Tab) (b : List (Nat × Nat × Blk)) (t : TypeId) : SV → Option (Prop × SV)
  | .view tag d => match T.ty t with
    | .array m _ => some (m ≠ 0 ∧ m ≤ d.len, .vptr tag d 0 0)
    | _ => none
  | .sl n g seg e off len => match T.ty t with
    | .array m _ => match blkAt b n g with
      | some _ => some (m ≠ 0 ∧ m ≤ len, .eptr n g seg e off (off + len))
      | none => none
    | _ => none
  | _ => none

/-- A field of a struct. -/
def fieldV (T : Tab) (t : TypeId) (f : Nat) : SV → Option (Prop × SV)
  | .agg l => match T.ty t with
    | .struct fs => match fieldOf fs f with
      | some (o, ft) => match T.ty ft with
        | .struct _ => match (dropC l o).bind (takeC · (T.size ft)) with
          | some m => some (T.size ft ≠ 0, .agg m)
          | none => none
        | .array n _ => match arrAt l o with
          | some (k, n', l') => some (n' = n ∧ T.size ft = n ∧ n ≠ 0, .arr k n l')
          | none => none
        | .other => none
        | _ => match cellAt l o with
          | some x => some (T.size ft = 1, x)
          | none => none
      | none => none
    | _ => none
  | _ => none

/-- No tuple, no closure. -/
def flatB : SV → Bool
  | .tup _ | .clo _ _ _ => false
  | _ => true

/-- An operation that leaves memory as it is. -/
def pureOp (T : Tab) (s : St) (ρ : Operand → SV) : Op → Option (Prop × SV)
  | .move x => some (True, ρ x)
  | .assign x => some (True, ρ x)
  | .binOp op t x y _ => match ptrE T s.b op t (ρ x) (ρ y) with
    | some r => some r
    | none => binV T op t (ρ x) (ρ y)
  | .unOp op _ x => unV op (ρ x)
  | .convert src dst x => match convV T dst (ρ x) with
    | some (p, v) => some (known (T.ty src) = true ∧ p, v)
    | none => none
  | .nilCheck x => match ρ x with
    | .ptr n g off => match blkAt s.b n g with
      | some _ => some (True, .ptr n g off)
      | none => none
    | _ => none
  | .fieldAddr t x f => faddrV T s.b t f (ρ x)
  | .indexAddr t x i => iaddrV T s.b t (ρ x) (ρ i)
  | .index t x i => indexV T t (ρ x) (ρ i)
  | .extract x i => extractV i (ρ x)
  | .slice t x lo hi mx => sliceV T s.b t (ρ x) (lo.map ρ) (hi.map ρ) (mx.map ρ)
  | .load t a => loadV T s.b t (ρ a)
  | .build t parts => buildV T s.b t (parts.toList.map fun q => (q.1, ρ q.2))
  | .sliceToArrayPointer t x => arrPV T s.b t (ρ x)
  | .field t x f => fieldV T t f (ρ x)
  | .makeFunc f first cap => match (first.toList.map ρ).all flatB && (cap.toList.map ρ).all flatB with
    | true => some (True, .clo f (first.toList.map ρ) (cap.toList.map ρ))
    | false => none
  | .call { callee := .builtin .len, args := as, argTypes := ts } => match ts.toList, as.toList with
    | [t], [x] => lenV T s.b t (ρ x)
    | _, _ => none
  | _ => none

def capV (T : Tab) (b : List (Nat × Nat × Blk)) (t : TypeId) : SV → Option (Prop × SV)
  | .slc n g _ _ cap => match T.ty t with
    | .slice _ => match blkAt b n g with
      | some _ => some (True, .int .i64 cap)
      | none => none
    | _ => none
  | _ => none

/-- A cut of a slice whose capacity is known. -/
def sliceC (T : Tab) (b : List (Nat × Nat × Blk)) (t : TypeId) (n g e len cap : Nat) (lo hi mx : Option SV) : Option (Prop × SV) :=
  match T.ty t, mx with
  | .slice et, none => match lowI lo, highI len hi with
    | some l, some h => match blkAt b n g with
      | some _ => some (T.size et ≠ 0 ∧ T.size et = e ∧ l = 0 ∧ 0 ≤ h ∧ h ≤ cap, .slc n g e h.toNat cap)
      | none => none
    | _, _ => none
  | _, _ => none

/-- As pureOp; capacities are heeded. -/
def pureOpC (T : Tab) (s : St) (ρ : Operand → SV) (op : Op) : Option (Prop × SV) :=
  match op with
  | .move x => some (True, ρ x)
  | .assign x => some (True, ρ x)
  | .slice t x lo hi mx => match ρ x with
    | .slc n g e len cap => match lo with
      | none => sliceC T s.b t n g e len cap (lo.map ρ) (hi.map ρ) (mx.map ρ)
      | some _ => pureOp T s (fun x => unc (ρ x)) (.slice t x lo hi mx)
    | _ => pureOp T s (fun x => unc (ρ x)) (.slice t x lo hi mx)
  | .call { callee := .builtin .cap, args := as, argTypes := ts } => match ts.toList, as.toList with
    | [t], [x] => capV T s.b t (ρ x)
    | _, _ => none
  | op => pureOp T s (fun x => unc (ρ x)) op

/-- The guard of an operation, as it was answered. -/
def guardOf (ops : Array Oper) (t : List SV) (j : Nat) (want : Bool) : Option Bool :=
  match ((ops[j]?).bind (·.dst)) with
  | some d => match t.getD d .any with
    | .bool b => some (match want with | true => b | false => !b)
    | .gd c (.bool b) => some (c && (match want with | true => b | false => !b))
    | _ => none
  | none => none

/-- What an operation's operands ask, under its guard. -/
def gdPs (t : List SV) (g : Bool) : List Operand → Prop
  | [] => True
  | x :: l => gdP g (evO t x) ∧ gdPs t g l

/-- Data that a value holds. -/
def rowOf (b : List (Nat × Nat × Blk)) : SV → Option (Bool × List Int)
  | .view t (.ints .u8 l) => some (t, l)
  | .nil => some (true, [])
  | _ => none

def rowsOf (b : List (Nat × Nat × Blk)) : List SV → Option (Bool × List (List Int))
  | [] => some (true, [])
  | x :: r => match rowOf b x, rowsOf b r with
    | some (t, l), some (t', m) => some (t && t', l :: m)
    | _, _ => none

def intsOf (k : IntKind) : List SV → Option (List Int)
  | [] => some []
  | .int k' n :: r => if k' = k then (intsOf k r).map (n :: ·) else none
  | _ => none

def strsOf : List SV → Option (List ByteArray)
  | [] => some []
  | .str s :: r => (strsOf r).map (s :: ·)
  | _ => none

def nilD (T : Tab) (e : TypeId) : Option Data :=
  match T.ty e with
  | .int k => some (.ints k [])
  | .string => some (.strs [])
  | .slice _ => some (.rows true [])
  | _ => none

def byteI (x : UInt8) : Int := (x.toNat : Int)

def dataOf (T : Tab) (e : TypeId) (b : List (Nat × Nat × Blk)) : SV → Option (Prop × Data)
  | .view _ d => some (True, d)
  | .nil => match nilD T e with
    | some d => some (True, d)
    | none => none
  | .str s => some (True, .ints .u8 (s.data.toList.map byteI))
  | .sl n g seg e' off len => match blkAt b n g with
    | some (.vec d) => some (seg = 0 ∧ e' = d.esz ∧ off + len ≤ d.len, d.sub off len)
    | some (.cells l) => match arrAt l seg with
      | some (k, n', l') => some (e' = 1 ∧ off + len ≤ n', .ints k ((l'.drop off).take len))
      | none => none
    | none => none
  | _ => none

def appD : Data → Data → Option Data
  | .ints k l, .ints k' m => if k' = k then some (.ints k (l ++ m)) else none
  | .strs l, .strs m => some (.strs (l ++ m))
  | .rows t l, .rows t' m => some (.rows (t && t') (l ++ m))
  | .locks l, .locks m => some (.locks (l ++ m))
  | .ents l, .ents m => some (.ents (l ++ m))
  | _, _ => none

/-- Numbers, some of them written over. -/
def overI (l : List Int) (off len : Nat) (m : List Int) : List Int := l.take off ++ m.take (min m.length len) ++ l.drop (off + min m.length len)

inductive Res where
  | go (p : Prop) (s : St)
  | stop

def notIn : List Nat → Nat → Prop
  | [], _ => True
  | m :: l, n => if n = m then False else notIn l n

/-- A new block, which bears the name of the slot. -/
def newV (s : St) (dst : Option Nat) (p : Prop) (x : Blk) (v : Nat → SV) : Res :=
  match dst with
  | some d => .go (notIn s.c.d (s.c.o + d) ∧ p) ⟨s.t.set d (v (s.c.o + d)), upd s.b (s.c.o + d) s.c.c x, s.c.add (s.c.o + d)⟩
  | none => .stop

/-- A block goes over to another name (or keeps its own), with another content. -/
def mv (b : List (Nat × Nat × Blk)) (n m g : Nat) (x : Blk) : List (Nat × Nat × Blk) := upd (del b n) m g x

def isStr : TyI → Prop
  | .string => True
  | _ => False

/-- What may be appended of. -/
def isSrc : TyI → Bool
  | .slice _ | .string => true
  | _ => false

def elemsOf (ρ : Operand → SV) : Nat → List (Nat × Operand) → Option (List SV)
  | _, [] => some []
  | i, (j, x) :: r => if j = i then (elemsOf ρ (i + 1) r).map (ρ x :: ·) else none

/-- Structs, one behind the other. -/
def aggsOf (b : List (Nat × Nat × Blk)) (sz : Nat) : List SV → Option (List SV)
  | [] => some []
  | .agg l :: r => if cntC l = sz then (aggsOf b sz r).map (l ++ ·) else none
  | _ => none

def zI (k : IntKind) : List SV → Prop
  | [.int k' n] => k' = k ∧ n = 0
  | _ => False

/-- Do new places of a row hold numbers, where numbers are told? -/
def fitT (T : Tab) (e : TypeId) : Data → Prop
  | .ints k _ => zI k (T.zero e)
  | _ => True

/-- An operation that makes or writes memory. -/
def memOp (T : Tab) (s : St) (dst : Option Nat) (ρ : Operand → SV) : Op → Res
  | .alloc e => newV s dst (T.size e ≠ 0) (.cells (T.zero e)) fun d => .ptr d s.c.c 0
  | .box e x => match cellsOf s.b (ρ x) with
    | some l => newV s dst True (.cells l) fun d => .ptr d s.c.c 0
    | none => .stop
  | .buildSlice t len parts => match T.ty t with
    | .slice e => match elemsOf ρ 0 parts.toList with
      | some xs => match T.ty e with
        | .int k => match intsOf k xs with
          | some l => newV s dst (xs.length = len ∧ T.size e = 1 ∧ len ≤ 16777216) (.vec (.ints k l)) fun d => .sl d s.c.c 0 1 0 len
          | none => .stop
        | .string => match strsOf xs with
          | some l => newV s dst (xs.length = len ∧ T.size e = 1 ∧ len ≤ 16777216) (.vec (.strs l)) fun d => .sl d s.c.c 0 1 0 len
          | none => .stop
        | .slice _ => match rowsOf s.b xs with
          | some (t, l) => newV s dst (xs.length = len ∧ T.size e = 1 ∧ len ≤ 16777216) (.vec (.rows t l)) fun d => .sl d s.c.c 0 1 0 len
          | none => match xs.all (scal s.b) with
            | true => newV s dst (xs.length = len ∧ T.size e = 1 ∧ len ≤ 16777216) (.cells xs) fun d => .sl d s.c.c 0 1 0 len
            | false => .stop
        | .struct _ => match aggsOf s.b (T.size e) xs with
          | some l => newV s dst (xs.length = len ∧ T.size e ≠ 0 ∧ len * T.size e ≤ 16777216) (.cells l) fun d => .sl d s.c.c 0 (T.size e) 0 len
          | none => .stop
        | _ => .stop
      | none => .stop
    | _ => .stop
  | .makeSlice t len cap => match T.ty t, ρ len, ρ cap with
    | .slice e, .int _ n, .int _ m => match T.ty e with
      | .int k => newV s dst (T.size e = 1 ∧ zI k (T.zero e) ∧ n = m ∧ 0 ≤ n ∧ n * T.bytes e ≤ 281474976710656 ∧ n ≤ 4611686018427387904) (.vec (.ints k (List.replicate n.toNat 0))) fun d => .slc d s.c.c 1 n.toNat n.toNat
      | _ => .stop
    | _, _, _ => .stop
  | .store t a x => match ρ a with
    | .ptr n g off => match blkAt s.b n g with
      | some (.cells l) => match T.ty t with
        | .struct _ => match ρ x with
          | .agg m => match okC s.b m, takeC l off, dropC l (off + T.size t) with
            | true, some p, some q => .go (cntC m = T.size t ∧ T.size t ≠ 0) ⟨setD s.t dst .any, upd s.b n g (.cells (p ++ m ++ q)), s.c⟩
            | _, _, _ => .stop
          | _ => .stop
        | .array m e => match ρ x, arrAt l off with
          | .arr k m' l', some (k', n', _) => match setA l off l' with
            | some l2 => .go (k = k' ∧ m' = n' ∧ T.size t = n' ∧ n' ≠ 0) ⟨setD s.t dst .any, upd s.b n g (.cells l2), s.c⟩
            | none => .stop
          | _, _ => .stop
        | .other => .stop
        | _ => match scal s.b (ρ x), setC l off (ρ x) with
          | true, some l2 => .go (T.size t = 1) ⟨setD s.t dst .any, upd s.b n g (.cells l2), s.c⟩
          | _, _ => .stop
      | _ => .stop
    | .eptr n g seg e i m => match blkAt s.b n g, ρ x, T.ty t with
      | some (.vec (.ints k l)), .int k' v, .int _ => .go (seg = 0 ∧ e = 1 ∧ k' = k ∧ m ≤ l.length ∧ T.size t = 1) ⟨setD s.t dst .any, upd s.b n g (.vec (.ints k (l.set i v))), s.c⟩
      | some (.cells l), .int k' v, .int _ => match arrAt l seg with
        | some (k, n', l') => match setA l seg (l'.set i v) with
          | some l2 => .go (e = 1 ∧ k' = k ∧ m ≤ n' ∧ T.size t = 1) ⟨setD s.t dst .any, upd s.b n g (.cells l2), s.c⟩
          | none => .stop
        | none => .stop
      | _, _, _ => .stop
    | _ => .stop
  | .convert src dst' x => match ρ x, T.ty dst' with
    | .str str, .slice e => match T.ty e with
      | .int .u8 => newV s dst (isStr (T.ty src) ∧ str.size ≤ 4611686018427387904) (.vec (.ints .u8 (str.data.toList.map byteI))) fun d => .sl d s.c.c 0 1 0 str.size
      | _ => .stop
    | .sl n g seg e' off len, .slice e => match T.ty e with
      | .int .u8 => match blkAt s.b n g with
        | some (.vec d) => .go (src = dst' ∧ len ≠ 0) ⟨setD s.t dst (.sl n g seg e' off len), upd s.b n g (.vec d), s.c⟩
        | _ => .stop
      | _ => .stop
    | _, _ => .stop
  | .call { callee := .builtin .append, args := as, argTypes := ts } => match ts.toList, as.toList, dst with
    | [t, t2], [x, y], some d => match T.ty t with
      | .slice e => match isSrc (T.ty t2), dataOf T e s.b (ρ y) with
        | true, some (pd, dy) => match ρ x with
          | .nil => .go (pd ∧ notIn s.c.d (s.c.o + d) ∧ fitT T e dy ∧ T.size e = dy.esz ∧ dy.len * T.bytes e ≤ 140737488355328 ∧ dy.len ≤ 4611686018427387904) ⟨s.t.set d (.sl (s.c.o + d) s.c.c 0 dy.esz 0 dy.len), upd s.b (s.c.o + d) s.c.c (.vec dy), s.c.add (s.c.o + d)⟩
          | .sl n g seg e' off len => match blkAt s.b n g with
            | some (.vec dx) => match appD dx dy with
              | some dz => .go (pd ∧ notIn s.c.d (s.c.o + d) ∧ fitT T e dz ∧ T.size e = dx.esz ∧ seg = 0 ∧ e' = dx.esz ∧ off = 0 ∧ len = dx.len ∧ (len + dy.len) * T.bytes e ≤ 140737488355328 ∧ len + dy.len ≤ 4611686018427387904) ⟨s.t.set d (.sl (s.c.o + d) s.c.c 0 dx.esz 0 dz.len), mv s.b n (s.c.o + d) s.c.c (.vec dz), s.c.add (s.c.o + d)⟩
              | none => .stop
            | _ => .stop
          | _ => .stop
        | _, _ => .stop
      | _ => .stop
    | _, _, _ => .stop
  | .call { callee := .builtin .copy, args := as, argTypes := ts } => match ts.toList, as.toList with
    | [t, _], [x, y] => match T.ty t, ρ x with
      | .slice e, .sl n g seg e' off len => match dataOf T e s.b (ρ y) with
        | some (pd, .ints k m) => match blkAt s.b n g with
          | some (.vec (.ints k' l)) => .go (pd ∧ T.size e = 1 ∧ k = k' ∧ seg = 0 ∧ e' = 1 ∧ off + len ≤ l.length) ⟨setD s.t dst (.int .i64 (min m.length len : Nat)), upd s.b n g (.vec (.ints k (overI l off len m))), s.c⟩
          | some (.cells l) => match arrAt l seg with
            | some (k', n', l') => match setA l seg (overI l' off len m) with
              | some l2 => .go (pd ∧ T.size e = 1 ∧ k = k' ∧ e' = 1 ∧ off + len ≤ n') ⟨setD s.t dst (.int .i64 (min m.length len : Nat)), upd s.b n g (.cells l2), s.c⟩
              | none => .stop
            | none => .stop
          | _ => .stop
        | _ => .stop
      | _, _ => .stop
    | _, _ => .stop
  | _ => .stop

/-- One operation. -/
def absOp (T : Tab) (ops : Array Oper) (s : St) (o : Oper) : Res :=
  match o.guard with
  | none => match o.op with
    | .pick c a b => match evO s.t c with
      | .bool c => match pickV c (ungd (evO s.t a)) (ungd (evO s.t b)) with
        | some v => .go (gdP c (evO s.t a) ∧ gdP (!c) (evO s.t b)) { s with t := setD s.t o.dst v }
        | none => .stop
      | _ => .stop
    | op => match pureOpC T s (fun x => ungd (evO s.t x)) op with
      | some (p, v) => .go (gdPs s.t true op.operands.toList ∧ p) { s with t := setD s.t o.dst v }
      | none => match memOp T s o.dst (fun x => unc (ungd (evO s.t x))) op with
        | .go p s' => .go (gdPs s.t true op.operands.toList ∧ p) s'
        | .stop => .stop
  | some (j, want) => match guardOf ops s.t j want with
    | some g => match o.op with
      | .pick c a b => match ungd (evO s.t c) with
        | .bool c' => match pickV c' (ungd (evO s.t a)) (ungd (evO s.t b)) with
          | some v => .go (gdP g (evO s.t c) ∧ gdP (g && c') (evO s.t a) ∧ gdP (g && !c') (evO s.t b)) { s with t := setD s.t o.dst (.gd g v) }
          | none => .stop
        | _ => .stop
      | op => match pureOpC T s (fun x => ungd (evO s.t x)) op with
        | some (p, v) => .go (gdPs s.t g op.operands.toList ∧ (g = true → p)) { s with t := setD s.t o.dst (.gd g v) }
        | none => .stop
    | none => .stop

/-- What a function comes to from the middle of a region on. -/
def HOps (P : Program) (X : Ctx) (ops : Array Oper) (rest : List Oper) (k : List Item) (s : St) (Φ : St → Prop) : Prop :=
  ∀ i, ops.toList.drop i = rest → HRun P X (.inRegion ops (List.range' i rest.length) :: k) s Φ

/-- The run, told step by step: as far as this goes by itself. -/
def absOps (P : Program) (X : Ctx) (T : Tab) (ops : Array Oper) (k : List Item) (Φ : St → Prop) (next : St → Prop) : List Oper → St → Prop
  | [], s => next s
  | o :: rest, s => match absOp T ops s o with
    | .go p s' => p ∧ absOps P X T ops k Φ next rest s'
    | .stop => HOps P X ops (o :: rest) k s Φ

def absRun (P : Program) (X : Ctx) (T : Tab) (Φ : St → Prop) : Nat → List Item → St → Prop
  | 0, todo, s => HRun P X todo s Φ
  | n + 1, todo, s => match todo with
    | [] => Φ s
    | .code .ret :: _ => Φ s
    | .code .skip :: k => absRun P X T Φ n k s
    | .inBlock _ :: k => absRun P X T Φ n k s
    | .code (.seq a b) :: k => absRun P X T Φ n (.code a :: .code b :: k) s
    | .code (.block id c) :: k => absRun P X T Φ n (.code c :: .inBlock id :: k) s
    | .code (.exit id) :: k => match exitTo id k with
      | some k' => absRun P X T Φ n k' s
      | none => HRun P X (.code (.exit id) :: k) s Φ
    | .code (.cond c x y) :: k => match evO s.t c with
      | .bool b => if b = true then absRun P X T Φ n (.code x :: k) s else absRun P X T Φ n (.code y :: k) s
      | _ => HRun P X (.code (.cond c x y) :: k) s Φ
    | .code (.region id ops false) :: k => absOps P X T ops k Φ (absRun P X T Φ n k) ops.toList ⟨s.t, s.b, ⟨s.c.c + 1, [], s.c.o⟩⟩
    | todo => HRun P X todo s Φ

end Go.Proofs.Ytbnjdnahpnjofaa.Abs
