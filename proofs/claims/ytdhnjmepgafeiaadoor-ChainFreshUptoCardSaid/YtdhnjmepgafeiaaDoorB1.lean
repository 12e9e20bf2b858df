/- OWN LIBRARY, parts 0 to 4. -/
import Derived.Test.YtdhnjmepgafeiaaDoorG
import Derived.Calls
import Derived.Below
import Derived.WalkKit
import Derived.Laws.StructEq
import Derived.Laws.Slices
import Derived.Laws.Entries
/- OWN LIBRARY, part 0: states in which memory is told by values (lists), and what it is for a machine's state to be told so. -/
namespace Go.Proofs.YtdhnjmepgafeiaaDoor.Abs
open Go

/-- An element of a list of locks (api.Lock). -/
structure LockR where
  op : Int
  at_ : Int
  n : Int
  mode : Int
  deriving Inhabited

/-- An entry of a directory (api.Entry). -/
structure EntR where
  name : ByteArray
  kind : Int
  size : Int
  deriving Inhabited

/-- What a slice holds, by value. -/
inductive Data where
  | ints (k : IntKind) (l : List Int)
  | strs (l : List ByteArray)
  | rows (tag : Bool) (l : List (List Int))
  | locks (l : List LockR)
  | ents (l : List EntR)

def Data.len : Data → Nat
  | .ints _ l => l.length
  | .strs l => l.length
  | .rows _ l => l.length
  | .locks l => l.length
  | .ents l => l.length

def Data.esz : Data → Nat
  | .ints _ _ => 1
  | .strs _ => 1
  | .rows _ _ => 1
  | .locks _ => 4
  | .ents _ => 3

def Data.sub (o n : Nat) : Data → Data
  | .ints k l => .ints k ((l.drop o).take n)
  | .strs l => .strs ((l.drop o).take n)
  | .rows t l => .rows t ((l.drop o).take n)
  | .locks l => .locks ((l.drop o).take n)
  | .ents l => .ents ((l.drop o).take n)

/-- A value, told. -/
inductive SV where
  | any
  | bool (b : Bool)
  | int (k : IntKind) (n : Int)
  | str (s : ByteArray)
  | lit (v : Value)
  | nil
  | ptr (n g off : Nat)
  | eptr (n g seg e i m : Nat)
  | vptr (tag : Bool) (d : Data) (i j : Nat)
  | sl (n g seg e off len : Nat)
  | slc (n g e len cap : Nat)
  | view (tag : Bool) (d : Data)
  | arr (k : IntKind) (n : Nat) (l : List Int)
  | agg (l : List SV)
  | tup (l : List SV)
  | clo (fn : Fn) (first cap : List SV)
  | gd (c : Bool) (x : SV)

/-- What a block holds: the room of a slice; the cells of a variable. -/
inductive Blk where
  | vec (d : Data)
  | cells (l : List SV)
  | iter (s : ByteArray) (pos : Nat)

def fnd : List (Nat × Nat × Blk) → Nat → Option (Nat × Blk)
  | [], _ => none
  | (m, g, b) :: l, n => if n = m then some (g, b) else fnd l n

def upd : List (Nat × Nat × Blk) → Nat → Nat → Blk → List (Nat × Nat × Blk)
  | [], n, g, b => [(n, g, b)]
  | (m, g', b') :: l, n, g, b => if n = m then (m, g, b) :: l else (m, g', b') :: upd l n g b

theorem fnd_upd (l : List (Nat × Nat × Blk)) (n g : Nat) (b : Blk) (m : Nat) : fnd (upd l n g b) m = if m = n then some (g, b) else fnd l m := by
  induction l with
  | nil => simp [fnd, upd]
  | cons x l ih =>
    obtain ⟨k, g', b'⟩ := x
    by_cases h : n = k
    · subst h; simp only [upd, if_pos, fnd]; split <;> rfl
    · simp only [upd, if_neg h, fnd, ih]
      by_cases h2 : m = k
      · subst h2; simp [Ne.symm h]
      · simp [h2]

def del : List (Nat × Nat × Blk) → Nat → List (Nat × Nat × Blk)
  | [], _ => []
  | (m, g, b) :: l, n => if n = m then del l n else (m, g, b) :: del l n

theorem fnd_del (l : List (Nat × Nat × Blk)) (n m : Nat) : fnd (del l n) m = if m = n then none else fnd l m := by
  induction l with
  | nil => simp [fnd, del]
  | cons x l ih =>
    obtain ⟨k, g, b⟩ := x
    by_cases h : n = k
    · subst h
      simp only [del, if_true, ih, fnd]
      split <;> rfl
    · simp only [del, if_neg h, fnd, ih]
      by_cases h2 : m = k
      · subst h2; simp [Ne.symm h]
      · simp [h2]

/-- Which marks have been given: all below one, and this one to some names; from where on the names of slots are counted. -/
structure Lim where
  c : Nat
  d : List Nat
  o : Nat

def Lim.ok (l : Lim) (n g : Nat) : Prop := g < l.c ∨ (g = l.c ∧ n ∈ l.d)

/-- One name more. -/
def Lim.add (l : Lim) (n : Nat) : Lim := ⟨l.c, n :: l.d, l.o⟩

theorem Lim.ok_add {l : Lim} {n m g : Nat} (h : l.ok m g) : (l.add n).ok m g := h.imp id fun ⟨a, b⟩ => ⟨a, List.mem_cons_of_mem _ b⟩

theorem Lim.ok_new (l : Lim) (n : Nat) : (l.add n).ok n l.c := .inr ⟨rfl, List.mem_cons_self⟩

theorem Lim.not_new {l : Lim} {n : Nat} (h : n ∉ l.d) : ¬ l.ok n l.c := by
  rintro (h1 | ⟨_, h1⟩)
  · omega
  · exact h h1

structure St where
  t : List SV
  b : List (Nat × Nat × Blk)
  c : Lim

/-- The world in which a call began; which blocks it may write; which ones it may only read. -/
structure Ctx where
  w0 : World
  mt : Nat → Prop
  ro : Nat → Prop

abbrev Env := Nat → Option Nat

def Named (b : List (Nat × Nat × Blk)) (σ : Env) (B : Nat) : Prop := ∃ n x, fnd b n = some x ∧ σ n = some B

/-- The blocks that may be seen by value. -/
def Vw (X : Ctx) (b : List (Nat × Nat × Blk)) (σ : Env) (w : World) (tag : Bool) (B : Nat) : Prop :=
  B < w.heap.size ∧ ((tag = false ∧ X.ro B) ∨ ((X.mt B ∨ X.w0.heap.size ≤ B) ∧ ¬ Named b σ B))

/-- A slice of bytes, by value. -/
def IsRow (vw : Nat → Prop) (w : World) (l : List Int) (v : Value) : Prop :=
  ∃ a cap, v = .slice a l.length cap ∧ l.length ≤ cap ∧
    (l.length ≠ 0 → ∃ B o, a = some ⟨B, o, none⟩ ∧ vw B ∧ ∀ i, i < l.length → w.cell? ⟨B, o + i, none⟩ = some (.int .u8 (l.getD i 0)))

def CellOk (vw : Bool → Nat → Prop) (w : World) (i j : Nat) : Data → Value → Prop
  | .ints k l, v => v = .int k (l.getD i 0)
  | .strs l, v => v = .string (l.getD i default)
  | .rows t l, v => IsRow (vw t) w (l.getD i []) v
  | .locks l, v => v = match j with | 0 => .int .i64 (l.getD i default).op | 1 => .int .u64 (l.getD i default).at_ | 2 => .int .u64 (l.getD i default).n | _ => .int .u16 (l.getD i default).mode
  | .ents l, v => v = match j with | 0 => .string (l.getD i default).name | 1 => .int .u8 (l.getD i default).kind | _ => .int .i64 (l.getD i default).size

/-- The cells from a place on hold data. -/
def Holds (vw : Bool → Nat → Prop) (w : World) (B o : Nat) (d : Data) : Prop :=
  ∀ i j, i < d.len → j < d.esz → ∃ x, w.cell? ⟨B, o + i * d.esz + j, none⟩ = some x ∧ CellOk vw w i j d x

def IsView (vw : Bool → Nat → Prop) (w : World) (tag : Bool) (d : Data) (v : Value) : Prop :=
  ∃ a cap, v = .slice a d.len cap ∧ d.len ≤ cap ∧ (d.len ≠ 0 → ∃ B o, a = some ⟨B, o, none⟩ ∧ vw tag B ∧ Holds vw w B o d)

def blockSize (w : World) (B : Nat) : Nat := match w.heap[B]? with | some (.cells c _ _) => c.size | _ => 0

def Live (b : List (Nat × Nat × Blk)) (n g : Nat) : Prop := ∃ x, fnd b n = some (g, x)

/-- A value that is one cell. -/
def V0 (X : Ctx) (b : List (Nat × Nat × Blk)) (c : Lim) (σ : Env) (w : World) : SV → Value → Prop
  | .any, _ => True
  | .bool b, v => v = .bool b
  | .int k n, v => v = .int k n
  | .str x, v => v = .string x
  | .lit x, v => v = x
  | .nil, v => v = .slice none 0 0
  | .ptr n g off, v => c.ok n g ∧ (Live b n g → ∃ B, σ n = some B ∧ v = .pointer (some ⟨B, off, none⟩))
  | .eptr n g seg e i m, v => i < m ∧ c.ok n g ∧ (Live b n g → ∃ B, σ n = some B ∧ v = .pointer (some ⟨B, seg + i * e, none⟩))
  | .vptr tag d i j, v => i < d.len ∧ ∃ B o, v = .pointer (some ⟨B, o + i * d.esz + j, none⟩) ∧ Vw X b σ w tag B ∧ Holds (Vw X b σ w) w B o d
  | .sl n g seg e off len, v => c.ok n g ∧ (Live b n g → ∃ a cap, v = .slice a len cap ∧ len ≤ cap ∧
      (cap ≠ 0 → ∃ B, σ n = some B ∧ a = some ⟨B, seg + off * e, none⟩ ∧ seg + (off + cap) * e ≤ blockSize w B))
  | .slc n g e len cap, v => c.ok n g ∧ (Live b n g → ∃ a, v = .slice a len cap ∧ len ≤ cap ∧
      (cap ≠ 0 → ∃ B, σ n = some B ∧ a = some ⟨B, 0, none⟩ ∧ cap * e ≤ blockSize w B))
  | .view tag d, v => IsView (Vw X b σ w) w tag d v
  | _, _ => False

/-- Cells, one behind the other. -/
def CellsOk (X : Ctx) (b : List (Nat × Nat × Blk)) (c : Lim) (σ : Env) (w : World) : List SV → List Value → Prop
  | [], cs => cs = []
  | .arr k n l :: r, cs => l.length = n ∧ ∃ cs', cs = l.map (.int k) ++ cs' ∧ CellsOk X b c σ w r cs'
  | x :: r, cs => ∃ v cs', cs = v :: cs' ∧ V0 X b c σ w x v ∧ CellsOk X b c σ w r cs'

/-- A value that is no tuple, closure. -/
def V1 (X : Ctx) (b : List (Nat × Nat × Blk)) (c : Lim) (σ : Env) (w : World) : SV → Value → Prop
  | .agg l, v => ∃ cs, v = .agg cs ∧ CellsOk X b c σ w l cs.toList
  | .arr k n l, v => v = .agg (l.map (.int k)).toArray ∧ l.length = n
  | x, v => V0 X b c σ w x v

def All1 (X : Ctx) (b : List (Nat × Nat × Blk)) (c : Lim) (σ : Env) (w : World) : List SV → List Value → Prop
  | [], vs => vs = []
  | x :: r, vs => ∃ v vs', vs = v :: vs' ∧ V1 X b c σ w x v ∧ All1 X b c σ w r vs'

def V2 (X : Ctx) (b : List (Nat × Nat × Blk)) (c : Lim) (σ : Env) (w : World) : SV → Value → Prop
  | .tup l, v => ∃ vs, v = .tuple vs ∧ All1 X b c σ w l vs.toList
  | .clo f l m, v => ∃ vs us, v = .func f vs us ∧ All1 X b c σ w l vs.toList ∧ All1 X b c σ w m us.toList
  | x, v => V1 X b c σ w x v

/-- A value. -/
def V (X : Ctx) (b : List (Nat × Nat × Blk)) (c : Lim) (σ : Env) (w : World) : SV → Value → Prop
  | .gd g x, v => (g = true → V2 X b c σ w x v) ∧ (g = false → v = .tuple #[])
  | x, v => V2 X b c σ w x v

def Free (fr : Nat × Nat) (size : Nat) : Prop := fr.1 = fr.2 ∨ size ≤ fr.1

theorem Free.out {fr : Nat × Nat} {size : Nat} (h : Free fr size) : ∀ o, o < size → ¬ (fr.1 ≤ o ∧ o < fr.2) := by
  intro o ho
  rcases h with h | h <;> omega

/-- Numbers' cells hold numbers, the room behind them, too. -/
def Fit : Data → Array Value → Prop
  | .ints k _, cs => (∀ i, i < cs.size → ∃ z, cs[i]? = some (.int k z)) ∧ cs.size < 9223372036854775808
  | _, _ => True

def BlkOk (X : Ctx) (b : List (Nat × Nat × Blk)) (c : Lim) (σ : Env) (w : World) (n : Nat) : Blk → Prop
  | .vec d => (σ n = none ∧ d.len = 0) ∨ ∃ B cs t fr, σ n = some B ∧ w.heap[B]? = some (.cells cs t fr) ∧ Free fr cs.size ∧ d.len * d.esz ≤ cs.size ∧ Holds (Vw X b σ w) w B 0 d ∧ Fit d cs
  | .cells l => ∃ B cs t fr, σ n = some B ∧ w.heap[B]? = some (.cells cs t fr) ∧ Free fr cs.size ∧ CellsOk X b c σ w l cs.toList
  | .iter x p => ∃ B, σ n = some B ∧ w.heap[B]? = some (.stringIter x p)

structure R (X : Ctx) (s : St) (σ : Env) (w : World) (a : Act) : Prop where
  sz : a.tmps.size = s.t.length
  tm : ∀ i, i < s.t.length → V X s.b s.c σ w (s.t.getD i .any) (a.tmps.getD i undef)
  df : a.defers = []
  bl : ∀ n g x, fnd s.b n = some (g, x) → s.c.ok n g ∧ BlkOk X s.b s.c σ w n x ∧ (∀ B, σ n = some B → B < w.heap.size ∧ (X.mt B ∨ X.w0.heap.size ≤ B))
  inj : ∀ n m x y B, fnd s.b n = some x → fnd s.b m = some y → σ n = some B → σ m = some B → n = m
  fr : X.w0.heap.size ≤ w.heap.size ∧ ∀ B, B < X.w0.heap.size → ¬ X.mt B → w.heap[B]? = X.w0.heap[B]?
  st : w.os = X.w0.os ∧ w.tape = X.w0.tape ∧ w.output = X.w0.output
  ro : ∀ B, X.ro B → B < X.w0.heap.size ∧ ¬ X.mt B
  gl : ∀ g k l, GT g = some (k, l) → X.ro g ∧ ∀ i, i < l.length → X.w0.cell? ⟨g, i, none⟩ = some (.int k (l.getD i 0))

/-- What a step must keep for what was told to stay told. -/
structure Tr (X : Ctx) (b : List (Nat × Nat × Blk)) (c : Lim) (σ : Env) (w : World) (b' : List (Nat × Nat × Blk)) (c' : Lim) (σ' : Env) (w' : World) : Prop where
  cc : ∀ n g, c.ok n g → c'.ok n g
  lv : ∀ n g, Live b' n g → c.ok n g → Live b n g ∧ σ' n = σ n
  vw : ∀ tag B, Vw X b σ w tag B → w'.heap[B]? = w.heap[B]? ∧ Vw X b' σ' w' tag B
  bs : ∀ n g B, Live b' n g → c.ok n g → σ n = some B → blockSize w B ≤ blockSize w' B

section
variable {X : Ctx} {b b' : List (Nat × Nat × Blk)} {c c' : Lim} {σ σ' : Env} {w w' : World}

theorem Tr.refl : Tr X b c σ w b c σ w := ⟨fun _ _ h => h, fun _ _ h _ => ⟨h, rfl⟩, fun _ _ h => ⟨rfl, h⟩, fun _ _ _ _ _ _ => Nat.le_refl _⟩

theorem Tr.trans {b'' : List (Nat × Nat × Blk)} {c'' : Lim} {σ'' : Env} {w'' : World} (h : Tr X b c σ w b' c' σ' w') (k : Tr X b' c' σ' w' b'' c'' σ'' w'') : Tr X b c σ w b'' c'' σ'' w'' where
  cc n g hn := k.cc n g (h.cc n g hn)
  lv n g hl hn := by
    obtain ⟨h1, h2⟩ := k.lv n g hl (h.cc n g hn)
    obtain ⟨h3, h4⟩ := h.lv n g h1 hn
    exact ⟨h3, h2.trans h4⟩
  vw t B hv := by
    obtain ⟨h1, h2⟩ := h.vw t B hv
    obtain ⟨h3, h4⟩ := k.vw t B h2
    exact ⟨h3.trans h1, h4⟩
  bs n g B hl hn hs := by
    obtain ⟨h1, h2⟩ := k.lv n g hl (h.cc n g hn)
    obtain ⟨h3, h4⟩ := h.lv n g h1 hn
    exact Nat.le_trans (h.bs n g B h1 hn hs) (k.bs n g B hl (h.cc n g hn) (h4.trans hs))

/-- Fewer names, else all as it was. -/
theorem Tr.drop (hl : ∀ n x, fnd b' n = some x → fnd b n = some x) : Tr X b c σ w b' c σ w := by
  refine ⟨fun _ _ h => h, fun n g ⟨x, hx⟩ _ => ⟨⟨x, hl n _ hx⟩, rfl⟩, fun tag B hv => ⟨rfl, hv.1, ?_⟩, fun _ _ _ _ _ _ => Nat.le_refl _⟩
  rcases hv.2 with hv | ⟨hv, hn⟩
  · exact .inl hv
  · exact .inr ⟨hv, fun ⟨n, x, h1, h2⟩ => hn ⟨n, x, hl n x h1, h2⟩⟩

theorem cell_of_heap {B o : Nat} (h : w'.heap[B]? = w.heap[B]?) : w'.cell? ⟨B, o, none⟩ = w.cell? ⟨B, o, none⟩ := World.cell?_of_block (a := ⟨B, o, none⟩) h

theorem IsRow.tr (T : Tr X b c σ w b' c' σ' w') {tag : Bool} {l : List Int} {v : Value} (h : IsRow (Vw X b σ w tag) w l v) : IsRow (Vw X b' σ' w' tag) w' l v := by
  obtain ⟨a, cap, rfl, h1, h2⟩ := h
  refine ⟨a, cap, rfl, h1, fun hl => ?_⟩
  obtain ⟨B, o, rfl, hv, hc⟩ := h2 hl
  obtain ⟨e, hv'⟩ := T.vw _ _ hv
  exact ⟨B, o, rfl, hv', fun i hi => by rw [cell_of_heap e]; exact hc i hi⟩

theorem CellOk.tr (T : Tr X b c σ w b' c' σ' w') {i j : Nat} {d : Data} {v : Value} (h : CellOk (Vw X b σ w) w i j d v) : CellOk (Vw X b' σ' w') w' i j d v := by
  cases d with
  | rows t l => exact IsRow.tr T h
  | _ => exact h

theorem Holds.tr (T : Tr X b c σ w b' c' σ' w') {B o : Nat} {d : Data} (e : w'.heap[B]? = w.heap[B]?) (h : Holds (Vw X b σ w) w B o d) : Holds (Vw X b' σ' w') w' B o d := by
  intro i j hi hj
  obtain ⟨x, hx, hc⟩ := h i j hi hj
  exact ⟨x, by rw [cell_of_heap e]; exact hx, hc.tr T⟩

theorem IsView.tr (T : Tr X b c σ w b' c' σ' w') {tag : Bool} {d : Data} {v : Value} (h : IsView (Vw X b σ w) w tag d v) : IsView (Vw X b' σ' w') w' tag d v := by
  obtain ⟨a, cap, rfl, h1, h2⟩ := h
  refine ⟨a, cap, rfl, h1, fun hl => ?_⟩
  obtain ⟨B, o, rfl, hv, hc⟩ := h2 hl
  obtain ⟨e, hv'⟩ := T.vw _ _ hv
  exact ⟨B, o, rfl, hv', hc.tr T e⟩

theorem V0.tr (T : Tr X b c σ w b' c' σ' w') {x : SV} {v : Value} (h : V0 X b c σ w x v) : V0 X b' c' σ' w' x v := by
  cases x with
  | ptr n g off =>
    refine ⟨T.cc _ _ h.1, fun hl => ?_⟩
    obtain ⟨hl', e⟩ := T.lv n g hl h.1
    rw [e]; exact h.2 hl'
  | eptr n g seg e i m =>
    obtain ⟨him, h⟩ := h
    refine ⟨him, T.cc _ _ h.1, fun hl => ?_⟩
    obtain ⟨hl', e⟩ := T.lv n g hl h.1
    rw [e]; exact h.2 hl'
  | vptr tag d i j =>
    obtain ⟨hi, B, o, e, hv, hh⟩ := h
    obtain ⟨e', hv'⟩ := T.vw _ _ hv
    exact ⟨hi, B, o, e, hv', hh.tr T e'⟩
  | sl n g seg e off len =>
    refine ⟨T.cc _ _ h.1, fun hl => ?_⟩
    obtain ⟨hl', e⟩ := T.lv n g hl h.1
    obtain ⟨a, cap, hv, h1, h2⟩ := h.2 hl'
    refine ⟨a, cap, hv, h1, fun hc => ?_⟩
    obtain ⟨B, hB, ha, hs⟩ := h2 hc
    exact ⟨B, by rw [e]; exact hB, ha, Nat.le_trans hs (T.bs n g B hl h.1 hB)⟩
  | slc n g e' len cap =>
    refine ⟨T.cc _ _ h.1, fun hl => ?_⟩
    obtain ⟨hl', e⟩ := T.lv n g hl h.1
    obtain ⟨a, hv, h1, h2⟩ := h.2 hl'
    refine ⟨a, hv, h1, fun hc => ?_⟩
    obtain ⟨B, hB, ha, hs⟩ := h2 hc
    exact ⟨B, by rw [e]; exact hB, ha, Nat.le_trans hs (T.bs n g B hl h.1 hB)⟩
  | view tag d => exact IsView.tr T h
  | any => trivial
  | bool _ => exact h
  | int _ _ => exact h
  | str _ => exact h
  | lit _ => exact h
  | nil => exact h
  | arr _ _ _ => exact h.elim
  | agg _ => exact h.elim
  | tup _ => exact h.elim
  | clo _ _ _ => exact h.elim
  | gd _ _ => exact h.elim

theorem CellsOk.tr (T : Tr X b c σ w b' c' σ' w') : ∀ {l : List SV} {cs : List Value}, CellsOk X b c σ w l cs → CellsOk X b' c' σ' w' l cs := by
  intro l
  induction l with
  | nil => intro cs h; exact h
  | cons x r ih =>
    intro cs h
    cases x with
    | arr k n l => obtain ⟨h1, cs', e, h2⟩ := h; exact ⟨h1, cs', e, ih h2⟩
    | _ => obtain ⟨v, cs', e, h1, h2⟩ := h; exact ⟨v, cs', e, h1.tr T, ih h2⟩

theorem V1.tr (T : Tr X b c σ w b' c' σ' w') {x : SV} {v : Value} (h : V1 X b c σ w x v) : V1 X b' c' σ' w' x v := by
  cases x with
  | agg l => obtain ⟨cs, e, h⟩ := h; exact ⟨cs, e, h.tr T⟩
  | arr k n l => exact h
  | _ => simp only [V1] at h ⊢; exact V0.tr T h

theorem All1.tr (T : Tr X b c σ w b' c' σ' w') : ∀ {l : List SV} {cs : List Value}, All1 X b c σ w l cs → All1 X b' c' σ' w' l cs := by
  intro l
  induction l with
  | nil => intro cs h; exact h
  | cons x r ih => intro cs h; obtain ⟨v, cs', e, h1, h2⟩ := h; exact ⟨v, cs', e, h1.tr T, ih h2⟩

theorem V2.tr (T : Tr X b c σ w b' c' σ' w') {x : SV} {v : Value} (h : V2 X b c σ w x v) : V2 X b' c' σ' w' x v := by
  cases x with
  | tup l => obtain ⟨cs, e, h⟩ := h; exact ⟨cs, e, h.tr T⟩
  | clo f l m => obtain ⟨vs, us, e, h, h'⟩ := h; exact ⟨vs, us, e, h.tr T, h'.tr T⟩
  | _ => simp only [V2] at h ⊢; exact V1.tr T h

theorem V.tr (T : Tr X b c σ w b' c' σ' w') {x : SV} {v : Value} (h : V X b c σ w x v) : V X b' c' σ' w' x v := by
  cases x with
  | gd g x => exact ⟨fun hg => V2.tr T (h.1 hg), h.2⟩
  | _ => simp only [V] at h ⊢; exact V2.tr T h

/-- A slice whose capacity is known, as a slice. -/
def unc : SV → SV
  | .slc n g e len _ => .sl n g 0 e 0 len
  | x => x

theorem V0_unc {x : SV} {v : Value} (h : V0 X b c σ w x v) : V0 X b c σ w (unc x) v := by
  cases x
  case slc n g e len cap =>
    obtain ⟨h1, h2⟩ := h
    refine ⟨h1, fun hl => ?_⟩
    obtain ⟨a, h3, h4, h5⟩ := h2 hl
    refine ⟨a, cap, h3, h4, fun hc => ?_⟩
    obtain ⟨B, h6, h7, h8⟩ := h5 hc
    exact ⟨B, h6, by simpa using h7, by simpa using h8⟩
  all_goals exact h

theorem V1_unc {x : SV} {v : Value} (h : V1 X b c σ w x v) : V1 X b c σ w (unc x) v := by
  cases x
  case slc n g e len cap => exact V0_unc (X := X) (x := .slc n g e len cap) h
  all_goals exact h

theorem V2_unc {x : SV} {v : Value} (h : V2 X b c σ w x v) : V2 X b c σ w (unc x) v := by
  cases x
  case slc n g e len cap => exact V0_unc (X := X) (x := .slc n g e len cap) h
  all_goals exact h

theorem V_unc {x : SV} {v : Value} (h : V X b c σ w x v) : V X b c σ w (unc x) v := by
  cases x
  case slc n g e len cap => exact V0_unc (X := X) (x := .slc n g e len cap) h
  all_goals exact h

/-- A block that did not turn. -/
theorem BlkOk.tr (T : Tr X b c σ w b' c' σ' w') {n : Nat} {x : Blk} (e : σ' n = σ n) (hh : ∀ B, σ n = some B → w'.heap[B]? = w.heap[B]?) (h : BlkOk X b c σ w n x) : BlkOk X b' c' σ' w' n x := by
  cases x with
  | vec d =>
    rcases h with ⟨h1, h2⟩ | ⟨B, cs, t, fr, h1, h2, h3, h4, h5, h6⟩
    · exact .inl ⟨by rw [e]; exact h1, h2⟩
    · exact .inr ⟨B, cs, t, fr, by rw [e]; exact h1, by rw [hh B h1]; exact h2, h3, h4, h5.tr T (hh B h1), h6⟩
  | cells l =>
    obtain ⟨B, cs, t, fr, h1, h2, h3, h4⟩ := h
    exact ⟨B, cs, t, fr, by rw [e]; exact h1, by rw [hh B h1]; exact h2, h3, h4.tr T⟩
  | iter x p =>
    obtain ⟨B, h1, h2⟩ := h
    exact ⟨B, by rw [e]; exact h1, by rw [hh B h1]; exact h2⟩
end

end Go.Proofs.YtdhnjmepgafeiaaDoor.Abs

/- OWN LIBRARY, part 1: a run to a function's return, concretely and by told states; regions, loops, branches. -/
namespace Go.Proofs.YtdhnjmepgafeiaaDoor.Abs
open Go

/-- From what is still to be done the function comes to its return, in such a state. -/
def Fins (P : Program) (todo : List Item) (a : Act) (w : World) (Z : Act → World → Prop) : Prop :=
  ∀ (b : Frame) (cs : List Frame), ∃ a' w' todo', Z a' w' ∧ Steps P (lone (b.at a todo) cs w) (lone { b.at a' todo' with mode := .returning } cs w')

theorem Fins.mono {P : Program} {todo : List Item} {a : Act} {w : World} {Z Z' : Act → World → Prop} (h : Fins P todo a w Z) (hz : ∀ a w, Z a w → Z' a w) : Fins P todo a w Z' := by
  intro b cs
  obtain ⟨a', w', t', z, s⟩ := h b cs
  exact ⟨a', w', t', hz _ _ z, s⟩

section fin
variable {P : Program} {k : List Item} {a : Act} {w : World} {Z : Act → World → Prop}

theorem Fins.mk1 {k k' : List Item} {a a' : Act} {w w' : World} (h : ∀ (b : Frame) (cs : List Frame), step P (lone (b.at a k) cs w) = .next (lone (b.at a' k') cs w')) (h' : Fins P k' a' w' Z) : Fins P k a w Z := by
  intro b cs
  obtain ⟨a2, w2, t2, z, s⟩ := h' b cs
  exact ⟨a2, w2, t2, z, .head (h b cs) s⟩

theorem Fins.skip (h : Fins P k a w Z) : Fins P (.code .skip :: k) a w Z := .mk1 (fun _ _ => step_skip) h
theorem Fins.seq {x y : Code} (h : Fins P (.code x :: .code y :: k) a w Z) : Fins P (.code (.seq x y) :: k) a w Z := .mk1 (fun _ _ => step_seq) h
theorem Fins.block {id : Nat} {c : Code} (h : Fins P (.code c :: .inBlock id :: k) a w Z) : Fins P (.code (.block id c) :: k) a w Z := .mk1 (fun _ _ => step_block) h
theorem Fins.label {l : Nat} (h : Fins P k a w Z) : Fins P (.code (.label l) :: k) a w Z := .mk1 (fun _ _ => step_label) h
theorem Fins.scope {c : Code} (h : Fins P (.code c :: .inScope c :: k) a w Z) : Fins P (.code (.scope c) :: k) a w Z := .mk1 (fun _ _ => step_lone_go (by simp [stepG, stepG.exec, Frame.at])) h
theorem Fins.inScope {c : Code} (h : Fins P k a w Z) : Fins P (.inScope c :: k) a w Z := .mk1 (fun _ _ => step_lone_go (by simp [stepG, stepG.exec, Frame.at])) h
theorem Fins.inBlock {id : Nat} (h : Fins P k a w Z) : Fins P (.inBlock id :: k) a w Z := .mk1 (fun _ _ => step_inBlock) h
theorem Fins.loop {c : Code} (h : Fins P (.inLoop c :: k) a w Z) : Fins P (.code (.loop c) :: k) a w Z := by
  intro b cs
  obtain ⟨a2, w2, t2, z, n, hn⟩ := h b cs
  cases n with
  | zero => simp [runN, lone, Frame.at] at hn
  | succ n =>
    refine ⟨a2, w2, t2, z, ?_⟩
    simp only [runN] at hn
    rw [step_inLoop] at hn
    exact .head step_loop ⟨n, hn⟩
theorem Fins.inLoop {c : Code} (h : Fins P (.code c :: .inLoop c :: k) a w Z) : Fins P (.inLoop c :: k) a w Z := .mk1 (fun _ _ => step_inLoop) h
theorem Fins.exit {id : Nat} {k' : List Item} (e : exitTo id k = some k') (h : Fins P k' a w Z) : Fins P (.code (.exit id) :: k) a w Z := .mk1 (fun _ _ => step_exit e) h
theorem Fins.cond {c : Operand} {x y : Code} {t : Bool} (hc : a.eval c = .bool t) (h : Fins P (.code (if t then x else y) :: k) a w Z) : Fins P (.code (.cond c x y) :: k) a w Z := .mk1 (fun _ _ => step_cond hc) h
theorem Fins.ret (h : Z a w) : Fins P (.code .ret :: k) a w Z := fun _ _ => ⟨a, w, _, h, .one step_ret⟩
theorem Fins.done (h : Z a w) : Fins P [] a w Z := fun _ _ => ⟨a, w, _, h, .one step_end⟩
theorem Fins.region {id : Nat} {ops : Array Oper} (h : Fins P (.inRegion ops (List.range ops.size) :: k) a w Z) : Fins P (.code (.region id ops false) :: k) a w Z := .mk1 (fun _ _ => step_region) h
theorem Fins.region_draw {id : Nat} {ops : Array Oper} (h : ∀ t, Fins P (.inRegion ops (Region.schedule (P.follows .mixedOrders) ops t) :: k) a w.drew Z) : Fins P (.code (.region id ops true) :: k) a w Z := by
  intro b cs
  obtain ⟨a2, w2, t2, z, s⟩ := h _ b cs
  exact ⟨a2, w2, t2, z, .head step_region_draw s⟩
theorem Fins.region_end {ops : Array Oper} (h : Fins P k a w Z) : Fins P (.inRegion ops [] :: k) a w Z := .mk1 (fun _ _ => step_region_end) h

theorem Fins.opSkip {ops : Array Oper} {i : Nat} {rest : List Nat} {o : Oper} (ho : ops[i]? = some o) (hw : Region.wanted o (yielded ops a.tmps) = false)
    (h : Fins P (.inRegion ops rest :: k) (a.put o.dst undef) w Z) : Fins P (.inRegion ops (i :: rest) :: k) a w Z := by
  refine .mk1 (fun b cs => ?_) h
  have := step_op_skip (P := P) (b := b) (a := a) (k := k) (cs := cs) (w := w) (ops := ops) (i := i) (rest := rest) (by simp [ho, hw])
  simpa [ho] using this

theorem Fins.opValue {ops : Array Oper} {i : Nat} {rest : List Nat} {o : Oper} {v : Value} {w' : World} (ho : ops[i]? = some o) (hw : Region.wanted o (yielded ops a.tmps) = true)
    (hr : (execOp a.eval o).run P w = .ok (.value v) w' ∨ ((execOp a.eval o).run P w = .ok .skip w' ∧ v = undef))
    (h : Fins P (.inRegion ops rest :: k) (a.put o.dst v) w' Z) : Fins P (.inRegion ops (i :: rest) :: k) a w Z := by
  refine .mk1 (fun b cs => step_lone_go ?_) h
  have hg := stepG_op (P := P) (b := b) (a := a) (k := k) (cs := cs) (w := w) (ops := ops) (i := i) (rest := rest) ho hw
  have hfin : (b.at a (.inRegion ops (i :: rest) :: k)).finish v = b.at (a.put o.dst v) (.inRegion ops rest :: k) := by rw [Frame.finish_at, ho]; rfl
  rcases hr with hr | ⟨hr, rfl⟩
  · rw [hg, ← hfin]; simp [stepG.apply, hr]
  · rw [hg, ← hfin]; simp [stepG.apply, hr]

theorem Fins.opCall {ops : Array Oper} {i : Nat} {rest : List Nat} {o : Oper} {f : FuncId} {args : Array Value} {w' : World} (ho : ops[i]? = some o) (hw : Region.wanted o (yielded ops a.tmps) = true)
    (hr : (execOp a.eval o).run P w = .ok (.enter f args) w')
    (h : Calls P f args w' fun e w'' => ∃ v, e = .returned v ∧ Fins P (.inRegion ops rest :: k) (a.put o.dst v) w'' Z) : Fins P (.inRegion ops (i :: rest) :: k) a w Z := by
  intro b cs
  obtain ⟨e, w'', fr, ⟨v, rfl, hR⟩, hsteps, _, hleave⟩ := h (b.at a (.inRegion ops (i :: rest) :: k) :: cs)
  have hg := stepG_op (P := P) (b := b) (a := a) (k := k) (cs := cs) (w := w) (ops := ops) (i := i) (rest := rest) ho hw
  have henter : step P (lone (b.at a (.inRegion ops (i :: rest) :: k)) cs w) =
      .next (lone (Frame.enter P f args .normal) (b.at a (.inRegion ops (i :: rest) :: k) :: cs) w') :=
    step_lone_go (by rw [hg]; simp [stepG.apply, hr, Frame.at])
  obtain ⟨a2, w2, t2, z, s⟩ := hR b cs
  refine ⟨a2, w2, t2, z, .head henter (Steps.trans hsteps (.head ?_ s))⟩
  have hfin : (b.at a (.inRegion ops (i :: rest) :: k)).finish v = b.at (a.put o.dst v) (.inRegion ops rest :: k) := by rw [Frame.finish_at, ho]; rfl
  rw [← hfin]; exact step_leave_returned hleave
end fin

theorem calls_of_fin {P : Program} {f : FuncId} {fn : Func} {c : Code} {args : Array Value} {w : World} {Q : Ending → World → Prop}
    (hf : P.funcs[f]? = some fn) (hb : fn.body = some c)
    (h : Fins P [.code c] { tmps := args ++ Array.replicate (fn.ntmps - args.size) undef, defers := [] } w fun a' w' => a'.defers = [] ∧ ∃ v, (results fn a'.tmps).run P w' = .ok v w' ∧ Q (.returned v) w') :
    Calls P f args w Q := by
  intro cs
  let b : Frame := { (default : Frame) with fn := f, kind := .normal }
  have henter : Frame.enter P f args .normal =
      b.at { tmps := args ++ Array.replicate (fn.ntmps - args.size) undef, defers := [] } [.code c] := by
    simp [Frame.enter, Frame.at, hf, hb, b]
  obtain ⟨a', w', todo, ⟨hd, v, hr, hR⟩, hs⟩ := h b cs
  rw [← henter] at hs
  exact ⟨.returned v, w', _, hR, hs, rfl, rfl, hd, rfl, fn, hf, hr⟩

/-- Told: from such a state the function comes to its return in a state that is so. -/
def HRun (P : Program) (X : Ctx) (todo : List Item) (s : St) (Φ : St → Prop) : Prop :=
  ∀ σ w a, R X s σ w a → Fins P todo a w fun a' w' => ∃ s' σ', Φ s' ∧ R X s' σ' w' a' ∧ Tr X s.b s.c σ w s'.b s'.c σ' w'

/-- Less is told. -/
def LeT : List SV → List SV → Prop
  | [], [] => True
  | x :: l, y :: m => (y = .any ∨ x = y) ∧ LeT l m
  | _, _ => False

theorem LeT.length : ∀ {l m : List SV}, LeT l m → l.length = m.length
  | [], [], _ => rfl
  | _ :: _, _ :: _, h => by simp [LeT.length h.2]

theorem LeT.get : ∀ {l m : List SV}, LeT l m → ∀ i, m.getD i .any = .any ∨ l.getD i .any = m.getD i .any
  | [], [], _, i => by simp
  | x :: l, y :: m, h, i => by
    cases i with
    | zero => exact h.1
    | succ i => simpa using LeT.get h.2 i

theorem V.any {X : Ctx} {b : List (Nat × Nat × Blk)} {c : Lim} {σ : Env} {w : World} (v : Value) : V X b c σ w .any v := trivial

theorem R.weak {X : Ctx} {s : St} {t : List SV} {σ : Env} {w : World} {a : Act} (h : R X s σ w a) (hl : LeT s.t t) : R X ⟨t, s.b, s.c⟩ σ w a where
  sz := by rw [h.sz, hl.length]
  tm i hi := by
    rcases hl.get i with e | e
    · simp only [e]; exact V.any _
    · have := h.tm i (by rw [hl.length]; exact hi)
      rw [e] at this; exact this
  df := h.df
  bl := h.bl
  inj := h.inj
  fr := h.fr
  st := h.st
  ro := h.ro
  gl := h.gl

/-- Fewer blocks are told of. -/
theorem R.drop {X : Ctx} {s : St} {b : List (Nat × Nat × Blk)} {σ : Env} {w : World} {a : Act} (h : R X s σ w a) (hl : ∀ n x, fnd b n = some x → fnd s.b n = some x) : R X ⟨s.t, b, s.c⟩ σ w a := by
  have T : Tr X s.b s.c σ w b s.c σ w := Tr.drop hl
  exact {
    sz := h.sz
    tm := fun i hi => (h.tm i hi).tr T
    df := h.df
    bl := fun n g x hx => let ⟨h1, h2, h3⟩ := h.bl n g x (hl n _ hx); ⟨h1, h2.tr T rfl (fun _ _ => rfl), h3⟩
    inj := fun n m x y B hx hy => h.inj n m x y B (hl n x hx) (hl m y hy)
    fr := h.fr
    st := h.st
    ro := h.ro
    gl := h.gl }

theorem HRun.weak {P : Program} {X : Ctx} {todo : List Item} {s : St} {t : List SV} {Φ : St → Prop} (hl : LeT s.t t) (h : HRun P X todo ⟨t, s.b, s.c⟩ Φ) : HRun P X todo s Φ :=
  fun σ w a hR => h σ w a (hR.weak hl)

theorem HRun.dropB {P : Program} {X : Ctx} {todo : List Item} {s : St} {b : List (Nat × Nat × Blk)} {Φ : St → Prop} (hl : ∀ n x, fnd b n = some x → fnd s.b n = some x) (h : HRun P X todo ⟨s.t, b, s.c⟩ Φ) : HRun P X todo s Φ :=
  fun σ w a hR => (h σ w a (hR.drop hl)).mono fun _ _ ⟨s', σ', h1, h2, h3⟩ => ⟨s', σ', h1, h2, (Tr.drop hl).trans h3⟩

theorem HRun.mono {P : Program} {X : Ctx} {todo : List Item} {s : St} {Φ Ψ : St → Prop} (h : HRun P X todo s Φ) (hp : ∀ s, Φ s → Ψ s) : HRun P X todo s Ψ := by
  intro σ w a hR b cs
  obtain ⟨a', w', t', ⟨s', σ', h1, h2, h3⟩, hs⟩ := h σ w a hR b cs
  exact ⟨a', w', t', ⟨s', σ', hp _ h1, h2, h3⟩, hs⟩

/-- A step, then a run. -/
theorem HRun.after {P : Program} {X : Ctx} {todo : List Item} {s s' : St} {Φ : St → Prop} {σ σ' : Env} {w w' : World} {a' : Act} (h : HRun P X todo s' Φ) (hR : R X s' σ' w' a') (hT : Tr X s.b s.c σ w s'.b s'.c σ' w') :
    Fins P todo a' w' fun a'' w'' => ∃ s'' σ'', Φ s'' ∧ R X s'' σ'' w'' a'' ∧ Tr X s.b s.c σ w s''.b s''.c σ'' w'' :=
  (h σ' w' a' hR).mono fun _ _ ⟨s2, σ2, h1, h2, h3⟩ => ⟨s2, σ2, h1, h2, hT.trans h3⟩

/-- A loop, by what each round's head is like and a measure. -/
theorem HRun.loop {P : Program} {X : Ctx} {c : Code} {k : List Item} {s : St} {Φ : St → Prop} {α : Type} (I : α → Prop) (S : α → St) (μ : α → Nat) (x0 : α) (h0 : I x0)
    (hs : HRun P X (.inLoop c :: k) (S x0) Φ → HRun P X (.inLoop c :: k) s Φ)
    (round : ∀ x, I x → (∀ y, I y → μ y < μ x → HRun P X (.inLoop c :: k) (S y) Φ) → HRun P X (.code c :: .inLoop c :: k) (S x) Φ) :
    HRun P X (.code (.loop c) :: k) s Φ := by
  have key : ∀ n x, μ x = n → I x → HRun P X (.inLoop c :: k) (S x) Φ := by
    intro n
    induction n using Nat.strongRecOn with
    | _ n ih =>
      intro x hn hx σ w a hR
      exact .inLoop (round x hx (fun y hy hlt => ih (μ y) (hn ▸ hlt) y rfl hy) σ w a hR)
  intro σ w a hR
  exact .loop (hs (key _ x0 rfl h0) σ w a hR)

end Go.Proofs.YtdhnjmepgafeiaaDoor.Abs

/- OWN LIBRARY, part 2: the operations, on told states (definitions). -/
set_option linter.unusedVariables false
namespace Go.Proofs.YtdhnjmepgafeiaaDoor.Abs
open Go

/-- What a type is, as far as it is asked here. -/
inductive TyI where
  | int (k : IntKind)
  | bool
  | string
  | slice (e : TypeId)
  | array (n : Nat) (e : TypeId)
  | struct (fs : List (Nat × TypeId))
  | pointer (e : TypeId)
  | other

/-- The table of the program's types. -/
structure Tab where
  ty : TypeId → TyI
  size : TypeId → Nat
  bytes : TypeId → Nat
  zero : TypeId → List SV
  eqS : TypeId → Bool

def constSV : Value → SV
  | .bool b => .bool b
  | .int k n => .int k n
  | .string s => .str s
  | .slice none 0 0 => .nil
  | v => .lit v

def evO (t : List SV) : Operand → SV
  | .tmp i => t.getD i .any
  | .const v => constSV v
  | .global g => .lit (.pointer (some ⟨g, 0, none⟩))
  | .func f => .lit (.func (.func f) #[] #[])

def ungd : SV → SV
  | .gd _ x => x
  | x => x

def gdP (g : Bool) : SV → Prop
  | .gd c _ => g = true → c = true
  | _ => True

def setD (t : List SV) : Option Nat → SV → List SV
  | some d, x => t.set d x
  | none, _ => t

/-- The bits of two numbers. -/
def bitsI (op : BinOp) (k : IntKind) (x y : Int) : Int :=
  match op with
  | .and => k.wrap (BitVec.ofInt k.bits x &&& BitVec.ofInt k.bits y).toNat
  | .or => k.wrap (BitVec.ofInt k.bits x ||| BitVec.ofInt k.bits y).toNat
  | .xor => k.wrap (BitVec.ofInt k.bits x ^^^ BitVec.ofInt k.bits y).toNat
  | _ => k.wrap (BitVec.ofInt k.bits x &&& ~~~ BitVec.ofInt k.bits y).toNat

def shlI (k : IntKind) (x y : Int) : Int := k.wrap (x * 2 ^ min y.toNat k.bits)
def shrI (k : IntKind) (x y : Int) : Int := x.fdiv (2 ^ min y.toNat k.bits)
def quoI (k : IntKind) (x y : Int) : Int := k.wrap (x.tdiv y)
def remI (x y : Int) : Int := x.tmod y

def binI (op : BinOp) (k : IntKind) (a : Int) (k' : IntKind) (b : Int) : Option (Prop × SV) :=
  match op with
  | .add => some (k = k', .int k (k.wrap (a + b)))
  | .sub => some (k = k', .int k (k.wrap (a - b)))
  | .mul => some (k = k', .int k (k.wrap (a * b)))
  | .quo => some (k = k' ∧ b ≠ 0, .int k (quoI k a b))
  | .rem => some (k = k' ∧ b ≠ 0, .int k (remI a b))
  | .and => some (k = k', .int k (bitsI .and k a b))
  | .or => some (k = k', .int k (bitsI .or k a b))
  | .xor => some (k = k', .int k (bitsI .xor k a b))
  | .andNot => some (k = k', .int k (bitsI .andNot k a b))
  | .shl => some (0 ≤ b, .int k (shlI k a b))
  | .shr => some (0 ≤ b, .int k (shrI k a b))
  | .eql => some (k = k', .bool (a == b))
  | .neq => some (k = k', .bool (a != b))
  | .lss => some (k = k', .bool (decide (a < b)))
  | .leq => some (k = k', .bool (decide (a ≤ b)))
  | .gtr => some (k = k', .bool (decide (a > b)))
  | .geq => some (k = k', .bool (decide (a ≥ b)))

def binS (op : BinOp) (a b : ByteArray) : Option (Prop × SV) :=
  match op with
  | .eql => some (True, .bool (a.toList == b.toList))
  | .neq => some (True, .bool (!(a.toList == b.toList)))
  | _ => none

def known : TyI → Bool
  | .other => false
  | _ => true

def isB : TyI → Prop
  | .bool => True
  | _ => False
def isI (k : IntKind) : TyI → Prop
  | .int k' => k' = k
  | _ => False

/-- An array of numbers of a length. -/
def isA (T : Tab) (n : Nat) (k : IntKind) : TyI → Prop
  | .array m e => m = n ∧ isI k (T.ty e) ∧ T.size e = 1
  | _ => False

/-- The cell at a place of a variable. -/
def cellAt : List SV → Nat → Option SV
  | [], _ => none
  | .arr k n l :: r, o => if o < n then some (.int k (l.getD o 0)) else cellAt r (o - n)
  | x :: r, o => if o = 0 then some x else cellAt r (o - 1)

/-- The array that begins at a place of a variable. -/
def arrAt : List SV → Nat → Option (IntKind × Nat × List Int)
  | [], _ => none
  | .arr k n l :: r, o => if o = 0 then some (k, n, l) else if n ≤ o then arrAt r (o - n) else none
  | _ :: r, o => if o = 0 then none else arrAt r (o - 1)

/-- A field of two structs, compared. -/
def eq1 (T : Tab) (l m : List SV) (o : Nat) (ft : TypeId) : Option (Prop × Bool) :=
  match T.ty ft with
  | .int _ => match cellAt l o, cellAt m o with
    | some (.int k a), some (.int k' b) => some (k = k', a == b)
    | _, _ => none
  | .bool => match cellAt l o, cellAt m o with
    | some (.bool a), some (.bool b) => some (True, a == b)
    | _, _ => none
  | .string => match cellAt l o, cellAt m o with
    | some (.str a), some (.str b) => some (True, a.toList == b.toList)
    | _, _ => none
  | .array n _ => match arrAt l o, arrAt m o with
    | some (k, n1, a), some (k', n2, b) => some (k = k' ∧ n1 = n ∧ n2 = n ∧ isA T n k (T.ty ft) ∧ T.size ft = n ∧ n ≠ 0, a == b)
    | _, _ => none
  | _ => none

/-- Two structs, compared field by field. -/
def eqF (T : Tab) (l m : List SV) : List (Nat × TypeId) → Option (Prop × Bool)
  | [] => some (True, true)
  | (o, ft) :: fs => match eq1 T l m o ft, eqF T l m fs with
    | some (p, r), some (q, r') => some (p ∧ q, r && r')
    | _, _ => none

def binV (T : Tab) (op : BinOp) (t : TypeId) : SV → SV → Option (Prop × SV)
  | .int k a, .int k' b => binI op k a k' b
  | .str a, .str b => binS op a b
  | .bool a, .bool b =>
    match op with
    | .eql => some (isB (T.ty t), .bool (a == b))
    | .neq => some (isB (T.ty t), .bool (!(a == b)))
    | _ => none
  | .arr k n l, .arr k' n' l' =>
    match op with
    | .eql => some (k = k' ∧ n = n' ∧ isA T n k (T.ty t), .bool (l == l'))
    | .neq => some (k = k' ∧ n = n' ∧ isA T n k (T.ty t), .bool (!(l == l')))
    | _ => none
  | .agg l, .agg m => match T.ty t with
    | .struct fs => match eqF T l m fs with
      | some (p, r) => match op with
        | .eql => some (T.eqS t = true ∧ p, .bool r)
        | .neq => some (T.eqS t = true ∧ p, .bool (!r))
        | _ => none
      | none => none
    | _ => none
  | _, _ => none

def unV (op : UnOp) : SV → Option (Prop × SV)
  | .bool b => match op with | .not => some (True, .bool (!b)) | _ => none
  | .int k n => match op with
    | .neg => some (True, .int k (k.wrap (0 - n)))
    | .xor => some (True, .int k (bitsI .xor k (if k.signed then -1 else k.max) n))
    | _ => none
  | _ => none

def convV (T : Tab) (dst : TypeId) : SV → Option (Prop × SV)
  | .int _ n => match T.ty dst with | .int k => some (True, .int k (k.wrap n)) | _ => none
  | .str s => match T.ty dst with | .string => some (True, .str s) | _ => none
  | _ => none

/-- The field at a place of a struct. -/
def fieldOf (fs : List (Nat × TypeId)) (f : Nat) : Option (Nat × TypeId) := fs[f]?

def blkAt (b : List (Nat × Nat × Blk)) (n g : Nat) : Option Blk :=
  match fnd b n with
  | some (g', x) => if g' = g then some x else none
  | none => none

def isP : TyI → Prop
  | .pointer _ => True
  | _ => False

/-- A pointer, compared with nil. -/
def ptrE (T : Tab) (b : List (Nat × Nat × Blk)) (op : BinOp) (t : TypeId) : SV → SV → Option (Prop × SV)
  | .ptr n g _, .lit (.pointer none) => match blkAt b n g with
    | some _ => match op with
      | .eql => some (isP (T.ty t), .bool false)
      | .neq => some (isP (T.ty t), .bool true)
      | _ => none
    | none => none
  | .lit (.pointer none), .lit (.pointer none) => match op with
    | .eql => some (isP (T.ty t), .bool true)
    | .neq => some (isP (T.ty t), .bool false)
    | _ => none
  | _, _ => none

def faddrV (T : Tab) (b : List (Nat × Nat × Blk)) (t : TypeId) (f : Nat) : SV → Option (Prop × SV)
  | .ptr n g off => match T.ty t with
    | .struct fs => match fieldOf fs f with
      | some (o, ft) => match blkAt b n g with
        | some _ => some (T.size ft ≠ 0, .ptr n g (off + o))
        | none => none
      | none => none
    | _ => none
  | .eptr n g seg e i m => match T.ty t with
    | .struct fs => match fieldOf fs f with
      | some (o, ft) => match blkAt b n g with
        | some _ => some (T.size ft ≠ 0, .ptr n g (seg + i * e + o))
        | none => none
      | none => none
    | _ => none
  | .vptr tag d i j => match T.ty t with
    | .struct fs => match fieldOf fs f with
      | some (o, ft) => some (T.size ft ≠ 0, .vptr tag d i (j + o))
      | none => none
    | _ => none
  | _ => none

def iaddrV (T : Tab) (b : List (Nat × Nat × Blk)) (t : TypeId) : SV → SV → Option (Prop × SV)
  | .ptr n g off, .int _ i => match T.ty t with
    | .array len e => match blkAt b n g with
      | some _ => some (T.size e ≠ 0 ∧ 0 ≤ i ∧ i < len, .eptr n g off (T.size e) i.toNat len)
      | none => none
    | _ => none
  | .sl n g seg e off len, .int _ i => match T.ty t with
    | .slice et => match blkAt b n g with
      | some _ => some (T.size et ≠ 0 ∧ T.size et = e ∧ 0 ≤ i ∧ i < len, .eptr n g seg e (off + i.toNat) (off + len))
      | none => none
    | _ => none
  | .view tag d, .int _ i => match T.ty t with
    | .slice et => some (T.size et ≠ 0 ∧ T.size et = d.esz ∧ 0 ≤ i ∧ i < d.len, .vptr tag d i.toNat 0)
    | _ => none
  | _, _ => none

def indexV (T : Tab) (t : TypeId) : SV → SV → Option (Prop × SV)
  | .arr k n l, .int _ i => match T.ty t with
    | .array m e => some (m = n ∧ T.size e = 1 ∧ isI k (T.ty e) ∧ 0 ≤ i ∧ i < n, .int k (l.getD i.toNat 0))
    | _ => none
  | .str s, .int _ i => match T.ty t with
    | .string => some (0 ≤ i ∧ i < s.size, .int .u8 ((s.data.toList.getD i.toNat 0).toNat : Int))
    | _ => none
  | _, _ => none

def extractV (i : Nat) : SV → Option (Prop × SV)
  | .tup l => match l[i]? with
    | some x => some (True, x)
    | none => none
  | _ => none

/-- The bounds of a cut: low, high, whether there is room known behind. -/
def lowI : Option SV → Option Int
  | none => some 0
  | some (.int _ i) => some i
  | _ => none
def highI (len : Nat) : Option SV → Option Int
  | none => some len
  | some (.int _ i) => some i
  | _ => none
def maxP (h : Int) (hi : Option SV) : Option SV → Prop
  | none => True
  | some (.int _ i) => i = h ∧ hi.isSome = true
  | _ => False

/-- So many cells from the begin. -/
def takeC : List SV → Nat → Option (List SV)
  | _, 0 => some []
  | [], _ + 1 => none
  | .arr k n l :: r, m + 1 => if n ≤ m + 1 then (takeC r (m + 1 - n)).map (.arr k n l :: ·) else none
  | x :: r, m + 1 => (takeC r m).map (x :: ·)

def dropC : List SV → Nat → Option (List SV)
  | l, 0 => some l
  | [], _ + 1 => none
  | .arr _ n _ :: r, m + 1 => if n ≤ m + 1 then dropC r (m + 1 - n) else none
  | _ :: r, m + 1 => dropC r m

def setC : List SV → Nat → SV → Option (List SV)
  | [], _, _ => none
  | .arr k n l :: r, o, x => if o < n then (match x with | .int k' v => if k = k' then some (.arr k n (l.set o v) :: r) else none | _ => none) else (setC r (o - n) x).map (.arr k n l :: ·)
  | y :: r, o, x => if o = 0 then some (x :: r) else (setC r (o - 1) x).map (y :: ·)

/-- The array at a place, another one in its stead. -/
def setA : List SV → Nat → List Int → Option (List SV)
  | [], _, _ => none
  | .arr k n l :: r, o, l' => if o = 0 then some (.arr k n l' :: r) else if n ≤ o then (setA r (o - n) l').map (.arr k n l :: ·) else none
  | y :: r, o, l' => if o = 0 then none else (setA r (o - 1) l').map (y :: ·)

def sliceV (T : Tab) (b : List (Nat × Nat × Blk)) (t : TypeId) (x : SV) (lo hi mx : Option SV) : Option (Prop × SV) :=
  match x with
  | .view tag d => match T.ty t with
    | .slice et => match lowI lo, highI d.len hi with
      | some l, some h => some (T.size et ≠ 0 ∧ T.size et = d.esz ∧ 0 ≤ l ∧ l ≤ h ∧ h ≤ d.len ∧ maxP h hi mx, .view tag (d.sub l.toNat (h - l).toNat))
      | _, _ => none
    | _ => none
  | .sl n g seg e off len => match T.ty t with
    | .slice et => match lowI lo, highI len hi with
      | some l, some h => match blkAt b n g with
        | some _ => some (T.size et ≠ 0 ∧ T.size et = e ∧ 0 ≤ l ∧ l ≤ h ∧ h ≤ len ∧ maxP h hi mx, .sl n g seg e (off + l.toNat) (h - l).toNat)
        | none => none
      | _, _ => none
    | _ => none
  | .nil => match T.ty t with
    | .slice et => match lowI lo, highI 0 hi with
      | some l, some h => some (T.size et ≠ 0 ∧ l = 0 ∧ h = 0 ∧ maxP h hi mx, .nil)
      | _, _ => none
    | _ => none
  | .ptr n g off => match T.ty t with
    | .array len e => match lowI lo, highI len hi with
      | some l, some h => match blkAt b n g with
        | some (.cells cs) => match arrAt cs off with
          | some (_, m, _) => some (T.size e = 1 ∧ m = len ∧ 0 ≤ l ∧ l ≤ h ∧ h ≤ len ∧ maxP h hi mx, .sl n g off 1 l.toNat (h - l).toNat)
          | none => none
        | _ => none
      | _, _ => none
    | _ => none
  | .str s => match T.ty t with
    | .string => match lowI lo, highI s.size hi, mx with
      | some l, some h, none => some (0 ≤ l ∧ l ≤ h ∧ h ≤ s.size, .str (s.extract l.toNat h.toNat))
      | _, _, _ => none
    | _ => none
  | _ => none

def pickV (c : Bool) : SV → SV → Option SV
  | .bool a, .bool b => some (.bool (cond c a b))
  | _, _ => none

/-- An element of data, its cell at a place. -/
def elemV (i j : Nat) : Data → SV
  | .ints k l => .int k (l.getD i 0)
  | .strs l => .str (l.getD i default)
  | .rows t l => .view t (.ints .u8 (l.getD i []))
  | .locks l => match j with | 0 => .int .i64 (l.getD i default).op | 1 => .int .u64 (l.getD i default).at_ | 2 => .int .u64 (l.getD i default).n | _ => .int .u16 (l.getD i default).mode
  | .ents l => match j with | 0 => .str (l.getD i default).name | 1 => .int .u8 (l.getD i default).kind | _ => .int .i64 (l.getD i default).size

/-- Is it a type of one cell? -/
def one : TyI → Bool
  | .int _ | .bool | .string | .slice _ | .pointer _ => true
  | _ => false

/-- A package's table of numbers, loaded. -/
def gloadV (T : Tab) (t : TypeId) : Value → Option (Prop × SV)
  | .pointer (some ad) => match T.ty t, GT ad.block with
    | .array m _, some (k, l) => some (ad.off = 0 ∧ ad.spot = none ∧ l.length = m ∧ T.size t = m ∧ m ≠ 0, .arr k m l)
    | _, _ => none
  | _ => none

def loadV (T : Tab) (b : List (Nat × Nat × Blk)) (t : TypeId) : SV → Option (Prop × SV)
  | .ptr n g off => match blkAt b n g with
    | some (.cells l) =>
      match T.ty t with
      | .struct _ => match (dropC l off).bind (takeC · (T.size t)) with
        | some m => some (T.size t ≠ 0, .agg m)
        | none => none
      | .array m e => match arrAt l off with
        | some (k, m', l') => some (m' = m ∧ T.size t = m ∧ m ≠ 0, .arr k m l')
        | none => none
      | .other => none
      | _ => match cellAt l off with
        | some x => some (True, x)
        | none => none
    | _ => none
  | .eptr n g seg e i m => match blkAt b n g with
    | some (.vec d) => match T.ty t with
      | .array m' _ => match d with
        | .ints k l => some (seg = 0 ∧ e = 1 ∧ T.size t = m' ∧ m' ≠ 0 ∧ i + m' ≤ m ∧ m ≤ l.length, .arr k m' ((l.drop i).take m'))
        | _ => none
      | .struct _ | .other => none
      | _ => some (seg = 0 ∧ e = 1 ∧ d.esz = 1 ∧ m ≤ d.len, elemV i 0 d)
    | some (.cells l) => match T.ty t with
      | .array m' _ => match arrAt l seg with
        | some (k, n', l') => some (e = 1 ∧ T.size t = m' ∧ m' ≠ 0 ∧ i + m' ≤ m ∧ m ≤ n', .arr k m' ((l'.drop i).take m'))
        | none => none
      | .int _ => match arrAt l seg with
        | some (k, n', l') => some (e = 1 ∧ m ≤ n', .int k (l'.getD i 0))
        | none => none
      | .struct _ => match (dropC l (seg + i * e)).bind (takeC · (T.size t)) with
        | some q => some (T.size t ≠ 0, .agg q)
        | none => none
      | .other => none
      | _ => match cellAt l (seg + i * e) with
        | some x => some (True, x)
        | none => none
    | _ => none
  | .vptr tag d i j => match T.ty t with
    | .struct _ => match d with
      | .locks l => some (T.size t = 4 ∧ j = 0, .agg [elemV i 0 d, elemV i 1 d, elemV i 2 d, elemV i 3 d])
      | .ents l => some (T.size t = 3 ∧ j = 0, .agg [elemV i 0 d, elemV i 1 d, elemV i 2 d])
      | _ => none
    | .array m e => match d with
      | .ints k l => some (T.size t = m ∧ m ≠ 0 ∧ j = 0 ∧ i + m ≤ l.length, .arr k m ((l.drop i).take m))
      | _ => none
    | .other => none
    | _ => some (j < d.esz, elemV i j d)
  | .lit v => gloadV T t v
  | _ => none

def lenV (T : Tab) (b : List (Nat × Nat × Blk)) (t : TypeId) : SV → Option (Prop × SV)
  | .sl n g _ _ _ len => match T.ty t with
    | .slice _ => match blkAt b n g with
      | some _ => some (True, .int .i64 len)
      | none => none
    | _ => none
  | .view _ d => match T.ty t with
    | .slice _ => some (True, .int .i64 d.len)
    | _ => none
  | .nil => match T.ty t with
    | .slice _ => some (True, .int .i64 0)
    | _ => none
  | .str s => match T.ty t with
    | .string => some (True, .int .i64 s.size)
    | _ => none
  | _ => none

/-- A value that fills one cell, for sure. -/
def scal (b : List (Nat × Nat × Blk)) : SV → Bool
  | .bool _ | .int _ _ | .str _ | .nil | .view _ _ | .vptr _ _ _ _ => true
  | .ptr n g _ | .eptr n g _ _ _ _ | .sl n g _ _ _ _ => (blkAt b n g).isSome
  | _ => false

def cellsOf (b : List (Nat × Nat × Blk)) : SV → Option (List SV)
  | .agg l => some l
  | .arr k n l => some [.arr k n l]
  | x => match scal b x with
    | true => some [x]
    | false => none

/-- Each a cell, or numbers. -/
def okC (b : List (Nat × Nat × Blk)) : List SV → Bool
  | [] => true
  | .arr _ _ _ :: r => okC b r
  | .lit (.pointer none) :: r => okC b r
  | x :: r => scal b x && okC b r

/-- How many cells. -/
def cntC : List SV → Nat
  | [] => 0
  | .arr _ n _ :: r => n + cntC r
  | _ :: r => 1 + cntC r

/-- Cells, some fields written over. -/
def fillC (T : Tab) (b : List (Nat × Nat × Blk)) (fs : List (Nat × TypeId)) : List SV → List (Nat × SV) → Option (Prop × List SV)
  | cs, [] => some (True, cs)
  | cs, (i, x) :: r => match fieldOf fs i with
    | some (o, ft) => match takeC cs o, dropC cs (o + T.size ft), cellsOf b x with
      | some p, some q, some l => match fillC T b fs (p ++ l ++ q) r with
        | some (c, cs') => some (cntC l = T.size ft ∧ c, cs')
        | none => none
      | _, _, _ => none
    | none => none

def intsP (k : IntKind) : Nat → List (Nat × SV) → Option (List Int)
  | _, [] => some []
  | i, (j, .int k' n) :: r => if j = i then if k' = k then (intsP k (i + 1) r).map (n :: ·) else none else none
  | _, _ => none

/-- A struct or an array, built. -/
def buildV (T : Tab) (b : List (Nat × Nat × Blk)) (t : TypeId) (xs : List (Nat × SV)) : Option (Prop × SV) :=
  match T.ty t with
  | .struct fs => match fillC T b fs (T.zero t) xs with
    | some (p, l) => some (T.size t ≠ 0 ∧ (fs.all fun q => T.size q.2 != 0) = true ∧ p, .agg l)
    | none => none
  | .array m e => match T.ty e, T.zero t with
    | .int k, [.arr k' m' l0] => match xs with
      | [] => some (T.size t ≠ 0 ∧ T.size e = 1, .arr k' m' l0)
      | x :: r => match intsP k 0 (x :: r) with
        | some l => some (T.size t ≠ 0 ∧ T.size e = 1 ∧ l.length = m' ∧ k' = k, .arr k m' l)
        | none => none
    | _, _ => none
  | _ => none

/-- A slice of numbers, as a pointer to an array. -/
def arrPV (T : Tab) (b : List (Nat × Nat × Blk)) (t : TypeId) : SV → Option (Prop × SV)
  | .view tag d => match T.ty t with
    | .array m _ => some (m ≠ 0 ∧ m ≤ d.len, .vptr tag d 0 0)
    | _ => none
  | .sl n g seg e off len => match T.ty t with
    | .array m _ => match blkAt b n g with
      | some _ => some (m ≠ 0 ∧ m ≤ len, .eptr n g seg e off (off + len))
      | none => none
    | _ => none
  | _ => none

/-- A field of a struct. -/
def fieldV (T : Tab) (t : TypeId) (f : Nat) : SV → Option (Prop × SV)
  | .agg l => match T.ty t with
    | .struct fs => match fieldOf fs f with
      | some (o, ft) => match T.ty ft with
        | .struct _ => match (dropC l o).bind (takeC · (T.size ft)) with
          | some m => some (T.size ft ≠ 0, .agg m)
          | none => none
        | .array n _ => match arrAt l o with
          | some (k, n', l') => some (n' = n ∧ T.size ft = n ∧ n ≠ 0, .arr k n l')
          | none => none
        | .other => none
        | _ => match cellAt l o with
          | some x => some (T.size ft = 1, x)
          | none => none
      | none => none
    | _ => none
  | _ => none

/-- No tuple, no closure. -/
def flatB : SV → Bool
  | .tup _ | .clo _ _ _ => false
  | _ => true

/-- An operation that leaves memory as it is. -/
def pureOp (T : Tab) (s : St) (ρ : Operand → SV) : Op → Option (Prop × SV)
  | .move x => some (True, ρ x)
  | .assign x => some (True, ρ x)
  | .binOp op t x y _ => match ptrE T s.b op t (ρ x) (ρ y) with
    | some r => some r
    | none => binV T op t (ρ x) (ρ y)
  | .unOp op _ x => unV op (ρ x)
  | .convert src dst x => match convV T dst (ρ x) with
    | some (p, v) => some (known (T.ty src) = true ∧ p, v)
    | none => none
  | .nilCheck x => match ρ x with
    | .ptr n g off => match blkAt s.b n g with
      | some _ => some (True, .ptr n g off)
      | none => none
    | _ => none
  | .fieldAddr t x f => faddrV T s.b t f (ρ x)
  | .indexAddr t x i => iaddrV T s.b t (ρ x) (ρ i)
  | .index t x i => indexV T t (ρ x) (ρ i)
  | .extract x i => extractV i (ρ x)
  | .slice t x lo hi mx => sliceV T s.b t (ρ x) (lo.map ρ) (hi.map ρ) (mx.map ρ)
  | .load t a => loadV T s.b t (ρ a)
  | .build t parts => buildV T s.b t (parts.toList.map fun q => (q.1, ρ q.2))
  | .sliceToArrayPointer t x => arrPV T s.b t (ρ x)
  | .field t x f => fieldV T t f (ρ x)
  | .makeFunc f first cap => match (first.toList.map ρ).all flatB && (cap.toList.map ρ).all flatB with
    | true => some (True, .clo f (first.toList.map ρ) (cap.toList.map ρ))
    | false => none
  | .call { callee := .builtin .len, args := arz, argTypes := ts } => match ts.toList, arz.toList with
    | [t], [x] => lenV T s.b t (ρ x)
    | _, _ => none
  | _ => none

def capV (T : Tab) (b : List (Nat × Nat × Blk)) (t : TypeId) : SV → Option (Prop × SV)
  | .slc n g _ _ cap => match T.ty t with
    | .slice _ => match blkAt b n g with
      | some _ => some (True, .int .i64 cap)
      | none => none
    | _ => none
  | _ => none

/-- A cut of a slice whose capacity is known. -/
def sliceC (T : Tab) (b : List (Nat × Nat × Blk)) (t : TypeId) (n g e len cap : Nat) (lo hi mx : Option SV) : Option (Prop × SV) :=
  match T.ty t, mx with
  | .slice et, none => match lowI lo, highI len hi with
    | some l, some h => match blkAt b n g with
      | some _ => some (T.size et ≠ 0 ∧ T.size et = e ∧ l = 0 ∧ 0 ≤ h ∧ h ≤ cap, .slc n g e h.toNat cap)
      | none => none
    | _, _ => none
  | _, _ => none

/-- As pureOp; capacities are heeded. -/
def pureOpC (T : Tab) (s : St) (ρ : Operand → SV) (op : Op) : Option (Prop × SV) :=
  match op with
  | .move x => some (True, ρ x)
  | .assign x => some (True, ρ x)
  | .slice t x lo hi mx => match ρ x with
    | .slc n g e len cap => match lo with
      | none => sliceC T s.b t n g e len cap (lo.map ρ) (hi.map ρ) (mx.map ρ)
      | some _ => pureOp T s (fun x => unc (ρ x)) (.slice t x lo hi mx)
    | _ => pureOp T s (fun x => unc (ρ x)) (.slice t x lo hi mx)
  | .call { callee := .builtin .cap, args := arz, argTypes := ts } => match ts.toList, arz.toList with
    | [t], [x] => capV T s.b t (ρ x)
    | _, _ => none
  | op => pureOp T s (fun x => unc (ρ x)) op

/-- The guard of an operation, as it was answered. -/
def guardOf (ops : Array Oper) (t : List SV) (j : Nat) (want : Bool) : Option Bool :=
  match ((ops[j]?).bind (·.dst)) with
  | some d => match t.getD d .any with
    | .bool b => some (match want with | true => b | false => !b)
    | .gd c (.bool b) => some (c && (match want with | true => b | false => !b))
    | _ => none
  | none => none

/-- What an operation's operands ask, under its guard. -/
def gdPs (t : List SV) (g : Bool) : List Operand → Prop
  | [] => True
  | x :: l => gdP g (evO t x) ∧ gdPs t g l

/-- Data that a value holds. -/
def rowOf (b : List (Nat × Nat × Blk)) : SV → Option (Bool × List Int)
  | .view t (.ints .u8 l) => some (t, l)
  | .nil => some (true, [])
  | _ => none

def rowsOf (b : List (Nat × Nat × Blk)) : List SV → Option (Bool × List (List Int))
  | [] => some (true, [])
  | x :: r => match rowOf b x, rowsOf b r with
    | some (t, l), some (t', m) => some (t && t', l :: m)
    | _, _ => none

def intsOf (k : IntKind) : List SV → Option (List Int)
  | [] => some []
  | .int k' n :: r => if k' = k then (intsOf k r).map (n :: ·) else none
  | _ => none

def strsOf : List SV → Option (List ByteArray)
  | [] => some []
  | .str s :: r => (strsOf r).map (s :: ·)
  | _ => none

def nilD (T : Tab) (e : TypeId) : Option Data :=
  match T.ty e with
  | .int k => some (.ints k [])
  | .string => some (.strs [])
  | .slice _ => some (.rows true [])
  | _ => none

def byteI (x : UInt8) : Int := (x.toNat : Int)

def dataOf (T : Tab) (e : TypeId) (b : List (Nat × Nat × Blk)) : SV → Option (Prop × Data)
  | .view _ d => some (True, d)
  | .nil => match nilD T e with
    | some d => some (True, d)
    | none => none
  | .str s => some (True, .ints .u8 (s.data.toList.map byteI))
  | .sl n g seg e' off len => match blkAt b n g with
    | some (.vec d) => some (seg = 0 ∧ e' = d.esz ∧ off + len ≤ d.len, d.sub off len)
    | some (.cells l) => match arrAt l seg with
      | some (k, n', l') => some (e' = 1 ∧ off + len ≤ n', .ints k ((l'.drop off).take len))
      | none => none
    | _ => none
  | _ => none

def appD : Data → Data → Option Data
  | .ints k l, .ints k' m => if k' = k then some (.ints k (l ++ m)) else none
  | .strs l, .strs m => some (.strs (l ++ m))
  | .rows t l, .rows t' m => some (.rows (t && t') (l ++ m))
  | .locks l, .locks m => some (.locks (l ++ m))
  | .ents l, .ents m => some (.ents (l ++ m))
  | _, _ => none

/-- Numbers, some of them written over. -/
def overI (l : List Int) (off len : Nat) (m : List Int) : List Int := l.take off ++ m.take (min m.length len) ++ l.drop (off + min m.length len)

inductive Res where
  | go (p : Prop) (s : St)
  | stop

def notIn : List Nat → Nat → Prop
  | [], _ => True
  | m :: l, n => if n = m then False else notIn l n

/-- A new block, which bears the name of the slot. -/
def newV (s : St) (dst : Option Nat) (p : Prop) (x : Blk) (v : Nat → SV) : Res :=
  match dst with
  | some d => .go (notIn s.c.d (s.c.o + d) ∧ p) ⟨s.t.set d (v (s.c.o + d)), upd s.b (s.c.o + d) s.c.c x, s.c.add (s.c.o + d)⟩
  | none => .stop

/-- A block goes over to another name (or keeps its own), with another content. -/
def mv (b : List (Nat × Nat × Blk)) (n m g : Nat) (x : Blk) : List (Nat × Nat × Blk) := upd (del b n) m g x

def isStr : TyI → Prop
  | .string => True
  | _ => False

/-- What may be appended of. -/
def isSrc : TyI → Bool
  | .slice _ | .string => true
  | _ => false

def elemsOf (ρ : Operand → SV) : Nat → List (Nat × Operand) → Option (List SV)
  | _, [] => some []
  | i, (j, x) :: r => if j = i then (elemsOf ρ (i + 1) r).map (ρ x :: ·) else none

/-- Structs, one behind the other. -/
def aggsOf (b : List (Nat × Nat × Blk)) (sz : Nat) : List SV → Option (List SV)
  | [] => some []
  | .agg l :: r => if cntC l = sz then (aggsOf b sz r).map (l ++ ·) else none
  | _ => none

def zI (k : IntKind) : List SV → Prop
  | [.int k' n] => k' = k ∧ n = 0
  | _ => False

/-- Do new places of a row hold numbers, where numbers are told? -/
def fitT (T : Tab) (e : TypeId) : Data → Prop
  | .ints k _ => zI k (T.zero e)
  | _ => True

/-- An operation that makes or writes memory. -/
def memOp (T : Tab) (s : St) (dst : Option Nat) (ρ : Operand → SV) : Op → Res
  | .alloc e => newV s dst (T.size e ≠ 0) (.cells (T.zero e)) fun d => .ptr d s.c.c 0
  | .box e x => match cellsOf s.b (ρ x) with
    | some l => newV s dst True (.cells l) fun d => .ptr d s.c.c 0
    | none => .stop
  | .buildSlice t len parts => match T.ty t with
    | .slice e => match elemsOf ρ 0 parts.toList with
      | some xs => match T.ty e with
        | .int k => match intsOf k xs with
          | some l => newV s dst (xs.length = len ∧ T.size e = 1 ∧ len ≤ 16777216) (.vec (.ints k l)) fun d => .sl d s.c.c 0 1 0 len
          | none => .stop
        | .string => match strsOf xs with
          | some l => newV s dst (xs.length = len ∧ T.size e = 1 ∧ len ≤ 16777216) (.vec (.strs l)) fun d => .sl d s.c.c 0 1 0 len
          | none => .stop
        | .slice _ => match rowsOf s.b xs with
          | some (t, l) => newV s dst (xs.length = len ∧ T.size e = 1 ∧ len ≤ 16777216) (.vec (.rows t l)) fun d => .sl d s.c.c 0 1 0 len
          | none => match xs.all (scal s.b) with
            | true => newV s dst (xs.length = len ∧ T.size e = 1 ∧ len ≤ 16777216) (.cells xs) fun d => .sl d s.c.c 0 1 0 len
            | false => .stop
        | .struct _ => match aggsOf s.b (T.size e) xs with
          | some l => newV s dst (xs.length = len ∧ T.size e ≠ 0 ∧ len * T.size e ≤ 16777216) (.cells l) fun d => .sl d s.c.c 0 (T.size e) 0 len
          | none => .stop
        | _ => .stop
      | none => .stop
    | _ => .stop
  | .makeSlice t len cap => match T.ty t, ρ len, ρ cap with
    | .slice e, .int _ n, .int _ m => match T.ty e with
      | .int k => newV s dst (T.size e = 1 ∧ zI k (T.zero e) ∧ n = m ∧ 0 ≤ n ∧ n * T.bytes e ≤ 281474976710656 ∧ n ≤ 4611686018427387904) (.vec (.ints k (List.replicate n.toNat 0))) fun d => .slc d s.c.c 1 n.toNat n.toNat
      | _ => .stop
    | _, _, _ => .stop
  | .store t a x => match ρ a with
    | .ptr n g off => match blkAt s.b n g with
      | some (.cells l) => match T.ty t with
        | .struct _ => match ρ x with
          | .agg m => match okC s.b m, takeC l off, dropC l (off + T.size t) with
            | true, some p, some q => .go (cntC m = T.size t ∧ T.size t ≠ 0) ⟨setD s.t dst .any, upd s.b n g (.cells (p ++ m ++ q)), s.c⟩
            | _, _, _ => .stop
          | _ => .stop
        | .array m e => match ρ x, arrAt l off with
          | .arr k m' l', some (k', n', _) => match setA l off l' with
            | some l2 => .go (k = k' ∧ m' = n' ∧ T.size t = n' ∧ n' ≠ 0) ⟨setD s.t dst .any, upd s.b n g (.cells l2), s.c⟩
            | none => .stop
          | _, _ => .stop
        | .other => .stop
        | _ => match scal s.b (ρ x), setC l off (ρ x) with
          | true, some l2 => .go (T.size t = 1) ⟨setD s.t dst .any, upd s.b n g (.cells l2), s.c⟩
          | _, _ => .stop
      | _ => .stop
    | .eptr n g seg e i m => match blkAt s.b n g, ρ x, T.ty t with
      | some (.vec (.ints k l)), .int k' v, .int _ => .go (seg = 0 ∧ e = 1 ∧ k' = k ∧ m ≤ l.length ∧ T.size t = 1) ⟨setD s.t dst .any, upd s.b n g (.vec (.ints k (l.set i v))), s.c⟩
      | some (.cells l), .int k' v, .int _ => match arrAt l seg with
        | some (k, n', l') => match setA l seg (l'.set i v) with
          | some l2 => .go (e = 1 ∧ k' = k ∧ m ≤ n' ∧ T.size t = 1) ⟨setD s.t dst .any, upd s.b n g (.cells l2), s.c⟩
          | none => .stop
        | none => .stop
      | _, _, _ => .stop
    | _ => .stop
  | .convert src dst' x => match ρ x, T.ty dst' with
    | .str str, .slice e => match T.ty e with
      | .int .u8 => newV s dst (isStr (T.ty src) ∧ str.size ≤ 4611686018427387904) (.vec (.ints .u8 (str.data.toList.map byteI))) fun d => .sl d s.c.c 0 1 0 str.size
      | _ => .stop
    | .sl n g seg e' off len, .slice e => match T.ty e with
      | .int .u8 => match blkAt s.b n g with
        | some (.vec d) => .go (src = dst' ∧ len ≠ 0) ⟨setD s.t dst (.sl n g seg e' off len), upd s.b n g (.vec d), s.c⟩
        | _ => .stop
      | _ => .stop
    | _, _ => .stop
  | .call { callee := .builtin .append, args := arz, argTypes := ts } => match ts.toList, arz.toList, dst with
    | [t, t2], [x, y], some d => match T.ty t with
      | .slice e => match isSrc (T.ty t2), dataOf T e s.b (ρ y) with
        | true, some (pd, dy) => match ρ x with
          | .nil => .go (pd ∧ notIn s.c.d (s.c.o + d) ∧ fitT T e dy ∧ T.size e = dy.esz ∧ dy.len * T.bytes e ≤ 140737488355328 ∧ dy.len ≤ 4611686018427387904) ⟨s.t.set d (.sl (s.c.o + d) s.c.c 0 dy.esz 0 dy.len), upd s.b (s.c.o + d) s.c.c (.vec dy), s.c.add (s.c.o + d)⟩
          | .sl n g seg e' off len => match blkAt s.b n g with
            | some (.vec dx) => match appD dx dy with
              | some dz => .go (pd ∧ notIn s.c.d (s.c.o + d) ∧ fitT T e dz ∧ T.size e = dx.esz ∧ seg = 0 ∧ e' = dx.esz ∧ off = 0 ∧ len = dx.len ∧ (len + dy.len) * T.bytes e ≤ 140737488355328 ∧ len + dy.len ≤ 4611686018427387904) ⟨s.t.set d (.sl (s.c.o + d) s.c.c 0 dx.esz 0 dz.len), mv s.b n (s.c.o + d) s.c.c (.vec dz), s.c.add (s.c.o + d)⟩
              | none => .stop
            | _ => .stop
          | _ => .stop
        | _, _ => .stop
      | _ => .stop
    | _, _, _ => .stop
  | .call { callee := .builtin .copy, args := arz, argTypes := ts } => match ts.toList, arz.toList with
    | [t, _], [x, y] => match T.ty t, ρ x with
      | .slice e, .sl n g seg e' off len => match dataOf T e s.b (ρ y) with
        | some (pd, .ints k m) => match blkAt s.b n g with
          | some (.vec (.ints k' l)) => .go (pd ∧ T.size e = 1 ∧ k = k' ∧ seg = 0 ∧ e' = 1 ∧ off + len ≤ l.length) ⟨setD s.t dst (.int .i64 (min m.length len : Nat)), upd s.b n g (.vec (.ints k (overI l off len m))), s.c⟩
          | some (.cells l) => match arrAt l seg with
            | some (k', n', l') => match setA l seg (overI l' off len m) with
              | some l2 => .go (pd ∧ T.size e = 1 ∧ k = k' ∧ e' = 1 ∧ off + len ≤ n') ⟨setD s.t dst (.int .i64 (min m.length len : Nat)), upd s.b n g (.cells l2), s.c⟩
              | none => .stop
            | none => .stop
          | _ => .stop
        | _ => .stop
      | _, _ => .stop
    | _, _ => .stop
  | _ => .stop

/-- One operation. -/
def absOp (T : Tab) (ops : Array Oper) (s : St) (o : Oper) : Res :=
  match o.guard with
  | none => match o.op with
    | .pick c a b => match evO s.t c with
      | .bool c => match pickV c (ungd (evO s.t a)) (ungd (evO s.t b)) with
        | some v => .go (gdP c (evO s.t a) ∧ gdP (!c) (evO s.t b)) { s with t := setD s.t o.dst v }
        | none => .stop
      | _ => .stop
    | op => match pureOpC T s (fun x => ungd (evO s.t x)) op with
      | some (p, v) => .go (gdPs s.t true op.operands.toList ∧ p) { s with t := setD s.t o.dst v }
      | none => match memOp T s o.dst (fun x => unc (ungd (evO s.t x))) op with
        | .go p s' => .go (gdPs s.t true op.operands.toList ∧ p) s'
        | .stop => .stop
  | some (j, want) => match guardOf ops s.t j want with
    | some g => match o.op with
      | .pick c a b => match ungd (evO s.t c) with
        | .bool c' => match pickV c' (ungd (evO s.t a)) (ungd (evO s.t b)) with
          | some v => .go (gdP g (evO s.t c) ∧ gdP (g && c') (evO s.t a) ∧ gdP (g && !c') (evO s.t b)) { s with t := setD s.t o.dst (.gd g v) }
          | none => .stop
        | _ => .stop
      | op => match pureOpC T s (fun x => ungd (evO s.t x)) op with
        | some (p, v) => .go (gdPs s.t g op.operands.toList ∧ (g = true → p)) { s with t := setD s.t o.dst (.gd g v) }
        | none => .stop
    | none => .stop

/-- What a function comes to from the middle of a region on. -/
def HOps (P : Program) (X : Ctx) (ops : Array Oper) (rest : List Oper) (k : List Item) (s : St) (Φ : St → Prop) : Prop :=
  ∀ i, ops.toList.drop i = rest → HRun P X (.inRegion ops (List.range' i rest.length) :: k) s Φ

/-- The run, told step by step: as far as this goes by itself. -/
def absOps (P : Program) (X : Ctx) (T : Tab) (ops : Array Oper) (k : List Item) (Φ : St → Prop) (next : St → Prop) : List Oper → St → Prop
  | [], s => next s
  | o :: rest, s => match absOp T ops s o with
    | .go p s' => p ∧ absOps P X T ops k Φ next rest s'
    | .stop => HOps P X ops (o :: rest) k s Φ

def absRun (P : Program) (X : Ctx) (T : Tab) (Φ : St → Prop) : Nat → List Item → St → Prop
  | 0, todo, s => HRun P X todo s Φ
  | n + 1, todo, s => match todo with
    | [] => Φ s
    | .code .ret :: _ => Φ s
    | .code .skip :: k => absRun P X T Φ n k s
    | .inBlock _ :: k => absRun P X T Φ n k s
    | .code (.label _) :: k => absRun P X T Φ n k s
    | .inScope _ :: k => absRun P X T Φ n k s
    | .code (.scope c) :: k => absRun P X T Φ n (.code c :: .inScope c :: k) s
    | .code (.seq a b) :: k => absRun P X T Φ n (.code a :: .code b :: k) s
    | .code (.block id c) :: k => absRun P X T Φ n (.code c :: .inBlock id :: k) s
    | .code (.exit id) :: k => match exitTo id k with
      | some k' => absRun P X T Φ n k' s
      | none => HRun P X (.code (.exit id) :: k) s Φ
    | .code (.cond c x y) :: k => match evO s.t c with
      | .bool b => if b = true then absRun P X T Φ n (.code x :: k) s else absRun P X T Φ n (.code y :: k) s
      | _ => HRun P X (.code (.cond c x y) :: k) s Φ
    | .code (.region id ops false) :: k => absOps P X T ops k Φ (absRun P X T Φ n k) ops.toList ⟨s.t, s.b, ⟨s.c.c + 1, [], s.c.o⟩⟩
    | todo => HRun P X todo s Φ

end Go.Proofs.YtdhnjmepgafeiaaDoor.Abs

/- OWN LIBRARY, part 3: operations that leave memory as it is do what was told of them. -/
set_option linter.unusedVariables false
set_option linter.unusedSimpArgs false
namespace Go.Proofs.YtdhnjmepgafeiaaDoor.Abs
open Go

def tyOk (P : Program) (t : TypeId) : TyI → Prop
  | .int k => P.underlying t = some (.int k)
  | .bool => P.underlying t = some .bool
  | .string => P.underlying t = some .string
  | .slice e => P.underlying t = some (.slice e)
  | .array n e => P.underlying t = some (.array n e)
  | .struct fs => ∃ f, P.underlying t = some (.struct f) ∧ f.toList.map (fun x => (x.offset, x.type)) = fs
  | .pointer e => P.underlying t = some (.pointer e)
  | .other => True

def ZeroOk : List SV → List Value → Prop
  | [], cs => cs = []
  | .arr k n l :: r, cs => l.length = n ∧ ∃ cs', cs = l.map (.int k) ++ cs' ∧ ZeroOk r cs'
  | x :: r, cs => ∃ v cs', cs = v :: cs' ∧ x = constSV v ∧ ZeroOk r cs'

structure TabOk (P : Program) (T : Tab) : Prop where
  ty : ∀ t, tyOk P t (T.ty t)
  info : ∀ t, T.size t ≠ 0 → ∃ i, P.info? t = some i ∧ i.size = T.size t ∧ i.bytes = T.bytes t ∧ ∃ z, i.zero = some z ∧ ZeroOk (T.zero t) z.cells.toList ∧ z.cells.size = T.size t
  dep : 2 ≤ P.depth
  eq : ∀ t, T.eqS t = true → P.stoodInHeld t = false ∧ P.eqGuardType P.depth t = false ∧ ∀ f ∈ (P.fieldsOf t).toList, f.name ≠ "_"

section
variable {X : Ctx} {b : List (Nat × Nat × Blk)} {c : Lim} {σ : Env} {w : World}

theorem V0_const (v : Value) : V0 X b c σ w (constSV v) v := by
  unfold constSV
  split <;> simp [V0]

theorem V1_of_V0 {x : SV} {v : Value} (h : V0 X b c σ w x v) : V1 X b c σ w x v := by
  cases x <;> first | exact h | exact h.elim

theorem V2_of_V1 {x : SV} {v : Value} (h : V1 X b c σ w x v) : V2 X b c σ w x v := by
  cases x <;> first | exact h | exact False.elim (by simp [V1, V0] at h)

theorem V_of_V2 {x : SV} {v : Value} (h : V2 X b c σ w x v) : V X b c σ w x v := by
  cases x <;> first | exact h | exact False.elim (by simp [V2, V1, V0] at h)

theorem V2_const (v : Value) : V2 X b c σ w (constSV v) v := V2_of_V1 (V1_of_V0 (V0_const v))

theorem V_ungd {x : SV} {v : Value} {g : Bool} (h : V X b c σ w x v) (hg : gdP g x) (e : g = true) : V2 X b c σ w (ungd x) v := by
  cases x <;> first | exact h | exact h.1 (hg e)

theorem V_evO {s : St} {a : Act} (h : R X s σ w a) (x : Operand) : V X s.b s.c σ w (evO s.t x) (a.eval x) := by
  cases x with
  | tmp i =>
    by_cases hi : i < s.t.length
    · exact h.tm i hi
    · have : s.t.getD i .any = .any := by simp [List.getD, List.getElem?_eq_none (Nat.le_of_not_lt hi)]
      simp only [evO, this]; exact V.any _
  | const v => exact V_of_V2 (V2_const v)
  | global g => exact rfl
  | func f => exact rfl

theorem gdPs_mem {t : List SV} {g : Bool} : ∀ {l : List Operand}, gdPs t g l → ∀ x, x ∈ l → gdP g (evO t x)
  | [], _, x, h => by simp at h
  | y :: l, h, x, hx => by
    rcases List.mem_cons.1 hx with rfl | hx
    · exact h.1
    · exact gdPs_mem h.2 x hx
end

theorem isI_eq {k : IntKind} {x : TyI} (h : isI k x) : x = .int k := by cases x <;> simp_all [isI]
theorem isB_eq {x : TyI} (h : isB x) : x = .bool := by cases x <;> simp_all [isB]

section
variable {P : Program} {w : World}

theorem run_eqGuard_int (op : BinOp) (t : TypeId) (x y : Operand) (k k' : IntKind) (a b : Int) : (eqGuard op t x y (.int k a) (.int k' b)).run P w = .ok () w := by
  cases op <;> simp [eqGuard]
theorem run_eqGuard_str (op : BinOp) (t : TypeId) (x y : Operand) (a b : ByteArray) : (eqGuard op t x y (.string a) (.string b)).run P w = .ok () w := by
  cases op <;> simp [eqGuard]
theorem run_eqGuard_bool (op : BinOp) (t : TypeId) (x y : Operand) (a b : Bool) : (eqGuard op t x y (.bool a) (.bool b)).run P w = .ok () w := by
  cases op <;> simp [eqGuard]

theorem binI_ok {X : Ctx} {b : List (Nat × Nat × Blk)} {c : Lim} {σ : Env} {op : BinOp} {t : TypeId} {k k' : IntKind} {x y : Int} {p : Prop} {v : SV} (h : binI op k x k' y = some (p, v)) (hp : p) :
    ∃ u, (binOp op t (.int k x) (.int k' y)).run P w = .ok u w ∧ V2 X b c σ w v u := by
  cases op
  case shl =>
    simp only [binI, Option.some.injEq, Prod.mk.injEq] at h
    obtain ⟨rfl, rfl⟩ := h
    have : ¬ y < 0 := by omega
    exact ⟨_, by simp [binOp, Op.shift, this, shlI, shrI], rfl⟩
  case shr =>
    simp only [binI, Option.some.injEq, Prod.mk.injEq] at h
    obtain ⟨rfl, rfl⟩ := h
    have : ¬ y < 0 := by omega
    exact ⟨_, by simp [binOp, Op.shift, this, shlI, shrI], rfl⟩
  case quo =>
    simp only [binI, Option.some.injEq, Prod.mk.injEq] at h
    obtain ⟨rfl, rfl⟩ := h
    obtain ⟨rfl, hy⟩ := hp
    exact ⟨_, by simp [binOp, Op.intDiv, hy, quoI, remI], rfl⟩
  case rem =>
    simp only [binI, Option.some.injEq, Prod.mk.injEq] at h
    obtain ⟨rfl, rfl⟩ := h
    obtain ⟨rfl, hy⟩ := hp
    exact ⟨_, by simp [binOp, Op.intDiv, hy, quoI, remI], rfl⟩
  all_goals
    simp only [binI, Option.some.injEq, Prod.mk.injEq] at h
    obtain ⟨rfl, rfl⟩ := h
    subst hp
    exact ⟨_, by simp [binOp, Op.intArith, Op.intBits, Op.intCmp, bitsI], rfl⟩
end

section
variable {P : Program} {T : Tab} {X : Ctx} {b : List (Nat × Nat × Blk)} {c : Lim} {σ : Env} {w : World}

theorem drop_beq (l m : List Int) (s : Nat) (h : s < l.length) (h' : s < m.length) : (l.drop s == m.drop s) = (l.getD s 0 == m.getD s 0 && l.drop (s + 1) == m.drop (s + 1)) := by
  have e1 : l.getD s 0 = l[s] := by simp [List.getD, h]
  have e2 : m.getD s 0 = m[s] := by simp [List.getD, h']
  rw [List.drop_eq_getElem_cons h, List.drop_eq_getElem_cons h', List.cons_beq_cons, e1, e2]

theorem run_arr_loop {d0 : Nat} {et : TypeId} {k : IntKind} (l m : List Int) (n : Nat) (hl : l.length = n) (hm : m.length = n)
    (hpart : ∀ (q : List Int) i, i < q.length → (part et (q.map (Value.int k)).toArray (i * 1)).run P w = .ok (.int k (q.getD i 0)) w)
    (heq : ∀ x y, (Op.equalIn (d0 + 1) et (.int k x) (.int k y)).run P w = .ok (x == y) w) :
    ∀ (d s : Nat), s + d = n →
    (forIn (List.range' s d) ((none, ()) : Option Bool × Unit) fun i __s => do
            let __do_lift ← part et (List.map (Value.int k) l).toArray (i * 1)
            let __do_lift_1 ← part et (List.map (Value.int k) m).toArray (i * 1)
            let __do_lift ← Op.equalIn (d0 + 1) et __do_lift __do_lift_1
            if (!__do_lift) = true then pure (ForInStep.done (some false, ())) else pure (ForInStep.yield (none, ())) : Sem (Option Bool × Unit)).run P w
      = .ok (if l.drop s == m.drop s then none else some false, ()) w := by
  intro d
  induction d with
  | zero =>
    intro s hs
    have h1 : l.drop s = [] := List.drop_eq_nil_of_le (by omega)
    have h2 : m.drop s = [] := List.drop_eq_nil_of_le (by omega)
    simp [h1, h2]
  | succ d ih =>
    intro s hs
    have h1 : s < l.length := by omega
    have h2 : s < m.length := by omega
    have := ih (s + 1) (by omega)
    simp only [List.range'_succ, List.forIn_cons, Sem.run_bind, hpart l s h1, hpart m s h2, Result.andThen_ok, heq, drop_beq l m s h1 h2]
    cases hb : (l.getD s 0 == m.getD s 0)
    · simp
    · simp only [Bool.not_true, Bool.false_eq_true, if_false, Sem.run_pure, Result.andThen_ok, Bool.true_and]
      exact this

theorem run_equalIn_arr (TO : TabOk P T) (d0 : Nat) {t : TypeId} {n : Nat} {k : IntKind} (hA : isA T n k (T.ty t)) (l m : List Int) (hl : l.length = n) (hm : m.length = n) :
    (Op.equalIn (d0 + 2) t (.agg (l.map (Value.int k)).toArray) (.agg (m.map (Value.int k)).toArray)).run P w = .ok (l == m) w := by
  have ht := TO.ty t
  cases e : T.ty t <;> rw [e] at hA <;> simp only [isA] at hA
  rename_i n' et
  obtain ⟨rfl, hk, hs⟩ := hA
  rw [e] at ht; simp only [tyOk] at ht
  have he := TO.ty et
  rw [isI_eq hk] at he; simp only [tyOk] at he
  obtain ⟨i, hi, his, _⟩ := TO.info et (by rw [hs]; decide)
  have hi1 : i.size = 1 := his.trans hs
  have hint : (isAgg et).run P w = .ok false w := by simp [isAgg, run_underlying he]
  have hso : (sizeOf et).run P w = .ok 1 w := by simp [sizeOf, typeInfo, hi, hi1]
  rw [Op.equalIn]
  simp only [Sem.run_bind, run_underlying ht, Result.andThen_ok, hso]
  rw [Std.Legacy.Range.forIn_eq_forIn_range']
  have hpart : ∀ (q : List Int) i, i < q.length → (part et (q.map (Value.int k)).toArray (i * 1)).run P w = .ok (.int k (q.getD i 0)) w := by
    intro q i hi
    simp [part, hint, hi, List.getD]
  have := run_arr_loop (P := P) (w := w) (et := et) (k := k) l m l.length rfl (hm.trans hl.symm) hpart (fun x y => run_equalIn_int w d0 et k k x y he) l.length 0 (by omega)
  simp only [Std.Legacy.Range.size, Nat.sub_zero, Nat.add_sub_cancel, Nat.div_one, ← hl, this, Result.andThen_ok, List.drop_zero]
  cases l == m <;> simp

theorem run_equal_arr (TO : TabOk P T) {t : TypeId} {n : Nat} {k : IntKind} (hA : isA T n k (T.ty t)) (l m : List Int) (hl : l.length = n) (hm : m.length = n) :
    (Op.equal t (.agg (l.map (Value.int k)).toArray) (.agg (m.map (Value.int k)).toArray)).run P w = .ok (l == m) w := by
  unfold Op.equal Op.maxDepth
  exact run_equalIn_arr TO 9998 hA l m hl hm

theorem eqGuard_arr (TO : TabOk P T) {t : TypeId} {n : Nat} {k : IntKind} (hA : isA T n k (T.ty t)) (op : BinOp) (x y : Operand) (xs ys : Array Value) :
    (eqGuard op t x y (.agg xs) (.agg ys)).run P w = .ok () w := by
  refine run_eqGuard_agg w op t x y xs ys ?_
  have ht := TO.ty t
  cases e : T.ty t <;> rw [e] at hA <;> simp only [isA] at hA
  rename_i n' et
  obtain ⟨rfl, hk, hs⟩ := hA
  rw [e] at ht; simp only [tyOk] at ht
  have he := TO.ty et
  rw [isI_eq hk] at he; simp only [tyOk] at he
  obtain ⟨d, hd⟩ : ∃ d, P.depth = d + 2 := ⟨P.depth - 2, by have := TO.dep; omega⟩
  rw [hd]
  simp [Program.eqGuardType, ht, he]

theorem isP_eq {x : TyI} (h : isP x) : ∃ e, x = .pointer e := by cases x <;> simp_all [isP]

theorem ptrE_ok (TO : TabOk P T) {op : BinOp} {t : TypeId} {x y : SV} {x' y' : Value} {X' Y' : Operand} {p : Prop} {v : SV} (h : ptrE T b op t x y = some (p, v)) (hp : p)
    (hx : V2 X b c σ w x x') (hy : V2 X b c σ w y y') :
    ∃ u, (do eqGuard op t X' Y' x' y'; binOp op t x' y' : Sem Value).run P w = .ok u w ∧ V2 X b c σ w v u := by
  have key : ∀ (r : Bool) (q : Option Addr), isP (T.ty t) → x' = .pointer q → y' = .pointer none → r = q.isNone →
      (op = .eql → ∃ u, (do eqGuard op t X' Y' x' y'; binOp op t x' y' : Sem Value).run P w = .ok u w ∧ V2 X b c σ w (.bool r) u) ∧
      (op = .neq → ∃ u, (do eqGuard op t X' Y' x' y'; binOp op t x' y' : Sem Value).run P w = .ok u w ∧ V2 X b c σ w (.bool (!r)) u) := by
    rintro r q hP rfl rfl rfl
    obtain ⟨e, he⟩ := isP_eq hP
    have ht := TO.ty t
    rw [he] at ht; simp only [tyOk] at ht
    have hpt : P.underlying t = some (.pointer (P.pointee t)) := by
      have : P.pointee t = e := by unfold Program.pointee; rw [ht]
      rw [this]; exact ht
    constructor
    · rintro rfl; exact ⟨_, by simp [eqGuard, run_eql_pointer_nil w t q hpt], rfl⟩
    · rintro rfl; exact ⟨_, by simp [eqGuard, run_neq_pointer_nil w t q hpt], rfl⟩
  unfold ptrE at h
  split at h
  · rename_i n g off
    cases eb : blkAt b n g <;> simp only [eb, reduceCtorEq] at h
    have hy : y' = .pointer none := hy
    obtain ⟨hc, hl⟩ := (hx : c.ok n g ∧ (Live b n g → ∃ B, σ n = some B ∧ x' = .pointer (some ⟨B, off, none⟩)))
    obtain ⟨B, hB, e2⟩ := hl (by
      unfold blkAt at eb
      cases ef : fnd b n with
      | none => simp [ef] at eb
      | some z =>
        obtain ⟨g', x0⟩ := z
        simp only [ef] at eb
        by_cases hg : g' = g
        · exact ⟨x0, by rw [ef, hg]⟩
        · simp [hg] at eb)
    cases op <;> simp only [reduceCtorEq, Option.some.injEq, Prod.mk.injEq] at h
    · obtain ⟨rfl, rfl⟩ := h; exact (key false _ hp e2 hy rfl).1 rfl
    · obtain ⟨rfl, rfl⟩ := h; exact (key false _ hp e2 hy rfl).2 rfl
  · have hx : x' = .pointer none := hx
    have hy : y' = .pointer none := hy
    cases op <;> simp only [reduceCtorEq, Option.some.injEq, Prod.mk.injEq] at h
    · obtain ⟨rfl, rfl⟩ := h; exact (key true _ hp hx hy rfl).1 rfl
    · obtain ⟨rfl, rfl⟩ := h; exact (key true _ hp hx hy rfl).2 rfl
  · cases h

theorem unV_ok {op : UnOp} {x : SV} {x' : Value} {p : Prop} {v : SV} (h : unV op x = some (p, v)) (hx : V2 X b c σ w x x') :
    ∃ u, (Op.unary op x').run P w = .ok u w ∧ V2 X b c σ w v u := by
  cases x <;> simp only [unV, reduceCtorEq] at h
  case bool s =>
    obtain rfl : x' = .bool s := hx
    cases op <;> simp only [reduceCtorEq, Option.some.injEq, Prod.mk.injEq] at h
    obtain ⟨rfl, rfl⟩ := h
    exact ⟨_, by simp [Op.unary], rfl⟩
  case int k n =>
    obtain rfl : x' = .int k n := hx
    cases op <;> simp only [reduceCtorEq, Option.some.injEq, Prod.mk.injEq] at h
    all_goals
      obtain ⟨rfl, rfl⟩ := h
      exact ⟨_, by simp [Op.unary, Op.intArith, Op.intBits, bitsI], rfl⟩

theorem known_ok (TO : TabOk P T) {t : TypeId} (h : known (T.ty t) = true) : ∃ d, P.underlying t = some d := by
  have ht := TO.ty t
  cases e : T.ty t <;> rw [e] at ht h <;> simp only [tyOk, known, Bool.false_eq_true] at ht h
  case struct => obtain ⟨f, hf, _⟩ := ht; exact ⟨_, hf⟩
  all_goals exact ⟨_, ht⟩

theorem convV_ok (TO : TabOk P T) {src dst : TypeId} {x : SV} {x' : Value} {p : Prop} {v : SV} (h : convV T dst x = some (p, v)) (hx : V2 X b c σ w x x') (hs : known (T.ty src) = true) :
    ∃ u, (convert src dst x').run P w = .ok u w ∧ V2 X b c σ w v u := by
  obtain ⟨d, hs⟩ := known_ok TO hs
  have ht := TO.ty dst
  cases x <;> simp only [convV, reduceCtorEq] at h
  case int k n =>
    obtain rfl : x' = .int k n := hx
    cases e : T.ty dst <;> simp only [e, reduceCtorEq, Option.some.injEq, Prod.mk.injEq] at h
    obtain ⟨rfl, rfl⟩ := h
    rw [e] at ht; simp only [tyOk] at ht
    refine ⟨_, ?_, rfl⟩
    simp only [convert, Sem.run_bind, run_underlying hs, run_underlying ht, Result.andThen_ok, Conv.intToInt]
    rfl
  case str s =>
    obtain rfl : x' = .string s := hx
    cases e : T.ty dst <;> simp only [e, reduceCtorEq, Option.some.injEq, Prod.mk.injEq] at h
    obtain ⟨rfl, rfl⟩ := h
    rw [e] at ht; simp only [tyOk] at ht
    refine ⟨_, ?_, rfl⟩
    simp only [convert, Sem.run_bind, run_underlying hs, run_underlying ht, Result.andThen_ok]
    rfl
end

end Go.Proofs.YtdhnjmepgafeiaaDoor.Abs

/- OWN LIBRARY, part 4: addresses, reads, cuts do what was told of them. -/
set_option linter.unusedVariables false
set_option linter.unusedSimpArgs false
namespace Go.Proofs.YtdhnjmepgafeiaaDoor.Abs
open Go

theorem blkAt_fnd {b : List (Nat × Nat × Blk)} {n g : Nat} {x : Blk} (h : blkAt b n g = some x) : fnd b n = some (g, x) := by
  unfold blkAt at h
  split at h
  · rename_i g' y e
    split at h
    · rename_i hg; subst hg; simp only [Option.some.injEq] at h; subst h; exact e
    · simp at h
  · simp at h

theorem blkAt_live {b : List (Nat × Nat × Blk)} {n g : Nat} {x : Blk} (h : blkAt b n g = some x) : Live b n g := ⟨x, blkAt_fnd h⟩

theorem addr_add (B o n : Nat) : (⟨B, o, none⟩ : Addr).add n = ⟨B, o + n, none⟩ := by unfold Addr.add; split <;> simp_all

section
variable {P : Program} {T : Tab} {X : Ctx} {b : List (Nat × Nat × Blk)} {c : Lim} {σ : Env} {w : World}

theorem size_run (TO : TabOk P T) {t : TypeId} (h : T.size t ≠ 0) : (sizeOf t).run P w = .ok (T.size t) w := by
  obtain ⟨i, hi, hs, _⟩ := TO.info t h
  simp [sizeOf, typeInfo, hi, hs]

theorem fieldOf_at {fl : Array Field} {fs : List (Nat × TypeId)} (hm : fl.toList.map (fun x => (x.offset, x.type)) = fs) {f o : Nat} {ft : TypeId} (e2 : fieldOf fs f = some (o, ft)) :
    ∃ fld, fl[f]? = some fld ∧ fld.offset = o ∧ fld.type = ft := by
  have : fl.toList[f]?.map (fun x => (x.offset, x.type)) = some (o, ft) := by
    rw [← List.getElem?_map, hm]; exact e2
  cases e3 : fl.toList[f]? with
  | none => simp [e3] at this
  | some fld => simp only [e3, Option.map_some, Option.some.injEq, Prod.mk.injEq] at this; exact ⟨fld, by simpa using e3, this⟩

theorem faddrV_ok (TO : TabOk P T) {t : TypeId} {f : Nat} {x : SV} {x' : Value} {p : Prop} {v : SV} (h : faddrV T b t f x = some (p, v)) (hp : p)
    (hx : V2 X b c σ w x x') : ∃ u, (Instr.fieldAt t x' f).run P w = .ok u w ∧ V2 X b c σ w v u := by
  cases x <;> simp only [faddrV, reduceCtorEq] at h
  case ptr n g off =>
    cases e : T.ty t <;> simp only [e, reduceCtorEq] at h
    rename_i fs
    cases e2 : fieldOf fs f <;> simp only [e2, reduceCtorEq, Option.some.injEq, Prod.mk.injEq] at h
    rename_i y
    obtain ⟨o, ft⟩ := y
    simp only at h
    cases e1 : blkAt b n g <;> simp only [e1, reduceCtorEq, Option.some.injEq, Prod.mk.injEq] at h
    obtain ⟨rfl, rfl⟩ := h
    have ht := TO.ty t
    rw [e] at ht; simp only [tyOk] at ht
    obtain ⟨fl, hfl, hm⟩ := ht
    obtain ⟨fld, hfld, rfl, rfl⟩ := fieldOf_at hm e2
    obtain ⟨hc, hl⟩ := hx
    obtain ⟨B, hB, rfl⟩ := hl (blkAt_live e1)
    have hsz := size_run (w := w) TO hp
    refine ⟨.pointer (some ⟨B, off + fld.offset, none⟩), ?_, hc, fun _ => ⟨B, hB, rfl⟩⟩
    simp [Instr.fieldAt, run_underlying hfl, hfld, Instr.sureAddr, fieldPlace, hsz, hp, addr_add]
  case eptr n g seg el i m =>
    cases e : T.ty t <;> simp only [e, reduceCtorEq] at h
    rename_i fs
    cases e2 : fieldOf fs f <;> simp only [e2, reduceCtorEq, Option.some.injEq, Prod.mk.injEq] at h
    rename_i y
    obtain ⟨o, ft⟩ := y
    simp only at h
    cases e1 : blkAt b n g <;> simp only [e1, reduceCtorEq, Option.some.injEq, Prod.mk.injEq] at h
    obtain ⟨rfl, rfl⟩ := h
    have ht := TO.ty t
    rw [e] at ht; simp only [tyOk] at ht
    obtain ⟨fl, hfl, hm⟩ := ht
    obtain ⟨fld, hfld, rfl, rfl⟩ := fieldOf_at hm e2
    obtain ⟨him, hc, hl⟩ := hx
    obtain ⟨B, hB, rfl⟩ := hl (blkAt_live e1)
    have hsz := size_run (w := w) TO hp
    refine ⟨.pointer (some ⟨B, seg + i * el + fld.offset, none⟩), ?_, hc, fun _ => ⟨B, hB, rfl⟩⟩
    simp [Instr.fieldAt, run_underlying hfl, hfld, Instr.sureAddr, fieldPlace, hsz, hp, addr_add]
  case vptr tag d i j =>
    cases e : T.ty t <;> simp only [e, reduceCtorEq] at h
    rename_i fs
    cases e2 : fieldOf fs f <;> simp only [e2, reduceCtorEq, Option.some.injEq, Prod.mk.injEq] at h
    rename_i y
    obtain ⟨o, ft⟩ := y
    simp only [Option.some.injEq, Prod.mk.injEq] at h
    obtain ⟨rfl, rfl⟩ := h
    have ht := TO.ty t
    rw [e] at ht; simp only [tyOk] at ht
    obtain ⟨fl, hfl, hm⟩ := ht
    obtain ⟨fld, hfld, rfl, rfl⟩ := fieldOf_at hm e2
    obtain ⟨hi, B, q, rfl, hv, hh⟩ := hx
    have hsz := size_run (w := w) TO hp
    refine ⟨.pointer (some ⟨B, q + i * d.esz + j + fld.offset, none⟩), ?_, hi, B, q, by rw [Nat.add_assoc], hv, hh⟩
    simp [Instr.fieldAt, run_underlying hfl, hfld, Instr.sureAddr, fieldPlace, hsz, hp, addr_add]

theorem iaddrV_ok (TO : TabOk P T) {t : TypeId} {x y : SV} {x' y' : Value} {p : Prop} {v : SV} (h : iaddrV T b t x y = some (p, v)) (hp : p)
    (hx : V2 X b c σ w x x') (hy : V2 X b c σ w y y') : ∃ u, (Instr.indexAt t x' y').run P w = .ok u w ∧ V2 X b c σ w v u := by
  cases y <;> (try (cases x <;> simp only [iaddrV, reduceCtorEq] at h; done))
  rename_i ky i
  obtain rfl : y' = .int ky i := hy
  have ht := TO.ty t
  cases x <;> simp only [iaddrV, reduceCtorEq] at h
  case ptr n g off =>
    cases e : T.ty t <;> simp only [e, reduceCtorEq] at h
    rename_i len el
    rw [e] at ht; simp only [tyOk] at ht
    cases e1 : blkAt b n g <;> simp only [e1, reduceCtorEq, Option.some.injEq, Prod.mk.injEq] at h
    obtain ⟨rfl, rfl⟩ := h
    obtain ⟨h0, hi0, hi1⟩ := hp
    obtain ⟨hc, hl⟩ := hx
    obtain ⟨B, hB, rfl⟩ := hl (blkAt_live e1)
    have hsz := size_run (w := w) TO h0
    refine ⟨.pointer (some ⟨B, off + i.toNat * T.size el, none⟩), ?_, by omega, hc, fun _ => ⟨B, hB, rfl⟩⟩
    simp only [Instr.indexAt, asIntOf, Sem.run_bind, Sem.run_pure, Result.andThen_ok, run_underlying ht, Instr.sureAddr]
    simp [hi0, hi1, hsz, addr_add]
  case sl n g seg e off len =>
    cases e0 : T.ty t <;> simp only [e0, reduceCtorEq] at h
    rename_i el
    rw [e0] at ht; simp only [tyOk] at ht
    cases e1 : blkAt b n g <;> simp only [e1, reduceCtorEq, Option.some.injEq, Prod.mk.injEq] at h
    obtain ⟨rfl, rfl⟩ := h
    obtain ⟨hne, h0, hi0, hi1⟩ := hp
    obtain ⟨hc, hl⟩ := hx
    obtain ⟨a, cap, rfl, hlc, hcap⟩ := hl (blkAt_live e1)
    obtain ⟨B, hB, rfl, _⟩ := hcap (by omega)
    have hsz := size_run (w := w) TO hne
    refine ⟨.pointer (some ⟨B, seg + off * e + i.toNat * e, none⟩), ?_, by omega, hc, fun _ => ⟨B, hB, ?_⟩⟩
    · simp only [Instr.indexAt, asIntOf, Sem.run_bind, Sem.run_pure, Result.andThen_ok, run_underlying ht]
      simp [hi0, hi1, hsz, addr_add, h0]
    · rw [Nat.add_mul, Nat.add_assoc]
  case view tag d =>
    cases e0 : T.ty t <;> simp only [e0, reduceCtorEq, Option.some.injEq, Prod.mk.injEq] at h
    rename_i el
    rw [e0] at ht; simp only [tyOk] at ht
    obtain ⟨rfl, rfl⟩ := h
    obtain ⟨hne, h0, hi0, hi1⟩ := hp
    obtain ⟨a, cap, rfl, hlc, hv⟩ := hx
    obtain ⟨B, o, rfl, hvw, hh⟩ := hv (by omega)
    have hsz := size_run (w := w) TO hne
    refine ⟨.pointer (some ⟨B, o + i.toNat * d.esz, none⟩), ?_, by omega, B, o, rfl, hvw, hh⟩
    simp only [Instr.indexAt, asIntOf, Sem.run_bind, Sem.run_pure, Result.andThen_ok, run_underlying ht]
    simp [hi0, hi1, hsz, addr_add, h0]

theorem indexV_ok (TO : TabOk P T) {t : TypeId} {x y : SV} {x' y' : Value} {p : Prop} {v : SV} (h : indexV T t x y = some (p, v)) (hp : p)
    (hx : V2 X b c σ w x x') (hy : V2 X b c σ w y y') : ∃ u, (Instr.index t x' y').run P w = .ok u w ∧ V2 X b c σ w v u := by
  cases y <;> (try (cases x <;> simp only [indexV, reduceCtorEq] at h; done))
  rename_i ky i
  obtain rfl : y' = .int ky i := hy
  have ht := TO.ty t
  cases x <;> simp only [indexV, reduceCtorEq] at h
  case arr k n l =>
    cases e : T.ty t <;> simp only [e, reduceCtorEq, Option.some.injEq, Prod.mk.injEq] at h
    rename_i len el
    rw [e] at ht; simp only [tyOk] at ht
    obtain ⟨rfl, rfl⟩ := h
    obtain ⟨rfl, h1, hI, hi0, hi1⟩ := hp
    obtain ⟨rfl, hl⟩ := (hx : _ ∧ _)
    have he := TO.ty el
    rw [isI_eq hI] at he; simp only [tyOk] at he
    have hsz := size_run (w := w) TO (t := el) (by omega)
    have hin : i.toNat < l.length := by omega
    refine ⟨.int k (l.getD i.toNat 0), ?_, rfl⟩
    simp only [Instr.index, asIntOf, Sem.run_bind, Sem.run_pure, Result.andThen_ok, run_underlying ht]
    simp [hi0, hi1, hsz, h1, part, isAgg, run_underlying he, hin, List.getD]
  case str s =>
    cases e : T.ty t <;> simp only [e, reduceCtorEq, Option.some.injEq, Prod.mk.injEq] at h
    rw [e] at ht; simp only [tyOk] at ht
    obtain ⟨rfl, rfl⟩ := h
    obtain ⟨hi0, hi1⟩ := hp
    obtain rfl : x' = .string s := hx
    have hin : i.toNat < s.size := by omega
    refine ⟨.int .u8 ((s.data.toList.getD i.toNat 0).toNat : Int), ?_, rfl⟩
    have e1 : s[i.toNat]? = some (s.data.toList.getD i.toNat 0) := by
      have : i.toNat < s.data.size := hin
      rw [getElem?_pos s i.toNat hin]
      simp only [List.getD, Array.getElem?_toList, Array.getElem?_eq_getElem this, Option.getD_some]
      rfl
    simp only [Instr.index, asIntOf, Sem.run_bind, Sem.run_pure, Result.andThen_ok, run_underlying ht]
    simp [hi0, e1]

theorem extractV_ok {i : Nat} {x : SV} {x' : Value} {p : Prop} {v : SV} (h : extractV i x = some (p, v)) (hx : V2 X b c σ w x x') :
    ∃ u, (Instr.extract x' i).run P w = .ok u w ∧ V2 X b c σ w v u := by
  cases x <;> simp only [extractV, reduceCtorEq] at h
  rename_i l
  cases e : l[i]? <;> simp only [e, reduceCtorEq, Option.some.injEq, Prod.mk.injEq] at h
  rename_i y
  obtain ⟨rfl, rfl⟩ := h
  obtain ⟨vs, rfl, ha⟩ := hx
  have key : ∀ (l : List SV) (vs : List Value) (i : Nat) (y : SV), All1 X b c σ w l vs → l[i]? = some y → ∃ u, vs[i]? = some u ∧ V1 X b c σ w y u := by
    intro l
    induction l with
    | nil => intro vs i y _ h; simp at h
    | cons z l ih =>
      intro vs i y h e
      obtain ⟨u, us, rfl, h1, h2⟩ := h
      cases i with
      | zero => simp only [List.getElem?_cons_zero, Option.some.injEq] at e; subst e; exact ⟨u, rfl, h1⟩
      | succ i => simpa using ih us i y h2 (by simpa using e)
  obtain ⟨u, hu, hv⟩ := key l vs.toList i y ha e
  have hu' : vs[i]? = some u := by simpa using hu
  exact ⟨u, by simp [Instr.extract, hu'], V2_of_V1 hv⟩

theorem Holds.sub {vw : Bool → Nat → Prop} {B o : Nat} {d : Data} (h : Holds vw w B o d) {l n : Nat} (hl : l + n ≤ d.len) : Holds vw w B (o + l * d.esz) (d.sub l n) := by
  have elen : (d.sub l n).len = n := by cases d <;> simp [Data.sub, Data.len] at hl ⊢ <;> omega
  have eesz : (d.sub l n).esz = d.esz := by cases d <;> rfl
  intro i j hi hj
  rw [elen] at hi; rw [eesz] at hj ⊢
  obtain ⟨x, hx, hc⟩ := h (l + i) j (by omega) hj
  refine ⟨x, ?_, ?_⟩
  · rw [← hx]; congr 2; rw [Nat.add_mul]; omega
  · have hg : ∀ {α : Type} (q : List α) (z : α), ((q.drop l).take n).getD i z = q.getD (l + i) z := by
      intro α q z; simp [List.getD, List.getElem?_take, hi]
    cases d <;> simp only [CellOk, Data.sub, hg] at hc ⊢ <;> exact hc

theorem sub_len {d : Data} {l n : Nat} (hl : l + n ≤ d.len) : (d.sub l n).len = n := by
  cases d <;> simp [Data.sub, Data.len] at hl ⊢ <;> omega
theorem sub_esz {d : Data} {l n : Nat} : (d.sub l n).esz = d.esz := by cases d <;> rfl

/-- The bounds of a cut are found. -/
theorem bounds_ok {isS : Bool} {len cap : Nat} {lo hi mx : Option SV} {lo' hi' mx' : Option Value} {l h : Int}
    (hlo : lowI lo = some l) (hhi : highI len hi = some h) (e1 : ∀ x, lo = some x → ∃ u, lo' = some u ∧ V2 X b c σ w x u) (e1' : lo = none → lo' = none)
    (e2 : ∀ x, hi = some x → ∃ u, hi' = some u ∧ V2 X b c σ w x u) (e2' : hi = none → hi' = none)
    (e3 : ∀ x, mx = some x → ∃ u, mx' = some u ∧ V2 X b c σ w x u) (e3' : mx = none → mx' = none)
    (h0 : 0 ≤ l) (h1 : l ≤ h) (h2 : h ≤ len) (hc : len ≤ cap) (hm : maxP h hi mx) :
    ∃ m : Nat, h ≤ m ∧ m ≤ cap ∧ (Instr.sliceBounds isS len cap lo' hi' mx').run P w = .ok (l.toNat, h.toNat, m) w := by
  have hL : (lo' = none ∧ l = 0) ∨ ∃ k, lo' = some (.int k l) := by
    cases lo with
    | none => simp only [lowI, Option.some.injEq] at hlo; exact .inl ⟨e1' rfl, hlo.symm⟩
    | some x =>
      obtain ⟨u, hu', hu⟩ := e1 x rfl
      cases x <;> simp only [lowI, reduceCtorEq, Option.some.injEq] at hlo
      rename_i k i
      subst hlo
      exact .inr ⟨k, by rw [hu', show u = .int k i from hu]⟩
  have hH : (hi' = none ∧ h = len ∧ hi = none) ∨ ∃ k, hi' = some (.int k h) := by
    cases hi with
    | none => simp only [highI, Option.some.injEq] at hhi; exact .inl ⟨e2' rfl, hhi.symm, rfl⟩
    | some x =>
      obtain ⟨u, hu', hu⟩ := e2 x rfl
      cases x <;> simp only [highI, reduceCtorEq, Option.some.injEq] at hhi
      rename_i k i
      subst hhi
      exact .inr ⟨k, by rw [hu', show u = .int k i from hu]⟩
  have hM : (mx' = none) ∨ (∃ k, mx' = some (.int k h) ∧ hi ≠ none) := by
    cases mx with
    | none => exact .inl (e3' rfl)
    | some x =>
      obtain ⟨u, hu', hu⟩ := e3 x rfl
      cases x <;> simp only [maxP] at hm
      rename_i k i
      obtain ⟨rfl, hm⟩ := hm
      exact .inr ⟨k, by rw [hu', show u = .int k i from hu], by rintro rfl; simp at hm⟩
  clear e1 e1' e2 e2' e3 e3' hlo hhi hm
  have rl : ∀ k (code : BoundsCode), (Instr.sliceBound (.int k l) h.toNat code).run P w = .ok l.toNat w := fun k code => run_sliceBound w k l h.toNat code h0 (by omega)
  have rh : ∀ k (code : BoundsCode), (Instr.sliceBound (.int k h) cap code).run P w = .ok h.toNat w := fun k code => run_sliceBound w k h cap code (by omega) (by omega)
  have rhh : ∀ k (code : BoundsCode), (Instr.sliceBound (.int k h) h.toNat code).run P w = .ok h.toNat w := fun k code => run_sliceBound w k h h.toNat code (by omega) (by omega)
  rcases hM with rfl | ⟨km, rfl, hne⟩
  · refine ⟨cap, by omega, by omega, ?_⟩
    rcases hH with ⟨rfl, rfl, _⟩ | ⟨kh, rfl⟩ <;> rcases hL with ⟨rfl, rfl⟩ | ⟨kl, rfl⟩
    · simp [Instr.sliceBounds]
    · have := rl kl; simp only [Int.toNat_natCast] at this
      simp [Instr.sliceBounds, this]
    · simp [Instr.sliceBounds, rh]
    · simp [Instr.sliceBounds, rh, rl]
  · refine ⟨h.toNat, by omega, by omega, ?_⟩
    rcases hH with ⟨rfl, rfl, e⟩ | ⟨kh, rfl⟩
    · exact absurd e hne
    rcases hL with ⟨rfl, rfl⟩ | ⟨kl, rfl⟩
    · simp [Instr.sliceBounds, rh, rhh]
    · simp [Instr.sliceBounds, rh, rhh, rl]

theorem arrAt_len {l : List SV} {cs : List Value} {o : Nat} {k : IntKind} {n : Nat} {m : List Int} (h : CellsOk X b c σ w l cs) (e : arrAt l o = some (k, n, m)) :
    o + n ≤ cs.length ∧ m.length = n ∧ ∀ i, i < n → cs[o + i]? = some (.int k (m.getD i 0)) := by
  induction l generalizing cs o with
  | nil => simp [arrAt] at e
  | cons x r ih =>
    cases x
    case arr k' n' l' =>
      obtain ⟨h1, cs', rfl, h2⟩ := h
      simp only [arrAt] at e
      split at e
      · rename_i ho
        subst ho
        simp only [Option.some.injEq, Prod.mk.injEq] at e
        obtain ⟨rfl, rfl, rfl⟩ := e
        refine ⟨by simp; omega, h1, fun i hi => ?_⟩
        rw [Nat.zero_add, List.getElem?_append_left (by simp; omega), List.getElem?_map]
        simp [List.getD, show i < l'.length by omega]
      · split at e
        · rename_i hno
          obtain ⟨g1, g2, g3⟩ := ih h2 e
          refine ⟨by simp; omega, g2, fun i hi => ?_⟩
          rw [List.getElem?_append_right (by simp; omega), ← g3 i hi]
          congr 1
          simp; omega
        · simp at e
    all_goals
      simp only [arrAt] at e
      obtain ⟨v, cs', rfl, h1, h2⟩ := h
      split at e
      · simp at e
      · obtain ⟨g1, g2, g3⟩ := ih h2 e
        refine ⟨by simp; omega, g2, fun i hi => ?_⟩
        rw [← g3 i hi, show o + i = (o - 1 + i) + 1 by omega, List.getElem?_cons_succ]

/-- Operands that may be there. -/
def OptOk (X : Ctx) (b : List (Nat × Nat × Blk)) (c : Lim) (σ : Env) (w : World) (x : Option SV) (x' : Option Value) : Prop :=
  (∀ y, x = some y → ∃ u, x' = some u ∧ V2 X b c σ w y u) ∧ (x = none → x' = none)

theorem sliceV_ok (TO : TabOk P T) {t : TypeId} {x : SV} {lo hi mx : Option SV} {x' : Value} {lo' hi' mx' : Option Value} {p : Prop} {v : SV} (h : sliceV T b t x lo hi mx = some (p, v)) (hp : p)
    (hx : V2 X b c σ w x x') (e1 : OptOk X b c σ w lo lo') (e2 : OptOk X b c σ w hi hi') (e3 : OptOk X b c σ w mx mx')
    (hbl : ∀ n g y, fnd b n = some (g, y) → BlkOk X b c σ w n y) :
    ∃ u, (Instr.sliceAt t x' lo' hi' mx').run P w = .ok u w ∧ V2 X b c σ w v u := by
  have ht := TO.ty t
  cases x <;> simp only [sliceV, reduceCtorEq] at h
  case view tag d =>
    cases e : T.ty t <;> simp only [e, reduceCtorEq] at h
    rename_i el
    rw [e] at ht; simp only [tyOk] at ht
    cases el1 : lowI lo <;> simp only [el1, reduceCtorEq] at h
    cases eh1 : highI d.len hi <;> simp only [eh1, reduceCtorEq, Option.some.injEq, Prod.mk.injEq] at h
    rename_i l hh
    obtain ⟨rfl, rfl⟩ := h
    obtain ⟨hne, hsz0, h0, h1, h2, hm⟩ := hp
    obtain ⟨a, cap, rfl, hlc, hv⟩ := hx
    obtain ⟨m, hm1, hm2, hr⟩ := bounds_ok (P := P) (w := w) (isS := true) el1 eh1 e1.1 e1.2 e2.1 e2.2 e3.1 e3.2 h0 h1 h2 hlc hm
    have hsz := size_run (w := w) TO hne
    have hln : l.toNat + (hh - l).toNat ≤ d.len := by omega
    have hsl := sub_len hln
    refine ⟨.slice (if m = l.toNat then a else a.map (·.add (l.toNat * T.size el))) (hh.toNat - l.toNat) (m - l.toNat), ?_, ?_⟩
    · simp [Instr.sliceAt, Instr.slice, run_underlying ht, hr, hsz]
    · refine ⟨_, m - l.toNat, by rw [hsl]; congr 1; omega, by rw [hsl]; omega, fun hne2 => ?_⟩
      obtain ⟨B, o, rfl, hvw, hhold⟩ := hv (by rw [hsl] at hne2; omega)
      rw [hsl] at hne2
      refine ⟨B, o + l.toNat * d.esz, ?_, hvw, hhold.sub hln⟩
      rw [if_neg (by omega), Option.map_some, addr_add, hsz0]
  case sl n g seg e' off len =>
    cases e : T.ty t <;> simp only [e, reduceCtorEq] at h
    rename_i el
    rw [e] at ht; simp only [tyOk] at ht
    cases el1 : lowI lo <;> simp only [el1, reduceCtorEq] at h
    cases eh1 : highI len hi <;> simp only [eh1, reduceCtorEq] at h
    cases eb : blkAt b n g <;> simp only [eb, reduceCtorEq, Option.some.injEq, Prod.mk.injEq] at h
    rename_i l hh _
    obtain ⟨rfl, rfl⟩ := h
    obtain ⟨hne, hsz0, h0, h1, h2, hm⟩ := hp
    obtain ⟨hc, hl⟩ := hx
    obtain ⟨a, cap, rfl, hlc, hv⟩ := hl (blkAt_live eb)
    obtain ⟨m, hm1, hm2, hr⟩ := bounds_ok (P := P) (w := w) (isS := true) el1 eh1 e1.1 e1.2 e2.1 e2.2 e3.1 e3.2 h0 h1 h2 hlc hm
    have hsz := size_run (w := w) TO hne
    refine ⟨.slice (if m = l.toNat then a else a.map (·.add (l.toNat * T.size el))) (hh.toNat - l.toNat) (m - l.toNat), ?_, hc, fun _ => ?_⟩
    · simp [Instr.sliceAt, Instr.slice, run_underlying ht, hr, hsz]
    · refine ⟨_, m - l.toNat, by congr 1; omega, by omega, fun hne2 => ?_⟩
      have hml : ¬ m = l.toNat := by omega
      obtain ⟨B, hB, rfl, hbs⟩ := hv (by omega)
      refine ⟨B, hB, ?_, ?_⟩
      · rw [if_neg hml, Option.map_some, addr_add, hsz0, Nat.add_mul, Nat.add_assoc]
      · refine Nat.le_trans ?_ hbs
        have h9 : off + l.toNat + (m - l.toNat) ≤ off + cap := by clear hbs hr hsz; omega
        exact Nat.add_le_add_left (Nat.mul_le_mul_right e' h9) seg
  case nil =>
    cases e : T.ty t <;> simp only [e, reduceCtorEq] at h
    rename_i el
    rw [e] at ht; simp only [tyOk] at ht
    cases el1 : lowI lo <;> simp only [el1, reduceCtorEq] at h
    cases eh1 : highI 0 hi <;> simp only [eh1, reduceCtorEq, Option.some.injEq, Prod.mk.injEq] at h
    rename_i l hh
    obtain ⟨rfl, rfl⟩ := h
    obtain ⟨hne, rfl, rfl, hm⟩ := hp
    obtain rfl : x' = .slice none 0 0 := hx
    obtain ⟨m, hm1, hm2, hr⟩ := bounds_ok (P := P) (w := w) (isS := true) (cap := 0) el1 eh1 e1.1 e1.2 e2.1 e2.2 e3.1 e3.2 (by omega) (by omega) (by omega) (by omega) hm
    have hsz := size_run (w := w) TO hne
    obtain rfl : m = 0 := by omega
    refine ⟨.slice none 0 0, ?_, rfl⟩
    simp [Instr.sliceAt, Instr.slice, run_underlying ht, hr, hsz]
  case ptr n g off =>
    cases e : T.ty t <;> simp only [e, reduceCtorEq] at h
    rename_i len el
    rw [e] at ht; simp only [tyOk] at ht
    cases el1 : lowI lo <;> simp only [el1, reduceCtorEq] at h
    cases eh1 : highI len hi <;> simp only [eh1, reduceCtorEq] at h
    cases eb : blkAt b n g <;> simp only [eb, reduceCtorEq] at h
    rename_i l hh bk
    cases bk <;> simp only [reduceCtorEq] at h
    rename_i cs
    cases ea : arrAt cs off <;> simp only [ea, reduceCtorEq, Option.some.injEq, Prod.mk.injEq] at h
    rename_i q
    obtain ⟨k, m0, l0⟩ := q
    simp only at h
    obtain ⟨rfl, rfl⟩ := h
    obtain ⟨hs1, rfl, h0, h1, h2, hm⟩ := hp
    obtain ⟨hc, hl⟩ := hx
    obtain ⟨B, hB, rfl⟩ := hl (blkAt_live eb)
    obtain ⟨m, hm1, hm2, hr⟩ := bounds_ok (P := P) (w := w) (isS := false) (len := m0) (cap := m0) el1 eh1 e1.1 e1.2 e2.1 e2.2 e3.1 e3.2 h0 h1 h2 (Nat.le_refl _) hm
    have hsz := size_run (w := w) TO (t := el) (by omega)
    have hbo := hbl n g _ (blkAt_fnd eb)
    obtain ⟨B', vs, ty, fr, hB', hheap, hfree, hcells⟩ := hbo
    obtain rfl : B = B' := by simpa using hB.symm.trans hB'
    have hlen := arrAt_len hcells ea
    refine ⟨.slice (some (if m = l.toNat then ⟨B, off, none⟩ else (⟨B, off, none⟩ : Addr).add (l.toNat * T.size el))) (hh.toNat - l.toNat) (m - l.toNat), ?_, hc, fun _ => ?_⟩
    · simp [Instr.sliceAt, run_underlying ht, hr, hsz, Instr.sureAddr]
    · refine ⟨_, m - l.toNat, by congr 1; omega, by omega, fun hne2 => ⟨B, hB, ?_, ?_⟩⟩
      · rw [if_neg (by omega), addr_add, hs1]
      · simp only [blockSize, hheap]
        have : vs.toList.length = vs.size := by simp
        omega
  case str s =>
    cases e : T.ty t <;> simp only [e, reduceCtorEq] at h
    rw [e] at ht; simp only [tyOk] at ht
    cases el1 : lowI lo <;> simp only [el1, reduceCtorEq] at h
    cases eh1 : highI s.size hi <;> simp only [eh1, reduceCtorEq] at h
    cases mx <;> simp only [reduceCtorEq, Option.some.injEq, Prod.mk.injEq] at h
    rename_i l hh
    obtain ⟨rfl, rfl⟩ := h
    obtain ⟨h0, h1, h2⟩ := hp
    obtain rfl : x' = .string s := hx
    obtain ⟨m, hm1, hm2, hr⟩ := bounds_ok (P := P) (w := w) (isS := false) (mx := none) (mx' := none) (cap := s.size) el1 eh1 e1.1 e1.2 e2.1 e2.2 (by simp) (by simp) h0 h1 h2 (Nat.le_refl _) trivial
    have := e3.2 rfl
    subst this
    refine ⟨.string (s.extract l.toNat hh.toNat), ?_, rfl⟩
    simp [Instr.sliceAt, Instr.slice, run_underlying ht, hr]

end

end Go.Proofs.YtdhnjmepgafeiaaDoor.Abs
