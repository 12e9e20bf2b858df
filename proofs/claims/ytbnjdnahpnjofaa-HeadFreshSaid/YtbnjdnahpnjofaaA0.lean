/- OWN LIBRARY, part 0: states in which memory is told by values (lists), and what it is for a machine's state to be told so. -/
import Derived.Test.YtbnjdnahpnjofaaG
import Derived.Calls
import Derived.Below
import Derived.WalkKit
namespace Go.Proofs.Ytbnjdnahpnjofaa.Abs
open Go

/-- An element of a list of locks (api.Lock). -/
structure LockR where
  op : Int
  at_ : Int
  n : Int
  mode : Int
  deriving Inhabited

/-- An entry of a directory (api.Entry). -/
structure EntR where
  name : ByteArray
  kind : Int
  size : Int
  deriving Inhabited

/-- What a slice holds, by value. -/
inductive Data where
  | ints (k : IntKind) (l : List Int)
  | strs (l : List ByteArray)
  | rows (tag : Bool) (l : List (List Int))
  | locks (l : List LockR)
  | ents (l : List EntR)

def Data.len : Data → Nat
  | .ints _ l => l.length
  | .strs l => l.length
  | .rows _ l => l.length
  | .locks l => l.length
  | .ents l => l.length

def Data.esz : Data → Nat
  | .ints _ _ => 1
  | .strs _ => 1
  | .rows _ _ => 1
  | .locks _ => 4
  | .ents _ => 3

def Data.sub (o n : Nat) : Data → Data
  | .ints k l => .ints k ((l.drop o).take n)
  | .strs l => .strs ((l.drop o).take n)
  | .rows t l => .rows t ((l.drop o).take n)
  | .locks l => .locks ((l.drop o).take n)
  | .ents l => .ents ((l.drop o).take n)

/-- A value, told. -/
inductive SV where
  | any
  | bool (b : Bool)
  | int (k : IntKind) (n : Int)
  | str (s : ByteArray)
  | lit (v : Value)
  | nil
  | ptr (n g off : Nat)
  | eptr (n g seg e i m : Nat)
  | vptr (tag : Bool) (d : Data) (i j : Nat)
  | sl (n g seg e off len : Nat)
  | slc (n g e len cap : Nat)
  | view (tag : Bool) (d : Data)
  | arr (k : IntKind) (n : Nat) (l : List Int)
  | agg (l : List SV)
  | tup (l : List SV)
  | clo (fn : Fn) (first cap : List SV)
  | gd (c : Bool) (x : SV)

/-- What a block holds: the room of a slice; the cells of a variable. -/
inductive Blk where
  | vec (d : Data)
  | cells (l : List SV)

def fnd : List (Nat × Nat × Blk) → Nat → Option (Nat × Blk)
  | [], _ => none
  | (m, g, b) :: l, n => if n = m then some (g, b) else fnd l n

def upd : List (Nat × Nat × Blk) → Nat → Nat → Blk → List (Nat × Nat × Blk)
  | [], n, g, b => [(n, g, b)]
  | (m, g', b') :: l, n, g, b => if n = m then (m, g, b) :: l else (m, g', b') :: upd l n g b

theorem fnd_upd (l : List (Nat × Nat × Blk)) (n g : Nat) (b : Blk) (m : Nat) : fnd (upd l n g b) m = if m = n then some (g, b) else fnd l m := by
  induction l with
  | nil => simp [fnd, upd]
  | cons x l ih =>
    obtain ⟨k, g', b'⟩ := x
    by_cases h : n = k
    · subst h; simp only [upd, if_pos, fnd]; split <;> rfl
    · simp only [upd, if_neg h, fnd, ih]
      by_cases h2 : m = k
      · subst h2; simp [Ne.symm h]
      · simp [h2]

def del : List (Nat × Nat × Blk) → Nat → List (Nat × Nat × Blk)
  | [], _ => []
  | (m, g, b) :: l, n => if n = m then del l n else (m, g, b) :: del l n

theorem fnd_del (l : List (Nat × Nat × Blk)) (n m : Nat) : fnd (del l n) m = if m = n then none else fnd l m := by
  induction l with
  | nil => simp [fnd, del]
  | cons x l ih =>
    obtain ⟨k, g, b⟩ := x
    by_cases h : n = k
    · subst h
      simp only [del, if_true, ih, fnd]
      split <;> rfl
    · simp only [del, if_neg h, fnd, ih]
      by_cases h2 : m = k
      · subst h2; simp [Ne.symm h]
      · simp [h2]

/-- Which marks have been given: all below one, and this one to some names; from where on the names of slots are counted. -/
structure Lim where
  c : Nat
  d : List Nat
  o : Nat

def Lim.ok (l : Lim) (n g : Nat) : Prop := g < l.c ∨ (g = l.c ∧ n ∈ l.d)

/-- One name more. -/
def Lim.add (l : Lim) (n : Nat) : Lim := ⟨l.c, n :: l.d, l.o⟩

theorem Lim.ok_add {l : Lim} {n m g : Nat} (h : l.ok m g) : (l.add n).ok m g := h.imp id fun ⟨a, b⟩ => ⟨a, List.mem_cons_of_mem _ b⟩

theorem Lim.ok_new (l : Lim) (n : Nat) : (l.add n).ok n l.c := .inr ⟨rfl, List.mem_cons_self⟩

theorem Lim.not_new {l : Lim} {n : Nat} (h : n ∉ l.d) : ¬ l.ok n l.c := by
  rintro (h1 | ⟨_, h1⟩)
  · omega
  · exact h h1

structure St where
  t : List SV
  b : List (Nat × Nat × Blk)
  c : Lim

/-- The world in which a call began; which blocks it may write; which ones it may only read. -/
structure Ctx where
  w0 : World
  mt : Nat → Prop
  ro : Nat → Prop

abbrev Env := Nat → Option Nat

def Named (b : List (Nat × Nat × Blk)) (σ : Env) (B : Nat) : Prop := ∃ n x, fnd b n = some x ∧ σ n = some B

/-- The blocks that may be seen by value. -/
def Vw (X : Ctx) (b : List (Nat × Nat × Blk)) (σ : Env) (w : World) (tag : Bool) (B : Nat) : Prop :=
  B < w.heap.size ∧ ((tag = false ∧ X.ro B) ∨ ((X.mt B ∨ X.w0.heap.size ≤ B) ∧ ¬ Named b σ B))

/-- A slice of bytes, by value. -/
def IsRow (vw : Nat → Prop) (w : World) (l : List Int) (v : Value) : Prop :=
  ∃ a cap, v = .slice a l.length cap ∧ l.length ≤ cap ∧
    (l.length ≠ 0 → ∃ B o, a = some ⟨B, o, none⟩ ∧ vw B ∧ ∀ i, i < l.length → w.cell? ⟨B, o + i, none⟩ = some (.int .u8 (l.getD i 0)))

def CellOk (vw : Bool → Nat → Prop) (w : World) (i j : Nat) : Data → Value → Prop
  | .ints k l, v => v = .int k (l.getD i 0)
  | .strs l, v => v = .string (l.getD i default)
  | .rows t l, v => IsRow (vw t) w (l.getD i []) v
  | .locks l, v => v = match j with | 0 => .int .i64 (l.getD i default).op | 1 => .int .u64 (l.getD i default).at_ | 2 => .int .u64 (l.getD i default).n | _ => .int .u16 (l.getD i default).mode
  | .ents l, v => v = match j with | 0 => .string (l.getD i default).name | 1 => .int .u8 (l.getD i default).kind | _ => .int .i64 (l.getD i default).size

/-- The cells from a place on hold data. -/
def Holds (vw : Bool → Nat → Prop) (w : World) (B o : Nat) (d : Data) : Prop :=
  ∀ i j, i < d.len → j < d.esz → ∃ x, w.cell? ⟨B, o + i * d.esz + j, none⟩ = some x ∧ CellOk vw w i j d x

def IsView (vw : Bool → Nat → Prop) (w : World) (tag : Bool) (d : Data) (v : Value) : Prop :=
  ∃ a cap, v = .slice a d.len cap ∧ d.len ≤ cap ∧ (d.len ≠ 0 → ∃ B o, a = some ⟨B, o, none⟩ ∧ vw tag B ∧ Holds vw w B o d)

def blockSize (w : World) (B : Nat) : Nat := match w.heap[B]? with | some (.cells c _ _) => c.size | _ => 0

def Live (b : List (Nat × Nat × Blk)) (n g : Nat) : Prop := ∃ x, fnd b n = some (g, x)

/-- A value that is one cell. -/
def V0 (X : Ctx) (b : List (Nat × Nat × Blk)) (c : Lim) (σ : Env) (w : World) : SV → Value → Prop
  | .any, _ => True
  | .bool b, v => v = .bool b
  | .int k n, v => v = .int k n
  | .str x, v => v = .string x
  | .lit x, v => v = x
  | .nil, v => v = .slice none 0 0
  | .ptr n g off, v => c.ok n g ∧ (Live b n g → ∃ B, σ n = some B ∧ v = .pointer (some ⟨B, off, none⟩))
  | .eptr n g seg e i m, v => i < m ∧ c.ok n g ∧ (Live b n g → ∃ B, σ n = some B ∧ v = .pointer (some ⟨B, seg + i * e, none⟩))
  | .vptr tag d i j, v => i < d.len ∧ ∃ B o, v = .pointer (some ⟨B, o + i * d.esz + j, none⟩) ∧ Vw X b σ w tag B ∧ Holds (Vw X b σ w) w B o d
  | .sl n g seg e off len, v => c.ok n g ∧ (Live b n g → ∃ a cap, v = .slice a len cap ∧ len ≤ cap ∧
      (cap ≠ 0 → ∃ B, σ n = some B ∧ a = some ⟨B, seg + off * e, none⟩ ∧ seg + (off + cap) * e ≤ blockSize w B))
  | .slc n g e len cap, v => c.ok n g ∧ (Live b n g → ∃ a, v = .slice a len cap ∧ len ≤ cap ∧
      (cap ≠ 0 → ∃ B, σ n = some B ∧ a = some ⟨B, 0, none⟩ ∧ cap * e ≤ blockSize w B))
  | .view tag d, v => IsView (Vw X b σ w) w tag d v
  | _, _ => False

/-- Cells, one behind the other. -/
def CellsOk (X : Ctx) (b : List (Nat × Nat × Blk)) (c : Lim) (σ : Env) (w : World) : List SV → List Value → Prop
  | [], cs => cs = []
  | .arr k n l :: r, cs => l.length = n ∧ ∃ cs', cs = l.map (.int k) ++ cs' ∧ CellsOk X b c σ w r cs'
  | x :: r, cs => ∃ v cs', cs = v :: cs' ∧ V0 X b c σ w x v ∧ CellsOk X b c σ w r cs'

/-- A value that is no tuple, closure. -/
def V1 (X : Ctx) (b : List (Nat × Nat × Blk)) (c : Lim) (σ : Env) (w : World) : SV → Value → Prop
  | .agg l, v => ∃ cs, v = .agg cs ∧ CellsOk X b c σ w l cs.toList
  | .arr k n l, v => v = .agg (l.map (.int k)).toArray ∧ l.length = n
  | x, v => V0 X b c σ w x v

def All1 (X : Ctx) (b : List (Nat × Nat × Blk)) (c : Lim) (σ : Env) (w : World) : List SV → List Value → Prop
  | [], vs => vs = []
  | x :: r, vs => ∃ v vs', vs = v :: vs' ∧ V1 X b c σ w x v ∧ All1 X b c σ w r vs'

def V2 (X : Ctx) (b : List (Nat × Nat × Blk)) (c : Lim) (σ : Env) (w : World) : SV → Value → Prop
  | .tup l, v => ∃ vs, v = .tuple vs ∧ All1 X b c σ w l vs.toList
  | .clo f l m, v => ∃ vs us, v = .func f vs us ∧ All1 X b c σ w l vs.toList ∧ All1 X b c σ w m us.toList
  | x, v => V1 X b c σ w x v

/-- A value. -/
def V (X : Ctx) (b : List (Nat × Nat × Blk)) (c : Lim) (σ : Env) (w : World) : SV → Value → Prop
  | .gd g x, v => (g = true → V2 X b c σ w x v) ∧ (g = false → v = .tuple #[])
  | x, v => V2 X b c σ w x v

def Free (fr : Nat × Nat) (size : Nat) : Prop := fr.1 = fr.2 ∨ size ≤ fr.1

theorem Free.out {fr : Nat × Nat} {size : Nat} (h : Free fr size) : ∀ o, o < size → ¬ (fr.1 ≤ o ∧ o < fr.2) := by
  intro o ho
  rcases h with h | h <;> omega

/-- Numbers' cells hold numbers, the room behind them, too. -/
def Fit : Data → Array Value → Prop
  | .ints k _, cs => (∀ i, i < cs.size → ∃ z, cs[i]? = some (.int k z)) ∧ cs.size < 9223372036854775808
  | _, _ => True

def BlkOk (X : Ctx) (b : List (Nat × Nat × Blk)) (c : Lim) (σ : Env) (w : World) (n : Nat) : Blk → Prop
  | .vec d => (σ n = none ∧ d.len = 0) ∨ ∃ B cs t fr, σ n = some B ∧ w.heap[B]? = some (.cells cs t fr) ∧ Free fr cs.size ∧ d.len * d.esz ≤ cs.size ∧ Holds (Vw X b σ w) w B 0 d ∧ Fit d cs
  | .cells l => ∃ B cs t fr, σ n = some B ∧ w.heap[B]? = some (.cells cs t fr) ∧ Free fr cs.size ∧ CellsOk X b c σ w l cs.toList

structure R (X : Ctx) (s : St) (σ : Env) (w : World) (a : Act) : Prop where
  sz : a.tmps.size = s.t.length
  tm : ∀ i, i < s.t.length → V X s.b s.c σ w (s.t.getD i .any) (a.tmps.getD i undef)
  df : a.defers = []
  bl : ∀ n g x, fnd s.b n = some (g, x) → s.c.ok n g ∧ BlkOk X s.b s.c σ w n x ∧ (∀ B, σ n = some B → B < w.heap.size ∧ (X.mt B ∨ X.w0.heap.size ≤ B))
  inj : ∀ n m x y B, fnd s.b n = some x → fnd s.b m = some y → σ n = some B → σ m = some B → n = m
  fr : X.w0.heap.size ≤ w.heap.size ∧ ∀ B, B < X.w0.heap.size → ¬ X.mt B → w.heap[B]? = X.w0.heap[B]?
  st : w.os = X.w0.os ∧ w.tape = X.w0.tape ∧ w.output = X.w0.output
  ro : ∀ B, X.ro B → B < X.w0.heap.size ∧ ¬ X.mt B
  gl : ∀ g k l, GT g = some (k, l) → X.ro g ∧ ∀ i, i < l.length → X.w0.cell? ⟨g, i, none⟩ = some (.int k (l.getD i 0))

/-- What a step must keep for what was told to stay told. -/
structure Tr (X : Ctx) (b : List (Nat × Nat × Blk)) (c : Lim) (σ : Env) (w : World) (b' : List (Nat × Nat × Blk)) (c' : Lim) (σ' : Env) (w' : World) : Prop where
  cc : ∀ n g, c.ok n g → c'.ok n g
  lv : ∀ n g, Live b' n g → c.ok n g → Live b n g ∧ σ' n = σ n
  vw : ∀ tag B, Vw X b σ w tag B → w'.heap[B]? = w.heap[B]? ∧ Vw X b' σ' w' tag B
  bs : ∀ n g B, Live b' n g → c.ok n g → σ n = some B → blockSize w B ≤ blockSize w' B

section
variable {X : Ctx} {b b' : List (Nat × Nat × Blk)} {c c' : Lim} {σ σ' : Env} {w w' : World}

theorem Tr.refl : Tr X b c σ w b c σ w := ⟨fun _ _ h => h, fun _ _ h _ => ⟨h, rfl⟩, fun _ _ h => ⟨rfl, h⟩, fun _ _ _ _ _ _ => Nat.le_refl _⟩

theorem Tr.trans {b'' : List (Nat × Nat × Blk)} {c'' : Lim} {σ'' : Env} {w'' : World} (h : Tr X b c σ w b' c' σ' w') (k : Tr X b' c' σ' w' b'' c'' σ'' w'') : Tr X b c σ w b'' c'' σ'' w'' where
  cc n g hn := k.cc n g (h.cc n g hn)
  lv n g hl hn := by
    obtain ⟨h1, h2⟩ := k.lv n g hl (h.cc n g hn)
    obtain ⟨h3, h4⟩ := h.lv n g h1 hn
    exact ⟨h3, h2.trans h4⟩
  vw t B hv := by
    obtain ⟨h1, h2⟩ := h.vw t B hv
    obtain ⟨h3, h4⟩ := k.vw t B h2
    exact ⟨h3.trans h1, h4⟩
  bs n g B hl hn hs := by
    obtain ⟨h1, h2⟩ := k.lv n g hl (h.cc n g hn)
    obtain ⟨h3, h4⟩ := h.lv n g h1 hn
    exact Nat.le_trans (h.bs n g B h1 hn hs) (k.bs n g B hl (h.cc n g hn) (h4.trans hs))

/-- Fewer names, else all as it was. -/
theorem Tr.drop (hl : ∀ n x, fnd b' n = some x → fnd b n = some x) : Tr X b c σ w b' c σ w := by
  refine ⟨fun _ _ h => h, fun n g ⟨x, hx⟩ _ => ⟨⟨x, hl n _ hx⟩, rfl⟩, fun tag B hv => ⟨rfl, hv.1, ?_⟩, fun _ _ _ _ _ _ => Nat.le_refl _⟩
  rcases hv.2 with hv | ⟨hv, hn⟩
  · exact .inl hv
  · exact .inr ⟨hv, fun ⟨n, x, h1, h2⟩ => hn ⟨n, x, hl n x h1, h2⟩⟩

theorem cell_of_heap {B o : Nat} (h : w'.heap[B]? = w.heap[B]?) : w'.cell? ⟨B, o, none⟩ = w.cell? ⟨B, o, none⟩ := World.cell?_of_block (a := ⟨B, o, none⟩) h

theorem IsRow.tr (T : Tr X b c σ w b' c' σ' w') {tag : Bool} {l : List Int} {v : Value} (h : IsRow (Vw X b σ w tag) w l v) : IsRow (Vw X b' σ' w' tag) w' l v := by
  obtain ⟨a, cap, rfl, h1, h2⟩ := h
  refine ⟨a, cap, rfl, h1, fun hl => ?_⟩
  obtain ⟨B, o, rfl, hv, hc⟩ := h2 hl
  obtain ⟨e, hv'⟩ := T.vw _ _ hv
  exact ⟨B, o, rfl, hv', fun i hi => by rw [cell_of_heap e]; exact hc i hi⟩

theorem CellOk.tr (T : Tr X b c σ w b' c' σ' w') {i j : Nat} {d : Data} {v : Value} (h : CellOk (Vw X b σ w) w i j d v) : CellOk (Vw X b' σ' w') w' i j d v := by
  cases d with
  | rows t l => exact IsRow.tr T h
  | _ => exact h

theorem Holds.tr (T : Tr X b c σ w b' c' σ' w') {B o : Nat} {d : Data} (e : w'.heap[B]? = w.heap[B]?) (h : Holds (Vw X b σ w) w B o d) : Holds (Vw X b' σ' w') w' B o d := by
  intro i j hi hj
  obtain ⟨x, hx, hc⟩ := h i j hi hj
  exact ⟨x, by rw [cell_of_heap e]; exact hx, hc.tr T⟩

theorem IsView.tr (T : Tr X b c σ w b' c' σ' w') {tag : Bool} {d : Data} {v : Value} (h : IsView (Vw X b σ w) w tag d v) : IsView (Vw X b' σ' w') w' tag d v := by
  obtain ⟨a, cap, rfl, h1, h2⟩ := h
  refine ⟨a, cap, rfl, h1, fun hl => ?_⟩
  obtain ⟨B, o, rfl, hv, hc⟩ := h2 hl
  obtain ⟨e, hv'⟩ := T.vw _ _ hv
  exact ⟨B, o, rfl, hv', hc.tr T e⟩

theorem V0.tr (T : Tr X b c σ w b' c' σ' w') {x : SV} {v : Value} (h : V0 X b c σ w x v) : V0 X b' c' σ' w' x v := by
  cases x with
  | ptr n g off =>
    refine ⟨T.cc _ _ h.1, fun hl => ?_⟩
    obtain ⟨hl', e⟩ := T.lv n g hl h.1
    rw [e]; exact h.2 hl'
  | eptr n g seg e i m =>
    obtain ⟨him, h⟩ := h
    refine ⟨him, T.cc _ _ h.1, fun hl => ?_⟩
    obtain ⟨hl', e⟩ := T.lv n g hl h.1
    rw [e]; exact h.2 hl'
  | vptr tag d i j =>
    obtain ⟨hi, B, o, e, hv, hh⟩ := h
    obtain ⟨e', hv'⟩ := T.vw _ _ hv
    exact ⟨hi, B, o, e, hv', hh.tr T e'⟩
  | sl n g seg e off len =>
    refine ⟨T.cc _ _ h.1, fun hl => ?_⟩
    obtain ⟨hl', e⟩ := T.lv n g hl h.1
    obtain ⟨a, cap, hv, h1, h2⟩ := h.2 hl'
    refine ⟨a, cap, hv, h1, fun hc => ?_⟩
    obtain ⟨B, hB, ha, hs⟩ := h2 hc
    exact ⟨B, by rw [e]; exact hB, ha, Nat.le_trans hs (T.bs n g B hl h.1 hB)⟩
  | slc n g e' len cap =>
    refine ⟨T.cc _ _ h.1, fun hl => ?_⟩
    obtain ⟨hl', e⟩ := T.lv n g hl h.1
    obtain ⟨a, hv, h1, h2⟩ := h.2 hl'
    refine ⟨a, hv, h1, fun hc => ?_⟩
    obtain ⟨B, hB, ha, hs⟩ := h2 hc
    exact ⟨B, by rw [e]; exact hB, ha, Nat.le_trans hs (T.bs n g B hl h.1 hB)⟩
  | view tag d => exact IsView.tr T h
  | any => trivial
  | bool _ => exact h
  | int _ _ => exact h
  | str _ => exact h
  | lit _ => exact h
  | nil => exact h
  | arr _ _ _ => exact h.elim
  | agg _ => exact h.elim
  | tup _ => exact h.elim
  | clo _ _ _ => exact h.elim
  | gd _ _ => exact h.elim

theorem CellsOk.tr (T : Tr X b c σ w b' c' σ' w') : ∀ {l : List SV} {cs : List Value}, CellsOk X b c σ w l cs → CellsOk X b' c' σ' w' l cs := by
  intro l
  induction l with
  | nil => intro cs h; exact h
  | cons x r ih =>
    intro cs h
    cases x with
    | arr k n l => obtain ⟨h1, cs', e, h2⟩ := h; exact ⟨h1, cs', e, ih h2⟩
    | _ => obtain ⟨v, cs', e, h1, h2⟩ := h; exact ⟨v, cs', e, h1.tr T, ih h2⟩

theorem V1.tr (T : Tr X b c σ w b' c' σ' w') {x : SV} {v : Value} (h : V1 X b c σ w x v) : V1 X b' c' σ' w' x v := by
  cases x with
  | agg l => obtain ⟨cs, e, h⟩ := h; exact ⟨cs, e, h.tr T⟩
  | arr k n l => exact h
  | _ => simp only [V1] at h ⊢; exact V0.tr T h

theorem All1.tr (T : Tr X b c σ w b' c' σ' w') : ∀ {l : List SV} {cs : List Value}, All1 X b c σ w l cs → All1 X b' c' σ' w' l cs := by
  intro l
  induction l with
  | nil => intro cs h; exact h
  | cons x r ih => intro cs h; obtain ⟨v, cs', e, h1, h2⟩ := h; exact ⟨v, cs', e, h1.tr T, ih h2⟩

theorem V2.tr (T : Tr X b c σ w b' c' σ' w') {x : SV} {v : Value} (h : V2 X b c σ w x v) : V2 X b' c' σ' w' x v := by
  cases x with
  | tup l => obtain ⟨cs, e, h⟩ := h; exact ⟨cs, e, h.tr T⟩
  | clo f l m => obtain ⟨vs, us, e, h, h'⟩ := h; exact ⟨vs, us, e, h.tr T, h'.tr T⟩
  | _ => simp only [V2] at h ⊢; exact V1.tr T h

theorem V.tr (T : Tr X b c σ w b' c' σ' w') {x : SV} {v : Value} (h : V X b c σ w x v) : V X b' c' σ' w' x v := by
  cases x with
  | gd g x => exact ⟨fun hg => V2.tr T (h.1 hg), h.2⟩
  | _ => simp only [V] at h ⊢; exact V2.tr T h

/-- A slice whose capacity is known, as a slice. -/
def unc : SV → SV
  | .slc n g e len _ => .sl n g 0 e 0 len
  | x => x

theorem V0_unc {x : SV} {v : Value} (h : V0 X b c σ w x v) : V0 X b c σ w (unc x) v := by
  cases x
  case slc n g e len cap =>
    obtain ⟨h1, h2⟩ := h
    refine ⟨h1, fun hl => ?_⟩
    obtain ⟨a, h3, h4, h5⟩ := h2 hl
    refine ⟨a, cap, h3, h4, fun hc => ?_⟩
    obtain ⟨B, h6, h7, h8⟩ := h5 hc
    exact ⟨B, h6, by simpa using h7, by simpa using h8⟩
  all_goals exact h

theorem V1_unc {x : SV} {v : Value} (h : V1 X b c σ w x v) : V1 X b c σ w (unc x) v := by
  cases x
  case slc n g e len cap => exact V0_unc (X := X) (x := .slc n g e len cap) h
  all_goals exact h

theorem V2_unc {x : SV} {v : Value} (h : V2 X b c σ w x v) : V2 X b c σ w (unc x) v := by
  cases x
  case slc n g e len cap => exact V0_unc (X := X) (x := .slc n g e len cap) h
  all_goals exact h

theorem V_unc {x : SV} {v : Value} (h : V X b c σ w x v) : V X b c σ w (unc x) v := by
  cases x
  case slc n g e len cap => exact V0_unc (X := X) (x := .slc n g e len cap) h
  all_goals exact h

/-- A block that did not turn. -/
theorem BlkOk.tr (T : Tr X b c σ w b' c' σ' w') {n : Nat} {x : Blk} (e : σ' n = σ n) (hh : ∀ B, σ n = some B → w'.heap[B]? = w.heap[B]?) (h : BlkOk X b c σ w n x) : BlkOk X b' c' σ' w' n x := by
  cases x with
  | vec d =>
    rcases h with ⟨h1, h2⟩ | ⟨B, cs, t, fr, h1, h2, h3, h4, h5, h6⟩
    · exact .inl ⟨by rw [e]; exact h1, h2⟩
    · exact .inr ⟨B, cs, t, fr, by rw [e]; exact h1, by rw [hh B h1]; exact h2, h3, h4, h5.tr T (hh B h1), h6⟩
  | cells l =>
    obtain ⟨B, cs, t, fr, h1, h2, h3, h4⟩ := h
    exact ⟨B, cs, t, fr, by rw [e]; exact h1, by rw [hh B h1]; exact h2, h3, h4.tr T⟩
end

end Go.Proofs.Ytbnjdnahpnjofaa.Abs
