/- OWN LIBRARY, part 14: what a function answers, told by values; calls. -/
import Derived.Test.YtbnjdnahpnjofaaA13
set_option linter.unusedVariables false
set_option linter.unusedSimpArgs false
namespace Go.Proofs.Ytbnjdnahpnjofaa.Abs
open Go

/-- An argument or a result: a value that bears no name, or a slice with its room, handed over. -/
inductive AV where
  | v (x : SV)
  | own (d : Data)

def AV.sv (n : Nat) : AV → SV
  | .v x => x
  | .own d => .sl n 0 0 d.esz 0 d.len

def svs : Nat → List AV → List SV
  | _, [] => []
  | n, x :: l => x.sv n :: svs (n + 1) l

def blks : Nat → List AV → List (Nat × Nat × Blk)
  | _, [] => []
  | n, .v _ :: l => blks (n + 1) l
  | n, .own d :: l => (n, 0, .vec d) :: blks (n + 1) l

theorem fnd_blks : ∀ {l : List AV} {i n : Nat} {x : Nat × Blk}, fnd (blks i l) n = some x → ∃ j d, n = i + j ∧ l[j]? = some (.own d) ∧ x = (0, .vec d)
  | [], i, n, x, h => by simp [blks, fnd] at h
  | .v y :: l, i, n, x, h => by
    obtain ⟨j, d, h1, h2, h3⟩ := fnd_blks (l := l) (i := i + 1) h
    exact ⟨j + 1, d, by omega, by simpa using h2, h3⟩
  | .own d :: l, i, n, x, h => by
    simp only [blks, fnd] at h
    split at h
    · rename_i e
      simp only [Option.some.injEq] at h
      exact ⟨0, d, by omega, rfl, h.symm⟩
    · obtain ⟨j, d, h1, h2, h3⟩ := fnd_blks (l := l) (i := i + 1) h
      exact ⟨j + 1, d, by omega, by simpa using h2, h3⟩

theorem fnd_blks_own : ∀ {l : List AV} {i j : Nat} {d : Data}, l[j]? = some (.own d) → fnd (blks i l) (i + j) = some (0, .vec d)
  | [], i, j, d, h => by simp at h
  | .v y :: l, i, 0, d, h => by simp at h
  | .v y :: l, i, j + 1, d, h => by
    have := fnd_blks_own (l := l) (i := i + 1) (j := j) (by simpa using h)
    rw [show i + (j + 1) = i + 1 + j by omega]; exact this
  | .own e :: l, i, 0, d, h => by
    simp only [List.getElem?_cons_zero, Option.some.injEq, AV.own.injEq] at h
    subst h; simp [blks, fnd]
  | .own e :: l, i, j + 1, d, h => by
    have := fnd_blks_own (l := l) (i := i + 1) (j := j) (by simpa using h)
    rw [show i + (j + 1) = i + 1 + j by omega]
    simp only [blks, fnd]
    rw [if_neg (by omega)]; exact this

theorem svs_get : ∀ {l : List AV} {i j : Nat}, (svs i l)[j]? = (l[j]?).map (AV.sv (i + j))
  | [], i, j => by simp [svs]
  | x :: l, i, 0 => by simp [svs]
  | x :: l, i, j + 1 => by
    have := svs_get (l := l) (i := i + 1) (j := j)
    rw [show i + (j + 1) = i + 1 + j by omega]
    simpa [svs] using this

theorem svs_length : ∀ {l : List AV} {i : Nat}, (svs i l).length = l.length
  | [], i => rfl
  | x :: l, i => by simp [svs, svs_length (l := l)]

/-- One value, or a tuple of them. -/
def pack : List Value → Value
  | [v] => v
  | vs => .tuple vs.toArray

/-- Such a function, called with such arguments, answers so, and leaves all memory that was there as it is, but for what was handed over. -/
def Meets (P : Program) (f : FuncId) (args rs : List AV) : Prop :=
  ∀ (X : Ctx) (σ : Env) (vals : Array Value), R X ⟨svs 1000 args, blks 1000 args, ⟨1, [], 0⟩⟩ σ X.w0 ⟨vals, []⟩ →
    Calls P f vals X.w0 fun e w' => ∃ vs σ', e = .returned (pack vs) ∧ R X ⟨svs 0 rs, blks 0 rs, ⟨1, [], 0⟩⟩ σ' w' ⟨vs.toArray, []⟩

def lowD : Data → Data
  | .rows _ l => .rows false l
  | d => d

theorem Fit.low {d : Data} {cs : Array Value} (h : Fit d cs) : Fit (lowD d) cs := by cases d <;> exact h

theorem lowD_len (d : Data) : (lowD d).len = d.len := by cases d <;> rfl
theorem lowD_esz (d : Data) : (lowD d).esz = d.esz := by cases d <;> rfl

/-- A value as it is handed in, one cell; slices of slices that are told by cells are not. -/
def mB0 (b : List (Nat × Nat × Blk)) (own : List Nat) : SV → SV → Prop
  | .bool p, .bool q => p = q
  | .int k n, .int k' n' => k = k' ∧ n = n'
  | .str p, .str q => p = q
  | .nil, .nil => True
  | .nil, .view false d => d.len = 0
  | .view _ d, .view false d' => lowD d = d'
  | .sl n g seg e off len, .view false d' => notIn own n ∧ match blkAt b n g with
    | some (.vec d) => seg = 0 ∧ e = d.esz ∧ off + len ≤ d.len ∧ lowD (d.sub off len) = d'
    | some (.cells l) => match arrAt l seg with
      | some (k, n', l') => e = 1 ∧ off + len ≤ n' ∧ .ints k ((l'.drop off).take len) = d'
      | none => False
    | none => False
  | _, _ => False

/-- Cells, as rows of bytes. -/
def rowsM (b : List (Nat × Nat × Blk)) (own : List Nat) : List SV → List (List Int) → Prop
  | [], [] => True
  | x :: r, y :: q => mB0 b own x (.view false (.ints .u8 y)) ∧ rowsM b own r q
  | _, _ => False

/-- A value as it is handed in, one cell. -/
def mA0 (b : List (Nat × Nat × Blk)) (own : List Nat) (x y : SV) : Prop :=
  match x, y with
  | .sl n g seg e off len, .view false (.rows false rows) => match blkAt b n g with
    | some (.cells l) => notIn own n ∧ seg = 0 ∧ e = 1 ∧ off = 0 ∧ len = l.length ∧ rowsM b own l rows
    | _ => mB0 b own (.sl n g seg e off len) (.view false (.rows false rows))
  | x, y => mB0 b own x y

def mAl (b : List (Nat × Nat × Blk)) (own : List Nat) : List SV → List SV → Prop
  | [], [] => True
  | .arr k n l :: r, .arr k' n' l' :: r' => (k = k' ∧ n = n' ∧ l = l') ∧ mAl b own r r'
  | x :: r, y :: r' => mA0 b own x y ∧ mAl b own r r'
  | _, _ => False

/-- A value as it is handed in. -/
def mA (b : List (Nat × Nat × Blk)) (own : List Nat) : SV → AV → Prop
  | .arr k n l, .v (.arr k' n' l') => k = k' ∧ n = n' ∧ l = l'
  | .agg l, .v (.agg l') => mAl b own l l'
  | .nil, .own d => d.len = 0
  | .sl n g seg e off len, .own d => match blkAt b n g with
    | some (.vec d') => lowD d' = d ∧ seg = 0 ∧ e = d.esz ∧ off = 0 ∧ len = d.len
    | _ => False
  | x, .v y => mA0 b own x y
  | _, _ => False

/-- The names of what is handed over. -/
def ownN : List SV → List AV → List Nat
  | .sl n _ _ _ _ _ :: r, .own _ :: l => n :: ownN r l
  | _ :: r, _ :: l => ownN r l
  | _, _ => []

def mAs (b : List (Nat × Nat × Blk)) (own : List Nat) : List SV → List AV → Prop
  | [], [] => True
  | x :: r, y :: l => mA b own x y ∧ mAs b own r l
  | _, _ => False

def nodup : List Nat → Prop
  | [] => True
  | n :: l => notIn l n ∧ nodup l

/-- Is a value one that bears no name and lies in new memory? -/
def bareD : Data → Bool
  | .rows t _ => t
  | _ => true

def bare0 : SV → Bool
  | .any | .bool _ | .int _ _ | .str _ | .lit _ | .nil => true
  | .view t d => t && bareD d
  | _ => false

def bareL : List SV → Bool
  | [] => true
  | .arr _ _ _ :: r => bareL r
  | x :: r => bare0 x && bareL r

def bare : AV → Bool
  | .own d => bareD d
  | .v (.arr _ _ _) => true
  | .v (.agg l) => bareL l
  | .v x => bare0 x

def bares : List AV → Bool
  | [] => true
  | x :: l => bare x && bares l

section
variable {X X' : Ctx} {b b' : List (Nat × Nat × Blk)} {c c' : Lim} {σ σ' : Env} {w : World}

/-- What is told in one context is told in another. -/
theorem IsRow.vw {vw vw' : Nat → Prop} {l : List Int} {v : Value} (h : IsRow vw w l v) (hv : ∀ B, vw B → vw' B) : IsRow vw' w l v := by
  obtain ⟨a, cap, e, h1, h2⟩ := h
  refine ⟨a, cap, e, h1, fun hn => ?_⟩
  obtain ⟨B, o, e, h3, hc⟩ := h2 hn
  exact ⟨B, o, e, hv B h3, hc⟩

theorem bareD_cell {i j : Nat} {d : Data} {v : Value} (hb : bareD d = true) (h : CellOk (Vw X b σ w) w i j d v) (hv : ∀ B, Vw X b σ w true B → Vw X' b' σ' w true B) : CellOk (Vw X' b' σ' w) w i j d v := by
  cases d
  case rows t l =>
    simp only [bareD] at hb
    subst hb
    exact IsRow.vw h hv
  all_goals exact h

theorem bareD_holds {B o : Nat} {d : Data} (hb : bareD d = true) (h : Holds (Vw X b σ w) w B o d) (hv : ∀ B, Vw X b σ w true B → Vw X' b' σ' w true B) : Holds (Vw X' b' σ' w) w B o d := by
  intro i j hi hj
  obtain ⟨x, hx, hc⟩ := h i j hi hj
  exact ⟨x, hx, bareD_cell hb hc hv⟩

theorem bare0_tr {x : SV} {v : Value} (hb : bare0 x = true) (h : V0 X b c σ w x v) (hv : ∀ B, Vw X b σ w true B → Vw X' b' σ' w true B) : V0 X' b' c' σ' w x v := by
  cases x <;> simp only [bare0, Bool.false_eq_true] at hb <;> try exact h
  rename_i t d
  rw [Bool.and_eq_true] at hb
  obtain ⟨rfl, hd⟩ := hb
  obtain ⟨a, cap, e, h1, h2⟩ := h
  refine ⟨a, cap, e, h1, fun hn => ?_⟩
  obtain ⟨B, o, e, h3, hh⟩ := h2 hn
  exact ⟨B, o, e, hv B h3, bareD_holds hd hh hv⟩

theorem bareL_tr : ∀ {l : List SV} {cs : List Value}, bareL l = true → CellsOk X b c σ w l cs → (∀ B, Vw X b σ w true B → Vw X' b' σ' w true B) → CellsOk X' b' c' σ' w l cs := by
  intro l
  induction l with
  | nil => intro cs _ h _; exact h
  | cons x r ih =>
    intro cs hb h hv
    cases x
    case arr k n m => obtain ⟨h1, cs', e, h2⟩ := h; exact ⟨h1, cs', e, ih (by simpa only [bareL] using hb) h2 hv⟩
    all_goals
      simp only [bareL, Bool.and_eq_true] at hb
      obtain ⟨v, cs', e, h1, h2⟩ := h
      exact ⟨v, cs', e, bare0_tr hb.1 h1 hv, ih hb.2 h2 hv⟩

theorem bare_tr {x : SV} {v : Value} (hb : bare (.v x) = true) (h : V X b c σ w x v) (hv : ∀ B, Vw X b σ w true B → Vw X' b' σ' w true B) : V1 X' b' c' σ' w x v := by
  cases x
  case agg l => obtain ⟨cs, e, h⟩ := h; exact ⟨cs, e, bareL_tr hb h hv⟩
  case arr => exact h
  all_goals
    first
    | (simp only [bare, bare0, Bool.false_eq_true] at hb; done)
    | (simp only [bare] at hb; simp only [V, V2, V1] at h ⊢; exact bare0_tr (c := c) (c' := c') hb h hv)

/-- A value that is handed in. -/
theorem low_cell {i j : Nat} {d : Data} {v : Value} (h : CellOk (Vw X b σ w) w i j d v) (hv : ∀ t B, Vw X b σ w t B → Vw X' b' σ' w false B) : CellOk (Vw X' b' σ' w) w i j (lowD d) v := by
  cases d
  case rows t l => exact IsRow.vw h (hv t)
  all_goals exact h

theorem low_holds {B o : Nat} {d : Data} (h : Holds (Vw X b σ w) w B o d) (hv : ∀ t B, Vw X b σ w t B → Vw X' b' σ' w false B) : Holds (Vw X' b' σ' w) w B o (lowD d) := by
  intro i j hi hj
  rw [lowD_len] at hi; rw [lowD_esz] at hj ⊢
  obtain ⟨x, hx, hc⟩ := h i j hi hj
  exact ⟨x, hx, low_cell hc hv⟩

theorem mB0_ok {own : List Nat} {x y : SV} {v : Value} (h : mB0 b own x y) (hx : V0 X b c σ w x v) (hv : ∀ t B, Vw X b σ w t B → Vw X' b' σ' w false B)
    (hn : ∀ n g B z, n ∉ own → fnd b n = some (g, z) → σ n = some B → Vw X' b' σ' w false B) (hbl : ∀ n g y, fnd b n = some (g, y) → BlkOk X b c σ w n y) : V0 X' b' c' σ' w y v := by
  cases x <;> cases y <;> try (simp only [mB0] at h; done)
  case bool.bool => simp only [mB0] at h; subst h; exact hx
  case int.int => simp only [mB0] at h; obtain ⟨rfl, rfl⟩ := h; exact hx
  case str.str => simp only [mB0] at h; subst h; exact hx
  case nil.nil => exact hx
  case nil.view t d =>
    cases t <;> simp only [mB0] at h
    rw [show v = _ from hx]
    exact ⟨none, 0, by rw [h], by omega, fun hne => absurd h hne⟩
  case view.view t d t' d' =>
    cases t' <;> simp only [mB0] at h
    subst h
    obtain ⟨a, cap, e, h1, h2⟩ := hx
    refine ⟨a, cap, by rw [lowD_len]; exact e, by rw [lowD_len]; exact h1, fun hne => ?_⟩
    rw [lowD_len] at hne
    obtain ⟨B, o, e, h3, hh⟩ := h2 hne
    exact ⟨B, o, e, hv t B h3, low_holds hh hv⟩
  case sl.view n g seg e off len t d' =>
    cases t <;> simp only [mB0] at h
    obtain ⟨hno, h⟩ := h
    obtain ⟨_, hl⟩ := hx
    cases eb : blkAt b n g <;> simp only [eb] at h
    rename_i bk
    obtain ⟨a, cap, rfl, hlc, hcap⟩ := hl (blkAt_live eb)
    have hfnd := blkAt_fnd eb
    cases bk <;> simp only at h
    case vec dv =>
      obtain ⟨rfl, rfl, hle, rfl⟩ := h
      have hsl := sub_len hle
      refine ⟨a, cap, by rw [lowD_len, hsl], by rw [lowD_len, hsl]; exact hlc, fun hne => ?_⟩
      rw [lowD_len, hsl] at hne
      obtain ⟨B, hB, rfl, _⟩ := hcap (by omega)
      rcases hbl n g _ hfnd with ⟨hno', _⟩ | ⟨B', cs, ty, fr, hB', hheap, hfree, hsz, hh, _⟩
      · rw [hno'] at hB; simp at hB
      obtain rfl : B = B' := by simpa using hB.symm.trans hB'
      exact ⟨B, _, rfl, hn n g B _ (notIn_ok hno) hfnd hB, low_holds (hh.sub hle) hv⟩
    case cells l =>
      cases ea : arrAt l seg <;> simp only [ea] at h
      rename_i q
      obtain ⟨k, n', l'⟩ := q
      simp only at h
      obtain ⟨rfl, hle, rfl⟩ := h
      obtain ⟨B', cs, ty, fr, hB', hheap, hfree, hcells⟩ := hbl n g _ hfnd
      obtain ⟨g1, g2, g3⟩ := arrAt_len hcells ea
      have hsl : (Data.ints k ((l'.drop off).take len)).len = len := by simp [Data.len]; omega
      refine ⟨a, cap, by rw [hsl], by rw [hsl]; exact hlc, fun hne => ?_⟩
      rw [hsl] at hne
      obtain ⟨B, hB, rfl, _⟩ := hcap (by omega)
      obtain rfl : B = B' := by simpa using hB.symm.trans hB'
      refine ⟨B, _, rfl, hn n g B _ (notIn_ok hno) hfnd hB, fun i j hi hj => ?_⟩
      simp only [Data.esz] at hj
      obtain rfl : j = 0 := by omega
      rw [hsl] at hi
      refine ⟨.int k (l'.getD (off + i) 0), ?_, ?_⟩
      · rw [cell_block hheap]
        have := g3 (off + i) (by omega)
        simp only [Data.esz, Nat.mul_one, Nat.add_zero]
        rw [Nat.add_assoc]
        simpa using this
      · simp only [CellOk, List.getD, List.getElem?_take, List.getElem?_drop]
        rw [if_pos (by omega)]

theorem isView_row {l : List Int} {v : Value} {vw : Bool → Nat → Prop} (h : IsView vw w false (.ints .u8 l) v) : IsRow (vw false) w l v := by
  obtain ⟨a, cap, rfl, h1, h2⟩ := h
  refine ⟨a, cap, rfl, h1, fun hl => ?_⟩
  obtain ⟨B, o, rfl, hv, hh⟩ := h2 hl
  refine ⟨B, o, rfl, hv, fun i hi => ?_⟩
  obtain ⟨x, hx, hc⟩ := hh i 0 hi (by simp [Data.esz])
  simp only [Data.esz, Nat.mul_one, Nat.add_zero] at hx
  rw [hx, show x = _ from hc]

theorem rowsM_ok {own : List Nat} (hv : ∀ t B, Vw X b σ w t B → Vw X' b' σ' w false B)
    (hn : ∀ n g B z, n ∉ own → fnd b n = some (g, z) → σ n = some B → Vw X' b' σ' w false B) (hbl : ∀ n g y, fnd b n = some (g, y) → BlkOk X b c σ w n y) :
    ∀ {l : List SV} {rows : List (List Int)} {cs : List Value}, rowsM b own l rows → CellsOk X b c σ w l cs → rows.length = l.length ∧ cs.length = l.length ∧ ∀ i, i < l.length → ∃ v, cs[i]? = some v ∧ IsRow (Vw X' b' σ' w false) w (rows.getD i []) v
  | [], [], cs, _, hc => ⟨by simp, by rw [show cs = [] from hc]; rfl, fun i hi => by simp at hi⟩
  | x :: r, y :: q, cs, h, hc => by
    have hx : ∃ v cs', cs = v :: cs' ∧ V0 X b c σ w x v ∧ CellsOk X b c σ w r cs' := by
      cases x
      case arr => exact absurd h.1 (by simp [mB0])
      all_goals exact hc
    obtain ⟨v, cs', rfl, h1, h2⟩ := hx
    obtain ⟨g1, g2, g3⟩ := rowsM_ok hv hn hbl h.2 h2
    have hV := mB0_ok (c' := c) h.1 h1 hv hn hbl
    refine ⟨by simp [g1], by simp [g2], fun i hi => ?_⟩
    cases i with
    | zero => exact ⟨v, rfl, isView_row hV⟩
    | succ i =>
      obtain ⟨u, hu, hr⟩ := g3 i (by simpa using hi)
      exact ⟨u, by simpa using hu, by simpa [List.getD] using hr⟩
  | [], _ :: _, _, h, _ => h.elim
  | _ :: _, [], _, h, _ => h.elim

theorem mA0_ok {own : List Nat} {x y : SV} {v : Value} (h : mA0 b own x y) (hx : V0 X b c σ w x v) (hv : ∀ t B, Vw X b σ w t B → Vw X' b' σ' w false B)
    (hn : ∀ n g B z, n ∉ own → fnd b n = some (g, z) → σ n = some B → Vw X' b' σ' w false B) (hbl : ∀ n g y, fnd b n = some (g, y) → BlkOk X b c σ w n y) : V0 X' b' c' σ' w y v := by
  unfold mA0 at h
  split at h
  · rename_i n g seg e off len rows
    split at h
    · rename_i l eb
      obtain ⟨hno, rfl, rfl, rfl, rfl, hr⟩ := h
      obtain ⟨_, hl⟩ := hx
      obtain ⟨a, cap, rfl, hlc, hcap⟩ := hl (blkAt_live eb)
      have hfnd := blkAt_fnd eb
      obtain ⟨B', cs, ty, fr, hB', hheap, hfree, hcells⟩ := hbl n g _ hfnd
      obtain ⟨g1, g2, g3⟩ := rowsM_ok (X' := X') (b' := b') (σ' := σ') hv hn hbl hr hcells
      refine ⟨a, cap, by simp only [Data.len, g1], by simp only [Data.len, g1]; exact hlc, fun hne => ?_⟩
      simp only [Data.len, g1] at hne
      obtain ⟨B, hB, rfl, _⟩ := hcap (by omega)
      obtain rfl : B = B' := by simpa using hB.symm.trans hB'
      refine ⟨B, _, rfl, hn n g B _ (notIn_ok hno) hfnd hB, fun i j hi hj => ?_⟩
      simp only [Data.esz] at hj
      obtain rfl : j = 0 := by omega
      simp only [Data.len, g1] at hi
      obtain ⟨u, hu, hrow⟩ := g3 i hi
      refine ⟨u, ?_, hrow⟩
      rw [cell_block hheap]
      simpa [Data.esz] using hu
    · exact mB0_ok h hx hv hn hbl
  · exact mB0_ok h hx hv hn hbl

theorem mAl_ok {own : List Nat} (hv : ∀ t B, Vw X b σ w t B → Vw X' b' σ' w false B)
    (hn : ∀ n g B z, n ∉ own → fnd b n = some (g, z) → σ n = some B → Vw X' b' σ' w false B) (hbl : ∀ n g y, fnd b n = some (g, y) → BlkOk X b c σ w n y) :
    ∀ {l m : List SV} {cs : List Value}, mAl b own l m → CellsOk X b c σ w l cs → CellsOk X' b' c' σ' w m cs := by
  intro l
  induction l with
  | nil => intro m cs h hx; cases m <;> simp only [mAl] at h; exact hx
  | cons x r ih =>
    intro m cs h hx
    cases m with
    | nil => cases x <;> simp only [mAl] at h
    | cons y m =>
      have gen : mA0 b own x y ∧ mAl b own r m → (∃ v cs', cs = v :: cs' ∧ V0 X b c σ w x v ∧ CellsOk X b c σ w r cs') → CellsOk X' b' c' σ' w (y :: m) cs := by
        rintro ⟨h1, h2⟩ ⟨v, cs', rfl, h3, h4⟩
        have h5 := mA0_ok (c' := c') h1 h3 hv hn hbl
        have h6 := ih h2 h4
        cases y
        case arr => cases x <;> simp only [mA0, mB0] at h1
        all_goals exact ⟨v, cs', rfl, h5, h6⟩
      cases x
      case arr k n q =>
        cases y <;> simp only [mAl, mA0, mB0, false_and] at h
        obtain ⟨⟨rfl, rfl, rfl⟩, h2⟩ := h
        obtain ⟨h1, cs', rfl, h3⟩ := hx
        exact ⟨h1, cs', rfl, ih h2 h3⟩
      all_goals exact gen (by simpa only [mAl] using h) hx
end

end Go.Proofs.Ytbnjdnahpnjofaa.Abs
