/- OWN LIBRARY, part 7: data that a value holds; cells that are written. -/
import Derived.Test.YtbnjdnahpnjofaaA6
set_option linter.unusedVariables false
set_option linter.unusedSimpArgs false
namespace Go.Proofs.Ytbnjdnahpnjofaa.Abs
open Go

theorem Data.esz_pos (d : Data) : 0 < d.esz := by cases d <;> simp [Data.esz]

section
variable {P : Program} {T : Tab} {X : Ctx} {b : List (Nat × Nat × Blk)} {c : Lim} {σ : Env} {w : World}

theorem Vw.weak {tag tag' : Bool} {B : Nat} (h : Vw X b σ w tag B) (ht : tag' = true → tag = true) : Vw X b σ w tag' B := by
  refine ⟨h.1, ?_⟩
  rcases h.2 with ⟨h1, h2⟩ | h1
  · refine .inl ⟨?_, h2⟩
    cases tag' with
    | false => rfl
    | true => rw [ht rfl] at h1; exact h1
  · exact .inr h1

theorem IsRow.weak {tag tag' : Bool} {l : List Int} {v : Value} (h : IsRow (Vw X b σ w tag) w l v) (ht : tag' = true → tag = true) : IsRow (Vw X b σ w tag') w l v := by
  obtain ⟨a, cap, e, h1, h2⟩ := h
  refine ⟨a, cap, e, h1, fun hn => ?_⟩
  obtain ⟨B, o, e, hv, hc⟩ := h2 hn
  exact ⟨B, o, e, hv.weak ht, hc⟩

/-- Cells hold data. -/
def Cs (X : Ctx) (b : List (Nat × Nat × Blk)) (σ : Env) (w : World) (d : Data) (cs : List Value) : Prop :=
  cs.length = d.len * d.esz ∧ ∀ i j, i < d.len → j < d.esz → ∃ x, cs[i * d.esz + j]? = some x ∧ CellOk (Vw X b σ w) w i j d x

/-- A value is a source of data. -/
def Src (P : Program) (X : Ctx) (b : List (Nat × Nat × Blk)) (σ : Env) (w : World) (d : Data) (y : Value) (cs : List Value) : Prop :=
  Cs X b σ w d cs ∧ ∀ w1 : World, w1.heap = w.heap → (Builtin.lenOf y).run P w1 = .ok d.len w1 ∧ ∀ n, n ≤ d.len → (Builtin.firstCells d.esz n y).run P w1 = .ok (cs.take (n * d.esz)).toArray w1

theorem mul_idx {i j n e : Nat} (hi : i < n) (hj : j < e) : i * e + j < n * e := by
  have h1 : i * e + e ≤ n * e := by rw [← Nat.succ_mul]; exact Nat.mul_le_mul_right e hi
  omega

theorem src_of_holds {d : Data} {B o : Nat} {len cap : Nat} (hl : len = d.len) (h : Holds (Vw X b σ w) w B o d) : ∃ cs, Src P X b σ w d (.slice (some ⟨B, o, none⟩) len cap) cs := by
  subst hl
  have hz := d.esz_pos
  let f : Nat → Value := fun q => (w.cell? ⟨B, o + q, none⟩).getD undef
  have hf : ∀ q, q < d.len * d.esz → w.cell? ⟨B, o + q, none⟩ = some (f q) := by
    intro q hq
    have h1 : q / d.esz < d.len := by rw [Nat.div_lt_iff_lt_mul hz]; exact hq
    obtain ⟨x, hx, _⟩ := h (q / d.esz) (q % d.esz) h1 (Nat.mod_lt _ hz)
    rw [show o + q / d.esz * d.esz + q % d.esz = o + q by rw [Nat.add_assoc, Nat.div_add_mod']] at hx
    simp [f, hx]
  refine ⟨(List.range (d.len * d.esz)).map f, ⟨by simp, ?_⟩, ?_⟩
  · intro i j hi hj
    obtain ⟨x, hx, hc⟩ := h i j hi hj
    have hq := mul_idx hi hj
    refine ⟨x, ?_, hc⟩
    rw [List.getElem?_map, List.getElem?_range hq]
    have := hf _ hq
    rw [← Nat.add_assoc, hx] at this
    simpa using this.symm
  · intro w1 hw1
    refine ⟨by simp [Builtin.lenOf], fun n hn => ?_⟩
    have hnq : n * d.esz ≤ d.len * d.esz := Nat.mul_le_mul_right _ hn
    have hlen : (((List.range (d.len * d.esz)).map f).take (n * d.esz)).length = n * d.esz := by rw [List.length_take, List.length_map, List.length_range, Nat.min_eq_left hnq]
    have := loadCells_run (P := P) (w := w1) (B := B) (o := o) (cs := ((List.range (d.len * d.esz)).map f).take (n * d.esz)) (by
      intro j v hj
      rw [List.getElem?_take] at hj
      split at hj
      · rename_i hjn
        rw [List.getElem?_map, List.getElem?_range (by omega)] at hj
        simp only [Option.map_some, Option.some.injEq] at hj
        subst hj
        have := hf j (by omega)
        simpa [World.cell?, hw1] using this
      · simp at hj)
    rw [hlen] at this
    simp [Builtin.firstCells, this]

theorem src_empty {d : Data} {a : Option Addr} {cap : Nat} (hd : d.len = 0) : Src P X b σ w d (.slice a 0 cap) [] := by
  refine ⟨⟨by simp [hd], fun i j hi => by omega⟩, fun w1 _ => ⟨by simp [Builtin.lenOf, hd], fun n hn => ?_⟩⟩
  obtain rfl : n = 0 := by omega
  cases a <;> simp [Builtin.firstCells, loadCells, loadCellsFrom]

theorem map_getD (l : List Int) (k : IntKind) (i : Nat) (hi : i < l.length) : (l.map (Value.int k))[i]? = some (.int k (l.getD i 0)) := by simp [List.getD, hi]

theorem dataOf_ok {e : TypeId} {x : SV} {y : Value} {p : Prop} {d : Data} (h : dataOf T e b x = some (p, d)) (hp : p) (hx : V2 X b c σ w x y)
    (hbl : ∀ n g y, fnd b n = some (g, y) → BlkOk X b c σ w n y) : ∃ cs, Src P X b σ w d y cs := by
  cases x <;> simp only [dataOf, reduceCtorEq] at h
  case view tag d' =>
    simp only [Option.some.injEq, Prod.mk.injEq] at h
    obtain ⟨rfl, rfl⟩ := h
    obtain ⟨a, cap, rfl, hlc, hv⟩ := hx
    by_cases hd : d'.len = 0
    · rw [hd]; exact ⟨[], src_empty hd⟩
    · obtain ⟨B, o, rfl, _, hh⟩ := hv hd
      exact src_of_holds rfl hh
  case nil =>
    obtain rfl : y = .slice none 0 0 := hx
    have hd : d.len = 0 := by
      cases e1 : nilD T e <;> simp only [e1, reduceCtorEq, Option.some.injEq, Prod.mk.injEq] at h
      obtain ⟨_, rfl⟩ := h
      unfold nilD at e1
      split at e1 <;> simp only [reduceCtorEq, Option.some.injEq] at e1 <;> subst e1 <;> rfl
    exact ⟨[], src_empty hd⟩
  case str s =>
    simp only [Option.some.injEq, Prod.mk.injEq] at h
    obtain ⟨rfl, rfl⟩ := h
    obtain rfl : y = .string s := hx
    have hl : (Data.ints IntKind.u8 (s.data.toList.map byteI)).len = s.size := by simp only [Data.len, List.length_map, Array.length_toList]; rfl
    refine ⟨(s.data.toList.map byteI).map (.int .u8), ⟨by simp only [List.length_map, Array.length_toList, hl, Data.esz, Nat.mul_one]; rfl, fun i j hi hj => ?_⟩, fun w1 _ => ⟨by rw [hl]; rfl, fun n hn => ?_⟩⟩
    · simp only [Data.esz] at hj
      obtain rfl : j = 0 := by omega
      refine ⟨_, ?_, rfl⟩
      simp only [Data.esz, Nat.mul_one, Nat.add_zero]
      exact map_getD _ _ _ hi
    · simp only [Builtin.firstCells, Data.esz, Nat.mul_one]
      have : ((s.extract 0 n).data.map fun b => Value.int IntKind.u8 (b.toNat : Int)) = (((s.data.toList.map byteI).map (Value.int .u8)).take n).toArray := by
        apply Array.ext'
        simp only [Array.toList_map, ByteArray.data_extract, Array.toList_extract, List.map_map, List.map_take, List.extract_eq_take_drop]
        simp [byteI, List.map_take, Function.comp_def]
      rw [this]; rfl
  case sl n g seg e' off len =>
    obtain ⟨hc, hl⟩ := hx
    cases eb : blkAt b n g <;> simp only [eb, reduceCtorEq] at h
    rename_i bk
    obtain ⟨a, cap, rfl, hlc, hcap⟩ := hl (blkAt_live eb)
    cases bk <;> simp only at h
    case vec dv =>
      simp only [Option.some.injEq, Prod.mk.injEq] at h
      obtain ⟨rfl, rfl⟩ := h
      obtain ⟨rfl, rfl, hle⟩ := hp
      have hsl := sub_len hle
      by_cases hlen : len = 0
      · subst hlen; exact ⟨[], src_empty hsl⟩
      · obtain ⟨B, hB, rfl, _⟩ := hcap (by omega)
        rcases hbl n g _ (blkAt_fnd eb) with ⟨hn, _⟩ | ⟨B', cs, ty, fr, hB', hheap, hfree, hsz, hh, _⟩
        · rw [hn] at hB; simp at hB
        obtain rfl : B = B' := by simpa using hB.symm.trans hB'
        exact src_of_holds hsl.symm (hh.sub hle)
    case cells l =>
      cases ea : arrAt l seg <;> simp only [ea, reduceCtorEq, Option.some.injEq, Prod.mk.injEq] at h
      rename_i q
      obtain ⟨k, n', l'⟩ := q
      simp only at h
      obtain ⟨rfl, rfl⟩ := h
      obtain ⟨rfl, hle⟩ := hp
      obtain ⟨B', cs, ty, fr, hB', hheap, hfree, hcells⟩ := hbl n g _ (blkAt_fnd eb)
      obtain ⟨g1, g2, g3⟩ := arrAt_len hcells ea
      have hsl : len = (Data.ints k ((l'.drop off).take len)).len := by simp [Data.len]; omega
      by_cases hlen : len = 0
      · subst hlen; exact ⟨[], src_empty (by simp [Data.len])⟩
      · obtain ⟨B, hB, rfl, _⟩ := hcap (by omega)
        obtain rfl : B = B' := by simpa using hB.symm.trans hB'
        refine src_of_holds hsl (fun i j hi hj => ?_)
        simp only [Data.esz] at hj
        obtain rfl : j = 0 := by omega
        refine ⟨.int k (l'.getD (off + i) 0), ?_, ?_⟩
        · rw [cell_block hheap]
          have := g3 (off + i) (by omega)
          simp only [Data.esz, Nat.mul_one, Nat.add_zero]
          rw [Nat.add_assoc]
          simpa using this
        · simp only [CellOk, List.getD, List.getElem?_take, List.getElem?_drop]
          rw [if_pos (by omega)]

theorem cellOk_one {d : Data} {i j : Nat} {x : Value} (h : CellOk (Vw X b σ w) w i j d x) : x.oneCell' = true := by
  cases d
  case rows t l => obtain ⟨a, cap, rfl, _⟩ := h; rfl
  case locks l =>
    match j, h with
    | 0, h => rw [show x = _ from h]; rfl
    | 1, h => rw [show x = _ from h]; rfl
    | 2, h => rw [show x = _ from h]; rfl
    | _ + 3, h => rw [show x = _ from h]; rfl
  case ents l =>
    match j, h with
    | 0, h => rw [show x = _ from h]; rfl
    | 1, h => rw [show x = _ from h]; rfl
    | _ + 2, h => rw [show x = _ from h]; rfl
  all_goals rw [show x = _ from h]; rfl

theorem cs_one {d : Data} {cs : List Value} (h : Cs X b σ w d cs) : ∀ v ∈ cs, v.oneCell' = true := by
  intro v hv
  obtain ⟨q, hq⟩ := List.mem_iff_getElem?.1 hv
  have hql : q < d.len * d.esz := by
    rw [← h.1]
    rcases Nat.lt_or_ge q cs.length with h | h
    · exact h
    · simp [List.getElem?_eq_none h] at hq
  have hz := d.esz_pos
  have h1 : q / d.esz < d.len := by rw [Nat.div_lt_iff_lt_mul hz]; exact hql
  obtain ⟨x, hx, hc⟩ := h.2 (q / d.esz) (q % d.esz) h1 (Nat.mod_lt _ hz)
  rw [Nat.div_add_mod', hq] at hx
  simp only [Option.some.injEq] at hx
  subst hx
  exact cellOk_one hc

theorem setC_ok {l l2 : List SV} {cs : List Value} {o : Nat} {x : SV} {v : Value} (h : CellsOk X b c σ w l cs) (e : setC l o x = some l2) (hx : V0 X b c σ w x v) :
    o < cs.length ∧ CellsOk X b c σ w l2 (cs.set o v) := by
  induction l generalizing cs o l2 with
  | nil => simp [setC] at e
  | cons y r ih =>
    cases y
    case arr k n q =>
      obtain ⟨h1, cs', rfl, h2⟩ := h
      simp only [setC] at e
      split at e
      · rename_i ho
        cases x <;> simp only [reduceCtorEq] at e
        rename_i k' u
        split at e <;> simp only [reduceCtorEq, Option.some.injEq] at e
        rename_i hk
        subst hk; subst e
        obtain rfl : v = .int k u := hx
        refine ⟨by simp; omega, by simpa using h1, cs', ?_, h2⟩
        rw [List.set_append_left _ _ (by simp; omega), List.map_set]
      · cases e2 : setC r (o - n) x <;> simp only [e2, Option.map_none, Option.map_some, reduceCtorEq, Option.some.injEq] at e
        subst e
        obtain ⟨g1, g2⟩ := ih h2 e2
        refine ⟨by simp; omega, h1, _, ?_, g2⟩
        rw [List.set_append_right _ _ (by simp; omega)]
        simp [h1]
    all_goals
      obtain ⟨u, cs', rfl, h1, h2⟩ := h
      simp only [setC] at e
      split at e
      · rename_i ho
        subst ho
        simp only [Option.some.injEq] at e
        subst e
        refine ⟨by simp, ?_⟩
        cases x <;> first | exact hx.elim | exact ⟨v, cs', rfl, hx, h2⟩
      · cases e2 : setC r (o - 1) x <;> simp only [e2, Option.map_none, Option.map_some, reduceCtorEq, Option.some.injEq] at e
        subst e
        obtain ⟨g1, g2⟩ := ih h2 e2
        refine ⟨by simp; omega, u, cs'.set (o - 1) v, ?_, h1, g2⟩
        rw [show o = (o - 1) + 1 by omega, List.set_cons_succ]; rfl

theorem setA_ok {l l2 : List SV} {cs : List Value} {o n : Nat} {k : IntKind} {m m' : List Int} (h : CellsOk X b c σ w l cs) (ea : arrAt l o = some (k, n, m)) (e : setA l o m' = some l2) (hm : m'.length = n) :
    CellsOk X b c σ w l2 (cs.take o ++ m'.map (.int k) ++ cs.drop (o + n)) := by
  induction l generalizing cs o l2 with
  | nil => simp [setA] at e
  | cons y r ih =>
    cases y
    case arr k' n' q =>
      obtain ⟨h1, cs', rfl, h2⟩ := h
      simp only [setA] at e
      simp only [arrAt] at ea
      split at e
      · rename_i ho
        subst ho
        simp only [if_true, Option.some.injEq, Prod.mk.injEq] at ea e
        obtain ⟨rfl, rfl, rfl⟩ := ea
        subst e
        refine ⟨hm, cs', ?_, h2⟩
        simp [List.drop_append, h1]
      · rename_i ho
        rw [if_neg ho] at ea
        split at e
        · rename_i hno
          rw [if_pos hno] at ea
          cases e2 : setA r (o - n') m' <;> simp only [e2, Option.map_none, Option.map_some, reduceCtorEq, Option.some.injEq] at e
          subst e
          have g2 := ih h2 ea e2
          refine ⟨h1, _, ?_, g2⟩
          rw [List.take_append, List.take_of_length_le (by simp; omega), List.drop_append, List.drop_eq_nil_of_le (by simp; omega)]
          simp only [List.length_map, h1, List.append_assoc, List.nil_append]
          rw [show o + n - n' = o - n' + n by omega]
        · simp at e
    all_goals
      obtain ⟨u, cs', rfl, h1, h2⟩ := h
      simp only [setA] at e
      simp only [arrAt] at ea
      split at e
      · simp at e
      · rename_i ho
        rw [if_neg ho] at ea
        cases e2 : setA r (o - 1) m' <;> simp only [e2, Option.map_none, Option.map_some, reduceCtorEq, Option.some.injEq] at e
        subst e
        have g2 := ih h2 ea e2
        refine ⟨u, _, ?_, h1, g2⟩
        obtain ⟨o', rfl⟩ : ∃ o', o = o' + 1 := ⟨o - 1, by omega⟩
        rw [show o' + 1 + n = (o' + n) + 1 by omega]
        simp
end

end Go.Proofs.Ytbnjdnahpnjofaa.Abs
