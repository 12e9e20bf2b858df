/- OWN LIBRARY, part 5: loads; all operations that leave memory as it is. -/
import Derived.Test.YtbnjdnahpnjofaaA4
import Derived.Laws.Cells
set_option linter.unusedVariables false
set_option linter.unusedSimpArgs false
namespace Go.Proofs.Ytbnjdnahpnjofaa.Abs
open Go

section
variable {P : Program} {T : Tab} {X : Ctx} {b : List (Nat × Nat × Blk)} {c : Lim} {σ : Env} {w : World}

theorem cellAt_ok {l : List SV} {cs : List Value} {o : Nat} {x : SV} (h : CellsOk X b c σ w l cs) (e : cellAt l o = some x) : ∃ v, cs[o]? = some v ∧ V0 X b c σ w x v := by
  induction l generalizing cs o with
  | nil => simp [cellAt] at e
  | cons y r ih =>
    cases y
    case arr k n m =>
      obtain ⟨h1, cs', rfl, h2⟩ := h
      simp only [cellAt] at e
      split at e
      · rename_i ho
        simp only [Option.some.injEq] at e
        subst e
        refine ⟨.int k (m.getD o 0), ?_, rfl⟩
        rw [List.getElem?_append_left (by simp; omega), List.getElem?_map]
        simp [List.getD, show o < m.length by omega]
      · obtain ⟨v, hv, h3⟩ := ih h2 e
        refine ⟨v, ?_, h3⟩
        rw [List.getElem?_append_right (by simp; omega), ← hv]
        congr 1; simp; omega
    all_goals
      obtain ⟨v, cs', rfl, h1, h2⟩ := h
      simp only [cellAt] at e
      split at e
      · rename_i ho
        simp only [Option.some.injEq] at e
        subst e; subst ho
        exact ⟨v, rfl, h1⟩
      · obtain ⟨v', hv, h3⟩ := ih h2 e
        refine ⟨v', ?_, h3⟩
        rw [← hv, show o = (o - 1) + 1 by omega, List.getElem?_cons_succ]; rfl

theorem dropC_ok {l m : List SV} {cs : List Value} {o : Nat} (h : CellsOk X b c σ w l cs) (e : dropC l o = some m) : o ≤ cs.length ∧ CellsOk X b c σ w m (cs.drop o) := by
  induction l generalizing cs o with
  | nil =>
    cases o with
    | zero => simp only [dropC, Option.some.injEq] at e; subst e; exact ⟨by omega, h⟩
    | succ o => simp [dropC] at e
  | cons y r ih =>
    cases o with
    | zero => simp only [dropC, Option.some.injEq] at e; subst e; exact ⟨by omega, h⟩
    | succ o =>
      cases y
      case arr k n q =>
        obtain ⟨h1, cs', rfl, h2⟩ := h
        simp only [dropC] at e
        split at e
        · obtain ⟨g1, g2⟩ := ih h2 e
          refine ⟨by simp; omega, ?_⟩
          rw [List.drop_append, List.drop_eq_nil_of_le (by simp; omega), List.nil_append, List.length_map, h1]
          exact g2
        · simp at e
      all_goals
        obtain ⟨v, cs', rfl, h1, h2⟩ := h
        simp only [dropC] at e
        obtain ⟨g1, g2⟩ := ih h2 e
        exact ⟨by simp; omega, by simpa using g2⟩

theorem takeC_ok {l m : List SV} {cs : List Value} {n : Nat} (h : CellsOk X b c σ w l cs) (e : takeC l n = some m) : n ≤ cs.length ∧ CellsOk X b c σ w m (cs.take n) := by
  induction l generalizing cs n m with
  | nil =>
    cases n with
    | zero => simp only [takeC, Option.some.injEq] at e; subst e; exact ⟨by omega, by simp [CellsOk]⟩
    | succ o => simp [takeC] at e
  | cons y r ih =>
    cases n with
    | zero => simp only [takeC, Option.some.injEq] at e; subst e; exact ⟨by omega, by simp [CellsOk]⟩
    | succ o =>
      cases y
      case arr k n q =>
        obtain ⟨h1, cs', rfl, h2⟩ := h
        simp only [takeC] at e
        split at e
        · cases e2 : takeC r (o + 1 - n) <;> simp only [e2, Option.map_none, Option.map_some, reduceCtorEq, Option.some.injEq] at e
          subst e
          obtain ⟨g1, g2⟩ := ih h2 e2
          refine ⟨by simp; omega, h1, cs'.take (o + 1 - n), ?_, g2⟩
          rw [List.take_append, List.take_of_length_le (by simp; omega), List.length_map, h1]
        · simp at e
      all_goals
        obtain ⟨v, cs', rfl, h1, h2⟩ := h
        simp only [takeC] at e
        cases e2 : takeC r o <;> simp only [e2, Option.map_none, Option.map_some, reduceCtorEq, Option.some.injEq] at e
        subst e
        obtain ⟨g1, g2⟩ := ih h2 e2
        exact ⟨by simp; omega, v, cs'.take o, rfl, h1, g2⟩

theorem isRow_view {l : List Int} {tag : Bool} {v : Value} (h : IsRow (Vw X b σ w tag) w l v) : IsView (Vw X b σ w) w tag (.ints .u8 l) v := by
  obtain ⟨a, cap, rfl, h1, h2⟩ := h
  refine ⟨a, cap, rfl, h1, fun hne => ?_⟩
  obtain ⟨B, o, rfl, hv, hc⟩ := h2 hne
  refine ⟨B, o, rfl, hv, fun i j hi hj => ⟨_, ?_, rfl⟩⟩
  have : j = 0 := by simp [Data.esz] at hj; exact hj
  subst this
  simpa [Data.esz] using hc i hi

theorem elemV_ok {d : Data} {i j : Nat} {v : Value} (h : CellOk (Vw X b σ w) w i j d v) : V0 X b c σ w (elemV i j d) v := by
  cases d
  case rows t l => exact isRow_view h
  case locks l =>
    match j, h with
    | 0, h => exact h
    | 1, h => exact h
    | 2, h => exact h
    | _ + 3, h => exact h
  case ents l =>
    match j, h with
    | 0, h => exact h
    | 1, h => exact h
    | _ + 2, h => exact h
  all_goals exact h

theorem isAgg_one (TO : TabOk P T) {t : TypeId} (h : one (T.ty t) = true) : (isAgg t).run P w = .ok false w := by
  have ht := TO.ty t
  cases e : T.ty t <;> rw [e] at ht h <;> simp only [tyOk, one, Bool.false_eq_true] at ht h
  all_goals simp [isAgg, run_underlying ht]

theorem isAgg_struct (TO : TabOk P T) {t : TypeId} {fs : List (Nat × TypeId)} (h : T.ty t = .struct fs) : (isAgg t).run P w = .ok true w := by
  have ht := TO.ty t
  rw [h] at ht; simp only [tyOk] at ht
  obtain ⟨f, hf, _⟩ := ht
  simp [isAgg, run_underlying hf]

theorem isAgg_array (TO : TabOk P T) {t e : TypeId} {n : Nat} (h : T.ty t = .array n e) : (isAgg t).run P w = .ok true w := by
  have ht := TO.ty t
  rw [h] at ht; simp only [tyOk] at ht
  simp [isAgg, run_underlying ht]

theorem load_run {a : Addr} {v : Value} (h : w.cell? a = some v) : (load a).run P w = .ok v w := by simp [load, Sem.run, h]

theorem loadCells_run {B o : Nat} {cs : List Value} (h : ∀ j v, cs[j]? = some v → w.cell? ⟨B, o + j, none⟩ = some v) : (loadCells ⟨B, o, none⟩ cs.length).run P w = .ok cs.toArray w :=
  run_loadCells_list w ⟨B, o, none⟩ cs (fun j v hj => by rw [addr_add]; exact h j v hj)

theorem cell_block {B o : Nat} {cs : Array Value} {t : TypeId} {fr : Nat × Nat} (h : w.heap[B]? = some (.cells cs t fr)) : w.cell? ⟨B, o, none⟩ = cs[o]? := by simp [World.cell?, h]

theorem loadV_ok (TO : TabOk P T) {t : TypeId} {x : SV} {x' : Value} {p : Prop} {v : SV} (h : loadV T b t x = some (p, v)) (hp : p)
    (hx : V2 X b c σ w x x') (hbl : ∀ n g y, fnd b n = some (g, y) → BlkOk X b c σ w n y) (hgl : ∀ g k l, GT g = some (k, l) → ∀ i, i < l.length → w.cell? ⟨g, i, none⟩ = some (.int k (l.getD i 0))) :
    ∃ u, (Instr.loadAt t x').run P w = .ok u w ∧ V2 X b c σ w v u := by
  cases x <;> simp only [loadV, reduceCtorEq] at h
  case ptr n g off =>
    cases eb : blkAt b n g <;> simp only [eb, reduceCtorEq] at h
    rename_i bk
    cases bk <;> simp only [reduceCtorEq] at h
    rename_i l
    obtain ⟨hc, hl⟩ := hx
    obtain ⟨B, hB, rfl⟩ := hl (blkAt_live eb)
    obtain ⟨B', cs, ty, fr, hB', hheap, hfree, hcells⟩ := hbl n g _ (blkAt_fnd eb)
    obtain rfl : B = B' := by simpa using hB.symm.trans hB'
    have oneCase : one (T.ty t) = true → (∀ y, cellAt l off = some y → some (True, y) = some (p, v) → ∃ u, (Instr.loadAt t (.pointer (some ⟨B, off, none⟩))).run P w = .ok u w ∧ V2 X b c σ w v u) := by
      intro h1 y hy e
      simp only [Option.some.injEq, Prod.mk.injEq] at e
      obtain ⟨_, rfl⟩ := e
      obtain ⟨u, hu, hv⟩ := cellAt_ok hcells hy
      refine ⟨u, ?_, V2_of_V1 (V1_of_V0 hv)⟩
      have hcell : w.cell? ⟨B, off, none⟩ = some u := by rw [cell_block hheap]; simpa using hu
      simp only [Instr.loadAt, Instr.sureAddr, loadVar, Sem.run_bind, Sem.run_pure, Result.andThen_ok, isAgg_one TO h1, load_run hcell, Bool.false_eq_true, if_false]
    cases e : T.ty t <;> simp only [e] at h
    case struct fs =>
      cases ed : (dropC l off).bind (takeC · (T.size t)) <;> simp only [ed, reduceCtorEq, Option.some.injEq, Prod.mk.injEq] at h
      rename_i m
      obtain ⟨rfl, rfl⟩ := h
      cases ed2 : dropC l off <;> simp only [ed2, Option.bind_none, Option.bind_some, reduceCtorEq] at ed
      obtain ⟨g1, g2⟩ := dropC_ok hcells ed2
      obtain ⟨g3, g4⟩ := takeC_ok g2 ed
      refine ⟨.agg ((cs.toList.drop off).take (T.size t)).toArray, ?_, _, rfl, by simpa using g4⟩
      have hln : ((cs.toList.drop off).take (T.size t)).length = T.size t := by rw [List.length_take]; omega
      have hlc := loadCells_run (P := P) (w := w) (B := B) (o := off) (cs := (cs.toList.drop off).take (T.size t)) (by
        intro j v hj
        rw [cell_block hheap]
        rw [List.getElem?_take] at hj
        split at hj
        · simpa using hj
        · simp at hj)
      rw [hln] at hlc
      simp [Instr.loadAt, Instr.sureAddr, loadVar, isAgg_struct TO e, size_run TO hp, hlc]
    case array m el =>
      cases ea : arrAt l off <;> simp only [ea, reduceCtorEq, Option.some.injEq, Prod.mk.injEq] at h
      rename_i q
      obtain ⟨k, m', l'⟩ := q
      simp only at h
      obtain ⟨rfl, rfl⟩ := h
      obtain ⟨rfl, hs, hm0⟩ := hp
      obtain ⟨g1, g2, g3⟩ := arrAt_len hcells ea
      have hlc := loadCells_run (P := P) (w := w) (B := B) (o := off) (cs := l'.map (.int k)) (by
        intro j v hj
        rw [cell_block hheap]
        rw [List.getElem?_map] at hj
        have hjl : j < l'.length := by
          rcases Nat.lt_or_ge j l'.length with h | h
          · exact h
          · simp [List.getElem?_eq_none h] at hj
        have := g3 j (by omega)
        simp only [List.getD, List.getElem?_eq_getElem hjl, Option.getD_some, Option.map_some, Option.some.injEq] at this hj
        subst hj
        simpa using this)
      rw [List.length_map, g2] at hlc
      refine ⟨.agg (l'.map (.int k)).toArray, ?_, rfl, g2⟩
      simp [Instr.loadAt, Instr.sureAddr, loadVar, isAgg_array TO e, size_run TO (t := t) (by omega), hs, hlc]
    case other => simp at h
    all_goals
      cases ec : cellAt l off <;> simp only [ec, reduceCtorEq] at h
      exact oneCase (by rw [e]; rfl) _ ec h
  case eptr n g seg e i m =>
    obtain ⟨him, hc, hl⟩ := hx
    cases eb : blkAt b n g <;> simp only [eb, reduceCtorEq] at h
    rename_i bk
    obtain ⟨B, hB, rfl⟩ := hl (blkAt_live eb)
    cases bk <;> simp only [reduceCtorEq] at h
    case vec d =>
      have key : one (T.ty t) = true → some (seg = 0 ∧ e = 1 ∧ d.esz = 1 ∧ m ≤ d.len, elemV i 0 d) = some (p, v) → ∃ u, (Instr.loadAt t (.pointer (some ⟨B, seg + i * e, none⟩))).run P w = .ok u w ∧ V2 X b c σ w v u := by
        intro h1 hh
        simp only [Option.some.injEq, Prod.mk.injEq] at hh
        obtain ⟨rfl, rfl⟩ := hh
        obtain ⟨rfl, rfl, h3, h4⟩ := hp
        rcases hbl n g _ (blkAt_fnd eb) with ⟨hn, _⟩ | ⟨B', cs, ty, fr, hB', hheap, hfree, hsz, hh, _⟩
        · rw [hn] at hB; simp at hB
        obtain rfl : B = B' := by simpa using hB.symm.trans hB'
        obtain ⟨u, hu, hcell⟩ := hh i 0 (by omega) (by omega)
        rw [h3] at hu
        refine ⟨u, ?_, V2_of_V1 (V1_of_V0 (elemV_ok hcell))⟩
        have hu' : w.cell? ⟨B, 0 + i * 1, none⟩ = some u := by simpa using hu
        simp only [Instr.loadAt, Instr.sureAddr, loadVar, Sem.run_bind, Sem.run_pure, Result.andThen_ok, isAgg_one TO h1, load_run hu', Bool.false_eq_true, if_false]
      cases e2 : T.ty t <;> simp only [e2, reduceCtorEq] at h
      case array m' el =>
        cases d <;> simp only [reduceCtorEq, Option.some.injEq, Prod.mk.injEq] at h
        rename_i k l
        obtain ⟨rfl, rfl⟩ := h
        obtain ⟨rfl, rfl, hs, hm0, hin, hml⟩ := hp
        rcases hbl n g _ (blkAt_fnd eb) with ⟨hn, _⟩ | ⟨B', cs, ty, fr, hB', hheap, hfree, hsz, hh, _⟩
        · rw [hn] at hB; simp at hB
        obtain rfl : B = B' := by simpa using hB.symm.trans hB'
        have hlen : ((l.drop i).take m').length = m' := by simp; omega
        have hlc := loadCells_run (P := P) (w := w) (B := B) (o := 0 + i * 1) (cs := ((l.drop i).take m').map (.int k)) (by
          intro j v hj
          rw [List.getElem?_map] at hj
          have hjl : j < m' := by
            rcases Nat.lt_or_ge j m' with h | h
            · exact h
            · rw [List.getElem?_eq_none (by omega)] at hj; simp at hj
          obtain ⟨u, hu, hcell⟩ := hh (i + j) 0 (by simp [Data.len]; omega) (by simp [Data.esz])
          obtain rfl : u = _ := hcell
          rw [List.getElem?_take, if_pos hjl, List.getElem?_drop] at hj
          simp only [Data.esz, Nat.mul_one, Nat.add_zero, Nat.zero_add] at hu ⊢
          rw [hu]
          simp only [List.getElem?_eq_getElem (show i + j < l.length by omega), Option.map_some, Option.some.injEq] at hj
          rw [← hj]
          simp [List.getD, show i + j < l.length by omega])
        rw [List.length_map, hlen] at hlc
        refine ⟨.agg (((l.drop i).take m').map (.int k)).toArray, ?_, rfl, hlen⟩
        simp [Instr.loadAt, Instr.sureAddr, loadVar, isAgg_array TO e2, size_run TO (t := t) (by omega), hs] at hlc ⊢
        simp [hlc]
      all_goals exact key (by rw [e2]; rfl) h
    case cells l =>
      cases e2 : T.ty t <;> simp only [e2, reduceCtorEq] at h
      case array m' el =>
        cases ea : arrAt l seg <;> simp only [ea, reduceCtorEq, Option.some.injEq, Prod.mk.injEq] at h
        rename_i q
        obtain ⟨k, n', l'⟩ := q
        simp only at h
        obtain ⟨rfl, rfl⟩ := h
        obtain ⟨rfl, hs, hm0, hin, hml⟩ := hp
        obtain ⟨B', cs, ty, fr, hB', hheap, hfree, hcells⟩ := hbl n g _ (blkAt_fnd eb)
        obtain rfl : B = B' := by simpa using hB.symm.trans hB'
        obtain ⟨g1, g2, g3⟩ := arrAt_len hcells ea
        have hlen : ((l'.drop i).take m').length = m' := by simp; omega
        have hlc := loadCells_run (P := P) (w := w) (B := B) (o := seg + i * 1) (cs := ((l'.drop i).take m').map (.int k)) (by
          intro j v hj
          rw [List.getElem?_map] at hj
          have hjl : j < m' := by
            rcases Nat.lt_or_ge j m' with h | h
            · exact h
            · rw [List.getElem?_eq_none (by omega)] at hj; simp at hj
          rw [List.getElem?_take, if_pos hjl, List.getElem?_drop] at hj
          have := g3 (i + j) (by omega)
          simp only [List.getElem?_eq_getElem (show i + j < l'.length by omega), Option.map_some, Option.some.injEq] at hj
          rw [cell_block hheap, Nat.mul_one, Nat.add_assoc, ← hj]
          simpa [List.getD, show i + j < l'.length by omega] using this)
        rw [List.length_map, hlen] at hlc
        refine ⟨.agg (((l'.drop i).take m').map (.int k)).toArray, ?_, rfl, hlen⟩
        simp [Instr.loadAt, Instr.sureAddr, loadVar, isAgg_array TO e2, size_run TO (t := t) (by omega), hs] at hlc ⊢
        simp [hlc]
      case int k0 =>
        cases ea : arrAt l seg <;> simp only [ea, reduceCtorEq, Option.some.injEq, Prod.mk.injEq] at h
        rename_i q
        obtain ⟨k, n', l'⟩ := q
        simp only at h
        obtain ⟨rfl, rfl⟩ := h
        obtain ⟨rfl, hmn⟩ := hp
        obtain ⟨B', cs, ty, fr, hB', hheap, hfree, hcells⟩ := hbl n g _ (blkAt_fnd eb)
        obtain rfl : B = B' := by simpa using hB.symm.trans hB'
        obtain ⟨g1, g2, g3⟩ := arrAt_len hcells ea
        have hu' : w.cell? ⟨B, seg + i * 1, none⟩ = some (.int k (l'.getD i 0)) := by
          rw [cell_block hheap, Nat.mul_one]
          simpa using g3 i (by omega)
        refine ⟨_, ?_, rfl⟩
        simp only [Instr.loadAt, Instr.sureAddr, loadVar, Sem.run_bind, Sem.run_pure, Result.andThen_ok, isAgg_one TO (t := t) (by rw [e2]; rfl), load_run hu', Bool.false_eq_true, if_false]
      case struct fs =>
        cases ed : (dropC l (seg + i * e)).bind (takeC · (T.size t)) <;> simp only [ed, reduceCtorEq, Option.some.injEq, Prod.mk.injEq] at h
        rename_i q
        obtain ⟨rfl, rfl⟩ := h
        obtain ⟨B', cs, ty, fr, hB', hheap, hfree, hcells⟩ := hbl n g _ (blkAt_fnd eb)
        obtain rfl : B = B' := by simpa using hB.symm.trans hB'
        cases ed2 : dropC l (seg + i * e) <;> simp only [ed2, Option.bind_none, Option.bind_some, reduceCtorEq] at ed
        obtain ⟨g1, g2⟩ := dropC_ok hcells ed2
        obtain ⟨g3, g4⟩ := takeC_ok g2 ed
        refine ⟨.agg ((cs.toList.drop (seg + i * e)).take (T.size t)).toArray, ?_, _, rfl, by simpa using g4⟩
        have hln : ((cs.toList.drop (seg + i * e)).take (T.size t)).length = T.size t := by rw [List.length_take]; omega
        have hlc := loadCells_run (P := P) (w := w) (B := B) (o := seg + i * e) (cs := (cs.toList.drop (seg + i * e)).take (T.size t)) (by
          intro j v hj
          rw [cell_block hheap]
          rw [List.getElem?_take] at hj
          split at hj
          · simpa using hj
          · simp at hj)
        rw [hln] at hlc
        simp [Instr.loadAt, Instr.sureAddr, loadVar, isAgg_struct TO e2, size_run TO hp, hlc]
      all_goals
        cases ec : cellAt l (seg + i * e) <;> simp only [ec, reduceCtorEq, Option.some.injEq, Prod.mk.injEq] at h
        obtain ⟨rfl, rfl⟩ := h
        obtain ⟨B', cs, ty, fr, hB', hheap, hfree, hcells⟩ := hbl n g _ (blkAt_fnd eb)
        obtain rfl : B = B' := by simpa using hB.symm.trans hB'
        obtain ⟨u, hu, hv⟩ := cellAt_ok hcells ec
        have hcell : w.cell? ⟨B, seg + i * e, none⟩ = some u := by rw [cell_block hheap]; simpa using hu
        refine ⟨u, ?_, V2_of_V1 (V1_of_V0 hv)⟩
        simp only [Instr.loadAt, Instr.sureAddr, loadVar, Sem.run_bind, Sem.run_pure, Result.andThen_ok, isAgg_one TO (t := t) (by rw [e2]; rfl), load_run hcell, Bool.false_eq_true, if_false]
  case vptr tag d i j =>
    obtain ⟨hi, B, o, rfl, hvw, hh⟩ := hx
    have key : one (T.ty t) = true → some (j < d.esz, elemV i j d) = some (p, v) → ∃ u, (Instr.loadAt t (.pointer (some ⟨B, o + i * d.esz + j, none⟩))).run P w = .ok u w ∧ V2 X b c σ w v u := by
      intro h1 e
      simp only [Option.some.injEq, Prod.mk.injEq] at e
      obtain ⟨rfl, rfl⟩ := e
      obtain ⟨u, hu, hcell⟩ := hh i j hi hp
      refine ⟨u, ?_, V2_of_V1 (V1_of_V0 (elemV_ok hcell))⟩
      simp only [Instr.loadAt, Instr.sureAddr, loadVar, Sem.run_bind, Sem.run_pure, Result.andThen_ok, isAgg_one TO h1, load_run hu, Bool.false_eq_true, if_false]
    cases e2 : T.ty t <;> simp only [e2, reduceCtorEq] at h
    case struct fs =>
      cases d <;> simp only [reduceCtorEq, Option.some.injEq, Prod.mk.injEq] at h
      case locks l =>
        obtain ⟨rfl, rfl⟩ := h
        obtain ⟨hs, rfl⟩ := hp
        obtain ⟨u0, hu0, c0⟩ := hh i 0 hi (by simp [Data.esz])
        obtain ⟨u1, hu1, c1⟩ := hh i 1 hi (by simp [Data.esz])
        obtain ⟨u2, hu2, c2⟩ := hh i 2 hi (by simp [Data.esz])
        obtain ⟨u3, hu3, c3⟩ := hh i 3 hi (by simp [Data.esz])
        have hlc := loadCells_run (P := P) (w := w) (B := B) (o := o + i * 4 + 0) (cs := [u0, u1, u2, u3]) (by
          intro j v hj
          match j, hj with
          | 0, hj => simpa using hj ▸ hu0
          | 1, hj => simpa using hj ▸ hu1
          | 2, hj => simpa using hj ▸ hu2
          | 3, hj => simpa using hj ▸ hu3
          | n + 4, hj => simp at hj)
        refine ⟨.agg #[u0, u1, u2, u3], ?_, _, rfl, u0, _, rfl, elemV_ok c0, u1, _, rfl, elemV_ok c1, u2, _, rfl, elemV_ok c2, u3, _, rfl, elemV_ok c3, rfl⟩
        simp only [List.length_cons, List.length_nil, Nat.zero_add, Nat.reduceAdd] at hlc
        simp [Instr.loadAt, Instr.sureAddr, loadVar, isAgg_struct TO e2, size_run TO (t := t) (by omega), hs, Data.esz] at hlc ⊢
        simp [hlc]
      case ents l =>
        obtain ⟨rfl, rfl⟩ := h
        obtain ⟨hs, rfl⟩ := hp
        obtain ⟨u0, hu0, c0⟩ := hh i 0 hi (by simp [Data.esz])
        obtain ⟨u1, hu1, c1⟩ := hh i 1 hi (by simp [Data.esz])
        obtain ⟨u2, hu2, c2⟩ := hh i 2 hi (by simp [Data.esz])
        have hlc := loadCells_run (P := P) (w := w) (B := B) (o := o + i * 3 + 0) (cs := [u0, u1, u2]) (by
          intro j v hj
          match j, hj with
          | 0, hj => simpa using hj ▸ hu0
          | 1, hj => simpa using hj ▸ hu1
          | 2, hj => simpa using hj ▸ hu2
          | n + 3, hj => simp at hj)
        refine ⟨.agg #[u0, u1, u2], ?_, _, rfl, u0, _, rfl, elemV_ok c0, u1, _, rfl, elemV_ok c1, u2, _, rfl, elemV_ok c2, rfl⟩
        simp only [List.length_cons, List.length_nil, Nat.zero_add, Nat.reduceAdd] at hlc
        simp [Instr.loadAt, Instr.sureAddr, loadVar, isAgg_struct TO e2, size_run TO (t := t) (by omega), hs, Data.esz] at hlc ⊢
        simp [hlc]
    case array m el =>
      cases d <;> simp only [reduceCtorEq, Option.some.injEq, Prod.mk.injEq] at h
      rename_i k l
      obtain ⟨rfl, rfl⟩ := h
      obtain ⟨hs, hm0, rfl, hin⟩ := hp
      have hlen : ((l.drop i).take m).length = m := by simp; omega
      have hlc := loadCells_run (P := P) (w := w) (B := B) (o := o + i * 1 + 0) (cs := ((l.drop i).take m).map (.int k)) (by
        intro j v hj
        rw [List.getElem?_map] at hj
        have hjl : j < m := by
          rcases Nat.lt_or_ge j m with h | h
          · exact h
          · rw [List.getElem?_eq_none (by omega)] at hj; simp at hj
        obtain ⟨u, hu, hcell⟩ := hh (i + j) 0 (by simp [Data.len]; omega) (by simp [Data.esz])
        obtain rfl : u = _ := hcell
        rw [List.getElem?_take, if_pos hjl, List.getElem?_drop] at hj
        simp only [Data.esz, Nat.mul_one, Nat.add_zero] at hu ⊢
        rw [Nat.add_assoc, hu]
        simp only [List.getElem?_eq_getElem (show i + j < l.length by omega), Option.map_some, Option.some.injEq] at hj
        rw [← hj]
        simp [List.getD, show i + j < l.length by omega])
      rw [List.length_map, hlen] at hlc
      refine ⟨.agg (((l.drop i).take m).map (.int k)).toArray, ?_, rfl, hlen⟩
      simp [Instr.loadAt, Instr.sureAddr, loadVar, isAgg_array TO e2, size_run TO (t := t) (by omega), hs, Data.esz] at hlc ⊢
      simp [hlc]
    all_goals exact key (by rw [e2]; rfl) h
  case lit y =>
    obtain rfl : x' = y := hx
    cases x' <;> simp only [gloadV, reduceCtorEq] at h
    rename_i ad
    cases ad <;> simp only [gloadV, reduceCtorEq] at h
    rename_i ad
    cases e2 : T.ty t <;> simp only [e2, reduceCtorEq] at h
    cases e3 : GT ad.block <;> simp only [e3, reduceCtorEq, Option.some.injEq, Prod.mk.injEq] at h
    rename_i m el q
    obtain ⟨k, l⟩ := q
    simp only [Option.some.injEq, Prod.mk.injEq] at h
    obtain ⟨rfl, rfl⟩ := h
    obtain ⟨B, o, sp⟩ := ad
    obtain ⟨rfl, rfl, rfl, hs, hm0⟩ := hp
    have hg := hgl _ _ _ e3
    have hlc := loadCells_run (P := P) (w := w) (B := B) (o := 0) (cs := l.map (.int k)) (by
      intro j v hj
      rw [List.getElem?_map] at hj
      have hjl : j < l.length := by
        rcases Nat.lt_or_ge j l.length with h | h
        · exact h
        · rw [List.getElem?_eq_none (by omega)] at hj; simp at hj
      have := hg j hjl
      simp only [List.getElem?_eq_getElem hjl, Option.map_some, Option.some.injEq] at hj
      rw [← hj]
      simpa [List.getD, hjl] using this)
    rw [List.length_map] at hlc
    refine ⟨.agg (l.map (.int k)).toArray, ?_, rfl, rfl⟩
    simp [Instr.loadAt, Instr.sureAddr, loadVar, isAgg_array TO e2, size_run TO (t := t) (by omega), hs, hlc]

theorem gl_here {X : Ctx} {s : St} {σ : Env} {w : World} {a : Act} (hR : R X s σ w a) : ∀ g k l, GT g = some (k, l) → ∀ i, i < l.length → w.cell? ⟨g, i, none⟩ = some (.int k (l.getD i 0)) := by
  intro g k l h i hi
  obtain ⟨h1, h2⟩ := hR.gl g k l h
  obtain ⟨h3, h4⟩ := hR.ro g h1
  rw [cell_of_heap (hR.fr.2 g h3 h4)]
  exact h2 i hi

theorem CellsOk_zero {b : List (Nat × Nat × Blk)} {c : Lim} : ∀ {l : List SV} {cs : List Value}, ZeroOk l cs → CellsOk X b c σ w l cs := by
  intro l
  induction l with
  | nil => intro cs h; exact h
  | cons x r ih =>
    intro cs h
    cases x
    case arr k n l => obtain ⟨h1, cs', e, h2⟩ := h; exact ⟨h1, cs', e, ih h2⟩
    all_goals
      obtain ⟨v, cs', e, h1, h2⟩ := h
      exact ⟨v, cs', e, by rw [h1]; exact V0_const v, ih h2⟩

theorem scal_cells {b : List (Nat × Nat × Blk)} {c : Lim} {x : SV} {v : Value} (hs : scal b x = true) (hv : V2 X b c σ w x v) : v.cells = #[v] ∧ v.oneCell' = true ∧ V0 X b c σ w x v := by
  cases x <;> simp only [scal, Bool.false_eq_true] at hs
  case bool => rw [show v = _ from hv]; exact ⟨rfl, rfl, rfl⟩
  case int => rw [show v = _ from hv]; exact ⟨rfl, rfl, rfl⟩
  case str => rw [show v = _ from hv]; exact ⟨rfl, rfl, rfl⟩
  case nil => rw [show v = _ from hv]; exact ⟨rfl, rfl, rfl⟩
  case view => have h2 := hv; obtain ⟨a, cap, rfl, _⟩ := h2; exact ⟨rfl, rfl, hv⟩
  case vptr => have h2 := hv; obtain ⟨_, B, o, rfl, _⟩ := h2; exact ⟨rfl, rfl, hv⟩
  case ptr n g off =>
    obtain ⟨y, hy⟩ := Option.isSome_iff_exists.1 hs
    have h2 := hv
    obtain ⟨_, hl⟩ := h2
    obtain ⟨B, _, rfl⟩ := hl (blkAt_live hy)
    exact ⟨rfl, rfl, hv⟩
  case eptr n g seg e i m =>
    obtain ⟨y, hy⟩ := Option.isSome_iff_exists.1 hs
    have h2 := hv
    obtain ⟨_, _, hl⟩ := h2
    obtain ⟨B, _, rfl⟩ := hl (blkAt_live hy)
    exact ⟨rfl, rfl, hv⟩
  case sl n g seg e off len =>
    obtain ⟨y, hy⟩ := Option.isSome_iff_exists.1 hs
    have h2 := hv
    obtain ⟨_, hl⟩ := h2
    obtain ⟨a, cap, rfl, _⟩ := hl (blkAt_live hy)
    exact ⟨rfl, rfl, hv⟩

theorem cellsOf_ok {b : List (Nat × Nat × Blk)} {c : Lim} {x : SV} {v : Value} {l : List SV} (hs : cellsOf b x = some l) (hv : V2 X b c σ w x v) : CellsOk X b c σ w l v.cells.toList := by
  have key : ∀ x, (match scal b x with | true => some [x] | false => none) = some l → V2 X b c σ w x v → CellsOk X b c σ w l v.cells.toList := by
    intro x h hv
    cases e : scal b x <;> simp only [e, reduceCtorEq, Option.some.injEq] at h
    subst h
    obtain ⟨h1, _, h3⟩ := scal_cells e hv
    rw [h1]
    cases x <;> first | exact ⟨v, [], rfl, h3, rfl⟩ | exact h3.elim
  cases x
  case agg m =>
    simp only [cellsOf, Option.some.injEq] at hs
    subst hs
    obtain ⟨cs, rfl, h⟩ := hv
    exact h
  case arr k n m =>
    simp only [cellsOf, Option.some.injEq] at hs
    subst hs
    obtain ⟨rfl, h⟩ := (hv : _ ∧ _)
    exact ⟨h, [], by simp [Value.cells], rfl⟩
  all_goals exact key _ (by unfold cellsOf at hs; exact hs) hv

theorem CellsOk_app {b : List (Nat × Nat × Blk)} {c : Lim} : ∀ {l m : List SV} {xs ys : List Value}, CellsOk X b c σ w l xs → CellsOk X b c σ w m ys → CellsOk X b c σ w (l ++ m) (xs ++ ys)
  | [], m, xs, ys, h, h' => by rw [show xs = [] from h]; exact h'
  | .arr k n l :: r, m, xs, ys, h, h' => by
    obtain ⟨h1, cs', rfl, h2⟩ := h
    exact ⟨h1, cs' ++ ys, by rw [List.append_assoc], CellsOk_app h2 h'⟩
  | x :: r, m, xs, ys, h, h' => by
    cases x
    case arr k n l =>
      obtain ⟨h1, cs', rfl, h2⟩ := h
      exact ⟨h1, cs' ++ ys, by rw [List.append_assoc], CellsOk_app h2 h'⟩
    all_goals
      obtain ⟨v, cs', rfl, h1, h2⟩ := h
      exact ⟨v, cs' ++ ys, rfl, h1, CellsOk_app h2 h'⟩

theorem cntC_ok {b : List (Nat × Nat × Blk)} {c : Lim} : ∀ {l : List SV} {cs : List Value}, CellsOk X b c σ w l cs → cntC l = cs.length
  | [], cs, h => by rw [show cs = [] from h]; rfl
  | x :: r, cs, h => by
    cases x
    case arr k n l =>
      obtain ⟨h1, cs', rfl, h2⟩ := h
      simp only [cntC, List.length_append, List.length_map, cntC_ok h2, h1]
    all_goals
      obtain ⟨v, cs', rfl, h1, h2⟩ := h
      simp only [cntC, List.length_cons, cntC_ok h2]; omega

theorem set_seg {α : Type} (L : List α) (n m : Nat) (v : α) (h : n < L.length) : (L.set n v).take (n + 1) = L.take n ++ [v] ∧ (L.set n v).drop (n + 1 + m) = L.drop (n + 1 + m) := by
  refine ⟨?_, ?_⟩
  · rw [List.take_add_one]
    simp [h, List.take_set]
    apply List.set_eq_of_length_le; simp; omega
  · rw [List.drop_set]
    rw [if_pos (by omega)]

theorem fold_set (vs : List Value) : ∀ (off k : Nat) (cs : Array Value), off + k + vs.length ≤ cs.size →
    ((vs.zipIdx k).foldl (fun cs q => cs.setIfInBounds (off + q.2) q.1) cs).toList = cs.toList.take (off + k) ++ vs ++ cs.toList.drop (off + k + vs.length) := by
  induction vs with
  | nil => intro off k cs h; simp
  | cons v vs ih =>
    intro off k cs h
    simp only [List.length_cons] at h
    rw [List.zipIdx_cons, List.foldl_cons, ih off (k + 1) _ (by simp; omega)]
    have hl : off + k < cs.toList.length := by simp; omega
    rw [Array.toList_setIfInBounds]
    obtain ⟨h1, h2⟩ := set_seg cs.toList (off + k) vs.length v hl
    rw [show off + (k + 1) = off + k + 1 by omega, h1, h2, List.length_cons, show off + k + (vs.length + 1) = off + k + 1 + vs.length by omega]
    simp

theorem fold_cells (v : Value) (off : Nat) (cs : Array Value) (h : off + v.cells.size ≤ cs.size) :
    (v.cells.zipIdx.foldl (fun cs q => cs.setIfInBounds (off + q.2) q.1) cs).toList = cs.toList.take off ++ v.cells.toList ++ cs.toList.drop (off + v.cells.size) := by
  have := fold_set v.cells.toList off 0 cs (by simpa using h)
  rw [← Array.foldl_toList, Array.toList_zipIdx]
  simpa using this

/-- Parts, told. -/
def Parts (X : Ctx) (b : List (Nat × Nat × Blk)) (c : Lim) (σ : Env) (w : World) : List (Nat × SV) → List (Nat × Value) → Prop
  | [], ps => ps = []
  | (i, x) :: r, ps => ∃ v ps', ps = (i, v) :: ps' ∧ V2 X b c σ w x v ∧ Parts X b c σ w r ps'

theorem fillC_ok {b : List (Nat × Nat × Blk)} {c : Lim} {fs : List (Nat × TypeId)} {pl : Nat → Option (Nat × Nat)} (hpl : ∀ i o ft, fieldOf fs i = some (o, ft) → pl i = some (o, T.size ft)) :
    ∀ {xs : List (Nat × SV)} {ps : List (Nat × Value)} {cs cs' : List SV} {z : Array Value} {p : Prop}, fillC T b fs cs xs = some (p, cs') → p → Parts X b c σ w xs ps → CellsOk X b c σ w cs z.toList →
      ∃ z', Instr.fill pl z ps = some z' ∧ CellsOk X b c σ w cs' z'.toList
  | [], ps, cs, cs', z, p, h, hp, hps, hc => by
    simp only [fillC, Option.some.injEq, Prod.mk.injEq] at h
    rw [show ps = [] from hps]
    obtain ⟨_, rfl⟩ := h
    exact ⟨z, rfl, hc⟩
  | (i, x) :: r, ps, cs, cs', z, p, h, hp, hps, hc => by
    obtain ⟨v, ps', rfl, hv, hr⟩ := hps
    simp only [fillC] at h
    cases e1 : fieldOf fs i <;> simp only [e1, reduceCtorEq] at h
    rename_i q
    obtain ⟨o, ft⟩ := q
    try simp only at h
    cases e2 : takeC cs o <;> simp only [e2, reduceCtorEq] at h
    cases e3 : dropC cs (o + T.size ft) <;> simp only [e3, reduceCtorEq] at h
    cases e4 : cellsOf b x <;> simp only [e4, reduceCtorEq] at h
    rename_i la lc l
    cases e5 : fillC T b fs (la ++ l ++ lc) r <;> simp only [e5, reduceCtorEq, Option.some.injEq, Prod.mk.injEq] at h
    rename_i q
    obtain ⟨pc, l'⟩ := q
    simp only [Option.some.injEq, Prod.mk.injEq] at h
    obtain ⟨rfl, rfl⟩ := h
    have hl := cellsOf_ok e4 hv
    obtain ⟨g1, g2⟩ := takeC_ok hc e2
    obtain ⟨g3, g4⟩ := dropC_ok hc e3
    have hn := cntC_ok hl
    rw [hp.1] at hn
    have hn' : v.cells.size = T.size ft := by simpa using hn.symm
    have g3' : o + T.size ft ≤ z.size := by simpa using g3
    have hf := fold_cells v o z (by omega)
    obtain ⟨z', h1, h2⟩ := fillC_ok hpl (z := v.cells.zipIdx.foldl (fun cs q => cs.setIfInBounds (o + q.2) q.1) z) e5 hp.2 hr (by rw [hf, hn']; exact CellsOk_app (CellsOk_app g2 hl) g4)
    refine ⟨z', ?_, h2⟩
    simp only [Instr.fill, hpl i o ft e1]
    rw [if_neg (by simp [hn']; omega)]
    exact h1

theorem intsP_ok {b : List (Nat × Nat × Blk)} {c : Lim} {k : IntKind} : ∀ {xs : List (Nat × SV)} {ps : List (Nat × Value)} {i : Nat} {l : List Int} {z : Array Value}, intsP k i xs = some l → Parts X b c σ w xs ps → i + l.length ≤ z.size →
    ∃ z', Instr.fill (fun i => some (i * 1, 1)) z ps = some z' ∧ z'.toList = z.toList.take i ++ l.map (.int k) ++ z.toList.drop (i + l.length)
  | [], ps, i, l, z, h, hps, hz => by
    simp only [intsP, Option.some.injEq] at h
    subst h
    rw [show ps = [] from hps]
    exact ⟨z, rfl, by simp⟩
  | (j, x) :: r, ps, i, l, z, h, hps, hz => by
    obtain ⟨v, ps', rfl, hv, hr⟩ := hps
    cases x <;> simp only [intsP, reduceCtorEq] at h
    rename_i k' n
    split at h <;> (try simp only [reduceCtorEq] at h)
    rename_i hj
    split at h <;> (try simp only [reduceCtorEq] at h)
    rename_i hk
    subst hj; subst hk
    cases e : intsP k' (j + 1) r <;> simp only [e, Option.map_none, Option.map_some, reduceCtorEq, Option.some.injEq] at h
    rename_i l'
    subst h
    simp only [List.length_cons] at hz
    obtain rfl : v = .int k' n := hv
    obtain ⟨z', h1, h2⟩ := intsP_ok (z := z.setIfInBounds j (.int k' n)) e hr (by simp; omega)
    refine ⟨z', ?_, ?_⟩
    · simp only [Instr.fill]
      rw [if_neg (by simp [Value.cells]; omega)]
      simpa [Value.cells] using h1
    · rw [h2]
      have hl : j < z.toList.length := by simp; omega
      obtain ⟨e1, e2⟩ := set_seg z.toList j l'.length (Value.int k' n) hl
      rw [Array.toList_setIfInBounds, e1, e2, List.length_cons, show j + (l'.length + 1) = j + 1 + l'.length by omega]
      simp

theorem mapM_places {l : List Field} (h : ∀ f ∈ l, T.size f.type ≠ 0) (TO : TabOk P T) : (l.mapM fun f => (do pure (f.offset, ← sizeOf f.type) : Sem (Nat × Nat))).run P w = .ok (l.map fun f => (f.offset, T.size f.type)) w := by
  induction l with
  | nil => rfl
  | cons f l ih =>
    have h1 := size_run (w := w) TO (h f (by simp))
    have h2 := ih (fun g hg => h g (by simp [hg]))
    simp only [List.mapM_cons, Sem.run_bind, h1, Result.andThen_ok, Sem.run_pure, h2, List.map_cons]

theorem buildV_ok (TO : TabOk P T) {b : List (Nat × Nat × Blk)} {c : Lim} {t : TypeId} {xs : List (Nat × SV)} {ps : Array (Nat × Value)} {p : Prop} {v : SV} (h : buildV T b t xs = some (p, v)) (hp : p) (hps : Parts X b c σ w xs ps.toList) :
    ∃ u, (Instr.build t ps).run P w = .ok u w ∧ V2 X b c σ w v u := by
  have ht := TO.ty t
  unfold buildV at h
  cases e : T.ty t <;> simp only [e, reduceCtorEq] at h <;> rw [e] at ht <;> simp only [tyOk] at ht
  case struct fs =>
    cases e1 : fillC T b fs (T.zero t) xs <;> simp only [e1, reduceCtorEq, Option.some.injEq, Prod.mk.injEq] at h
    rename_i q
    obtain ⟨pc, l⟩ := q
    simp only [Option.some.injEq, Prod.mk.injEq] at h
    obtain ⟨rfl, rfl⟩ := h
    obtain ⟨hs, hfs, hpc⟩ := hp
    obtain ⟨f, hf, hfl⟩ := ht
    obtain ⟨i, hi, his, hib, z, hz, hzo, _⟩ := TO.info t hs
    have hzv : (zeroValue t).run P w = .ok z w := by simp [zeroValue, typeInfo, hi, hz]
    have hall : ∀ g ∈ f.toList, T.size g.type ≠ 0 := by
      intro g hg
      rw [List.all_eq_true] at hfs
      have := hfs (g.offset, g.type) (by rw [← hfl]; exact List.mem_map.2 ⟨g, hg, rfl⟩)
      simpa using this
    have hpl : ∀ i o ft, fieldOf fs i = some (o, ft) → ((f.toList.map fun f => (f.offset, T.size f.type)).toArray[·]?) i = some (o, T.size ft) := by
      intro i o ft he
      rw [← hfl] at he
      simp only [fieldOf, List.getElem?_map] at he
      cases e3 : f.toList[i]? with
      | none => simp [e3] at he
      | some g =>
        simp only [e3, Option.map_some, Option.some.injEq, Prod.mk.injEq] at he
        obtain ⟨rfl, rfl⟩ := he
        simp only [List.getElem?_toArray, List.getElem?_map, e3, Option.map_some]
    obtain ⟨z', h1, h2⟩ := fillC_ok hpl (z := z.cells) e1 hpc hps (CellsOk_zero hzo)
    refine ⟨.agg z', ?_, z', rfl, h2⟩
    have hm := mapM_places (w := w) hall TO
    have hm2 : (f.mapM fun f => (do pure (f.offset, ← sizeOf f.type) : Sem (Nat × Nat))).run P w = .ok (f.toList.map fun f => (f.offset, T.size f.type)).toArray w := by
      obtain ⟨fl⟩ := f
      rw [List.mapM_toArray]
      simp only [map_eq_pure_bind, Sem.run_bind]
      have hm' := hm
      simp only at hm'
      rw [hm']
      rfl
    simp only [Instr.build, Sem.run_bind, hzv, Result.andThen_ok, run_underlying hf, hm2, h1, Sem.run_pure]
  case array m el =>
    cases e1 : T.ty el <;> simp only [e1, reduceCtorEq] at h
    rename_i k
    cases e2 : T.zero t with
    | nil => simp [e2] at h
    | cons y ys =>
      cases y <;> simp only [e2, reduceCtorEq] at h
      cases ys <;> simp only [reduceCtorEq] at h
      rename_i k' m' l0
      have main : T.size t ≠ 0 → T.size el = 1 → ∃ z, (zeroValue t).run P w = .ok z w ∧ z.cells.toList = l0.map (.int k') ∧ l0.length = m' ∧ (sizeOf el).run P w = .ok 1 w := by
        intro hs hs1
        obtain ⟨i, hi, his, hib, z, hz, hzo, _⟩ := TO.info t hs
        rw [e2] at hzo
        obtain ⟨h1, cs', h2, h3⟩ := hzo
        refine ⟨z, by simp [zeroValue, typeInfo, hi, hz], by rw [h2, show cs' = [] from h3]; simp, h1, ?_⟩
        have := size_run (w := w) TO (t := el) (by omega)
        rwa [hs1] at this
      cases xs with
      | nil =>
        simp only [Option.some.injEq, Prod.mk.injEq] at h
        obtain ⟨rfl, rfl⟩ := h
        obtain ⟨z, h1, h2, h3, h4⟩ := main hp.1 hp.2
        have hps' : ps.toList = [] := hps
        refine ⟨.agg z.cells, ?_, ?_⟩
        · simp only [Instr.build, Sem.run_bind, h1, Result.andThen_ok, run_underlying ht, h4, hps', Instr.fill, Sem.run_pure]
        · refine ⟨?_, h3⟩
          rw [← h2, Array.toArray_toList]
      | cons x r =>
        simp only at h
        cases e3 : intsP k 0 (x :: r) <;> simp only [e3, reduceCtorEq, Option.some.injEq, Prod.mk.injEq] at h
        rename_i l
        obtain ⟨rfl, rfl⟩ := h
        obtain ⟨hs, hs1, hl, rfl⟩ := hp
        obtain ⟨z, h1, h2, h3, h4⟩ := main hs hs1
        have hzs : z.cells.size = m' := by rw [← Array.length_toList, h2, List.length_map, h3]
        obtain ⟨z', h5, h6⟩ := intsP_ok (z := z.cells) e3 hps (by omega)
        refine ⟨.agg z', ?_, ?_⟩
        · simp only [Instr.build, Sem.run_bind, h1, Result.andThen_ok, run_underlying ht, h4, h5, Sem.run_pure]
        · refine ⟨?_, hl⟩
          have : z'.toList = l.map (.int k') := by
            rw [h6, List.take_zero, List.nil_append, Nat.zero_add, List.drop_of_length_le (by rw [Array.length_toList]; omega), List.append_nil]
          rw [← this, Array.toArray_toList]

theorem arrPV_ok (TO : TabOk P T) {b : List (Nat × Nat × Blk)} {c : Lim} {t : TypeId} {x : SV} {x' : Value} {p : Prop} {v : SV} (h : arrPV T b t x = some (p, v)) (hp : p) (hx : V2 X b c σ w x x') :
    ∃ u, (Instr.arrayAt t x').run P w = .ok u w ∧ V2 X b c σ w v u := by
  have ht := TO.ty t
  cases x <;> simp only [arrPV, reduceCtorEq] at h
  case view tag d =>
    cases e : T.ty t <;> simp only [e, reduceCtorEq, Option.some.injEq, Prod.mk.injEq] at h <;> rw [e] at ht <;> simp only [tyOk] at ht
    obtain ⟨rfl, rfl⟩ := h
    obtain ⟨a, cap, rfl, h1, h2⟩ := hx
    obtain ⟨B, o, rfl, hv, hh⟩ := h2 (by omega)
    refine ⟨.pointer (some ⟨B, o, none⟩), ?_, by omega, B, o, by simp, hv, hh⟩
    simp only [Instr.arrayAt, Sem.run_bind, run_underlying ht, Result.andThen_ok]
    rw [if_neg (by omega)]
    rfl
  case sl n g seg e' off len =>
    cases e : T.ty t <;> simp only [e, reduceCtorEq] at h <;> rw [e] at ht <;> simp only [tyOk] at ht
    cases eb : blkAt b n g <;> simp only [eb, reduceCtorEq, Option.some.injEq, Prod.mk.injEq] at h
    obtain ⟨rfl, rfl⟩ := h
    obtain ⟨hc, hl⟩ := hx
    obtain ⟨a, cap, rfl, h1, h2⟩ := hl (blkAt_live eb)
    obtain ⟨B, hB, rfl, _⟩ := h2 (by omega)
    refine ⟨.pointer (some ⟨B, seg + off * e', none⟩), ?_, by omega, hc, fun _ => ⟨B, hB, rfl⟩⟩
    simp only [Instr.arrayAt, Sem.run_bind, run_underlying ht, Result.andThen_ok]
    rw [if_neg (by omega)]
    rfl

theorem fieldV_ok (TO : TabOk P T) {b : List (Nat × Nat × Blk)} {c : Lim} {t : TypeId} {f : Nat} {x : SV} {x' : Value} {p : Prop} {v : SV} (h : fieldV T t f x = some (p, v)) (hp : p) (hx : V2 X b c σ w x x') :
    ∃ u, (Instr.field t x' f).run P w = .ok u w ∧ V2 X b c σ w v u := by
  cases x <;> simp only [fieldV, reduceCtorEq] at h
  rename_i l
  obtain ⟨cs, rfl, hcells⟩ := hx
  have ht := TO.ty t
  cases e : T.ty t <;> simp only [e, reduceCtorEq] at h
  rename_i fs
  rw [e] at ht; simp only [tyOk] at ht
  obtain ⟨fl, hf, hfl⟩ := ht
  cases e1 : fieldOf fs f <;> simp only [e1, reduceCtorEq] at h
  rename_i q
  obtain ⟨o, ft⟩ := q
  simp only at h
  rw [← hfl] at e1
  simp only [fieldOf, List.getElem?_map] at e1
  cases e3 : fl.toList[f]? with
  | none => simp [e3] at e1
  | some g =>
    simp only [e3, Option.map_some, Option.some.injEq, Prod.mk.injEq] at e1
    obtain ⟨rfl, rfl⟩ := e1
    have e3' : fl[f]? = some g := by simpa using e3
    have part : ∀ (u : Value), (Go.part g.type cs g.offset).run P w = .ok u w → (Instr.field t (.agg cs) f).run P w = .ok u w := by
      intro u hu
      simp [Instr.field, run_underlying hf, e3', asAgg, hu]
    have ext : ∀ n, cs.extract g.offset (g.offset + n) = ((cs.toList.drop g.offset).take n).toArray := by
      intro n
      apply Array.ext'
      simp [List.extract_eq_take_drop]
    have oneCase : one (T.ty g.type) = true → (∀ y, cellAt l g.offset = some y → some (T.size g.type = 1, y) = some (p, v) → ∃ u, (Instr.field t (.agg cs) f).run P w = .ok u w ∧ V2 X b c σ w v u) := by
      intro h1 y hy e
      simp only [Option.some.injEq, Prod.mk.injEq] at e
      obtain ⟨_, rfl⟩ := e
      obtain ⟨u, hu, hv⟩ := cellAt_ok hcells hy
      have hu' : cs[g.offset]? = some u := by simpa using hu
      refine ⟨u, part u ?_, V2_of_V1 (V1_of_V0 hv)⟩
      simp only [Go.part, Sem.run_bind, isAgg_one TO h1, Result.andThen_ok, Bool.false_eq_true, if_false, hu', Sem.run_pure]
    cases e4 : T.ty g.type <;> simp only [e4] at h
    case struct fs2 =>
      cases ed : (dropC l g.offset).bind (takeC · (T.size g.type)) <;> simp only [ed, reduceCtorEq, Option.some.injEq, Prod.mk.injEq] at h
      rename_i m
      obtain ⟨rfl, rfl⟩ := h
      cases ed2 : dropC l g.offset <;> simp only [ed2, Option.bind_none, Option.bind_some, reduceCtorEq] at ed
      obtain ⟨g1, g2⟩ := dropC_ok hcells ed2
      obtain ⟨g3, g4⟩ := takeC_ok g2 ed
      refine ⟨_, part (.agg ((cs.toList.drop g.offset).take (T.size g.type)).toArray) ?_, _, rfl, by simpa using g4⟩
      simp [Go.part, isAgg_struct TO e4, size_run TO hp, ext]
    case array m el =>
      cases ea : arrAt l g.offset <;> simp only [ea, reduceCtorEq, Option.some.injEq, Prod.mk.injEq] at h
      rename_i q
      obtain ⟨k, m', l'⟩ := q
      simp only [Option.some.injEq, Prod.mk.injEq] at h
      obtain ⟨rfl, rfl⟩ := h
      obtain ⟨rfl, hs, hm0⟩ := hp
      obtain ⟨g1, g2, g3⟩ := arrAt_len hcells ea
      have hseg : (cs.toList.drop g.offset).take m' = l'.map (.int k) := by
        apply List.ext_getElem?
        intro j
        rw [List.getElem?_take]
        split
        · rename_i hj
          rw [List.getElem?_drop, g3 j hj, List.getElem?_map, List.getElem?_eq_getElem (by omega)]
          simp [List.getD, show j < l'.length by omega]
        · rw [List.getElem?_eq_none (by simp; omega)]
      refine ⟨_, part (.agg (l'.map (.int k)).toArray) ?_, rfl, g2⟩
      simp [Go.part, isAgg_array TO e4, size_run TO (t := g.type) (by omega), hs, ext, hseg]
    case other => simp at h
    all_goals
      cases ec : cellAt l g.offset <;> simp only [ec, reduceCtorEq] at h
      exact oneCase (by rw [e4]; rfl) _ ec h

theorem lenV_ok (TO : TabOk P T) {t ty : TypeId} {x : SV} {x' : Value} {p : Prop} {v : SV} (h : lenV T b t x = some (p, v)) (hx : V2 X b c σ w x x') :
    ∃ u, (Builtin.len_ #[t] ty #[x']).run P w = .ok u w ∧ V2 X b c σ w v u := by
  have ht := TO.ty t
  cases x <;> simp only [lenV, reduceCtorEq] at h
  case sl n g seg e off len =>
    cases e2 : T.ty t <;> rw [e2] at ht <;> simp only [e2, reduceCtorEq, tyOk] at h ht
    cases eb : blkAt b n g <;> simp only [eb, reduceCtorEq, Option.some.injEq, Prod.mk.injEq] at h
    obtain ⟨rfl, rfl⟩ := h
    obtain ⟨hc, hlv⟩ := hx
    obtain ⟨ad, cap, rfl, hlc, hv⟩ := hlv (blkAt_live eb)
    exact ⟨_, by simp [Builtin.len_, run_underlying ht]; rfl, rfl⟩
  case view tag d =>
    cases e2 : T.ty t <;> rw [e2] at ht <;> simp only [e2, reduceCtorEq, tyOk, Option.some.injEq, Prod.mk.injEq] at h ht
    obtain ⟨rfl, rfl⟩ := h
    obtain ⟨ad, cap, rfl, hlc, hv⟩ := hx
    exact ⟨_, by simp [Builtin.len_, run_underlying ht]; rfl, rfl⟩
  case nil =>
    cases e2 : T.ty t <;> rw [e2] at ht <;> simp only [e2, reduceCtorEq, tyOk, Option.some.injEq, Prod.mk.injEq] at h ht
    obtain ⟨rfl, rfl⟩ := h
    obtain rfl : x' = .slice none 0 0 := hx
    exact ⟨_, by simp [Builtin.len_, run_underlying ht]; rfl, rfl⟩
  case str s =>
    cases e2 : T.ty t <;> rw [e2] at ht <;> simp only [e2, reduceCtorEq, tyOk, Option.some.injEq, Prod.mk.injEq] at h ht
    obtain ⟨rfl, rfl⟩ := h
    obtain rfl : x' = .string s := hx
    exact ⟨_, by simp [Builtin.len_, run_underlying ht]; rfl, rfl⟩

theorem eq1_ok (TO : TabOk P T) (d : Nat) {l m : List SV} {xs ys : Array Value} {o : Nat} {ft : TypeId} {p : Prop} {r : Bool} (h : eq1 T l m o ft = some (p, r)) (hp : p)
    (hx : CellsOk X b c σ w l xs.toList) (hy : CellsOk X b c σ w m ys.toList) :
    ∃ x y, (part ft xs o).run P w = .ok x w ∧ (part ft ys o).run P w = .ok y w ∧ (Op.equalIn (d + 2) ft x y).run P w = .ok r w := by
  have ht := TO.ty ft
  have one1 : one (T.ty ft) = true → ∀ (q : List SV) (zs : Array Value) (v : SV), CellsOk X b c σ w q zs.toList → cellAt q o = some v → ∃ u, (part ft zs o).run P w = .ok u w ∧ V0 X b c σ w v u := by
    intro h1 q zs v hq hv
    obtain ⟨u, hu, hV⟩ := cellAt_ok hq hv
    have hu' : zs[o]? = some u := by simpa using hu
    exact ⟨u, by simp [part, isAgg_one TO h1, hu'], hV⟩
  unfold eq1 at h
  cases e : T.ty ft <;> simp only [e, reduceCtorEq] at h
  case int k0 =>
    cases e1 : cellAt l o <;> simp only [e1, reduceCtorEq] at h
    rename_i x1
    cases x1 <;> (try simp only [reduceCtorEq] at h)
    cases e2 : cellAt m o <;> simp only [e2, reduceCtorEq] at h
    rename_i x2
    cases x2 <;> simp only [reduceCtorEq, Option.some.injEq, Prod.mk.injEq] at h
    obtain ⟨rfl, rfl⟩ := h
    subst hp
    obtain ⟨u1, h1, hv1⟩ := one1 (by rw [e]; rfl) _ _ _ hx e1
    obtain ⟨u2, h2, hv2⟩ := one1 (by rw [e]; rfl) _ _ _ hy e2
    rw [e] at ht; simp only [tyOk] at ht
    refine ⟨u1, u2, h1, h2, ?_⟩
    rw [show u1 = _ from hv1, show u2 = _ from hv2]
    exact run_equalIn_int w (d + 1) ft _ _ _ _ ht
  case bool =>
    cases e1 : cellAt l o <;> simp only [e1, reduceCtorEq] at h
    rename_i x1
    cases x1 <;> (try simp only [reduceCtorEq] at h)
    cases e2 : cellAt m o <;> simp only [e2, reduceCtorEq] at h
    rename_i x2
    cases x2 <;> simp only [reduceCtorEq, Option.some.injEq, Prod.mk.injEq] at h
    obtain ⟨rfl, rfl⟩ := h
    obtain ⟨u1, h1, hv1⟩ := one1 (by rw [e]; rfl) _ _ _ hx e1
    obtain ⟨u2, h2, hv2⟩ := one1 (by rw [e]; rfl) _ _ _ hy e2
    rw [e] at ht; simp only [tyOk] at ht
    refine ⟨u1, u2, h1, h2, ?_⟩
    rw [show u1 = _ from hv1, show u2 = _ from hv2]
    exact run_equalIn_bool' w (d + 1) ft _ _ ht
  case string =>
    cases e1 : cellAt l o <;> simp only [e1, reduceCtorEq] at h
    rename_i x1
    cases x1 <;> (try simp only [reduceCtorEq] at h)
    cases e2 : cellAt m o <;> simp only [e2, reduceCtorEq] at h
    rename_i x2
    cases x2 <;> simp only [reduceCtorEq, Option.some.injEq, Prod.mk.injEq] at h
    obtain ⟨rfl, rfl⟩ := h
    obtain ⟨u1, h1, hv1⟩ := one1 (by rw [e]; rfl) _ _ _ hx e1
    obtain ⟨u2, h2, hv2⟩ := one1 (by rw [e]; rfl) _ _ _ hy e2
    rw [e] at ht; simp only [tyOk] at ht
    refine ⟨u1, u2, h1, h2, ?_⟩
    rw [show u1 = _ from hv1, show u2 = _ from hv2]
    exact run_equalIn_string w (d + 1) ft _ _ ht
  case array n el =>
    cases e1 : arrAt l o <;> simp only [e1, reduceCtorEq] at h
    rename_i q1
    obtain ⟨k, n1, a1⟩ := q1
    try simp only at h
    cases e2 : arrAt m o <;> simp only [e2, reduceCtorEq, Option.some.injEq, Prod.mk.injEq] at h
    rename_i q2
    obtain ⟨k', n2, a2⟩ := q2
    simp only [Option.some.injEq, Prod.mk.injEq] at h
    obtain ⟨rfl, rfl⟩ := h
    obtain ⟨rfl, rfl, rfl, hA, hs, h0⟩ := hp
    have hag := isAgg_array (w := w) TO e
    have hsz := size_run (w := w) TO (t := ft) (by omega)
    have key : ∀ (q : List SV) (zs : Array Value) (a : List Int), CellsOk X b c σ w q zs.toList → arrAt q o = some (k, n2, a) → (part ft zs o).run P w = .ok (.agg (a.map (Value.int k)).toArray) w ∧ a.length = n2 := by
      intro q zs a hq ha
      obtain ⟨g1, g2, g3⟩ := arrAt_len hq ha
      refine ⟨?_, g2⟩
      have : zs.extract o (o + n2) = (a.map (Value.int k)).toArray := by
        apply Array.ext'
        rw [Array.toList_extract]
        simp only [List.extract_eq_take_drop]
        apply List.ext_getElem?
        intro i
        rw [List.getElem?_take, show o + n2 - o = n2 by omega]
        by_cases hi : i < n2
        · rw [if_pos hi, List.getElem?_drop, g3 i hi]
          simp [List.getD, show i < a.length by omega]
        · rw [if_neg hi, List.getElem?_eq_none (by simp; omega)]
      simp only [part, Sem.run_bind, hag, Result.andThen_ok, if_true, hsz, hs, Sem.run_pure, this]
    obtain ⟨h1, l1⟩ := key _ _ _ hx e1
    obtain ⟨h2, l2⟩ := key _ _ _ hy e2
    exact ⟨_, _, h1, h2, run_equalIn_arr TO d (by rw [e]; exact hA) _ _ l1 l2⟩

theorem eqF_ok (TO : TabOk P T) (d : Nat) {l m : List SV} {xs ys : Array Value} (hx : CellsOk X b c σ w l xs.toList) (hy : CellsOk X b c σ w m ys.toList) : ∀ {fl : List Field} {p : Prop} {r : Bool}, (∀ f ∈ fl, f.name ≠ "_") →
    eqF T l m (fl.map fun x => (x.offset, x.type)) = some (p, r) → p → (Op.eqFields (d + 2) xs ys fl).run P w = .ok r w
  | [], p, r, _, h, _ => by
    simp only [List.map_nil, eqF, Option.some.injEq, Prod.mk.injEq] at h
    rw [← h.2]; simp [Op.eqFields]
  | f :: fl, p, r, hn, h, hp => by
    simp only [List.map_cons, eqF] at h
    cases e1 : eq1 T l m f.offset f.type <;> simp only [e1, reduceCtorEq] at h
    rename_i q1
    obtain ⟨p1, r1⟩ := q1
    try simp only at h
    cases e2 : eqF T l m (fl.map fun x => (x.offset, x.type)) <;> simp only [e2, reduceCtorEq, Option.some.injEq, Prod.mk.injEq] at h
    rename_i q2
    obtain ⟨p2, r2⟩ := q2
    simp only [Option.some.injEq, Prod.mk.injEq] at h
    obtain ⟨rfl, rfl⟩ := h
    obtain ⟨x, y, h1, h2, h3⟩ := eq1_ok TO d e1 hp.1 hx hy
    have h4 := eqF_ok TO d hx hy (fl := fl) (fun g hg => hn g (by simp [hg])) e2 hp.2
    simp only [Op.eqFields, if_pos (hn f (by simp)), Sem.run_bind, h1, h2, h3, Result.andThen_ok]
    cases r1
    · simp
    · simpa using h4

theorem binV_ok (TO : TabOk P T) {op : BinOp} {t : TypeId} {x y : SV} {x' y' : Value} {X' Y' : Operand} {p : Prop} {v : SV} (h : binV T op t x y = some (p, v)) (hp : p)
    (hx : V2 X b c σ w x x') (hy : V2 X b c σ w y y') :
    ∃ u, (do eqGuard op t X' Y' x' y'; binOp op t x' y' : Sem Value).run P w = .ok u w ∧ V2 X b c σ w v u := by
  cases x <;> cases y <;> simp only [binV, reduceCtorEq] at h
  case int.int k n k' n' =>
    obtain rfl : x' = .int k n := hx
    obtain rfl : y' = .int k' n' := hy
    obtain ⟨u, hu, hv⟩ := binI_ok (P := P) (w := w) (X := X) (b := b) (c := c) (σ := σ) (t := t) h hp
    exact ⟨u, by simp [run_eqGuard_int, hu], hv⟩
  case str.str s s' =>
    obtain rfl : x' = .string s := hx
    obtain rfl : y' = .string s' := hy
    cases op <;> simp only [binS, reduceCtorEq, Option.some.injEq, Prod.mk.injEq] at h
    all_goals
      obtain ⟨rfl, rfl⟩ := h
      exact ⟨_, by simp [run_eqGuard_str, binOp, Op.stringOp], rfl⟩
  case bool.bool s s' =>
    obtain rfl : x' = .bool s := hx
    obtain rfl : y' = .bool s' := hy
    cases op <;> simp only [reduceCtorEq, Option.some.injEq, Prod.mk.injEq] at h
    all_goals
      obtain ⟨rfl, rfl⟩ := h
      have ht := TO.ty t
      rw [isB_eq hp] at ht; simp only [tyOk] at ht
      exact ⟨_, by simp [run_eqGuard_bool, binOp, Op.equal, Op.maxDepth, run_equalIn_bool' w 9999 t s s' ht], rfl⟩
  case arr.arr k n l k' n' l' =>
    obtain ⟨rfl, hl⟩ := (hx : _ ∧ _)
    obtain ⟨rfl, hl'⟩ := (hy : _ ∧ _)
    cases op <;> simp only [reduceCtorEq, Option.some.injEq, Prod.mk.injEq] at h
    all_goals
      obtain ⟨rfl, rfl⟩ := h
      obtain ⟨rfl, rfl, hA⟩ := hp
      exact ⟨_, by simp [eqGuard_arr TO hA, binOp, run_equal_arr TO hA l l' hl hl'], rfl⟩
  case agg.agg l m =>
    obtain ⟨xs, rfl, h1⟩ := hx
    obtain ⟨ys, rfl, h2⟩ := hy
    cases et : T.ty t <;> simp only [et, reduceCtorEq] at h
    rename_i fs
    have ht := TO.ty t
    rw [et] at ht; simp only [tyOk] at ht
    obtain ⟨fl, hfl, hm⟩ := ht
    have hfo : P.fieldsOf t = fl := by unfold Program.fieldsOf; rw [hfl]
    cases e1 : eqF T l m fs <;> simp only [e1, reduceCtorEq] at h
    rename_i q
    obtain ⟨p1, r⟩ := q
    cases op <;> simp only [reduceCtorEq, Option.some.injEq, Prod.mk.injEq] at h
    all_goals
      obtain ⟨rfl, rfl⟩ := h
      obtain ⟨g1, g2, g3⟩ := TO.eq t hp.1
      rw [← hm] at e1
      have hrun := eqF_ok TO 9997 h1 h2 (fl := fl.toList) (by rw [← hfo]; exact g3) e1 hp.2
      have hEq : (Op.equalIn 10000 t (.agg xs) (.agg ys)).run P w = .ok r w := by
        rw [run_equalIn_struct w 9999 t xs ys (by rw [hfo]; exact hfl) g1, hfo]
        exact hrun
      exact ⟨_, by simp [run_eqGuard_agg w _ t X' Y' xs ys g2, run_eql_struct, run_neq_struct, hEq], rfl⟩

theorem pureOp_ok (TO : TabOk P T) {s : St} {a : Act} (hR : R X s σ w a) {ρ : Operand → SV} {o : Oper} {p : Prop} {v : SV}
    (hρ : ∀ x, x ∈ o.op.operands.toList → V2 X s.b s.c σ w (ρ x) (a.eval x)) (h : pureOp T s ρ o.op = some (p, v)) (hp : p) :
    ∃ u, (execOp a.eval o).run P w = .ok (.value u) w ∧ V2 X s.b s.c σ w v u := by
  have hbl : ∀ n g y, fnd s.b n = some (g, y) → BlkOk X s.b s.c σ w n y := fun n g y hy => (hR.bl n g y hy).2.1
  cases ho : o.op <;> rw [ho] at h hρ <;> simp only [pureOp, reduceCtorEq] at h
  case move x =>
    simp only [Option.some.injEq, Prod.mk.injEq] at h
    obtain ⟨rfl, rfl⟩ := h
    exact ⟨a.eval x, by simp [execOp, ho], hρ x (by simp [Op.operands])⟩
  case assign x =>
    simp only [Option.some.injEq, Prod.mk.injEq] at h
    obtain ⟨rfl, rfl⟩ := h
    exact ⟨a.eval x, by simp [execOp, ho], hρ x (by simp [Op.operands])⟩
  case load t x =>
    obtain ⟨u, hu, hv⟩ := loadV_ok TO h hp (hρ x (by simp [Op.operands])) hbl (gl_here hR)
    exact ⟨u, by simp [execOp, ho, hu], hv⟩
  case build t parts =>
    have hP : ∀ (ps : List (Nat × Operand)), (∀ q ∈ ps, V2 X s.b s.c σ w (ρ q.2) (a.eval q.2)) → Parts X s.b s.c σ w (ps.map fun q => (q.1, ρ q.2)) (ps.map fun q => (q.1, a.eval q.2)) := by
      intro ps
      induction ps with
      | nil => intro _; exact rfl
      | cons q ps ih => intro hq; exact ⟨_, _, rfl, hq q (by simp), ih (fun q' h' => hq q' (by simp [h']))⟩
    obtain ⟨u, hu, hv⟩ := buildV_ok (ps := parts.map fun q => (q.1, a.eval q.2)) TO h hp (by
      rw [Array.toList_map]
      refine hP _ (fun q hq => hρ q.2 ?_)
      simp only [Op.operands, List.mem_map]
      exact ⟨q, hq, rfl⟩)
    exact ⟨u, by simp [execOp, ho, hu], hv⟩
  case sliceToArrayPointer t x =>
    obtain ⟨u, hu, hv⟩ := arrPV_ok TO h hp (hρ x (by simp [Op.operands]))
    exact ⟨u, by simp [execOp, ho, hu], hv⟩
  case field t x f =>
    obtain ⟨u, hu, hv⟩ := fieldV_ok TO h hp (hρ x (by simp [Op.operands]))
    exact ⟨u, by simp [execOp, ho, hu], hv⟩
  case makeFunc f first cap =>
    cases e1 : ((first.toList.map ρ).all flatB && (cap.toList.map ρ).all flatB) <;> simp only [e1, reduceCtorEq, Option.some.injEq, Prod.mk.injEq] at h
    obtain ⟨rfl, rfl⟩ := h
    simp only [Bool.and_eq_true] at e1
    have key : ∀ (q : List Operand), (∀ z ∈ q, V2 X s.b s.c σ w (ρ z) (a.eval z)) → (q.map ρ).all flatB = true → All1 X s.b s.c σ w (q.map ρ) (q.map a.eval) := by
      intro q
      induction q with
      | nil => intro _ _; rfl
      | cons z q ih =>
        intro hz hf
        simp only [List.map_cons, List.all_cons, Bool.and_eq_true] at hf
        have h1 := hz z (by simp)
        refine ⟨_, _, rfl, ?_, ih (fun y hy => hz y (by simp [hy])) hf.2⟩
        revert h1
        cases e : ρ z <;> intro h1 <;> first | exact h1 | (rw [e] at hf; simp [flatB] at hf)
    refine ⟨.func f (first.map a.eval) (cap.map a.eval), by simp [execOp, ho, Instr.makeFunc], ?_⟩
    refine ⟨_, _, rfl, ?_, ?_⟩
    · rw [Array.toList_map]; exact key _ (fun z hz => hρ z (by simp [Op.operands]; exact .inl (by simpa using hz))) e1.1
    · rw [Array.toList_map]; exact key _ (fun z hz => hρ z (by simp [Op.operands]; exact .inr (by simpa using hz))) e1.2
  case nilCheck x =>
    have hx := hρ x (by simp [Op.operands])
    cases e : ρ x <;> simp only [e, reduceCtorEq] at h
    rename_i n g off
    cases eb : blkAt s.b n g <;> simp only [eb, reduceCtorEq, Option.some.injEq, Prod.mk.injEq] at h
    obtain ⟨rfl, rfl⟩ := h
    rw [e] at hx
    obtain ⟨hc, hl⟩ := hx
    obtain ⟨B, hB, e2⟩ := hl (blkAt_live eb)
    exact ⟨.pointer (some ⟨B, off, none⟩), by simp [execOp, ho, e2], hc, fun _ => ⟨B, hB, rfl⟩⟩
  case binOp op t x y yt =>
    have hu0 : ∃ u, (do eqGuard op t x y (a.eval x) (a.eval y); binOp op t (a.eval x) (a.eval y) : Sem Value).run P w = .ok u w ∧ V2 X s.b s.c σ w v u := by
      cases e0 : ptrE T s.b op t (ρ x) (ρ y) with
      | some r =>
        simp only [e0, Option.some.injEq] at h
        subst h
        exact ptrE_ok (X' := x) (Y' := y) TO e0 hp (hρ x (by simp [Op.operands])) (hρ y (by simp [Op.operands]))
      | none =>
        simp only [e0] at h
        exact binV_ok (X' := x) (Y' := y) TO h hp (hρ x (by simp [Op.operands])) (hρ y (by simp [Op.operands]))
    obtain ⟨u, hu, hv⟩ := hu0
    simp only [Sem.run_bind] at hu
    refine ⟨u, ?_, hv⟩
    cases hg : Sem.run P (eqGuard op t x y (a.eval x) (a.eval y)) w with
    | halt q w1 => rw [hg] at hu; simp [Result.andThen] at hu
    | ok q w1 =>
      rw [hg] at hu
      simp only [Result.andThen_ok] at hu
      simp [execOp, ho, hg, hu]
  case unOp op t x =>
    obtain ⟨u, hu, hv⟩ := unV_ok (P := P) (w := w) h (hρ x (by simp [Op.operands]))
    exact ⟨u, by simp [execOp, ho, hu], hv⟩
  case convert src dst x =>
    cases e : convV T dst (ρ x) <;> simp only [e, reduceCtorEq] at h
    rename_i q
    obtain ⟨p', v'⟩ := q
    simp only [Option.some.injEq, Prod.mk.injEq] at h
    obtain ⟨rfl, rfl⟩ := h
    obtain ⟨u, hu, hv⟩ := convV_ok TO e (hρ x (by simp [Op.operands])) hp.1
    exact ⟨u, by simp [execOp, ho, hu], hv⟩
  case slice t x lo hi mx =>
    have opt : ∀ y : Option Operand, (∀ z, y = some z → V2 X s.b s.c σ w (ρ z) (a.eval z)) → OptOk X s.b s.c σ w (y.map ρ) (y.map a.eval) := by
      intro y hy
      constructor
      · intro z hz
        cases y with
        | none => simp at hz
        | some q => simp only [Option.map_some, Option.some.injEq] at hz; subst hz; exact ⟨_, rfl, hy q rfl⟩
      · intro hz
        cases y with
        | none => rfl
        | some q => simp at hz
    obtain ⟨u, hu, hv⟩ := sliceV_ok TO h hp (hρ x (by simp [Op.operands])) (opt lo (fun z hz => hρ z (by simp [Op.operands, hz]))) (opt hi (fun z hz => hρ z (by simp [Op.operands, hz]))) (opt mx (fun z hz => hρ z (by simp [Op.operands, hz]))) hbl
    exact ⟨u, by simp [execOp, ho, hu], hv⟩
  case fieldAddr t x f =>
    obtain ⟨u, hu, hv⟩ := faddrV_ok TO h hp (hρ x (by simp [Op.operands]))
    exact ⟨u, by simp [execOp, ho, hu], hv⟩
  case indexAddr t x i =>
    obtain ⟨u, hu, hv⟩ := iaddrV_ok TO h hp (hρ x (by simp [Op.operands])) (hρ i (by simp [Op.operands]))
    exact ⟨u, by simp [execOp, ho, hu], hv⟩
  case index t x i =>
    obtain ⟨u, hu, hv⟩ := indexV_ok TO h hp (hρ x (by simp [Op.operands])) (hρ i (by simp [Op.operands]))
    exact ⟨u, by simp [execOp, ho, hu], hv⟩
  case extract x i =>
    obtain ⟨u, hu, hv⟩ := extractV_ok (P := P) (w := w) h (hρ x (by simp [Op.operands]))
    exact ⟨u, by simp [execOp, ho, hu], hv⟩
  case call cl =>
    obtain ⟨callee, as, ts⟩ := cl
    cases callee <;> try (simp only [reduceCtorEq] at h; done)
    rename_i bi
    cases bi <;> try (simp only [reduceCtorEq] at h; done)
    obtain ⟨as⟩ := as
    obtain ⟨ts⟩ := ts
    match as, ts, h, hρ, ho with
    | [x], [t], h, hρ, ho =>
      obtain ⟨u, hu, hv⟩ := lenV_ok (ty := o.type) TO h (hρ x (by simp [Op.operands, Call.operands]))
      refine ⟨u, ?_, hv⟩
      simp only [execOp, ho, resolve]
      simp [invoke, builtin, hu]
    | [], _, h, _, _ => simp at h
    | _ :: _ :: _, _, h, _, _ => simp at h
    | [_], [], h, _, _ => simp at h
    | [_], _ :: _ :: _, h, _, _ => simp at h

theorem sliceC_ok (TO : TabOk P T) {t : TypeId} {n g e len cap : Nat} {hi : Option SV} {x' : Value} {hi' : Option Value} {p : Prop} {v : SV} (h : sliceC T b t n g e len cap none hi none = some (p, v)) (hp : p)
    (hx : V2 X b c σ w (.slc n g e len cap) x') (e2 : OptOk X b c σ w hi hi') : ∃ u, (Instr.sliceAt t x' none hi' none).run P w = .ok u w ∧ V2 X b c σ w v u := by
  have ht := TO.ty t
  unfold sliceC at h
  cases et : T.ty t <;> simp only [et, reduceCtorEq] at h
  rename_i el
  rw [et] at ht; simp only [tyOk] at ht
  simp only [lowI] at h
  cases eh1 : highI len hi <;> simp only [eh1, reduceCtorEq] at h
  cases eb : blkAt b n g <;> simp only [eb, reduceCtorEq, Option.some.injEq, Prod.mk.injEq] at h
  rename_i hh _
  obtain ⟨rfl, rfl⟩ := h
  obtain ⟨hne, hsz0, _, h1, h2⟩ := hp
  obtain ⟨hc, hl⟩ := hx
  obtain ⟨a, rfl, hlc, hv⟩ := hl (blkAt_live eb)
  have hH : (hi' = none ∧ hh = len) ∨ ∃ k, hi' = some (.int k hh) := by
    cases hi with
    | none => simp only [highI, Option.some.injEq] at eh1; exact .inl ⟨e2.2 rfl, eh1.symm⟩
    | some x =>
      obtain ⟨u, hu', hu⟩ := e2.1 x rfl
      cases x <;> simp only [highI, reduceCtorEq, Option.some.injEq] at eh1
      rename_i k i
      subst eh1
      exact .inr ⟨k, by rw [hu', show u = .int k i from hu]⟩
  have hr : (Instr.sliceBounds true len cap none hi' none).run P w = .ok (0, hh.toNat, cap) w := by
    rcases hH with ⟨rfl, rfl⟩ | ⟨k, rfl⟩
    · simp [Instr.sliceBounds]
    · have rh : ∀ (code : BoundsCode), (Instr.sliceBound (.int k hh) cap code).run P w = .ok hh.toNat w := fun code => run_sliceBound w k hh cap code (by omega) (by omega)
      simp [Instr.sliceBounds, rh]
  have hsz := size_run (w := w) TO hne
  refine ⟨.slice (if cap = 0 then a else a.map (·.add (0 * T.size el))) (hh.toNat - 0) (cap - 0), ?_, hc, fun _ => ?_⟩
  · simp [Instr.sliceAt, Instr.slice, run_underlying ht, hr, hsz]
  · refine ⟨a, ?_, by omega, hv⟩
    have e0 : ∀ q : Addr, q.add (0 * T.size el) = q := fun q => by simp [Addr.add]
    have e1 : a.map (·.add (0 * T.size el)) = a := by
      cases a with
      | none => rfl
      | some q => rw [Option.map_some, e0]
    rw [e1]
    simp

theorem pureOpC_ok (TO : TabOk P T) {s : St} {a : Act} (hR : R X s σ w a) {ρ : Operand → SV} {o : Oper} {p : Prop} {v : SV}
    (hρ : ∀ x, x ∈ o.op.operands.toList → V2 X s.b s.c σ w (ρ x) (a.eval x)) (h : pureOpC T s ρ o.op = some (p, v)) (hp : p) :
    ∃ u, (execOp a.eval o).run P w = .ok (.value u) w ∧ V2 X s.b s.c σ w v u := by
  have old : pureOp T s (fun x => unc (ρ x)) o.op = some (p, v) → ∃ u, (execOp a.eval o).run P w = .ok (.value u) w ∧ V2 X s.b s.c σ w v u := fun h' => pureOp_ok TO hR (fun x hx => V2_unc (hρ x hx)) h' hp
  cases ho : o.op <;> (try (rw [ho] at h old; simp only [pureOpC] at h; exact old h))
  case move x =>
    rw [ho] at h hρ
    simp only [pureOpC, Option.some.injEq, Prod.mk.injEq] at h
    obtain ⟨rfl, rfl⟩ := h
    exact ⟨a.eval x, by simp [execOp, ho], hρ x (by simp [Op.operands])⟩
  case assign x =>
    rw [ho] at h hρ
    simp only [pureOpC, Option.some.injEq, Prod.mk.injEq] at h
    obtain ⟨rfl, rfl⟩ := h
    exact ⟨a.eval x, by simp [execOp, ho], hρ x (by simp [Op.operands])⟩
  case slice t x lo hi mx =>
    rw [ho] at h old hρ
    simp only [pureOpC] at h
    cases e : ρ x <;> simp only [e] at h <;> try exact old h
    rename_i n g es len cap
    cases lo with
    | some y => exact old h
    | none =>
      have hx := hρ x (by simp [Op.operands])
      rw [e] at hx
      cases mx with
      | some y => unfold sliceC at h; simp at h
      | none =>
        have opt : OptOk X s.b s.c σ w (hi.map ρ) (hi.map a.eval) := by
          cases hi with
          | none => exact ⟨fun z hz => by simp at hz, fun _ => rfl⟩
          | some q => exact ⟨fun z hz => by simp only [Option.map_some, Option.some.injEq] at hz; subst hz; exact ⟨_, rfl, hρ q (by simp [Op.operands])⟩, fun hz => by simp at hz⟩
        obtain ⟨u, hu, hv⟩ := sliceC_ok TO h hp hx opt
        exact ⟨u, by simp [execOp, ho, hu], hv⟩
  case call cl =>
    rw [ho] at h old hρ
    obtain ⟨callee, as, ts⟩ := cl
    cases callee <;> try exact old h
    rename_i bi
    cases bi <;> try exact old h
    obtain ⟨as⟩ := as
    obtain ⟨ts⟩ := ts
    simp only [pureOpC] at h
    match as, ts, h, hρ, ho with
    | [x], [t], h, hρ, ho =>
      have hx := hρ x (by simp [Op.operands, Call.operands])
      have ht := TO.ty t
      simp only at h
      cases e : ρ x <;> rw [e] at h hx <;> simp only [capV, reduceCtorEq] at h
      rename_i n g es len cap
      cases e2 : T.ty t <;> rw [e2] at ht <;> simp only [e2, reduceCtorEq, tyOk] at h ht
      cases eb : blkAt s.b n g <;> simp only [eb, reduceCtorEq, Option.some.injEq, Prod.mk.injEq] at h
      obtain ⟨rfl, rfl⟩ := h
      obtain ⟨hc, hlv⟩ := hx
      obtain ⟨ad, hax, hlc, hv⟩ := hlv (blkAt_live eb)
      refine ⟨.int .i64 cap, ?_, rfl⟩
      simp only [execOp, ho, resolve]
      simp [invoke, builtin, Builtin.cap_, run_underlying ht, hax, goInt]
    | [], _, h, _, _ => simp at h
    | _ :: _ :: _, _, h, _, _ => simp at h
    | [_], [], h, _, _ => simp at h
    | [_], _ :: _ :: _, h, _, _ => simp at h

end

end Go.Proofs.Ytbnjdnahpnjofaa.Abs
