/- OWN LIBRARY, parts 5 to 9. -/
import Derived.Test.YtdhnjmepgafeiaaDoorB1
import Derived.Laws.Cells
import Derived.Laws.MakeOwn
import Derived.Laws.Append
/- OWN LIBRARY, part 5: loads; all operations that leave memory as it is. -/
set_option linter.unusedVariables false
set_option linter.unusedSimpArgs false
namespace Go.Proofs.YtdhnjmepgafeiaaDoor.Abs
open Go

section
variable {P : Program} {T : Tab} {X : Ctx} {b : List (Nat × Nat × Blk)} {c : Lim} {σ : Env} {w : World}

theorem cellAt_ok {l : List SV} {cs : List Value} {o : Nat} {x : SV} (h : CellsOk X b c σ w l cs) (e : cellAt l o = some x) : ∃ v, cs[o]? = some v ∧ V0 X b c σ w x v := by
  induction l generalizing cs o with
  | nil => simp [cellAt] at e
  | cons y r ih =>
    cases y
    case arr k n m =>
      obtain ⟨h1, cs', rfl, h2⟩ := h
      simp only [cellAt] at e
      split at e
      · rename_i ho
        simp only [Option.some.injEq] at e
        subst e
        refine ⟨.int k (m.getD o 0), ?_, rfl⟩
        rw [List.getElem?_append_left (by simp; omega), List.getElem?_map]
        simp [List.getD, show o < m.length by omega]
      · obtain ⟨v, hv, h3⟩ := ih h2 e
        refine ⟨v, ?_, h3⟩
        rw [List.getElem?_append_right (by simp; omega), ← hv]
        congr 1; simp; omega
    all_goals
      obtain ⟨v, cs', rfl, h1, h2⟩ := h
      simp only [cellAt] at e
      split at e
      · rename_i ho
        simp only [Option.some.injEq] at e
        subst e; subst ho
        exact ⟨v, rfl, h1⟩
      · obtain ⟨v', hv, h3⟩ := ih h2 e
        refine ⟨v', ?_, h3⟩
        rw [← hv, show o = (o - 1) + 1 by omega, List.getElem?_cons_succ]; rfl

theorem dropC_ok {l m : List SV} {cs : List Value} {o : Nat} (h : CellsOk X b c σ w l cs) (e : dropC l o = some m) : o ≤ cs.length ∧ CellsOk X b c σ w m (cs.drop o) := by
  induction l generalizing cs o with
  | nil =>
    cases o with
    | zero => simp only [dropC, Option.some.injEq] at e; subst e; exact ⟨by omega, h⟩
    | succ o => simp [dropC] at e
  | cons y r ih =>
    cases o with
    | zero => simp only [dropC, Option.some.injEq] at e; subst e; exact ⟨by omega, h⟩
    | succ o =>
      cases y
      case arr k n q =>
        obtain ⟨h1, cs', rfl, h2⟩ := h
        simp only [dropC] at e
        split at e
        · obtain ⟨g1, g2⟩ := ih h2 e
          refine ⟨by simp; omega, ?_⟩
          rw [List.drop_append, List.drop_eq_nil_of_le (by simp; omega), List.nil_append, List.length_map, h1]
          exact g2
        · simp at e
      all_goals
        obtain ⟨v, cs', rfl, h1, h2⟩ := h
        simp only [dropC] at e
        obtain ⟨g1, g2⟩ := ih h2 e
        exact ⟨by simp; omega, by simpa using g2⟩

theorem takeC_ok {l m : List SV} {cs : List Value} {n : Nat} (h : CellsOk X b c σ w l cs) (e : takeC l n = some m) : n ≤ cs.length ∧ CellsOk X b c σ w m (cs.take n) := by
  induction l generalizing cs n m with
  | nil =>
    cases n with
    | zero => simp only [takeC, Option.some.injEq] at e; subst e; exact ⟨by omega, by simp [CellsOk]⟩
    | succ o => simp [takeC] at e
  | cons y r ih =>
    cases n with
    | zero => simp only [takeC, Option.some.injEq] at e; subst e; exact ⟨by omega, by simp [CellsOk]⟩
    | succ o =>
      cases y
      case arr k n q =>
        obtain ⟨h1, cs', rfl, h2⟩ := h
        simp only [takeC] at e
        split at e
        · cases e2 : takeC r (o + 1 - n) <;> simp only [e2, Option.map_none, Option.map_some, reduceCtorEq, Option.some.injEq] at e
          subst e
          obtain ⟨g1, g2⟩ := ih h2 e2
          refine ⟨by simp; omega, h1, cs'.take (o + 1 - n), ?_, g2⟩
          rw [List.take_append, List.take_of_length_le (by simp; omega), List.length_map, h1]
        · simp at e
      all_goals
        obtain ⟨v, cs', rfl, h1, h2⟩ := h
        simp only [takeC] at e
        cases e2 : takeC r o <;> simp only [e2, Option.map_none, Option.map_some, reduceCtorEq, Option.some.injEq] at e
        subst e
        obtain ⟨g1, g2⟩ := ih h2 e2
        exact ⟨by simp; omega, v, cs'.take o, rfl, h1, g2⟩

theorem isRow_view {l : List Int} {tag : Bool} {v : Value} (h : IsRow (Vw X b σ w tag) w l v) : IsView (Vw X b σ w) w tag (.ints .u8 l) v := by
  obtain ⟨a, cap, rfl, h1, h2⟩ := h
  refine ⟨a, cap, rfl, h1, fun hne => ?_⟩
  obtain ⟨B, o, rfl, hv, hc⟩ := h2 hne
  refine ⟨B, o, rfl, hv, fun i j hi hj => ⟨_, ?_, rfl⟩⟩
  have : j = 0 := by simp [Data.esz] at hj; exact hj
  subst this
  simpa [Data.esz] using hc i hi

theorem elemV_ok {d : Data} {i j : Nat} {v : Value} (h : CellOk (Vw X b σ w) w i j d v) : V0 X b c σ w (elemV i j d) v := by
  cases d
  case rows t l => exact isRow_view h
  case locks l =>
    match j, h with
    | 0, h => exact h
    | 1, h => exact h
    | 2, h => exact h
    | _ + 3, h => exact h
  case ents l =>
    match j, h with
    | 0, h => exact h
    | 1, h => exact h
    | _ + 2, h => exact h
  all_goals exact h

theorem isAgg_one (TO : TabOk P T) {t : TypeId} (h : one (T.ty t) = true) : (isAgg t).run P w = .ok false w := by
  have ht := TO.ty t
  cases e : T.ty t <;> rw [e] at ht h <;> simp only [tyOk, one, Bool.false_eq_true] at ht h
  all_goals simp [isAgg, run_underlying ht]

theorem isAgg_struct (TO : TabOk P T) {t : TypeId} {fs : List (Nat × TypeId)} (h : T.ty t = .struct fs) : (isAgg t).run P w = .ok true w := by
  have ht := TO.ty t
  rw [h] at ht; simp only [tyOk] at ht
  obtain ⟨f, hf, _⟩ := ht
  simp [isAgg, run_underlying hf]

theorem isAgg_array (TO : TabOk P T) {t e : TypeId} {n : Nat} (h : T.ty t = .array n e) : (isAgg t).run P w = .ok true w := by
  have ht := TO.ty t
  rw [h] at ht; simp only [tyOk] at ht
  simp [isAgg, run_underlying ht]

theorem load_run {a : Addr} {v : Value} (h : w.cell? a = some v) : (load a).run P w = .ok v w := by simp [load, Sem.run, h]

theorem loadCells_run {B o : Nat} {cs : List Value} (h : ∀ j v, cs[j]? = some v → w.cell? ⟨B, o + j, none⟩ = some v) : (loadCells ⟨B, o, none⟩ cs.length).run P w = .ok cs.toArray w :=
  run_loadCells_list w ⟨B, o, none⟩ cs (fun j v hj => by rw [addr_add]; exact h j v hj)

theorem cell_block {B o : Nat} {cs : Array Value} {t : TypeId} {fr : Nat × Nat} (h : w.heap[B]? = some (.cells cs t fr)) : w.cell? ⟨B, o, none⟩ = cs[o]? := by simp [World.cell?, h]

theorem loadV_ok (TO : TabOk P T) {t : TypeId} {x : SV} {x' : Value} {p : Prop} {v : SV} (h : loadV T b t x = some (p, v)) (hp : p)
    (hx : V2 X b c σ w x x') (hbl : ∀ n g y, fnd b n = some (g, y) → BlkOk X b c σ w n y) (hgl : ∀ g k l, GT g = some (k, l) → ∀ i, i < l.length → w.cell? ⟨g, i, none⟩ = some (.int k (l.getD i 0))) :
    ∃ u, (Instr.loadAt t x').run P w = .ok u w ∧ V2 X b c σ w v u := by
  cases x <;> simp only [loadV, reduceCtorEq] at h
  case ptr n g off =>
    cases eb : blkAt b n g <;> simp only [eb, reduceCtorEq] at h
    rename_i bk
    cases bk <;> simp only [reduceCtorEq] at h
    rename_i l
    obtain ⟨hc, hl⟩ := hx
    obtain ⟨B, hB, rfl⟩ := hl (blkAt_live eb)
    obtain ⟨B', cs, ty, fr, hB', hheap, hfree, hcells⟩ := hbl n g _ (blkAt_fnd eb)
    obtain rfl : B = B' := by simpa using hB.symm.trans hB'
    have oneCase : one (T.ty t) = true → (∀ y, cellAt l off = some y → some (True, y) = some (p, v) → ∃ u, (Instr.loadAt t (.pointer (some ⟨B, off, none⟩))).run P w = .ok u w ∧ V2 X b c σ w v u) := by
      intro h1 y hy e
      simp only [Option.some.injEq, Prod.mk.injEq] at e
      obtain ⟨_, rfl⟩ := e
      obtain ⟨u, hu, hv⟩ := cellAt_ok hcells hy
      refine ⟨u, ?_, V2_of_V1 (V1_of_V0 hv)⟩
      have hcell : w.cell? ⟨B, off, none⟩ = some u := by rw [cell_block hheap]; simpa using hu
      simp only [Instr.loadAt, Instr.sureAddr, loadVar, Sem.run_bind, Sem.run_pure, Result.andThen_ok, isAgg_one TO h1, load_run hcell, Bool.false_eq_true, if_false]
    cases e : T.ty t <;> simp only [e] at h
    case struct fs =>
      cases ed : (dropC l off).bind (takeC · (T.size t)) <;> simp only [ed, reduceCtorEq, Option.some.injEq, Prod.mk.injEq] at h
      rename_i m
      obtain ⟨rfl, rfl⟩ := h
      cases ed2 : dropC l off <;> simp only [ed2, Option.bind_none, Option.bind_some, reduceCtorEq] at ed
      obtain ⟨g1, g2⟩ := dropC_ok hcells ed2
      obtain ⟨g3, g4⟩ := takeC_ok g2 ed
      refine ⟨.agg ((cs.toList.drop off).take (T.size t)).toArray, ?_, _, rfl, by simpa using g4⟩
      have hln : ((cs.toList.drop off).take (T.size t)).length = T.size t := by rw [List.length_take]; omega
      have hlc := loadCells_run (P := P) (w := w) (B := B) (o := off) (cs := (cs.toList.drop off).take (T.size t)) (by
        intro j v hj
        rw [cell_block hheap]
        rw [List.getElem?_take] at hj
        split at hj
        · simpa using hj
        · simp at hj)
      rw [hln] at hlc
      simp [Instr.loadAt, Instr.sureAddr, loadVar, isAgg_struct TO e, size_run TO hp, hlc]
    case array m el =>
      cases ea : arrAt l off <;> simp only [ea, reduceCtorEq, Option.some.injEq, Prod.mk.injEq] at h
      rename_i q
      obtain ⟨k, m', l'⟩ := q
      simp only at h
      obtain ⟨rfl, rfl⟩ := h
      obtain ⟨rfl, hs, hm0⟩ := hp
      obtain ⟨g1, g2, g3⟩ := arrAt_len hcells ea
      have hlc := loadCells_run (P := P) (w := w) (B := B) (o := off) (cs := l'.map (.int k)) (by
        intro j v hj
        rw [cell_block hheap]
        rw [List.getElem?_map] at hj
        have hjl : j < l'.length := by
          rcases Nat.lt_or_ge j l'.length with h | h
          · exact h
          · simp [List.getElem?_eq_none h] at hj
        have := g3 j (by omega)
        simp only [List.getD, List.getElem?_eq_getElem hjl, Option.getD_some, Option.map_some, Option.some.injEq] at this hj
        subst hj
        simpa using this)
      rw [List.length_map, g2] at hlc
      refine ⟨.agg (l'.map (.int k)).toArray, ?_, rfl, g2⟩
      simp [Instr.loadAt, Instr.sureAddr, loadVar, isAgg_array TO e, size_run TO (t := t) (by omega), hs, hlc]
    case other => simp at h
    all_goals
      cases ec : cellAt l off <;> simp only [ec, reduceCtorEq] at h
      exact oneCase (by rw [e]; rfl) _ ec h
  case eptr n g seg e i m =>
    obtain ⟨him, hc, hl⟩ := hx
    cases eb : blkAt b n g <;> simp only [eb, reduceCtorEq] at h
    rename_i bk
    obtain ⟨B, hB, rfl⟩ := hl (blkAt_live eb)
    cases bk <;> simp only [reduceCtorEq] at h
    case vec d =>
      have key : one (T.ty t) = true → some (seg = 0 ∧ e = 1 ∧ d.esz = 1 ∧ m ≤ d.len, elemV i 0 d) = some (p, v) → ∃ u, (Instr.loadAt t (.pointer (some ⟨B, seg + i * e, none⟩))).run P w = .ok u w ∧ V2 X b c σ w v u := by
        intro h1 hh
        simp only [Option.some.injEq, Prod.mk.injEq] at hh
        obtain ⟨rfl, rfl⟩ := hh
        obtain ⟨rfl, rfl, h3, h4⟩ := hp
        rcases hbl n g _ (blkAt_fnd eb) with ⟨hn, _⟩ | ⟨B', cs, ty, fr, hB', hheap, hfree, hsz, hh, _⟩
        · rw [hn] at hB; simp at hB
        obtain rfl : B = B' := by simpa using hB.symm.trans hB'
        obtain ⟨u, hu, hcell⟩ := hh i 0 (by omega) (by omega)
        rw [h3] at hu
        refine ⟨u, ?_, V2_of_V1 (V1_of_V0 (elemV_ok hcell))⟩
        have hu' : w.cell? ⟨B, 0 + i * 1, none⟩ = some u := by simpa using hu
        simp only [Instr.loadAt, Instr.sureAddr, loadVar, Sem.run_bind, Sem.run_pure, Result.andThen_ok, isAgg_one TO h1, load_run hu', Bool.false_eq_true, if_false]
      cases e2 : T.ty t <;> simp only [e2, reduceCtorEq] at h
      case array m' el =>
        cases d <;> simp only [reduceCtorEq, Option.some.injEq, Prod.mk.injEq] at h
        rename_i k l
        obtain ⟨rfl, rfl⟩ := h
        obtain ⟨rfl, rfl, hs, hm0, hin, hml⟩ := hp
        rcases hbl n g _ (blkAt_fnd eb) with ⟨hn, _⟩ | ⟨B', cs, ty, fr, hB', hheap, hfree, hsz, hh, _⟩
        · rw [hn] at hB; simp at hB
        obtain rfl : B = B' := by simpa using hB.symm.trans hB'
        have hlen : ((l.drop i).take m').length = m' := by simp; omega
        have hlc := loadCells_run (P := P) (w := w) (B := B) (o := 0 + i * 1) (cs := ((l.drop i).take m').map (.int k)) (by
          intro j v hj
          rw [List.getElem?_map] at hj
          have hjl : j < m' := by
            rcases Nat.lt_or_ge j m' with h | h
            · exact h
            · rw [List.getElem?_eq_none (by omega)] at hj; simp at hj
          obtain ⟨u, hu, hcell⟩ := hh (i + j) 0 (by simp [Data.len]; omega) (by simp [Data.esz])
          obtain rfl : u = _ := hcell
          rw [List.getElem?_take, if_pos hjl, List.getElem?_drop] at hj
          simp only [Data.esz, Nat.mul_one, Nat.add_zero, Nat.zero_add] at hu ⊢
          rw [hu]
          simp only [List.getElem?_eq_getElem (show i + j < l.length by omega), Option.map_some, Option.some.injEq] at hj
          rw [← hj]
          simp [List.getD, show i + j < l.length by omega])
        rw [List.length_map, hlen] at hlc
        refine ⟨.agg (((l.drop i).take m').map (.int k)).toArray, ?_, rfl, hlen⟩
        simp [Instr.loadAt, Instr.sureAddr, loadVar, isAgg_array TO e2, size_run TO (t := t) (by omega), hs] at hlc ⊢
        simp [hlc]
      all_goals exact key (by rw [e2]; rfl) h
    case cells l =>
      cases e2 : T.ty t <;> simp only [e2, reduceCtorEq] at h
      case array m' el =>
        cases ea : arrAt l seg <;> simp only [ea, reduceCtorEq, Option.some.injEq, Prod.mk.injEq] at h
        rename_i q
        obtain ⟨k, n', l'⟩ := q
        simp only at h
        obtain ⟨rfl, rfl⟩ := h
        obtain ⟨rfl, hs, hm0, hin, hml⟩ := hp
        obtain ⟨B', cs, ty, fr, hB', hheap, hfree, hcells⟩ := hbl n g _ (blkAt_fnd eb)
        obtain rfl : B = B' := by simpa using hB.symm.trans hB'
        obtain ⟨g1, g2, g3⟩ := arrAt_len hcells ea
        have hlen : ((l'.drop i).take m').length = m' := by simp; omega
        have hlc := loadCells_run (P := P) (w := w) (B := B) (o := seg + i * 1) (cs := ((l'.drop i).take m').map (.int k)) (by
          intro j v hj
          rw [List.getElem?_map] at hj
          have hjl : j < m' := by
            rcases Nat.lt_or_ge j m' with h | h
            · exact h
            · rw [List.getElem?_eq_none (by omega)] at hj; simp at hj
          rw [List.getElem?_take, if_pos hjl, List.getElem?_drop] at hj
          have := g3 (i + j) (by omega)
          simp only [List.getElem?_eq_getElem (show i + j < l'.length by omega), Option.map_some, Option.some.injEq] at hj
          rw [cell_block hheap, Nat.mul_one, Nat.add_assoc, ← hj]
          simpa [List.getD, show i + j < l'.length by omega] using this)
        rw [List.length_map, hlen] at hlc
        refine ⟨.agg (((l'.drop i).take m').map (.int k)).toArray, ?_, rfl, hlen⟩
        simp [Instr.loadAt, Instr.sureAddr, loadVar, isAgg_array TO e2, size_run TO (t := t) (by omega), hs] at hlc ⊢
        simp [hlc]
      case int k0 =>
        cases ea : arrAt l seg <;> simp only [ea, reduceCtorEq, Option.some.injEq, Prod.mk.injEq] at h
        rename_i q
        obtain ⟨k, n', l'⟩ := q
        simp only at h
        obtain ⟨rfl, rfl⟩ := h
        obtain ⟨rfl, hmn⟩ := hp
        obtain ⟨B', cs, ty, fr, hB', hheap, hfree, hcells⟩ := hbl n g _ (blkAt_fnd eb)
        obtain rfl : B = B' := by simpa using hB.symm.trans hB'
        obtain ⟨g1, g2, g3⟩ := arrAt_len hcells ea
        have hu' : w.cell? ⟨B, seg + i * 1, none⟩ = some (.int k (l'.getD i 0)) := by
          rw [cell_block hheap, Nat.mul_one]
          simpa using g3 i (by omega)
        refine ⟨_, ?_, rfl⟩
        simp only [Instr.loadAt, Instr.sureAddr, loadVar, Sem.run_bind, Sem.run_pure, Result.andThen_ok, isAgg_one TO (t := t) (by rw [e2]; rfl), load_run hu', Bool.false_eq_true, if_false]
      case struct fs =>
        cases ed : (dropC l (seg + i * e)).bind (takeC · (T.size t)) <;> simp only [ed, reduceCtorEq, Option.some.injEq, Prod.mk.injEq] at h
        rename_i q
        obtain ⟨rfl, rfl⟩ := h
        obtain ⟨B', cs, ty, fr, hB', hheap, hfree, hcells⟩ := hbl n g _ (blkAt_fnd eb)
        obtain rfl : B = B' := by simpa using hB.symm.trans hB'
        cases ed2 : dropC l (seg + i * e) <;> simp only [ed2, Option.bind_none, Option.bind_some, reduceCtorEq] at ed
        obtain ⟨g1, g2⟩ := dropC_ok hcells ed2
        obtain ⟨g3, g4⟩ := takeC_ok g2 ed
        refine ⟨.agg ((cs.toList.drop (seg + i * e)).take (T.size t)).toArray, ?_, _, rfl, by simpa using g4⟩
        have hln : ((cs.toList.drop (seg + i * e)).take (T.size t)).length = T.size t := by rw [List.length_take]; omega
        have hlc := loadCells_run (P := P) (w := w) (B := B) (o := seg + i * e) (cs := (cs.toList.drop (seg + i * e)).take (T.size t)) (by
          intro j v hj
          rw [cell_block hheap]
          rw [List.getElem?_take] at hj
          split at hj
          · simpa using hj
          · simp at hj)
        rw [hln] at hlc
        simp [Instr.loadAt, Instr.sureAddr, loadVar, isAgg_struct TO e2, size_run TO hp, hlc]
      all_goals
        cases ec : cellAt l (seg + i * e) <;> simp only [ec, reduceCtorEq, Option.some.injEq, Prod.mk.injEq] at h
        obtain ⟨rfl, rfl⟩ := h
        obtain ⟨B', cs, ty, fr, hB', hheap, hfree, hcells⟩ := hbl n g _ (blkAt_fnd eb)
        obtain rfl : B = B' := by simpa using hB.symm.trans hB'
        obtain ⟨u, hu, hv⟩ := cellAt_ok hcells ec
        have hcell : w.cell? ⟨B, seg + i * e, none⟩ = some u := by rw [cell_block hheap]; simpa using hu
        refine ⟨u, ?_, V2_of_V1 (V1_of_V0 hv)⟩
        simp only [Instr.loadAt, Instr.sureAddr, loadVar, Sem.run_bind, Sem.run_pure, Result.andThen_ok, isAgg_one TO (t := t) (by rw [e2]; rfl), load_run hcell, Bool.false_eq_true, if_false]
  case vptr tag d i j =>
    obtain ⟨hi, B, o, rfl, hvw, hh⟩ := hx
    have key : one (T.ty t) = true → some (j < d.esz, elemV i j d) = some (p, v) → ∃ u, (Instr.loadAt t (.pointer (some ⟨B, o + i * d.esz + j, none⟩))).run P w = .ok u w ∧ V2 X b c σ w v u := by
      intro h1 e
      simp only [Option.some.injEq, Prod.mk.injEq] at e
      obtain ⟨rfl, rfl⟩ := e
      obtain ⟨u, hu, hcell⟩ := hh i j hi hp
      refine ⟨u, ?_, V2_of_V1 (V1_of_V0 (elemV_ok hcell))⟩
      simp only [Instr.loadAt, Instr.sureAddr, loadVar, Sem.run_bind, Sem.run_pure, Result.andThen_ok, isAgg_one TO h1, load_run hu, Bool.false_eq_true, if_false]
    cases e2 : T.ty t <;> simp only [e2, reduceCtorEq] at h
    case struct fs =>
      cases d <;> simp only [reduceCtorEq, Option.some.injEq, Prod.mk.injEq] at h
      case locks l =>
        obtain ⟨rfl, rfl⟩ := h
        obtain ⟨hs, rfl⟩ := hp
        obtain ⟨u0, hu0, c0⟩ := hh i 0 hi (by simp [Data.esz])
        obtain ⟨u1, hu1, c1⟩ := hh i 1 hi (by simp [Data.esz])
        obtain ⟨u2, hu2, c2⟩ := hh i 2 hi (by simp [Data.esz])
        obtain ⟨u3, hu3, c3⟩ := hh i 3 hi (by simp [Data.esz])
        have hlc := loadCells_run (P := P) (w := w) (B := B) (o := o + i * 4 + 0) (cs := [u0, u1, u2, u3]) (by
          intro j v hj
          match j, hj with
          | 0, hj => simpa using hj ▸ hu0
          | 1, hj => simpa using hj ▸ hu1
          | 2, hj => simpa using hj ▸ hu2
          | 3, hj => simpa using hj ▸ hu3
          | n + 4, hj => simp at hj)
        refine ⟨.agg #[u0, u1, u2, u3], ?_, _, rfl, u0, _, rfl, elemV_ok c0, u1, _, rfl, elemV_ok c1, u2, _, rfl, elemV_ok c2, u3, _, rfl, elemV_ok c3, rfl⟩
        simp only [List.length_cons, List.length_nil, Nat.zero_add, Nat.reduceAdd] at hlc
        simp [Instr.loadAt, Instr.sureAddr, loadVar, isAgg_struct TO e2, size_run TO (t := t) (by omega), hs, Data.esz] at hlc ⊢
        simp [hlc]
      case ents l =>
        obtain ⟨rfl, rfl⟩ := h
        obtain ⟨hs, rfl⟩ := hp
        obtain ⟨u0, hu0, c0⟩ := hh i 0 hi (by simp [Data.esz])
        obtain ⟨u1, hu1, c1⟩ := hh i 1 hi (by simp [Data.esz])
        obtain ⟨u2, hu2, c2⟩ := hh i 2 hi (by simp [Data.esz])
        have hlc := loadCells_run (P := P) (w := w) (B := B) (o := o + i * 3 + 0) (cs := [u0, u1, u2]) (by
          intro j v hj
          match j, hj with
          | 0, hj => simpa using hj ▸ hu0
          | 1, hj => simpa using hj ▸ hu1
          | 2, hj => simpa using hj ▸ hu2
          | n + 3, hj => simp at hj)
        refine ⟨.agg #[u0, u1, u2], ?_, _, rfl, u0, _, rfl, elemV_ok c0, u1, _, rfl, elemV_ok c1, u2, _, rfl, elemV_ok c2, rfl⟩
        simp only [List.length_cons, List.length_nil, Nat.zero_add, Nat.reduceAdd] at hlc
        simp [Instr.loadAt, Instr.sureAddr, loadVar, isAgg_struct TO e2, size_run TO (t := t) (by omega), hs, Data.esz] at hlc ⊢
        simp [hlc]
    case array m el =>
      cases d <;> simp only [reduceCtorEq, Option.some.injEq, Prod.mk.injEq] at h
      rename_i k l
      obtain ⟨rfl, rfl⟩ := h
      obtain ⟨hs, hm0, rfl, hin⟩ := hp
      have hlen : ((l.drop i).take m).length = m := by simp; omega
      have hlc := loadCells_run (P := P) (w := w) (B := B) (o := o + i * 1 + 0) (cs := ((l.drop i).take m).map (.int k)) (by
        intro j v hj
        rw [List.getElem?_map] at hj
        have hjl : j < m := by
          rcases Nat.lt_or_ge j m with h | h
          · exact h
          · rw [List.getElem?_eq_none (by omega)] at hj; simp at hj
        obtain ⟨u, hu, hcell⟩ := hh (i + j) 0 (by simp [Data.len]; omega) (by simp [Data.esz])
        obtain rfl : u = _ := hcell
        rw [List.getElem?_take, if_pos hjl, List.getElem?_drop] at hj
        simp only [Data.esz, Nat.mul_one, Nat.add_zero] at hu ⊢
        rw [Nat.add_assoc, hu]
        simp only [List.getElem?_eq_getElem (show i + j < l.length by omega), Option.map_some, Option.some.injEq] at hj
        rw [← hj]
        simp [List.getD, show i + j < l.length by omega])
      rw [List.length_map, hlen] at hlc
      refine ⟨.agg (((l.drop i).take m).map (.int k)).toArray, ?_, rfl, hlen⟩
      simp [Instr.loadAt, Instr.sureAddr, loadVar, isAgg_array TO e2, size_run TO (t := t) (by omega), hs, Data.esz] at hlc ⊢
      simp [hlc]
    all_goals exact key (by rw [e2]; rfl) h
  case lit y =>
    obtain rfl : x' = y := hx
    cases x' <;> simp only [gloadV, reduceCtorEq] at h
    rename_i ad
    cases ad <;> simp only [gloadV, reduceCtorEq] at h
    rename_i ad
    cases e2 : T.ty t <;> simp only [e2, reduceCtorEq] at h
    cases e3 : GT ad.block <;> simp only [e3, reduceCtorEq, Option.some.injEq, Prod.mk.injEq] at h
    rename_i m el q
    obtain ⟨k, l⟩ := q
    simp only [Option.some.injEq, Prod.mk.injEq] at h
    obtain ⟨rfl, rfl⟩ := h
    obtain ⟨B, o, sp⟩ := ad
    obtain ⟨rfl, rfl, rfl, hs, hm0⟩ := hp
    have hg := hgl _ _ _ e3
    have hlc := loadCells_run (P := P) (w := w) (B := B) (o := 0) (cs := l.map (.int k)) (by
      intro j v hj
      rw [List.getElem?_map] at hj
      have hjl : j < l.length := by
        rcases Nat.lt_or_ge j l.length with h | h
        · exact h
        · rw [List.getElem?_eq_none (by omega)] at hj; simp at hj
      have := hg j hjl
      simp only [List.getElem?_eq_getElem hjl, Option.map_some, Option.some.injEq] at hj
      rw [← hj]
      simpa [List.getD, hjl] using this)
    rw [List.length_map] at hlc
    refine ⟨.agg (l.map (.int k)).toArray, ?_, rfl, rfl⟩
    simp [Instr.loadAt, Instr.sureAddr, loadVar, isAgg_array TO e2, size_run TO (t := t) (by omega), hs, hlc]

theorem gl_here {X : Ctx} {s : St} {σ : Env} {w : World} {a : Act} (hR : R X s σ w a) : ∀ g k l, GT g = some (k, l) → ∀ i, i < l.length → w.cell? ⟨g, i, none⟩ = some (.int k (l.getD i 0)) := by
  intro g k l h i hi
  obtain ⟨h1, h2⟩ := hR.gl g k l h
  obtain ⟨h3, h4⟩ := hR.ro g h1
  rw [cell_of_heap (hR.fr.2 g h3 h4)]
  exact h2 i hi

theorem CellsOk_zero {b : List (Nat × Nat × Blk)} {c : Lim} : ∀ {l : List SV} {cs : List Value}, ZeroOk l cs → CellsOk X b c σ w l cs := by
  intro l
  induction l with
  | nil => intro cs h; exact h
  | cons x r ih =>
    intro cs h
    cases x
    case arr k n l => obtain ⟨h1, cs', e, h2⟩ := h; exact ⟨h1, cs', e, ih h2⟩
    all_goals
      obtain ⟨v, cs', e, h1, h2⟩ := h
      exact ⟨v, cs', e, by rw [h1]; exact V0_const v, ih h2⟩

theorem scal_cells {b : List (Nat × Nat × Blk)} {c : Lim} {x : SV} {v : Value} (hs : scal b x = true) (hv : V2 X b c σ w x v) : v.cells = #[v] ∧ v.oneCell' = true ∧ V0 X b c σ w x v := by
  cases x <;> simp only [scal, Bool.false_eq_true] at hs
  case bool => rw [show v = _ from hv]; exact ⟨rfl, rfl, rfl⟩
  case int => rw [show v = _ from hv]; exact ⟨rfl, rfl, rfl⟩
  case str => rw [show v = _ from hv]; exact ⟨rfl, rfl, rfl⟩
  case nil => rw [show v = _ from hv]; exact ⟨rfl, rfl, rfl⟩
  case view => have h2 := hv; obtain ⟨a, cap, rfl, _⟩ := h2; exact ⟨rfl, rfl, hv⟩
  case vptr => have h2 := hv; obtain ⟨_, B, o, rfl, _⟩ := h2; exact ⟨rfl, rfl, hv⟩
  case ptr n g off =>
    obtain ⟨y, hy⟩ := Option.isSome_iff_exists.1 hs
    have h2 := hv
    obtain ⟨_, hl⟩ := h2
    obtain ⟨B, _, rfl⟩ := hl (blkAt_live hy)
    exact ⟨rfl, rfl, hv⟩
  case eptr n g seg e i m =>
    obtain ⟨y, hy⟩ := Option.isSome_iff_exists.1 hs
    have h2 := hv
    obtain ⟨_, _, hl⟩ := h2
    obtain ⟨B, _, rfl⟩ := hl (blkAt_live hy)
    exact ⟨rfl, rfl, hv⟩
  case sl n g seg e off len =>
    obtain ⟨y, hy⟩ := Option.isSome_iff_exists.1 hs
    have h2 := hv
    obtain ⟨_, hl⟩ := h2
    obtain ⟨a, cap, rfl, _⟩ := hl (blkAt_live hy)
    exact ⟨rfl, rfl, hv⟩

theorem cellsOf_ok {b : List (Nat × Nat × Blk)} {c : Lim} {x : SV} {v : Value} {l : List SV} (hs : cellsOf b x = some l) (hv : V2 X b c σ w x v) : CellsOk X b c σ w l v.cells.toList := by
  have key : ∀ x, (match scal b x with | true => some [x] | false => none) = some l → V2 X b c σ w x v → CellsOk X b c σ w l v.cells.toList := by
    intro x h hv
    cases e : scal b x <;> simp only [e, reduceCtorEq, Option.some.injEq] at h
    subst h
    obtain ⟨h1, _, h3⟩ := scal_cells e hv
    rw [h1]
    cases x <;> first | exact ⟨v, [], rfl, h3, rfl⟩ | exact h3.elim
  cases x
  case agg m =>
    simp only [cellsOf, Option.some.injEq] at hs
    subst hs
    obtain ⟨cs, rfl, h⟩ := hv
    exact h
  case arr k n m =>
    simp only [cellsOf, Option.some.injEq] at hs
    subst hs
    obtain ⟨rfl, h⟩ := (hv : _ ∧ _)
    exact ⟨h, [], by simp [Value.cells], rfl⟩
  all_goals exact key _ (by unfold cellsOf at hs; exact hs) hv

theorem CellsOk_app {b : List (Nat × Nat × Blk)} {c : Lim} : ∀ {l m : List SV} {xs ys : List Value}, CellsOk X b c σ w l xs → CellsOk X b c σ w m ys → CellsOk X b c σ w (l ++ m) (xs ++ ys)
  | [], m, xs, ys, h, h' => by rw [show xs = [] from h]; exact h'
  | .arr k n l :: r, m, xs, ys, h, h' => by
    obtain ⟨h1, cs', rfl, h2⟩ := h
    exact ⟨h1, cs' ++ ys, by rw [List.append_assoc], CellsOk_app h2 h'⟩
  | x :: r, m, xs, ys, h, h' => by
    cases x
    case arr k n l =>
      obtain ⟨h1, cs', rfl, h2⟩ := h
      exact ⟨h1, cs' ++ ys, by rw [List.append_assoc], CellsOk_app h2 h'⟩
    all_goals
      obtain ⟨v, cs', rfl, h1, h2⟩ := h
      exact ⟨v, cs' ++ ys, rfl, h1, CellsOk_app h2 h'⟩

theorem cntC_ok {b : List (Nat × Nat × Blk)} {c : Lim} : ∀ {l : List SV} {cs : List Value}, CellsOk X b c σ w l cs → cntC l = cs.length
  | [], cs, h => by rw [show cs = [] from h]; rfl
  | x :: r, cs, h => by
    cases x
    case arr k n l =>
      obtain ⟨h1, cs', rfl, h2⟩ := h
      simp only [cntC, List.length_append, List.length_map, cntC_ok h2, h1]
    all_goals
      obtain ⟨v, cs', rfl, h1, h2⟩ := h
      simp only [cntC, List.length_cons, cntC_ok h2]; omega

theorem set_seg {α : Type} (L : List α) (n m : Nat) (v : α) (h : n < L.length) : (L.set n v).take (n + 1) = L.take n ++ [v] ∧ (L.set n v).drop (n + 1 + m) = L.drop (n + 1 + m) := by
  refine ⟨?_, ?_⟩
  · rw [List.take_add_one]
    simp [h, List.take_set]
    apply List.set_eq_of_length_le; simp; omega
  · rw [List.drop_set]
    rw [if_pos (by omega)]

theorem fold_set (vs : List Value) : ∀ (off k : Nat) (cs : Array Value), off + k + vs.length ≤ cs.size →
    ((vs.zipIdx k).foldl (fun cs q => cs.setIfInBounds (off + q.2) q.1) cs).toList = cs.toList.take (off + k) ++ vs ++ cs.toList.drop (off + k + vs.length) := by
  induction vs with
  | nil => intro off k cs h; simp
  | cons v vs ih =>
    intro off k cs h
    simp only [List.length_cons] at h
    rw [List.zipIdx_cons, List.foldl_cons, ih off (k + 1) _ (by simp; omega)]
    have hl : off + k < cs.toList.length := by simp; omega
    rw [Array.toList_setIfInBounds]
    obtain ⟨h1, h2⟩ := set_seg cs.toList (off + k) vs.length v hl
    rw [show off + (k + 1) = off + k + 1 by omega, h1, h2, List.length_cons, show off + k + (vs.length + 1) = off + k + 1 + vs.length by omega]
    simp

theorem fold_cells (v : Value) (off : Nat) (cs : Array Value) (h : off + v.cells.size ≤ cs.size) :
    (v.cells.zipIdx.foldl (fun cs q => cs.setIfInBounds (off + q.2) q.1) cs).toList = cs.toList.take off ++ v.cells.toList ++ cs.toList.drop (off + v.cells.size) := by
  have := fold_set v.cells.toList off 0 cs (by simpa using h)
  rw [← Array.foldl_toList, Array.toList_zipIdx]
  simpa using this

/-- Parts, told. -/
def Parts (X : Ctx) (b : List (Nat × Nat × Blk)) (c : Lim) (σ : Env) (w : World) : List (Nat × SV) → List (Nat × Value) → Prop
  | [], ps => ps = []
  | (i, x) :: r, ps => ∃ v ps', ps = (i, v) :: ps' ∧ V2 X b c σ w x v ∧ Parts X b c σ w r ps'

theorem fillC_ok {b : List (Nat × Nat × Blk)} {c : Lim} {fs : List (Nat × TypeId)} {pl : Nat → Option (Nat × Nat)} (hpl : ∀ i o ft, fieldOf fs i = some (o, ft) → pl i = some (o, T.size ft)) :
    ∀ {xs : List (Nat × SV)} {ps : List (Nat × Value)} {cs cs' : List SV} {z : Array Value} {p : Prop}, fillC T b fs cs xs = some (p, cs') → p → Parts X b c σ w xs ps → CellsOk X b c σ w cs z.toList →
      ∃ z', Instr.fill pl z ps = some z' ∧ CellsOk X b c σ w cs' z'.toList
  | [], ps, cs, cs', z, p, h, hp, hps, hc => by
    simp only [fillC, Option.some.injEq, Prod.mk.injEq] at h
    rw [show ps = [] from hps]
    obtain ⟨_, rfl⟩ := h
    exact ⟨z, rfl, hc⟩
  | (i, x) :: r, ps, cs, cs', z, p, h, hp, hps, hc => by
    obtain ⟨v, ps', rfl, hv, hr⟩ := hps
    simp only [fillC] at h
    cases e1 : fieldOf fs i <;> simp only [e1, reduceCtorEq] at h
    rename_i q
    obtain ⟨o, ft⟩ := q
    try simp only at h
    cases e2 : takeC cs o <;> simp only [e2, reduceCtorEq] at h
    cases e3 : dropC cs (o + T.size ft) <;> simp only [e3, reduceCtorEq] at h
    cases e4 : cellsOf b x <;> simp only [e4, reduceCtorEq] at h
    rename_i la lc l
    cases e5 : fillC T b fs (la ++ l ++ lc) r <;> simp only [e5, reduceCtorEq, Option.some.injEq, Prod.mk.injEq] at h
    rename_i q
    obtain ⟨pc, l'⟩ := q
    simp only [Option.some.injEq, Prod.mk.injEq] at h
    obtain ⟨rfl, rfl⟩ := h
    have hl := cellsOf_ok e4 hv
    obtain ⟨g1, g2⟩ := takeC_ok hc e2
    obtain ⟨g3, g4⟩ := dropC_ok hc e3
    have hn := cntC_ok hl
    rw [hp.1] at hn
    have hn' : v.cells.size = T.size ft := by simpa using hn.symm
    have g3' : o + T.size ft ≤ z.size := by simpa using g3
    have hf := fold_cells v o z (by omega)
    obtain ⟨z', h1, h2⟩ := fillC_ok hpl (z := v.cells.zipIdx.foldl (fun cs q => cs.setIfInBounds (o + q.2) q.1) z) e5 hp.2 hr (by rw [hf, hn']; exact CellsOk_app (CellsOk_app g2 hl) g4)
    refine ⟨z', ?_, h2⟩
    simp only [Instr.fill, hpl i o ft e1]
    rw [if_neg (by simp [hn']; omega)]
    exact h1

theorem intsP_ok {b : List (Nat × Nat × Blk)} {c : Lim} {k : IntKind} : ∀ {xs : List (Nat × SV)} {ps : List (Nat × Value)} {i : Nat} {l : List Int} {z : Array Value}, intsP k i xs = some l → Parts X b c σ w xs ps → i + l.length ≤ z.size →
    ∃ z', Instr.fill (fun i => some (i * 1, 1)) z ps = some z' ∧ z'.toList = z.toList.take i ++ l.map (.int k) ++ z.toList.drop (i + l.length)
  | [], ps, i, l, z, h, hps, hz => by
    simp only [intsP, Option.some.injEq] at h
    subst h
    rw [show ps = [] from hps]
    exact ⟨z, rfl, by simp⟩
  | (j, x) :: r, ps, i, l, z, h, hps, hz => by
    obtain ⟨v, ps', rfl, hv, hr⟩ := hps
    cases x <;> simp only [intsP, reduceCtorEq] at h
    rename_i k' n
    split at h <;> (try simp only [reduceCtorEq] at h)
    rename_i hj
    split at h <;> (try simp only [reduceCtorEq] at h)
    rename_i hk
    subst hj; subst hk
    cases e : intsP k' (j + 1) r <;> simp only [e, Option.map_none, Option.map_some, reduceCtorEq, Option.some.injEq] at h
    rename_i l'
    subst h
    simp only [List.length_cons] at hz
    obtain rfl : v = .int k' n := hv
    obtain ⟨z', h1, h2⟩ := intsP_ok (z := z.setIfInBounds j (.int k' n)) e hr (by simp; omega)
    refine ⟨z', ?_, ?_⟩
    · simp only [Instr.fill]
      rw [if_neg (by simp [Value.cells]; omega)]
      simpa [Value.cells] using h1
    · rw [h2]
      have hl : j < z.toList.length := by simp; omega
      obtain ⟨e1, e2⟩ := set_seg z.toList j l'.length (Value.int k' n) hl
      rw [Array.toList_setIfInBounds, e1, e2, List.length_cons, show j + (l'.length + 1) = j + 1 + l'.length by omega]
      simp

theorem mapM_places {l : List Field} (h : ∀ f ∈ l, T.size f.type ≠ 0) (TO : TabOk P T) : (l.mapM fun f => (do pure (f.offset, ← sizeOf f.type) : Sem (Nat × Nat))).run P w = .ok (l.map fun f => (f.offset, T.size f.type)) w := by
  induction l with
  | nil => rfl
  | cons f l ih =>
    have h1 := size_run (w := w) TO (h f (by simp))
    have h2 := ih (fun g hg => h g (by simp [hg]))
    simp only [List.mapM_cons, Sem.run_bind, h1, Result.andThen_ok, Sem.run_pure, h2, List.map_cons]

theorem buildV_ok (TO : TabOk P T) {b : List (Nat × Nat × Blk)} {c : Lim} {t : TypeId} {xs : List (Nat × SV)} {ps : Array (Nat × Value)} {p : Prop} {v : SV} (h : buildV T b t xs = some (p, v)) (hp : p) (hps : Parts X b c σ w xs ps.toList) :
    ∃ u, (Instr.build t ps).run P w = .ok u w ∧ V2 X b c σ w v u := by
  have ht := TO.ty t
  unfold buildV at h
  cases e : T.ty t <;> simp only [e, reduceCtorEq] at h <;> rw [e] at ht <;> simp only [tyOk] at ht
  case struct fs =>
    cases e1 : fillC T b fs (T.zero t) xs <;> simp only [e1, reduceCtorEq, Option.some.injEq, Prod.mk.injEq] at h
    rename_i q
    obtain ⟨pc, l⟩ := q
    simp only [Option.some.injEq, Prod.mk.injEq] at h
    obtain ⟨rfl, rfl⟩ := h
    obtain ⟨hs, hfs, hpc⟩ := hp
    obtain ⟨f, hf, hfl⟩ := ht
    obtain ⟨i, hi, his, hib, z, hz, hzo, _⟩ := TO.info t hs
    have hzv : (zeroValue t).run P w = .ok z w := by simp [zeroValue, typeInfo, hi, hz]
    have hall : ∀ g ∈ f.toList, T.size g.type ≠ 0 := by
      intro g hg
      rw [List.all_eq_true] at hfs
      have := hfs (g.offset, g.type) (by rw [← hfl]; exact List.mem_map.2 ⟨g, hg, rfl⟩)
      simpa using this
    have hpl : ∀ i o ft, fieldOf fs i = some (o, ft) → ((f.toList.map fun f => (f.offset, T.size f.type)).toArray[·]?) i = some (o, T.size ft) := by
      intro i o ft he
      rw [← hfl] at he
      simp only [fieldOf, List.getElem?_map] at he
      cases e3 : f.toList[i]? with
      | none => simp [e3] at he
      | some g =>
        simp only [e3, Option.map_some, Option.some.injEq, Prod.mk.injEq] at he
        obtain ⟨rfl, rfl⟩ := he
        simp only [List.getElem?_toArray, List.getElem?_map, e3, Option.map_some]
    obtain ⟨z', h1, h2⟩ := fillC_ok hpl (z := z.cells) e1 hpc hps (CellsOk_zero hzo)
    refine ⟨.agg z', ?_, z', rfl, h2⟩
    have hm := mapM_places (w := w) hall TO
    have hm2 : (f.mapM fun f => (do pure (f.offset, ← sizeOf f.type) : Sem (Nat × Nat))).run P w = .ok (f.toList.map fun f => (f.offset, T.size f.type)).toArray w := by
      obtain ⟨fl⟩ := f
      rw [List.mapM_toArray]
      simp only [map_eq_pure_bind, Sem.run_bind]
      have hm' := hm
      simp only at hm'
      rw [hm']
      rfl
    simp only [Instr.build, Sem.run_bind, hzv, Result.andThen_ok, run_underlying hf, hm2, h1, Sem.run_pure]
  case array m el =>
    cases e1 : T.ty el <;> simp only [e1, reduceCtorEq] at h
    rename_i k
    cases e2 : T.zero t with
    | nil => simp [e2] at h
    | cons y ys =>
      cases y <;> simp only [e2, reduceCtorEq] at h
      cases ys <;> simp only [reduceCtorEq] at h
      rename_i k' m' l0
      have main : T.size t ≠ 0 → T.size el = 1 → ∃ z, (zeroValue t).run P w = .ok z w ∧ z.cells.toList = l0.map (.int k') ∧ l0.length = m' ∧ (sizeOf el).run P w = .ok 1 w := by
        intro hs hs1
        obtain ⟨i, hi, his, hib, z, hz, hzo, _⟩ := TO.info t hs
        rw [e2] at hzo
        obtain ⟨h1, cs', h2, h3⟩ := hzo
        refine ⟨z, by simp [zeroValue, typeInfo, hi, hz], by rw [h2, show cs' = [] from h3]; simp, h1, ?_⟩
        have := size_run (w := w) TO (t := el) (by omega)
        rwa [hs1] at this
      cases xs with
      | nil =>
        simp only [Option.some.injEq, Prod.mk.injEq] at h
        obtain ⟨rfl, rfl⟩ := h
        obtain ⟨z, h1, h2, h3, h4⟩ := main hp.1 hp.2
        have hps' : ps.toList = [] := hps
        refine ⟨.agg z.cells, ?_, ?_⟩
        · simp only [Instr.build, Sem.run_bind, h1, Result.andThen_ok, run_underlying ht, h4, hps', Instr.fill, Sem.run_pure]
        · refine ⟨?_, h3⟩
          rw [← h2, Array.toArray_toList]
      | cons x r =>
        simp only at h
        cases e3 : intsP k 0 (x :: r) <;> simp only [e3, reduceCtorEq, Option.some.injEq, Prod.mk.injEq] at h
        rename_i l
        obtain ⟨rfl, rfl⟩ := h
        obtain ⟨hs, hs1, hl, rfl⟩ := hp
        obtain ⟨z, h1, h2, h3, h4⟩ := main hs hs1
        have hzs : z.cells.size = m' := by rw [← Array.length_toList, h2, List.length_map, h3]
        obtain ⟨z', h5, h6⟩ := intsP_ok (z := z.cells) e3 hps (by omega)
        refine ⟨.agg z', ?_, ?_⟩
        · simp only [Instr.build, Sem.run_bind, h1, Result.andThen_ok, run_underlying ht, h4, h5, Sem.run_pure]
        · refine ⟨?_, hl⟩
          have : z'.toList = l.map (.int k') := by
            rw [h6, List.take_zero, List.nil_append, Nat.zero_add, List.drop_of_length_le (by rw [Array.length_toList]; omega), List.append_nil]
          rw [← this, Array.toArray_toList]

theorem arrPV_ok (TO : TabOk P T) {b : List (Nat × Nat × Blk)} {c : Lim} {t : TypeId} {x : SV} {x' : Value} {p : Prop} {v : SV} (h : arrPV T b t x = some (p, v)) (hp : p) (hx : V2 X b c σ w x x') :
    ∃ u, (Instr.arrayAt t x').run P w = .ok u w ∧ V2 X b c σ w v u := by
  have ht := TO.ty t
  cases x <;> simp only [arrPV, reduceCtorEq] at h
  case view tag d =>
    cases e : T.ty t <;> simp only [e, reduceCtorEq, Option.some.injEq, Prod.mk.injEq] at h <;> rw [e] at ht <;> simp only [tyOk] at ht
    obtain ⟨rfl, rfl⟩ := h
    obtain ⟨a, cap, rfl, h1, h2⟩ := hx
    obtain ⟨B, o, rfl, hv, hh⟩ := h2 (by omega)
    refine ⟨.pointer (some ⟨B, o, none⟩), ?_, by omega, B, o, by simp, hv, hh⟩
    simp only [Instr.arrayAt, Sem.run_bind, run_underlying ht, Result.andThen_ok]
    rw [if_neg (by omega)]
    rfl
  case sl n g seg e' off len =>
    cases e : T.ty t <;> simp only [e, reduceCtorEq] at h <;> rw [e] at ht <;> simp only [tyOk] at ht
    cases eb : blkAt b n g <;> simp only [eb, reduceCtorEq, Option.some.injEq, Prod.mk.injEq] at h
    obtain ⟨rfl, rfl⟩ := h
    obtain ⟨hc, hl⟩ := hx
    obtain ⟨a, cap, rfl, h1, h2⟩ := hl (blkAt_live eb)
    obtain ⟨B, hB, rfl, _⟩ := h2 (by omega)
    refine ⟨.pointer (some ⟨B, seg + off * e', none⟩), ?_, by omega, hc, fun _ => ⟨B, hB, rfl⟩⟩
    simp only [Instr.arrayAt, Sem.run_bind, run_underlying ht, Result.andThen_ok]
    rw [if_neg (by omega)]
    rfl

theorem fieldV_ok (TO : TabOk P T) {b : List (Nat × Nat × Blk)} {c : Lim} {t : TypeId} {f : Nat} {x : SV} {x' : Value} {p : Prop} {v : SV} (h : fieldV T t f x = some (p, v)) (hp : p) (hx : V2 X b c σ w x x') :
    ∃ u, (Instr.field t x' f).run P w = .ok u w ∧ V2 X b c σ w v u := by
  cases x <;> simp only [fieldV, reduceCtorEq] at h
  rename_i l
  obtain ⟨cs, rfl, hcells⟩ := hx
  have ht := TO.ty t
  cases e : T.ty t <;> simp only [e, reduceCtorEq] at h
  rename_i fs
  rw [e] at ht; simp only [tyOk] at ht
  obtain ⟨fl, hf, hfl⟩ := ht
  cases e1 : fieldOf fs f <;> simp only [e1, reduceCtorEq] at h
  rename_i q
  obtain ⟨o, ft⟩ := q
  simp only at h
  rw [← hfl] at e1
  simp only [fieldOf, List.getElem?_map] at e1
  cases e3 : fl.toList[f]? with
  | none => simp [e3] at e1
  | some g =>
    simp only [e3, Option.map_some, Option.some.injEq, Prod.mk.injEq] at e1
    obtain ⟨rfl, rfl⟩ := e1
    have e3' : fl[f]? = some g := by simpa using e3
    have part : ∀ (u : Value), (Go.part g.type cs g.offset).run P w = .ok u w → (Instr.field t (.agg cs) f).run P w = .ok u w := by
      intro u hu
      simp [Instr.field, run_underlying hf, e3', asAgg, hu]
    have ext : ∀ n, cs.extract g.offset (g.offset + n) = ((cs.toList.drop g.offset).take n).toArray := by
      intro n
      apply Array.ext'
      simp [List.extract_eq_take_drop]
    have oneCase : one (T.ty g.type) = true → (∀ y, cellAt l g.offset = some y → some (T.size g.type = 1, y) = some (p, v) → ∃ u, (Instr.field t (.agg cs) f).run P w = .ok u w ∧ V2 X b c σ w v u) := by
      intro h1 y hy e
      simp only [Option.some.injEq, Prod.mk.injEq] at e
      obtain ⟨_, rfl⟩ := e
      obtain ⟨u, hu, hv⟩ := cellAt_ok hcells hy
      have hu' : cs[g.offset]? = some u := by simpa using hu
      refine ⟨u, part u ?_, V2_of_V1 (V1_of_V0 hv)⟩
      simp only [Go.part, Sem.run_bind, isAgg_one TO h1, Result.andThen_ok, Bool.false_eq_true, if_false, hu', Sem.run_pure]
    cases e4 : T.ty g.type <;> simp only [e4] at h
    case struct fs2 =>
      cases ed : (dropC l g.offset).bind (takeC · (T.size g.type)) <;> simp only [ed, reduceCtorEq, Option.some.injEq, Prod.mk.injEq] at h
      rename_i m
      obtain ⟨rfl, rfl⟩ := h
      cases ed2 : dropC l g.offset <;> simp only [ed2, Option.bind_none, Option.bind_some, reduceCtorEq] at ed
      obtain ⟨g1, g2⟩ := dropC_ok hcells ed2
      obtain ⟨g3, g4⟩ := takeC_ok g2 ed
      refine ⟨_, part (.agg ((cs.toList.drop g.offset).take (T.size g.type)).toArray) ?_, _, rfl, by simpa using g4⟩
      simp [Go.part, isAgg_struct TO e4, size_run TO hp, ext]
    case array m el =>
      cases ea : arrAt l g.offset <;> simp only [ea, reduceCtorEq, Option.some.injEq, Prod.mk.injEq] at h
      rename_i q
      obtain ⟨k, m', l'⟩ := q
      simp only [Option.some.injEq, Prod.mk.injEq] at h
      obtain ⟨rfl, rfl⟩ := h
      obtain ⟨rfl, hs, hm0⟩ := hp
      obtain ⟨g1, g2, g3⟩ := arrAt_len hcells ea
      have hseg : (cs.toList.drop g.offset).take m' = l'.map (.int k) := by
        apply List.ext_getElem?
        intro j
        rw [List.getElem?_take]
        split
        · rename_i hj
          rw [List.getElem?_drop, g3 j hj, List.getElem?_map, List.getElem?_eq_getElem (by omega)]
          simp [List.getD, show j < l'.length by omega]
        · rw [List.getElem?_eq_none (by simp; omega)]
      refine ⟨_, part (.agg (l'.map (.int k)).toArray) ?_, rfl, g2⟩
      simp [Go.part, isAgg_array TO e4, size_run TO (t := g.type) (by omega), hs, ext, hseg]
    case other => simp at h
    all_goals
      cases ec : cellAt l g.offset <;> simp only [ec, reduceCtorEq] at h
      exact oneCase (by rw [e4]; rfl) _ ec h

theorem lenV_ok (TO : TabOk P T) {t ty : TypeId} {x : SV} {x' : Value} {p : Prop} {v : SV} (h : lenV T b t x = some (p, v)) (hx : V2 X b c σ w x x') :
    ∃ u, (Builtin.len_ #[t] ty #[x']).run P w = .ok u w ∧ V2 X b c σ w v u := by
  have ht := TO.ty t
  cases x <;> simp only [lenV, reduceCtorEq] at h
  case sl n g seg e off len =>
    cases e2 : T.ty t <;> rw [e2] at ht <;> simp only [e2, reduceCtorEq, tyOk] at h ht
    cases eb : blkAt b n g <;> simp only [eb, reduceCtorEq, Option.some.injEq, Prod.mk.injEq] at h
    obtain ⟨rfl, rfl⟩ := h
    obtain ⟨hc, hlv⟩ := hx
    obtain ⟨ad, cap, rfl, hlc, hv⟩ := hlv (blkAt_live eb)
    exact ⟨_, by simp [Builtin.len_, run_underlying ht]; rfl, rfl⟩
  case view tag d =>
    cases e2 : T.ty t <;> rw [e2] at ht <;> simp only [e2, reduceCtorEq, tyOk, Option.some.injEq, Prod.mk.injEq] at h ht
    obtain ⟨rfl, rfl⟩ := h
    obtain ⟨ad, cap, rfl, hlc, hv⟩ := hx
    exact ⟨_, by simp [Builtin.len_, run_underlying ht]; rfl, rfl⟩
  case nil =>
    cases e2 : T.ty t <;> rw [e2] at ht <;> simp only [e2, reduceCtorEq, tyOk, Option.some.injEq, Prod.mk.injEq] at h ht
    obtain ⟨rfl, rfl⟩ := h
    obtain rfl : x' = .slice none 0 0 := hx
    exact ⟨_, by simp [Builtin.len_, run_underlying ht]; rfl, rfl⟩
  case str s =>
    cases e2 : T.ty t <;> rw [e2] at ht <;> simp only [e2, reduceCtorEq, tyOk, Option.some.injEq, Prod.mk.injEq] at h ht
    obtain ⟨rfl, rfl⟩ := h
    obtain rfl : x' = .string s := hx
    exact ⟨_, by simp [Builtin.len_, run_underlying ht]; rfl, rfl⟩

theorem eq1_ok (TO : TabOk P T) (d : Nat) {l m : List SV} {xs ys : Array Value} {o : Nat} {ft : TypeId} {p : Prop} {r : Bool} (h : eq1 T l m o ft = some (p, r)) (hp : p)
    (hx : CellsOk X b c σ w l xs.toList) (hy : CellsOk X b c σ w m ys.toList) :
    ∃ x y, (part ft xs o).run P w = .ok x w ∧ (part ft ys o).run P w = .ok y w ∧ (Op.equalIn (d + 2) ft x y).run P w = .ok r w := by
  have ht := TO.ty ft
  have one1 : one (T.ty ft) = true → ∀ (q : List SV) (zs : Array Value) (v : SV), CellsOk X b c σ w q zs.toList → cellAt q o = some v → ∃ u, (part ft zs o).run P w = .ok u w ∧ V0 X b c σ w v u := by
    intro h1 q zs v hq hv
    obtain ⟨u, hu, hV⟩ := cellAt_ok hq hv
    have hu' : zs[o]? = some u := by simpa using hu
    exact ⟨u, by simp [part, isAgg_one TO h1, hu'], hV⟩
  unfold eq1 at h
  cases e : T.ty ft <;> simp only [e, reduceCtorEq] at h
  case int k0 =>
    cases e1 : cellAt l o <;> simp only [e1, reduceCtorEq] at h
    rename_i x1
    cases x1 <;> (try simp only [reduceCtorEq] at h)
    cases e2 : cellAt m o <;> simp only [e2, reduceCtorEq] at h
    rename_i x2
    cases x2 <;> simp only [reduceCtorEq, Option.some.injEq, Prod.mk.injEq] at h
    obtain ⟨rfl, rfl⟩ := h
    subst hp
    obtain ⟨u1, h1, hv1⟩ := one1 (by rw [e]; rfl) _ _ _ hx e1
    obtain ⟨u2, h2, hv2⟩ := one1 (by rw [e]; rfl) _ _ _ hy e2
    rw [e] at ht; simp only [tyOk] at ht
    refine ⟨u1, u2, h1, h2, ?_⟩
    rw [show u1 = _ from hv1, show u2 = _ from hv2]
    exact run_equalIn_int w (d + 1) ft _ _ _ _ ht
  case bool =>
    cases e1 : cellAt l o <;> simp only [e1, reduceCtorEq] at h
    rename_i x1
    cases x1 <;> (try simp only [reduceCtorEq] at h)
    cases e2 : cellAt m o <;> simp only [e2, reduceCtorEq] at h
    rename_i x2
    cases x2 <;> simp only [reduceCtorEq, Option.some.injEq, Prod.mk.injEq] at h
    obtain ⟨rfl, rfl⟩ := h
    obtain ⟨u1, h1, hv1⟩ := one1 (by rw [e]; rfl) _ _ _ hx e1
    obtain ⟨u2, h2, hv2⟩ := one1 (by rw [e]; rfl) _ _ _ hy e2
    rw [e] at ht; simp only [tyOk] at ht
    refine ⟨u1, u2, h1, h2, ?_⟩
    rw [show u1 = _ from hv1, show u2 = _ from hv2]
    exact run_equalIn_bool' w (d + 1) ft _ _ ht
  case string =>
    cases e1 : cellAt l o <;> simp only [e1, reduceCtorEq] at h
    rename_i x1
    cases x1 <;> (try simp only [reduceCtorEq] at h)
    cases e2 : cellAt m o <;> simp only [e2, reduceCtorEq] at h
    rename_i x2
    cases x2 <;> simp only [reduceCtorEq, Option.some.injEq, Prod.mk.injEq] at h
    obtain ⟨rfl, rfl⟩ := h
    obtain ⟨u1, h1, hv1⟩ := one1 (by rw [e]; rfl) _ _ _ hx e1
    obtain ⟨u2, h2, hv2⟩ := one1 (by rw [e]; rfl) _ _ _ hy e2
    rw [e] at ht; simp only [tyOk] at ht
    refine ⟨u1, u2, h1, h2, ?_⟩
    rw [show u1 = _ from hv1, show u2 = _ from hv2]
    exact run_equalIn_string w (d + 1) ft _ _ ht
  case array n el =>
    cases e1 : arrAt l o <;> simp only [e1, reduceCtorEq] at h
    rename_i q1
    obtain ⟨k, n1, a1⟩ := q1
    try simp only at h
    cases e2 : arrAt m o <;> simp only [e2, reduceCtorEq, Option.some.injEq, Prod.mk.injEq] at h
    rename_i q2
    obtain ⟨k', n2, a2⟩ := q2
    simp only [Option.some.injEq, Prod.mk.injEq] at h
    obtain ⟨rfl, rfl⟩ := h
    obtain ⟨rfl, rfl, rfl, hA, hs, h0⟩ := hp
    have hag := isAgg_array (w := w) TO e
    have hsz := size_run (w := w) TO (t := ft) (by omega)
    have key : ∀ (q : List SV) (zs : Array Value) (a : List Int), CellsOk X b c σ w q zs.toList → arrAt q o = some (k, n2, a) → (part ft zs o).run P w = .ok (.agg (a.map (Value.int k)).toArray) w ∧ a.length = n2 := by
      intro q zs a hq ha
      obtain ⟨g1, g2, g3⟩ := arrAt_len hq ha
      refine ⟨?_, g2⟩
      have : zs.extract o (o + n2) = (a.map (Value.int k)).toArray := by
        apply Array.ext'
        rw [Array.toList_extract]
        simp only [List.extract_eq_take_drop]
        apply List.ext_getElem?
        intro i
        rw [List.getElem?_take, show o + n2 - o = n2 by omega]
        by_cases hi : i < n2
        · rw [if_pos hi, List.getElem?_drop, g3 i hi]
          simp [List.getD, show i < a.length by omega]
        · rw [if_neg hi, List.getElem?_eq_none (by simp; omega)]
      simp only [part, Sem.run_bind, hag, Result.andThen_ok, if_true, hsz, hs, Sem.run_pure, this]
    obtain ⟨h1, l1⟩ := key _ _ _ hx e1
    obtain ⟨h2, l2⟩ := key _ _ _ hy e2
    exact ⟨_, _, h1, h2, run_equalIn_arr TO d (by rw [e]; exact hA) _ _ l1 l2⟩

theorem eqF_ok (TO : TabOk P T) (d : Nat) {l m : List SV} {xs ys : Array Value} (hx : CellsOk X b c σ w l xs.toList) (hy : CellsOk X b c σ w m ys.toList) : ∀ {fl : List Field} {p : Prop} {r : Bool}, (∀ f ∈ fl, f.name ≠ "_") →
    eqF T l m (fl.map fun x => (x.offset, x.type)) = some (p, r) → p → (Op.eqFields (d + 2) xs ys fl).run P w = .ok r w
  | [], p, r, _, h, _ => by
    simp only [List.map_nil, eqF, Option.some.injEq, Prod.mk.injEq] at h
    rw [← h.2]; simp [Op.eqFields]
  | f :: fl, p, r, hn, h, hp => by
    simp only [List.map_cons, eqF] at h
    cases e1 : eq1 T l m f.offset f.type <;> simp only [e1, reduceCtorEq] at h
    rename_i q1
    obtain ⟨p1, r1⟩ := q1
    try simp only at h
    cases e2 : eqF T l m (fl.map fun x => (x.offset, x.type)) <;> simp only [e2, reduceCtorEq, Option.some.injEq, Prod.mk.injEq] at h
    rename_i q2
    obtain ⟨p2, r2⟩ := q2
    simp only [Option.some.injEq, Prod.mk.injEq] at h
    obtain ⟨rfl, rfl⟩ := h
    obtain ⟨x, y, h1, h2, h3⟩ := eq1_ok TO d e1 hp.1 hx hy
    have h4 := eqF_ok TO d hx hy (fl := fl) (fun g hg => hn g (by simp [hg])) e2 hp.2
    simp only [Op.eqFields, if_pos (hn f (by simp)), Sem.run_bind, h1, h2, h3, Result.andThen_ok]
    cases r1
    · simp
    · simpa using h4

theorem binV_ok (TO : TabOk P T) {op : BinOp} {t : TypeId} {x y : SV} {x' y' : Value} {X' Y' : Operand} {p : Prop} {v : SV} (h : binV T op t x y = some (p, v)) (hp : p)
    (hx : V2 X b c σ w x x') (hy : V2 X b c σ w y y') :
    ∃ u, (do eqGuard op t X' Y' x' y'; binOp op t x' y' : Sem Value).run P w = .ok u w ∧ V2 X b c σ w v u := by
  cases x <;> cases y <;> simp only [binV, reduceCtorEq] at h
  case int.int k n k' n' =>
    obtain rfl : x' = .int k n := hx
    obtain rfl : y' = .int k' n' := hy
    obtain ⟨u, hu, hv⟩ := binI_ok (P := P) (w := w) (X := X) (b := b) (c := c) (σ := σ) (t := t) h hp
    exact ⟨u, by simp [run_eqGuard_int, hu], hv⟩
  case str.str s s' =>
    obtain rfl : x' = .string s := hx
    obtain rfl : y' = .string s' := hy
    cases op <;> simp only [binS, reduceCtorEq, Option.some.injEq, Prod.mk.injEq] at h
    all_goals
      obtain ⟨rfl, rfl⟩ := h
      exact ⟨_, by simp [run_eqGuard_str, binOp, Op.stringOp], rfl⟩
  case bool.bool s s' =>
    obtain rfl : x' = .bool s := hx
    obtain rfl : y' = .bool s' := hy
    cases op <;> simp only [reduceCtorEq, Option.some.injEq, Prod.mk.injEq] at h
    all_goals
      obtain ⟨rfl, rfl⟩ := h
      have ht := TO.ty t
      rw [isB_eq hp] at ht; simp only [tyOk] at ht
      exact ⟨_, by simp [run_eqGuard_bool, binOp, Op.equal, Op.maxDepth, run_equalIn_bool' w 9999 t s s' ht], rfl⟩
  case arr.arr k n l k' n' l' =>
    obtain ⟨rfl, hl⟩ := (hx : _ ∧ _)
    obtain ⟨rfl, hl'⟩ := (hy : _ ∧ _)
    cases op <;> simp only [reduceCtorEq, Option.some.injEq, Prod.mk.injEq] at h
    all_goals
      obtain ⟨rfl, rfl⟩ := h
      obtain ⟨rfl, rfl, hA⟩ := hp
      exact ⟨_, by simp [eqGuard_arr TO hA, binOp, run_equal_arr TO hA l l' hl hl'], rfl⟩
  case agg.agg l m =>
    obtain ⟨xs, rfl, h1⟩ := hx
    obtain ⟨ys, rfl, h2⟩ := hy
    cases et : T.ty t <;> simp only [et, reduceCtorEq] at h
    rename_i fs
    have ht := TO.ty t
    rw [et] at ht; simp only [tyOk] at ht
    obtain ⟨fl, hfl, hm⟩ := ht
    have hfo : P.fieldsOf t = fl := by unfold Program.fieldsOf; rw [hfl]
    cases e1 : eqF T l m fs <;> simp only [e1, reduceCtorEq] at h
    rename_i q
    obtain ⟨p1, r⟩ := q
    cases op <;> simp only [reduceCtorEq, Option.some.injEq, Prod.mk.injEq] at h
    all_goals
      obtain ⟨rfl, rfl⟩ := h
      obtain ⟨g1, g2, g3⟩ := TO.eq t hp.1
      rw [← hm] at e1
      have hrun := eqF_ok TO 9997 h1 h2 (fl := fl.toList) (by rw [← hfo]; exact g3) e1 hp.2
      have hEq : (Op.equalIn 10000 t (.agg xs) (.agg ys)).run P w = .ok r w := by
        rw [run_equalIn_struct w 9999 t xs ys (by rw [hfo]; exact hfl) g1, hfo]
        exact hrun
      exact ⟨_, by simp [run_eqGuard_agg w _ t X' Y' xs ys g2, run_eql_struct, run_neq_struct, hEq], rfl⟩

theorem pureOp_ok (TO : TabOk P T) {s : St} {a : Act} (hR : R X s σ w a) {ρ : Operand → SV} {o : Oper} {p : Prop} {v : SV}
    (hρ : ∀ x, x ∈ o.op.operands.toList → V2 X s.b s.c σ w (ρ x) (a.eval x)) (h : pureOp T s ρ o.op = some (p, v)) (hp : p) :
    ∃ u, (execOp a.eval o).run P w = .ok (.value u) w ∧ V2 X s.b s.c σ w v u := by
  have hbl : ∀ n g y, fnd s.b n = some (g, y) → BlkOk X s.b s.c σ w n y := fun n g y hy => (hR.bl n g y hy).2.1
  cases ho : o.op <;> rw [ho] at h hρ <;> simp only [pureOp, reduceCtorEq] at h
  case move x =>
    simp only [Option.some.injEq, Prod.mk.injEq] at h
    obtain ⟨rfl, rfl⟩ := h
    exact ⟨a.eval x, by simp [execOp, ho], hρ x (by simp [Op.operands])⟩
  case assign x =>
    simp only [Option.some.injEq, Prod.mk.injEq] at h
    obtain ⟨rfl, rfl⟩ := h
    exact ⟨a.eval x, by simp [execOp, ho], hρ x (by simp [Op.operands])⟩
  case load t x =>
    obtain ⟨u, hu, hv⟩ := loadV_ok TO h hp (hρ x (by simp [Op.operands])) hbl (gl_here hR)
    exact ⟨u, by simp [execOp, ho, hu], hv⟩
  case build t parts =>
    have hP : ∀ (ps : List (Nat × Operand)), (∀ q ∈ ps, V2 X s.b s.c σ w (ρ q.2) (a.eval q.2)) → Parts X s.b s.c σ w (ps.map fun q => (q.1, ρ q.2)) (ps.map fun q => (q.1, a.eval q.2)) := by
      intro ps
      induction ps with
      | nil => intro _; exact rfl
      | cons q ps ih => intro hq; exact ⟨_, _, rfl, hq q (by simp), ih (fun q' h' => hq q' (by simp [h']))⟩
    obtain ⟨u, hu, hv⟩ := buildV_ok (ps := parts.map fun q => (q.1, a.eval q.2)) TO h hp (by
      rw [Array.toList_map]
      refine hP _ (fun q hq => hρ q.2 ?_)
      simp only [Op.operands, List.mem_map]
      exact ⟨q, hq, rfl⟩)
    exact ⟨u, by simp [execOp, ho, hu], hv⟩
  case sliceToArrayPointer t x =>
    obtain ⟨u, hu, hv⟩ := arrPV_ok TO h hp (hρ x (by simp [Op.operands]))
    exact ⟨u, by simp [execOp, ho, hu], hv⟩
  case field t x f =>
    obtain ⟨u, hu, hv⟩ := fieldV_ok TO h hp (hρ x (by simp [Op.operands]))
    exact ⟨u, by simp [execOp, ho, hu], hv⟩
  case makeFunc f first cap =>
    cases e1 : ((first.toList.map ρ).all flatB && (cap.toList.map ρ).all flatB) <;> simp only [e1, reduceCtorEq, Option.some.injEq, Prod.mk.injEq] at h
    obtain ⟨rfl, rfl⟩ := h
    simp only [Bool.and_eq_true] at e1
    have key : ∀ (q : List Operand), (∀ z ∈ q, V2 X s.b s.c σ w (ρ z) (a.eval z)) → (q.map ρ).all flatB = true → All1 X s.b s.c σ w (q.map ρ) (q.map a.eval) := by
      intro q
      induction q with
      | nil => intro _ _; rfl
      | cons z q ih =>
        intro hz hf
        simp only [List.map_cons, List.all_cons, Bool.and_eq_true] at hf
        have h1 := hz z (by simp)
        refine ⟨_, _, rfl, ?_, ih (fun y hy => hz y (by simp [hy])) hf.2⟩
        revert h1
        cases e : ρ z <;> intro h1 <;> first | exact h1 | (rw [e] at hf; simp [flatB] at hf)
    refine ⟨.func f (first.map a.eval) (cap.map a.eval), by simp [execOp, ho, Instr.makeFunc], ?_⟩
    refine ⟨_, _, rfl, ?_, ?_⟩
    · rw [Array.toList_map]; exact key _ (fun z hz => hρ z (by simp [Op.operands]; exact .inl (by simpa using hz))) e1.1
    · rw [Array.toList_map]; exact key _ (fun z hz => hρ z (by simp [Op.operands]; exact .inr (by simpa using hz))) e1.2
  case nilCheck x =>
    have hx := hρ x (by simp [Op.operands])
    cases e : ρ x <;> simp only [e, reduceCtorEq] at h
    rename_i n g off
    cases eb : blkAt s.b n g <;> simp only [eb, reduceCtorEq, Option.some.injEq, Prod.mk.injEq] at h
    obtain ⟨rfl, rfl⟩ := h
    rw [e] at hx
    obtain ⟨hc, hl⟩ := hx
    obtain ⟨B, hB, e2⟩ := hl (blkAt_live eb)
    exact ⟨.pointer (some ⟨B, off, none⟩), by simp [execOp, ho, e2], hc, fun _ => ⟨B, hB, rfl⟩⟩
  case binOp op t x y yt =>
    have hu0 : ∃ u, (do eqGuard op t x y (a.eval x) (a.eval y); binOp op t (a.eval x) (a.eval y) : Sem Value).run P w = .ok u w ∧ V2 X s.b s.c σ w v u := by
      cases e0 : ptrE T s.b op t (ρ x) (ρ y) with
      | some r =>
        simp only [e0, Option.some.injEq] at h
        subst h
        exact ptrE_ok (X' := x) (Y' := y) TO e0 hp (hρ x (by simp [Op.operands])) (hρ y (by simp [Op.operands]))
      | none =>
        simp only [e0] at h
        exact binV_ok (X' := x) (Y' := y) TO h hp (hρ x (by simp [Op.operands])) (hρ y (by simp [Op.operands]))
    obtain ⟨u, hu, hv⟩ := hu0
    simp only [Sem.run_bind] at hu
    refine ⟨u, ?_, hv⟩
    cases hg : Sem.run P (eqGuard op t x y (a.eval x) (a.eval y)) w with
    | halt q w1 => rw [hg] at hu; simp [Result.andThen] at hu
    | ok q w1 =>
      rw [hg] at hu
      simp only [Result.andThen_ok] at hu
      simp [execOp, ho, hg, hu]
  case unOp op t x =>
    obtain ⟨u, hu, hv⟩ := unV_ok (P := P) (w := w) h (hρ x (by simp [Op.operands]))
    exact ⟨u, by simp [execOp, ho, hu], hv⟩
  case convert src dst x =>
    cases e : convV T dst (ρ x) <;> simp only [e, reduceCtorEq] at h
    rename_i q
    obtain ⟨p', v'⟩ := q
    simp only [Option.some.injEq, Prod.mk.injEq] at h
    obtain ⟨rfl, rfl⟩ := h
    obtain ⟨u, hu, hv⟩ := convV_ok TO e (hρ x (by simp [Op.operands])) hp.1
    exact ⟨u, by simp [execOp, ho, hu], hv⟩
  case slice t x lo hi mx =>
    have opt : ∀ y : Option Operand, (∀ z, y = some z → V2 X s.b s.c σ w (ρ z) (a.eval z)) → OptOk X s.b s.c σ w (y.map ρ) (y.map a.eval) := by
      intro y hy
      constructor
      · intro z hz
        cases y with
        | none => simp at hz
        | some q => simp only [Option.map_some, Option.some.injEq] at hz; subst hz; exact ⟨_, rfl, hy q rfl⟩
      · intro hz
        cases y with
        | none => rfl
        | some q => simp at hz
    obtain ⟨u, hu, hv⟩ := sliceV_ok TO h hp (hρ x (by simp [Op.operands])) (opt lo (fun z hz => hρ z (by simp [Op.operands, hz]))) (opt hi (fun z hz => hρ z (by simp [Op.operands, hz]))) (opt mx (fun z hz => hρ z (by simp [Op.operands, hz]))) hbl
    exact ⟨u, by simp [execOp, ho, hu], hv⟩
  case fieldAddr t x f =>
    obtain ⟨u, hu, hv⟩ := faddrV_ok TO h hp (hρ x (by simp [Op.operands]))
    exact ⟨u, by simp [execOp, ho, hu], hv⟩
  case indexAddr t x i =>
    obtain ⟨u, hu, hv⟩ := iaddrV_ok TO h hp (hρ x (by simp [Op.operands])) (hρ i (by simp [Op.operands]))
    exact ⟨u, by simp [execOp, ho, hu], hv⟩
  case index t x i =>
    obtain ⟨u, hu, hv⟩ := indexV_ok TO h hp (hρ x (by simp [Op.operands])) (hρ i (by simp [Op.operands]))
    exact ⟨u, by simp [execOp, ho, hu], hv⟩
  case extract x i =>
    obtain ⟨u, hu, hv⟩ := extractV_ok (P := P) (w := w) h (hρ x (by simp [Op.operands]))
    exact ⟨u, by simp [execOp, ho, hu], hv⟩
  case call cl =>
    obtain ⟨callee, arz, ts⟩ := cl
    cases callee <;> try (simp only [reduceCtorEq] at h; done)
    rename_i bi
    cases bi <;> try (simp only [reduceCtorEq] at h; done)
    obtain ⟨arz⟩ := arz
    obtain ⟨ts⟩ := ts
    match arz, ts, h, hρ, ho with
    | [x], [t], h, hρ, ho =>
      obtain ⟨u, hu, hv⟩ := lenV_ok (ty := o.type) TO h (hρ x (by simp [Op.operands, Call.operands]))
      refine ⟨u, ?_, hv⟩
      simp only [execOp, ho, resolve]
      simp [invoke, builtin, hu]
    | [], _, h, _, _ => simp at h
    | _ :: _ :: _, _, h, _, _ => simp at h
    | [_], [], h, _, _ => simp at h
    | [_], _ :: _ :: _, h, _, _ => simp at h

theorem sliceC_ok (TO : TabOk P T) {t : TypeId} {n g e len cap : Nat} {hi : Option SV} {x' : Value} {hi' : Option Value} {p : Prop} {v : SV} (h : sliceC T b t n g e len cap none hi none = some (p, v)) (hp : p)
    (hx : V2 X b c σ w (.slc n g e len cap) x') (e2 : OptOk X b c σ w hi hi') : ∃ u, (Instr.sliceAt t x' none hi' none).run P w = .ok u w ∧ V2 X b c σ w v u := by
  have ht := TO.ty t
  unfold sliceC at h
  cases et : T.ty t <;> simp only [et, reduceCtorEq] at h
  rename_i el
  rw [et] at ht; simp only [tyOk] at ht
  simp only [lowI] at h
  cases eh1 : highI len hi <;> simp only [eh1, reduceCtorEq] at h
  cases eb : blkAt b n g <;> simp only [eb, reduceCtorEq, Option.some.injEq, Prod.mk.injEq] at h
  rename_i hh _
  obtain ⟨rfl, rfl⟩ := h
  obtain ⟨hne, hsz0, _, h1, h2⟩ := hp
  obtain ⟨hc, hl⟩ := hx
  obtain ⟨a, rfl, hlc, hv⟩ := hl (blkAt_live eb)
  have hH : (hi' = none ∧ hh = len) ∨ ∃ k, hi' = some (.int k hh) := by
    cases hi with
    | none => simp only [highI, Option.some.injEq] at eh1; exact .inl ⟨e2.2 rfl, eh1.symm⟩
    | some x =>
      obtain ⟨u, hu', hu⟩ := e2.1 x rfl
      cases x <;> simp only [highI, reduceCtorEq, Option.some.injEq] at eh1
      rename_i k i
      subst eh1
      exact .inr ⟨k, by rw [hu', show u = .int k i from hu]⟩
  have hr : (Instr.sliceBounds true len cap none hi' none).run P w = .ok (0, hh.toNat, cap) w := by
    rcases hH with ⟨rfl, rfl⟩ | ⟨k, rfl⟩
    · simp [Instr.sliceBounds]
    · have rh : ∀ (code : BoundsCode), (Instr.sliceBound (.int k hh) cap code).run P w = .ok hh.toNat w := fun code => run_sliceBound w k hh cap code (by omega) (by omega)
      simp [Instr.sliceBounds, rh]
  have hsz := size_run (w := w) TO hne
  refine ⟨.slice (if cap = 0 then a else a.map (·.add (0 * T.size el))) (hh.toNat - 0) (cap - 0), ?_, hc, fun _ => ?_⟩
  · simp [Instr.sliceAt, Instr.slice, run_underlying ht, hr, hsz]
  · refine ⟨a, ?_, by omega, hv⟩
    have e0 : ∀ q : Addr, q.add (0 * T.size el) = q := fun q => by simp [Addr.add]
    have e1 : a.map (·.add (0 * T.size el)) = a := by
      cases a with
      | none => rfl
      | some q => rw [Option.map_some, e0]
    rw [e1]
    simp

theorem pureOpC_ok (TO : TabOk P T) {s : St} {a : Act} (hR : R X s σ w a) {ρ : Operand → SV} {o : Oper} {p : Prop} {v : SV}
    (hρ : ∀ x, x ∈ o.op.operands.toList → V2 X s.b s.c σ w (ρ x) (a.eval x)) (h : pureOpC T s ρ o.op = some (p, v)) (hp : p) :
    ∃ u, (execOp a.eval o).run P w = .ok (.value u) w ∧ V2 X s.b s.c σ w v u := by
  have old : pureOp T s (fun x => unc (ρ x)) o.op = some (p, v) → ∃ u, (execOp a.eval o).run P w = .ok (.value u) w ∧ V2 X s.b s.c σ w v u := fun h' => pureOp_ok TO hR (fun x hx => V2_unc (hρ x hx)) h' hp
  cases ho : o.op <;> (try (rw [ho] at h old; simp only [pureOpC] at h; exact old h))
  case move x =>
    rw [ho] at h hρ
    simp only [pureOpC, Option.some.injEq, Prod.mk.injEq] at h
    obtain ⟨rfl, rfl⟩ := h
    exact ⟨a.eval x, by simp [execOp, ho], hρ x (by simp [Op.operands])⟩
  case assign x =>
    rw [ho] at h hρ
    simp only [pureOpC, Option.some.injEq, Prod.mk.injEq] at h
    obtain ⟨rfl, rfl⟩ := h
    exact ⟨a.eval x, by simp [execOp, ho], hρ x (by simp [Op.operands])⟩
  case slice t x lo hi mx =>
    rw [ho] at h old hρ
    simp only [pureOpC] at h
    cases e : ρ x <;> simp only [e] at h <;> try exact old h
    rename_i n g es len cap
    cases lo with
    | some y => exact old h
    | none =>
      have hx := hρ x (by simp [Op.operands])
      rw [e] at hx
      cases mx with
      | some y => unfold sliceC at h; simp at h
      | none =>
        have opt : OptOk X s.b s.c σ w (hi.map ρ) (hi.map a.eval) := by
          cases hi with
          | none => exact ⟨fun z hz => by simp at hz, fun _ => rfl⟩
          | some q => exact ⟨fun z hz => by simp only [Option.map_some, Option.some.injEq] at hz; subst hz; exact ⟨_, rfl, hρ q (by simp [Op.operands])⟩, fun hz => by simp at hz⟩
        obtain ⟨u, hu, hv⟩ := sliceC_ok TO h hp hx opt
        exact ⟨u, by simp [execOp, ho, hu], hv⟩
  case call cl =>
    rw [ho] at h old hρ
    obtain ⟨callee, arz, ts⟩ := cl
    cases callee <;> try exact old h
    rename_i bi
    cases bi <;> try exact old h
    obtain ⟨arz⟩ := arz
    obtain ⟨ts⟩ := ts
    simp only [pureOpC] at h
    match arz, ts, h, hρ, ho with
    | [x], [t], h, hρ, ho =>
      have hx := hρ x (by simp [Op.operands, Call.operands])
      have ht := TO.ty t
      simp only at h
      cases e : ρ x <;> rw [e] at h hx <;> simp only [capV, reduceCtorEq] at h
      rename_i n g es len cap
      cases e2 : T.ty t <;> rw [e2] at ht <;> simp only [e2, reduceCtorEq, tyOk] at h ht
      cases eb : blkAt s.b n g <;> simp only [eb, reduceCtorEq, Option.some.injEq, Prod.mk.injEq] at h
      obtain ⟨rfl, rfl⟩ := h
      obtain ⟨hc, hlv⟩ := hx
      obtain ⟨ad, hax, hlc, hv⟩ := hlv (blkAt_live eb)
      refine ⟨.int .i64 cap, ?_, rfl⟩
      simp only [execOp, ho, resolve]
      simp [invoke, builtin, Builtin.cap_, run_underlying ht, hax, goInt]
    | [], _, h, _, _ => simp at h
    | _ :: _ :: _, _, h, _, _ => simp at h
    | [_], [], h, _, _ => simp at h
    | [_], _ :: _ :: _, h, _, _ => simp at h

end

end Go.Proofs.YtdhnjmepgafeiaaDoor.Abs

/- OWN LIBRARY, part 6: new blocks and writes keep what was told. -/
set_option linter.unusedVariables false
set_option linter.unusedSimpArgs false
namespace Go.Proofs.YtdhnjmepgafeiaaDoor.Abs
open Go

/-- Besides the heap nothing has turned that counts. -/
def Calm (w w' : World) : Prop := w'.os = w.os ∧ w'.tape = w.tape ∧ w'.output = w.output

theorem put_tm {X : Ctx} {t : List SV} {b : List (Nat × Nat × Blk)} {c : Lim} {σ : Env} {w : World} {a : Act} {dst : Option Nat} {sv : SV} {v : Value}
    (hsz : a.tmps.size = t.length) (h : ∀ i, i < t.length → V X b c σ w (t.getD i .any) (a.tmps.getD i undef)) (hv : V X b c σ w sv v) :
    (a.put dst v).tmps.size = (setD t dst sv).length ∧ ∀ i, i < (setD t dst sv).length → V X b c σ w ((setD t dst sv).getD i .any) ((a.put dst v).tmps.getD i undef) := by
  cases dst with
  | none => exact ⟨hsz, h⟩
  | some d =>
    refine ⟨by simp [Act.put, setD, hsz], fun i hi => ?_⟩
    simp only [setD, List.length_set] at hi
    simp only [Act.put, setD]
    by_cases e : d = i
    · subst e
      have h1 : (t.set d sv).getD d .any = sv := by simp [List.getD, hi]
      have h2 : (a.tmps.setIfInBounds d v).getD d undef = v := by simp [Array.getD, hsz, hi]
      rw [h1, h2]; exact hv
    · have h1 : (t.set d sv).getD i .any = t.getD i .any := by simp [List.getD, List.getElem?_set, e]
      have h2 : (a.tmps.setIfInBounds d v).getD i undef = a.tmps.getD i undef := by
        have hi' : i < a.tmps.size := by omega
        simp [Array.getD, hi', Array.getElem_setIfInBounds, e]
      rw [h1, h2]; exact h i hi

section
variable {X : Ctx} {s : St} {σ : Env} {w w' : World} {a : Act}

/-- A name for a new block. -/
def bind1 (σ : Env) (n B : Nat) : Env := fun m => if m = n then some B else σ m

theorem Tr_new (hR : R X s σ w a) {n : Nat} {o : Obj} {x : Blk} (hn : n ∉ s.c.d) (hh : w'.heap = w.heap.push o) : Tr X s.b s.c σ w (upd s.b n s.c.c x) (s.c.add n) (bind1 σ n w.heap.size) w' where
  cc _ _ h := Lim.ok_add h
  lv m g hl hg := by
    obtain ⟨y, hy⟩ := hl
    rw [fnd_upd] at hy
    by_cases e : m = n
    · rw [if_pos e] at hy; simp at hy; subst e; rw [← hy.1] at hg; exact absurd hg (Lim.not_new hn)
    · rw [if_neg e] at hy
      exact ⟨⟨y, hy⟩, by simp [bind1, e]⟩
  vw tag B hv := by
    have hB := hv.1
    refine ⟨by rw [hh, Array.getElem?_push, if_neg (by omega)], by rw [hh, Array.size_push]; omega, ?_⟩
    rcases hv.2 with h | ⟨h1, h2⟩
    · exact .inl h
    · refine .inr ⟨h1, ?_⟩
      rintro ⟨m, y, hy, hs⟩
      rw [fnd_upd] at hy
      by_cases e : m = n
      · subst e; simp [bind1] at hs; omega
      · rw [if_neg e] at hy
        simp only [bind1, if_neg e] at hs
        exact h2 ⟨m, y, hy, hs⟩
  bs m g B hl hg hs := by
    obtain ⟨y, hy⟩ := hl
    rw [fnd_upd] at hy
    by_cases e : m = n
    · rw [if_pos e] at hy; simp at hy; subst e; rw [← hy.1] at hg; exact absurd hg (Lim.not_new hn)
    · rw [if_neg e] at hy
      have := ((hR.bl m g y hy).2.2 B hs).1
      simp only [blockSize, hh, Array.getElem?_push, if_neg (show ¬ B = w.heap.size by omega)]
      exact Nat.le_refl _

theorem R_new (hR : R X s σ w a) {n : Nat} {o : Obj} {x : Blk} {dst : Option Nat} {sv : SV} {v : Value} (hn : n ∉ s.c.d) (hh : w'.heap = w.heap.push o) (hc : Calm w w')
    (hx : BlkOk X (upd s.b n s.c.c x) (s.c.add n) (bind1 σ n w.heap.size) w' n x) (hv : V X (upd s.b n s.c.c x) (s.c.add n) (bind1 σ n w.heap.size) w' sv v) :
    R X ⟨setD s.t dst sv, upd s.b n s.c.c x, s.c.add n⟩ (bind1 σ n w.heap.size) w' (a.put dst v) ∧ Tr X s.b s.c σ w (upd s.b n s.c.c x) (s.c.add n) (bind1 σ n w.heap.size) w' := by
  have T := Tr_new (w' := w') (n := n) (x := x) hR hn hh
  have ht := put_tm (dst := dst) hR.sz (fun i hi => (hR.tm i hi).tr T) hv
  refine ⟨?_, T⟩
  refine ⟨ht.1, ht.2, ?_, ?_, ?_, ?_, ?_, hR.ro, hR.gl⟩
  · cases dst <;> exact hR.df
  · intro m g y hy
    rw [fnd_upd] at hy
    by_cases e : m = n
    · subst e
      rw [if_pos rfl] at hy
      simp only [Option.some.injEq, Prod.mk.injEq] at hy
      obtain ⟨rfl, rfl⟩ := hy
      refine ⟨Lim.ok_new _ _, hx, fun B hB => ?_⟩
      simp only [bind1, if_true, Option.some.injEq] at hB
      subst hB
      exact ⟨by rw [hh, Array.size_push]; omega, .inr hR.fr.1⟩
    · rw [if_neg e] at hy
      obtain ⟨h1, h2, h3⟩ := hR.bl m g y hy
      refine ⟨Lim.ok_add h1, h2.tr T (by simp [bind1, e]) (fun B hB => ?_), fun B hB => ?_⟩
      · have := (h3 B hB).1
        rw [hh, Array.getElem?_push, if_neg (by omega)]
      · simp only [bind1, if_neg e] at hB
        obtain ⟨h4, h5⟩ := h3 B hB
        exact ⟨by rw [hh, Array.size_push]; omega, h5⟩
  · intro m m' y y' B hy hy' hs hs'
    rw [fnd_upd] at hy hy'
    by_cases e : m = n <;> by_cases e' : m' = n
    · omega
    · exfalso
      simp only [bind1, if_pos e, if_neg e', Option.some.injEq] at hs hs'
      rw [if_neg e'] at hy'
      have := ((hR.bl m' y'.1 y'.2 hy').2.2 B hs').1
      omega
    · exfalso
      simp only [bind1, if_neg e, if_pos e', Option.some.injEq] at hs hs'
      rw [if_neg e] at hy
      have := ((hR.bl m y.1 y.2 hy).2.2 B hs).1
      omega
    · simp only [bind1, if_neg e, if_neg e'] at hs hs'
      rw [if_neg e] at hy; rw [if_neg e'] at hy'
      exact hR.inj m m' y y' B hy hy' hs hs'
  · refine ⟨by rw [hh, Array.size_push]; have := hR.fr.1; omega, fun B hB hm => ?_⟩
    rw [hh, Array.getElem?_push, if_neg (by have := hR.fr.1; omega)]
    exact hR.fr.2 B hB hm
  · obtain ⟨h1, h2, h3⟩ := hc
    obtain ⟨g1, g2, g3⟩ := hR.st
    exact ⟨h1.trans g1, h2.trans g2, h3.trans g3⟩

/-- A name is given to a value that has no block. -/
theorem Tr_none (hR : R X s σ w a) {n : Nat} {x : Blk} (hn : n ∉ s.c.d) : Tr X s.b s.c σ w (upd s.b n s.c.c x) (s.c.add n) (fun m => if m = n then none else σ m) w where
  cc _ _ h := Lim.ok_add h
  lv m g hl hg := by
    obtain ⟨y, hy⟩ := hl
    rw [fnd_upd] at hy
    by_cases e : m = n
    · rw [if_pos e] at hy; simp at hy; subst e; rw [← hy.1] at hg; exact absurd hg (Lim.not_new hn)
    · rw [if_neg e] at hy
      exact ⟨⟨y, hy⟩, by simp [e]⟩
  vw tag B hv := by
    refine ⟨rfl, hv.1, ?_⟩
    rcases hv.2 with h | ⟨h1, h2⟩
    · exact .inl h
    · refine .inr ⟨h1, ?_⟩
      rintro ⟨m, y, hy, hs⟩
      rw [fnd_upd] at hy
      by_cases e : m = n
      · subst e; simp at hs
      · rw [if_neg e] at hy
        simp only [if_neg e] at hs
        exact h2 ⟨m, y, hy, hs⟩
  bs m g B hl hg hs := Nat.le_refl _

theorem R_none (hR : R X s σ w a) {n : Nat} {x : Blk} {dst : Option Nat} {sv : SV} {v : Value} (hn : n ∉ s.c.d)
    (hx : BlkOk X (upd s.b n s.c.c x) (s.c.add n) (fun m => if m = n then none else σ m) w n x) (hv : V X (upd s.b n s.c.c x) (s.c.add n) (fun m => if m = n then none else σ m) w sv v) :
    R X ⟨setD s.t dst sv, upd s.b n s.c.c x, s.c.add n⟩ (fun m => if m = n then none else σ m) w (a.put dst v) ∧ Tr X s.b s.c σ w (upd s.b n s.c.c x) (s.c.add n) (fun m => if m = n then none else σ m) w := by
  have T := Tr_none (n := n) (x := x) hR hn
  have ht := put_tm (dst := dst) hR.sz (fun i hi => (hR.tm i hi).tr T) hv
  refine ⟨?_, T⟩
  refine ⟨ht.1, ht.2, ?_, ?_, ?_, hR.fr, hR.st, hR.ro, hR.gl⟩
  · cases dst <;> exact hR.df
  · intro m g y hy
    rw [fnd_upd] at hy
    by_cases e : m = n
    · subst e
      rw [if_pos rfl] at hy
      simp only [Option.some.injEq, Prod.mk.injEq] at hy
      obtain ⟨rfl, rfl⟩ := hy
      exact ⟨Lim.ok_new _ _, hx, fun B hB => by simp at hB⟩
    · rw [if_neg e] at hy
      obtain ⟨h1, h2, h3⟩ := hR.bl m g y hy
      refine ⟨Lim.ok_add h1, h2.tr T (by simp [e]) (fun B hB => rfl), fun B hB => ?_⟩
      simp only [if_neg e] at hB
      exact h3 B hB
  · intro m m' y y' B hy hy' hs hs'
    rw [fnd_upd] at hy hy'
    by_cases e : m = n
    · simp [e] at hs
    by_cases e' : m' = n
    · simp [e'] at hs'
    simp only [if_neg e, if_neg e'] at hs hs'
    rw [if_neg e] at hy; rw [if_neg e'] at hy'
    exact hR.inj m m' y y' B hy hy' hs hs'

/-- A write into a named block. -/
structure Wrote (B : Nat) (w w' : World) (cs' : Array Value) (t : TypeId) (fr : Nat × Nat) : Prop where
  here : w'.heap[B]? = some (.cells cs' t fr)
  other : ∀ B', B' ≠ B → w'.heap[B']? = w.heap[B']?
  size : w'.heap.size = w.heap.size
  calm : Calm w w'

theorem fnd_mv {b : List (Nat × Nat × Blk)} {n m g k : Nat} {x : Blk} : fnd (mv b n m g x) k = if k = m then some (g, x) else if k = n then none else fnd b k := by
  rw [mv, fnd_upd, fnd_del]

theorem Tr_mv (hR : R X s σ w a) {n m g B : Nat} {x x' : Blk} {cs cs' : Array Value} {t : TypeId} {fr : Nat × Nat} (hn : fnd s.b n = some (g, x)) (hB : σ n = some B) (hm : m ∉ s.c.d)
    (hold : w.heap[B]? = some (.cells cs t fr)) (hW : Wrote B w w' cs' t fr) (hs : cs'.size = cs.size) :
    Tr X s.b s.c σ w (mv s.b n m s.c.c x') (s.c.add m) (bind1 σ m B) w' where
  cc _ _ h := Lim.ok_add h
  lv k g0 hl hg0 := by
    obtain ⟨y, hy⟩ := hl
    rw [fnd_mv] at hy
    by_cases e : k = m
    · rw [if_pos e] at hy; simp at hy; subst e; rw [← hy.1] at hg0; exact absurd hg0 (Lim.not_new hm)
    · rw [if_neg e] at hy
      by_cases e2 : k = n
      · rw [if_pos e2] at hy; simp at hy
      · rw [if_neg e2] at hy; exact ⟨⟨y, hy⟩, by simp [bind1, e]⟩
  vw tag B0 hv := by
    have hne : B0 ≠ B := by
      rintro rfl
      rcases hv.2 with ⟨_, h⟩ | ⟨_, h⟩
      · obtain ⟨h1, h2⟩ := hR.ro _ h
        rcases ((hR.bl n g x hn).2.2 _ hB).2 with h3 | h3
        · exact h2 h3
        · omega
      · exact h ⟨n, _, hn, hB⟩
    refine ⟨hW.other B0 hne, by rw [hW.size]; exact hv.1, ?_⟩
    rcases hv.2 with h | ⟨h1, h2⟩
    · exact .inl h
    · refine .inr ⟨h1, ?_⟩
      rintro ⟨k, y, hy, hs⟩
      rw [fnd_mv] at hy
      by_cases e : k = m
      · simp only [bind1, if_pos e, Option.some.injEq] at hs; exact hne hs.symm
      · rw [if_neg e] at hy
        by_cases e2 : k = n
        · rw [if_pos e2] at hy; simp at hy
        · rw [if_neg e2] at hy
          simp only [bind1, if_neg e] at hs
          exact h2 ⟨k, y, hy, hs⟩
  bs k g0 B0 hl hg0 hs0 := by
    by_cases e : B0 = B
    · subst e; simp only [blockSize, hold, hW.here, hs]; exact Nat.le_refl _
    · simp only [blockSize, hW.other B0 e]; exact Nat.le_refl _

theorem R_mv (hR : R X s σ w a) {n m g B : Nat} {x x' : Blk} {cs cs' : Array Value} {t : TypeId} {fr : Nat × Nat} {dst : Option Nat} {sv : SV} {v : Value} (hn : fnd s.b n = some (g, x)) (hB : σ n = some B) (hm : m ∉ s.c.d)
    (hold : w.heap[B]? = some (.cells cs t fr)) (hW : Wrote B w w' cs' t fr) (hs : cs'.size = cs.size)
    (hx : BlkOk X (mv s.b n m s.c.c x') (s.c.add m) (bind1 σ m B) w' m x') (hv : V X (mv s.b n m s.c.c x') (s.c.add m) (bind1 σ m B) w' sv v) :
    R X ⟨setD s.t dst sv, mv s.b n m s.c.c x', s.c.add m⟩ (bind1 σ m B) w' (a.put dst v) ∧ Tr X s.b s.c σ w (mv s.b n m s.c.c x') (s.c.add m) (bind1 σ m B) w' := by
  have T := Tr_mv (x' := x') hR hn hB hm hold hW hs
  have ht := put_tm (dst := dst) hR.sz (fun i hi => (hR.tm i hi).tr T) hv
  refine ⟨?_, T⟩
  have hfn : ∀ k y, fnd (mv s.b n m s.c.c x') k = some y → (k = m ∧ y = (s.c.c, x')) ∨ (k ≠ m ∧ k ≠ n ∧ fnd s.b k = some y) := by
    intro k y hy
    rw [fnd_mv] at hy
    by_cases e : k = m
    · rw [if_pos e] at hy; simp at hy; exact .inl ⟨e, hy.symm⟩
    · rw [if_neg e] at hy
      by_cases e2 : k = n
      · rw [if_pos e2] at hy; simp at hy
      · rw [if_neg e2] at hy; exact .inr ⟨e, e2, hy⟩
  refine ⟨ht.1, ht.2, ?_, ?_, ?_, ?_, ?_, hR.ro, hR.gl⟩
  · cases dst <;> exact hR.df
  · intro k g0 y hy
    rcases hfn k _ hy with ⟨rfl, e⟩ | ⟨hne, hne2, hy⟩
    · simp only [Prod.mk.injEq] at e
      obtain ⟨rfl, rfl⟩ := e
      refine ⟨Lim.ok_new _ _, hx, fun B' hB' => ?_⟩
      simp only [bind1, if_true, Option.some.injEq] at hB'
      subst hB'
      rw [hW.size]
      exact (hR.bl n g x hn).2.2 _ hB
    · obtain ⟨h1, h2, h3⟩ := hR.bl k g0 y hy
      refine ⟨Lim.ok_add h1, h2.tr T (by simp [bind1, hne]) (fun B' hB' => ?_), fun B' hB' => by rw [hW.size]; simp only [bind1, if_neg hne] at hB'; exact h3 B' hB'⟩
      refine hW.other B' ?_
      rintro rfl
      exact hne2 (hR.inj k n _ _ _ hy hn hB' hB)
  · intro k k' y y' B' hy hy' hs1 hs2
    rcases hfn k _ hy with ⟨ek, e⟩ | ⟨hne, hne2, hz⟩ <;> rcases hfn k' _ hy' with ⟨ek', e'⟩ | ⟨hne', hne2', hz'⟩
    · omega
    · simp only [bind1, if_pos ek, Option.some.injEq, if_neg hne'] at hs1 hs2
      subst hs1
      exact absurd (hR.inj k' n _ _ _ hz' hn hs2 hB) hne2'
    · simp only [bind1, if_pos ek', Option.some.injEq, if_neg hne] at hs1 hs2
      subst hs2
      exact absurd (hR.inj k n _ _ _ hz hn hs1 hB) hne2
    · simp only [bind1, if_neg hne, if_neg hne'] at hs1 hs2
      exact hR.inj k k' y y' B' hz hz' hs1 hs2
  · refine ⟨by rw [hW.size]; exact hR.fr.1, fun B' hB' hm => ?_⟩
    rw [← hR.fr.2 B' hB' hm]
    refine hW.other B' ?_
    rintro rfl
    rcases ((hR.bl n g x hn).2.2 _ hB).2 with h3 | h3
    · exact hm h3
    · omega
  · obtain ⟨h1, h2, h3⟩ := hW.calm
    obtain ⟨g1, g2, g3⟩ := hR.st
    exact ⟨h1.trans g1, h2.trans g2, h3.trans g3⟩

theorem Tr_write (hR : R X s σ w a) {n g B : Nat} {x x' : Blk} {cs cs' : Array Value} {t : TypeId} {fr fr' : Nat × Nat} (hn : fnd s.b n = some (g, x)) (hB : σ n = some B)
    (hold : w.heap[B]? = some (.cells cs t fr)) (hW : Wrote B w w' cs' t fr') (hs : cs'.size = cs.size) :
    Tr X s.b s.c σ w (upd s.b n g x') s.c σ w' where
  cc _ _ h := h
  lv m g0 hl hg0 := by
    obtain ⟨y, hy⟩ := hl
    rw [fnd_upd] at hy
    by_cases e : m = n
    · subst e
      rw [if_pos rfl] at hy
      simp only [Option.some.injEq, Prod.mk.injEq] at hy
      exact ⟨⟨x, by rw [hn, hy.1]⟩, rfl⟩
    · rw [if_neg e] at hy; exact ⟨⟨y, hy⟩, rfl⟩
  vw tag B0 hv := by
    have hne : B0 ≠ B := by
      rintro rfl
      rcases hv.2 with ⟨_, h⟩ | ⟨_, h⟩
      · obtain ⟨h1, h2⟩ := hR.ro _ h
        rcases ((hR.bl n g x hn).2.2 _ hB).2 with h3 | h3
        · exact h2 h3
        · omega
      · exact h ⟨n, _, hn, hB⟩
    refine ⟨hW.other B0 hne, by rw [hW.size]; exact hv.1, ?_⟩
    rcases hv.2 with h | ⟨h1, h2⟩
    · exact .inl h
    · refine .inr ⟨h1, ?_⟩
      rintro ⟨m, y, hy, hs⟩
      rw [fnd_upd] at hy
      by_cases e : m = n
      · subst e; exact h2 ⟨m, _, hn, hs⟩
      · rw [if_neg e] at hy; exact h2 ⟨m, y, hy, hs⟩
  bs m g0 B0 hl hg0 hs0 := by
    by_cases e : B0 = B
    · subst e; simp only [blockSize, hold, hW.here, hs]; exact Nat.le_refl _
    · simp only [blockSize, hW.other B0 e]; exact Nat.le_refl _

theorem R_write (hR : R X s σ w a) {n g B : Nat} {x x' : Blk} {cs cs' : Array Value} {t : TypeId} {fr fr' : Nat × Nat} {dst : Option Nat} {sv : SV} {v : Value} (hn : fnd s.b n = some (g, x)) (hB : σ n = some B)
    (hold : w.heap[B]? = some (.cells cs t fr)) (hW : Wrote B w w' cs' t fr') (hs : cs'.size = cs.size)
    (hx : BlkOk X (upd s.b n g x') s.c σ w' n x') (hv : V X (upd s.b n g x') s.c σ w' sv v) :
    R X ⟨setD s.t dst sv, upd s.b n g x', s.c⟩ σ w' (a.put dst v) ∧ Tr X s.b s.c σ w (upd s.b n g x') s.c σ w' := by
  have T := Tr_write (x' := x') hR hn hB hold hW hs
  have ht := put_tm (dst := dst) hR.sz (fun i hi => (hR.tm i hi).tr T) hv
  refine ⟨?_, T⟩
  have hfn : ∀ m y, fnd (upd s.b n g x') m = some y → (m = n ∧ y = (g, x')) ∨ (m ≠ n ∧ fnd s.b m = some y) := by
    intro m y hy
    rw [fnd_upd] at hy
    by_cases e : m = n
    · rw [if_pos e] at hy; simp at hy; exact .inl ⟨e, hy.symm⟩
    · rw [if_neg e] at hy; exact .inr ⟨e, hy⟩
  have hgc := (hR.bl n g x hn).1
  refine ⟨ht.1, ht.2, ?_, ?_, ?_, ?_, ?_, hR.ro, hR.gl⟩
  · cases dst <;> exact hR.df
  · intro m g0 y hy
    rcases hfn m _ hy with ⟨rfl, e⟩ | ⟨hne, hy⟩
    · simp only [Prod.mk.injEq] at e
      obtain ⟨rfl, rfl⟩ := e
      refine ⟨hgc, hx, fun B' hB' => ?_⟩
      rw [hW.size]
      exact (hR.bl m _ x hn).2.2 B' hB'
    · obtain ⟨h1, h2, h3⟩ := hR.bl m g0 y hy
      refine ⟨h1, h2.tr T rfl (fun B' hB' => ?_), fun B' hB' => by rw [hW.size]; exact h3 B' hB'⟩
      refine hW.other B' ?_
      rintro rfl
      exact hne (hR.inj m n _ _ _ hy hn hB' hB)
  · intro m m' y y' B' hy hy' hs1 hs2
    have h1 : ∃ z, fnd s.b m = some z := by
      rcases hfn m _ hy with ⟨rfl, e⟩ | ⟨hne, hy⟩
      · exact ⟨_, hn⟩
      · exact ⟨_, hy⟩
    have h2 : ∃ z, fnd s.b m' = some z := by
      rcases hfn m' _ hy' with ⟨rfl, e⟩ | ⟨hne, hy⟩
      · exact ⟨_, hn⟩
      · exact ⟨_, hy⟩
    obtain ⟨z, hz⟩ := h1
    obtain ⟨z', hz'⟩ := h2
    exact hR.inj m m' z z' B' hz hz' hs1 hs2
  · refine ⟨by rw [hW.size]; exact hR.fr.1, fun B' hB' hm => ?_⟩
    rw [← hR.fr.2 B' hB' hm]
    refine hW.other B' ?_
    rintro rfl
    rcases ((hR.bl n g x hn).2.2 _ hB).2 with h3 | h3
    · exact hm h3
    · omega
  · obtain ⟨h1, h2, h3⟩ := hW.calm
    obtain ⟨g1, g2, g3⟩ := hR.st
    exact ⟨h1.trans g1, h2.trans g2, h3.trans g3⟩
end

theorem store_run {P : Program} {w : World} {B o : Nat} {cs : Array Value} {t : TypeId} {fr : Nat × Nat} {v : Value} (hh : w.heap[B]? = some (.cells cs t fr)) (hf : Free fr cs.size) (ho : o < cs.size) (h1 : v.oneCell' = true) :
    ∃ w', (store ⟨B, o, none⟩ v).run P w = .ok () w' ∧ Wrote B w w' (cs.setIfInBounds o v) t fr := by
  have hcell : w.cell? ⟨B, o, none⟩ = some cs[o] := by simp [World.cell?, hh, ho]
  have hfro : w.frozen? ⟨B, o, none⟩ = false := by
    have := hf.out o ho
    simp only [World.frozen?, hh]
    by_cases h1 : fr.1 ≤ o
    · have : ¬ o < fr.2 := fun h => this ⟨h1, h⟩
      simp [h1, this]
    · simp [h1]
  have hB : B < w.heap.size := by
    rcases Nat.lt_or_ge B w.heap.size with h | h
    · exact h
    · simp [Array.getElem?_eq_none h] at hh
  refine ⟨w.setCell ⟨B, o, none⟩ v, by rw [run_store P w _ v _ h1, hcell]; simp [hfro], ?_, ?_, ?_, rfl, rfl, rfl⟩
  · simp only [World.setCell, Array.getElem?_modify, hh]; simp
  · intro B' hne
    simp only [World.setCell, Array.getElem?_modify]
    rw [if_neg (by simpa using fun e => hne e.symm)]
  · simp [World.setCell]

theorem storeCells_run {P : Program} {B o : Nat} {t : TypeId} {fr : Nat × Nat} : ∀ (vs : List Value) (i : Nat) (cs : Array Value) (w : World), w.heap[B]? = some (.cells cs t fr) → Free fr cs.size → o + i + vs.length ≤ cs.size → (∀ v ∈ vs, v.oneCell' = true) →
    ∃ w' cs', (storeCells ⟨B, o, none⟩ vs i).run P w = .ok () w' ∧ Wrote B w w' cs' t fr ∧ cs'.toList = cs.toList.take (o + i) ++ vs ++ cs.toList.drop (o + i + vs.length)
  | [], i, cs, w, hh, hf, hl, h1 => by
    refine ⟨w, cs, rfl, ⟨hh, fun _ _ => rfl, rfl, rfl, rfl, rfl⟩, by simp⟩
  | v :: rest, i, cs, w, hh, hf, hl, h1 => by
    obtain ⟨w1, hr1, hW1⟩ := store_run (P := P) (o := o + i) hh hf (by simp at hl; omega) (h1 v (by simp))
    obtain ⟨w2, cs2, hr2, hW2, he⟩ := storeCells_run (P := P) (o := o) rest (i + 1) (cs.setIfInBounds (o + i) v) w1 hW1.here (by simpa using hf) (by simp at hl ⊢; omega) (fun x hx => h1 x (by simp [hx]))
    refine ⟨w2, cs2, ?_, ⟨hW2.here, fun B' h => (hW2.other B' h).trans (hW1.other B' h), hW2.size.trans hW1.size, hW2.calm.1.trans hW1.calm.1, hW2.calm.2.1.trans hW1.calm.2.1, hW2.calm.2.2.trans hW1.calm.2.2⟩, ?_⟩
    · simp only [storeCells, Sem.run_bind, addr_add, hr1, Result.andThen_ok, hr2]
    · rw [he]
      have e := list_seg_step cs.toList (o + i) v rest (by simp at hl ⊢; omega)
      simpa [Array.toList_setIfInBounds, Nat.add_assoc] using e

end Go.Proofs.YtdhnjmepgafeiaaDoor.Abs

/- OWN LIBRARY, part 7: data that a value holds; cells that are written. -/
set_option linter.unusedVariables false
set_option linter.unusedSimpArgs false
namespace Go.Proofs.YtdhnjmepgafeiaaDoor.Abs
open Go

theorem Data.esz_pos (d : Data) : 0 < d.esz := by cases d <;> simp [Data.esz]

section
variable {P : Program} {T : Tab} {X : Ctx} {b : List (Nat × Nat × Blk)} {c : Lim} {σ : Env} {w : World}

theorem Vw.weak {tag tag' : Bool} {B : Nat} (h : Vw X b σ w tag B) (ht : tag' = true → tag = true) : Vw X b σ w tag' B := by
  refine ⟨h.1, ?_⟩
  rcases h.2 with ⟨h1, h2⟩ | h1
  · refine .inl ⟨?_, h2⟩
    cases tag' with
    | false => rfl
    | true => rw [ht rfl] at h1; exact h1
  · exact .inr h1

theorem IsRow.weak {tag tag' : Bool} {l : List Int} {v : Value} (h : IsRow (Vw X b σ w tag) w l v) (ht : tag' = true → tag = true) : IsRow (Vw X b σ w tag') w l v := by
  obtain ⟨a, cap, e, h1, h2⟩ := h
  refine ⟨a, cap, e, h1, fun hn => ?_⟩
  obtain ⟨B, o, e, hv, hc⟩ := h2 hn
  exact ⟨B, o, e, hv.weak ht, hc⟩

/-- Cells hold data. -/
def Cs (X : Ctx) (b : List (Nat × Nat × Blk)) (σ : Env) (w : World) (d : Data) (cs : List Value) : Prop :=
  cs.length = d.len * d.esz ∧ ∀ i j, i < d.len → j < d.esz → ∃ x, cs[i * d.esz + j]? = some x ∧ CellOk (Vw X b σ w) w i j d x

/-- A value is a source of data. -/
def Src (P : Program) (X : Ctx) (b : List (Nat × Nat × Blk)) (σ : Env) (w : World) (d : Data) (y : Value) (cs : List Value) : Prop :=
  Cs X b σ w d cs ∧ ∀ w1 : World, w1.heap = w.heap → (Builtin.lenOf y).run P w1 = .ok d.len w1 ∧ ∀ n, n ≤ d.len → (Builtin.firstCells d.esz n y).run P w1 = .ok (cs.take (n * d.esz)).toArray w1

theorem mul_idx {i j n e : Nat} (hi : i < n) (hj : j < e) : i * e + j < n * e := by
  have h1 : i * e + e ≤ n * e := by rw [← Nat.succ_mul]; exact Nat.mul_le_mul_right e hi
  omega

theorem src_of_holds {d : Data} {B o : Nat} {len cap : Nat} (hl : len = d.len) (h : Holds (Vw X b σ w) w B o d) : ∃ cs, Src P X b σ w d (.slice (some ⟨B, o, none⟩) len cap) cs := by
  subst hl
  have hz := d.esz_pos
  let f : Nat → Value := fun q => (w.cell? ⟨B, o + q, none⟩).getD undef
  have hf : ∀ q, q < d.len * d.esz → w.cell? ⟨B, o + q, none⟩ = some (f q) := by
    intro q hq
    have h1 : q / d.esz < d.len := by rw [Nat.div_lt_iff_lt_mul hz]; exact hq
    obtain ⟨x, hx, _⟩ := h (q / d.esz) (q % d.esz) h1 (Nat.mod_lt _ hz)
    rw [show o + q / d.esz * d.esz + q % d.esz = o + q by rw [Nat.add_assoc, Nat.div_add_mod']] at hx
    simp [f, hx]
  refine ⟨(List.range (d.len * d.esz)).map f, ⟨by simp, ?_⟩, ?_⟩
  · intro i j hi hj
    obtain ⟨x, hx, hc⟩ := h i j hi hj
    have hq := mul_idx hi hj
    refine ⟨x, ?_, hc⟩
    rw [List.getElem?_map, List.getElem?_range hq]
    have := hf _ hq
    rw [← Nat.add_assoc, hx] at this
    simpa using this.symm
  · intro w1 hw1
    refine ⟨by simp [Builtin.lenOf], fun n hn => ?_⟩
    have hnq : n * d.esz ≤ d.len * d.esz := Nat.mul_le_mul_right _ hn
    have hlen : (((List.range (d.len * d.esz)).map f).take (n * d.esz)).length = n * d.esz := by rw [List.length_take, List.length_map, List.length_range, Nat.min_eq_left hnq]
    have := loadCells_run (P := P) (w := w1) (B := B) (o := o) (cs := ((List.range (d.len * d.esz)).map f).take (n * d.esz)) (by
      intro j v hj
      rw [List.getElem?_take] at hj
      split at hj
      · rename_i hjn
        rw [List.getElem?_map, List.getElem?_range (by omega)] at hj
        simp only [Option.map_some, Option.some.injEq] at hj
        subst hj
        have := hf j (by omega)
        simpa [World.cell?, hw1] using this
      · simp at hj)
    rw [hlen] at this
    simp [Builtin.firstCells, this]

theorem src_empty {d : Data} {a : Option Addr} {cap : Nat} (hd : d.len = 0) : Src P X b σ w d (.slice a 0 cap) [] := by
  refine ⟨⟨by simp [hd], fun i j hi => by omega⟩, fun w1 _ => ⟨by simp [Builtin.lenOf, hd], fun n hn => ?_⟩⟩
  obtain rfl : n = 0 := by omega
  cases a <;> simp [Builtin.firstCells, loadCells, loadCellsFrom]

theorem map_getD (l : List Int) (k : IntKind) (i : Nat) (hi : i < l.length) : (l.map (Value.int k))[i]? = some (.int k (l.getD i 0)) := by simp [List.getD, hi]

theorem dataOf_ok {e : TypeId} {x : SV} {y : Value} {p : Prop} {d : Data} (h : dataOf T e b x = some (p, d)) (hp : p) (hx : V2 X b c σ w x y)
    (hbl : ∀ n g y, fnd b n = some (g, y) → BlkOk X b c σ w n y) : ∃ cs, Src P X b σ w d y cs := by
  cases x <;> simp only [dataOf, reduceCtorEq] at h
  case view tag d' =>
    simp only [Option.some.injEq, Prod.mk.injEq] at h
    obtain ⟨rfl, rfl⟩ := h
    obtain ⟨a, cap, rfl, hlc, hv⟩ := hx
    by_cases hd : d'.len = 0
    · rw [hd]; exact ⟨[], src_empty hd⟩
    · obtain ⟨B, o, rfl, _, hh⟩ := hv hd
      exact src_of_holds rfl hh
  case nil =>
    obtain rfl : y = .slice none 0 0 := hx
    have hd : d.len = 0 := by
      cases e1 : nilD T e <;> simp only [e1, reduceCtorEq, Option.some.injEq, Prod.mk.injEq] at h
      obtain ⟨_, rfl⟩ := h
      unfold nilD at e1
      split at e1 <;> simp only [reduceCtorEq, Option.some.injEq] at e1 <;> subst e1 <;> rfl
    exact ⟨[], src_empty hd⟩
  case str s =>
    simp only [Option.some.injEq, Prod.mk.injEq] at h
    obtain ⟨rfl, rfl⟩ := h
    obtain rfl : y = .string s := hx
    have hl : (Data.ints IntKind.u8 (s.data.toList.map byteI)).len = s.size := by simp only [Data.len, List.length_map, Array.length_toList]; rfl
    refine ⟨(s.data.toList.map byteI).map (.int .u8), ⟨by simp only [List.length_map, Array.length_toList, hl, Data.esz, Nat.mul_one]; rfl, fun i j hi hj => ?_⟩, fun w1 _ => ⟨by rw [hl]; rfl, fun n hn => ?_⟩⟩
    · simp only [Data.esz] at hj
      obtain rfl : j = 0 := by omega
      refine ⟨_, ?_, rfl⟩
      simp only [Data.esz, Nat.mul_one, Nat.add_zero]
      exact map_getD _ _ _ hi
    · simp only [Builtin.firstCells, Data.esz, Nat.mul_one]
      have : ((s.extract 0 n).data.map fun b => Value.int IntKind.u8 (b.toNat : Int)) = (((s.data.toList.map byteI).map (Value.int .u8)).take n).toArray := by
        apply Array.ext'
        simp only [Array.toList_map, ByteArray.data_extract, Array.toList_extract, List.map_map, List.map_take, List.extract_eq_take_drop]
        simp [byteI, List.map_take, Function.comp_def]
      rw [this]; rfl
  case sl n g seg e' off len =>
    obtain ⟨hc, hl⟩ := hx
    cases eb : blkAt b n g <;> simp only [eb, reduceCtorEq] at h
    rename_i bk
    obtain ⟨a, cap, rfl, hlc, hcap⟩ := hl (blkAt_live eb)
    cases bk <;> simp only [reduceCtorEq] at h
    case vec dv =>
      simp only [Option.some.injEq, Prod.mk.injEq] at h
      obtain ⟨rfl, rfl⟩ := h
      obtain ⟨rfl, rfl, hle⟩ := hp
      have hsl := sub_len hle
      by_cases hlen : len = 0
      · subst hlen; exact ⟨[], src_empty hsl⟩
      · obtain ⟨B, hB, rfl, _⟩ := hcap (by omega)
        rcases hbl n g _ (blkAt_fnd eb) with ⟨hn, _⟩ | ⟨B', cs, ty, fr, hB', hheap, hfree, hsz, hh, _⟩
        · rw [hn] at hB; simp at hB
        obtain rfl : B = B' := by simpa using hB.symm.trans hB'
        exact src_of_holds hsl.symm (hh.sub hle)
    case cells l =>
      cases ea : arrAt l seg <;> simp only [ea, reduceCtorEq, Option.some.injEq, Prod.mk.injEq] at h
      rename_i q
      obtain ⟨k, n', l'⟩ := q
      simp only at h
      obtain ⟨rfl, rfl⟩ := h
      obtain ⟨rfl, hle⟩ := hp
      obtain ⟨B', cs, ty, fr, hB', hheap, hfree, hcells⟩ := hbl n g _ (blkAt_fnd eb)
      obtain ⟨g1, g2, g3⟩ := arrAt_len hcells ea
      have hsl : len = (Data.ints k ((l'.drop off).take len)).len := by simp [Data.len]; omega
      by_cases hlen : len = 0
      · subst hlen; exact ⟨[], src_empty (by simp [Data.len])⟩
      · obtain ⟨B, hB, rfl, _⟩ := hcap (by omega)
        obtain rfl : B = B' := by simpa using hB.symm.trans hB'
        refine src_of_holds hsl (fun i j hi hj => ?_)
        simp only [Data.esz] at hj
        obtain rfl : j = 0 := by omega
        refine ⟨.int k (l'.getD (off + i) 0), ?_, ?_⟩
        · rw [cell_block hheap]
          have := g3 (off + i) (by omega)
          simp only [Data.esz, Nat.mul_one, Nat.add_zero]
          rw [Nat.add_assoc]
          simpa using this
        · simp only [CellOk, List.getD, List.getElem?_take, List.getElem?_drop]
          rw [if_pos (by omega)]

theorem cellOk_one {d : Data} {i j : Nat} {x : Value} (h : CellOk (Vw X b σ w) w i j d x) : x.oneCell' = true := by
  cases d
  case rows t l => obtain ⟨a, cap, rfl, _⟩ := h; rfl
  case locks l =>
    match j, h with
    | 0, h => rw [show x = _ from h]; rfl
    | 1, h => rw [show x = _ from h]; rfl
    | 2, h => rw [show x = _ from h]; rfl
    | _ + 3, h => rw [show x = _ from h]; rfl
  case ents l =>
    match j, h with
    | 0, h => rw [show x = _ from h]; rfl
    | 1, h => rw [show x = _ from h]; rfl
    | _ + 2, h => rw [show x = _ from h]; rfl
  all_goals rw [show x = _ from h]; rfl

theorem cs_one {d : Data} {cs : List Value} (h : Cs X b σ w d cs) : ∀ v ∈ cs, v.oneCell' = true := by
  intro v hv
  obtain ⟨q, hq⟩ := List.mem_iff_getElem?.1 hv
  have hql : q < d.len * d.esz := by
    rw [← h.1]
    rcases Nat.lt_or_ge q cs.length with h | h
    · exact h
    · simp [List.getElem?_eq_none h] at hq
  have hz := d.esz_pos
  have h1 : q / d.esz < d.len := by rw [Nat.div_lt_iff_lt_mul hz]; exact hql
  obtain ⟨x, hx, hc⟩ := h.2 (q / d.esz) (q % d.esz) h1 (Nat.mod_lt _ hz)
  rw [Nat.div_add_mod', hq] at hx
  simp only [Option.some.injEq] at hx
  subst hx
  exact cellOk_one hc

theorem setC_ok {l l2 : List SV} {cs : List Value} {o : Nat} {x : SV} {v : Value} (h : CellsOk X b c σ w l cs) (e : setC l o x = some l2) (hx : V0 X b c σ w x v) :
    o < cs.length ∧ CellsOk X b c σ w l2 (cs.set o v) := by
  induction l generalizing cs o l2 with
  | nil => simp [setC] at e
  | cons y r ih =>
    cases y
    case arr k n q =>
      obtain ⟨h1, cs', rfl, h2⟩ := h
      simp only [setC] at e
      split at e
      · rename_i ho
        cases x <;> simp only [reduceCtorEq] at e
        rename_i k' u
        split at e <;> simp only [reduceCtorEq, Option.some.injEq] at e
        rename_i hk
        subst hk; subst e
        obtain rfl : v = .int k u := hx
        refine ⟨by simp; omega, by simpa using h1, cs', ?_, h2⟩
        rw [List.set_append_left _ _ (by simp; omega), List.map_set]
      · cases e2 : setC r (o - n) x <;> simp only [e2, Option.map_none, Option.map_some, reduceCtorEq, Option.some.injEq] at e
        subst e
        obtain ⟨g1, g2⟩ := ih h2 e2
        refine ⟨by simp; omega, h1, _, ?_, g2⟩
        rw [List.set_append_right _ _ (by simp; omega)]
        simp [h1]
    all_goals
      obtain ⟨u, cs', rfl, h1, h2⟩ := h
      simp only [setC] at e
      split at e
      · rename_i ho
        subst ho
        simp only [Option.some.injEq] at e
        subst e
        refine ⟨by simp, ?_⟩
        cases x <;> first | exact hx.elim | exact ⟨v, cs', rfl, hx, h2⟩
      · cases e2 : setC r (o - 1) x <;> simp only [e2, Option.map_none, Option.map_some, reduceCtorEq, Option.some.injEq] at e
        subst e
        obtain ⟨g1, g2⟩ := ih h2 e2
        refine ⟨by simp; omega, u, cs'.set (o - 1) v, ?_, h1, g2⟩
        rw [show o = (o - 1) + 1 by omega, List.set_cons_succ]; rfl

theorem setA_ok {l l2 : List SV} {cs : List Value} {o n : Nat} {k : IntKind} {m m' : List Int} (h : CellsOk X b c σ w l cs) (ea : arrAt l o = some (k, n, m)) (e : setA l o m' = some l2) (hm : m'.length = n) :
    CellsOk X b c σ w l2 (cs.take o ++ m'.map (.int k) ++ cs.drop (o + n)) := by
  induction l generalizing cs o l2 with
  | nil => simp [setA] at e
  | cons y r ih =>
    cases y
    case arr k' n' q =>
      obtain ⟨h1, cs', rfl, h2⟩ := h
      simp only [setA] at e
      simp only [arrAt] at ea
      split at e
      · rename_i ho
        subst ho
        simp only [if_true, Option.some.injEq, Prod.mk.injEq] at ea e
        obtain ⟨rfl, rfl, rfl⟩ := ea
        subst e
        refine ⟨hm, cs', ?_, h2⟩
        simp [List.drop_append, h1]
      · rename_i ho
        rw [if_neg ho] at ea
        split at e
        · rename_i hno
          rw [if_pos hno] at ea
          cases e2 : setA r (o - n') m' <;> simp only [e2, Option.map_none, Option.map_some, reduceCtorEq, Option.some.injEq] at e
          subst e
          have g2 := ih h2 ea e2
          refine ⟨h1, _, ?_, g2⟩
          rw [List.take_append, List.take_of_length_le (by simp; omega), List.drop_append, List.drop_eq_nil_of_le (by simp; omega)]
          simp only [List.length_map, h1, List.append_assoc, List.nil_append]
          rw [show o + n - n' = o - n' + n by omega]
        · simp at e
    all_goals
      obtain ⟨u, cs', rfl, h1, h2⟩ := h
      simp only [setA] at e
      simp only [arrAt] at ea
      split at e
      · simp at e
      · rename_i ho
        rw [if_neg ho] at ea
        cases e2 : setA r (o - 1) m' <;> simp only [e2, Option.map_none, Option.map_some, reduceCtorEq, Option.some.injEq] at e
        subst e
        have g2 := ih h2 ea e2
        refine ⟨u, _, ?_, h1, g2⟩
        obtain ⟨o', rfl⟩ : ∃ o', o = o' + 1 := ⟨o - 1, by omega⟩
        rw [show o' + 1 + n = (o' + n) + 1 by omega]
        simp
end

end Go.Proofs.YtdhnjmepgafeiaaDoor.Abs

/- OWN LIBRARY, part 8: operations that make or write memory do what was told of them. -/
set_option linter.unusedVariables false
set_option linter.unusedSimpArgs false
namespace Go.Proofs.YtdhnjmepgafeiaaDoor.Abs
open Go

theorem notIn_ok : ∀ {l : List Nat} {n : Nat}, notIn l n → n ∉ l
  | [], _, _, h => by simp at h
  | m :: l, n, hn, h => by
    simp only [notIn] at hn
    split at hn
    · exact hn
    · rename_i hne
      rcases List.mem_cons.1 h with rfl | h
      · exact hne rfl
      · exact notIn_ok hn h

theorem free0 (n : Nat) : Free (0, 0) n := .inl rfl

section
variable {P : Program} {T : Tab} {X : Ctx} {s : St} {σ : Env} {w : World} {a : Act}

theorem heap_new (w : World) (o : Obj) : (w.alloc o).heap[w.heap.size]? = some o := by
  show (w.heap.push o)[w.heap.size]? = _
  simp

/-- What is wanted of an operation. -/
def Does (P : Program) (X : Ctx) (s : St) (σ : Env) (s' : St) (w : World) (a : Act) (o : Oper) : Prop :=
  ∃ nx u w' σ', (execOp a.eval o).run P w = .ok nx w' ∧ (nx = .value u ∨ (nx = .skip ∧ u = undef)) ∧ R X s' σ' w' (a.put o.dst u) ∧ Tr X s.b s.c σ w s'.b s'.c σ' w'

theorem newV_go {dst : Option Nat} {p0 p : Prop} {x : Blk} {f : Nat → SV} {s' : St} (h : newV s dst p0 x f = .go p s') (hp : p) :
    ∃ d, d ∉ s.c.d ∧ p0 ∧ s' = ⟨setD s.t dst (f d), upd s.b d s.c.c x, s.c.add d⟩ := by
  cases dst with
  | none => simp [newV] at h
  | some d =>
    simp only [newV, Res.go.injEq] at h
    obtain ⟨rfl, rfl⟩ := h
    exact ⟨s.c.o + d, notIn_ok hp.1, hp.2, rfl⟩

theorem alloc_ok (TO : TabOk P T) (hR : R X s σ w a) {o : Oper} {e : TypeId} {p : Prop} {s' : St} (ho : o.op = .alloc e)
    (h : newV s o.dst (T.size e ≠ 0) (.cells (T.zero e)) (fun d => .ptr d s.c.c 0) = .go p s') (hp : p) : Does P X s σ s' w a o := by
  obtain ⟨d, hn, hs, rfl⟩ := newV_go h hp
  obtain ⟨i, hi, _, _, z, hz, hzo, _⟩ := TO.info e hs
  refine ⟨.value (.pointer (some ⟨w.heap.size, 0, none⟩)), _, w.alloc (.cells z.cells e), bind1 σ d w.heap.size, ?_, .inl rfl, ?_⟩
  · simp only [execOp, ho]
    simp [Instr.alloc, zeroValue, typeInfo, hi, hz, newVar, newRow]
  · refine R_new hR hn rfl ⟨rfl, rfl, rfl⟩ ⟨w.heap.size, z.cells, e, (0, 0), by simp [bind1], heap_new w _, free0 _, CellsOk_zero hzo⟩ ?_
    exact ⟨Lim.ok_new _ _, fun _ => ⟨w.heap.size, by simp [bind1], rfl⟩⟩

theorem box_ok (hR : R X s σ w a) {o : Oper} {e : TypeId} {x : Operand} {sv : SV} {l : List SV} {p : Prop} {s' : St} (ho : o.op = .box e x) (hx : V2 X s.b s.c σ w sv (a.eval x)) (hl : cellsOf s.b sv = some l)
    (h : newV s o.dst True (.cells l) (fun d => .ptr d s.c.c 0) = .go p s') (hp : p) : Does P X s σ s' w a o := by
  obtain ⟨d, hn, _, rfl⟩ := newV_go h hp
  refine ⟨.value (.pointer (some ⟨w.heap.size, 0, none⟩)), _, w.alloc (.cells (a.eval x).cells e), bind1 σ d w.heap.size, ?_, .inl rfl, ?_⟩
  · simp only [execOp, ho]
    simp [Instr.box, newVar, newRow]
  · refine R_new hR hn rfl ⟨rfl, rfl, rfl⟩ ⟨w.heap.size, (a.eval x).cells, e, (0, 0), by simp [bind1], heap_new w _, free0 _, ?_⟩ ?_
    · exact CellsOk.tr (Tr_new hR hn rfl) (cellsOf_ok hl hx)
    · exact ⟨Lim.ok_new _ _, fun _ => ⟨w.heap.size, by simp [bind1], rfl⟩⟩

theorem make_ok (TO : TabOk P T) (hR : R X s σ w a) {o : Oper} {t e : TypeId} {len cap : Operand} {k1 k2 k : IntKind} {n m : Int} {p : Prop} {s' : St} (ho : o.op = .makeSlice t len cap)
    (ht : T.ty t = .slice e) (he : T.ty e = .int k) (h1 : a.eval len = .int k1 n) (h2 : a.eval cap = .int k2 m)
    (h : newV s o.dst (T.size e = 1 ∧ zI k (T.zero e) ∧ n = m ∧ 0 ≤ n ∧ n * T.bytes e ≤ 281474976710656 ∧ n ≤ 4611686018427387904) (.vec (.ints k (List.replicate n.toNat 0))) (fun d => .slc d s.c.c 1 n.toNat n.toNat) = .go p s') (hp : p) : Does P X s σ s' w a o := by
  obtain ⟨d, hn, ⟨hs1, hzI, rfl, h0, hb, h63⟩, rfl⟩ := newV_go h hp
  obtain ⟨i, hi, his, hib, z, hz, hzo, _⟩ := TO.info e (by omega)
  have ht' := TO.ty t
  rw [ht] at ht'; simp only [tyOk] at ht'
  have hzc : z.cells = #[.int k 0] := by
    have : z.cells.toList = [.int k 0] := by
      cases hq : T.zero e with
      | nil => rw [hq] at hzI; simp [zI] at hzI
      | cons y r =>
        rw [hq] at hzI hzo
        cases r with
        | cons _ _ => cases y <;> simp [zI] at hzI
        | nil =>
          cases y <;> simp only [zI] at hzI
          obtain ⟨rfl, rfl⟩ := hzI
          obtain ⟨v, cs', e1, e2, e3⟩ := hzo
          rw [e1, show cs' = [] from e3]
          cases v <;> simp only [constSV, SV.int.injEq, reduceCtorEq] at e2
          · obtain ⟨rfl, rfl⟩ := e2; rfl
          all_goals (try (rename_i a1 a2 a3; cases a1 <;> (try cases a2) <;> (try cases a3) <;> simp only [constSV, reduceCtorEq] at e2))
    exact Array.ext' this
  have hr := run_make (P := P) w t e i z ht' hi hz k1 k2 n n h0 (Int.le_refl _) (by rw [hib, Int.mul_comm]; exact hb) (by omega)
  rw [his, hs1, Nat.mul_one, hzc] at hr
  have hget : ∀ j, j < n.toNat → (madeCells #[Value.int k 0] n.toNat)[j]? = some (.int k 0) := by
    intro j hj; simp [madeCells, hj, Nat.mod_one]
  refine ⟨.value (.slice (some ⟨w.heap.size, 0, none⟩) n.toNat n.toNat), _, w.alloc (.cells (madeCells #[Value.int k 0] n.toNat) e), bind1 σ d w.heap.size, ?_, .inl rfl, ?_⟩
  · simp only [execOp, ho, h1, h2]
    simp only [Sem.run_bind, hr, Result.andThen_ok, Sem.run_pure]
  · refine R_new hR hn rfl ⟨rfl, rfl, rfl⟩ (.inr ⟨w.heap.size, madeCells #[Value.int k 0] n.toNat, e, (0, 0), by simp [bind1], heap_new w _, free0 _, by simp [Data.len, Data.esz, size_madeCells], ?_, fun i hi => ⟨0, hget i (by simpa [size_madeCells] using hi)⟩, by rw [size_madeCells]; omega⟩) ?_
    · intro i j hi hj
      simp only [Data.esz] at hj
      obtain rfl : j = 0 := by omega
      simp only [Data.len, List.length_replicate] at hi
      refine ⟨.int k 0, ?_, ?_⟩
      · rw [World.cell?_alloc_new]; simpa [Data.esz] using hget i hi
      · simp [CellOk, List.getD, hi]
    · refine ⟨Lim.ok_new _ _, fun _ => ⟨_, rfl, Nat.le_refl _, fun _ => ⟨w.heap.size, by simp [bind1], rfl, ?_⟩⟩⟩
      simp only [blockSize, heap_new, size_madeCells]; omega
end

end Go.Proofs.YtdhnjmepgafeiaaDoor.Abs

/- OWN LIBRARY, part 9: stores, copies, lists that are written out, bytes of a string. -/
set_option linter.unusedVariables false
set_option linter.unusedSimpArgs false
namespace Go.Proofs.YtdhnjmepgafeiaaDoor.Abs
open Go

section
variable {P : Program} {T : Tab} {X : Ctx} {s : St} {σ : Env} {w : World} {a : Act}

/-- Cells of a named block are written over: what is then told of the block. -/
theorem store_does (hR : R X s σ w a) {o : Oper} {n g B off : Nat} {x x' : Blk} {cs : Array Value} {t : TypeId} {fr : Nat × Nat} {vs : List Value} {u : Value} {sv : SV}
    (hn : fnd s.b n = some (g, x)) (hB : σ n = some B) (hold : w.heap[B]? = some (.cells cs t fr)) (hfree : Free fr cs.size) (hlen : off + vs.length ≤ cs.size) (h1 : ∀ v ∈ vs, v.oneCell' = true)
    (hrun : ∀ w', (storeCells ⟨B, off, none⟩ vs).run P w = .ok () w' → ∃ nx, (execOp a.eval o).run P w = .ok nx w' ∧ (nx = .value u ∨ (nx = .skip ∧ u = undef)))
    (hx : ∀ w' (cs' : Array Value), cs'.toList = cs.toList.take off ++ vs ++ cs.toList.drop (off + vs.length) → Wrote B w w' cs' t fr → Tr X s.b s.c σ w (upd s.b n g x') s.c σ w' → BlkOk X (upd s.b n g x') s.c σ w' n x')
    (hv : ∀ w', V X (upd s.b n g x') s.c σ w' sv u) : Does P X s σ ⟨setD s.t o.dst sv, upd s.b n g x', s.c⟩ w a o := by
  obtain ⟨w', cs', hr, hW, he⟩ := storeCells_run (P := P) (o := off) vs 0 cs w hold hfree (by omega) h1
  simp only [Nat.add_zero] at he
  have hsz : cs'.size = cs.size := by
    have := congrArg List.length he
    simp only [Array.length_toList, List.length_append, List.length_take, List.length_drop] at this
    omega
  obtain ⟨nx, hex, hnx⟩ := hrun w' hr
  exact ⟨nx, u, w', σ, hex, hnx, R_write hR hn hB hold hW hsz (hx w' cs' he hW (Tr_write hR hn hB hold hW hsz)) (hv w')⟩

theorem run_store_one (TO : TabOk P T) {o : Oper} {t : TypeId} {x y : Operand} {B off : Nat} {vs : List Value} (ho : o.op = .store t x y) (ha : a.eval x = .pointer (some ⟨B, off, none⟩)) (hc : (a.eval y).cells.toList = vs) (hs : T.size t = vs.length) (h0 : T.size t ≠ 0) :
    ∀ w', (storeCells ⟨B, off, none⟩ vs).run P w = .ok () w' → ∃ nx, (execOp a.eval o).run P w = .ok nx w' ∧ (nx = .value undef ∨ (nx = .skip ∧ undef = undef)) := by
  intro w' hr
  refine ⟨.skip, ?_, .inr ⟨rfl, rfl⟩⟩
  have hsz : (a.eval y).cells.size = T.size t := by rw [hs, ← hc]; simp
  simp only [execOp, ho, Instr.storeAt, ha]
  simp [Instr.sureAddr, storeVar, size_run TO h0, hsz, hc, hr]

theorem list_set_seg (l : List Value) (i : Nat) (v : Value) (h : i < l.length) : l.set i v = l.take i ++ [v] ++ l.drop (i + 1) := by
  rw [List.set_eq_take_append_cons_drop, if_pos h]; simp

theorem store_ptr_ok (TO : TabOk P T) (hR : R X s σ w a) {o : Oper} {t : TypeId} {x y : Operand} {n g off : Nat} {sv : SV} {l l2 : List SV} (ho : o.op = .store t x y)
    (hx : V2 X s.b s.c σ w (.ptr n g off) (a.eval x)) (hy : V2 X s.b s.c σ w sv (a.eval y)) (hb : blkAt s.b n g = some (.cells l)) (hsc : scal s.b sv = true) (hl : setC l off sv = some l2) (h1 : T.size t = 1) :
    Does P X s σ ⟨setD s.t o.dst .any, upd s.b n g (.cells l2), s.c⟩ w a o := by
  obtain ⟨_, hlv⟩ := hx
  obtain ⟨B, hB, ha⟩ := hlv (blkAt_live hb)
  obtain ⟨B', cs, ty, fr, hB', hheap, hfree, hcells⟩ := (hR.bl n g _ (blkAt_fnd hb)).2.1
  obtain rfl : B = B' := by simpa using hB.symm.trans hB'
  obtain ⟨hc1, hone, hv0⟩ := scal_cells hsc hy
  obtain ⟨hlt, hok⟩ := setC_ok hcells hl hv0
  have hlt' : off < cs.size := by simpa using hlt
  refine store_does hR (blkAt_fnd hb) hB hheap hfree (vs := [a.eval y]) (off := off) (by simp; omega) (by simp [hone]) (run_store_one TO ho ha (by rw [hc1]) (by simp [h1]) (by omega)) ?_ (fun w' => V.any _)
  intro w' cs' he hW hT
  refine ⟨B, cs', ty, fr, hB, hW.here, ?_, ?_⟩
  · have : cs'.size = cs.size := by
      have := congrArg List.length he
      simp only [Array.length_toList, List.length_append, List.length_take, List.length_drop, List.length_cons, List.length_nil] at this
      omega
    rw [this]; exact hfree
  · rw [he, List.length_singleton, ← list_set_seg _ _ _ hlt]
    exact hok.tr hT

theorem store_arr_ok (TO : TabOk P T) (hR : R X s σ w a) {o : Oper} {t : TypeId} {x y : Operand} {n g off m : Nat} {k : IntKind} {l l2 : List SV} {l' l0 : List Int} (ho : o.op = .store t x y)
    (hx : V2 X s.b s.c σ w (.ptr n g off) (a.eval x)) (hy : V2 X s.b s.c σ w (.arr k m l') (a.eval y)) (hb : blkAt s.b n g = some (.cells l)) (hl0 : arrAt l off = some (k, m, l0)) (hl : setA l off l' = some l2) (h1 : T.size t = m) (h0 : m ≠ 0) :
    Does P X s σ ⟨setD s.t o.dst .any, upd s.b n g (.cells l2), s.c⟩ w a o := by
  obtain ⟨_, hlv⟩ := hx
  obtain ⟨B, hB, ha⟩ := hlv (blkAt_live hb)
  obtain ⟨B', cs, ty, fr, hB', hheap, hfree, hcells⟩ := (hR.bl n g _ (blkAt_fnd hb)).2.1
  obtain rfl : B = B' := by simpa using hB.symm.trans hB'
  obtain ⟨hy1, hy2⟩ := (hy : _ ∧ _)
  obtain ⟨g1, g2, g3⟩ := arrAt_len hcells hl0
  have hok := setA_ok hcells hl0 hl hy2
  have hlc : cs.toList.length = cs.size := by simp
  refine store_does hR (blkAt_fnd hb) hB hheap hfree (vs := l'.map (.int k)) (off := off) (by simp; omega) (by intro v hv; obtain ⟨q, _, rfl⟩ := List.mem_map.1 hv; rfl) (run_store_one TO ho ha (by rw [hy1]; simp [Value.cells]) (by simp [h1, hy2]) (by omega)) ?_ (fun w' => V.any _)
  intro w' cs' he hW hT
  refine ⟨B, cs', ty, fr, hB, hW.here, ?_, ?_⟩
  · have : cs'.size = cs.size := by
      have := congrArg List.length he
      simp only [Array.length_toList, List.length_append, List.length_take, List.length_drop, List.length_map] at this
      omega
    rw [this]; exact hfree
  · rw [he, List.length_map, hy2]
    exact hok.tr hT

theorem okC_one {b : List (Nat × Nat × Blk)} {c : Lim} : ∀ {m : List SV} {cs : List Value}, okC b m = true → CellsOk X b c σ w m cs → ∀ v ∈ cs, v.oneCell' = true
  | [], cs, _, h => by rw [show cs = [] from h]; simp
  | x :: r, cs, hk, h => by
    cases x
    case arr k n l =>
      simp only [okC] at hk
      obtain ⟨h1, cs', rfl, h2⟩ := h
      intro v hv
      rcases List.mem_append.1 hv with hv | hv
      · obtain ⟨q, _, rfl⟩ := List.mem_map.1 hv; rfl
      · exact okC_one hk h2 v hv
    case lit z =>
      obtain ⟨v, cs', rfl, h1, h2⟩ := h
      obtain rfl : v = z := h1
      intro u hu
      unfold okC at hk
      split at hk
      · rename_i e; cases e
      · rename_i e; cases e
      · rename_i e
        simp only [List.cons.injEq, SV.lit.injEq] at e
        obtain ⟨rfl, rfl⟩ := e
        rcases List.mem_cons.1 hu with rfl | hu
        · rfl
        · exact okC_one hk h2 u hu
      · rename_i e
        simp only [List.cons.injEq] at e
        obtain ⟨rfl, rfl⟩ := e
        simp [scal] at hk
    all_goals
      simp only [okC, Bool.and_eq_true] at hk
      obtain ⟨v, cs', rfl, h1, h2⟩ := h
      intro u hu
      rcases List.mem_cons.1 hu with rfl | hu
      · exact (scal_cells hk.1 (V2_of_V1 (V1_of_V0 h1))).2.1
      · exact okC_one hk.2 h2 u hu

theorem store_agg_ok (TO : TabOk P T) (hR : R X s σ w a) {o : Oper} {t : TypeId} {x y : Operand} {n g off : Nat} {l m p q : List SV} (ho : o.op = .store t x y)
    (hx : V2 X s.b s.c σ w (.ptr n g off) (a.eval x)) (hy : V2 X s.b s.c σ w (.agg m) (a.eval y)) (hb : blkAt s.b n g = some (.cells l)) (hk : okC s.b m = true)
    (hp : takeC l off = some p) (hq : dropC l (off + T.size t) = some q) (h1 : cntC m = T.size t) (h0 : T.size t ≠ 0) :
    Does P X s σ ⟨setD s.t o.dst .any, upd s.b n g (.cells (p ++ m ++ q)), s.c⟩ w a o := by
  obtain ⟨_, hlv⟩ := hx
  obtain ⟨B, hB, ha⟩ := hlv (blkAt_live hb)
  obtain ⟨B', cs, ty, fr, hB', hheap, hfree, hcells⟩ := (hR.bl n g _ (blkAt_fnd hb)).2.1
  obtain rfl : B = B' := by simpa using hB.symm.trans hB'
  obtain ⟨vs, hy1, hy2⟩ := hy
  obtain ⟨g1, g2⟩ := takeC_ok hcells hp
  obtain ⟨g3, g4⟩ := dropC_ok hcells hq
  have hn := cntC_ok hy2
  have hlc : cs.toList.length = cs.size := by simp
  have hvl : vs.toList.length = T.size t := by rw [← hn, h1]
  refine store_does hR (blkAt_fnd hb) hB hheap hfree (vs := vs.toList) (off := off) (by omega) (okC_one hk hy2) (run_store_one TO ho ha (by rw [hy1]; rfl) hvl.symm h0) ?_ (fun w' => V.any _)
  intro w' cs' he hW hT
  refine ⟨B, cs', ty, fr, hB, hW.here, ?_, ?_⟩
  · have : cs'.size = cs.size := by
      have := congrArg List.length he
      have hv2 : vs.size = T.size t := by rw [← hvl]; simp
      simp only [Array.length_toList, List.length_append, List.length_take, List.length_drop] at this hlc g3
      omega
    rw [this]; exact hfree
  · rw [he, hvl]
    exact (CellsOk_app (CellsOk_app g2 hy2) g4).tr hT

theorem take_map_set (l : List Int) (k : IntKind) (i : Nat) (v : Int) (cs : List Value) (o n : Nat) (hl : l.length = n) (hi : i < n) (hn : o + n ≤ cs.length) (hcs : ∀ j, j < n → cs[o + j]? = some (.int k (l.getD j 0))) :
    cs.take o ++ (l.set i v).map (.int k) ++ cs.drop (o + n) = cs.take (o + i) ++ [.int k v] ++ cs.drop (o + i + 1) := by
  have e1 : cs = cs.take o ++ l.map (.int k) ++ cs.drop (o + n) := by
    have h2 : (cs.drop o).take n = l.map (.int k) := by
      apply List.ext_getElem?
      intro j
      by_cases hj : j < n
      · rw [List.getElem?_take, if_pos hj, List.getElem?_drop, hcs j hj, map_getD _ _ _ (by omega)]
      · rw [List.getElem?_eq_none (by simp; omega), List.getElem?_eq_none (by simp; omega)]
    rw [← h2, List.append_assoc, ← List.drop_drop, List.take_append_drop, List.take_append_drop]
  rw [← list_set_seg _ _ _ (by omega)]
  conv => rhs; rw [e1]
  rw [List.set_append, if_pos (by simp; omega), List.set_append, if_neg (by simp; omega), List.map_set]
  have : (cs.take o).length = o := by simp; omega
  rw [this, Nat.add_sub_cancel_left]

theorem store_eptr_cells_ok (TO : TabOk P T) (hR : R X s σ w a) {o : Oper} {t : TypeId} {x y : Operand} {n g seg i m n' : Nat} {k : IntKind} {v : Int} {l l2 : List SV} {l' : List Int} (ho : o.op = .store t x y)
    (hx : V2 X s.b s.c σ w (.eptr n g seg 1 i m) (a.eval x)) (hy : a.eval y = .int k v) (hb : blkAt s.b n g = some (.cells l)) (hl0 : arrAt l seg = some (k, n', l')) (hl : setA l seg (l'.set i v) = some l2) (hm : m ≤ n') (h1 : T.size t = 1) :
    Does P X s σ ⟨setD s.t o.dst .any, upd s.b n g (.cells l2), s.c⟩ w a o := by
  obtain ⟨him, _, hlv⟩ := hx
  obtain ⟨B, hB, ha⟩ := hlv (blkAt_live hb)
  obtain ⟨B', cs, ty, fr, hB', hheap, hfree, hcells⟩ := (hR.bl n g _ (blkAt_fnd hb)).2.1
  obtain rfl : B = B' := by simpa using hB.symm.trans hB'
  obtain ⟨g1, g2, g3⟩ := arrAt_len hcells hl0
  have hok := setA_ok hcells hl0 hl (by simp [g2])
  have hlc : cs.toList.length = cs.size := by simp
  rw [Nat.mul_one] at ha
  rw [take_map_set l' k i v _ _ _ g2 (by omega) g1 g3] at hok
  refine store_does hR (blkAt_fnd hb) hB hheap hfree (vs := [.int k v]) (off := seg + i) (by simp; omega) (by simp [Value.oneCell']) (run_store_one TO ho ha (by rw [hy]; simp [Value.cells]) (by simp [h1]) (by omega)) ?_ (fun w' => V.any _)
  intro w' cs' he hW hT
  refine ⟨B, cs', ty, fr, hB, hW.here, ?_, ?_⟩
  · have : cs'.size = cs.size := by
      have := congrArg List.length he
      simp only [Array.length_toList, List.length_append, List.length_take, List.length_drop, List.length_cons, List.length_nil] at this
      omega
    rw [this]; exact hfree
  · rw [he, List.length_singleton]
    exact hok.tr hT

/-- The numbers at the begin of a block are known; some are written over. -/
theorem holds_ints {vw : Bool → Nat → Prop} {B : Nat} {k : IntKind} {l : List Int} {cs : Array Value} {t : TypeId} {fr : Nat × Nat} (hheap : w.heap[B]? = some (.cells cs t fr)) :
    Holds vw w B 0 (.ints k l) ↔ ∀ i, i < l.length → cs[i]? = some (.int k (l.getD i 0)) := by
  constructor
  · intro h i hi
    obtain ⟨x, hx, hc⟩ := h i 0 hi (by simp [Data.esz])
    simp only [Data.esz, Nat.mul_one, Nat.zero_add, Nat.add_zero] at hx
    rw [cell_block hheap] at hx
    rw [hx, show x = _ from hc]
  · intro h i j hi hj
    simp only [Data.esz] at hj
    obtain rfl : j = 0 := by omega
    refine ⟨_, ?_, rfl⟩
    simp only [Data.esz, Nat.mul_one, Nat.zero_add, Nat.add_zero]
    rw [cell_block hheap]
    exact h i hi

theorem store_eptr_vec_ok (TO : TabOk P T) (hR : R X s σ w a) {o : Oper} {t : TypeId} {x y : Operand} {n g i m : Nat} {k : IntKind} {v : Int} {l : List Int} (ho : o.op = .store t x y)
    (hx : V2 X s.b s.c σ w (.eptr n g 0 1 i m) (a.eval x)) (hy : a.eval y = .int k v) (hb : blkAt s.b n g = some (.vec (.ints k l))) (hm : m ≤ l.length) (h1 : T.size t = 1) :
    Does P X s σ ⟨setD s.t o.dst .any, upd s.b n g (.vec (.ints k (l.set i v))), s.c⟩ w a o := by
  obtain ⟨him, _, hlv⟩ := hx
  obtain ⟨B, hB, ha⟩ := hlv (blkAt_live hb)
  rcases (hR.bl n g _ (blkAt_fnd hb)).2.1 with ⟨hno, _⟩ | ⟨B', cs, ty, fr, hB', hheap, hfree, hsz, hh, hft⟩
  · rw [hno] at hB; simp at hB
  obtain rfl : B = B' := by simpa using hB.symm.trans hB'
  simp only [Data.len, Data.esz, Nat.mul_one] at hsz
  rw [holds_ints hheap] at hh
  rw [Nat.mul_one, Nat.zero_add] at ha
  refine store_does hR (blkAt_fnd hb) hB hheap hfree (vs := [.int k v]) (off := i) (by simp; omega) (by simp [Value.oneCell']) (run_store_one TO ho ha (by rw [hy]; simp [Value.cells]) (by simp [h1]) (by omega)) ?_ (fun w' => V.any _)
  intro w' cs' he hW hT
  have hs' : cs'.size = cs.size := by
    have := congrArg List.length he
    simp only [Array.length_toList, List.length_append, List.length_take, List.length_drop, List.length_cons, List.length_nil] at this
    omega
  refine .inr ⟨B, cs', ty, fr, hB, hW.here, by rw [hs']; exact hfree, by simp [Data.len, Data.esz, hs']; omega, ?_⟩
  have e1 : cs'.toList = cs.toList.set i (.int k v) := by rw [he, List.length_singleton, ← list_set_seg _ _ _ (by simp; omega)]
  refine ⟨?_, fun q hq => ?_, by rw [hs']; exact hft.2⟩
  rotate_left
  · rw [← Array.getElem?_toList, e1, List.getElem?_set]
    by_cases e : i = q
    · subst e; exact ⟨v, by simp [show i < cs.size by omega]⟩
    · rw [if_neg e]
      obtain ⟨z, hz⟩ := hft.1 q (by omega)
      exact ⟨z, by rw [← hz, Array.getElem?_toList]⟩
  rw [holds_ints hW.here]
  intro j hj
  rw [List.length_set] at hj
  rw [← Array.getElem?_toList, e1, List.getElem?_set]
  by_cases e : i = j
  · subst e; simp [List.getD, hj, show i < cs.size by omega]
  · rw [if_neg e]
    have := hh j hj
    rw [← Array.getElem?_toList] at this
    rw [this]
    simp [List.getD, List.getElem?_set, e]
end

end Go.Proofs.YtdhnjmepgafeiaaDoor.Abs
