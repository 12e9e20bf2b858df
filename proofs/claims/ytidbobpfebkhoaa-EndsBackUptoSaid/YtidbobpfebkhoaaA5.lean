/- OWN LIBRARY, part 5: loads; all operations that leave memory as it is. -/
import Derived.Test.YtidbobpfebkhoaaA4
import Derived.Laws.Cells
set_option linter.unusedVariables false
set_option linter.unusedSimpArgs false
namespace Go.Proofs.Ytidbobpfebkhoaa.Abs
open Go

section
variable {P : Program} {T : Tab} {X : Ctx} {b : List (Nat × Nat × Blk)} {c : Lim} {σ : Env} {w : World}

theorem cellAt_ok {l : List SV} {cs : List Value} {o : Nat} {x : SV} (h : CellsOk X b c σ w l cs) (e : cellAt l o = some x) : ∃ v, cs[o]? = some v ∧ V0 X b c σ w x v := by
  induction l generalizing cs o with
  | nil => simp [cellAt] at e
  | cons y r ih =>
    cases y
    case arr k n m =>
      obtain ⟨h1, cs', rfl, h2⟩ := h
      simp only [cellAt] at e
      split at e
      · rename_i ho
        simp only [Option.some.injEq] at e
        subst e
        refine ⟨.int k (m.getD o 0), ?_, rfl⟩
        rw [List.getElem?_append_left (by simp; omega), List.getElem?_map]
        simp [List.getD, show o < m.length by omega]
      · obtain ⟨v, hv, h3⟩ := ih h2 e
        refine ⟨v, ?_, h3⟩
        rw [List.getElem?_append_right (by simp; omega), ← hv]
        congr 1; simp; omega
    all_goals
      obtain ⟨v, cs', rfl, h1, h2⟩ := h
      simp only [cellAt] at e
      split at e
      · rename_i ho
        simp only [Option.some.injEq] at e
        subst e; subst ho
        exact ⟨v, rfl, h1⟩
      · obtain ⟨v', hv, h3⟩ := ih h2 e
        refine ⟨v', ?_, h3⟩
        rw [← hv, show o = (o - 1) + 1 by omega, List.getElem?_cons_succ]; rfl

theorem dropC_ok {l m : List SV} {cs : List Value} {o : Nat} (h : CellsOk X b c σ w l cs) (e : dropC l o = some m) : o ≤ cs.length ∧ CellsOk X b c σ w m (cs.drop o) := by
  induction l generalizing cs o with
  | nil =>
    cases o with
    | zero => simp only [dropC, Option.some.injEq] at e; subst e; exact ⟨by omega, h⟩
    | succ o => simp [dropC] at e
  | cons y r ih =>
    cases o with
    | zero => simp only [dropC, Option.some.injEq] at e; subst e; exact ⟨by omega, h⟩
    | succ o =>
      cases y
      case arr k n q =>
        obtain ⟨h1, cs', rfl, h2⟩ := h
        simp only [dropC] at e
        split at e
        · obtain ⟨g1, g2⟩ := ih h2 e
          refine ⟨by simp; omega, ?_⟩
          rw [List.drop_append, List.drop_eq_nil_of_le (by simp; omega), List.nil_append, List.length_map, h1]
          exact g2
        · simp at e
      all_goals
        obtain ⟨v, cs', rfl, h1, h2⟩ := h
        simp only [dropC] at e
        obtain ⟨g1, g2⟩ := ih h2 e
        exact ⟨by simp; omega, by simpa using g2⟩

theorem takeC_ok {l m : List SV} {cs : List Value} {n : Nat} (h : CellsOk X b c σ w l cs) (e : takeC l n = some m) : n ≤ cs.length ∧ CellsOk X b c σ w m (cs.take n) := by
  induction l generalizing cs n m with
  | nil =>
    cases n with
    | zero => simp only [takeC, Option.some.injEq] at e; subst e; exact ⟨by omega, by simp [CellsOk]⟩
    | succ o => simp [takeC] at e
  | cons y r ih =>
    cases n with
    | zero => simp only [takeC, Option.some.injEq] at e; subst e; exact ⟨by omega, by simp [CellsOk]⟩
    | succ o =>
      cases y
      case arr k n q =>
        obtain ⟨h1, cs', rfl, h2⟩ := h
        simp only [takeC] at e
        split at e
        · cases e2 : takeC r (o + 1 - n) <;> simp only [e2, Option.map_none, Option.map_some, reduceCtorEq, Option.some.injEq] at e
          subst e
          obtain ⟨g1, g2⟩ := ih h2 e2
          refine ⟨by simp; omega, h1, cs'.take (o + 1 - n), ?_, g2⟩
          rw [List.take_append, List.take_of_length_le (by simp; omega), List.length_map, h1]
        · simp at e
      all_goals
        obtain ⟨v, cs', rfl, h1, h2⟩ := h
        simp only [takeC] at e
        cases e2 : takeC r o <;> simp only [e2, Option.map_none, Option.map_some, reduceCtorEq, Option.some.injEq] at e
        subst e
        obtain ⟨g1, g2⟩ := ih h2 e2
        exact ⟨by simp; omega, v, cs'.take o, rfl, h1, g2⟩

theorem isRow_view {l : List Int} {tag : Bool} {v : Value} (h : IsRow (Vw X b σ w tag) w l v) : IsView (Vw X b σ w) w tag (.ints .u8 l) v := by
  obtain ⟨a, cap, rfl, h1, h2⟩ := h
  refine ⟨a, cap, rfl, h1, fun hne => ?_⟩
  obtain ⟨B, o, rfl, hv, hc⟩ := h2 hne
  refine ⟨B, o, rfl, hv, fun i j hi hj => ⟨_, ?_, rfl⟩⟩
  have : j = 0 := by simp [Data.esz] at hj; exact hj
  subst this
  simpa [Data.esz] using hc i hi

theorem elemV_ok {d : Data} {i j : Nat} {v : Value} (h : CellOk (Vw X b σ w) w i j d v) : V0 X b c σ w (elemV i j d) v := by
  cases d
  case rows t l => exact isRow_view h
  case locks l =>
    match j, h with
    | 0, h => exact h
    | 1, h => exact h
    | 2, h => exact h
    | _ + 3, h => exact h
  case ents l =>
    match j, h with
    | 0, h => exact h
    | 1, h => exact h
    | _ + 2, h => exact h
  all_goals exact h

theorem isAgg_one (TO : TabOk P T) {t : TypeId} (h : one (T.ty t) = true) : (isAgg t).run P w = .ok false w := by
  have ht := TO.ty t
  cases e : T.ty t <;> rw [e] at ht h <;> simp only [tyOk, one, Bool.false_eq_true] at ht h
  all_goals simp [isAgg, run_underlying ht]

theorem isAgg_struct (TO : TabOk P T) {t : TypeId} {fs : List (Nat × TypeId)} (h : T.ty t = .struct fs) : (isAgg t).run P w = .ok true w := by
  have ht := TO.ty t
  rw [h] at ht; simp only [tyOk] at ht
  obtain ⟨f, hf, _⟩ := ht
  simp [isAgg, run_underlying hf]

theorem isAgg_array (TO : TabOk P T) {t e : TypeId} {n : Nat} (h : T.ty t = .array n e) : (isAgg t).run P w = .ok true w := by
  have ht := TO.ty t
  rw [h] at ht; simp only [tyOk] at ht
  simp [isAgg, run_underlying ht]

theorem load_run {a : Addr} {v : Value} (h : w.cell? a = some v) : (load a).run P w = .ok v w := by simp [load, Sem.run, h]

theorem loadCells_run {B o : Nat} {cs : List Value} (h : ∀ j v, cs[j]? = some v → w.cell? ⟨B, o + j, none⟩ = some v) : (loadCells ⟨B, o, none⟩ cs.length).run P w = .ok cs.toArray w :=
  run_loadCells_list w ⟨B, o, none⟩ cs (fun j v hj => by rw [addr_add]; exact h j v hj)

theorem cell_block {B o : Nat} {cs : Array Value} {t : TypeId} {fr : Nat × Nat} (h : w.heap[B]? = some (.cells cs t fr)) : w.cell? ⟨B, o, none⟩ = cs[o]? := by simp [World.cell?, h]

theorem loadV_ok (TO : TabOk P T) {t : TypeId} {x : SV} {x' : Value} {p : Prop} {v : SV} (h : loadV T b t x = some (p, v)) (hp : p)
    (hx : V2 X b c σ w x x') (hbl : ∀ n g y, fnd b n = some (g, y) → BlkOk X b c σ w n y) :
    ∃ u, (Instr.loadAt t x').run P w = .ok u w ∧ V2 X b c σ w v u := by
  cases x <;> simp only [loadV, reduceCtorEq] at h
  case ptr n g off =>
    cases eb : blkAt b n g <;> simp only [eb, reduceCtorEq] at h
    rename_i bk
    cases bk <;> simp only [reduceCtorEq] at h
    rename_i l
    obtain ⟨hc, hl⟩ := hx
    obtain ⟨B, hB, rfl⟩ := hl (blkAt_live eb)
    obtain ⟨B', cs, ty, fr, hB', hheap, hfree, hcells⟩ := hbl n g _ (blkAt_fnd eb)
    obtain rfl : B = B' := by simpa using hB.symm.trans hB'
    have oneCase : one (T.ty t) = true → (∀ y, cellAt l off = some y → some (True, y) = some (p, v) → ∃ u, (Instr.loadAt t (.pointer (some ⟨B, off, none⟩))).run P w = .ok u w ∧ V2 X b c σ w v u) := by
      intro h1 y hy e
      simp only [Option.some.injEq, Prod.mk.injEq] at e
      obtain ⟨_, rfl⟩ := e
      obtain ⟨u, hu, hv⟩ := cellAt_ok hcells hy
      refine ⟨u, ?_, V2_of_V1 (V1_of_V0 hv)⟩
      have hcell : w.cell? ⟨B, off, none⟩ = some u := by rw [cell_block hheap]; simpa using hu
      simp only [Instr.loadAt, Instr.sureAddr, loadVar, Sem.run_bind, Sem.run_pure, Result.andThen_ok, isAgg_one TO h1, load_run hcell, Bool.false_eq_true, if_false]
    cases e : T.ty t <;> simp only [e] at h
    case struct fs =>
      cases ed : (dropC l off).bind (takeC · (T.size t)) <;> simp only [ed, reduceCtorEq, Option.some.injEq, Prod.mk.injEq] at h
      rename_i m
      obtain ⟨rfl, rfl⟩ := h
      cases ed2 : dropC l off <;> simp only [ed2, Option.bind_none, Option.bind_some, reduceCtorEq] at ed
      obtain ⟨g1, g2⟩ := dropC_ok hcells ed2
      obtain ⟨g3, g4⟩ := takeC_ok g2 ed
      refine ⟨.agg ((cs.toList.drop off).take (T.size t)).toArray, ?_, _, rfl, by simpa using g4⟩
      have hln : ((cs.toList.drop off).take (T.size t)).length = T.size t := by rw [List.length_take]; omega
      have hlc := loadCells_run (P := P) (w := w) (B := B) (o := off) (cs := (cs.toList.drop off).take (T.size t)) (by
        intro j v hj
        rw [cell_block hheap]
        rw [List.getElem?_take] at hj
        split at hj
        · simpa using hj
        · simp at hj)
      rw [hln] at hlc
      simp [Instr.loadAt, Instr.sureAddr, loadVar, isAgg_struct TO e, size_run TO hp, hlc]
    case array m el =>
      cases ea : arrAt l off <;> simp only [ea, reduceCtorEq, Option.some.injEq, Prod.mk.injEq] at h
      rename_i q
      obtain ⟨k, m', l'⟩ := q
      simp only at h
      obtain ⟨rfl, rfl⟩ := h
      obtain ⟨rfl, hs, hm0⟩ := hp
      obtain ⟨g1, g2, g3⟩ := arrAt_len hcells ea
      have hlc := loadCells_run (P := P) (w := w) (B := B) (o := off) (cs := l'.map (.int k)) (by
        intro j v hj
        rw [cell_block hheap]
        rw [List.getElem?_map] at hj
        have hjl : j < l'.length := by
          rcases Nat.lt_or_ge j l'.length with h | h
          · exact h
          · simp [List.getElem?_eq_none h] at hj
        have := g3 j (by omega)
        simp only [List.getD, List.getElem?_eq_getElem hjl, Option.getD_some, Option.map_some, Option.some.injEq] at this hj
        subst hj
        simpa using this)
      rw [List.length_map, g2] at hlc
      refine ⟨.agg (l'.map (.int k)).toArray, ?_, rfl, g2⟩
      simp [Instr.loadAt, Instr.sureAddr, loadVar, isAgg_array TO e, size_run TO (t := t) (by omega), hs, hlc]
    case other => simp at h
    all_goals
      cases ec : cellAt l off <;> simp only [ec, reduceCtorEq] at h
      exact oneCase (by rw [e]; rfl) _ ec h
  case eptr n g seg e i m =>
    obtain ⟨him, hc, hl⟩ := hx
    cases eb : blkAt b n g <;> simp only [eb, reduceCtorEq] at h
    rename_i bk
    obtain ⟨B, hB, rfl⟩ := hl (blkAt_live eb)
    cases bk <;> simp only [reduceCtorEq] at h
    case vec d =>
      have key : one (T.ty t) = true → some (seg = 0 ∧ e = 1 ∧ d.esz = 1 ∧ m ≤ d.len, elemV i 0 d) = some (p, v) → ∃ u, (Instr.loadAt t (.pointer (some ⟨B, seg + i * e, none⟩))).run P w = .ok u w ∧ V2 X b c σ w v u := by
        intro h1 hh
        simp only [Option.some.injEq, Prod.mk.injEq] at hh
        obtain ⟨rfl, rfl⟩ := hh
        obtain ⟨rfl, rfl, h3, h4⟩ := hp
        rcases hbl n g _ (blkAt_fnd eb) with ⟨hn, _⟩ | ⟨B', cs, ty, fr, hB', hheap, hfree, hsz, hh⟩
        · rw [hn] at hB; simp at hB
        obtain rfl : B = B' := by simpa using hB.symm.trans hB'
        obtain ⟨u, hu, hcell⟩ := hh i 0 (by omega) (by omega)
        rw [h3] at hu
        refine ⟨u, ?_, V2_of_V1 (V1_of_V0 (elemV_ok hcell))⟩
        have hu' : w.cell? ⟨B, 0 + i * 1, none⟩ = some u := by simpa using hu
        simp only [Instr.loadAt, Instr.sureAddr, loadVar, Sem.run_bind, Sem.run_pure, Result.andThen_ok, isAgg_one TO h1, load_run hu', Bool.false_eq_true, if_false]
      cases e2 : T.ty t <;> simp only [e2, reduceCtorEq] at h
      all_goals exact key (by rw [e2]; rfl) h
    case cells l =>
      cases e2 : T.ty t <;> simp only [e2, reduceCtorEq] at h
      cases ea : arrAt l seg <;> simp only [ea, reduceCtorEq, Option.some.injEq, Prod.mk.injEq] at h
      rename_i q
      obtain ⟨k, n', l'⟩ := q
      simp only at h
      obtain ⟨rfl, rfl⟩ := h
      obtain ⟨rfl, hmn⟩ := hp
      obtain ⟨B', cs, ty, fr, hB', hheap, hfree, hcells⟩ := hbl n g _ (blkAt_fnd eb)
      obtain rfl : B = B' := by simpa using hB.symm.trans hB'
      obtain ⟨g1, g2, g3⟩ := arrAt_len hcells ea
      have hu' : w.cell? ⟨B, seg + i * 1, none⟩ = some (.int k (l'.getD i 0)) := by
        rw [cell_block hheap, Nat.mul_one]
        simpa using g3 i (by omega)
      refine ⟨_, ?_, rfl⟩
      simp only [Instr.loadAt, Instr.sureAddr, loadVar, Sem.run_bind, Sem.run_pure, Result.andThen_ok, isAgg_one TO (t := t) (by rw [e2]; rfl), load_run hu', Bool.false_eq_true, if_false]
  case vptr tag d i j =>
    obtain ⟨hi, B, o, rfl, hvw, hh⟩ := hx
    have key : one (T.ty t) = true → some (j < d.esz, elemV i j d) = some (p, v) → ∃ u, (Instr.loadAt t (.pointer (some ⟨B, o + i * d.esz + j, none⟩))).run P w = .ok u w ∧ V2 X b c σ w v u := by
      intro h1 e
      simp only [Option.some.injEq, Prod.mk.injEq] at e
      obtain ⟨rfl, rfl⟩ := e
      obtain ⟨u, hu, hcell⟩ := hh i j hi hp
      refine ⟨u, ?_, V2_of_V1 (V1_of_V0 (elemV_ok hcell))⟩
      simp only [Instr.loadAt, Instr.sureAddr, loadVar, Sem.run_bind, Sem.run_pure, Result.andThen_ok, isAgg_one TO h1, load_run hu, Bool.false_eq_true, if_false]
    cases e2 : T.ty t <;> simp only [e2, reduceCtorEq] at h
    case struct fs =>
      cases d <;> simp only [reduceCtorEq, Option.some.injEq, Prod.mk.injEq] at h
      case locks l =>
        obtain ⟨rfl, rfl⟩ := h
        obtain ⟨hs, rfl⟩ := hp
        obtain ⟨u0, hu0, c0⟩ := hh i 0 hi (by simp [Data.esz])
        obtain ⟨u1, hu1, c1⟩ := hh i 1 hi (by simp [Data.esz])
        obtain ⟨u2, hu2, c2⟩ := hh i 2 hi (by simp [Data.esz])
        obtain ⟨u3, hu3, c3⟩ := hh i 3 hi (by simp [Data.esz])
        have hlc := loadCells_run (P := P) (w := w) (B := B) (o := o + i * 4 + 0) (cs := [u0, u1, u2, u3]) (by
          intro j v hj
          match j, hj with
          | 0, hj => simpa using hj ▸ hu0
          | 1, hj => simpa using hj ▸ hu1
          | 2, hj => simpa using hj ▸ hu2
          | 3, hj => simpa using hj ▸ hu3
          | n + 4, hj => simp at hj)
        refine ⟨.agg #[u0, u1, u2, u3], ?_, _, rfl, u0, _, rfl, elemV_ok c0, u1, _, rfl, elemV_ok c1, u2, _, rfl, elemV_ok c2, u3, _, rfl, elemV_ok c3, rfl⟩
        simp only [List.length_cons, List.length_nil, Nat.zero_add, Nat.reduceAdd] at hlc
        simp [Instr.loadAt, Instr.sureAddr, loadVar, isAgg_struct TO e2, size_run TO (t := t) (by omega), hs, Data.esz] at hlc ⊢
        simp [hlc]
      case ents l =>
        obtain ⟨rfl, rfl⟩ := h
        obtain ⟨hs, rfl⟩ := hp
        obtain ⟨u0, hu0, c0⟩ := hh i 0 hi (by simp [Data.esz])
        obtain ⟨u1, hu1, c1⟩ := hh i 1 hi (by simp [Data.esz])
        obtain ⟨u2, hu2, c2⟩ := hh i 2 hi (by simp [Data.esz])
        have hlc := loadCells_run (P := P) (w := w) (B := B) (o := o + i * 3 + 0) (cs := [u0, u1, u2]) (by
          intro j v hj
          match j, hj with
          | 0, hj => simpa using hj ▸ hu0
          | 1, hj => simpa using hj ▸ hu1
          | 2, hj => simpa using hj ▸ hu2
          | n + 3, hj => simp at hj)
        refine ⟨.agg #[u0, u1, u2], ?_, _, rfl, u0, _, rfl, elemV_ok c0, u1, _, rfl, elemV_ok c1, u2, _, rfl, elemV_ok c2, rfl⟩
        simp only [List.length_cons, List.length_nil, Nat.zero_add, Nat.reduceAdd] at hlc
        simp [Instr.loadAt, Instr.sureAddr, loadVar, isAgg_struct TO e2, size_run TO (t := t) (by omega), hs, Data.esz] at hlc ⊢
        simp [hlc]
    case array m el =>
      cases d <;> simp only [reduceCtorEq, Option.some.injEq, Prod.mk.injEq] at h
      rename_i k l
      obtain ⟨rfl, rfl⟩ := h
      obtain ⟨hs, hm0, rfl, hin⟩ := hp
      have hlen : ((l.drop i).take m).length = m := by simp; omega
      have hlc := loadCells_run (P := P) (w := w) (B := B) (o := o + i * 1 + 0) (cs := ((l.drop i).take m).map (.int k)) (by
        intro j v hj
        rw [List.getElem?_map] at hj
        have hjl : j < m := by
          rcases Nat.lt_or_ge j m with h | h
          · exact h
          · rw [List.getElem?_eq_none (by omega)] at hj; simp at hj
        obtain ⟨u, hu, hcell⟩ := hh (i + j) 0 (by simp [Data.len]; omega) (by simp [Data.esz])
        obtain rfl : u = _ := hcell
        rw [List.getElem?_take, if_pos hjl, List.getElem?_drop] at hj
        simp only [Data.esz, Nat.mul_one, Nat.add_zero] at hu ⊢
        rw [Nat.add_assoc, hu]
        simp only [List.getElem?_eq_getElem (show i + j < l.length by omega), Option.map_some, Option.some.injEq] at hj
        rw [← hj]
        simp [List.getD, show i + j < l.length by omega])
      rw [List.length_map, hlen] at hlc
      refine ⟨.agg (((l.drop i).take m).map (.int k)).toArray, ?_, rfl, hlen⟩
      simp [Instr.loadAt, Instr.sureAddr, loadVar, isAgg_array TO e2, size_run TO (t := t) (by omega), hs, Data.esz] at hlc ⊢
      simp [hlc]
    all_goals exact key (by rw [e2]; rfl) h
theorem lenV_ok (TO : TabOk P T) {t ty : TypeId} {x : SV} {x' : Value} {p : Prop} {v : SV} (h : lenV T b t x = some (p, v)) (hx : V2 X b c σ w x x') :
    ∃ u, (Builtin.len_ #[t] ty #[x']).run P w = .ok u w ∧ V2 X b c σ w v u := by
  have ht := TO.ty t
  cases x <;> simp only [lenV, reduceCtorEq] at h
  case sl n g seg e off len =>
    cases e2 : T.ty t <;> rw [e2] at ht <;> simp only [e2, reduceCtorEq, tyOk] at h ht
    cases eb : blkAt b n g <;> simp only [eb, reduceCtorEq, Option.some.injEq, Prod.mk.injEq] at h
    obtain ⟨rfl, rfl⟩ := h
    obtain ⟨hc, hlv⟩ := hx
    obtain ⟨ad, cap, rfl, hlc, hv⟩ := hlv (blkAt_live eb)
    exact ⟨_, by simp [Builtin.len_, run_underlying ht]; rfl, rfl⟩
  case view tag d =>
    cases e2 : T.ty t <;> rw [e2] at ht <;> simp only [e2, reduceCtorEq, tyOk, Option.some.injEq, Prod.mk.injEq] at h ht
    obtain ⟨rfl, rfl⟩ := h
    obtain ⟨ad, cap, rfl, hlc, hv⟩ := hx
    exact ⟨_, by simp [Builtin.len_, run_underlying ht]; rfl, rfl⟩
  case nil =>
    cases e2 : T.ty t <;> rw [e2] at ht <;> simp only [e2, reduceCtorEq, tyOk, Option.some.injEq, Prod.mk.injEq] at h ht
    obtain ⟨rfl, rfl⟩ := h
    obtain rfl : x' = .slice none 0 0 := hx
    exact ⟨_, by simp [Builtin.len_, run_underlying ht]; rfl, rfl⟩
  case str s =>
    cases e2 : T.ty t <;> rw [e2] at ht <;> simp only [e2, reduceCtorEq, tyOk, Option.some.injEq, Prod.mk.injEq] at h ht
    obtain ⟨rfl, rfl⟩ := h
    obtain rfl : x' = .string s := hx
    exact ⟨_, by simp [Builtin.len_, run_underlying ht]; rfl, rfl⟩

theorem pureOp_ok (TO : TabOk P T) {s : St} {a : Act} (hR : R X s σ w a) {ρ : Operand → SV} {o : Oper} {p : Prop} {v : SV}
    (hρ : ∀ x, x ∈ o.op.operands.toList → V2 X s.b s.c σ w (ρ x) (a.eval x)) (h : pureOp T s ρ o.op = some (p, v)) (hp : p) :
    ∃ u, (execOp a.eval o).run P w = .ok (.value u) w ∧ V2 X s.b s.c σ w v u := by
  have hbl : ∀ n g y, fnd s.b n = some (g, y) → BlkOk X s.b s.c σ w n y := fun n g y hy => (hR.bl n g y hy).2.1
  cases ho : o.op <;> rw [ho] at h hρ <;> simp only [pureOp, reduceCtorEq] at h
  case move x =>
    simp only [Option.some.injEq, Prod.mk.injEq] at h
    obtain ⟨rfl, rfl⟩ := h
    exact ⟨a.eval x, by simp [execOp, ho], hρ x (by simp [Op.operands])⟩
  case assign x =>
    simp only [Option.some.injEq, Prod.mk.injEq] at h
    obtain ⟨rfl, rfl⟩ := h
    exact ⟨a.eval x, by simp [execOp, ho], hρ x (by simp [Op.operands])⟩
  case load t x =>
    obtain ⟨u, hu, hv⟩ := loadV_ok TO h hp (hρ x (by simp [Op.operands])) hbl
    exact ⟨u, by simp [execOp, ho, hu], hv⟩
  case nilCheck x =>
    have hx := hρ x (by simp [Op.operands])
    cases e : ρ x <;> simp only [e, reduceCtorEq] at h
    rename_i n g off
    cases eb : blkAt s.b n g <;> simp only [eb, reduceCtorEq, Option.some.injEq, Prod.mk.injEq] at h
    obtain ⟨rfl, rfl⟩ := h
    rw [e] at hx
    obtain ⟨hc, hl⟩ := hx
    obtain ⟨B, hB, e2⟩ := hl (blkAt_live eb)
    exact ⟨.pointer (some ⟨B, off, none⟩), by simp [execOp, ho, e2], hc, fun _ => ⟨B, hB, rfl⟩⟩
  case binOp op t x y yt =>
    obtain ⟨u, hu, hv⟩ := binV_ok (X' := x) (Y' := y) TO h hp (hρ x (by simp [Op.operands])) (hρ y (by simp [Op.operands]))
    simp only [Sem.run_bind] at hu
    refine ⟨u, ?_, hv⟩
    cases hg : Sem.run P (eqGuard op t x y (a.eval x) (a.eval y)) w with
    | halt q w1 => rw [hg] at hu; simp [Result.andThen] at hu
    | ok q w1 =>
      rw [hg] at hu
      simp only [Result.andThen_ok] at hu
      simp [execOp, ho, hg, hu]
  case unOp op t x =>
    obtain ⟨u, hu, hv⟩ := unV_ok (P := P) (w := w) h (hρ x (by simp [Op.operands]))
    exact ⟨u, by simp [execOp, ho, hu], hv⟩
  case convert src dst x =>
    cases e : convV T dst (ρ x) <;> simp only [e, reduceCtorEq] at h
    rename_i q
    obtain ⟨p', v'⟩ := q
    simp only [Option.some.injEq, Prod.mk.injEq] at h
    obtain ⟨rfl, rfl⟩ := h
    obtain ⟨u, hu, hv⟩ := convV_ok TO e (hρ x (by simp [Op.operands])) hp.1
    exact ⟨u, by simp [execOp, ho, hu], hv⟩
  case slice t x lo hi mx =>
    have opt : ∀ y : Option Operand, (∀ z, y = some z → V2 X s.b s.c σ w (ρ z) (a.eval z)) → OptOk X s.b s.c σ w (y.map ρ) (y.map a.eval) := by
      intro y hy
      constructor
      · intro z hz
        cases y with
        | none => simp at hz
        | some q => simp only [Option.map_some, Option.some.injEq] at hz; subst hz; exact ⟨_, rfl, hy q rfl⟩
      · intro hz
        cases y with
        | none => rfl
        | some q => simp at hz
    obtain ⟨u, hu, hv⟩ := sliceV_ok TO h hp (hρ x (by simp [Op.operands])) (opt lo (fun z hz => hρ z (by simp [Op.operands, hz]))) (opt hi (fun z hz => hρ z (by simp [Op.operands, hz]))) (opt mx (fun z hz => hρ z (by simp [Op.operands, hz]))) hbl
    exact ⟨u, by simp [execOp, ho, hu], hv⟩
  case fieldAddr t x f =>
    obtain ⟨u, hu, hv⟩ := faddrV_ok TO h hp (hρ x (by simp [Op.operands]))
    exact ⟨u, by simp [execOp, ho, hu], hv⟩
  case indexAddr t x i =>
    obtain ⟨u, hu, hv⟩ := iaddrV_ok TO h hp (hρ x (by simp [Op.operands])) (hρ i (by simp [Op.operands]))
    exact ⟨u, by simp [execOp, ho, hu], hv⟩
  case index t x i =>
    obtain ⟨u, hu, hv⟩ := indexV_ok TO h hp (hρ x (by simp [Op.operands])) (hρ i (by simp [Op.operands]))
    exact ⟨u, by simp [execOp, ho, hu], hv⟩
  case extract x i =>
    obtain ⟨u, hu, hv⟩ := extractV_ok (P := P) (w := w) h (hρ x (by simp [Op.operands]))
    exact ⟨u, by simp [execOp, ho, hu], hv⟩
  case call cl =>
    obtain ⟨callee, as, ts⟩ := cl
    cases callee <;> try (simp only [reduceCtorEq] at h; done)
    rename_i bi
    cases bi <;> try (simp only [reduceCtorEq] at h; done)
    obtain ⟨as⟩ := as
    obtain ⟨ts⟩ := ts
    match as, ts, h, hρ, ho with
    | [x], [t], h, hρ, ho =>
      obtain ⟨u, hu, hv⟩ := lenV_ok (ty := o.type) TO h (hρ x (by simp [Op.operands, Call.operands]))
      refine ⟨u, ?_, hv⟩
      simp only [execOp, ho, resolve]
      simp [invoke, builtin, hu]
    | [], _, h, _, _ => simp at h
    | _ :: _ :: _, _, h, _, _ => simp at h
    | [_], [], h, _, _ => simp at h
    | [_], _ :: _ :: _, h, _, _ => simp at h

end

end Go.Proofs.Ytidbobpfebkhoaa.Abs
