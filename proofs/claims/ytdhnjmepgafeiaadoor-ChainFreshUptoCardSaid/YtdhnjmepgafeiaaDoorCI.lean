/- OWN LIBRARY: a slice stored into a cell by its place; own rows, one of them written anew. -/
import Derived.Test.YtdhnjmepgafeiaaDoorCE
set_option linter.unusedVariables false
set_option linter.unusedSimpArgs false
set_option maxRecDepth 100000
namespace Go.Proofs.YtdhnjmepgafeiaaDoor.Abs
open Go

section
variable {P : Program} {T : Tab} {X : Ctx} {s : St} {σ : Env} {w : World} {a : Act}

theorem cells_set {b : List (Nat × Nat × Blk)} {c : Lim} {x : SV} {v : Value} (hx1 : one1 x = true) (hx : V0 X b c σ w x v) :
    ∀ {l : List SV} {cs : List Value} {j : Nat}, l.all one1 = true → CellsOk X b c σ w l cs → j < l.length → j < cs.length ∧ CellsOk X b c σ w (l.set j x) (cs.set j v)
  | [], cs, j, _, h, e => by simp at e
  | z :: r, cs, j, ho, h, e => by
    rw [List.all_cons, Bool.and_eq_true] at ho
    rw [cellsOk_cons ho.1] at h
    obtain ⟨u, cs', rfl, h1, h2⟩ := h
    cases j with
    | zero =>
      refine ⟨by simp, ?_⟩
      rw [List.set_cons_zero, List.set_cons_zero, cellsOk_cons hx1]
      exact ⟨v, cs', rfl, hx, h2⟩
    | succ j =>
      obtain ⟨h3, h4⟩ := cells_set hx1 hx ho.2 h2 (by simpa using e)
      refine ⟨by simpa using h3, ?_⟩
      rw [List.set_cons_succ, List.set_cons_succ, cellsOk_cons ho.1]
      exact ⟨u, _, rfl, h1, h4⟩

theorem storeE_does {T : Tab} (TO : TabOk P T) (hR : R X s σ w a) {o : Oper} {t : TypeId} {x y : Operand} {n g i m : Nat} {sv : SV} {l : List SV} (ho : o.op = .store t x y)
    (hx : V2 X s.b s.c σ w (.eptr n g 0 1 i m) (a.eval x)) (hy : V2 X s.b s.c σ w sv (a.eval y)) (hb : blkAt s.b n g = some (.cells l)) (hl : l.all one1 = true) (hsv : one1 sv = true) (hsc : scal s.b sv = true) (him : i < l.length) (h1 : T.size t = 1) :
    Does P X s σ ⟨setD s.t o.dst .any, upd s.b n g (.cells (l.set i sv)), s.c⟩ w a o := by
  obtain ⟨_, _, hlv⟩ := hx
  obtain ⟨B, hB, ha⟩ := hlv (blkAt_live hb)
  obtain ⟨B', cs, ty, fr, hB', hheap, hfree, hcells⟩ := (hR.bl n g _ (blkAt_fnd hb)).2.1
  obtain rfl : B = B' := by simpa using hB.symm.trans hB'
  obtain ⟨hc1, hone, hv0⟩ := scal_cells hsc hy
  obtain ⟨hlt, hok⟩ := cells_set hsv hv0 hl hcells him
  have hlt' : i < cs.size := by simpa using hlt
  rw [show 0 + i * 1 = i by omega] at ha
  refine store_does hR (blkAt_fnd hb) hB hheap hfree (vs := [a.eval y]) (off := i) (by simp; omega) (by simp [hone]) (run_store_one TO ho ha (by rw [hc1]) (by simp [h1]) (by omega)) ?_ (fun w' => V.any _)
  intro w' cs' he hW hT
  refine ⟨B, cs', ty, fr, hB, hW.here, ?_, ?_⟩
  · have : cs'.size = cs.size := by
      have := congrArg List.length he
      simp only [Array.length_toList, List.length_append, List.length_take, List.length_drop, List.length_cons, List.length_nil] at this
      omega
    rw [this]; exact hfree
  · rw [he, List.length_singleton, ← list_set_seg _ _ _ hlt]
    exact hok.tr hT

/-- A slice stored into a cell by its place. -/
theorem storeE_ops {T : Tab} (TO : TabOk P T) {ops : Array Oper} {o : Oper} {rest : List Oper} {kk : List Item} {Φ : St → Prop} {t : TypeId} {x y : Operand} {n g i m r gr len : Nat} {xr : Blk} {l : List SV}
    (ho : o.op = .store t x y) (hg : o.guard = none) (hx : evO s.t x = .eptr n g 0 1 i m) (hy : evO s.t y = .sl r gr 0 1 0 len) (hb : fnd s.b n = some (g, .cells l)) (hl : l.all one1 = true) (hr : fnd s.b r = some (gr, xr)) (him : i < l.length) (h1 : T.size t = 1)
    (h : HOps P X ops rest kk ⟨setD s.t o.dst .any, upd s.b n g (.cells (l.set i (.sl r gr 0 1 0 len))), s.c⟩ Φ) : HOps P X ops (o :: rest) kk s Φ := by
  refine does_ops hg fun σ w a hR => ⟨_, storeE_does TO hR (m := m) ho ?_ (V2_of_V1 (V1_of_V0 (V0_evO hR hy trivial))) (by simp [blkAt, hb]) hl rfl (by simp [scal, blkAt, hr]) him h1, h⟩
  have hv := V_evO hR x
  rw [hx] at hv
  exact hv

end

/-- Blocks with names from 1000000 on only. -/
def Low (l : List (Nat × Nat × Blk)) : Prop := ∀ n, n < 1000000 → fnd l n = none
theorem low_del {q : List (Nat × List Int)} {j : Nat} : Low (del (rowsB 0 q) j) := fun n h => by
  rw [fnd_del]; split
  · rfl
  · exact rowsB_lt (by omega)
theorem fnd_low {l m : List (Nat × Nat × Blk)} (hl : Low l) {n : Nat} (h : n < 1000000) : fnd (l ++ m) n = fnd m n := by rw [fnd_app, hl n h]
theorem upd_low {l m : List (Nat × Nat × Blk)} (hl : Low l) {n g : Nat} {x : Blk} (h : n < 1000000) : upd (l ++ m) n g x = l ++ upd m n g x := upd_app (hl n h)
theorem del_low {l m : List (Nat × Nat × Blk)} (hl : Low l) {n : Nat} (h : n < 1000000) : del (l ++ m) n = l ++ del m n := by rw [del_app, del_none (hl n h)]
theorem fnd_low0 {l : List (Nat × Nat × Blk)} (hl : Low l) {n : Nat} (h : n < 1000000) : fnd l n = none := hl n h
theorem upd_low0 {l : List (Nat × Nat × Blk)} (hl : Low l) {n g : Nat} {x : Blk} (h : n < 1000000) : upd l n g x = l ++ [(n, g, x)] := by
  have := upd_low (m := []) hl (g := g) (x := x) h
  rw [List.append_nil] at this; exact this
theorem del_low0 {l : List (Nat × Nat × Blk)} (hl : Low l) {n : Nat} (h : n < 1000000) : del l n = l := del_none (hl n h)

theorem rowsS_set : ∀ (q : List (Nat × List Int)) (i j g : Nat) (r : List Int), j < q.length → (rowsS i q).set j (SV.sl (1000000 + (i + j)) g 0 1 0 r.length) = rowsS i (q.set j (g, r))
  | [], _, _, _, _, h => by simp at h
  | x :: q, i, 0, g, r, _ => by simp [rowsS]
  | x :: q, i, j + 1, g, r, h => by
    have := rowsS_set q (i + 1) j g r (by simpa using h)
    simp only [rowsS, List.set_cons_succ]
    rw [show i + (j + 1) = i + 1 + j by omega, this]
theorem rowsA_set {q : List (Nat × List Int)} {j g k : Nat} {r : List Int} (h : j < q.length) : (rowsS 0 q ++ List.replicate k SV.any).set j (SV.sl (1000000 + j) g 0 1 0 r.length) = rowsS 0 (q.set j (g, r)) ++ List.replicate k SV.any := by
  have := rowsS_set q 0 j g r h
  rw [Nat.zero_add] at this
  rw [List.set_append, if_pos (by rw [rowsS_len]; exact h), this]
theorem fnd_rows_set : ∀ {q : List (Nat × List Int)} {i j g n : Nat} {r : List Int} {x : Nat × Blk}, j < q.length → fnd (rowsB i (q.set j (g, r))) n = some x →
    (n = 1000000 + (i + j) ∧ x = (g, .vec (.ints .u8 r))) ∨ (n ≠ 1000000 + (i + j) ∧ fnd (rowsB i q) n = some x)
  | [], _, _, _, _, _, _, h, _ => by simp at h
  | y :: q, i, 0, g, n, r, x, _, h => by
    simp only [List.set_cons_zero, rowsB, fnd] at h ⊢
    split at h
    · rename_i e; cases h; exact .inl ⟨e, rfl⟩
    · rename_i e; exact .inr ⟨e, by rw [if_neg e]; exact h⟩
  | y :: q, i, j + 1, g, n, r, x, hj, h => by
    simp only [List.set_cons_succ, rowsB, fnd] at h ⊢
    split at h
    · rename_i e; cases h; exact .inr ⟨by omega, by rw [if_pos e]⟩
    · rename_i e
      rw [if_neg e]
      rcases fnd_rows_set (by simpa using hj) h with ⟨h1, h2⟩ | ⟨h1, h2⟩
      · exact .inl ⟨by omega, h2⟩
      · exact .inr ⟨by omega, h2⟩
theorem rowsA_one {q : List (Nat × List Int)} {k : Nat} : (rowsS 0 q ++ List.replicate k SV.any).all one1 = true := by
  rw [List.all_append, rowsS_one, Bool.true_and, List.all_eq_true]
  intro x hx
  rw [List.eq_of_mem_replicate hx]; rfl
theorem rowsA_get {q : List (Nat × List Int)} {k j : Nat} (h : j < q.length) : (rowsS 0 q ++ List.replicate k SV.any)[j]? = some (SV.sl (1000000 + j) (q.getD j default).1 0 1 0 (q.getD j default).2.length) := by
  have := rowsS_get q 0 j h
  rw [Nat.zero_add] at this
  rw [List.getElem?_append_left (by rw [rowsS_len]; exact h)]; exact this
theorem rowsA_len {q : List (Nat × List Int)} {k : Nat} : (rowsS 0 q ++ List.replicate k SV.any).length = q.length + k := by simp [rowsS_len]
theorem all_set {l : List SV} {j : Nat} {x : SV} (hl : l.all one1 = true) (hx : one1 x = true) : (l.set j x).all one1 = true := by
  rw [List.all_eq_true] at *
  intro y hy
  rcases List.mem_or_eq_of_mem_set hy with h | rfl
  · exact hl y h
  · exact hx

end Go.Proofs.YtdhnjmepgafeiaaDoor.Abs
