/- OWN LIBRARY: own rows: one under another name, all of them told by value. -/
import Derived.Test.YtdhnjmepgafeiaaDoorCB
set_option linter.unusedVariables false
set_option linter.unusedSimpArgs false
set_option maxRecDepth 100000
namespace Go.Proofs.YtdhnjmepgafeiaaDoor.Abs
open Go

section
variable {P : Program} {X : Ctx} {s : St} {σ : Env} {w : World} {a : Act}

theorem cells_swap {b b' : List (Nat × Nat × Blk)} {c c' : Lim} {σ' : Env} (T : Tr X b c σ w b' c' σ' w) {x y : SV} (hx : ∀ v, V0 X b c σ w y v → V0 X b' c' σ' w x v) (hx1 : one1 x = true) (hy1 : one1 y = true) :
    ∀ {l : List SV} {cs : List Value} {j : Nat}, l.all one1 = true → CellsOk X b c σ w l cs → l[j]? = some y → CellsOk X b' c' σ' w (l.set j x) cs
  | [], cs, j, _, h, e => by simp at e
  | z :: r, cs, j, ho, h, e => by
    rw [List.all_cons, Bool.and_eq_true] at ho
    rw [cellsOk_cons ho.1] at h
    obtain ⟨v, cs', rfl, h1, h2⟩ := h
    cases j with
    | zero =>
      simp only [List.getElem?_cons_zero, Option.some.injEq] at e
      subst e
      rw [List.set_cons_zero, cellsOk_cons hx1]
      exact ⟨v, cs', rfl, hx v h1, h2.tr T⟩
    | succ j =>
      simp only [List.getElem?_cons_succ] at e
      rw [List.set_cons_succ, cellsOk_cons ho.1]
      exact ⟨v, cs', rfl, h1.tr T, cells_swap T hx hx1 hy1 ho.2 h2 e⟩

/-- A block told anew. -/
theorem R_tell (hR : R X s σ w a) {m gm : Nat} {x x' : Blk} {b' : List (Nat × Nat × Blk)} (hm : fnd s.b m = some (gm, x)) (hb : ∀ n y, fnd b' n = some y → n ≠ m → fnd s.b n = some y) (hb2 : fnd b' m = some (gm, x')) (T : Tr X s.b s.c σ w b' s.c σ w)
    (hx : BlkOk X b' s.c σ w m x') : R X ⟨s.t, b', s.c⟩ σ w a := by
  have hf : ∀ n y, fnd b' n = some y → ∃ z, fnd s.b n = some z := fun n y hn => by
    by_cases e : n = m
    · subst e; exact ⟨_, hm⟩
    · exact ⟨_, hb n y hn e⟩
  refine { sz := hR.sz, tm := fun j hj => (hR.tm j hj).tr T, df := hR.df, bl := ?_, inj := ?_, fr := hR.fr, st := hR.st, ro := hR.ro, gl := hR.gl }
  · intro n g y hn
    by_cases e : n = m
    · subst e
      have hn : fnd b' n = some (g, y) := hn
      rw [hb2] at hn
      cases hn
      obtain ⟨h1, _, h3⟩ := hR.bl n gm _ hm
      exact ⟨h1, hx, h3⟩
    · obtain ⟨h1, h2, h3⟩ := hR.bl n g y (hb n _ hn e)
      exact ⟨h1, h2.tr T rfl (fun _ _ => rfl), h3⟩
  · intro n n' y y' B hn hn' hs hs'
    obtain ⟨z, hz⟩ := hf n y hn
    obtain ⟨z', hz'⟩ := hf n' y' hn'
    exact hR.inj n n' z z' B hz hz' hs hs'

theorem Tr_tell {b b' : List (Nat × Nat × Blk)} {c : Lim} {m gm : Nat} {x x' : Blk} (hm : fnd b m = some (gm, x)) (hb : ∀ n y, fnd b' n = some y → n ≠ m → fnd b n = some y) (hb2 : fnd b' m = some (gm, x')) : Tr X b c σ w b' c σ w := by
  refine ⟨fun _ _ h => h, ?_, fun tag B hv => ⟨rfl, hv.1, hv.2.imp id fun h => ⟨h.1, fun ⟨n, y, h1, h2⟩ => h.2 ?_⟩⟩, fun _ _ _ _ _ _ => Nat.le_refl _⟩
  · rintro n g ⟨y, hy⟩ _
    by_cases e : n = m
    · subst e; rw [hb2] at hy; cases hy; exact ⟨⟨x, hm⟩, rfl⟩
    · exact ⟨⟨y, hb n _ hy e⟩, rfl⟩
  · by_cases e : n = m
    · subst e; exact ⟨_, _, hm, h2⟩
    · exact ⟨_, _, hb n _ h1 e, h2⟩

/-- The own slice in a cell, and its block, under another name. -/
theorem renC_go {todo : List Item} {Φ : St → Prop} (m j n n' : Nat) {gm g len : Nat} {l : List SV} {d : Data} (hm : fnd s.b m = some (gm, .cells l)) (hl : l.all one1 = true) (hj : l[j]? = some (.sl n g 0 1 0 len)) (hn : fnd s.b n = some (g, .vec d)) (hmn : m ≠ n) (hmn' : m ≠ n') (hd : d.len ≠ 0)
    (h : HRun P X todo ⟨s.t, upd (mv s.b n n' (s.c.c + 1) (.vec d)) m gm (.cells (l.set j (.sl n' (s.c.c + 1) 0 1 0 len))), ⟨s.c.c + 1 + 1, [], s.c.o⟩⟩ Φ) : HRun P X todo s Φ := by
  intro σ w a hR
  have hR1 := R_bump (o := s.c.o) hR
  obtain ⟨_, hblk, hown⟩ := hR1.bl n g (.vec d) hn
  rcases hblk with ⟨_, hd0⟩ | ⟨B, cs, t, fr, hs, hheap, hfree, hsz, hholds, hfit⟩
  · exact absurd hd0 hd
  have T1 := Tr_mv (x' := .vec d) hR1 hn hs (show n' ∉ (⟨s.c.c + 1, [], s.c.o⟩ : Lim).d by simp) hheap (Wrote.same hheap) rfl
  obtain ⟨hR2, hT2⟩ := R_mv (n := n) (m := n') (x' := .vec d) (dst := none) (sv := .any) (v := undef) hR1 hn hs (by simp) hheap (Wrote.same hheap) rfl
    (.inr ⟨B, cs, t, fr, by simp [bind1], hheap, hfree, hsz, hholds.tr T1 rfl, hfit⟩) (V.any _)
  have hm2 : fnd (mv s.b n n' (s.c.c + 1) (.vec d)) m = some (gm, .cells l) := by
    rw [fnd_mv, if_neg hmn', if_neg hmn]; exact hm
  obtain ⟨_, ⟨Bm, csm, tm, frm, hsm, hheapm, hfreem, hcm⟩, _⟩ := hR1.bl m gm _ hm
  have T3 : Tr X (mv s.b n n' (s.c.c + 1) (.vec d)) ((⟨s.c.c + 1, [], s.c.o⟩ : Lim).add n') (bind1 σ n' B) w (upd (mv s.b n n' (s.c.c + 1) (.vec d)) m gm (.cells (l.set j (.sl n' (s.c.c + 1) 0 1 0 len)))) ((⟨s.c.c + 1, [], s.c.o⟩ : Lim).add n') (bind1 σ n' B) w := Tr_upd hm2
  have hR3 := R_tell (x' := .cells (l.set j (.sl n' (s.c.c + 1) 0 1 0 len))) hR2 (b' := upd (mv s.b n n' (s.c.c + 1) (.vec d)) m gm (.cells (l.set j (.sl n' (s.c.c + 1) 0 1 0 len)))) hm2
    (fun q y hq hne => by rw [fnd_upd, if_neg hne] at hq; exact hq) (fnd_same _ _ _ _) T3
    ⟨Bm, csm, tm, frm, by simp [bind1, hmn', hsm], hheapm, hfreem, cells_swap (T1.trans T3) (fun v hv => by
      obtain ⟨_, hv⟩ := hv
      obtain ⟨va, cap, hval, hcap, hroom⟩ := hv ⟨_, hn⟩
      refine ⟨Lim.ok_new _ _, fun _ => ⟨va, cap, hval, hcap, fun hc => ?_⟩⟩
      obtain ⟨B', hB', ha, hb⟩ := hroom hc
      have hB' : σ n = some B' := hB'
      have hs' : σ n = some B := hs
      rw [hs'] at hB'
      cases hB'
      exact ⟨B, by simp [bind1], ha, hb⟩) rfl rfl hl hcm hj⟩
  have hR4 := R_bump (o := s.c.o) hR3
  refine (h _ w a hR4).mono fun a' w' ⟨s', σ', h1, h2, h3⟩ => ⟨s', σ', h1, h2, ?_⟩
  exact (Tr_bump (o := s.c.o)).trans (hT2.trans (T3.trans ((Tr_bump (s := ⟨s.t, upd (mv s.b n n' (s.c.c + 1) (.vec d)) m gm (.cells (l.set j (.sl n' (s.c.c + 1) 0 1 0 len))), (⟨s.c.c + 1, [], s.c.o⟩ : Lim).add n'⟩) (o := s.c.o)).trans h3)))

/-- All own rows of a slice, told by value from here on. -/
theorem freezeR_go {todo : List Item} {Φ : St → Prop} (m : Nat) {gm k : Nat} {q : List (Nat × List Int)} {b' : List (Nat × Nat × Blk)} (hm : fnd s.b m = some (gm, .cells (rowsS 0 q ++ List.replicate k .any))) (hq : ∀ j, j < q.length → fnd s.b (1000000 + j) = some ((q.getD j default).1, .vec (.ints .u8 (q.getD j default).2)))
    (hb : ∀ n y, fnd b' n = some y → n < 1000000 ∧ (n ≠ m → fnd s.b n = some y)) (hb2 : fnd b' m = some (gm, .vec (.rows true (q.map Prod.snd))))
    (h : HRun P X todo ⟨s.t, b', s.c⟩ Φ) : HRun P X todo s Φ := by
  intro σ w a hR
  have T : Tr X s.b s.c σ w b' s.c σ w := Tr_tell hm (fun n y hn hne => (hb n y hn).2 hne) hb2
  refine h.after (R_tell hR hm (fun n y hn hne => (hb n y hn).2 hne) hb2 T ?_) T
  obtain ⟨_, ⟨B, cs, t, fr, hs, hheap, hfree, hc⟩, _⟩ := hR.bl m gm _ hm
  obtain ⟨c1, c2, hcs, hl1, hc1, _⟩ := cells_parts (rowsS_one q 0) hc
  rw [rowsS_len] at hl1
  have hlen : (Data.rows true (q.map Prod.snd)).len = q.length := by simp [Data.len]
  have pt : ∀ (L : List SV) (ds : List Value) (i : Nat) (y : SV), L.all one1 = true → CellsOk X s.b s.c σ w L ds → L[i]? = some y → ∃ v, ds[i]? = some v ∧ V0 X s.b s.c σ w y v := by
    intro L
    induction L with
    | nil => intro ds i y _ _ e; simp at e
    | cons z r ih =>
      intro ds i y ho hd e
      rw [List.all_cons, Bool.and_eq_true] at ho
      rw [cellsOk_cons ho.1] at hd
      obtain ⟨v, ds', rfl, h1, h2⟩ := hd
      cases i with
      | zero => simp only [List.getElem?_cons_zero, Option.some.injEq] at e; subst e; exact ⟨v, rfl, h1⟩
      | succ i => simp only [List.getElem?_cons_succ] at e ⊢; exact ih ds' i y ho.2 h2 e
  refine .inr ⟨B, cs, t, fr, hs, hheap, hfree, ?_, ?_, trivial⟩
  · rw [hlen, ← Array.length_toList, hcs, List.length_append, hl1]
    show q.length * 1 ≤ _
    omega
  · intro i j hi hj
    rw [hlen] at hi
    have hj : j < 1 := hj
    obtain rfl : j = 0 := by omega
    obtain ⟨v, hv, h0⟩ := pt _ c1 i _ (rowsS_one q 0) hc1 (rowsS_get q 0 i hi)
    refine ⟨v, ?_, ?_⟩
    · show w.cell? ⟨B, 0 + i * 1 + 0, none⟩ = some v
      rw [cell_block hheap, show 0 + i * 1 + 0 = i by omega, ← Array.getElem?_toList, hcs, List.getElem?_append_left (by omega), hv]
    · have hqi := hq i hi
      rw [Nat.zero_add] at h0
      obtain ⟨_, h0⟩ := h0
      obtain ⟨va, cap, hval, hcap, hroom⟩ := h0 ⟨_, hqi⟩
      have er : (q.map Prod.snd).getD i [] = (q.getD i default).2 := by simp [List.getD, hi]
      show IsRow (Vw X b' σ w true) w ((q.map Prod.snd).getD i []) v
      rw [er]
      refine ⟨va, cap, hval, hcap, fun hne => ?_⟩
      obtain ⟨B2, hs2, ha2, _⟩ := hroom (by omega)
      obtain ⟨_, hbk, hB0⟩ := hR.bl _ _ _ hqi
      refine ⟨B2, 0, by simpa using ha2, ⟨(hB0 B2 hs2).1, .inr ⟨(hB0 B2 hs2).2, ?_⟩⟩, ?_⟩
      · rintro ⟨n, y, hn, hsn⟩
        obtain ⟨h1, h2⟩ := hb n y hn
        have : ∃ z, fnd s.b n = some z := by
          by_cases e : n = m
          · subst e; exact ⟨_, hm⟩
          · exact ⟨_, h2 e⟩
        obtain ⟨z, hz⟩ := this
        have := hR.inj n (1000000 + i) z _ B2 hz hqi hsn hs2
        omega
      · rcases hbk with ⟨hnone, hd0⟩ | ⟨B3, cs3, t3, fr3, hs3, hheap3, _, _, hh, _⟩
        · exact absurd hd0 hne
        · obtain rfl : B2 = B3 := Option.some.inj (hs2.symm.trans hs3)
          intro p hp
          obtain ⟨x, hx, hc⟩ := hh p 0 (by simpa [Data.len] using hp) (by simp [Data.esz])
          have hc : x = .int .u8 ((q.getD i default).2.getD p 0) := hc
          simp only [Data.esz] at hx
          rw [show 0 + p = 0 + p * 1 + 0 by omega, hx, hc]

/-- One more own row behind own rows. -/
theorem appendR_ops {T : Tab} (TO : TabOk P T) {ops : Array Oper} {o : Oper} {rest : List Oper} {kk : List Item} {Φ : St → Prop} {t t2 e : TypeId} {x y : Operand} {d n g m gm k gr : Nat} {xr : Blk} {q : List (Nat × List Int)} {r : List Int}
    (ho : o.op = .call { callee := .builtin .append, args := #[x, y], argTypes := #[t, t2] }) (hg : o.guard = none) (hd : o.dst = some d) (ht : T.ty t = .slice e) (h2 : isSrc (T.ty t2) = true) (hs : T.size e = 1)
    (hx : evO s.t x = .sl n g 0 1 0 q.length) (hy : evO s.t y = .sl m gm 0 1 0 1) (hb : (q.length + 1) * T.bytes e ≤ 140737488355328 ∧ q.length + 1 ≤ 4611686018427387904)
    (hbk : fnd s.b n = some (g, .cells (rowsS 0 q ++ List.replicate k .any))) (hbm : fnd s.b m = some (gm, .cells [.sl (1000000 + q.length) gr 0 1 0 r.length])) (hrb : fnd s.b (1000000 + q.length) = some (gr, xr)) (hn : s.c.o + d ∉ s.c.d)
    (h : ∀ k', HOps P X ops rest kk ⟨s.t.set d (.sl (s.c.o + d) s.c.c 0 1 0 (q.length + 1)), mv s.b n (s.c.o + d) s.c.c (.cells (rowsS 0 (q ++ [(gr, r)]) ++ List.replicate k' .any)), s.c.add (s.c.o + d)⟩ Φ) : HOps P X ops (o :: rest) kk s Φ := by
  have hl := rowsS_len q 0
  refine appendC_ops TO (L := rowsS 0 q) ho hg hd ht h2 hs (by rw [hl]; exact hx) hy (by rw [hl]; exact hb) hbk (rowsS_one q 0) hbm hrb hn (fun k' => ?_)
  have e : rowsS 0 q ++ .sl (1000000 + q.length) gr 0 1 0 r.length :: List.replicate k' .any = rowsS 0 (q ++ [(gr, r)]) ++ List.replicate k' .any := by
    rw [rowsS_snoc, Nat.zero_add, List.append_assoc]; rfl
  rw [e, hl]
  exact h k'

theorem fnd_rows0 {q : List (Nat × List Int)} {i n : Nat} (h : n < 1000000) : fnd (rowsB i q) n = none := rowsB_lt (by omega)
theorem upd_rows0 {q : List (Nat × List Int)} {i n g : Nat} {x : Blk} (h : n < 1000000) : upd (rowsB i q) n g x = rowsB i q ++ [(n, g, x)] := by
  have := upd_rows (q := q) (i := i) (g := g) (x := x) (m := []) h
  rw [List.append_nil] at this; exact this
theorem del_rows0 {q : List (Nat × List Int)} {i n : Nat} (h : n < 1000000) : del (rowsB i q) n = rowsB i q := del_none (rowsB_lt (by omega))
theorem upd_rows_last0 (q : List (Nat × List Int)) (g : Nat) (r : List Int) : upd (rowsB 0 q) (1000000 + q.length) g (.vec (.ints .u8 r)) = rowsB 0 (q ++ [(g, r)]) := by
  have := upd_rows_last q g r
  rw [List.append_nil, List.append_nil] at this; exact this
theorem fnd_rows_last0 (q : List (Nat × List Int)) (x : Nat × List Int) : fnd (rowsB 0 (q ++ [x])) (1000000 + q.length) = some (x.1, .vec (.ints .u8 x.2)) := by
  have := fnd_rows_last q x []
  rw [List.append_nil] at this; exact this

theorem SubB_rows {K g : Nat} {x : Blk} {q : List (Nat × List Int)} {m m' : List (Nat × Nat × Blk)} (hm : ∀ n y, fnd m n = some y → fnd m' n = some y) : SubB ((K, g, x) :: (rowsB 0 q ++ m)) ((K, g, x) :: (rowsB 0 q ++ m')) := by
  intro n y h
  simp only [fnd] at h ⊢
  split at h
  · rename_i e; rw [if_pos e]; exact h
  · rename_i e; rw [if_neg e]
    rw [fnd_app] at h ⊢
    cases e2 : fnd (rowsB 0 q) n with
    | none => rw [e2] at h; exact hm n y h
    | some z => rw [e2] at h; exact h

end

end Go.Proofs.YtdhnjmepgafeiaaDoor.Abs
