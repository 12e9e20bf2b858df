/- OWN LIBRARY: a slice of own slices, each of them under a name of its own; one more appended. -/
import Derived.Test.YtdhnjmepgafeiaaDoorRX
set_option linter.unusedVariables false
set_option linter.unusedSimpArgs false
set_option maxRecDepth 100000
namespace Go.Proofs.YtdhnjmepgafeiaaDoor.Abs
open Go

def one1 : SV → Bool
  | .arr _ _ _ => false
  | _ => true

section
variable {P : Program} {T : Tab} {X : Ctx} {s : St} {σ : Env} {w : World} {a : Act}

theorem cellsOk_cons {b : List (Nat × Nat × Blk)} {c : Lim} {x : SV} {r : List SV} {cs : List Value} (hx : one1 x = true) : CellsOk X b c σ w (x :: r) cs = ∃ v cs', cs = v :: cs' ∧ V0 X b c σ w x v ∧ CellsOk X b c σ w r cs' := by
  cases x <;> first | rfl | (simp only [one1, Bool.false_eq_true] at hx)

theorem cells_app {b : List (Nat × Nat × Blk)} {c : Lim} : ∀ {l m : List SV} {cs ds : List Value}, l.all one1 = true → CellsOk X b c σ w l cs → CellsOk X b c σ w m ds → CellsOk X b c σ w (l ++ m) (cs ++ ds)
  | [], m, cs, ds, _, h, k => by have h : cs = [] := h; subst h; exact k
  | x :: l, m, cs, ds, ho, h, k => by
    rw [List.all_cons, Bool.and_eq_true] at ho
    rw [cellsOk_cons ho.1] at h
    obtain ⟨v, cs', rfl, h1, h2⟩ := h
    rw [List.cons_append, cellsOk_cons ho.1]
    exact ⟨v, cs' ++ ds, rfl, h1, cells_app ho.2 h2 k⟩

theorem cells_parts {b : List (Nat × Nat × Blk)} {c : Lim} : ∀ {l m : List SV} {cs : List Value}, l.all one1 = true → CellsOk X b c σ w (l ++ m) cs → ∃ c1 c2, cs = c1 ++ c2 ∧ c1.length = l.length ∧ CellsOk X b c σ w l c1 ∧ CellsOk X b c σ w m c2
  | [], m, cs, _, h => ⟨[], cs, rfl, rfl, rfl, h⟩
  | x :: l, m, cs, ho, h => by
    rw [List.all_cons, Bool.and_eq_true] at ho
    rw [List.cons_append, cellsOk_cons ho.1] at h
    obtain ⟨v, cs', rfl, h1, h2⟩ := h
    obtain ⟨c1, c2, rfl, hl, h3, h4⟩ := cells_parts ho.2 h2
    refine ⟨v :: c1, c2, rfl, by simp [hl], ?_, h4⟩
    rw [cellsOk_cons ho.1]
    exact ⟨v, c1, rfl, h1, h3⟩

theorem cells_anys {b : List (Nat × Nat × Blk)} {c : Lim} : ∀ (cs : List Value), CellsOk X b c σ w (List.replicate cs.length .any) cs
  | [] => rfl
  | v :: cs => ⟨v, cs, rfl, trivial, cells_anys cs⟩

theorem anys_len {b : List (Nat × Nat × Blk)} {c : Lim} : ∀ {k : Nat} {cs : List Value}, CellsOk X b c σ w (List.replicate k .any) cs → cs.length = k
  | 0, cs, h => by have h : cs = [] := h; subst h; rfl
  | k + 1, cs, h => by
    obtain ⟨v, cs', rfl, _, h2⟩ := h
    simp [anys_len h2]

theorem append_outC (TO : TabOk P T) {t t2 e ty : TypeId} (ht : T.ty t = .slice e) (h2 : isSrc (T.ty t2) = true) {base : Option Addr} {n cap : Nat} {y v : Value} {xs : List Value} (hs : T.size e = 1)
    (hlo : ∀ w1 : World, w1.heap = w.heap → (Builtin.lenOf y).run P w1 = .ok 1 w1) (hfi : ∀ w1 : World, w1.heap = w.heap → (Builtin.firstCells 1 1 y).run P w1 = .ok #[v] w1) (hroom : cap < n + 1)
    (hb : (n + 1) * T.bytes e ≤ 140737488355328) (h63 : n + 1 ≤ 4611686018427387904)
    (hold : ∀ w1 : World, w1.heap = w.heap → (Builtin.firstCells 1 n (.slice base n cap)).run P w1 = .ok xs.toArray w1) :
    ∃ newCap rest, (Builtin.append_ #[t, t2] ty #[.slice base n cap, y]).run P w = .ok (.slice (some ⟨w.heap.size, 0, none⟩) (n + 1) newCap) (w.drew.alloc (.cells (xs.toArray ++ #[v] ++ rest) e)) ∧ n + 1 ≤ newCap ∧ rest.size = newCap - (n + 1) := by
  have ht' := TO.ty t
  rw [ht] at ht'; simp only [tyOk] at ht'
  have hq2 := isSrc_ok TO h2
  have hlo := hlo w rfl
  have hf := hfi w.drew rfl
  obtain ⟨i, hi, his, hib, z, hz, hzo, hzs⟩ := TO.info e (by omega)
  have hfit := growslice_fits (need := n + 1) (old := cap) (bytes := i.bytes) hroom (by rw [hib]; exact hb)
  have hn : ¬ (n + 1 ≤ cap) := by omega
  have h63' : ¬ (9223372036854775807 < ((n : Int) + (1 : Int))) := by omega
  have h48' : ¬ (281474976710656 < Builtin.nextslicecap (n + 1) cap * i.bytes) := by omega
  have hfo := hold w.drew rfl
  have hzl : z.cells.size = 1 := by rw [hzs, hs]
  refine ⟨grownCap w (n + 1) cap e, Builtin.zeroCells z.cells (grownCap w (n + 1) cap e - (n + 1)), ?_, ?_, ?_⟩
  · have hsz : i.size = 1 := his.trans hs
    rcases hq2 with ⟨e', hq2⟩ | hq2 <;>
    simp [Builtin.append_, run_underlying ht', run_underlying hq2, sizeOf, hsz, hlo, hn, typeInfo, hi, hz, zeroValue, Question.forced, hf, hfo, newRow, h63', h48', grownCap, askRoom]
  · simp only [grownCap, Question.cut]; omega
  · simp [Builtin.zeroCells, hzl]

theorem append_inC (TO : TabOk P T) {t t2 e ty : TypeId} (ht : T.ty t = .slice e) (h2 : isSrc (T.ty t2) = true) {q : Addr} {n cap : Nat} {y v : Value} (hs : T.size e = 1)
    (hlo : (Builtin.lenOf y).run P w = .ok 1 w) (hfi : (Builtin.firstCells 1 1 y).run P w = .ok #[v] w) (hroom : n + 1 ≤ cap) {w' : World}
    (hst : (storeCells (q.add (n * 1)) [v]).run P w = .ok () w') :
    (Builtin.append_ #[t, t2] ty #[.slice (some q) n cap, y]).run P w = .ok (.slice (some q) (n + 1) cap) w' := by
  have ht' := TO.ty t
  rw [ht] at ht'; simp only [tyOk] at ht'
  have hq2 := isSrc_ok TO h2
  have hso := size_run (P := P) (w := w) TO (t := e) (by omega)
  rw [hs] at hso
  rw [Nat.mul_one] at hst
  rcases hq2 with ⟨e', hq2⟩ | hq2 <;>
  simp [Builtin.append_, run_underlying ht', run_underlying hq2, hso, hlo, hroom, hfi, hst]

/-- The first cells of a slice. -/
theorem first_run {B n cap : Nat} {cs : Array Value} {ty : TypeId} {fr : Nat × Nat} (hheap : w.heap[B]? = some (.cells cs ty fr)) (hn : n ≤ cs.size) : ∀ m len, m ≤ n → len = n → ∀ w1 : World, w1.heap = w.heap →
    (Builtin.firstCells 1 m (.slice (some ⟨B, 0, none⟩) len cap)).run P w1 = .ok (cs.toList.take m).toArray w1 := by
  intro m len hm hl w1 hw1
  have hlen : (cs.toList.take m).length = m := by rw [List.length_take]; simp; omega
  have := loadCells_run (P := P) (w := w1) (B := B) (o := 0) (cs := cs.toList.take m) (by
    intro j v hj
    rw [List.getElem?_take] at hj
    split at hj
    · have h := cell_block (o := 0 + j) hheap
      rw [World.cell?, hw1]
      rw [World.cell?] at h
      rw [h, Nat.zero_add, ← Array.getElem?_toList]; exact hj
    · simp at hj)
  rw [hlen] at this
  simp [Builtin.firstCells, this]

/-- A slice of cells, one cell more behind it: the room behind it is not told. -/
theorem appendC_does (TO : TabOk P T) (hR : R X s σ w a) {o : Oper} {t t2 e : TypeId} {x y : Operand} {dd n g m gm k r gr segr er offr lenr : Nat} {xr : Blk} {L : List SV} {z : SV} (ho : o.op = .call { callee := .builtin .append, args := #[x, y], argTypes := #[t, t2] })
    (hn : dd ∉ s.c.d) (ht : T.ty t = .slice e) (h2 : isSrc (T.ty t2) = true) (hs : T.size e = 1) (hx : V0 X s.b s.c σ w (.sl n g 0 1 0 L.length) (a.eval x)) (hbk : fnd s.b n = some (g, .cells (L ++ List.replicate k .any))) (hL : L.all one1 = true)
    (hy : V0 X s.b s.c σ w (.sl m gm 0 1 0 1) (a.eval y)) (hbm : fnd s.b m = some (gm, .cells [z])) (hzr : z = .sl r gr segr er offr lenr) (hrb : fnd s.b r = some (gr, xr))
    (hb : (L.length + 1) * T.bytes e ≤ 140737488355328) (h63 : L.length + 1 ≤ 4611686018427387904) :
    ∃ k', Does P X s σ ⟨setD s.t o.dst (.sl dd s.c.c 0 1 0 (L.length + 1)), mv s.b n dd s.c.c (.cells (L ++ z :: List.replicate k' .any)), s.c.add dd⟩ w a o := by
  have hz : one1 z = true := by rw [hzr]; rfl
  obtain ⟨_, hxl⟩ := hx
  obtain ⟨base, cap, hax, hlc, hcap⟩ := hxl ⟨_, hbk⟩
  obtain ⟨_, hyl⟩ := hy
  obtain ⟨ybase, ycap, hay, hyc, hycap⟩ := hyl ⟨_, hbm⟩
  obtain ⟨Bm, hBm, hyb, _⟩ := hycap (by omega)
  obtain ⟨Bm', csm, tym, frm, hBm', hheapm, hfreem, hcm⟩ := (hR.bl m gm _ hbm).2.1
  obtain rfl : Bm = Bm' := Option.some.inj (hBm.symm.trans hBm')
  rw [cellsOk_cons hz] at hcm
  obtain ⟨v, rr, hcsm, hzv, hr0⟩ := hcm
  have hr0 : rr = [] := hr0
  subst hr0
  have hyb : ybase = some ⟨Bm, 0, none⟩ := by simpa using hyb
  subst hyb
  have hlo : ∀ w1 : World, w1.heap = w.heap → (Builtin.lenOf (a.eval y)).run P w1 = .ok 1 w1 := fun w1 _ => by rw [hay]; simp [Builtin.lenOf]
  have hfi : ∀ w1 : World, w1.heap = w.heap → (Builtin.firstCells 1 1 (a.eval y)).run P w1 = .ok #[v] w1 := fun w1 hw1 => by
    have := first_run (P := P) (cap := ycap) (n := 1) hheapm (by rw [← Array.length_toList, hcsm]; simp) 1 1 (Nat.le_refl _) rfl w1 hw1
    rw [hay, this, hcsm]; rfl
  obtain ⟨B, cs, ty, fr, hB, hheap, hfree, hcells⟩ := (hR.bl n g _ hbk).2.1
  obtain ⟨c1, c2, hcs, hl1, hc1, hc2⟩ := cells_parts hL hcells
  have hl2 := anys_len hc2
  have hsz : cs.size = L.length + k := by rw [← Array.length_toList, hcs, List.length_append, hl1, hl2]
  have hval : v.oneCell' = true := by
    rw [hzr] at hzv
    obtain ⟨_, _, hv, _⟩ := hzv.2 ⟨_, hrb⟩
    rw [hv]; rfl
  by_cases hroom : L.length + 1 ≤ cap
  · obtain ⟨B', hB', e1, e2⟩ := hcap (by omega)
    obtain rfl : B = B' := Option.some.inj (hB.symm.trans hB')
    have e1 : base = some ⟨B, 0, none⟩ := by simpa using e1
    have hbs : cap ≤ cs.size := by simpa [blockSize, hheap] using e2
    obtain ⟨w', cs', hst, hW, he⟩ := storeCells_run (P := P) (o := L.length) [v] 0 cs w hheap hfree (by simp; omega) (by intro q hq; simp at hq; subst hq; exact hval)
    simp only [Nat.add_zero, List.length_cons, List.length_nil, Nat.zero_add] at he
    have hr := append_inC (q := ⟨B, 0, none⟩) (n := L.length) (cap := cap) (ty := o.type) TO ht h2 hs (hlo w rfl) (hfi w rfl) hroom (w' := w') (by rw [addr_add]; simpa using hst)
    have hs2 : cs'.size = cs.size := by
      have := congrArg List.length he
      simp only [Array.length_toList, List.length_append, List.length_take, List.length_drop, List.length_cons, List.length_nil] at this
      omega
    refine ⟨k - 1, _, _, w', bind1 σ dd B, run_append_exec ho (by rw [hax, e1]; exact hr), .inl rfl, ?_⟩
    have hT := Tr_mv (x' := .cells (L ++ z :: List.replicate (k - 1) .any)) hR hbk hB hn hheap hW hs2
    refine R_mv hR hbk hB hn hheap hW hs2 ⟨B, cs', ty, fr, by simp [bind1], hW.here, by rw [hs2]; exact hfree, ?_⟩ ?_
    · rw [he, hcs, List.take_append_of_le_length (by omega), List.take_of_length_le (by omega), List.drop_append, List.drop_eq_nil_of_le (by omega), List.nil_append, hl1, List.append_assoc]
      refine cells_app hL (hc1.tr hT) ?_
      rw [List.singleton_append, cellsOk_cons hz]
      refine ⟨v, _, rfl, hzv.tr hT, ?_⟩
      have hdl : (c2.drop (L.length + 1 - L.length)).length = k - 1 := by rw [List.length_drop]; omega
      rw [← hdl]
      exact cells_anys _
    · refine ⟨Lim.ok_new _ _, fun _ => ⟨_, cap, rfl, hroom, fun h => ⟨B, by simp [bind1], by simp, ?_⟩⟩⟩
      simp only [blockSize, hW.here, hs2]; omega
  · have hTd := Tr_del (X := X) (b := s.b) (c := s.c) (σ := σ) (w := w) n
    have hdrop : R X ⟨s.t, del s.b n, s.c⟩ σ w a := hR.drop (fun q v hq => by rw [fnd_del] at hq; split at hq <;> simp_all)
    have hold : ∀ w1 : World, w1.heap = w.heap → (Builtin.firstCells 1 L.length (.slice base L.length cap)).run P w1 = .ok c1.toArray w1 := fun w1 hw1 => by
      by_cases h0 : L.length = 0
      · have : c1 = [] := List.eq_nil_of_length_eq_zero (by omega)
        rw [h0, this]
        cases base <;> simp [Builtin.firstCells, loadCells, loadCellsFrom]
      · obtain ⟨B', hB', e1, e2⟩ := hcap (by omega)
        obtain rfl : B = B' := Option.some.inj (hB.symm.trans hB')
        have e1 : base = some ⟨B, 0, none⟩ := by simpa using e1
        rw [e1]
        have := first_run (P := P) (cap := cap) (n := L.length) hheap (by omega) L.length L.length (Nat.le_refl _) rfl w1 hw1
        rw [this, hcs, List.take_append_of_le_length (by omega), List.take_of_length_le (by omega)]
    obtain ⟨newCap, rest, hr, hc1', hc2'⟩ := append_outC (base := base) (n := L.length) (cap := cap) (ty := o.type) (xs := c1) TO ht h2 hs hlo hfi (by omega) hb h63 hold
    refine ⟨rest.size, _, _, _, bind1 σ dd w.heap.size, run_append_exec ho (by rw [hax]; exact hr), .inl rfl, ?_⟩
    have hheap2 : (w.drew.alloc (.cells (c1.toArray ++ #[v] ++ rest) e)).heap[w.heap.size]? = some (.cells (c1.toArray ++ #[v] ++ rest) e) := by show (w.heap.push _)[w.heap.size]? = _; simp
    have hT := Tr_new (s := ⟨s.t, del s.b n, s.c⟩) (w' := w.drew.alloc (.cells (c1.toArray ++ #[v] ++ rest) e)) (n := dd) (x := .cells (L ++ z :: List.replicate rest.size .any)) hdrop hn rfl
    have hT2 := hTd.trans hT
    have hfin := R_new (s := ⟨s.t, del s.b n, s.c⟩) (w' := w.drew.alloc (.cells (c1.toArray ++ #[v] ++ rest) e)) (n := dd) (x := .cells (L ++ z :: List.replicate rest.size .any)) (o := .cells (c1.toArray ++ #[v] ++ rest) e) (dst := o.dst) (sv := .sl dd s.c.c 0 1 0 (L.length + 1)) (v := .slice (some ⟨w.heap.size, 0, none⟩) (L.length + 1) newCap) hdrop hn rfl ⟨rfl, rfl, rfl⟩ ⟨w.heap.size, _, e, (0, 0), by simp [bind1], hheap2, free0 _, by
        have e3 : (c1.toArray ++ #[v] ++ rest).toList = c1 ++ (v :: rest.toList) := by simp
        rw [e3]
        refine cells_app hL (hc1.tr hT2) ?_
        rw [cellsOk_cons hz]
        exact ⟨v, _, rfl, hzv.tr hT2, by rw [← Array.length_toList]; exact cells_anys _⟩⟩
      ⟨Lim.ok_new _ _, fun _ => ⟨_, newCap, rfl, hc1', fun _ => ⟨w.heap.size, by simp [bind1], by simp, by
        have e4 : (c1.toArray ++ #[v] ++ rest).size = newCap := by simp [hl1, hc2']; omega
        simp only [blockSize, hheap2, e4]; omega⟩⟩⟩
    exact ⟨hfin.1, hTd.trans hfin.2⟩

/-- The same behind nothing. -/
theorem appendN_does (TO : TabOk P T) (hR : R X s σ w a) {o : Oper} {t t2 e : TypeId} {x y : Operand} {dd m gm r gr segr er offr lenr : Nat} {xr : Blk} {z : SV} (ho : o.op = .call { callee := .builtin .append, args := #[x, y], argTypes := #[t, t2] })
    (hn : dd ∉ s.c.d) (ht : T.ty t = .slice e) (h2 : isSrc (T.ty t2) = true) (hs : T.size e = 1) (hx : V0 X s.b s.c σ w .nil (a.eval x))
    (hy : V0 X s.b s.c σ w (.sl m gm 0 1 0 1) (a.eval y)) (hbm : fnd s.b m = some (gm, .cells [z])) (hzr : z = .sl r gr segr er offr lenr) (hrb : fnd s.b r = some (gr, xr))
    (hb : T.bytes e ≤ 140737488355328) :
    ∃ k', Does P X s σ ⟨setD s.t o.dst (.sl dd s.c.c 0 1 0 1), upd s.b dd s.c.c (.cells (z :: List.replicate k' .any)), s.c.add dd⟩ w a o := by
  have hz : one1 z = true := by rw [hzr]; rfl
  have hx : a.eval x = .slice none 0 0 := hx
  obtain ⟨_, hyl⟩ := hy
  obtain ⟨ybase, ycap, hay, hyc, hycap⟩ := hyl ⟨_, hbm⟩
  obtain ⟨Bm, hBm, hyb, _⟩ := hycap (by omega)
  obtain ⟨Bm', csm, tym, frm, hBm', hheapm, hfreem, hcm⟩ := (hR.bl m gm _ hbm).2.1
  obtain rfl : Bm = Bm' := Option.some.inj (hBm.symm.trans hBm')
  rw [cellsOk_cons hz] at hcm
  obtain ⟨v, rr, hcsm, hzv, hr0⟩ := hcm
  have hr0 : rr = [] := hr0
  subst hr0
  have hyb : ybase = some ⟨Bm, 0, none⟩ := by simpa using hyb
  subst hyb
  have hlo : ∀ w1 : World, w1.heap = w.heap → (Builtin.lenOf (a.eval y)).run P w1 = .ok 1 w1 := fun w1 _ => by rw [hay]; simp [Builtin.lenOf]
  have hfi : ∀ w1 : World, w1.heap = w.heap → (Builtin.firstCells 1 1 (a.eval y)).run P w1 = .ok #[v] w1 := fun w1 hw1 => by
    have := first_run (P := P) (cap := ycap) (n := 1) hheapm (by rw [← Array.length_toList, hcsm]; simp) 1 1 (Nat.le_refl _) rfl w1 hw1
    rw [hay, this, hcsm]; rfl
  obtain ⟨newCap, rest, hr, hc1', hc2'⟩ := append_outC (base := none) (n := 0) (cap := 0) (ty := o.type) (xs := []) TO ht h2 hs hlo hfi (by omega) (by simpa using hb) (by omega) (fun w1 _ => by simp [Builtin.firstCells])
  simp only [Nat.zero_add] at hr hc1' hc2'
  refine ⟨rest.size, _, _, _, bind1 σ dd w.heap.size, run_append_exec ho (by rw [hx]; exact hr), .inl rfl, ?_⟩
  have e0 : (([] : List Value).toArray ++ #[v] ++ rest) = #[v] ++ rest := by simp
  rw [e0]
  have hheap2 : (w.drew.alloc (.cells (#[v] ++ rest) e)).heap[w.heap.size]? = some (.cells (#[v] ++ rest) e) := by show (w.heap.push _)[w.heap.size]? = _; simp
  have hT := Tr_new (s := s) (w' := w.drew.alloc (.cells (#[v] ++ rest) e)) (n := dd) (x := .cells (z :: List.replicate rest.size .any)) hR hn rfl
  exact R_new (s := s) (w' := w.drew.alloc (.cells (#[v] ++ rest) e)) (n := dd) (x := .cells (z :: List.replicate rest.size .any)) (o := .cells (#[v] ++ rest) e) (dst := o.dst) (sv := .sl dd s.c.c 0 1 0 1) (v := .slice (some ⟨w.heap.size, 0, none⟩) 1 newCap) hR hn rfl ⟨rfl, rfl, rfl⟩ ⟨w.heap.size, _, e, (0, 0), by simp [bind1], hheap2, free0 _, by
      have e3 : (#[v] ++ rest).toList = v :: rest.toList := by simp
      rw [e3, cellsOk_cons hz]
      exact ⟨v, _, rfl, hzv.tr hT, by rw [← Array.length_toList]; exact cells_anys _⟩⟩
    ⟨Lim.ok_new _ _, fun _ => ⟨_, newCap, rfl, hc1', fun _ => ⟨w.heap.size, by simp [bind1], by simp, by
      have e4 : (#[v] ++ rest).size = newCap := by simp [hc2']; omega
      simp only [blockSize, hheap2, e4]; omega⟩⟩⟩

theorem does_ops {ops : Array Oper} {o : Oper} {rest : List Oper} {k : List Item} {Φ : St → Prop} (hg : o.guard = none)
    (h : ∀ σ w a, R X s σ w a → ∃ s', Does P X s σ s' w a o ∧ HOps P X ops rest k s' Φ) : HOps P X ops (o :: rest) k s Φ := by
  intro i hi σ w a hR
  obtain ⟨ho', hrest⟩ := ops_at hi
  obtain ⟨s', ⟨nx, u, w', σ', hrun, hnx, hR', hT'⟩, h'⟩ := h σ w a hR
  rw [List.length_cons, List.range'_succ]
  refine Fins.opValue (v := u) ho' (by simp [Region.wanted, hg]) ?_ ((h' (i + 1) hrest).after hR' hT')
  rcases hnx with rfl | ⟨rfl, rfl⟩
  · exact .inl hrun
  · exact .inr ⟨hrun, rfl⟩

/-- An operand's value, told without a guard. -/
theorem V0_evO (hR : R X s σ w a) {x : Operand} {y : SV} (h : evO s.t x = y) (hy : match y with | .sl _ _ _ _ _ _ | .nil => True | _ => False) : V0 X s.b s.c σ w y (a.eval x) := by
  have hv := V_evO hR x
  rw [h] at hv
  cases y <;> simp only at hy <;> exact hv

theorem appendC_ops (TO : TabOk P T) {ops : Array Oper} {o : Oper} {rest : List Oper} {kk : List Item} {Φ : St → Prop} {t t2 e : TypeId} {x y : Operand} {d n g m gm k r gr segr er offr lenr : Nat} {xr : Blk} {L : List SV}
    (ho : o.op = .call { callee := .builtin .append, args := #[x, y], argTypes := #[t, t2] }) (hg : o.guard = none) (hd : o.dst = some d) (ht : T.ty t = .slice e) (h2 : isSrc (T.ty t2) = true) (hs : T.size e = 1)
    (hx : evO s.t x = .sl n g 0 1 0 L.length) (hy : evO s.t y = .sl m gm 0 1 0 1) (hb : (L.length + 1) * T.bytes e ≤ 140737488355328 ∧ L.length + 1 ≤ 4611686018427387904)
    (hbk : fnd s.b n = some (g, .cells (L ++ List.replicate k .any))) (hL : L.all one1 = true) (hbm : fnd s.b m = some (gm, .cells [.sl r gr segr er offr lenr])) (hrb : fnd s.b r = some (gr, xr)) (hn : s.c.o + d ∉ s.c.d)
    (h : ∀ k', HOps P X ops rest kk ⟨s.t.set d (.sl (s.c.o + d) s.c.c 0 1 0 (L.length + 1)), mv s.b n (s.c.o + d) s.c.c (.cells (L ++ .sl r gr segr er offr lenr :: List.replicate k' .any)), s.c.add (s.c.o + d)⟩ Φ) : HOps P X ops (o :: rest) kk s Φ := by
  refine does_ops hg fun σ w a hR => ?_
  obtain ⟨k', hk⟩ := appendC_does TO hR ho hn ht h2 hs (V0_evO hR hx trivial) hbk hL (V0_evO hR hy trivial) hbm rfl hrb hb.1 hb.2
  rw [hd] at hk
  exact ⟨_, hk, h k'⟩

theorem appendN_ops (TO : TabOk P T) {ops : Array Oper} {o : Oper} {rest : List Oper} {kk : List Item} {Φ : St → Prop} {t t2 e : TypeId} {x y : Operand} {d m gm r gr segr er offr lenr : Nat} {xr : Blk}
    (ho : o.op = .call { callee := .builtin .append, args := #[x, y], argTypes := #[t, t2] }) (hg : o.guard = none) (hd : o.dst = some d) (ht : T.ty t = .slice e) (h2 : isSrc (T.ty t2) = true) (hs : T.size e = 1)
    (hx : evO s.t x = .nil) (hy : evO s.t y = .sl m gm 0 1 0 1) (hb : T.bytes e ≤ 140737488355328)
    (hbm : fnd s.b m = some (gm, .cells [.sl r gr segr er offr lenr])) (hrb : fnd s.b r = some (gr, xr)) (hn : s.c.o + d ∉ s.c.d)
    (h : ∀ k', HOps P X ops rest kk ⟨s.t.set d (.sl (s.c.o + d) s.c.c 0 1 0 1), upd s.b (s.c.o + d) s.c.c (.cells (.sl r gr segr er offr lenr :: List.replicate k' .any)), s.c.add (s.c.o + d)⟩ Φ) : HOps P X ops (o :: rest) kk s Φ := by
  refine does_ops hg fun σ w a hR => ?_
  obtain ⟨k', hk⟩ := appendN_does TO hR ho hn ht h2 hs (V0_evO hR hx trivial) (V0_evO hR hy trivial) hbm rfl hrb hb
  rw [hd] at hk
  exact ⟨_, hk, h k'⟩

end

/-- Own rows, each under a name of its own (from 1000000 on). -/
def rowsB : Nat → List (Nat × List Int) → List (Nat × Nat × Blk)
  | _, [] => []
  | i, x :: q => (1000000 + i, x.1, .vec (.ints .u8 x.2)) :: rowsB (i + 1) q
def rowsS : Nat → List (Nat × List Int) → List SV
  | _, [] => []
  | i, x :: q => .sl (1000000 + i) x.1 0 1 0 x.2.length :: rowsS (i + 1) q

theorem rowsS_len : ∀ (q : List (Nat × List Int)) (i : Nat), (rowsS i q).length = q.length
  | [], _ => rfl
  | x :: q, i => by simp [rowsS, rowsS_len q]
theorem rowsS_one : ∀ (q : List (Nat × List Int)) (i : Nat), (rowsS i q).all one1 = true
  | [], _ => rfl
  | x :: q, i => by simp [rowsS, one1, rowsS_one q]
theorem rowsS_snoc : ∀ (q : List (Nat × List Int)) (i : Nat) (x : Nat × List Int), rowsS i (q ++ [x]) = rowsS i q ++ [.sl (1000000 + (i + q.length)) x.1 0 1 0 x.2.length]
  | [], i, x => by simp [rowsS]
  | y :: q, i, x => by simp [rowsS, rowsS_snoc q]; omega
theorem rowsS_get : ∀ (q : List (Nat × List Int)) (i j : Nat), j < q.length → (rowsS i q)[j]? = some (.sl (1000000 + (i + j)) (q.getD j default).1 0 1 0 (q.getD j default).2.length)
  | [], _, _, h => by simp at h
  | x :: q, i, 0, _ => by simp [rowsS]
  | x :: q, i, j + 1, h => by
    have := rowsS_get q (i + 1) j (by simpa using h)
    simp only [rowsS, List.getElem?_cons_succ, this]
    simp [List.getD]; omega
theorem rowsB_snoc : ∀ (q : List (Nat × List Int)) (i : Nat) (x : Nat × List Int), rowsB i (q ++ [x]) = rowsB i q ++ [(1000000 + (i + q.length), x.1, .vec (.ints .u8 x.2))]
  | [], i, x => by simp [rowsB]
  | y :: q, i, x => by simp [rowsB, rowsB_snoc q]; omega
/-- What is told in them. -/
theorem rowsB_inv : ∀ {q : List (Nat × List Int)} {i n : Nat} {x : Nat × Blk}, fnd (rowsB i q) n = some x → ∃ j, j < q.length ∧ n = 1000000 + (i + j) ∧ x = ((q.getD j default).1, .vec (.ints .u8 (q.getD j default).2))
  | [], _, _, _, h => by simp [rowsB, fnd] at h
  | y :: q, i, n, x, h => by
    simp only [rowsB, fnd] at h
    split at h
    · rename_i e; cases h; exact ⟨0, by simp, by omega, by simp⟩
    · obtain ⟨j, h1, h2, h3⟩ := rowsB_inv h
      exact ⟨j + 1, by simpa using h1, by omega, by simpa [List.getD] using h3⟩
theorem rowsB_at : ∀ (q : List (Nat × List Int)) (i j : Nat), j < q.length → fnd (rowsB i q) (1000000 + (i + j)) = some ((q.getD j default).1, .vec (.ints .u8 (q.getD j default).2))
  | [], _, _, h => by simp at h
  | y :: q, i, 0, _ => by simp [rowsB, fnd]
  | y :: q, i, j + 1, h => by
    have := rowsB_at q (i + 1) j (by simpa using h)
    simp only [rowsB, fnd]
    rw [if_neg (by omega), show 1000000 + (i + (j + 1)) = 1000000 + (i + 1 + j) by omega, this]
    simp [List.getD]
theorem rowsB_lt {q : List (Nat × List Int)} {i n : Nat} (h : n < 1000000 + i) : fnd (rowsB i q) n = none := by
  cases e : fnd (rowsB i q) n with
  | none => rfl
  | some x => obtain ⟨j, _, h2, _⟩ := rowsB_inv e; omega
theorem fnd_app (l m : List (Nat × Nat × Blk)) (n : Nat) : fnd (l ++ m) n = match fnd l n with | some x => some x | none => fnd m n := by
  induction l with
  | nil => rfl
  | cons x l ih =>
    simp only [List.cons_append, fnd, ih]
    split <;> rfl
theorem upd_app {l m : List (Nat × Nat × Blk)} {n g : Nat} {x : Blk} (h : fnd l n = none) : upd (l ++ m) n g x = l ++ upd m n g x := by
  induction l with
  | nil => rfl
  | cons y l ih =>
    simp only [fnd] at h
    split at h
    · cases h
    · rename_i e; simp only [List.cons_append, upd, if_neg e, ih h]
theorem del_none {l : List (Nat × Nat × Blk)} {n : Nat} (h : fnd l n = none) : del l n = l := by
  induction l with
  | nil => rfl
  | cons y l ih =>
    simp only [fnd] at h
    split at h
    · cases h
    · rename_i e; simp only [del, if_neg e, ih h]
theorem del_app (l m : List (Nat × Nat × Blk)) (n : Nat) : del (l ++ m) n = del l n ++ del m n := by
  induction l with
  | nil => rfl
  | cons y l ih =>
    simp only [List.cons_append, del, ih]
    split <;> simp

/-- Rules for states with such rows behind the other blocks. -/
theorem fnd_rows {q : List (Nat × List Int)} {i n : Nat} {m : List (Nat × Nat × Blk)} (h : n < 1000000) : fnd (rowsB i q ++ m) n = fnd m n := by
  rw [fnd_app, rowsB_lt (by omega)]
theorem upd_rows {q : List (Nat × List Int)} {i n g : Nat} {x : Blk} {m : List (Nat × Nat × Blk)} (h : n < 1000000) : upd (rowsB i q ++ m) n g x = rowsB i q ++ upd m n g x := upd_app (rowsB_lt (by omega))
theorem del_rows {q : List (Nat × List Int)} {i n : Nat} {m : List (Nat × Nat × Blk)} (h : n < 1000000) : del (rowsB i q ++ m) n = rowsB i q ++ del m n := by
  rw [del_app, del_none (rowsB_lt (by omega))]

theorem fnd_rows_at {q : List (Nat × List Int)} {j : Nat} (m : List (Nat × Nat × Blk)) (h : j < q.length) : fnd (rowsB 0 q ++ m) (1000000 + j) = some ((q.getD j default).1, .vec (.ints .u8 (q.getD j default).2)) := by
  have := rowsB_at q 0 j h
  rw [Nat.zero_add] at this
  rw [fnd_app, this]
theorem fnd_rows_last (q : List (Nat × List Int)) (x : Nat × List Int) (m : List (Nat × Nat × Blk)) : fnd (rowsB 0 (q ++ [x]) ++ m) (1000000 + q.length) = some (x.1, .vec (.ints .u8 x.2)) := by
  rw [fnd_rows_at m (by simp)]; simp [List.getD]
theorem upd_rows_last (q : List (Nat × List Int)) (g : Nat) (r : List Int) : upd (rowsB 0 q ++ []) (1000000 + q.length) g (.vec (.ints .u8 r)) = rowsB 0 (q ++ [(g, r)]) ++ [] := by
  have h : fnd (rowsB 0 q) (1000000 + q.length) = none := by
    cases e : fnd (rowsB 0 q) (1000000 + q.length) with
    | none => rfl
    | some x => obtain ⟨j, h1, h2, _⟩ := rowsB_inv e; omega
  rw [upd_app h, rowsB_snoc, List.append_nil, Nat.zero_add]; rfl

theorem del_rows2 {q : List (Nat × List Int)} {i n : Nat} {m : List (Nat × Nat × Blk)} (h : n < 1000000 + i) : del (rowsB i q ++ m) n = rowsB i q ++ del m n := by
  rw [del_app, del_none (rowsB_lt h)]
theorem cellAt_one : ∀ {l : List SV} {j : Nat} {x : SV}, l.all one1 = true → l[j]? = some x → cellAt l j = some x
  | [], j, x, _, h => by simp at h
  | y :: l, 0, x, ho, h => by
    simp only [List.getElem?_cons_zero, Option.some.injEq] at h
    subst h
    rw [List.all_cons, Bool.and_eq_true] at ho
    cases y <;> first | (simp only [one1, Bool.false_eq_true, false_and] at ho; done) | (unfold cellAt; rw [if_pos rfl])
  | y :: l, j + 1, x, ho, h => by
    rw [List.all_cons, Bool.and_eq_true] at ho
    simp only [List.getElem?_cons_succ] at h
    have := cellAt_one ho.2 h
    cases y <;> first | (simp only [one1, Bool.false_eq_true, false_and] at ho; done) | (unfold cellAt; rw [if_neg (by omega), Nat.add_sub_cancel]; exact this)
theorem cell_row {q : List (Nat × List Int)} {k j : Nat} (h : j < q.length) : cellAt (rowsS 0 q ++ List.replicate k .any) j = some (.sl (1000000 + j) (q.getD j default).1 0 1 0 (q.getD j default).2.length) := by
  refine cellAt_one ?_ ?_
  · rw [List.all_append, rowsS_one, Bool.true_and, List.all_eq_true]
    intro x hx
    rw [List.eq_of_mem_replicate hx]; rfl
  · have := rowsS_get q 0 j h
    rw [Nat.zero_add] at this
    rw [List.getElem?_append_left (by rw [rowsS_len]; exact h)]; exact this

/-- The slice of such rows, and what is told of it. -/
def outS (K g : Nat) : List (Nat × List Int) → SV
  | [] => .nil
  | x :: q => .sl K g 0 1 0 (x :: q).length
def outB (K g k : Nat) : List (Nat × List Int) → List (Nat × Nat × Blk)
  | [] => []
  | x :: q => (K, g, .cells (rowsS 0 (x :: q) ++ List.replicate k .any)) :: (rowsB 0 (x :: q) ++ [])
theorem outS_snoc (K g : Nat) (q : List (Nat × List Int)) (x : Nat × List Int) : outS K g (q ++ [x]) = .sl K g 0 1 0 (q.length + 1) := by cases q <;> simp [outS]
theorem outB_snoc (K g k : Nat) (q : List (Nat × List Int)) (x : Nat × List Int) : outB K g k (q ++ [x]) = (K, g, .cells (rowsS 0 (q ++ [x]) ++ List.replicate k .any)) :: (rowsB 0 (q ++ [x]) ++ []) := by cases q <;> rfl

end Go.Proofs.YtdhnjmepgafeiaaDoor.Abs
