/- OWN LIBRARY, part 11: copies into arrays; what is appended; all operations that make or write memory. -/
import Derived.Test.YtbnjdnahpnjofaaA10
set_option linter.unusedVariables false
set_option linter.unusedSimpArgs false
namespace Go.Proofs.Ytbnjdnahpnjofaa.Abs
open Go

theorem take_map_over (l : List Int) (k : IntKind) (off len : Nat) (m : List Int) (cs : List Value) (o n : Nat) (hl : l.length = n) (hle : off + len ≤ n) (hn : o + n ≤ cs.length) (hcs : ∀ j, j < n → cs[o + j]? = some (.int k (l.getD j 0))) :
    cs.take o ++ (overI l off len m).map (Value.int k) ++ cs.drop (o + n) = cs.take (o + off) ++ (m.map (Value.int k)).take (min m.length len) ++ cs.drop (o + off + min m.length len) := by
  have hov : (overI l off len m).length = n := by rw [overI_length (by omega), hl]
  have hmin : ((m.map (Value.int k)).take (min m.length len)).length = min m.length len := by simp
  apply List.ext_getElem?
  intro j
  have e1 : (cs.take o).length = o := by simp; omega
  have e2 : (cs.take o ++ (overI l off len m).map (Value.int k)).length = o + n := by rw [List.length_append, e1, List.length_map, hov]
  have e3 : (cs.take (o + off)).length = o + off := by simp; omega
  have e4 : (cs.take (o + off) ++ (m.map (Value.int k)).take (min m.length len)).length = o + off + min m.length len := by rw [List.length_append, e3, hmin]
  have e5 : (l.take off).length = off := by simp; omega
  have e6 : (l.take off ++ m.take (min m.length len)).length = off + min m.length len := by rw [List.length_append, e5]; simp
  by_cases c1 : j < o
  · rw [List.append_assoc, List.getElem?_append_left (by omega), List.append_assoc, List.getElem?_append_left (by omega), List.getElem?_take, if_pos c1, List.getElem?_take, if_pos (by omega)]
  · by_cases c2 : j < o + n
    · rw [List.getElem?_append_left (by omega), List.getElem?_append_right (by omega), e1, List.getElem?_map]
      have hj := hcs (j - o) (by omega)
      rw [show o + (j - o) = j by omega] at hj
      have hlj : l[j - o]? = some (l.getD (j - o) 0) := by simp [List.getD, show j - o < l.length by omega]
      by_cases c3 : j < o + off
      · rw [List.append_assoc, List.getElem?_append_left (by omega), List.getElem?_take, if_pos c3, hj]
        simp only [overI]
        rw [List.append_assoc, List.getElem?_append_left (by omega), List.getElem?_take, if_pos (by omega), hlj]; rfl
      · by_cases c4 : j < o + off + min m.length len
        · rw [List.getElem?_append_left (by omega), List.getElem?_append_right (by omega), e3, List.getElem?_take, if_pos (by omega), List.getElem?_map]
          simp only [overI]
          rw [List.getElem?_append_left (by omega), List.getElem?_append_right (by omega), e5, List.getElem?_take, if_pos (by omega), show j - o - off = j - (o + off) by omega]
        · rw [List.getElem?_append_right (by omega), e4, List.getElem?_drop, show o + off + min m.length len + (j - (o + off + min m.length len)) = j by omega, hj]
          simp only [overI]
          rw [List.getElem?_append_right (by omega), e6, List.getElem?_drop, show off + min m.length len + (j - o - (off + min m.length len)) = j - o by omega, hlj]; rfl
    · rw [List.getElem?_append_right (by omega), e2, List.getElem?_drop, List.getElem?_append_right (by omega), e4, List.getElem?_drop]
      congr 1; omega

section
variable {P : Program} {T : Tab} {X : Ctx} {s : St} {σ : Env} {w : World} {a : Act}

theorem copy_cells_ok (TO : TabOk P T) (hR : R X s σ w a) {o : Oper} {t t2 e : TypeId} {x y : Operand} {n g seg off len n' : Nat} {k : IntKind} {l l2 : List SV} {l' m : List Int} {cs : List Value} (ho : o.op = .call { callee := .builtin .copy, args := #[x, y], argTypes := #[t, t2] })
    (ht : T.ty t = .slice e) (hs : T.size e = 1) (hx : V2 X s.b s.c σ w (.sl n g seg 1 off len) (a.eval x)) (hb : blkAt s.b n g = some (.cells l)) (ha : arrAt l seg = some (k, n', l')) (hl2 : setA l seg (overI l' off len m) = some l2) (hle : off + len ≤ n') (hsrc : Src P X s.b σ w (.ints k m) (a.eval y) cs) :
    Does P X s σ ⟨setD s.t o.dst (.int .i64 (min m.length len : Nat)), upd s.b n g (.cells l2), s.c⟩ w a o := by
  obtain ⟨_, hlv⟩ := hx
  obtain ⟨ad, cap, hax, hlc, hcap⟩ := hlv (blkAt_live hb)
  have hcs := cs_ints hsrc.1
  obtain ⟨B, cs0, ty, fr, hB, hheap, hfree, hcells⟩ := (hR.bl n g _ (blkAt_fnd hb)).2.1
  obtain ⟨g1, g2, g3⟩ := arrAt_len hcells ha
  have hok := setA_ok hcells ha hl2 (by rw [overI_length (by omega), g2])
  have hlc0 : cs0.toList.length = cs0.size := by simp
  rw [take_map_over l' k off len m _ _ _ g2 hle g1 g3, ← hcs] at hok
  have had : len ≠ 0 → ad = some ⟨B, seg + off, none⟩ := by
    intro h0
    obtain ⟨B', hB', e1, _⟩ := hcap (by omega)
    obtain rfl : B = B' := by simpa using hB.symm.trans hB'
    rw [e1, Nat.mul_one]
  have hmin : (cs.take (min m.length len)).length = min m.length len := by rw [hcs]; simp
  refine store_does hR (blkAt_fnd hb) hB hheap hfree (vs := cs.take (min m.length len)) (off := seg + off) (by rw [hmin]; omega) ?_ (copy_run TO ho ht hs hax had rfl hsrc) ?_ (fun w' => rfl)
  · intro v hv; rw [hcs, ← List.map_take] at hv; obtain ⟨q, _, rfl⟩ := List.mem_map.1 hv; rfl
  · intro w' cs' he hW hT
    rw [hmin] at he
    have hs' : cs'.size = cs0.size := by
      have := congrArg List.length he
      simp only [Array.length_toList, List.length_append, List.length_take, List.length_drop, hmin] at this
      omega
    exact ⟨B, cs', ty, fr, hB, hW.here, by rw [hs']; exact hfree, by rw [he]; exact hok.tr hT⟩

theorem appD_facts {dx dy dz : Data} (h : appD dx dy = some dz) : dz.len = dx.len + dy.len ∧ dz.esz = dx.esz ∧ dy.esz = dx.esz := by
  cases dx <;> cases dy <;> simp only [appD, reduceCtorEq] at h
  case ints.ints k l k' m =>
    split at h <;> simp only [reduceCtorEq, Option.some.injEq] at h
    subst h; simp [Data.len, Data.esz]
  all_goals
    simp only [Option.some.injEq] at h
    subst h; simp [Data.len, Data.esz]

theorem appD_left {b : List (Nat × Nat × Blk)} {dx dy dz : Data} (h : appD dx dy = some dz) {i j : Nat} {x : Value} (hi : i < dx.len) (hc : CellOk (Vw X b σ w) w i j dx x) : CellOk (Vw X b σ w) w i j dz x := by
  have hg : ∀ {α : Type} (p q : List α) (z : α), i < p.length → (p ++ q).getD i z = p.getD i z := by
    intro α p q z hp; simp [List.getD, List.getElem?_append_left hp]
  cases dx <;> cases dy <;> simp only [appD, reduceCtorEq] at h
  case ints.ints k l k' m =>
    split at h <;> simp only [reduceCtorEq, Option.some.injEq] at h
    subst h
    simp only [CellOk, Data.len] at hc hi ⊢
    rw [hg _ _ _ hi]; exact hc
  case rows.rows t l t' m =>
    simp only [Option.some.injEq] at h
    subst h
    simp only [CellOk, Data.len] at hc hi ⊢
    rw [hg _ _ _ hi]; exact hc.weak (by intro h; rw [Bool.and_eq_true] at h; exact h.1)
  all_goals
    simp only [Option.some.injEq] at h
    subst h
    simp only [CellOk, Data.len] at hc hi ⊢
    rw [hg _ _ _ hi]; exact hc

theorem appD_right {b : List (Nat × Nat × Blk)} {dx dy dz : Data} (h : appD dx dy = some dz) {i j : Nat} {x : Value} (hc : CellOk (Vw X b σ w) w i j dy x) : CellOk (Vw X b σ w) w (dx.len + i) j dz x := by
  have hg : ∀ {α : Type} (p q : List α) (z : α), (p ++ q).getD (p.length + i) z = q.getD i z := by
    intro α p q z; simp only [List.getD]; rw [List.getElem?_append_right (by omega), Nat.add_sub_cancel_left]
  cases dx <;> cases dy <;> simp only [appD, reduceCtorEq] at h
  case ints.ints k l k' m =>
    split at h <;> simp only [reduceCtorEq, Option.some.injEq] at h
    rename_i hk
    subst h; subst hk
    simp only [CellOk, Data.len] at hc ⊢
    rw [hg]; exact hc
  case rows.rows t l t' m =>
    simp only [Option.some.injEq] at h
    subst h
    simp only [CellOk, Data.len] at hc ⊢
    rw [hg]; exact hc.weak (by intro h; rw [Bool.and_eq_true] at h; exact h.2)
  all_goals
    simp only [Option.some.injEq] at h
    subst h
    simp only [CellOk, Data.len] at hc ⊢
    rw [hg]; exact hc

/-- Data, cells: the one half from the one, the other from the other. -/
theorem Cs.app {b : List (Nat × Nat × Blk)} {dx dy dz : Data} {xs ys : List Value} (h : appD dx dy = some dz) (hx : Cs X b σ w dx xs) (hy : Cs X b σ w dy ys) : Cs X b σ w dz (xs ++ ys) := by
  obtain ⟨f1, f2, f3⟩ := appD_facts h
  refine ⟨by rw [List.length_append, hx.1, hy.1, f1, f2, f3, Nat.add_mul], fun i j hi hj => ?_⟩
  rw [f2] at hj ⊢
  by_cases c : i < dx.len
  · obtain ⟨v, hv, hc⟩ := hx.2 i j c hj
    refine ⟨v, ?_, appD_left h c hc⟩
    rw [List.getElem?_append_left (by rw [hx.1]; exact mul_idx c hj)]; exact hv
  · obtain ⟨v, hv, hc⟩ := hy.2 (i - dx.len) j (by omega) (by rw [f3]; exact hj)
    have := appD_right h hc
    rw [show dx.len + (i - dx.len) = i by omega] at this
    refine ⟨v, ?_, this⟩
    obtain ⟨q, rfl⟩ : ∃ q, i = dx.len + q := ⟨i - dx.len, by omega⟩
    rw [Nat.add_sub_cancel_left, f3] at hv
    rw [List.getElem?_append_right (by rw [hx.1, Nat.add_mul]; omega), hx.1, ← hv, Nat.add_mul]
    congr 1; omega

theorem Cs.tr {b b' : List (Nat × Nat × Blk)} {c c' : Lim} {σ' : Env} {w' : World} (Tt : Tr X b c σ w b' c' σ' w') {d : Data} {cs : List Value} (h : Cs X b σ w d cs) : Cs X b' σ' w' d cs :=
  ⟨h.1, fun i j hi hj => let ⟨x, hx, hc⟩ := h.2 i j hi hj; ⟨x, hx, hc.tr Tt⟩⟩

/-- Cells at the begin of a block. -/
theorem holds_of_cs {b : List (Nat × Nat × Blk)} {d : Data} {cs : List Value} {B : Nat} {arr : Array Value} {t : TypeId} {fr : Nat × Nat} (hheap : w.heap[B]? = some (.cells arr t fr)) (hpre : ∀ q, q < cs.length → arr[q]? = cs[q]?) (h : Cs X b σ w d cs) : Holds (Vw X b σ w) w B 0 d := by
  intro i j hi hj
  obtain ⟨x, hx, hc⟩ := h.2 i j hi hj
  refine ⟨x, ?_, hc⟩
  rw [cell_block hheap, Nat.zero_add, hpre _ (by rw [h.1]; exact mul_idx hi hj), hx]

theorem cs_of_holds {b : List (Nat × Nat × Blk)} {d : Data} {B : Nat} {arr : Array Value} {t : TypeId} {fr : Nat × Nat} (hheap : w.heap[B]? = some (.cells arr t fr)) (hsz : d.len * d.esz ≤ arr.size) (h : Holds (Vw X b σ w) w B 0 d) : Cs X b σ w d (arr.toList.take (d.len * d.esz)) := by
  refine ⟨by simp; omega, fun i j hi hj => ?_⟩
  obtain ⟨x, hx, hc⟩ := h i j hi hj
  refine ⟨x, ?_, hc⟩
  rw [cell_block hheap, Nat.zero_add] at hx
  rw [List.getElem?_take, if_pos (mul_idx hi hj)]
  simpa using hx

theorem isSrc_ok (TO : TabOk P T) {t : TypeId} (h : isSrc (T.ty t) = true) : (∃ e', P.underlying t = some (.slice e')) ∨ P.underlying t = some .string := by
  have ht := TO.ty t
  cases e : T.ty t <;> rw [e] at h ht <;> simp only [isSrc, tyOk, Bool.false_eq_true] at h ht
  · exact .inr ht
  · exact .inl ⟨_, ht⟩

/-- What append answers where there is room. -/
theorem append_in (TO : TabOk P T) {t t2 e ty : TypeId} (ht : T.ty t = .slice e) (h2 : isSrc (T.ty t2) = true) {base : Option Addr} {n cap : Nat} {y : Value} {d : Data} {ys : List Value} (hs : T.size e = d.esz) (hsrc : Src P X s.b σ w d y ys) (hroom : n + d.len ≤ cap) {w' : World}
    (hst : ∀ q, base = some q → (storeCells (q.add (n * d.esz)) ys).run P w = .ok () w') (hno : base = none → w' = w) :
    (Builtin.append_ #[t, t2] ty #[.slice base n cap, y]).run P w = .ok (.slice base (n + d.len) cap) w' := by
  have ht' := TO.ty t
  rw [ht] at ht'; simp only [tyOk] at ht'
  have hq2 := isSrc_ok TO h2
  obtain ⟨hlo, hfi⟩ := hsrc.2 w rfl
  have hf := hfi d.len (Nat.le_refl _)
  have hall : ys.take (d.len * d.esz) = ys := List.take_of_length_le (by rw [hsrc.1.1]; omega)
  rw [hall] at hf
  have hez := d.esz_pos
  have hso := size_run (P := P) (w := w) TO (t := e) (by omega)
  rw [hs] at hso
  cases base with
  | none =>
    rw [hno rfl]
    rcases hq2 with ⟨e', hq2⟩ | hq2 <;>
    simp [Builtin.append_, run_underlying ht', run_underlying hq2, hso, hlo, hroom, hf]
  | some q =>
    have := hst q rfl
    rcases hq2 with ⟨e', hq2⟩ | hq2 <;>
    simp [Builtin.append_, run_underlying ht', run_underlying hq2, hso, hlo, hroom, hf, this]

theorem zI_cells {k : IntKind} {l : List SV} {z : Value} (h : zI k l) (hz : ZeroOk l z.cells.toList) : z.cells = #[.int k 0] := by
  have : z.cells.toList = [.int k 0] := by
    cases l with
    | nil => simp [zI] at h
    | cons y r =>
      cases r with
      | cons _ _ => cases y <;> simp [zI] at h
      | nil =>
        cases y <;> simp only [zI] at h
        obtain ⟨rfl, rfl⟩ := h
        obtain ⟨v, cs', e1, e2, e3⟩ := hz
        rw [e1, show cs' = [] from e3]
        cases v <;> simp only [constSV, SV.int.injEq, reduceCtorEq] at e2
        · obtain ⟨rfl, rfl⟩ := e2; rfl
        all_goals (try (rename_i a1 a2 a3; cases a1 <;> (try cases a2) <;> (try cases a3) <;> simp only [constSV, reduceCtorEq] at e2))
  exact Array.ext' this

theorem cs_get {k : IntKind} {m : List Int} {cs : List Value} (h : Cs X s.b σ w (.ints k m) cs) : ∀ i, i < cs.length → ∃ z, cs[i]? = some (.int k z) := by
  intro i hi
  obtain ⟨h1, h2⟩ := h
  simp only [Data.len, Data.esz, Nat.mul_one] at h1
  obtain ⟨x, hx, hc⟩ := h2 i 0 (by simp only [Data.len]; omega) (by simp [Data.esz])
  simp only [Data.esz, Nat.mul_one, Nat.add_zero] at hx
  exact ⟨_, by rw [hx, show x = _ from hc]⟩

theorem fit_app {b : List (Nat × Nat × Blk)} {e : TypeId} {d : Data} {zs : List Value} {rest : Array Value} (hft : fitT T e d) (hcs : Cs X b σ w d zs) (h : ∀ k, zI k (T.zero e) → ∀ i, i < rest.size → rest[i]? = some (.int k 0)) (hsz : d.esz = 1 → (zs.toArray ++ rest).size < 9223372036854775808) : Fit d (zs.toArray ++ rest) := by
  cases d <;> try trivial
  rename_i k l
  refine ⟨fun i hi => ?_, hsz rfl⟩
  rw [Array.size_append, List.size_toArray] at hi
  by_cases c : i < zs.length
  · obtain ⟨z, hz⟩ := cs_get (s := ⟨[], b, ⟨0, [], 0⟩⟩) hcs i c
    exact ⟨z, by rw [Array.getElem?_append_left (by simpa using c)]; simpa using hz⟩
  · refine ⟨0, ?_⟩
    rw [Array.getElem?_append_right (by simpa using Nat.le_of_not_lt c), List.size_toArray]
    exact h k hft _ (by omega)

theorem appD_fit {dx dy dz : Data} (h : appD dx dy = some dz) {cs : Array Value} : (Fit dx cs → Fit dz cs) ∧ (Fit dy cs → Fit dz cs) := by
  cases dx <;> cases dy <;> simp only [appD, reduceCtorEq] at h
  · rename_i k l k' m
    split at h
    · rename_i e
      subst e
      obtain rfl := Option.some.inj h
      exact ⟨id, id⟩
    · simp at h
  all_goals (obtain rfl := Option.some.inj h; exact ⟨fun _ => trivial, fun _ => trivial⟩)

theorem fit_over {b : List (Nat × Nat × Blk)} {dx dy dz : Data} (h : appD dx dy = some dz) {cs cs' : Array Value} {ys : List Value} {o : Nat} (hf : Fit dx cs) (hy : Cs X b σ w dy ys) (hoy : o + ys.length ≤ cs.size) (he : cs'.toList = cs.toList.take o ++ ys ++ cs.toList.drop (o + ys.length)) : Fit dz cs' := by
  cases dx <;> cases dy <;> simp only [appD, reduceCtorEq] at h
  · rename_i k l k' m
    split at h
    · rename_i e
      subst e
      obtain rfl := Option.some.inj h
      have hlen := congrArg List.length he
      simp only [Array.length_toList, List.length_append, List.length_take, List.length_drop] at hlen
      refine ⟨fun i hi => ?_, by have := hf.2; omega⟩
      rw [← Array.getElem?_toList, he]
      by_cases c1 : i < (cs.toList.take o).length
      · rw [List.append_assoc, List.getElem?_append_left c1]
        have c2 : i < cs.size := by simp at c1; omega
        obtain ⟨z, hz⟩ := hf.1 i c2
        refine ⟨z, ?_⟩
        rw [List.getElem?_take, if_pos (by simp at c1; omega), Array.getElem?_toList, hz]
      · by_cases c2 : i < (cs.toList.take o ++ ys).length
        · rw [List.getElem?_append_left c2, List.getElem?_append_right (Nat.le_of_not_lt c1)]
          exact cs_get (s := ⟨[], b, ⟨0, [], 0⟩⟩) hy _ (by rw [List.length_append] at c2; omega)
        · rw [List.getElem?_append_right (Nat.le_of_not_lt c2), List.getElem?_drop]
          rw [List.length_append] at c2
          have c3 : o + ys.length + (i - (cs.toList.take o ++ ys).length) < cs.size := by
            simp only [List.length_append, List.length_take, Array.length_toList] at *; omega
          obtain ⟨z, hz⟩ := hf.1 _ c3
          exact ⟨z, by rw [Array.getElem?_toList, hz]⟩
    · simp at h
  all_goals (obtain rfl := Option.some.inj h; trivial)

/-- What append answers where there is no room: a new block. -/
theorem append_out (TO : TabOk P T) {t t2 e ty : TypeId} (ht : T.ty t = .slice e) (h2 : isSrc (T.ty t2) = true) {base : Option Addr} {n cap : Nat} {y : Value} {d : Data} {xs ys : List Value} (hs : T.size e = d.esz) (hsrc : Src P X s.b σ w d y ys) (hroom : cap < n + d.len)
    (hb : (n + d.len) * T.bytes e ≤ 140737488355328) (h63 : n + d.len ≤ 4611686018427387904)
    (hold : ∀ w1 : World, w1.heap = w.heap → (Builtin.firstCells d.esz n (.slice base n cap)).run P w1 = .ok xs.toArray w1) :
    ∃ newCap rest, (Builtin.append_ #[t, t2] ty #[.slice base n cap, y]).run P w = .ok (.slice (some ⟨w.heap.size, 0, none⟩) (n + d.len) newCap) (w.drew.alloc (.cells (xs.toArray ++ ys.toArray ++ rest) e)) ∧ n + d.len ≤ newCap ∧ newCap < 9223372036854775808 ∧ rest.size = (newCap - (n + d.len)) * d.esz ∧ (∀ k, zI k (T.zero e) → ∀ i, i < rest.size → rest[i]? = some (.int k 0)) := by
  have ht' := TO.ty t
  rw [ht] at ht'; simp only [tyOk] at ht'
  have hq2 := isSrc_ok TO h2
  obtain ⟨hlo, hfi⟩ := hsrc.2 w rfl
  obtain ⟨hlo', hfi'⟩ := hsrc.2 w.drew rfl
  have hf := hfi' d.len (Nat.le_refl _)
  have hall : ys.take (d.len * d.esz) = ys := List.take_of_length_le (by rw [hsrc.1.1]; omega)
  rw [hall] at hf
  have hez := d.esz_pos
  obtain ⟨i, hi, his, hib, z, hz, hzo, hzs⟩ := TO.info e (by omega)
  have hso := size_run (P := P) (w := w) TO (t := e) (by omega)
  rw [hs] at hso
  have hfit := growslice_fits (need := n + d.len) (old := cap) (bytes := i.bytes) hroom (by rw [hib]; exact hb)
  have hn : ¬ (n + d.len ≤ cap) := by omega
  have h63' : ¬ (9223372036854775807 < ((n : Int) + (d.len : Int))) := by omega
  have h48' : ¬ (281474976710656 < Builtin.nextslicecap (n + d.len) cap * i.bytes) := by omega
  have hfo := hold w.drew rfl
  have hzl : z.cells.size = d.esz := by rw [hzs, hs]
  refine ⟨grownCap w (n + d.len) cap e, Builtin.zeroCells z.cells (grownCap w (n + d.len) cap e - (n + d.len)), ?_, ?_, ?_, ?_, ?_⟩
  · have hsz : i.size = d.esz := his.trans hs
    rcases hq2 with ⟨e', hq2⟩ | hq2 <;>
    simp [Builtin.append_, run_underlying ht', run_underlying hq2, sizeOf, hsz, hlo, hn, typeInfo, hi, hz, zeroValue, Question.forced, hf, hfo, newRow, h63', h48', grownCap, askRoom]
    all_goals (congr 2; apply Array.ext'; simp [List.append_assoc])
  · simp only [grownCap, Question.cut]; omega
  · simp only [grownCap, Question.cut]
    have e63 : (2 : Nat) ^ 63 = 9223372036854775808 := rfl
    rw [e63]
    exact Nat.lt_of_lt_of_le (Nat.add_lt_add_left (Nat.mod_lt _ (by omega)) _) (by omega)
  · simp [Builtin.zeroCells, hzl]
  · intro k hk j hj
    rw [zI_cells hk hzo] at hj ⊢
    simp only [Builtin.zeroCells, Array.size_map, Array.size_range] at hj
    simp only [Builtin.zeroCells]
    rw [Array.getElem?_map, Array.getElem?_range]
    simp at hj
    simp [hj, Nat.mod_one]

theorem run_append_exec {o : Oper} {t t2 : TypeId} {x y : Operand} {u : Value} {w' : World} (ho : o.op = .call { callee := .builtin .append, args := #[x, y], argTypes := #[t, t2] })
    (h : (Builtin.append_ #[t, t2] o.type #[a.eval x, a.eval y]).run P w = .ok u w') : (execOp a.eval o).run P w = .ok (.value u) w' := by
  simp only [execOp, ho, resolve]
  simp [invoke, builtin, h]

/-- A new block with cells that hold data. -/
theorem append_new_R {b0 : List (Nat × Nat × Blk)} (hR : R X ⟨s.t, b0, s.c⟩ σ w a) {dst : Option Nat} {dd : Nat} {d : Data} {zs : List Value} {rest : Array Value} {e : TypeId} {newCap : Nat} (hn : dd ∉ s.c.d)
    (hcs : Cs X b0 σ w d zs) (hrest : rest.size = (newCap - d.len) * d.esz) (hcap : d.len ≤ newCap) (hft : Fit d (zs.toArray ++ rest)) :
    R X ⟨setD s.t dst (.sl dd s.c.c 0 d.esz 0 d.len), upd b0 dd s.c.c (.vec d), s.c.add dd⟩ (bind1 σ dd w.heap.size) (w.drew.alloc (.cells (zs.toArray ++ rest) e)) (a.put dst (.slice (some ⟨w.heap.size, 0, none⟩) d.len newCap)) ∧ Tr X b0 s.c σ w (upd b0 dd s.c.c (.vec d)) (s.c.add dd) (bind1 σ dd w.heap.size) (w.drew.alloc (.cells (zs.toArray ++ rest) e)) := by
  have hheap : (w.drew.alloc (.cells (zs.toArray ++ rest) e)).heap[w.heap.size]? = some (.cells (zs.toArray ++ rest) e) := by show (w.heap.push _)[w.heap.size]? = _; simp
  have hsz : (zs.toArray ++ rest).size = newCap * d.esz := by
    rw [Array.size_append, hrest, List.size_toArray, hcs.1, ← Nat.add_mul]; congr 1; omega
  have hT := Tr_new (s := ⟨s.t, b0, s.c⟩) (w' := w.drew.alloc (.cells (zs.toArray ++ rest) e)) (n := dd) (x := .vec d) hR hn rfl
  refine R_new (s := ⟨s.t, b0, s.c⟩) (o := .cells (zs.toArray ++ rest) e) hR hn rfl ⟨rfl, rfl, rfl⟩ (.inr ⟨w.heap.size, _, e, (0, 0), by simp [bind1], hheap, free0 _, by rw [hsz]; exact Nat.mul_le_mul_right _ hcap, ?_, hft⟩) ?_
  · refine holds_of_cs hheap (fun q hq => ?_) (hcs.tr hT)
    rw [Array.getElem?_append_left (by simpa using hq)]; simp
  · refine ⟨Lim.ok_new _ _, fun _ => ⟨_, newCap, rfl, hcap, fun _ => ⟨w.heap.size, by simp [bind1], by simp, ?_⟩⟩⟩
    simp only [blockSize, hheap, hsz, Nat.zero_add]; exact Nat.le_refl _

theorem append_nil_ok (TO : TabOk P T) (hR : R X s σ w a) {o : Oper} {t t2 e : TypeId} {x y : Operand} {dd : Nat} {d : Data} {ys : List Value} (ho : o.op = .call { callee := .builtin .append, args := #[x, y], argTypes := #[t, t2] })
    (hn : dd ∉ s.c.d) (ht : T.ty t = .slice e) (h2 : isSrc (T.ty t2) = true) (hft : fitT T e d) (hs : T.size e = d.esz) (hx : a.eval x = .slice none 0 0) (hsrc : Src P X s.b σ w d (a.eval y) ys)
    (hb : d.len * T.bytes e ≤ 140737488355328) (h63 : d.len ≤ 4611686018427387904) :
    Does P X s σ ⟨setD s.t o.dst (.sl dd s.c.c 0 d.esz 0 d.len), upd s.b dd s.c.c (.vec d), s.c.add dd⟩ w a o := by
  by_cases h0 : d.len = 0
  · have hr := append_in (base := none) (n := 0) (cap := 0) (ty := o.type) TO ht h2 hs hsrc (by omega) (w' := w) (fun q hq => by simp at hq) (fun _ => rfl)
    rw [h0] at hr
    refine ⟨_, .slice none 0 0, w, fun m => if m = dd then none else σ m, run_append_exec ho (by rw [hx]; exact hr), .inl rfl, ?_⟩
    refine R_none hR hn (.inl ⟨by simp, h0⟩) ⟨Lim.ok_new _ _, fun _ => ⟨none, 0, by rw [h0], by omega, fun h => absurd rfl h⟩⟩
  · obtain ⟨newCap, rest, hr, hc1, hc0, hc2, hc3⟩ := append_out (base := none) (n := 0) (cap := 0) (ty := o.type) (xs := []) TO ht h2 hs hsrc (by omega) (by simpa using hb) (by omega) (fun w1 _ => by simp [Builtin.firstCells])
    simp only [Nat.zero_add, List.nil_append] at hr hc1 hc0 hc2
    have e1 : (#[] : Array Value) ++ ys.toArray ++ rest = ys.toArray ++ rest := by simp
    rw [e1] at hr
    refine ⟨_, _, _, bind1 σ dd w.heap.size, run_append_exec ho (by rw [hx]; exact hr), .inl rfl, ?_⟩
    exact append_new_R hR hn hsrc.1 hc2 hc1 (fit_app hft hsrc.1 hc3 (fun h1 => by
      have h2 := hsrc.1.1
      rw [h1, Nat.mul_one] at h2 hc2
      rw [Array.size_append, List.size_toArray, h2, hc2]; omega))

theorem append_own_ok (TO : TabOk P T) (hR : R X s σ w a) {o : Oper} {t t2 e : TypeId} {x y : Operand} {dd n g : Nat} {dx dy dz : Data} {ys : List Value} (ho : o.op = .call { callee := .builtin .append, args := #[x, y], argTypes := #[t, t2] })
    (hn : dd ∉ s.c.d) (ht : T.ty t = .slice e) (h2 : isSrc (T.ty t2) = true) (hft : fitT T e dz) (hs : T.size e = dx.esz) (hx : V2 X s.b s.c σ w (.sl n g 0 dx.esz 0 dx.len) (a.eval x)) (hbk : blkAt s.b n g = some (.vec dx))
    (hz : appD dx dy = some dz) (hsrc : Src P X s.b σ w dy (a.eval y) ys)
    (hb : (dx.len + dy.len) * T.bytes e ≤ 140737488355328) (h63 : dx.len + dy.len ≤ 4611686018427387904) :
    Does P X s σ ⟨setD s.t o.dst (.sl dd s.c.c 0 dx.esz 0 dz.len), mv s.b n dd s.c.c (.vec dz), s.c.add dd⟩ w a o := by
  obtain ⟨f1, f2, f3⟩ := appD_facts hz
  have hs' : T.size e = dy.esz := by rw [f3]; exact hs
  obtain ⟨_, hlv⟩ := hx
  obtain ⟨base, cap, hax, hlc, hcap⟩ := hlv (blkAt_live hbk)
  have hfnd := blkAt_fnd hbk
  -- without the old name
  have hdrop : R X ⟨s.t, del s.b n, s.c⟩ σ w a := hR.drop (fun q v hq => by rw [fnd_del] at hq; split at hq <;> simp_all)
  have hTd : Tr X s.b s.c σ w (del s.b n) s.c σ w := by
    have hl : ∀ q v, fnd (del s.b n) q = some v → fnd s.b q = some v := fun q v hq => by rw [fnd_del] at hq; split at hq <;> simp_all
    refine ⟨fun _ _ h => h, fun q g ⟨v, hv⟩ _ => ⟨⟨v, hl q _ hv⟩, rfl⟩, fun tag B hv => ⟨rfl, hv.1, ?_⟩, fun _ _ _ _ _ _ => Nat.le_refl _⟩
    rcases hv.2 with hv | ⟨hv, hnn⟩
    · exact .inl hv
    · exact .inr ⟨hv, fun ⟨q, v, h1, h2⟩ => hnn ⟨q, v, hl q v h1, h2⟩⟩
  have hblk := (hR.bl n g _ hfnd).2.1
  by_cases hroom : dx.len + dy.len ≤ cap
  · -- there is room
    rcases hblk with ⟨hno, hx0⟩ | ⟨B, cs, ty, fr, hB, hheap, hfree, hsz, hh, hfc0⟩
    · have hcap0 : cap = 0 := by
        rcases Nat.eq_zero_or_pos cap with h | h
        · exact h
        · obtain ⟨B, hB, _⟩ := hcap (by omega); rw [hno] at hB; simp at hB
      have hys : ys = [] := List.eq_nil_of_length_eq_zero (by have h9 : dy.len = 0 := (by omega); rw [hsrc.1.1, h9]; simp)
      have hr := append_in (base := base) (n := dx.len) (cap := cap) (ty := o.type) TO ht h2 hs' hsrc hroom (w' := w) (fun q hq => by rw [hys]; rfl) (fun _ => rfl)
      refine ⟨_, _, w, fun m => if m = dd then none else σ m, run_append_exec ho (by rw [hax]; exact hr), .inl rfl, ?_⟩
      have hfin := R_none (s := ⟨s.t, del s.b n, s.c⟩) (x := .vec dz) (dst := o.dst) (sv := .sl dd s.c.c 0 dx.esz 0 dz.len) (v := .slice base (dx.len + dy.len) cap) hdrop hn (.inl ⟨by simp, by omega⟩) ⟨Lim.ok_new _ _, fun _ => ⟨base, cap, by rw [f1], by omega, fun h => absurd hcap0 h⟩⟩
      exact ⟨hfin.1, hTd.trans hfin.2⟩
    · by_cases hy0 : dy.len = 0
      · have hys : ys = [] := List.eq_nil_of_length_eq_zero (by rw [hsrc.1.1, hy0]; simp)
        have hr := append_in (base := base) (n := dx.len) (cap := cap) (ty := o.type) TO ht h2 hs' hsrc hroom (w' := w) (fun q hq => by rw [hys]; rfl) (fun _ => rfl)
        have hW : Wrote B w w cs ty fr := ⟨hheap, fun _ _ => rfl, rfl, rfl, rfl, rfl⟩
        refine ⟨_, _, w, bind1 σ dd B, run_append_exec ho (by rw [hax]; exact hr), .inl rfl, ?_⟩
        refine R_mv hR hfnd hB hn hheap hW rfl (.inr ⟨B, cs, ty, fr, by simp [bind1], hheap, hfree, by rw [f1, f2, hy0]; exact hsz, ?_, (appD_fit hz).1 hfc0⟩) ?_
        · have hT := Tr_mv (x' := .vec dz) hR hfnd hB hn hheap hW rfl
          intro i j hi hj
          rw [f2] at hj ⊢
          obtain ⟨v, hv, hc⟩ := hh i j (by omega) hj
          exact ⟨v, hv, (appD_left hz (by omega) hc).tr hT⟩
        · refine ⟨Lim.ok_new _ _, fun _ => ⟨base, cap, by rw [f1], by omega, fun h => ?_⟩⟩
          obtain ⟨B', hB', e1, e2⟩ := hcap h
          obtain rfl : B = B' := by simpa using hB.symm.trans hB'
          exact ⟨B, by simp [bind1], e1, e2⟩
      · obtain ⟨B', hB', e1, e2⟩ := hcap (by omega)
        obtain rfl : B = B' := by simpa using hB.symm.trans hB'
        have hbs : (0 + cap) * dx.esz ≤ cs.size := by simpa [blockSize, hheap] using e2
        have hm1 : (dx.len + dy.len) * dx.esz ≤ cap * dx.esz := Nat.mul_le_mul_right _ hroom
        have hyl : ys.length = dy.len * dx.esz := by rw [hsrc.1.1, f3]
        obtain ⟨w', cs', hst, hW, he⟩ := storeCells_run (P := P) (o := dx.len * dx.esz) ys 0 cs w hheap hfree (by rw [hyl]; rw [Nat.add_mul] at hm1; rw [Nat.zero_add] at hbs; omega) (cs_one hsrc.1)
        simp only [Nat.add_zero] at he
        have hr := append_in (base := base) (n := dx.len) (cap := cap) (ty := o.type) TO ht h2 hs' hsrc hroom (w' := w') (fun q hq => by
          rw [e1] at hq; simp only [Option.some.injEq] at hq; subst hq
          rw [addr_add, f3]; simpa using hst) (fun h => by rw [e1] at h; simp at h)
        have hcsl : cs.toList.length = cs.size := by simp
        have hs2 : cs'.size = cs.size := by
          have := congrArg List.length he
          simp only [Array.length_toList, List.length_append, List.length_take, List.length_drop] at this
          rw [Nat.add_mul] at hm1; rw [Nat.zero_add] at hbs
          omega
        refine ⟨_, _, w', bind1 σ dd B, run_append_exec ho (by rw [hax]; exact hr), .inl rfl, ?_⟩
        refine R_mv hR hfnd hB hn hheap hW hs2 (.inr ⟨B, cs', ty, fr, by simp [bind1], hW.here, by rw [hs2]; exact hfree, by rw [f1, f2, hs2]; rw [Nat.zero_add] at hbs; omega, ?_, fit_over hz hfc0 hsrc.1 (by rw [hyl]; rw [Nat.add_mul] at hm1; rw [Nat.zero_add] at hbs; omega) he⟩) ?_
        · have hT := Tr_mv (x' := .vec dz) hR hfnd hB hn hheap hW hs2
          have hcsx := cs_of_holds hheap hsz hh
          have happ := Cs.app hz hcsx hsrc.1
          refine holds_of_cs hW.here (fun q hq => ?_) (happ.tr hT)
          rw [List.length_append, hcsx.1] at hq
          rw [← Array.getElem?_toList, he, List.getElem?_append_left (by simp; omega)]
        · refine ⟨Lim.ok_new _ _, fun _ => ⟨base, cap, by rw [f1], by omega, fun h => ⟨B, by simp [bind1], e1, ?_⟩⟩⟩
          simp only [blockSize, hW.here, hs2]; simpa using hbs
  · -- there is none
    have hfc : ∃ xs, Cs X s.b σ w dx xs ∧ ∀ w1 : World, w1.heap = w.heap → (Builtin.firstCells dy.esz dx.len (.slice base dx.len cap)).run P w1 = .ok xs.toArray w1 := by
      rcases hblk with ⟨hno, hx0⟩ | ⟨B, cs, ty, fr, hB, hheap, hfree, hsz, hh, hfc0⟩
      · have := src_empty (P := P) (X := X) (b := s.b) (σ := σ) (w := w) (a := base) (cap := cap) hx0
        refine ⟨[], this.1, fun w1 hw1 => ?_⟩
        have := (this.2 w1 hw1).2 0 (by omega)
        rw [hx0, f3]; simpa using this
      · by_cases hx0 : dx.len = 0
        · have := src_empty (P := P) (X := X) (b := s.b) (σ := σ) (w := w) (a := base) (cap := cap) hx0
          refine ⟨[], this.1, fun w1 hw1 => ?_⟩
          have := (this.2 w1 hw1).2 0 (by omega)
          rw [hx0, f3]; simpa using this
        · obtain ⟨B', hB', e1, e2⟩ := hcap (by omega)
          obtain rfl : B = B' := by simpa using hB.symm.trans hB'
          obtain ⟨xs, hxs⟩ := src_of_holds (P := P) (cap := cap) rfl hh
          refine ⟨xs, hxs.1, fun w1 hw1 => ?_⟩
          have := (hxs.2 w1 hw1).2 dx.len (Nat.le_refl _)
          rw [List.take_of_length_le (by rw [hxs.1.1]; omega)] at this
          rw [f3, e1]; simpa using this
    obtain ⟨xs, hcsx, hfirst⟩ := hfc
    obtain ⟨newCap, rest, hr, hc1, hc0, hc2, hc3⟩ := append_out (base := base) (n := dx.len) (cap := cap) (ty := o.type) (xs := xs) TO ht h2 hs' hsrc (by omega) hb h63 hfirst
    have e1 : xs.toArray ++ ys.toArray ++ rest = (xs ++ ys).toArray ++ rest := by simp
    rw [e1, ← f1] at hr
    refine ⟨_, _, _, bind1 σ dd w.heap.size, run_append_exec ho (by rw [hax]; exact hr), .inl rfl, ?_⟩
    rw [← f2]
    have hfin := append_new_R (b0 := del s.b n) (dst := o.dst) (e := e) hdrop hn ((Cs.app hz hcsx hsrc.1).tr hTd) (by rw [hc2, f1, f3, f2]) (by rw [f1]; exact hc1) (fit_app hft (Cs.app hz hcsx hsrc.1) hc3 (fun h1 => by
      have h2 := (Cs.app hz hcsx hsrc.1).1
      rw [h1, Nat.mul_one] at h2
      have h4 : dy.esz = 1 := by rw [f3, ← f2]; exact h1
      have h5 : rest.size = newCap - (dx.len + dy.len) := by rw [hc2, h4, Nat.mul_one]
      rw [Array.size_append, List.size_toArray, h2, h5, f1]; omega))
    exact ⟨hfin.1, hTd.trans hfin.2⟩
end

end Go.Proofs.Ytbnjdnahpnjofaa.Abs
