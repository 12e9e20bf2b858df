/- OWN LIBRARY, part 4: addresses, reads, cuts do what was told of them. -/
import Derived.Test.YtbnjdnahpnjofaaA3
set_option linter.unusedVariables false
set_option linter.unusedSimpArgs false
namespace Go.Proofs.Ytbnjdnahpnjofaa.Abs
open Go

theorem blkAt_fnd {b : List (Nat × Nat × Blk)} {n g : Nat} {x : Blk} (h : blkAt b n g = some x) : fnd b n = some (g, x) := by
  unfold blkAt at h
  split at h
  · rename_i g' y e
    split at h
    · rename_i hg; subst hg; simp only [Option.some.injEq] at h; subst h; exact e
    · simp at h
  · simp at h

theorem blkAt_live {b : List (Nat × Nat × Blk)} {n g : Nat} {x : Blk} (h : blkAt b n g = some x) : Live b n g := ⟨x, blkAt_fnd h⟩

theorem addr_add (B o n : Nat) : (⟨B, o, none⟩ : Addr).add n = ⟨B, o + n, none⟩ := by unfold Addr.add; split <;> simp_all

section
variable {P : Program} {T : Tab} {X : Ctx} {b : List (Nat × Nat × Blk)} {c : Lim} {σ : Env} {w : World}

theorem size_run (TO : TabOk P T) {t : TypeId} (h : T.size t ≠ 0) : (sizeOf t).run P w = .ok (T.size t) w := by
  obtain ⟨i, hi, hs, _⟩ := TO.info t h
  simp [sizeOf, typeInfo, hi, hs]

theorem fieldOf_at {fl : Array Field} {fs : List (Nat × TypeId)} (hm : fl.toList.map (fun x => (x.offset, x.type)) = fs) {f o : Nat} {ft : TypeId} (e2 : fieldOf fs f = some (o, ft)) :
    ∃ fld, fl[f]? = some fld ∧ fld.offset = o ∧ fld.type = ft := by
  have : fl.toList[f]?.map (fun x => (x.offset, x.type)) = some (o, ft) := by
    rw [← List.getElem?_map, hm]; exact e2
  cases e3 : fl.toList[f]? with
  | none => simp [e3] at this
  | some fld => simp only [e3, Option.map_some, Option.some.injEq, Prod.mk.injEq] at this; exact ⟨fld, by simpa using e3, this⟩

theorem faddrV_ok (TO : TabOk P T) {t : TypeId} {f : Nat} {x : SV} {x' : Value} {p : Prop} {v : SV} (h : faddrV T b t f x = some (p, v)) (hp : p)
    (hx : V2 X b c σ w x x') : ∃ u, (Instr.fieldAt t x' f).run P w = .ok u w ∧ V2 X b c σ w v u := by
  cases x <;> simp only [faddrV, reduceCtorEq] at h
  case ptr n g off =>
    cases e : T.ty t <;> simp only [e, reduceCtorEq] at h
    rename_i fs
    cases e2 : fieldOf fs f <;> simp only [e2, reduceCtorEq, Option.some.injEq, Prod.mk.injEq] at h
    rename_i y
    obtain ⟨o, ft⟩ := y
    simp only at h
    cases e1 : blkAt b n g <;> simp only [e1, reduceCtorEq, Option.some.injEq, Prod.mk.injEq] at h
    obtain ⟨rfl, rfl⟩ := h
    have ht := TO.ty t
    rw [e] at ht; simp only [tyOk] at ht
    obtain ⟨fl, hfl, hm⟩ := ht
    obtain ⟨fld, hfld, rfl, rfl⟩ := fieldOf_at hm e2
    obtain ⟨hc, hl⟩ := hx
    obtain ⟨B, hB, rfl⟩ := hl (blkAt_live e1)
    have hsz := size_run (w := w) TO hp
    refine ⟨.pointer (some ⟨B, off + fld.offset, none⟩), ?_, hc, fun _ => ⟨B, hB, rfl⟩⟩
    simp [Instr.fieldAt, run_underlying hfl, hfld, Instr.sureAddr, fieldPlace, hsz, hp, addr_add]
  case eptr n g seg el i m =>
    cases e : T.ty t <;> simp only [e, reduceCtorEq] at h
    rename_i fs
    cases e2 : fieldOf fs f <;> simp only [e2, reduceCtorEq, Option.some.injEq, Prod.mk.injEq] at h
    rename_i y
    obtain ⟨o, ft⟩ := y
    simp only at h
    cases e1 : blkAt b n g <;> simp only [e1, reduceCtorEq, Option.some.injEq, Prod.mk.injEq] at h
    obtain ⟨rfl, rfl⟩ := h
    have ht := TO.ty t
    rw [e] at ht; simp only [tyOk] at ht
    obtain ⟨fl, hfl, hm⟩ := ht
    obtain ⟨fld, hfld, rfl, rfl⟩ := fieldOf_at hm e2
    obtain ⟨him, hc, hl⟩ := hx
    obtain ⟨B, hB, rfl⟩ := hl (blkAt_live e1)
    have hsz := size_run (w := w) TO hp
    refine ⟨.pointer (some ⟨B, seg + i * el + fld.offset, none⟩), ?_, hc, fun _ => ⟨B, hB, rfl⟩⟩
    simp [Instr.fieldAt, run_underlying hfl, hfld, Instr.sureAddr, fieldPlace, hsz, hp, addr_add]
  case vptr tag d i j =>
    cases e : T.ty t <;> simp only [e, reduceCtorEq] at h
    rename_i fs
    cases e2 : fieldOf fs f <;> simp only [e2, reduceCtorEq, Option.some.injEq, Prod.mk.injEq] at h
    rename_i y
    obtain ⟨o, ft⟩ := y
    simp only [Option.some.injEq, Prod.mk.injEq] at h
    obtain ⟨rfl, rfl⟩ := h
    have ht := TO.ty t
    rw [e] at ht; simp only [tyOk] at ht
    obtain ⟨fl, hfl, hm⟩ := ht
    obtain ⟨fld, hfld, rfl, rfl⟩ := fieldOf_at hm e2
    obtain ⟨hi, B, q, rfl, hv, hh⟩ := hx
    have hsz := size_run (w := w) TO hp
    refine ⟨.pointer (some ⟨B, q + i * d.esz + j + fld.offset, none⟩), ?_, hi, B, q, by rw [Nat.add_assoc], hv, hh⟩
    simp [Instr.fieldAt, run_underlying hfl, hfld, Instr.sureAddr, fieldPlace, hsz, hp, addr_add]

theorem iaddrV_ok (TO : TabOk P T) {t : TypeId} {x y : SV} {x' y' : Value} {p : Prop} {v : SV} (h : iaddrV T b t x y = some (p, v)) (hp : p)
    (hx : V2 X b c σ w x x') (hy : V2 X b c σ w y y') : ∃ u, (Instr.indexAt t x' y').run P w = .ok u w ∧ V2 X b c σ w v u := by
  cases y <;> (try (cases x <;> simp only [iaddrV, reduceCtorEq] at h; done))
  rename_i ky i
  obtain rfl : y' = .int ky i := hy
  have ht := TO.ty t
  cases x <;> simp only [iaddrV, reduceCtorEq] at h
  case ptr n g off =>
    cases e : T.ty t <;> simp only [e, reduceCtorEq] at h
    rename_i len el
    rw [e] at ht; simp only [tyOk] at ht
    cases e1 : blkAt b n g <;> simp only [e1, reduceCtorEq, Option.some.injEq, Prod.mk.injEq] at h
    obtain ⟨rfl, rfl⟩ := h
    obtain ⟨h0, hi0, hi1⟩ := hp
    obtain ⟨hc, hl⟩ := hx
    obtain ⟨B, hB, rfl⟩ := hl (blkAt_live e1)
    have hsz := size_run (w := w) TO h0
    refine ⟨.pointer (some ⟨B, off + i.toNat * T.size el, none⟩), ?_, by omega, hc, fun _ => ⟨B, hB, rfl⟩⟩
    simp only [Instr.indexAt, asIntOf, Sem.run_bind, Sem.run_pure, Result.andThen_ok, run_underlying ht, Instr.sureAddr]
    simp [hi0, hi1, hsz, addr_add]
  case sl n g seg e off len =>
    cases e0 : T.ty t <;> simp only [e0, reduceCtorEq] at h
    rename_i el
    rw [e0] at ht; simp only [tyOk] at ht
    cases e1 : blkAt b n g <;> simp only [e1, reduceCtorEq, Option.some.injEq, Prod.mk.injEq] at h
    obtain ⟨rfl, rfl⟩ := h
    obtain ⟨hne, h0, hi0, hi1⟩ := hp
    obtain ⟨hc, hl⟩ := hx
    obtain ⟨a, cap, rfl, hlc, hcap⟩ := hl (blkAt_live e1)
    obtain ⟨B, hB, rfl, _⟩ := hcap (by omega)
    have hsz := size_run (w := w) TO hne
    refine ⟨.pointer (some ⟨B, seg + off * e + i.toNat * e, none⟩), ?_, by omega, hc, fun _ => ⟨B, hB, ?_⟩⟩
    · simp only [Instr.indexAt, asIntOf, Sem.run_bind, Sem.run_pure, Result.andThen_ok, run_underlying ht]
      simp [hi0, hi1, hsz, addr_add, h0]
    · rw [Nat.add_mul, Nat.add_assoc]
  case view tag d =>
    cases e0 : T.ty t <;> simp only [e0, reduceCtorEq, Option.some.injEq, Prod.mk.injEq] at h
    rename_i el
    rw [e0] at ht; simp only [tyOk] at ht
    obtain ⟨rfl, rfl⟩ := h
    obtain ⟨hne, h0, hi0, hi1⟩ := hp
    obtain ⟨a, cap, rfl, hlc, hv⟩ := hx
    obtain ⟨B, o, rfl, hvw, hh⟩ := hv (by omega)
    have hsz := size_run (w := w) TO hne
    refine ⟨.pointer (some ⟨B, o + i.toNat * d.esz, none⟩), ?_, by omega, B, o, rfl, hvw, hh⟩
    simp only [Instr.indexAt, asIntOf, Sem.run_bind, Sem.run_pure, Result.andThen_ok, run_underlying ht]
    simp [hi0, hi1, hsz, addr_add, h0]

theorem indexV_ok (TO : TabOk P T) {t : TypeId} {x y : SV} {x' y' : Value} {p : Prop} {v : SV} (h : indexV T t x y = some (p, v)) (hp : p)
    (hx : V2 X b c σ w x x') (hy : V2 X b c σ w y y') : ∃ u, (Instr.index t x' y').run P w = .ok u w ∧ V2 X b c σ w v u := by
  cases y <;> (try (cases x <;> simp only [indexV, reduceCtorEq] at h; done))
  rename_i ky i
  obtain rfl : y' = .int ky i := hy
  have ht := TO.ty t
  cases x <;> simp only [indexV, reduceCtorEq] at h
  case arr k n l =>
    cases e : T.ty t <;> simp only [e, reduceCtorEq, Option.some.injEq, Prod.mk.injEq] at h
    rename_i len el
    rw [e] at ht; simp only [tyOk] at ht
    obtain ⟨rfl, rfl⟩ := h
    obtain ⟨rfl, h1, hI, hi0, hi1⟩ := hp
    obtain ⟨rfl, hl⟩ := (hx : _ ∧ _)
    have he := TO.ty el
    rw [isI_eq hI] at he; simp only [tyOk] at he
    have hsz := size_run (w := w) TO (t := el) (by omega)
    have hin : i.toNat < l.length := by omega
    refine ⟨.int k (l.getD i.toNat 0), ?_, rfl⟩
    simp only [Instr.index, asIntOf, Sem.run_bind, Sem.run_pure, Result.andThen_ok, run_underlying ht]
    simp [hi0, hi1, hsz, h1, part, isAgg, run_underlying he, hin, List.getD]
  case str s =>
    cases e : T.ty t <;> simp only [e, reduceCtorEq, Option.some.injEq, Prod.mk.injEq] at h
    rw [e] at ht; simp only [tyOk] at ht
    obtain ⟨rfl, rfl⟩ := h
    obtain ⟨hi0, hi1⟩ := hp
    obtain rfl : x' = .string s := hx
    have hin : i.toNat < s.size := by omega
    refine ⟨.int .u8 ((s.data.toList.getD i.toNat 0).toNat : Int), ?_, rfl⟩
    have e1 : s[i.toNat]? = some (s.data.toList.getD i.toNat 0) := by
      have : i.toNat < s.data.size := hin
      rw [getElem?_pos s i.toNat hin]
      simp only [List.getD, Array.getElem?_toList, Array.getElem?_eq_getElem this, Option.getD_some]
      rfl
    simp only [Instr.index, asIntOf, Sem.run_bind, Sem.run_pure, Result.andThen_ok, run_underlying ht]
    simp [hi0, e1]

theorem extractV_ok {i : Nat} {x : SV} {x' : Value} {p : Prop} {v : SV} (h : extractV i x = some (p, v)) (hx : V2 X b c σ w x x') :
    ∃ u, (Instr.extract x' i).run P w = .ok u w ∧ V2 X b c σ w v u := by
  cases x <;> simp only [extractV, reduceCtorEq] at h
  rename_i l
  cases e : l[i]? <;> simp only [e, reduceCtorEq, Option.some.injEq, Prod.mk.injEq] at h
  rename_i y
  obtain ⟨rfl, rfl⟩ := h
  obtain ⟨vs, rfl, ha⟩ := hx
  have key : ∀ (l : List SV) (vs : List Value) (i : Nat) (y : SV), All1 X b c σ w l vs → l[i]? = some y → ∃ u, vs[i]? = some u ∧ V1 X b c σ w y u := by
    intro l
    induction l with
    | nil => intro vs i y _ h; simp at h
    | cons z l ih =>
      intro vs i y h e
      obtain ⟨u, us, rfl, h1, h2⟩ := h
      cases i with
      | zero => simp only [List.getElem?_cons_zero, Option.some.injEq] at e; subst e; exact ⟨u, rfl, h1⟩
      | succ i => simpa using ih us i y h2 (by simpa using e)
  obtain ⟨u, hu, hv⟩ := key l vs.toList i y ha e
  have hu' : vs[i]? = some u := by simpa using hu
  exact ⟨u, by simp [Instr.extract, hu'], V2_of_V1 hv⟩

theorem Holds.sub {vw : Bool → Nat → Prop} {B o : Nat} {d : Data} (h : Holds vw w B o d) {l n : Nat} (hl : l + n ≤ d.len) : Holds vw w B (o + l * d.esz) (d.sub l n) := by
  have elen : (d.sub l n).len = n := by cases d <;> simp [Data.sub, Data.len] at hl ⊢ <;> omega
  have eesz : (d.sub l n).esz = d.esz := by cases d <;> rfl
  intro i j hi hj
  rw [elen] at hi; rw [eesz] at hj ⊢
  obtain ⟨x, hx, hc⟩ := h (l + i) j (by omega) hj
  refine ⟨x, ?_, ?_⟩
  · rw [← hx]; congr 2; rw [Nat.add_mul]; omega
  · have hg : ∀ {α : Type} (q : List α) (z : α), ((q.drop l).take n).getD i z = q.getD (l + i) z := by
      intro α q z; simp [List.getD, List.getElem?_take, hi]
    cases d <;> simp only [CellOk, Data.sub, hg] at hc ⊢ <;> exact hc

theorem sub_len {d : Data} {l n : Nat} (hl : l + n ≤ d.len) : (d.sub l n).len = n := by
  cases d <;> simp [Data.sub, Data.len] at hl ⊢ <;> omega
theorem sub_esz {d : Data} {l n : Nat} : (d.sub l n).esz = d.esz := by cases d <;> rfl

/-- The bounds of a cut are found. -/
theorem bounds_ok {isS : Bool} {len cap : Nat} {lo hi mx : Option SV} {lo' hi' mx' : Option Value} {l h : Int}
    (hlo : lowI lo = some l) (hhi : highI len hi = some h) (e1 : ∀ x, lo = some x → ∃ u, lo' = some u ∧ V2 X b c σ w x u) (e1' : lo = none → lo' = none)
    (e2 : ∀ x, hi = some x → ∃ u, hi' = some u ∧ V2 X b c σ w x u) (e2' : hi = none → hi' = none)
    (e3 : ∀ x, mx = some x → ∃ u, mx' = some u ∧ V2 X b c σ w x u) (e3' : mx = none → mx' = none)
    (h0 : 0 ≤ l) (h1 : l ≤ h) (h2 : h ≤ len) (hc : len ≤ cap) (hm : maxP h hi mx) :
    ∃ m : Nat, h ≤ m ∧ m ≤ cap ∧ (Instr.sliceBounds isS len cap lo' hi' mx').run P w = .ok (l.toNat, h.toNat, m) w := by
  have hL : (lo' = none ∧ l = 0) ∨ ∃ k, lo' = some (.int k l) := by
    cases lo with
    | none => simp only [lowI, Option.some.injEq] at hlo; exact .inl ⟨e1' rfl, hlo.symm⟩
    | some x =>
      obtain ⟨u, hu', hu⟩ := e1 x rfl
      cases x <;> simp only [lowI, reduceCtorEq, Option.some.injEq] at hlo
      rename_i k i
      subst hlo
      exact .inr ⟨k, by rw [hu', show u = .int k i from hu]⟩
  have hH : (hi' = none ∧ h = len ∧ hi = none) ∨ ∃ k, hi' = some (.int k h) := by
    cases hi with
    | none => simp only [highI, Option.some.injEq] at hhi; exact .inl ⟨e2' rfl, hhi.symm, rfl⟩
    | some x =>
      obtain ⟨u, hu', hu⟩ := e2 x rfl
      cases x <;> simp only [highI, reduceCtorEq, Option.some.injEq] at hhi
      rename_i k i
      subst hhi
      exact .inr ⟨k, by rw [hu', show u = .int k i from hu]⟩
  have hM : (mx' = none) ∨ (∃ k, mx' = some (.int k h) ∧ hi ≠ none) := by
    cases mx with
    | none => exact .inl (e3' rfl)
    | some x =>
      obtain ⟨u, hu', hu⟩ := e3 x rfl
      cases x <;> simp only [maxP] at hm
      rename_i k i
      obtain ⟨rfl, hm⟩ := hm
      exact .inr ⟨k, by rw [hu', show u = .int k i from hu], by rintro rfl; simp at hm⟩
  clear e1 e1' e2 e2' e3 e3' hlo hhi hm
  have rl : ∀ k (code : BoundsCode), (Instr.sliceBound (.int k l) h.toNat code).run P w = .ok l.toNat w := fun k code => run_sliceBound w k l h.toNat code h0 (by omega)
  have rh : ∀ k (code : BoundsCode), (Instr.sliceBound (.int k h) cap code).run P w = .ok h.toNat w := fun k code => run_sliceBound w k h cap code (by omega) (by omega)
  have rhh : ∀ k (code : BoundsCode), (Instr.sliceBound (.int k h) h.toNat code).run P w = .ok h.toNat w := fun k code => run_sliceBound w k h h.toNat code (by omega) (by omega)
  rcases hM with rfl | ⟨km, rfl, hne⟩
  · refine ⟨cap, by omega, by omega, ?_⟩
    rcases hH with ⟨rfl, rfl, _⟩ | ⟨kh, rfl⟩ <;> rcases hL with ⟨rfl, rfl⟩ | ⟨kl, rfl⟩
    · simp [Instr.sliceBounds]
    · have := rl kl; simp only [Int.toNat_natCast] at this
      simp [Instr.sliceBounds, this]
    · simp [Instr.sliceBounds, rh]
    · simp [Instr.sliceBounds, rh, rl]
  · refine ⟨h.toNat, by omega, by omega, ?_⟩
    rcases hH with ⟨rfl, rfl, e⟩ | ⟨kh, rfl⟩
    · exact absurd e hne
    rcases hL with ⟨rfl, rfl⟩ | ⟨kl, rfl⟩
    · simp [Instr.sliceBounds, rh, rhh]
    · simp [Instr.sliceBounds, rh, rhh, rl]

theorem arrAt_len {l : List SV} {cs : List Value} {o : Nat} {k : IntKind} {n : Nat} {m : List Int} (h : CellsOk X b c σ w l cs) (e : arrAt l o = some (k, n, m)) :
    o + n ≤ cs.length ∧ m.length = n ∧ ∀ i, i < n → cs[o + i]? = some (.int k (m.getD i 0)) := by
  induction l generalizing cs o with
  | nil => simp [arrAt] at e
  | cons x r ih =>
    cases x
    case arr k' n' l' =>
      obtain ⟨h1, cs', rfl, h2⟩ := h
      simp only [arrAt] at e
      split at e
      · rename_i ho
        subst ho
        simp only [Option.some.injEq, Prod.mk.injEq] at e
        obtain ⟨rfl, rfl, rfl⟩ := e
        refine ⟨by simp; omega, h1, fun i hi => ?_⟩
        rw [Nat.zero_add, List.getElem?_append_left (by simp; omega), List.getElem?_map]
        simp [List.getD, show i < l'.length by omega]
      · split at e
        · rename_i hno
          obtain ⟨g1, g2, g3⟩ := ih h2 e
          refine ⟨by simp; omega, g2, fun i hi => ?_⟩
          rw [List.getElem?_append_right (by simp; omega), ← g3 i hi]
          congr 1
          simp; omega
        · simp at e
    all_goals
      simp only [arrAt] at e
      obtain ⟨v, cs', rfl, h1, h2⟩ := h
      split at e
      · simp at e
      · obtain ⟨g1, g2, g3⟩ := ih h2 e
        refine ⟨by simp; omega, g2, fun i hi => ?_⟩
        rw [← g3 i hi, show o + i = (o - 1 + i) + 1 by omega, List.getElem?_cons_succ]

/-- Operands that may be there. -/
def OptOk (X : Ctx) (b : List (Nat × Nat × Blk)) (c : Lim) (σ : Env) (w : World) (x : Option SV) (x' : Option Value) : Prop :=
  (∀ y, x = some y → ∃ u, x' = some u ∧ V2 X b c σ w y u) ∧ (x = none → x' = none)

theorem sliceV_ok (TO : TabOk P T) {t : TypeId} {x : SV} {lo hi mx : Option SV} {x' : Value} {lo' hi' mx' : Option Value} {p : Prop} {v : SV} (h : sliceV T b t x lo hi mx = some (p, v)) (hp : p)
    (hx : V2 X b c σ w x x') (e1 : OptOk X b c σ w lo lo') (e2 : OptOk X b c σ w hi hi') (e3 : OptOk X b c σ w mx mx')
    (hbl : ∀ n g y, fnd b n = some (g, y) → BlkOk X b c σ w n y) :
    ∃ u, (Instr.sliceAt t x' lo' hi' mx').run P w = .ok u w ∧ V2 X b c σ w v u := by
  have ht := TO.ty t
  cases x <;> simp only [sliceV, reduceCtorEq] at h
  case view tag d =>
    cases e : T.ty t <;> simp only [e, reduceCtorEq] at h
    rename_i el
    rw [e] at ht; simp only [tyOk] at ht
    cases el1 : lowI lo <;> simp only [el1, reduceCtorEq] at h
    cases eh1 : highI d.len hi <;> simp only [eh1, reduceCtorEq, Option.some.injEq, Prod.mk.injEq] at h
    rename_i l hh
    obtain ⟨rfl, rfl⟩ := h
    obtain ⟨hne, hsz0, h0, h1, h2, hm⟩ := hp
    obtain ⟨a, cap, rfl, hlc, hv⟩ := hx
    obtain ⟨m, hm1, hm2, hr⟩ := bounds_ok (P := P) (w := w) (isS := true) el1 eh1 e1.1 e1.2 e2.1 e2.2 e3.1 e3.2 h0 h1 h2 hlc hm
    have hsz := size_run (w := w) TO hne
    have hln : l.toNat + (hh - l).toNat ≤ d.len := by omega
    have hsl := sub_len hln
    refine ⟨.slice (if m = l.toNat then a else a.map (·.add (l.toNat * T.size el))) (hh.toNat - l.toNat) (m - l.toNat), ?_, ?_⟩
    · simp [Instr.sliceAt, Instr.slice, run_underlying ht, hr, hsz]
    · refine ⟨_, m - l.toNat, by rw [hsl]; congr 1; omega, by rw [hsl]; omega, fun hne2 => ?_⟩
      obtain ⟨B, o, rfl, hvw, hhold⟩ := hv (by rw [hsl] at hne2; omega)
      rw [hsl] at hne2
      refine ⟨B, o + l.toNat * d.esz, ?_, hvw, hhold.sub hln⟩
      rw [if_neg (by omega), Option.map_some, addr_add, hsz0]
  case sl n g seg e' off len =>
    cases e : T.ty t <;> simp only [e, reduceCtorEq] at h
    rename_i el
    rw [e] at ht; simp only [tyOk] at ht
    cases el1 : lowI lo <;> simp only [el1, reduceCtorEq] at h
    cases eh1 : highI len hi <;> simp only [eh1, reduceCtorEq] at h
    cases eb : blkAt b n g <;> simp only [eb, reduceCtorEq, Option.some.injEq, Prod.mk.injEq] at h
    rename_i l hh _
    obtain ⟨rfl, rfl⟩ := h
    obtain ⟨hne, hsz0, h0, h1, h2, hm⟩ := hp
    obtain ⟨hc, hl⟩ := hx
    obtain ⟨a, cap, rfl, hlc, hv⟩ := hl (blkAt_live eb)
    obtain ⟨m, hm1, hm2, hr⟩ := bounds_ok (P := P) (w := w) (isS := true) el1 eh1 e1.1 e1.2 e2.1 e2.2 e3.1 e3.2 h0 h1 h2 hlc hm
    have hsz := size_run (w := w) TO hne
    refine ⟨.slice (if m = l.toNat then a else a.map (·.add (l.toNat * T.size el))) (hh.toNat - l.toNat) (m - l.toNat), ?_, hc, fun _ => ?_⟩
    · simp [Instr.sliceAt, Instr.slice, run_underlying ht, hr, hsz]
    · refine ⟨_, m - l.toNat, by congr 1; omega, by omega, fun hne2 => ?_⟩
      have hml : ¬ m = l.toNat := by omega
      obtain ⟨B, hB, rfl, hbs⟩ := hv (by omega)
      refine ⟨B, hB, ?_, ?_⟩
      · rw [if_neg hml, Option.map_some, addr_add, hsz0, Nat.add_mul, Nat.add_assoc]
      · refine Nat.le_trans ?_ hbs
        have h9 : off + l.toNat + (m - l.toNat) ≤ off + cap := by clear hbs hr hsz; omega
        exact Nat.add_le_add_left (Nat.mul_le_mul_right e' h9) seg
  case nil =>
    cases e : T.ty t <;> simp only [e, reduceCtorEq] at h
    rename_i el
    rw [e] at ht; simp only [tyOk] at ht
    cases el1 : lowI lo <;> simp only [el1, reduceCtorEq] at h
    cases eh1 : highI 0 hi <;> simp only [eh1, reduceCtorEq, Option.some.injEq, Prod.mk.injEq] at h
    rename_i l hh
    obtain ⟨rfl, rfl⟩ := h
    obtain ⟨hne, rfl, rfl, hm⟩ := hp
    obtain rfl : x' = .slice none 0 0 := hx
    obtain ⟨m, hm1, hm2, hr⟩ := bounds_ok (P := P) (w := w) (isS := true) (cap := 0) el1 eh1 e1.1 e1.2 e2.1 e2.2 e3.1 e3.2 (by omega) (by omega) (by omega) (by omega) hm
    have hsz := size_run (w := w) TO hne
    obtain rfl : m = 0 := by omega
    refine ⟨.slice none 0 0, ?_, rfl⟩
    simp [Instr.sliceAt, Instr.slice, run_underlying ht, hr, hsz]
  case ptr n g off =>
    cases e : T.ty t <;> simp only [e, reduceCtorEq] at h
    rename_i len el
    rw [e] at ht; simp only [tyOk] at ht
    cases el1 : lowI lo <;> simp only [el1, reduceCtorEq] at h
    cases eh1 : highI len hi <;> simp only [eh1, reduceCtorEq] at h
    cases eb : blkAt b n g <;> simp only [eb, reduceCtorEq] at h
    rename_i l hh bk
    cases bk <;> simp only [reduceCtorEq] at h
    rename_i cs
    cases ea : arrAt cs off <;> simp only [ea, reduceCtorEq, Option.some.injEq, Prod.mk.injEq] at h
    rename_i q
    obtain ⟨k, m0, l0⟩ := q
    simp only at h
    obtain ⟨rfl, rfl⟩ := h
    obtain ⟨hs1, rfl, h0, h1, h2, hm⟩ := hp
    obtain ⟨hc, hl⟩ := hx
    obtain ⟨B, hB, rfl⟩ := hl (blkAt_live eb)
    obtain ⟨m, hm1, hm2, hr⟩ := bounds_ok (P := P) (w := w) (isS := false) (len := m0) (cap := m0) el1 eh1 e1.1 e1.2 e2.1 e2.2 e3.1 e3.2 h0 h1 h2 (Nat.le_refl _) hm
    have hsz := size_run (w := w) TO (t := el) (by omega)
    have hbo := hbl n g _ (blkAt_fnd eb)
    obtain ⟨B', vs, ty, fr, hB', hheap, hfree, hcells⟩ := hbo
    obtain rfl : B = B' := by simpa using hB.symm.trans hB'
    have hlen := arrAt_len hcells ea
    refine ⟨.slice (some (if m = l.toNat then ⟨B, off, none⟩ else (⟨B, off, none⟩ : Addr).add (l.toNat * T.size el))) (hh.toNat - l.toNat) (m - l.toNat), ?_, hc, fun _ => ?_⟩
    · simp [Instr.sliceAt, run_underlying ht, hr, hsz, Instr.sureAddr]
    · refine ⟨_, m - l.toNat, by congr 1; omega, by omega, fun hne2 => ⟨B, hB, ?_, ?_⟩⟩
      · rw [if_neg (by omega), addr_add, hs1]
      · simp only [blockSize, hheap]
        have : vs.toList.length = vs.size := by simp
        omega
  case str s =>
    cases e : T.ty t <;> simp only [e, reduceCtorEq] at h
    rw [e] at ht; simp only [tyOk] at ht
    cases el1 : lowI lo <;> simp only [el1, reduceCtorEq] at h
    cases eh1 : highI s.size hi <;> simp only [eh1, reduceCtorEq] at h
    cases mx <;> simp only [reduceCtorEq, Option.some.injEq, Prod.mk.injEq] at h
    rename_i l hh
    obtain ⟨rfl, rfl⟩ := h
    obtain ⟨h0, h1, h2⟩ := hp
    obtain rfl : x' = .string s := hx
    obtain ⟨m, hm1, hm2, hr⟩ := bounds_ok (P := P) (w := w) (isS := false) (mx := none) (mx' := none) (cap := s.size) el1 eh1 e1.1 e1.2 e2.1 e2.2 (by simp) (by simp) h0 h1 h2 (Nat.le_refl _) trivial
    have := e3.2 rfl
    subst this
    refine ⟨.string (s.extract l.toNat hh.toNat), ?_, rfl⟩
    simp [Instr.sliceAt, Instr.slice, run_underlying ht, hr]

end

end Go.Proofs.Ytbnjdnahpnjofaa.Abs
