/- OWN LIBRARY, part 12: the run, told step by step, is the run. -/
import Derived.Test.YtbnjdnahpnjofaaA11
set_option linter.unusedVariables false
set_option linter.unusedSimpArgs false
namespace Go.Proofs.Ytbnjdnahpnjofaa.Abs
open Go

section
variable {P : Program} {T : Tab} {X : Ctx} {s : St} {σ : Env} {w : World} {a : Act}

theorem memOp_ok (TO : TabOk P T) (hR : R X s σ w a) {ρ : Operand → SV} {o : Oper} {p : Prop} {s' : St}
    (hρ : ∀ x, x ∈ o.op.operands.toList → V2 X s.b s.c σ w (ρ x) (a.eval x)) (h : memOp T s o.dst ρ o.op = .go p s') (hp : p) : Does P X s σ s' w a o := by
  have hbl : ∀ n g y, fnd s.b n = some (g, y) → BlkOk X s.b s.c σ w n y := fun n g y hy => (hR.bl n g y hy).2.1
  cases ho : o.op <;> rw [ho] at h hρ <;> try (simp only [memOp, reduceCtorEq] at h; done)
  case alloc e => exact alloc_ok TO hR ho h hp
  case box e x =>
    simp only [memOp] at h
    cases hl : cellsOf s.b (ρ x) <;> simp only [hl, reduceCtorEq] at h
    exact box_ok hR ho (hρ x (by simp [Op.operands])) hl h hp
  case buildSlice t len parts =>
    simp only [memOp] at h
    cases ht : T.ty t <;> simp only [ht, reduceCtorEq] at h
    rename_i e
    cases hx : elemsOf ρ 0 parts.toList <;> simp only [hx, reduceCtorEq] at h
    rename_i xs
    obtain ⟨vs, hv1, hv2⟩ := elems_ok (a := a) hx (fun q hq => hρ q.2 (by simp [Op.operands]; exact ⟨q.1, by simpa using hq⟩))
    cases he : T.ty e <;> simp only [he, reduceCtorEq] at h
    case int k =>
      cases hi : intsOf k xs <;> simp only [hi, reduceCtorEq] at h
      rename_i l
      obtain ⟨d, hn, ⟨h1, h2, h3⟩, rfl⟩ := newV_go h hp
      obtain ⟨e1, e2⟩ := intsOf_ok hi hv2
      refine buildSlice_does TO hR ho hn ht hv1 ?_ (by rw [e1, List.length_map, e2, h1]) h2 h3 rfl (by simp only [Data.len]; rw [e2, h1]) ?_
      · intro v hv; rw [e1] at hv; obtain ⟨q, _, rfl⟩ := List.mem_map.1 hv; rfl
      · intro i hi; rw [e1]; exact ⟨_, map_getD _ _ _ (by omega), rfl⟩
    case string =>
      cases hi : strsOf xs <;> simp only [hi, reduceCtorEq] at h
      rename_i l
      obtain ⟨d, hn, ⟨h1, h2, h3⟩, rfl⟩ := newV_go h hp
      obtain ⟨e1, e2⟩ := strsOf_ok hi hv2
      refine buildSlice_does TO hR ho hn ht hv1 ?_ (by rw [e1, List.length_map, e2, h1]) h2 h3 rfl (by simp only [Data.len]; rw [e2, h1]) ?_
      · intro v hv; rw [e1] at hv; obtain ⟨q, _, rfl⟩ := List.mem_map.1 hv; rfl
      · intro i hi; rw [e1]; exact ⟨.string (l.getD i default), by simp [List.getD, show i < l.length by omega], rfl⟩
    case slice e' =>
      cases hi : rowsOf s.b xs <;> simp only [hi, reduceCtorEq] at h
      case none =>
        cases hall : xs.all (scal s.b) <;> simp only [hall, reduceCtorEq] at h
        obtain ⟨d, hn, ⟨h1, h2, h3⟩, rfl⟩ := newV_go h hp
        obtain ⟨g1, g2, g3⟩ := scalAll_ok hall hv2
        exact buildCells_does TO hR ho hn ht hv1 g2 (by omega) h2 h3 g1
      rename_i q
      obtain ⟨tg, l⟩ := q
      try simp only at h
      obtain ⟨d, hn, ⟨h1, h2, h3⟩, rfl⟩ := newV_go h hp
      obtain ⟨e1, e2, e3⟩ := rowsOf_ok hi hv2
      refine buildSlice_does TO hR ho hn ht hv1 ?_ (by omega) h2 h3 rfl (by simp only [Data.len]; omega) ?_
      · intro v hv
        obtain ⟨i, hi⟩ := List.mem_iff_getElem?.1 hv
        have hil : i < vs.length := by
          rcases Nat.lt_or_ge i vs.length with h | h
          · exact h
          · simp [List.getElem?_eq_none h] at hi
        obtain ⟨u, hu, ad, cap, rfl, _⟩ := e3 i (by omega)
        rw [hi] at hu
        simp only [Option.some.injEq] at hu
        subst hu; rfl
      · intro i hi; exact e3 i (by omega)
    case struct fs =>
      cases hi : aggsOf s.b (T.size e) xs <;> simp only [hi, reduceCtorEq] at h
      rename_i l
      obtain ⟨d, hn, ⟨h1, h2, h3⟩, rfl⟩ := newV_go h hp
      obtain ⟨g1, g2, g3⟩ := aggsOf_ok hi hv2
      exact buildAggs_does TO hR ho hn ht hv1 g2 (by omega) h2 h3 g1
  case store t x y =>
    simp only [memOp] at h
    have hx := hρ x (by simp [Op.operands])
    have hy := hρ y (by simp [Op.operands])
    cases ex : ρ x <;> rw [ex] at hx <;> simp only [ex, reduceCtorEq] at h
    case ptr n g off =>
      cases eb : blkAt s.b n g <;> simp only [eb, reduceCtorEq] at h
      rename_i bk
      cases bk <;> simp only [reduceCtorEq] at h
      rename_i l
      have key : one (T.ty t) = true → (match scal s.b (ρ y), setC l off (ρ y) with
          | true, some l2 => Res.go (T.size t = 1) ⟨setD s.t o.dst .any, upd s.b n g (.cells l2), s.c⟩
          | _, _ => .stop) = .go p s' → Does P X s σ s' w a o := by
        intro _ h
        cases e1 : scal s.b (ρ y) <;> simp only [e1, reduceCtorEq] at h
        cases e2 : setC l off (ρ y) <;> simp only [e2, reduceCtorEq, Res.go.injEq] at h
        obtain ⟨rfl, rfl⟩ := h
        exact store_ptr_ok TO hR ho hx hy eb e1 e2 hp
      cases et : T.ty t <;> simp only [et, reduceCtorEq] at h
      case struct fs =>
        cases ey : ρ y <;> rw [ey] at hy <;> simp only [ey, reduceCtorEq] at h
        rename_i m
        cases e1 : okC s.b m <;> simp only [e1, reduceCtorEq] at h
        cases e2 : takeC l off <;> simp only [e2, reduceCtorEq] at h
        cases e3 : dropC l (off + T.size t) <;> simp only [e3, reduceCtorEq, Res.go.injEq] at h
        obtain ⟨rfl, rfl⟩ := h
        exact store_agg_ok TO hR ho hx hy eb e1 e2 e3 hp.1 hp.2
      case array m e =>
        cases ey : ρ y <;> rw [ey] at hy <;> simp only [ey, reduceCtorEq] at h
        rename_i k m' l'
        cases ea : arrAt l off <;> simp only [ea, reduceCtorEq] at h
        rename_i q
        obtain ⟨k', n', l0⟩ := q
        simp only at h
        cases e2 : setA l off l' <;> simp only [e2, reduceCtorEq, Res.go.injEq] at h
        obtain ⟨rfl, rfl⟩ := h
        obtain ⟨rfl, rfl, h3, h4⟩ := hp
        exact store_arr_ok TO hR ho hx hy eb ea e2 h3 h4
      all_goals exact key (by rw [et]; rfl) h
    case eptr n g seg e i m =>
      cases eb : blkAt s.b n g <;> simp only [eb, reduceCtorEq] at h
      rename_i bk
      cases bk <;> try (simp only [reduceCtorEq] at h; done)
      case vec d =>
        cases d <;> try (simp only [reduceCtorEq] at h; done)
        rename_i k l
        cases ey : ρ y <;> rw [ey] at hy <;> simp only [ey, reduceCtorEq] at h
        rename_i k' v
        cases et : T.ty t <;> simp only [et, reduceCtorEq, Res.go.injEq] at h
        obtain ⟨rfl, rfl⟩ := h
        obtain ⟨rfl, rfl, rfl, h4, h5⟩ := hp
        exact store_eptr_vec_ok TO hR ho hx hy eb h4 h5
      case cells l =>
        cases ey : ρ y <;> rw [ey] at hy <;> simp only [ey, reduceCtorEq] at h
        rename_i k' v
        cases et : T.ty t <;> simp only [et, reduceCtorEq] at h
        cases ea : arrAt l seg <;> simp only [ea, reduceCtorEq] at h
        rename_i q
        obtain ⟨k, n', l'⟩ := q
        simp only at h
        cases e2 : setA l seg (l'.set i v) <;> simp only [e2, reduceCtorEq, Res.go.injEq] at h
        obtain ⟨rfl, rfl⟩ := h
        obtain ⟨rfl, rfl, h4, h5⟩ := hp
        exact store_eptr_cells_ok TO hR ho hx hy eb ea e2 h4 h5
  case convert src dst' x =>
    simp only [memOp] at h
    have hx := hρ x (by simp [Op.operands])
    cases ex : ρ x <;> rw [ex] at hx <;> simp only [ex, reduceCtorEq] at h
    case sl n g seg e' off len =>
      cases et : T.ty dst' <;> simp only [et, reduceCtorEq] at h
      rename_i e
      cases ee : T.ty e <;> simp only [ee, reduceCtorEq] at h
      rename_i k
      cases k <;> simp only [reduceCtorEq] at h
      cases eb : blkAt s.b n g <;> simp only [eb, reduceCtorEq] at h
      rename_i bk
      cases bk <;> simp only [reduceCtorEq, Res.go.injEq] at h
      obtain ⟨rfl, rfl⟩ := h
      obtain ⟨rfl, hl⟩ := hp
      exact convSl_ok TO hR ho hx et ee eb hl
    rename_i str
    cases et : T.ty dst' <;> simp only [et, reduceCtorEq] at h
    rename_i e
    cases ee : T.ty e <;> simp only [ee, reduceCtorEq] at h
    rename_i k
    cases k <;> simp only [reduceCtorEq] at h
    obtain ⟨d, hn, h1, rfl⟩ := newV_go h hp
    exact strBytes_ok TO hR ho hn hx et ee h1.1 h1.2
  case makeSlice t len cap =>
    simp only [memOp] at h
    have hx := hρ len (by simp [Op.operands])
    have hy := hρ cap (by simp [Op.operands])
    cases et : T.ty t <;> simp only [et, reduceCtorEq] at h
    rename_i e
    cases ex : ρ len <;> rw [ex] at hx <;> simp only [ex, reduceCtorEq] at h
    rename_i k1 n
    cases ey : ρ cap <;> rw [ey] at hy <;> simp only [ey, reduceCtorEq] at h
    rename_i k2 m
    cases ee : T.ty e <;> simp only [ee, reduceCtorEq] at h
    exact make_ok TO hR ho et ee hx hy h hp
  case call cl =>
    obtain ⟨callee, as, ts⟩ := cl
    cases callee <;> try (simp only [memOp, reduceCtorEq] at h; done)
    rename_i bi
    cases bi <;> try (simp only [memOp, reduceCtorEq] at h; done)
    case append =>
      obtain ⟨as⟩ := as
      obtain ⟨ts⟩ := ts
      match as, ts, h, hρ, ho with
      | [x, y], [t, t2], h, hρ, ho =>
        have hx := hρ x (by simp [Op.operands, Call.operands])
        have hy := hρ y (by simp [Op.operands, Call.operands])
        simp only [memOp] at h
        cases hd : o.dst <;> simp only [hd, reduceCtorEq] at h
        rename_i dd
        cases et : T.ty t <;> simp only [et, reduceCtorEq] at h
        rename_i e
        cases e2 : isSrc (T.ty t2) <;> simp only [e2, reduceCtorEq] at h
        cases ed : dataOf T e s.b (ρ y) <;> simp only [ed, reduceCtorEq] at h
        rename_i q
        obtain ⟨pd, dy⟩ := q
        simp only at h
        cases ex : ρ x <;> rw [ex] at hx <;> simp only [ex, reduceCtorEq] at h
        case nil =>
          simp only [Res.go.injEq] at h
          obtain ⟨rfl, rfl⟩ := h
          obtain ⟨h0, h1, hft, h2, h3, h4⟩ := hp
          obtain ⟨ys, hsrc⟩ := dataOf_ok (P := P) ed h0 hy hbl
          have := append_nil_ok TO hR ho (notIn_ok h1) et e2 hft h2 hx hsrc h3 h4
          rw [hd] at this; exact this
        case sl n g seg e' off len =>
          cases eb : blkAt s.b n g <;> simp only [eb, reduceCtorEq] at h
          rename_i bk
          cases bk <;> simp only [reduceCtorEq] at h
          rename_i dx
          cases ez : appD dx dy <;> simp only [ez, reduceCtorEq, Res.go.injEq] at h
          rename_i dz
          obtain ⟨rfl, rfl⟩ := h
          obtain ⟨h0, h1, hft, h2, rfl, rfl, rfl, rfl, h3, h4⟩ := hp
          obtain ⟨ys, hsrc⟩ := dataOf_ok (P := P) ed h0 hy hbl
          have := append_own_ok TO hR ho (notIn_ok h1) et e2 hft h2 hx eb ez hsrc h3 h4
          rw [hd] at this; exact this
      | [], _, h, _, _ => simp [memOp] at h
      | [_], _, h, _, _ => simp [memOp] at h
      | _ :: _ :: _ :: _, _, h, _, _ => simp [memOp] at h
      | [_, _], [], h, _, _ => simp [memOp] at h
      | [_, _], [_], h, _, _ => simp [memOp] at h
      | [_, _], _ :: _ :: _ :: _, h, _, _ => simp [memOp] at h
    case copy =>
      obtain ⟨as⟩ := as
      obtain ⟨ts⟩ := ts
      match as, ts, h, hρ, ho with
      | [x, y], [t, t2], h, hρ, ho =>
        have hx := hρ x (by simp [Op.operands, Call.operands])
        have hy := hρ y (by simp [Op.operands, Call.operands])
        simp only [memOp] at h
        cases et : T.ty t <;> simp only [et, reduceCtorEq] at h
        rename_i e
        cases ex : ρ x <;> rw [ex] at hx <;> simp only [ex, reduceCtorEq] at h
        rename_i n g seg e' off len
        cases ed : dataOf T e s.b (ρ y) <;> simp only [ed, reduceCtorEq] at h
        rename_i q
        obtain ⟨pd, dy⟩ := q
        cases dy <;> try (simp only [reduceCtorEq] at h; done)
        rename_i k m
        simp only at h
        cases eb : blkAt s.b n g <;> simp only [eb, reduceCtorEq] at h
        rename_i bk
        cases bk <;> try (simp only [reduceCtorEq] at h; done)
        case vec dv =>
          cases dv <;> try (simp only [reduceCtorEq] at h; done)
          rename_i k' l
          simp only [Res.go.injEq] at h
          obtain ⟨rfl, rfl⟩ := h
          obtain ⟨h0, h1, rfl, rfl, rfl, h2⟩ := hp
          obtain ⟨ys, hsrc⟩ := dataOf_ok (P := P) ed h0 hy hbl
          exact copy_vec_ok TO hR ho et h1 hx eb h2 hsrc
        case cells l =>
          simp only at h
          cases ea : arrAt l seg <;> simp only [ea, reduceCtorEq] at h
          rename_i q
          obtain ⟨k', n', l'⟩ := q
          simp only at h
          cases e2 : setA l seg (overI l' off len m) <;> simp only [e2, reduceCtorEq, Res.go.injEq] at h
          obtain ⟨rfl, rfl⟩ := h
          obtain ⟨h0, h1, rfl, rfl, h2⟩ := hp
          obtain ⟨ys, hsrc⟩ := dataOf_ok (P := P) ed h0 hy hbl
          exact copy_cells_ok TO hR ho et h1 hx eb ea e2 h2 hsrc
      | [], _, h, _, _ => simp [memOp] at h
      | [_], _, h, _, _ => simp [memOp] at h
      | _ :: _ :: _ :: _, _, h, _, _ => simp [memOp] at h
      | [_, _], [], h, _, _ => simp [memOp] at h
      | [_, _], [_], h, _, _ => simp [memOp] at h
      | [_, _], _ :: _ :: _ :: _, h, _, _ => simp [memOp] at h
end

end Go.Proofs.Ytbnjdnahpnjofaa.Abs
