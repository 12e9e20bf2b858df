/- OWN LIBRARY, part 19: a region that draws its order, told step by step. -/
import Derived.Test.YtbnjdnahpnjofaaA18
set_option linter.unusedVariables false
set_option linter.unusedSimpArgs false
namespace Go.Proofs.Ytbnjdnahpnjofaa.Abs
open Go

/-- An operation that leaves memory alone, with its guard. -/
def pureStep (T : Tab) (ops : Array Oper) (t : List SV) (b : List (Nat × Nat × Blk)) (o : Oper) : Option (Prop × SV) :=
  match o.guard with
  | none => match o.op with
    | .pick c x y => match evO t c with
      | .bool c => match pickV c (ungd (evO t x)) (ungd (evO t y)) with
        | some v => some (gdP c (evO t x) ∧ gdP (!c) (evO t y), v)
        | none => none
      | _ => none
    | op => match pureOpC T ⟨t, b, ⟨0, [], 0⟩⟩ (fun x => ungd (evO t x)) op with
      | some (p, v) => some (gdPs t true op.operands.toList ∧ p, v)
      | none => none
  | some (j, want) => match guardOf ops t j want with
    | some g => match o.op with
      | .pick c x y => match ungd (evO t c) with
        | .bool c' => match pickV c' (ungd (evO t x)) (ungd (evO t y)) with
          | some v => some (gdP g (evO t c) ∧ gdP (g && c') (evO t x) ∧ gdP (g && !c') (evO t y), .gd g v)
          | none => none
        | _ => none
      | op => match pureOpC T ⟨t, b, ⟨0, [], 0⟩⟩ (fun x => ungd (evO t x)) op with
        | some (p, v) => some (gdPs t g op.operands.toList ∧ (g = true → p), .gd g v)
        | none => none
    | none => none

section
variable {T : Tab} {ops : Array Oper}

theorem pureOp_c {t t' : List SV} {b : List (Nat × Nat × Blk)} {c c' : Lim} {ρ : Operand → SV} {op : Op} : pureOp T ⟨t, b, c⟩ ρ op = pureOp T ⟨t', b, c'⟩ ρ op := by
  unfold pureOp
  cases op <;> rfl

theorem pureOpC_c {t t' : List SV} {b : List (Nat × Nat × Blk)} {c c' : Lim} {ρ : Operand → SV} {op : Op} : pureOpC T ⟨t, b, c⟩ ρ op = pureOpC T ⟨t', b, c'⟩ ρ op := by
  unfold pureOpC
  cases op <;> first | rfl | (simp only [pureOp_c (t := t) (t' := t') (c := c) (c' := c')])

theorem pureStep_abs {s : St} {o : Oper} {p : Prop} {x : SV} (h : pureStep T ops s.t s.b o = some (p, x)) : absOp T ops s o = .go p { s with t := setD s.t o.dst x } := by
  obtain ⟨t, b, c⟩ := s
  unfold pureStep at h
  unfold absOp
  rcases hg : o.guard with _ | ⟨j, want⟩ <;> simp only [hg] at h ⊢
  · cases ho : o.op <;> rw [ho] at h <;> simp only at h ⊢
    case pick c' x' y' =>
      cases e : evO t c' <;> simp only [e, reduceCtorEq] at h ⊢
      rename_i cc
      cases e2 : pickV cc (ungd (evO t x')) (ungd (evO t y')) <;> simp only [e2, reduceCtorEq, Option.some.injEq, Prod.mk.injEq] at h ⊢
      obtain ⟨rfl, rfl⟩ := h
      rfl
    all_goals
      rw [pureOpC_c (t' := t) (c' := c)] at h
      split at h
      · rename_i p' v e
        simp only [Option.some.injEq, Prod.mk.injEq] at h
        obtain ⟨rfl, rfl⟩ := h
        rw [e]
      · cases h
  · cases e0 : guardOf ops t j want <;> simp only [e0, reduceCtorEq] at h ⊢
    cases ho : o.op <;> rw [ho] at h <;> simp only at h ⊢
    case pick c' x' y' =>
      cases e : ungd (evO t c') <;> simp only [e, reduceCtorEq] at h ⊢
      rename_i cc
      cases e2 : pickV cc (ungd (evO t x')) (ungd (evO t y')) <;> simp only [e2, reduceCtorEq, Option.some.injEq, Prod.mk.injEq] at h ⊢
      obtain ⟨rfl, rfl⟩ := h
      rfl
    all_goals
      rw [pureOpC_c (t' := t) (c' := c)] at h
      split at h
      · rename_i p' v e
        simp only [Option.some.injEq, Prod.mk.injEq] at h
        obtain ⟨rfl, rfl⟩ := h
        rw [e]
      · cases h

theorem evO_agree {o : Oper} {t t' : List SV} (h : Agree ops o t t') {x : Operand} (hx : x ∈ o.op.operands) : evO t' x = evO t x := by
  cases x with
  | tmp d => exact h.2 d (List.mem_append_left _ (List.mem_filterMap.2 ⟨.tmp d, by simpa using hx, rfl⟩))
  | _ => rfl

theorem guardOf_agree {o : Oper} {t t' : List SV} (h : Agree ops o t t') {j : Nat} {w : Bool} (hg : o.guard = some (j, w)) : guardOf ops t' j w = guardOf ops t j w := by
  unfold guardOf
  cases e : (ops[j]?).bind (·.dst) with
  | none => rfl
  | some d =>
    have := h.2 d (by simp [Oper.looksAt, hg, e])
    simp only [this]

theorem gdPs_agree {t t' : List SV} {g : Bool} : ∀ {l : List Operand}, (∀ x, x ∈ l → evO t' x = evO t x) → gdPs t' g l = gdPs t g l
  | [], _ => rfl
  | x :: l, h => by simp only [gdPs]; rw [h x (by simp), gdPs_agree (fun y hy => h y (by simp [hy]))]

theorem pureOp_congr {s : St} {ρ ρ' : Operand → SV} {op : Op} (h : ∀ x, x ∈ op.operands → ρ' x = ρ x) : pureOp T s ρ' op = pureOp T s ρ op := by
  unfold pureOp
  cases op
  case slice t x lo hi mx =>
    have h1 := h x (by simp [Op.operands])
    have h2 : lo.map ρ' = lo.map ρ := by cases lo with | none => rfl | some y => simp [h y (by simp [Op.operands])]
    have h3 : hi.map ρ' = hi.map ρ := by cases hi with | none => rfl | some y => simp [h y (by simp [Op.operands])]
    have h4 : mx.map ρ' = mx.map ρ := by cases mx with | none => rfl | some y => simp [h y (by simp [Op.operands])]
    simp only [h1, h2, h3, h4]
  case call c =>
    obtain ⟨ce, as, ts⟩ := c
    cases ce
    case builtin bi =>
      cases bi <;> try rfl
      simp only
      cases ets : ts.toList with
      | nil => rfl
      | cons t1 tr =>
        cases eas : as.toList with
        | nil => cases tr <;> rfl
        | cons x xr =>
          have : x ∈ as := by rw [← Array.mem_toList_iff, eas]; simp
          have h1 := h x (by simp [Op.operands, Call.operands, this])
          cases tr <;> cases xr <;> simp only [h1]
    all_goals rfl
  case build t parts =>
    have : parts.toList.map (fun q => (q.1, ρ' q.2)) = parts.toList.map (fun q => (q.1, ρ q.2)) := List.map_congr_left fun q hq => by
      rw [h q.2 (by simp only [Op.operands, List.mem_toArray, List.mem_map]; exact ⟨q, hq, rfl⟩)]
    simp only [this]
  case makeFunc f first cap =>
    have h1 : first.toList.map ρ' = first.toList.map ρ := List.map_congr_left fun q hq => h q (by simp only [Op.operands, Array.mem_append]; exact .inl (by simpa using hq))
    have h2 : cap.toList.map ρ' = cap.toList.map ρ := List.map_congr_left fun q hq => h q (by simp only [Op.operands, Array.mem_append]; exact .inr (by simpa using hq))
    simp only [h1, h2]
  all_goals (first | rfl | (simp only [Op.operands] at h; simp [h]; done) | (simp only [Op.operands] at h; simp_all; done))

theorem pureOpC_congr {s : St} {ρ ρ' : Operand → SV} {op : Op} (h : ∀ x, x ∈ op.operands → ρ' x = ρ x) : pureOpC T s ρ' op = pureOpC T s ρ op := by
  have old : pureOp T s (fun x => unc (ρ' x)) op = pureOp T s (fun x => unc (ρ x)) op := pureOp_congr fun x hx => by rw [h x hx]
  unfold pureOpC
  cases op <;> try exact old
  case move x => simp only; rw [h x (by simp [Op.operands])]
  case assign x => simp only; rw [h x (by simp [Op.operands])]
  case slice t x lo hi mx =>
    have h1 := h x (by simp [Op.operands])
    have h2 : lo.map ρ' = lo.map ρ := by cases lo with | none => rfl | some y => simp [h y (by simp [Op.operands])]
    have h3 : hi.map ρ' = hi.map ρ := by cases hi with | none => rfl | some y => simp [h y (by simp [Op.operands])]
    have h4 : mx.map ρ' = mx.map ρ := by cases mx with | none => rfl | some y => simp [h y (by simp [Op.operands])]
    simp only [h1, h2, h3, h4, old]
  case call c =>
    obtain ⟨ce, as, ts⟩ := c
    cases ce <;> try exact old
    rename_i bi
    cases bi <;> try exact old
    simp only
    rcases ts.toList with _ | ⟨t1, _ | ⟨t2, tr⟩⟩ <;> try rfl
    cases eas : as.toList with
    | nil => rfl
    | cons x r =>
      have hx : x ∈ as := by rw [← Array.mem_toList_iff, eas]; simp
      have h1 := h x (by simp [Op.operands, Call.operands, hx])
      cases r <;> simp only [h1]

theorem pureStep_agree {o : Oper} {t t' : List SV} {b : List (Nat × Nat × Blk)} (h : Agree ops o t t') : pureStep T ops t' b o = pureStep T ops t b o := by
  have hev : ∀ x, x ∈ o.op.operands → evO t' x = evO t x := fun x hx => evO_agree h hx
  have hop : pureOpC T ⟨t', b, ⟨0, [], 0⟩⟩ (fun x => ungd (evO t' x)) o.op = pureOpC T ⟨t, b, ⟨0, [], 0⟩⟩ (fun x => ungd (evO t x)) o.op := by
    rw [pureOpC_c (t' := t) (c' := ⟨0, [], 0⟩)]
    exact pureOpC_congr fun x hx => by rw [hev x hx]
  have hgd : ∀ g, gdPs t' g o.op.operands.toList = gdPs t g o.op.operands.toList := fun g => gdPs_agree fun x hx => hev x (by simpa using hx)
  unfold pureStep
  rcases hg : o.guard with _ | ⟨j, want⟩ <;> simp only
  · cases ho : o.op <;> rw [ho] at hop hgd hev <;> simp only
    case pick c x y =>
      rw [hev c (by simp [Op.operands]), hev x (by simp [Op.operands]), hev y (by simp [Op.operands])]
    all_goals rw [hop]; simp only [hgd]
  · rw [guardOf_agree h hg]
    cases guardOf ops t j want with
    | none => rfl
    | some g =>
      simp only
      cases ho : o.op <;> rw [ho] at hop hgd hev <;> simp only
      case pick c x y =>
        rw [hev c (by simp [Op.operands]), hev x (by simp [Op.operands]), hev y (by simp [Op.operands])]
      all_goals rw [hop]; simp only [hgd]

theorem blkAt_sub {b0 b : List (Nat × Nat × Blk)} (h : SubB b0 b) {n g : Nat} {x : Blk} (e : blkAt b0 n g = some x) : blkAt b n g = some x := by
  unfold blkAt at e ⊢
  cases e1 : fnd b0 n with
  | none => simp [e1] at e
  | some y => rw [h n y e1]; rw [e1] at e; exact e

theorem scal_sub {b0 b : List (Nat × Nat × Blk)} (h : SubB b0 b) {x : SV} (e : scal b0 x = true) : scal b x = true := by
  cases x <;> simp only [scal] at e ⊢ <;> try exact e
  all_goals
    obtain ⟨y, hy⟩ := Option.isSome_iff_exists.1 e
    rw [blkAt_sub h hy]; rfl

theorem cellsOf_sub {b0 b : List (Nat × Nat × Blk)} (h : SubB b0 b) {x : SV} {l : List SV} (e : cellsOf b0 x = some l) : cellsOf b x = some l := by
  unfold cellsOf at e ⊢
  cases x <;> simp only at e ⊢ <;> try exact e
  all_goals
    split at e
    · rename_i e2
      rw [scal_sub h e2]; exact e
    · cases e

theorem fillC_sub {b0 b : List (Nat × Nat × Blk)} (h : SubB b0 b) {fs : List (Nat × TypeId)} : ∀ {xs : List (Nat × SV)} {cs : List SV} {r : Prop × List SV}, fillC T b0 fs cs xs = some r → fillC T b fs cs xs = some r
  | [], cs, r, e => e
  | (i, x) :: xs, cs, r, e => by
    simp only [fillC] at e ⊢
    cases e1 : fieldOf fs i <;> simp only [e1, reduceCtorEq] at e ⊢
    rename_i q
    obtain ⟨o, ft⟩ := q
    try simp only at e ⊢
    cases e2 : takeC cs o <;> simp only [e2, reduceCtorEq] at e ⊢
    cases e3 : dropC cs (o + T.size ft) <;> simp only [e3, reduceCtorEq] at e ⊢
    cases e4 : cellsOf b0 x <;> simp only [e4, reduceCtorEq] at e
    rename_i la lc l
    simp only [cellsOf_sub h e4]
    cases e5 : fillC T b0 fs (la ++ l ++ lc) xs <;> simp only [e5, reduceCtorEq] at e
    rw [fillC_sub h e5]
    exact e

theorem buildV_sub {b0 b : List (Nat × Nat × Blk)} (h : SubB b0 b) {t : TypeId} {xs : List (Nat × SV)} {r : Prop × SV} (e : buildV T b0 t xs = some r) : buildV T b t xs = some r := by
  unfold buildV at e ⊢
  cases e1 : T.ty t <;> simp only [e1, reduceCtorEq] at e ⊢
  case struct fs =>
    cases e2 : fillC T b0 fs (T.zero t) xs <;> simp only [e2, reduceCtorEq] at e
    rw [fillC_sub h e2]; exact e
  case array m el => exact e

theorem ptrE_bin {b : List (Nat × Nat × Blk)} {op : BinOp} {t : TypeId} {x y : SV} {r : Prop × SV} (h : binV T op t x y = some r) : ptrE T b op t x y = none := by
  cases x <;> cases y <;> first | rfl | (simp [binV] at h)

theorem ptrE_sub {b0 b : List (Nat × Nat × Blk)} (hs : SubB b0 b) {op : BinOp} {t : TypeId} {x y : SV} {r : Prop × SV} (h : ptrE T b0 op t x y = some r) : ptrE T b op t x y = some r := by
  unfold ptrE at h ⊢
  split at h
  · rename_i n g off
    cases e2 : blkAt b0 n g <;> simp only [e2, reduceCtorEq] at h
    simp only [blkAt_sub hs e2]
    exact h
  · exact h
  · cases h

theorem pureOp_sub {t : List SV} {c : Lim} {b0 b : List (Nat × Nat × Blk)} (hs : SubB b0 b) {ρ : Operand → SV} {op : Op} {r : Prop × SV} (h : pureOp T ⟨t, b0, c⟩ ρ op = some r) : pureOp T ⟨t, b, c⟩ ρ op = some r := by
  have hb : ∀ n g x, blkAt b0 n g = some x → blkAt b n g = some x := fun _ _ _ => blkAt_sub hs
  unfold pureOp at h ⊢
  cases op <;> simp only [reduceCtorEq] at h ⊢ <;> try exact h
  case build t parts => exact buildV_sub hs h
  case binOp op t x y yt =>
    cases e0 : ptrE T b0 op t (ρ x) (ρ y) with
    | some q => simp only [e0] at h; rw [ptrE_sub hs e0]; exact h
    | none => simp only [e0] at h; rw [ptrE_bin h]; exact h
  case sliceToArrayPointer t x =>
    unfold arrPV at h ⊢
    cases e : ρ x <;> simp only [e, reduceCtorEq] at h ⊢ <;> try exact h
    rename_i n g seg e' off len
    cases e1 : T.ty t <;> simp only [e1, reduceCtorEq] at h ⊢
    cases e2 : blkAt b0 n g <;> simp only [e2, reduceCtorEq] at h
    rw [hb _ _ _ e2]; exact h
  case nilCheck x =>
    cases e : ρ x <;> simp only [e, reduceCtorEq] at h ⊢
    rename_i n g off
    cases e2 : blkAt b0 n g <;> simp only [e2, reduceCtorEq] at h
    rw [hb _ _ _ e2]; exact h
  case fieldAddr t x f =>
    unfold faddrV at h ⊢
    cases e : ρ x <;> simp only [e, reduceCtorEq] at h ⊢ <;> try exact h
    case ptr n g off =>
      cases e1 : T.ty t <;> simp only [e1, reduceCtorEq] at h ⊢
      rename_i fs
      cases e3 : fieldOf fs f <;> simp only [e3, reduceCtorEq] at h ⊢
      cases e2 : blkAt b0 n g <;> simp only [e2, reduceCtorEq] at h
      rw [hb _ _ _ e2]; exact h
    case eptr n g seg el i m =>
      cases e1 : T.ty t <;> simp only [e1, reduceCtorEq] at h ⊢
      rename_i fs
      cases e3 : fieldOf fs f <;> simp only [e3, reduceCtorEq] at h ⊢
      cases e2 : blkAt b0 n g <;> simp only [e2, reduceCtorEq] at h
      rw [hb _ _ _ e2]; exact h
  case indexAddr t x i =>
    unfold iaddrV at h ⊢
    cases e : ρ x <;> simp only [e, reduceCtorEq] at h ⊢ <;> cases e' : ρ i <;> simp only [e', reduceCtorEq] at h ⊢ <;> cases e1 : T.ty t <;> simp only [e1, reduceCtorEq] at h ⊢ <;> try exact h
    all_goals
      split at h
      · rename_i e2
        rw [hb _ _ _ e2]; exact h
      · cases h
  case slice t x lo hi mx =>
    unfold sliceV at h ⊢
    cases e : ρ x <;> simp only [e, reduceCtorEq] at h ⊢ <;> try exact h
    case ptr n g off =>
      cases e1 : T.ty t <;> simp only [e1, reduceCtorEq] at h ⊢
      split at h <;> try cases h
      cases e2 : blkAt b0 n g <;> simp only [e2, reduceCtorEq] at h
      rw [hb _ _ _ e2]; exact h
    case sl n g seg e' off len =>
      cases e1 : T.ty t <;> simp only [e1, reduceCtorEq] at h ⊢
      split at h <;> try cases h
      cases e2 : blkAt b0 n g <;> simp only [e2, reduceCtorEq] at h
      rw [hb _ _ _ e2]; exact h
  case load t x =>
    unfold loadV at h ⊢
    cases e : ρ x <;> simp only [e, reduceCtorEq] at h ⊢ <;> try exact h
    case ptr n g off =>
      cases e2 : blkAt b0 n g <;> simp only [e2, reduceCtorEq] at h
      rw [hb _ _ _ e2]; exact h
    case eptr n g seg e' i m =>
      cases e2 : blkAt b0 n g <;> simp only [e2, reduceCtorEq] at h
      rw [hb _ _ _ e2]; exact h
  case call c =>
    obtain ⟨ce, as, ts⟩ := c
    cases ce <;> (try (simp only [reduceCtorEq] at h; done)) <;> try exact h
    rename_i bi
    cases bi <;> (try (simp only [reduceCtorEq] at h; done)) <;> try exact h
    simp only at h ⊢
    split at h
    · unfold lenV at h ⊢
      split at h <;> try exact h
      split at h <;> try exact h
      split at h
      · rename_i e2
        rw [hb _ _ _ e2]; exact h
      · cases h
    · cases h

theorem pureOpC_sub {t : List SV} {c : Lim} {b0 b : List (Nat × Nat × Blk)} (hs : SubB b0 b) {ρ : Operand → SV} {op : Op} {r : Prop × SV} (h : pureOpC T ⟨t, b0, c⟩ ρ op = some r) : pureOpC T ⟨t, b, c⟩ ρ op = some r := by
  have hb : ∀ n g x, blkAt b0 n g = some x → blkAt b n g = some x := fun _ _ _ => blkAt_sub hs
  have old : pureOp T ⟨t, b0, c⟩ (fun x => unc (ρ x)) op = some r → pureOp T ⟨t, b, c⟩ (fun x => unc (ρ x)) op = some r := pureOp_sub hs
  unfold pureOpC at h ⊢
  cases op <;> try exact old h
  case move x => exact h
  case assign x => exact h
  case slice t1 x lo hi mx =>
    simp only at h ⊢
    cases e : ρ x <;> simp only [e] at h ⊢ <;> try exact old h
    cases lo with
    | some y => exact old h
    | none =>
      simp only [sliceC] at h ⊢
      split at h
      · split at h
        · split at h
          · rename_i e2
            rw [hb _ _ _ e2]; exact h
          · cases h
        · cases h
      · cases h
  case call cl =>
    obtain ⟨ce, as, ts⟩ := cl
    cases ce <;> try exact old h
    rename_i bi
    cases bi <;> try exact old h
    simp only at h ⊢
    split at h
    · unfold capV at h ⊢
      split at h <;> try cases h
      split at h <;> try cases h
      split at h
      · rename_i e2
        rw [hb _ _ _ e2]; exact h
      · cases h
    · cases h

theorem pureStep_sub {o : Oper} {t : List SV} {b0 b : List (Nat × Nat × Blk)} (hs : SubB b0 b) {r : Prop × SV} (h : pureStep T ops t b0 o = some r) : pureStep T ops t b o = some r := by
  unfold pureStep at h ⊢
  rcases hg : o.guard with _ | ⟨j, want⟩ <;> simp only [hg] at h ⊢
  · cases ho : o.op <;> rw [ho] at h <;> simp only at h ⊢ <;> try exact h
    all_goals
      split at h
      · rename_i p v e
        rw [pureOpC_sub hs e]; exact h
      · cases h
  · cases e0 : guardOf ops t j want <;> simp only [e0, reduceCtorEq] at h ⊢
    cases ho : o.op <;> rw [ho] at h <;> simp only at h ⊢ <;> try exact h
    all_goals
      split at h
      · rename_i p v e
        rw [pureOpC_sub hs e]; exact h
      · cases h

variable {P : Program} {X : Ctx} {b0 : List (Nat × Nat × Blk)}

theorem pureT_of_step (TO : TabOk P T) {o : Oper} {t : List SV} {p : Prop} {x : SV} (h : pureStep T ops t b0 o = some (p, x)) (hp : p) : PureT P X ops b0 o t x := by
  intro t' b' c' hag hsub σ w a hR
  have h1 : pureStep T ops t' b' o = some (p, x) := by rw [pureStep_agree hag]; exact pureStep_sub hsub h
  have h2 := pureStep_abs (s := ⟨t', b', c'⟩) h1
  rcases absOp_ok TO hR h2 hp with h3 | h3
  · exact .inl h3
  · exact .inr (.inl h3)
end

end Go.Proofs.Ytbnjdnahpnjofaa.Abs
