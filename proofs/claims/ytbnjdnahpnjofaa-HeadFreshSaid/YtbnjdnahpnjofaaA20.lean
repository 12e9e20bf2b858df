/- OWN LIBRARY, part 20: operations that make memory, and calls, in a region that draws its order. -/
import Derived.Test.YtbnjdnahpnjofaaA19
set_option linter.unusedVariables false
set_option linter.unusedSimpArgs false
namespace Go.Proofs.Ytbnjdnahpnjofaa.Abs
open Go

/-- Two outcomes that are alike but for what was told of the other slots. -/
def Loc (t t' : List SV) (dst : Option Nat) : Res → Res → Prop
  | .stop, _ => True
  | .go p s', r => ∃ x b' c', s' = ⟨setD t dst x, b', c'⟩ ∧ r = .go p ⟨setD t' dst x, b', c'⟩

def subB : List (Nat × Nat × Blk) → List (Nat × Nat × Blk) → Prop
  | [], _ => True
  | (n, g, x) :: l, b => fnd b n = some (g, x) ∧ subB l b

theorem subB_ok : ∀ {l b : List (Nat × Nat × Blk)}, subB l b → SubB l b
  | [], _, _, _, _, h => by simp [fnd] at h
  | (n, g, x) :: l, b, h, m, y, hy => by
    simp only [fnd] at hy
    split at hy
    · rename_i e; subst e; rw [h.1]; exact hy
    · exact subB_ok h.2 m y hy

section
variable {T : Tab} {ops : Array Oper}

theorem loc_go {t t' : List SV} {dst : Option Nat} {p : Prop} {x : SV} {b' : List (Nat × Nat × Blk)} {c' : Lim} : Loc t t' dst (.go p ⟨setD t dst x, b', c'⟩) (.go p ⟨setD t' dst x, b', c'⟩) := ⟨x, b', c', rfl, rfl⟩
theorem loc_go' {t t' : List SV} {d : Nat} {p : Prop} {x : SV} {b' : List (Nat × Nat × Blk)} {c' : Lim} : Loc t t' (some d) (.go p ⟨t.set d x, b', c'⟩) (.go p ⟨t'.set d x, b', c'⟩) := ⟨x, b', c', rfl, rfl⟩

theorem loc_new {t t' : List SV} {b : List (Nat × Nat × Blk)} {c : Lim} {dst : Option Nat} {p : Prop} {x : Blk} {v : Nat → SV} : Loc t t' dst (newV ⟨t, b, c⟩ dst p x v) (newV ⟨t', b, c⟩ dst p x v) := by
  cases dst with
  | none => trivial
  | some d => exact loc_go'

theorem memOp_loc {t t' : List SV} {b : List (Nat × Nat × Blk)} {c : Lim} {dst : Option Nat} {ρ : Operand → SV} {op : Op} : Loc t t' dst (memOp T ⟨t, b, c⟩ dst ρ op) (memOp T ⟨t', b, c⟩ dst ρ op) := by
  unfold memOp
  cases op <;> (try simp only) <;> try trivial
  case alloc e => exact loc_new
  case box e x => cases cellsOf b (ρ x) <;> first | trivial | exact loc_new
  case buildSlice t1 len parts =>
    cases T.ty t1 <;> (try simp only) <;> try trivial
    cases elemsOf ρ 0 parts.toList <;> (try simp only) <;> try trivial
    rename_i e xs
    cases T.ty e <;> (try simp only) <;> try trivial
    · cases intsOf _ xs <;> first | trivial | exact loc_new
    · cases strsOf xs <;> first | trivial | exact loc_new
    · cases rowsOf b xs with
      | some q => exact loc_new
      | none => cases xs.all (scal b) <;> first | trivial | exact loc_new
    · cases aggsOf b _ xs <;> first | trivial | exact loc_new
  case makeSlice t1 len cap =>
    cases T.ty t1 <;> (try simp only) <;> try trivial
    cases ρ len <;> (try simp only) <;> try trivial
    cases ρ cap <;> (try simp only) <;> try trivial
    cases T.ty _ <;> first | trivial | exact loc_new
  case store t1 a x =>
    cases ρ a <;> (try simp only) <;> try trivial
    · cases blkAt b _ _ <;> (try simp only) <;> try trivial
      rename_i bl
      cases bl <;> (try simp only) <;> try trivial
      rename_i l
      cases T.ty t1 <;> (try simp only) <;> try trivial
      case array m e =>
        cases ρ x <;> (try simp only) <;> try trivial
        cases arrAt l _ <;> (try simp only) <;> try trivial
        cases setA l _ _ <;> first | trivial | exact loc_go
      case struct fs =>
        cases ρ x <;> (try simp only) <;> try trivial
        rename_i m
        cases okC b m <;> (try simp only) <;> try trivial
        cases takeC l _ <;> (try simp only) <;> try trivial
        cases dropC l _ <;> first | trivial | exact loc_go
      all_goals
        cases scal b (ρ x) <;> (try simp only) <;> try trivial
        cases setC l _ (ρ x) <;> first | trivial | exact loc_go
    · cases blkAt b _ _ <;> (try simp only) <;> try trivial
      rename_i bl
      cases bl <;> (try simp only)
      · rename_i d
        cases d <;> (try simp only) <;> try trivial
        cases ρ x <;> (try simp only) <;> try trivial
        cases T.ty t1 <;> first | trivial | exact loc_go
      · rename_i l
        cases ρ x <;> (try simp only) <;> try trivial
        cases T.ty t1 <;> (try simp only) <;> try trivial
        cases arrAt l _ <;> (try simp only) <;> try trivial
        cases setA l _ _ <;> first | trivial | exact loc_go
  case convert src dst' x =>
    generalize ρ x = y
    cases y
    case str str =>
      cases T.ty dst' <;> (try simp only) <;> try trivial
      rename_i e
      cases T.ty e <;> (try simp only) <;> try trivial
      rename_i k
      cases k <;> first | trivial | exact loc_new
    case sl n g seg e' off len =>
      cases T.ty dst' <;> (try simp only) <;> try trivial
      rename_i e
      cases T.ty e <;> (try simp only) <;> try trivial
      rename_i k
      cases k <;> (try simp only) <;> try trivial
      cases blkAt b n g <;> (try simp only) <;> try trivial
      rename_i bk
      cases bk <;> first | trivial | exact loc_go
    all_goals trivial
  case call c1 =>
    obtain ⟨ce, as, ts⟩ := c1
    cases ce <;> (try simp only) <;> try trivial
    rename_i bi
    cases bi <;> (try simp only) <;> try trivial
    · cases ts.toList with
      | nil => trivial
      | cons t1 r => cases r with
        | nil => trivial
        | cons t2 r => cases r with
          | cons _ _ => trivial
          | nil => cases as.toList with
            | nil => trivial
            | cons x r => cases r with
              | nil => trivial
              | cons y r => cases r with
                | cons _ _ => trivial
                | nil => cases dst with
                  | none => trivial
                  | some d =>
                    simp only
                    cases T.ty t1 <;> (try simp only) <;> try trivial
                    rename_i e
                    cases isSrc (T.ty t2) <;> (try simp only) <;> try trivial
                    cases dataOf T e b (ρ y) <;> (try simp only) <;> try trivial
                    cases ρ x <;> (try simp only) <;> first | trivial | exact loc_go' | skip
                    cases blkAt b _ _ <;> (try simp only) <;> try trivial
                    rename_i bl
                    cases bl <;> (try simp only) <;> try trivial
                    cases appD _ _ <;> first | trivial | exact loc_go'
    · cases ts.toList with
      | nil => trivial
      | cons t1 r => cases r with
        | nil => trivial
        | cons t2 r => cases r with
          | cons _ _ => trivial
          | nil => cases as.toList with
            | nil => trivial
            | cons x r => cases r with
              | nil => trivial
              | cons y r => cases r with
                | cons _ _ => trivial
                | nil =>
                  simp only
                  cases T.ty t1 <;> (try simp only) <;> try trivial
                  cases ρ x <;> (try simp only) <;> try trivial
                  cases dataOf T _ b (ρ y) <;> (try simp only) <;> try trivial
                  rename_i pd
                  obtain ⟨p, d⟩ := pd
                  cases d <;> (try simp only) <;> try trivial
                  cases blkAt b _ _ <;> (try simp only) <;> try trivial
                  rename_i bl
                  cases bl <;> (try simp only)
                  · rename_i d
                    cases d <;> first | trivial | exact loc_go
                  · rename_i l
                    cases arrAt l _ <;> (try simp only) <;> try trivial
                    cases setA l _ _ <;> first | trivial | exact loc_go

theorem elemsOf_congr {ρ ρ' : Operand → SV} : ∀ {l : List (Nat × Operand)} {i : Nat}, (∀ x, x ∈ l → ρ' x.2 = ρ x.2) → elemsOf ρ' i l = elemsOf ρ i l
  | [], _, _ => rfl
  | (j, x) :: r, i, h => by
    simp only [elemsOf]
    rw [h (j, x) (by simp), elemsOf_congr (fun y hy => h y (by simp [hy]))]

theorem memOp_congr {s : St} {dst : Option Nat} {ρ ρ' : Operand → SV} {op : Op} (h : ∀ x, x ∈ op.operands → ρ' x = ρ x) : memOp T s dst ρ' op = memOp T s dst ρ op := by
  unfold memOp
  cases op
  case buildSlice t len parts =>
    have : elemsOf ρ' 0 parts.toList = elemsOf ρ 0 parts.toList := elemsOf_congr fun x hx => h x.2 (by
      simp only [Op.operands, List.mem_toArray, List.mem_map]
      exact ⟨x, hx, rfl⟩)
    simp only [this]
  case call c =>
    obtain ⟨ce, as, ts⟩ := c
    cases ce
    case builtin bi =>
      have key : ∀ x y, as.toList = [x, y] → ρ' x = ρ x ∧ ρ' y = ρ y := fun x y e => by
        have hx : x ∈ as := by rw [← Array.mem_toList_iff, e]; simp
        have hy : y ∈ as := by rw [← Array.mem_toList_iff, e]; simp
        exact ⟨h x (by simp [Op.operands, Call.operands, hx]), h y (by simp [Op.operands, Call.operands, hy])⟩
      cases bi <;> try rfl
      all_goals
        simp only
        rcases ts.toList with _ | ⟨t1, _ | ⟨t2, _ | ⟨t3, tr⟩⟩⟩ <;> try rfl
        cases eas : as.toList with
        | nil => rfl
        | cons x r => cases r with
          | nil => rfl
          | cons y r => cases r with
            | cons _ _ => rfl
            | nil =>
              cases dst <;> simp only [(key x y eas).1, (key x y eas).2]
    all_goals rfl
  all_goals (first | rfl | (simp only [Op.operands] at h; simp [h]; done) | (simp only [Op.operands] at h; simp_all; done))

theorem absOp_loc {o : Oper} {t t' : List SV} {b : List (Nat × Nat × Blk)} {c : Lim} (h : Agree ops o t t') : Loc t t' o.dst (absOp T ops ⟨t, b, c⟩ o) (absOp T ops ⟨t', b, c⟩ o) := by
  cases e : pureStep T ops t b o with
  | some r =>
    obtain ⟨p, x⟩ := r
    rw [pureStep_abs (s := ⟨t, b, c⟩) e, pureStep_abs (s := ⟨t', b, c⟩) (by rw [pureStep_agree h]; exact e)]
    exact loc_go
  | none =>
    have hev : ∀ x, x ∈ o.op.operands → evO t' x = evO t x := fun x hx => evO_agree h hx
    have hgd : ∀ g, gdPs t' g o.op.operands.toList = gdPs t g o.op.operands.toList := fun g => gdPs_agree fun x hx => hev x (by simpa using hx)
    have hop : pureOpC T ⟨t', b, c⟩ (fun x => ungd (evO t' x)) o.op = pureOpC T ⟨t, b, c⟩ (fun x => ungd (evO t x)) o.op := by
      rw [pureOpC_c (t' := t) (c' := c)]
      exact pureOpC_congr fun x hx => by rw [hev x hx]
    have hm : memOp T ⟨t', b, c⟩ o.dst (fun x => unc (ungd (evO t' x))) o.op = memOp T ⟨t', b, c⟩ o.dst (fun x => unc (ungd (evO t x))) o.op := memOp_congr fun x hx => by rw [hev x hx]
    have hl := memOp_loc (T := T) (t := t) (t' := t') (b := b) (c := c) (dst := o.dst) (ρ := fun x => unc (ungd (evO t x))) (op := o.op)
    unfold absOp
    rcases hg : o.guard with _ | ⟨j, want⟩ <;> (try simp only)
    · cases ho : o.op <;> rw [ho] at hop hgd hev hm hl <;> (try simp only)
      case pick c x y =>
        rw [hev c (by simp [Op.operands]), hev x (by simp [Op.operands]), hev y (by simp [Op.operands])]
        cases evO t c <;> (try simp only) <;> try trivial
        cases pickV _ (ungd (evO t x)) (ungd (evO t y)) <;> first | trivial | exact loc_go
      all_goals
        rw [hop, hm]
        simp only [hgd]
        split
        · exact loc_go
        · revert hl
          generalize memOp T ⟨t, b, c⟩ o.dst (fun x => unc (ungd (evO t x))) _ = r1
          generalize memOp T ⟨t', b, c⟩ o.dst (fun x => unc (ungd (evO t x))) _ = r2
          intro hl
          cases r1 with
          | stop => trivial
          | go p s' =>
            obtain ⟨x, b', c', rfl, rfl⟩ := hl
            exact loc_go
    · rw [guardOf_agree h hg]
      cases guardOf ops t j want with
      | none => trivial
      | some g =>
        simp only
        cases ho : o.op <;> rw [ho] at hop hgd hev hm hl <;> (try simp only)
        case pick c x y =>
          rw [hev c (by simp [Op.operands]), hev x (by simp [Op.operands]), hev y (by simp [Op.operands])]
          cases ungd (evO t c) <;> (try simp only) <;> try trivial
          cases pickV _ (ungd (evO t x)) (ungd (evO t y)) <;> first | trivial | exact loc_go
        all_goals
          rw [hop]
          simp only [hgd]
          split
          · exact loc_go
          · trivial

variable {P : Program} {X : Ctx} {b0 : List (Nat × Nat × Blk)}

/-- The written order, as far as it goes by itself. -/
def absD (P : Program) (X : Ctx) (T : Tab) (ops : Array Oper) (b0 : List (Nat × Nat × Blk)) (Q next : St → Prop) : List Oper → St → Prop
  | [], s => next s
  | o :: rest, s => match isEff T o.op with
    | false => match pureStep T ops s.t b0 o with
      | some (p, x) => p ∧ absD P X T ops b0 Q next rest ⟨setD s.t o.dst x, s.b, s.c⟩
      | none => lexT P X T ops b0 Q (o :: rest) s
    | true => match absOp T ops s o with
      | .go p s' => p ∧ subB b0 s'.b ∧ absD P X T ops b0 Q next rest s'
      | .stop => lexT P X T ops b0 Q (o :: rest) s

theorem absD_ok (TO : TabOk P T) {Q next : St → Prop} (hn : ∀ s, next s → Q s) : ∀ (rest : List Oper) (s : St), absD P X T ops b0 Q next rest s → lexT P X T ops b0 Q rest s
  | [], s, h => hn s h
  | o :: rest, s, h => by
    unfold absD at h
    cases e : isEff T o.op with
    | false =>
      simp only [e] at h
      cases e2 : pureStep T ops s.t b0 o with
      | none => simp only [e2] at h; exact h
      | some r =>
        obtain ⟨p, x⟩ := r
        simp only [e2] at h
        unfold lexT
        rw [e]
        exact ⟨x, pureT_of_step TO e2 h.1, absD_ok TO hn rest _ h.2⟩
    | true =>
      simp only [e] at h
      cases e2 : absOp T ops s o with
      | stop => simp only [e2] at h; exact h
      | go p s' =>
        simp only [e2] at h
        have hl := absOp_loc (T := T) (ops := ops) (o := o) (t := s.t) (t' := s.t) (b := s.b) (c := s.c) Agree.refl
        rw [e2] at hl
        obtain ⟨x, b', c', rfl, _⟩ := hl
        unfold lexT
        rw [e]
        refine ⟨x, b', c', fun t' hag σ w a hR => ?_, subB_ok h.2.1, absD_ok TO hn rest _ h.2.2⟩
        have hl := absOp_loc (T := T) (ops := ops) (o := o) (t := s.t) (t' := t') (b := s.b) (c := s.c) hag
        rw [e2] at hl
        obtain ⟨x2, b2, c2, h1, h2⟩ := hl
        have hx : absOp T ops ⟨t', s.b, s.c⟩ o = .go p ⟨setD t' o.dst x, b', c'⟩ := by
          rw [h2]
          simp only [St.mk.injEq] at h1
          obtain ⟨h3, rfl, rfl⟩ := h1
          congr 2
          cases ed : o.dst with
          | none => rfl
          | some d =>
            simp only [ed, setD] at h3 ⊢
            by_cases hd : d < s.t.length
            · have := congrArg (fun l : List SV => l[d]?) h3
              simp [hd] at this
              rw [this]
            · have h4 : t'.length ≤ d := by rw [hag.1]; exact Nat.le_of_not_lt hd
              rw [List.set_eq_of_length_le h4, List.set_eq_of_length_le h4]
        rcases absOp_ok TO hR hx h.1 with h3 | h3
        · exact .inl h3
        · exact .inr (.inl h3)

theorem gdPs_args {o : Oper} {t t' : List SV} {f : FuncId} {as : Array Operand} {ts : Array TypeId} (h : Agree ops o t t') (ho : o.op = .call { callee := .value (.func f), args := as, argTypes := ts }) :
    ∀ x, x ∈ as.toList → evO t' x = evO t x := fun x hx => evO_agree h (by rw [ho]; simp only [Op.operands, Call.operands]; simp at hx ⊢; exact .inr hx)

/-- A call by its contract, in such a region. -/
theorem callD_go (TO : TabOk P T) {Q next : St → Prop} (hn : ∀ s, next s → Q s) {o : Oper} {rest : List Oper} {s : St} {f : FuncId} {fn : Func} {as : Array Operand} {ts : Array TypeId} {d : Nat} {fs rs : List AV}
    (hM : Meets P f fs rs) (hf : P.funcs[f]? = some fn) (hname : (fn.name == "runtime.NumGoroutine") = false) (hb : fn.body.isSome = true)
    (ho : o.op = .call { callee := .value (.func f), args := as, argTypes := ts }) (hd : o.dst = some d)
    (h : guardIs ops s.t true o.guard ∧ callP s d as.toList fs rs ∧ subB b0 (callS s d as.toList fs rs).b ∧ absD P X T ops b0 Q next rest (callS s d as.toList fs rs)) : lexT P X T ops b0 Q (o :: rest) s := by
  obtain ⟨hg, hp, hs, h⟩ := h
  have he : isEff T o.op = true := by rw [ho]; rfl
  unfold lexT
  rw [he]
  refine ⟨packS (impT (nm (s.c.o + d)) s.c.c 0 rs), (callS s d as.toList fs rs).b, (callS s d as.toList fs rs).c, fun t' hag σ w a hR => ?_, subB_ok hs, ?_⟩
  · have hargs := gdPs_args hag ho
    have hA : argS t' as.toList = argS s.t as.toList := by
      unfold argS
      exact List.map_congr_left fun x hx => by rw [hargs x hx]
    have hp' : callP ⟨t', s.b, s.c⟩ d as.toList fs rs := by
      unfold callP at hp ⊢
      simp only [hA, gdPs_agree hargs]
      exact hp
    have hS : callS ⟨t', s.b, s.c⟩ d as.toList fs rs = ⟨setD t' o.dst (packS (impT (nm (s.c.o + d)) s.c.c 0 rs)), (callS s d as.toList fs rs).b, (callS s d as.toList fs rs).c⟩ := by
      unfold callS
      simp only [hA, hd]
      rfl
    have hw : Region.wanted o (yielded ops a.tmps) = true := by
      cases e : o.guard with
      | none => simp [Region.wanted, e]
      | some jw =>
        obtain ⟨j, w'⟩ := jw
        rw [e] at hg
        simp only [Region.wanted, e]
        exact guardOf_ok (s := ⟨t', s.b, s.c⟩) hR (by rw [guardOf_agree hag e]; exact hg)
    refine .inr (.inr ⟨hw, f, (as.toList.map a.eval).toArray, ?_, ?_⟩)
    · simp only [execOp, ho, resolve]
      have e1 : a.eval (.func f) = .func (.func f) #[] #[] := rfl
      have e2 : (as.toList.map a.eval).toArray = as.map a.eval := Array.ext' (by rw [Array.toList_map])
      simp [e1, Deferred.ofValue, invoke, run_callFunc hf hb hname, e2]
    · rw [← hS, hd]
      exact call_R hR hM hp'
  · have := absD_ok TO hn rest _ h
    rw [hd]
    exact this

/-- An operation that is passed by, in such a region. -/
theorem skipD_go (TO : TabOk P T) (x : SV) {Q next : St → Prop} (hn : ∀ s, next s → Q s) {o : Oper} {rest : List Oper} {s : St} (he : isEff T o.op = true)
    (h : guardIs ops s.t false o.guard ∧ subB b0 s.b ∧ absD P X T ops b0 Q next rest ⟨setD s.t o.dst (.gd false x), s.b, s.c⟩) : lexT P X T ops b0 Q (o :: rest) s := by
  obtain ⟨hg, hs, h⟩ := h
  unfold lexT
  rw [he]
  refine ⟨.gd false x, s.b, s.c, fun t' hag σ w a hR => ?_, subB_ok hs, absD_ok TO hn rest _ h⟩
  have hw : Region.wanted o (yielded ops a.tmps) = false := by
    cases e : o.guard with
    | none => rw [e] at hg; exact absurd hg (by simp [guardIs])
    | some jw =>
      obtain ⟨j, w'⟩ := jw
      rw [e] at hg
      simp only [Region.wanted, e]
      exact guardOf_ok (s := ⟨t', s.b, s.c⟩) hR (by rw [guardOf_agree hag e]; exact hg)
  exact .inr (.inl ⟨hw, σ, R_set hR ⟨fun h => by simp at h, fun _ => rfl⟩, Tr.refl⟩)

/-- A region that draws its order: so many operations in whatever order, the others behind them. -/
theorem draw_go (TO : TabOk P T) (m n : Nat) {id : Nat} {ops : Array Oper} {k : List Item} {s : St} {Φ : St → Prop} (hm : P.follows .mixedOrders = true) (hok : drawOk T ops m = true)
    (h : absD P X T ops s.b (fun s' => HOps P X ops (ops.toList.drop m) k s' Φ) (absOps P X T ops k Φ (absRun P X T Φ n k) (ops.toList.drop m)) (ops.toList.take m) ⟨s.t, s.b, ⟨s.c.c + 1, [], s.c.o⟩⟩) :
    HRun P X (.code (.region id ops true) :: k) s Φ :=
  HRun_draw hm hok (absD_ok TO (fun s' h' => HOps_go TO n h') _ _ h)
end

end Go.Proofs.Ytbnjdnahpnjofaa.Abs
