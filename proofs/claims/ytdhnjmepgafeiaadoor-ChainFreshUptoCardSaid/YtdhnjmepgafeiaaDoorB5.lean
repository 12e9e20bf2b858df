/- OWN LIBRARY, parts 20 to 28. -/
import Derived.Test.YtdhnjmepgafeiaaDoorB4
import Derived.Below
import Derived.SizedLaws
import Derived.ChangeSlices
import Derived.WalkKit
import Derived.OpenShut
import Derived.Test.YtdhnjmepgafeiaaDoorRows
import Derived.JoinedCond
import Derived.Deep.CondSized
import Derived.Laws.Cover3
import Derived.ChangeArms
/- OWN LIBRARY, part 20: operations that make memory, and calls, in a region that draws its order. -/
set_option linter.unusedVariables false
set_option linter.unusedSimpArgs false
namespace Go.Proofs.YtdhnjmepgafeiaaDoor.Abs
open Go

/-- Two outcomes that are alike but for what was told of the other slots. -/
def Loc (t t' : List SV) (dst : Option Nat) : Res → Res → Prop
  | .stop, _ => True
  | .go p s', r => ∃ x b' c', s' = ⟨setD t dst x, b', c'⟩ ∧ r = .go p ⟨setD t' dst x, b', c'⟩

def subB : List (Nat × Nat × Blk) → List (Nat × Nat × Blk) → Prop
  | [], _ => True
  | (n, g, x) :: l, b => fnd b n = some (g, x) ∧ subB l b

theorem subB_ok : ∀ {l b : List (Nat × Nat × Blk)}, subB l b → SubB l b
  | [], _, _, _, _, h => by simp [fnd] at h
  | (n, g, x) :: l, b, h, m, y, hy => by
    simp only [fnd] at hy
    split at hy
    · rename_i e; subst e; rw [h.1]; exact hy
    · exact subB_ok h.2 m y hy

section
variable {T : Tab} {ops : Array Oper}

theorem loc_go {t t' : List SV} {dst : Option Nat} {p : Prop} {x : SV} {b' : List (Nat × Nat × Blk)} {c' : Lim} : Loc t t' dst (.go p ⟨setD t dst x, b', c'⟩) (.go p ⟨setD t' dst x, b', c'⟩) := ⟨x, b', c', rfl, rfl⟩
theorem loc_go' {t t' : List SV} {d : Nat} {p : Prop} {x : SV} {b' : List (Nat × Nat × Blk)} {c' : Lim} : Loc t t' (some d) (.go p ⟨t.set d x, b', c'⟩) (.go p ⟨t'.set d x, b', c'⟩) := ⟨x, b', c', rfl, rfl⟩

theorem loc_new {t t' : List SV} {b : List (Nat × Nat × Blk)} {c : Lim} {dst : Option Nat} {p : Prop} {x : Blk} {v : Nat → SV} : Loc t t' dst (newV ⟨t, b, c⟩ dst p x v) (newV ⟨t', b, c⟩ dst p x v) := by
  cases dst with
  | none => trivial
  | some d => exact loc_go'

theorem memOp_loc {t t' : List SV} {b : List (Nat × Nat × Blk)} {c : Lim} {dst : Option Nat} {ρ : Operand → SV} {op : Op} : Loc t t' dst (memOp T ⟨t, b, c⟩ dst ρ op) (memOp T ⟨t', b, c⟩ dst ρ op) := by
  unfold memOp
  cases op <;> (try simp only) <;> try trivial
  case alloc e => exact loc_new
  case box e x => cases cellsOf b (ρ x) <;> first | trivial | exact loc_new
  case buildSlice t1 len parts =>
    cases T.ty t1 <;> (try simp only) <;> try trivial
    cases elemsOf ρ 0 parts.toList <;> (try simp only) <;> try trivial
    rename_i e xs
    cases T.ty e <;> (try simp only) <;> try trivial
    · cases intsOf _ xs <;> first | trivial | exact loc_new
    · cases strsOf xs <;> first | trivial | exact loc_new
    · cases rowsOf b xs with
      | some q => exact loc_new
      | none => cases xs.all (scal b) <;> first | trivial | exact loc_new
    · cases aggsOf b _ xs <;> first | trivial | exact loc_new
  case makeSlice t1 len cap =>
    cases T.ty t1 <;> (try simp only) <;> try trivial
    cases ρ len <;> (try simp only) <;> try trivial
    cases ρ cap <;> (try simp only) <;> try trivial
    cases T.ty _ <;> first | trivial | exact loc_new
  case store t1 a x =>
    cases ρ a <;> (try simp only) <;> try trivial
    · cases blkAt b _ _ <;> (try simp only) <;> try trivial
      rename_i bl
      cases bl <;> (try simp only) <;> try trivial
      rename_i l
      cases T.ty t1 <;> (try simp only) <;> try trivial
      case array m e =>
        cases ρ x <;> (try simp only) <;> try trivial
        cases arrAt l _ <;> (try simp only) <;> try trivial
        cases setA l _ _ <;> first | trivial | exact loc_go
      case struct fs =>
        cases ρ x <;> (try simp only) <;> try trivial
        rename_i m
        cases okC b m <;> (try simp only) <;> try trivial
        cases takeC l _ <;> (try simp only) <;> try trivial
        cases dropC l _ <;> first | trivial | exact loc_go
      all_goals
        cases scal b (ρ x) <;> (try simp only) <;> try trivial
        cases setC l _ (ρ x) <;> first | trivial | exact loc_go
    · cases blkAt b _ _ <;> (try simp only) <;> try trivial
      rename_i bl
      cases bl <;> (try simp only)
      · rename_i d
        cases d <;> (try simp only) <;> try trivial
        cases ρ x <;> (try simp only) <;> try trivial
        cases T.ty t1 <;> first | trivial | exact loc_go
      · rename_i l
        cases ρ x <;> (try simp only) <;> try trivial
        cases T.ty t1 <;> (try simp only) <;> try trivial
        cases arrAt l _ <;> (try simp only) <;> try trivial
        cases setA l _ _ <;> first | trivial | exact loc_go
      · trivial
  case convert src dst' x =>
    generalize ρ x = y
    cases y
    case str str =>
      cases T.ty dst' <;> (try simp only) <;> try trivial
      rename_i e
      cases T.ty e <;> (try simp only) <;> try trivial
      rename_i k
      cases k <;> first | trivial | exact loc_new
    case sl n g seg e' off len =>
      cases T.ty dst' <;> (try simp only) <;> try trivial
      rename_i e
      cases T.ty e <;> (try simp only) <;> try trivial
      rename_i k
      cases k <;> (try simp only) <;> try trivial
      cases blkAt b n g <;> (try simp only) <;> try trivial
      rename_i bk
      cases bk <;> first | trivial | exact loc_go
    all_goals trivial
  case call c1 =>
    obtain ⟨ce, ags, ts⟩ := c1
    cases ce <;> (try simp only) <;> try trivial
    rename_i bi
    cases bi <;> (try simp only) <;> try trivial
    · cases ts.toList with
      | nil => trivial
      | cons t1 r => cases r with
        | nil => trivial
        | cons t2 r => cases r with
          | cons _ _ => trivial
          | nil => cases ags.toList with
            | nil => trivial
            | cons x r => cases r with
              | nil => trivial
              | cons y r => cases r with
                | cons _ _ => trivial
                | nil => cases dst with
                  | none => trivial
                  | some d =>
                    simp only
                    cases T.ty t1 <;> (try simp only) <;> try trivial
                    rename_i e
                    cases isSrc (T.ty t2) <;> (try simp only) <;> try trivial
                    cases dataOf T e b (ρ y) <;> (try simp only) <;> try trivial
                    cases ρ x <;> (try simp only) <;> first | trivial | exact loc_go' | skip
                    cases blkAt b _ _ <;> (try simp only) <;> try trivial
                    rename_i bl
                    cases bl <;> (try simp only) <;> try trivial
                    cases appD _ _ <;> first | trivial | exact loc_go'
    · cases ts.toList with
      | nil => trivial
      | cons t1 r => cases r with
        | nil => trivial
        | cons t2 r => cases r with
          | cons _ _ => trivial
          | nil => cases ags.toList with
            | nil => trivial
            | cons x r => cases r with
              | nil => trivial
              | cons y r => cases r with
                | cons _ _ => trivial
                | nil =>
                  simp only
                  cases T.ty t1 <;> (try simp only) <;> try trivial
                  cases ρ x <;> (try simp only) <;> try trivial
                  cases dataOf T _ b (ρ y) <;> (try simp only) <;> try trivial
                  rename_i pd
                  obtain ⟨p, d⟩ := pd
                  cases d <;> (try simp only) <;> try trivial
                  cases blkAt b _ _ <;> (try simp only) <;> try trivial
                  rename_i bl
                  cases bl <;> (try simp only)
                  · rename_i d
                    cases d <;> first | trivial | exact loc_go
                  · rename_i l
                    cases arrAt l _ <;> (try simp only) <;> try trivial
                    cases setA l _ _ <;> first | trivial | exact loc_go
                  · trivial

theorem elemsOf_congr {ρ ρ' : Operand → SV} : ∀ {l : List (Nat × Operand)} {i : Nat}, (∀ x, x ∈ l → ρ' x.2 = ρ x.2) → elemsOf ρ' i l = elemsOf ρ i l
  | [], _, _ => rfl
  | (j, x) :: r, i, h => by
    simp only [elemsOf]
    rw [h (j, x) (by simp), elemsOf_congr (fun y hy => h y (by simp [hy]))]

theorem memOp_congr {s : St} {dst : Option Nat} {ρ ρ' : Operand → SV} {op : Op} (h : ∀ x, x ∈ op.operands → ρ' x = ρ x) : memOp T s dst ρ' op = memOp T s dst ρ op := by
  unfold memOp
  cases op
  case buildSlice t len parts =>
    have : elemsOf ρ' 0 parts.toList = elemsOf ρ 0 parts.toList := elemsOf_congr fun x hx => h x.2 (by
      simp only [Op.operands, List.mem_toArray, List.mem_map]
      exact ⟨x, hx, rfl⟩)
    simp only [this]
  case call c =>
    obtain ⟨ce, ags, ts⟩ := c
    cases ce
    case builtin bi =>
      have key : ∀ x y, ags.toList = [x, y] → ρ' x = ρ x ∧ ρ' y = ρ y := fun x y e => by
        have hx : x ∈ ags := by rw [← Array.mem_toList_iff, e]; simp
        have hy : y ∈ ags := by rw [← Array.mem_toList_iff, e]; simp
        exact ⟨h x (by simp [Op.operands, Call.operands, hx]), h y (by simp [Op.operands, Call.operands, hy])⟩
      cases bi <;> try rfl
      all_goals
        simp only
        rcases ts.toList with _ | ⟨t1, _ | ⟨t2, _ | ⟨t3, tr⟩⟩⟩ <;> try rfl
        cases eas : ags.toList with
        | nil => rfl
        | cons x r => cases r with
          | nil => rfl
          | cons y r => cases r with
            | cons _ _ => rfl
            | nil =>
              cases dst <;> simp only [(key x y eas).1, (key x y eas).2]
    all_goals rfl
  all_goals (first | rfl | (simp only [Op.operands] at h; simp [h]; done) | (simp only [Op.operands] at h; simp_all; done))

theorem absOp_loc {o : Oper} {t t' : List SV} {b : List (Nat × Nat × Blk)} {c : Lim} (h : Agree ops o t t') : Loc t t' o.dst (absOp T ops ⟨t, b, c⟩ o) (absOp T ops ⟨t', b, c⟩ o) := by
  cases e : pureStep T ops t b o with
  | some r =>
    obtain ⟨p, x⟩ := r
    rw [pureStep_abs (s := ⟨t, b, c⟩) e, pureStep_abs (s := ⟨t', b, c⟩) (by rw [pureStep_agree h]; exact e)]
    exact loc_go
  | none =>
    have hev : ∀ x, x ∈ o.op.operands → evO t' x = evO t x := fun x hx => evO_agree h hx
    have hgd : ∀ g, gdPs t' g o.op.operands.toList = gdPs t g o.op.operands.toList := fun g => gdPs_agree fun x hx => hev x (by simpa using hx)
    have hop : pureOpC T ⟨t', b, c⟩ (fun x => ungd (evO t' x)) o.op = pureOpC T ⟨t, b, c⟩ (fun x => ungd (evO t x)) o.op := by
      rw [pureOpC_c (t' := t) (c' := c)]
      exact pureOpC_congr fun x hx => by rw [hev x hx]
    have hm : memOp T ⟨t', b, c⟩ o.dst (fun x => unc (ungd (evO t' x))) o.op = memOp T ⟨t', b, c⟩ o.dst (fun x => unc (ungd (evO t x))) o.op := memOp_congr fun x hx => by rw [hev x hx]
    have hl := memOp_loc (T := T) (t := t) (t' := t') (b := b) (c := c) (dst := o.dst) (ρ := fun x => unc (ungd (evO t x))) (op := o.op)
    unfold absOp
    rcases hg : o.guard with _ | ⟨j, want⟩ <;> (try simp only)
    · cases ho : o.op <;> rw [ho] at hop hgd hev hm hl <;> (try simp only)
      case pick c x y =>
        rw [hev c (by simp [Op.operands]), hev x (by simp [Op.operands]), hev y (by simp [Op.operands])]
        cases evO t c <;> (try simp only) <;> try trivial
        cases pickV _ (ungd (evO t x)) (ungd (evO t y)) <;> first | trivial | exact loc_go
      all_goals
        rw [hop, hm]
        simp only [hgd]
        split
        · exact loc_go
        · revert hl
          generalize memOp T ⟨t, b, c⟩ o.dst (fun x => unc (ungd (evO t x))) _ = r1
          generalize memOp T ⟨t', b, c⟩ o.dst (fun x => unc (ungd (evO t x))) _ = r2
          intro hl
          cases r1 with
          | stop => trivial
          | go p s' =>
            obtain ⟨x, b', c', rfl, rfl⟩ := hl
            exact loc_go
    · rw [guardOf_agree h hg]
      cases guardOf ops t j want with
      | none => trivial
      | some g =>
        simp only
        cases ho : o.op <;> rw [ho] at hop hgd hev hm hl <;> (try simp only)
        case pick c x y =>
          rw [hev c (by simp [Op.operands]), hev x (by simp [Op.operands]), hev y (by simp [Op.operands])]
          cases ungd (evO t c) <;> (try simp only) <;> try trivial
          cases pickV _ (ungd (evO t x)) (ungd (evO t y)) <;> first | trivial | exact loc_go
        all_goals
          rw [hop]
          simp only [hgd]
          split
          · exact loc_go
          · trivial

variable {P : Program} {X : Ctx} {b0 : List (Nat × Nat × Blk)}

/-- The written order, as far as it goes by itself. -/
def absD (P : Program) (X : Ctx) (T : Tab) (ops : Array Oper) (b0 : List (Nat × Nat × Blk)) (Q next : St → Prop) : List Oper → St → Prop
  | [], s => next s
  | o :: rest, s => match isEff T o.op with
    | false => match pureStep T ops s.t b0 o with
      | some (p, x) => p ∧ absD P X T ops b0 Q next rest ⟨setD s.t o.dst x, s.b, s.c⟩
      | none => lexT P X T ops (SubB b0) Q (o :: rest) s
    | true => match absOp T ops s o with
      | .go p s' => p ∧ subB b0 s'.b ∧ absD P X T ops b0 Q next rest s'
      | .stop => lexT P X T ops (SubB b0) Q (o :: rest) s

theorem absD_ok (TO : TabOk P T) {Q next : St → Prop} (hn : ∀ s, next s → Q s) : ∀ (rest : List Oper) (s : St), absD P X T ops b0 Q next rest s → lexT P X T ops (SubB b0) Q rest s
  | [], s, h => hn s h
  | o :: rest, s, h => by
    unfold absD at h
    cases e : isEff T o.op with
    | false =>
      simp only [e] at h
      cases e2 : pureStep T ops s.t b0 o with
      | none => simp only [e2] at h; exact h
      | some r =>
        obtain ⟨p, x⟩ := r
        simp only [e2] at h
        unfold lexT
        rw [e]
        exact ⟨x, pureT_of_step TO e2 h.1, absD_ok TO hn rest _ h.2⟩
    | true =>
      simp only [e] at h
      cases e2 : absOp T ops s o with
      | stop => simp only [e2] at h; exact h
      | go p s' =>
        simp only [e2] at h
        have hl := absOp_loc (T := T) (ops := ops) (o := o) (t := s.t) (t' := s.t) (b := s.b) (c := s.c) Agree.refl
        rw [e2] at hl
        obtain ⟨x, b', c', rfl, _⟩ := hl
        unfold lexT
        rw [e]
        refine ⟨x, b', c', fun t' hag σ w a hR => ?_, subB_ok h.2.1, absD_ok TO hn rest _ h.2.2⟩
        have hl := absOp_loc (T := T) (ops := ops) (o := o) (t := s.t) (t' := t') (b := s.b) (c := s.c) hag
        rw [e2] at hl
        obtain ⟨x2, b2, c2, h1, h2⟩ := hl
        have hx : absOp T ops ⟨t', s.b, s.c⟩ o = .go p ⟨setD t' o.dst x, b', c'⟩ := by
          rw [h2]
          simp only [St.mk.injEq] at h1
          obtain ⟨h3, rfl, rfl⟩ := h1
          congr 2
          cases ed : o.dst with
          | none => rfl
          | some d =>
            simp only [ed, setD] at h3 ⊢
            by_cases hd : d < s.t.length
            · have := congrArg (fun l : List SV => l[d]?) h3
              simp [hd] at this
              rw [this]
            · have h4 : t'.length ≤ d := by rw [hag.1]; exact Nat.le_of_not_lt hd
              rw [List.set_eq_of_length_le h4, List.set_eq_of_length_le h4]
        rcases absOp_ok TO hR hx h.1 with h3 | h3
        · exact .inl h3
        · exact .inr (.inl h3)

theorem gdPs_args {o : Oper} {t t' : List SV} {f : FuncId} {ags : Array Operand} {ts : Array TypeId} (h : Agree ops o t t') (ho : o.op = .call { callee := .value (.func f), args := ags, argTypes := ts }) :
    ∀ x, x ∈ ags.toList → evO t' x = evO t x := fun x hx => evO_agree h (by rw [ho]; simp only [Op.operands, Call.operands]; simp at hx ⊢; exact .inr hx)

/-- A call by its contract, in such a region. -/
theorem callD_go (TO : TabOk P T) {Q next : St → Prop} (hn : ∀ s, next s → Q s) {o : Oper} {rest : List Oper} {s : St} {f : FuncId} {fn : Func} {ags : Array Operand} {ts : Array TypeId} {d : Nat} {fs rs : List AV}
    (hM : Meets P f fs rs) (hf : P.funcs[f]? = some fn) (hname : (fn.name == "runtime.NumGoroutine") = false) (hb : fn.body.isSome = true)
    (ho : o.op = .call { callee := .value (.func f), args := ags, argTypes := ts }) (hd : o.dst = some d)
    (h : guardIs ops s.t true o.guard ∧ callP s d ags.toList fs rs ∧ subB b0 (callS s d ags.toList fs rs).b ∧ absD P X T ops b0 Q next rest (callS s d ags.toList fs rs)) : lexT P X T ops (SubB b0) Q (o :: rest) s := by
  obtain ⟨hg, hp, hs, h⟩ := h
  have he : isEff T o.op = true := by rw [ho]; rfl
  unfold lexT
  rw [he]
  refine ⟨packS (impT (nm (s.c.o + d)) s.c.c 0 rs), (callS s d ags.toList fs rs).b, (callS s d ags.toList fs rs).c, fun t' hag σ w a hR => ?_, subB_ok hs, ?_⟩
  · have hargs := gdPs_args hag ho
    have hA : argS t' ags.toList = argS s.t ags.toList := by
      unfold argS
      exact List.map_congr_left fun x hx => by rw [hargs x hx]
    have hp' : callP ⟨t', s.b, s.c⟩ d ags.toList fs rs := by
      unfold callP at hp ⊢
      simp only [hA, gdPs_agree hargs]
      exact hp
    have hS : callS ⟨t', s.b, s.c⟩ d ags.toList fs rs = ⟨setD t' o.dst (packS (impT (nm (s.c.o + d)) s.c.c 0 rs)), (callS s d ags.toList fs rs).b, (callS s d ags.toList fs rs).c⟩ := by
      unfold callS
      simp only [hA, hd]
      rfl
    have hw : Region.wanted o (yielded ops a.tmps) = true := by
      cases e : o.guard with
      | none => simp [Region.wanted, e]
      | some jw =>
        obtain ⟨j, w'⟩ := jw
        rw [e] at hg
        simp only [Region.wanted, e]
        exact guardOf_ok (s := ⟨t', s.b, s.c⟩) hR (by rw [guardOf_agree hag e]; exact hg)
    refine .inr (.inr ⟨hw, f, (ags.toList.map a.eval).toArray, ?_, ?_⟩)
    · simp only [execOp, ho, resolve]
      have e1 : a.eval (.func f) = .func (.func f) #[] #[] := rfl
      have e2 : (ags.toList.map a.eval).toArray = ags.map a.eval := Array.ext' (by rw [Array.toList_map])
      simp [e1, Deferred.ofValue, invoke, run_callFunc hf hb hname, e2]
    · rw [← hS, hd]
      exact call_R hR hM hp'
  · have := absD_ok TO hn rest _ h
    rw [hd]
    exact this

/-- An operation that is passed by, in such a region. -/
theorem skipD_go (TO : TabOk P T) (x : SV) {Q next : St → Prop} (hn : ∀ s, next s → Q s) {o : Oper} {rest : List Oper} {s : St} (he : isEff T o.op = true)
    (h : guardIs ops s.t false o.guard ∧ subB b0 s.b ∧ absD P X T ops b0 Q next rest ⟨setD s.t o.dst (.gd false x), s.b, s.c⟩) : lexT P X T ops (SubB b0) Q (o :: rest) s := by
  obtain ⟨hg, hs, h⟩ := h
  unfold lexT
  rw [he]
  refine ⟨.gd false x, s.b, s.c, fun t' hag σ w a hR => ?_, subB_ok hs, absD_ok TO hn rest _ h⟩
  have hw : Region.wanted o (yielded ops a.tmps) = false := by
    cases e : o.guard with
    | none => rw [e] at hg; exact absurd hg (by simp [guardIs])
    | some jw =>
      obtain ⟨j, w'⟩ := jw
      rw [e] at hg
      simp only [Region.wanted, e]
      exact guardOf_ok (s := ⟨t', s.b, s.c⟩) hR (by rw [guardOf_agree hag e]; exact hg)
  exact .inr (.inl ⟨hw, σ, R_set hR ⟨fun h => by simp at h, fun _ => rfl⟩, Tr.refl⟩)

/-- A region that draws its order: so many operations in whatever order, the others behind them. -/
theorem draw_go (TO : TabOk P T) (m n : Nat) {id : Nat} {ops : Array Oper} {k : List Item} {s : St} {Φ : St → Prop} (hm : P.follows .mixedOrders = true) (hok : drawOk T ops m = true)
    (h : absD P X T ops s.b (fun s' => HOps P X ops (ops.toList.drop m) k s' Φ) (absOps P X T ops k Φ (absRun P X T Φ n k) (ops.toList.drop m)) (ops.toList.take m) ⟨s.t, s.b, ⟨s.c.c + 1, [], s.c.o⟩⟩) :
    HRun P X (.code (.region id ops true) :: k) s Φ :=
  HRun_draw hm hok (absD_ok TO (fun s' h' => HOps_go TO n h') _ _ h)
end

end Go.Proofs.YtdhnjmepgafeiaaDoor.Abs

/- OWN LIBRARY, part 21: from a law's contract to a run from any world; arguments as they are handed in. -/
set_option linter.unusedVariables false
set_option linter.unusedSimpArgs false
namespace Go.Proofs.YtdhnjmepgafeiaaDoor.Abs
open Go Go.ChangeShapes Go.WideShapes Go.RowKit

def X0 (W : World) : Ctx := ⟨W, fun _ => False, fun B => B < W.heap.size⟩

def Arg (W : World) (x : SV) (v : Value) : Prop := V (X0 W) [] ⟨1, [], 0⟩ (fun _ => none) W x v

def Args (W : World) : List SV → List Value → Prop
  | [], [] => True
  | x :: l, v :: m => Arg W x v ∧ Args W l m
  | _, _ => False

theorem Args.len {W : World} : ∀ {l : List SV} {m : List Value}, Args W l m → l.length = m.length
  | [], [], _ => rfl
  | _ :: _, _ :: _, h => by simp [Args.len h.2]
  | [], _ :: _, h => h.elim
  | _ :: _, [], h => h.elim

theorem Args.get {W : World} : ∀ {l : List SV} {m : List Value}, Args W l m → ∀ i, i < l.length → Arg W (l.getD i .any) (m.getD i undef)
  | x :: l, v :: m, h, 0, _ => h.1
  | x :: l, v :: m, h, i + 1, hi => by simpa using Args.get h.2 i (by simpa using hi)
  | [], _, _, i, hi => by simp at hi

theorem svs_v : ∀ {l : List SV} {i : Nat}, svs i (l.map .v) = l
  | [], _ => rfl
  | x :: l, i => by simp [svs, AV.sv, svs_v (l := l)]

theorem blks_v : ∀ {l : List SV} {i : Nat}, blks i (l.map .v) = []
  | [], _ => rfl
  | x :: l, i => by simp [blks, blks_v (l := l)]

theorem law_walk {P : Program} {f : FuncId} {args : List SV} (hM : Meets P f (args.map .v) [.v (.bool true)]) {W : World} {vals : List Value} (h : Args W args vals) (hG : ∀ g k l, GT g = some (k, l) → g < W.heap.size ∧ ∀ i, i < l.length → W.cell? ⟨g, i, none⟩ = some (.int k (l.getD i 0))) :
    Calls P f vals.toArray W fun e W' => e = .returned (.bool true) ∧ Below W.heap.size W W' := by
  have hR : R (X0 W) ⟨svs 1000 (args.map .v), blks 1000 (args.map .v), ⟨1, [], 0⟩⟩ (fun _ => none) W ⟨vals.toArray, []⟩ := by
    rw [svs_v, blks_v]
    exact {
      sz := by simpa using h.len.symm
      tm := fun i hi => by
        have hi' : i < vals.length := by rw [← h.len]; exact hi
        have := h.get i hi
        unfold Arg at this
        simpa [Array.getD, List.getD, hi'] using this
      df := rfl
      bl := fun n g x hx => by simp [fnd] at hx
      inj := fun n m x y B hx => by simp [fnd] at hx
      fr := ⟨Nat.le_refl _, fun _ _ _ => rfl⟩
      st := ⟨rfl, rfl, rfl⟩
      ro := fun B hB => ⟨hB, id⟩
      gl := hG }
  refine (hM (X0 W) _ _ hR).mono ?_
  rintro e W' ⟨vs, σ', rfl, hR'⟩
  have hl : vs.length = 1 := by simpa [svs, AV.sv] using hR'.sz
  obtain ⟨v, rfl⟩ := List.length_eq_one_iff.1 hl
  have hv : v = .bool true := hR'.tm 0 (by simp [svs])
  subst hv
  exact ⟨rfl, hR'.st.1, hR'.st.2.1, hR'.st.2.2, hR'.fr.1, fun k hk => hR'.fr.2 k hk id⟩

theorem arg_int {W : World} {k : IntKind} {n : Int} : Arg W (.int k n) (.int k n) := rfl
theorem arg_bool {W : World} {b : Bool} : Arg W (.bool b) (.bool b) := rfl
theorem arg_str {W : World} {s : ByteArray} : Arg W (.str s) (.string s) := rfl

/-- A row of whole numbers, as it is opened. -/
def IsIts (k : IntKind) (W : World) (a : Option Addr) (len cap : Nat) (zs : List Int) : Prop :=
  (a = none ∧ len = 0 ∧ cap = 0 ∧ zs = []) ∨
  ∃ x, a = some x ∧ len ≤ cap ∧ cap ≤ maxLen ∧ zs.length = cap ∧ (∀ i, i < zs.length → W.cell? (x.add i) = some (.int k (zs.getD i 0))) ∧ ∀ n ∈ zs, (Lit.int k n).wf = true

theorem IsIts.len {k : IntKind} {W : World} {a : Option Addr} {len cap : Nat} {zs : List Int} (h : IsIts k W a len cap zs) : (zs.take len).length = len := by
  rcases h with ⟨_, rfl, _, rfl⟩ | ⟨x, _, h1, _, h3, _⟩
  · rfl
  · rw [List.length_take, h3]; omega

theorem IsIts.wf {k : IntKind} {W : World} {a : Option Addr} {len cap : Nat} {zs : List Int} (h : IsIts k W a len cap zs) : ∀ n ∈ zs.take len, (Lit.int k n).wf = true := by
  rcases h with ⟨_, rfl, _, rfl⟩ | ⟨x, _, h1, _, h3, _, h⟩
  · intro n hn; simp at hn
  · intro n hn; exact h n (List.mem_of_mem_take hn)

theorem cell_addr {W : World} {x : Addr} {i : Nat} {v : Value} (h0 : ∃ u, W.cell? x = some u) (h : W.cell? (x.add i) = some v) : x.block < W.heap.size ∧ x = ⟨x.block, x.off, none⟩ ∧ W.cell? ⟨x.block, x.off + i, none⟩ = some v := by
  obtain ⟨u, hu⟩ := h0
  have hs : x.spot = none := by
    unfold World.cell? at hu
    split at hu
    · cases e : x.spot with
      | none => rfl
      | some y => simp [e] at hu
    · cases hu
  have hb : x.block < W.heap.size := by
    unfold World.cell? at hu
    split at hu
    · rename_i e; exact (Array.getElem?_eq_some_iff.1 e).1
    · cases hu
  obtain ⟨b, o, sp⟩ := x
  simp only at hs
  subst hs
  refine ⟨hb, rfl, ?_⟩
  unfold Addr.add at h
  split at h
  · rename_i e; subst e; exact h
  · exact h

theorem arg_ints {k : IntKind} {W : World} {a : Option Addr} {len cap : Nat} {zs : List Int} (h : IsIts k W a len cap zs) : Arg W (.view false (.ints k (zs.take len))) (.slice a len cap) := by
  have hl := h.len
  show IsView _ _ _ _ _
  refine ⟨a, cap, by simp only [Data.len, hl], ?_, ?_⟩
  · simp only [Data.len, hl]
    rcases h with ⟨_, rfl, rfl, _⟩ | ⟨x, _, h1, _⟩
    · exact Nat.le_refl _
    · exact h1
  · simp only [Data.len, hl]
    intro h0
    rcases h with ⟨_, rfl, _, _⟩ | ⟨x, rfl, h1, h2, h3, h4, h5⟩
    · exact absurd rfl h0
    · have hc0 : ∃ u, W.cell? x = some u := ⟨_, by simpa [Addr.add] using h4 0 (by omega)⟩
      obtain ⟨hb, hx, _⟩ := cell_addr hc0 (h4 0 (by omega))
      refine ⟨x.block, x.off, by rw [← hx], ⟨hb, .inl ⟨rfl, hb⟩⟩, ?_⟩
      intro i j hi hj
      simp only [Data.len, hl] at hi
      simp only [Data.esz] at hj ⊢
      obtain ⟨_, _, hc⟩ := cell_addr hc0 (h4 i (by omega))
      have ej : j = 0 := by omega
      subst ej
      refine ⟨_, by simpa using hc, ?_⟩
      show Value.int k _ = Value.int k _
      congr 1
      simp [List.getD, List.getElem?_take, hi]

theorem wf_u64 {n : Int} (h : (Lit.int .u64 n).wf = true) : 0 ≤ n ∧ n < 18446744073709551616 := by
  simp only [Lit.wf, Bool.and_eq_true, decide_eq_true_eq] at h
  have e1 : IntKind.u64.min = 0 := rfl
  have e2 : IntKind.u64.max = 18446744073709551615 := rfl
  omega
theorem wf_u32 {n : Int} (h : (Lit.int .u32 n).wf = true) : 0 ≤ n ∧ n < 4294967296 := by
  simp only [Lit.wf, Bool.and_eq_true, decide_eq_true_eq] at h
  have e1 : IntKind.u32.min = 0 := rfl
  have e2 : IntKind.u32.max = 4294967295 := rfl
  omega
theorem wf_u16 {n : Int} (h : (Lit.int .u16 n).wf = true) : 0 ≤ n ∧ n < 65536 := by
  simp only [Lit.wf, Bool.and_eq_true, decide_eq_true_eq] at h
  have e1 : IntKind.u16.min = 0 := rfl
  have e2 : IntKind.u16.max = 65535 := rfl
  omega
theorem wf_u8 {n : Int} (h : (Lit.int .u8 n).wf = true) : 0 ≤ n ∧ n < 256 := by
  simp only [Lit.wf, Bool.and_eq_true, decide_eq_true_eq] at h
  have e1 : IntKind.u8.min = 0 := rfl
  have e2 : IntKind.u8.max = 255 := rfl
  omega
theorem wf_i64 {n : Int} (h : (Lit.int .i64 n).wf = true) : -9223372036854775808 ≤ n ∧ n ≤ 9223372036854775807 := by
  simp only [Lit.wf, Bool.and_eq_true, decide_eq_true_eq] at h
  have e1 : IntKind.i64.min = -9223372036854775808 := rfl
  have e2 : IntKind.i64.max = 9223372036854775807 := rfl
  omega

theorem sized_its {H : Type} {enc : TypeId × Value → H} {P : Program} {W : World} {base : Nat} {spare : Nat → Bool} {held : Bool} {t e : TypeId} {k : IntKind} {a : Option Addr} {len cap : Nat} {d : DataW H} {ps : List MemPlace} {ts : List TypeId} {ds : List (DataW H)} {j : Nat}
    (hsz : (DataW.weightsEach P ts ds).all (· ≤ reachBytes) = true) (ht : ts[j]? = some t) (hd : ds[j]? = some d) (hu : P.underlying t = some (.slice e)) (he : P.underlying e = some (.int k)) (hc : P.cellsOf e = 1) {B : Nat} (hB : P.bytesOf e = B)
    (h : DataW.Trod enc P W base spare held t (.slice a len cap) d ps) : len * B ≤ 140737488351232 := by
  obtain ⟨fuel, hf⟩ := h
  rcases open_ints hu he hc hf with ⟨hcs, _⟩ | ⟨x, l, c, zs, hcs, _, hl, _, hz, hx, _, _⟩
  · simp [Value.cells] at hcs
    obtain ⟨rfl, rfl, rfl⟩ := hcs
    simp
  · simp [Value.cells] at hcs
    obtain ⟨rfl, rfl, rfl⟩ := hcs
    obtain ⟨hx, _⟩ := Prod.mk.inj hx
    subst hx
    have z := sized_slice hsz ht hd hu
    rw [hB] at z
    have h1 : (lits (H := H) k (zs.take len)).length ≥ len := by
      have : len ≤ zs.length := by rw [hz]; split <;> omega
      simp [lits]; omega
    refine Nat.le_trans (Nat.mul_le_mul_right B ?_) z
    omega

theorem open_its {H : Type} {enc : TypeId × Value → H} {P : Program} {W : World} {base : Nat} {held : Bool} {t e : TypeId} {k : IntKind} {a : Option Addr} {len cap : Nat} {d : DataW H} {ps : List MemPlace}
    (hu : P.underlying t = some (.slice e)) (he : P.underlying e = some (.int k)) (hc : P.cellsOf e = 1) (h : DataW.Trod enc P W base (fun _ => true) held t (.slice a len cap) d ps) : ∃ zs, IsIts k W a len cap zs := by
  obtain ⟨fuel, hf⟩ := h
  rcases open_ints hu he hc hf with ⟨hcs, _⟩ | ⟨x, l, c, zs, hcs, _, hl, hm, hz, _, hcell, hwz⟩
  · simp [Value.cells] at hcs
    obtain ⟨rfl, rfl, rfl⟩ := hcs
    exact ⟨[], .inl ⟨rfl, rfl, rfl, rfl⟩⟩
  · simp [Value.cells] at hcs
    obtain ⟨rfl, rfl, rfl⟩ := hcs
    exact ⟨zs, .inr ⟨_, rfl, hl, hm, by simpa using hz, hcell, hwz⟩⟩

/-- An array of whole numbers, opened. -/
theorem open_arr {H : Type} {enc : TypeId × Value → H} {P : Program} {W : World} {base b0 : Nat} {r : Reach} {spare : Nat → Bool} {held : Bool} {t e : TypeId} {k : IntKind} {n : Nat} {v : Value} {d : DataW H} {ps : List MemPlace}
    (ht : P.underlying t = some (.array n e)) (he : P.underlying e = some (.int k)) (hc : P.cellsOf e = 1) (hn : P.cellsOf t = n) (hval : Value.okWide P W r b0 t v) (h : DataW.Trod enc P W base spare held t v d ps) :
    ∃ l : List Int, v = .agg (l.map (.int k)).toArray ∧ l.length = n ∧ ∀ x ∈ l, (Lit.int k x).wf = true := by
  unfold Value.okWide at hval
  rw [ht] at hval
  obtain ⟨cs, rfl, hcs, _⟩ := hval
  obtain ⟨fuel, hf⟩ := h
  obtain ⟨xs, m, _, _, _, hx, hi⟩ := DataW.trod_array ht hf
  have hl : cs.toList.length = n := by rw [Array.length_toList, hcs, hn]
  have key : ∀ i (hi : i < cs.toList.length), ∃ z, cs.toList[i] = .int k z ∧ (Lit.int k z).wf = true := by
    intro i hlt
    have hin : i < n := by omega
    have h1 := hi i hin
    rw [hc, List.getElem?_eq_getElem (by omega)] at h1
    have h2 : (((Value.agg cs).cells.toList.drop (i * 1)).take 1) = [cs.toList[i]] := by
      show ((cs.toList.drop (i * 1)).take 1) = _
      rw [Nat.mul_one, List.drop_eq_getElem_cons hlt]; rfl
    rw [h2] at h1
    obtain ⟨z, h3, _, h4⟩ := DataW.trod_int he h1
    exact ⟨z, by simpa using h3, h4⟩
  have all : ∀ l : List Value, (∀ i (hi : i < l.length), ∃ z, l[i] = .int k z ∧ (Lit.int k z).wf = true) → ∃ zs : List Int, l = zs.map (.int k) ∧ ∀ x ∈ zs, (Lit.int k x).wf = true := by
    intro l
    induction l with
    | nil => intro _; exact ⟨[], rfl, by simp⟩
    | cons a l ih =>
      intro hk
      obtain ⟨z, hz, hw⟩ := hk 0 (by simp)
      obtain ⟨zs, h1, h2⟩ := ih (fun i hi => hk (i + 1) (by simpa using hi))
      refine ⟨z :: zs, by rw [h1]; simpa using hz, ?_⟩
      intro x hx
      rcases List.mem_cons.1 hx with rfl | hx
      · exact hw
      · exact h2 x hx
  obtain ⟨zs, h1, h2⟩ := all cs.toList key
  refine ⟨zs, ?_, by rw [← hl, h1, List.length_map], h2⟩
  rw [← h1]

theorem arg_arr {W : World} {k : IntKind} {n : Nat} {l : List Int} (h : l.length = n) : Arg W (.arr k n l) (.agg (l.map (.int k)).toArray) := ⟨rfl, h⟩

end Go.Proofs.YtdhnjmepgafeiaaDoor.Abs

/- OWN LIBRARY, part 22: what the bound of a narrowed statement gives. -/
namespace Go.Proofs.YtdhnjmepgafeiaaDoor.Abs
open Go Go.ChangeShapes Go.WideShapes Go.RowKit

theorem bulk_one {H : Type} (d : DataW H) : 1 ≤ Rows.uptoBulk d := by
  cases d with
  | lit l => cases l <;> simp [Rows.uptoBulk]
  | nil => simp [Rows.uptoBulk]
  | ptr d => simp [Rows.uptoBulk]
  | slice elems spare => simp [Rows.uptoBulk]
  | agg parts => simp [Rows.uptoBulk]
  | iface t d => simp [Rows.uptoBulk]
  | map entries => simp [Rows.uptoBulk]
  | held h => simp [Rows.uptoBulk]

theorem bulk_part {H : Type} {d : DataW H} {l : List (DataW H)} (h : d ∈ l) : Rows.uptoBulk d ≤ Rows.uptoBulkAll l := by
  induction l with
  | nil => cases h
  | cons x r ih =>
    simp only [Rows.uptoBulkAll]
    cases List.mem_cons.1 h with
    | inl e => subst e; omega
    | inr e => have := ih e; omega

theorem bulk_length {H : Type} (l : List (DataW H)) : l.length ≤ Rows.uptoBulkAll l := by
  induction l with
  | nil => simp [Rows.uptoBulkAll]
  | cons x r ih => have := bulk_one x; simp only [Rows.uptoBulkAll, List.length_cons]; omega

theorem bulk_slice {H : Type} (elems spare : List (DataW H)) : elems.length + spare.length + 1 ≤ Rows.uptoBulk (.slice elems spare) := by
  have h1 := bulk_length elems
  have h2 := bulk_length spare
  simp only [Rows.uptoBulk]
  omega

theorem bulk_elems {H : Type} (elems spare : List (DataW H)) : Rows.uptoBulkAll elems + 1 ≤ Rows.uptoBulk (.slice elems spare) := by
  simp only [Rows.uptoBulk]
  omega

theorem bulk_string {H : Type} (bytes : List UInt8) : Rows.uptoBulk (DataW.lit (H := H) (.string bytes)) = bytes.length + 1 := by
  simp [Rows.uptoBulk]

theorem bulk_its {H : Type} {enc : TypeId × Value → H} {P : Program} {W : World} {base : Nat} {held : Bool} {t e : TypeId} {k : IntKind} {a : Option Addr} {len cap : Nat} {d : DataW H} {ps : List MemPlace}
    (hu : P.underlying t = some (.slice e)) (he : P.underlying e = some (.int k)) (hc : P.cellsOf e = 1) (h : DataW.Trod enc P W base (fun _ => true) held t (.slice a len cap) d ps) : len ≤ Rows.uptoBulk d := by
  obtain ⟨fuel, hf⟩ := h
  rcases open_ints hu he hc hf with ⟨hcs, _⟩ | ⟨x, l, c, zs, hcs, _, hl, _, hz, hx, _, _⟩
  · simp [Value.cells] at hcs
    obtain ⟨rfl, rfl, rfl⟩ := hcs
    omega
  · simp [Value.cells] at hcs
    obtain ⟨rfl, rfl, rfl⟩ := hcs
    obtain ⟨hx, _⟩ := Prod.mk.inj hx
    subst hx
    have h1 := bulk_slice (lits (H := H) k (zs.take len)) (lits k (zs.drop len))
    have h2 : (lits (H := H) k (zs.take len)).length = len := by
      have : zs.length = cap := by simpa using hz
      simp [lits]; omega
    omega

end Go.Proofs.YtdhnjmepgafeiaaDoor.Abs

/- OWN LIBRARY, part 23: the room behind a slice of an own block of numbers, told. -/
set_option linter.unusedVariables false
set_option linter.unusedSimpArgs false
namespace Go.Proofs.YtdhnjmepgafeiaaDoor.Abs
open Go

def zOf : Option Value → Int
  | some (.int _ z) => z
  | _ => 0

theorem R_open {X : Ctx} {s : St} {σ : Env} {w : World} {a : Act} (hR : R X s σ w a) {i n g : Nat} {k : IntKind} {l : List Int} (hi : i < s.t.length) (ht : s.t.getD i .any = .sl n g 0 1 0 l.length) (hn : fnd s.b n = some (g, .vec (.ints k l))) :
    ∃ extra : List Int, l.length + extra.length < 9223372036854775808 ∧ R X ⟨s.t.set i (.slc n g 1 l.length (l.length + extra.length)), upd s.b n g (.vec (.ints k (l ++ extra))), s.c⟩ σ w a ∧ Tr X s.b s.c σ w (upd s.b n g (.vec (.ints k (l ++ extra)))) s.c σ w := by
  have hv := hR.tm i hi
  rw [ht] at hv
  obtain ⟨hc, hlv⟩ := hv
  obtain ⟨ad, cap, hax, hlc, hcap⟩ := hlv ⟨_, hn⟩
  have hput : a.put (some i) (a.tmps.getD i undef) = a := by
    have hi' : i < a.tmps.size := by rw [hR.sz]; exact hi
    obtain ⟨tm, df⟩ := a
    simp only [Act.put]
    congr 1
    apply Array.ext_getElem?
    intro j
    rw [Array.getElem?_setIfInBounds]
    have hi'' : i < tm.size := hi'
    by_cases e : i = j
    · subst e; simp [Array.getD, hi'']
    · simp [e]
  rcases (hR.bl n g _ hn).2.1 with ⟨hno, hl0⟩ | ⟨B, cs, ty, fr, hB, hheap, hfree, hsz, hh, hft⟩
  · have hc0 : cap = 0 := by
      rcases Nat.eq_zero_or_pos cap with h | h
      · exact h
      · obtain ⟨B, hB, _⟩ := hcap (by omega); rw [hno] at hB; simp at hB
    simp only [Data.len] at hl0
    have hl00 : l = [] := List.eq_nil_of_length_eq_zero hl0
    subst hl00
    have hsame : ∀ q, fnd (upd s.b n g (.vec (.ints k ([] ++ [])))) q = fnd s.b q := by
      intro q
      rw [fnd_upd]
      by_cases e : q = n
      · rw [if_pos e, e, hn]; rfl
      · rw [if_neg e]
    have hT : Tr X s.b s.c σ w (upd s.b n g (.vec (.ints k ([] ++ [])))) s.c σ w := Tr.drop (fun q x hx => by rw [← hsame q]; exact hx)
    have hR2 := hR.drop (b := upd s.b n g (.vec (.ints k ([] ++ [])))) (fun q x hx => by rw [← hsame q]; exact hx)
    refine ⟨[], by simp, ?_, hT⟩
    have := put_tm (dst := some i) (v := a.tmps.getD i undef) hR2.sz hR2.tm (sv := .slc n g 1 0 0) ⟨hc, fun _ => ⟨ad, by rw [hax, hc0]; rfl, Nat.le_refl _, fun h => absurd rfl h⟩⟩
    rw [hput] at this
    exact { hR2 with sz := this.1, tm := this.2 }
  · simp only [Data.len, Data.esz, Nat.mul_one] at hsz
    rw [holds_ints hheap] at hh
    by_cases hc0 : cap = 0
    · have hl00 : l = [] := List.eq_nil_of_length_eq_zero (by omega)
      subst hl00
      refine ⟨[], by simp, ?_⟩
      have hW : Wrote B w w cs ty fr := ⟨hheap, fun _ _ => rfl, rfl, rfl, rfl, rfl⟩
      have := R_write (dst := some i) (v := a.tmps.getD i undef) (sv := .slc n g 1 0 0) (x' := .vec (.ints k ([] ++ []))) hR hn hB hheap hW rfl (.inr ⟨B, cs, ty, fr, hB, hheap, hfree, by simp [Data.len], by rw [holds_ints hheap]; exact hh, hft⟩)
        ⟨hc, fun _ => ⟨ad, by rw [hax, hc0]; rfl, Nat.le_refl _, fun h => absurd rfl h⟩⟩
      rw [hput] at this
      exact this
    · obtain ⟨B', hB', e1, e2⟩ := hcap hc0
      obtain rfl : B = B' := by simpa using hB.symm.trans hB'
      have hbs : cap ≤ cs.size := by simpa [blockSize, hheap] using e2
      refine ⟨(List.range (cap - l.length)).map (fun j => zOf cs[l.length + j]?), by have := hft.2; simp; omega, ?_⟩
      generalize hex : (List.range (cap - l.length)).map (fun j => zOf cs[l.length + j]?) = extra
      have hel : extra.length = cap - l.length := by rw [← hex]; simp
      have hW : Wrote B w w cs ty fr := ⟨hheap, fun _ _ => rfl, rfl, rfl, rfl, rfl⟩
      have hcell : ∀ j, j < (l ++ extra).length → cs[j]? = some (.int k ((l ++ extra).getD j 0)) := by
        intro j hj
        rw [List.length_append] at hj
        by_cases c1 : j < l.length
        · rw [hh j c1]; simp [List.getD, List.getElem?_append_left c1]
        · obtain ⟨z, hz⟩ := hft.1 j (by omega)
          have : (l ++ extra).getD j 0 = z := by
            simp only [List.getD]
            rw [List.getElem?_append_right (by omega), ← hex, List.getElem?_map, List.getElem?_range (by omega)]
            simp only [Option.map_some, Option.getD_some]
            rw [show l.length + (j - l.length) = j by omega, hz]; rfl
          rw [this, hz]
      have := R_write (dst := some i) (v := a.tmps.getD i undef) (sv := .slc n g 1 l.length (l.length + extra.length)) (x' := .vec (.ints k (l ++ extra))) hR hn hB hheap hW rfl
        (.inr ⟨B, cs, ty, fr, hB, hheap, hfree, by simp only [Data.len, Data.esz, List.length_append]; omega, by rw [holds_ints hheap]; exact hcell, hft⟩)
        ⟨hc, fun _ => ⟨ad, by rw [hax, hel]; congr 1; omega, by omega, fun _ => ⟨B, hB, by simpa using e1, by rw [hel]; simpa [blockSize, hheap, show l.length + (cap - l.length) = cap by omega] using hbs⟩⟩⟩
      rw [hput] at this
      exact this

/-- Whatever stands behind a slice of an own block of numbers: it is told. -/
theorem open_go {P : Program} {X : Ctx} {todo : List Item} {s : St} {Φ : St → Prop} (i : Nat) {n g : Nat} {k : IntKind} {l : List Int} (ht : i < s.t.length ∧ s.t.getD i .any = .sl n g 0 1 0 l.length ∧ fnd s.b n = some (g, .vec (.ints k l)))
    (h : ∀ extra : List Int, l.length + extra.length < 9223372036854775808 → HRun P X todo ⟨s.t.set i (.slc n g 1 l.length (l.length + extra.length)), upd s.b n g (.vec (.ints k (l ++ extra))), s.c⟩ Φ) : HRun P X todo s Φ := by
  intro σ w a hR
  obtain ⟨extra, hx, hR', hT⟩ := R_open hR ht.1 ht.2.1 ht.2.2
  exact (h extra hx).after hR' hT

end Go.Proofs.YtdhnjmepgafeiaaDoor.Abs

/- OWN LIBRARY, part 24: an empty slice gets a name. -/
set_option linter.unusedVariables false
set_option linter.unusedSimpArgs false
namespace Go.Proofs.YtdhnjmepgafeiaaDoor.Abs
open Go

/-- An empty slice, as an own one that holds nothing, under a free name. -/
theorem nil_go {P : Program} {X : Ctx} {todo : List Item} {s : St} {Φ : St → Prop} (i n : Nat) (d : Data) (hd : d.len = 0) (ht : i < s.t.length ∧ s.t.getD i .any = .nil)
    (h : HRun P X todo ⟨s.t.set i (.sl n (s.c.c + 1) 0 d.esz 0 0), upd s.b n (s.c.c + 1) (.vec d), ⟨s.c.c + 1 + 1, [], s.c.o⟩⟩ Φ) : HRun P X todo s Φ := by
  intro σ w a hR
  have hR1 := R_bump (o := s.c.o) hR
  have hv := hR1.tm i ht.1
  have ht2 : (⟨s.t, s.b, ⟨s.c.c + 1, [], s.c.o⟩⟩ : St).t.getD i .any = .nil := ht.2
  rw [ht2] at hv
  have hv : a.tmps.getD i undef = .slice none 0 0 := hv
  have hput : a.put (some i) (a.tmps.getD i undef) = a := by
    have hi' : i < a.tmps.size := by rw [hR.sz]; exact ht.1
    obtain ⟨tm, df⟩ := a
    simp only [Act.put]
    congr 1
    apply Array.ext_getElem?
    intro j
    rw [Array.getElem?_setIfInBounds]
    have hi'' : i < tm.size := hi'
    by_cases e : i = j
    · subst e; simp [Array.getD, hi'']
    · simp [e]
  obtain ⟨hR2, hT2⟩ := R_none (n := n) (x := .vec d) (dst := some i) (sv := .sl n (s.c.c + 1) 0 d.esz 0 0) (v := a.tmps.getD i undef) hR1 (by simp)
    (.inl ⟨by simp, hd⟩) ⟨Lim.ok_new _ _, fun _ => ⟨none, 0, hv, Nat.le_refl _, fun h => absurd rfl h⟩⟩
  rw [hput] at hR2
  have hR3 := R_bump (o := s.c.o) hR2
  refine (h _ w a hR3).mono fun a' w' ⟨s', σ', h1, h2, h3⟩ => ⟨s', σ', h1, h2, ?_⟩
  exact (Tr_bump (o := s.c.o)).trans (hT2.trans ((Tr_bump (s := ⟨s.t, upd s.b n (s.c.c + 1) (.vec d), (⟨s.c.c + 1, [], s.c.o⟩ : Lim).add n⟩) (o := s.c.o)).trans h3))

/-- The mark is raised. -/
theorem bump_go {P : Program} {X : Ctx} {todo : List Item} {s : St} {Φ : St → Prop} (h : HRun P X todo ⟨s.t, s.b, ⟨s.c.c + 1, [], s.c.o⟩⟩ Φ) : HRun P X todo s Φ := by
  intro σ w a hR
  exact (h σ w a (R_bump (o := s.c.o) hR)).mono fun a' w' ⟨s', σ', h1, h2, h3⟩ => ⟨s', σ', h1, h2, (Tr_bump (o := s.c.o)).trans h3⟩

/-- A loop, told; the mark is raised at each round's head. -/
theorem loop_up {P : Program} {X : Ctx} {s : St} {c : Code} {k : List Item} {Φ : St → Prop} {α : Type} (I : α → Prop) (S : α → St) (μ : α → Nat) (x0 : α) (h0 : I x0)
    (hs : (S x0).c = ⟨s.c.c + 1, [], s.c.o⟩ ∧ LeT s.t (S x0).t ∧ ∀ n x, fnd (S x0).b n = some x → fnd s.b n = some x)
    (round : ∀ x, I x → (∀ y s', I y → μ y < μ x → (S y).c = ⟨s'.c.c + 1, [], s'.c.o⟩ → LeT s'.t (S y).t → (∀ n x, fnd (S y).b n = some x → fnd s'.b n = some x) → HRun P X (.inLoop c :: k) s' Φ) → HRun P X (.code c :: .inLoop c :: k) (S x) Φ) :
    HRun P X (.code (.loop c) :: k) s Φ := by
  refine bump_go (loop_go I S μ x0 h0 ⟨hs.1.symm, hs.2.1, hs.2.2⟩ (fun x hx ih => round x hx (fun y s' hy hm hc ht hb => ?_)))
  exact bump_go (ih y _ hy hm hc.symm ht hb)

theorem ne_eqs {n m : Nat} (h : n ≠ m) : (n = m) = False ∧ (m = n) = False := ⟨eq_false h, eq_false (Ne.symm h)⟩

end Go.Proofs.YtdhnjmepgafeiaaDoor.Abs

/- OWN LIBRARY, part 25: blocks, written over. -/
namespace Go.Proofs.YtdhnjmepgafeiaaDoor.Abs
open Go

theorem fnd_same (b : List (Nat × Nat × Blk)) (n g : Nat) (x : Blk) : fnd (upd b n g x) n = some (g, x) := by rw [fnd_upd, if_pos rfl]
theorem upd_same : ∀ (b : List (Nat × Nat × Blk)) (n g g' : Nat) (x y : Blk), upd (upd b n g x) n g' y = upd b n g' y
  | [], n, g, g', x, y => by simp [upd]
  | (m, h, z) :: l, n, g, g', x, y => by
    by_cases e : n = m
    · simp [upd, e]
    · simp [upd, e, upd_same l]
theorem blk_same (b : List (Nat × Nat × Blk)) (n g : Nat) (x : Blk) : blkAt (upd b n g x) n g = some x := by simp [blkAt, fnd_same]

end Go.Proofs.YtdhnjmepgafeiaaDoor.Abs

/- OWN LIBRARY, part 26: a region that draws its order, with one operation at the end of the free ones that may go at any place of a chain of others. -/
set_option linter.unusedVariables false
set_option linter.unusedSimpArgs false
namespace Go.Proofs.YtdhnjmepgafeiaaDoor.Abs
open Go

/-- The operation `oi` at any place among the others, these in the written order. -/
def mixT (P : Program) (X : Ctx) (T : Tab) (ops : Array Oper) (b0 : List (Nat × Nat × Blk)) (Q : St → Prop) (oi : Oper) : List Oper → St → Prop
  | [], s => OpT P X ops (SubB b0) (isEff T oi.op) oi s Q
  | o :: rest, s => OpT P X ops (SubB b0) (isEff T oi.op) oi s (lexT P X T ops (SubB b0) Q (o :: rest)) ∧ OpT P X ops (SubB b0) (isEff T o.op) o s (mixT P X T ops b0 Q oi rest)

def mixB (T : Tab) (ops : Array Oper) (m i : Nat) : Nat → Nat → Array Bool → Bool
  | 0, _, listed => (Region.ready .any ops listed == [i]) && lexB T ops m 0 i (listed.setIfInBounds i true)
  | fuel + 1, k, listed => (Region.ready .any ops listed == [k, i]) && lexB T ops m (fuel + 1) k (listed.setIfInBounds i true) && mixB T ops m i fuel (k + 1) (listed.setIfInBounds k true)

def preB (T : Tab) (ops : Array Oper) (m i : Nat) : Nat → Nat → Array Bool → Bool
  | 0, k, listed => mixB T ops m i (i - k) k listed
  | fuel + 1, k, listed => (Region.ready .any ops listed).contains k && freeE T ops listed k && preB T ops m i fuel (k + 1) (listed.setIfInBounds k true)

def mixOk (T : Tab) (ops : Array Oper) (p i : Nat) : Bool := decide (i + 1 ≤ ops.size) && decide (p ≤ i) && tailOk ops (i + 1) && preB T ops (i + 1) i p 0 (Array.replicate ops.size false)

section
variable {P : Program} {T : Tab} {X : Ctx} {ops : Array Oper} {b0 : List (Nat × Nat × Blk)}

theorem anyT_mix {i m : Nat} {Q : St → Prop} {oi : Oper} (ht : tailOk ops m = true) (hi : ops[i]? = some oi) (him : i + 1 = m) : ∀ (l : List Oper) (k : Nat) (listed : Array Bool) (s : St),
    (∀ j, j < l.length → l[j]? = ops[k + j]?) → l.length + k = i → Closed ops listed → mixB T ops m i l.length k listed = true → mixT P X T ops b0 Q oi l s →
    AnyT P X T ops (SubB b0) m (fun li s => chainB ops (ops.size - m) m li = true ∧ Q s) (l.length + 1) listed s
  | [], k, listed, s, _, _, hcl, hB, h => by
    simp only [List.length_nil, mixB, Bool.and_eq_true, beq_iff_eq] at hB
    obtain ⟨hr, hB⟩ := hB
    refine ⟨by rw [hr]; simp, fun j hj => ?_⟩
    rw [hr] at hj
    obtain rfl : j = i := by simpa using hj
    refine ⟨oi, hi, OpT.mono (fun s' hs' => ?_) h⟩
    exact anyT_lex (l := []) ht j _ s' (by intro j hj; simp at hj) (by simp; omega) (hcl.set (by rw [hr]; simp)) hB hs'
  | o :: l, k, listed, s, hl, hk, hcl, hB, h => by
    have h0 : ops[k]? = some o := by simpa using (hl 0 (by simp)).symm
    simp only [List.length_cons, mixB, Bool.and_eq_true, beq_iff_eq] at hB
    obtain ⟨⟨hr, hB1⟩, hB2⟩ := hB
    simp only [List.length_cons] at hk
    refine ⟨by rw [hr]; simp, fun j hj => ?_⟩
    rw [hr] at hj
    simp only [List.mem_cons, List.not_mem_nil, or_false] at hj
    rcases hj with rfl | rfl
    · refine ⟨o, h0, OpT.mono (fun s' hs' => ?_) h.2⟩
      refine anyT_mix ht hi him l (j + 1) _ s' (fun q hq => ?_) (by omega) (hcl.set (by rw [hr]; simp)) hB2 hs'
      have := hl (q + 1) (by simp; omega)
      simpa [Nat.add_assoc, Nat.add_comm 1 q] using this
    · refine ⟨oi, hi, OpT.mono (fun s' hs' => ?_) h.1⟩
      exact anyT_lex ht (o :: l) k _ s' hl (by simp; omega) (hcl.set (by rw [hr]; simp)) hB1 hs'

theorem anyT_pre {i m : Nat} {Q : St → Prop} {oi : Oper} {ls : List Oper} (ht : tailOk ops m = true) (hi : ops[i]? = some oi) (him : i + 1 = m) (p : Nat) (hls : ∀ j, j < ls.length → ls[j]? = ops[p + j]?) (hlp : ls.length + p = i) :
    ∀ (l : List Oper) (k : Nat) (listed : Array Bool) (s : St), (∀ j, j < l.length → l[j]? = ops[k + j]?) → l.length + k = p → Closed ops listed → preB T ops m i l.length k listed = true →
      lexT P X T ops (SubB b0) (mixT P X T ops b0 Q oi ls) l s → AnyT P X T ops (SubB b0) m (fun li s => chainB ops (ops.size - m) m li = true ∧ Q s) (ls.length + 1 + l.length) listed s
  | [], k, listed, s, _, hk, hcl, hB, h => by
    simp only [List.length_nil, Nat.zero_add] at hk
    subst hk
    simp only [List.length_nil, preB] at hB
    rw [show i - k = ls.length by omega] at hB
    exact anyT_mix ht hi him ls k listed s hls hlp hcl hB h
  | o :: l, k, listed, s, hl, hk, hcl, hB, h => by
    have h0 : ops[k]? = some o := by simpa using (hl 0 (by simp)).symm
    simp only [List.length_cons, preB, Bool.and_eq_true] at hB
    obtain ⟨⟨hr, hf⟩, hB'⟩ := hB
    simp only [List.length_cons] at hk
    rw [show ls.length + 1 + (o :: l).length = ls.length + 1 + l.length + 1 by simp; omega]
    refine anyT_first ht h0 (by omega) (ls.length + 1 + l.length) listed s hcl (freeE_spec h0 hf) (by simpa using hr) ?_
    refine OpT.mono (fun s' hs' => anyT_pre ht hi him p hls hlp l (k + 1) _ s' (fun j hj => ?_) (by omega) (hcl.set (by simpa using hr)) hB' hs') h
    have := hl (j + 1) (by simp; omega)
    simpa [Nat.add_assoc, Nat.add_comm 1 j] using this

theorem HRun_mix {id p i : Nat} {oi : Oper} {k : List Item} {s : St} {Φ : St → Prop} (hm : P.follows .mixedOrders = true) (hok : mixOk T ops p i = true) (hi : ops[i]? = some oi)
    (h : lexT P X T ops (SubB s.b) (mixT P X T ops s.b (fun s' => HOps P X ops (ops.toList.drop (i + 1)) k s' Φ) oi ((ops.toList.drop p).take (i - p))) (ops.toList.take p) ⟨s.t, s.b, ⟨s.c.c + 1, [], s.c.o⟩⟩) :
    HRun P X (.code (.region id ops true) :: k) s Φ := by
  simp only [mixOk, Bool.and_eq_true, decide_eq_true_eq] at hok
  obtain ⟨⟨⟨hle, hpi⟩, ht⟩, hl⟩ := hok
  intro σ w a hR
  refine Fins.region_draw fun t => ?_
  rw [hm]
  have e1 : Region.schedule true ops t = Region.linearise .any ops t := by simp [Region.schedule]
  rw [e1]
  have hlen : (ops.toList.take p).length = p := by simp; omega
  have hlen2 : ((ops.toList.drop p).take (i - p)).length = i - p := by simp; omega
  have h1 := anyT_pre (P := P) (X := X) (b0 := s.b) ht hi rfl p (ls := (ops.toList.drop p).take (i - p)) (fun j hj => by
    rw [hlen2] at hj
    simp [List.getElem?_take, hj]) (by omega) (ops.toList.take p) 0 (Array.replicate ops.size false) _ (fun j hj => by
    rw [hlen] at hj
    simp [List.getElem?_take, hj]) (by omega) Closed.none (by rw [hlen]; exact hl) h
  rw [hlen, hlen2] at h1
  have h2 := anyT_sound (P := P) (X := X) (T := T) (ops := ops) (I := SubB s.b) (m := i + 1) (r := ops.size - (i + 1)) (k := k) (Φ := Φ) (Q := fun li s' => chainB ops (ops.size - (i + 1)) (i + 1) li = true ∧ HOps P X ops (ops.toList.drop (i + 1)) k s' Φ) (fun listed s' hq t' => by
    rw [chainB_go hq.1]
    have := hq.2 (i + 1) rfl
    simpa using this) (i - p + 1 + p) t _ ⟨s.t, s.b, ⟨s.c.c + 1, [], s.c.o⟩⟩ SubB.rfl' h1
  rw [show i - p + 1 + p + (ops.size - (i + 1)) = ops.size by omega] at h2
  exact h2.after (s := s) (R_bump (R_drew hR)) (Tr_drew.trans (Tr_bump (s := s)))

/-- A region that draws its order: `p` operations that are free; then `i`, which may go at any place among those from `p` to `i`. -/
theorem draw_mix (TO : TabOk P T) (p i : Nat) {id : Nat} {ops : Array Oper} {oi : Oper} {tl : List Oper} {k : List Item} {s : St} {Φ : St → Prop} (hm : P.follows .mixedOrders = true) (hok : mixOk T ops p i = true) (hi : ops.toList.drop i = oi :: tl)
    (h : absD P X T ops s.b (mixT P X T ops s.b (fun s' => HOps P X ops (ops.toList.drop (i + 1)) k s' Φ) oi ((ops.toList.drop p).take (i - p))) (mixT P X T ops s.b (fun s' => HOps P X ops (ops.toList.drop (i + 1)) k s' Φ) oi ((ops.toList.drop p).take (i - p))) (ops.toList.take p) ⟨s.t, s.b, ⟨s.c.c + 1, [], s.c.o⟩⟩) :
    HRun P X (.code (.region id ops true) :: k) s Φ :=
  HRun_mix hm hok (by
    have := congrArg List.head? hi
    rw [List.head?_drop, List.head?_cons] at this
    rw [← this, Array.getElem?_toList]) (absD_ok TO (fun _ h' => h') _ _ h)

theorem mix_two (TO : TabOk P T) {Q next : St → Prop} (hn : ∀ s, next s → Q s) {oi o : Oper} {rest : List Oper} {s : St} (h1 : absD P X T ops b0 Q next (oi :: o :: rest) s)
    (h2 : absD P X T ops b0 (mixT P X T ops b0 Q oi rest) (mixT P X T ops b0 Q oi rest) [o] s) : mixT P X T ops b0 Q oi (o :: rest) s :=
  ⟨absD_ok TO hn _ _ h1, absD_ok TO (fun _ h' => h') [o] _ h2⟩

theorem mix_one (TO : TabOk P T) {Q next : St → Prop} (hn : ∀ s, next s → Q s) {oi : Oper} {s : St} (h1 : absD P X T ops b0 Q next [oi] s) : mixT P X T ops b0 Q oi [] s :=
  absD_ok TO hn [oi] _ h1

/-- An operation whose guard says yes, taken as if it had none; then on. -/
theorem guard_go (TO : TabOk P T) (n : Nat) {ops : Array Oper} {o : Oper} {rest : List Oper} {k : List Item} {s : St} {Φ : St → Prop}
    (h : guardIs ops s.t true o.guard ∧ match absOp T ops s { o with guard := none } with
      | .go p s' => p ∧ absOps P X T ops k Φ (absRun P X T Φ n k) rest s'
      | .stop => False) : HOps P X ops (o :: rest) k s Φ := by
  obtain ⟨hg, h⟩ := h
  intro i hi σ w a hR
  have ho : ops[i]? = some o := by
    have := congrArg (fun l : List Oper => l[0]?) hi
    simpa using this
  have hrest : ops.toList.drop (i + 1) = rest := by
    have := congrArg List.tail hi
    simpa using this
  have hw : Region.wanted o (yielded ops a.tmps) = true := by
    cases e : o.guard with
    | none => simp [Region.wanted, e]
    | some jw => obtain ⟨j, w'⟩ := jw; rw [e] at hg; simp only [Region.wanted, e]; exact guardOf_ok hR hg
  rw [List.length_cons, List.range'_succ]
  cases e : absOp T ops s { o with guard := none } with
  | stop => rw [e] at h; exact h.elim
  | go p s' =>
    rw [e] at h
    rcases absOp_ok TO hR e h.1 with ⟨_, nx, u, w', σ', hr, hnx, hR', hT⟩ | ⟨hw', _⟩
    · have hr : (execOp a.eval o).run P w = .ok nx w' := hr
      refine Fins.opValue (v := u) ho hw ?_ ((HOps_go TO n h.2 (i + 1) hrest).after hR' hT)
      rcases hnx with rfl | ⟨rfl, rfl⟩
      · exact .inl hr
      · exact .inr ⟨hr, rfl⟩
    · simp [Region.wanted] at hw'

end

end Go.Proofs.YtdhnjmepgafeiaaDoor.Abs

/- OWN LIBRARY, part 27: an own slice, told by value from here on; a slice compared with nil. -/
set_option linter.unusedVariables false
set_option linter.unusedSimpArgs false
namespace Go.Proofs.YtdhnjmepgafeiaaDoor.Abs
open Go

theorem Named_del {b : List (Nat × Nat × Blk)} {σ : Env} {n B : Nat} (h : Named (del b n) σ B) : Named b σ B := by
  obtain ⟨m, x, h1, h2⟩ := h
  rw [fnd_del] at h1
  split at h1
  · cases h1
  · exact ⟨m, x, h1, h2⟩

theorem Tr_del {X : Ctx} {b : List (Nat × Nat × Blk)} {c : Lim} {σ : Env} {w : World} (n : Nat) : Tr X b c σ w (del b n) c σ w := by
  refine ⟨fun _ _ h => h, ?_, fun tag B hv => ⟨rfl, hv.1, hv.2.imp id fun h => ⟨h.1, fun k => h.2 (Named_del k)⟩⟩, fun _ _ _ _ _ _ => Nat.le_refl _⟩
  rintro m g ⟨x, hx⟩ _
  rw [fnd_del] at hx
  split at hx
  · cases hx
  · exact ⟨⟨x, hx⟩, rfl⟩

/-- An own slice of numbers is told by value: nobody writes there any more. -/
theorem R_freeze {X : Ctx} {s : St} {σ : Env} {w : World} {a : Act} {i n g e off len : Nat} {k : IntKind} {l : List Int} (hR : R X s σ w a) (hi : i < s.t.length) (ht : s.t.getD i .any = .sl n g 0 e off len) (hb : fnd s.b n = some (g, .vec (.ints k l))) (he : e = 1) (hl : off + len ≤ l.length) :
    R X ⟨s.t.set i (.view true (.ints k ((l.drop off).take len))), del s.b n, s.c⟩ σ w a := by
  subst he
  have T := Tr_del (X := X) (b := s.b) (c := s.c) (σ := σ) (w := w) n
  obtain ⟨hok, hbk, hB0⟩ := hR.bl n g _ hb
  have hv : V X s.b s.c σ w (s.t.getD i .any) (a.tmps.getD i undef) := hR.tm i hi
  rw [ht] at hv
  obtain ⟨_, hv⟩ := (hv : s.c.ok n g ∧ (Live s.b n g → _))
  obtain ⟨ad, cap, hval, hcap, hpt⟩ := hv ⟨_, hb⟩
  have hdl : ((l.drop off).take len).length = len := by rw [List.length_take, List.length_drop]; omega
  have hnew : V X (del s.b n) s.c σ w (.view true (.ints k ((l.drop off).take len))) (a.tmps.getD i undef) := by
    show IsView (Vw X (del s.b n) σ w) w true (.ints k ((l.drop off).take len)) (a.tmps.getD i undef)
    refine ⟨ad, cap, by rw [hval]; simp only [Data.len]; rw [hdl], by simp only [Data.len]; rw [hdl]; exact hcap, fun h0 => ?_⟩
    simp only [Data.len] at h0
    rw [hdl] at h0
    obtain ⟨B, hs, hadr, _⟩ := hpt (by omega)
    refine ⟨B, 0 + off * 1, hadr, ?_, ?_⟩
    · refine ⟨(hB0 B hs).1, .inr ⟨(hB0 B hs).2, ?_⟩⟩
      rintro ⟨m, x, hm, hs2⟩
      rw [fnd_del] at hm
      split at hm
      · cases hm
      · rename_i hne
        exact hne (hR.inj m n _ _ B hm hb hs2 hs)
    · rcases hbk with ⟨hnone, _⟩ | ⟨B', cs, t, fr, hs', hheap, _, _, hh, _⟩
      · rw [hnone] at hs; cases hs
      · obtain rfl : B = B' := Option.some.inj (hs.symm.trans hs')
        intro p q hp hq
        simp only [Data.len] at hp
        rw [hdl] at hp
        simp only [Data.esz] at hq
        obtain ⟨x, hx, hc⟩ := hh (off + p) q (by simp only [Data.len]; omega) hq
        refine ⟨x, ?_, ?_⟩
        · simp only [Data.esz] at hx ⊢
          rw [← hx]; congr 2; omega
        · have hc : x = .int k (l.getD (off + p) 0) := hc
          show x = .int k (((l.drop off).take len).getD p 0)
          rw [hc]
          simp [List.getD, List.getElem?_take, List.getElem?_drop, hp]
  refine { sz := by simpa using hR.sz, tm := fun j hj => ?_, df := hR.df, bl := ?_, inj := ?_, fr := hR.fr, st := hR.st, ro := hR.ro, gl := hR.gl }
  · have hj : j < s.t.length := by simpa using hj
    by_cases hji : i = j
    · subst hji
      have : (s.t.set i (.view true (.ints k ((l.drop off).take len)))).getD i .any = .view true (.ints k ((l.drop off).take len)) := by simp [List.getD, hi]
      rw [this]; exact hnew
    · have : (s.t.set i (.view true (.ints k ((l.drop off).take len)))).getD j .any = s.t.getD j .any := by simp [List.getD, List.getElem?_set, hji]
      rw [this]; exact (hR.tm j hj).tr T
  · intro m g' x hm
    simp only [fnd_del] at hm
    split at hm
    · cases hm
    · rename_i hne
      obtain ⟨h1, h2, h3⟩ := hR.bl m g' x hm
      exact ⟨h1, h2.tr T rfl (fun _ _ => rfl), h3⟩
  · intro m m' x x' B hm hm' hs hs'
    simp only [fnd_del] at hm hm'
    split at hm
    · cases hm
    · split at hm'
      · cases hm'
      · exact hR.inj m m' x x' B hm hm' hs hs'

/-- Ahead of an operation. -/
theorem freeze_ops {P : Program} {X : Ctx} {ops : Array Oper} {rest : List Oper} {k : List Item} {s : St} {Φ : St → Prop} (i n : Nat) {g off len : Nat} {kd : IntKind} {l : List Int}
    (h : (i < s.t.length ∧ s.t.getD i .any = .sl n g 0 1 off len ∧ fnd s.b n = some (g, .vec (.ints kd l)) ∧ off + len ≤ l.length) ∧ HOps P X ops rest k ⟨s.t.set i (.view true (.ints kd ((l.drop off).take len))), del s.b n, s.c⟩ Φ) : HOps P X ops rest k s Φ := by
  obtain ⟨⟨h1, h2, h3, h4⟩, h⟩ := h
  intro j hj σ w a hR
  exact (h j hj).after (R_freeze hR h1 h2 h3 rfl h4) (Tr_del n)

/-- A row told by value, compared with nil: either answer, yes only if it is empty. -/
theorem nilcmp_ops {P : Program} {T : Tab} {X : Ctx} (TO : TabOk P T) {ops : Array Oper} {o : Oper} {rest : List Oper} {k : List Item} {s : St} {Φ : St → Prop} {t e : TypeId} {x : Operand} {yt : TypeId} {d : Nat} {tag : Bool} {dd : Data}
    (ho : o.op = .binOp .eql t x (.const (.slice none 0 0)) yt) (hg : o.guard = none) (hd : o.dst = some d) (hT : T.ty t = .slice e) (hx : evO s.t x = .view tag dd)
    (h : ∀ r : Bool, (r = true → dd.len = 0) → HOps P X ops rest k ⟨s.t.set d (.bool r), s.b, s.c⟩ Φ) : HOps P X ops (o :: rest) k s Φ := by
  intro i hi σ w a hR
  have ho' : ops[i]? = some o := by
    have := congrArg (fun l : List Oper => l[0]?) hi
    simpa using this
  have hrest : ops.toList.drop (i + 1) = rest := by
    have := congrArg List.tail hi
    simpa using this
  have hv := V_evO hR x
  rw [hx] at hv
  obtain ⟨ad, cap, hval, hcap, hpt⟩ := (hv : IsView (Vw X s.b σ w) w tag dd (a.eval x))
  have ht := TO.ty t
  rw [hT] at ht; simp only [tyOk] at ht
  have e0 : a.eval (.const (.slice none 0 0)) = .slice none 0 0 := rfl
  have hu : (execOp a.eval o).run P w = .ok (.value (.bool ad.isNone)) w := by
    simp [execOp, ho, e0, hval, eqGuard, binOp, run_equal_slice_nil w t e ad dd.len cap ht]
  rw [List.length_cons, List.range'_succ]
  refine Fins.opValue (v := .bool ad.isNone) ho' (by simp [Region.wanted, hg]) (.inl hu) ((h ad.isNone (fun hn => ?_) (i + 1) hrest).after ?_ Tr.refl)
  · cases ad with
    | none => exact Classical.byContradiction fun hc => by obtain ⟨B, o', e1, _⟩ := hpt hc; cases e1
    | some _ => cases hn
  · rw [hd]
    exact R_set hR (dst := some d) (sv := .bool ad.isNone) (show V X s.b s.c σ w (.bool ad.isNone) (.bool ad.isNone) from rfl)

/-- A call that is walked into; what comes behind it stays out of sight until it has come to its end. -/
theorem in_goZ {P : Program} {T : Tab} {X : Ctx} {s : St} (TO : TabOk P T) (off n m : Nat) {ops : Array Oper} {o : Oper} {rest : List Oper} {k : List Item} {Φ : St → Prop} {f : FuncId} {fn : Func} {c : Code} {xs : Array Operand} {ts : Array TypeId} {d : Nat}
    (hf : P.funcs[f]? = some fn) (hname : (fn.name == "runtime.NumGoroutine") = false) (hb : fn.body = some c)
    (ho : o.op = .call { callee := .value (.func f), args := xs, argTypes := ts }) (hd : o.dst = some d) (hg : guardIs ops s.t true o.guard) (hgd : gdPs s.t true xs.toList)
    (h : ∀ Z : St → Prop, (∀ s', inRet T fn.results s.c.o d s.t (fun s' => flats s' d = true ∧ absOps P X T ops k Φ (absRun P X T Φ n k) rest s') s' → Z s') →
      absRun P X T Z m [.code c] ⟨argC s.t xs.toList ++ List.replicate (fn.ntmps - xs.size) .any, s.b, ⟨s.c.c + 1, [], s.c.o + off⟩⟩) :
    HOps P X ops (o :: rest) k s Φ :=
  in_go TO off n m hf hname hb ho hd ⟨hg, hgd, h _ (fun _ h' => h')⟩

/-- A call of a closure that is walked into; what comes behind it stays out of sight until it has come to its end. -/
theorem in_cloZ {P : Program} {T : Tab} {X : Ctx} {s : St} (TO : TabOk P T) (off n m : Nat) {ops : Array Oper} {o : Oper} {rest : List Oper} {k : List Item} {Φ : St → Prop} {f : FuncId} {fn : Func} {c : Code} {y : Operand} {caps : List SV} {xs : Array Operand} {ts : Array TypeId} {d : Nat}
    (hf : P.funcs[f]? = some fn) (hname : (fn.name == "runtime.NumGoroutine") = false) (hb : fn.body = some c)
    (ho : o.op = .call { callee := .value y, args := xs, argTypes := ts }) (hy : ungd (evO s.t y) = .clo (.func f) [] caps) (hd : o.dst = some d) (hg : guardIs ops s.t true o.guard) (hgd : gdPs s.t true (y :: xs.toList))
    (h : ∀ Z : St → Prop, (∀ s', inRet T fn.results s.c.o d s.t (fun s' => flats s' d = true ∧ absOps P X T ops k Φ (absRun P X T Φ n k) rest s') s' → Z s') →
      absRun P X T Z m [.code c] ⟨(argC s.t xs.toList ++ caps) ++ List.replicate (fn.ntmps - (argC s.t xs.toList ++ caps).length) .any, s.b, ⟨s.c.c + 1, [], s.c.o + off⟩⟩) :
    HOps P X ops (o :: rest) k s Φ := by
  refine HOps_inClo TO off ho hy hd hg hf hb hname hgd ((absRun_ok TO m _ _ (h (inRet T fn.results s.c.o d s.t (fun s' => flats s' d = true ∧ absOps P X T ops k Φ (absRun P X T Φ n k) rest s')) (fun _ h' => h'))).mono ?_)
  intro s' hs
  unfold inRet at hs ⊢
  split at hs
  · exact ⟨hs.1, HOps_go TO n hs.2⟩
  · exact ⟨hs.1, hs.2.1, HOps_go TO n hs.2.2⟩
  · exact ⟨hs.1, hs.2.1, hs.2.2.1, HOps_go TO n hs.2.2.2⟩
  · exact ⟨hs.1, hs.2.1, hs.2.2.1, hs.2.2.2.1, HOps_go TO n hs.2.2.2.2⟩
  · exact hs

/-- A loop, one round of it. -/
theorem loop_in {P : Program} {X : Ctx} {c : Code} {k : List Item} {s : St} {Φ : St → Prop} (h : HRun P X (.code c :: .inLoop c :: k) s Φ) : HRun P X (.code (.loop c) :: k) s Φ :=
  fun σ w a hR => Fins.loop (Fins.inLoop (h σ w a hR))

theorem loop_more {P : Program} {X : Ctx} {c : Code} {k : List Item} {s : St} {Φ : St → Prop} (h : HRun P X (.code c :: .inLoop c :: k) s Φ) : HRun P X (.inLoop c :: k) s Φ :=
  fun σ w a hR => Fins.inLoop (h σ w a hR)

/-- A call by its contract; what comes behind it is not begun. -/
theorem callZ_go {P : Program} {X : Ctx} {s : St} {ops : Array Oper} {o : Oper} {rest : List Oper} {k : List Item} {Φ : St → Prop} {f : FuncId} {fn : Func} {xs : Array Operand} {ts : Array TypeId} {d : Nat} {fs rs : List AV}
    (hM : Meets P f fs rs) (hf : P.funcs[f]? = some fn) (hname : (fn.name == "runtime.NumGoroutine") = false) (hb : fn.body.isSome = true)
    (ho : o.op = .call { callee := .value (.func f), args := xs, argTypes := ts }) (hd : o.dst = some d)
    (h : guardIs ops s.t true o.guard ∧ callP s d xs.toList fs rs ∧ HOps P X ops rest k (callS s d xs.toList fs rs) Φ) : HOps P X ops (o :: rest) k s Φ :=
  HOps_call hM ho hd h.1 hf hb hname h.2.1 h.2.2

end Go.Proofs.YtdhnjmepgafeiaaDoor.Abs

/- OWN LIBRARY, part 28: structs as they are handed in. -/
set_option linter.unusedVariables false
set_option linter.unusedSimpArgs false
namespace Go.Proofs.YtdhnjmepgafeiaaDoor.Abs
open Go Go.ChangeShapes Go.WideShapes Go.RowKit

/-- A kind of a field. -/
inductive FK where
  | i (k : IntKind)
  | b
  | s
  | a (k : IntKind) (n : Nat)

def FK.n : FK → Nat
  | .a _ n => n
  | _ => 1

def FKok (P : Program) : Nat → List Field → List FK → Prop
  | _, [], [] => True
  | o, f :: fl, .i k :: ks => f.offset = o ∧ P.cellsOf f.type = 1 ∧ P.underlying f.type = some (.int k) ∧ FKok P (o + 1) fl ks
  | o, f :: fl, .b :: ks => f.offset = o ∧ P.cellsOf f.type = 1 ∧ P.underlying f.type = some .bool ∧ FKok P (o + 1) fl ks
  | o, f :: fl, .s :: ks => f.offset = o ∧ P.cellsOf f.type = 1 ∧ P.underlying f.type = some .string ∧ FKok P (o + 1) fl ks
  | o, f :: fl, .a k n :: ks => f.offset = o ∧ P.cellsOf f.type = n ∧ (∃ e, P.underlying f.type = some (.array n e) ∧ P.underlying e = some (.int k) ∧ P.cellsOf e = 1) ∧ FKok P (o + n) fl ks
  | _, _, _ => False

def Shape : List FK → List SV → Prop
  | [], ls => ls = []
  | .i k :: ks, ls => ∃ z r, ls = .int k z :: r ∧ (Lit.int k z).wf = true ∧ Shape ks r
  | .b :: ks, ls => ∃ z r, ls = .bool z :: r ∧ Shape ks r
  | .s :: ks, ls => ∃ z r, ls = .str z :: r ∧ z.size ≤ maxLen ∧ Shape ks r
  | .a k n :: ks, ls => ∃ z r, ls = .arr k n z :: r ∧ z.length = n ∧ (∀ x ∈ z, (Lit.int k x).wf = true) ∧ Shape ks r

section
variable {H : Type} {enc : TypeId × Value → H} {P : Program} {W : World} {base : Nat} {spare : Nat → Bool} {held : Bool}

theorem arr_cells {t e : TypeId} {k : IntKind} {n fuel : Nat} {cs : List Value} {x : DataW H × List MemPlace} (ht : P.underlying t = some (.array n e)) (he : P.underlying e = some (.int k)) (hc : P.cellsOf e = 1) (hl : cs.length = n)
    (hf : DataW.trod enc P W base spare held fuel t cs = some x) : ∃ zs : List Int, cs = zs.map (.int k) ∧ zs.length = n ∧ ∀ z ∈ zs, (Lit.int k z).wf = true := by
  obtain ⟨xs, m, _, _, _, hx, hi⟩ := DataW.trod_array ht hf
  have key : ∀ i (hi : i < cs.length), ∃ z, cs[i] = .int k z ∧ (Lit.int k z).wf = true := by
    intro i hlt
    have hin : i < n := by omega
    have h1 := hi i hin
    rw [hc, List.getElem?_eq_getElem (by omega)] at h1
    have h2 : ((cs.drop (i * 1)).take 1) = [cs[i]] := by
      rw [Nat.mul_one, List.drop_eq_getElem_cons hlt]; rfl
    rw [h2] at h1
    obtain ⟨z, h3, _, h4⟩ := DataW.trod_int he h1
    exact ⟨z, by simpa using h3, h4⟩
  have all : ∀ l : List Value, (∀ i (hi : i < l.length), ∃ z, l[i] = .int k z ∧ (Lit.int k z).wf = true) → ∃ zs : List Int, l = zs.map (.int k) ∧ ∀ x ∈ zs, (Lit.int k x).wf = true := by
    intro l
    induction l with
    | nil => intro _; exact ⟨[], rfl, by simp⟩
    | cons a l ih =>
      intro hk
      obtain ⟨z, hz, hw⟩ := hk 0 (by simp)
      obtain ⟨zs, h1, h2⟩ := ih (fun i hi => hk (i + 1) (by simpa using hi))
      refine ⟨z :: zs, by rw [h1]; simpa using hz, ?_⟩
      intro x hx
      rcases List.mem_cons.1 hx with rfl | hx
      · exact hw
      · exact h2 x hx
  obtain ⟨zs, h1, h2⟩ := all cs key
  exact ⟨zs, h1, by rw [← hl, h1, List.length_map], h2⟩

theorem fields_ok : ∀ {ks : List FK} {fl : List Field} {o : Nat} {cs : List Value}, FKok P o fl ks →
    (∀ f ∈ fl, ∃ m y, DataW.trod enc P W base spare held m f.type ((cs.drop f.offset).take (P.cellsOf f.type)) = some y) → cs.length = o + (ks.map FK.n).foldr (· + ·) 0 →
    ∃ ls, Shape ks ls ∧ CellsOk (X0 W) [] ⟨1, [], 0⟩ (fun _ => none) W ls (cs.drop o)
  | [], [], o, cs, _, _, hl => ⟨[], rfl, by
    show cs.drop o = []
    exact List.drop_eq_nil_of_le (by simp at hl; omega)⟩
  | [], f :: fl, o, cs, h, _, _ => h.elim
  | k :: ks, [], o, cs, h, _, _ => by cases k <;> exact h.elim
  | k :: ks, f :: fl, o, cs, h, ht, hl => by
    obtain ⟨m, y, hy⟩ := ht f (by simp)
    simp only [List.map_cons, List.foldr_cons] at hl
    cases k with
    | i k =>
      obtain ⟨rfl, hc, hu, hr⟩ := h
      simp only [FK.n] at hl
      rw [hc] at hy
      obtain ⟨z, hz, _, hw⟩ := DataW.trod_int hu hy
      obtain ⟨ls, h1, h2⟩ := fields_ok hr (fun g hg => ht g (by simp [hg])) (by omega)
      refine ⟨.int k z :: ls, ⟨z, ls, rfl, hw, h1⟩, .int k z, cs.drop (f.offset + 1), ?_, rfl, h2⟩
      rw [← List.take_append_drop 1 (cs.drop f.offset), hz, List.drop_drop]; rfl
    | b =>
      obtain ⟨rfl, hc, hu, hr⟩ := h
      simp only [FK.n] at hl
      rw [hc] at hy
      obtain ⟨z, hz, _⟩ := DataW.trod_bool hu hy
      obtain ⟨ls, h1, h2⟩ := fields_ok hr (fun g hg => ht g (by simp [hg])) (by omega)
      refine ⟨.bool z :: ls, ⟨z, ls, rfl, h1⟩, .bool z, cs.drop (f.offset + 1), ?_, rfl, h2⟩
      rw [← List.take_append_drop 1 (cs.drop f.offset), hz, List.drop_drop]; rfl
    | s =>
      obtain ⟨rfl, hc, hu, hr⟩ := h
      simp only [FK.n] at hl
      rw [hc] at hy
      obtain ⟨z, hz, _, hw⟩ := DataW.trod_string hu hy
      obtain ⟨ls, h1, h2⟩ := fields_ok hr (fun g hg => ht g (by simp [hg])) (by omega)
      refine ⟨.str z :: ls, ⟨z, ls, rfl, hw, h1⟩, .string z, cs.drop (f.offset + 1), ?_, rfl, h2⟩
      rw [← List.take_append_drop 1 (cs.drop f.offset), hz, List.drop_drop]; rfl
    | a k n =>
      obtain ⟨rfl, hc, ⟨e, hu, he, hce⟩, hr⟩ := h
      simp only [FK.n] at hl
      rw [hc] at hy
      obtain ⟨zs, hz, hzl, hw⟩ := arr_cells hu he hce (by rw [List.length_take, List.length_drop]; omega) hy
      obtain ⟨ls, h1, h2⟩ := fields_ok hr (fun g hg => ht g (by simp [hg])) (by omega)
      refine ⟨.arr k n zs :: ls, ⟨zs, ls, rfl, hzl, hw, h1⟩, hzl, cs.drop (f.offset + n), ?_, h2⟩
      rw [← List.take_append_drop n (cs.drop f.offset), hz, List.drop_drop]

/-- A struct, opened. -/
theorem open_struct {b0 : Nat} {r : Reach} {t : TypeId} {fs : Array Field} {ks : List FK} {v : Value} {d : DataW H} {ps : List MemPlace} (ht : P.underlying t = some (.struct fs)) (hk : FKok P 0 fs.toList ks) (hn : P.cellsOf t = (ks.map FK.n).foldr (· + ·) 0)
    (hval : Value.okWide P W r b0 t v) (h : DataW.Trod enc P W base spare held t v d ps) :
    ∃ ls, Shape ks ls ∧ Arg W (.agg ls) v := by
  unfold Value.okWide at hval
  rw [ht] at hval
  obtain ⟨cs, rfl, hcs, _⟩ := hval
  obtain ⟨fuel, hf⟩ := h
  obtain ⟨xs, m, _, _, hl, hxl, hx⟩ := DataW.trod_struct ht hf
  obtain ⟨ls, h1, h2⟩ := fields_ok (cs := cs.toList) hk (fun f hf => by
    obtain ⟨i, hi⟩ := List.mem_iff_getElem?.1 hf
    have hi' : fs[i]? = some f := by simpa using hi
    have hlt : i < xs.length := by
      rw [hxl]
      exact (Array.getElem?_eq_some_iff.1 hi').1
    exact ⟨m, xs[i], by rw [← List.getElem?_eq_getElem hlt]; exact hx i f hi'⟩) (by rw [Array.length_toList, hcs, hn, Nat.zero_add])
  exact ⟨ls, h1, cs, rfl, by simpa using h2⟩
end

end Go.Proofs.YtdhnjmepgafeiaaDoor.Abs
