/- OWN LIBRARY, part 3: operations that leave memory as it is do what was told of them. -/
import Derived.Test.YtbnjdnahpnjofaaA2
import Derived.Laws.StructEq
import Derived.Laws.Slices
import Derived.Laws.Entries
set_option linter.unusedVariables false
set_option linter.unusedSimpArgs false
namespace Go.Proofs.Ytbnjdnahpnjofaa.Abs
open Go

def tyOk (P : Program) (t : TypeId) : TyI → Prop
  | .int k => P.underlying t = some (.int k)
  | .bool => P.underlying t = some .bool
  | .string => P.underlying t = some .string
  | .slice e => P.underlying t = some (.slice e)
  | .array n e => P.underlying t = some (.array n e)
  | .struct fs => ∃ f, P.underlying t = some (.struct f) ∧ f.toList.map (fun x => (x.offset, x.type)) = fs
  | .pointer e => P.underlying t = some (.pointer e)
  | .other => True

def ZeroOk : List SV → List Value → Prop
  | [], cs => cs = []
  | .arr k n l :: r, cs => l.length = n ∧ ∃ cs', cs = l.map (.int k) ++ cs' ∧ ZeroOk r cs'
  | x :: r, cs => ∃ v cs', cs = v :: cs' ∧ x = constSV v ∧ ZeroOk r cs'

structure TabOk (P : Program) (T : Tab) : Prop where
  ty : ∀ t, tyOk P t (T.ty t)
  info : ∀ t, T.size t ≠ 0 → ∃ i, P.info? t = some i ∧ i.size = T.size t ∧ i.bytes = T.bytes t ∧ ∃ z, i.zero = some z ∧ ZeroOk (T.zero t) z.cells.toList ∧ z.cells.size = T.size t
  dep : 2 ≤ P.depth
  eq : ∀ t, T.eqS t = true → P.stoodInHeld t = false ∧ P.eqGuardType P.depth t = false ∧ ∀ f ∈ (P.fieldsOf t).toList, f.name ≠ "_"

section
variable {X : Ctx} {b : List (Nat × Nat × Blk)} {c : Lim} {σ : Env} {w : World}

theorem V0_const (v : Value) : V0 X b c σ w (constSV v) v := by
  unfold constSV
  split <;> simp [V0]

theorem V1_of_V0 {x : SV} {v : Value} (h : V0 X b c σ w x v) : V1 X b c σ w x v := by
  cases x <;> first | exact h | exact h.elim

theorem V2_of_V1 {x : SV} {v : Value} (h : V1 X b c σ w x v) : V2 X b c σ w x v := by
  cases x <;> first | exact h | exact False.elim (by simp [V1, V0] at h)

theorem V_of_V2 {x : SV} {v : Value} (h : V2 X b c σ w x v) : V X b c σ w x v := by
  cases x <;> first | exact h | exact False.elim (by simp [V2, V1, V0] at h)

theorem V2_const (v : Value) : V2 X b c σ w (constSV v) v := V2_of_V1 (V1_of_V0 (V0_const v))

theorem V_ungd {x : SV} {v : Value} {g : Bool} (h : V X b c σ w x v) (hg : gdP g x) (e : g = true) : V2 X b c σ w (ungd x) v := by
  cases x <;> first | exact h | exact h.1 (hg e)

theorem V_evO {s : St} {a : Act} (h : R X s σ w a) (x : Operand) : V X s.b s.c σ w (evO s.t x) (a.eval x) := by
  cases x with
  | tmp i =>
    by_cases hi : i < s.t.length
    · exact h.tm i hi
    · have : s.t.getD i .any = .any := by simp [List.getD, List.getElem?_eq_none (Nat.le_of_not_lt hi)]
      simp only [evO, this]; exact V.any _
  | const v => exact V_of_V2 (V2_const v)
  | global g => exact rfl
  | func f => exact rfl

theorem gdPs_mem {t : List SV} {g : Bool} : ∀ {l : List Operand}, gdPs t g l → ∀ x, x ∈ l → gdP g (evO t x)
  | [], _, x, h => by simp at h
  | y :: l, h, x, hx => by
    rcases List.mem_cons.1 hx with rfl | hx
    · exact h.1
    · exact gdPs_mem h.2 x hx
end

theorem isI_eq {k : IntKind} {x : TyI} (h : isI k x) : x = .int k := by cases x <;> simp_all [isI]
theorem isB_eq {x : TyI} (h : isB x) : x = .bool := by cases x <;> simp_all [isB]

section
variable {P : Program} {w : World}

theorem run_eqGuard_int (op : BinOp) (t : TypeId) (x y : Operand) (k k' : IntKind) (a b : Int) : (eqGuard op t x y (.int k a) (.int k' b)).run P w = .ok () w := by
  cases op <;> simp [eqGuard]
theorem run_eqGuard_str (op : BinOp) (t : TypeId) (x y : Operand) (a b : ByteArray) : (eqGuard op t x y (.string a) (.string b)).run P w = .ok () w := by
  cases op <;> simp [eqGuard]
theorem run_eqGuard_bool (op : BinOp) (t : TypeId) (x y : Operand) (a b : Bool) : (eqGuard op t x y (.bool a) (.bool b)).run P w = .ok () w := by
  cases op <;> simp [eqGuard]

theorem binI_ok {X : Ctx} {b : List (Nat × Nat × Blk)} {c : Lim} {σ : Env} {op : BinOp} {t : TypeId} {k k' : IntKind} {x y : Int} {p : Prop} {v : SV} (h : binI op k x k' y = some (p, v)) (hp : p) :
    ∃ u, (binOp op t (.int k x) (.int k' y)).run P w = .ok u w ∧ V2 X b c σ w v u := by
  cases op
  case shl =>
    simp only [binI, Option.some.injEq, Prod.mk.injEq] at h
    obtain ⟨rfl, rfl⟩ := h
    have : ¬ y < 0 := by omega
    exact ⟨_, by simp [binOp, Op.shift, this, shlI, shrI], rfl⟩
  case shr =>
    simp only [binI, Option.some.injEq, Prod.mk.injEq] at h
    obtain ⟨rfl, rfl⟩ := h
    have : ¬ y < 0 := by omega
    exact ⟨_, by simp [binOp, Op.shift, this, shlI, shrI], rfl⟩
  case quo =>
    simp only [binI, Option.some.injEq, Prod.mk.injEq] at h
    obtain ⟨rfl, rfl⟩ := h
    obtain ⟨rfl, hy⟩ := hp
    exact ⟨_, by simp [binOp, Op.intDiv, hy, quoI, remI], rfl⟩
  case rem =>
    simp only [binI, Option.some.injEq, Prod.mk.injEq] at h
    obtain ⟨rfl, rfl⟩ := h
    obtain ⟨rfl, hy⟩ := hp
    exact ⟨_, by simp [binOp, Op.intDiv, hy, quoI, remI], rfl⟩
  all_goals
    simp only [binI, Option.some.injEq, Prod.mk.injEq] at h
    obtain ⟨rfl, rfl⟩ := h
    subst hp
    exact ⟨_, by simp [binOp, Op.intArith, Op.intBits, Op.intCmp, bitsI], rfl⟩
end

section
variable {P : Program} {T : Tab} {X : Ctx} {b : List (Nat × Nat × Blk)} {c : Lim} {σ : Env} {w : World}

theorem drop_beq (l m : List Int) (s : Nat) (h : s < l.length) (h' : s < m.length) : (l.drop s == m.drop s) = (l.getD s 0 == m.getD s 0 && l.drop (s + 1) == m.drop (s + 1)) := by
  have e1 : l.getD s 0 = l[s] := by simp [List.getD, h]
  have e2 : m.getD s 0 = m[s] := by simp [List.getD, h']
  rw [List.drop_eq_getElem_cons h, List.drop_eq_getElem_cons h', List.cons_beq_cons, e1, e2]

theorem run_arr_loop {d0 : Nat} {et : TypeId} {k : IntKind} (l m : List Int) (n : Nat) (hl : l.length = n) (hm : m.length = n)
    (hpart : ∀ (q : List Int) i, i < q.length → (part et (q.map (Value.int k)).toArray (i * 1)).run P w = .ok (.int k (q.getD i 0)) w)
    (heq : ∀ x y, (Op.equalIn (d0 + 1) et (.int k x) (.int k y)).run P w = .ok (x == y) w) :
    ∀ (d s : Nat), s + d = n →
    (forIn (List.range' s d) ((none, ()) : Option Bool × Unit) fun i __s => do
            let __do_lift ← part et (List.map (Value.int k) l).toArray (i * 1)
            let __do_lift_1 ← part et (List.map (Value.int k) m).toArray (i * 1)
            let __do_lift ← Op.equalIn (d0 + 1) et __do_lift __do_lift_1
            if (!__do_lift) = true then pure (ForInStep.done (some false, ())) else pure (ForInStep.yield (none, ())) : Sem (Option Bool × Unit)).run P w
      = .ok (if l.drop s == m.drop s then none else some false, ()) w := by
  intro d
  induction d with
  | zero =>
    intro s hs
    have h1 : l.drop s = [] := List.drop_eq_nil_of_le (by omega)
    have h2 : m.drop s = [] := List.drop_eq_nil_of_le (by omega)
    simp [h1, h2]
  | succ d ih =>
    intro s hs
    have h1 : s < l.length := by omega
    have h2 : s < m.length := by omega
    have := ih (s + 1) (by omega)
    simp only [List.range'_succ, List.forIn_cons, Sem.run_bind, hpart l s h1, hpart m s h2, Result.andThen_ok, heq, drop_beq l m s h1 h2]
    cases hb : (l.getD s 0 == m.getD s 0)
    · simp
    · simp only [Bool.not_true, Bool.false_eq_true, if_false, Sem.run_pure, Result.andThen_ok, Bool.true_and]
      exact this

theorem run_equalIn_arr (TO : TabOk P T) (d0 : Nat) {t : TypeId} {n : Nat} {k : IntKind} (hA : isA T n k (T.ty t)) (l m : List Int) (hl : l.length = n) (hm : m.length = n) :
    (Op.equalIn (d0 + 2) t (.agg (l.map (Value.int k)).toArray) (.agg (m.map (Value.int k)).toArray)).run P w = .ok (l == m) w := by
  have ht := TO.ty t
  cases e : T.ty t <;> rw [e] at hA <;> simp only [isA] at hA
  rename_i n' et
  obtain ⟨rfl, hk, hs⟩ := hA
  rw [e] at ht; simp only [tyOk] at ht
  have he := TO.ty et
  rw [isI_eq hk] at he; simp only [tyOk] at he
  obtain ⟨i, hi, his, _⟩ := TO.info et (by rw [hs]; decide)
  have hi1 : i.size = 1 := his.trans hs
  have hint : (isAgg et).run P w = .ok false w := by simp [isAgg, run_underlying he]
  have hso : (sizeOf et).run P w = .ok 1 w := by simp [sizeOf, typeInfo, hi, hi1]
  rw [Op.equalIn]
  simp only [Sem.run_bind, run_underlying ht, Result.andThen_ok, hso]
  rw [Std.Legacy.Range.forIn_eq_forIn_range']
  have hpart : ∀ (q : List Int) i, i < q.length → (part et (q.map (Value.int k)).toArray (i * 1)).run P w = .ok (.int k (q.getD i 0)) w := by
    intro q i hi
    simp [part, hint, hi, List.getD]
  have := run_arr_loop (P := P) (w := w) (et := et) (k := k) l m l.length rfl (hm.trans hl.symm) hpart (fun x y => run_equalIn_int w d0 et k k x y he) l.length 0 (by omega)
  simp only [Std.Legacy.Range.size, Nat.sub_zero, Nat.add_sub_cancel, Nat.div_one, ← hl, this, Result.andThen_ok, List.drop_zero]
  cases l == m <;> simp

theorem run_equal_arr (TO : TabOk P T) {t : TypeId} {n : Nat} {k : IntKind} (hA : isA T n k (T.ty t)) (l m : List Int) (hl : l.length = n) (hm : m.length = n) :
    (Op.equal t (.agg (l.map (Value.int k)).toArray) (.agg (m.map (Value.int k)).toArray)).run P w = .ok (l == m) w := by
  unfold Op.equal Op.maxDepth
  exact run_equalIn_arr TO 9998 hA l m hl hm

theorem eqGuard_arr (TO : TabOk P T) {t : TypeId} {n : Nat} {k : IntKind} (hA : isA T n k (T.ty t)) (op : BinOp) (x y : Operand) (xs ys : Array Value) :
    (eqGuard op t x y (.agg xs) (.agg ys)).run P w = .ok () w := by
  refine run_eqGuard_agg w op t x y xs ys ?_
  have ht := TO.ty t
  cases e : T.ty t <;> rw [e] at hA <;> simp only [isA] at hA
  rename_i n' et
  obtain ⟨rfl, hk, hs⟩ := hA
  rw [e] at ht; simp only [tyOk] at ht
  have he := TO.ty et
  rw [isI_eq hk] at he; simp only [tyOk] at he
  obtain ⟨d, hd⟩ : ∃ d, P.depth = d + 2 := ⟨P.depth - 2, by have := TO.dep; omega⟩
  rw [hd]
  simp [Program.eqGuardType, ht, he]

theorem isP_eq {x : TyI} (h : isP x) : ∃ e, x = .pointer e := by cases x <;> simp_all [isP]

theorem ptrE_ok (TO : TabOk P T) {op : BinOp} {t : TypeId} {x y : SV} {x' y' : Value} {X' Y' : Operand} {p : Prop} {v : SV} (h : ptrE T b op t x y = some (p, v)) (hp : p)
    (hx : V2 X b c σ w x x') (hy : V2 X b c σ w y y') :
    ∃ u, (do eqGuard op t X' Y' x' y'; binOp op t x' y' : Sem Value).run P w = .ok u w ∧ V2 X b c σ w v u := by
  have key : ∀ (r : Bool) (q : Option Addr), isP (T.ty t) → x' = .pointer q → y' = .pointer none → r = q.isNone →
      (op = .eql → ∃ u, (do eqGuard op t X' Y' x' y'; binOp op t x' y' : Sem Value).run P w = .ok u w ∧ V2 X b c σ w (.bool r) u) ∧
      (op = .neq → ∃ u, (do eqGuard op t X' Y' x' y'; binOp op t x' y' : Sem Value).run P w = .ok u w ∧ V2 X b c σ w (.bool (!r)) u) := by
    rintro r q hP rfl rfl rfl
    obtain ⟨e, he⟩ := isP_eq hP
    have ht := TO.ty t
    rw [he] at ht; simp only [tyOk] at ht
    have hpt : P.underlying t = some (.pointer (P.pointee t)) := by
      have : P.pointee t = e := by unfold Program.pointee; rw [ht]
      rw [this]; exact ht
    constructor
    · rintro rfl; exact ⟨_, by simp [eqGuard, run_eql_pointer_nil w t q hpt], rfl⟩
    · rintro rfl; exact ⟨_, by simp [eqGuard, run_neq_pointer_nil w t q hpt], rfl⟩
  unfold ptrE at h
  split at h
  · rename_i n g off
    cases eb : blkAt b n g <;> simp only [eb, reduceCtorEq] at h
    have hy : y' = .pointer none := hy
    obtain ⟨hc, hl⟩ := (hx : c.ok n g ∧ (Live b n g → ∃ B, σ n = some B ∧ x' = .pointer (some ⟨B, off, none⟩)))
    obtain ⟨B, hB, e2⟩ := hl (by
      unfold blkAt at eb
      cases ef : fnd b n with
      | none => simp [ef] at eb
      | some z =>
        obtain ⟨g', x0⟩ := z
        simp only [ef] at eb
        by_cases hg : g' = g
        · exact ⟨x0, by rw [ef, hg]⟩
        · simp [hg] at eb)
    cases op <;> simp only [reduceCtorEq, Option.some.injEq, Prod.mk.injEq] at h
    · obtain ⟨rfl, rfl⟩ := h; exact (key false _ hp e2 hy rfl).1 rfl
    · obtain ⟨rfl, rfl⟩ := h; exact (key false _ hp e2 hy rfl).2 rfl
  · have hx : x' = .pointer none := hx
    have hy : y' = .pointer none := hy
    cases op <;> simp only [reduceCtorEq, Option.some.injEq, Prod.mk.injEq] at h
    · obtain ⟨rfl, rfl⟩ := h; exact (key true _ hp hx hy rfl).1 rfl
    · obtain ⟨rfl, rfl⟩ := h; exact (key true _ hp hx hy rfl).2 rfl
  · cases h

theorem unV_ok {op : UnOp} {x : SV} {x' : Value} {p : Prop} {v : SV} (h : unV op x = some (p, v)) (hx : V2 X b c σ w x x') :
    ∃ u, (Op.unary op x').run P w = .ok u w ∧ V2 X b c σ w v u := by
  cases x <;> simp only [unV, reduceCtorEq] at h
  case bool s =>
    obtain rfl : x' = .bool s := hx
    cases op <;> simp only [reduceCtorEq, Option.some.injEq, Prod.mk.injEq] at h
    obtain ⟨rfl, rfl⟩ := h
    exact ⟨_, by simp [Op.unary], rfl⟩
  case int k n =>
    obtain rfl : x' = .int k n := hx
    cases op <;> simp only [reduceCtorEq, Option.some.injEq, Prod.mk.injEq] at h
    all_goals
      obtain ⟨rfl, rfl⟩ := h
      exact ⟨_, by simp [Op.unary, Op.intArith, Op.intBits, bitsI], rfl⟩

theorem known_ok (TO : TabOk P T) {t : TypeId} (h : known (T.ty t) = true) : ∃ d, P.underlying t = some d := by
  have ht := TO.ty t
  cases e : T.ty t <;> rw [e] at ht h <;> simp only [tyOk, known, Bool.false_eq_true] at ht h
  case struct => obtain ⟨f, hf, _⟩ := ht; exact ⟨_, hf⟩
  all_goals exact ⟨_, ht⟩

theorem convV_ok (TO : TabOk P T) {src dst : TypeId} {x : SV} {x' : Value} {p : Prop} {v : SV} (h : convV T dst x = some (p, v)) (hx : V2 X b c σ w x x') (hs : known (T.ty src) = true) :
    ∃ u, (convert src dst x').run P w = .ok u w ∧ V2 X b c σ w v u := by
  obtain ⟨d, hs⟩ := known_ok TO hs
  have ht := TO.ty dst
  cases x <;> simp only [convV, reduceCtorEq] at h
  case int k n =>
    obtain rfl : x' = .int k n := hx
    cases e : T.ty dst <;> simp only [e, reduceCtorEq, Option.some.injEq, Prod.mk.injEq] at h
    obtain ⟨rfl, rfl⟩ := h
    rw [e] at ht; simp only [tyOk] at ht
    refine ⟨_, ?_, rfl⟩
    simp only [convert, Sem.run_bind, run_underlying hs, run_underlying ht, Result.andThen_ok, Conv.intToInt]
    rfl
  case str s =>
    obtain rfl : x' = .string s := hx
    cases e : T.ty dst <;> simp only [e, reduceCtorEq, Option.some.injEq, Prod.mk.injEq] at h
    obtain ⟨rfl, rfl⟩ := h
    rw [e] at ht; simp only [tyOk] at ht
    refine ⟨_, ?_, rfl⟩
    simp only [convert, Sem.run_bind, run_underlying hs, run_underlying ht, Result.andThen_ok]
    rfl
end

end Go.Proofs.Ytbnjdnahpnjofaa.Abs
