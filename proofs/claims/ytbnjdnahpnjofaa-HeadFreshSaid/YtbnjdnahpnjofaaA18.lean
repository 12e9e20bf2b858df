/- OWN LIBRARY, part 18: a region that draws its order: one walk in the written order serves all of them. -/
import Derived.Test.YtbnjdnahpnjofaaA17
import Derived.Orders
set_option linter.unusedVariables false
set_option linter.unusedSimpArgs false
namespace Go.Proofs.Ytbnjdnahpnjofaa.Abs
open Go

def SubB (b b' : List (Nat × Nat × Blk)) : Prop := ∀ n x, fnd b n = some x → fnd b' n = some x

/-- One operation, told by what it needs of the machine. -/
def Sem (P : Program) (X : Ctx) (ops : Array Oper) (o : Oper) (s s' : St) : Prop := ∀ σ w a, R X s σ w a →
  (Region.wanted o (yielded ops a.tmps) = true ∧ Does P X s σ s' w a o) ∨
  (Region.wanted o (yielded ops a.tmps) = false ∧ ∃ σ', R X s' σ' w (a.put o.dst undef) ∧ Tr X s.b s.c σ w s'.b s'.c σ' w) ∨
  (Region.wanted o (yielded ops a.tmps) = true ∧ ∃ f args, (execOp a.eval o).run P w = .ok (.enter f args) w ∧
    Calls P f args w fun e w' => ∃ v σ', e = .returned v ∧ R X s' σ' w' (a.put o.dst v) ∧ Tr X s.b s.c σ w s'.b s'.c σ' w')

/-- Two rows of values that are alike at all that an operation looks at. -/
def Agree (ops : Array Oper) (o : Oper) (t t' : List SV) : Prop := t'.length = t.length ∧ ∀ d, d ∈ o.looksAt ops → t'.getD d .any = t.getD d .any

def StepT (P : Program) (X : Ctx) (ops : Array Oper) (o : Oper) (s : St) (x : SV) (b' : List (Nat × Nat × Blk)) (c' : Lim) : Prop :=
  ∀ t', Agree ops o s.t t' → Sem P X ops o ⟨t', s.b, s.c⟩ ⟨setD t' o.dst x, b', c'⟩

def PureT (P : Program) (X : Ctx) (ops : Array Oper) (b0 : List (Nat × Nat × Blk)) (o : Oper) (t : List SV) (x : SV) : Prop :=
  ∀ t' b' c', Agree ops o t t' → SubB b0 b' → Sem P X ops o ⟨t', b', c'⟩ ⟨setD t' o.dst x, b', c'⟩

def OpT (P : Program) (X : Ctx) (ops : Array Oper) (b0 : List (Nat × Nat × Blk)) (e : Bool) (o : Oper) (s : St) (K : St → Prop) : Prop :=
  match e with
  | false => ∃ x, PureT P X ops b0 o s.t x ∧ K ⟨setD s.t o.dst x, s.b, s.c⟩
  | true => ∃ x b' c', StepT P X ops o s x b' c' ∧ SubB b0 b' ∧ K ⟨setD s.t o.dst x, b', c'⟩

/-- Does it make or write memory, or call? -/
def isEff (T : Tab) : Op → Bool
  | .move _ | .assign _ | .binOp _ _ _ _ _ | .unOp _ _ _ | .nilCheck _ | .fieldAddr _ _ _ | .indexAddr _ _ _ | .index _ _ _ | .extract _ _ | .slice _ _ _ _ _ | .load _ _ | .pick _ _ _ | .build _ _ | .sliceToArrayPointer _ _ | .field _ _ _ => false
  | .call { callee := .builtin .len, args := _, argTypes := _ } => false
  | .call { callee := .builtin .cap, args := _, argTypes := _ } => false
  | .convert _ dst _ => match T.ty dst with | .slice _ => true | _ => false
  | _ => true

section
variable {P : Program} {T : Tab} {X : Ctx} {ops : Array Oper} {b0 : List (Nat × Nat × Blk)}

theorem SubB.rfl' {b : List (Nat × Nat × Blk)} : SubB b b := fun _ _ h => h

theorem OpT.mono {e : Bool} {o : Oper} {s : St} {K K' : St → Prop} (h : ∀ s, K s → K' s) (hh : OpT P X ops b0 e o s K) : OpT P X ops b0 e o s K' := by
  cases e
  · obtain ⟨x, h1, h2⟩ := hh; exact ⟨x, h1, h _ h2⟩
  · obtain ⟨x, b', c', h1, h2, h3⟩ := hh; exact ⟨x, b', c', h1, h2, h _ h3⟩

theorem Agree.refl {o : Oper} {t : List SV} : Agree ops o t t := ⟨rfl, fun _ _ => rfl⟩

theorem setD_length {t : List SV} {d : Option Nat} {x : SV} : (setD t d x).length = t.length := by cases d <;> simp [setD]

theorem getD_setD {t : List SV} {d : Option Nat} {x : SV} {j : Nat} (h : ∀ d', d = some d' → d' ≠ j) : (setD t d x).getD j .any = t.getD j .any := by
  cases d with
  | none => rfl
  | some d =>
    have := h d rfl
    simp [setD, List.getD, List.getElem?_set, this]

theorem Agree.put {oi oj : Oper} {t : List SV} {x : SV} (h : ∀ d, oi.dst = some d → d ∉ oj.looksAt ops) : Agree ops oj t (setD t oi.dst x) :=
  ⟨setD_length, fun j hj => getD_setD fun d hd hdj => h d hd (hdj ▸ hj)⟩

theorem Agree.trans {o : Oper} {t t' t'' : List SV} (h : Agree ops o t t') (k : Agree ops o t' t'') : Agree ops o t t'' := ⟨k.1.trans h.1, fun d hd => (k.2 d hd).trans (h.2 d hd)⟩
theorem Agree.symm {o : Oper} {t t' : List SV} (h : Agree ops o t t') : Agree ops o t' t := ⟨h.1.symm, fun d hd => (h.2 d hd).symm⟩

theorem setD_comm {t : List SV} {d e : Option Nat} {x y : SV} (h : ∀ d', d = some d' → e ≠ some d') : setD (setD t d x) e y = setD (setD t e y) d x := by
  cases d with
  | none => rfl
  | some d =>
    cases e with
    | none => rfl
    | some e =>
      have : d ≠ e := fun he => h d rfl (he ▸ rfl)
      simp only [setD]
      rw [List.set_comm _ _ this]

/-- Whatever order is drawn from here on, so many operations; then what the rest asks. -/
def AnyT (P : Program) (X : Ctx) (T : Tab) (ops : Array Oper) (b0 : List (Nat × Nat × Blk)) (m : Nat) (Q : Array Bool → St → Prop) : Nat → Array Bool → St → Prop
  | 0, listed, s => (∀ j ∈ Region.ready .any ops listed, m ≤ j) ∧ Q listed s
  | fuel + 1, listed, s => Region.ready .any ops listed ≠ [] ∧ ∀ j ∈ Region.ready .any ops listed, ∃ o, ops[j]? = some o ∧ OpT P X ops b0 (isEff T o.op) o s (AnyT P X T ops b0 m Q fuel (listed.setIfInBounds j true))

/-- What is listed has all that it waits for listed. -/
def Closed (ops : Array Oper) (listed : Array Bool) : Prop := ∀ j oj, ops[j]? = some oj → listed.getD j false = true → ∀ e ∈ oj.after, Region.binds .any e = true → listed.getD e.on false = true

theorem Closed.set {listed : Array Bool} (h : Closed ops listed) {i : Nat} (hi : i ∈ Region.ready .any ops listed) : Closed ops (listed.setIfInBounds i true) := by
  intro j oj hj hl e he hb
  by_cases hji : j = i
  · subst hji
    obtain ⟨_, o, ho, hall⟩ := mem_ready.1 hi
    obtain rfl : oj = o := by rw [hj] at ho; exact Option.some.inj ho
    exact getD_set_true (hall e he hb)
  · rw [getD_set_ne false (Ne.symm hji)] at hl
    exact getD_set_true (h j oj hj hl e he hb)

theorem Closed.none {n : Nat} : Closed ops (Array.replicate n false) := by
  intro j oj hj hl
  exfalso
  rw [Array.getD_eq_getD_getElem?] at hl
  by_cases h : j < n <;> simp [h] at hl

/-- Does it wait for the operation, at once or by calls between? -/
def waitsC (ops : Array Oper) (i : Nat) : Nat → Nat → Bool
  | 0, _ => false
  | f + 1, j => match ops[j]? with
    | some oj => oj.after.any fun e => Region.binds .any e && (e.on == i || (decide (e.ground = .chain) && waitsC ops i f e.on))
    | none => false

theorem waitsC_spec {listed : Array Bool} (hc : Closed ops listed) {i : Nat} (hi : listed.getD i true = false) : ∀ (f j : Nat) (oj : Oper), ops[j]? = some oj → waitsC ops i f j = true → ∃ e ∈ oj.after, Region.binds .any e = true ∧ listed.getD e.on false = false
  | 0, j, oj, _, h => by simp [waitsC] at h
  | f + 1, j, oj, hj, h => by
    simp only [waitsC, hj, Array.any_eq_true] at h
    obtain ⟨k, hk, h⟩ := h
    simp only [Bool.and_eq_true, Bool.or_eq_true, beq_iff_eq, decide_eq_true_eq] at h
    obtain ⟨hb, h⟩ := h
    refine ⟨_, Array.getElem_mem hk, hb, ?_⟩
    rcases h with h | ⟨_, h⟩
    · rw [h]
      rw [Array.getD_eq_getD_getElem?] at hi ⊢
      cases e : listed[i]? with
      | none => rfl
      | some b => rw [e] at hi; exact hi
    · cases eo : ops[oj.after[k].on]? with
      | none => cases f <;> simp [waitsC, eo] at h
      | some o' =>
        obtain ⟨e', he', hb', hu⟩ := waitsC_spec hc hi f _ o' eo h
        cases el : listed.getD oj.after[k].on false with
        | false => rfl
        | true => have := hc _ o' eo el e' he' hb'; rw [hu] at this; cases this

/-- May the operation go ahead of all that do not wait for it? -/
def freeE (T : Tab) (ops : Array Oper) (listed : Array Bool) (i : Nat) : Bool :=
  match ops[i]? with
  | none => false
  | some oi => (List.range ops.size).all fun j => j == i || listed.getD j true || match ops[j]? with
      | some oj => (oi.apart ops oj && !(isEff T oi.op && isEff T oj.op)) || waitsC ops i 12 j
      | none => true

theorem freeE_spec {i : Nat} {oi : Oper} {listed : Array Bool} (hi : ops[i]? = some oi) (h : freeE T ops listed i = true) (j : Nat) (oj : Oper)
    (hj : ops[j]? = some oj) (hne : j ≠ i) (hun : listed.getD j true = false) (hno : waitsC ops i 12 j = false) :
    oi.apart ops oj = true ∧ (isEff T oi.op && isEff T oj.op) = false := by
  simp only [freeE, hi, List.all_eq_true, List.mem_range] at h
  have hlt : j < ops.size := (Array.getElem?_eq_some_iff.1 hj).1
  have := h j hlt
  rw [hun, hj] at this
  simp only [beq_iff_eq, hne, Bool.or_eq_true, Bool.false_eq_true, or_false, false_or, Bool.and_eq_true, Bool.not_eq_true', decide_eq_true_eq, hno] at this
  exact this

/-- Does it wait for the operation by what it is handed? -/
def waitsD (ops : Array Oper) (i : Nat) : Nat → Nat → Bool
  | 0, _ => false
  | f + 1, j => match ops[j]? with
    | some oj => oj.after.any fun e => Region.binds .any e && (e.on == i || (decide (e.ground = .data) && waitsD ops i f e.on))
    | none => false

theorem waitsD_spec {listed : Array Bool} (hc : Closed ops listed) {i : Nat} (hi : listed.getD i true = false) : ∀ (f j : Nat) (oj : Oper), ops[j]? = some oj → waitsD ops i f j = true → ∃ e ∈ oj.after, Region.binds .any e = true ∧ listed.getD e.on false = false
  | 0, j, oj, _, h => by simp [waitsD] at h
  | f + 1, j, oj, hj, h => by
    simp only [waitsD, hj, Array.any_eq_true] at h
    obtain ⟨k, hk, h⟩ := h
    simp only [Bool.and_eq_true, Bool.or_eq_true, beq_iff_eq, decide_eq_true_eq] at h
    obtain ⟨hb, h⟩ := h
    refine ⟨_, Array.getElem_mem hk, hb, ?_⟩
    rcases h with h | ⟨_, h⟩
    · rw [h]
      rw [Array.getD_eq_getD_getElem?] at hi ⊢
      cases e : listed[i]? with
      | none => rfl
      | some b => rw [e] at hi; exact hi
    · cases eo : ops[oj.after[k].on]? with
      | none => cases f <;> simp [waitsD, eo] at h
      | some o' =>
        obtain ⟨e', he', hb', hu⟩ := waitsD_spec hc hi f _ o' eo h
        cases el : listed.getD oj.after[k].on false with
        | false => rfl
        | true => have := hc _ o' eo el e' he' hb'; rw [hu] at this; cases this

def tailOk (ops : Array Oper) (m : Nat) : Bool :=
  (List.range ops.size).all fun j => decide (j < m) || (List.range m).all fun i => waitsD ops i 12 j

theorem tailOk_spec {m : Nat} (h : tailOk ops m = true) {j i : Nat} {listed : Array Bool} (hc : Closed ops listed) (hj : j ∈ Region.ready .any ops listed) (hi : i < m) (hl : listed.getD i true = false) : j < m := by
  rcases Nat.lt_or_ge j m with h' | h'
  · exact h'
  · exfalso
    obtain ⟨h0, o, ho, hall⟩ := mem_ready.1 hj
    have hlt : j < ops.size := (Array.getElem?_eq_some_iff.1 ho).1
    simp only [tailOk, List.all_eq_true, List.mem_range, Bool.or_eq_true, decide_eq_true_eq] at h
    rcases h j hlt with h1 | h1
    · omega
    · obtain ⟨e, he, hb, hu⟩ := waitsD_spec hc hl 12 j o ho (h1 i hi)
      have h3 := hall e he hb
      rw [hu] at h3; cases h3

theorem anyT_first {m : Nat} {Q : Array Bool → St → Prop} (ht : tailOk ops m = true) {i : Nat} {oi : Oper} (hi : ops[i]? = some oi) (him : i < m) :
    ∀ (fuel : Nat) (listed : Array Bool) (s : St), Closed ops listed →
      (∀ j oj, ops[j]? = some oj → j ≠ i → listed.getD j true = false → waitsC ops i 12 j = false → oi.apart ops oj = true ∧ (isEff T oi.op && isEff T oj.op) = false) →
      i ∈ Region.ready .any ops listed → OpT P X ops b0 (isEff T oi.op) oi s (AnyT P X T ops b0 m Q fuel (listed.setIfInBounds i true)) → AnyT P X T ops b0 m Q (fuel + 1) listed s := by
  intro fuel
  induction fuel with
  | zero =>
    intro listed s hcl0 _ hr H
    refine ⟨fun h => (by rw [h] at hr; cases hr), fun j hj => ?_⟩
    by_cases hji : j = i
    · subst hji; exact ⟨oi, hi, H⟩
    · exfalso
      have h1 := ready_mono hj hji
      have hjm : j < m := tailOk_spec ht hcl0 hj him (mem_ready.1 hr).1
      have h2 : ∃ s', AnyT P X T ops b0 m Q 0 (listed.setIfInBounds i true) s' := by
        cases e : isEff T oi.op <;> simp only [e, OpT] at H
        · obtain ⟨x, _, h⟩ := H; exact ⟨_, h⟩
        · obtain ⟨x, b', c', _, _, h⟩ := H; exact ⟨_, h⟩
      obtain ⟨s', h3, _⟩ := h2
      have := h3 j h1
      omega
  | succ fuel ih =>
    intro listed s hcl hfree hr H
    refine ⟨fun h => (by rw [h] at hr; cases hr), fun j hj => ?_⟩
    by_cases hji : j = i
    · subst hji; exact ⟨oi, hi, H⟩
    · obtain ⟨hjun, oj, hoj, hall⟩ := mem_ready.1 hj
      refine ⟨oj, hoj, ?_⟩
      have hnot : waitsC ops i 12 j = false := by
        cases hw : waitsC ops i 12 j with
        | false => rfl
        | true =>
          obtain ⟨e, he, hb, hu⟩ := waitsC_spec hcl (mem_ready.1 hr).1 12 j oj hoj hw
          have := hall e he hb
          rw [hu] at this; cases this
      have hcl' := hcl.set hj
      obtain ⟨hap, hee⟩ := hfree j oj hoj hji hjun hnot
      obtain ⟨a1, a2, a3⟩ := Oper.apart_spec hap
      have a2' : ∀ d, oj.dst = some d → oi.dst ≠ some d := fun d h1 h2 => a2 d h2 h1
      have hfree' : ∀ k ok, ops[k]? = some ok → k ≠ i → (listed.setIfInBounds j true).getD k true = false →
          waitsC ops i 12 k = false → oi.apart ops ok = true ∧ (isEff T oi.op && isEff T ok.op) = false := fun k ok hk hki hun hno => by
        refine hfree k ok hk hki ?_ hno
        by_cases hjk : j = k
        · subst hjk; exact hjun
        · rw [getD_set_ne true hjk] at hun; exact hun
      have hr' : i ∈ Region.ready .any ops (listed.setIfInBounds j true) := ready_mono hr (Ne.symm hji)
      have hcomm : (listed.setIfInBounds i true).setIfInBounds j true = (listed.setIfInBounds j true).setIfInBounds i true := Array.setIfInBounds_comm _ _ (Ne.symm hji)
      -- the operation ahead, and what comes behind it
      cases ei : isEff T oi.op with
      | false =>
        simp only [ei, OpT] at H
        obtain ⟨x, hx, hK⟩ := H
        obtain ⟨oj', hoj', hj2⟩ := hK.2 j (ready_mono hj hji)
        obtain rfl : oj = oj' := by rw [hoj] at hoj'; exact Option.some.inj hoj'
        cases ej : isEff T oj.op with
        | false =>
          simp only [ej, OpT] at hj2
          obtain ⟨y, hy, hK2⟩ := hj2
          refine ⟨y, fun t' b' c' hag hsub => hy t' b' c' ((Agree.put a1).symm.trans hag) hsub, ih _ _ hcl' hfree' hr' ?_⟩
          simp only [ei, OpT]
          refine ⟨x, fun t' b' c' hag hsub => hx t' b' c' ((Agree.put a3).trans hag) hsub, ?_⟩
          rw [← hcomm, setD_comm a2']
          exact hK2
        | true =>
          simp only [ej, OpT] at hj2
          obtain ⟨y, b2, c2, hy, hs2, hK2⟩ := hj2
          refine ⟨y, b2, c2, fun t' hag => hy t' ((Agree.put a1).symm.trans hag), hs2, ih _ _ hcl' hfree' hr' ?_⟩
          simp only [ei, OpT]
          refine ⟨x, fun t' b' c' hag hsub => hx t' b' c' ((Agree.put a3).trans hag) hsub, ?_⟩
          rw [← hcomm, setD_comm a2']
          exact hK2
      | true =>
        simp only [ei, OpT] at H
        obtain ⟨x, b2, c2, hx, hs2, hK⟩ := H
        obtain ⟨oj', hoj', hj2⟩ := hK.2 j (ready_mono hj hji)
        obtain rfl : oj = oj' := by rw [hoj] at hoj'; exact Option.some.inj hoj'
        have ej : isEff T oj.op = false := by rw [ei] at hee; simpa using hee
        simp only [ej, OpT] at hj2 ⊢
        obtain ⟨y, hy, hK2⟩ := hj2
        refine ⟨y, fun t' b' c' hag hsub => hy t' b' c' ((Agree.put a1).symm.trans hag) hsub, ih _ _ hcl' hfree' hr' ?_⟩
        simp only [ei, OpT]
        refine ⟨x, b2, c2, fun t' hag => hx t' ((Agree.put a3).trans hag), hs2, ?_⟩
        rw [← hcomm, setD_comm a2']
        exact hK2

/-- The walk in the written order. -/
def lexT (P : Program) (X : Ctx) (T : Tab) (ops : Array Oper) (b0 : List (Nat × Nat × Blk)) (Q : St → Prop) : List Oper → St → Prop
  | [], s => Q s
  | o :: rest, s => OpT P X ops b0 (isEff T o.op) o s (lexT P X T ops b0 Q rest)

def chainB (ops : Array Oper) : Nat → Nat → Array Bool → Bool
  | 0, _, _ => true
  | fuel + 1, k, listed => (Region.ready .any ops listed == [k]) && chainB ops fuel (k + 1) (listed.setIfInBounds k true)

def lexB (T : Tab) (ops : Array Oper) (m : Nat) : Nat → Nat → Array Bool → Bool
  | 0, _, listed => ((Region.ready .any ops listed).all fun j => decide (m ≤ j)) && chainB ops (ops.size - m) m listed
  | fuel + 1, k, listed => (Region.ready .any ops listed).contains k && freeE T ops listed k && lexB T ops m fuel (k + 1) (listed.setIfInBounds k true)

def drawOk (T : Tab) (ops : Array Oper) (m : Nat) : Bool := decide (m ≤ ops.size) && tailOk ops m && lexB T ops m m 0 (Array.replicate ops.size false)

theorem chainB_go : ∀ {fuel k t : Nat} {listed : Array Bool}, chainB ops fuel k listed = true → Region.linearise.go .any ops fuel t listed [] = List.range' k fuel
  | 0, _, _, _, _ => rfl
  | fuel + 1, k, t, listed, h => by
    simp only [chainB, Bool.and_eq_true, beq_iff_eq] at h
    simp only [Region.linearise.go]
    change (match (Region.ready .any ops listed)[t % (Region.ready .any ops listed).length]? with
      | some i => Region.linearise.go .any ops fuel (t / (Region.ready .any ops listed).length) (listed.setIfInBounds i true) [i]
      | none => [].reverse) = _
    rw [h.1]
    have e : ([k] : List Nat)[t % ([k] : List Nat).length]? = some k := by simp [Nat.mod_one]
    rw [e]
    simp only []
    rw [linearise_go_acc, chainB_go h.2, List.range'_succ]
    rfl

theorem anyT_lex {m : Nat} {Q : St → Prop} (ht : tailOk ops m = true) : ∀ (l : List Oper) (k : Nat) (listed : Array Bool) (s : St), (∀ j, j < l.length → l[j]? = ops[k + j]?) → l.length + k ≤ m → Closed ops listed →
    lexB T ops m l.length k listed = true → lexT P X T ops b0 Q l s → AnyT P X T ops b0 m (fun li s => chainB ops (ops.size - m) m li = true ∧ Q s) l.length listed s
  | [], k, listed, s, _, _, _, hB, h => by
    simp only [List.length_nil, lexB, Bool.and_eq_true, List.all_eq_true, decide_eq_true_eq] at hB
    exact ⟨hB.1, hB.2, h⟩
  | o :: l, k, listed, s, hl, hk, hcl, hB, h => by
    have h0 : ops[k]? = some o := by simpa using (hl 0 (by simp)).symm
    simp only [List.length_cons, lexB, Bool.and_eq_true] at hB
    obtain ⟨⟨hr, hf⟩, hB'⟩ := hB
    simp only [List.length_cons] at hk
    refine anyT_first ht h0 (by omega) l.length listed s hcl (freeE_spec h0 hf) (by simpa using hr) ?_
    refine OpT.mono (fun s' hs' => anyT_lex ht l (k + 1) _ s' (fun j hj => ?_) (by omega) (hcl.set (by simpa using hr)) hB' hs') h
    have := hl (j + 1) (by simp; omega)
    simpa [Nat.add_assoc, Nat.add_comm 1 j] using this

theorem Sem.fins {o : Oper} {i : Nat} {rest : List Nat} {k : List Item} {s s' : St} {Φ : St → Prop} (h : Sem P X ops o s s') (ho : ops[i]? = some o) (hn : HRun P X (.inRegion ops rest :: k) s' Φ) : HRun P X (.inRegion ops (i :: rest) :: k) s Φ := by
  intro σ w a hR
  rcases h σ w a hR with ⟨hw, nx, u, w', σ', hr, hnx, hR', hT⟩ | ⟨hw, σ', hR', hT⟩ | ⟨hw, f, args, hr, hC⟩
  · refine Fins.opValue (v := u) ho hw ?_ (hn.after hR' hT)
    rcases hnx with rfl | ⟨rfl, rfl⟩
    · exact .inl hr
    · exact .inr ⟨hr, rfl⟩
  · exact Fins.opSkip ho hw (hn.after hR' hT)
  · refine Fins.opCall ho hw hr (hC.mono ?_)
    rintro e w' ⟨v, σ', rfl, hR', hT⟩
    exact ⟨v, rfl, hn.after hR' hT⟩

theorem anyT_sound {m r : Nat} {Q : Array Bool → St → Prop} {k : List Item} {Φ : St → Prop}
    (hQ : ∀ listed s, Q listed s → ∀ t, HRun P X (.inRegion ops (Region.linearise.go .any ops r t listed []) :: k) s Φ) :
    ∀ (fuel t : Nat) (listed : Array Bool) (s : St), SubB b0 s.b → AnyT P X T ops b0 m Q fuel listed s → HRun P X (.inRegion ops (Region.linearise.go .any ops (fuel + r) t listed []) :: k) s Φ := by
  intro fuel
  induction fuel with
  | zero => intro t listed s _ h; rw [Nat.zero_add]; exact hQ _ _ h.2 t
  | succ fuel ih =>
    intro t listed s hs h
    obtain ⟨h0, h1⟩ := h
    rw [show fuel + 1 + r = (fuel + r) + 1 by omega]
    simp only [Region.linearise.go]
    change HRun P X (.inRegion ops (match (Region.ready .any ops listed)[t % (Region.ready .any ops listed).length]? with
      | some i => Region.linearise.go .any ops (fuel + r) (t / (Region.ready .any ops listed).length) (listed.setIfInBounds i true) [i]
      | none => [].reverse) :: k) s Φ
    cases hi : (Region.ready .any ops listed)[t % (Region.ready .any ops listed).length]? with
    | none =>
      exfalso
      cases hr : Region.ready .any ops listed with
      | nil => exact h0 hr
      | cons x xs =>
        rw [hr] at hi
        have hlt : t % (x :: xs).length < (x :: xs).length := Nat.mod_lt _ (by simp)
        simp at hi
        simp at hlt
        omega
    | some i =>
      simp only []
      rw [linearise_go_acc, List.reverse_singleton, List.singleton_append]
      obtain ⟨o, ho, hop⟩ := h1 i (List.mem_of_getElem? hi)
      cases e : isEff T o.op with
      | false =>
        simp only [e, OpT] at hop
        obtain ⟨x, hx, hK⟩ := hop
        exact (hx s.t s.b s.c Agree.refl hs).fins ho (ih _ _ _ hs hK)
      | true =>
        simp only [e, OpT] at hop
        obtain ⟨x, b', c', hx, hs', hK⟩ := hop
        exact (hx s.t Agree.refl).fins ho (ih _ _ _ hs' hK)

theorem Tr_drew {s : St} {σ : Env} {w : World} : Tr X s.b s.c σ w s.b s.c σ w.drew := ⟨fun _ _ h => h, fun _ _ h _ => ⟨h, rfl⟩, fun tag B hv => ⟨rfl, hv⟩, fun _ _ _ _ _ _ => Nat.le_refl _⟩

theorem R_drew {s : St} {σ : Env} {w : World} {a : Act} (hR : R X s σ w a) : R X s σ w.drew a :=
  { hR with
    tm := fun i hi => (hR.tm i hi).tr Tr_drew
    bl := fun n g x hx => let ⟨h1, h2, h3⟩ := hR.bl n g x hx; ⟨h1, h2.tr Tr_drew rfl (fun _ _ => rfl), h3⟩ }

/-- A region that draws its order, told by the walk in the written order: so many operations, then the others. -/
theorem HRun_draw {id m : Nat} {k : List Item} {s : St} {Φ : St → Prop} (hm : P.follows .mixedOrders = true) (hok : drawOk T ops m = true)
    (h : lexT P X T ops s.b (fun s' => HOps P X ops (ops.toList.drop m) k s' Φ) (ops.toList.take m) ⟨s.t, s.b, ⟨s.c.c + 1, [], s.c.o⟩⟩) : HRun P X (.code (.region id ops true) :: k) s Φ := by
  simp only [drawOk, Bool.and_eq_true, decide_eq_true_eq] at hok
  obtain ⟨⟨hle, ht⟩, hl⟩ := hok
  intro σ w a hR
  refine Fins.region_draw fun t => ?_
  rw [hm]
  have e1 : Region.schedule true ops t = Region.linearise .any ops t := by simp [Region.schedule]
  rw [e1]
  have hlen : (ops.toList.take m).length = m := by simp; omega
  have h1 := anyT_lex (P := P) (X := X) (b0 := s.b) ht (ops.toList.take m) 0 (Array.replicate ops.size false) _ (fun j hj => by
    rw [hlen] at hj
    simp [List.getElem?_take, hj]) (by omega) Closed.none (by rw [hlen]; exact hl) h
  rw [hlen] at h1
  have h2 := anyT_sound (P := P) (X := X) (T := T) (ops := ops) (b0 := s.b) (m := m) (r := ops.size - m) (k := k) (Φ := Φ) (Q := fun li s' => chainB ops (ops.size - m) m li = true ∧ HOps P X ops (ops.toList.drop m) k s' Φ) (fun listed s' hq t' => by
    rw [chainB_go hq.1]
    have := hq.2 m rfl
    simpa using this) m t _ ⟨s.t, s.b, ⟨s.c.c + 1, [], s.c.o⟩⟩ SubB.rfl' h1
  rw [show m + (ops.size - m) = ops.size by omega] at h2
  exact h2.after (s := s) (R_bump (R_drew hR)) (Tr_drew.trans (Tr_bump (s := s)))

end

end Go.Proofs.Ytbnjdnahpnjofaa.Abs
