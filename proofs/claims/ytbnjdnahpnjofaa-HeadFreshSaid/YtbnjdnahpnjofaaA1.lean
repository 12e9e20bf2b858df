/- OWN LIBRARY, part 1: a run to a function's return, concretely and by told states; regions, loops, branches. -/
import Derived.Test.YtbnjdnahpnjofaaA0
namespace Go.Proofs.Ytbnjdnahpnjofaa.Abs
open Go

/-- From what is still to be done the function comes to its return, in such a state. -/
def Fins (P : Program) (todo : List Item) (a : Act) (w : World) (Z : Act → World → Prop) : Prop :=
  ∀ (b : Frame) (cs : List Frame), ∃ a' w' todo', Z a' w' ∧ Steps P (lone (b.at a todo) cs w) (lone { b.at a' todo' with mode := .returning } cs w')

theorem Fins.mono {P : Program} {todo : List Item} {a : Act} {w : World} {Z Z' : Act → World → Prop} (h : Fins P todo a w Z) (hz : ∀ a w, Z a w → Z' a w) : Fins P todo a w Z' := by
  intro b cs
  obtain ⟨a', w', t', z, s⟩ := h b cs
  exact ⟨a', w', t', hz _ _ z, s⟩

section fin
variable {P : Program} {k : List Item} {a : Act} {w : World} {Z : Act → World → Prop}

theorem Fins.mk1 {k k' : List Item} {a a' : Act} {w w' : World} (h : ∀ (b : Frame) (cs : List Frame), step P (lone (b.at a k) cs w) = .next (lone (b.at a' k') cs w')) (h' : Fins P k' a' w' Z) : Fins P k a w Z := by
  intro b cs
  obtain ⟨a2, w2, t2, z, s⟩ := h' b cs
  exact ⟨a2, w2, t2, z, .head (h b cs) s⟩

theorem Fins.skip (h : Fins P k a w Z) : Fins P (.code .skip :: k) a w Z := .mk1 (fun _ _ => step_skip) h
theorem Fins.seq {x y : Code} (h : Fins P (.code x :: .code y :: k) a w Z) : Fins P (.code (.seq x y) :: k) a w Z := .mk1 (fun _ _ => step_seq) h
theorem Fins.block {id : Nat} {c : Code} (h : Fins P (.code c :: .inBlock id :: k) a w Z) : Fins P (.code (.block id c) :: k) a w Z := .mk1 (fun _ _ => step_block) h
theorem Fins.inBlock {id : Nat} (h : Fins P k a w Z) : Fins P (.inBlock id :: k) a w Z := .mk1 (fun _ _ => step_inBlock) h
theorem Fins.loop {c : Code} (h : Fins P (.inLoop c :: k) a w Z) : Fins P (.code (.loop c) :: k) a w Z := by
  intro b cs
  obtain ⟨a2, w2, t2, z, n, hn⟩ := h b cs
  cases n with
  | zero => simp [runN, lone, Frame.at] at hn
  | succ n =>
    refine ⟨a2, w2, t2, z, ?_⟩
    simp only [runN] at hn
    rw [step_inLoop] at hn
    exact .head step_loop ⟨n, hn⟩
theorem Fins.inLoop {c : Code} (h : Fins P (.code c :: .inLoop c :: k) a w Z) : Fins P (.inLoop c :: k) a w Z := .mk1 (fun _ _ => step_inLoop) h
theorem Fins.exit {id : Nat} {k' : List Item} (e : exitTo id k = some k') (h : Fins P k' a w Z) : Fins P (.code (.exit id) :: k) a w Z := .mk1 (fun _ _ => step_exit e) h
theorem Fins.cond {c : Operand} {x y : Code} {t : Bool} (hc : a.eval c = .bool t) (h : Fins P (.code (if t then x else y) :: k) a w Z) : Fins P (.code (.cond c x y) :: k) a w Z := .mk1 (fun _ _ => step_cond hc) h
theorem Fins.ret (h : Z a w) : Fins P (.code .ret :: k) a w Z := fun _ _ => ⟨a, w, _, h, .one step_ret⟩
theorem Fins.done (h : Z a w) : Fins P [] a w Z := fun _ _ => ⟨a, w, _, h, .one step_end⟩
theorem Fins.region {id : Nat} {ops : Array Oper} (h : Fins P (.inRegion ops (List.range ops.size) :: k) a w Z) : Fins P (.code (.region id ops false) :: k) a w Z := .mk1 (fun _ _ => step_region) h
theorem Fins.region_draw {id : Nat} {ops : Array Oper} (h : ∀ t, Fins P (.inRegion ops (Region.schedule (P.follows .mixedOrders) ops t) :: k) a w.drew Z) : Fins P (.code (.region id ops true) :: k) a w Z := by
  intro b cs
  obtain ⟨a2, w2, t2, z, s⟩ := h _ b cs
  exact ⟨a2, w2, t2, z, .head step_region_draw s⟩
theorem Fins.region_end {ops : Array Oper} (h : Fins P k a w Z) : Fins P (.inRegion ops [] :: k) a w Z := .mk1 (fun _ _ => step_region_end) h

theorem Fins.opSkip {ops : Array Oper} {i : Nat} {rest : List Nat} {o : Oper} (ho : ops[i]? = some o) (hw : Region.wanted o (yielded ops a.tmps) = false)
    (h : Fins P (.inRegion ops rest :: k) (a.put o.dst undef) w Z) : Fins P (.inRegion ops (i :: rest) :: k) a w Z := by
  refine .mk1 (fun b cs => ?_) h
  have := step_op_skip (P := P) (b := b) (a := a) (k := k) (cs := cs) (w := w) (ops := ops) (i := i) (rest := rest) (by simp [ho, hw])
  simpa [ho] using this

theorem Fins.opValue {ops : Array Oper} {i : Nat} {rest : List Nat} {o : Oper} {v : Value} {w' : World} (ho : ops[i]? = some o) (hw : Region.wanted o (yielded ops a.tmps) = true)
    (hr : (execOp a.eval o).run P w = .ok (.value v) w' ∨ ((execOp a.eval o).run P w = .ok .skip w' ∧ v = undef))
    (h : Fins P (.inRegion ops rest :: k) (a.put o.dst v) w' Z) : Fins P (.inRegion ops (i :: rest) :: k) a w Z := by
  refine .mk1 (fun b cs => step_lone_go ?_) h
  have hg := stepG_op (P := P) (b := b) (a := a) (k := k) (cs := cs) (w := w) (ops := ops) (i := i) (rest := rest) ho hw
  have hfin : (b.at a (.inRegion ops (i :: rest) :: k)).finish v = b.at (a.put o.dst v) (.inRegion ops rest :: k) := by rw [Frame.finish_at, ho]; rfl
  rcases hr with hr | ⟨hr, rfl⟩
  · rw [hg, ← hfin]; simp [stepG.apply, hr]
  · rw [hg, ← hfin]; simp [stepG.apply, hr]

theorem Fins.opCall {ops : Array Oper} {i : Nat} {rest : List Nat} {o : Oper} {f : FuncId} {args : Array Value} {w' : World} (ho : ops[i]? = some o) (hw : Region.wanted o (yielded ops a.tmps) = true)
    (hr : (execOp a.eval o).run P w = .ok (.enter f args) w')
    (h : Calls P f args w' fun e w'' => ∃ v, e = .returned v ∧ Fins P (.inRegion ops rest :: k) (a.put o.dst v) w'' Z) : Fins P (.inRegion ops (i :: rest) :: k) a w Z := by
  intro b cs
  obtain ⟨e, w'', fr, ⟨v, rfl, hR⟩, hsteps, _, hleave⟩ := h (b.at a (.inRegion ops (i :: rest) :: k) :: cs)
  have hg := stepG_op (P := P) (b := b) (a := a) (k := k) (cs := cs) (w := w) (ops := ops) (i := i) (rest := rest) ho hw
  have henter : step P (lone (b.at a (.inRegion ops (i :: rest) :: k)) cs w) =
      .next (lone (Frame.enter P f args .normal) (b.at a (.inRegion ops (i :: rest) :: k) :: cs) w') :=
    step_lone_go (by rw [hg]; simp [stepG.apply, hr, Frame.at])
  obtain ⟨a2, w2, t2, z, s⟩ := hR b cs
  refine ⟨a2, w2, t2, z, .head henter (Steps.trans hsteps (.head ?_ s))⟩
  have hfin : (b.at a (.inRegion ops (i :: rest) :: k)).finish v = b.at (a.put o.dst v) (.inRegion ops rest :: k) := by rw [Frame.finish_at, ho]; rfl
  rw [← hfin]; exact step_leave_returned hleave
end fin

theorem calls_of_fin {P : Program} {f : FuncId} {fn : Func} {c : Code} {args : Array Value} {w : World} {Q : Ending → World → Prop}
    (hf : P.funcs[f]? = some fn) (hb : fn.body = some c)
    (h : Fins P [.code c] { tmps := args ++ Array.replicate (fn.ntmps - args.size) undef, defers := [] } w fun a' w' => a'.defers = [] ∧ ∃ v, (results fn a'.tmps).run P w' = .ok v w' ∧ Q (.returned v) w') :
    Calls P f args w Q := by
  intro cs
  let b : Frame := { (default : Frame) with fn := f, kind := .normal }
  have henter : Frame.enter P f args .normal =
      b.at { tmps := args ++ Array.replicate (fn.ntmps - args.size) undef, defers := [] } [.code c] := by
    simp [Frame.enter, Frame.at, hf, hb, b]
  obtain ⟨a', w', todo, ⟨hd, v, hr, hR⟩, hs⟩ := h b cs
  rw [← henter] at hs
  exact ⟨.returned v, w', _, hR, hs, rfl, rfl, hd, rfl, fn, hf, hr⟩

/-- Told: from such a state the function comes to its return in a state that is so. -/
def HRun (P : Program) (X : Ctx) (todo : List Item) (s : St) (Φ : St → Prop) : Prop :=
  ∀ σ w a, R X s σ w a → Fins P todo a w fun a' w' => ∃ s' σ', Φ s' ∧ R X s' σ' w' a' ∧ Tr X s.b s.c σ w s'.b s'.c σ' w'

/-- Less is told. -/
def LeT : List SV → List SV → Prop
  | [], [] => True
  | x :: l, y :: m => (y = .any ∨ x = y) ∧ LeT l m
  | _, _ => False

theorem LeT.length : ∀ {l m : List SV}, LeT l m → l.length = m.length
  | [], [], _ => rfl
  | _ :: _, _ :: _, h => by simp [LeT.length h.2]

theorem LeT.get : ∀ {l m : List SV}, LeT l m → ∀ i, m.getD i .any = .any ∨ l.getD i .any = m.getD i .any
  | [], [], _, i => by simp
  | x :: l, y :: m, h, i => by
    cases i with
    | zero => exact h.1
    | succ i => simpa using LeT.get h.2 i

theorem V.any {X : Ctx} {b : List (Nat × Nat × Blk)} {c : Lim} {σ : Env} {w : World} (v : Value) : V X b c σ w .any v := trivial

theorem R.weak {X : Ctx} {s : St} {t : List SV} {σ : Env} {w : World} {a : Act} (h : R X s σ w a) (hl : LeT s.t t) : R X ⟨t, s.b, s.c⟩ σ w a where
  sz := by rw [h.sz, hl.length]
  tm i hi := by
    rcases hl.get i with e | e
    · simp only [e]; exact V.any _
    · have := h.tm i (by rw [hl.length]; exact hi)
      rw [e] at this; exact this
  df := h.df
  bl := h.bl
  inj := h.inj
  fr := h.fr
  st := h.st
  ro := h.ro
  gl := h.gl

/-- Fewer blocks are told of. -/
theorem R.drop {X : Ctx} {s : St} {b : List (Nat × Nat × Blk)} {σ : Env} {w : World} {a : Act} (h : R X s σ w a) (hl : ∀ n x, fnd b n = some x → fnd s.b n = some x) : R X ⟨s.t, b, s.c⟩ σ w a := by
  have T : Tr X s.b s.c σ w b s.c σ w := Tr.drop hl
  exact {
    sz := h.sz
    tm := fun i hi => (h.tm i hi).tr T
    df := h.df
    bl := fun n g x hx => let ⟨h1, h2, h3⟩ := h.bl n g x (hl n _ hx); ⟨h1, h2.tr T rfl (fun _ _ => rfl), h3⟩
    inj := fun n m x y B hx hy => h.inj n m x y B (hl n x hx) (hl m y hy)
    fr := h.fr
    st := h.st
    ro := h.ro
    gl := h.gl }

theorem HRun.weak {P : Program} {X : Ctx} {todo : List Item} {s : St} {t : List SV} {Φ : St → Prop} (hl : LeT s.t t) (h : HRun P X todo ⟨t, s.b, s.c⟩ Φ) : HRun P X todo s Φ :=
  fun σ w a hR => h σ w a (hR.weak hl)

theorem HRun.dropB {P : Program} {X : Ctx} {todo : List Item} {s : St} {b : List (Nat × Nat × Blk)} {Φ : St → Prop} (hl : ∀ n x, fnd b n = some x → fnd s.b n = some x) (h : HRun P X todo ⟨s.t, b, s.c⟩ Φ) : HRun P X todo s Φ :=
  fun σ w a hR => (h σ w a (hR.drop hl)).mono fun _ _ ⟨s', σ', h1, h2, h3⟩ => ⟨s', σ', h1, h2, (Tr.drop hl).trans h3⟩

theorem HRun.mono {P : Program} {X : Ctx} {todo : List Item} {s : St} {Φ Ψ : St → Prop} (h : HRun P X todo s Φ) (hp : ∀ s, Φ s → Ψ s) : HRun P X todo s Ψ := by
  intro σ w a hR b cs
  obtain ⟨a', w', t', ⟨s', σ', h1, h2, h3⟩, hs⟩ := h σ w a hR b cs
  exact ⟨a', w', t', ⟨s', σ', hp _ h1, h2, h3⟩, hs⟩

/-- A step, then a run. -/
theorem HRun.after {P : Program} {X : Ctx} {todo : List Item} {s s' : St} {Φ : St → Prop} {σ σ' : Env} {w w' : World} {a' : Act} (h : HRun P X todo s' Φ) (hR : R X s' σ' w' a') (hT : Tr X s.b s.c σ w s'.b s'.c σ' w') :
    Fins P todo a' w' fun a'' w'' => ∃ s'' σ'', Φ s'' ∧ R X s'' σ'' w'' a'' ∧ Tr X s.b s.c σ w s''.b s''.c σ'' w'' :=
  (h σ' w' a' hR).mono fun _ _ ⟨s2, σ2, h1, h2, h3⟩ => ⟨s2, σ2, h1, h2, hT.trans h3⟩

/-- A loop, by what each round's head is like and a measure. -/
theorem HRun.loop {P : Program} {X : Ctx} {c : Code} {k : List Item} {s : St} {Φ : St → Prop} {α : Type} (I : α → Prop) (S : α → St) (μ : α → Nat) (x0 : α) (h0 : I x0)
    (hs : HRun P X (.inLoop c :: k) (S x0) Φ → HRun P X (.inLoop c :: k) s Φ)
    (round : ∀ x, I x → (∀ y, I y → μ y < μ x → HRun P X (.inLoop c :: k) (S y) Φ) → HRun P X (.code c :: .inLoop c :: k) (S x) Φ) :
    HRun P X (.code (.loop c) :: k) s Φ := by
  have key : ∀ n x, μ x = n → I x → HRun P X (.inLoop c :: k) (S x) Φ := by
    intro n
    induction n using Nat.strongRecOn with
    | _ n ih =>
      intro x hn hx σ w a hR
      exact .inLoop (round x hx (fun y hy hlt => ih (μ y) (hn ▸ hlt) y rfl hy) σ w a hR)
  intro σ w a hR
  exact .loop (hs (key _ x0 rfl h0) σ w a hR)

end Go.Proofs.Ytbnjdnahpnjofaa.Abs
