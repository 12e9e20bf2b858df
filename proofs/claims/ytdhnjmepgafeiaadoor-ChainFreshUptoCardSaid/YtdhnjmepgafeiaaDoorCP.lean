/- OWN LIBRARY: a function with many possible answers, called beside own memory that it does not see. -/
import Derived.Test.YtdhnjmepgafeiaaDoorCI
set_option linter.unusedVariables false
set_option linter.unusedSimpArgs false
set_option maxRecDepth 100000
namespace Go.Proofs.YtdhnjmepgafeiaaDoor.Abs
open Go

/-- Values and blocks that say nothing about memory outside of the blocks. -/
def inV (b : List (Nat × Nat × Blk)) : SV → Prop
  | .sl n g _ _ _ _ => ∃ x, fnd b n = some (g, x)
  | .any | .nil | .int _ _ => True
  | _ => False
def inB (b : List (Nat × Nat × Blk)) : Blk → Prop
  | .vec (.ints _ _) => True
  | .cells l => ∀ x ∈ l, inV b x
  | _ => False
def inX (b : List (Nat × Nat × Blk)) : SV → Prop
  | .tup [x, y] => inV b x ∧ inV b y
  | _ => False

section
variable {P : Program} {X X' : Ctx} {b b' b2 : List (Nat × Nat × Blk)} {c c' : Lim} {σ σ' : Env} {w : World}

theorem V0_move (hok : ∀ n g, c.ok n g → c'.ok n g) (hf : ∀ n y, fnd b n = some y → fnd b2 n = some y ∧ σ' n = σ n) {x : SV} {v : Value} (hx : inV b x) (h : V0 X' b c σ w x v) : V0 X b2 c' σ' w x v := by
  cases x <;> simp only [inV] at hx <;> try exact h
  rename_i n g seg e off len
  obtain ⟨y, hy⟩ := hx
  obtain ⟨h1, h2⟩ := h
  refine ⟨hok _ _ h1, fun _ => ?_⟩
  obtain ⟨a, cap, hv, hc, hr⟩ := h2 ⟨y, hy⟩
  refine ⟨a, cap, hv, hc, fun h0 => ?_⟩
  obtain ⟨B, hB, r⟩ := hr h0
  exact ⟨B, by rw [(hf n _ hy).2]; exact hB, r⟩

theorem inV_one {x : SV} (h : inV b x) : one1 x = true := by cases x <;> simp only [inV] at h <;> rfl

theorem Cells_move (hok : ∀ n g, c.ok n g → c'.ok n g) (hf : ∀ n y, fnd b n = some y → fnd b2 n = some y ∧ σ' n = σ n) : ∀ {l : List SV} {cs : List Value}, (∀ x ∈ l, inV b x) → CellsOk X' b c σ w l cs → CellsOk X b2 c' σ' w l cs
  | [], _, _, h => h
  | x :: l, cs, hx, h => by
    have h1 := inV_one (hx x (by simp))
    rw [cellsOk_cons h1] at h ⊢
    obtain ⟨v, cs', e, h2, h3⟩ := h
    exact ⟨v, cs', e, V0_move hok hf (hx x (by simp)) h2, Cells_move hok hf (fun y hy => hx y (by simp [hy])) h3⟩

theorem Blk_move (hok : ∀ n g, c.ok n g → c'.ok n g) (hf : ∀ n y, fnd b n = some y → fnd b2 n = some y ∧ σ' n = σ n) {n : Nat} {x : Blk} (hn : σ' n = σ n) (hx : inB b x) (h : BlkOk X' b c σ w n x) : BlkOk X b2 c' σ' w n x := by
  cases x with
  | vec d =>
    cases d <;> simp only [inB] at hx
    rename_i k l
    rcases h with ⟨h1, h2⟩ | ⟨B, cs, t, fr, h1, h2, h3, h4, h5, h6⟩
    · exact .inl ⟨by rw [hn]; exact h1, h2⟩
    · refine .inr ⟨B, cs, t, fr, by rw [hn]; exact h1, h2, h3, h4, ?_, h6⟩
      intro i j hi hj
      obtain ⟨v, hv, hc⟩ := h5 i j hi hj
      exact ⟨v, hv, hc⟩
  | cells l =>
    obtain ⟨B, cs, t, fr, h1, h2, h3, h4⟩ := h
    exact ⟨B, cs, t, fr, by rw [hn]; exact h1, h2, h3, Cells_move hok hf hx h4⟩
  | iter => simp only [inB] at hx

end

section
variable {P : Program} {T : Tab} {X : Ctx} {s : St} {σ : Env} {w : World} {a : Act}

/-- Such a call, with one own slice handed in to be read. -/
theorem inCF_call (hR : R X s σ w a) {f : FuncId} {y : Operand} {n0 g0 seg0 e0 off0 len0 d : Nat} {dd : Data} {Q : SV → List (Nat × Nat × Blk) → Nat → Prop} (hC : ∀ (X : Ctx) (c0 : Nat), InCE P X f [.view false dd] [] c0 Q)
    (hy : evO s.t y = .sl n0 g0 seg0 e0 off0 len0) (hm : mA0 s.b [] (.sl n0 g0 seg0 e0 off0 len0) (.view false dd))
    (hQ : ∀ x b' c1, Q x b' c1 → inX b' x ∧ (∀ n y, fnd b' n = some y → inB b' y.2 ∧ fnd s.b n = none)) :
    Calls P f ([y].map a.eval).toArray w fun e w' => ∃ v σ' x b' c1, e = .returned v ∧ Q x b' c1 ∧ R X ⟨s.t.set d x, b' ++ s.b, ⟨c1, [], s.c.o⟩⟩ σ' w' (a.put (some d) v) ∧ Tr X s.b s.c σ w (b' ++ s.b) ⟨c1, [], s.c.o⟩ σ' w' := by
  have hbl : ∀ n g y, fnd s.b n = some (g, y) → BlkOk X s.b s.c σ w n y := fun n g y hy => (hR.bl n g y hy).2.1
  let X' : Ctx := ⟨w, fun _ => False, fun B => B < w.heap.size⟩
  have E1 : ∀ t B, Vw X s.b σ w t B → Vw X' [] (fun _ => none) w false B := fun t B hv => ⟨hv.1, .inl ⟨rfl, hv.1⟩⟩
  have E2 : ∀ n g B z, n ∉ ([] : List Nat) → fnd s.b n = some (g, z) → σ n = some B → Vw X' [] (fun _ => none) w false B := fun n g B z _ hz hs => by
    have hB := ((hR.bl n g z hz).2.2 B hs).1
    exact ⟨hB, .inl ⟨rfl, hB⟩⟩
  have hent : R X' ⟨[.view false dd], [], ⟨s.c.c + 1, [], 0⟩⟩ (fun _ => none) w ⟨([y].map a.eval).toArray, []⟩ := by
    refine ⟨rfl, ?_, rfl, fun n g x hx => by simp [fnd] at hx, fun n m x y B hn => by simp [fnd] at hn, ⟨Nat.le_refl _, fun _ _ _ => rfl⟩, ⟨rfl, rfl, rfl⟩, fun B h => ⟨h, fun h => h⟩, ?_⟩
    · intro i hi
      have hi : i < 1 := hi
      obtain rfl : i = 0 := by omega
      exact V_of_V2 (V2_of_V1 (V1_of_V0 (mA0_ok hm (V0_evO hR hy trivial) E1 E2 hbl)))
    · intro g k l h
      obtain ⟨h1, h2⟩ := hR.gl g k l h
      obtain ⟨h3, h4⟩ := hR.ro g h1
      refine ⟨Nat.lt_of_lt_of_le h3 hR.fr.1, fun i hi => ?_⟩
      show w.cell? ⟨g, i, none⟩ = _
      rw [cell_of_heap (hR.fr.2 g h3 h4)]
      exact h2 i hi
  refine (hC X' (s.c.c + 1) _ w _ hent).mono ?_
  rintro e w' ⟨v, σ', x, b', c1, rfl, hq, hv, hR', hT'⟩
  obtain ⟨hx, hin⟩ := hQ x b' c1 hq
  have hc1 : s.c.c < c1 := by
    rcases hT'.cc 0 s.c.c (.inl (Nat.lt_succ_self _)) with h | ⟨_, h⟩
    · exact h
    · simp at h
  have hold : ∀ B, B < w.heap.size → w'.heap[B]? = w.heap[B]? := fun B hB => hR'.fr.2 B hB (fun h => h)
  have hsz : w.heap.size ≤ w'.heap.size := hR'.fr.1
  have hnew : ∀ n y B, fnd b' n = some y → σ' n = some B → B < w'.heap.size ∧ w.heap.size ≤ B := fun n y B hn hs => by
    obtain ⟨g, z⟩ := y
    obtain ⟨h1, h2⟩ := (hR'.bl n g z hn).2.2 B hs
    exact ⟨h1, h2.resolve_left (fun h => h)⟩
  have hfresh : ∀ n g y, fnd b' n = some (g, y) → s.c.c < g := fun n g y hn => by
    rcases Nat.lt_or_ge s.c.c g with h | h
    · exact h
    · obtain ⟨⟨z, hz⟩, _⟩ := hT'.lv n g ⟨y, hn⟩ (.inl (show g < s.c.c + 1 by omega))
      simp [fnd] at hz
  let σ2 : Env := fun n => match fnd b' n with | some _ => σ' n | none => σ n
  have s1 : ∀ n y, fnd b' n = some y → σ2 n = σ' n := fun n y h => by simp only [σ2, h]
  have s2 : ∀ n, fnd b' n = none → σ2 n = σ n := fun n h => by simp only [σ2, h]
  have f1 : ∀ n y, fnd b' n = some y → fnd (b' ++ s.b) n = some y := fun n y h => by rw [fnd_app, h]
  have f2 : ∀ n y, fnd (b' ++ s.b) n = some y → fnd b' n = some y ∨ (fnd b' n = none ∧ fnd s.b n = some y) := fun n y h => by
    rw [fnd_app] at h
    cases e : fnd b' n with
    | some z => rw [e] at h; exact .inl h
    | none => rw [e] at h; exact .inr ⟨rfl, h⟩
  have T : Tr X s.b s.c σ w (b' ++ s.b) ⟨c1, [], s.c.o⟩ σ2 w' := by
    have okc : ∀ n g, s.c.ok n g → g ≤ s.c.c := fun n g h => by rcases h with h | ⟨h, _⟩ <;> omega
    refine ⟨fun n g h => .inl (show g < c1 by have := okc n g h; omega), ?_, ?_, ?_⟩
    · rintro n g ⟨z, hz⟩ hok
      rcases f2 n _ hz with h | ⟨h, h'⟩
      · have := hfresh n g z h
        have := okc n g hok
        omega
      · exact ⟨⟨z, h'⟩, s2 n h⟩
    · rintro tag B ⟨hB, hv⟩
      refine ⟨hold B hB, Nat.lt_of_lt_of_le hB hsz, hv.imp id fun ⟨h1, h2⟩ => ⟨h1, ?_⟩⟩
      rintro ⟨n, z, hz, hs⟩
      rcases f2 n _ hz with h | ⟨h, h'⟩
      · rw [s1 n _ h] at hs
        have := (hnew n _ B h hs).2
        omega
      · rw [s2 n h] at hs
        exact h2 ⟨n, z, h', hs⟩
    · rintro n g B ⟨z, hz⟩ hok hs
      rcases f2 n _ hz with h | ⟨h, h'⟩
      · have := hfresh n g z h
        have := okc n g hok
        omega
      · have hB := ((hR.bl n g z h').2.2 B hs).1
        simp only [blockSize, hold B hB]; exact Nat.le_refl _
  have hf : ∀ n y, fnd b' n = some y → fnd (b' ++ s.b) n = some y ∧ σ2 n = σ' n := fun n y h => ⟨f1 n y h, s1 n y h⟩
  have hvx : V2 X (b' ++ s.b) ⟨c1, [], s.c.o⟩ σ2 w' x v := by
    cases x <;> simp only [inX] at hx
    rename_i l
    match l, hx with
    | [x1, x2], hx =>
      obtain ⟨vs, rfl, v1, l1, e1, h1, v2, l2, e2, h2, h3⟩ := hv
      have m : ∀ {x : SV} {v : Value}, inV b' x → V1 X' b' ⟨c1, [], 0⟩ σ' w' x v → V1 X (b' ++ s.b) ⟨c1, [], s.c.o⟩ σ2 w' x v := fun {x v} hi h => by
        have h0 : V0 X' b' ⟨c1, [], 0⟩ σ' w' x v := by cases x <;> simp only [inV] at hi <;> exact h
        exact V1_of_V0 (V0_move (fun _ _ h => h) hf hi h0)
      exact ⟨vs, rfl, v1, l1, e1, m hx.1 h1, v2, l2, e2, m hx.2 h2, h3⟩
  have ht := put_tm (dst := some d) hR.sz (fun i hi => (hR.tm i hi).tr T) (V_of_V2 hvx)
  refine ⟨v, σ2, x, b', c1, rfl, hq, { sz := ht.1, tm := ht.2, df := hR.df, bl := ?_, inj := ?_, fr := ?_, st := ?_, ro := hR.ro, gl := hR.gl }, T⟩
  · intro n g z hz
    have hz : fnd (b' ++ s.b) n = some (g, z) := hz
    rcases f2 n _ hz with h | ⟨h, h'⟩
    · obtain ⟨h1, h2, h3⟩ := hR'.bl n g z h
      refine ⟨h1, Blk_move (X' := X') (c := ⟨c1, [], 0⟩) (c' := ⟨c1, [], s.c.o⟩) (fun _ _ h => h) hf (s1 n _ h) (hin n _ h).1 h2, fun B hB => ?_⟩
      have hB : σ2 n = some B := hB
      rw [s1 n _ h] at hB
      obtain ⟨h4, h5⟩ := hnew n _ B h hB
      exact ⟨h4, .inr (Nat.le_trans hR.fr.1 h5)⟩
    · obtain ⟨h1, h2, h3⟩ := hR.bl n g z h'
      refine ⟨T.cc n g h1, h2.tr T (s2 n h) (fun B hB => hold B (h3 B hB).1), fun B hB => ?_⟩
      have hB : σ2 n = some B := hB
      rw [s2 n h] at hB
      exact ⟨Nat.lt_of_lt_of_le (h3 B hB).1 hsz, (h3 B hB).2⟩
  · intro n m x1 y1 B hn hm hs hs'
    have hn : fnd (b' ++ s.b) n = some x1 := hn
    have hm : fnd (b' ++ s.b) m = some y1 := hm
    have old : ∀ n z, fnd s.b n = some z → σ n = some B → B < w.heap.size := fun n z h hs => by
      obtain ⟨g, z⟩ := z
      exact ((hR.bl n g z h).2.2 B hs).1
    rcases f2 n _ hn with h | ⟨h, h'⟩ <;> rcases f2 m _ hm with k | ⟨k, k'⟩
    · rw [s1 n _ h] at hs; rw [s1 m _ k] at hs'
      exact hR'.inj n m _ _ B h k hs hs'
    · rw [s1 n _ h] at hs; rw [s2 m k] at hs'
      have := (hnew n _ B h hs).2; have := old m _ k' hs'; omega
    · rw [s2 n h] at hs; rw [s1 m _ k] at hs'
      have := (hnew m _ B k hs').2; have := old n _ h' hs; omega
    · rw [s2 n h] at hs; rw [s2 m k] at hs'
      exact hR.inj n m _ _ B h' k' hs hs'
  · refine ⟨Nat.le_trans hR.fr.1 hsz, fun B hB hm => ?_⟩
    rw [hold B (Nat.lt_of_lt_of_le hB hR.fr.1)]
    exact hR.fr.2 B hB hm
  · obtain ⟨h1, h2, h3⟩ := hR'.st
    obtain ⟨h4, h5, h6⟩ := hR.st
    exact ⟨h1.trans h4, h2.trans h5, h3.trans h6⟩

theorem inCF_ops (TO : TabOk P T) {ops : Array Oper} {o : Oper} {rest : List Oper} {k : List Item} {Φ : St → Prop} {f : FuncId} {fn : Func} {y : Operand} {ts : Array TypeId} {n0 g0 seg0 e0 off0 len0 d : Nat} {dd : Data} {Q : SV → List (Nat × Nat × Blk) → Nat → Prop} (n : Nat)
    (hC : ∀ (X : Ctx) (c0 : Nat), InCE P X f [.view false dd] [] c0 Q) (hf : P.funcs[f]? = some fn) (hname : (fn.name == "runtime.NumGoroutine") = false) (hb : fn.body.isSome = true)
    (ho : o.op = .call { callee := .value (.func f), args := #[y], argTypes := ts }) (hg : o.guard = none) (hd : o.dst = some d) (hy : evO s.t y = .sl n0 g0 seg0 e0 off0 len0) (hm : mA0 s.b [] (.sl n0 g0 seg0 e0 off0 len0) (.view false dd))
    (hQ : ∀ x b' c1, Q x b' c1 → inX b' x ∧ (∀ n y, fnd b' n = some y → inB b' y.2 ∧ fnd s.b n = none))
    (h : ∀ x b' c1, Q x b' c1 → absOps P X T ops k Φ (absRun P X T Φ n k) rest ⟨s.t.set d x, b' ++ s.b, ⟨c1, [], s.c.o⟩⟩) : HOps P X ops (o :: rest) k s Φ := by
  intro i hi σ w a hR
  obtain ⟨ho', hrest⟩ := ops_at hi
  have hw : Region.wanted o (yielded ops a.tmps) = true := by simp [Region.wanted, hg]
  rw [List.length_cons, List.range'_succ]
  refine Fins.opCall (f := f) (args := ([y].map a.eval).toArray) (w' := w) ho' hw ?_ ?_
  · simp only [execOp, ho, resolve]
    have e1 : a.eval (.func f) = .func (.func f) #[] #[] := rfl
    have e2 : ([y].map a.eval).toArray = #[y].map a.eval := by simp
    simp [e1, Deferred.ofValue, invoke, run_callFunc hf hb hname, e2]
  · refine (inCF_call (d := d) hR hC hy hm hQ).mono ?_
    rintro e w' ⟨v, σ', x, b', c1, rfl, hq, hR', hT⟩
    exact ⟨v, rfl, by rw [hd]; exact (HOps_go TO n (h x b' c1 hq) (i + 1) hrest).after hR' hT⟩

end

end Go.Proofs.YtdhnjmepgafeiaaDoor.Abs
