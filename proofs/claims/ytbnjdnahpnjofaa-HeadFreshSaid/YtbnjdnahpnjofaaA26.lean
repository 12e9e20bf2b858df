/- OWN LIBRARY, part 26: a region that draws its order, with one operation at the end of the free ones that may go at any place of a chain of others. -/
import Derived.Test.YtbnjdnahpnjofaaA25
set_option linter.unusedVariables false
set_option linter.unusedSimpArgs false
namespace Go.Proofs.Ytbnjdnahpnjofaa.Abs
open Go

/-- The operation `oi` at any place among the others, these in the written order. -/
def mixT (P : Program) (X : Ctx) (T : Tab) (ops : Array Oper) (b0 : List (Nat × Nat × Blk)) (Q : St → Prop) (oi : Oper) : List Oper → St → Prop
  | [], s => OpT P X ops b0 (isEff T oi.op) oi s Q
  | o :: rest, s => OpT P X ops b0 (isEff T oi.op) oi s (lexT P X T ops b0 Q (o :: rest)) ∧ OpT P X ops b0 (isEff T o.op) o s (mixT P X T ops b0 Q oi rest)

def mixB (T : Tab) (ops : Array Oper) (m i : Nat) : Nat → Nat → Array Bool → Bool
  | 0, _, listed => (Region.ready .any ops listed == [i]) && lexB T ops m 0 i (listed.setIfInBounds i true)
  | fuel + 1, k, listed => (Region.ready .any ops listed == [k, i]) && lexB T ops m (fuel + 1) k (listed.setIfInBounds i true) && mixB T ops m i fuel (k + 1) (listed.setIfInBounds k true)

def preB (T : Tab) (ops : Array Oper) (m i : Nat) : Nat → Nat → Array Bool → Bool
  | 0, k, listed => mixB T ops m i (i - k) k listed
  | fuel + 1, k, listed => (Region.ready .any ops listed).contains k && freeE T ops listed k && preB T ops m i fuel (k + 1) (listed.setIfInBounds k true)

def mixOk (T : Tab) (ops : Array Oper) (p i : Nat) : Bool := decide (i + 1 ≤ ops.size) && decide (p ≤ i) && tailOk ops (i + 1) && preB T ops (i + 1) i p 0 (Array.replicate ops.size false)

section
variable {P : Program} {T : Tab} {X : Ctx} {ops : Array Oper} {b0 : List (Nat × Nat × Blk)}

theorem anyT_mix {i m : Nat} {Q : St → Prop} {oi : Oper} (ht : tailOk ops m = true) (hi : ops[i]? = some oi) (him : i + 1 = m) : ∀ (l : List Oper) (k : Nat) (listed : Array Bool) (s : St),
    (∀ j, j < l.length → l[j]? = ops[k + j]?) → l.length + k = i → Closed ops listed → mixB T ops m i l.length k listed = true → mixT P X T ops b0 Q oi l s →
    AnyT P X T ops b0 m (fun li s => chainB ops (ops.size - m) m li = true ∧ Q s) (l.length + 1) listed s
  | [], k, listed, s, _, _, hcl, hB, h => by
    simp only [List.length_nil, mixB, Bool.and_eq_true, beq_iff_eq] at hB
    obtain ⟨hr, hB⟩ := hB
    refine ⟨by rw [hr]; simp, fun j hj => ?_⟩
    rw [hr] at hj
    obtain rfl : j = i := by simpa using hj
    refine ⟨oi, hi, OpT.mono (fun s' hs' => ?_) h⟩
    exact anyT_lex (l := []) ht j _ s' (by intro j hj; simp at hj) (by simp; omega) (hcl.set (by rw [hr]; simp)) hB hs'
  | o :: l, k, listed, s, hl, hk, hcl, hB, h => by
    have h0 : ops[k]? = some o := by simpa using (hl 0 (by simp)).symm
    simp only [List.length_cons, mixB, Bool.and_eq_true, beq_iff_eq] at hB
    obtain ⟨⟨hr, hB1⟩, hB2⟩ := hB
    simp only [List.length_cons] at hk
    refine ⟨by rw [hr]; simp, fun j hj => ?_⟩
    rw [hr] at hj
    simp only [List.mem_cons, List.not_mem_nil, or_false] at hj
    rcases hj with rfl | rfl
    · refine ⟨o, h0, OpT.mono (fun s' hs' => ?_) h.2⟩
      refine anyT_mix ht hi him l (j + 1) _ s' (fun q hq => ?_) (by omega) (hcl.set (by rw [hr]; simp)) hB2 hs'
      have := hl (q + 1) (by simp; omega)
      simpa [Nat.add_assoc, Nat.add_comm 1 q] using this
    · refine ⟨oi, hi, OpT.mono (fun s' hs' => ?_) h.1⟩
      exact anyT_lex ht (o :: l) k _ s' hl (by simp; omega) (hcl.set (by rw [hr]; simp)) hB1 hs'

theorem anyT_pre {i m : Nat} {Q : St → Prop} {oi : Oper} {ls : List Oper} (ht : tailOk ops m = true) (hi : ops[i]? = some oi) (him : i + 1 = m) (p : Nat) (hls : ∀ j, j < ls.length → ls[j]? = ops[p + j]?) (hlp : ls.length + p = i) :
    ∀ (l : List Oper) (k : Nat) (listed : Array Bool) (s : St), (∀ j, j < l.length → l[j]? = ops[k + j]?) → l.length + k = p → Closed ops listed → preB T ops m i l.length k listed = true →
      lexT P X T ops b0 (mixT P X T ops b0 Q oi ls) l s → AnyT P X T ops b0 m (fun li s => chainB ops (ops.size - m) m li = true ∧ Q s) (ls.length + 1 + l.length) listed s
  | [], k, listed, s, _, hk, hcl, hB, h => by
    simp only [List.length_nil, Nat.zero_add] at hk
    subst hk
    simp only [List.length_nil, preB] at hB
    rw [show i - k = ls.length by omega] at hB
    exact anyT_mix ht hi him ls k listed s hls hlp hcl hB h
  | o :: l, k, listed, s, hl, hk, hcl, hB, h => by
    have h0 : ops[k]? = some o := by simpa using (hl 0 (by simp)).symm
    simp only [List.length_cons, preB, Bool.and_eq_true] at hB
    obtain ⟨⟨hr, hf⟩, hB'⟩ := hB
    simp only [List.length_cons] at hk
    rw [show ls.length + 1 + (o :: l).length = ls.length + 1 + l.length + 1 by simp; omega]
    refine anyT_first ht h0 (by omega) (ls.length + 1 + l.length) listed s hcl (freeE_spec h0 hf) (by simpa using hr) ?_
    refine OpT.mono (fun s' hs' => anyT_pre ht hi him p hls hlp l (k + 1) _ s' (fun j hj => ?_) (by omega) (hcl.set (by simpa using hr)) hB' hs') h
    have := hl (j + 1) (by simp; omega)
    simpa [Nat.add_assoc, Nat.add_comm 1 j] using this

theorem HRun_mix {id p i : Nat} {oi : Oper} {k : List Item} {s : St} {Φ : St → Prop} (hm : P.follows .mixedOrders = true) (hok : mixOk T ops p i = true) (hi : ops[i]? = some oi)
    (h : lexT P X T ops s.b (mixT P X T ops s.b (fun s' => HOps P X ops (ops.toList.drop (i + 1)) k s' Φ) oi ((ops.toList.drop p).take (i - p))) (ops.toList.take p) ⟨s.t, s.b, ⟨s.c.c + 1, [], s.c.o⟩⟩) :
    HRun P X (.code (.region id ops true) :: k) s Φ := by
  simp only [mixOk, Bool.and_eq_true, decide_eq_true_eq] at hok
  obtain ⟨⟨⟨hle, hpi⟩, ht⟩, hl⟩ := hok
  intro σ w a hR
  refine Fins.region_draw fun t => ?_
  rw [hm]
  have e1 : Region.schedule true ops t = Region.linearise .any ops t := by simp [Region.schedule]
  rw [e1]
  have hlen : (ops.toList.take p).length = p := by simp; omega
  have hlen2 : ((ops.toList.drop p).take (i - p)).length = i - p := by simp; omega
  have h1 := anyT_pre (P := P) (X := X) (b0 := s.b) ht hi rfl p (ls := (ops.toList.drop p).take (i - p)) (fun j hj => by
    rw [hlen2] at hj
    simp [List.getElem?_take, hj]) (by omega) (ops.toList.take p) 0 (Array.replicate ops.size false) _ (fun j hj => by
    rw [hlen] at hj
    simp [List.getElem?_take, hj]) (by omega) Closed.none (by rw [hlen]; exact hl) h
  rw [hlen, hlen2] at h1
  have h2 := anyT_sound (P := P) (X := X) (T := T) (ops := ops) (b0 := s.b) (m := i + 1) (r := ops.size - (i + 1)) (k := k) (Φ := Φ) (Q := fun li s' => chainB ops (ops.size - (i + 1)) (i + 1) li = true ∧ HOps P X ops (ops.toList.drop (i + 1)) k s' Φ) (fun listed s' hq t' => by
    rw [chainB_go hq.1]
    have := hq.2 (i + 1) rfl
    simpa using this) (i - p + 1 + p) t _ ⟨s.t, s.b, ⟨s.c.c + 1, [], s.c.o⟩⟩ SubB.rfl' h1
  rw [show i - p + 1 + p + (ops.size - (i + 1)) = ops.size by omega] at h2
  exact h2.after (s := s) (R_bump (R_drew hR)) (Tr_drew.trans (Tr_bump (s := s)))

/-- A region that draws its order: `p` operations that are free; then `i`, which may go at any place among those from `p` to `i`. -/
theorem draw_mix (TO : TabOk P T) (p i : Nat) {id : Nat} {ops : Array Oper} {oi : Oper} {tl : List Oper} {k : List Item} {s : St} {Φ : St → Prop} (hm : P.follows .mixedOrders = true) (hok : mixOk T ops p i = true) (hi : ops.toList.drop i = oi :: tl)
    (h : absD P X T ops s.b (mixT P X T ops s.b (fun s' => HOps P X ops (ops.toList.drop (i + 1)) k s' Φ) oi ((ops.toList.drop p).take (i - p))) (mixT P X T ops s.b (fun s' => HOps P X ops (ops.toList.drop (i + 1)) k s' Φ) oi ((ops.toList.drop p).take (i - p))) (ops.toList.take p) ⟨s.t, s.b, ⟨s.c.c + 1, [], s.c.o⟩⟩) :
    HRun P X (.code (.region id ops true) :: k) s Φ :=
  HRun_mix hm hok (by
    have := congrArg List.head? hi
    rw [List.head?_drop, List.head?_cons] at this
    rw [← this, Array.getElem?_toList]) (absD_ok TO (fun _ h' => h') _ _ h)

theorem mix_two (TO : TabOk P T) {Q next : St → Prop} (hn : ∀ s, next s → Q s) {oi o : Oper} {rest : List Oper} {s : St} (h1 : absD P X T ops b0 Q next (oi :: o :: rest) s)
    (h2 : absD P X T ops b0 (mixT P X T ops b0 Q oi rest) (mixT P X T ops b0 Q oi rest) [o] s) : mixT P X T ops b0 Q oi (o :: rest) s :=
  ⟨absD_ok TO hn _ _ h1, absD_ok TO (fun _ h' => h') [o] _ h2⟩

theorem mix_one (TO : TabOk P T) {Q next : St → Prop} (hn : ∀ s, next s → Q s) {oi : Oper} {s : St} (h1 : absD P X T ops b0 Q next [oi] s) : mixT P X T ops b0 Q oi [] s :=
  absD_ok TO hn [oi] _ h1

/-- An operation whose guard says yes, taken as if it had none; then on. -/
theorem guard_go (TO : TabOk P T) (n : Nat) {ops : Array Oper} {o : Oper} {rest : List Oper} {k : List Item} {s : St} {Φ : St → Prop}
    (h : guardIs ops s.t true o.guard ∧ match absOp T ops s { o with guard := none } with
      | .go p s' => p ∧ absOps P X T ops k Φ (absRun P X T Φ n k) rest s'
      | .stop => False) : HOps P X ops (o :: rest) k s Φ := by
  obtain ⟨hg, h⟩ := h
  intro i hi σ w a hR
  have ho : ops[i]? = some o := by
    have := congrArg (fun l : List Oper => l[0]?) hi
    simpa using this
  have hrest : ops.toList.drop (i + 1) = rest := by
    have := congrArg List.tail hi
    simpa using this
  have hw : Region.wanted o (yielded ops a.tmps) = true := by
    cases e : o.guard with
    | none => simp [Region.wanted, e]
    | some jw => obtain ⟨j, w'⟩ := jw; rw [e] at hg; simp only [Region.wanted, e]; exact guardOf_ok hR hg
  rw [List.length_cons, List.range'_succ]
  cases e : absOp T ops s { o with guard := none } with
  | stop => rw [e] at h; exact h.elim
  | go p s' =>
    rw [e] at h
    rcases absOp_ok TO hR e h.1 with ⟨_, nx, u, w', σ', hr, hnx, hR', hT⟩ | ⟨hw', _⟩
    · have hr : (execOp a.eval o).run P w = .ok nx w' := hr
      refine Fins.opValue (v := u) ho hw ?_ ((HOps_go TO n h.2 (i + 1) hrest).after hR' hT)
      rcases hnx with rfl | ⟨rfl, rfl⟩
      · exact .inl hr
      · exact .inr ⟨hr, rfl⟩
    · simp [Region.wanted] at hw'

end

end Go.Proofs.Ytbnjdnahpnjofaa.Abs
