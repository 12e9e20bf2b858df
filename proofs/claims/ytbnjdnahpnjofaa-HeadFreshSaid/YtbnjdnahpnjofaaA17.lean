/- OWN LIBRARY, part 17: going on by itself behind a call; loops that are unrolled; a law's last step. -/
import Derived.Test.YtbnjdnahpnjofaaA16
set_option linter.unusedVariables false
set_option linter.unusedSimpArgs false
namespace Go.Proofs.Ytbnjdnahpnjofaa.Abs
open Go

/-- As absRun; loops are gone round, as far as the number reaches. -/
def unrRun (P : Program) (X : Ctx) (T : Tab) (Φ : St → Prop) : Nat → List Item → St → Prop
  | 0, todo, s => HRun P X todo s Φ
  | n + 1, todo, s => match todo with
    | [] => Φ s
    | .code .ret :: _ => Φ s
    | .code .skip :: k => unrRun P X T Φ n k s
    | .inBlock _ :: k => unrRun P X T Φ n k s
    | .code (.seq a b) :: k => unrRun P X T Φ n (.code a :: .code b :: k) s
    | .code (.block id c) :: k => unrRun P X T Φ n (.code c :: .inBlock id :: k) s
    | .code (.loop c) :: k => unrRun P X T Φ n (.code c :: .inLoop c :: k) s
    | .inLoop c :: k => unrRun P X T Φ n (.code c :: .inLoop c :: k) s
    | .code (.exit id) :: k => match exitTo id k with
      | some k' => unrRun P X T Φ n k' s
      | none => HRun P X (.code (.exit id) :: k) s Φ
    | .code (.cond c x y) :: k => match evO s.t c with
      | .bool b => if b = true then unrRun P X T Φ n (.code x :: k) s else unrRun P X T Φ n (.code y :: k) s
      | _ => HRun P X (.code (.cond c x y) :: k) s Φ
    | .code (.region id ops false) :: k => absOps P X T ops k Φ (unrRun P X T Φ n k) ops.toList ⟨s.t, s.b, ⟨s.c.c + 1, [], s.c.o⟩⟩
    | todo => HRun P X todo s Φ

section
variable {P : Program} {T : Tab} {X : Ctx} {s : St} {σ : Env} {w : World} {a : Act}

theorem unrRun_ok (TO : TabOk P T) {Φ : St → Prop} : ∀ (n : Nat) (todo : List Item) (s : St), unrRun P X T Φ n todo s → HRun P X todo s Φ
  | 0, todo, s, h => by simpa only [unrRun] using h
  | n + 1, todo, s, h => by
    unfold unrRun at h
    split at h
    · intro σ w a hR; exact Fins.done ⟨s, σ, h, hR, Tr.refl⟩
    · intro σ w a hR; exact Fins.ret ⟨s, σ, h, hR, Tr.refl⟩
    · intro σ w a hR; exact Fins.skip (unrRun_ok TO n _ s h σ w a hR)
    · intro σ w a hR; exact Fins.inBlock (unrRun_ok TO n _ s h σ w a hR)
    · intro σ w a hR; exact Fins.seq (unrRun_ok TO n _ s h σ w a hR)
    · intro σ w a hR; exact Fins.block (unrRun_ok TO n _ s h σ w a hR)
    · intro σ w a hR; exact Fins.loop (Fins.inLoop (unrRun_ok TO n _ s h σ w a hR))
    · intro σ w a hR; exact Fins.inLoop (unrRun_ok TO n _ s h σ w a hR)
    · rename_i id k
      cases e : exitTo id k with
      | some k' =>
        simp only [e] at h
        intro σ w a hR; exact Fins.exit e (unrRun_ok TO n _ s h σ w a hR)
      | none => simp only [e] at h; exact h
    · rename_i c x y k
      cases e : evO s.t c <;> simp only [e] at h <;> try exact h
      rename_i b
      intro σ w a hR
      have hc := V_evO hR c
      rw [e] at hc
      refine Fins.cond hc ?_
      cases b
      · rw [if_neg (by simp)] at h ⊢; exact unrRun_ok TO n _ s h σ w a hR
      · rw [if_pos rfl] at h ⊢; exact unrRun_ok TO n _ s h σ w a hR
    · exact HRun_region (absOps_ok TO (fun s' h' => unrRun_ok TO n _ s' h') _ _ h)
    · exact h

theorem HOps_go (TO : TabOk P T) (n : Nat) {ops : Array Oper} {rest : List Oper} {k : List Item} {Φ : St → Prop} (h : absOps P X T ops k Φ (absRun P X T Φ n k) rest s) : HOps P X ops rest k s Φ :=
  absOps_ok TO (fun s' h' => absRun_ok TO n _ s' h') _ _ h

theorem HOps_goU (TO : TabOk P T) (n : Nat) {ops : Array Oper} {rest : List Oper} {k : List Item} {Φ : St → Prop} (h : absOps P X T ops k Φ (unrRun P X T Φ n k) rest s) : HOps P X ops rest k s Φ :=
  absOps_ok TO (fun s' h' => unrRun_ok TO n _ s' h') _ _ h

/-- A call by its contract; then on. -/
theorem call_go (TO : TabOk P T) (n : Nat) {ops : Array Oper} {o : Oper} {rest : List Oper} {k : List Item} {Φ : St → Prop} {f : FuncId} {fn : Func} {as : Array Operand} {ts : Array TypeId} {d : Nat} {fs rs : List AV}
    (hM : Meets P f fs rs) (hf : P.funcs[f]? = some fn) (hname : (fn.name == "runtime.NumGoroutine") = false) (hb : fn.body.isSome = true)
    (ho : o.op = .call { callee := .value (.func f), args := as, argTypes := ts }) (hd : o.dst = some d)
    (h : guardIs ops s.t true o.guard ∧ callP s d as.toList fs rs ∧ absOps P X T ops k Φ (absRun P X T Φ n k) rest (callS s d as.toList fs rs)) : HOps P X ops (o :: rest) k s Φ :=
  HOps_call hM ho hd h.1 hf hb hname h.2.1 (HOps_go TO n h.2.2)

/-- A call that is walked into; then on. -/
theorem in_go (TO : TabOk P T) (off n m : Nat) {ops : Array Oper} {o : Oper} {rest : List Oper} {k : List Item} {Φ : St → Prop} {f : FuncId} {fn : Func} {c : Code} {as : Array Operand} {ts : Array TypeId} {d : Nat}
    (hf : P.funcs[f]? = some fn) (hname : (fn.name == "runtime.NumGoroutine") = false) (hb : fn.body = some c)
    (ho : o.op = .call { callee := .value (.func f), args := as, argTypes := ts }) (hd : o.dst = some d)
    (h : guardIs ops s.t true o.guard ∧ gdPs s.t true as.toList ∧ absRun P X T (inRet T fn.results s.c.o d s.t (fun s' => flats s' d = true ∧ absOps P X T ops k Φ (absRun P X T Φ n k) rest s')) m [.code c] ⟨argC s.t as.toList ++ List.replicate (fn.ntmps - as.size) .any, s.b, ⟨s.c.c + 1, [], s.c.o + off⟩⟩) :
    HOps P X ops (o :: rest) k s Φ := by
  refine HOps_in TO off ho hd h.1 hf hb hname h.2.1 ((absRun_ok TO m _ _ h.2.2).mono ?_)
  intro s' hs
  unfold inRet at hs ⊢
  split at hs
  · exact ⟨hs.1, HOps_go TO n hs.2⟩
  · exact ⟨hs.1, hs.2.1, HOps_go TO n hs.2.2⟩
  · exact ⟨hs.1, hs.2.1, hs.2.2.1, HOps_go TO n hs.2.2.2⟩
  · exact ⟨hs.1, hs.2.1, hs.2.2.1, hs.2.2.2.1, HOps_go TO n hs.2.2.2.2⟩
  · exact hs.elim

/-- An operation that is passed by: what it would have told is said, and never was. -/
theorem HOps_skipG (x : SV) {ops : Array Oper} {o : Oper} {rest : List Oper} {k : List Item} {Φ : St → Prop} (hg : guardIs ops s.t false o.guard)
    (hn : HOps P X ops rest k ⟨setD s.t o.dst (.gd false x), s.b, s.c⟩ Φ) : HOps P X ops (o :: rest) k s Φ := by
  intro i hi σ w a hR
  have ho' : ops[i]? = some o := by
    have := congrArg (fun l : List Oper => l[0]?) hi
    simpa using this
  have hrest : ops.toList.drop (i + 1) = rest := by
    have := congrArg List.tail hi
    simpa using this
  have hw : Region.wanted o (yielded ops a.tmps) = false := by
    cases e : o.guard with
    | none => rw [e] at hg; exact absurd hg (by simp [guardIs])
    | some jw => obtain ⟨j, w'⟩ := jw; rw [e] at hg; simp only [Region.wanted, e]; exact guardOf_ok hR hg
  rw [List.length_cons, List.range'_succ]
  exact Fins.opSkip ho' hw ((hn (i + 1) hrest).after (R_set hR ⟨fun h => by simp at h, fun _ => rfl⟩) Tr.refl)

/-- An operation whose guard says no; then on. -/
theorem skip_go (TO : TabOk P T) (n : Nat) (x : SV) {ops : Array Oper} {o : Oper} {rest : List Oper} {k : List Item} {Φ : St → Prop}
    (h : guardIs ops s.t false o.guard ∧ absOps P X T ops k Φ (absRun P X T Φ n k) rest ⟨setD s.t o.dst (.gd false x), s.b, s.c⟩) : HOps P X ops (o :: rest) k s Φ :=
  HOps_skipG x h.1 (HOps_go TO n h.2)

theorem meets_go (TO : TabOk P T) (n : Nat) {f : FuncId} {fn : Func} {c : Code} {args rs : List AV} (hf : P.funcs[f]? = some fn) (hb : fn.body = some c)
    (h : ∀ X, absRun P X T (retP T fn.results rs) n [.code c] ⟨svs 1000 args ++ List.replicate (fn.ntmps - args.length) .any, blks 1000 args, ⟨1, [], 0⟩⟩) : Meets P f args rs :=
  meets_of_run TO hf hb fun X => absRun_ok TO n _ _ (h X)

theorem meets_goU (TO : TabOk P T) (n : Nat) {f : FuncId} {fn : Func} {c : Code} {args rs : List AV} (hf : P.funcs[f]? = some fn) (hb : fn.body = some c)
    (h : ∀ X, unrRun P X T (retP T fn.results rs) n [.code c] ⟨svs 1000 args ++ List.replicate (fn.ntmps - args.length) .any, blks 1000 args, ⟨1, [], 0⟩⟩) : Meets P f args rs :=
  meets_of_run TO hf hb fun X => unrRun_ok TO n _ _ (h X)

/-- A loop, told: at each round's head the state is one of a family; less may be told, fewer blocks. -/
theorem loop_go {c : Code} {k : List Item} {Φ : St → Prop} {α : Type} (I : α → Prop) (S : α → St) (μ : α → Nat) (x0 : α) (h0 : I x0)
    (hs : s.c = (S x0).c ∧ LeT s.t (S x0).t ∧ ∀ n x, fnd (S x0).b n = some x → fnd s.b n = some x)
    (round : ∀ x, I x → (∀ y s', I y → μ y < μ x → s'.c = (S y).c → LeT s'.t (S y).t → (∀ n x, fnd (S y).b n = some x → fnd s'.b n = some x) → HRun P X (.inLoop c :: k) s' Φ) → HRun P X (.code c :: .inLoop c :: k) (S x) Φ) :
    HRun P X (.code (.loop c) :: k) s Φ := by
  have wk : ∀ (s s' : St), s.c = s'.c → LeT s.t s'.t → (∀ n x, fnd s'.b n = some x → fnd s.b n = some x) → HRun P X (.inLoop c :: k) s' Φ → HRun P X (.inLoop c :: k) s Φ := by
    intro s s' h1 h2 h3 h
    refine HRun.weak h2 (HRun.dropB (b := s'.b) h3 ?_)
    rw [h1]; exact h
  refine HRun.loop I S μ x0 h0 (wk _ _ hs.1 hs.2.1 hs.2.2) (fun x hx ih => round x hx (fun y s' hy hlt e1 e2 e3 => wk _ _ e1 e2 e3 (ih y hy hlt)))

end

end Go.Proofs.Ytbnjdnahpnjofaa.Abs
