/- OWN LIBRARY, part 27: an own slice, told by value from here on; a slice compared with nil. -/
import Derived.Test.YtbnjdnahpnjofaaA26
import Derived.Laws.Cover3
set_option linter.unusedVariables false
set_option linter.unusedSimpArgs false
namespace Go.Proofs.Ytbnjdnahpnjofaa.Abs
open Go

theorem Named_del {b : List (Nat × Nat × Blk)} {σ : Env} {n B : Nat} (h : Named (del b n) σ B) : Named b σ B := by
  obtain ⟨m, x, h1, h2⟩ := h
  rw [fnd_del] at h1
  split at h1
  · cases h1
  · exact ⟨m, x, h1, h2⟩

theorem Tr_del {X : Ctx} {b : List (Nat × Nat × Blk)} {c : Lim} {σ : Env} {w : World} (n : Nat) : Tr X b c σ w (del b n) c σ w := by
  refine ⟨fun _ _ h => h, ?_, fun tag B hv => ⟨rfl, hv.1, hv.2.imp id fun h => ⟨h.1, fun k => h.2 (Named_del k)⟩⟩, fun _ _ _ _ _ _ => Nat.le_refl _⟩
  rintro m g ⟨x, hx⟩ _
  rw [fnd_del] at hx
  split at hx
  · cases hx
  · exact ⟨⟨x, hx⟩, rfl⟩

/-- An own slice of numbers is told by value: nobody writes there any more. -/
theorem R_freeze {X : Ctx} {s : St} {σ : Env} {w : World} {a : Act} {i n g e off len : Nat} {k : IntKind} {l : List Int} (hR : R X s σ w a) (hi : i < s.t.length) (ht : s.t.getD i .any = .sl n g 0 e off len) (hb : fnd s.b n = some (g, .vec (.ints k l))) (he : e = 1) (hl : off + len ≤ l.length) :
    R X ⟨s.t.set i (.view true (.ints k ((l.drop off).take len))), del s.b n, s.c⟩ σ w a := by
  subst he
  have T := Tr_del (X := X) (b := s.b) (c := s.c) (σ := σ) (w := w) n
  obtain ⟨hok, hbk, hB0⟩ := hR.bl n g _ hb
  have hv : V X s.b s.c σ w (s.t.getD i .any) (a.tmps.getD i undef) := hR.tm i hi
  rw [ht] at hv
  obtain ⟨_, hv⟩ := (hv : s.c.ok n g ∧ (Live s.b n g → _))
  obtain ⟨ad, cap, hval, hcap, hpt⟩ := hv ⟨_, hb⟩
  have hdl : ((l.drop off).take len).length = len := by rw [List.length_take, List.length_drop]; omega
  have hnew : V X (del s.b n) s.c σ w (.view true (.ints k ((l.drop off).take len))) (a.tmps.getD i undef) := by
    show IsView (Vw X (del s.b n) σ w) w true (.ints k ((l.drop off).take len)) (a.tmps.getD i undef)
    refine ⟨ad, cap, by rw [hval]; simp only [Data.len]; rw [hdl], by simp only [Data.len]; rw [hdl]; exact hcap, fun h0 => ?_⟩
    simp only [Data.len] at h0
    rw [hdl] at h0
    obtain ⟨B, hs, hadr, _⟩ := hpt (by omega)
    refine ⟨B, 0 + off * 1, hadr, ?_, ?_⟩
    · refine ⟨(hB0 B hs).1, .inr ⟨(hB0 B hs).2, ?_⟩⟩
      rintro ⟨m, x, hm, hs2⟩
      rw [fnd_del] at hm
      split at hm
      · cases hm
      · rename_i hne
        exact hne (hR.inj m n _ _ B hm hb hs2 hs)
    · rcases hbk with ⟨hnone, _⟩ | ⟨B', cs, t, fr, hs', hheap, _, _, hh, _⟩
      · rw [hnone] at hs; cases hs
      · obtain rfl : B = B' := Option.some.inj (hs.symm.trans hs')
        intro p q hp hq
        simp only [Data.len] at hp
        rw [hdl] at hp
        simp only [Data.esz] at hq
        obtain ⟨x, hx, hc⟩ := hh (off + p) q (by simp only [Data.len]; omega) hq
        refine ⟨x, ?_, ?_⟩
        · simp only [Data.esz] at hx ⊢
          rw [← hx]; congr 2; omega
        · have hc : x = .int k (l.getD (off + p) 0) := hc
          show x = .int k (((l.drop off).take len).getD p 0)
          rw [hc]
          simp [List.getD, List.getElem?_take, List.getElem?_drop, hp]
  refine { sz := by simpa using hR.sz, tm := fun j hj => ?_, df := hR.df, bl := ?_, inj := ?_, fr := hR.fr, st := hR.st, ro := hR.ro, gl := hR.gl }
  · have hj : j < s.t.length := by simpa using hj
    by_cases hji : i = j
    · subst hji
      have : (s.t.set i (.view true (.ints k ((l.drop off).take len)))).getD i .any = .view true (.ints k ((l.drop off).take len)) := by simp [List.getD, hi]
      rw [this]; exact hnew
    · have : (s.t.set i (.view true (.ints k ((l.drop off).take len)))).getD j .any = s.t.getD j .any := by simp [List.getD, List.getElem?_set, hji]
      rw [this]; exact (hR.tm j hj).tr T
  · intro m g' x hm
    simp only [fnd_del] at hm
    split at hm
    · cases hm
    · rename_i hne
      obtain ⟨h1, h2, h3⟩ := hR.bl m g' x hm
      exact ⟨h1, h2.tr T rfl (fun _ _ => rfl), h3⟩
  · intro m m' x x' B hm hm' hs hs'
    simp only [fnd_del] at hm hm'
    split at hm
    · cases hm
    · split at hm'
      · cases hm'
      · exact hR.inj m m' x x' B hm hm' hs hs'

/-- Ahead of an operation. -/
theorem freeze_ops {P : Program} {X : Ctx} {ops : Array Oper} {rest : List Oper} {k : List Item} {s : St} {Φ : St → Prop} (i n : Nat) {g off len : Nat} {kd : IntKind} {l : List Int}
    (h : (i < s.t.length ∧ s.t.getD i .any = .sl n g 0 1 off len ∧ fnd s.b n = some (g, .vec (.ints kd l)) ∧ off + len ≤ l.length) ∧ HOps P X ops rest k ⟨s.t.set i (.view true (.ints kd ((l.drop off).take len))), del s.b n, s.c⟩ Φ) : HOps P X ops rest k s Φ := by
  obtain ⟨⟨h1, h2, h3, h4⟩, h⟩ := h
  intro j hj σ w a hR
  exact (h j hj).after (R_freeze hR h1 h2 h3 rfl h4) (Tr_del n)

/-- A row told by value, compared with nil: either answer, yes only if it is empty. -/
theorem nilcmp_ops {P : Program} {T : Tab} {X : Ctx} (TO : TabOk P T) {ops : Array Oper} {o : Oper} {rest : List Oper} {k : List Item} {s : St} {Φ : St → Prop} {t e : TypeId} {x : Operand} {yt : TypeId} {d : Nat} {tag : Bool} {dd : Data}
    (ho : o.op = .binOp .eql t x (.const (.slice none 0 0)) yt) (hg : o.guard = none) (hd : o.dst = some d) (hT : T.ty t = .slice e) (hx : evO s.t x = .view tag dd)
    (h : ∀ r : Bool, (r = true → dd.len = 0) → HOps P X ops rest k ⟨s.t.set d (.bool r), s.b, s.c⟩ Φ) : HOps P X ops (o :: rest) k s Φ := by
  intro i hi σ w a hR
  have ho' : ops[i]? = some o := by
    have := congrArg (fun l : List Oper => l[0]?) hi
    simpa using this
  have hrest : ops.toList.drop (i + 1) = rest := by
    have := congrArg List.tail hi
    simpa using this
  have hv := V_evO hR x
  rw [hx] at hv
  obtain ⟨ad, cap, hval, hcap, hpt⟩ := (hv : IsView (Vw X s.b σ w) w tag dd (a.eval x))
  have ht := TO.ty t
  rw [hT] at ht; simp only [tyOk] at ht
  have e0 : a.eval (.const (.slice none 0 0)) = .slice none 0 0 := rfl
  have hu : (execOp a.eval o).run P w = .ok (.value (.bool ad.isNone)) w := by
    simp [execOp, ho, e0, hval, eqGuard, binOp, run_equal_slice_nil w t e ad dd.len cap ht]
  rw [List.length_cons, List.range'_succ]
  refine Fins.opValue (v := .bool ad.isNone) ho' (by simp [Region.wanted, hg]) (.inl hu) ((h ad.isNone (fun hn => ?_) (i + 1) hrest).after ?_ Tr.refl)
  · cases ad with
    | none => exact Classical.byContradiction fun hc => by obtain ⟨B, o', e1, _⟩ := hpt hc; cases e1
    | some _ => cases hn
  · rw [hd]
    exact R_set hR (dst := some d) (sv := .bool ad.isNone) (show V X s.b s.c σ w (.bool ad.isNone) (.bool ad.isNone) from rfl)

/-- A call that is walked into; what comes behind it stays out of sight until it has come to its end. -/
theorem in_goZ {P : Program} {T : Tab} {X : Ctx} {s : St} (TO : TabOk P T) (off n m : Nat) {ops : Array Oper} {o : Oper} {rest : List Oper} {k : List Item} {Φ : St → Prop} {f : FuncId} {fn : Func} {c : Code} {xs : Array Operand} {ts : Array TypeId} {d : Nat}
    (hf : P.funcs[f]? = some fn) (hname : (fn.name == "runtime.NumGoroutine") = false) (hb : fn.body = some c)
    (ho : o.op = .call { callee := .value (.func f), args := xs, argTypes := ts }) (hd : o.dst = some d) (hg : guardIs ops s.t true o.guard) (hgd : gdPs s.t true xs.toList)
    (h : ∀ Z : St → Prop, (∀ s', inRet T fn.results s.c.o d s.t (fun s' => flats s' d = true ∧ absOps P X T ops k Φ (absRun P X T Φ n k) rest s') s' → Z s') →
      absRun P X T Z m [.code c] ⟨argC s.t xs.toList ++ List.replicate (fn.ntmps - xs.size) .any, s.b, ⟨s.c.c + 1, [], s.c.o + off⟩⟩) :
    HOps P X ops (o :: rest) k s Φ :=
  in_go TO off n m hf hname hb ho hd ⟨hg, hgd, h _ (fun _ h' => h')⟩

/-- A call of a closure that is walked into; what comes behind it stays out of sight until it has come to its end. -/
theorem in_cloZ {P : Program} {T : Tab} {X : Ctx} {s : St} (TO : TabOk P T) (off n m : Nat) {ops : Array Oper} {o : Oper} {rest : List Oper} {k : List Item} {Φ : St → Prop} {f : FuncId} {fn : Func} {c : Code} {y : Operand} {caps : List SV} {xs : Array Operand} {ts : Array TypeId} {d : Nat}
    (hf : P.funcs[f]? = some fn) (hname : (fn.name == "runtime.NumGoroutine") = false) (hb : fn.body = some c)
    (ho : o.op = .call { callee := .value y, args := xs, argTypes := ts }) (hy : ungd (evO s.t y) = .clo (.func f) [] caps) (hd : o.dst = some d) (hg : guardIs ops s.t true o.guard) (hgd : gdPs s.t true (y :: xs.toList))
    (h : ∀ Z : St → Prop, (∀ s', inRet T fn.results s.c.o d s.t (fun s' => flats s' d = true ∧ absOps P X T ops k Φ (absRun P X T Φ n k) rest s') s' → Z s') →
      absRun P X T Z m [.code c] ⟨(argC s.t xs.toList ++ caps) ++ List.replicate (fn.ntmps - (argC s.t xs.toList ++ caps).length) .any, s.b, ⟨s.c.c + 1, [], s.c.o + off⟩⟩) :
    HOps P X ops (o :: rest) k s Φ := by
  refine HOps_inClo TO off ho hy hd hg hf hb hname hgd ((absRun_ok TO m _ _ (h (inRet T fn.results s.c.o d s.t (fun s' => flats s' d = true ∧ absOps P X T ops k Φ (absRun P X T Φ n k) rest s')) (fun _ h' => h'))).mono ?_)
  intro s' hs
  unfold inRet at hs ⊢
  split at hs
  · exact ⟨hs.1, HOps_go TO n hs.2⟩
  · exact ⟨hs.1, hs.2.1, HOps_go TO n hs.2.2⟩
  · exact ⟨hs.1, hs.2.1, hs.2.2.1, HOps_go TO n hs.2.2.2⟩
  · exact ⟨hs.1, hs.2.1, hs.2.2.1, hs.2.2.2.1, HOps_go TO n hs.2.2.2.2⟩
  · exact hs

/-- A loop, one round of it. -/
theorem loop_in {P : Program} {X : Ctx} {c : Code} {k : List Item} {s : St} {Φ : St → Prop} (h : HRun P X (.code c :: .inLoop c :: k) s Φ) : HRun P X (.code (.loop c) :: k) s Φ :=
  fun σ w a hR => Fins.loop (Fins.inLoop (h σ w a hR))

theorem loop_more {P : Program} {X : Ctx} {c : Code} {k : List Item} {s : St} {Φ : St → Prop} (h : HRun P X (.code c :: .inLoop c :: k) s Φ) : HRun P X (.inLoop c :: k) s Φ :=
  fun σ w a hR => Fins.inLoop (h σ w a hR)

/-- A call by its contract; what comes behind it is not begun. -/
theorem callZ_go {P : Program} {X : Ctx} {s : St} {ops : Array Oper} {o : Oper} {rest : List Oper} {k : List Item} {Φ : St → Prop} {f : FuncId} {fn : Func} {xs : Array Operand} {ts : Array TypeId} {d : Nat} {fs rs : List AV}
    (hM : Meets P f fs rs) (hf : P.funcs[f]? = some fn) (hname : (fn.name == "runtime.NumGoroutine") = false) (hb : fn.body.isSome = true)
    (ho : o.op = .call { callee := .value (.func f), args := xs, argTypes := ts }) (hd : o.dst = some d)
    (h : guardIs ops s.t true o.guard ∧ callP s d xs.toList fs rs ∧ HOps P X ops rest k (callS s d xs.toList fs rs) Φ) : HOps P X ops (o :: rest) k s Φ :=
  HOps_call hM ho hd h.1 hf hb hname h.2.1 h.2.2

end Go.Proofs.Ytbnjdnahpnjofaa.Abs
