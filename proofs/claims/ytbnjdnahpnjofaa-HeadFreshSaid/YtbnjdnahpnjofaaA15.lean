/- OWN LIBRARY, part 15: a call, by what its function answers; a function, by the run of its body. -/
import Derived.Test.YtbnjdnahpnjofaaA14
set_option linter.unusedVariables false
set_option linter.unusedSimpArgs false
namespace Go.Proofs.Ytbnjdnahpnjofaa.Abs
open Go

def delL (b : List (Nat × Nat × Blk)) : List Nat → List (Nat × Nat × Blk)
  | [] => b
  | n :: l => delL (del b n) l

theorem fnd_delL : ∀ {l : List Nat} {b : List (Nat × Nat × Blk)} {n : Nat} {x : Nat × Blk}, fnd (delL b l) n = some x → n ∉ l ∧ fnd b n = some x
  | [], b, n, x, h => ⟨by simp, h⟩
  | m :: l, b, n, x, h => by
    obtain ⟨h1, h2⟩ := fnd_delL (l := l) h
    rw [fnd_del] at h2
    split at h2
    · simp at h2
    · rename_i hne
      exact ⟨by simp [hne, h1], h2⟩

def impB (base g : Nat) : Nat → List AV → List (Nat × Nat × Blk) → List (Nat × Nat × Blk)
  | _, [], b => b
  | i, .v _ :: l, b => impB base g (i + 1) l b
  | i, .own d :: l, b => impB base g (i + 1) l (upd b (base + i) g (.vec d))

def impT (base g : Nat) : Nat → List AV → List SV
  | _, [] => []
  | i, .v x :: l => x :: impT base g (i + 1) l
  | i, .own d :: l => .sl (base + i) g 0 d.esz 0 d.len :: impT base g (i + 1) l

def impN (base : Nat) : Nat → List AV → List Nat
  | _, [] => []
  | i, .v _ :: l => impN base (i + 1) l
  | i, .own _ :: l => (base + i) :: impN base (i + 1) l

theorem fnd_impB {base g : Nat} : ∀ {l : List AV} {i : Nat} {b : List (Nat × Nat × Blk)} {m : Nat} {x : Nat × Blk}, fnd (impB base g i l b) m = some x →
    (∃ j d, m = base + (i + j) ∧ l[j]? = some (.own d) ∧ x = (g, .vec d)) ∨ ((∀ j d, l[j]? = some (.own d) → m ≠ base + (i + j)) ∧ fnd b m = some x)
  | [], i, b, m, x, h => .inr ⟨fun j d h => by simp at h, h⟩
  | .v y :: l, i, b, m, x, h => by
    rcases fnd_impB (l := l) (i := i + 1) h with ⟨j, d, h1, h2, h3⟩ | ⟨h1, h2⟩
    · exact .inl ⟨j + 1, d, by omega, by simpa using h2, h3⟩
    · refine .inr ⟨fun j d hj => ?_, h2⟩
      cases j with
      | zero => simp at hj
      | succ j => have := h1 j d (by simpa using hj); omega
  | .own e :: l, i, b, m, x, h => by
    rcases fnd_impB (l := l) (i := i + 1) h with ⟨j, d, h1, h2, h3⟩ | ⟨h1, h2⟩
    · exact .inl ⟨j + 1, d, by omega, by simpa using h2, h3⟩
    · rw [fnd_upd] at h2
      split at h2
      · rename_i hm
        simp only [Option.some.injEq] at h2
        exact .inl ⟨0, e, by omega, rfl, h2.symm⟩
      · rename_i hm
        refine .inr ⟨fun j d hj => ?_, h2⟩
        cases j with
        | zero => omega
        | succ j => have := h1 j d (by simpa using hj); omega

theorem fnd_impB_keep {base g : Nat} : ∀ {l : List AV} {i : Nat} {b : List (Nat × Nat × Blk)} {m : Nat}, m < base + i → fnd (impB base g i l b) m = fnd b m
  | [], i, b, m, h => rfl
  | .v y :: l, i, b, m, h => fnd_impB_keep (l := l) (i := i + 1) (by omega)
  | .own d :: l, i, b, m, h => by
    simp only [impB]
    rw [fnd_impB_keep (l := l) (i := i + 1) (by omega), fnd_upd, if_neg (by omega)]

theorem fnd_impB_own {base g : Nat} : ∀ {l : List AV} {i j : Nat} {b : List (Nat × Nat × Blk)} {d : Data}, l[j]? = some (.own d) → fnd (impB base g i l b) (base + (i + j)) = some (g, .vec d)
  | [], i, j, b, d, h => by simp at h
  | .v y :: l, i, 0, b, d, h => by simp at h
  | .v y :: l, i, j + 1, b, d, h => by
    have := fnd_impB_own (base := base) (g := g) (l := l) (i := i + 1) (j := j) (b := b) (by simpa using h)
    rw [show base + (i + (j + 1)) = base + (i + 1 + j) by omega]; exact this
  | .own e :: l, i, 0, b, d, h => by
    simp only [List.getElem?_cons_zero, Option.some.injEq, AV.own.injEq] at h
    subst h
    simp only [impB]
    rw [fnd_impB_keep (by omega), fnd_upd, if_pos (by omega)]
  | .own e :: l, i, j + 1, b, d, h => by
    have := fnd_impB_own (base := base) (g := g) (l := l) (i := i + 1) (j := j) (b := upd b (base + i) g (.vec e)) (by simpa using h)
    rw [show base + (i + (j + 1)) = base + (i + 1 + j) by omega]; exact this

theorem mem_impN {base : Nat} : ∀ {l : List AV} {i j : Nat} {d : Data}, l[j]? = some (.own d) → base + (i + j) ∈ impN base i l
  | [], i, j, d, h => by simp at h
  | .v y :: l, i, 0, d, h => by simp at h
  | .v y :: l, i, j + 1, d, h => by
    have := mem_impN (base := base) (l := l) (i := i + 1) (j := j) (by simpa using h)
    rw [show base + (i + (j + 1)) = base + (i + 1 + j) by omega]; exact this
  | .own e :: l, i, 0, d, h => by simp [impN]
  | .own e :: l, i, j + 1, d, h => by
    have := mem_impN (base := base) (l := l) (i := i + 1) (j := j) (by simpa using h)
    rw [show base + (i + (j + 1)) = base + (i + 1 + j) by omega]
    exact List.mem_cons_of_mem _ this

def packS : List SV → SV
  | [x] => x
  | l => .tup l

def allNotIn (d : List Nat) : List Nat → Prop
  | [] => True
  | n :: l => notIn d n ∧ allNotIn d l

theorem allNotIn_ok {d : List Nat} : ∀ {l : List Nat}, allNotIn d l → ∀ n, n ∈ l → n ∉ d
  | [], _, n, h => by simp at h
  | m :: l, h, n, hn => by
    rcases List.mem_cons.1 hn with rfl | hn
    · exact notIn_ok h.1
    · exact allNotIn_ok h.2 n hn

/-- The names of what a call answers. -/
def nm (d : Nat) : Nat := 10000 + 16 * d

def argS (t : List SV) (as : List Operand) : List SV := as.map fun x => unc (ungd (evO t x))

def argC (t : List SV) (as : List Operand) : List SV := as.map fun x => ungd (evO t x)

def callP (s : St) (d : Nat) (as : List Operand) (fs rs : List AV) : Prop :=
  gdPs s.t true as ∧ mAs s.b (ownN (argS s.t as) fs) (argS s.t as) fs ∧ nodup (ownN (argS s.t as) fs) ∧ bares rs = true ∧ allNotIn s.c.d (impN (nm (s.c.o + d)) 0 rs)

def callS (s : St) (d : Nat) (as : List Operand) (fs rs : List AV) : St :=
  ⟨s.t.set d (packS (impT (nm (s.c.o + d)) s.c.c 0 rs)), impB (nm (s.c.o + d)) s.c.c 0 rs (delL s.b (ownN (argS s.t as) fs)), ⟨s.c.c, impN (nm (s.c.o + d)) 0 rs ++ s.c.d, s.c.o⟩⟩

theorem mAs_len {b : List (Nat × Nat × Blk)} {own : List Nat} : ∀ {xs : List SV} {fs : List AV}, mAs b own xs fs → xs.length = fs.length
  | [], [], _ => rfl
  | x :: xs, y :: fs, h => by simp [mAs_len h.2]
  | [], _ :: _, h => h.elim
  | _ :: _, [], h => h.elim

theorem mAs_get {b : List (Nat × Nat × Blk)} {own : List Nat} : ∀ {xs : List SV} {fs : List AV} {j : Nat} {y : AV}, mAs b own xs fs → fs[j]? = some y → ∃ x, xs[j]? = some x ∧ mA b own x y
  | [], [], j, y, _, h => by simp at h
  | x :: xs, z :: fs, 0, y, h, e => by simp only [List.getElem?_cons_zero, Option.some.injEq] at e; subst e; exact ⟨x, rfl, h.1⟩
  | x :: xs, z :: fs, j + 1, y, h, e => by
    obtain ⟨x', h1, h2⟩ := mAs_get (j := j) h.2 (by simpa using e)
    exact ⟨x', by simpa using h1, h2⟩
  | [], _ :: _, _, _, h, _ => h.elim
  | _ :: _, [], _, _, h, _ => h.elim

theorem mem_ownN : ∀ {xs : List SV} {fs : List AV} {n : Nat}, n ∈ ownN xs fs → ∃ (j g seg e off len : Nat) (d : Data), xs[j]? = some (SV.sl n g seg e off len) ∧ fs[j]? = some (AV.own d)
  | [], fs, n, h => by cases fs <;> simp [ownN] at h
  | x :: xs, [], n, h => by cases x <;> simp [ownN] at h
  | x :: xs, y :: fs, n, h => by
    have rc : n ∈ ownN xs fs → ∃ (j g seg e off len : Nat) (d : Data), (x :: xs)[j]? = some (SV.sl n g seg e off len) ∧ (y :: fs)[j]? = some (AV.own d) := fun h => by
      obtain ⟨j, g, seg, e, off, len, d, h1, h2⟩ := mem_ownN h
      exact ⟨j + 1, g, seg, e, off, len, d, by simpa using h1, by simpa using h2⟩
    cases x <;> cases y <;> try (exact rc (by simpa only [ownN] using h))
    simp only [ownN, List.mem_cons] at h
    rcases h with rfl | h
    · exact ⟨0, _, _, _, _, _, _, rfl, rfl⟩
    · exact rc h

theorem own_inj : ∀ {xs : List SV} {fs : List AV} {j j' n g seg e off len g' seg' e' off' len' : Nat} {d d' : Data}, nodup (ownN xs fs) → xs[j]? = some (.sl n g seg e off len) → fs[j]? = some (.own d) → xs[j']? = some (.sl n g' seg' e' off' len') → fs[j']? = some (.own d') → j = j'
  | [], fs, j, j', n, g, seg, e, off, len, g', seg', e', off', len', d, d', h, h1, h2, h3, h4 => by simp at h1
  | x :: xs, [], j, j', n, g, seg, e, off, len, g', seg', e', off', len', d, d', h, h1, h2, h3, h4 => by simp at h2
  | x :: xs, y :: fs, j, j', n, g, seg, e, off, len, g', seg', e', off', len', d, d', h, h1, h2, h3, h4 => by
    have mem : ∀ {xs : List SV} {fs : List AV} {j n g seg e off len : Nat} {d : Data}, xs[j]? = some (.sl n g seg e off len) → fs[j]? = some (.own d) → n ∈ ownN xs fs := by
      intro xs
      induction xs with
      | nil => intro fs j n g seg e off len d h _; simp at h
      | cons x xs ih =>
        intro fs j n g seg e off len d h h'
        cases fs with
        | nil => simp at h'
        | cons y fs =>
          cases j with
          | zero =>
            simp only [List.getElem?_cons_zero, Option.some.injEq] at h h'
            subst h; subst h'; simp [ownN]
          | succ j =>
            have := ih (fs := fs) (j := j) (by simpa using h) (by simpa using h')
            cases x <;> cases y <;> simp only [ownN, List.mem_cons] <;> first | exact this | exact .inr this
    have tail : nodup (ownN xs fs) := by
      cases x <;> cases y <;> simp only [ownN, nodup] at h <;> first | exact h | exact h.2
    cases j with
    | zero =>
      cases j' with
      | zero => rfl
      | succ j' =>
        exfalso
        simp only [List.getElem?_cons_zero, Option.some.injEq] at h1 h2
        subst h1; subst h2
        simp only [ownN, nodup] at h
        exact notIn_ok h.1 (mem (xs := xs) (fs := fs) (j := j') (by simpa using h3) (by simpa using h4))
    | succ j =>
      cases j' with
      | zero =>
        exfalso
        simp only [List.getElem?_cons_zero, Option.some.injEq] at h3 h4
        subst h3; subst h4
        simp only [ownN, nodup] at h
        exact notIn_ok h.1 (mem (xs := xs) (fs := fs) (j := j) (by simpa using h1) (by simpa using h2))
      | succ j' =>
        rw [own_inj (xs := xs) (fs := fs) (j := j) (j' := j') tail (by simpa using h1) (by simpa using h2) (by simpa using h3) (by simpa using h4)]

section
variable {P : Program} {X : Ctx} {s : St} {σ : Env} {w : World} {a : Act}

theorem evals {as : List Operand} (hR : R X s σ w a) (hg : gdPs s.t true as) {j : Nat} {x : SV} (h : (argS s.t as)[j]? = some x) : ∃ v, (as.map a.eval)[j]? = some v ∧ V2 X s.b s.c σ w x v := by
  simp only [argS, List.getElem?_map] at h
  cases e : as[j]? with
  | none => simp [e] at h
  | some q =>
    simp only [e, Option.map_some, Option.some.injEq] at h
    subst h
    exact ⟨a.eval q, by simp [e], V2_unc (V_ungd (V_evO hR q) (gdPs_mem hg q (List.mem_of_getElem? e)) rfl)⟩

theorem evalsC {as : List Operand} (hR : R X s σ w a) (hg : gdPs s.t true as) {j : Nat} {x : SV} (h : (argC s.t as)[j]? = some x) : ∃ v, (as.map a.eval)[j]? = some v ∧ V2 X s.b s.c σ w x v := by
  simp only [argC, List.getElem?_map] at h
  cases e : as[j]? with
  | none => simp [e] at h
  | some q =>
    simp only [e, Option.map_some, Option.some.injEq] at h
    subst h
    exact ⟨a.eval q, by simp [e], V_ungd (V_evO hR q) (gdPs_mem hg q (List.mem_of_getElem? e)) rfl⟩

theorem bares_get : ∀ {l : List AV} {j : Nat} {y : AV}, bares l = true → l[j]? = some y → bare y = true
  | [], j, y, _, h => by simp at h
  | x :: l, 0, y, h, e => by simp only [List.getElem?_cons_zero, Option.some.injEq] at e; subst e; simp only [bares, Bool.and_eq_true] at h; exact h.1
  | x :: l, j + 1, y, h, e => by simp only [bares, Bool.and_eq_true] at h; exact bares_get h.2 (by simpa using e)

theorem impT_all {X : Ctx} {b : List (Nat × Nat × Blk)} {c : Lim} {σ : Env} {w : World} {base g : Nat} : ∀ {rs : List AV} {i : Nat} {vs : List Value}, vs.length = rs.length →
    (∀ (j : Nat) (y : AV) (v : Value), rs[j]? = some y → vs[j]? = some v → V1 X b c σ w (match y with | AV.v x => x | AV.own d => SV.sl (base + (i + j)) g 0 d.esz 0 d.len) v) → All1 X b c σ w (impT base g i rs) vs
  | [], i, vs, hl, _ => List.eq_nil_of_length_eq_zero hl
  | y :: rs, i, [], hl, _ => by simp at hl
  | y :: rs, i, v :: vs, hl, h => by
    have h0 := h 0 y v rfl rfl
    have hr : All1 X b c σ w (impT base g (i + 1) rs) vs := impT_all (by simpa using hl) (fun j z u h1 h2 => by
      have := h (j + 1) z u (by simpa using h1) (by simpa using h2)
      rw [show i + 1 + j = i + (j + 1) by omega]; exact this)
    cases y
    · exact ⟨v, vs, rfl, h0, hr⟩
    · exact ⟨v, vs, rfl, h0, hr⟩

theorem pack_ok {X : Ctx} {b : List (Nat × Nat × Blk)} {c : Lim} {σ : Env} {w : World} {l : List SV} {vs : List Value} (h : All1 X b c σ w l vs) : V2 X b c σ w (packS l) (pack vs) := by
  match l, h with
  | [], h => rw [show vs = [] from h]; exact ⟨#[], rfl, rfl⟩
  | [x], h =>
    obtain ⟨v, vs', rfl, h1, h2⟩ := h
    rw [show vs' = [] from h2]
    exact V2_of_V1 h1
  | x :: y :: l, h =>
    obtain ⟨v, vs', rfl, h1, u, vs'', rfl, h2, h3⟩ := h
    exact ⟨_, rfl, v, _, rfl, h1, u, _, rfl, h2, h3⟩

theorem call_R (hR : R X s σ w a) {f : FuncId} {as : List Operand} {fs rs : List AV} {d : Nat} (hM : Meets P f fs rs) (hp : callP s d as fs rs) :
    Calls P f (as.map a.eval).toArray w fun e w' => ∃ v σ', e = .returned v ∧ R X (callS s d as fs rs) σ' w' (a.put (some d) v) ∧ Tr X s.b s.c σ w (callS s d as fs rs).b (callS s d as fs rs).c σ' w' := by
  obtain ⟨hgd, hm, hnd, hbare, hnew⟩ := hp
  have hbl : ∀ n g y, fnd s.b n = some (g, y) → BlkOk X s.b s.c σ w n y := fun n g y hy => (hR.bl n g y hy).2.1
  generalize hxs : argS s.t as = xs at hm hnd
  have hown : ∀ n, n ∈ ownN xs fs → ∃ g z, fnd s.b n = some (g, z) := by
    intro n hn
    obtain ⟨j, g, seg, e, off, len, dd, h1, h2⟩ := mem_ownN hn
    obtain ⟨x, h3, h4⟩ := mAs_get hm h2
    rw [h1] at h3
    simp only [Option.some.injEq] at h3
    subst h3
    simp only [mA] at h4
    cases eb : blkAt s.b n g with
    | none => simp [eb] at h4
    | some z => exact ⟨g, z, blkAt_fnd eb⟩
  let mt' : Nat → Prop := fun B => ∃ n, n ∈ ownN xs fs ∧ σ n = some B
  let X' : Ctx := ⟨w, mt', fun B => B < w.heap.size ∧ ¬ mt' B⟩
  let σ1 : Env := fun m => if 1000 ≤ m then (match xs[m - 1000]? with | some (.sl n _ _ _ _ _) => σ n | _ => none) else none
  have notVw : ∀ t B, Vw X s.b σ w t B → ¬ mt' B := by
    rintro t B hv ⟨n, hn, hs⟩
    obtain ⟨g, z, hz⟩ := hown n hn
    rcases hv.2 with ⟨_, h⟩ | ⟨_, h⟩
    · obtain ⟨h1, h2⟩ := hR.ro B h
      rcases ((hR.bl n g z hz).2.2 B hs).2 with h3 | h3
      · exact h2 h3
      · omega
    · exact h ⟨n, _, hz, hs⟩
  have E1 : ∀ t B, Vw X s.b σ w t B → Vw X' (blks 1000 fs) σ1 w false B := fun t B hv => ⟨hv.1, .inl ⟨rfl, hv.1, notVw t B hv⟩⟩
  have E2 : ∀ n g B z, n ∉ ownN xs fs → fnd s.b n = some (g, z) → σ n = some B → Vw X' (blks 1000 fs) σ1 w false B := by
    intro n g B z hn hz hs
    have hB := ((hR.bl n g z hz).2.2 B hs).1
    refine ⟨hB, .inl ⟨rfl, hB, ?_⟩⟩
    rintro ⟨m, hm', hs'⟩
    obtain ⟨g', z', hz'⟩ := hown m hm'
    exact hn (hR.inj n m _ _ B hz hz' hs hs' ▸ hm')
  have hlen : as.length = fs.length := by rw [← mAs_len hm, ← hxs]; simp [argS]
  have hσ1 : ∀ j, σ1 (1000 + j) = (match xs[j]? with | some (.sl n _ _ _ _ _) => σ n | _ => none) := by
    intro j
    simp only [σ1]
    rw [if_pos (by omega), show 1000 + j - 1000 = j by omega]
  have hgl : ∀ g k l, GT g = some (k, l) → X'.ro g ∧ ∀ i, i < l.length → w.cell? ⟨g, i, none⟩ = some (.int k (l.getD i 0)) := by
    intro g k l h
    obtain ⟨h1, h2⟩ := hR.gl g k l h
    obtain ⟨h3, h4⟩ := hR.ro g h1
    refine ⟨⟨Nat.lt_of_lt_of_le h3 hR.fr.1, ?_⟩, fun i hi => ?_⟩
    · rintro ⟨n, hn, hs⟩
      obtain ⟨g', z, hz⟩ := hown n hn
      rcases ((hR.bl n g' z hz).2.2 g hs).2 with h5 | h5
      · exact h4 h5
      · omega
    · rw [cell_of_heap (hR.fr.2 g h3 h4)]
      exact h2 i hi
  -- the callee's begin
  have hentry : R X' ⟨svs 1000 fs, blks 1000 fs, ⟨1, [], 0⟩⟩ σ1 w ⟨(as.map a.eval).toArray, []⟩ := by
    refine ⟨by simp [svs_length, hlen], ?_, rfl, ?_, ?_, ⟨Nat.le_refl _, fun _ _ _ => rfl⟩, ⟨rfl, rfl, rfl⟩, fun B h => h, hgl⟩
    · intro j hj
      rw [svs_length] at hj
      obtain ⟨y, hy⟩ : ∃ y, fs[j]? = some y := ⟨fs[j], by simp [hj]⟩
      obtain ⟨x, hx, hma⟩ := mAs_get hm hy
      obtain ⟨v, hv, hV⟩ := evals hR hgd (by rw [hxs]; exact hx)
      have e1 : (svs 1000 fs).getD j .any = y.sv (1000 + j) := by simp [List.getD, svs_get, hy]
      have e2 : (as.map a.eval).toArray.getD j undef = v := by
        have : (as.map a.eval).toArray[j]? = some v := by rw [List.getElem?_toArray]; exact hv
        rw [Array.getD_eq_getD_getElem?, this]; rfl
      show V X' (blks 1000 fs) ⟨1, [], 0⟩ σ1 w ((svs 1000 fs).getD j .any) ((as.map a.eval).toArray.getD j undef)
      rw [e1, e2]
      cases y with
      | v y =>
        refine V_of_V2 (V2_of_V1 ?_)
        have gen : mA0 s.b (ownN xs fs) x y → V0 X s.b s.c σ w x v → V1 X' (blks 1000 fs) ⟨1, [], 0⟩ σ1 w y v := fun h1 h2 => V1_of_V0 (mA0_ok h1 h2 E1 E2 hbl)
        cases x <;> cases y <;> simp only [mA] at hma <;> (try (exact gen hma hV)) <;> try (simp only [mA0, mB0] at hma; done)
        case arr.arr => obtain ⟨rfl, rfl, rfl⟩ := hma; exact hV
        case agg.agg l l' =>
          obtain ⟨cs, rfl, hcs⟩ := hV
          exact ⟨cs, rfl, mAl_ok E1 E2 hbl hma hcs⟩
      | own dd =>
        refine ⟨.inl Nat.zero_lt_one, fun _ => ?_⟩
        rw [hσ1, hx]
        cases x <;> simp only [mA] at hma
        case nil =>
          rw [show v = _ from hV]
          exact ⟨none, 0, by rw [hma], by omega, fun h => absurd rfl h⟩
        case sl n g seg e off len =>
          cases eb : blkAt s.b n g <;> simp only [eb] at hma
          rename_i bk
          cases bk <;> simp only at hma
          obtain ⟨h1, rfl, rfl, rfl, rfl⟩ := hma
          obtain ⟨_, hl⟩ := hV
          exact hl (blkAt_live eb)
    · intro n g x hx
      obtain ⟨j, dd, rfl, hy, hx'⟩ := fnd_blks hx
      simp only [Prod.mk.injEq] at hx'
      obtain ⟨rfl, rfl⟩ := hx'
      refine ⟨.inl Nat.zero_lt_one, ?_⟩
      obtain ⟨x, hx2, hma⟩ := mAs_get hm hy
      show BlkOk X' (blks 1000 fs) ⟨1, [], 0⟩ σ1 w (1000 + j) (.vec dd) ∧ ∀ B, σ1 (1000 + j) = some B → B < w.heap.size ∧ (mt' B ∨ w.heap.size ≤ B)
      simp only [BlkOk, hσ1, hx2]
      cases x <;> simp only [mA] at hma
      case nil => exact ⟨.inl ⟨rfl, hma⟩, fun B hB => by simp at hB⟩
      case sl n g seg e off len =>
        cases eb : blkAt s.b n g <;> simp only [eb] at hma
        rename_i bk
        cases bk <;> simp only at hma
        obtain ⟨rfl, _⟩ := hma
        have hfnd := blkAt_fnd eb
        have hmem : n ∈ ownN xs fs := by
          have : ∀ {xs : List SV} {fs : List AV} {j : Nat} {dd : Data}, xs[j]? = some (.sl n g seg e off len) → fs[j]? = some (.own dd) → n ∈ ownN xs fs := by
            intro xs
            induction xs with
            | nil => intro fs j dd h _; simp at h
            | cons x xs ih =>
              intro fs j dd h h'
              cases fs with
              | nil => simp at h'
              | cons y fs =>
                cases j with
                | zero =>
                  simp only [List.getElem?_cons_zero, Option.some.injEq] at h h'
                  subst h; subst h'; simp [ownN]
                | succ j =>
                  have := ih (fs := fs) (j := j) (by simpa using h) (by simpa using h')
                  cases x <;> cases y <;> simp only [ownN, List.mem_cons] <;> first | exact this | exact .inr this
          exact this hx2 hy
        refine ⟨?_, fun B hB => ⟨((hR.bl n g _ hfnd).2.2 B hB).1, .inl ⟨n, hmem, hB⟩⟩⟩
        rcases hbl n g _ hfnd with ⟨h1, h2⟩ | ⟨B, cs, ty, fr, h1, h2, h3, h4, h5, h6⟩
        · exact .inl ⟨h1, by rw [lowD_len]; exact h2⟩
        · exact .inr ⟨B, cs, ty, fr, h1, h2, h3, by rw [lowD_len, lowD_esz]; exact h4, low_holds h5 E1, h6.low⟩
    · intro n m x y B hx hy hs1 hs2
      obtain ⟨j, dd, rfl, hj, _⟩ := fnd_blks hx
      obtain ⟨j', dd', rfl, hj', _⟩ := fnd_blks hy
      obtain ⟨x1, hx1, hm1⟩ := mAs_get hm hj
      obtain ⟨x2, hx2, hm2⟩ := mAs_get hm hj'
      rw [hσ1, hx1] at hs1
      rw [hσ1, hx2] at hs2
      cases x1 <;> simp only [reduceCtorEq] at hs1
      cases x2 <;> simp only [reduceCtorEq] at hs2
      rename_i n1 g1 _ _ _ _ n2 g2 _ _ _ _
      simp only [mA] at hm1 hm2
      cases eb1 : blkAt s.b n1 g1 <;> simp only [eb1] at hm1
      cases eb2 : blkAt s.b n2 g2 <;> simp only [eb2] at hm2
      have := hR.inj n1 n2 _ _ B (blkAt_fnd eb1) (blkAt_fnd eb2) hs1 hs2
      subst this
      rw [own_inj hnd hx1 hj hx2 hj']
  refine (hM X' σ1 _ hentry).mono ?_
  rintro e w' ⟨vs, σ2, rfl, hR2⟩
  have hvl : vs.length = rs.length := by have := hR2.sz; simpa [svs_length] using this
  let base := nm (s.c.o + d)
  let σ3 : Env := fun m => if base ≤ m then (match rs[m - base]? with | some (.own _) => σ2 (m - base) | _ => σ m) else σ m
  have hσ3 : ∀ j dd, rs[j]? = some (.own dd) → σ3 (base + j) = σ2 j := by
    intro j dd h
    simp only [σ3]
    rw [if_pos (by omega), show base + j - base = j by omega, h]
  have hσ3' : ∀ m, (∀ j dd, rs[j]? = some (.own dd) → m ≠ base + (0 + j)) → σ3 m = σ m := by
    intro m h
    simp only [σ3]
    split
    · rename_i hle
      cases e : rs[m - base]? with
      | none => rfl
      | some y =>
        cases y with
        | v _ => rfl
        | own dd => exact absurd (by omega) (h (m - base) dd e)
    · rfl
  let b3 := impB base s.c.c 0 rs (delL s.b (ownN xs fs))
  let c3 : Lim := ⟨s.c.c, impN base 0 rs ++ s.c.d, s.c.o⟩
  have hb3 : ∀ m x, fnd b3 m = some x → (∃ j dd, m = base + j ∧ rs[j]? = some (.own dd) ∧ x = (s.c.c, .vec dd) ∧ σ3 m = σ2 j) ∨ (σ3 m = σ m ∧ m ∉ ownN xs fs ∧ fnd s.b m = some x) := by
    intro m x h
    rcases fnd_impB h with ⟨j, dd, h1, h2, h3⟩ | ⟨h1, h2⟩
    · exact .inl ⟨j, dd, by omega, h2, h3, by rw [h1, Nat.zero_add]; exact hσ3 j dd h2⟩
    · obtain ⟨h3, h4⟩ := fnd_delL h2
      exact .inr ⟨hσ3' m h1, h3, h4⟩
  have hold : ∀ B, B < w.heap.size → ¬ mt' B → w'.heap[B]? = w.heap[B]? := fun B h1 h2 => hR2.fr.2 B h1 h2
  have hnmt : ∀ m g z B, m ∉ ownN xs fs → fnd s.b m = some (g, z) → σ m = some B → B < w.heap.size ∧ ¬ mt' B := by
    intro m g z B h1 h2 h3
    refine ⟨((hR.bl m g z h2).2.2 B h3).1, ?_⟩
    rintro ⟨n, hn, hs⟩
    obtain ⟨g', z', hz'⟩ := hown n hn
    exact h1 (hR.inj m n _ _ B h2 hz' h3 hs ▸ hn)
  have hok3 : ∀ n g, s.c.ok n g → c3.ok n g := fun n g h => h.imp id fun ⟨h1, h2⟩ => ⟨h1, List.mem_append_right _ h2⟩
  have hsz2 : w.heap.size ≤ w'.heap.size := hR2.fr.1
  have T3 : Tr X s.b s.c σ w b3 c3 σ3 w' := by
    refine ⟨hok3, ?_, ?_, ?_⟩
    · rintro m g ⟨z, hz⟩ hok
      rcases hb3 m _ hz with ⟨j, dd, rfl, h2, h3, _⟩ | ⟨h1, _, h3⟩
      · exfalso
        simp only [Prod.mk.injEq] at h3
        have hmem := mem_impN (base := base) (l := rs) (i := 0) h2
        rw [Nat.zero_add] at hmem
        have hni := allNotIn_ok hnew _ hmem
        rw [h3.1] at hok
        exact Lim.not_new hni hok
      · exact ⟨⟨z, h3⟩, h1⟩
    · intro tag B hv
      have hnm := notVw tag B hv
      refine ⟨hold B hv.1 hnm, Nat.lt_of_lt_of_le hv.1 hsz2, ?_⟩
      rcases hv.2 with h | ⟨h1, h2⟩
      · exact .inl h
      · refine .inr ⟨h1, ?_⟩
        rintro ⟨m, z, hz, hs⟩
        rcases hb3 m _ hz with ⟨j, dd, rfl, h3, _, h4⟩ | ⟨h3, h4, h5⟩
        · rw [h4] at hs
          have := (hR2.bl j 0 (.vec dd) (by have := fnd_blks_own (i := 0) h3; rwa [Nat.zero_add] at this)).2.2 B hs
          rcases this.2 with h6 | h6
          · exact hnm h6
          · exact absurd hv.1 (Nat.not_lt.2 h6)
        · rw [h3] at hs
          exact h2 ⟨m, z, h5, hs⟩
    · rintro m g B ⟨z, hz⟩ hok hs
      rcases hb3 m _ hz with ⟨j, dd, rfl, h2, h3, _⟩ | ⟨h1, h4, h3⟩
      · exfalso
        simp only [Prod.mk.injEq] at h3
        have hmem := mem_impN (base := base) (l := rs) (i := 0) h2
        rw [Nat.zero_add] at hmem
        have hni := allNotIn_ok hnew _ hmem
        rw [h3.1] at hok
        exact Lim.not_new hni hok
      · obtain ⟨h5, h6⟩ := hnmt m g z B h4 h3 hs
        simp only [blockSize, hold B h5 h6]; exact Nat.le_refl _
  have hVw : ∀ B, Vw X' (blks 0 rs) σ2 w' true B → Vw X b3 σ3 w' true B := by
    intro B hv
    rcases hv.2 with ⟨h, _⟩ | ⟨h1, h2⟩
    · simp at h
    · have hin : X.mt B ∨ X.w0.heap.size ≤ B := by
        rcases h1 with ⟨n, hn, hs1⟩ | h1
        · obtain ⟨g, z, hz⟩ := hown n hn
          exact ((hR.bl n g z hz).2.2 B hs1).2
        · exact .inr (Nat.le_trans hR.fr.1 h1)
      refine ⟨hv.1, .inr ⟨hin, ?_⟩⟩
      rintro ⟨m, z, hz, hs⟩
      rcases hb3 m _ hz with ⟨j, dd, rfl, h3, _, h4⟩ | ⟨h3, h4, h5⟩
      · rw [h4] at hs
        exact h2 ⟨j, _, by have := fnd_blks_own (i := 0) h3; rwa [Nat.zero_add] at this, hs⟩
      · rw [h3] at hs
        rcases h1 with ⟨n, hn, hs1⟩ | h1
        · obtain ⟨g', z', hz'⟩ := hown n hn
          exact h4 (hR.inj m n _ _ B h5 hz' hs hs1 ▸ hn)
        · have h6 := ((hR.bl m z.1 z.2 h5).2.2 B hs).1
          exact absurd h6 (Nat.not_lt.2 h1)
  refine ⟨pack vs, σ3, rfl, ?_⟩
  have hval : V X b3 c3 σ3 w' (packS (impT base s.c.c 0 rs)) (pack vs) := by
    refine V_of_V2 (pack_ok (impT_all hvl ?_))
    intro j y v hy hv
    have hj : j < (svs 0 rs).length := by
      rw [svs_length]
      rcases Nat.lt_or_ge j rs.length with h | h
      · exact h
      · simp [List.getElem?_eq_none h] at hy
    have h1 := hR2.tm j hj
    have e1 : (svs 0 rs).getD j .any = y.sv (0 + j) := by simp [List.getD, svs_get, hy]
    have e2 : vs.toArray.getD j undef = v := by
      have : vs.toArray[j]? = some v := by simpa using hv
      rw [Array.getD_eq_getD_getElem?, this]; rfl
    have h1 : V X' (blks 0 rs) ⟨1, [], 0⟩ σ2 w' ((svs 0 rs).getD j .any) (vs.toArray.getD j undef) := h1
    rw [e1, e2] at h1
    cases y with
    | v x => exact bare_tr (bares_get hbare hy) h1 hVw
    | own dd =>
      simp only [AV.sv, Nat.zero_add] at h1 ⊢
      obtain ⟨_, hl⟩ := h1
      obtain ⟨ad, cap, h2, h3, h4⟩ := hl ⟨_, by have := fnd_blks_own (i := 0) hy; rwa [Nat.zero_add] at this⟩
      refine ⟨.inr ⟨rfl, List.mem_append_left _ (by have := mem_impN (base := base) (l := rs) (i := 0) hy; rwa [Nat.zero_add] at this)⟩, fun _ => ⟨ad, cap, h2, h3, fun hc => ?_⟩⟩
      obtain ⟨B, hB, h5, h6⟩ := h4 hc
      exact ⟨B, by rw [hσ3 j dd hy]; exact hB, h5, h6⟩
  have ht := put_tm (dst := some d) hR.sz (fun i hi => (hR.tm i hi).tr T3) hval
  simp only [callS, hxs]
  refine ⟨?_, T3⟩
  refine ⟨ht.1, ht.2, hR.df, ?_, ?_, ?_, ?_, hR.ro, hR.gl⟩
  · intro m g z hz
    rcases hb3 m _ hz with ⟨j, dd, rfl, h2, h3, h4⟩ | ⟨h1, h4, h3⟩
    · simp only [Prod.mk.injEq] at h3
      obtain ⟨rfl, rfl⟩ := h3
      have hf2 : fnd (blks 0 rs) j = some (0, .vec dd) := by have := fnd_blks_own (i := 0) h2; rwa [Nat.zero_add] at this
      obtain ⟨_, h5, h6⟩ := hR2.bl j 0 (.vec dd) hf2
      refine ⟨.inr ⟨rfl, List.mem_append_left _ (by have := mem_impN (base := base) (l := rs) (i := 0) h2; rwa [Nat.zero_add] at this)⟩, ?_, ?_⟩
      · show BlkOk X b3 c3 σ3 w' (base + j) (.vec dd)
        simp only [BlkOk, h4]
        rcases h5 with h7 | ⟨B, cs, ty, fr, h7, h8, h9, h10, h11, h12⟩
        · exact .inl h7
        · exact .inr ⟨B, cs, ty, fr, h7, h8, h9, h10, bareD_holds (bares_get hbare h2) h11 hVw, h12⟩
      · intro B hB
        show B < w'.heap.size ∧ _
        have hB' : σ3 (base + j) = some B := hB
        rw [h4] at hB'
        obtain ⟨h7, h8⟩ := h6 B hB'
        refine ⟨h7, ?_⟩
        rcases h8 with ⟨n, hn, hs⟩ | h8
        · obtain ⟨g', z', hz'⟩ := hown n hn
          exact ((hR.bl n g' z' hz').2.2 B hs).2
        · exact .inr (Nat.le_trans hR.fr.1 h8)
    · obtain ⟨h5, h6, h7⟩ := hR.bl m g z h3
      refine ⟨hok3 _ _ h5, h6.tr T3 h1 (fun B hB => ?_), fun B hB => ?_⟩
      · obtain ⟨h8, h9⟩ := hnmt m g z B h4 h3 hB
        exact hold B h8 h9
      · have hB' : σ3 m = some B := hB
        rw [h1] at hB'
        obtain ⟨h8, h9⟩ := h7 B hB'
        exact ⟨by show B < w'.heap.size; omega, h9⟩
  · intro m m' y y' B hy hy' hs hs'
    have hs : σ3 m = some B := hs
    have hs' : σ3 m' = some B := hs'
    rcases hb3 m _ hy with ⟨j, dd, rfl, h2, h3, h4⟩ | ⟨h1, h4, h3⟩ <;> rcases hb3 m' _ hy' with ⟨j', dd', rfl, h2', h3', h4'⟩ | ⟨h1', h4', h3'⟩
    · rw [h4] at hs; rw [h4'] at hs'
      have := hR2.inj j j' _ _ B (by have := fnd_blks_own (i := 0) h2; rwa [Nat.zero_add] at this) (by have := fnd_blks_own (i := 0) h2'; rwa [Nat.zero_add] at this) hs hs'
      omega
    · exfalso
      rw [h4] at hs; rw [h1'] at hs'
      obtain ⟨h8, h9⟩ := hnmt m' y'.1 y'.2 B h4' h3' hs'
      rcases ((hR2.bl j 0 (.vec dd) (by have := fnd_blks_own (i := 0) h2; rwa [Nat.zero_add] at this)).2.2 B hs).2 with h | h
      · exact h9 h
      · exact absurd h8 (Nat.not_lt.2 h)
    · exfalso
      rw [h1] at hs; rw [h4'] at hs'
      obtain ⟨h8, h9⟩ := hnmt m y.1 y.2 B h4 h3 hs
      rcases ((hR2.bl j' 0 (.vec dd') (by have := fnd_blks_own (i := 0) h2'; rwa [Nat.zero_add] at this)).2.2 B hs').2 with h | h
      · exact h9 h
      · exact absurd h8 (Nat.not_lt.2 h)
    · rw [h1] at hs; rw [h1'] at hs'
      exact hR.inj m m' y y' B h3 h3' hs hs'
  · refine ⟨Nat.le_trans hR.fr.1 hsz2, fun B hB hm' => ?_⟩
    rw [← hR.fr.2 B hB hm']
    refine hold B (Nat.lt_of_lt_of_le hB hR.fr.1) ?_
    rintro ⟨n, hn, hs⟩
    obtain ⟨g', z', hz'⟩ := hown n hn
    rcases ((hR.bl n g' z' hz').2.2 B hs).2 with h | h
    · exact hm' h
    · omega
  · obtain ⟨h1, h2, h3⟩ := hR2.st
    obtain ⟨g1, g2, g3⟩ := hR.st
    exact ⟨h1.trans g1, h2.trans g2, h3.trans g3⟩
end

end Go.Proofs.Ytbnjdnahpnjofaa.Abs
