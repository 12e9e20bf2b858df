/- OWN LIBRARY, parts 15 to 19. -/
import Derived.Test.YtdhnjmepgafeiaaDoorB3
import Derived.Orders
/- OWN LIBRARY, part 15: a call, by what its function answers; a function, by the run of its body. -/
set_option linter.unusedVariables false
set_option linter.unusedSimpArgs false
namespace Go.Proofs.YtdhnjmepgafeiaaDoor.Abs
open Go

def delL (b : List (Nat × Nat × Blk)) : List Nat → List (Nat × Nat × Blk)
  | [] => b
  | n :: l => delL (del b n) l

theorem fnd_delL : ∀ {l : List Nat} {b : List (Nat × Nat × Blk)} {n : Nat} {x : Nat × Blk}, fnd (delL b l) n = some x → n ∉ l ∧ fnd b n = some x
  | [], b, n, x, h => ⟨by simp, h⟩
  | m :: l, b, n, x, h => by
    obtain ⟨h1, h2⟩ := fnd_delL (l := l) h
    rw [fnd_del] at h2
    split at h2
    · simp at h2
    · rename_i hne
      exact ⟨by simp [hne, h1], h2⟩

def impB (base g : Nat) : Nat → List AV → List (Nat × Nat × Blk) → List (Nat × Nat × Blk)
  | _, [], b => b
  | i, .v _ :: l, b => impB base g (i + 1) l b
  | i, .own d :: l, b => impB base g (i + 1) l (upd b (base + i) g (.vec d))

def impT (base g : Nat) : Nat → List AV → List SV
  | _, [] => []
  | i, .v x :: l => x :: impT base g (i + 1) l
  | i, .own d :: l => .sl (base + i) g 0 d.esz 0 d.len :: impT base g (i + 1) l

def impN (base : Nat) : Nat → List AV → List Nat
  | _, [] => []
  | i, .v _ :: l => impN base (i + 1) l
  | i, .own _ :: l => (base + i) :: impN base (i + 1) l

theorem fnd_impB {base g : Nat} : ∀ {l : List AV} {i : Nat} {b : List (Nat × Nat × Blk)} {m : Nat} {x : Nat × Blk}, fnd (impB base g i l b) m = some x →
    (∃ j d, m = base + (i + j) ∧ l[j]? = some (.own d) ∧ x = (g, .vec d)) ∨ ((∀ j d, l[j]? = some (.own d) → m ≠ base + (i + j)) ∧ fnd b m = some x)
  | [], i, b, m, x, h => .inr ⟨fun j d h => by simp at h, h⟩
  | .v y :: l, i, b, m, x, h => by
    rcases fnd_impB (l := l) (i := i + 1) h with ⟨j, d, h1, h2, h3⟩ | ⟨h1, h2⟩
    · exact .inl ⟨j + 1, d, by omega, by simpa using h2, h3⟩
    · refine .inr ⟨fun j d hj => ?_, h2⟩
      cases j with
      | zero => simp at hj
      | succ j => have := h1 j d (by simpa using hj); omega
  | .own e :: l, i, b, m, x, h => by
    rcases fnd_impB (l := l) (i := i + 1) h with ⟨j, d, h1, h2, h3⟩ | ⟨h1, h2⟩
    · exact .inl ⟨j + 1, d, by omega, by simpa using h2, h3⟩
    · rw [fnd_upd] at h2
      split at h2
      · rename_i hm
        simp only [Option.some.injEq] at h2
        exact .inl ⟨0, e, by omega, rfl, h2.symm⟩
      · rename_i hm
        refine .inr ⟨fun j d hj => ?_, h2⟩
        cases j with
        | zero => omega
        | succ j => have := h1 j d (by simpa using hj); omega

theorem fnd_impB_keep {base g : Nat} : ∀ {l : List AV} {i : Nat} {b : List (Nat × Nat × Blk)} {m : Nat}, m < base + i → fnd (impB base g i l b) m = fnd b m
  | [], i, b, m, h => rfl
  | .v y :: l, i, b, m, h => fnd_impB_keep (l := l) (i := i + 1) (by omega)
  | .own d :: l, i, b, m, h => by
    simp only [impB]
    rw [fnd_impB_keep (l := l) (i := i + 1) (by omega), fnd_upd, if_neg (by omega)]

theorem fnd_impB_own {base g : Nat} : ∀ {l : List AV} {i j : Nat} {b : List (Nat × Nat × Blk)} {d : Data}, l[j]? = some (.own d) → fnd (impB base g i l b) (base + (i + j)) = some (g, .vec d)
  | [], i, j, b, d, h => by simp at h
  | .v y :: l, i, 0, b, d, h => by simp at h
  | .v y :: l, i, j + 1, b, d, h => by
    have := fnd_impB_own (base := base) (g := g) (l := l) (i := i + 1) (j := j) (b := b) (by simpa using h)
    rw [show base + (i + (j + 1)) = base + (i + 1 + j) by omega]; exact this
  | .own e :: l, i, 0, b, d, h => by
    simp only [List.getElem?_cons_zero, Option.some.injEq, AV.own.injEq] at h
    subst h
    simp only [impB]
    rw [fnd_impB_keep (by omega), fnd_upd, if_pos (by omega)]
  | .own e :: l, i, j + 1, b, d, h => by
    have := fnd_impB_own (base := base) (g := g) (l := l) (i := i + 1) (j := j) (b := upd b (base + i) g (.vec e)) (by simpa using h)
    rw [show base + (i + (j + 1)) = base + (i + 1 + j) by omega]; exact this

theorem mem_impN {base : Nat} : ∀ {l : List AV} {i j : Nat} {d : Data}, l[j]? = some (.own d) → base + (i + j) ∈ impN base i l
  | [], i, j, d, h => by simp at h
  | .v y :: l, i, 0, d, h => by simp at h
  | .v y :: l, i, j + 1, d, h => by
    have := mem_impN (base := base) (l := l) (i := i + 1) (j := j) (by simpa using h)
    rw [show base + (i + (j + 1)) = base + (i + 1 + j) by omega]; exact this
  | .own e :: l, i, 0, d, h => by simp [impN]
  | .own e :: l, i, j + 1, d, h => by
    have := mem_impN (base := base) (l := l) (i := i + 1) (j := j) (by simpa using h)
    rw [show base + (i + (j + 1)) = base + (i + 1 + j) by omega]
    exact List.mem_cons_of_mem _ this

def packS : List SV → SV
  | [x] => x
  | l => .tup l

def allNotIn (d : List Nat) : List Nat → Prop
  | [] => True
  | n :: l => notIn d n ∧ allNotIn d l

theorem allNotIn_ok {d : List Nat} : ∀ {l : List Nat}, allNotIn d l → ∀ n, n ∈ l → n ∉ d
  | [], _, n, h => by simp at h
  | m :: l, h, n, hn => by
    rcases List.mem_cons.1 hn with rfl | hn
    · exact notIn_ok h.1
    · exact allNotIn_ok h.2 n hn

/-- The names of what a call answers. -/
def nm (d : Nat) : Nat := 10000 + 16 * d

def argS (t : List SV) (arz : List Operand) : List SV := arz.map fun x => unc (ungd (evO t x))

def argC (t : List SV) (arz : List Operand) : List SV := arz.map fun x => ungd (evO t x)

def callP (s : St) (d : Nat) (arz : List Operand) (fs rs : List AV) : Prop :=
  gdPs s.t true arz ∧ mAs s.b (ownN (argS s.t arz) fs) (argS s.t arz) fs ∧ nodup (ownN (argS s.t arz) fs) ∧ bares rs = true ∧ allNotIn s.c.d (impN (nm (s.c.o + d)) 0 rs)

def callS (s : St) (d : Nat) (arz : List Operand) (fs rs : List AV) : St :=
  ⟨s.t.set d (packS (impT (nm (s.c.o + d)) s.c.c 0 rs)), impB (nm (s.c.o + d)) s.c.c 0 rs (delL s.b (ownN (argS s.t arz) fs)), ⟨s.c.c, impN (nm (s.c.o + d)) 0 rs ++ s.c.d, s.c.o⟩⟩

theorem mAs_len {b : List (Nat × Nat × Blk)} {own : List Nat} : ∀ {xs : List SV} {fs : List AV}, mAs b own xs fs → xs.length = fs.length
  | [], [], _ => rfl
  | x :: xs, y :: fs, h => by simp [mAs_len h.2]
  | [], _ :: _, h => h.elim
  | _ :: _, [], h => h.elim

theorem mAs_get {b : List (Nat × Nat × Blk)} {own : List Nat} : ∀ {xs : List SV} {fs : List AV} {j : Nat} {y : AV}, mAs b own xs fs → fs[j]? = some y → ∃ x, xs[j]? = some x ∧ mA b own x y
  | [], [], j, y, _, h => by simp at h
  | x :: xs, z :: fs, 0, y, h, e => by simp only [List.getElem?_cons_zero, Option.some.injEq] at e; subst e; exact ⟨x, rfl, h.1⟩
  | x :: xs, z :: fs, j + 1, y, h, e => by
    obtain ⟨x', h1, h2⟩ := mAs_get (j := j) h.2 (by simpa using e)
    exact ⟨x', by simpa using h1, h2⟩
  | [], _ :: _, _, _, h, _ => h.elim
  | _ :: _, [], _, _, h, _ => h.elim

theorem mem_ownN : ∀ {xs : List SV} {fs : List AV} {n : Nat}, n ∈ ownN xs fs → ∃ (j g seg e off len : Nat) (d : Data), xs[j]? = some (SV.sl n g seg e off len) ∧ fs[j]? = some (AV.own d)
  | [], fs, n, h => by cases fs <;> simp [ownN] at h
  | x :: xs, [], n, h => by cases x <;> simp [ownN] at h
  | x :: xs, y :: fs, n, h => by
    have rc : n ∈ ownN xs fs → ∃ (j g seg e off len : Nat) (d : Data), (x :: xs)[j]? = some (SV.sl n g seg e off len) ∧ (y :: fs)[j]? = some (AV.own d) := fun h => by
      obtain ⟨j, g, seg, e, off, len, d, h1, h2⟩ := mem_ownN h
      exact ⟨j + 1, g, seg, e, off, len, d, by simpa using h1, by simpa using h2⟩
    cases x <;> cases y <;> try (exact rc (by simpa only [ownN] using h))
    simp only [ownN, List.mem_cons] at h
    rcases h with rfl | h
    · exact ⟨0, _, _, _, _, _, _, rfl, rfl⟩
    · exact rc h

theorem own_inj : ∀ {xs : List SV} {fs : List AV} {j j' n g seg e off len g' seg' e' off' len' : Nat} {d d' : Data}, nodup (ownN xs fs) → xs[j]? = some (.sl n g seg e off len) → fs[j]? = some (.own d) → xs[j']? = some (.sl n g' seg' e' off' len') → fs[j']? = some (.own d') → j = j'
  | [], fs, j, j', n, g, seg, e, off, len, g', seg', e', off', len', d, d', h, h1, h2, h3, h4 => by simp at h1
  | x :: xs, [], j, j', n, g, seg, e, off, len, g', seg', e', off', len', d, d', h, h1, h2, h3, h4 => by simp at h2
  | x :: xs, y :: fs, j, j', n, g, seg, e, off, len, g', seg', e', off', len', d, d', h, h1, h2, h3, h4 => by
    have mem : ∀ {xs : List SV} {fs : List AV} {j n g seg e off len : Nat} {d : Data}, xs[j]? = some (.sl n g seg e off len) → fs[j]? = some (.own d) → n ∈ ownN xs fs := by
      intro xs
      induction xs with
      | nil => intro fs j n g seg e off len d h _; simp at h
      | cons x xs ih =>
        intro fs j n g seg e off len d h h'
        cases fs with
        | nil => simp at h'
        | cons y fs =>
          cases j with
          | zero =>
            simp only [List.getElem?_cons_zero, Option.some.injEq] at h h'
            subst h; subst h'; simp [ownN]
          | succ j =>
            have := ih (fs := fs) (j := j) (by simpa using h) (by simpa using h')
            cases x <;> cases y <;> simp only [ownN, List.mem_cons] <;> first | exact this | exact .inr this
    have tail : nodup (ownN xs fs) := by
      cases x <;> cases y <;> simp only [ownN, nodup] at h <;> first | exact h | exact h.2
    cases j with
    | zero =>
      cases j' with
      | zero => rfl
      | succ j' =>
        exfalso
        simp only [List.getElem?_cons_zero, Option.some.injEq] at h1 h2
        subst h1; subst h2
        simp only [ownN, nodup] at h
        exact notIn_ok h.1 (mem (xs := xs) (fs := fs) (j := j') (by simpa using h3) (by simpa using h4))
    | succ j =>
      cases j' with
      | zero =>
        exfalso
        simp only [List.getElem?_cons_zero, Option.some.injEq] at h3 h4
        subst h3; subst h4
        simp only [ownN, nodup] at h
        exact notIn_ok h.1 (mem (xs := xs) (fs := fs) (j := j) (by simpa using h1) (by simpa using h2))
      | succ j' =>
        rw [own_inj (xs := xs) (fs := fs) (j := j) (j' := j') tail (by simpa using h1) (by simpa using h2) (by simpa using h3) (by simpa using h4)]

section
variable {P : Program} {X : Ctx} {s : St} {σ : Env} {w : World} {a : Act}

theorem evals {arz : List Operand} (hR : R X s σ w a) (hg : gdPs s.t true arz) {j : Nat} {x : SV} (h : (argS s.t arz)[j]? = some x) : ∃ v, (arz.map a.eval)[j]? = some v ∧ V2 X s.b s.c σ w x v := by
  simp only [argS, List.getElem?_map] at h
  cases e : arz[j]? with
  | none => simp [e] at h
  | some q =>
    simp only [e, Option.map_some, Option.some.injEq] at h
    subst h
    exact ⟨a.eval q, by simp [e], V2_unc (V_ungd (V_evO hR q) (gdPs_mem hg q (List.mem_of_getElem? e)) rfl)⟩

theorem evalsC {arz : List Operand} (hR : R X s σ w a) (hg : gdPs s.t true arz) {j : Nat} {x : SV} (h : (argC s.t arz)[j]? = some x) : ∃ v, (arz.map a.eval)[j]? = some v ∧ V2 X s.b s.c σ w x v := by
  simp only [argC, List.getElem?_map] at h
  cases e : arz[j]? with
  | none => simp [e] at h
  | some q =>
    simp only [e, Option.map_some, Option.some.injEq] at h
    subst h
    exact ⟨a.eval q, by simp [e], V_ungd (V_evO hR q) (gdPs_mem hg q (List.mem_of_getElem? e)) rfl⟩

theorem bares_get : ∀ {l : List AV} {j : Nat} {y : AV}, bares l = true → l[j]? = some y → bare y = true
  | [], j, y, _, h => by simp at h
  | x :: l, 0, y, h, e => by simp only [List.getElem?_cons_zero, Option.some.injEq] at e; subst e; simp only [bares, Bool.and_eq_true] at h; exact h.1
  | x :: l, j + 1, y, h, e => by simp only [bares, Bool.and_eq_true] at h; exact bares_get h.2 (by simpa using e)

theorem impT_all {X : Ctx} {b : List (Nat × Nat × Blk)} {c : Lim} {σ : Env} {w : World} {base g : Nat} : ∀ {rs : List AV} {i : Nat} {vs : List Value}, vs.length = rs.length →
    (∀ (j : Nat) (y : AV) (v : Value), rs[j]? = some y → vs[j]? = some v → V1 X b c σ w (match y with | AV.v x => x | AV.own d => SV.sl (base + (i + j)) g 0 d.esz 0 d.len) v) → All1 X b c σ w (impT base g i rs) vs
  | [], i, vs, hl, _ => List.eq_nil_of_length_eq_zero hl
  | y :: rs, i, [], hl, _ => by simp at hl
  | y :: rs, i, v :: vs, hl, h => by
    have h0 := h 0 y v rfl rfl
    have hr : All1 X b c σ w (impT base g (i + 1) rs) vs := impT_all (by simpa using hl) (fun j z u h1 h2 => by
      have := h (j + 1) z u (by simpa using h1) (by simpa using h2)
      rw [show i + 1 + j = i + (j + 1) by omega]; exact this)
    cases y
    · exact ⟨v, vs, rfl, h0, hr⟩
    · exact ⟨v, vs, rfl, h0, hr⟩

theorem pack_ok {X : Ctx} {b : List (Nat × Nat × Blk)} {c : Lim} {σ : Env} {w : World} {l : List SV} {vs : List Value} (h : All1 X b c σ w l vs) : V2 X b c σ w (packS l) (pack vs) := by
  match l, h with
  | [], h => rw [show vs = [] from h]; exact ⟨#[], rfl, rfl⟩
  | [x], h =>
    obtain ⟨v, vs', rfl, h1, h2⟩ := h
    rw [show vs' = [] from h2]
    exact V2_of_V1 h1
  | x :: y :: l, h =>
    obtain ⟨v, vs', rfl, h1, u, vs'', rfl, h2, h3⟩ := h
    exact ⟨_, rfl, v, _, rfl, h1, u, _, rfl, h2, h3⟩

theorem call_R (hR : R X s σ w a) {f : FuncId} {arz : List Operand} {fs rs : List AV} {d : Nat} (hM : Meets P f fs rs) (hp : callP s d arz fs rs) :
    Calls P f (arz.map a.eval).toArray w fun e w' => ∃ v σ', e = .returned v ∧ R X (callS s d arz fs rs) σ' w' (a.put (some d) v) ∧ Tr X s.b s.c σ w (callS s d arz fs rs).b (callS s d arz fs rs).c σ' w' := by
  obtain ⟨hgd, hm, hnd, hbare, hnew⟩ := hp
  have hbl : ∀ n g y, fnd s.b n = some (g, y) → BlkOk X s.b s.c σ w n y := fun n g y hy => (hR.bl n g y hy).2.1
  generalize hxs : argS s.t arz = xs at hm hnd
  have hown : ∀ n, n ∈ ownN xs fs → ∃ g z, fnd s.b n = some (g, z) := by
    intro n hn
    obtain ⟨j, g, seg, e, off, len, dd, h1, h2⟩ := mem_ownN hn
    obtain ⟨x, h3, h4⟩ := mAs_get hm h2
    rw [h1] at h3
    simp only [Option.some.injEq] at h3
    subst h3
    simp only [mA] at h4
    cases eb : blkAt s.b n g with
    | none => simp [eb] at h4
    | some z => exact ⟨g, z, blkAt_fnd eb⟩
  let mt' : Nat → Prop := fun B => ∃ n, n ∈ ownN xs fs ∧ σ n = some B
  let X' : Ctx := ⟨w, mt', fun B => B < w.heap.size ∧ ¬ mt' B⟩
  let σ1 : Env := fun m => if 1000 ≤ m then (match xs[m - 1000]? with | some (.sl n _ _ _ _ _) => σ n | _ => none) else none
  have notVw : ∀ t B, Vw X s.b σ w t B → ¬ mt' B := by
    rintro t B hv ⟨n, hn, hs⟩
    obtain ⟨g, z, hz⟩ := hown n hn
    rcases hv.2 with ⟨_, h⟩ | ⟨_, h⟩
    · obtain ⟨h1, h2⟩ := hR.ro B h
      rcases ((hR.bl n g z hz).2.2 B hs).2 with h3 | h3
      · exact h2 h3
      · omega
    · exact h ⟨n, _, hz, hs⟩
  have E1 : ∀ t B, Vw X s.b σ w t B → Vw X' (blks 1000 fs) σ1 w false B := fun t B hv => ⟨hv.1, .inl ⟨rfl, hv.1, notVw t B hv⟩⟩
  have E2 : ∀ n g B z, n ∉ ownN xs fs → fnd s.b n = some (g, z) → σ n = some B → Vw X' (blks 1000 fs) σ1 w false B := by
    intro n g B z hn hz hs
    have hB := ((hR.bl n g z hz).2.2 B hs).1
    refine ⟨hB, .inl ⟨rfl, hB, ?_⟩⟩
    rintro ⟨m, hm', hs'⟩
    obtain ⟨g', z', hz'⟩ := hown m hm'
    exact hn (hR.inj n m _ _ B hz hz' hs hs' ▸ hm')
  have hlen : arz.length = fs.length := by rw [← mAs_len hm, ← hxs]; simp [argS]
  have hσ1 : ∀ j, σ1 (1000 + j) = (match xs[j]? with | some (.sl n _ _ _ _ _) => σ n | _ => none) := by
    intro j
    simp only [σ1]
    rw [if_pos (by omega), show 1000 + j - 1000 = j by omega]
  have hgl : ∀ g k l, GT g = some (k, l) → X'.ro g ∧ ∀ i, i < l.length → w.cell? ⟨g, i, none⟩ = some (.int k (l.getD i 0)) := by
    intro g k l h
    obtain ⟨h1, h2⟩ := hR.gl g k l h
    obtain ⟨h3, h4⟩ := hR.ro g h1
    refine ⟨⟨Nat.lt_of_lt_of_le h3 hR.fr.1, ?_⟩, fun i hi => ?_⟩
    · rintro ⟨n, hn, hs⟩
      obtain ⟨g', z, hz⟩ := hown n hn
      rcases ((hR.bl n g' z hz).2.2 g hs).2 with h5 | h5
      · exact h4 h5
      · omega
    · rw [cell_of_heap (hR.fr.2 g h3 h4)]
      exact h2 i hi
  -- the callee's begin
  have hentry : R X' ⟨svs 1000 fs, blks 1000 fs, ⟨1, [], 0⟩⟩ σ1 w ⟨(arz.map a.eval).toArray, []⟩ := by
    refine ⟨by simp [svs_length, hlen], ?_, rfl, ?_, ?_, ⟨Nat.le_refl _, fun _ _ _ => rfl⟩, ⟨rfl, rfl, rfl⟩, fun B h => h, hgl⟩
    · intro j hj
      rw [svs_length] at hj
      obtain ⟨y, hy⟩ : ∃ y, fs[j]? = some y := ⟨fs[j], by simp [hj]⟩
      obtain ⟨x, hx, hma⟩ := mAs_get hm hy
      obtain ⟨v, hv, hV⟩ := evals hR hgd (by rw [hxs]; exact hx)
      have e1 : (svs 1000 fs).getD j .any = y.sv (1000 + j) := by simp [List.getD, svs_get, hy]
      have e2 : (arz.map a.eval).toArray.getD j undef = v := by
        have : (arz.map a.eval).toArray[j]? = some v := by rw [List.getElem?_toArray]; exact hv
        rw [Array.getD_eq_getD_getElem?, this]; rfl
      show V X' (blks 1000 fs) ⟨1, [], 0⟩ σ1 w ((svs 1000 fs).getD j .any) ((arz.map a.eval).toArray.getD j undef)
      rw [e1, e2]
      cases y with
      | v y =>
        refine V_of_V2 (V2_of_V1 ?_)
        have gen : mA0 s.b (ownN xs fs) x y → V0 X s.b s.c σ w x v → V1 X' (blks 1000 fs) ⟨1, [], 0⟩ σ1 w y v := fun h1 h2 => V1_of_V0 (mA0_ok h1 h2 E1 E2 hbl)
        cases x <;> cases y <;> simp only [mA] at hma <;> (try (exact gen hma hV)) <;> try (simp only [mA0, mB0] at hma; done)
        case arr.arr => obtain ⟨rfl, rfl, rfl⟩ := hma; exact hV
        case agg.agg l l' =>
          obtain ⟨cs, rfl, hcs⟩ := hV
          exact ⟨cs, rfl, mAl_ok E1 E2 hbl hma hcs⟩
      | own dd =>
        refine ⟨.inl Nat.zero_lt_one, fun _ => ?_⟩
        rw [hσ1, hx]
        cases x <;> simp only [mA] at hma
        case nil =>
          rw [show v = _ from hV]
          exact ⟨none, 0, by rw [hma], by omega, fun h => absurd rfl h⟩
        case sl n g seg e off len =>
          cases eb : blkAt s.b n g <;> simp only [eb] at hma
          rename_i bk
          cases bk <;> simp only at hma
          obtain ⟨h1, rfl, rfl, rfl, rfl⟩ := hma
          obtain ⟨_, hl⟩ := hV
          exact hl (blkAt_live eb)
    · intro n g x hx
      obtain ⟨j, dd, rfl, hy, hx'⟩ := fnd_blks hx
      simp only [Prod.mk.injEq] at hx'
      obtain ⟨rfl, rfl⟩ := hx'
      refine ⟨.inl Nat.zero_lt_one, ?_⟩
      obtain ⟨x, hx2, hma⟩ := mAs_get hm hy
      show BlkOk X' (blks 1000 fs) ⟨1, [], 0⟩ σ1 w (1000 + j) (.vec dd) ∧ ∀ B, σ1 (1000 + j) = some B → B < w.heap.size ∧ (mt' B ∨ w.heap.size ≤ B)
      simp only [BlkOk, hσ1, hx2]
      cases x <;> simp only [mA] at hma
      case nil => exact ⟨.inl ⟨rfl, hma⟩, fun B hB => by simp at hB⟩
      case sl n g seg e off len =>
        cases eb : blkAt s.b n g <;> simp only [eb] at hma
        rename_i bk
        cases bk <;> simp only at hma
        obtain ⟨rfl, _⟩ := hma
        have hfnd := blkAt_fnd eb
        have hmem : n ∈ ownN xs fs := by
          have : ∀ {xs : List SV} {fs : List AV} {j : Nat} {dd : Data}, xs[j]? = some (.sl n g seg e off len) → fs[j]? = some (.own dd) → n ∈ ownN xs fs := by
            intro xs
            induction xs with
            | nil => intro fs j dd h _; simp at h
            | cons x xs ih =>
              intro fs j dd h h'
              cases fs with
              | nil => simp at h'
              | cons y fs =>
                cases j with
                | zero =>
                  simp only [List.getElem?_cons_zero, Option.some.injEq] at h h'
                  subst h; subst h'; simp [ownN]
                | succ j =>
                  have := ih (fs := fs) (j := j) (by simpa using h) (by simpa using h')
                  cases x <;> cases y <;> simp only [ownN, List.mem_cons] <;> first | exact this | exact .inr this
          exact this hx2 hy
        refine ⟨?_, fun B hB => ⟨((hR.bl n g _ hfnd).2.2 B hB).1, .inl ⟨n, hmem, hB⟩⟩⟩
        rcases hbl n g _ hfnd with ⟨h1, h2⟩ | ⟨B, cs, ty, fr, h1, h2, h3, h4, h5, h6⟩
        · exact .inl ⟨h1, by rw [lowD_len]; exact h2⟩
        · exact .inr ⟨B, cs, ty, fr, h1, h2, h3, by rw [lowD_len, lowD_esz]; exact h4, low_holds h5 E1, h6.low⟩
    · intro n m x y B hx hy hs1 hs2
      obtain ⟨j, dd, rfl, hj, _⟩ := fnd_blks hx
      obtain ⟨j', dd', rfl, hj', _⟩ := fnd_blks hy
      obtain ⟨x1, hx1, hm1⟩ := mAs_get hm hj
      obtain ⟨x2, hx2, hm2⟩ := mAs_get hm hj'
      rw [hσ1, hx1] at hs1
      rw [hσ1, hx2] at hs2
      cases x1 <;> simp only [reduceCtorEq] at hs1
      cases x2 <;> simp only [reduceCtorEq] at hs2
      rename_i n1 g1 _ _ _ _ n2 g2 _ _ _ _
      simp only [mA] at hm1 hm2
      cases eb1 : blkAt s.b n1 g1 <;> simp only [eb1] at hm1
      cases eb2 : blkAt s.b n2 g2 <;> simp only [eb2] at hm2
      have := hR.inj n1 n2 _ _ B (blkAt_fnd eb1) (blkAt_fnd eb2) hs1 hs2
      subst this
      rw [own_inj hnd hx1 hj hx2 hj']
  refine (hM X' σ1 _ hentry).mono ?_
  rintro e w' ⟨vs, σ2, rfl, hR2⟩
  have hvl : vs.length = rs.length := by have := hR2.sz; simpa [svs_length] using this
  let base := nm (s.c.o + d)
  let σ3 : Env := fun m => if base ≤ m then (match rs[m - base]? with | some (.own _) => σ2 (m - base) | _ => σ m) else σ m
  have hσ3 : ∀ j dd, rs[j]? = some (.own dd) → σ3 (base + j) = σ2 j := by
    intro j dd h
    simp only [σ3]
    rw [if_pos (by omega), show base + j - base = j by omega, h]
  have hσ3' : ∀ m, (∀ j dd, rs[j]? = some (.own dd) → m ≠ base + (0 + j)) → σ3 m = σ m := by
    intro m h
    simp only [σ3]
    split
    · rename_i hle
      cases e : rs[m - base]? with
      | none => rfl
      | some y =>
        cases y with
        | v _ => rfl
        | own dd => exact absurd (by omega) (h (m - base) dd e)
    · rfl
  let b3 := impB base s.c.c 0 rs (delL s.b (ownN xs fs))
  let c3 : Lim := ⟨s.c.c, impN base 0 rs ++ s.c.d, s.c.o⟩
  have hb3 : ∀ m x, fnd b3 m = some x → (∃ j dd, m = base + j ∧ rs[j]? = some (.own dd) ∧ x = (s.c.c, .vec dd) ∧ σ3 m = σ2 j) ∨ (σ3 m = σ m ∧ m ∉ ownN xs fs ∧ fnd s.b m = some x) := by
    intro m x h
    rcases fnd_impB h with ⟨j, dd, h1, h2, h3⟩ | ⟨h1, h2⟩
    · exact .inl ⟨j, dd, by omega, h2, h3, by rw [h1, Nat.zero_add]; exact hσ3 j dd h2⟩
    · obtain ⟨h3, h4⟩ := fnd_delL h2
      exact .inr ⟨hσ3' m h1, h3, h4⟩
  have hold : ∀ B, B < w.heap.size → ¬ mt' B → w'.heap[B]? = w.heap[B]? := fun B h1 h2 => hR2.fr.2 B h1 h2
  have hnmt : ∀ m g z B, m ∉ ownN xs fs → fnd s.b m = some (g, z) → σ m = some B → B < w.heap.size ∧ ¬ mt' B := by
    intro m g z B h1 h2 h3
    refine ⟨((hR.bl m g z h2).2.2 B h3).1, ?_⟩
    rintro ⟨n, hn, hs⟩
    obtain ⟨g', z', hz'⟩ := hown n hn
    exact h1 (hR.inj m n _ _ B h2 hz' h3 hs ▸ hn)
  have hok3 : ∀ n g, s.c.ok n g → c3.ok n g := fun n g h => h.imp id fun ⟨h1, h2⟩ => ⟨h1, List.mem_append_right _ h2⟩
  have hsz2 : w.heap.size ≤ w'.heap.size := hR2.fr.1
  have T3 : Tr X s.b s.c σ w b3 c3 σ3 w' := by
    refine ⟨hok3, ?_, ?_, ?_⟩
    · rintro m g ⟨z, hz⟩ hok
      rcases hb3 m _ hz with ⟨j, dd, rfl, h2, h3, _⟩ | ⟨h1, _, h3⟩
      · exfalso
        simp only [Prod.mk.injEq] at h3
        have hmem := mem_impN (base := base) (l := rs) (i := 0) h2
        rw [Nat.zero_add] at hmem
        have hni := allNotIn_ok hnew _ hmem
        rw [h3.1] at hok
        exact Lim.not_new hni hok
      · exact ⟨⟨z, h3⟩, h1⟩
    · intro tag B hv
      have hnm := notVw tag B hv
      refine ⟨hold B hv.1 hnm, Nat.lt_of_lt_of_le hv.1 hsz2, ?_⟩
      rcases hv.2 with h | ⟨h1, h2⟩
      · exact .inl h
      · refine .inr ⟨h1, ?_⟩
        rintro ⟨m, z, hz, hs⟩
        rcases hb3 m _ hz with ⟨j, dd, rfl, h3, _, h4⟩ | ⟨h3, h4, h5⟩
        · rw [h4] at hs
          have := (hR2.bl j 0 (.vec dd) (by have := fnd_blks_own (i := 0) h3; rwa [Nat.zero_add] at this)).2.2 B hs
          rcases this.2 with h6 | h6
          · exact hnm h6
          · exact absurd hv.1 (Nat.not_lt.2 h6)
        · rw [h3] at hs
          exact h2 ⟨m, z, h5, hs⟩
    · rintro m g B ⟨z, hz⟩ hok hs
      rcases hb3 m _ hz with ⟨j, dd, rfl, h2, h3, _⟩ | ⟨h1, h4, h3⟩
      · exfalso
        simp only [Prod.mk.injEq] at h3
        have hmem := mem_impN (base := base) (l := rs) (i := 0) h2
        rw [Nat.zero_add] at hmem
        have hni := allNotIn_ok hnew _ hmem
        rw [h3.1] at hok
        exact Lim.not_new hni hok
      · obtain ⟨h5, h6⟩ := hnmt m g z B h4 h3 hs
        simp only [blockSize, hold B h5 h6]; exact Nat.le_refl _
  have hVw : ∀ B, Vw X' (blks 0 rs) σ2 w' true B → Vw X b3 σ3 w' true B := by
    intro B hv
    rcases hv.2 with ⟨h, _⟩ | ⟨h1, h2⟩
    · simp at h
    · have hin : X.mt B ∨ X.w0.heap.size ≤ B := by
        rcases h1 with ⟨n, hn, hs1⟩ | h1
        · obtain ⟨g, z, hz⟩ := hown n hn
          exact ((hR.bl n g z hz).2.2 B hs1).2
        · exact .inr (Nat.le_trans hR.fr.1 h1)
      refine ⟨hv.1, .inr ⟨hin, ?_⟩⟩
      rintro ⟨m, z, hz, hs⟩
      rcases hb3 m _ hz with ⟨j, dd, rfl, h3, _, h4⟩ | ⟨h3, h4, h5⟩
      · rw [h4] at hs
        exact h2 ⟨j, _, by have := fnd_blks_own (i := 0) h3; rwa [Nat.zero_add] at this, hs⟩
      · rw [h3] at hs
        rcases h1 with ⟨n, hn, hs1⟩ | h1
        · obtain ⟨g', z', hz'⟩ := hown n hn
          exact h4 (hR.inj m n _ _ B h5 hz' hs hs1 ▸ hn)
        · have h6 := ((hR.bl m z.1 z.2 h5).2.2 B hs).1
          exact absurd h6 (Nat.not_lt.2 h1)
  refine ⟨pack vs, σ3, rfl, ?_⟩
  have hval : V X b3 c3 σ3 w' (packS (impT base s.c.c 0 rs)) (pack vs) := by
    refine V_of_V2 (pack_ok (impT_all hvl ?_))
    intro j y v hy hv
    have hj : j < (svs 0 rs).length := by
      rw [svs_length]
      rcases Nat.lt_or_ge j rs.length with h | h
      · exact h
      · simp [List.getElem?_eq_none h] at hy
    have h1 := hR2.tm j hj
    have e1 : (svs 0 rs).getD j .any = y.sv (0 + j) := by simp [List.getD, svs_get, hy]
    have e2 : vs.toArray.getD j undef = v := by
      have : vs.toArray[j]? = some v := by simpa using hv
      rw [Array.getD_eq_getD_getElem?, this]; rfl
    have h1 : V X' (blks 0 rs) ⟨1, [], 0⟩ σ2 w' ((svs 0 rs).getD j .any) (vs.toArray.getD j undef) := h1
    rw [e1, e2] at h1
    cases y with
    | v x => exact bare_tr (bares_get hbare hy) h1 hVw
    | own dd =>
      simp only [AV.sv, Nat.zero_add] at h1 ⊢
      obtain ⟨_, hl⟩ := h1
      obtain ⟨ad, cap, h2, h3, h4⟩ := hl ⟨_, by have := fnd_blks_own (i := 0) hy; rwa [Nat.zero_add] at this⟩
      refine ⟨.inr ⟨rfl, List.mem_append_left _ (by have := mem_impN (base := base) (l := rs) (i := 0) hy; rwa [Nat.zero_add] at this)⟩, fun _ => ⟨ad, cap, h2, h3, fun hc => ?_⟩⟩
      obtain ⟨B, hB, h5, h6⟩ := h4 hc
      exact ⟨B, by rw [hσ3 j dd hy]; exact hB, h5, h6⟩
  have ht := put_tm (dst := some d) hR.sz (fun i hi => (hR.tm i hi).tr T3) hval
  simp only [callS, hxs]
  refine ⟨?_, T3⟩
  refine ⟨ht.1, ht.2, hR.df, ?_, ?_, ?_, ?_, hR.ro, hR.gl⟩
  · intro m g z hz
    rcases hb3 m _ hz with ⟨j, dd, rfl, h2, h3, h4⟩ | ⟨h1, h4, h3⟩
    · simp only [Prod.mk.injEq] at h3
      obtain ⟨rfl, rfl⟩ := h3
      have hf2 : fnd (blks 0 rs) j = some (0, .vec dd) := by have := fnd_blks_own (i := 0) h2; rwa [Nat.zero_add] at this
      obtain ⟨_, h5, h6⟩ := hR2.bl j 0 (.vec dd) hf2
      refine ⟨.inr ⟨rfl, List.mem_append_left _ (by have := mem_impN (base := base) (l := rs) (i := 0) h2; rwa [Nat.zero_add] at this)⟩, ?_, ?_⟩
      · show BlkOk X b3 c3 σ3 w' (base + j) (.vec dd)
        simp only [BlkOk, h4]
        rcases h5 with h7 | ⟨B, cs, ty, fr, h7, h8, h9, h10, h11, h12⟩
        · exact .inl h7
        · exact .inr ⟨B, cs, ty, fr, h7, h8, h9, h10, bareD_holds (bares_get hbare h2) h11 hVw, h12⟩
      · intro B hB
        show B < w'.heap.size ∧ _
        have hB' : σ3 (base + j) = some B := hB
        rw [h4] at hB'
        obtain ⟨h7, h8⟩ := h6 B hB'
        refine ⟨h7, ?_⟩
        rcases h8 with ⟨n, hn, hs⟩ | h8
        · obtain ⟨g', z', hz'⟩ := hown n hn
          exact ((hR.bl n g' z' hz').2.2 B hs).2
        · exact .inr (Nat.le_trans hR.fr.1 h8)
    · obtain ⟨h5, h6, h7⟩ := hR.bl m g z h3
      refine ⟨hok3 _ _ h5, h6.tr T3 h1 (fun B hB => ?_), fun B hB => ?_⟩
      · obtain ⟨h8, h9⟩ := hnmt m g z B h4 h3 hB
        exact hold B h8 h9
      · have hB' : σ3 m = some B := hB
        rw [h1] at hB'
        obtain ⟨h8, h9⟩ := h7 B hB'
        exact ⟨by show B < w'.heap.size; omega, h9⟩
  · intro m m' y y' B hy hy' hs hs'
    have hs : σ3 m = some B := hs
    have hs' : σ3 m' = some B := hs'
    rcases hb3 m _ hy with ⟨j, dd, rfl, h2, h3, h4⟩ | ⟨h1, h4, h3⟩ <;> rcases hb3 m' _ hy' with ⟨j', dd', rfl, h2', h3', h4'⟩ | ⟨h1', h4', h3'⟩
    · rw [h4] at hs; rw [h4'] at hs'
      have := hR2.inj j j' _ _ B (by have := fnd_blks_own (i := 0) h2; rwa [Nat.zero_add] at this) (by have := fnd_blks_own (i := 0) h2'; rwa [Nat.zero_add] at this) hs hs'
      omega
    · exfalso
      rw [h4] at hs; rw [h1'] at hs'
      obtain ⟨h8, h9⟩ := hnmt m' y'.1 y'.2 B h4' h3' hs'
      rcases ((hR2.bl j 0 (.vec dd) (by have := fnd_blks_own (i := 0) h2; rwa [Nat.zero_add] at this)).2.2 B hs).2 with h | h
      · exact h9 h
      · exact absurd h8 (Nat.not_lt.2 h)
    · exfalso
      rw [h1] at hs; rw [h4'] at hs'
      obtain ⟨h8, h9⟩ := hnmt m y.1 y.2 B h4 h3 hs
      rcases ((hR2.bl j' 0 (.vec dd') (by have := fnd_blks_own (i := 0) h2'; rwa [Nat.zero_add] at this)).2.2 B hs').2 with h | h
      · exact h9 h
      · exact absurd h8 (Nat.not_lt.2 h)
    · rw [h1] at hs; rw [h1'] at hs'
      exact hR.inj m m' y y' B h3 h3' hs hs'
  · refine ⟨Nat.le_trans hR.fr.1 hsz2, fun B hB hm' => ?_⟩
    rw [← hR.fr.2 B hB hm']
    refine hold B (Nat.lt_of_lt_of_le hB hR.fr.1) ?_
    rintro ⟨n, hn, hs⟩
    obtain ⟨g', z', hz'⟩ := hown n hn
    rcases ((hR.bl n g' z' hz').2.2 B hs).2 with h | h
    · exact hm' h
    · omega
  · obtain ⟨h1, h2, h3⟩ := hR2.st
    obtain ⟨g1, g2, g3⟩ := hR.st
    exact ⟨h1.trans g1, h2.trans g2, h3.trans g3⟩
end

end Go.Proofs.YtdhnjmepgafeiaaDoor.Abs

/- OWN LIBRARY, part 16: what a function answers, out of the run of its body; calls in a region. -/
set_option linter.unusedVariables false
set_option linter.unusedSimpArgs false
namespace Go.Proofs.YtdhnjmepgafeiaaDoor.Abs
open Go

/-- A result, where the run has come to. -/
def resV (T : Tab) (s : St) : ResultVar → Option (Prop × SV)
  | .tmp t => some (True, s.t.getD t .any)
  | .cell p t => loadV T s.b t (s.t.getD p .any)

/-- A value that is no tuple, closure, and is known whatever the guard. -/
def flat1 : SV → Bool
  | .tup _ | .clo _ _ _ | .gd _ _ => false
  | _ => true

def flat2 : SV → Bool
  | .gd _ _ | .any => false
  | _ => true

def flatV : SV → Bool
  | .tup l => l.all flat1
  | x => flat2 x

def flats (s : St) (d : Nat) : Bool := flatV (s.t.getD d .any)

theorem flats_tup {t : List SV} {d : Nat} {l : List SV} {b : List (Nat × Nat × Blk)} {c : Lim} (h : flats ⟨t.set d (.tup l), b, c⟩ d = true) : l.all flat1 = true := by
  simp only [flats] at h
  rcases Nat.lt_or_ge d t.length with hd | hd
  · have e : (t.set d (.tup l)).getD d .any = .tup l := by simp [List.getD, hd]
    rw [e] at h; exact h
  · have e : (t.set d (.tup l)).getD d .any = .any := by simp [List.getD, hd]
    rw [e] at h; simp [flatV, flat2] at h

theorem V2_of_V' {X : Ctx} {b : List (Nat × Nat × Blk)} {c : Lim} {σ : Env} {w : World} {x : SV} {v : Value} (h : V X b c σ w x v) (hx : flatV x = true) : V2 X b c σ w x v := by
  cases x <;> first | exact h | (simp only [flatV, flat2, Bool.false_eq_true] at hx; done)

def rA0 (s : St) : SV → SV → Prop
  | .bool p, .bool q => p = q
  | .int k n, .int k' n' => k = k' ∧ n = n'
  | .str p, .str q => p = q
  | .nil, .nil => True
  | .nil, .view _ d => d.len = 0
  | .view t d, .view t' d' => (t' = true → t = true) ∧ d = d'
  | _, _ => False

def rAl (s : St) : List SV → List SV → Prop
  | [], [] => True
  | .arr k n l :: r, .arr k' n' l' :: r' => (k = k' ∧ n = n' ∧ l = l') ∧ rAl s r r'
  | x :: r, y :: r' => rA0 s x y ∧ rAl s r r'
  | _, _ => False

/-- Such a result is such an answer. -/
def rA (s : St) : SV → AV → Prop
  | .arr k n l, .v (.arr k' n' l') => k = k' ∧ n = n' ∧ l = l'
  | .agg l, .v (.agg l') => rAl s l l'
  | .nil, .own d => d.len = 0
  | .sl n g seg e off len, .own d => match blkAt s.b n g with
    | some (.vec d') => d' = d ∧ seg = 0 ∧ e = d.esz ∧ off = 0 ∧ len = d.len
    | _ => False
  | x, .v y => rA0 s x y
  | _, _ => False

def rAs (s : St) : List SV → List AV → Prop
  | [], [] => True
  | x :: r, y :: l => rA s x y ∧ rAs s r l
  | _, _ => False

def retQ (s : St) (xs : List SV) (rs : List AV) : Prop := rAs s xs rs ∧ nodup (ownN xs rs) ∧ bares rs = true

/-- The run has come to its end with such an answer. -/
def retP (T : Tab) (rv : Array ResultVar) (rs : List AV) (s : St) : Prop :=
  match rv.toList.map (resV T s) with
  | [] => retQ s [] rs
  | [some (p, x)] => p ∧ retQ s [unc x] rs
  | [some (p, x), some (q, y)] => p ∧ q ∧ retQ s [unc x, unc y] rs
  | [some (p, x), some (q, y), some (r, z)] => p ∧ q ∧ r ∧ retQ s [unc x, unc y, unc z] rs
  | _ => False

section
variable {P : Program} {T : Tab} {X : Ctx} {s : St} {σ : Env} {w : World} {a : Act}

theorem resV_ok (TO : TabOk P T) (hR : R X s σ w a) {r : ResultVar} {p : Prop} {x : SV} (h : resV T s r = some (p, x)) (hp : p) :
    ∃ v, (match r with | .tmp t => pure (a.tmps.getD t undef) | .cell q t => do loadVar t (← asAddr (a.tmps.getD q undef)) : Sem Value).run P w = .ok v w ∧ V X s.b s.c σ w x v := by
  have hbl : ∀ n g y, fnd s.b n = some (g, y) → BlkOk X s.b s.c σ w n y := fun n g y hy => (hR.bl n g y hy).2.1
  cases r with
  | tmp t =>
    simp only [resV, Option.some.injEq, Prod.mk.injEq] at h
    obtain ⟨rfl, rfl⟩ := h
    exact ⟨_, rfl, V_evO hR (.tmp t)⟩
  | cell q t =>
    simp only [resV] at h
    have hq := V_evO hR (.tmp q)
    simp only [evO] at hq
    cases e : s.t.getD q .any <;> rw [e] at hq h <;> try (simp only [loadV, reduceCtorEq] at h; done)
    case ptr n g off =>
      have hq2 : V2 X s.b s.c σ w (.ptr n g off) (a.eval (.tmp q)) := hq
      obtain ⟨u, hu, hv⟩ := loadV_ok TO h hp hq2 hbl (gl_here hR)
      cases eb : blkAt s.b n g <;> simp only [loadV, eb, reduceCtorEq] at h
      obtain ⟨_, hl⟩ := hq2
      obtain ⟨B, hB, e2⟩ := hl (blkAt_live eb)
      refine ⟨u, ?_, V_of_V2 hv⟩
      have e3 : a.tmps.getD q undef = .pointer (some ⟨B, off, none⟩) := e2
      rw [e2] at hu
      simp only [e3, asAddr, Sem.run_bind, Sem.run_pure, Result.andThen_ok]
      simpa [Instr.loadAt, Instr.sureAddr] using hu
    case eptr n g seg es i m =>
      have hq2 : V2 X s.b s.c σ w (.eptr n g seg es i m) (a.eval (.tmp q)) := hq
      obtain ⟨u, hu, hv⟩ := loadV_ok TO h hp hq2 hbl (gl_here hR)
      cases eb : blkAt s.b n g <;> simp only [loadV, eb, reduceCtorEq] at h
      obtain ⟨_, _, hl⟩ := hq2
      obtain ⟨B, hB, e2⟩ := hl (blkAt_live eb)
      refine ⟨u, ?_, V_of_V2 hv⟩
      have e3 : a.tmps.getD q undef = .pointer (some ⟨B, seg + i * es, none⟩) := e2
      rw [e2] at hu
      simp only [e3, asAddr, Sem.run_bind, Sem.run_pure, Result.andThen_ok]
      simpa [Instr.loadAt, Instr.sureAddr] using hu
    case lit y =>
      have hq2 : V2 X s.b s.c σ w (.lit y) (a.eval (.tmp q)) := hq
      obtain ⟨u, hu, hv⟩ := loadV_ok TO h hp hq2 hbl (gl_here hR)
      have e2 : a.eval (.tmp q) = y := hq2
      refine ⟨u, ?_, V_of_V2 hv⟩
      have e3 : a.tmps.getD q undef = y := e2
      rw [e2] at hu
      cases y <;> simp only [loadV, gloadV, reduceCtorEq] at h
      rename_i ad
      cases ad <;> simp only [reduceCtorEq] at h
      simp only [e3, asAddr, Sem.run_bind, Sem.run_pure, Result.andThen_ok]
      simpa [Instr.loadAt, Instr.sureAddr] using hu
    case vptr tag d i j =>
      have hq2 : V2 X s.b s.c σ w (.vptr tag d i j) (a.eval (.tmp q)) := hq
      obtain ⟨u, hu, hv⟩ := loadV_ok TO h hp hq2 hbl (gl_here hR)
      obtain ⟨_, B, o, e2, _⟩ := hq2
      refine ⟨u, ?_, V_of_V2 hv⟩
      have e3 : a.tmps.getD q undef = .pointer (some ⟨B, o + i * d.esz + j, none⟩) := e2
      rw [e2] at hu
      simp only [e3, asAddr, Sem.run_bind, Sem.run_pure, Result.andThen_ok]
      simpa [Instr.loadAt, Instr.sureAddr] using hu

theorem rAs_len : ∀ {xs : List SV} {rs : List AV}, rAs s xs rs → xs.length = rs.length
  | [], [], _ => rfl
  | x :: xs, y :: fs, h => by simp [rAs_len h.2]
  | [], _ :: _, h => h.elim
  | _ :: _, [], h => h.elim

theorem rAs_get : ∀ {xs : List SV} {fs : List AV} {j : Nat} {y : AV}, rAs s xs fs → fs[j]? = some y → ∃ x, xs[j]? = some x ∧ rA s x y
  | [], [], j, y, _, h => by simp at h
  | x :: xs, z :: fs, 0, y, h, e => by simp only [List.getElem?_cons_zero, Option.some.injEq] at e; subst e; exact ⟨x, rfl, h.1⟩
  | x :: xs, z :: fs, j + 1, y, h, e => by
    obtain ⟨x', h1, h2⟩ := rAs_get (j := j) h.2 (by simpa using e)
    exact ⟨x', by simpa using h1, h2⟩
  | [], _ :: _, _, _, h, _ => h.elim
  | _ :: _, [], _, _, h, _ => h.elim

theorem Vw_tag {b : List (Nat × Nat × Blk)} {t t' : Bool} {B : Nat} (h : Vw X b σ w t B) (ht : t' = true → t = true) : Vw X b σ w t' B := h.weak ht

theorem rA0_ok {x y : SV} {v : Value} (h : rA0 s x y) (hx : V0 X s.b s.c σ w x v) : V0 X s.b s.c σ w y v := by
  cases x <;> cases y <;> simp only [rA0] at h
  case bool.bool => subst h; exact hx
  case int.int => obtain ⟨rfl, rfl⟩ := h; exact hx
  case str.str => subst h; exact hx
  case nil.nil => exact hx
  case nil.view t d =>
    rw [show v = _ from hx]
    exact ⟨none, 0, by rw [h], by omega, fun hne => absurd h hne⟩
  case view.view t d t' d' =>
    obtain ⟨h1, rfl⟩ := h
    obtain ⟨a, cap, e, h2, h3⟩ := hx
    refine ⟨a, cap, e, h2, fun hne => ?_⟩
    obtain ⟨B, o, e, h4, hh⟩ := h3 hne
    exact ⟨B, o, e, h4.weak h1, hh⟩

theorem rAl_ok : ∀ {l m : List SV} {cs : List Value}, rAl s l m → CellsOk X s.b s.c σ w l cs → CellsOk X s.b s.c σ w m cs := by
  intro l
  induction l with
  | nil => intro m cs h hx; cases m <;> simp only [rAl] at h; exact hx
  | cons x r ih =>
    intro m cs h hx
    cases m with
    | nil => cases x <;> simp only [rAl] at h
    | cons y m =>
      have gen : rA0 s x y ∧ rAl s r m → (∃ v cs', cs = v :: cs' ∧ V0 X s.b s.c σ w x v ∧ CellsOk X s.b s.c σ w r cs') → CellsOk X s.b s.c σ w (y :: m) cs := by
        rintro ⟨h1, h2⟩ ⟨v, cs', rfl, h3, h4⟩
        have h5 := rA0_ok h1 h3
        have h6 := ih h2 h4
        cases y
        case arr => cases x <;> simp only [rA0] at h1
        all_goals exact ⟨v, cs', rfl, h5, h6⟩
      cases x
      case arr k n q =>
        cases y <;> simp only [rAl, rA0, false_and] at h
        obtain ⟨⟨rfl, rfl, rfl⟩, h2⟩ := h
        obtain ⟨h1, cs', rfl, h3⟩ := hx
        exact ⟨h1, cs', rfl, ih h2 h3⟩
      all_goals exact gen (by simpa only [rAl] using h) hx

theorem retQ_ok (hR : R X s σ w a) {xs : List SV} {rs : List AV} (h : retQ s xs rs) {vs : List Value} (hl : vs.length = xs.length) (hv : ∀ (j : Nat) (x : SV) (v : Value), xs[j]? = some x → vs[j]? = some v → V X s.b s.c σ w x v) :
    ∃ σ', R X ⟨svs 0 rs, blks 0 rs, ⟨1, [], 0⟩⟩ σ' w ⟨vs.toArray, []⟩ := by
  obtain ⟨hm, hnd, hbare⟩ := h
  have hlen := rAs_len hm
  let σ1 : Env := fun m => match xs[m]? with | some (.sl n _ _ _ _ _) => σ n | _ => none
  have hown : ∀ (j n g seg e off len : Nat) (d : Data), xs[j]? = some (SV.sl n g seg e off len) → rs[j]? = some (AV.own d) → fnd s.b n = some (g, .vec d) ∧ seg = 0 ∧ e = d.esz ∧ off = 0 ∧ len = d.len := by
    intro j n g seg e off len d h1 h2
    obtain ⟨x, h3, h4⟩ := rAs_get hm h2
    rw [h1] at h3
    simp only [Option.some.injEq] at h3
    subst h3
    simp only [rA] at h4
    cases eb : blkAt s.b n g <;> simp only [eb] at h4
    rename_i bk
    cases bk <;> simp only at h4
    obtain ⟨rfl, h5, h6, h7, h8⟩ := h4
    exact ⟨blkAt_fnd eb, h5, h6, h7, h8⟩
  have hVw : ∀ B, Vw X s.b σ w true B → Vw X (blks 0 rs) σ1 w true B := by
    intro B hv
    rcases hv.2 with ⟨h, _⟩ | ⟨h1, h2⟩
    · simp at h
    · refine ⟨hv.1, .inr ⟨h1, ?_⟩⟩
      rintro ⟨m, z, hz, hs⟩
      obtain ⟨j, d, rfl, hj, _⟩ := fnd_blks hz
      simp only [σ1, Nat.zero_add] at hs
      obtain ⟨x, hx, _⟩ := rAs_get hm hj
      rw [hx] at hs
      cases x <;> simp only [reduceCtorEq] at hs
      obtain ⟨h3, _⟩ := hown _ _ _ _ _ _ _ _ hx hj
      exact h2 ⟨_, _, h3, hs⟩
  refine ⟨σ1, by simp [svs_length, hl, hlen], ?_, rfl, ?_, ?_, hR.fr, hR.st, hR.ro, hR.gl⟩
  · intro j hj
    rw [svs_length] at hj
    obtain ⟨y, hy⟩ : ∃ y, rs[j]? = some y := ⟨rs[j], by simp [hj]⟩
    obtain ⟨x, hx, hma⟩ := rAs_get hm hy
    have hjv : j < vs.length := by omega
    have hvj : vs[j]? = some vs[j] := by simp [hjv]
    have hV := hv j x _ hx hvj
    have e1 : (svs 0 rs).getD j .any = y.sv (0 + j) := by simp [List.getD, svs_get, hy]
    have e2 : vs.toArray.getD j undef = vs[j] := by
      have : vs.toArray[j]? = some vs[j] := by rw [List.getElem?_toArray]; exact hvj
      rw [Array.getD_eq_getD_getElem?, this]; rfl
    show V X (blks 0 rs) ⟨1, [], 0⟩ σ1 w ((svs 0 rs).getD j .any) (vs.toArray.getD j undef)
    rw [e1, e2]
    cases y with
    | v y =>
      refine V_of_V2 (V2_of_V1 ?_)
      refine bare_tr (c := s.c) (bares_get hbare hy) ?_ hVw
      have gen : rA0 s x y → V0 X s.b s.c σ w x vs[j] → V X s.b s.c σ w y vs[j] := fun h1 h2 => V_of_V2 (V2_of_V1 (V1_of_V0 (rA0_ok h1 h2)))
      cases x <;> cases y <;> simp only [rA, rA0] at hma <;> try (exact gen hma hV)
      case arr.arr => obtain ⟨rfl, rfl, rfl⟩ := hma; exact hV
      case agg.agg l l' =>
        obtain ⟨cs, e, hcs⟩ := hV
        exact ⟨cs, e, rAl_ok hma hcs⟩
    | own dd =>
      simp only [AV.sv, Nat.zero_add]
      refine ⟨.inl Nat.zero_lt_one, fun _ => ?_⟩
      have e3 : σ1 j = (match xs[j]? with | some (.sl n _ _ _ _ _) => σ n | _ => none) := rfl
      rw [e3, hx]
      cases x <;> simp only [rA] at hma
      case nil =>
        rw [show vs[j] = _ from hV]
        exact ⟨none, 0, by rw [hma], by omega, fun h => absurd rfl h⟩
      case sl n g seg e off len =>
        obtain ⟨h1, rfl, rfl, rfl, rfl⟩ := hown j n g seg e off len dd hx hy
        obtain ⟨_, hl⟩ := hV
        exact hl ⟨_, h1⟩
  · intro n g x hx
    obtain ⟨j, dd, hnj, hy, hx'⟩ := fnd_blks hx
    rw [Nat.zero_add] at hnj
    subst hnj
    simp only [Prod.mk.injEq] at hx'
    obtain ⟨rfl, rfl⟩ := hx'
    refine ⟨.inl Nat.zero_lt_one, ?_⟩
    obtain ⟨x, hx2, hma⟩ := rAs_get hm hy
    have e3 : σ1 n = (match xs[n]? with | some (.sl n _ _ _ _ _) => σ n | _ => none) := rfl
    show BlkOk X (blks 0 rs) ⟨1, [], 0⟩ σ1 w n (.vec dd) ∧ ∀ B, σ1 n = some B → B < w.heap.size ∧ (X.mt B ∨ X.w0.heap.size ≤ B)
    simp only [BlkOk, e3, hx2]
    cases x <;> simp only [rA] at hma
    case nil => exact ⟨.inl ⟨rfl, hma⟩, fun B hB => by simp at hB⟩
    case sl m g seg e off len =>
      obtain ⟨h1, rfl, rfl, rfl, rfl⟩ := hown n m g seg e off len dd hx2 hy
      obtain ⟨_, h4, h5⟩ := hR.bl m g _ h1
      refine ⟨?_, h5⟩
      rcases h4 with h4 | ⟨B, cs, ty, fr, h6, h7, h8, h9, h10, h11⟩
      · exact .inl h4
      · exact .inr ⟨B, cs, ty, fr, h6, h7, h8, h9, bareD_holds (bares_get hbare hy) h10 hVw, h11⟩
  · intro n m x y B hx hy hs1 hs2
    obtain ⟨j, dd, h1, hj, _⟩ := fnd_blks hx
    obtain ⟨j', dd', h2, hj', _⟩ := fnd_blks hy
    rw [Nat.zero_add] at h1 h2
    subst h1; subst h2
    obtain ⟨x1, hx1, hm1⟩ := rAs_get hm hj
    obtain ⟨x2, hx2, hm2⟩ := rAs_get hm hj'
    have e3 : σ1 n = (match xs[n]? with | some (.sl n _ _ _ _ _) => σ n | _ => none) := rfl
    have e4 : σ1 m = (match xs[m]? with | some (.sl n _ _ _ _ _) => σ n | _ => none) := rfl
    rw [e3, hx1] at hs1
    rw [e4, hx2] at hs2
    cases x1 <;> simp only [reduceCtorEq] at hs1
    cases x2 <;> simp only [reduceCtorEq] at hs2
    obtain ⟨h3, _⟩ := hown _ _ _ _ _ _ _ _ hx1 hj
    obtain ⟨h4, _⟩ := hown _ _ _ _ _ _ _ _ hx2 hj'
    have := hR.inj _ _ _ _ B h3 h4 hs1 hs2
    subst this
    exact own_inj hnd hx1 hj hx2 hj'

/-- One result. -/
def resF (tmps : Array Value) : ResultVar → Sem Value := fun r => match r with | .tmp t => pure (tmps.getD t undef) | .cell q t => do loadVar t (← asAddr (tmps.getD q undef))

theorem results_eq (fn : Func) (tmps : Array Value) : results fn tmps = (do let vs ← fn.results.mapM (resF tmps); pure (if h : vs.size = 1 then vs[0] else .tuple vs)) := rfl

theorem run_results1 {fn : Func} {tmps : Array Value} {r1 : ResultVar} {v1 : Value} (h : fn.results = [r1].toArray) (h1 : (resF tmps r1).run P w = .ok v1 w) : (results fn tmps).run P w = .ok (pack [v1]) w := by
  rw [results_eq, h]
  generalize resF tmps = f at *
  simp [h1, pack]

theorem run_results2 {fn : Func} {tmps : Array Value} {r1 r2 : ResultVar} {v1 v2 : Value} (h : fn.results = [r1, r2].toArray) (h1 : (resF tmps r1).run P w = .ok v1 w) (h2 : (resF tmps r2).run P w = .ok v2 w) : (results fn tmps).run P w = .ok (pack [v1, v2]) w := by
  rw [results_eq, h]
  generalize resF tmps = f at *
  simp [h1, h2, pack]

theorem run_results3 {fn : Func} {tmps : Array Value} {r1 r2 r3 : ResultVar} {v1 v2 v3 : Value} (h : fn.results = [r1, r2, r3].toArray) (h1 : (resF tmps r1).run P w = .ok v1 w) (h2 : (resF tmps r2).run P w = .ok v2 w) (h3 : (resF tmps r3).run P w = .ok v3 w) : (results fn tmps).run P w = .ok (pack [v1, v2, v3]) w := by
  rw [results_eq, h]
  generalize resF tmps = f at *
  simp [h1, h2, h3, pack]

theorem retP_ok (TO : TabOk P T) (hR : R X s σ w a) {fn : Func} {rs : List AV} (h : retP T fn.results rs s) :
    ∃ vs σ', (results fn a.tmps).run P w = .ok (pack vs) w ∧ R X ⟨svs 0 rs, blks 0 rs, ⟨1, [], 0⟩⟩ σ' w ⟨vs.toArray, []⟩ := by
  unfold retP at h
  obtain ⟨rv, hrv⟩ : ∃ l : List ResultVar, fn.results = l.toArray := ⟨fn.results.toList, by simp⟩
  rw [hrv] at h
  match rv, hrv with
  | [], hrv =>
    simp only [List.map_nil] at h
    obtain ⟨σ', h'⟩ := retQ_ok hR h (vs := []) rfl (fun j x v h1 h2 => by simp at h1)
    exact ⟨[], σ', by simp [results, hrv, pack], h'⟩
  | [r1], hrv =>
    simp only [List.map_cons, List.map_nil] at h
    cases e1 : resV T s r1 <;> simp only [e1] at h
    rename_i q1
    obtain ⟨p1, x1⟩ := q1
    simp only at h
    obtain ⟨v1, hr1, hv1⟩ := resV_ok TO hR e1 h.1
    obtain ⟨σ', h'⟩ := retQ_ok hR h.2 (vs := [v1]) rfl (fun j x v h1 h2 => by
      match j, h1, h2 with
      | 0, h1, h2 => simp at h1 h2; subst h1; subst h2; exact V_unc hv1
      | _ + 1, h1, h2 => simp at h1)
    refine ⟨[v1], σ', ?_, h'⟩
    exact run_results1 hrv hr1
  | [r1, r2], hrv =>
    simp only [List.map_cons, List.map_nil] at h
    cases e1 : resV T s r1 <;> simp only [e1] at h
    rename_i q1
    obtain ⟨p1, x1⟩ := q1
    cases e2 : resV T s r2 <;> simp only [e2] at h
    rename_i q2
    obtain ⟨p2, x2⟩ := q2
    simp only at h
    obtain ⟨v1, hr1, hv1⟩ := resV_ok TO hR e1 h.1
    obtain ⟨v2, hr2, hv2⟩ := resV_ok TO hR e2 h.2.1
    obtain ⟨σ', h'⟩ := retQ_ok hR h.2.2 (vs := [v1, v2]) rfl (fun j x v h1 h2 => by
      match j, h1, h2 with
      | 0, h1, h2 => simp at h1 h2; subst h1; subst h2; exact V_unc hv1
      | 1, h1, h2 => simp at h1 h2; subst h1; subst h2; exact V_unc hv2
      | _ + 2, h1, h2 => simp at h1)
    refine ⟨[v1, v2], σ', ?_, h'⟩
    exact run_results2 hrv hr1 hr2
  | [r1, r2, r3], hrv =>
    simp only [List.map_cons, List.map_nil] at h
    cases e1 : resV T s r1 <;> simp only [e1] at h
    rename_i q1
    obtain ⟨p1, x1⟩ := q1
    cases e2 : resV T s r2 <;> simp only [e2] at h
    rename_i q2
    obtain ⟨p2, x2⟩ := q2
    cases e3 : resV T s r3 <;> simp only [e3] at h
    rename_i q3
    obtain ⟨p3, x3⟩ := q3
    simp only at h
    obtain ⟨v1, hr1, hv1⟩ := resV_ok TO hR e1 h.1
    obtain ⟨v2, hr2, hv2⟩ := resV_ok TO hR e2 h.2.1
    obtain ⟨v3, hr3, hv3⟩ := resV_ok TO hR e3 h.2.2.1
    obtain ⟨σ', h'⟩ := retQ_ok hR h.2.2.2 (vs := [v1, v2, v3]) rfl (fun j x v h1 h2 => by
      match j, h1, h2 with
      | 0, h1, h2 => simp at h1 h2; subst h1; subst h2; exact V_unc hv1
      | 1, h1, h2 => simp at h1 h2; subst h1; subst h2; exact V_unc hv2
      | 2, h1, h2 => simp at h1 h2; subst h1; subst h2; exact V_unc hv3
      | _ + 3, h1, h2 => simp at h1)
    refine ⟨[v1, v2, v3], σ', ?_, h'⟩
    exact run_results3 hrv hr1 hr2 hr3
  | _ :: _ :: _ :: _ :: _, hrv =>
    exfalso
    simp only [List.map_cons] at h
    split at h <;> simp_all

theorem meets_of_run (TO : TabOk P T) {f : FuncId} {fn : Func} {c : Code} {args rs : List AV} (hf : P.funcs[f]? = some fn) (hb : fn.body = some c)
    (h : ∀ X, HRun P X [.code c] ⟨svs 1000 args ++ List.replicate (fn.ntmps - args.length) .any, blks 1000 args, ⟨1, [], 0⟩⟩ (retP T fn.results rs)) : Meets P f args rs := by
  intro X σ vals hR
  refine calls_of_fin hf hb ?_
  have hsz : vals.size = args.length := by have := hR.sz; simpa [svs_length] using this
  have hR2 : R X ⟨svs 1000 args ++ List.replicate (fn.ntmps - args.length) .any, blks 1000 args, ⟨1, [], 0⟩⟩ σ X.w0 { tmps := vals ++ Array.replicate (fn.ntmps - vals.size) undef, defers := [] } := by
    refine { hR with sz := by simp [svs_length, hsz], tm := fun i hi => ?_ }
    by_cases hlt : i < args.length
    · have h1 := hR.tm i (by rw [svs_length]; exact hlt)
      have e1 : (svs 1000 args ++ List.replicate (fn.ntmps - args.length) SV.any).getD i .any = (svs 1000 args).getD i .any := by
        simp only [List.getD]; rw [List.getElem?_append_left (by rw [svs_length]; exact hlt)]
      have e2 : (vals ++ Array.replicate (fn.ntmps - vals.size) undef).getD i undef = vals.getD i undef := by
        rw [Array.getD_eq_getD_getElem?, Array.getD_eq_getD_getElem?, Array.getElem?_append_left (by omega)]
      show V X (blks 1000 args) ⟨1, [], 0⟩ σ X.w0 ((svs 1000 args ++ List.replicate (fn.ntmps - args.length) SV.any).getD i .any) ((vals ++ Array.replicate (fn.ntmps - vals.size) undef).getD i undef)
      rw [e1, e2]; exact h1
    · have e1 : (svs 1000 args ++ List.replicate (fn.ntmps - args.length) SV.any).getD i .any = .any := by
        simp only [List.getD]; rw [List.getElem?_append_right (by rw [svs_length]; omega)]
        rw [List.getElem?_replicate]; split <;> rfl
      show V X (blks 1000 args) ⟨1, [], 0⟩ σ X.w0 ((svs 1000 args ++ List.replicate (fn.ntmps - args.length) SV.any).getD i .any) _
      rw [e1]; exact V.any _
  intro b cs
  obtain ⟨a', w', t', ⟨s', σ', hp, hR', _⟩, hs⟩ := h X σ X.w0 _ hR2 b cs
  obtain ⟨vs, σ2, hr, hR3⟩ := retP_ok TO hR' hp
  exact ⟨a', w', t', ⟨hR'.df, pack vs, hr, vs, σ2, rfl, hR3⟩, hs⟩

/-- Is the guard answered? -/
def guardIs (ops : Array Oper) (t : List SV) (g : Bool) : Option (Nat × Bool) → Prop
  | none => g = true
  | some (j, w) => guardOf ops t j w = some g

theorem run_callFunc {f : FuncId} {fn : Func} {args : Array Value} (hf : P.funcs[f]? = some fn) (hb : fn.body.isSome = true) (hname : (fn.name == "runtime.NumGoroutine") = false) :
    (callFunc f args).run P w = .ok (.enter f args) w := by
  have hb' : ¬ fn.body = none := by intro h; rw [h] at hb; simp at hb
  have hn' : ¬ fn.name = "runtime.NumGoroutine" := by simpa using hname
  simp [callFunc, hf, hn', hb']

theorem HOps_call {ops : Array Oper} {o : Oper} {rest : List Oper} {k : List Item} {Φ : St → Prop} {f : FuncId} {fn : Func} {arz : Array Operand} {ts : Array TypeId} {d : Nat} {fs rs : List AV}
    (hM : Meets P f fs rs) (ho : o.op = .call { callee := .value (.func f), args := arz, argTypes := ts }) (hd : o.dst = some d) (hg : guardIs ops s.t true o.guard)
    (hf : P.funcs[f]? = some fn) (hb : fn.body.isSome = true) (hname : (fn.name == "runtime.NumGoroutine") = false)
    (hp : callP s d arz.toList fs rs) (hn : HOps P X ops rest k (callS s d arz.toList fs rs) Φ) : HOps P X ops (o :: rest) k s Φ := by
  intro i hi σ w a hR
  have ho' : ops[i]? = some o := by
    have := congrArg (fun l : List Oper => l[0]?) hi
    simpa using this
  have hrest : ops.toList.drop (i + 1) = rest := by
    have := congrArg List.tail hi
    simpa using this
  have hw : Region.wanted o (yielded ops a.tmps) = true := by
    cases e : o.guard with
    | none => simp [Region.wanted, e]
    | some jw => obtain ⟨j, w'⟩ := jw; rw [e] at hg; simp only [Region.wanted, e]; exact guardOf_ok hR hg
  rw [List.length_cons, List.range'_succ]
  refine Fins.opCall (f := f) (args := (arz.toList.map a.eval).toArray) (w' := w) ho' hw ?_ ?_
  · simp only [execOp, ho, resolve]
    have e1 : a.eval (.func f) = .func (.func f) #[] #[] := rfl
    have e2 : (arz.toList.map a.eval).toArray = arz.map a.eval := Array.ext' (by rw [Array.toList_map])
    simp [e1, Deferred.ofValue, invoke, run_callFunc hf hb hname, e2]
  · refine (call_R hR hM hp).mono ?_
    rintro e w' ⟨v, σ', rfl, hR', hT⟩
    exact ⟨v, rfl, by rw [hd]; exact (hn (i + 1) hrest).after hR' hT⟩

/-- An operation that is passed by. -/
theorem HOps_skip {ops : Array Oper} {o : Oper} {rest : List Oper} {k : List Item} {Φ : St → Prop} (hg : guardIs ops s.t false o.guard)
    (hn : HOps P X ops rest k ⟨setD s.t o.dst .any, s.b, s.c⟩ Φ) : HOps P X ops (o :: rest) k s Φ := by
  intro i hi σ w a hR
  have ho' : ops[i]? = some o := by
    have := congrArg (fun l : List Oper => l[0]?) hi
    simpa using this
  have hrest : ops.toList.drop (i + 1) = rest := by
    have := congrArg List.tail hi
    simpa using this
  have hw : Region.wanted o (yielded ops a.tmps) = false := by
    cases e : o.guard with
    | none => rw [e] at hg; exact absurd hg (by simp [guardIs])
    | some jw => obtain ⟨j, w'⟩ := jw; rw [e] at hg; simp only [Region.wanted, e]; exact guardOf_ok hR hg
  rw [List.length_cons, List.range'_succ]
  exact Fins.opSkip ho' hw ((hn (i + 1) hrest).after (R_set hR (V.any _)) Tr.refl)

/-- What a function that was walked into answers, and where the caller goes on. -/
def inRet (T : Tab) (rv : Array ResultVar) (o d : Nat) (t : List SV) (next : St → Prop) (s : St) : Prop :=
  match rv.toList.map (resV T s) with
  | [] => next ⟨t.set d (.tup []), s.b, ⟨s.c.c, s.c.d, o⟩⟩
  | [some (p, x)] => p ∧ next ⟨t.set d x, s.b, ⟨s.c.c, s.c.d, o⟩⟩
  | [some (p, x), some (q, y)] => p ∧ q ∧ next ⟨t.set d (.tup [x, y]), s.b, ⟨s.c.c, s.c.d, o⟩⟩
  | [some (p, x), some (q, y), some (r, z)] => p ∧ q ∧ r ∧ next ⟨t.set d (.tup [x, y, z]), s.b, ⟨s.c.c, s.c.d, o⟩⟩
  | _ => False

theorem V1_of_V {x : SV} {v : Value} (h : V X s.b s.c σ w x v) (hx : flat1 x = true) : V1 X s.b s.c σ w x v := by
  cases x <;> first | exact h | (simp only [flat1, Bool.false_eq_true] at hx; done)

/-- A call, its function walked into; what is entered, and with which values. -/
theorem HOps_inG (TO : TabOk P T) {ops : Array Oper} {o : Oper} {rest : List Oper} {k : List Item} {Φ : St → Prop} {f : FuncId} {fn : Func} {c : Code} {xs : List SV} {d : Nat} (off : Nat)
    (hex : ∀ σ w a, R X s σ w a → ∃ vals : Array Value, (execOp a.eval o).run P w = .ok (.enter f vals) w ∧ vals.size = xs.length ∧ ∀ (j : Nat) (x : SV), xs[j]? = some x → ∃ v, vals[j]? = some v ∧ V2 X s.b s.c σ w x v)
    (hd : o.dst = some d) (hg : guardIs ops s.t true o.guard)
    (hf : P.funcs[f]? = some fn) (hb : fn.body = some c)
    (h : HRun P X [.code c] ⟨xs ++ List.replicate (fn.ntmps - xs.length) .any, s.b, ⟨s.c.c + 1, [], s.c.o + off⟩⟩ (inRet T fn.results s.c.o d s.t (fun s' => flats s' d = true ∧ HOps P X ops rest k s' Φ))) :
    HOps P X ops (o :: rest) k s Φ := by
  intro i hi σ w a hR
  have ho' : ops[i]? = some o := by
    have := congrArg (fun l : List Oper => l[0]?) hi
    simpa using this
  have hrest : ops.toList.drop (i + 1) = rest := by
    have := congrArg List.tail hi
    simpa using this
  have hw : Region.wanted o (yielded ops a.tmps) = true := by
    cases e : o.guard with
    | none => simp [Region.wanted, e]
    | some jw => obtain ⟨j, w'⟩ := jw; rw [e] at hg; simp only [Region.wanted, e]; exact guardOf_ok hR hg
  rw [List.length_cons, List.range'_succ]
  have hbs : fn.body.isSome = true := by rw [hb]; rfl
  obtain ⟨vals, hex1, hvs, hvx⟩ := hex σ w a hR
  refine Fins.opCall (f := f) (args := vals) (w' := w) ho' hw hex1 ?_
  · refine calls_of_fin hf hb ?_
    -- the frame that is entered
    have hb2 := R_bump (o := s.c.o + off) hR
    have hR2 : R X ⟨xs ++ List.replicate (fn.ntmps - xs.length) .any, s.b, ⟨s.c.c + 1, [], s.c.o + off⟩⟩ σ w { tmps := vals ++ Array.replicate (fn.ntmps - vals.size) undef, defers := [] } := by
      refine { hb2 with sz := by simp [hvs], tm := fun j hj => ?_, df := rfl }
      show V X s.b ⟨s.c.c + 1, [], s.c.o + off⟩ σ w ((xs ++ List.replicate (fn.ntmps - xs.length) SV.any).getD j .any) _
      by_cases hlt : j < xs.length
      · obtain ⟨x, hx⟩ : ∃ x, xs[j]? = some x := ⟨xs[j], by simp [hlt]⟩
        obtain ⟨v, hv, hV⟩ := hvx j x hx
        have e1 : (xs ++ List.replicate (fn.ntmps - xs.length) SV.any).getD j .any = x := by
          simp only [List.getD]; rw [List.getElem?_append_left (by omega), hx]; rfl
        have e2 : (vals ++ Array.replicate (fn.ntmps - vals.size) undef).getD j undef = v := by
          rw [Array.getD_eq_getD_getElem?, Array.getElem?_append_left (by omega), hv]; rfl
        rw [e1, e2]
        exact V_of_V2 (hV.tr Tr_bump)
      · have e1 : (xs ++ List.replicate (fn.ntmps - xs.length) SV.any).getD j .any = .any := by
          simp only [List.getD]; rw [List.getElem?_append_right (by omega)]
          rw [List.getElem?_replicate]; split <;> rfl
        rw [e1]; exact V.any _
    refine (h σ w _ hR2).mono ?_
    rintro a' w' ⟨s', σ', hi, hR', hT'⟩
    have hT : Tr X s.b s.c σ w s'.b s'.c σ' w' := Tr_bump.trans hT'
    refine ⟨hR'.df, ?_⟩
    -- back in the caller
    have back : ∀ (xs : List SV) (vs : List Value), (results fn a'.tmps).run P w' = .ok (pack vs) w' → V2 X s'.b s'.c σ' w' (packS xs) (pack vs) → HOps P X ops rest k ⟨s.t.set d (packS xs), s'.b, ⟨s'.c.c, s'.c.d, s.c.o⟩⟩ Φ →
        ∃ v, (results fn a'.tmps).run P w' = .ok v w' ∧ ∃ v_1, Ending.returned v = .returned v_1 ∧ Fins P (.inRegion ops (List.range' (i + 1) rest.length) :: k) (a.put o.dst v_1) w' fun a' w' => ∃ s' σ', Φ s' ∧ R X s' σ' w' a' ∧ Tr X s.b s.c σ w s'.b s'.c σ' w' := by
      intro xs vs hr hv hn
      refine ⟨pack vs, hr, pack vs, rfl, ?_⟩
      rw [hd]
      have hT2 : Tr X s.b s.c σ w s'.b ⟨s'.c.c, s'.c.d, s.c.o⟩ σ' w' := ⟨hT.cc, hT.lv, hT.vw, hT.bs⟩
      have hT3 : Tr X s'.b s'.c σ' w' s'.b ⟨s'.c.c, s'.c.d, s.c.o⟩ σ' w' := ⟨fun _ _ h => h, fun _ _ h _ => ⟨h, rfl⟩, fun _ _ h => ⟨rfl, h⟩, fun _ _ _ _ _ _ => Nat.le_refl _⟩
      have ht := put_tm (dst := some d) hR.sz (fun i hi => (hR.tm i hi).tr hT2) (V_of_V2 (hv.tr hT3))
      refine (hn (i + 1) hrest).after ?_ hT2
      exact { hR' with
        sz := ht.1
        tm := ht.2
        df := hR.df
        bl := fun n g x hx => let ⟨h1, h2, h3⟩ := hR'.bl n g x hx; ⟨h1, h2.tr hT3 rfl (fun _ _ => rfl), h3⟩ }
    unfold inRet at hi
    obtain ⟨rv, hrv⟩ : ∃ l : List ResultVar, fn.results = l.toArray := ⟨fn.results.toList, by simp⟩
    rw [hrv] at hi
    match rv, hrv with
    | [], hrv =>
      simp only [List.map_nil] at hi
      exact back [] [] (by simp [results, hrv, pack]) ⟨#[], rfl, rfl⟩ hi.2
    | [r1], hrv =>
      simp only [List.map_cons, List.map_nil] at hi
      cases e1 : resV T s' r1 <;> simp only [e1] at hi
      rename_i q1
      obtain ⟨p1, x1⟩ := q1
      simp only at hi
      obtain ⟨v1, hr1, hv1⟩ := resV_ok TO hR' e1 hi.1
      refine back [x1] [v1] (run_results1 hrv hr1) ?_ hi.2.2
      have hfl := hi.2.1
      simp only [flats] at hfl
      have hdl : d < s.t.length ∨ ¬ d < s.t.length := Nat.lt_or_ge d _ |>.imp id (fun h => Nat.not_lt.2 h)
      rcases hdl with hdl | hdl
      · have e2 : (s.t.set d x1).getD d .any = x1 := by simp [List.getD, hdl]
        rw [e2] at hfl
        have h9 : V2 X s'.b s'.c σ' w' x1 v1 := V2_of_V' hv1 hfl
        exact h9
      · have e2 : (s.t.set d x1).getD d .any = .any := by simp [List.getD, hdl]
        rw [e2] at hfl
        simp [flatV, flat2] at hfl
    | [r1, r2], hrv =>
      simp only [List.map_cons, List.map_nil] at hi
      cases e1 : resV T s' r1 <;> simp only [e1] at hi
      rename_i q1
      obtain ⟨p1, x1⟩ := q1
      cases e2 : resV T s' r2 <;> simp only [e2] at hi
      rename_i q2
      obtain ⟨p2, x2⟩ := q2
      simp only at hi
      obtain ⟨v1, hr1, hv1⟩ := resV_ok TO hR' e1 hi.1
      obtain ⟨v2, hr2, hv2⟩ := resV_ok TO hR' e2 hi.2.1
      refine back [x1, x2] [v1, v2] (run_results2 hrv hr1 hr2) ?_ hi.2.2.2
      have hfl := flats_tup hi.2.2.1
      simp only [List.all_cons, List.all_nil, Bool.and_true, Bool.and_eq_true] at hfl
      exact ⟨_, rfl, v1, _, rfl, V1_of_V hv1 hfl.1, v2, _, rfl, V1_of_V hv2 hfl.2, rfl⟩
    | [r1, r2, r3], hrv =>
      simp only [List.map_cons, List.map_nil] at hi
      cases e1 : resV T s' r1 <;> simp only [e1] at hi
      rename_i q1
      obtain ⟨p1, x1⟩ := q1
      cases e2 : resV T s' r2 <;> simp only [e2] at hi
      rename_i q2
      obtain ⟨p2, x2⟩ := q2
      cases e3 : resV T s' r3 <;> simp only [e3] at hi
      rename_i q3
      obtain ⟨p3, x3⟩ := q3
      simp only at hi
      obtain ⟨v1, hr1, hv1⟩ := resV_ok TO hR' e1 hi.1
      obtain ⟨v2, hr2, hv2⟩ := resV_ok TO hR' e2 hi.2.1
      obtain ⟨v3, hr3, hv3⟩ := resV_ok TO hR' e3 hi.2.2.1
      refine back [x1, x2, x3] [v1, v2, v3] (run_results3 hrv hr1 hr2 hr3) ?_ hi.2.2.2.2
      have hfl := flats_tup hi.2.2.2.1
      simp only [List.all_cons, List.all_nil, Bool.and_true, Bool.and_eq_true] at hfl
      exact ⟨_, rfl, v1, _, rfl, V1_of_V hv1 hfl.1, v2, _, rfl, V1_of_V hv2 hfl.2.1, v3, _, rfl, V1_of_V hv3 hfl.2.2, rfl⟩
    | _ :: _ :: _ :: _ :: _, hrv =>
      exfalso
      simp only [List.map_cons] at hi
      split at hi <;> simp_all

/-- A call, its function walked into. -/
theorem HOps_in (TO : TabOk P T) {ops : Array Oper} {o : Oper} {rest : List Oper} {k : List Item} {Φ : St → Prop} {f : FuncId} {fn : Func} {c : Code} {arz : Array Operand} {ts : Array TypeId} {d : Nat} (off : Nat)
    (ho : o.op = .call { callee := .value (.func f), args := arz, argTypes := ts }) (hd : o.dst = some d) (hg : guardIs ops s.t true o.guard)
    (hf : P.funcs[f]? = some fn) (hb : fn.body = some c) (hname : (fn.name == "runtime.NumGoroutine") = false) (hgd : gdPs s.t true arz.toList)
    (h : HRun P X [.code c] ⟨argC s.t arz.toList ++ List.replicate (fn.ntmps - arz.size) .any, s.b, ⟨s.c.c + 1, [], s.c.o + off⟩⟩ (inRet T fn.results s.c.o d s.t (fun s' => flats s' d = true ∧ HOps P X ops rest k s' Φ))) :
    HOps P X ops (o :: rest) k s Φ := by
  have hlen : (argC s.t arz.toList).length = arz.size := by simp [argC]
  have hbs : fn.body.isSome = true := by rw [hb]; rfl
  refine HOps_inG TO (f := f) (xs := argC s.t arz.toList) off (fun σ w a hR => ⟨(arz.toList.map a.eval).toArray, ?_, by simp [hlen], fun j x hx => ?_⟩) hd hg hf hb (by rw [hlen]; exact h)
  · simp only [execOp, ho, resolve]
    have e1 : a.eval (.func f) = .func (.func f) #[] #[] := rfl
    have e2 : (arz.toList.map a.eval).toArray = arz.map a.eval := Array.ext' (by rw [Array.toList_map])
    simp [e1, Deferred.ofValue, invoke, run_callFunc hf hbs hname, e2]
  · obtain ⟨v, hv, hV⟩ := evalsC hR hgd hx
    exact ⟨v, by rw [List.getElem?_toArray]; exact hv, hV⟩

theorem All1_get {b : List (Nat × Nat × Blk)} {cl : Lim} : ∀ {l : List SV} {vs : List Value} {j : Nat} {x : SV}, All1 X b cl σ w l vs → l[j]? = some x → ∃ v, vs[j]? = some v ∧ V1 X b cl σ w x v
  | [], vs, j, x, _, h => by simp at h
  | y :: l, vs, 0, x, h, e => by
    obtain ⟨v, vs', rfl, h1, _⟩ := h
    simp only [List.getElem?_cons_zero, Option.some.injEq] at e
    subst e
    exact ⟨v, rfl, h1⟩
  | y :: l, vs, j + 1, x, h, e => by
    obtain ⟨v, vs', rfl, _, h2⟩ := h
    simpa using All1_get h2 (by simpa using e)

theorem All1_len {b : List (Nat × Nat × Blk)} {cl : Lim} : ∀ {l : List SV} {vs : List Value}, All1 X b cl σ w l vs → l.length = vs.length
  | [], vs, h => by rw [show vs = [] from h]; rfl
  | y :: l, vs, h => by
    obtain ⟨v, vs', rfl, _, h2⟩ := h
    simp [All1_len h2]

/-- A call of a closure, its function walked into. -/
theorem HOps_inClo (TO : TabOk P T) {ops : Array Oper} {o : Oper} {rest : List Oper} {k : List Item} {Φ : St → Prop} {f : FuncId} {fn : Func} {c : Code} {y : Operand} {caps : List SV} {arz : Array Operand} {ts : Array TypeId} {d : Nat} (off : Nat)
    (ho : o.op = .call { callee := .value y, args := arz, argTypes := ts }) (hy : ungd (evO s.t y) = .clo (.func f) [] caps) (hd : o.dst = some d) (hg : guardIs ops s.t true o.guard)
    (hf : P.funcs[f]? = some fn) (hb : fn.body = some c) (hname : (fn.name == "runtime.NumGoroutine") = false) (hgd : gdPs s.t true (y :: arz.toList))
    (h : HRun P X [.code c] ⟨(argC s.t arz.toList ++ caps) ++ List.replicate (fn.ntmps - (argC s.t arz.toList ++ caps).length) .any, s.b, ⟨s.c.c + 1, [], s.c.o + off⟩⟩ (inRet T fn.results s.c.o d s.t (fun s' => flats s' d = true ∧ HOps P X ops rest k s' Φ))) :
    HOps P X ops (o :: rest) k s Φ := by
  have hlen : (argC s.t arz.toList).length = arz.size := by simp [argC]
  have hbs : fn.body.isSome = true := by rw [hb]; rfl
  refine HOps_inG TO (f := f) (xs := argC s.t arz.toList ++ caps) off (fun σ w a hR => ?_) hd hg hf hb h
  have hV := V_ungd (V_evO hR y) hgd.1 rfl
  rw [hy] at hV
  obtain ⟨vs, us, e0, h1, h2⟩ := hV
  have hvs : vs = #[] := by
    have := All1_len h1
    simpa using this.symm
  subst hvs
  refine ⟨(arz.toList.map a.eval).toArray ++ us, ?_, ?_, fun j x hx => ?_⟩
  · simp only [execOp, ho, resolve]
    have e2 : (arz.toList.map a.eval).toArray = arz.map a.eval := Array.ext' (by rw [Array.toList_map])
    simp [e0, Deferred.ofValue, invoke, run_callFunc hf hbs hname, e2]
  · have := All1_len h2
    simp only [Array.length_toList] at this
    simp [hlen, this]
  · by_cases hj : j < arz.size
    · rw [List.getElem?_append_left (by omega)] at hx
      obtain ⟨v, hv, hV⟩ := evalsC hR hgd.2 hx
      exact ⟨v, by rw [Array.getElem?_append_left (by simp; omega), List.getElem?_toArray]; exact hv, hV⟩
    · rw [List.getElem?_append_right (by omega), hlen] at hx
      obtain ⟨v, hv, hV⟩ := All1_get h2 hx
      exact ⟨v, by rw [Array.getElem?_append_right (by simp; omega)]; simpa using hv, V2_of_V1 hV⟩
end

end Go.Proofs.YtdhnjmepgafeiaaDoor.Abs

/- OWN LIBRARY, part 17: going on by itself behind a call; loops that are unrolled; a law's last step. -/
set_option linter.unusedVariables false
set_option linter.unusedSimpArgs false
namespace Go.Proofs.YtdhnjmepgafeiaaDoor.Abs
open Go

/-- As absRun; loops are gone round, as far as the number reaches. -/
def unrRun (P : Program) (X : Ctx) (T : Tab) (Φ : St → Prop) : Nat → List Item → St → Prop
  | 0, todo, s => HRun P X todo s Φ
  | n + 1, todo, s => match todo with
    | [] => Φ s
    | .code .ret :: _ => Φ s
    | .code .skip :: k => unrRun P X T Φ n k s
    | .inBlock _ :: k => unrRun P X T Φ n k s
    | .code (.seq a b) :: k => unrRun P X T Φ n (.code a :: .code b :: k) s
    | .code (.block id c) :: k => unrRun P X T Φ n (.code c :: .inBlock id :: k) s
    | .code (.loop c) :: k => unrRun P X T Φ n (.code c :: .inLoop c :: k) s
    | .inLoop c :: k => unrRun P X T Φ n (.code c :: .inLoop c :: k) s
    | .code (.exit id) :: k => match exitTo id k with
      | some k' => unrRun P X T Φ n k' s
      | none => HRun P X (.code (.exit id) :: k) s Φ
    | .code (.cond c x y) :: k => match evO s.t c with
      | .bool b => if b = true then unrRun P X T Φ n (.code x :: k) s else unrRun P X T Φ n (.code y :: k) s
      | _ => HRun P X (.code (.cond c x y) :: k) s Φ
    | .code (.region id ops false) :: k => absOps P X T ops k Φ (unrRun P X T Φ n k) ops.toList ⟨s.t, s.b, ⟨s.c.c + 1, [], s.c.o⟩⟩
    | todo => HRun P X todo s Φ

section
variable {P : Program} {T : Tab} {X : Ctx} {s : St} {σ : Env} {w : World} {a : Act}

theorem unrRun_ok (TO : TabOk P T) {Φ : St → Prop} : ∀ (n : Nat) (todo : List Item) (s : St), unrRun P X T Φ n todo s → HRun P X todo s Φ
  | 0, todo, s, h => by simpa only [unrRun] using h
  | n + 1, todo, s, h => by
    unfold unrRun at h
    split at h
    · intro σ w a hR; exact Fins.done ⟨s, σ, h, hR, Tr.refl⟩
    · intro σ w a hR; exact Fins.ret ⟨s, σ, h, hR, Tr.refl⟩
    · intro σ w a hR; exact Fins.skip (unrRun_ok TO n _ s h σ w a hR)
    · intro σ w a hR; exact Fins.inBlock (unrRun_ok TO n _ s h σ w a hR)
    · intro σ w a hR; exact Fins.seq (unrRun_ok TO n _ s h σ w a hR)
    · intro σ w a hR; exact Fins.block (unrRun_ok TO n _ s h σ w a hR)
    · intro σ w a hR; exact Fins.loop (Fins.inLoop (unrRun_ok TO n _ s h σ w a hR))
    · intro σ w a hR; exact Fins.inLoop (unrRun_ok TO n _ s h σ w a hR)
    · rename_i id k
      cases e : exitTo id k with
      | some k' =>
        simp only [e] at h
        intro σ w a hR; exact Fins.exit e (unrRun_ok TO n _ s h σ w a hR)
      | none => simp only [e] at h; exact h
    · rename_i c x y k
      cases e : evO s.t c <;> simp only [e] at h <;> try exact h
      rename_i b
      intro σ w a hR
      have hc := V_evO hR c
      rw [e] at hc
      refine Fins.cond hc ?_
      cases b
      · rw [if_neg (by simp)] at h ⊢; exact unrRun_ok TO n _ s h σ w a hR
      · rw [if_pos rfl] at h ⊢; exact unrRun_ok TO n _ s h σ w a hR
    · exact HRun_region (absOps_ok TO (fun s' h' => unrRun_ok TO n _ s' h') _ _ h)
    · exact h

theorem HOps_go (TO : TabOk P T) (n : Nat) {ops : Array Oper} {rest : List Oper} {k : List Item} {Φ : St → Prop} (h : absOps P X T ops k Φ (absRun P X T Φ n k) rest s) : HOps P X ops rest k s Φ :=
  absOps_ok TO (fun s' h' => absRun_ok TO n _ s' h') _ _ h

theorem HOps_goU (TO : TabOk P T) (n : Nat) {ops : Array Oper} {rest : List Oper} {k : List Item} {Φ : St → Prop} (h : absOps P X T ops k Φ (unrRun P X T Φ n k) rest s) : HOps P X ops rest k s Φ :=
  absOps_ok TO (fun s' h' => unrRun_ok TO n _ s' h') _ _ h

/-- A call by its contract; then on. -/
theorem call_go (TO : TabOk P T) (n : Nat) {ops : Array Oper} {o : Oper} {rest : List Oper} {k : List Item} {Φ : St → Prop} {f : FuncId} {fn : Func} {arz : Array Operand} {ts : Array TypeId} {d : Nat} {fs rs : List AV}
    (hM : Meets P f fs rs) (hf : P.funcs[f]? = some fn) (hname : (fn.name == "runtime.NumGoroutine") = false) (hb : fn.body.isSome = true)
    (ho : o.op = .call { callee := .value (.func f), args := arz, argTypes := ts }) (hd : o.dst = some d)
    (h : guardIs ops s.t true o.guard ∧ callP s d arz.toList fs rs ∧ absOps P X T ops k Φ (absRun P X T Φ n k) rest (callS s d arz.toList fs rs)) : HOps P X ops (o :: rest) k s Φ :=
  HOps_call hM ho hd h.1 hf hb hname h.2.1 (HOps_go TO n h.2.2)

/-- A call that is walked into; then on. -/
theorem in_go (TO : TabOk P T) (off n m : Nat) {ops : Array Oper} {o : Oper} {rest : List Oper} {k : List Item} {Φ : St → Prop} {f : FuncId} {fn : Func} {c : Code} {arz : Array Operand} {ts : Array TypeId} {d : Nat}
    (hf : P.funcs[f]? = some fn) (hname : (fn.name == "runtime.NumGoroutine") = false) (hb : fn.body = some c)
    (ho : o.op = .call { callee := .value (.func f), args := arz, argTypes := ts }) (hd : o.dst = some d)
    (h : guardIs ops s.t true o.guard ∧ gdPs s.t true arz.toList ∧ absRun P X T (inRet T fn.results s.c.o d s.t (fun s' => flats s' d = true ∧ absOps P X T ops k Φ (absRun P X T Φ n k) rest s')) m [.code c] ⟨argC s.t arz.toList ++ List.replicate (fn.ntmps - arz.size) .any, s.b, ⟨s.c.c + 1, [], s.c.o + off⟩⟩) :
    HOps P X ops (o :: rest) k s Φ := by
  refine HOps_in TO off ho hd h.1 hf hb hname h.2.1 ((absRun_ok TO m _ _ h.2.2).mono ?_)
  intro s' hs
  unfold inRet at hs ⊢
  split at hs
  · exact ⟨hs.1, HOps_go TO n hs.2⟩
  · exact ⟨hs.1, hs.2.1, HOps_go TO n hs.2.2⟩
  · exact ⟨hs.1, hs.2.1, hs.2.2.1, HOps_go TO n hs.2.2.2⟩
  · exact ⟨hs.1, hs.2.1, hs.2.2.1, hs.2.2.2.1, HOps_go TO n hs.2.2.2.2⟩
  · exact hs.elim

/-- An operation that is passed by: what it would have told is said, and never was. -/
theorem HOps_skipG (x : SV) {ops : Array Oper} {o : Oper} {rest : List Oper} {k : List Item} {Φ : St → Prop} (hg : guardIs ops s.t false o.guard)
    (hn : HOps P X ops rest k ⟨setD s.t o.dst (.gd false x), s.b, s.c⟩ Φ) : HOps P X ops (o :: rest) k s Φ := by
  intro i hi σ w a hR
  have ho' : ops[i]? = some o := by
    have := congrArg (fun l : List Oper => l[0]?) hi
    simpa using this
  have hrest : ops.toList.drop (i + 1) = rest := by
    have := congrArg List.tail hi
    simpa using this
  have hw : Region.wanted o (yielded ops a.tmps) = false := by
    cases e : o.guard with
    | none => rw [e] at hg; exact absurd hg (by simp [guardIs])
    | some jw => obtain ⟨j, w'⟩ := jw; rw [e] at hg; simp only [Region.wanted, e]; exact guardOf_ok hR hg
  rw [List.length_cons, List.range'_succ]
  exact Fins.opSkip ho' hw ((hn (i + 1) hrest).after (R_set hR ⟨fun h => by simp at h, fun _ => rfl⟩) Tr.refl)

/-- An operation whose guard says no; then on. -/
theorem skip_go (TO : TabOk P T) (n : Nat) (x : SV) {ops : Array Oper} {o : Oper} {rest : List Oper} {k : List Item} {Φ : St → Prop}
    (h : guardIs ops s.t false o.guard ∧ absOps P X T ops k Φ (absRun P X T Φ n k) rest ⟨setD s.t o.dst (.gd false x), s.b, s.c⟩) : HOps P X ops (o :: rest) k s Φ :=
  HOps_skipG x h.1 (HOps_go TO n h.2)

theorem meets_go (TO : TabOk P T) (n : Nat) {f : FuncId} {fn : Func} {c : Code} {args rs : List AV} (hf : P.funcs[f]? = some fn) (hb : fn.body = some c)
    (h : ∀ X, absRun P X T (retP T fn.results rs) n [.code c] ⟨svs 1000 args ++ List.replicate (fn.ntmps - args.length) .any, blks 1000 args, ⟨1, [], 0⟩⟩) : Meets P f args rs :=
  meets_of_run TO hf hb fun X => absRun_ok TO n _ _ (h X)

theorem meets_goU (TO : TabOk P T) (n : Nat) {f : FuncId} {fn : Func} {c : Code} {args rs : List AV} (hf : P.funcs[f]? = some fn) (hb : fn.body = some c)
    (h : ∀ X, unrRun P X T (retP T fn.results rs) n [.code c] ⟨svs 1000 args ++ List.replicate (fn.ntmps - args.length) .any, blks 1000 args, ⟨1, [], 0⟩⟩) : Meets P f args rs :=
  meets_of_run TO hf hb fun X => unrRun_ok TO n _ _ (h X)

/-- A loop, told: at each round's head the state is one of a family; less may be told, fewer blocks. -/
theorem loop_go {c : Code} {k : List Item} {Φ : St → Prop} {α : Type} (I : α → Prop) (S : α → St) (μ : α → Nat) (x0 : α) (h0 : I x0)
    (hs : s.c = (S x0).c ∧ LeT s.t (S x0).t ∧ ∀ n x, fnd (S x0).b n = some x → fnd s.b n = some x)
    (round : ∀ x, I x → (∀ y s', I y → μ y < μ x → s'.c = (S y).c → LeT s'.t (S y).t → (∀ n x, fnd (S y).b n = some x → fnd s'.b n = some x) → HRun P X (.inLoop c :: k) s' Φ) → HRun P X (.code c :: .inLoop c :: k) (S x) Φ) :
    HRun P X (.code (.loop c) :: k) s Φ := by
  have wk : ∀ (s s' : St), s.c = s'.c → LeT s.t s'.t → (∀ n x, fnd s'.b n = some x → fnd s.b n = some x) → HRun P X (.inLoop c :: k) s' Φ → HRun P X (.inLoop c :: k) s Φ := by
    intro s s' h1 h2 h3 h
    refine HRun.weak h2 (HRun.dropB (b := s'.b) h3 ?_)
    rw [h1]; exact h
  refine HRun.loop I S μ x0 h0 (wk _ _ hs.1 hs.2.1 hs.2.2) (fun x hx ih => round x hx (fun y s' hy hlt e1 e2 e3 => wk _ _ e1 e2 e3 (ih y hy hlt)))

end

end Go.Proofs.YtdhnjmepgafeiaaDoor.Abs

/- OWN LIBRARY, part 18: a region that draws its order: one walk in the written order serves all of them. -/
set_option linter.unusedVariables false
set_option linter.unusedSimpArgs false
namespace Go.Proofs.YtdhnjmepgafeiaaDoor.Abs
open Go

def SubB (b b' : List (Nat × Nat × Blk)) : Prop := ∀ n x, fnd b n = some x → fnd b' n = some x

/-- One operation, told by what it needs of the machine. -/
def Sem (P : Program) (X : Ctx) (ops : Array Oper) (o : Oper) (s s' : St) : Prop := ∀ σ w a, R X s σ w a →
  (Region.wanted o (yielded ops a.tmps) = true ∧ Does P X s σ s' w a o) ∨
  (Region.wanted o (yielded ops a.tmps) = false ∧ ∃ σ', R X s' σ' w (a.put o.dst undef) ∧ Tr X s.b s.c σ w s'.b s'.c σ' w) ∨
  (Region.wanted o (yielded ops a.tmps) = true ∧ ∃ f args, (execOp a.eval o).run P w = .ok (.enter f args) w ∧
    Calls P f args w fun e w' => ∃ v σ', e = .returned v ∧ R X s' σ' w' (a.put o.dst v) ∧ Tr X s.b s.c σ w s'.b s'.c σ' w')

/-- Two rows of values that are alike at all that an operation looks at. -/
def Agree (ops : Array Oper) (o : Oper) (t t' : List SV) : Prop := t'.length = t.length ∧ ∀ d, d ∈ o.looksAt ops → t'.getD d .any = t.getD d .any

def StepT (P : Program) (X : Ctx) (ops : Array Oper) (o : Oper) (s : St) (x : SV) (b' : List (Nat × Nat × Blk)) (c' : Lim) : Prop :=
  ∀ t', Agree ops o s.t t' → Sem P X ops o ⟨t', s.b, s.c⟩ ⟨setD t' o.dst x, b', c'⟩

def PureT (P : Program) (X : Ctx) (ops : Array Oper) (I : List (Nat × Nat × Blk) → Prop) (o : Oper) (t : List SV) (x : SV) : Prop :=
  ∀ t' b' c', Agree ops o t t' → I b' → Sem P X ops o ⟨t', b', c'⟩ ⟨setD t' o.dst x, b', c'⟩

def OpT (P : Program) (X : Ctx) (ops : Array Oper) (I : List (Nat × Nat × Blk) → Prop) (e : Bool) (o : Oper) (s : St) (K : St → Prop) : Prop :=
  match e with
  | false => ∃ x, PureT P X ops I o s.t x ∧ K ⟨setD s.t o.dst x, s.b, s.c⟩
  | true => ∃ x b' c', StepT P X ops o s x b' c' ∧ I b' ∧ K ⟨setD s.t o.dst x, b', c'⟩

/-- Does it make or write memory, or call? -/
def isEff (T : Tab) : Op → Bool
  | .move _ | .assign _ | .binOp _ _ _ _ _ | .unOp _ _ _ | .nilCheck _ | .fieldAddr _ _ _ | .indexAddr _ _ _ | .index _ _ _ | .extract _ _ | .slice _ _ _ _ _ | .load _ _ | .pick _ _ _ | .build _ _ | .sliceToArrayPointer _ _ | .field _ _ _ => false
  | .call { callee := .builtin .len, args := _, argTypes := _ } => false
  | .call { callee := .builtin .cap, args := _, argTypes := _ } => false
  | .convert _ dst _ => match T.ty dst with | .slice _ => true | _ => false
  | _ => true

section
variable {P : Program} {T : Tab} {X : Ctx} {ops : Array Oper} {I : List (Nat × Nat × Blk) → Prop}

theorem SubB.rfl' {b : List (Nat × Nat × Blk)} : SubB b b := fun _ _ h => h

theorem OpT.mono {e : Bool} {o : Oper} {s : St} {K K' : St → Prop} (h : ∀ s, K s → K' s) (hh : OpT P X ops I e o s K) : OpT P X ops I e o s K' := by
  cases e
  · obtain ⟨x, h1, h2⟩ := hh; exact ⟨x, h1, h _ h2⟩
  · obtain ⟨x, b', c', h1, h2, h3⟩ := hh; exact ⟨x, b', c', h1, h2, h _ h3⟩

theorem Agree.refl {o : Oper} {t : List SV} : Agree ops o t t := ⟨rfl, fun _ _ => rfl⟩

theorem setD_length {t : List SV} {d : Option Nat} {x : SV} : (setD t d x).length = t.length := by cases d <;> simp [setD]

theorem getD_setD {t : List SV} {d : Option Nat} {x : SV} {j : Nat} (h : ∀ d', d = some d' → d' ≠ j) : (setD t d x).getD j .any = t.getD j .any := by
  cases d with
  | none => rfl
  | some d =>
    have := h d rfl
    simp [setD, List.getD, List.getElem?_set, this]

theorem Agree.put {oi oj : Oper} {t : List SV} {x : SV} (h : ∀ d, oi.dst = some d → d ∉ oj.looksAt ops) : Agree ops oj t (setD t oi.dst x) :=
  ⟨setD_length, fun j hj => getD_setD fun d hd hdj => h d hd (hdj ▸ hj)⟩

theorem Agree.trans {o : Oper} {t t' t'' : List SV} (h : Agree ops o t t') (k : Agree ops o t' t'') : Agree ops o t t'' := ⟨k.1.trans h.1, fun d hd => (k.2 d hd).trans (h.2 d hd)⟩
theorem Agree.symm {o : Oper} {t t' : List SV} (h : Agree ops o t t') : Agree ops o t' t := ⟨h.1.symm, fun d hd => (h.2 d hd).symm⟩

theorem setD_comm {t : List SV} {d e : Option Nat} {x y : SV} (h : ∀ d', d = some d' → e ≠ some d') : setD (setD t d x) e y = setD (setD t e y) d x := by
  cases d with
  | none => rfl
  | some d =>
    cases e with
    | none => rfl
    | some e =>
      have : d ≠ e := fun he => h d rfl (he ▸ rfl)
      simp only [setD]
      rw [List.set_comm _ _ this]

/-- Whatever order is drawn from here on, so many operations; then what the rest asks. -/
def AnyT (P : Program) (X : Ctx) (T : Tab) (ops : Array Oper) (I : List (Nat × Nat × Blk) → Prop) (m : Nat) (Q : Array Bool → St → Prop) : Nat → Array Bool → St → Prop
  | 0, listed, s => (∀ j ∈ Region.ready .any ops listed, m ≤ j) ∧ Q listed s
  | fuel + 1, listed, s => Region.ready .any ops listed ≠ [] ∧ ∀ j ∈ Region.ready .any ops listed, ∃ o, ops[j]? = some o ∧ OpT P X ops I (isEff T o.op) o s (AnyT P X T ops I m Q fuel (listed.setIfInBounds j true))

/-- What is listed has all that it waits for listed. -/
def Closed (ops : Array Oper) (listed : Array Bool) : Prop := ∀ j oj, ops[j]? = some oj → listed.getD j false = true → ∀ e ∈ oj.after, Region.binds .any e = true → listed.getD e.on false = true

theorem Closed.set {listed : Array Bool} (h : Closed ops listed) {i : Nat} (hi : i ∈ Region.ready .any ops listed) : Closed ops (listed.setIfInBounds i true) := by
  intro j oj hj hl e he hb
  by_cases hji : j = i
  · subst hji
    obtain ⟨_, o, ho, hall⟩ := mem_ready.1 hi
    obtain rfl : oj = o := by rw [hj] at ho; exact Option.some.inj ho
    exact getD_set_true (hall e he hb)
  · rw [getD_set_ne false (Ne.symm hji)] at hl
    exact getD_set_true (h j oj hj hl e he hb)

theorem Closed.none {n : Nat} : Closed ops (Array.replicate n false) := by
  intro j oj hj hl
  exfalso
  rw [Array.getD_eq_getD_getElem?] at hl
  by_cases h : j < n <;> simp [h] at hl

/-- Does it wait for the operation, at once or by calls between? -/
def waitsC (ops : Array Oper) (i : Nat) : Nat → Nat → Bool
  | 0, _ => false
  | f + 1, j => match ops[j]? with
    | some oj => oj.after.any fun e => Region.binds .any e && (e.on == i || ((decide (e.ground = .chain) || decide (e.ground = .data)) && waitsC ops i f e.on))
    | none => false

theorem waitsC_spec {listed : Array Bool} (hc : Closed ops listed) {i : Nat} (hi : listed.getD i true = false) : ∀ (f j : Nat) (oj : Oper), ops[j]? = some oj → waitsC ops i f j = true → ∃ e ∈ oj.after, Region.binds .any e = true ∧ listed.getD e.on false = false
  | 0, j, oj, _, h => by simp [waitsC] at h
  | f + 1, j, oj, hj, h => by
    simp only [waitsC, hj, Array.any_eq_true] at h
    obtain ⟨k, hk, h⟩ := h
    simp only [Bool.and_eq_true, Bool.or_eq_true, beq_iff_eq, decide_eq_true_eq] at h
    obtain ⟨hb, h⟩ := h
    refine ⟨_, Array.getElem_mem hk, hb, ?_⟩
    rcases h with h | ⟨_, h⟩
    · rw [h]
      rw [Array.getD_eq_getD_getElem?] at hi ⊢
      cases e : listed[i]? with
      | none => rfl
      | some b => rw [e] at hi; exact hi
    · cases eo : ops[oj.after[k].on]? with
      | none => cases f <;> simp [waitsC, eo] at h
      | some o' =>
        obtain ⟨e', he', hb', hu⟩ := waitsC_spec hc hi f _ o' eo h
        cases el : listed.getD oj.after[k].on false with
        | false => rfl
        | true => have := hc _ o' eo el e' he' hb'; rw [hu] at this; cases this

/-- May the operation go ahead of all that do not wait for it? -/
def freeE (T : Tab) (ops : Array Oper) (listed : Array Bool) (i : Nat) : Bool :=
  match ops[i]? with
  | none => false
  | some oi => (List.range ops.size).all fun j => j == i || listed.getD j true || match ops[j]? with
      | some oj => (oi.apart ops oj && !(isEff T oi.op && isEff T oj.op)) || waitsC ops i 12 j
      | none => true

theorem freeE_spec {i : Nat} {oi : Oper} {listed : Array Bool} (hi : ops[i]? = some oi) (h : freeE T ops listed i = true) (j : Nat) (oj : Oper)
    (hj : ops[j]? = some oj) (hne : j ≠ i) (hun : listed.getD j true = false) (hno : waitsC ops i 12 j = false) :
    oi.apart ops oj = true ∧ (isEff T oi.op && isEff T oj.op) = false := by
  simp only [freeE, hi, List.all_eq_true, List.mem_range] at h
  have hlt : j < ops.size := (Array.getElem?_eq_some_iff.1 hj).1
  have := h j hlt
  rw [hun, hj] at this
  simp only [beq_iff_eq, hne, Bool.or_eq_true, Bool.false_eq_true, or_false, false_or, Bool.and_eq_true, Bool.not_eq_true', decide_eq_true_eq, hno] at this
  exact this

/-- Does it wait for the operation by what it is handed? -/
def waitsD (ops : Array Oper) (i : Nat) : Nat → Nat → Bool
  | 0, _ => false
  | f + 1, j => match ops[j]? with
    | some oj => oj.after.any fun e => Region.binds .any e && (e.on == i || (decide (e.ground = .data) && waitsD ops i f e.on))
    | none => false

theorem waitsD_spec {listed : Array Bool} (hc : Closed ops listed) {i : Nat} (hi : listed.getD i true = false) : ∀ (f j : Nat) (oj : Oper), ops[j]? = some oj → waitsD ops i f j = true → ∃ e ∈ oj.after, Region.binds .any e = true ∧ listed.getD e.on false = false
  | 0, j, oj, _, h => by simp [waitsD] at h
  | f + 1, j, oj, hj, h => by
    simp only [waitsD, hj, Array.any_eq_true] at h
    obtain ⟨k, hk, h⟩ := h
    simp only [Bool.and_eq_true, Bool.or_eq_true, beq_iff_eq, decide_eq_true_eq] at h
    obtain ⟨hb, h⟩ := h
    refine ⟨_, Array.getElem_mem hk, hb, ?_⟩
    rcases h with h | ⟨_, h⟩
    · rw [h]
      rw [Array.getD_eq_getD_getElem?] at hi ⊢
      cases e : listed[i]? with
      | none => rfl
      | some b => rw [e] at hi; exact hi
    · cases eo : ops[oj.after[k].on]? with
      | none => cases f <;> simp [waitsD, eo] at h
      | some o' =>
        obtain ⟨e', he', hb', hu⟩ := waitsD_spec hc hi f _ o' eo h
        cases el : listed.getD oj.after[k].on false with
        | false => rfl
        | true => have := hc _ o' eo el e' he' hb'; rw [hu] at this; cases this

def tailOk (ops : Array Oper) (m : Nat) : Bool :=
  (List.range ops.size).all fun j => decide (j < m) || (List.range m).all fun i => waitsD ops i 12 j

theorem tailOk_spec {m : Nat} (h : tailOk ops m = true) {j i : Nat} {listed : Array Bool} (hc : Closed ops listed) (hj : j ∈ Region.ready .any ops listed) (hi : i < m) (hl : listed.getD i true = false) : j < m := by
  rcases Nat.lt_or_ge j m with h' | h'
  · exact h'
  · exfalso
    obtain ⟨h0, o, ho, hall⟩ := mem_ready.1 hj
    have hlt : j < ops.size := (Array.getElem?_eq_some_iff.1 ho).1
    simp only [tailOk, List.all_eq_true, List.mem_range, Bool.or_eq_true, decide_eq_true_eq] at h
    rcases h j hlt with h1 | h1
    · omega
    · obtain ⟨e, he, hb, hu⟩ := waitsD_spec hc hl 12 j o ho (h1 i hi)
      have h3 := hall e he hb
      rw [hu] at h3; cases h3

theorem anyT_first {m : Nat} {Q : Array Bool → St → Prop} (ht : tailOk ops m = true) {i : Nat} {oi : Oper} (hi : ops[i]? = some oi) (him : i < m) :
    ∀ (fuel : Nat) (listed : Array Bool) (s : St), Closed ops listed →
      (∀ j oj, ops[j]? = some oj → j ≠ i → listed.getD j true = false → waitsC ops i 12 j = false → oi.apart ops oj = true ∧ (isEff T oi.op && isEff T oj.op) = false) →
      i ∈ Region.ready .any ops listed → OpT P X ops I (isEff T oi.op) oi s (AnyT P X T ops I m Q fuel (listed.setIfInBounds i true)) → AnyT P X T ops I m Q (fuel + 1) listed s := by
  intro fuel
  induction fuel with
  | zero =>
    intro listed s hcl0 _ hr H
    refine ⟨fun h => (by rw [h] at hr; cases hr), fun j hj => ?_⟩
    by_cases hji : j = i
    · subst hji; exact ⟨oi, hi, H⟩
    · exfalso
      have h1 := ready_mono hj hji
      have hjm : j < m := tailOk_spec ht hcl0 hj him (mem_ready.1 hr).1
      have h2 : ∃ s', AnyT P X T ops I m Q 0 (listed.setIfInBounds i true) s' := by
        cases e : isEff T oi.op <;> simp only [e, OpT] at H
        · obtain ⟨x, _, h⟩ := H; exact ⟨_, h⟩
        · obtain ⟨x, b', c', _, _, h⟩ := H; exact ⟨_, h⟩
      obtain ⟨s', h3, _⟩ := h2
      have := h3 j h1
      omega
  | succ fuel ih =>
    intro listed s hcl hfree hr H
    refine ⟨fun h => (by rw [h] at hr; cases hr), fun j hj => ?_⟩
    by_cases hji : j = i
    · subst hji; exact ⟨oi, hi, H⟩
    · obtain ⟨hjun, oj, hoj, hall⟩ := mem_ready.1 hj
      refine ⟨oj, hoj, ?_⟩
      have hnot : waitsC ops i 12 j = false := by
        cases hw : waitsC ops i 12 j with
        | false => rfl
        | true =>
          obtain ⟨e, he, hb, hu⟩ := waitsC_spec hcl (mem_ready.1 hr).1 12 j oj hoj hw
          have := hall e he hb
          rw [hu] at this; cases this
      have hcl' := hcl.set hj
      obtain ⟨hap, hee⟩ := hfree j oj hoj hji hjun hnot
      obtain ⟨a1, a2, a3⟩ := Oper.apart_spec hap
      have a2' : ∀ d, oj.dst = some d → oi.dst ≠ some d := fun d h1 h2 => a2 d h2 h1
      have hfree' : ∀ k ok, ops[k]? = some ok → k ≠ i → (listed.setIfInBounds j true).getD k true = false →
          waitsC ops i 12 k = false → oi.apart ops ok = true ∧ (isEff T oi.op && isEff T ok.op) = false := fun k ok hk hki hun hno => by
        refine hfree k ok hk hki ?_ hno
        by_cases hjk : j = k
        · subst hjk; exact hjun
        · rw [getD_set_ne true hjk] at hun; exact hun
      have hr' : i ∈ Region.ready .any ops (listed.setIfInBounds j true) := ready_mono hr (Ne.symm hji)
      have hcomm : (listed.setIfInBounds i true).setIfInBounds j true = (listed.setIfInBounds j true).setIfInBounds i true := Array.setIfInBounds_comm _ _ (Ne.symm hji)
      -- the operation ahead, and what comes behind it
      cases ei : isEff T oi.op with
      | false =>
        simp only [ei, OpT] at H
        obtain ⟨x, hx, hK⟩ := H
        obtain ⟨oj', hoj', hj2⟩ := hK.2 j (ready_mono hj hji)
        obtain rfl : oj = oj' := by rw [hoj] at hoj'; exact Option.some.inj hoj'
        cases ej : isEff T oj.op with
        | false =>
          simp only [ej, OpT] at hj2
          obtain ⟨y, hy, hK2⟩ := hj2
          refine ⟨y, fun t' b' c' hag hsub => hy t' b' c' ((Agree.put a1).symm.trans hag) hsub, ih _ _ hcl' hfree' hr' ?_⟩
          simp only [ei, OpT]
          refine ⟨x, fun t' b' c' hag hsub => hx t' b' c' ((Agree.put a3).trans hag) hsub, ?_⟩
          rw [← hcomm, setD_comm a2']
          exact hK2
        | true =>
          simp only [ej, OpT] at hj2
          obtain ⟨y, b2, c2, hy, hs2, hK2⟩ := hj2
          refine ⟨y, b2, c2, fun t' hag => hy t' ((Agree.put a1).symm.trans hag), hs2, ih _ _ hcl' hfree' hr' ?_⟩
          simp only [ei, OpT]
          refine ⟨x, fun t' b' c' hag hsub => hx t' b' c' ((Agree.put a3).trans hag) hsub, ?_⟩
          rw [← hcomm, setD_comm a2']
          exact hK2
      | true =>
        simp only [ei, OpT] at H
        obtain ⟨x, b2, c2, hx, hs2, hK⟩ := H
        obtain ⟨oj', hoj', hj2⟩ := hK.2 j (ready_mono hj hji)
        obtain rfl : oj = oj' := by rw [hoj] at hoj'; exact Option.some.inj hoj'
        have ej : isEff T oj.op = false := by rw [ei] at hee; simpa using hee
        simp only [ej, OpT] at hj2 ⊢
        obtain ⟨y, hy, hK2⟩ := hj2
        refine ⟨y, fun t' b' c' hag hsub => hy t' b' c' ((Agree.put a1).symm.trans hag) hsub, ih _ _ hcl' hfree' hr' ?_⟩
        simp only [ei, OpT]
        refine ⟨x, b2, c2, fun t' hag => hx t' ((Agree.put a3).trans hag), hs2, ?_⟩
        rw [← hcomm, setD_comm a2']
        exact hK2

/-- The walk in the written order. -/
def lexT (P : Program) (X : Ctx) (T : Tab) (ops : Array Oper) (I : List (Nat × Nat × Blk) → Prop) (Q : St → Prop) : List Oper → St → Prop
  | [], s => Q s
  | o :: rest, s => OpT P X ops I (isEff T o.op) o s (lexT P X T ops I Q rest)

def chainB (ops : Array Oper) : Nat → Nat → Array Bool → Bool
  | 0, _, _ => true
  | fuel + 1, k, listed => (Region.ready .any ops listed == [k]) && chainB ops fuel (k + 1) (listed.setIfInBounds k true)

def lexB (T : Tab) (ops : Array Oper) (m : Nat) : Nat → Nat → Array Bool → Bool
  | 0, _, listed => ((Region.ready .any ops listed).all fun j => decide (m ≤ j)) && chainB ops (ops.size - m) m listed
  | fuel + 1, k, listed => (Region.ready .any ops listed).contains k && freeE T ops listed k && lexB T ops m fuel (k + 1) (listed.setIfInBounds k true)

def drawOk (T : Tab) (ops : Array Oper) (m : Nat) : Bool := decide (m ≤ ops.size) && tailOk ops m && lexB T ops m m 0 (Array.replicate ops.size false)

theorem chainB_go : ∀ {fuel k t : Nat} {listed : Array Bool}, chainB ops fuel k listed = true → Region.linearise.go .any ops fuel t listed [] = List.range' k fuel
  | 0, _, _, _, _ => rfl
  | fuel + 1, k, t, listed, h => by
    simp only [chainB, Bool.and_eq_true, beq_iff_eq] at h
    simp only [Region.linearise.go]
    change (match (Region.ready .any ops listed)[t % (Region.ready .any ops listed).length]? with
      | some i => Region.linearise.go .any ops fuel (t / (Region.ready .any ops listed).length) (listed.setIfInBounds i true) [i]
      | none => [].reverse) = _
    rw [h.1]
    have e : ([k] : List Nat)[t % ([k] : List Nat).length]? = some k := by simp [Nat.mod_one]
    rw [e]
    simp only []
    rw [linearise_go_acc, chainB_go h.2, List.range'_succ]
    rfl

theorem anyT_lex {m : Nat} {Q : St → Prop} (ht : tailOk ops m = true) : ∀ (l : List Oper) (k : Nat) (listed : Array Bool) (s : St), (∀ j, j < l.length → l[j]? = ops[k + j]?) → l.length + k ≤ m → Closed ops listed →
    lexB T ops m l.length k listed = true → lexT P X T ops I Q l s → AnyT P X T ops I m (fun li s => chainB ops (ops.size - m) m li = true ∧ Q s) l.length listed s
  | [], k, listed, s, _, _, _, hB, h => by
    simp only [List.length_nil, lexB, Bool.and_eq_true, List.all_eq_true, decide_eq_true_eq] at hB
    exact ⟨hB.1, hB.2, h⟩
  | o :: l, k, listed, s, hl, hk, hcl, hB, h => by
    have h0 : ops[k]? = some o := by simpa using (hl 0 (by simp)).symm
    simp only [List.length_cons, lexB, Bool.and_eq_true] at hB
    obtain ⟨⟨hr, hf⟩, hB'⟩ := hB
    simp only [List.length_cons] at hk
    refine anyT_first ht h0 (by omega) l.length listed s hcl (freeE_spec h0 hf) (by simpa using hr) ?_
    refine OpT.mono (fun s' hs' => anyT_lex ht l (k + 1) _ s' (fun j hj => ?_) (by omega) (hcl.set (by simpa using hr)) hB' hs') h
    have := hl (j + 1) (by simp; omega)
    simpa [Nat.add_assoc, Nat.add_comm 1 j] using this

theorem Sem.fins {o : Oper} {i : Nat} {rest : List Nat} {k : List Item} {s s' : St} {Φ : St → Prop} (h : Sem P X ops o s s') (ho : ops[i]? = some o) (hn : HRun P X (.inRegion ops rest :: k) s' Φ) : HRun P X (.inRegion ops (i :: rest) :: k) s Φ := by
  intro σ w a hR
  rcases h σ w a hR with ⟨hw, nx, u, w', σ', hr, hnx, hR', hT⟩ | ⟨hw, σ', hR', hT⟩ | ⟨hw, f, args, hr, hC⟩
  · refine Fins.opValue (v := u) ho hw ?_ (hn.after hR' hT)
    rcases hnx with rfl | ⟨rfl, rfl⟩
    · exact .inl hr
    · exact .inr ⟨hr, rfl⟩
  · exact Fins.opSkip ho hw (hn.after hR' hT)
  · refine Fins.opCall ho hw hr (hC.mono ?_)
    rintro e w' ⟨v, σ', rfl, hR', hT⟩
    exact ⟨v, rfl, hn.after hR' hT⟩

theorem anyT_sound {m r : Nat} {Q : Array Bool → St → Prop} {k : List Item} {Φ : St → Prop}
    (hQ : ∀ listed s, Q listed s → ∀ t, HRun P X (.inRegion ops (Region.linearise.go .any ops r t listed []) :: k) s Φ) :
    ∀ (fuel t : Nat) (listed : Array Bool) (s : St), I s.b → AnyT P X T ops I m Q fuel listed s → HRun P X (.inRegion ops (Region.linearise.go .any ops (fuel + r) t listed []) :: k) s Φ := by
  intro fuel
  induction fuel with
  | zero => intro t listed s _ h; rw [Nat.zero_add]; exact hQ _ _ h.2 t
  | succ fuel ih =>
    intro t listed s hs h
    obtain ⟨h0, h1⟩ := h
    rw [show fuel + 1 + r = (fuel + r) + 1 by omega]
    simp only [Region.linearise.go]
    change HRun P X (.inRegion ops (match (Region.ready .any ops listed)[t % (Region.ready .any ops listed).length]? with
      | some i => Region.linearise.go .any ops (fuel + r) (t / (Region.ready .any ops listed).length) (listed.setIfInBounds i true) [i]
      | none => [].reverse) :: k) s Φ
    cases hi : (Region.ready .any ops listed)[t % (Region.ready .any ops listed).length]? with
    | none =>
      exfalso
      cases hr : Region.ready .any ops listed with
      | nil => exact h0 hr
      | cons x xs =>
        rw [hr] at hi
        have hlt : t % (x :: xs).length < (x :: xs).length := Nat.mod_lt _ (by simp)
        simp at hi
        simp at hlt
        omega
    | some i =>
      simp only []
      rw [linearise_go_acc, List.reverse_singleton, List.singleton_append]
      obtain ⟨o, ho, hop⟩ := h1 i (List.mem_of_getElem? hi)
      cases e : isEff T o.op with
      | false =>
        simp only [e, OpT] at hop
        obtain ⟨x, hx, hK⟩ := hop
        exact (hx s.t s.b s.c Agree.refl hs).fins ho (ih _ _ _ hs hK)
      | true =>
        simp only [e, OpT] at hop
        obtain ⟨x, b', c', hx, hs', hK⟩ := hop
        exact (hx s.t Agree.refl).fins ho (ih _ _ _ hs' hK)

theorem Tr_drew {s : St} {σ : Env} {w : World} : Tr X s.b s.c σ w s.b s.c σ w.drew := ⟨fun _ _ h => h, fun _ _ h _ => ⟨h, rfl⟩, fun tag B hv => ⟨rfl, hv⟩, fun _ _ _ _ _ _ => Nat.le_refl _⟩

theorem R_drew {s : St} {σ : Env} {w : World} {a : Act} (hR : R X s σ w a) : R X s σ w.drew a :=
  { hR with
    tm := fun i hi => (hR.tm i hi).tr Tr_drew
    bl := fun n g x hx => let ⟨h1, h2, h3⟩ := hR.bl n g x hx; ⟨h1, h2.tr Tr_drew rfl (fun _ _ => rfl), h3⟩ }

/-- A region that draws its order, told by the walk in the written order: so many operations, then the others. -/
theorem HRun_drawI (I : List (Nat × Nat × Blk) → Prop) {id m : Nat} {k : List Item} {s : St} {Φ : St → Prop} (hm : P.follows .mixedOrders = true) (hok : drawOk T ops m = true) (h0 : I s.b)
    (h : lexT P X T ops I (fun s' => HOps P X ops (ops.toList.drop m) k s' Φ) (ops.toList.take m) ⟨s.t, s.b, ⟨s.c.c + 1, [], s.c.o⟩⟩) : HRun P X (.code (.region id ops true) :: k) s Φ := by
  simp only [drawOk, Bool.and_eq_true, decide_eq_true_eq] at hok
  obtain ⟨⟨hle, ht⟩, hl⟩ := hok
  intro σ w a hR
  refine Fins.region_draw fun t => ?_
  rw [hm]
  have e1 : Region.schedule true ops t = Region.linearise .any ops t := by simp [Region.schedule]
  rw [e1]
  have hlen : (ops.toList.take m).length = m := by simp; omega
  have h1 := anyT_lex (P := P) (X := X) (I := I) ht (ops.toList.take m) 0 (Array.replicate ops.size false) _ (fun j hj => by
    rw [hlen] at hj
    simp [List.getElem?_take, hj]) (by omega) Closed.none (by rw [hlen]; exact hl) h
  rw [hlen] at h1
  have h2 := anyT_sound (P := P) (X := X) (T := T) (ops := ops) (I := I) (m := m) (r := ops.size - m) (k := k) (Φ := Φ) (Q := fun li s' => chainB ops (ops.size - m) m li = true ∧ HOps P X ops (ops.toList.drop m) k s' Φ) (fun listed s' hq t' => by
    rw [chainB_go hq.1]
    have := hq.2 m rfl
    simpa using this) m t _ ⟨s.t, s.b, ⟨s.c.c + 1, [], s.c.o⟩⟩ h0 h1
  rw [show m + (ops.size - m) = ops.size by omega] at h2
  exact h2.after (s := s) (R_bump (R_drew hR)) (Tr_drew.trans (Tr_bump (s := s)))

theorem HRun_draw {id m : Nat} {k : List Item} {s : St} {Φ : St → Prop} (hm : P.follows .mixedOrders = true) (hok : drawOk T ops m = true)
    (h : lexT P X T ops (SubB s.b) (fun s' => HOps P X ops (ops.toList.drop m) k s' Φ) (ops.toList.take m) ⟨s.t, s.b, ⟨s.c.c + 1, [], s.c.o⟩⟩) : HRun P X (.code (.region id ops true) :: k) s Φ :=
  HRun_drawI (SubB s.b) hm hok SubB.rfl' h

end

end Go.Proofs.YtdhnjmepgafeiaaDoor.Abs

/- OWN LIBRARY, part 19: a region that draws its order, told step by step. -/
set_option linter.unusedVariables false
set_option linter.unusedSimpArgs false
namespace Go.Proofs.YtdhnjmepgafeiaaDoor.Abs
open Go

/-- An operation that leaves memory alone, with its guard. -/
def pureStep (T : Tab) (ops : Array Oper) (t : List SV) (b : List (Nat × Nat × Blk)) (o : Oper) : Option (Prop × SV) :=
  match o.guard with
  | none => match o.op with
    | .pick c x y => match evO t c with
      | .bool c => match pickV c (ungd (evO t x)) (ungd (evO t y)) with
        | some v => some (gdP c (evO t x) ∧ gdP (!c) (evO t y), v)
        | none => none
      | _ => none
    | op => match pureOpC T ⟨t, b, ⟨0, [], 0⟩⟩ (fun x => ungd (evO t x)) op with
      | some (p, v) => some (gdPs t true op.operands.toList ∧ p, v)
      | none => none
  | some (j, want) => match guardOf ops t j want with
    | some g => match o.op with
      | .pick c x y => match ungd (evO t c) with
        | .bool c' => match pickV c' (ungd (evO t x)) (ungd (evO t y)) with
          | some v => some (gdP g (evO t c) ∧ gdP (g && c') (evO t x) ∧ gdP (g && !c') (evO t y), .gd g v)
          | none => none
        | _ => none
      | op => match pureOpC T ⟨t, b, ⟨0, [], 0⟩⟩ (fun x => ungd (evO t x)) op with
        | some (p, v) => some (gdPs t g op.operands.toList ∧ (g = true → p), .gd g v)
        | none => none
    | none => none

section
variable {T : Tab} {ops : Array Oper}

theorem pureOp_c {t t' : List SV} {b : List (Nat × Nat × Blk)} {c c' : Lim} {ρ : Operand → SV} {op : Op} : pureOp T ⟨t, b, c⟩ ρ op = pureOp T ⟨t', b, c'⟩ ρ op := by
  unfold pureOp
  cases op <;> rfl

theorem pureOpC_c {t t' : List SV} {b : List (Nat × Nat × Blk)} {c c' : Lim} {ρ : Operand → SV} {op : Op} : pureOpC T ⟨t, b, c⟩ ρ op = pureOpC T ⟨t', b, c'⟩ ρ op := by
  unfold pureOpC
  cases op <;> first | rfl | (simp only [pureOp_c (t := t) (t' := t') (c := c) (c' := c')])

theorem pureStep_abs {s : St} {o : Oper} {p : Prop} {x : SV} (h : pureStep T ops s.t s.b o = some (p, x)) : absOp T ops s o = .go p { s with t := setD s.t o.dst x } := by
  obtain ⟨t, b, c⟩ := s
  unfold pureStep at h
  unfold absOp
  rcases hg : o.guard with _ | ⟨j, want⟩ <;> simp only [hg] at h ⊢
  · cases ho : o.op <;> rw [ho] at h <;> simp only at h ⊢
    case pick c' x' y' =>
      cases e : evO t c' <;> simp only [e, reduceCtorEq] at h ⊢
      rename_i cc
      cases e2 : pickV cc (ungd (evO t x')) (ungd (evO t y')) <;> simp only [e2, reduceCtorEq, Option.some.injEq, Prod.mk.injEq] at h ⊢
      obtain ⟨rfl, rfl⟩ := h
      rfl
    all_goals
      rw [pureOpC_c (t' := t) (c' := c)] at h
      split at h
      · rename_i p' v e
        simp only [Option.some.injEq, Prod.mk.injEq] at h
        obtain ⟨rfl, rfl⟩ := h
        rw [e]
      · cases h
  · cases e0 : guardOf ops t j want <;> simp only [e0, reduceCtorEq] at h ⊢
    cases ho : o.op <;> rw [ho] at h <;> simp only at h ⊢
    case pick c' x' y' =>
      cases e : ungd (evO t c') <;> simp only [e, reduceCtorEq] at h ⊢
      rename_i cc
      cases e2 : pickV cc (ungd (evO t x')) (ungd (evO t y')) <;> simp only [e2, reduceCtorEq, Option.some.injEq, Prod.mk.injEq] at h ⊢
      obtain ⟨rfl, rfl⟩ := h
      rfl
    all_goals
      rw [pureOpC_c (t' := t) (c' := c)] at h
      split at h
      · rename_i p' v e
        simp only [Option.some.injEq, Prod.mk.injEq] at h
        obtain ⟨rfl, rfl⟩ := h
        rw [e]
      · cases h

theorem evO_agree {o : Oper} {t t' : List SV} (h : Agree ops o t t') {x : Operand} (hx : x ∈ o.op.operands) : evO t' x = evO t x := by
  cases x with
  | tmp d => exact h.2 d (List.mem_append_left _ (List.mem_filterMap.2 ⟨.tmp d, by simpa using hx, rfl⟩))
  | _ => rfl

theorem guardOf_agree {o : Oper} {t t' : List SV} (h : Agree ops o t t') {j : Nat} {w : Bool} (hg : o.guard = some (j, w)) : guardOf ops t' j w = guardOf ops t j w := by
  unfold guardOf
  cases e : (ops[j]?).bind (·.dst) with
  | none => rfl
  | some d =>
    have := h.2 d (by simp [Oper.looksAt, hg, e])
    simp only [this]

theorem gdPs_agree {t t' : List SV} {g : Bool} : ∀ {l : List Operand}, (∀ x, x ∈ l → evO t' x = evO t x) → gdPs t' g l = gdPs t g l
  | [], _ => rfl
  | x :: l, h => by simp only [gdPs]; rw [h x (by simp), gdPs_agree (fun y hy => h y (by simp [hy]))]

theorem pureOp_congr {s : St} {ρ ρ' : Operand → SV} {op : Op} (h : ∀ x, x ∈ op.operands → ρ' x = ρ x) : pureOp T s ρ' op = pureOp T s ρ op := by
  unfold pureOp
  cases op
  case slice t x lo hi mx =>
    have h1 := h x (by simp [Op.operands])
    have h2 : lo.map ρ' = lo.map ρ := by cases lo with | none => rfl | some y => simp [h y (by simp [Op.operands])]
    have h3 : hi.map ρ' = hi.map ρ := by cases hi with | none => rfl | some y => simp [h y (by simp [Op.operands])]
    have h4 : mx.map ρ' = mx.map ρ := by cases mx with | none => rfl | some y => simp [h y (by simp [Op.operands])]
    simp only [h1, h2, h3, h4]
  case call c =>
    obtain ⟨ce, arz, ts⟩ := c
    cases ce
    case builtin bi =>
      cases bi <;> try rfl
      simp only
      cases ets : ts.toList with
      | nil => rfl
      | cons t1 tr =>
        cases eas : arz.toList with
        | nil => cases tr <;> rfl
        | cons x xr =>
          have : x ∈ arz := by rw [← Array.mem_toList_iff, eas]; simp
          have h1 := h x (by simp [Op.operands, Call.operands, this])
          cases tr <;> cases xr <;> simp only [h1]
    all_goals rfl
  case build t parts =>
    have : parts.toList.map (fun q => (q.1, ρ' q.2)) = parts.toList.map (fun q => (q.1, ρ q.2)) := List.map_congr_left fun q hq => by
      rw [h q.2 (by simp only [Op.operands, List.mem_toArray, List.mem_map]; exact ⟨q, hq, rfl⟩)]
    simp only [this]
  case makeFunc f first cap =>
    have h1 : first.toList.map ρ' = first.toList.map ρ := List.map_congr_left fun q hq => h q (by simp only [Op.operands, Array.mem_append]; exact .inl (by simpa using hq))
    have h2 : cap.toList.map ρ' = cap.toList.map ρ := List.map_congr_left fun q hq => h q (by simp only [Op.operands, Array.mem_append]; exact .inr (by simpa using hq))
    simp only [h1, h2]
  all_goals (first | rfl | (simp only [Op.operands] at h; simp [h]; done) | (simp only [Op.operands] at h; simp_all; done))

theorem pureOpC_congr {s : St} {ρ ρ' : Operand → SV} {op : Op} (h : ∀ x, x ∈ op.operands → ρ' x = ρ x) : pureOpC T s ρ' op = pureOpC T s ρ op := by
  have old : pureOp T s (fun x => unc (ρ' x)) op = pureOp T s (fun x => unc (ρ x)) op := pureOp_congr fun x hx => by rw [h x hx]
  unfold pureOpC
  cases op <;> try exact old
  case move x => simp only; rw [h x (by simp [Op.operands])]
  case assign x => simp only; rw [h x (by simp [Op.operands])]
  case slice t x lo hi mx =>
    have h1 := h x (by simp [Op.operands])
    have h2 : lo.map ρ' = lo.map ρ := by cases lo with | none => rfl | some y => simp [h y (by simp [Op.operands])]
    have h3 : hi.map ρ' = hi.map ρ := by cases hi with | none => rfl | some y => simp [h y (by simp [Op.operands])]
    have h4 : mx.map ρ' = mx.map ρ := by cases mx with | none => rfl | some y => simp [h y (by simp [Op.operands])]
    simp only [h1, h2, h3, h4, old]
  case call c =>
    obtain ⟨ce, arz, ts⟩ := c
    cases ce <;> try exact old
    rename_i bi
    cases bi <;> try exact old
    simp only
    rcases ts.toList with _ | ⟨t1, _ | ⟨t2, tr⟩⟩ <;> try rfl
    cases eas : arz.toList with
    | nil => rfl
    | cons x r =>
      have hx : x ∈ arz := by rw [← Array.mem_toList_iff, eas]; simp
      have h1 := h x (by simp [Op.operands, Call.operands, hx])
      cases r <;> simp only [h1]

theorem pureStep_agree {o : Oper} {t t' : List SV} {b : List (Nat × Nat × Blk)} (h : Agree ops o t t') : pureStep T ops t' b o = pureStep T ops t b o := by
  have hev : ∀ x, x ∈ o.op.operands → evO t' x = evO t x := fun x hx => evO_agree h hx
  have hop : pureOpC T ⟨t', b, ⟨0, [], 0⟩⟩ (fun x => ungd (evO t' x)) o.op = pureOpC T ⟨t, b, ⟨0, [], 0⟩⟩ (fun x => ungd (evO t x)) o.op := by
    rw [pureOpC_c (t' := t) (c' := ⟨0, [], 0⟩)]
    exact pureOpC_congr fun x hx => by rw [hev x hx]
  have hgd : ∀ g, gdPs t' g o.op.operands.toList = gdPs t g o.op.operands.toList := fun g => gdPs_agree fun x hx => hev x (by simpa using hx)
  unfold pureStep
  rcases hg : o.guard with _ | ⟨j, want⟩ <;> simp only
  · cases ho : o.op <;> rw [ho] at hop hgd hev <;> simp only
    case pick c x y =>
      rw [hev c (by simp [Op.operands]), hev x (by simp [Op.operands]), hev y (by simp [Op.operands])]
    all_goals rw [hop]; simp only [hgd]
  · rw [guardOf_agree h hg]
    cases guardOf ops t j want with
    | none => rfl
    | some g =>
      simp only
      cases ho : o.op <;> rw [ho] at hop hgd hev <;> simp only
      case pick c x y =>
        rw [hev c (by simp [Op.operands]), hev x (by simp [Op.operands]), hev y (by simp [Op.operands])]
      all_goals rw [hop]; simp only [hgd]

theorem blkAt_sub {b0 b : List (Nat × Nat × Blk)} (h : SubB b0 b) {n g : Nat} {x : Blk} (e : blkAt b0 n g = some x) : blkAt b n g = some x := by
  unfold blkAt at e ⊢
  cases e1 : fnd b0 n with
  | none => simp [e1] at e
  | some y => rw [h n y e1]; rw [e1] at e; exact e

theorem scal_sub {b0 b : List (Nat × Nat × Blk)} (h : SubB b0 b) {x : SV} (e : scal b0 x = true) : scal b x = true := by
  cases x <;> simp only [scal] at e ⊢ <;> try exact e
  all_goals
    obtain ⟨y, hy⟩ := Option.isSome_iff_exists.1 e
    rw [blkAt_sub h hy]; rfl

theorem cellsOf_sub {b0 b : List (Nat × Nat × Blk)} (h : SubB b0 b) {x : SV} {l : List SV} (e : cellsOf b0 x = some l) : cellsOf b x = some l := by
  unfold cellsOf at e ⊢
  cases x <;> simp only at e ⊢ <;> try exact e
  all_goals
    split at e
    · rename_i e2
      rw [scal_sub h e2]; exact e
    · cases e

theorem fillC_sub {b0 b : List (Nat × Nat × Blk)} (h : SubB b0 b) {fs : List (Nat × TypeId)} : ∀ {xs : List (Nat × SV)} {cs : List SV} {r : Prop × List SV}, fillC T b0 fs cs xs = some r → fillC T b fs cs xs = some r
  | [], cs, r, e => e
  | (i, x) :: xs, cs, r, e => by
    simp only [fillC] at e ⊢
    cases e1 : fieldOf fs i <;> simp only [e1, reduceCtorEq] at e ⊢
    rename_i q
    obtain ⟨o, ft⟩ := q
    try simp only at e ⊢
    cases e2 : takeC cs o <;> simp only [e2, reduceCtorEq] at e ⊢
    cases e3 : dropC cs (o + T.size ft) <;> simp only [e3, reduceCtorEq] at e ⊢
    cases e4 : cellsOf b0 x <;> simp only [e4, reduceCtorEq] at e
    rename_i la lc l
    simp only [cellsOf_sub h e4]
    cases e5 : fillC T b0 fs (la ++ l ++ lc) xs <;> simp only [e5, reduceCtorEq] at e
    rw [fillC_sub h e5]
    exact e

theorem buildV_sub {b0 b : List (Nat × Nat × Blk)} (h : SubB b0 b) {t : TypeId} {xs : List (Nat × SV)} {r : Prop × SV} (e : buildV T b0 t xs = some r) : buildV T b t xs = some r := by
  unfold buildV at e ⊢
  cases e1 : T.ty t <;> simp only [e1, reduceCtorEq] at e ⊢
  case struct fs =>
    cases e2 : fillC T b0 fs (T.zero t) xs <;> simp only [e2, reduceCtorEq] at e
    rw [fillC_sub h e2]; exact e
  case array m el => exact e

theorem ptrE_bin {b : List (Nat × Nat × Blk)} {op : BinOp} {t : TypeId} {x y : SV} {r : Prop × SV} (h : binV T op t x y = some r) : ptrE T b op t x y = none := by
  cases x <;> cases y <;> first | rfl | (simp [binV] at h)

theorem ptrE_sub {b0 b : List (Nat × Nat × Blk)} (hs : SubB b0 b) {op : BinOp} {t : TypeId} {x y : SV} {r : Prop × SV} (h : ptrE T b0 op t x y = some r) : ptrE T b op t x y = some r := by
  unfold ptrE at h ⊢
  split at h
  · rename_i n g off
    cases e2 : blkAt b0 n g <;> simp only [e2, reduceCtorEq] at h
    simp only [blkAt_sub hs e2]
    exact h
  · exact h
  · cases h

theorem pureOp_sub {t : List SV} {c : Lim} {b0 b : List (Nat × Nat × Blk)} (hs : SubB b0 b) {ρ : Operand → SV} {op : Op} {r : Prop × SV} (h : pureOp T ⟨t, b0, c⟩ ρ op = some r) : pureOp T ⟨t, b, c⟩ ρ op = some r := by
  have hb : ∀ n g x, blkAt b0 n g = some x → blkAt b n g = some x := fun _ _ _ => blkAt_sub hs
  unfold pureOp at h ⊢
  cases op <;> simp only [reduceCtorEq] at h ⊢ <;> try exact h
  case build t parts => exact buildV_sub hs h
  case binOp op t x y yt =>
    cases e0 : ptrE T b0 op t (ρ x) (ρ y) with
    | some q => simp only [e0] at h; rw [ptrE_sub hs e0]; exact h
    | none => simp only [e0] at h; rw [ptrE_bin h]; exact h
  case sliceToArrayPointer t x =>
    unfold arrPV at h ⊢
    cases e : ρ x <;> simp only [e, reduceCtorEq] at h ⊢ <;> try exact h
    rename_i n g seg e' off len
    cases e1 : T.ty t <;> simp only [e1, reduceCtorEq] at h ⊢
    cases e2 : blkAt b0 n g <;> simp only [e2, reduceCtorEq] at h
    rw [hb _ _ _ e2]; exact h
  case nilCheck x =>
    cases e : ρ x <;> simp only [e, reduceCtorEq] at h ⊢
    rename_i n g off
    cases e2 : blkAt b0 n g <;> simp only [e2, reduceCtorEq] at h
    rw [hb _ _ _ e2]; exact h
  case fieldAddr t x f =>
    unfold faddrV at h ⊢
    cases e : ρ x <;> simp only [e, reduceCtorEq] at h ⊢ <;> try exact h
    case ptr n g off =>
      cases e1 : T.ty t <;> simp only [e1, reduceCtorEq] at h ⊢
      rename_i fs
      cases e3 : fieldOf fs f <;> simp only [e3, reduceCtorEq] at h ⊢
      cases e2 : blkAt b0 n g <;> simp only [e2, reduceCtorEq] at h
      rw [hb _ _ _ e2]; exact h
    case eptr n g seg el i m =>
      cases e1 : T.ty t <;> simp only [e1, reduceCtorEq] at h ⊢
      rename_i fs
      cases e3 : fieldOf fs f <;> simp only [e3, reduceCtorEq] at h ⊢
      cases e2 : blkAt b0 n g <;> simp only [e2, reduceCtorEq] at h
      rw [hb _ _ _ e2]; exact h
  case indexAddr t x i =>
    unfold iaddrV at h ⊢
    cases e : ρ x <;> simp only [e, reduceCtorEq] at h ⊢ <;> cases e' : ρ i <;> simp only [e', reduceCtorEq] at h ⊢ <;> cases e1 : T.ty t <;> simp only [e1, reduceCtorEq] at h ⊢ <;> try exact h
    all_goals
      split at h
      · rename_i e2
        rw [hb _ _ _ e2]; exact h
      · cases h
  case slice t x lo hi mx =>
    unfold sliceV at h ⊢
    cases e : ρ x <;> simp only [e, reduceCtorEq] at h ⊢ <;> try exact h
    case ptr n g off =>
      cases e1 : T.ty t <;> simp only [e1, reduceCtorEq] at h ⊢
      split at h <;> try cases h
      cases e2 : blkAt b0 n g <;> simp only [e2, reduceCtorEq] at h
      rw [hb _ _ _ e2]; exact h
    case sl n g seg e' off len =>
      cases e1 : T.ty t <;> simp only [e1, reduceCtorEq] at h ⊢
      split at h <;> try cases h
      cases e2 : blkAt b0 n g <;> simp only [e2, reduceCtorEq] at h
      rw [hb _ _ _ e2]; exact h
  case load t x =>
    unfold loadV at h ⊢
    cases e : ρ x <;> simp only [e, reduceCtorEq] at h ⊢ <;> try exact h
    case ptr n g off =>
      cases e2 : blkAt b0 n g <;> simp only [e2, reduceCtorEq] at h
      rw [hb _ _ _ e2]; exact h
    case eptr n g seg e' i m =>
      cases e2 : blkAt b0 n g <;> simp only [e2, reduceCtorEq] at h
      rw [hb _ _ _ e2]; exact h
  case call c =>
    obtain ⟨ce, arz, ts⟩ := c
    cases ce <;> (try (simp only [reduceCtorEq] at h; done)) <;> try exact h
    rename_i bi
    cases bi <;> (try (simp only [reduceCtorEq] at h; done)) <;> try exact h
    simp only at h ⊢
    split at h
    · unfold lenV at h ⊢
      split at h <;> try exact h
      split at h <;> try exact h
      split at h
      · rename_i e2
        rw [hb _ _ _ e2]; exact h
      · cases h
    · cases h

theorem pureOpC_sub {t : List SV} {c : Lim} {b0 b : List (Nat × Nat × Blk)} (hs : SubB b0 b) {ρ : Operand → SV} {op : Op} {r : Prop × SV} (h : pureOpC T ⟨t, b0, c⟩ ρ op = some r) : pureOpC T ⟨t, b, c⟩ ρ op = some r := by
  have hb : ∀ n g x, blkAt b0 n g = some x → blkAt b n g = some x := fun _ _ _ => blkAt_sub hs
  have old : pureOp T ⟨t, b0, c⟩ (fun x => unc (ρ x)) op = some r → pureOp T ⟨t, b, c⟩ (fun x => unc (ρ x)) op = some r := pureOp_sub hs
  unfold pureOpC at h ⊢
  cases op <;> try exact old h
  case move x => exact h
  case assign x => exact h
  case slice t1 x lo hi mx =>
    simp only at h ⊢
    cases e : ρ x <;> simp only [e] at h ⊢ <;> try exact old h
    cases lo with
    | some y => exact old h
    | none =>
      simp only [sliceC] at h ⊢
      split at h
      · split at h
        · split at h
          · rename_i e2
            rw [hb _ _ _ e2]; exact h
          · cases h
        · cases h
      · cases h
  case call cl =>
    obtain ⟨ce, arz, ts⟩ := cl
    cases ce <;> try exact old h
    rename_i bi
    cases bi <;> try exact old h
    simp only at h ⊢
    split at h
    · unfold capV at h ⊢
      split at h <;> try cases h
      split at h <;> try cases h
      split at h
      · rename_i e2
        rw [hb _ _ _ e2]; exact h
      · cases h
    · cases h

theorem pureStep_sub {o : Oper} {t : List SV} {b0 b : List (Nat × Nat × Blk)} (hs : SubB b0 b) {r : Prop × SV} (h : pureStep T ops t b0 o = some r) : pureStep T ops t b o = some r := by
  unfold pureStep at h ⊢
  rcases hg : o.guard with _ | ⟨j, want⟩ <;> simp only [hg] at h ⊢
  · cases ho : o.op <;> rw [ho] at h <;> simp only at h ⊢ <;> try exact h
    all_goals
      split at h
      · rename_i p v e
        rw [pureOpC_sub hs e]; exact h
      · cases h
  · cases e0 : guardOf ops t j want <;> simp only [e0, reduceCtorEq] at h ⊢
    cases ho : o.op <;> rw [ho] at h <;> simp only at h ⊢ <;> try exact h
    all_goals
      split at h
      · rename_i p v e
        rw [pureOpC_sub hs e]; exact h
      · cases h

variable {P : Program} {X : Ctx} {b0 : List (Nat × Nat × Blk)}

theorem pureT_of_step (TO : TabOk P T) {o : Oper} {t : List SV} {p : Prop} {x : SV} (h : pureStep T ops t b0 o = some (p, x)) (hp : p) : PureT P X ops (SubB b0) o t x := by
  intro t' b' c' hag hsub σ w a hR
  have h1 : pureStep T ops t' b' o = some (p, x) := by rw [pureStep_agree hag]; exact pureStep_sub hsub h
  have h2 := pureStep_abs (s := ⟨t', b', c'⟩) h1
  rcases absOp_ok TO hR h2 hp with h3 | h3
  · exact .inl h3
  · exact .inr (.inl h3)
end

end Go.Proofs.YtdhnjmepgafeiaaDoor.Abs
