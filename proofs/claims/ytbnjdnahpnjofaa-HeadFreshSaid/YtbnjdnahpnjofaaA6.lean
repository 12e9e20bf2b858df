/- OWN LIBRARY, part 6: new blocks and writes keep what was told. -/
import Derived.Test.YtbnjdnahpnjofaaA5
import Derived.Laws.MakeOwn
import Derived.Laws.Append
set_option linter.unusedVariables false
set_option linter.unusedSimpArgs false
namespace Go.Proofs.Ytbnjdnahpnjofaa.Abs
open Go

/-- Besides the heap nothing has turned that counts. -/
def Calm (w w' : World) : Prop := w'.os = w.os ∧ w'.tape = w.tape ∧ w'.output = w.output

theorem put_tm {X : Ctx} {t : List SV} {b : List (Nat × Nat × Blk)} {c : Lim} {σ : Env} {w : World} {a : Act} {dst : Option Nat} {sv : SV} {v : Value}
    (hsz : a.tmps.size = t.length) (h : ∀ i, i < t.length → V X b c σ w (t.getD i .any) (a.tmps.getD i undef)) (hv : V X b c σ w sv v) :
    (a.put dst v).tmps.size = (setD t dst sv).length ∧ ∀ i, i < (setD t dst sv).length → V X b c σ w ((setD t dst sv).getD i .any) ((a.put dst v).tmps.getD i undef) := by
  cases dst with
  | none => exact ⟨hsz, h⟩
  | some d =>
    refine ⟨by simp [Act.put, setD, hsz], fun i hi => ?_⟩
    simp only [setD, List.length_set] at hi
    simp only [Act.put, setD]
    by_cases e : d = i
    · subst e
      have h1 : (t.set d sv).getD d .any = sv := by simp [List.getD, hi]
      have h2 : (a.tmps.setIfInBounds d v).getD d undef = v := by simp [Array.getD, hsz, hi]
      rw [h1, h2]; exact hv
    · have h1 : (t.set d sv).getD i .any = t.getD i .any := by simp [List.getD, List.getElem?_set, e]
      have h2 : (a.tmps.setIfInBounds d v).getD i undef = a.tmps.getD i undef := by
        have hi' : i < a.tmps.size := by omega
        simp [Array.getD, hi', Array.getElem_setIfInBounds, e]
      rw [h1, h2]; exact h i hi

section
variable {X : Ctx} {s : St} {σ : Env} {w w' : World} {a : Act}

/-- A name for a new block. -/
def bind1 (σ : Env) (n B : Nat) : Env := fun m => if m = n then some B else σ m

theorem Tr_new (hR : R X s σ w a) {n : Nat} {o : Obj} {x : Blk} (hn : n ∉ s.c.d) (hh : w'.heap = w.heap.push o) : Tr X s.b s.c σ w (upd s.b n s.c.c x) (s.c.add n) (bind1 σ n w.heap.size) w' where
  cc _ _ h := Lim.ok_add h
  lv m g hl hg := by
    obtain ⟨y, hy⟩ := hl
    rw [fnd_upd] at hy
    by_cases e : m = n
    · rw [if_pos e] at hy; simp at hy; subst e; rw [← hy.1] at hg; exact absurd hg (Lim.not_new hn)
    · rw [if_neg e] at hy
      exact ⟨⟨y, hy⟩, by simp [bind1, e]⟩
  vw tag B hv := by
    have hB := hv.1
    refine ⟨by rw [hh, Array.getElem?_push, if_neg (by omega)], by rw [hh, Array.size_push]; omega, ?_⟩
    rcases hv.2 with h | ⟨h1, h2⟩
    · exact .inl h
    · refine .inr ⟨h1, ?_⟩
      rintro ⟨m, y, hy, hs⟩
      rw [fnd_upd] at hy
      by_cases e : m = n
      · subst e; simp [bind1] at hs; omega
      · rw [if_neg e] at hy
        simp only [bind1, if_neg e] at hs
        exact h2 ⟨m, y, hy, hs⟩
  bs m g B hl hg hs := by
    obtain ⟨y, hy⟩ := hl
    rw [fnd_upd] at hy
    by_cases e : m = n
    · rw [if_pos e] at hy; simp at hy; subst e; rw [← hy.1] at hg; exact absurd hg (Lim.not_new hn)
    · rw [if_neg e] at hy
      have := ((hR.bl m g y hy).2.2 B hs).1
      simp only [blockSize, hh, Array.getElem?_push, if_neg (show ¬ B = w.heap.size by omega)]
      exact Nat.le_refl _

theorem R_new (hR : R X s σ w a) {n : Nat} {o : Obj} {x : Blk} {dst : Option Nat} {sv : SV} {v : Value} (hn : n ∉ s.c.d) (hh : w'.heap = w.heap.push o) (hc : Calm w w')
    (hx : BlkOk X (upd s.b n s.c.c x) (s.c.add n) (bind1 σ n w.heap.size) w' n x) (hv : V X (upd s.b n s.c.c x) (s.c.add n) (bind1 σ n w.heap.size) w' sv v) :
    R X ⟨setD s.t dst sv, upd s.b n s.c.c x, s.c.add n⟩ (bind1 σ n w.heap.size) w' (a.put dst v) ∧ Tr X s.b s.c σ w (upd s.b n s.c.c x) (s.c.add n) (bind1 σ n w.heap.size) w' := by
  have T := Tr_new (w' := w') (n := n) (x := x) hR hn hh
  have ht := put_tm (dst := dst) hR.sz (fun i hi => (hR.tm i hi).tr T) hv
  refine ⟨?_, T⟩
  refine ⟨ht.1, ht.2, ?_, ?_, ?_, ?_, ?_, hR.ro, hR.gl⟩
  · cases dst <;> exact hR.df
  · intro m g y hy
    rw [fnd_upd] at hy
    by_cases e : m = n
    · subst e
      rw [if_pos rfl] at hy
      simp only [Option.some.injEq, Prod.mk.injEq] at hy
      obtain ⟨rfl, rfl⟩ := hy
      refine ⟨Lim.ok_new _ _, hx, fun B hB => ?_⟩
      simp only [bind1, if_true, Option.some.injEq] at hB
      subst hB
      exact ⟨by rw [hh, Array.size_push]; omega, .inr hR.fr.1⟩
    · rw [if_neg e] at hy
      obtain ⟨h1, h2, h3⟩ := hR.bl m g y hy
      refine ⟨Lim.ok_add h1, h2.tr T (by simp [bind1, e]) (fun B hB => ?_), fun B hB => ?_⟩
      · have := (h3 B hB).1
        rw [hh, Array.getElem?_push, if_neg (by omega)]
      · simp only [bind1, if_neg e] at hB
        obtain ⟨h4, h5⟩ := h3 B hB
        exact ⟨by rw [hh, Array.size_push]; omega, h5⟩
  · intro m m' y y' B hy hy' hs hs'
    rw [fnd_upd] at hy hy'
    by_cases e : m = n <;> by_cases e' : m' = n
    · omega
    · exfalso
      simp only [bind1, if_pos e, if_neg e', Option.some.injEq] at hs hs'
      rw [if_neg e'] at hy'
      have := ((hR.bl m' y'.1 y'.2 hy').2.2 B hs').1
      omega
    · exfalso
      simp only [bind1, if_neg e, if_pos e', Option.some.injEq] at hs hs'
      rw [if_neg e] at hy
      have := ((hR.bl m y.1 y.2 hy).2.2 B hs).1
      omega
    · simp only [bind1, if_neg e, if_neg e'] at hs hs'
      rw [if_neg e] at hy; rw [if_neg e'] at hy'
      exact hR.inj m m' y y' B hy hy' hs hs'
  · refine ⟨by rw [hh, Array.size_push]; have := hR.fr.1; omega, fun B hB hm => ?_⟩
    rw [hh, Array.getElem?_push, if_neg (by have := hR.fr.1; omega)]
    exact hR.fr.2 B hB hm
  · obtain ⟨h1, h2, h3⟩ := hc
    obtain ⟨g1, g2, g3⟩ := hR.st
    exact ⟨h1.trans g1, h2.trans g2, h3.trans g3⟩

/-- A name is given to a value that has no block. -/
theorem Tr_none (hR : R X s σ w a) {n : Nat} {x : Blk} (hn : n ∉ s.c.d) : Tr X s.b s.c σ w (upd s.b n s.c.c x) (s.c.add n) (fun m => if m = n then none else σ m) w where
  cc _ _ h := Lim.ok_add h
  lv m g hl hg := by
    obtain ⟨y, hy⟩ := hl
    rw [fnd_upd] at hy
    by_cases e : m = n
    · rw [if_pos e] at hy; simp at hy; subst e; rw [← hy.1] at hg; exact absurd hg (Lim.not_new hn)
    · rw [if_neg e] at hy
      exact ⟨⟨y, hy⟩, by simp [e]⟩
  vw tag B hv := by
    refine ⟨rfl, hv.1, ?_⟩
    rcases hv.2 with h | ⟨h1, h2⟩
    · exact .inl h
    · refine .inr ⟨h1, ?_⟩
      rintro ⟨m, y, hy, hs⟩
      rw [fnd_upd] at hy
      by_cases e : m = n
      · subst e; simp at hs
      · rw [if_neg e] at hy
        simp only [if_neg e] at hs
        exact h2 ⟨m, y, hy, hs⟩
  bs m g B hl hg hs := Nat.le_refl _

theorem R_none (hR : R X s σ w a) {n : Nat} {x : Blk} {dst : Option Nat} {sv : SV} {v : Value} (hn : n ∉ s.c.d)
    (hx : BlkOk X (upd s.b n s.c.c x) (s.c.add n) (fun m => if m = n then none else σ m) w n x) (hv : V X (upd s.b n s.c.c x) (s.c.add n) (fun m => if m = n then none else σ m) w sv v) :
    R X ⟨setD s.t dst sv, upd s.b n s.c.c x, s.c.add n⟩ (fun m => if m = n then none else σ m) w (a.put dst v) ∧ Tr X s.b s.c σ w (upd s.b n s.c.c x) (s.c.add n) (fun m => if m = n then none else σ m) w := by
  have T := Tr_none (n := n) (x := x) hR hn
  have ht := put_tm (dst := dst) hR.sz (fun i hi => (hR.tm i hi).tr T) hv
  refine ⟨?_, T⟩
  refine ⟨ht.1, ht.2, ?_, ?_, ?_, hR.fr, hR.st, hR.ro, hR.gl⟩
  · cases dst <;> exact hR.df
  · intro m g y hy
    rw [fnd_upd] at hy
    by_cases e : m = n
    · subst e
      rw [if_pos rfl] at hy
      simp only [Option.some.injEq, Prod.mk.injEq] at hy
      obtain ⟨rfl, rfl⟩ := hy
      exact ⟨Lim.ok_new _ _, hx, fun B hB => by simp at hB⟩
    · rw [if_neg e] at hy
      obtain ⟨h1, h2, h3⟩ := hR.bl m g y hy
      refine ⟨Lim.ok_add h1, h2.tr T (by simp [e]) (fun B hB => rfl), fun B hB => ?_⟩
      simp only [if_neg e] at hB
      exact h3 B hB
  · intro m m' y y' B hy hy' hs hs'
    rw [fnd_upd] at hy hy'
    by_cases e : m = n
    · simp [e] at hs
    by_cases e' : m' = n
    · simp [e'] at hs'
    simp only [if_neg e, if_neg e'] at hs hs'
    rw [if_neg e] at hy; rw [if_neg e'] at hy'
    exact hR.inj m m' y y' B hy hy' hs hs'

/-- A write into a named block. -/
structure Wrote (B : Nat) (w w' : World) (cs' : Array Value) (t : TypeId) (fr : Nat × Nat) : Prop where
  here : w'.heap[B]? = some (.cells cs' t fr)
  other : ∀ B', B' ≠ B → w'.heap[B']? = w.heap[B']?
  size : w'.heap.size = w.heap.size
  calm : Calm w w'

theorem fnd_mv {b : List (Nat × Nat × Blk)} {n m g k : Nat} {x : Blk} : fnd (mv b n m g x) k = if k = m then some (g, x) else if k = n then none else fnd b k := by
  rw [mv, fnd_upd, fnd_del]

theorem Tr_mv (hR : R X s σ w a) {n m g B : Nat} {x x' : Blk} {cs cs' : Array Value} {t : TypeId} {fr : Nat × Nat} (hn : fnd s.b n = some (g, x)) (hB : σ n = some B) (hm : m ∉ s.c.d)
    (hold : w.heap[B]? = some (.cells cs t fr)) (hW : Wrote B w w' cs' t fr) (hs : cs'.size = cs.size) :
    Tr X s.b s.c σ w (mv s.b n m s.c.c x') (s.c.add m) (bind1 σ m B) w' where
  cc _ _ h := Lim.ok_add h
  lv k g0 hl hg0 := by
    obtain ⟨y, hy⟩ := hl
    rw [fnd_mv] at hy
    by_cases e : k = m
    · rw [if_pos e] at hy; simp at hy; subst e; rw [← hy.1] at hg0; exact absurd hg0 (Lim.not_new hm)
    · rw [if_neg e] at hy
      by_cases e2 : k = n
      · rw [if_pos e2] at hy; simp at hy
      · rw [if_neg e2] at hy; exact ⟨⟨y, hy⟩, by simp [bind1, e]⟩
  vw tag B0 hv := by
    have hne : B0 ≠ B := by
      rintro rfl
      rcases hv.2 with ⟨_, h⟩ | ⟨_, h⟩
      · obtain ⟨h1, h2⟩ := hR.ro _ h
        rcases ((hR.bl n g x hn).2.2 _ hB).2 with h3 | h3
        · exact h2 h3
        · omega
      · exact h ⟨n, _, hn, hB⟩
    refine ⟨hW.other B0 hne, by rw [hW.size]; exact hv.1, ?_⟩
    rcases hv.2 with h | ⟨h1, h2⟩
    · exact .inl h
    · refine .inr ⟨h1, ?_⟩
      rintro ⟨k, y, hy, hs⟩
      rw [fnd_mv] at hy
      by_cases e : k = m
      · simp only [bind1, if_pos e, Option.some.injEq] at hs; exact hne hs.symm
      · rw [if_neg e] at hy
        by_cases e2 : k = n
        · rw [if_pos e2] at hy; simp at hy
        · rw [if_neg e2] at hy
          simp only [bind1, if_neg e] at hs
          exact h2 ⟨k, y, hy, hs⟩
  bs k g0 B0 hl hg0 hs0 := by
    by_cases e : B0 = B
    · subst e; simp only [blockSize, hold, hW.here, hs]; exact Nat.le_refl _
    · simp only [blockSize, hW.other B0 e]; exact Nat.le_refl _

theorem R_mv (hR : R X s σ w a) {n m g B : Nat} {x x' : Blk} {cs cs' : Array Value} {t : TypeId} {fr : Nat × Nat} {dst : Option Nat} {sv : SV} {v : Value} (hn : fnd s.b n = some (g, x)) (hB : σ n = some B) (hm : m ∉ s.c.d)
    (hold : w.heap[B]? = some (.cells cs t fr)) (hW : Wrote B w w' cs' t fr) (hs : cs'.size = cs.size)
    (hx : BlkOk X (mv s.b n m s.c.c x') (s.c.add m) (bind1 σ m B) w' m x') (hv : V X (mv s.b n m s.c.c x') (s.c.add m) (bind1 σ m B) w' sv v) :
    R X ⟨setD s.t dst sv, mv s.b n m s.c.c x', s.c.add m⟩ (bind1 σ m B) w' (a.put dst v) ∧ Tr X s.b s.c σ w (mv s.b n m s.c.c x') (s.c.add m) (bind1 σ m B) w' := by
  have T := Tr_mv (x' := x') hR hn hB hm hold hW hs
  have ht := put_tm (dst := dst) hR.sz (fun i hi => (hR.tm i hi).tr T) hv
  refine ⟨?_, T⟩
  have hfn : ∀ k y, fnd (mv s.b n m s.c.c x') k = some y → (k = m ∧ y = (s.c.c, x')) ∨ (k ≠ m ∧ k ≠ n ∧ fnd s.b k = some y) := by
    intro k y hy
    rw [fnd_mv] at hy
    by_cases e : k = m
    · rw [if_pos e] at hy; simp at hy; exact .inl ⟨e, hy.symm⟩
    · rw [if_neg e] at hy
      by_cases e2 : k = n
      · rw [if_pos e2] at hy; simp at hy
      · rw [if_neg e2] at hy; exact .inr ⟨e, e2, hy⟩
  refine ⟨ht.1, ht.2, ?_, ?_, ?_, ?_, ?_, hR.ro, hR.gl⟩
  · cases dst <;> exact hR.df
  · intro k g0 y hy
    rcases hfn k _ hy with ⟨rfl, e⟩ | ⟨hne, hne2, hy⟩
    · simp only [Prod.mk.injEq] at e
      obtain ⟨rfl, rfl⟩ := e
      refine ⟨Lim.ok_new _ _, hx, fun B' hB' => ?_⟩
      simp only [bind1, if_true, Option.some.injEq] at hB'
      subst hB'
      rw [hW.size]
      exact (hR.bl n g x hn).2.2 _ hB
    · obtain ⟨h1, h2, h3⟩ := hR.bl k g0 y hy
      refine ⟨Lim.ok_add h1, h2.tr T (by simp [bind1, hne]) (fun B' hB' => ?_), fun B' hB' => by rw [hW.size]; simp only [bind1, if_neg hne] at hB'; exact h3 B' hB'⟩
      refine hW.other B' ?_
      rintro rfl
      exact hne2 (hR.inj k n _ _ _ hy hn hB' hB)
  · intro k k' y y' B' hy hy' hs1 hs2
    rcases hfn k _ hy with ⟨ek, e⟩ | ⟨hne, hne2, hz⟩ <;> rcases hfn k' _ hy' with ⟨ek', e'⟩ | ⟨hne', hne2', hz'⟩
    · omega
    · simp only [bind1, if_pos ek, Option.some.injEq, if_neg hne'] at hs1 hs2
      subst hs1
      exact absurd (hR.inj k' n _ _ _ hz' hn hs2 hB) hne2'
    · simp only [bind1, if_pos ek', Option.some.injEq, if_neg hne] at hs1 hs2
      subst hs2
      exact absurd (hR.inj k n _ _ _ hz hn hs1 hB) hne2
    · simp only [bind1, if_neg hne, if_neg hne'] at hs1 hs2
      exact hR.inj k k' y y' B' hz hz' hs1 hs2
  · refine ⟨by rw [hW.size]; exact hR.fr.1, fun B' hB' hm => ?_⟩
    rw [← hR.fr.2 B' hB' hm]
    refine hW.other B' ?_
    rintro rfl
    rcases ((hR.bl n g x hn).2.2 _ hB).2 with h3 | h3
    · exact hm h3
    · omega
  · obtain ⟨h1, h2, h3⟩ := hW.calm
    obtain ⟨g1, g2, g3⟩ := hR.st
    exact ⟨h1.trans g1, h2.trans g2, h3.trans g3⟩

theorem Tr_write (hR : R X s σ w a) {n g B : Nat} {x x' : Blk} {cs cs' : Array Value} {t : TypeId} {fr fr' : Nat × Nat} (hn : fnd s.b n = some (g, x)) (hB : σ n = some B)
    (hold : w.heap[B]? = some (.cells cs t fr)) (hW : Wrote B w w' cs' t fr') (hs : cs'.size = cs.size) :
    Tr X s.b s.c σ w (upd s.b n g x') s.c σ w' where
  cc _ _ h := h
  lv m g0 hl hg0 := by
    obtain ⟨y, hy⟩ := hl
    rw [fnd_upd] at hy
    by_cases e : m = n
    · subst e
      rw [if_pos rfl] at hy
      simp only [Option.some.injEq, Prod.mk.injEq] at hy
      exact ⟨⟨x, by rw [hn, hy.1]⟩, rfl⟩
    · rw [if_neg e] at hy; exact ⟨⟨y, hy⟩, rfl⟩
  vw tag B0 hv := by
    have hne : B0 ≠ B := by
      rintro rfl
      rcases hv.2 with ⟨_, h⟩ | ⟨_, h⟩
      · obtain ⟨h1, h2⟩ := hR.ro _ h
        rcases ((hR.bl n g x hn).2.2 _ hB).2 with h3 | h3
        · exact h2 h3
        · omega
      · exact h ⟨n, _, hn, hB⟩
    refine ⟨hW.other B0 hne, by rw [hW.size]; exact hv.1, ?_⟩
    rcases hv.2 with h | ⟨h1, h2⟩
    · exact .inl h
    · refine .inr ⟨h1, ?_⟩
      rintro ⟨m, y, hy, hs⟩
      rw [fnd_upd] at hy
      by_cases e : m = n
      · subst e; exact h2 ⟨m, _, hn, hs⟩
      · rw [if_neg e] at hy; exact h2 ⟨m, y, hy, hs⟩
  bs m g0 B0 hl hg0 hs0 := by
    by_cases e : B0 = B
    · subst e; simp only [blockSize, hold, hW.here, hs]; exact Nat.le_refl _
    · simp only [blockSize, hW.other B0 e]; exact Nat.le_refl _

theorem R_write (hR : R X s σ w a) {n g B : Nat} {x x' : Blk} {cs cs' : Array Value} {t : TypeId} {fr fr' : Nat × Nat} {dst : Option Nat} {sv : SV} {v : Value} (hn : fnd s.b n = some (g, x)) (hB : σ n = some B)
    (hold : w.heap[B]? = some (.cells cs t fr)) (hW : Wrote B w w' cs' t fr') (hs : cs'.size = cs.size)
    (hx : BlkOk X (upd s.b n g x') s.c σ w' n x') (hv : V X (upd s.b n g x') s.c σ w' sv v) :
    R X ⟨setD s.t dst sv, upd s.b n g x', s.c⟩ σ w' (a.put dst v) ∧ Tr X s.b s.c σ w (upd s.b n g x') s.c σ w' := by
  have T := Tr_write (x' := x') hR hn hB hold hW hs
  have ht := put_tm (dst := dst) hR.sz (fun i hi => (hR.tm i hi).tr T) hv
  refine ⟨?_, T⟩
  have hfn : ∀ m y, fnd (upd s.b n g x') m = some y → (m = n ∧ y = (g, x')) ∨ (m ≠ n ∧ fnd s.b m = some y) := by
    intro m y hy
    rw [fnd_upd] at hy
    by_cases e : m = n
    · rw [if_pos e] at hy; simp at hy; exact .inl ⟨e, hy.symm⟩
    · rw [if_neg e] at hy; exact .inr ⟨e, hy⟩
  have hgc := (hR.bl n g x hn).1
  refine ⟨ht.1, ht.2, ?_, ?_, ?_, ?_, ?_, hR.ro, hR.gl⟩
  · cases dst <;> exact hR.df
  · intro m g0 y hy
    rcases hfn m _ hy with ⟨rfl, e⟩ | ⟨hne, hy⟩
    · simp only [Prod.mk.injEq] at e
      obtain ⟨rfl, rfl⟩ := e
      refine ⟨hgc, hx, fun B' hB' => ?_⟩
      rw [hW.size]
      exact (hR.bl m _ x hn).2.2 B' hB'
    · obtain ⟨h1, h2, h3⟩ := hR.bl m g0 y hy
      refine ⟨h1, h2.tr T rfl (fun B' hB' => ?_), fun B' hB' => by rw [hW.size]; exact h3 B' hB'⟩
      refine hW.other B' ?_
      rintro rfl
      exact hne (hR.inj m n _ _ _ hy hn hB' hB)
  · intro m m' y y' B' hy hy' hs1 hs2
    have h1 : ∃ z, fnd s.b m = some z := by
      rcases hfn m _ hy with ⟨rfl, e⟩ | ⟨hne, hy⟩
      · exact ⟨_, hn⟩
      · exact ⟨_, hy⟩
    have h2 : ∃ z, fnd s.b m' = some z := by
      rcases hfn m' _ hy' with ⟨rfl, e⟩ | ⟨hne, hy⟩
      · exact ⟨_, hn⟩
      · exact ⟨_, hy⟩
    obtain ⟨z, hz⟩ := h1
    obtain ⟨z', hz'⟩ := h2
    exact hR.inj m m' z z' B' hz hz' hs1 hs2
  · refine ⟨by rw [hW.size]; exact hR.fr.1, fun B' hB' hm => ?_⟩
    rw [← hR.fr.2 B' hB' hm]
    refine hW.other B' ?_
    rintro rfl
    rcases ((hR.bl n g x hn).2.2 _ hB).2 with h3 | h3
    · exact hm h3
    · omega
  · obtain ⟨h1, h2, h3⟩ := hW.calm
    obtain ⟨g1, g2, g3⟩ := hR.st
    exact ⟨h1.trans g1, h2.trans g2, h3.trans g3⟩
end

theorem store_run {P : Program} {w : World} {B o : Nat} {cs : Array Value} {t : TypeId} {fr : Nat × Nat} {v : Value} (hh : w.heap[B]? = some (.cells cs t fr)) (hf : Free fr cs.size) (ho : o < cs.size) (h1 : v.oneCell' = true) :
    ∃ w', (store ⟨B, o, none⟩ v).run P w = .ok () w' ∧ Wrote B w w' (cs.setIfInBounds o v) t fr := by
  have hcell : w.cell? ⟨B, o, none⟩ = some cs[o] := by simp [World.cell?, hh, ho]
  have hfro : w.frozen? ⟨B, o, none⟩ = false := by
    have := hf.out o ho
    simp only [World.frozen?, hh]
    by_cases h1 : fr.1 ≤ o
    · have : ¬ o < fr.2 := fun h => this ⟨h1, h⟩
      simp [h1, this]
    · simp [h1]
  have hB : B < w.heap.size := by
    rcases Nat.lt_or_ge B w.heap.size with h | h
    · exact h
    · simp [Array.getElem?_eq_none h] at hh
  refine ⟨w.setCell ⟨B, o, none⟩ v, by rw [run_store P w _ v _ h1, hcell]; simp [hfro], ?_, ?_, ?_, rfl, rfl, rfl⟩
  · simp only [World.setCell, Array.getElem?_modify, hh]; simp
  · intro B' hne
    simp only [World.setCell, Array.getElem?_modify]
    rw [if_neg (by simpa using fun e => hne e.symm)]
  · simp [World.setCell]

theorem storeCells_run {P : Program} {B o : Nat} {t : TypeId} {fr : Nat × Nat} : ∀ (vs : List Value) (i : Nat) (cs : Array Value) (w : World), w.heap[B]? = some (.cells cs t fr) → Free fr cs.size → o + i + vs.length ≤ cs.size → (∀ v ∈ vs, v.oneCell' = true) →
    ∃ w' cs', (storeCells ⟨B, o, none⟩ vs i).run P w = .ok () w' ∧ Wrote B w w' cs' t fr ∧ cs'.toList = cs.toList.take (o + i) ++ vs ++ cs.toList.drop (o + i + vs.length)
  | [], i, cs, w, hh, hf, hl, h1 => by
    refine ⟨w, cs, rfl, ⟨hh, fun _ _ => rfl, rfl, rfl, rfl, rfl⟩, by simp⟩
  | v :: rest, i, cs, w, hh, hf, hl, h1 => by
    obtain ⟨w1, hr1, hW1⟩ := store_run (P := P) (o := o + i) hh hf (by simp at hl; omega) (h1 v (by simp))
    obtain ⟨w2, cs2, hr2, hW2, he⟩ := storeCells_run (P := P) (o := o) rest (i + 1) (cs.setIfInBounds (o + i) v) w1 hW1.here (by simpa using hf) (by simp at hl ⊢; omega) (fun x hx => h1 x (by simp [hx]))
    refine ⟨w2, cs2, ?_, ⟨hW2.here, fun B' h => (hW2.other B' h).trans (hW1.other B' h), hW2.size.trans hW1.size, hW2.calm.1.trans hW1.calm.1, hW2.calm.2.1.trans hW1.calm.2.1, hW2.calm.2.2.trans hW1.calm.2.2⟩, ?_⟩
    · simp only [storeCells, Sem.run_bind, addr_add, hr1, Result.andThen_ok, hr2]
    · rw [he]
      have e := list_seg_step cs.toList (o + i) v rest (by simp at hl ⊢; omega)
      simpa [Array.toList_setIfInBounds, Nat.add_assoc] using e

end Go.Proofs.Ytbnjdnahpnjofaa.Abs
