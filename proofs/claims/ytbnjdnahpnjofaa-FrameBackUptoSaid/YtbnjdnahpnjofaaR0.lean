/- OWN LIBRARY: a row of one own slice is told by value from here on. -/
import Derived.Test.YtbnjdnahpnjofaaB5
set_option linter.unusedVariables false
set_option linter.unusedSimpArgs false
namespace Go.Proofs.Ytbnjdnahpnjofaa.Abs
open Go

theorem Tr_upd {X : Ctx} {b : List (Nat × Nat × Blk)} {c : Lim} {σ : Env} {w : World} {m g : Nat} {x x' : Blk} (h : fnd b m = some (g, x)) : Tr X b c σ w (upd b m g x') c σ w := by
  have hN : ∀ B, Named (upd b m g x') σ B → Named b σ B := by
    rintro B ⟨k, y, h1, h2⟩
    rw [fnd_upd] at h1
    split at h1
    · rename_i e; subst e; exact ⟨k, _, h, h2⟩
    · exact ⟨k, y, h1, h2⟩
  refine ⟨fun _ _ h => h, ?_, fun tag B hv => ⟨rfl, hv.1, hv.2.imp id fun h => ⟨h.1, fun k => h.2 (hN _ k)⟩⟩, fun _ _ _ _ _ _ => Nat.le_refl _⟩
  rintro k gk ⟨y, hy⟩ _
  rw [fnd_upd] at hy
  split at hy
  · rename_i e; subst e
    simp only [Option.some.injEq, Prod.mk.injEq] at hy
    obtain ⟨rfl, _⟩ := hy
    exact ⟨⟨_, h⟩, rfl⟩
  · exact ⟨⟨y, hy⟩, rfl⟩

theorem R_rows {X : Ctx} {s : St} {σ : Env} {w : World} {a : Act} {m gm n g off len : Nat} {l : List Int} (hR : R X s σ w a) (hm : fnd s.b m = some (gm, .cells [.sl n g 0 1 off len])) (hn : fnd s.b n = some (g, .vec (.ints .u8 l))) (hmn : m ≠ n) (hl : off + len ≤ l.length) :
    R X ⟨s.t, upd (del s.b n) m gm (.vec (.rows true [(l.drop off).take len])), s.c⟩ σ w a := by
  have hmd : fnd (del s.b n) m = some (gm, .cells [.sl n g 0 1 off len]) := by rw [fnd_del, if_neg hmn]; exact hm
  have T : Tr X s.b s.c σ w (upd (del s.b n) m gm (.vec (.rows true [(l.drop off).take len]))) s.c σ w := (Tr_del n).trans (Tr_upd hmd)
  obtain ⟨hok, hbk, hB0⟩ := hR.bl n g _ hn
  obtain ⟨hokm, hbm, hBm⟩ := hR.bl m gm _ hm
  have hdl : ((l.drop off).take len).length = len := by rw [List.length_take, List.length_drop]; omega
  have hfn : ∀ k y, fnd (upd (del s.b n) m gm (.vec (.rows true [(l.drop off).take len]))) k = some y → k ≠ n ∧ ∃ z, fnd s.b k = some z := by
    intro k y hk
    rw [fnd_upd] at hk
    split at hk
    · rename_i e; subst e; exact ⟨hmn, _, hm⟩
    · rw [fnd_del] at hk
      split at hk
      · cases hk
      · rename_i e; exact ⟨e, _, hk⟩
  refine { sz := hR.sz, tm := fun j hj => (hR.tm j hj).tr T, df := hR.df, bl := ?_, inj := ?_, fr := hR.fr, st := hR.st, ro := hR.ro, gl := hR.gl }
  · intro k gk x hk
    have hk0 := hk
    simp only at hk
    rw [fnd_upd] at hk
    split at hk
    · rename_i e
      subst e
      simp only [Option.some.injEq, Prod.mk.injEq] at hk
      obtain ⟨rfl, rfl⟩ := hk
      refine ⟨hokm, ?_, hBm⟩
      obtain ⟨B, cs, t, fr, hs, hheap, hfree, hcells⟩ := hbm
      obtain ⟨v, r, hcs, hv, hr⟩ := hcells
      have hr : r = [] := hr
      subst hr
      obtain ⟨_, hv⟩ := (hv : s.c.ok n g ∧ (Live s.b n g → _))
      obtain ⟨ad, cap, hval, hcap, hpt⟩ := hv ⟨_, hn⟩
      have hsz : cs.size = 1 := by rw [← Array.length_toList, hcs]; rfl
      refine .inr ⟨B, cs, t, fr, hs, hheap, hfree, by simp [Data.len, Data.esz, hsz], ?_, trivial⟩
      intro i j hi hj
      simp only [Data.len, List.length_cons, List.length_nil] at hi
      simp only [Data.esz] at hj
      obtain rfl : i = 0 := by omega
      obtain rfl : j = 0 := by omega
      refine ⟨v, ?_, ?_⟩
      · have : cs[0]? = some v := by rw [← Array.getElem?_toList, hcs]; rfl
        rw [cell_block hheap]; simpa [Data.esz] using this
      · show IsRow _ w ((l.drop off).take len) v
        refine ⟨ad, cap, by rw [hdl]; exact hval, by rw [hdl]; exact hcap, fun h0 => ?_⟩
        rw [hdl] at h0
        obtain ⟨B', hs', hadr, _⟩ := hpt (by omega)
        refine ⟨B', 0 + off * 1, hadr, ⟨(hB0 B' hs').1, .inr ⟨(hB0 B' hs').2, ?_⟩⟩, ?_⟩
        · rintro ⟨q, y, hq, hs2⟩
          obtain ⟨hqn, z, hz⟩ := hfn q y hq
          exact hqn (hR.inj q n _ _ B' hz hn hs2 hs')
        · rcases hbk with ⟨hnone, _⟩ | ⟨B2, cs2, t2, fr2, hs3, hheap2, _, _, hh, _⟩
          · rw [hnone] at hs'; cases hs'
          · obtain rfl : B' = B2 := Option.some.inj (hs'.symm.trans hs3)
            intro p hp
            rw [hdl] at hp
            obtain ⟨x, hx, hc⟩ := hh (off + p) 0 (by simp only [Data.len]; omega) (by simp [Data.esz])
            have hc : x = .int .u8 (l.getD (off + p) 0) := hc
            simp only [Data.esz] at hx
            rw [show 0 + off * 1 + p = 0 + (off + p) * 1 + 0 by omega, hx, hc]
            simp [List.getD, List.getElem?_take, List.getElem?_drop, hp]
    · rename_i hne
      rw [fnd_del] at hk
      split at hk
      · cases hk
      · obtain ⟨h1, h2, h3⟩ := hR.bl k gk x hk
        exact ⟨h1, h2.tr T rfl (fun _ _ => rfl), h3⟩
  · intro k k' x x' B hk hk' hs hs'
    obtain ⟨_, z, hz⟩ := hfn k x hk
    obtain ⟨_, z', hz'⟩ := hfn k' x' hk'
    exact hR.inj k k' z z' B hz hz' hs hs'

/-- Ahead of an operation: the one own slice in a row of one is told by value from here on. -/
theorem rows_ops {P : Program} {X : Ctx} {ops : Array Oper} {rest : List Oper} {k : List Item} {s : St} {Φ : St → Prop} (m n : Nat) {gm g off len : Nat} {l : List Int}
    (h : (fnd s.b m = some (gm, .cells [.sl n g 0 1 off len]) ∧ fnd s.b n = some (g, .vec (.ints .u8 l)) ∧ m ≠ n ∧ off + len ≤ l.length) ∧ HOps P X ops rest k ⟨s.t, upd (del s.b n) m gm (.vec (.rows true [(l.drop off).take len])), s.c⟩ Φ) : HOps P X ops rest k s Φ := by
  obtain ⟨⟨h1, h2, h3, h4⟩, h⟩ := h
  intro j hj σ w a hR
  exact (h j hj).after (R_rows hR h1 h2 h3 h4) ((Tr_del n).trans (Tr_upd (by rw [fnd_del, if_neg h3]; exact h1)))

end Go.Proofs.Ytbnjdnahpnjofaa.Abs
