/- PLAIN LAWS of heads: what is put is got, and the other way round. -/
import Derived.Test.YtdhnjmepgafeiaaDoorQ4
set_option linter.unusedVariables false
set_option linter.unusedSimpArgs false
set_option maxRecDepth 100000
namespace Go.Proofs.YtdhnjmepgafeiaaDoor.Abs
open Go Go.Proofs

theorem getV_mid (p q : List Int) (x : Int) (k : Nat) (hk : szB k = true) (h0 : 0 ≤ x) (h : x < 256 ^ k) : getV (p ++ digs k x ++ q) p.length k = x := by
  have hl : (p ++ digs k x ++ q).length = p.length + k + q.length := by rw [List.length_append, List.length_append, digs_length]
  have e : cutE (p ++ digs k x ++ q).length p.length k = 0 := by unfold cutE; rw [hl, if_neg (by omega), if_neg (by omega)]
  have eg : getE (p ++ digs k x ++ q).length p.length k = 0 := by unfold getE; rw [if_pos hk, e]
  have ec : cutL (p ++ digs k x ++ q) p.length k = digs k x := by
    unfold cutL
    rw [if_pos e, Int.toNat_natCast, Int.toNat_natCast, List.append_assoc, List.drop_left]
    have := digs_length k x
    generalize digs k x = z at this
    subst this
    exact List.take_left
  unfold getV
  rw [if_pos eg, ec, val_digs k x h0 h]

theorem getV_at (b p q : List Int) (x a : Int) (k : Nat) (hk : szB k = true) (h0 : 0 ≤ x) (h : x < 256 ^ k) (hb : b = p ++ digs k x ++ q) (ha : a = p.length) : getV b a k = x := by
  subst hb ha
  exact getV_mid p q x k hk h0 h

theorem headL_length (h : Hd) (hs : h.sig.length = 16) : (headL h).length = 64 := by
  simp only [headL, List.length_append, digs_length, hs]

theorem back_ok (h : Hd) (hk : h.ok) (hm : mayB h = true) (p q : List Int) : getH (p ++ headL h ++ q) p.length = h ∧ formB (p ++ headL h ++ q) p.length = true := by
  have hk' := hk
  have hA := atV_lt h hk
  obtain ⟨h1, h2, h3, h4, h5, h6, h7, h8, h9, h10, h11, h12⟩ := hk
  obtain ⟨b, hb⟩ : ∃ b, b = p ++ headL h ++ q := ⟨_, rfl⟩
  have D : ∀ k x, (digs k x).length = k := digs_length
  have g0 : getV b p.length 4 = 1112364030 := getV_at b p (digs 2 64 ++ digs 2 h.charge ++ digs 4 h.status ++ digs 2 h.cmd ++ digs 2 h.credits ++ digs 4 h.flags ++ digs 4 h.next ++ digs 8 h.id ++ digs 8 (atV h) ++ digs 8 h.session ++ h.sig ++ q) 1112364030 _ 4 (by decide) (by decide) (by decide) (by rw [hb]; simp only [headL, List.append_assoc]) rfl
  have g4 : getV b (p.length + 4) 2 = 64 := getV_at b (p ++ digs 4 1112364030) (digs 2 h.charge ++ digs 4 h.status ++ digs 2 h.cmd ++ digs 2 h.credits ++ digs 4 h.flags ++ digs 4 h.next ++ digs 8 h.id ++ digs 8 (atV h) ++ digs 8 h.session ++ h.sig ++ q) 64 _ 2 (by decide) (by decide) (by decide) (by rw [hb]; simp only [headL, List.append_assoc]) (by simp only [List.length_append, D]; omega)
  have g6 : getV b (p.length + 6) 2 = h.charge := getV_at b (p ++ digs 4 1112364030 ++ digs 2 64) (digs 4 h.status ++ digs 2 h.cmd ++ digs 2 h.credits ++ digs 4 h.flags ++ digs 4 h.next ++ digs 8 h.id ++ digs 8 (atV h) ++ digs 8 h.session ++ h.sig ++ q) _ _ 2 (by decide) h1.1 (by have := h1.2; simpa using this) (by rw [hb]; simp only [headL, List.append_assoc]) (by simp only [List.length_append, D]; omega)
  have g8 : getV b (p.length + 8) 4 = h.status := getV_at b (p ++ digs 4 1112364030 ++ digs 2 64 ++ digs 2 h.charge) (digs 2 h.cmd ++ digs 2 h.credits ++ digs 4 h.flags ++ digs 4 h.next ++ digs 8 h.id ++ digs 8 (atV h) ++ digs 8 h.session ++ h.sig ++ q) _ _ 4 (by decide) h2.1 (by have := h2.2; simpa using this) (by rw [hb]; simp only [headL, List.append_assoc]) (by simp only [List.length_append, D]; omega)
  have g12 : getV b (p.length + 12) 2 = h.cmd := getV_at b (p ++ digs 4 1112364030 ++ digs 2 64 ++ digs 2 h.charge ++ digs 4 h.status) (digs 2 h.credits ++ digs 4 h.flags ++ digs 4 h.next ++ digs 8 h.id ++ digs 8 (atV h) ++ digs 8 h.session ++ h.sig ++ q) _ _ 2 (by decide) h3.1 (by have := h3.2; simpa using this) (by rw [hb]; simp only [headL, List.append_assoc]) (by simp only [List.length_append, D]; omega)
  have g14 : getV b (p.length + 14) 2 = h.credits := getV_at b (p ++ digs 4 1112364030 ++ digs 2 64 ++ digs 2 h.charge ++ digs 4 h.status ++ digs 2 h.cmd) (digs 4 h.flags ++ digs 4 h.next ++ digs 8 h.id ++ digs 8 (atV h) ++ digs 8 h.session ++ h.sig ++ q) _ _ 2 (by decide) h4.1 (by have := h4.2; simpa using this) (by rw [hb]; simp only [headL, List.append_assoc]) (by simp only [List.length_append, D]; omega)
  have g16 : getV b (p.length + 16) 4 = h.flags := getV_at b (p ++ digs 4 1112364030 ++ digs 2 64 ++ digs 2 h.charge ++ digs 4 h.status ++ digs 2 h.cmd ++ digs 2 h.credits) (digs 4 h.next ++ digs 8 h.id ++ digs 8 (atV h) ++ digs 8 h.session ++ h.sig ++ q) _ _ 4 (by decide) h5.1 (by have := h5.2; simpa using this) (by rw [hb]; simp only [headL, List.append_assoc]) (by simp only [List.length_append, D]; omega)
  have g20 : getV b (p.length + 20) 4 = h.next := getV_at b (p ++ digs 4 1112364030 ++ digs 2 64 ++ digs 2 h.charge ++ digs 4 h.status ++ digs 2 h.cmd ++ digs 2 h.credits ++ digs 4 h.flags) (digs 8 h.id ++ digs 8 (atV h) ++ digs 8 h.session ++ h.sig ++ q) _ _ 4 (by decide) h6.1 (by have := h6.2; simpa using this) (by rw [hb]; simp only [headL, List.append_assoc]) (by simp only [List.length_append, D]; omega)
  have g24 : getV b (p.length + 24) 8 = h.id := getV_at b (p ++ digs 4 1112364030 ++ digs 2 64 ++ digs 2 h.charge ++ digs 4 h.status ++ digs 2 h.cmd ++ digs 2 h.credits ++ digs 4 h.flags ++ digs 4 h.next) (digs 8 (atV h) ++ digs 8 h.session ++ h.sig ++ q) _ _ 8 (by decide) h7.1 (by have := h7.2; simpa using this) (by rw [hb]; simp only [headL, List.append_assoc]) (by simp only [List.length_append, D]; omega)
  have g32 : getV b (p.length + 32) 8 = atV h := getV_at b (p ++ digs 4 1112364030 ++ digs 2 64 ++ digs 2 h.charge ++ digs 4 h.status ++ digs 2 h.cmd ++ digs 2 h.credits ++ digs 4 h.flags ++ digs 4 h.next ++ digs 8 h.id) (digs 8 h.session ++ h.sig ++ q) _ _ 8 (by decide) hA.1 (by have := hA.2; simpa using this) (by rw [hb]; simp only [headL, List.append_assoc]) (by simp only [List.length_append, D]; omega)
  have g40 : getV b (p.length + 40) 8 = h.session := getV_at b (p ++ digs 4 1112364030 ++ digs 2 64 ++ digs 2 h.charge ++ digs 4 h.status ++ digs 2 h.cmd ++ digs 2 h.credits ++ digs 4 h.flags ++ digs 4 h.next ++ digs 8 h.id ++ digs 8 (atV h)) (h.sig ++ q) _ _ 8 (by decide) h10.1 (by have := h10.2; simpa using this) (by rw [hb]; simp only [headL, List.append_assoc]) (by simp only [List.length_append, D]; omega)
  have gs : (b.drop ((p.length : Int) + 48).toNat).take 16 = h.sig := by
    have e : b = (p ++ digs 4 1112364030 ++ digs 2 64 ++ digs 2 h.charge ++ digs 4 h.status ++ digs 2 h.cmd ++ digs 2 h.credits ++ digs 4 h.flags ++ digs 4 h.next ++ digs 8 h.id ++ digs 8 (atV h) ++ digs 8 h.session) ++ (h.sig ++ q) := by rw [hb]; simp only [headL, List.append_assoc]
    have el : (p ++ digs 4 1112364030 ++ digs 2 64 ++ digs 2 h.charge ++ digs 4 h.status ++ digs 2 h.cmd ++ digs 2 h.credits ++ digs 4 h.flags ++ digs 4 h.next ++ digs 8 h.id ++ digs 8 (atV h) ++ digs 8 h.session).length = ((p.length : Int) + 48).toNat := by simp only [List.length_append, D]; omega
    rw [e, ← el, List.drop_left, ← h11]
    exact List.take_left
  have hf : flB (getV b (p.length + 16) 4) = hasB h := by rw [g16]; rfl
  rw [← hb]
  have hcm := hm
  simp only [mayB, Bool.and_eq_true, decide_eq_true_eq] at hcm
  obtain ⟨_, hc⟩ := hcm
  have hG : getH b p.length = h ∧ (hasB h = true ∨ getV b (p.length + 32) 4 = 0) := by
    unfold getH
    rw [hf, g6, g8, g12, g14, g16, g20, g24, g32, g40, gs]
    cases hs : hasB h with
    | true =>
      rw [hs] at hc
      have ht : h.tree = 0 := by simpa using hc
      have ea : atV h = h.async := by unfold atV; rw [hs]; rfl
      refine ⟨?_, .inl rfl⟩
      rw [ea, if_pos rfl, if_pos rfl, ← ht]
    | false =>
      rw [hs] at hc
      have ht : h.async = 0 := by simpa using hc
      have ea : atV h = h.tree * 4294967296 := by unfold atV; rw [hs]; rfl
      have e8 : digs 8 (atV h) = digs 4 0 ++ digs 4 h.tree := by rw [ea]; exact digs_split h.tree h9.1
      have g36 : getV b (p.length + 36) 4 = h.tree := getV_at b (p ++ digs 4 1112364030 ++ digs 2 64 ++ digs 2 h.charge ++ digs 4 h.status ++ digs 2 h.cmd ++ digs 2 h.credits ++ digs 4 h.flags ++ digs 4 h.next ++ digs 8 h.id ++ digs 4 0) (digs 8 h.session ++ h.sig ++ q) _ _ 4 (by decide) h9.1 (by have := h9.2; simpa using this) (by rw [hb]; simp only [headL, e8, List.append_assoc]) (by simp only [List.length_append, D]; omega)
      have g32' : getV b (p.length + 32) 4 = 0 := getV_at b (p ++ digs 4 1112364030 ++ digs 2 64 ++ digs 2 h.charge ++ digs 4 h.status ++ digs 2 h.cmd ++ digs 2 h.credits ++ digs 4 h.flags ++ digs 4 h.next ++ digs 8 h.id) (digs 4 h.tree ++ digs 8 h.session ++ h.sig ++ q) _ _ 4 (by decide) (by decide) (by decide) (by rw [hb]; simp only [headL, e8, List.append_assoc]) (by simp only [List.length_append, D]; omega)
      refine ⟨?_, .inr g32'⟩
      rw [g36, if_neg (by decide), if_neg (by decide), ← ht]
  refine ⟨hG.1, ?_⟩
  unfold formB
  rw [hG.1, hf, g0, g4, hm]
  rcases hG.2 with h | h
  · rw [h]; rfl
  · rw [h]; simp

theorem got_back (h : Hd) (hk : h.ok) (hm : mayB h = true) (p q : List Int) : gotE (p ++ headL h ++ q) p.length = 0 ∧ gotH (p ++ headL h ++ q) p.length = h := by
  obtain ⟨e1, e2⟩ := back_ok h hk hm p q
  have hl := headL_length h hk.2.2.2.2.2.2.2.2.2.2.1
  have e : gotE (p ++ headL h ++ q) p.length = 0 := by
    unfold gotE
    have : (p ++ headL h ++ q).length = p.length + 64 + q.length := by rw [List.length_append, List.length_append, hl]
    rw [if_neg (by omega), if_neg (by omega), if_pos e2]
  exact ⟨e, by unfold gotH; rw [if_pos e, e1]⟩

end Go.Proofs.YtdhnjmepgafeiaaDoor.Abs
