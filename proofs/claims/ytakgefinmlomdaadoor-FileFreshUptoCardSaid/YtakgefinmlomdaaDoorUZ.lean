/- Joined: UO UP UQ. -/
import Derived.Test.YtakgefinmlomdaaDoorUX
import Derived.Test.YtakgefinmlomdaaDoorFX
/- The laws TalkAsks, TalkSays, TalkGets, TalkRows answer true. -/
set_option linter.unusedVariables false
set_option linter.unusedSimpArgs false
set_option maxRecDepth 100000
namespace Go.Proofs.YtakgefinmlomdaaDoor.Abs
open Go Go.Proofs

end Go.Proofs.YtakgefinmlomdaaDoor.Abs

/- PLAIN LAWS: what is put is got again, what is got is put again, cuts are told. -/
set_option linter.unusedVariables false
set_option linter.unusedSimpArgs false
set_option maxRecDepth 100000
namespace Go.Proofs.YtakgefinmlomdaaDoor.Abs
open Go Go.Proofs

theorem rN_ok {b : List Int} {k a : Nat} (h : a + k ≤ b.length) : rN b k (a, 0) = (a + k, 0) := by
  unfold rN; rw [if_neg (by simp), if_neg (by simp only; omega)]
theorem rN_short {b : List Int} {k a : Nat} (h : b.length < a + k) : rN b k (a, 0) = (a, 4) := by
  unfold rN; rw [if_neg (by simp), if_pos h]
theorem rN_err {b : List Int} {k a : Nat} {e : Int} (h : e ≠ 0) : rN b k (a, e) = (a, e) := by
  unfold rN; rw [if_pos h]
theorem getV_of {b : List Int} {k a : Nat} (hk : szB k = true) (h : a + k ≤ b.length) : getV b a k = val ((b.drop a).take k) := by
  unfold getV getE
  rw [if_pos hk, cutE_ok (by omega) (by omega) (by omega), if_pos rfl, cutL_ok (by omega) (by omega) (by omega)]
  simp
theorem rV_of {b : List Int} {k a : Nat} (hk : szB k = true) (h : a + k ≤ b.length) : rV b k (a, 0) = val ((b.drop a).take k) := by
  unfold rV; rw [if_neg (by simp), if_neg (by simp only; omega)]
  exact getV_of hk h
theorem rV_short {b : List Int} {k a : Nat} (h : b.length < a + k) : rV b k (a, 0) = 0 := by
  unfold rV; rw [if_neg (by simp), if_pos h]
theorem rP_of {b : List Int} {k a : Nat} (h : a + k ≤ b.length) : rP b k (a, 0) = (b.drop a).take k := by
  unfold rP; rw [if_neg (by simp), if_neg (by simp only; omega)]

theorem dt_app (p x q : List Int) : ((p ++ (x ++ q)).drop p.length).take x.length = x := by
  rw [List.drop_left, List.take_left]

theorem rEnd_ok {b : List Int} : rEnd b (b.length, 0) = 0 := by
  unfold rEnd; rw [if_neg (by simp)]
theorem rEnd_long {b : List Int} {a : Nat} (h : a ≠ b.length) : rEnd b (a, 0) = 5 := by
  unfold rEnd; rw [if_pos ⟨rfl, h⟩]
theorem rEnd_err {b : List Int} {r : Nat × Int} (h : r.2 ≠ 0) : rEnd b r = r.2 := by
  unfold rEnd; rw [if_neg (by simp [h])]
theorem rEnd_zero {b : List Int} {r : Nat × Int} (h : rEnd b r = 0) : r = (b.length, 0) := by
  unfold rEnd at h
  obtain ⟨a, e⟩ := r
  by_cases h1 : e = 0 ∧ a ≠ b.length
  · rw [if_pos h1] at h; cases h
  · rw [if_neg h1] at h
    simp only at h
    subst h
    simp only [not_and, Decidable.not_not, true_implies] at h1
    rw [h1]

-- a list of dialects
theorem rowN_of {b : List Int} {a : Nat} (h : a + 2 ≤ b.length) : rowN b a = val ((b.drop a).take 2) := getV_of (k := 2) (by decide) h

theorem pt_zero {s : ByteArray} (h : ptE s = 0) : utfE s = 0 ∧ (utfL s).length ≤ 512 ∧ ptL s = digs 2 (utfL s).length ++ utfL s := by
  unfold ptL
  rw [if_pos h]
  unfold ptE at h
  split at h
  · rename_i e; exact absurd h e
  · rename_i e
    split at h
    · cases h
    · exact ⟨by omega, by omega, rfl⟩

theorem pt_len2 {s : ByteArray} (h : ptE s = 0) : (ptL s).length = 2 + (utfL s).length := by
  rw [(pt_zero h).2.2, List.length_append, digs_length]

theorem gr_of {b : List Int} {a n : Nat} (h2 : a + 2 ≤ b.length) (hn : rowN b a = n) (hm : n ≤ 512) (h : a + 2 + n ≤ b.length) : grE b a 512 = 0 := by
  unfold grE
  have h3 : getE b.length a 2 = 0 := by rw [getE2]; exact cutE_ok (by omega) (by omega) (by omega)
  rw [if_neg (by rw [h3]; simp), hn, if_neg (by omega), if_neg (by omega)]

theorem rT_app {s : ByteArray} (h : ptE s = 0) (p q : List Int) : rT (p ++ (ptL s ++ q)) (p.length, 0) = (p.length + (ptL s).length, 0) ∧ rS (p ++ (ptL s ++ q)) (p.length, 0) = s := by
  obtain ⟨h1, h2, h3⟩ := pt_zero h
  obtain ⟨g1, g2⟩ := get_put s h1
  have hpl := pt_len2 h
  have hl : (digs 2 ((utfL s).length : Int)).length = 2 := digs_length _ _
  generalize hb : p ++ (ptL s ++ q) = b
  have hbl : b.length = p.length + (2 + (utfL s).length) + q.length := by rw [← hb]; simp [hpl]; omega
  have hn : rowN b p.length = ((utfL s).length : Nat) := by
    rw [rowN_of (by omega), ← hb, h3, List.append_assoc]
    have e1 := dt_app p (digs 2 (utfL s).length) (utfL s ++ q)
    rw [hl] at e1
    rw [e1, val_digs 2 _ (by omega) (by omega)]
  have hE := gr_of (by omega) hn h2 (by omega)
  have hL : grL b p.length 512 = utfL s := by
    unfold grL
    rw [if_pos hE, hn, ← hb, h3]
    rw [show ((p.length : Int) + 2).toNat = p.length + 2 by omega, Int.toNat_natCast, ← List.drop_drop, List.drop_left, List.append_assoc]
    have e2 : (digs 2 ((utfL s).length : Int) ++ (utfL s ++ q)).drop (digs 2 ((utfL s).length : Int)).length = utfL s ++ q := List.drop_left
    rw [hl] at e2
    rw [e2, List.take_left]
  have hX : grX b p.length 512 = p.length + 2 + (utfL s).length := by
    unfold grX; rw [if_pos hE, hn]
  have hG : gtE b p.length = 0 := by
    unfold gtE; rw [if_neg (by rw [hE]; simp), hL]; exact g1
  constructor
  · unfold rT
    rw [if_neg (by simp), if_neg (by simp [hG])]
    unfold gtX
    rw [if_pos hG, hX, hpl]
    simp only [Prod.mk.injEq, and_true]
    omega
  · unfold rS
    rw [if_neg (by simp)]
    show gtS b p.length = s
    unfold gtS
    rw [if_pos hG, hL, g2]

/-- A text that ends too soon. -/
theorem rT_cut {s : ByteArray} (h : ptE s = 0) (p : List Int) (b : List Int) (hb : b <+: p ++ ptL s) (h0 : p.length ≤ b.length) (h1 : b.length < p.length + (ptL s).length) : (rT b (p.length, 0)).2 = 4 := by
  obtain ⟨_, h2, h3⟩ := pt_zero h
  have hpl := pt_len2 h
  have hl : (digs 2 ((utfL s).length : Int)).length = 2 := digs_length _ _
  have key : gtE b p.length = 4 := by
    have hg : grE b p.length 512 = 4 := by
      unfold grE
      by_cases c : p.length + 2 ≤ b.length
      · have h5 : getE b.length p.length 2 = 0 := by rw [getE2]; exact cutE_ok (by omega) (by omega) (by omega)
        have hn : rowN b p.length = ((utfL s).length : Nat) := by
          rw [rowN_of (by omega)]
          have e1 : b = (p ++ ptL s).take b.length := List.prefix_iff_eq_take.1 hb
          rw [e1, List.drop_take, List.take_take, show min 2 (b.length - p.length) = 2 by omega, h3]
          have e1 := dt_app p (digs 2 (utfL s).length) (utfL s)
          rw [hl] at e1
          rw [e1, val_digs 2 _ (by omega) (by omega)]
        rw [if_neg (by rw [h5]; simp), hn, if_neg (by omega), if_pos (by omega)]
      · rcases getE2_cases b.length p.length with ⟨_, h5⟩ | ⟨h5, _⟩ | ⟨_, _, h5⟩
        · omega
        · rw [h5, if_pos (by simp)]
        · omega
    unfold gtE
    rw [hg, if_pos (by simp)]
  unfold rT
  rw [if_neg (by simp), if_pos (by simp [key])]
  exact key

theorem rT_got {b : List Int} (hB : Bytes b) {a x : Nat} (h : rT b (a, 0) = (x, 0)) : ptE (rS b (a, 0)) = 0 ∧ a ≤ x ∧ x ≤ b.length ∧ ptL (rS b (a, 0)) = (b.drop a).take (x - a) := by
  unfold rT at h
  rw [if_neg (by simp)] at h
  by_cases hG : gtE b a = 0
  · rw [if_neg (by simp [hG])] at h
    simp only [Prod.mk.injEq, and_true] at h
    have hS : rS b (a, 0) = gtS b a := by unfold rS; rw [if_neg (by simp)]
    rw [hS]
    have hE : grE b a 512 = 0 := by
      unfold gtE at hG
      by_cases c : grE b a 512 = 0
      · exact c
      · rw [if_pos c] at hG; exact absurd hG c
    have hU : ugetE (grL b a 512) = 0 := by
      unfold gtE at hG
      rw [if_neg (by rw [hE]; simp)] at hG
      exact hG
    have hgS : gtS b a = ugetS (grL b a 512) := by unfold gtS; rw [if_pos hG]
    have hgX : gtX b a = grX b a 512 := by unfold gtX; rw [if_pos hG]
    have hgr : grX b a 512 = a + 2 + rowN b a := by unfold grX; rw [if_pos hE]
    have hgl : grL b a 512 = (b.drop ((a : Int) + 2).toNat).take (rowN b a).toNat := by unfold grL; rw [if_pos hE]
    unfold grE at hE
    by_cases c1 : getE b.length a 2 = 0
    · rw [if_neg (by simp [c1])] at hE
      have h2 := getE2_zero c1
      have h2' : a + 2 ≤ b.length := by omega
      have hn := rowN_of h2'
      have hb2 : Bytes ((b.drop a).take 2) := (hB.drop _).take _
      have hl2 : ((b.drop a).take 2).length = 2 := by rw [List.length_take, List.length_drop]; omega
      have hv := val_bounds hb2
      have hd := digs_val hb2
      rw [hl2] at hv hd
      rw [← hn] at hv hd
      by_cases c2 : 512 < rowN b a
      · rw [if_pos c2] at hE; cases hE
      rw [if_neg c2] at hE
      by_cases c3 : (b.length : Int) - a - 2 < rowN b a
      · rw [if_pos c3] at hE; cases hE
      have hBL : Bytes (grL b a 512) := by rw [hgl]; exact (hB.drop _).take _
      obtain ⟨p1, p2⟩ := put_get _ hBL hU
      have hll : ((grL b a 512).length : Int) = rowN b a := by
        rw [hgl, List.length_take, List.length_drop]; omega
      have hpt : ptE (gtS b a) = 0 := by
        unfold ptE
        rw [hgS, if_neg (by rw [p1]; simp), p2, if_neg (by omega)]
      refine ⟨hpt, by omega, by omega, ?_⟩
      unfold ptL
      rw [if_pos hpt, hgS, p2, hll, hd, hgl, show x - a = 2 + (rowN b a).toNat by omega, List.take_add, List.drop_drop, show ((a : Int) + 2).toNat = a + 2 by omega]
    · rw [if_pos c1] at hE; exact absurd hE c1
  · rw [if_pos (by simp [hG])] at h
    simp only [Prod.mk.injEq] at h
    exact absurd h.2 hG

-- a number that must be nought
end Go.Proofs.YtakgefinmlomdaaDoor.Abs

/- TalkBack, TalkOnce. -/
set_option linter.unusedVariables false
set_option linter.unusedSimpArgs false
set_option maxRecDepth 100000
namespace Go.Proofs.YtakgefinmlomdaaDoor.Abs
open Go Go.Proofs

theorem pt_size {s : ByteArray} (h : ptE s = 0) : s.size ≤ 4096 := by
  obtain ⟨h1, h2, _⟩ := pt_zero h
  have ha : allAt s 0 = true := by
    unfold utfE at h1
    split at h1
    · assumption
    · cases h1
  have hu : utfL s = (letAt s 0).flatMap uB := by unfold utfL; rw [if_pos ha]
  obtain ⟨_, e⟩ := enc_letters s s.size 0 (by omega) ha
  have e1 := congrArg List.length e
  have k1 : ∀ l : List Int, (u8L (l.flatMap encL)).length ≤ 4 * l.length := by
    intro l
    induction l with
    | nil => simp [u8L]
    | cons x l ih =>
      have := (Lib.encodeRuneZ_length x).2
      simp only [u8L, List.length_map, List.flatMap_cons, List.length_append, List.length_cons] at ih ⊢
      show (Lib.encodeRuneZ x).length + _ ≤ _
      omega
  have k2 : ∀ l : List Int, l.length ≤ (l.flatMap uB).length := by
    intro l
    induction l with
    | nil => simp
    | cons x l ih =>
      have : 1 ≤ (uB x).length := by unfold uB; split <;> simp
      simp only [List.flatMap_cons, List.length_append, List.length_cons]
      omega
  have q1 := k1 (letAt s 0)
  have q2 := k2 (letAt s 0)
  rw [← hu] at q2
  have e2 : s.data.toList.length = s.size := by simp
  simp only [List.drop_zero, e2] at e1
  omega

theorem emp_size : ByteArray.empty.size = 0 := rfl

theorem sayZ_ok : sayZ.ok := by
  refine ⟨?_, ?_, ⟨rfl, by unfold Bytes sayZ; decide⟩, ?_, ?_, ?_, ?_, ?_, by unfold Bytes sayZ; decide, ?_, by simp [sayZ]⟩ <;> (unfold sayZ; first | unfold U32 | unfold U8 | unfold U64 | unfold U16) <;> decide

theorem utfL_bytes (s : ByteArray) : Bytes (utfL s) := by
  unfold utfL
  split
  · rename_i ha
    obtain ⟨e, _⟩ := enc_letters s s.size 0 (by omega) ha
    intro x hx
    obtain ⟨n, hn, hx⟩ := List.mem_flatMap.1 hx
    have := e n hn
    exact runes_bytes ⟨this.1, this.2.1⟩ x hx
  · intro x hx; simp at hx

theorem bytes_app {a b : List Int} (h : Bytes a) (k : Bytes b) : Bytes (a ++ b) := fun x hx => (List.mem_append.1 hx).elim (h x) (k x)

theorem ptL_bytes (s : ByteArray) : Bytes (ptL s) := by
  unfold ptL
  split
  · exact bytes_app (digs_bytes _ _) (utfL_bytes s)
  · intro x hx; simp at hx

end Go.Proofs.YtakgefinmlomdaaDoor.Abs
