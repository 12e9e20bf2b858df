/- Joined: UO UP UQ. -/
import Derived.Test.YtgipkhjpedpedaaDoorUX
import Derived.Test.YtgipkhjpedpedaaDoorFX
/- The laws TalkAsks, TalkSays, TalkGets, TalkRows answer true. -/
set_option linter.unusedVariables false
set_option linter.unusedSimpArgs false
set_option maxRecDepth 100000
namespace Go.Proofs.YtgipkhjpedpedaaDoor.Abs
open Go Go.Proofs

theorem paL_len (c : Int) (a : Ask) (ha : a.ok) : (paL c a).length ≤ 546 := by
  have hg := ha.guid.1
  have hp := ha.proof.1
  have h1 := pt_len a.user
  have h2 := pt_len a.share
  unfold paL
  split
  · simp
  · rename_i h0
    split
    · rename_i c0
      subst c0
      have hd : ¬ 16 < a.dialects.length := by
        intro hd
        apply h0
        unfold paE
        split
        · decide
        · simp [hd]
      rw [List.length_append, List.length_append, digs_length, flat2_len]; omega
    split
    · rw [List.length_append]; omega
    split
    · omega
    · simp

theorem psL_len (c : Int) (s : Say) (hs : s.ok) : (psL c s).length ≤ 16 := by
  have h := hs.challenge.1
  unfold psL
  split
  · simp
  split
  · rw [List.length_append, List.length_append, digs_length, digs_length]; omega
  · simp

theorem dlF_len (b : List Int) : ∀ (k : Nat) (r : Nat × Int) (l : List Int), (dlF b k r l).1.length ≤ l.length + k
  | 0, r, l => by simp [dlF]
  | k + 1, r, l => by
    unfold dlF
    split
    · have := dlF_len b k (rN b 2 r) (l ++ [rV b 2 r])
      rw [List.length_append, List.length_cons, List.length_nil] at this
      omega
    · simp only; omega

theorem gaA_small (c : Int) (b : List Int) (hB : Bytes b) : (gaA c b).dialects.length ≤ 65536 ∧ (gaA c b).data = [] ∧ (gaA c b).locks = [] := by
  have h1 := dlF_len b (rV b 2 (0, 0)).toNat (rM b 2 16 3 (0, 0)) []
  have h2 := rV_lt b 2 (0, 0) hB
  unfold gaA
  repeat' split
  all_goals refine ⟨?_, rfl, rfl⟩
  all_goals simp only [askZ, List.length_nil]
  all_goals try omega
  unfold gaR0
  simp only [List.length_nil] at h1
  omega

theorem gsS_small (c : Int) (b : List Int) : (gsS c b).data = [] ∧ (gsS c b).entries = [] := by
  unfold gsS
  split
  all_goals exact ⟨rfl, rfl⟩

end Go.Proofs.YtgipkhjpedpedaaDoor.Abs

/- PLAIN LAWS: what is put is got again, what is got is put again, cuts are told. -/
set_option linter.unusedVariables false
set_option linter.unusedSimpArgs false
set_option maxRecDepth 100000
namespace Go.Proofs.YtgipkhjpedpedaaDoor.Abs
open Go Go.Proofs

theorem rN_ok {b : List Int} {k a : Nat} (h : a + k ≤ b.length) : rN b k (a, 0) = (a + k, 0) := by
  unfold rN; rw [if_neg (by simp), if_neg (by simp only; omega)]
theorem rN_short {b : List Int} {k a : Nat} (h : b.length < a + k) : rN b k (a, 0) = (a, 4) := by
  unfold rN; rw [if_neg (by simp), if_pos h]
theorem rN_err {b : List Int} {k a : Nat} {e : Int} (h : e ≠ 0) : rN b k (a, e) = (a, e) := by
  unfold rN; rw [if_pos h]
theorem getV_of {b : List Int} {k a : Nat} (hk : szB k = true) (h : a + k ≤ b.length) : getV b a k = val ((b.drop a).take k) := by
  unfold getV getE
  rw [if_pos hk, cutE_ok (by omega) (by omega) (by omega), if_pos rfl, cutL_ok (by omega) (by omega) (by omega)]
  simp
theorem rV_of {b : List Int} {k a : Nat} (hk : szB k = true) (h : a + k ≤ b.length) : rV b k (a, 0) = val ((b.drop a).take k) := by
  unfold rV; rw [if_neg (by simp), if_neg (by simp only; omega)]
  exact getV_of hk h
theorem rV_short {b : List Int} {k a : Nat} (h : b.length < a + k) : rV b k (a, 0) = 0 := by
  unfold rV; rw [if_neg (by simp), if_pos h]
theorem rP_of {b : List Int} {k a : Nat} (h : a + k ≤ b.length) : rP b k (a, 0) = (b.drop a).take k := by
  unfold rP; rw [if_neg (by simp), if_neg (by simp only; omega)]

theorem pad_full {n : Nat} {p : List Int} (h : p.length = n) : padA n p = p := by
  unfold padA; rw [h, Nat.sub_self]; simp

theorem dt_app (p x q : List Int) : ((p ++ (x ++ q)).drop p.length).take x.length = x := by
  rw [List.drop_left, List.take_left]

theorem rEnd_ok {b : List Int} : rEnd b (b.length, 0) = 0 := by
  unfold rEnd; rw [if_neg (by simp)]
theorem rEnd_long {b : List Int} {a : Nat} (h : a ≠ b.length) : rEnd b (a, 0) = 5 := by
  unfold rEnd; rw [if_pos ⟨rfl, h⟩]
theorem rEnd_err {b : List Int} {r : Nat × Int} (h : r.2 ≠ 0) : rEnd b r = r.2 := by
  unfold rEnd; rw [if_neg (by simp [h])]
theorem rEnd_zero {b : List Int} {r : Nat × Int} (h : rEnd b r = 0) : r = (b.length, 0) := by
  unfold rEnd at h
  obtain ⟨a, e⟩ := r
  by_cases h1 : e = 0 ∧ a ≠ b.length
  · rw [if_pos h1] at h; cases h
  · rw [if_neg h1] at h
    simp only at h
    subst h
    simp only [not_and, Decidable.not_not, true_implies] at h1
    rw [h1]

-- a list of dialects
theorem dl_app (p q : List Int) : ∀ (ds : List Int) (p : List Int) (acc : List Int), (∀ x ∈ ds, U16 x) → dlF (p ++ (ds.flatMap (digs 2) ++ q)) ds.length (p.length, 0) acc = (acc ++ ds, (p.length + 2 * ds.length, 0))
  | [], p, acc, _ => by simp [dlF]
  | d :: ds, p, acc, h => by
    have hd := h d (by simp)
    have hl : (digs 2 d).length = 2 := digs_length 2 d
    have hb : (p ++ ((d :: ds).flatMap (digs 2) ++ q)) = p ++ (digs 2 d ++ (ds.flatMap (digs 2) ++ q)) := by simp [List.flatMap_cons]
    rw [hb]
    have hlen : p.length + 2 ≤ (p ++ (digs 2 d ++ (ds.flatMap (digs 2) ++ q))).length := by simp [hl]
    rw [List.length_cons, dlF, if_pos rfl, rN_ok hlen, rV_of (by decide) hlen]
    have e1 := dt_app p (digs 2 d) (ds.flatMap (digs 2) ++ q)
    rw [hl] at e1
    rw [e1, val_digs 2 d hd.1 (by have := hd.2; omega)]
    have ih := dl_app p q ds (p ++ digs 2 d) (acc ++ [d]) (fun x hx => h x (by simp [hx]))
    rw [List.length_append, hl, List.append_assoc] at ih
    rw [ih]
    simp only [List.append_assoc, List.cons_append, List.nil_append, Prod.mk.injEq, true_and, and_true]
    omega

theorem dl_pos (b : List Int) : ∀ (k a : Nat) (acc : List Int), a ≤ b.length → (dlF b k (a, 0) acc).2.2 = 4 ∨ ((dlF b k (a, 0) acc).2 = (a + 2 * k, 0) ∧ a + 2 * k ≤ b.length)
  | 0, a, acc, h => .inr ⟨rfl, h⟩
  | k + 1, a, acc, h => by
    rw [dlF, if_pos rfl]
    by_cases h2 : a + 2 ≤ b.length
    · rw [rN_ok h2]
      rcases dl_pos b k (a + 2) (acc ++ [rV b 2 (a, 0)]) h2 with h3 | ⟨h3, h4⟩
      · exact .inl h3
      · exact .inr ⟨by rw [h3]; simp only [Prod.mk.injEq, and_true]; omega, by omega⟩
    · rw [rN_short (by omega)]
      left
      cases k with
      | zero => rfl
      | succ k => rw [dlF, if_neg (by simp)]

theorem dl_got (b : List Int) (hB : Bytes b) : ∀ (k a : Nat) (acc : List Int), a + 2 * k ≤ b.length → ∃ ds, dlF b k (a, 0) acc = (acc ++ ds, (a + 2 * k, 0)) ∧ ds.length = k ∧ ds.flatMap (digs 2) = (b.drop a).take (2 * k) ∧ ∀ x ∈ ds, U16 x
  | 0, a, acc, h => ⟨[], by simp [dlF], rfl, by simp, by simp⟩
  | k + 1, a, acc, h => by
    rw [dlF, if_pos rfl, rN_ok (by omega), rV_of (by decide) (by omega)]
    obtain ⟨ds, h1, h2, h3, h4⟩ := dl_got b hB k (a + 2) (acc ++ [val ((b.drop a).take 2)]) (by omega)
    have hb2 : Bytes ((b.drop a).take 2) := (hB.drop _).take _
    have hl2 : ((b.drop a).take 2).length = 2 := by rw [List.length_take, List.length_drop]; omega
    have hv := val_bounds hb2
    have hd := digs_val hb2
    rw [hl2] at hv hd
    refine ⟨val ((b.drop a).take 2) :: ds, ?_, by simp [h2], ?_, ?_⟩
    · rw [h1]; simp only [List.append_assoc, List.cons_append, List.nil_append, Prod.mk.injEq, true_and, and_true]; omega
    · rw [List.flatMap_cons, hd, h3, show 2 * (k + 1) = 2 + 2 * k by omega, List.take_add, List.drop_drop]
    · intro x hx
      rcases List.mem_cons.1 hx with rfl | hx
      · exact ⟨hv.1, by have := hv.2; omega⟩
      · exact h4 x hx

-- a text
theorem rowN_of {b : List Int} {a : Nat} (h : a + 2 ≤ b.length) : rowN b a = val ((b.drop a).take 2) := getV_of (k := 2) (by decide) h

theorem pt_zero {s : ByteArray} (h : ptE s = 0) : utfE s = 0 ∧ (utfL s).length ≤ 512 ∧ ptL s = digs 2 (utfL s).length ++ utfL s := by
  unfold ptL
  rw [if_pos h]
  unfold ptE at h
  split at h
  · rename_i e; exact absurd h e
  · rename_i e
    split at h
    · cases h
    · exact ⟨by omega, by omega, rfl⟩

theorem pt_len2 {s : ByteArray} (h : ptE s = 0) : (ptL s).length = 2 + (utfL s).length := by
  rw [(pt_zero h).2.2, List.length_append, digs_length]

theorem gr_of {b : List Int} {a n : Nat} (h2 : a + 2 ≤ b.length) (hn : rowN b a = n) (hm : n ≤ 512) (h : a + 2 + n ≤ b.length) : grE b a 512 = 0 := by
  unfold grE
  have h3 : getE b.length a 2 = 0 := by rw [getE2]; exact cutE_ok (by omega) (by omega) (by omega)
  rw [if_neg (by rw [h3]; simp), hn, if_neg (by omega), if_neg (by omega)]

theorem rT_app {s : ByteArray} (h : ptE s = 0) (p q : List Int) : rT (p ++ (ptL s ++ q)) (p.length, 0) = (p.length + (ptL s).length, 0) ∧ rS (p ++ (ptL s ++ q)) (p.length, 0) = s := by
  obtain ⟨h1, h2, h3⟩ := pt_zero h
  obtain ⟨g1, g2⟩ := get_put s h1
  have hpl := pt_len2 h
  have hl : (digs 2 ((utfL s).length : Int)).length = 2 := digs_length _ _
  generalize hb : p ++ (ptL s ++ q) = b
  have hbl : b.length = p.length + (2 + (utfL s).length) + q.length := by rw [← hb]; simp [hpl]; omega
  have hn : rowN b p.length = ((utfL s).length : Nat) := by
    rw [rowN_of (by omega), ← hb, h3, List.append_assoc]
    have e1 := dt_app p (digs 2 (utfL s).length) (utfL s ++ q)
    rw [hl] at e1
    rw [e1, val_digs 2 _ (by omega) (by omega)]
  have hE := gr_of (by omega) hn h2 (by omega)
  have hL : grL b p.length 512 = utfL s := by
    unfold grL
    rw [if_pos hE, hn, ← hb, h3]
    rw [show ((p.length : Int) + 2).toNat = p.length + 2 by omega, Int.toNat_natCast, ← List.drop_drop, List.drop_left, List.append_assoc]
    have e2 : (digs 2 ((utfL s).length : Int) ++ (utfL s ++ q)).drop (digs 2 ((utfL s).length : Int)).length = utfL s ++ q := List.drop_left
    rw [hl] at e2
    rw [e2, List.take_left]
  have hX : grX b p.length 512 = p.length + 2 + (utfL s).length := by
    unfold grX; rw [if_pos hE, hn]
  have hG : gtE b p.length = 0 := by
    unfold gtE; rw [if_neg (by rw [hE]; simp), hL]; exact g1
  constructor
  · unfold rT
    rw [if_neg (by simp), if_neg (by simp [hG])]
    unfold gtX
    rw [if_pos hG, hX, hpl]
    simp only [Prod.mk.injEq, and_true]
    omega
  · unfold rS
    rw [if_neg (by simp)]
    show gtS b p.length = s
    unfold gtS
    rw [if_pos hG, hL, g2]

/-- A text that ends too soon. -/
theorem rT_cut {s : ByteArray} (h : ptE s = 0) (p : List Int) (b : List Int) (hb : b <+: p ++ ptL s) (h0 : p.length ≤ b.length) (h1 : b.length < p.length + (ptL s).length) : (rT b (p.length, 0)).2 = 4 := by
  obtain ⟨_, h2, h3⟩ := pt_zero h
  have hpl := pt_len2 h
  have hl : (digs 2 ((utfL s).length : Int)).length = 2 := digs_length _ _
  have key : gtE b p.length = 4 := by
    have hg : grE b p.length 512 = 4 := by
      unfold grE
      by_cases c : p.length + 2 ≤ b.length
      · have h5 : getE b.length p.length 2 = 0 := by rw [getE2]; exact cutE_ok (by omega) (by omega) (by omega)
        have hn : rowN b p.length = ((utfL s).length : Nat) := by
          rw [rowN_of (by omega)]
          have e1 : b = (p ++ ptL s).take b.length := List.prefix_iff_eq_take.1 hb
          rw [e1, List.drop_take, List.take_take, show min 2 (b.length - p.length) = 2 by omega, h3]
          have e1 := dt_app p (digs 2 (utfL s).length) (utfL s)
          rw [hl] at e1
          rw [e1, val_digs 2 _ (by omega) (by omega)]
        rw [if_neg (by rw [h5]; simp), hn, if_neg (by omega), if_pos (by omega)]
      · rcases getE2_cases b.length p.length with ⟨_, h5⟩ | ⟨h5, _⟩ | ⟨_, _, h5⟩
        · omega
        · rw [h5, if_pos (by simp)]
        · omega
    unfold gtE
    rw [hg, if_pos (by simp)]
  unfold rT
  rw [if_neg (by simp), if_pos (by simp [key])]
  exact key

theorem rT_got {b : List Int} (hB : Bytes b) {a x : Nat} (h : rT b (a, 0) = (x, 0)) : ptE (rS b (a, 0)) = 0 ∧ a ≤ x ∧ x ≤ b.length ∧ ptL (rS b (a, 0)) = (b.drop a).take (x - a) := by
  unfold rT at h
  rw [if_neg (by simp)] at h
  by_cases hG : gtE b a = 0
  · rw [if_neg (by simp [hG])] at h
    simp only [Prod.mk.injEq, and_true] at h
    have hS : rS b (a, 0) = gtS b a := by unfold rS; rw [if_neg (by simp)]
    rw [hS]
    have hE : grE b a 512 = 0 := by
      unfold gtE at hG
      by_cases c : grE b a 512 = 0
      · exact c
      · rw [if_pos c] at hG; exact absurd hG c
    have hU : ugetE (grL b a 512) = 0 := by
      unfold gtE at hG
      rw [if_neg (by rw [hE]; simp)] at hG
      exact hG
    have hgS : gtS b a = ugetS (grL b a 512) := by unfold gtS; rw [if_pos hG]
    have hgX : gtX b a = grX b a 512 := by unfold gtX; rw [if_pos hG]
    have hgr : grX b a 512 = a + 2 + rowN b a := by unfold grX; rw [if_pos hE]
    have hgl : grL b a 512 = (b.drop ((a : Int) + 2).toNat).take (rowN b a).toNat := by unfold grL; rw [if_pos hE]
    unfold grE at hE
    by_cases c1 : getE b.length a 2 = 0
    · rw [if_neg (by simp [c1])] at hE
      have h2 := getE2_zero c1
      have h2' : a + 2 ≤ b.length := by omega
      have hn := rowN_of h2'
      have hb2 : Bytes ((b.drop a).take 2) := (hB.drop _).take _
      have hl2 : ((b.drop a).take 2).length = 2 := by rw [List.length_take, List.length_drop]; omega
      have hv := val_bounds hb2
      have hd := digs_val hb2
      rw [hl2] at hv hd
      rw [← hn] at hv hd
      by_cases c2 : 512 < rowN b a
      · rw [if_pos c2] at hE; cases hE
      rw [if_neg c2] at hE
      by_cases c3 : (b.length : Int) - a - 2 < rowN b a
      · rw [if_pos c3] at hE; cases hE
      have hBL : Bytes (grL b a 512) := by rw [hgl]; exact (hB.drop _).take _
      obtain ⟨p1, p2⟩ := put_get _ hBL hU
      have hll : ((grL b a 512).length : Int) = rowN b a := by
        rw [hgl, List.length_take, List.length_drop]; omega
      have hpt : ptE (gtS b a) = 0 := by
        unfold ptE
        rw [hgS, if_neg (by rw [p1]; simp), p2, if_neg (by omega)]
      refine ⟨hpt, by omega, by omega, ?_⟩
      unfold ptL
      rw [if_pos hpt, hgS, p2, hll, hd, hgl, show x - a = 2 + (rowN b a).toNat by omega, List.take_add, List.drop_drop, show ((a : Int) + 2).toNat = a + 2 by omega]
    · rw [if_pos c1] at hE; exact absurd hE c1
  · rw [if_pos (by simp [hG])] at h
    simp only [Prod.mk.injEq] at h
    exact absurd h.2 hG

-- a number that must be nought
theorem rM_zero {b q : List Int} (h : b = [0, 0, 0, 0] ++ q) : rM b 4 0 5 (0, 0) = (4, 0) := by
  have hl : 0 + 4 ≤ b.length := by rw [h]; simp
  unfold rM
  rw [rN_ok hl, rV_of (by decide) hl, h, if_neg]
  simp [val]
theorem rM_cut {b : List Int} (h : b.length < 4) : rM b 4 0 5 (0, 0) = (0, 4) := by
  unfold rM
  rw [rN_short (by omega), if_neg (by simp)]
theorem rM_got {b : List Int} (hB : Bytes b) {x : Nat} (h : rM b 4 0 5 (0, 0) = (x, 0)) : x = 4 ∧ 4 ≤ b.length ∧ b.take 4 = [0, 0, 0, 0] := by
  unfold rM at h
  by_cases c : 0 + 4 ≤ b.length
  · rw [rN_ok c] at h
    by_cases c2 : 0 < rV b 4 (0, 0)
    · rw [if_pos ⟨rfl, c2⟩] at h; simp at h
    · rw [if_neg (by simp only [true_and]; exact c2)] at h
      rw [rV_of (by decide) c] at c2
      have hb4 : Bytes ((b.drop 0).take 4) := (hB.drop _).take _
      have hl4 : ((b.drop 0).take 4).length = 4 := by rw [List.length_take, List.length_drop]; omega
      have hv := val_bounds hb4
      have hd := digs_val hb4
      rw [hl4, show val ((b.drop 0).take 4) = 0 by omega] at hd
      simp only [Prod.mk.injEq, and_true] at h
      refine ⟨by omega, by omega, ?_⟩
      rw [List.drop_zero] at hd
      rw [← hd]
      rfl
  · rw [rN_short (by omega), if_neg (by simp)] at h
    simp at h

/-- What PutAsk lays, GetAsk reads; and how far. -/
theorem ga_app (c : Int) (a : Ask) (ha : a.ok) (h : paE c a = 0) (q : List Int) :
    gaR c (paL c a ++ q) = ((paL c a).length, 0) ∧ (q = [] → gaA c (paL c a) = a) := by
  have hE := h
  unfold paE at h
  by_cases hk : knB c = false ∨ wantA c a ≠ a
  · rw [if_pos hk] at h; cases h
  rw [if_neg hk] at h
  simp only [not_or, Decidable.not_not, Bool.not_eq_false] at hk
  obtain ⟨hk, hw⟩ := hk
  have fin : ∀ (hR : gaR c (paL c a) = ((paL c a).length, 0)), gaE c (paL c a) = 0 := by
    intro hR
    unfold gaE
    rw [if_pos hk, hR, rEnd_ok]
  by_cases c0 : c = 0
  · subst c0
    rw [if_pos rfl] at h
    have hn : a.dialects.length ≤ 16 := by
      by_cases g : 16 < a.dialects.length
      · rw [if_pos g] at h; cases h
      · omega
    have hL : paL 0 a = digs 2 a.dialects.length ++ (a.dialects.flatMap (digs 2) ++ a.guid) := by
      unfold paL; rw [if_neg (by simp [hE]), if_pos rfl, List.append_assoc]
    have hl : (digs 2 (a.dialects.length : Int)).length = 2 := digs_length _ _
    have hfl := flat2_len a.dialects
    have key : ∀ q, rM (paL 0 a ++ q) 2 16 3 (0, 0) = (2, 0) ∧ gaR0 (paL 0 a ++ q) = (a.dialects, (2 + 2 * a.dialects.length, 0)) ∧ rP (paL 0 a ++ q) 16 (2 + 2 * a.dialects.length, 0) = a.guid ∧ gaR 0 (paL 0 a ++ q) = ((paL 0 a).length, 0) := by
      intro q
      have hLl : (paL 0 a).length = 2 + 2 * a.dialects.length + 16 := by rw [hL]; simp [hl, hfl, ha.guid.1]; omega
      generalize hb : paL 0 a ++ q = b
      have hbl : b.length = (paL 0 a).length + q.length := by rw [← hb, List.length_append]
      have hv : rV b 2 (0, 0) = a.dialects.length := by
        rw [rV_of (by decide) (by omega), ← hb, hL]
        have e1 := dt_app [] (digs 2 (a.dialects.length : Int)) ((a.dialects.flatMap (digs 2) ++ a.guid) ++ q)
        rw [hl] at e1
        simp only [List.nil_append, List.length_nil] at e1
        rw [List.append_assoc, e1, val_digs 2 _ (by omega) (by omega)]
      have h1 : rM b 2 16 3 (0, 0) = (2, 0) := by
        unfold rM
        rw [rN_ok (by omega), hv, if_neg (by simp only [true_and]; omega)]
      have h2 : gaR0 b = (a.dialects, (2 + 2 * a.dialects.length, 0)) := by
        unfold gaR0
        rw [hv, h1, Int.toNat_natCast]
        have e2 := dl_app [] (a.guid ++ q) a.dialects (digs 2 (a.dialects.length : Int)) [] ha.dialects
        rw [hl] at e2
        rw [← hb, hL]
        simp only [List.append_assoc] at e2 ⊢
        rw [e2]
        rfl
      refine ⟨h1, h2, ?_, ?_⟩
      · rw [rP_of (by omega), ← hb, hL]
        have e3 := dt_app (digs 2 (a.dialects.length : Int) ++ a.dialects.flatMap (digs 2)) a.guid q
        rw [List.length_append, hl, hfl, ha.guid.1] at e3
        simp only [List.append_assoc] at e3 ⊢
        exact e3
      · unfold gaR
        rw [if_pos rfl, h2]
        show rN b 16 (2 + 2 * a.dialects.length, 0) = _
        rw [rN_ok (by omega), hLl]
    refine ⟨(key q).2.2.2, fun _ => ?_⟩
    have k0 := key []
    rw [List.append_nil] at k0
    have hG := fin k0.2.2.2
    unfold gaA
    rw [if_neg (by simp [hG]), if_pos rfl, k0.2.1]
    show ({ askZ with dialects := a.dialects, guid := padA 16 (rP (paL 0 a) 16 (2 + 2 * a.dialects.length, 0)) } : Ask) = a
    rw [k0.2.2.1, pad_full ha.guid.1]
    exact hw
  rw [if_neg c0] at h
  by_cases c1 : c = 1
  · subst c1
    rw [if_pos rfl] at h
    have hL : paL 1 a = a.proof ++ ptL a.user := by unfold paL; rw [if_neg (by simp [hE]), if_neg c0, if_pos rfl]
    have hp := ha.proof.1
    have key : ∀ q, rN (paL 1 a ++ q) 32 (0, 0) = (32, 0) ∧ rP (paL 1 a ++ q) 32 (0, 0) = a.proof ∧ rS (paL 1 a ++ q) (32, 0) = a.user ∧ gaR 1 (paL 1 a ++ q) = ((paL 1 a).length, 0) := by
      intro q
      have hb : paL 1 a ++ q = a.proof ++ (ptL a.user ++ q) := by rw [hL, List.append_assoc]
      rw [hb]
      have hbl : 0 + 32 ≤ (a.proof ++ (ptL a.user ++ q)).length := by rw [List.length_append, hp]; omega
      obtain ⟨t1, t2⟩ := rT_app h a.proof q
      rw [hp] at t1 t2
      refine ⟨rN_ok hbl, ?_, t2, ?_⟩
      · rw [rP_of hbl, List.drop_zero, ← hp, List.take_left]
      · unfold gaR
        rw [if_neg (by decide), if_pos rfl, rN_ok hbl]
        show rT _ (32, 0) = _
        rw [t1, hL, List.length_append, hp]
    refine ⟨(key q).2.2.2, fun _ => ?_⟩
    have k0 := key []
    rw [List.append_nil] at k0
    have hG := fin k0.2.2.2
    unfold gaA
    rw [if_neg (by simp [hG]), if_neg (by decide), if_pos rfl, k0.1, k0.2.1, k0.2.2.1, pad_full hp]
    exact hw
  rw [if_neg c1] at h
  by_cases c3 : c = 3
  · subst c3
    rw [if_pos rfl] at h
    have hL : paL 3 a = ptL a.share := by unfold paL; rw [if_neg (by simp [hE]), if_neg c0, if_neg c1, if_pos rfl]
    have key : ∀ q, rS (paL 3 a ++ q) (0, 0) = a.share ∧ gaR 3 (paL 3 a ++ q) = ((paL 3 a).length, 0) := by
      intro q
      obtain ⟨t1, t2⟩ := rT_app h [] q
      simp only [List.nil_append, List.length_nil, Nat.zero_add] at t1 t2
      rw [hL]
      refine ⟨t2, ?_⟩
      unfold gaR
      rw [if_neg (by decide), if_neg (by decide), if_pos rfl]
      exact t1
    refine ⟨(key q).2, fun _ => ?_⟩
    have k0 := key []
    rw [List.append_nil] at k0
    have hG := fin k0.2
    unfold gaA
    rw [if_neg (by simp [hG]), if_neg (by decide), if_neg (by decide), if_pos rfl, k0.1]
    exact hw
  · have hL : paL c a = [0, 0, 0, 0] := by unfold paL; rw [if_neg (by simp [hE]), if_neg c0, if_neg c1, if_neg c3]
    have key : ∀ q, gaR c (paL c a ++ q) = ((paL c a).length, 0) := by
      intro q
      unfold gaR
      rw [if_neg c0, if_neg c1, if_neg c3, rM_zero (by rw [hL]), hL]
      rfl
    refine ⟨key q, fun _ => ?_⟩
    have k0 := key []
    rw [List.append_nil] at k0
    have hG := fin k0
    unfold gaA
    rw [if_neg (by simp [hG]), if_neg c0, if_neg c1, if_neg c3]
    unfold wantA at hw
    rw [if_neg c0, if_neg c1, if_neg c3] at hw
    exact hw

theorem pa_known {c : Int} {a : Ask} (h : paE c a = 0) : knB c = true := by
  unfold paE at h
  cases hk : knB c with
  | true => rfl
  | false => rw [if_pos (.inl hk)] at h; cases h

/-- What PutAsk lays, GetAsk reads. -/
theorem ask_back (c : Int) (a : Ask) (ha : a.ok) (h : paE c a = 0) : gaE c (paL c a) = 0 ∧ gaA c (paL c a) = a := by
  have k := ga_app c a ha h []
  rw [List.append_nil] at k
  refine ⟨?_, k.2 rfl⟩
  unfold gaE
  rw [if_pos (pa_known h), k.1, rEnd_ok]

/-- With more behind it, it is misshapen. -/
theorem ask_more (c : Int) (a : Ask) (ha : a.ok) (h : paE c a = 0) (q : List Int) (hq : q ≠ []) : gaE c (paL c a ++ q) = 5 := by
  have k := ga_app c a ha h q
  unfold gaE
  rw [if_pos (pa_known h), k.1, rEnd_long]
  rw [List.length_append]
  have : 0 < q.length := by
    cases q with
    | nil => exact absurd rfl hq
    | cons x q => simp
  omega

/-- Cut, it is too short. -/
theorem ask_cut (c : Int) (a : Ask) (ha : a.ok) (h : paE c a = 0) (k : Nat) (hk : k < (paL c a).length) : gaE c ((paL c a).take k) = 4 := by
  have hE := h
  have hkn := pa_known h
  have fin : ∀ {b : List Int}, (gaR c b).2 = 4 → gaE c b = 4 := by
    intro b hR
    unfold gaE
    rw [if_pos hkn, rEnd_err (by rw [hR]; decide), hR]
  apply fin
  unfold paE at h
  by_cases hkk : knB c = false ∨ wantA c a ≠ a
  · rw [if_pos hkk] at h; cases h
  rw [if_neg hkk] at h
  have hbl : ((paL c a).take k).length = k := by rw [List.length_take]; omega
  by_cases c0 : c = 0
  · subst c0
    rw [if_pos rfl] at h
    have hn : a.dialects.length ≤ 16 := by
      by_cases g : 16 < a.dialects.length
      · rw [if_pos g] at h; cases h
      · omega
    have hL : paL 0 a = digs 2 a.dialects.length ++ (a.dialects.flatMap (digs 2) ++ a.guid) := by
      unfold paL; rw [if_neg (by simp [hE]), if_pos rfl, List.append_assoc]
    have hl : (digs 2 (a.dialects.length : Int)).length = 2 := digs_length _ _
    have hfl := flat2_len a.dialects
    have hLl : (paL 0 a).length = 2 + 2 * a.dialects.length + 16 := by rw [hL]; simp [hl, hfl, ha.guid.1]; omega
    unfold gaR
    rw [if_pos rfl]
    unfold gaR0
    by_cases hk2 : 2 ≤ k
    · have hv : rV ((paL 0 a).take k) 2 (0, 0) = a.dialects.length := by
        rw [rV_of (by decide) (by omega), List.drop_zero, List.take_take, show min 2 k = 2 by omega, hL]
        have e1 := dt_app [] (digs 2 (a.dialects.length : Int)) (a.dialects.flatMap (digs 2) ++ a.guid)
        rw [hl] at e1
        simp only [List.nil_append, List.length_nil, List.drop_zero] at e1
        rw [e1, val_digs 2 _ (by omega) (by omega)]
      have h1 : rM ((paL 0 a).take k) 2 16 3 (0, 0) = (2, 0) := by
        unfold rM
        rw [rN_ok (by omega), hv, if_neg (by simp only [true_and]; omega)]
      rw [hv, h1, Int.toNat_natCast]
      rcases dl_pos ((paL 0 a).take k) a.dialects.length 2 [] (by omega) with g | ⟨g1, g2⟩
      · generalize (dlF ((paL 0 a).take k) a.dialects.length (2, 0) []).2 = r at g
        obtain ⟨r1, r2⟩ := r
        simp only at g
        subst g
        rw [rN_err (by decide)]
      · rw [g1, rN_short (by omega)]
    · have h1 : rM ((paL 0 a).take k) 2 16 3 (0, 0) = (0, 4) := by
        unfold rM
        rw [rN_short (by omega), if_neg (by simp)]
      rw [h1, rV_short (by omega)]
      show (rN _ 16 (0, 4)).2 = 4
      rw [rN_err (by decide)]
  rw [if_neg c0] at h
  by_cases c1 : c = 1
  · subst c1
    rw [if_pos rfl] at h
    have hL : paL 1 a = a.proof ++ ptL a.user := by unfold paL; rw [if_neg (by simp [hE]), if_neg c0, if_pos rfl]
    have hp := ha.proof.1
    unfold gaR
    rw [if_neg (by decide), if_pos rfl]
    by_cases hk2 : 32 ≤ k
    · rw [rN_ok (by omega)]
      have e := rT_cut h a.proof ((paL 1 a).take k) (by rw [← hL]; exact List.take_prefix _ _) (by omega) (by rw [hbl]; rw [hL, List.length_append] at hk; exact hk)
      rw [hp] at e
      exact e
    · rw [rN_short (by omega)]
      unfold rT
      rw [if_pos (by decide)]
  rw [if_neg c1] at h
  by_cases c3 : c = 3
  · subst c3
    rw [if_pos rfl] at h
    have hL : paL 3 a = ptL a.share := by unfold paL; rw [if_neg (by simp [hE]), if_neg c0, if_neg c1, if_pos rfl]
    unfold gaR
    rw [if_neg (by decide), if_neg (by decide), if_pos rfl]
    exact rT_cut h [] ((paL 3 a).take k) (by rw [List.nil_append, ← hL]; exact List.take_prefix _ _) (Nat.zero_le _) (by rw [hbl, List.length_nil, Nat.zero_add, ← hL]; exact hk)
  · have hL : paL c a = [0, 0, 0, 0] := by unfold paL; rw [if_neg (by simp [hE]), if_neg c0, if_neg c1, if_neg c3]
    have hk4 : k < 4 := by rw [hL] at hk; exact hk
    unfold gaR
    rw [if_neg c0, if_neg c1, if_neg c3, rM_cut (by omega)]

/-- What GetAsk has read, PutAsk lays. -/
theorem ask_once (c : Int) (b : List Int) (hB : Bytes b) (h : gaE c b = 0) : paE c (gaA c b) = 0 ∧ paL c (gaA c b) = b := by
  have hE := h
  unfold gaE at h
  cases hk : knB c with
  | false => rw [if_neg (by simp [hk])] at h; cases h
  | true =>
  rw [if_pos hk] at h
  have hr := rEnd_zero h
  unfold gaR at hr
  by_cases c0 : c = 0
  · subst c0
    rw [if_pos rfl] at hr
    have hA : gaA 0 b = { askZ with dialects := (gaR0 b).1, guid := padA 16 (rP b 16 (gaR0 b).2) } := by unfold gaA; rw [if_neg (by simp [hE]), if_pos rfl]
    have hlen2 : 0 + 2 ≤ b.length := by
      by_cases g : 0 + 2 ≤ b.length
      · exact g
      · exfalso
        have h1 : rM b 2 16 3 (0, 0) = (0, 4) := by unfold rM; rw [rN_short (by omega), if_neg (by simp)]
        unfold gaR0 at hr
        rw [h1, rV_short (by omega)] at hr
        have h2 : rN b 16 (0, 4) = (0, 4) := rN_err (by decide)
        have h3 : rN b 16 (dlF b (0 : Int).toNat (0, 4) []).2 = rN b 16 (0, 4) := rfl
        rw [h3, h2] at hr
        simp at hr
    have hb2 : Bytes ((b.drop 0).take 2) := (hB.drop _).take _
    have hl2 : ((b.drop 0).take 2).length = 2 := by rw [List.length_take, List.length_drop]; omega
    have hv := val_bounds hb2
    have hd := digs_val hb2
    rw [hl2] at hv hd
    have hrv := rV_of (k := 2) (a := 0) (b := b) (by decide) hlen2
    obtain ⟨n, hn⟩ : ∃ n : Nat, val ((b.drop 0).take 2) = n := ⟨(val ((b.drop 0).take 2)).toNat, by omega⟩
    rw [hn] at hrv hd
    have hn16 : n ≤ 16 := by
      by_cases g : n ≤ 16
      · exact g
      · exfalso
        have h1 : rM b 2 16 3 (0, 0) = (0 + 2, 3) := by unfold rM; rw [rN_ok hlen2, hrv, if_pos ⟨rfl, by omega⟩]
        unfold gaR0 at hr
        rw [h1, hrv, Int.toNat_natCast] at hr
        have h2 : (dlF b n (0 + 2, 3) []).2 = (0 + 2, 3) := by
          cases n with
          | zero => rfl
          | succ n => rw [dlF, if_neg (by simp)]
        rw [h2, rN_err (by decide)] at hr
        simp at hr
    have h1 : rM b 2 16 3 (0, 0) = (0 + 2, 0) := by unfold rM; rw [rN_ok hlen2, hrv, if_neg (by simp only [true_and]; omega)]
    have h0 : gaR0 b = dlF b n (0 + 2, 0) [] := by unfold gaR0; rw [h1, hrv, Int.toNat_natCast]
    rcases dl_pos b n (0 + 2) [] (by omega) with g | ⟨g1, g2⟩
    · exfalso
      rw [h0] at hr
      generalize (dlF b n (0 + 2, 0) []).2 = r at g hr
      obtain ⟨r1, r2⟩ := r
      simp only at g
      subst g
      rw [rN_err (by decide)] at hr
      simp at hr
    obtain ⟨ds, d1, d2, d3, d4⟩ := dl_got b hB n (0 + 2) [] g2
    rw [List.nil_append] at d1
    rw [h0, d1] at hr hA
    simp only at hr hA
    have hlen : 0 + 2 + 2 * n + 16 ≤ b.length := by
      by_cases g : 0 + 2 + 2 * n + 16 ≤ b.length
      · exact g
      · rw [rN_short (by omega)] at hr; simp at hr
    rw [rN_ok hlen] at hr
    simp only [Prod.mk.injEq, and_true] at hr
    have hg := rP_of (b := b) (k := 16) (a := 0 + 2 + 2 * n) hlen
    have hgl : ((b.drop (0 + 2 + 2 * n)).take 16).length = 16 := by rw [List.length_take, List.length_drop]; omega
    rw [hg, pad_full hgl] at hA
    rw [hA]
    have e : paE 0 ({ askZ with dialects := ds, guid := (b.drop (0 + 2 + 2 * n)).take 16 } : Ask) = 0 := by
      unfold paE
      rw [if_neg (by rw [hk]; simp [wantA]), if_pos rfl, if_neg (by show ¬ 16 < ds.length; omega)]
    refine ⟨e, ?_⟩
    unfold paL
    rw [if_neg (by simp [e]), if_pos rfl]
    show digs 2 (ds.length : Int) ++ ds.flatMap (digs 2) ++ (b.drop (0 + 2 + 2 * n)).take 16 = b
    rw [d2, hd, d3, List.drop_zero, Nat.zero_add]
    have f1 : b = b.take 2 ++ ((b.drop 2).take (2 * n) ++ ((b.drop 2).drop (2 * n))) := by rw [List.take_append_drop, List.take_append_drop]
    have f2 : (b.drop (2 + 2 * n)).take 16 = (b.drop 2).drop (2 * n) := by rw [List.drop_drop, List.take_of_length_le (by rw [List.length_drop]; omega)]
    rw [f2, List.append_assoc]
    exact f1.symm
  rw [if_neg c0] at hr
  by_cases c1 : c = 1
  · subst c1
    rw [if_pos rfl] at hr
    have hA : gaA 1 b = { askZ with proof := padA 32 (rP b 32 (0, 0)), user := rS b (rN b 32 (0, 0)) } := by unfold gaA; rw [if_neg (by simp [hE]), if_neg (by decide), if_pos rfl]
    have hlen : 0 + 32 ≤ b.length := by
      by_cases g : 0 + 32 ≤ b.length
      · exact g
      · exfalso
        rw [rN_short (by omega)] at hr
        unfold rT at hr
        rw [if_pos (by decide)] at hr
        simp at hr
    rw [rN_ok hlen] at hr hA
    obtain ⟨t1, t2, t3, t4⟩ := rT_got hB hr
    have hgl : ((b.drop 0).take 32).length = 32 := by rw [List.length_take, List.length_drop]; omega
    rw [rP_of hlen, pad_full hgl] at hA
    rw [hA]
    have e : paE 1 ({ askZ with proof := (b.drop 0).take 32, user := rS b (0 + 32, 0) } : Ask) = 0 := by
      unfold paE
      rw [if_neg (by rw [hk]; simp [wantA]), if_neg (by decide), if_pos rfl]
      exact t1
    refine ⟨e, ?_⟩
    unfold paL
    rw [if_neg (fun g => g e), if_neg (by decide), if_pos rfl]
    show (b.drop 0).take 32 ++ ptL (rS b (0 + 32, 0)) = b
    have f2 : (b.drop (0 + 32)).take (b.length - (0 + 32)) = b.drop 32 := List.take_of_length_le (by rw [List.length_drop]; omega)
    rw [t4, f2, List.drop_zero, List.take_append_drop]
  rw [if_neg c1] at hr
  by_cases c3 : c = 3
  · subst c3
    rw [if_pos rfl] at hr
    have hA : gaA 3 b = { askZ with share := rS b (0, 0) } := by unfold gaA; rw [if_neg (by simp [hE]), if_neg (by decide), if_neg (by decide), if_pos rfl]
    obtain ⟨t1, t2, t3, t4⟩ := rT_got hB hr
    rw [hA]
    have e : paE 3 ({ askZ with share := rS b (0, 0) } : Ask) = 0 := by
      unfold paE
      rw [if_neg (by rw [hk]; simp [wantA]), if_neg (by decide), if_neg (by decide), if_pos rfl]
      exact t1
    refine ⟨e, ?_⟩
    unfold paL
    rw [if_neg (by simp [e]), if_neg (by decide), if_neg (by decide), if_pos rfl]
    show ptL (rS b (0, 0)) = b
    rw [t4, List.drop_zero, Nat.sub_zero, List.take_length]
  · rw [if_neg c3] at hr
    have hA : gaA c b = askZ := by unfold gaA; rw [if_neg (by simp [hE]), if_neg c0, if_neg c1, if_neg c3]
    obtain ⟨g1, g2, g3⟩ := rM_got hB hr
    rw [hA]
    have e : paE c askZ = 0 := by
      unfold paE
      rw [if_neg (by rw [hk]; unfold wantA; rw [if_neg c0, if_neg c1, if_neg c3]; simp), if_neg c0, if_neg c1, if_neg c3]
    refine ⟨e, ?_⟩
    unfold paL
    rw [if_neg (by simp [e]), if_neg c0, if_neg c1, if_neg c3, ← g3, ← g1, List.take_length]

-- answers
theorem dig4 {d : Int} (h : U16 d) : digs 4 d = digs 2 d ++ [0, 0] := by
  have := h.1; have := h.2
  simp only [digs, List.cons_append, List.nil_append, List.cons.injEq, true_and, and_true]
  omega

theorem ps_parts {c : Int} {s : Say} (h : psE c s = 0) : knB c = true ∧ wantS c s = s ∧ s.size < 4294967296 := by
  unfold psE at h
  by_cases g : knB c = false ∨ wantS c s ≠ s ∨ 4294967296 ≤ s.size
  · rw [if_pos g] at h; cases h
  · simp only [not_or, Decidable.not_not, Bool.not_eq_false, Int.not_le] at g
    exact g

theorem say_back (c : Int) (s : Say) (hs : s.ok) (h : psE c s = 0) : gsE c (psL c s) = 0 ∧ gsS c (psL c s) = s := by
  obtain ⟨hk, hw, hz⟩ := ps_parts h
  by_cases c0 : c = 0
  · subst c0
    have hL : psL 0 s = digs 2 s.dialect ++ ([0, 0] ++ (digs 4 s.size ++ s.challenge)) := by
      unfold psL; rw [if_neg (fun g => g h), if_pos rfl, dig4 hs.dialect, List.append_assoc]
    have l2 : (digs 2 s.dialect).length = 2 := digs_length _ _
    have l4 : (digs 4 s.size).length = 4 := digs_length _ _
    have l8 := hs.challenge.1
    generalize hb : psL 0 s = b at hL
    have hbl : b.length = 16 := by rw [hL]; simp [l2, l4, l8]
    have e1 := dt_app [] (digs 2 s.dialect) ([0, 0] ++ (digs 4 s.size ++ s.challenge))
    have e2 := dt_app (digs 2 s.dialect) [0, 0] (digs 4 s.size ++ s.challenge)
    have e3 := dt_app (digs 2 s.dialect ++ [0, 0]) (digs 4 s.size) s.challenge
    have e4 := dt_app (digs 2 s.dialect ++ ([0, 0] ++ digs 4 s.size)) s.challenge []
    simp only [List.append_assoc, List.append_nil, List.nil_append, List.length_append, l2, l4, l8, List.length_nil, List.length_cons] at e1 e2 e3 e4
    rw [← hL] at e1 e2 e3 e4
    have v1 : rV b 2 (0, 0) = s.dialect := by rw [rV_of (by decide) (by omega), e1, val_digs 2 _ hs.dialect.1 (by have := hs.dialect.2; omega)]
    have n1 : rN b 2 (0, 0) = (2, 0) := rN_ok (by omega)
    have v2 : rV b 2 (2, 0) = 0 := by rw [rV_of (by decide) (by omega), e2]; rfl
    have m1 : rM b 2 0 5 (2, 0) = (4, 0) := by unfold rM; rw [rN_ok (by omega), v2, if_neg (by simp)]
    have v3 : rV b 4 (4, 0) = s.size := by rw [rV_of (by decide) (by omega), e3, val_digs 4 _ hs.size.1 (by omega)]
    have n2 : rN b 4 (4, 0) = (8, 0) := rN_ok (by omega)
    have p1 : rP b 8 (8, 0) = s.challenge := by rw [rP_of (by omega), e4]
    have n3 : rN b 8 (8, 0) = (16, 0) := rN_ok (by omega)
    have hR : gsR 0 b = (b.length, 0) := by unfold gsR; rw [if_pos rfl, n1, m1, n2, n3, hbl]
    have hE : gsE 0 b = 0 := by unfold gsE; rw [if_pos hk, hR, rEnd_ok]
    refine ⟨hE, ?_⟩
    unfold gsS
    rw [if_pos ⟨hE, rfl⟩, n1, m1, v1, v3, n2, p1, pad_full l8]
    exact hw
  · have hL : psL c s = [0, 0, 0, 0] := by unfold psL; rw [if_neg (fun g => g h), if_neg c0]
    have hR : gsR c (psL c s) = ((psL c s).length, 0) := by unfold gsR; rw [if_neg c0, rM_zero (q := []) (by rw [hL]; rfl), hL]; rfl
    have hE : gsE c (psL c s) = 0 := by unfold gsE; rw [if_pos hk, hR, rEnd_ok]
    refine ⟨hE, ?_⟩
    unfold gsS
    rw [if_neg (fun g => c0 g.2)]
    unfold wantS at hw
    rw [if_neg c0] at hw
    exact hw

theorem say_once (c : Int) (b : List Int) (hB : Bytes b) (h : gsE c b = 0) : psE c (gsS c b) = 0 ∧ psL c (gsS c b) = b := by
  have hE := h
  unfold gsE at h
  cases hk : knB c with
  | false => rw [if_neg (by simp [hk])] at h; cases h
  | true =>
  rw [if_pos hk] at h
  have hr := rEnd_zero h
  unfold gsR at hr
  by_cases c0 : c = 0
  · subst c0
    rw [if_pos rfl] at hr
    have step : ∀ {k a x : Nat} {e : Int}, rN b k (a, e) = (x, 0) → e = 0 ∧ a + k ≤ b.length ∧ x = a + k := by
      intro k a x e hh
      by_cases g : e = 0
      · subst g
        by_cases g2 : a + k ≤ b.length
        · rw [rN_ok g2] at hh; simp at hh; exact ⟨rfl, g2, hh.symm⟩
        · rw [rN_short (by omega)] at hh; simp at hh
      · rw [rN_err g] at hh; simp at hh; exact absurd hh.2 g
    have hlen : 16 ≤ b.length := by
      rcases h1 : rM b 2 0 5 (rN b 2 (0, 0)) with ⟨a1, e1⟩
      rw [h1] at hr
      rcases h2 : rN b 4 (a1, e1) with ⟨a2, e2⟩
      rw [h2] at hr
      obtain ⟨rfl, g1, g2⟩ := step hr
      obtain ⟨rfl, g3, g4⟩ := step h2
      unfold rM at h1
      by_cases cc : (rN b 2 (rN b 2 (0, 0))).2 = 0 ∧ 0 < rV b 2 (rN b 2 (0, 0))
      · rw [if_pos cc] at h1; simp at h1
      · rw [if_neg cc] at h1
        rcases h3 : rN b 2 (0, 0) with ⟨a3, e3⟩
        rw [h3] at h1
        obtain ⟨rfl, g5, g6⟩ := step h1
        obtain ⟨_, g7, g8⟩ := step h3
        omega
    have n1 : rN b 2 (0, 0) = (2, 0) := rN_ok (by omega)
    have v2 := rV_of (b := b) (k := 2) (a := 2) (by decide) (by omega)
    have z2 : rV b 2 (2, 0) = 0 := by
      have hb2 : Bytes ((b.drop 2).take 2) := (hB.drop _).take _
      have hv := val_bounds hb2
      rw [← v2] at hv
      by_cases g : 0 < rV b 2 (2, 0)
      · exfalso
        rw [n1] at hr
        have m1 : rM b 2 0 5 (2, 0) = (4, 5) := by unfold rM; rw [rN_ok (by omega), if_pos ⟨rfl, g⟩]
        have m2 : rN b 4 (4, 5) = (4, 5) := rN_err (by decide)
        have m3 : rN b 8 (4, 5) = (4, 5) := rN_err (by decide)
        rw [m1, m2, m3] at hr
        simp at hr
      · omega
    have m1 : rM b 2 0 5 (2, 0) = (4, 0) := by unfold rM; rw [rN_ok (by omega), z2, if_neg (by simp)]
    have n2 : rN b 4 (4, 0) = (8, 0) := rN_ok (by omega)
    have n3 : rN b 8 (8, 0) = (16, 0) := rN_ok (by omega)
    rw [n1, m1, n2, n3] at hr
    simp only [Prod.mk.injEq, and_true] at hr
    have hS : gsS 0 b = { sayZ with dialect := rV b 2 (0, 0), size := rV b 4 (4, 0), challenge := padA 8 (rP b 8 (8, 0)) } := by
      unfold gsS; rw [if_pos ⟨hE, rfl⟩, n1, m1, n2]
    have hpl : ((b.drop 8).take 8).length = 8 := by rw [List.length_take, List.length_drop]; omega
    rw [rP_of (by omega), pad_full hpl, rV_of (by decide) (by omega), rV_of (by decide) (by omega), List.drop_zero] at hS
    have q1 : Bytes (b.take 2) := hB.take _
    have q3 : Bytes ((b.drop 4).take 4) := (hB.drop _).take _
    have q2 : Bytes ((b.drop 2).take 2) := (hB.drop _).take _
    have w1 := val_bounds q1
    have w3 := val_bounds q3
    have d1 := digs_val q1
    have d2 := digs_val q2
    have d3 := digs_val q3
    have x1 : (b.take 2).length = 2 := by rw [List.length_take]; omega
    have x2 : ((b.drop 2).take 2).length = 2 := by rw [List.length_take, List.length_drop]; omega
    have x3 : ((b.drop 4).take 4).length = 4 := by rw [List.length_take, List.length_drop]; omega
    rw [x1] at d1 w1
    rw [x2, ← v2, z2] at d2
    rw [x3] at d3 w3
    rw [hS]
    have e : psE 0 ({ sayZ with dialect := val (b.take 2), size := val ((b.drop 4).take 4), challenge := (b.drop 8).take 8 } : Say) = 0 := by
      unfold psE
      rw [if_neg]
      simp only [hk, wantS, if_true, ne_eq, not_true_eq_false, false_or, or_false, Bool.true_eq_false, Int.not_le]
      have := w3.2
      simpa using this
    refine ⟨e, ?_⟩
    unfold psL
    rw [if_neg (fun g => g e), if_pos rfl]
    show digs 4 (val (b.take 2)) ++ (digs 4 (val ((b.drop 4).take 4)) ++ (b.drop 8).take 8) = b
    rw [dig4 ⟨w1.1, by have := w1.2; omega⟩, d1, d3, show ([0, 0] : List Int) = digs 2 0 from rfl, d2]
    have f8 : (b.drop 8).take 8 = b.drop 8 := List.take_of_length_le (by rw [List.length_drop]; omega)
    rw [f8]
    have f1 : (b.drop 4).take 4 ++ b.drop 8 = b.drop 4 := by
      have := List.take_append_drop 4 (b.drop 4)
      rw [List.drop_drop] at this
      exact this
    have f2 : (b.drop 2).take 2 ++ b.drop 4 = b.drop 2 := by
      have := List.take_append_drop 2 (b.drop 2)
      rw [List.drop_drop] at this
      exact this
    rw [f1, List.append_assoc, f2, List.take_append_drop]
  · rw [if_neg c0] at hr
    have hS : gsS c b = sayZ := by unfold gsS; rw [if_neg (fun g => c0 g.2)]
    obtain ⟨g1, g2, g3⟩ := rM_got hB hr
    rw [hS]
    have e : psE c sayZ = 0 := by
      unfold psE
      rw [if_neg]
      simp only [hk, Bool.true_eq_false, false_or, not_or, Decidable.not_not]
      refine ⟨?_, by decide⟩
      unfold wantS
      rw [if_neg c0]
    refine ⟨e, ?_⟩
    unfold psL
    rw [if_neg (fun g => g e), if_neg c0, ← g3, ← g1, List.take_length]

end Go.Proofs.YtgipkhjpedpedaaDoor.Abs

/- TalkBack, TalkOnce. -/
set_option linter.unusedVariables false
set_option linter.unusedSimpArgs false
set_option maxRecDepth 100000
namespace Go.Proofs.YtgipkhjpedpedaaDoor.Abs
open Go Go.Proofs

theorem pt_size {s : ByteArray} (h : ptE s = 0) : s.size ≤ 4096 := by
  obtain ⟨h1, h2, _⟩ := pt_zero h
  have ha : allAt s 0 = true := by
    unfold utfE at h1
    split at h1
    · assumption
    · cases h1
  have hu : utfL s = (letAt s 0).flatMap uB := by unfold utfL; rw [if_pos ha]
  obtain ⟨_, e⟩ := enc_letters s s.size 0 (by omega) ha
  have e1 := congrArg List.length e
  have k1 : ∀ l : List Int, (u8L (l.flatMap encL)).length ≤ 4 * l.length := by
    intro l
    induction l with
    | nil => simp [u8L]
    | cons x l ih =>
      have := (Lib.encodeRuneZ_length x).2
      simp only [u8L, List.length_map, List.flatMap_cons, List.length_append, List.length_cons] at ih ⊢
      show (Lib.encodeRuneZ x).length + _ ≤ _
      omega
  have k2 : ∀ l : List Int, l.length ≤ (l.flatMap uB).length := by
    intro l
    induction l with
    | nil => simp
    | cons x l ih =>
      have : 1 ≤ (uB x).length := by unfold uB; split <;> simp
      simp only [List.flatMap_cons, List.length_append, List.length_cons]
      omega
  have q1 := k1 (letAt s 0)
  have q2 := k2 (letAt s 0)
  rw [← hu] at q2
  have e2 : s.data.toList.length = s.size := by simp
  simp only [List.drop_zero, e2] at e1
  omega

theorem emp_size : ByteArray.empty.size = 0 := rfl

/-- What GetAsk has read is small, and right. -/
theorem ga_small (c : Int) (b : List Int) (hB : Bytes b) (h : gaE c b = 0) : (gaA c b).small 1048576 := by
  obtain ⟨h1, _⟩ := ask_once c b hB h
  obtain ⟨q1, q2, q3⟩ := gaA_small c b hB
  have hA : gaA c b = if c = 0 then { askZ with dialects := (gaR0 b).1, guid := padA 16 (rP b 16 (gaR0 b).2) } else if c = 1 then { askZ with proof := padA 32 (rP b 32 (0, 0)), user := rS b (rN b 32 (0, 0)) } else if c = 3 then { askZ with share := rS b (0, 0) } else askZ := by
    unfold gaA; rw [if_neg (by simp [h])]
  unfold paE at h1
  split at h1
  · cases h1
  have z := emp_size
  split at h1
  · rename_i c0
    rw [if_pos c0] at hA
    rw [hA] at q1 ⊢
    exact ⟨by have := q1; omega, by simp [askZ, z], by simp [askZ, z], by simp [askZ, z], by simp [askZ], by simp [askZ], by simp [askZ, z], by simp [askZ, z]⟩
  rename_i c0
  rw [if_neg c0] at hA
  split at h1
  · rename_i c1
    rw [if_pos c1] at hA
    have := pt_size h1
    rw [hA] at this ⊢
    exact ⟨by simp [askZ], by simp only at this ⊢; omega, by simp [askZ, z], by simp [askZ, z], by simp [askZ], by simp [askZ], by simp [askZ, z], by simp [askZ, z]⟩
  rename_i c1
  rw [if_neg c1] at hA
  split at h1
  · rename_i c3
    rw [if_pos c3] at hA
    have := pt_size h1
    rw [hA] at this ⊢
    exact ⟨by simp [askZ], by simp [askZ, z], by simp only at this ⊢; omega, by simp [askZ, z], by simp [askZ], by simp [askZ], by simp [askZ, z], by simp [askZ, z]⟩
  rename_i c3
  rw [if_neg c3] at hA
  rw [hA]
  exact ⟨by simp [askZ], by simp [askZ, z], by simp [askZ, z], by simp [askZ, z], by simp [askZ], by simp [askZ], by simp [askZ, z], by simp [askZ, z]⟩

theorem sayZ_ok : sayZ.ok := by
  refine ⟨?_, ?_, ⟨rfl, by unfold Bytes sayZ; decide⟩, ?_, ?_, ?_, ?_, ?_, by unfold Bytes sayZ; decide, ?_, by simp [sayZ]⟩ <;> (unfold sayZ; first | unfold U32 | unfold U8 | unfold U64 | unfold U16) <;> decide

theorem rP_bytes (b : List Int) (k : Nat) (r : Nat × Int) (hB : Bytes b) : Bytes (rP b k r) := by
  unfold rP
  split
  · intro x hx; simp at hx
  split
  · intro x hx; simp at hx
  · exact (hB.drop _).take _

theorem pad_ok {n : Nat} {p : List Int} (h : p.length ≤ n) (hB : Bytes p) : (padA n p).length = n ∧ Bytes (padA n p) := by
  unfold padA
  refine ⟨by simp; omega, ?_⟩
  intro x hx
  rcases List.mem_append.1 hx with hx | hx
  · exact hB x hx
  · rw [(List.mem_replicate.1 hx).2]; omega

theorem dl_u16 (b : List Int) (hB : Bytes b) : ∀ (k : Nat) (r : Nat × Int) (l : List Int), (∀ x ∈ l, U16 x) → ∀ x ∈ (dlF b k r l).1, U16 x
  | 0, r, l, h => h
  | k + 1, r, l, h => by
    unfold dlF
    split
    · refine dl_u16 b hB k _ _ ?_
      intro x hx
      rcases List.mem_append.1 hx with hx | hx
      · exact h x hx
      · have := rV_lt b 2 r hB
        simp only [List.mem_singleton] at hx
        subst hx
        unfold U16
        omega
    · exact h

theorem ga_ok (c : Int) (b : List Int) (hB : Bytes b) : (gaA c b).ok := by
  unfold gaA
  split
  · exact askZ_ok
  split
  · exact { askZ_ok with dialects := dl_u16 b hB _ _ _ (by simp), guid := pad_ok (rP_len b 16 _) (rP_bytes b 16 _ hB) }
  split
  · exact { askZ_ok with proof := pad_ok (rP_len b 32 _) (rP_bytes b 32 _ hB) }
  split
  · exact { askZ_ok with }
  · exact askZ_ok

theorem gs_ok (c : Int) (b : List Int) (hB : Bytes b) : (gsS c b).ok := by
  unfold gsS
  split
  · have h1 := rV_lt b 2 (0, 0) hB
    have h2 := rV_lt b 4 (rM b 2 0 5 (rN b 2 (0, 0))) hB
    exact { sayZ_ok with dialect := by show 0 ≤ rV b 2 (0, 0) ∧ rV b 2 (0, 0) < 65536; omega, size := by show 0 ≤ rV b 4 (rM b 2 0 5 (rN b 2 (0, 0))) ∧ rV b 4 (rM b 2 0 5 (rN b 2 (0, 0))) < 18446744073709551616; omega, challenge := pad_ok (rP_len b 8 _) (rP_bytes b 8 _ hB) }
  · exact sayZ_ok

theorem utfL_bytes (s : ByteArray) : Bytes (utfL s) := by
  unfold utfL
  split
  · rename_i ha
    obtain ⟨e, _⟩ := enc_letters s s.size 0 (by omega) ha
    intro x hx
    obtain ⟨n, hn, hx⟩ := List.mem_flatMap.1 hx
    have := e n hn
    exact runes_bytes ⟨this.1, this.2.1⟩ x hx
  · intro x hx; simp at hx

theorem bytes_app {a b : List Int} (h : Bytes a) (k : Bytes b) : Bytes (a ++ b) := fun x hx => (List.mem_append.1 hx).elim (h x) (k x)

theorem ptL_bytes (s : ByteArray) : Bytes (ptL s) := by
  unfold ptL
  split
  · exact bytes_app (digs_bytes _ _) (utfL_bytes s)
  · intro x hx; simp at hx

theorem paL_bytes (c : Int) (a : Ask) (ha : a.ok) : Bytes (paL c a) := by
  unfold paL
  split
  · intro x hx; simp at hx
  split
  · refine bytes_app (bytes_app (digs_bytes _ _) ?_) ha.guid.2
    intro x hx
    obtain ⟨n, hn, hx⟩ := List.mem_flatMap.1 hx
    exact digs_bytes _ _ x hx
  split
  · exact bytes_app ha.proof.2 (ptL_bytes _)
  split
  · exact ptL_bytes _
  · intro x hx; simp at hx; omega

theorem psL_bytes (c : Int) (s : Say) (hs : s.ok) : Bytes (psL c s) := by
  unfold psL
  split
  · intro x hx; simp at hx
  split
  · exact bytes_app (digs_bytes _ _) (bytes_app (digs_bytes _ _) hs.challenge.2)
  · intro x hx; simp at hx; omega

end Go.Proofs.YtgipkhjpedpedaaDoor.Abs
