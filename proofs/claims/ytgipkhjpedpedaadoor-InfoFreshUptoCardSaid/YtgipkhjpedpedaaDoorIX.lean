/- Joined: I2 I3 I4 I1 I5 I6. -/
import Derived.Test.YtgipkhjpedpedaaDoorUZ
import Derived.Test.YtgipkhjpedpedaaDoorUX
/- PLAIN LAWS: readers over a beginning of what was laid. -/
set_option linter.unusedVariables false
set_option linter.unusedSimpArgs false
set_option maxRecDepth 100000
namespace Go.Proofs.YtgipkhjpedpedaaDoor.Abs
open Go Go.Proofs

/-- A text, as info reads it: on an error it stands at nought. -/
def rU (b : List Int) (r : Nat × Int) : Nat × Int := if r.2 ≠ 0 then r else ((gtX b r.1).toNat, gtE b r.1)

theorem rU_err {b : List Int} {r : Nat × Int} (h : r.2 ≠ 0) : rU b r = r := by unfold rU; rw [if_pos h]
theorem rT_err {b : List Int} {r : Nat × Int} (h : r.2 ≠ 0) : rT b r = r := by unfold rT; rw [if_pos h]
theorem rN_err2 {b : List Int} {k : Nat} {r : Nat × Int} (h : r.2 ≠ 0) : rN b k r = r := by unfold rN; rw [if_pos h]
theorem rM_err {b : List Int} {k : Nat} {m e : Int} {r : Nat × Int} (h : r.2 ≠ 0) : rM b k m e r = r := by
  unfold rM; rw [rN_err2 h, if_neg (fun g => h g.1)]
theorem rU_rT (b : List Int) (r : Nat × Int) : (rU b r).2 = (rT b r).2 ∧ ((rT b r).2 = 0 → rU b r = rT b r) := by
  unfold rU rT
  by_cases h : r.2 = 0
  · rw [if_neg (by simp [h]), if_neg (by simp [h])]
    by_cases g : gtE b r.1 = 0
    · rw [if_neg (by simp [g]), g]; exact ⟨rfl, fun _ => rfl⟩
    · rw [if_pos g]; exact ⟨rfl, fun k => absurd k g⟩
  · rw [if_pos h, if_pos h]; exact ⟨rfl, fun _ => rfl⟩

/-- Readers that tell the same. -/
def Same2 (r r' : Nat × Int) : Prop := r.2 = r'.2 ∧ (r'.2 = 0 → r = r')
theorem Same2.refl (r : Nat × Int) : Same2 r r := ⟨rfl, fun _ => rfl⟩
theorem Same2.step {f : Nat × Int → Nat × Int} (hf : ∀ r, r.2 ≠ 0 → f r = r) {r r' : Nat × Int} (h : Same2 r r') : Same2 (f r) (f r') := by
  by_cases g : r'.2 = 0
  · rw [h.2 g]; exact .refl _
  · rw [hf r (by rw [h.1]; exact g), hf r' g]; exact h
theorem Same2.text {b : List Int} {r r' : Nat × Int} (h : Same2 r r') : Same2 (rU b r) (rT b r') := by
  by_cases g : r'.2 = 0
  · rw [h.2 g]; exact rU_rT b r'
  · rw [rU_err (by rw [h.1]; exact g), rT_err g]; exact h
theorem Same2.end_ {b : List Int} {r r' : Nat × Int} (h : Same2 r r') : rEnd b r = rEnd b r' := by
  by_cases g : r'.2 = 0
  · rw [h.2 g]
  · rw [rEnd_err g, rEnd_err (by rw [h.1]; exact g), h.1]

theorem pre_drop {b p x q : List Int} (hb : b <+: p ++ (x ++ q)) (h : p.length + x.length ≤ b.length) : (b.drop p.length).take x.length = x := by
  obtain ⟨t, ht⟩ := hb
  have e := congrArg (fun l => (l.drop p.length).take x.length) ht
  rw [dt_app, List.drop_append_of_le_length (by omega), List.take_append_of_le_length (by rw [List.length_drop]; omega)] at e
  exact e

theorem rN_pre {b p q : List Int} {k : Nat} {v : Int} (hb : b <+: p ++ (digs k v ++ q)) (hk : szB k = true) (h0 : 0 ≤ v) (hv : v < 256 ^ k) (hp : p.length ≤ b.length) :
    (b.length < p.length + k ∧ rN b k (p.length, 0) = (p.length, 4) ∧ rV b k (p.length, 0) = 0) ∨ (p.length + k ≤ b.length ∧ rN b k (p.length, 0) = (p.length + k, 0) ∧ rV b k (p.length, 0) = v) := by
  by_cases h : p.length + k ≤ b.length
  · right
    refine ⟨h, rN_ok h, ?_⟩
    rw [rV_of hk h]
    have e := pre_drop hb (by rw [digs_length]; exact h)
    rw [digs_length] at e
    rw [e, val_digs k v h0 hv]
  · left
    exact ⟨by omega, rN_short (by omega), rV_short (by omega)⟩

theorem rM_pre {b p q : List Int} {k : Nat} {v m e : Int} (hb : b <+: p ++ (digs k v ++ q)) (hk : szB k = true) (h0 : 0 ≤ v) (hv : v < 256 ^ k) (hm : v ≤ m) (hp : p.length ≤ b.length) :
    (b.length < p.length + k ∧ rM b k m e (p.length, 0) = (p.length, 4) ∧ rV b k (p.length, 0) = 0) ∨ (p.length + k ≤ b.length ∧ rM b k m e (p.length, 0) = (p.length + k, 0) ∧ rV b k (p.length, 0) = v) := by
  unfold rM
  rcases rN_pre hb hk h0 hv hp with ⟨h1, h2, h3⟩ | ⟨h1, h2, h3⟩
  · exact .inl ⟨h1, by rw [h2, if_neg (by simp)], h3⟩
  · exact .inr ⟨h1, by rw [h2, h3, if_neg (by simp only [true_and]; omega)], h3⟩

theorem rT_pre {b p q : List Int} {s : ByteArray} (hs : ptE s = 0) (hb : b <+: p ++ (ptL s ++ q)) (hp : p.length ≤ b.length) :
    (b.length < p.length + (ptL s).length ∧ (rT b (p.length, 0)).2 = 4) ∨ (p.length + (ptL s).length ≤ b.length ∧ rT b (p.length, 0) = (p.length + (ptL s).length, 0) ∧ rS b (p.length, 0) = s) := by
  by_cases h : p.length + (ptL s).length ≤ b.length
  · right
    have hb' : p ++ ptL s <+: b := by
      refine List.prefix_of_prefix_length_le (l₃ := p ++ (ptL s ++ q)) ?_ hb (by rw [List.length_append]; exact h)
      rw [← List.append_assoc]
      exact List.prefix_append _ _
    obtain ⟨t, rfl⟩ := hb'
    rw [List.append_assoc] at *
    exact ⟨h, rT_app hs p t⟩
  · left
    refine ⟨by omega, rT_cut hs p b ?_ hp (by omega)⟩
    refine List.prefix_of_prefix_length_le (l₃ := p ++ (ptL s ++ q)) hb ?_ (by rw [List.length_append]; omega)
    rw [← List.append_assoc]
    exact List.prefix_append _ _

theorem rU_pre {b p q : List Int} {s : ByteArray} (hs : ptE s = 0) (hb : b <+: p ++ (ptL s ++ q)) (hp : p.length ≤ b.length) :
    (b.length < p.length + (ptL s).length ∧ (rU b (p.length, 0)).2 = 4) ∨ (p.length + (ptL s).length ≤ b.length ∧ rU b (p.length, 0) = (p.length + (ptL s).length, 0) ∧ rS b (p.length, 0) = s) := by
  obtain ⟨e1, e2⟩ := rU_rT b (p.length, 0)
  rcases rT_pre hs hb hp with ⟨h1, h2⟩ | ⟨h1, h2, h3⟩
  · exact .inl ⟨h1, by rw [e1, h2]⟩
  · exact .inr ⟨h1, by rw [e2 (by rw [h2]), h2], h3⟩

-- what was got, by parts
theorem rN_got {b : List Int} (hB : Bytes b) {k a x : Nat} {e : Int} (hk : szB k = true) (h : rN b k (a, e) = (x, 0)) : e = 0 ∧ x = a + k ∧ a + k ≤ b.length ∧ digs k (rV b k (a, e)) = (b.drop a).take k ∧ 0 ≤ rV b k (a, e) ∧ rV b k (a, e) < 256 ^ k := by
  by_cases g : e = 0
  · subst g
    by_cases g2 : a + k ≤ b.length
    · rw [rN_ok g2] at h
      simp only [Prod.mk.injEq, and_true] at h
      have hb2 : Bytes ((b.drop a).take k) := (hB.drop _).take _
      have hl2 : ((b.drop a).take k).length = k := by rw [List.length_take, List.length_drop]; omega
      have hd := digs_val hb2
      have hv := val_bounds hb2
      rw [hl2] at hd hv
      rw [rV_of hk g2]
      exact ⟨rfl, h.symm, g2, hd, hv⟩
    · rw [rN_short (by omega)] at h; simp at h
  · rw [rN_err g] at h
    simp only [Prod.mk.injEq] at h
    exact absurd h.2 g

theorem rM_got2 {b : List Int} (hB : Bytes b) {k a x : Nat} {m e0 e : Int} (he : e0 ≠ 0) (hk : szB k = true) (h : rM b k m e0 (a, e) = (x, 0)) : e = 0 ∧ x = a + k ∧ a + k ≤ b.length ∧ digs k (rV b k (a, e)) = (b.drop a).take k ∧ 0 ≤ rV b k (a, e) ∧ rV b k (a, e) < 256 ^ k ∧ rV b k (a, e) ≤ m := by
  unfold rM at h
  by_cases c : (rN b k (a, e)).2 = 0 ∧ m < rV b k (a, e)
  · rw [if_pos c] at h
    simp only [Prod.mk.injEq] at h
    exact absurd h.2 he
  · rw [if_neg c] at h
    obtain ⟨h1, h2, h3, h4, h5, h6⟩ := rN_got hB hk h
    rw [h] at c
    exact ⟨h1, h2, h3, h4, h5, h6, by simp only [true_and] at c; omega⟩

theorem rT_got2 {b : List Int} (hB : Bytes b) {a x : Nat} {e : Int} (h : rT b (a, e) = (x, 0)) : e = 0 ∧ ptE (rS b (a, e)) = 0 ∧ a ≤ x ∧ x ≤ b.length ∧ ptL (rS b (a, e)) = (b.drop a).take (x - a) := by
  by_cases g : e = 0
  · subst g; exact ⟨rfl, rT_got hB h⟩
  · rw [rT_err g] at h
    simp only [Prod.mk.injEq] at h
    exact absurd h.2 g

theorem rU_got2 {b : List Int} (hB : Bytes b) {a x : Nat} {e : Int} (h : rU b (a, e) = (x, 0)) : e = 0 ∧ ptE (rS b (a, e)) = 0 ∧ a ≤ x ∧ x ≤ b.length ∧ ptL (rS b (a, e)) = (b.drop a).take (x - a) := by
  obtain ⟨e1, e2⟩ := rU_rT b (a, e)
  have h2 : (rT b (a, e)).2 = 0 := by rw [← e1, h]
  rw [e2 h2] at h
  exact rT_got2 hB h

/-- Two neighbouring pieces are one. -/
theorem take_two {b : List Int} {a m n : Nat} (h : m ≤ n) : (b.drop a).take m ++ (b.drop (a + m)).take (n - m) = (b.drop a).take n := by
  rw [← List.drop_drop, ← List.take_add]
  congr 1
  omega

end Go.Proofs.YtgipkhjpedpedaaDoor.Abs

/- PLAIN LAWS: the asks of info. -/
set_option linter.unusedVariables false
set_option linter.unusedSimpArgs false
set_option maxRecDepth 100000
namespace Go.Proofs.YtgipkhjpedpedaaDoor.Abs
open Go Go.Proofs

/-- How far a reader is, over a beginning of what was laid. -/
def StR (b p : List Int) (r : Nat × Int) : Prop := (r.2 = 4 ∧ b.length < p.length) ∨ (r = (p.length, 0) ∧ p.length ≤ b.length)

theorem StR.nil (b : List Int) : StR b [] (0, 0) := .inr ⟨rfl, Nat.zero_le _⟩

theorem stepN {b p q : List Int} {k : Nat} {v : Int} {r : Nat × Int} (hb : b <+: p ++ (digs k v ++ q)) (hk : szB k = true) (hv : 0 ≤ v ∧ v < 256 ^ k) (h : StR b p r) :
    StR b (p ++ digs k v) (rN b k r) ∧ ((p ++ digs k v).length ≤ b.length → rV b k r = v) := by
  have hl : (p ++ digs k v).length = p.length + k := by rw [List.length_append, digs_length]
  rcases h with ⟨h1, h2⟩ | ⟨rfl, h2⟩
  · exact ⟨.inl ⟨by rw [rN_err2 (by rw [h1]; decide)]; exact h1, by omega⟩, fun g => by omega⟩
  · rcases rN_pre hb hk hv.1 hv.2 h2 with ⟨g1, g2, g3⟩ | ⟨g1, g2, g3⟩
    · exact ⟨.inl ⟨by rw [g2], by omega⟩, fun g => by omega⟩
    · exact ⟨.inr ⟨by rw [g2, hl], by omega⟩, fun _ => g3⟩

theorem stepM {b p q : List Int} {k : Nat} {v m e : Int} {r : Nat × Int} (hb : b <+: p ++ (digs k v ++ q)) (hk : szB k = true) (hv : 0 ≤ v ∧ v < 256 ^ k) (hm : v ≤ m) (h : StR b p r) :
    StR b (p ++ digs k v) (rM b k m e r) ∧ ((p ++ digs k v).length ≤ b.length → rV b k r = v) := by
  have hl : (p ++ digs k v).length = p.length + k := by rw [List.length_append, digs_length]
  rcases h with ⟨h1, h2⟩ | ⟨rfl, h2⟩
  · exact ⟨.inl ⟨by rw [rM_err (by rw [h1]; decide)]; exact h1, by omega⟩, fun g => by omega⟩
  · rcases rM_pre (e := e) hb hk hv.1 hv.2 hm h2 with ⟨g1, g2, g3⟩ | ⟨g1, g2, g3⟩
    · exact ⟨.inl ⟨by rw [g2], by omega⟩, fun g => by omega⟩
    · exact ⟨.inr ⟨by rw [g2, hl], by omega⟩, fun _ => g3⟩

theorem stepU {b p q : List Int} {s : ByteArray} {r : Nat × Int} (hs : ptE s = 0) (hb : b <+: p ++ (ptL s ++ q)) (h : StR b p r) :
    StR b (p ++ ptL s) (rU b r) ∧ ((p ++ ptL s).length ≤ b.length → rS b r = s) := by
  have hl : (p ++ ptL s).length = p.length + (ptL s).length := List.length_append
  rcases h with ⟨h1, h2⟩ | ⟨rfl, h2⟩
  · exact ⟨.inl ⟨by rw [rU_err (by rw [h1]; decide)]; exact h1, by omega⟩, fun g => by omega⟩
  · rcases rU_pre hs hb h2 with ⟨g1, g2⟩ | ⟨g1, g2, g3⟩
    · exact ⟨.inl ⟨g2, by omega⟩, fun g => by omega⟩
    · exact ⟨.inr ⟨by rw [g2, hl], by omega⟩, fun _ => g3⟩

theorem stepT {b p q : List Int} {s : ByteArray} {r : Nat × Int} (hs : ptE s = 0) (hb : b <+: p ++ (ptL s ++ q)) (h : StR b p r) :
    StR b (p ++ ptL s) (rT b r) ∧ ((p ++ ptL s).length ≤ b.length → rS b r = s) := by
  have hl : (p ++ ptL s).length = p.length + (ptL s).length := List.length_append
  rcases h with ⟨h1, h2⟩ | ⟨rfl, h2⟩
  · exact ⟨.inl ⟨by rw [rT_err (by rw [h1]; decide)]; exact h1, by omega⟩, fun g => by omega⟩
  · rcases rT_pre hs hb h2 with ⟨g1, g2⟩ | ⟨g1, g2, g3⟩
    · exact ⟨.inl ⟨g2, by omega⟩, fun g => by omega⟩
    · exact ⟨.inr ⟨by rw [g2, hl], by omega⟩, fun _ => g3⟩

def ikB (c : Int) : Bool := c == 12 || c == 14 || c == 16 || c == 17 || c == 18
def onV (b : Bool) : Int := if b then 1 else 0
def iaW (c : Int) (a : Ask) : Ask :=
  if c = 12 then askZ else if c = 14 then { askZ with file := a.file, most := a.most, pattern := a.pattern, after := a.after }
  else if c = 17 then (if a.cls = 1 then { askZ with file := a.file, cls := a.cls, size := a.size } else if a.cls = 2 then { askZ with file := a.file, cls := a.cls, on := a.on }
    else if a.cls = 3 then { askZ with file := a.file, cls := a.cls, on := a.on, name := a.name } else { askZ with file := a.file, cls := a.cls })
  else if c = 18 then { askZ with file := a.file, level := a.level } else { askZ with file := a.file }
def iaE (c : Int) (a : Ask) : Int :=
  if ikB c = false ∨ iaW c a ≠ a ∨ (c = 17 ∧ (a.cls < 1 ∨ 3 < a.cls)) then 2
  else if c = 14 then (if ptE a.pattern ≠ 0 then ptE a.pattern else ptE a.after) else if c = 17 ∧ a.cls = 3 then ptE a.name else 0
def iaL (c : Int) (a : Ask) : List Int :=
  if iaE c a ≠ 0 then [] else if c = 12 then digs 4 0
  else if c = 14 then digs 8 a.file ++ (digs 2 a.most ++ (digs 2 0 ++ (ptL a.pattern ++ ptL a.after)))
  else if c = 17 then digs 8 a.file ++ (digs 2 a.cls ++ (if a.cls = 1 then digs 8 a.size else digs 2 (onV a.on) ++ (if a.cls = 3 then ptL a.name else [])))
  else if c = 18 then digs 8 a.file ++ (digs 1 a.level ++ (digs 1 0 ++ digs 2 0)) else digs 8 a.file

def ig1 (b : List Int) : Nat × Int := rN b 8 (0, 0)
def ig2 (b : List Int) : Nat × Int := rN b 2 (ig1 b)
def igR (c : Int) (b : List Int) : Nat × Int :=
  if c = 12 then rM b 4 0 5 (0, 0) else if c = 14 then rU b (rU b (rM b 2 0 5 (ig2 b)))
  else if c = 17 then (if rV b 2 (ig1 b) = 1 then rN b 8 (ig2 b) else if rV b 2 (ig1 b) = 2 then rM b 2 1 5 (ig2 b)
    else if rV b 2 (ig1 b) = 3 then rU b (rM b 2 1 5 (ig2 b)) else if (ig2 b).2 = 0 then ((ig2 b).1, 5) else ig2 b)
  else if c = 18 then rM b 2 0 5 (rM b 1 0 5 (rN b 1 (ig1 b))) else ig1 b
def igV (c : Int) (b : List Int) : Ask :=
  if c = 12 then askZ else if c = 14 then { askZ with file := rV b 8 (0, 0), most := rV b 2 (ig1 b), pattern := rS b (rM b 2 0 5 (ig2 b)), after := rS b (rU b (rM b 2 0 5 (ig2 b))) }
  else if c = 17 then (if rV b 2 (ig1 b) = 1 then { askZ with file := rV b 8 (0, 0), cls := rV b 2 (ig1 b), size := rV b 8 (ig2 b) }
    else if rV b 2 (ig1 b) = 2 then { askZ with file := rV b 8 (0, 0), cls := rV b 2 (ig1 b), on := rV b 2 (ig2 b) == 1 }
    else if rV b 2 (ig1 b) = 3 then { askZ with file := rV b 8 (0, 0), cls := rV b 2 (ig1 b), on := rV b 2 (ig2 b) == 1, name := rS b (rM b 2 1 5 (ig2 b)) }
    else { askZ with file := rV b 8 (0, 0), cls := rV b 2 (ig1 b) })
  else if c = 18 then { askZ with file := rV b 8 (0, 0), level := rV b 1 (ig1 b) } else { askZ with file := rV b 8 (0, 0) }
def igE (c : Int) (b : List Int) : Int := if ikB c = true then rEnd b (igR c b) else 2
def igA (c : Int) (b : List Int) : Ask := if igE c b ≠ 0 then askZ else igV c b

theorem on_back (x : Bool) : (onV x == 1) = x := by cases x <;> rfl
theorem on_ok (x : Bool) : 0 ≤ onV x ∧ onV x < 256 ^ 2 ∧ onV x ≤ 1 := by cases x <;> decide

theorem ia_pre (c : Int) (a : Ask) (ha : a.ok) (h : iaE c a = 0) (b q : List Int) (hb : b <+: iaL c a ++ q) :
    StR b (iaL c a) (igR c b) ∧ ((iaL c a).length ≤ b.length → igV c b = a) := by
  have hE := h
  unfold iaE at h
  by_cases hk : ikB c = false ∨ iaW c a ≠ a ∨ (c = 17 ∧ (a.cls < 1 ∨ 3 < a.cls))
  · rw [if_pos hk] at h; cases h
  rw [if_neg hk] at h
  simp only [not_or, Decidable.not_not, Bool.not_eq_false] at hk
  obtain ⟨hk, hw, hcl⟩ := hk
  have u64 : ∀ {x : Int}, U64 x → 0 ≤ x ∧ x < 256 ^ 8 := fun h => ⟨h.1, by have := h.2; omega⟩
  have u16 : ∀ {x : Int}, U16 x → 0 ≤ x ∧ x < 256 ^ 2 := fun h => ⟨h.1, by have := h.2; omega⟩
  have u8 : ∀ {x : Int}, U8 x → 0 ≤ x ∧ x < 256 ^ 1 := fun h => ⟨h.1, by have := h.2; omega⟩
  have hn0 : ¬ iaE c a ≠ 0 := fun g => g hE
  by_cases c12 : c = 12
  · subst c12
    have hL : iaL 12 a = digs 4 0 := by unfold iaL; rw [if_neg hn0, if_pos rfl]
    rw [hL] at hb ⊢
    obtain ⟨s1, v1⟩ := stepM (p := []) (m := 0) (e := 5) (by simpa using hb) (by decide) (by decide) (by decide) (StR.nil b)
    refine ⟨by unfold igR; rw [if_pos rfl]; simpa using s1, fun _ => ?_⟩
    unfold igV; rw [if_pos rfl]
    unfold iaW at hw; rw [if_pos rfl] at hw
    exact hw
  have file : ∀ x : List Int, b <+: digs 8 a.file ++ x → StR b (digs 8 a.file) (ig1 b) ∧ ((digs 8 a.file).length ≤ b.length → rV b 8 (0, 0) = a.file) := by
    intro x hx
    have := stepN (p := []) (by simpa using hx) (by decide) (u64 ha.file) (StR.nil b)
    simpa [ig1] using this
  by_cases c14 : c = 14
  · subst c14
    rw [if_pos rfl] at h
    have hp : ptE a.pattern = 0 := by
      by_cases g : ptE a.pattern = 0
      · exact g
      · rw [if_pos g] at h; exact h
    rw [if_neg (by simp [hp])] at h
    have hL : iaL 14 a = digs 8 a.file ++ (digs 2 a.most ++ (digs 2 0 ++ (ptL a.pattern ++ ptL a.after))) := by unfold iaL; rw [if_neg hn0, if_neg c12, if_pos rfl]
    rw [hL] at hb ⊢
    simp only [List.append_assoc] at hb
    obtain ⟨s1, v1⟩ := file _ hb
    obtain ⟨s2, v2⟩ := stepN hb (by decide) (u16 ha.most) s1
    obtain ⟨s3, v3⟩ := stepM (m := 0) (e := 5) (by rw [List.append_assoc]; exact hb) (by decide) (by decide) (by decide) s2
    obtain ⟨s4, v4⟩ := stepU hp (by simp only [List.append_assoc]; exact hb) s3
    obtain ⟨s5, v5⟩ := stepU h (by simp only [List.append_assoc]; exact hb) s4
    simp only [List.append_assoc] at s5 v5 v4 v3 v2
    refine ⟨by unfold igR; rw [if_neg c12, if_pos rfl]; exact s5, fun hl => ?_⟩
    simp only [List.length_append] at hl v1 v2 v3 v4 v5
    unfold igV
    rw [if_neg c12, if_pos rfl]
    unfold ig2
    rw [v1 (by omega), v2 (by omega), v4 (by omega), v5 (by omega)]
    unfold iaW at hw; rw [if_neg c12, if_pos rfl] at hw
    exact hw
  rw [if_neg c14] at h
  by_cases c17 : c = 17
  · subst c17
    have hL : iaL 17 a = digs 8 a.file ++ (digs 2 a.cls ++ (if a.cls = 1 then digs 8 a.size else digs 2 (onV a.on) ++ (if a.cls = 3 then ptL a.name else []))) := by unfold iaL; rw [if_neg hn0, if_neg c12, if_neg c14, if_pos rfl]
    rw [hL] at hb ⊢
    generalize hX : (if a.cls = 1 then digs 8 a.size else digs 2 (onV a.on) ++ (if a.cls = 3 then ptL a.name else [])) = Xl at hb ⊢
    simp only [List.append_assoc] at hb
    obtain ⟨s1, v1⟩ := file _ hb
    obtain ⟨s2, v2⟩ := stepN hb (by decide) (u16 ha.cls) s1
    have hb2 : b <+: (digs 8 a.file ++ digs 2 a.cls) ++ (Xl ++ q) := by rw [List.append_assoc]; exact hb
    rw [← List.append_assoc]
    by_cases hl2 : (digs 8 a.file ++ digs 2 a.cls).length ≤ b.length
    · have e2 := v2 hl2
      have e1 := v1 (by rw [List.length_append] at hl2; omega)
      have hcr : a.cls = 1 ∨ a.cls = 2 ∨ a.cls = 3 := by have := fun g => hcl ⟨rfl, g⟩; omega
      unfold igR igV
      rw [if_neg c12, if_neg c14, if_pos rfl, if_neg c12, if_neg c14, if_pos rfl, e2, e1]
      unfold iaW at hw
      rw [if_neg c12, if_neg c14, if_pos rfl] at hw
      rcases hcr with g | g | g
      · rw [if_pos g] at hX hw ⊢
        rw [if_pos g]
        subst hX
        obtain ⟨s3, v3⟩ := stepN hb2 (by decide) (u64 ha.size) s2
        refine ⟨s3, fun hl => ?_⟩
        show ({ askZ with file := a.file, cls := a.cls, size := rV b 8 (rN b 2 (ig1 b)) } : Ask) = a
        rw [v3 hl]
        exact hw
      · have g1 : ¬ a.cls = 1 := by omega
        have g3 : ¬ a.cls = 3 := by omega
        rw [if_neg g1, if_neg g3, List.append_nil] at hX
        rw [if_neg g1, if_pos g] at hw ⊢
        rw [if_neg g1, if_pos g]
        subst hX
        obtain ⟨s3, v3⟩ := stepM (m := 1) (e := 5) hb2 (by decide) ⟨(on_ok _).1, (on_ok _).2.1⟩ (on_ok _).2.2 s2
        refine ⟨s3, fun hl => ?_⟩
        show ({ askZ with file := a.file, cls := a.cls, on := rV b 2 (rN b 2 (ig1 b)) == 1 } : Ask) = a
        rw [v3 hl, on_back]
        exact hw
      · have g1 : ¬ a.cls = 1 := by omega
        have g2 : ¬ a.cls = 2 := by omega
        rw [if_neg g1, if_pos g] at hX
        rw [if_neg g1, if_neg g2, if_pos g] at hw ⊢
        rw [if_neg g1, if_neg g2, if_pos g]
        rw [if_pos ⟨rfl, g⟩] at h
        subst hX
        obtain ⟨s3, v3⟩ := stepM (m := 1) (e := 5) (v := onV a.on) (q := ptL a.name ++ q) (by simpa only [List.append_assoc] using hb2) (by decide) ⟨(on_ok _).1, (on_ok _).2.1⟩ (on_ok _).2.2 s2
        obtain ⟨s4, v4⟩ := stepU (q := q) h (by simpa only [List.append_assoc] using hb2) s3
        simp only [List.append_assoc] at s4 v3 v4 ⊢
        refine ⟨s4, fun hl => ?_⟩
        show ({ askZ with file := a.file, cls := a.cls, on := rV b 2 (rN b 2 (ig1 b)) == 1, name := rS b (rM b 2 1 5 (rN b 2 (ig1 b))) } : Ask) = a
        simp only [List.length_append] at hl v3 v4
        rw [v3 (by omega), v4 (by omega), on_back]
        exact hw
    · have hbad : (ig2 b).2 = 4 := by
        rcases s2 with ⟨g, _⟩ | ⟨_, g⟩
        · exact g
        · exact absurd g hl2
      have hne : (ig2 b).2 ≠ 0 := by rw [hbad]; decide
      refine ⟨.inl ⟨?_, by rw [List.length_append]; omega⟩, fun hl => by rw [List.length_append] at hl; omega⟩
      unfold igR
      rw [if_neg c12, if_neg c14, if_pos rfl, rN_err2 hne, rM_err hne, rU_err hne, if_neg hne]
      repeat' split
      all_goals exact hbad
  by_cases c18 : c = 18
  · subst c18
    have hL : iaL 18 a = digs 8 a.file ++ (digs 1 a.level ++ (digs 1 0 ++ digs 2 0)) := by unfold iaL; rw [if_neg hn0, if_neg c12, if_neg c14, if_neg c17, if_pos rfl]
    rw [hL] at hb ⊢
    simp only [List.append_assoc] at hb
    obtain ⟨s1, v1⟩ := file _ hb
    obtain ⟨s2, v2⟩ := stepN hb (by decide) (u8 ha.level) s1
    obtain ⟨s3, v3⟩ := stepM (m := 0) (e := 5) (by rw [List.append_assoc]; exact hb) (by decide) (by decide) (by decide) s2
    obtain ⟨s4, v4⟩ := stepM (m := 0) (e := 5) (by simp only [List.append_assoc]; exact hb) (by decide) (by decide) (by decide) s3
    simp only [List.append_assoc] at s4 v4 v3 v2
    refine ⟨by unfold igR; rw [if_neg c12, if_neg c14, if_neg c17, if_pos rfl]; exact s4, fun hl => ?_⟩
    simp only [List.length_append] at hl v1 v2 v3 v4
    unfold igV
    rw [if_neg c12, if_neg c14, if_neg c17, if_pos rfl, v1 (by omega), v2 (by omega)]
    unfold iaW at hw; rw [if_neg c12, if_neg c14, if_neg c17, if_pos rfl] at hw
    exact hw
  · have hL : iaL c a = digs 8 a.file := by unfold iaL; rw [if_neg hn0, if_neg c12, if_neg c14, if_neg c17, if_neg c18]
    rw [hL] at hb ⊢
    obtain ⟨s1, v1⟩ := file _ hb
    refine ⟨by unfold igR; rw [if_neg c12, if_neg c14, if_neg c17, if_neg c18]; exact s1, fun hl => ?_⟩
    unfold igV
    rw [if_neg c12, if_neg c14, if_neg c17, if_neg c18, v1 hl]
    unfold iaW at hw; rw [if_neg c12, if_neg c14, if_neg c17, if_neg c18] at hw
    exact hw

theorem ia_known {c : Int} {a : Ask} (h : iaE c a = 0) : ikB c = true := by
  unfold iaE at h
  cases hk : ikB c with
  | true => rfl
  | false => rw [if_pos (.inl hk)] at h; cases h

theorem info_back (c : Int) (a : Ask) (ha : a.ok) (h : iaE c a = 0) : igE c (iaL c a) = 0 ∧ igA c (iaL c a) = a := by
  obtain ⟨s, v⟩ := ia_pre c a ha h (iaL c a) [] (by rw [List.append_nil]; exact List.prefix_refl _)
  have e : igE c (iaL c a) = 0 := by
    unfold igE
    rw [if_pos (ia_known h)]
    rcases s with ⟨_, g⟩ | ⟨g, _⟩
    · omega
    · rw [g, rEnd_ok]
  refine ⟨e, ?_⟩
  unfold igA
  rw [if_neg (fun g => g e), v (Nat.le_refl _)]

theorem info_more (c : Int) (a : Ask) (ha : a.ok) (h : iaE c a = 0) (q : List Int) (hq : q ≠ []) : igE c (iaL c a ++ q) = 5 := by
  obtain ⟨s, v⟩ := ia_pre c a ha h (iaL c a ++ q) q (List.prefix_refl _)
  have h0 : 0 < q.length := by
    cases q with
    | nil => exact absurd rfl hq
    | cons x q => simp
  unfold igE
  rw [if_pos (ia_known h)]
  rcases s with ⟨_, g⟩ | ⟨g, _⟩
  · rw [List.length_append] at g; omega
  · rw [g, rEnd_long (by rw [List.length_append]; omega)]

theorem info_cut (c : Int) (a : Ask) (ha : a.ok) (h : iaE c a = 0) (k : Nat) (hk : k < (iaL c a).length) : igE c ((iaL c a).take k) = 4 := by
  obtain ⟨s, v⟩ := ia_pre c a ha h ((iaL c a).take k) [] (by rw [List.append_nil]; exact List.take_prefix _ _)
  unfold igE
  rw [if_pos (ia_known h)]
  rcases s with ⟨g, _⟩ | ⟨_, g⟩
  · rw [rEnd_err (by rw [g]; decide), g]
  · rw [List.length_take] at g; omega

theorem peel (b : List Int) (a m : Nat) : (b.drop a).take m ++ b.drop (a + m) = b.drop a := by
  rw [← List.drop_drop, List.take_append_drop]

theorem on_digs {v : Int} (h0 : 0 ≤ v) (h : v ≤ 1) : digs 2 (onV (v == 1)) = digs 2 v := by
  rcases (show v = 0 ∨ v = 1 by omega) with rfl | rfl <;> rfl

theorem info_once (c : Int) (b : List Int) (hB : Bytes b) (h : igE c b = 0) : iaE c (igA c b) = 0 ∧ iaL c (igA c b) = b := by
  have hE := h
  unfold igE at h
  cases hk : ikB c with
  | false => rw [if_neg (by simp [hk])] at h; cases h
  | true =>
  rw [if_pos hk] at h
  have hr := rEnd_zero h
  have hA : igA c b = igV c b := by unfold igA; rw [if_neg (fun g => g hE)]
  rw [hA]
  unfold igR at hr
  unfold igV
  by_cases c12 : c = 12
  · subst c12
    rw [if_pos rfl] at hr ⊢
    obtain ⟨_, g2, g3, g4, g5, _, g7⟩ := rM_got2 hB (by decide) (by decide) hr
    have e : iaE 12 askZ = 0 := by unfold iaE; rw [if_neg (by rw [hk]; simp [iaW])]; rfl
    refine ⟨e, ?_⟩
    unfold iaL
    rw [if_neg (fun g => g e), if_pos rfl, show (0 : Int) = rV b 4 (0, 0) by omega, g4, List.drop_zero, List.take_of_length_le (by omega)]
  rw [if_neg c12] at hr ⊢
  by_cases c14 : c = 14
  · subst c14
    rw [if_pos rfl] at hr ⊢
    unfold ig2 ig1 at hr ⊢
    rcases h1 : rN b 8 (0, 0) with ⟨a1, e1⟩
    rw [h1] at hr
    rcases h2 : rN b 2 (a1, e1) with ⟨a2, e2⟩
    rw [h2] at hr
    rcases h3 : rM b 2 0 5 (a2, e2) with ⟨a3, e3⟩
    rw [h3] at hr
    rcases h4 : rU b (a3, e3) with ⟨a4, e4⟩
    rw [h4] at hr
    obtain ⟨rfl, p5, l5, m5, d5⟩ := rU_got2 hB hr
    obtain ⟨rfl, p4, l4, m4, d4⟩ := rU_got2 hB h4
    obtain ⟨rfl, x3, m3, d3, z3, _, y3⟩ := rM_got2 hB (by decide) (by decide) h3
    obtain ⟨rfl, x2, m2, d2, z2⟩ := rN_got hB (by decide) h2
    obtain ⟨_, x1, m1, d1, z1⟩ := rN_got hB (by decide) h1
    have e : iaE 14 ({ askZ with file := rV b 8 (0, 0), most := rV b 2 (a1, 0), pattern := rS b (a3, 0), after := rS b (a4, 0) } : Ask) = 0 := by
      unfold iaE
      rw [if_neg (by rw [hk]; simp [iaW]), if_pos rfl, if_neg (fun g => g p4)]
      exact p5
    refine ⟨e, ?_⟩
    unfold iaL
    rw [if_neg (fun g => g e), if_neg c12, if_pos rfl]
    show digs 8 (rV b 8 (0, 0)) ++ (digs 2 (rV b 2 (a1, 0)) ++ (digs 2 0 ++ (ptL (rS b (a3, 0)) ++ ptL (rS b (a4, 0))))) = b
    have f5 : (b.drop a4).take (b.length - a4) = b.drop a4 := List.take_of_length_le (by rw [List.length_drop]; omega)
    have f4 := peel b a3 (a4 - a3)
    rw [show a3 + (a4 - a3) = a4 by omega] at f4
    have w3 : digs 2 0 = (b.drop a2).take 2 := by rw [← d3]; congr 1; omega
    rw [d1, d2, w3, d4, d5, f5, f4, x3, peel, x2, peel, x1, peel, List.drop_zero]
  rw [if_neg c14] at hr ⊢
  by_cases c17 : c = 17
  · subst c17
    rw [if_pos rfl] at hr ⊢
    unfold ig2 ig1 at hr ⊢
    rcases h1 : rN b 8 (0, 0) with ⟨a1, e1⟩
    rw [h1] at hr
    rcases h2 : rN b 2 (a1, e1) with ⟨a2, e2⟩
    rw [h2] at hr
    by_cases v1 : rV b 2 (a1, e1) = 1
    · rw [if_pos v1] at hr ⊢
      obtain ⟨rfl, x3, m3, d3, z3⟩ := rN_got hB (by decide) hr
      obtain ⟨rfl, x2, m2, d2, z2⟩ := rN_got hB (by decide) h2
      obtain ⟨_, x1, m1, d1, z1⟩ := rN_got hB (by decide) h1
      have e : iaE 17 ({ askZ with file := rV b 8 (0, 0), cls := rV b 2 (a1, 0), size := rV b 8 (a2, 0) } : Ask) = 0 := by
        unfold iaE
        rw [if_neg (by rw [hk]; simp [iaW, v1]), if_neg (by decide), if_neg (by simp only [v1]; omega)]
      refine ⟨e, ?_⟩
      unfold iaL
      rw [if_neg (fun g => g e), if_neg c12, if_neg c14, if_pos rfl]
      simp only
      rw [if_pos v1, d1, d2, d3]
      have f5 : (b.drop a2).take 8 = b.drop a2 := List.take_of_length_le (by rw [List.length_drop]; omega)
      rw [f5, x2, peel, x1, peel, List.drop_zero]
    rw [if_neg v1] at hr ⊢
    by_cases v2 : rV b 2 (a1, e1) = 2
    · rw [if_pos v2] at hr ⊢
      obtain ⟨rfl, x3, m3, d3, z3, _, y3⟩ := rM_got2 hB (by decide) (by decide) hr
      obtain ⟨rfl, x2, m2, d2, z2⟩ := rN_got hB (by decide) h2
      obtain ⟨_, x1, m1, d1, z1⟩ := rN_got hB (by decide) h1
      have e : iaE 17 ({ askZ with file := rV b 8 (0, 0), cls := rV b 2 (a1, 0), on := rV b 2 (a2, 0) == 1 } : Ask) = 0 := by
        unfold iaE
        rw [if_neg (by rw [hk]; simp [iaW, v2]), if_neg (by decide), if_neg (by simp only [v2]; omega)]
      refine ⟨e, ?_⟩
      unfold iaL
      rw [if_neg (fun g => g e), if_neg c12, if_neg c14, if_pos rfl]
      simp only
      rw [if_neg v1, if_neg (by rw [v2]; decide), List.append_nil, on_digs z3 y3, d1, d2, d3]
      have f5 : (b.drop a2).take 2 = b.drop a2 := List.take_of_length_le (by rw [List.length_drop]; omega)
      rw [f5, x2, peel, x1, peel, List.drop_zero]
    rw [if_neg v2] at hr ⊢
    by_cases v3 : rV b 2 (a1, e1) = 3
    · rw [if_pos v3] at hr ⊢
      rcases h3 : rM b 2 1 5 (a2, e2) with ⟨a3, e3⟩
      rw [h3] at hr
      obtain ⟨rfl, p4, l4, m4, d4⟩ := rU_got2 hB hr
      obtain ⟨rfl, x3, m3, d3, z3, _, y3⟩ := rM_got2 hB (by decide) (by decide) h3
      obtain ⟨rfl, x2, m2, d2, z2⟩ := rN_got hB (by decide) h2
      obtain ⟨_, x1, m1, d1, z1⟩ := rN_got hB (by decide) h1
      have e : iaE 17 ({ askZ with file := rV b 8 (0, 0), cls := rV b 2 (a1, 0), on := rV b 2 (a2, 0) == 1, name := rS b (a3, 0) } : Ask) = 0 := by
        unfold iaE
        rw [if_neg (by rw [hk]; simp [iaW, v3]), if_neg (by decide), if_pos ⟨rfl, v3⟩]
        exact p4
      refine ⟨e, ?_⟩
      unfold iaL
      rw [if_neg (fun g => g e), if_neg c12, if_neg c14, if_pos rfl]
      simp only
      rw [if_neg v1, if_pos v3, on_digs z3 y3, d1, d2, d3, d4]
      have f5 : (b.drop a3).take (b.length - a3) = b.drop a3 := List.take_of_length_le (by rw [List.length_drop]; omega)
      rw [f5, x3, peel, x2, peel, x1, peel, List.drop_zero]
    rw [if_neg v3] at hr
    exfalso
    by_cases g : e2 = 0
    · rw [if_pos g] at hr; simp at hr
    · rw [if_neg g] at hr
      simp only [Prod.mk.injEq] at hr
      exact g hr.2
  rw [if_neg c17] at hr ⊢
  by_cases c18 : c = 18
  · subst c18
    rw [if_pos rfl] at hr ⊢
    unfold ig1 at hr ⊢
    rcases h1 : rN b 8 (0, 0) with ⟨a1, e1⟩
    rw [h1] at hr
    rcases h2 : rN b 1 (a1, e1) with ⟨a2, e2⟩
    rw [h2] at hr
    rcases h3 : rM b 1 0 5 (a2, e2) with ⟨a3, e3⟩
    rw [h3] at hr
    obtain ⟨rfl, x4, m4, d4, z4, _, y4⟩ := rM_got2 hB (by decide) (by decide) hr
    obtain ⟨rfl, x3, m3, d3, z3, _, y3⟩ := rM_got2 hB (by decide) (by decide) h3
    obtain ⟨rfl, x2, m2, d2, z2⟩ := rN_got hB (by decide) h2
    obtain ⟨_, x1, m1, d1, z1⟩ := rN_got hB (by decide) h1
    have e : iaE 18 ({ askZ with file := rV b 8 (0, 0), level := rV b 1 (a1, 0) } : Ask) = 0 := by
      unfold iaE
      rw [if_neg (by rw [hk]; simp [iaW]), if_neg (by decide), if_neg (by simp)]
    refine ⟨e, ?_⟩
    unfold iaL
    rw [if_neg (fun g => g e), if_neg c12, if_neg c14, if_neg c17, if_pos rfl]
    show digs 8 (rV b 8 (0, 0)) ++ (digs 1 (rV b 1 (a1, 0)) ++ (digs 1 0 ++ digs 2 0)) = b
    have w3 : digs 1 0 = (b.drop a2).take 1 := by rw [← d3]; congr 1; omega
    have w4 : digs 2 0 = (b.drop a3).take 2 := by rw [← d4]; congr 1; omega
    rw [d1, d2, w3, w4]
    have f5 : (b.drop a3).take 2 = b.drop a3 := List.take_of_length_le (by rw [List.length_drop]; omega)
    rw [f5, x3, peel, x2, peel, x1, peel, List.drop_zero]
  · rw [if_neg c18] at hr ⊢
    unfold ig1 at hr
    obtain ⟨_, x1, m1, d1, z1⟩ := rN_got hB (by decide) hr
    have e : iaE c ({ askZ with file := rV b 8 (0, 0) } : Ask) = 0 := by
      unfold iaE
      rw [if_neg (by rw [hk]; unfold iaW; rw [if_neg c12, if_neg c14, if_neg c17, if_neg c18]; simp [c17]), if_neg c14, if_neg (fun g => c17 g.1)]
    refine ⟨e, ?_⟩
    unfold iaL
    rw [if_neg (fun g => g e), if_neg c12, if_neg c14, if_neg c17, if_neg c18]
    show digs 8 (rV b 8 (0, 0)) = b
    rw [d1, List.drop_zero, List.take_of_length_le (by omega)]

end Go.Proofs.YtgipkhjpedpedaaDoor.Abs

/- PLAIN LAWS: the answers of info. -/
set_option linter.unusedVariables false
set_option linter.unusedSimpArgs false
set_option maxRecDepth 100000
namespace Go.Proofs.YtgipkhjpedpedaaDoor.Abs
open Go Go.Proofs

def mayX (x : EntR) : Prop := x.kind ≤ 2 ∧ 0 ≤ x.size ∧ x.size ≤ 1048576
def isW (c : Int) (s : Say) : Say :=
  if c = 14 then { sayZ with entries := s.entries, more := s.more } else if c = 16 then { sayZ with size := s.size, kind := s.kind, gone := s.gone }
  else if c = 18 then { sayZ with file := s.file, level := s.level } else sayZ
def namesE : List EntR → Int
  | [] => 0
  | x :: r => if ptE x.name ≠ 0 then ptE x.name else namesE r
def entL (l : List EntR) : List Int := l.flatMap fun x => digs 2 x.kind ++ (digs 2 0 ++ (digs 8 x.size ++ ptL x.name))
def isBad (c : Int) (s : Say) : Prop := ikB c = false ∨ c = 12 ∨ isW c s ≠ s ∨ ¬ (s.kind ≤ 2) ∨ ∃ x ∈ s.entries, ¬ mayX x
open Classical in
noncomputable def isE (c : Int) (s : Say) : Int := if isBad c s then 2 else if 64 < s.entries.length then 3 else if c = 14 then namesE s.entries else 0
noncomputable def isL (c : Int) (s : Say) : List Int :=
  if isE c s ≠ 0 then [] else if c = 14 then digs 2 s.entries.length ++ (digs 2 (onV s.more) ++ entL s.entries)
  else if c = 16 then digs 8 s.size ++ (digs 2 s.kind ++ digs 2 (onV s.gone)) else if c = 18 then digs 8 s.file ++ (digs 1 s.level ++ (digs 1 0 ++ digs 2 0)) else digs 4 0

def enR (b : List Int) (r : Nat × Int) : Nat × Int := rU b (rM b 8 1048576 5 (rM b 2 0 5 (rM b 2 2 5 r)))
def enX (b : List Int) (r : Nat × Int) : EntR := ⟨rS b (rM b 8 1048576 5 (rM b 2 0 5 (rM b 2 2 5 r))), rV b 2 r, rV b 8 (rM b 2 0 5 (rM b 2 2 5 r))⟩
def lpR (b : List Int) : Nat → Nat × Int → List EntR → List EntR × (Nat × Int)
  | 0, r, l => (l, r)
  | k + 1, r, l => if r.2 = 0 then lpR b k (enR b r) (l ++ [enX b r]) else (l, r)
def it0 (b : List Int) : List EntR × (Nat × Int) := lpR b (rV b 2 (0, 0)).toNat (rM b 2 1 5 (rM b 2 64 3 (0, 0))) []
def itR (c : Int) (b : List Int) : Nat × Int :=
  if c = 14 then (it0 b).2 else if c = 16 then rM b 2 1 5 (rM b 2 2 5 (ig1 b)) else if c = 18 then rM b 2 0 5 (rM b 1 0 5 (rN b 1 (ig1 b))) else rM b 4 0 5 (0, 0)
def itV (c : Int) (b : List Int) : Say :=
  if c = 14 then { sayZ with entries := (it0 b).1, more := rV b 2 (rM b 2 64 3 (0, 0)) == 1 }
  else if c = 16 then { sayZ with size := rV b 8 (0, 0), kind := rV b 2 (ig1 b), gone := rV b 2 (rM b 2 2 5 (ig1 b)) == 1 }
  else if c = 18 then { sayZ with file := rV b 8 (0, 0), level := rV b 1 (ig1 b) } else sayZ
def itE (c : Int) (b : List Int) : Int := if ikB c = true ∧ c ≠ 12 then rEnd b (itR c b) else 2
def itS (c : Int) (b : List Int) : Say := if itE c b ≠ 0 then sayZ else itV c b

theorem lp_bad {b : List Int} {k : Nat} {r : Nat × Int} {l : List EntR} (h : r.2 ≠ 0) : lpR b k r l = (l, r) := by
  cases k with
  | zero => rfl
  | succ k => rw [lpR, if_neg h]

theorem lp_pre (b q : List Int) : ∀ (es : List EntR) (p : List Int) (r : Nat × Int) (acc : List EntR), (∀ x ∈ es, mayX x ∧ 0 ≤ x.kind) → namesE es = 0 → b <+: p ++ (entL es ++ q) → StR b p r →
    StR b (p ++ entL es) (lpR b es.length r acc).2 ∧ ((p ++ entL es).length ≤ b.length → (lpR b es.length r acc).1 = acc ++ es)
  | [], p, r, acc, _, _, _, h => by
    have : p ++ entL [] = p := by simp [entL]
    rw [this]
    exact ⟨h, fun _ => by simp [lpR]⟩
  | x :: es, p, r, acc, hm, hn, hb, h => by
    have e0 : entL (x :: es) = (digs 2 x.kind ++ (digs 2 0 ++ (digs 8 x.size ++ ptL x.name))) ++ entL es := by simp [entL, List.flatMap_cons]
    obtain ⟨⟨k1, k2, k3⟩, k0⟩ := hm x (by simp)
    have hp : ptE x.name = 0 ∧ namesE es = 0 := by
      unfold namesE at hn
      by_cases g : ptE x.name = 0
      · rw [if_neg (fun k => k g)] at hn; exact ⟨g, hn⟩
      · rw [if_pos g] at hn; exact absurd hn g
    rcases h with ⟨h1, h2⟩ | ⟨rfl, h2⟩
    · rw [lp_bad (by rw [h1]; decide)]
      refine ⟨.inl ⟨h1, by rw [List.length_append]; omega⟩, fun g => by rw [List.length_append] at g; omega⟩
    · rw [e0] at hb ⊢
      simp only [List.append_assoc] at hb
      obtain ⟨s1, v1⟩ := stepM (m := 2) (e := 5) hb (by decide) ⟨k0, by omega⟩ k1 (.inr ⟨rfl, h2⟩)
      obtain ⟨s2, v2⟩ := stepM (m := 0) (e := 5) (by rw [List.append_assoc]; exact hb) (by decide) (by decide) (by decide) s1
      obtain ⟨s3, v3⟩ := stepM (m := 1048576) (e := 5) (v := x.size) (by simp only [List.append_assoc]; exact hb) (by decide) ⟨k2, by omega⟩ k3 s2
      obtain ⟨s4, v4⟩ := stepU hp.1 (by simp only [List.append_assoc]; exact hb) s3
      obtain ⟨s5, v5⟩ := lp_pre b q es _ _ (acc ++ [enX b (p.length, 0)]) (fun y hy => hm y (by simp [hy])) hp.2 (by simp only [List.append_assoc]; exact hb) s4
      rw [List.length_cons, lpR, if_pos rfl]
      have ea : ((((p ++ digs 2 x.kind) ++ digs 2 0) ++ digs 8 x.size) ++ ptL x.name) ++ entL es = p ++ ((digs 2 x.kind ++ (digs 2 0 ++ (digs 8 x.size ++ ptL x.name))) ++ entL es) := by simp only [List.append_assoc]
      rw [ea] at s5 v5
      refine ⟨s5, fun hl => ?_⟩
      show (lpR b es.length (enR b (p.length, 0)) (acc ++ [enX b (p.length, 0)])).1 = _
      have e6 := v5 hl
      rw [← ea] at hl
      simp only [List.length_append] at hl v1 v2 v3 v4
      have ex : enX b (p.length, 0) = x := by
        unfold enX
        rw [v1 (by omega), v3 (by omega), v4 (by omega)]
      rw [ex] at e6 ⊢
      unfold enR
      rw [e6]
      simp

theorem is_parts {c : Int} {s : Say} (h : isE c s = 0) : ikB c = true ∧ c ≠ 12 ∧ isW c s = s ∧ s.kind ≤ 2 ∧ (∀ x ∈ s.entries, mayX x) ∧ s.entries.length ≤ 64 ∧ (c = 14 → namesE s.entries = 0) := by
  unfold isE at h
  by_cases g : isBad c s
  · rw [if_pos g] at h; cases h
  rw [if_neg g] at h
  unfold isBad at g
  simp only [not_or, Decidable.not_not, Bool.not_eq_false, not_exists, not_and] at g
  obtain ⟨g1, g2, g3, g4, g5⟩ := g
  by_cases g6 : 64 < s.entries.length
  · rw [if_pos g6] at h; cases h
  rw [if_neg g6] at h
  refine ⟨g1, g2, g3, by omega, fun x hx => Classical.not_not.1 (g5 x hx), by omega, fun hc => ?_⟩
  rw [if_pos hc] at h
  exact h

theorem info_say_back (c : Int) (s : Say) (hs : s.ok) (h : isE c s = 0) : itE c (isL c s) = 0 ∧ itS c (isL c s) = s := by
  obtain ⟨hk, c12, hw, hkd, hm, h64, hnm⟩ := is_parts h
  have u64 : ∀ {x : Int}, U64 x → 0 ≤ x ∧ x < 256 ^ 8 := fun h => ⟨h.1, by have := h.2; omega⟩
  have u8 : ∀ {x : Int}, U8 x → 0 ≤ x ∧ x < 256 ^ 1 := fun h => ⟨h.1, by have := h.2; omega⟩
  have u82 : ∀ {x : Int}, U8 x → 0 ≤ x ∧ x < 256 ^ 2 := fun h => ⟨h.1, by have := h.2; omega⟩
  have hn0 : ¬ isE c s ≠ 0 := fun g => g h
  have key : StR (isL c s) (isL c s) (itR c (isL c s)) ∧ itV c (isL c s) = s := by
    by_cases c14 : c = 14
    · subst c14
      have hL : isL 14 s = digs 2 s.entries.length ++ (digs 2 (onV s.more) ++ entL s.entries) := by unfold isL; rw [if_neg hn0, if_pos rfl]
      generalize hb : isL 14 s = b at hL ⊢
      have hp : b <+: digs 2 (s.entries.length : Int) ++ (digs 2 (onV s.more) ++ (entL s.entries ++ [])) := by rw [List.append_nil, hL]; exact List.prefix_refl _
      obtain ⟨s1, v1⟩ := stepM (p := []) (m := 64) (e := 3) (by simpa using hp) (by decide) ⟨by omega, by omega⟩ (by omega) (StR.nil b)
      rw [List.nil_append] at s1 v1
      obtain ⟨s2, v2⟩ := stepM (m := 1) (e := 5) hp (by decide) ⟨(on_ok s.more).1, (on_ok s.more).2.1⟩ (on_ok s.more).2.2 s1
      obtain ⟨s3, v3⟩ := lp_pre b [] s.entries _ _ [] (fun x hx => ⟨hm x hx, (hs.entries x hx).1.1⟩) (hnm rfl) (by simp only [List.append_assoc]; exact hp) s2
      have ea : (digs 2 (s.entries.length : Int) ++ digs 2 (onV s.more)) ++ entL s.entries = b := by rw [hL, List.append_assoc]
      rw [ea] at s3 v3
      have hl := congrArg List.length ea
      simp only [List.length_append] at hl v1 v2
      have e1 := v1 (by omega)
      have e3 := v3 (Nat.le_refl _)
      have e0 : it0 b = lpR b s.entries.length (rM b 2 1 5 (rM b 2 64 3 (0, 0))) [] := by unfold it0; rw [e1, Int.toNat_natCast]
      refine ⟨?_, ?_⟩
      · unfold itR; rw [if_pos rfl, e0]; exact s3
      · unfold itV
        rw [if_pos rfl, e0, e3, v2 (by omega), on_back, List.nil_append]
        unfold isW at hw; rw [if_pos rfl] at hw
        exact hw
    by_cases c16 : c = 16
    · subst c16
      have hL : isL 16 s = digs 8 s.size ++ (digs 2 s.kind ++ digs 2 (onV s.gone)) := by unfold isL; rw [if_neg hn0, if_neg c14, if_pos rfl]
      generalize hb : isL 16 s = b at hL ⊢
      have hp : b <+: digs 8 s.size ++ (digs 2 s.kind ++ (digs 2 (onV s.gone) ++ [])) := by rw [List.append_nil, hL]; exact List.prefix_refl _
      obtain ⟨s1, v1⟩ := stepN (p := []) (by simpa using hp) (by decide) (u64 hs.size) (StR.nil b)
      rw [List.nil_append] at s1 v1
      obtain ⟨s2, v2⟩ := stepM (m := 2) (e := 5) hp (by decide) (u82 hs.kind) hkd s1
      obtain ⟨s3, v3⟩ := stepM (m := 1) (e := 5) (by simp only [List.append_assoc]; exact hp) (by decide) ⟨(on_ok s.gone).1, (on_ok s.gone).2.1⟩ (on_ok s.gone).2.2 s2
      have ea : (digs 8 s.size ++ digs 2 s.kind) ++ digs 2 (onV s.gone) = b := by rw [hL, List.append_assoc]
      rw [ea] at s3 v3
      have hl := congrArg List.length ea
      simp only [List.length_append] at hl v1 v2
      refine ⟨?_, ?_⟩
      · unfold itR; rw [if_neg c14, if_pos rfl]; exact s3
      · unfold itV ig1
        rw [if_neg c14, if_pos rfl, v1 (by omega), v2 (by omega), v3 (Nat.le_refl _), on_back]
        unfold isW at hw; rw [if_neg c14, if_pos rfl] at hw
        exact hw
    by_cases c18 : c = 18
    · subst c18
      have hL : isL 18 s = digs 8 s.file ++ (digs 1 s.level ++ (digs 1 0 ++ digs 2 0)) := by unfold isL; rw [if_neg hn0, if_neg c14, if_neg c16, if_pos rfl]
      generalize hb : isL 18 s = b at hL ⊢
      have hp : b <+: digs 8 s.file ++ (digs 1 s.level ++ (digs 1 0 ++ (digs 2 0 ++ []))) := by rw [List.append_nil, hL]; exact List.prefix_refl _
      obtain ⟨s1, v1⟩ := stepN (p := []) (by simpa using hp) (by decide) (u64 hs.file) (StR.nil b)
      rw [List.nil_append] at s1 v1
      obtain ⟨s2, v2⟩ := stepN hp (by decide) (u8 hs.level) s1
      obtain ⟨s3, v3⟩ := stepM (m := 0) (e := 5) (by simp only [List.append_assoc]; exact hp) (by decide) (by decide) (by decide) s2
      obtain ⟨s4, v4⟩ := stepM (m := 0) (e := 5) (by simp only [List.append_assoc]; exact hp) (by decide) (by decide) (by decide) s3
      have ea : ((digs 8 s.file ++ digs 1 s.level) ++ digs 1 0) ++ digs 2 0 = b := by rw [hL]; simp only [List.append_assoc]
      rw [ea] at s4 v4
      have hl := congrArg List.length ea
      simp only [List.length_append] at hl v1 v2
      refine ⟨?_, ?_⟩
      · unfold itR; rw [if_neg c14, if_neg c16, if_pos rfl]; exact s4
      · unfold itV ig1
        rw [if_neg c14, if_neg c16, if_pos rfl, v1 (by omega), v2 (by omega)]
        unfold isW at hw; rw [if_neg c14, if_neg c16, if_pos rfl] at hw
        exact hw
    · have hL : isL c s = digs 4 0 := by unfold isL; rw [if_neg hn0, if_neg c14, if_neg c16, if_neg c18]
      rw [hL]
      obtain ⟨s1, v1⟩ := stepM (b := digs 4 0) (p := []) (q := []) (k := 4) (v := 0) (m := 0) (e := 5) (by simp) (by decide) (by decide) (by decide) (StR.nil _)
      refine ⟨?_, ?_⟩
      · unfold itR; rw [if_neg c14, if_neg c16, if_neg c18]; simpa using s1
      · unfold itV
        rw [if_neg c14, if_neg c16, if_neg c18]
        unfold isW at hw; rw [if_neg c14, if_neg c16, if_neg c18] at hw
        exact hw
  obtain ⟨k1, k2⟩ := key
  have e : itE c (isL c s) = 0 := by
    unfold itE
    rw [if_pos ⟨hk, c12⟩]
    rcases k1 with ⟨_, g⟩ | ⟨g, _⟩
    · omega
    · rw [g, rEnd_ok]
  refine ⟨e, ?_⟩
  unfold itS
  rw [if_neg (fun g => g e), k2]

theorem lp_got (b : List Int) (hB : Bytes b) : ∀ (k a x : Nat) (acc l : List EntR), lpR b k (a, 0) acc = (l, (x, 0)) → a ≤ b.length →
    ∃ es, l = acc ++ es ∧ es.length = k ∧ a ≤ x ∧ x ≤ b.length ∧ entL es = (b.drop a).take (x - a) ∧ namesE es = 0 ∧ ∀ e ∈ es, mayX e ∧ 0 ≤ e.kind
  | 0, a, x, acc, l, h, ha => by
    simp only [lpR, Prod.mk.injEq, and_true] at h
    obtain ⟨rfl, rfl⟩ := h
    exact ⟨[], by simp, rfl, Nat.le_refl _, ha, by simp [entL], rfl, by simp⟩
  | k + 1, a, x, acc, l, h, ha => by
    rw [lpR, if_pos rfl] at h
    by_cases g : (enR b (a, 0)).2 = 0
    · rcases h0 : enR b (a, 0) with ⟨a5, e5⟩
      rw [h0] at g h
      simp only at g
      subst g
      unfold enR at h0
      unfold enX at h
      rcases h1 : rM b 2 2 5 (a, 0) with ⟨a1, e1⟩
      rw [h1] at h0 h
      rcases h2 : rM b 2 0 5 (a1, e1) with ⟨a2, e2⟩
      rw [h2] at h0 h
      rcases h3 : rM b 8 1048576 5 (a2, e2) with ⟨a3, e3⟩
      rw [h3] at h0 h
      obtain ⟨rfl, p4, l4, m4, d4⟩ := rU_got2 hB h0
      obtain ⟨rfl, x3, m3, d3, z3, _, y3⟩ := rM_got2 hB (by decide) (by decide) h3
      obtain ⟨rfl, x2, m2, d2, z2, _, y2⟩ := rM_got2 hB (by decide) (by decide) h2
      obtain ⟨_, x1, m1, d1, z1, _, y1⟩ := rM_got2 hB (by decide) (by decide) h1
      obtain ⟨es, q1, q2, q3, q4, q5, q6, q7⟩ := lp_got b hB k a5 x _ l h m4
      refine ⟨⟨rS b (a3, 0), rV b 2 (a, 0), rV b 8 (a2, 0)⟩ :: es, by rw [q1]; simp, by simp [q2], by omega, q4, ?_, ?_, ?_⟩
      · have e0 : entL (⟨rS b (a3, 0), rV b 2 (a, 0), rV b 8 (a2, 0)⟩ :: es) = (digs 2 (rV b 2 (a, 0)) ++ (digs 2 0 ++ (digs 8 (rV b 8 (a2, 0)) ++ ptL (rS b (a3, 0))))) ++ entL es := by simp [entL, List.flatMap_cons]
        have w2 : digs 2 0 = (b.drop a1).take 2 := by rw [← d2]; congr 1; omega
        rw [e0, d1, w2, d3, d4, q5]
        have t3 := take_two (b := b) (a := a3) (m := a5 - a3) (n := x - a3) (by omega)
        rw [show a3 + (a5 - a3) = a5 by omega, show x - a3 - (a5 - a3) = x - a5 by omega] at t3
        have t2 := take_two (b := b) (a := a2) (m := 8) (n := x - a2) (by omega)
        rw [← x3, show x - a2 - 8 = x - a3 by omega] at t2
        have t1 := take_two (b := b) (a := a1) (m := 2) (n := x - a1) (by omega)
        rw [← x2, show x - a1 - 2 = x - a2 by omega] at t1
        have t0 := take_two (b := b) (a := a) (m := 2) (n := x - a) (by omega)
        rw [← x1, show x - a - 2 = x - a1 by omega] at t0
        simp only [List.append_assoc]
        rw [t3, t2, t1, t0]
      · unfold namesE
        rw [if_neg (fun k => k p4)]
        exact q6
      · intro e he
        rcases List.mem_cons.1 he with rfl | he
        · exact ⟨⟨y1, z3, y3⟩, z1⟩
        · exact q7 e he
    · rw [lp_bad g] at h
      simp only [Prod.mk.injEq] at h
      rw [h.2] at g
      exact absurd rfl g

theorem is_zero {c : Int} {s : Say} (h1 : ikB c = true) (h2 : c ≠ 12) (h3 : isW c s = s) (h4 : s.kind ≤ 2) (h5 : ∀ x ∈ s.entries, mayX x) (h6 : s.entries.length ≤ 64) (h7 : namesE s.entries = 0) : isE c s = 0 := by
  have g : ¬ isBad c s := by
    unfold isBad
    rintro (g | g | g | g | ⟨x, g1, g2⟩)
    · rw [h1] at g; cases g
    · exact h2 g
    · exact g h3
    · exact g h4
    · exact g2 (h5 x g1)
  unfold isE
  rw [if_neg g, if_neg (by omega), h7]
  split <;> rfl

theorem info_say_once (c : Int) (b : List Int) (hB : Bytes b) (h : itE c b = 0) : isE c (itS c b) = 0 ∧ isL c (itS c b) = b := by
  have hE := h
  unfold itE at h
  have hk : ikB c = true ∧ c ≠ 12 := by
    by_cases hk : ikB c = true ∧ c ≠ 12
    · exact hk
    · rw [if_neg hk] at h; cases h
  rw [if_pos hk] at h
  obtain ⟨hk, c12⟩ := hk
  have hr := rEnd_zero h
  have hS : itS c b = itV c b := by unfold itS; rw [if_neg (fun g => g hE)]
  rw [hS]
  unfold itR at hr
  unfold itV
  by_cases c14 : c = 14
  · subst c14
    rw [if_pos rfl] at hr ⊢
    rcases hl : it0 b with ⟨l, x, e0⟩
    rw [hl] at hr
    simp only [Prod.mk.injEq] at hr
    obtain ⟨rfl, rfl⟩ := hr
    unfold it0 at hl
    rcases h1 : rM b 2 64 3 (0, 0) with ⟨a1, e1⟩
    rw [h1] at hl
    rcases h2 : rM b 2 1 5 (a1, e1) with ⟨a2, e2⟩
    rw [h2] at hl
    have g : e2 = 0 := by
      by_cases g : e2 = 0
      · exact g
      · rw [lp_bad g] at hl
        simp only [Prod.mk.injEq] at hl
        exact absurd hl.2.2 g
    subst g
    obtain ⟨rfl, x2, m2, d2, z2, _, y2⟩ := rM_got2 hB (by decide) (by decide) h2
    obtain ⟨_, x1, m1, d1, z1, _, y1⟩ := rM_got2 hB (by decide) (by decide) h1
    obtain ⟨es, q1, q2, q3, q4, q5, q6, q7⟩ := lp_got b hB _ a2 b.length [] l hl (by omega)
    rw [List.nil_append] at q1
    subst q1
    have e : isE 14 ({ sayZ with entries := l, more := rV b 2 (a1, 0) == 1 } : Say) = 0 := is_zero hk c12 (by simp [isW]) (by simp [sayZ]) (fun x hx => (q7 x hx).1) (by show l.length ≤ 64; omega) q6
    refine ⟨e, ?_⟩
    unfold isL
    rw [if_neg (fun g => g e), if_pos rfl]
    show digs 2 (l.length : Int) ++ (digs 2 (onV (rV b 2 (a1, 0) == 1)) ++ entL l) = b
    have w1 : digs 2 (l.length : Int) = (b.drop 0).take 2 := by rw [← d1]; congr 1; omega
    have f5 : (b.drop a2).take (b.length - a2) = b.drop a2 := List.take_of_length_le (by rw [List.length_drop]; omega)
    rw [w1, on_digs z2 y2, d2, q5, f5, x2, peel, x1, peel, List.drop_zero]
  rw [if_neg c14] at hr ⊢
  by_cases c16 : c = 16
  · subst c16
    rw [if_pos rfl] at hr ⊢
    unfold ig1 at hr ⊢
    rcases h1 : rN b 8 (0, 0) with ⟨a1, e1⟩
    rw [h1] at hr
    rcases h2 : rM b 2 2 5 (a1, e1) with ⟨a2, e2⟩
    rw [h2] at hr
    obtain ⟨rfl, x3, m3, d3, z3, _, y3⟩ := rM_got2 hB (by decide) (by decide) hr
    obtain ⟨rfl, x2, m2, d2, z2, _, y2⟩ := rM_got2 hB (by decide) (by decide) h2
    obtain ⟨_, x1, m1, d1, z1⟩ := rN_got hB (by decide) h1
    have e : isE 16 ({ sayZ with size := rV b 8 (0, 0), kind := rV b 2 (a1, 0), gone := rV b 2 (a2, 0) == 1 } : Say) = 0 := is_zero hk c12 (by simp [isW]) y2 (by simp [sayZ]) (by simp [sayZ]) (by simp [sayZ, namesE])
    refine ⟨e, ?_⟩
    unfold isL
    rw [if_neg (fun g => g e), if_neg c14, if_pos rfl]
    show digs 8 (rV b 8 (0, 0)) ++ (digs 2 (rV b 2 (a1, 0)) ++ digs 2 (onV (rV b 2 (a2, 0) == 1))) = b
    have f5 : (b.drop a2).take 2 = b.drop a2 := List.take_of_length_le (by rw [List.length_drop]; omega)
    rw [d1, d2, on_digs z3 y3, d3, f5, x2, peel, x1, peel, List.drop_zero]
  rw [if_neg c16] at hr ⊢
  by_cases c18 : c = 18
  · subst c18
    rw [if_pos rfl] at hr ⊢
    unfold ig1 at hr ⊢
    rcases h1 : rN b 8 (0, 0) with ⟨a1, e1⟩
    rw [h1] at hr
    rcases h2 : rN b 1 (a1, e1) with ⟨a2, e2⟩
    rw [h2] at hr
    rcases h3 : rM b 1 0 5 (a2, e2) with ⟨a3, e3⟩
    rw [h3] at hr
    obtain ⟨rfl, x4, m4, d4, z4, _, y4⟩ := rM_got2 hB (by decide) (by decide) hr
    obtain ⟨rfl, x3, m3, d3, z3, _, y3⟩ := rM_got2 hB (by decide) (by decide) h3
    obtain ⟨rfl, x2, m2, d2, z2⟩ := rN_got hB (by decide) h2
    obtain ⟨_, x1, m1, d1, z1⟩ := rN_got hB (by decide) h1
    have e : isE 18 ({ sayZ with file := rV b 8 (0, 0), level := rV b 1 (a1, 0) } : Say) = 0 := is_zero hk c12 (by simp [isW]) (by simp [sayZ]) (by simp [sayZ]) (by simp [sayZ]) (by simp [sayZ, namesE])
    refine ⟨e, ?_⟩
    unfold isL
    rw [if_neg (fun g => g e), if_neg c14, if_neg c16, if_pos rfl]
    show digs 8 (rV b 8 (0, 0)) ++ (digs 1 (rV b 1 (a1, 0)) ++ (digs 1 0 ++ digs 2 0)) = b
    have w3 : digs 1 0 = (b.drop a2).take 1 := by rw [← d3]; congr 1; omega
    have w4 : digs 2 0 = (b.drop a3).take 2 := by rw [← d4]; congr 1; omega
    have f5 : (b.drop a3).take 2 = b.drop a3 := List.take_of_length_le (by rw [List.length_drop]; omega)
    rw [d1, d2, w3, w4, f5, x3, peel, x2, peel, x1, peel, List.drop_zero]
  · rw [if_neg c18] at hr ⊢
    obtain ⟨_, g2, g3, g4, g5, _, g7⟩ := rM_got2 hB (by decide) (by decide) hr
    have e : isE c sayZ = 0 := is_zero hk c12 (by unfold isW; rw [if_neg c14, if_neg c16, if_neg c18]) (by decide) (by simp [sayZ]) (by simp [sayZ]) (by simp [sayZ, namesE])
    refine ⟨e, ?_⟩
    unfold isL
    rw [if_neg (fun g => g e), if_neg c14, if_neg c16, if_neg c18, show (0 : Int) = rV b 4 (0, 0) by omega, g4, List.drop_zero, List.take_of_length_le (by omega)]

end Go.Proofs.YtgipkhjpedpedaaDoor.Abs

/- info's reader. -/
set_option linter.unusedVariables false
set_option linter.unusedSimpArgs false
set_option maxRecDepth 100000
namespace Go.Proofs.YtgipkhjpedpedaaDoor.Abs
open Go Go.Proofs

set_option maxHeartbeats 1000000 in
theorem in_inC {X : Ctx} {b0 : List (Nat × Nat × Blk)} {n g c0 : Nat} {b : List Int} {r : Nat × Int} {k : Nat} {tail : List SV} (hn : fnd b0 n = some (g, rdC b r tail))
    (hb : b.length ≤ 140737488351232) (hB : Bytes b) (hr : r.1 ≤ b.length) (hk : szB k = true) :
    InC Tryd.prog X 43 [.ptr n g 0, .int .i64 k] b0 c0 (.int .u64 (rV b k r)) (upd b0 n g (rdC b (rN b k r) tail)) (c0 + 12) := by
  have hk8 : (k : Int) ≤ 8 := by rcases szB_cases hk with h | h | h | h <;> omega
  refine inC_go TO 5000 Tryd.func43 rfl (absRun_ok TO 100 _ _ ?_)
  simp only [Tryd.ntmps43, Tryd.results43, retC, rI, hn, rdC, pureOpC, unc, absRun, absOps, absOp, evO, constSV, ungd, gdP, gdPs, setD, binI, binV, ptrE, T_ty, T_size, tTy, tSize, fieldOf, faddrV, pureOp, loadV, cellAt, blkAt, resV, flatV, flat2, Op.operands, List.getD, List.getElem?_cons_zero, List.getElem?_cons_succ, Option.getD_some, List.set, List.map, List.toList_toArray, true_and, and_true, and_self, if_true, if_false, eq_self, ne_eq, not_false_eq_true, reduceCtorEq, Nat.zero_add, List.cons_append, List.nil_append, List.length_cons, List.length_nil, Nat.reduceAdd, Nat.reduceSub, Nat.succ_ne_self, List.replicate_succ, List.replicate_zero, SV.int.injEq]
  by_cases h0 : r.2 = 0
  rotate_left
  · have e1 : rN b k r = r := by unfold rN; rw [if_pos h0]
    have e2 : rV b k r = 0 := by unfold rV; rw [if_pos h0]
    rw [if_pos (by simpa using h0), e1, e2]
    exact ⟨SubB_same hn, by omega, rfl⟩
  rw [if_neg (by simpa using h0)]
  have wd : IntKind.i64.wrap ((b.length : Int) - r.1) = (b.length : Int) - r.1 := w64 (by omega) (by omega)
  refine draw_go TO 12 100 mixed_ok (by decide +kernel) ?_
  simp only [hn, rdC, retC, rI, wd, List.take_succ_cons, List.take_zero, List.drop_succ_cons, List.drop_zero, pureOpC, unc, isEff, absD, pureStep, absRun, absOps, absOp, evO, constSV, ungd, gdP, gdPs, setD, binI, binV, ptrE, T_ty, T_size, tTy, tSize, fieldOf, faddrV, pureOp, memOp, lenV, loadV, scal, cellAt, setC, blkAt, Data.len, resV, flatV, flat2, Op.operands, Call.operands, List.getD, List.getElem?_cons_zero, List.getElem?_cons_succ, Option.getD_some, List.set, List.map, List.toList_toArray, Option.map_some, true_and, and_true, and_self, implies_true, imp_self, if_true, if_false, eq_self, ne_eq, not_false_eq_true, forall_const, reduceCtorEq, Nat.zero_add, Nat.add_zero, List.append_toArray, List.nil_append, Nat.reduceSub, Nat.succ_ne_self, SV.int.injEq]
  by_cases h1 : b.length < r.1 + k
  · have e1 : rN b k r = (r.1, 4) := by unfold rN; rw [if_neg (by simpa using h0), if_pos h1]
    have e2 : rV b k r = 0 := by unfold rV; rw [if_neg (by simpa using h0), if_pos h1]
    rw [if_pos (decide_eq_true (by omega)), e1, e2]
    exact ⟨SubB_refl, by omega, rfl⟩
  rw [if_neg (by simp; omega)]
  have e1 : rN b k r = (r.1 + k, 0) := by unfold rN; rw [if_neg (by simpa using h0), if_neg h1]
  have e2 : rV b k r = getV b r.1 k := by unfold rV; rw [if_neg (by simpa using h0), if_neg h1]
  rw [e1, e2]
  have hG := Get_meets b r.1 k hb hB
  have wa : IntKind.i64.wrap ((r.1 : Int) + k) = ((r.1 + k : Nat) : Int) := by rw [w64 (by omega) (by omega)]; omega
  refine draw_go TO 15 100 mixed_ok (by decide +kernel) ?_
  simp only [hn, rdC, retC, rI, List.take_succ_cons, List.take_zero, List.drop_succ_cons, List.drop_zero, pureOpC, gloadV, GT, unc, isEff, absD, pureStep, absRun, absOps, absOp, evO, ungd, gdP, gdPs, setD, binI, binV, ptrE, binS, T_ty, T_size, tTy, tSize, fieldOf, faddrV, pureOp, memOp, loadV, scal, cellAt, blkAt, elemV, Data.len, Data.esz, resV, flatV, flat2, Op.operands, List.getD, List.getElem?_cons_zero, List.getElem?_cons_succ, Option.getD_some, List.set, List.map, List.toList_toArray, Option.isSome, true_and, and_true, and_self, implies_true, imp_self, if_true, if_false, eq_self, ne_eq, not_false_eq_true, forall_const, reduceCtorEq, Nat.zero_add, Nat.add_zero, Nat.reduceSub, Nat.succ_ne_self]
  refine callDS_go TO (fun s' h' => HOps_go TO 100 h') hG Tryd.func62 (by decide +kernel) rfl rfl rfl SubB_refl ?_
  simp only [hn, rdC, retC, rI, wa, h0, pureOpC, unc, isEff, absD, pureStep, absRun, absOps, absOp, evO, ungd, gdP, gdPs, setD, binI, binV, ptrE, T_ty, T_size, tTy, tSize, fieldOf, faddrV, extractV, pureOp, memOp, loadV, scal, cellAt, setC, blkAt, resV, ownN, nodup, bares, bare, bare0, flatV, flat2, guardIs, callP, callS, argS, mAs, mA, mA0, mB0, lowD, allNotIn, impN, impB, impT, packS, delL, Op.operands, List.getD, List.getElem?_cons_zero, List.getElem?_cons_succ, Option.getD_some, List.set, List.map, List.toList_toArray, Option.map_some, true_and, and_true, and_self, if_true, if_false, eq_self, ne_eq, not_false_eq_true, Nat.zero_add, Int.reduceBNe, List.append_nil, Nat.reduceSub, Nat.succ_ne_self, Bool.and_self]
  exact ⟨SubB_refl, by omega⟩

set_option maxHeartbeats 1000000 in
theorem im_inC {X : Ctx} {b0 : List (Nat × Nat × Blk)} {n g c0 : Nat} {b : List Int} {r : Nat × Int} {k : Nat} {m e : Int} {tail : List SV} (hn : fnd b0 n = some (g, rdC b r tail))
    (hb : b.length ≤ 140737488351232) (hB : Bytes b) (hr : r.1 ≤ b.length) (hk : szB k = true) :
    InC Tryd.prog X 52 [.ptr n g 0, .int .i64 k, .int .u64 m, .int .i64 e] b0 c0 (.int .u64 (rV b k r)) (upd b0 n g (rdC b (rM b k m e r) tail)) (c0 + 24) := by
  refine inC_go TO 5000 Tryd.func52 rfl (absRun_ok TO 100 _ _ ?_)
  simp only [Tryd.ntmps52, Tryd.results52, rdC, pureOpC, absRun, absOps, absOp, evO, constSV, ungd, gdP, gdPs, setD, pureOp, memOp, Op.operands, List.getD, List.getElem?_cons_zero, List.getElem?_cons_succ, Option.getD_some, List.set, List.toList_toArray, true_and, and_self, Nat.zero_add, List.cons_append, List.nil_append, List.length_cons, List.length_nil, Nat.reduceAdd, Nat.reduceSub, List.replicate_succ, List.replicate_zero]
  have hM : rM b k m e r = if (rN b k r).2 = 0 ∧ m < rV b k r then ((rN b k r).1, e) else rN b k r := rfl
  refine inC_ops TO 100 (in_inC (k := k) hn hb hB hr hk) Tryd.func43 (by decide +kernel) rfl rfl rfl ⟨⟨rfl, rfl, by simp only [evO, gdP, gdPs, List.getD, List.getElem?_cons_zero, List.getElem?_cons_succ, Option.getD_some, and_self]⟩, ?_⟩
  rw [hM]
  generalize rN b k r = q at *
  generalize rV b k r = v at *
  simp only [rdC, retC, rI, fnd_same, upd_same, pureOpC, unc, absRun, absOps, absOp, evO, constSV, ungd, gdP, gdPs, setD, binI, binV, ptrE, T_ty, T_size, tTy, tSize, fieldOf, faddrV, pickV, pureOp, guardOf, memOp, loadV, scal, cellAt, setC, blkAt, resV, flatV, flat2, Op.operands, List.getD, List.getElem?_cons_zero, List.getElem?_cons_succ, Option.getD_some, List.set, List.map, List.toList_toArray, List.getElem?_toArray, Option.bind_some, Option.map_some, true_and, and_true, and_self, implies_true, imp_self, if_true, if_false, eq_self, ne_eq, not_false_eq_true, reduceCtorEq, Nat.zero_add, Bool.cond_false_right, Nat.reduceSub, Nat.succ_ne_self, gt_iff_lt]
  by_cases h1 : q.2 = 0 ∧ m < v
  · have c1 : (decide (m < v) && q.2 == 0) = true := by simp; omega
    rw [if_pos h1, if_pos c1]
    first | exact ⟨SubB_refl, by omega, rfl⟩ | exact ⟨SubB_refl, by omega⟩
  · have c1 : ¬ (decide (m < v) && q.2 == 0) = true := by simp; omega
    rw [if_neg h1, if_neg c1]
    first | exact ⟨SubB_refl, by omega, rfl⟩ | exact ⟨SubB_refl, by omega⟩

set_option maxHeartbeats 1000000 in
theorem iz_inC {X : Ctx} {b0 : List (Nat × Nat × Blk)} {n g c0 : Nat} {b : List Int} {r : Nat × Int} {k : Nat} {tail : List SV} (hn : fnd b0 n = some (g, rdC b r tail))
    (hb : b.length ≤ 140737488351232) (hB : Bytes b) (hr : r.1 ≤ b.length) (hk : szB k = true) :
    InC Tryd.prog X 44 [.ptr n g 0, .int .i64 k] b0 c0 (.tup []) (upd b0 n g (rdC b (rM b k 0 5 r) tail)) (c0 + 36) := by
  refine inC_go TO 5000 Tryd.func44 rfl (absRun_ok TO 100 _ _ ?_)
  simp only [Tryd.ntmps44, Tryd.results44, rdC, pureOpC, absRun, absOps, absOp, evO, ungd, gdP, gdPs, setD, pureOp, memOp, Op.operands, List.getD, List.getElem?_cons_zero, List.getElem?_cons_succ, Option.getD_some, List.set, List.toList_toArray, true_and, and_self, Nat.zero_add, List.cons_append, List.nil_append, List.length_cons, List.length_nil, Nat.reduceAdd, Nat.reduceSub, List.replicate_succ, List.replicate_zero]
  refine inC_ops TO 100 (im_inC (k := k) (m := 0) (e := 5) hn hb hB hr hk) Tryd.func52 (by decide +kernel) rfl rfl rfl ⟨⟨rfl, rfl, by simp only [evO, constSV, gdP, gdPs, List.getD, List.getElem?_cons_zero, List.getElem?_cons_succ, Option.getD_some, and_self]⟩, ?_⟩
  simp only [rdC, retC, absRun, absOps, List.map, and_true, eq_self]
  exact ⟨SubB_refl, by omega⟩

set_option maxHeartbeats 1000000 in
theorem ib_inC {X : Ctx} {b0 : List (Nat × Nat × Blk)} {n g c0 : Nat} {b : List Int} {r : Nat × Int} {tail : List SV} (hn : fnd b0 n = some (g, rdC b r tail))
    (hb : b.length ≤ 140737488351232) (hB : Bytes b) (hr : r.1 ≤ b.length) :
    InC Tryd.prog X 53 [.ptr n g 0] b0 c0 (.bool (rV b 2 r == 1)) (upd b0 n g (rdC b (rM b 2 1 5 r) tail)) (c0 + 36) := by
  refine inC_go TO 5000 Tryd.func53 rfl (absRun_ok TO 100 _ _ ?_)
  simp only [Tryd.ntmps53, Tryd.results53, rdC, pureOpC, absRun, absOps, absOp, evO, constSV, ungd, gdP, gdPs, setD, pureOp, memOp, Op.operands, List.getD, List.getElem?_cons_zero, Option.getD_some, List.set, List.toList_toArray, true_and, and_self, Nat.zero_add, List.cons_append, List.nil_append, List.length_cons, List.length_nil, Nat.reduceSub, List.replicate_succ, List.replicate_zero]
  refine inC_ops TO 100 (im_inC (k := 2) (m := 1) (e := 5) hn hb hB hr rfl) Tryd.func52 (by decide +kernel) rfl rfl rfl ⟨⟨rfl, rfl, by simp only [evO, constSV, gdP, gdPs, List.getD, List.getElem?_cons_zero, List.getElem?_cons_succ, Option.getD_some, and_self]⟩, ?_⟩
  simp only [rdC, retC, rI, pureOpC, unc, absRun, absOps, absOp, evO, constSV, ungd, gdP, gdPs, setD, binI, binV, ptrE, pureOp, resV, flatV, flat2, Op.operands, List.getD, List.getElem?_cons_zero, List.getElem?_cons_succ, Option.getD_some, List.set, List.map, List.toList_toArray, true_and, and_true, and_self, eq_self]
  first | exact ⟨SubB_refl, by omega, rfl⟩ | exact ⟨SubB_refl, by omega⟩

set_option maxHeartbeats 1000000 in
theorem it_inC {X : Ctx} {b0 : List (Nat × Nat × Blk)} {n g c0 : Nat} {b : List Int} {r : Nat × Int}  {tail : List SV} (hn : fnd b0 n = some (g, rdC b r tail))
    (hb : b.length ≤ 274877906944) (hB : Bytes b) (hr : r.1 ≤ b.length)  :
    InC Tryd.prog X 45 [.ptr n g 0] b0 c0 (.str (rS b r)) (upd b0 n g (rdC b (rU b r) tail)) (c0 + 12) := by
  refine inC_go TO 5000 Tryd.func45 rfl (absRun_ok TO 100 _ _ ?_)
  simp only [Tryd.ntmps45, Tryd.results45, hn, rdC, retC, rI, pureOpC, unc, absRun, absOps, absOp, evO, constSV, ungd, gdP, gdPs, setD, binI, binV, ptrE, T_ty, T_size, tTy, tSize, fieldOf, faddrV, pureOp, loadV, cellAt, blkAt, resV, flatV, flat2, Op.operands, List.getD, List.getElem?_cons_zero, List.getElem?_cons_succ, Option.getD_some, List.set, List.map, List.toList_toArray, true_and, and_true, and_self, if_true, if_false, eq_self, ne_eq, not_false_eq_true, reduceCtorEq, Nat.zero_add, List.cons_append, List.nil_append, List.length_cons, List.length_nil, Nat.reduceSub, Nat.succ_ne_self, List.replicate_succ, List.replicate_zero]
  by_cases h0 : r.2 = 0
  rotate_left
  · have e1 : rU b r = r := by unfold rU; rw [if_pos h0]
    have e2 : rS b r = ByteArray.empty := by unfold rS; rw [if_pos h0]
    rw [if_pos (by simpa using h0), e1, e2]
    exact ⟨SubB_same hn, by omega, rfl⟩
  rw [if_neg (by simpa using h0)]
  have e1 : rU b r = ((gtX b r.1).toNat, gtE b r.1) := by unfold rU; rw [if_neg (by simpa using h0)]
  have e2 : rS b r = gtS b r.1 := by unfold rS; rw [if_neg (by simpa using h0)]
  have e3 : gtE b r.1 ≠ 0 → gtS b r.1 = ByteArray.empty := fun h => by unfold gtS; rw [if_neg h]
  have hX := gtX_ok hB hr
  have hG := GetText_meets b r.1 hb hB ⟨by omega, by omega⟩
  rw [e1, e2]
  refine draw_go TO 16 100 mixed_ok (by decide +kernel) ?_
  simp only [hn, rdC, retC, rI, List.take_succ_cons, List.take_zero, List.drop_succ_cons, List.drop_zero, pureOpC, unc, isEff, absD, pureStep, absRun, absOps, absOp, evO, ungd, gdP, gdPs, setD, T_ty, T_size, tTy, tSize, fieldOf, faddrV, pureOp, memOp, loadV, scal, cellAt, blkAt, resV, flatV, flat2, Op.operands, List.getD, List.getElem?_cons_zero, List.getElem?_cons_succ, Option.getD_some, List.set, List.map, List.toList_toArray, Option.isSome, true_and, and_true, and_self, implies_true, imp_self, if_true, if_false, eq_self, ne_eq, not_false_eq_true, forall_const, reduceCtorEq, Nat.zero_add, Nat.add_zero, Nat.reduceSub, Nat.succ_ne_self]
  refine callDS_go TO (fun s' h' => HOps_go TO 100 h') hG Tryd.func63 (by decide +kernel) rfl rfl rfl SubB_refl ?_
  by_cases h1 : gtE b r.1 = 0
  · obtain ⟨x, hx⟩ : ∃ x : Nat, gtX b r.1 = x := ⟨(gtX b r.1).toNat, by omega⟩
    rw [h1, hx]
    simp only [hn, rdC, retC, rI, fnd_same, upd_same, h0, pureOpC, unc, isEff, absD, pureStep, absRun, absOps, absOp, evO, ungd, gdP, gdPs, setD, T_ty, T_size, tTy, tSize, fieldOf, faddrV, extractV, pureOp, memOp, scal, setC, blkAt, resV, ownN, nodup, bares, bare, bare0, flatV, flat2, guardIs, callP, callS, argS, mAs, mA, mA0, mB0, lowD, allNotIn, impN, impB, impT, packS, delL, Op.operands, List.getD, List.getElem?_cons_zero, List.getElem?_cons_succ, Option.getD_some, List.set, List.map, List.toList_toArray, Option.map_some, true_and, and_true, and_self, if_true, if_false, eq_self, ne_eq, not_false_eq_true, reduceCtorEq, Nat.zero_add, Int.toNat_natCast, Int.reduceBNe, List.append_nil, Nat.reduceSub, Nat.succ_ne_self, Bool.and_self]
    exact ⟨SubB_refl, by omega⟩
  · have e4 : gtX b r.1 = 0 := by unfold gtX; rw [if_neg h1]
    rw [e3 h1, e4]
    have c1 : (gtE b r.1 != 0) = true := by simpa using h1
    have c2 : (gtE b r.1 == 0) = false := by simpa using h1
    simp only [hn, rdC, retC, rI, fnd_same, upd_same, pureOpC, unc, isEff, absD, pureStep, absRun, absOps, absOp, evO, ungd, gdP, gdPs, setD, T_ty, T_size, tTy, tSize, fieldOf, faddrV, extractV, pureOp, memOp, scal, setC, blkAt, resV, ownN, nodup, bares, bare, bare0, flatV, flat2, guardIs, callP, callS, argS, mAs, mA, mA0, mB0, lowD, allNotIn, impN, impB, impT, packS, delL, Op.operands, List.getD, List.getElem?_cons_zero, List.getElem?_cons_succ, Option.getD_some, List.set, List.map, List.toList_toArray, Option.map_some, true_and, and_true, and_self, if_true, if_false, eq_self, ne_eq, not_false_eq_true, reduceCtorEq, Nat.zero_add, Int.cast_ofNat_Int, Int.toNat_zero, List.append_nil, Nat.reduceSub, Nat.succ_ne_self, Bool.and_self]
    first | exact ⟨SubB_refl, by omega, rfl⟩ | exact ⟨SubB_refl, by omega⟩

set_option maxHeartbeats 1000000 in
theorem ie_inC {X : Ctx} {b0 : List (Nat × Nat × Blk)} {n g c0 : Nat} {b : List Int} {r : Nat × Int}  {tail : List SV} (hn : fnd b0 n = some (g, rdC b r tail))
    (hb : b.length ≤ 140737488351232) (hB : Bytes b) (hr : r.1 ≤ b.length)  :
    InC Tryd.prog X 47 [.ptr n g 0] b0 c0 (.int .i64 (rEnd b r)) (upd b0 n g (rdC b (r.1, rEnd b r) tail)) (c0 + 8) := by
  refine inC_go TO 5000 Tryd.func47 rfl (absRun_ok TO 100 _ _ ?_)
  simp only [Tryd.ntmps47, Tryd.results47, rdC, pureOpC, absRun, absOps, absOp, evO, constSV, ungd, gdP, gdPs, setD, Op.operands, List.set, List.toList_toArray, true_and, and_self, Nat.zero_add, List.cons_append, List.nil_append, List.length_cons, List.length_nil, Nat.reduceSub, List.replicate_succ, List.replicate_zero]
  refine draw_go TO 17 100 mixed_ok (by decide +kernel) ?_
  simp only [hn, rdC, retC, rI, fnd_same, List.take_succ_cons, List.take_zero, List.drop_succ_cons, List.drop_zero, pureOpC, gloadV, GT, unc, isEff, absD, pureStep, absRun, absOps, absOp, evO, constSV, ungd, gdP, gdPs, setD, binI, binV, ptrE, T_ty, T_size, tTy, tSize, fieldOf, faddrV, pickV, pureOp, guardOf, memOp, lenV, loadV, scal, cellAt, setC, blkAt, elemV, Data.len, Data.esz, resV, flatV, flat2, Op.operands, Call.operands, List.getD, List.getElem?_cons_zero, List.getElem?_cons_succ, Option.getD_some, List.set, List.map, List.toList_toArray, List.getElem?_toArray, Option.bind_some, Option.map_some, true_and, and_true, and_self, implies_true, imp_self, if_true, if_false, eq_self, ne_eq, not_false_eq_true, forall_const, reduceCtorEq, Nat.zero_add, Nat.add_zero, Bool.cond_false_right, List.append_toArray, List.nil_append, Nat.reduceSub, Nat.succ_ne_self, SV.int.injEq]
  have eE : rEnd b r = if r.2 = 0 ∧ r.1 ≠ b.length then 5 else r.2 := rfl
  by_cases h1 : r.2 = 0 ∧ r.1 ≠ b.length
  · rw [if_pos h1] at eE
    rw [if_pos (by simp; omega), eE]
    exact ⟨SubB_refl, by omega, rfl⟩
  · rw [if_neg h1] at eE
    rw [if_neg (by simp; omega), eE]
    exact ⟨SubB_same hn, by omega, rfl⟩

end Go.Proofs.YtgipkhjpedpedaaDoor.Abs

/- info: known, asked. -/
set_option linter.unusedVariables false
set_option linter.unusedSimpArgs false
set_option maxRecDepth 100000
namespace Go.Proofs.YtgipkhjpedpedaaDoor.Abs
open Go Go.Proofs

theorem ikB_cases {c : Int} (h : ikB c = true) : c = 12 ∨ c = 14 ∨ c = 16 ∨ c = 17 ∨ c = 18 := by
  unfold ikB at h
  simp only [Bool.or_eq_true, beq_iff_eq] at h
  omega

theorem ikB_false {c : Int} (h : ikB c = false) : (c == 12) = false ∧ (c == 14) = false ∧ (c == 16) = false ∧ (c == 17) = false ∧ (c == 18) = false := by
  unfold ikB at h
  simp only [Bool.or_eq_false_iff] at h
  exact ⟨h.1.1.1.1, h.1.1.1.2, h.1.1.2, h.1.2, h.2⟩

theorem ik_meets (c : Int) (hc : 0 ≤ c) : Meets Tryd.prog 29 [.v (.int .u16 c)] [.v (.bool (ikB c))] := by
  refine meets_go TO 100 Tryd.func29 rfl (fun X => ?_)
  simp only [Tryd.ntmps29, Tryd.results29, pureOpC, unc, svs, blks, AV.sv, absRun, absOps, absOp, evO, constSV, ungd, gdP, gdPs, setD, binI, binV, ptrE, pickV, pureOp, guardOf, retP, resV, retQ, rAs, rA, rA0, ownN, nodup, bares, bare, bare0, Op.operands, List.getD, List.getElem?_cons_zero, List.getElem?_cons_succ, Option.getD_some, List.set, List.map, List.toList_toArray, List.getElem?_toArray, Option.bind_some, true_and, and_true, and_self, implies_true, imp_self, eq_self, Nat.zero_add, Bool.cond_true_left, List.cons_append, List.nil_append, List.length_cons, List.length_nil, Nat.reduceAdd, Nat.reduceSub, List.replicate_succ, List.replicate_zero, Bool.and_self]
  cases hk : ikB c with
  | true => rcases ikB_cases hk with rfl | rfl | rfl | rfl | rfl <;> simp only [eq_self, Int.reduceBEq, beq_self_eq_true, Bool.or_false, Bool.or_true]
  | false =>
    obtain ⟨e0, e1, e2, e3, e4⟩ := ikB_false hk
    simp only [e0, e1, e2, e3, e4, eq_self, Bool.or_false]

theorem iK_meets (c : Int) (hc : 0 ≤ c) : Meets Tryd.prog 36 [.v (.int .u16 c)] [.v (.bool (ikB c))] := by
  refine meets_go TO 100 Tryd.func36 rfl (fun X => ?_)
  simp only [Tryd.ntmps36, Tryd.results36, pureOpC, unc, svs, blks, AV.sv, absRun, absOps, absOp, evO, constSV, ungd, gdP, gdPs, setD, binI, binV, ptrE, pickV, pureOp, guardOf, retP, resV, retQ, rAs, rA, rA0, ownN, nodup, bares, bare, bare0, Op.operands, List.getD, List.getElem?_cons_zero, List.getElem?_cons_succ, Option.getD_some, List.set, List.map, List.toList_toArray, List.getElem?_toArray, Option.bind_some, true_and, and_true, and_self, implies_true, imp_self, eq_self, Nat.zero_add, Bool.cond_true_left, Bool.cond_false_right, List.cons_append, List.nil_append, List.length_cons, List.length_nil, Nat.reduceAdd, Nat.reduceSub, List.replicate_succ, List.replicate_zero, Bool.and_self, ge_iff_le]
  cases hk : ikB c with
  | true => rcases ikB_cases hk with rfl | rfl | rfl | rfl | rfl <;> simp only [eq_self, Int.le_refl, Int.reduceBEq, beq_self_eq_true, Bool.and_true, Bool.and_self, Bool.or_false, Bool.or_true, Int.reduceLE, decide_true, decide_false]
  | false =>
    obtain ⟨e0, e1, e2, e3, e4⟩ := ikB_false hk
    have k : (decide (16 ≤ c) && decide (c ≤ 18)) = false := by
      simp only [beq_eq_false_iff_ne] at e2 e3 e4
      simp; omega
    simp only [e0, e1, k, eq_self, Bool.or_false]
    try simp

end Go.Proofs.YtgipkhjpedpedaaDoor.Abs

/- info: asked, of the program and of the document. -/
set_option linter.unusedVariables false
set_option linter.unusedSimpArgs false
set_option maxRecDepth 100000
namespace Go.Proofs.YtgipkhjpedpedaaDoor.Abs
open Go Go.Proofs

set_option maxHeartbeats 4000000 in
theorem iasked_meets (c : Int) (a : Ask) (hc : 0 ≤ c) : Meets Tryd.prog 31 [.v (.int .u16 c), .v (a.sv false)] [.v ((iaW c a).sv true)] := by
  refine meets_go TO 100 Tryd.func31 rfl (fun X => ?_)
  simp only [Tryd.ntmps31, Tryd.results31, Ask.sv, Ask.cells, pureOpC, buildV, fillC, cntC, unc, svs, blks, AV.sv, absRun, absOps, absOp, evO, constSV, ungd, gdP, gdPs, setD, binI, binV, ptrE, T_ty, T_size, T_zero, tTy, tSize, tZero, fieldOf, faddrV, pureOp, memOp, loadV, newV, notIn, scal, cellsOf, okC, cellAt, takeC, dropC, setC, blkAt, fnd, upd, Data.len, Lim.add, retP, resV, retQ, rAs, rA, rA0, rAl, ownN, nodup, bares, bare, bare0, bareL, bareD, Op.operands, List.getD, List.getElem?_cons_zero, List.getElem?_cons_succ, Option.getD_some, List.set, List.map, List.all, List.toList_toArray, Option.bind_some, Option.map_some, Option.map_none, exitTo, true_and, and_true, and_self, if_true, if_false, eq_self, ne_eq, not_false_eq_true, reduceCtorEq, Bool.false_eq_true, Nat.zero_add, Nat.add_zero, List.cons_append, List.nil_append, List.append_nil, List.length_cons, List.length_nil, Nat.reduceAdd, Nat.reduceSub, Nat.reduceEqDiff, Nat.reduceBEq, Nat.reduceLeDiff, Nat.reduceLT, Nat.succ_ne_self, beq_self_eq_true, List.replicate_succ, List.replicate_zero, Bool.and_self, Nat.reduceBNe]
  by_cases c14 : c = 14
  · subst c14
    rw [if_pos (by decide)]
    refine drawI_go TO (fun y : List SV => [(3, 2, .cells (a.cells false)), (5, 3, .cells y)]) 10 100 mixed_ok (by decide +kernel) ⟨⟨_, rfl, rfl, trivial⟩, ?_⟩
    simp only [Ask.cells, List.take_succ_cons, List.take_zero, List.drop_succ_cons, List.drop_zero, pureOpC, cntC, gloadV, GT, unc, isEff, pureStep, subB, absRun, absOps, absOp, evO, ungd, gdP, gdPs, setD, T_ty, T_size, tTy, tSize, fieldOf, faddrV, pureOp, memOp, loadV, scal, okC, cellAt, takeC, dropC, setC, blkAt, fnd, upd, elemV, Data.len, Data.esz, retP, resV, retQ, rAs, rA, rA0, rAl, ownN, nodup, bares, bare, bare0, bareL, bareD, Op.operands, List.getD, List.getElem?_cons_zero, List.getElem?_cons_succ, Option.getD_some, List.set, List.map, List.toList_toArray, Option.bind_some, Option.map_some, Option.map_none, Option.isSome, true_and, and_true, false_and, and_false, and_self, implies_true, imp_self, if_true, if_false, eq_self, ne_eq, not_false_eq_true, forall_const, reduceCtorEq, Nat.zero_add, Nat.add_zero, List.nil_append, List.append_nil, Nat.reduceAdd, Nat.reduceSub, Nat.reduceEqDiff, Nat.reduceLeDiff, Nat.reduceLT, Nat.succ_ne_self, beq_self_eq_true, Bool.and_self, absI]
    simp [iaW, askZ]
  rw [if_neg (by simpa using c14)]
  by_cases c17 : c = 17
  · subst c17
    rw [if_pos (by decide)]
    repeat' split
    all_goals simp_all [iaW, askZ]
  rw [if_neg (by simpa using c17)]
  repeat' split
  all_goals simp_all [iaW, askZ]

set_option maxHeartbeats 4000000 in
theorem rasked_meets (c : Int) (a : Ask) (hc : 0 ≤ c) : Meets Tryd.prog 37 [.v (.int .u16 c), .v (a.sv false)] [.v ((iaW c a).sv true)] := by
  refine meets_go TO 100 Tryd.func37 rfl (fun X => ?_)
  simp only [Tryd.ntmps37, Tryd.results37, Ask.sv, Ask.cells, pureOpC, buildV, fillC, cntC, unc, svs, blks, AV.sv, absRun, absOps, absOp, evO, constSV, ungd, gdP, gdPs, setD, binI, binV, ptrE, T_ty, T_size, T_zero, tTy, tSize, tZero, fieldOf, faddrV, pickV, pureOp, guardOf, memOp, loadV, newV, notIn, scal, cellsOf, okC, cellAt, takeC, dropC, setC, blkAt, fnd, upd, Data.len, Lim.add, retP, resV, retQ, rAs, rA, rA0, rAl, ownN, nodup, bares, bare, bare0, bareL, bareD, Op.operands, List.getD, List.getElem?_cons_zero, List.getElem?_cons_succ, Option.getD_some, List.set, List.map, List.all, List.toList_toArray, List.getElem?_toArray, Option.bind_some, Option.map_some, Option.map_none, true_and, and_true, and_self, implies_true, imp_self, if_true, if_false, eq_self, ne_eq, not_false_eq_true, reduceCtorEq, Nat.zero_add, Nat.add_zero, Bool.cond_true_left, List.cons_append, List.nil_append, List.append_nil, List.length_cons, List.length_nil, Nat.reduceAdd, Nat.reduceSub, Nat.reduceEqDiff, Nat.reduceLeDiff, Nat.reduceLT, Nat.succ_ne_self, List.replicate_succ, List.replicate_zero, Bool.and_self, Nat.reduceBNe]
  by_cases c12 : c = 12
  · subst c12
    simp [iaW, askZ]
  rw [if_neg (by simpa using c12)]
  by_cases c14 : c = 14
  · subst c14
    rw [if_pos (by decide)]
    refine drawI_go TO (fun y : List SV => [(3, 2, .cells (a.cells false)), (5, 3, .cells y)]) 10 100 mixed_ok (by decide +kernel) ⟨⟨_, rfl, rfl, trivial⟩, ?_⟩
    simp only [Ask.cells, List.take_succ_cons, List.take_zero, List.drop_succ_cons, List.drop_zero, pureOpC, cntC, gloadV, GT, unc, isEff, pureStep, subB, absRun, absOps, absOp, evO, ungd, gdP, gdPs, setD, T_ty, T_size, tTy, tSize, fieldOf, faddrV, pureOp, memOp, loadV, scal, okC, cellAt, takeC, dropC, setC, blkAt, fnd, upd, elemV, Data.len, Data.esz, retP, resV, retQ, rAs, rA, rA0, rAl, ownN, nodup, bares, bare, bare0, bareL, bareD, Op.operands, List.getD, List.getElem?_cons_zero, List.getElem?_cons_succ, Option.getD_some, List.set, List.map, List.toList_toArray, Option.bind_some, Option.map_some, Option.map_none, Option.isSome, true_and, and_true, false_and, and_false, and_self, implies_true, imp_self, if_true, if_false, eq_self, ne_eq, not_false_eq_true, forall_const, reduceCtorEq, Nat.zero_add, Nat.add_zero, Int.reduceBEq, List.nil_append, List.append_nil, Nat.reduceAdd, Nat.reduceSub, Nat.reduceEqDiff, Nat.reduceLeDiff, Nat.reduceLT, Nat.succ_ne_self, beq_self_eq_true, Bool.and_self, absI]
    simp [iaW, askZ]
  rw [if_neg (by simpa using c14)]
  by_cases c17 : c = 17
  · subst c17
    rw [if_pos (by decide)]
    repeat' split
    all_goals simp_all [iaW, askZ]
  rw [if_neg (by simpa using c17)]
  repeat' split
  all_goals simp_all [iaW, askZ]

end Go.Proofs.YtgipkhjpedpedaaDoor.Abs
