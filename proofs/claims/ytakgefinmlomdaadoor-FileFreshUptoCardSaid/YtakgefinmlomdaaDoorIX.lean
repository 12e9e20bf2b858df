/- Joined: I2 I3 J3 J4 J5. -/
import Derived.Test.YtakgefinmlomdaaDoorUZ
/- PLAIN LAWS: readers over a beginning of what was laid. -/
set_option linter.unusedVariables false
set_option linter.unusedSimpArgs false
set_option maxRecDepth 100000
namespace Go.Proofs.YtakgefinmlomdaaDoor.Abs
open Go Go.Proofs

/-- A text, as info reads it: on an error it stands at nought. -/
def rU (b : List Int) (r : Nat × Int) : Nat × Int := if r.2 ≠ 0 then r else ((gtX b r.1).toNat, gtE b r.1)

theorem rU_err {b : List Int} {r : Nat × Int} (h : r.2 ≠ 0) : rU b r = r := by unfold rU; rw [if_pos h]
theorem rT_err {b : List Int} {r : Nat × Int} (h : r.2 ≠ 0) : rT b r = r := by unfold rT; rw [if_pos h]
theorem rN_err2 {b : List Int} {k : Nat} {r : Nat × Int} (h : r.2 ≠ 0) : rN b k r = r := by unfold rN; rw [if_pos h]
theorem rM_err {b : List Int} {k : Nat} {m e : Int} {r : Nat × Int} (h : r.2 ≠ 0) : rM b k m e r = r := by
  unfold rM; rw [rN_err2 h, if_neg (fun g => h g.1)]
theorem rU_rT (b : List Int) (r : Nat × Int) : (rU b r).2 = (rT b r).2 ∧ ((rT b r).2 = 0 → rU b r = rT b r) := by
  unfold rU rT
  by_cases h : r.2 = 0
  · rw [if_neg (by simp [h]), if_neg (by simp [h])]
    by_cases g : gtE b r.1 = 0
    · rw [if_neg (by simp [g]), g]; exact ⟨rfl, fun _ => rfl⟩
    · rw [if_pos g]; exact ⟨rfl, fun k => absurd k g⟩
  · rw [if_pos h, if_pos h]; exact ⟨rfl, fun _ => rfl⟩

/-- Readers that tell the same. -/
def Same2 (r r' : Nat × Int) : Prop := r.2 = r'.2 ∧ (r'.2 = 0 → r = r')
theorem Same2.refl (r : Nat × Int) : Same2 r r := ⟨rfl, fun _ => rfl⟩
theorem Same2.step {f : Nat × Int → Nat × Int} (hf : ∀ r, r.2 ≠ 0 → f r = r) {r r' : Nat × Int} (h : Same2 r r') : Same2 (f r) (f r') := by
  by_cases g : r'.2 = 0
  · rw [h.2 g]; exact .refl _
  · rw [hf r (by rw [h.1]; exact g), hf r' g]; exact h
theorem Same2.text {b : List Int} {r r' : Nat × Int} (h : Same2 r r') : Same2 (rU b r) (rT b r') := by
  by_cases g : r'.2 = 0
  · rw [h.2 g]; exact rU_rT b r'
  · rw [rU_err (by rw [h.1]; exact g), rT_err g]; exact h
theorem Same2.end_ {b : List Int} {r r' : Nat × Int} (h : Same2 r r') : rEnd b r = rEnd b r' := by
  by_cases g : r'.2 = 0
  · rw [h.2 g]
  · rw [rEnd_err g, rEnd_err (by rw [h.1]; exact g), h.1]

theorem pre_drop {b p x q : List Int} (hb : b <+: p ++ (x ++ q)) (h : p.length + x.length ≤ b.length) : (b.drop p.length).take x.length = x := by
  obtain ⟨t, ht⟩ := hb
  have e := congrArg (fun l => (l.drop p.length).take x.length) ht
  rw [dt_app, List.drop_append_of_le_length (by omega), List.take_append_of_le_length (by rw [List.length_drop]; omega)] at e
  exact e

theorem rN_pre {b p q : List Int} {k : Nat} {v : Int} (hb : b <+: p ++ (digs k v ++ q)) (hk : szB k = true) (h0 : 0 ≤ v) (hv : v < 256 ^ k) (hp : p.length ≤ b.length) :
    (b.length < p.length + k ∧ rN b k (p.length, 0) = (p.length, 4) ∧ rV b k (p.length, 0) = 0) ∨ (p.length + k ≤ b.length ∧ rN b k (p.length, 0) = (p.length + k, 0) ∧ rV b k (p.length, 0) = v) := by
  by_cases h : p.length + k ≤ b.length
  · right
    refine ⟨h, rN_ok h, ?_⟩
    rw [rV_of hk h]
    have e := pre_drop hb (by rw [digs_length]; exact h)
    rw [digs_length] at e
    rw [e, val_digs k v h0 hv]
  · left
    exact ⟨by omega, rN_short (by omega), rV_short (by omega)⟩

theorem rM_pre {b p q : List Int} {k : Nat} {v m e : Int} (hb : b <+: p ++ (digs k v ++ q)) (hk : szB k = true) (h0 : 0 ≤ v) (hv : v < 256 ^ k) (hm : v ≤ m) (hp : p.length ≤ b.length) :
    (b.length < p.length + k ∧ rM b k m e (p.length, 0) = (p.length, 4) ∧ rV b k (p.length, 0) = 0) ∨ (p.length + k ≤ b.length ∧ rM b k m e (p.length, 0) = (p.length + k, 0) ∧ rV b k (p.length, 0) = v) := by
  unfold rM
  rcases rN_pre hb hk h0 hv hp with ⟨h1, h2, h3⟩ | ⟨h1, h2, h3⟩
  · exact .inl ⟨h1, by rw [h2, if_neg (by simp)], h3⟩
  · exact .inr ⟨h1, by rw [h2, h3, if_neg (by simp only [true_and]; omega)], h3⟩

theorem rT_pre {b p q : List Int} {s : ByteArray} (hs : ptE s = 0) (hb : b <+: p ++ (ptL s ++ q)) (hp : p.length ≤ b.length) :
    (b.length < p.length + (ptL s).length ∧ (rT b (p.length, 0)).2 = 4) ∨ (p.length + (ptL s).length ≤ b.length ∧ rT b (p.length, 0) = (p.length + (ptL s).length, 0) ∧ rS b (p.length, 0) = s) := by
  by_cases h : p.length + (ptL s).length ≤ b.length
  · right
    have hb' : p ++ ptL s <+: b := by
      refine List.prefix_of_prefix_length_le (l₃ := p ++ (ptL s ++ q)) ?_ hb (by rw [List.length_append]; exact h)
      rw [← List.append_assoc]
      exact List.prefix_append _ _
    obtain ⟨t, rfl⟩ := hb'
    rw [List.append_assoc] at *
    exact ⟨h, rT_app hs p t⟩
  · left
    refine ⟨by omega, rT_cut hs p b ?_ hp (by omega)⟩
    refine List.prefix_of_prefix_length_le (l₃ := p ++ (ptL s ++ q)) hb ?_ (by rw [List.length_append]; omega)
    rw [← List.append_assoc]
    exact List.prefix_append _ _

theorem rU_pre {b p q : List Int} {s : ByteArray} (hs : ptE s = 0) (hb : b <+: p ++ (ptL s ++ q)) (hp : p.length ≤ b.length) :
    (b.length < p.length + (ptL s).length ∧ (rU b (p.length, 0)).2 = 4) ∨ (p.length + (ptL s).length ≤ b.length ∧ rU b (p.length, 0) = (p.length + (ptL s).length, 0) ∧ rS b (p.length, 0) = s) := by
  obtain ⟨e1, e2⟩ := rU_rT b (p.length, 0)
  rcases rT_pre hs hb hp with ⟨h1, h2⟩ | ⟨h1, h2, h3⟩
  · exact .inl ⟨h1, by rw [e1, h2]⟩
  · exact .inr ⟨h1, by rw [e2 (by rw [h2]), h2], h3⟩

-- what was got, by parts
theorem rN_got {b : List Int} (hB : Bytes b) {k a x : Nat} {e : Int} (hk : szB k = true) (h : rN b k (a, e) = (x, 0)) : e = 0 ∧ x = a + k ∧ a + k ≤ b.length ∧ digs k (rV b k (a, e)) = (b.drop a).take k ∧ 0 ≤ rV b k (a, e) ∧ rV b k (a, e) < 256 ^ k := by
  by_cases g : e = 0
  · subst g
    by_cases g2 : a + k ≤ b.length
    · rw [rN_ok g2] at h
      simp only [Prod.mk.injEq, and_true] at h
      have hb2 : Bytes ((b.drop a).take k) := (hB.drop _).take _
      have hl2 : ((b.drop a).take k).length = k := by rw [List.length_take, List.length_drop]; omega
      have hd := digs_val hb2
      have hv := val_bounds hb2
      rw [hl2] at hd hv
      rw [rV_of hk g2]
      exact ⟨rfl, h.symm, g2, hd, hv⟩
    · rw [rN_short (by omega)] at h; simp at h
  · rw [rN_err g] at h
    simp only [Prod.mk.injEq] at h
    exact absurd h.2 g

theorem rM_got2 {b : List Int} (hB : Bytes b) {k a x : Nat} {m e0 e : Int} (he : e0 ≠ 0) (hk : szB k = true) (h : rM b k m e0 (a, e) = (x, 0)) : e = 0 ∧ x = a + k ∧ a + k ≤ b.length ∧ digs k (rV b k (a, e)) = (b.drop a).take k ∧ 0 ≤ rV b k (a, e) ∧ rV b k (a, e) < 256 ^ k ∧ rV b k (a, e) ≤ m := by
  unfold rM at h
  by_cases c : (rN b k (a, e)).2 = 0 ∧ m < rV b k (a, e)
  · rw [if_pos c] at h
    simp only [Prod.mk.injEq] at h
    exact absurd h.2 he
  · rw [if_neg c] at h
    obtain ⟨h1, h2, h3, h4, h5, h6⟩ := rN_got hB hk h
    rw [h] at c
    exact ⟨h1, h2, h3, h4, h5, h6, by simp only [true_and] at c; omega⟩

theorem rT_got2 {b : List Int} (hB : Bytes b) {a x : Nat} {e : Int} (h : rT b (a, e) = (x, 0)) : e = 0 ∧ ptE (rS b (a, e)) = 0 ∧ a ≤ x ∧ x ≤ b.length ∧ ptL (rS b (a, e)) = (b.drop a).take (x - a) := by
  by_cases g : e = 0
  · subst g; exact ⟨rfl, rT_got hB h⟩
  · rw [rT_err g] at h
    simp only [Prod.mk.injEq] at h
    exact absurd h.2 g

theorem rU_got2 {b : List Int} (hB : Bytes b) {a x : Nat} {e : Int} (h : rU b (a, e) = (x, 0)) : e = 0 ∧ ptE (rS b (a, e)) = 0 ∧ a ≤ x ∧ x ≤ b.length ∧ ptL (rS b (a, e)) = (b.drop a).take (x - a) := by
  obtain ⟨e1, e2⟩ := rU_rT b (a, e)
  have h2 : (rT b (a, e)).2 = 0 := by rw [← e1, h]
  rw [e2 h2] at h
  exact rT_got2 hB h

/-- Two neighbouring pieces are one. -/
theorem take_two {b : List Int} {a m n : Nat} (h : m ≤ n) : (b.drop a).take m ++ (b.drop (a + m)).take (n - m) = (b.drop a).take n := by
  rw [← List.drop_drop, ← List.take_add]
  congr 1
  omega

end Go.Proofs.YtakgefinmlomdaaDoor.Abs

/- PLAIN LAWS: the asks of info. -/
set_option linter.unusedVariables false
set_option linter.unusedSimpArgs false
set_option maxRecDepth 100000
namespace Go.Proofs.YtakgefinmlomdaaDoor.Abs
open Go Go.Proofs

/-- How far a reader is, over a beginning of what was laid. -/
def StR (b p : List Int) (r : Nat × Int) : Prop := (r.2 = 4 ∧ b.length < p.length) ∨ (r = (p.length, 0) ∧ p.length ≤ b.length)

theorem StR.nil (b : List Int) : StR b [] (0, 0) := .inr ⟨rfl, Nat.zero_le _⟩

theorem stepN {b p q : List Int} {k : Nat} {v : Int} {r : Nat × Int} (hb : b <+: p ++ (digs k v ++ q)) (hk : szB k = true) (hv : 0 ≤ v ∧ v < 256 ^ k) (h : StR b p r) :
    StR b (p ++ digs k v) (rN b k r) ∧ ((p ++ digs k v).length ≤ b.length → rV b k r = v) := by
  have hl : (p ++ digs k v).length = p.length + k := by rw [List.length_append, digs_length]
  rcases h with ⟨h1, h2⟩ | ⟨rfl, h2⟩
  · exact ⟨.inl ⟨by rw [rN_err2 (by rw [h1]; decide)]; exact h1, by omega⟩, fun g => by omega⟩
  · rcases rN_pre hb hk hv.1 hv.2 h2 with ⟨g1, g2, g3⟩ | ⟨g1, g2, g3⟩
    · exact ⟨.inl ⟨by rw [g2], by omega⟩, fun g => by omega⟩
    · exact ⟨.inr ⟨by rw [g2, hl], by omega⟩, fun _ => g3⟩

theorem stepM {b p q : List Int} {k : Nat} {v m e : Int} {r : Nat × Int} (hb : b <+: p ++ (digs k v ++ q)) (hk : szB k = true) (hv : 0 ≤ v ∧ v < 256 ^ k) (hm : v ≤ m) (h : StR b p r) :
    StR b (p ++ digs k v) (rM b k m e r) ∧ ((p ++ digs k v).length ≤ b.length → rV b k r = v) := by
  have hl : (p ++ digs k v).length = p.length + k := by rw [List.length_append, digs_length]
  rcases h with ⟨h1, h2⟩ | ⟨rfl, h2⟩
  · exact ⟨.inl ⟨by rw [rM_err (by rw [h1]; decide)]; exact h1, by omega⟩, fun g => by omega⟩
  · rcases rM_pre (e := e) hb hk hv.1 hv.2 hm h2 with ⟨g1, g2, g3⟩ | ⟨g1, g2, g3⟩
    · exact ⟨.inl ⟨by rw [g2], by omega⟩, fun g => by omega⟩
    · exact ⟨.inr ⟨by rw [g2, hl], by omega⟩, fun _ => g3⟩

theorem stepU {b p q : List Int} {s : ByteArray} {r : Nat × Int} (hs : ptE s = 0) (hb : b <+: p ++ (ptL s ++ q)) (h : StR b p r) :
    StR b (p ++ ptL s) (rU b r) ∧ ((p ++ ptL s).length ≤ b.length → rS b r = s) := by
  have hl : (p ++ ptL s).length = p.length + (ptL s).length := List.length_append
  rcases h with ⟨h1, h2⟩ | ⟨rfl, h2⟩
  · exact ⟨.inl ⟨by rw [rU_err (by rw [h1]; decide)]; exact h1, by omega⟩, fun g => by omega⟩
  · rcases rU_pre hs hb h2 with ⟨g1, g2⟩ | ⟨g1, g2, g3⟩
    · exact ⟨.inl ⟨g2, by omega⟩, fun g => by omega⟩
    · exact ⟨.inr ⟨by rw [g2, hl], by omega⟩, fun _ => g3⟩

def ikB (c : Int) : Bool := c == 12 || c == 14 || c == 16 || c == 17 || c == 18
def onV (b : Bool) : Int := if b then 1 else 0
def iaW (c : Int) (a : Ask) : Ask :=
  if c = 12 then askZ else if c = 14 then { askZ with file := a.file, most := a.most, pattern := a.pattern, after := a.after }
  else if c = 17 then (if a.cls = 1 then { askZ with file := a.file, cls := a.cls, size := a.size } else if a.cls = 2 then { askZ with file := a.file, cls := a.cls, on := a.on }
    else if a.cls = 3 then { askZ with file := a.file, cls := a.cls, on := a.on, name := a.name } else { askZ with file := a.file, cls := a.cls })
  else if c = 18 then { askZ with file := a.file, level := a.level } else { askZ with file := a.file }
def iaE (c : Int) (a : Ask) : Int :=
  if ikB c = false ∨ iaW c a ≠ a ∨ (c = 17 ∧ (a.cls < 1 ∨ 3 < a.cls)) then 2
  else if c = 14 then (if ptE a.pattern ≠ 0 then ptE a.pattern else ptE a.after) else if c = 17 ∧ a.cls = 3 then ptE a.name else 0
def iaL (c : Int) (a : Ask) : List Int :=
  if iaE c a ≠ 0 then [] else if c = 12 then digs 4 0
  else if c = 14 then digs 8 a.file ++ (digs 2 a.most ++ (digs 2 0 ++ (ptL a.pattern ++ ptL a.after)))
  else if c = 17 then digs 8 a.file ++ (digs 2 a.cls ++ (if a.cls = 1 then digs 8 a.size else digs 2 (onV a.on) ++ (if a.cls = 3 then ptL a.name else [])))
  else if c = 18 then digs 8 a.file ++ (digs 1 a.level ++ (digs 1 0 ++ digs 2 0)) else digs 8 a.file

def ig1 (b : List Int) : Nat × Int := rN b 8 (0, 0)
def ig2 (b : List Int) : Nat × Int := rN b 2 (ig1 b)
def igR (c : Int) (b : List Int) : Nat × Int :=
  if c = 12 then rM b 4 0 5 (0, 0) else if c = 14 then rU b (rU b (rM b 2 0 5 (ig2 b)))
  else if c = 17 then (if rV b 2 (ig1 b) = 1 then rN b 8 (ig2 b) else if rV b 2 (ig1 b) = 2 then rM b 2 1 5 (ig2 b)
    else if rV b 2 (ig1 b) = 3 then rU b (rM b 2 1 5 (ig2 b)) else if (ig2 b).2 = 0 then ((ig2 b).1, 5) else ig2 b)
  else if c = 18 then rM b 2 0 5 (rM b 1 0 5 (rN b 1 (ig1 b))) else ig1 b
def igV (c : Int) (b : List Int) : Ask :=
  if c = 12 then askZ else if c = 14 then { askZ with file := rV b 8 (0, 0), most := rV b 2 (ig1 b), pattern := rS b (rM b 2 0 5 (ig2 b)), after := rS b (rU b (rM b 2 0 5 (ig2 b))) }
  else if c = 17 then (if rV b 2 (ig1 b) = 1 then { askZ with file := rV b 8 (0, 0), cls := rV b 2 (ig1 b), size := rV b 8 (ig2 b) }
    else if rV b 2 (ig1 b) = 2 then { askZ with file := rV b 8 (0, 0), cls := rV b 2 (ig1 b), on := rV b 2 (ig2 b) == 1 }
    else if rV b 2 (ig1 b) = 3 then { askZ with file := rV b 8 (0, 0), cls := rV b 2 (ig1 b), on := rV b 2 (ig2 b) == 1, name := rS b (rM b 2 1 5 (ig2 b)) }
    else { askZ with file := rV b 8 (0, 0), cls := rV b 2 (ig1 b) })
  else if c = 18 then { askZ with file := rV b 8 (0, 0), level := rV b 1 (ig1 b) } else { askZ with file := rV b 8 (0, 0) }
def igE (c : Int) (b : List Int) : Int := if ikB c = true then rEnd b (igR c b) else 2
def igA (c : Int) (b : List Int) : Ask := if igE c b ≠ 0 then askZ else igV c b

theorem peel (b : List Int) (a m : Nat) : (b.drop a).take m ++ b.drop (a + m) = b.drop a := by
  rw [← List.drop_drop, List.take_append_drop]

end Go.Proofs.YtakgefinmlomdaaDoor.Abs

/- PLAIN LAWS: the asks of file. -/
set_option linter.unusedVariables false
set_option linter.unusedSimpArgs false
set_option maxRecDepth 100000
namespace Go.Proofs.YtakgefinmlomdaaDoor.Abs
open Go Go.Proofs

/-- Bytes with their count ahead. -/
def fdR (b : List Int) (r : Nat × Int) : Nat × Int := rN b (rV b 4 r).toNat (rM b 4 32768 3 r)
def fdV (b : List Int) (r : Nat × Int) : List Int := rP b (rV b 4 r).toNat (rM b 4 32768 3 r)

theorem stepD {b p q d : List Int} {r : Nat × Int} (hb : b <+: p ++ (digs 4 d.length ++ (d ++ q))) (hd : d.length ≤ 32768) (h : StR b p r) :
    StR b (p ++ (digs 4 d.length ++ d)) (fdR b r) ∧ ((p ++ (digs 4 d.length ++ d)).length ≤ b.length → fdV b r = d) := by
  obtain ⟨s1, v1⟩ := stepM (m := 32768) (e := 3) hb (by decide) ⟨by omega, by omega⟩ (by omega) h
  have hl : (p ++ (digs 4 (d.length : Int) ++ d)).length = (p ++ digs 4 (d.length : Int)).length + d.length := by simp only [List.length_append]; omega
  unfold fdR fdV
  rcases s1 with ⟨h1, h2⟩ | ⟨h1, h2⟩
  · rw [rN_err2 (by rw [h1]; decide)]
    exact ⟨.inl ⟨h1, by omega⟩, fun g => by omega⟩
  · rw [v1 h2, h1, Int.toNat_natCast]
    by_cases g : (p ++ digs 4 (d.length : Int)).length + d.length ≤ b.length
    · rw [rN_ok g, rP_of g]
      refine ⟨.inr ⟨by rw [hl], by omega⟩, fun _ => ?_⟩
      exact pre_drop (q := q) (by rw [List.append_assoc]; exact hb) g
    · rw [rN_short (by omega)]
      exact ⟨.inl ⟨rfl, by omega⟩, fun g' => by omega⟩

theorem fd_got {b : List Int} (hB : Bytes b) {a x : Nat} {e : Int} (h : fdR b (a, e) = (x, 0)) :
    e = 0 ∧ a + 4 ≤ b.length ∧ x = a + 4 + (fdV b (a, e)).length ∧ x ≤ b.length ∧ (fdV b (a, e)).length ≤ 32768 ∧ digs 4 ((fdV b (a, e)).length : Int) = (b.drop a).take 4 ∧ fdV b (a, e) = (b.drop (a + 4)).take (fdV b (a, e)).length ∧ Bytes (fdV b (a, e)) := by
  unfold fdR at h
  unfold fdV
  rcases h1 : rM b 4 32768 3 (a, e) with ⟨a1, e1⟩
  rw [h1] at h
  have he : e1 = 0 := by
    by_cases g : e1 = 0
    · exact g
    · rw [rN_err g] at h; simp only [Prod.mk.injEq] at h; exact absurd h.2 g
  subst he
  obtain ⟨rfl, x1, m1, d1, z1, _, y1⟩ := rM_got2 hB (by decide) (by decide) h1
  generalize hn : (rV b 4 (a, 0)).toNat = n at h ⊢
  by_cases g : a1 + n ≤ b.length
  · rw [rN_ok g] at h
    simp only [Prod.mk.injEq, and_true] at h
    rw [rP_of g]
    have hl : ((b.drop a1).take n).length = n := by rw [List.length_take, List.length_drop]; omega
    rw [hl]
    exact ⟨rfl, m1, by omega, by omega, by omega, by rw [← d1]; congr 1; omega, by rw [x1], (hB.drop _).take _⟩
  · rw [rN_short (by omega)] at h; simp at h

def fkB (c : Int) : Bool := decide (5 ≤ c) && decide (c ≤ 10)
def lkL (l : List LockR) : List Int := l.flatMap fun x => digs 8 x.at_ ++ (digs 8 x.n ++ (digs 2 x.mode ++ digs 2 0))
def faW (c : Int) (a : Ask) : Ask :=
  if c = 5 then { askZ with access := a.access, sharing := a.sharing, way := a.way, options := a.options, level := a.level, durable := a.durable, file := a.file, name := a.name }
  else if c = 8 then { askZ with file := a.file, at_ := a.at_, n := a.n } else if c = 9 then { askZ with file := a.file, at_ := a.at_, data := a.data }
  else if c = 10 then { askZ with file := a.file, locks := a.locks } else { askZ with file := a.file }
def faBad (c : Int) (a : Ask) : Prop := fkB c = false ∨ faW c a ≠ a ∨ ∃ x ∈ a.locks, x.op ≠ 0
open Classical in
noncomputable def faE (c : Int) (a : Ask) : Int := if faBad c a then 2 else if 32768 < a.data.length ∨ 16 < a.locks.length then 3 else if c = 5 then ptE a.name else 0
noncomputable def faL (c : Int) (a : Ask) : List Int :=
  if faE c a ≠ 0 then []
  else if c = 5 then digs 4 a.access ++ (digs 4 a.sharing ++ (digs 4 a.way ++ (digs 4 a.options ++ (digs 1 a.level ++ (digs 1 a.durable ++ (digs 2 0 ++ (digs 8 a.file ++ ptL a.name)))))))
  else if c = 8 then digs 8 a.file ++ (digs 8 a.at_ ++ digs 4 a.n) else if c = 9 then digs 8 a.file ++ (digs 8 a.at_ ++ (digs 4 a.data.length ++ a.data))
  else if c = 10 then digs 8 a.file ++ (digs 2 a.locks.length ++ (digs 2 0 ++ lkL a.locks)) else digs 8 a.file

def fc1 (b : List Int) : Nat × Int := rN b 4 (0, 0)
def fc2 (b : List Int) : Nat × Int := rN b 4 (fc1 b)
def fc3 (b : List Int) : Nat × Int := rN b 4 (fc2 b)
def fc4 (b : List Int) : Nat × Int := rN b 4 (fc3 b)
def fc5 (b : List Int) : Nat × Int := rN b 1 (fc4 b)
def fc6 (b : List Int) : Nat × Int := rN b 1 (fc5 b)
def fc7 (b : List Int) : Nat × Int := rM b 2 0 5 (fc6 b)
def fc8 (b : List Int) : Nat × Int := rN b 8 (fc7 b)
def lkR (b : List Int) (r : Nat × Int) : Nat × Int := rM b 2 0 5 (rN b 2 (rN b 8 (rN b 8 r)))
def lkX (b : List Int) (r : Nat × Int) : LockR := ⟨0, rV b 8 r, rV b 8 (rN b 8 r), rV b 2 (rN b 8 (rN b 8 r))⟩
def lkF (b : List Int) : Nat → Nat × Int → List LockR → List LockR × (Nat × Int)
  | 0, r, l => (l, r)
  | k + 1, r, l => if r.2 = 0 then lkF b k (lkR b r) (l ++ [lkX b r]) else (l, r)
def lk0 (b : List Int) : List LockR × (Nat × Int) := lkF b (rV b 2 (ig1 b)).toNat (rM b 2 0 5 (rM b 2 16 3 (ig1 b))) []
def fgR (c : Int) (b : List Int) : Nat × Int :=
  if c = 5 then rU b (fc8 b) else if c = 8 then rN b 4 (rN b 8 (ig1 b)) else if c = 9 then fdR b (rN b 8 (ig1 b)) else if c = 10 then (lk0 b).2 else ig1 b
def fgV (c : Int) (b : List Int) : Ask :=
  if c = 5 then { askZ with access := rV b 4 (0, 0), sharing := rV b 4 (fc1 b), way := rV b 4 (fc2 b), options := rV b 4 (fc3 b), level := rV b 1 (fc4 b), durable := rV b 1 (fc5 b), file := rV b 8 (fc7 b), name := rS b (fc8 b) }
  else if c = 8 then { askZ with file := rV b 8 (0, 0), at_ := rV b 8 (ig1 b), n := rV b 4 (rN b 8 (ig1 b)) }
  else if c = 9 then { askZ with file := rV b 8 (0, 0), at_ := rV b 8 (ig1 b), data := fdV b (rN b 8 (ig1 b)) }
  else if c = 10 then { askZ with file := rV b 8 (0, 0), locks := (lk0 b).1 } else { askZ with file := rV b 8 (0, 0) }
def fgE (c : Int) (b : List Int) : Int := if fkB c = true then rEnd b (fgR c b) else 2
def fgA (c : Int) (b : List Int) : Ask := if fgE c b ≠ 0 then askZ else fgV c b

theorem lk_bad {b : List Int} {k : Nat} {r : Nat × Int} {l : List LockR} (h : r.2 ≠ 0) : lkF b k r l = (l, r) := by
  cases k with
  | zero => rfl
  | succ k => rw [lkF, if_neg h]

theorem u64p {x : Int} (h : U64 x) : 0 ≤ x ∧ x < 256 ^ 8 := ⟨h.1, by have := h.2; omega⟩
theorem u32p {x : Int} (h : U32 x) : 0 ≤ x ∧ x < 256 ^ 4 := ⟨h.1, by have := h.2; omega⟩
theorem u16p {x : Int} (h : U16 x) : 0 ≤ x ∧ x < 256 ^ 2 := ⟨h.1, by have := h.2; omega⟩
theorem u8p {x : Int} (h : U8 x) : 0 ≤ x ∧ x < 256 ^ 1 := ⟨h.1, by have := h.2; omega⟩

theorem lk_pre (b q : List Int) : ∀ (es : List LockR) (p : List Int) (r : Nat × Int) (acc : List LockR), (∀ x ∈ es, x.op = 0 ∧ U64 x.at_ ∧ U64 x.n ∧ U16 x.mode) → b <+: p ++ (lkL es ++ q) → StR b p r →
    StR b (p ++ lkL es) (lkF b es.length r acc).2 ∧ ((p ++ lkL es).length ≤ b.length → (lkF b es.length r acc).1 = acc ++ es)
  | [], p, r, acc, _, _, h => by
    have : p ++ lkL [] = p := by simp [lkL]
    rw [this]
    exact ⟨h, fun _ => by simp [lkF]⟩
  | x :: es, p, r, acc, hm, hb, h => by
    have e0 : lkL (x :: es) = (digs 8 x.at_ ++ (digs 8 x.n ++ (digs 2 x.mode ++ digs 2 0))) ++ lkL es := by simp [lkL, List.flatMap_cons]
    obtain ⟨k0, k1, k2, k3⟩ := hm x (by simp)
    rcases h with ⟨h1, h2⟩ | ⟨rfl, h2⟩
    · rw [lk_bad (by rw [h1]; decide)]
      refine ⟨.inl ⟨h1, by rw [List.length_append]; omega⟩, fun g => by rw [List.length_append] at g; omega⟩
    · rw [e0] at hb ⊢
      simp only [List.append_assoc] at hb
      obtain ⟨s1, v1⟩ := stepN hb (by decide) (u64p k1) (.inr ⟨rfl, h2⟩)
      obtain ⟨s2, v2⟩ := stepN (by rw [List.append_assoc]; exact hb) (by decide) (u64p k2) s1
      obtain ⟨s3, v3⟩ := stepN (by simp only [List.append_assoc]; exact hb) (by decide) (u16p k3) s2
      obtain ⟨s4, v4⟩ := stepM (m := 0) (e := 5) (by simp only [List.append_assoc]; exact hb) (by decide) (by decide) (by decide) s3
      obtain ⟨s5, v5⟩ := lk_pre b q es _ _ (acc ++ [lkX b (p.length, 0)]) (fun y hy => hm y (by simp [hy])) (by simp only [List.append_assoc]; exact hb) s4
      rw [List.length_cons, lkF, if_pos rfl]
      have ea : ((((p ++ digs 8 x.at_) ++ digs 8 x.n) ++ digs 2 x.mode) ++ digs 2 0) ++ lkL es = p ++ ((digs 8 x.at_ ++ (digs 8 x.n ++ (digs 2 x.mode ++ digs 2 0))) ++ lkL es) := by simp only [List.append_assoc]
      rw [ea] at s5 v5
      refine ⟨s5, fun hl => ?_⟩
      have e6 := v5 hl
      rw [← ea] at hl
      simp only [List.length_append] at hl v1 v2 v3 v4
      have ex : lkX b (p.length, 0) = x := by
        unfold lkX
        rw [v1 (by omega), v2 (by omega), v3 (by omega), ← k0]
      rw [ex] at e6 ⊢
      unfold lkR
      rw [e6]
      simp

theorem fa_parts {c : Int} {a : Ask} (h : faE c a = 0) : fkB c = true ∧ faW c a = a ∧ (∀ x ∈ a.locks, x.op = 0) ∧ a.data.length ≤ 32768 ∧ a.locks.length ≤ 16 ∧ (c = 5 → ptE a.name = 0) := by
  unfold faE at h
  by_cases g : faBad c a
  · rw [if_pos g] at h; cases h
  rw [if_neg g] at h
  unfold faBad at g
  simp only [not_or, Decidable.not_not, Bool.not_eq_false, not_exists, not_and, ne_eq] at g
  obtain ⟨g1, g2, g3⟩ := g
  by_cases g6 : 32768 < a.data.length ∨ 16 < a.locks.length
  · rw [if_pos g6] at h; cases h
  rw [if_neg g6] at h
  refine ⟨g1, g2, g3, by omega, by omega, fun hc => ?_⟩
  rw [if_pos hc] at h
  exact h

theorem fa_pre (c : Int) (a : Ask) (ha : a.ok) (h : faE c a = 0) (b q : List Int) (hb : b <+: faL c a ++ q) :
    StR b (faL c a) (fgR c b) ∧ ((faL c a).length ≤ b.length → fgV c b = a) := by
  obtain ⟨hk, hw, hop, hdl, hll, hnm⟩ := fa_parts h
  have hn0 : ¬ faE c a ≠ 0 := fun g => g h
  have file : ∀ x : List Int, b <+: digs 8 a.file ++ x → StR b (digs 8 a.file) (ig1 b) ∧ ((digs 8 a.file).length ≤ b.length → rV b 8 (0, 0) = a.file) := by
    intro x hx
    have := stepN (p := []) (by simpa using hx) (by decide) (u64p ha.file) (StR.nil b)
    simpa [ig1] using this
  by_cases c5 : c = 5
  · subst c5
    have hp := hnm rfl
    have hL : faL 5 a = digs 4 a.access ++ (digs 4 a.sharing ++ (digs 4 a.way ++ (digs 4 a.options ++ (digs 1 a.level ++ (digs 1 a.durable ++ (digs 2 0 ++ (digs 8 a.file ++ ptL a.name))))))) := by unfold faL; rw [if_neg hn0, if_pos rfl]
    rw [hL] at hb ⊢
    simp only [List.append_assoc] at hb
    obtain ⟨s1, v1⟩ := stepN (p := []) (by simpa using hb) (by decide) (u32p ha.access) (StR.nil b)
    rw [List.nil_append] at s1 v1
    obtain ⟨s2, v2⟩ := stepN hb (by decide) (u32p ha.sharing) s1
    obtain ⟨s3, v3⟩ := stepN (by simp only [List.append_assoc]; exact hb) (by decide) (u32p ha.way) s2
    obtain ⟨s4, v4⟩ := stepN (by simp only [List.append_assoc]; exact hb) (by decide) (u32p ha.options) s3
    obtain ⟨s5, v5⟩ := stepN (by simp only [List.append_assoc]; exact hb) (by decide) (u8p ha.level) s4
    obtain ⟨s6, v6⟩ := stepN (by simp only [List.append_assoc]; exact hb) (by decide) (u8p ha.durable) s5
    obtain ⟨s7, v7⟩ := stepM (m := 0) (e := 5) (by simp only [List.append_assoc]; exact hb) (by decide) (by decide) (by decide) s6
    obtain ⟨s8, v8⟩ := stepN (by simp only [List.append_assoc]; exact hb) (by decide) (u64p ha.file) s7
    obtain ⟨s9, v9⟩ := stepU hp (by simp only [List.append_assoc]; exact hb) s8
    simp only [List.append_assoc] at s9 v9
    refine ⟨by unfold fgR fc8 fc7 fc6 fc5 fc4 fc3 fc2 fc1; rw [if_pos rfl]; exact s9, fun hl => ?_⟩
    simp only [List.length_append] at hl v1 v2 v3 v4 v5 v6 v8 v9
    unfold fgV
    rw [if_pos rfl]
    unfold fc8 fc7 fc6 fc5 fc4 fc3 fc2 fc1
    rw [v1 (by omega), v2 (by omega), v3 (by omega), v4 (by omega), v5 (by omega), v6 (by omega), v8 (by omega), v9 (by omega)]
    unfold faW at hw; rw [if_pos rfl] at hw
    exact hw
  by_cases c8 : c = 8
  · subst c8
    have hL : faL 8 a = digs 8 a.file ++ (digs 8 a.at_ ++ digs 4 a.n) := by unfold faL; rw [if_neg hn0, if_neg c5, if_pos rfl]
    rw [hL] at hb ⊢
    simp only [List.append_assoc] at hb
    obtain ⟨s1, v1⟩ := file _ hb
    obtain ⟨s2, v2⟩ := stepN hb (by decide) (u64p ha.at_) s1
    obtain ⟨s3, v3⟩ := stepN (by simp only [List.append_assoc]; exact hb) (by decide) (u32p ha.n) s2
    simp only [List.append_assoc] at s3 v3
    refine ⟨by unfold fgR; rw [if_neg c5, if_pos rfl]; exact s3, fun hl => ?_⟩
    simp only [List.length_append] at hl v1 v2 v3
    unfold fgV
    rw [if_neg c5, if_pos rfl, v1 (by omega), v2 (by omega), v3 (by omega)]
    unfold faW at hw; rw [if_neg c5, if_pos rfl] at hw
    exact hw
  by_cases c9 : c = 9
  · subst c9
    have hL : faL 9 a = digs 8 a.file ++ (digs 8 a.at_ ++ (digs 4 a.data.length ++ a.data)) := by unfold faL; rw [if_neg hn0, if_neg c5, if_neg c8, if_pos rfl]
    rw [hL] at hb ⊢
    simp only [List.append_assoc] at hb
    obtain ⟨s1, v1⟩ := file _ hb
    obtain ⟨s2, v2⟩ := stepN hb (by decide) (u64p ha.at_) s1
    obtain ⟨s3, v3⟩ := stepD (by simp only [List.append_assoc]; exact hb) hdl s2
    simp only [List.append_assoc] at s3 v3
    refine ⟨by unfold fgR; rw [if_neg c5, if_neg c8, if_pos rfl]; exact s3, fun hl => ?_⟩
    simp only [List.length_append] at hl v1 v2 v3
    unfold fgV
    rw [if_neg c5, if_neg c8, if_pos rfl, v1 (by omega), v2 (by omega), v3 (by omega)]
    unfold faW at hw; rw [if_neg c5, if_neg c8, if_pos rfl] at hw
    exact hw
  by_cases c10 : c = 10
  · subst c10
    have hL : faL 10 a = digs 8 a.file ++ (digs 2 a.locks.length ++ (digs 2 0 ++ lkL a.locks)) := by unfold faL; rw [if_neg hn0, if_neg c5, if_neg c8, if_neg c9, if_pos rfl]
    rw [hL] at hb ⊢
    simp only [List.append_assoc] at hb
    obtain ⟨s1, v1⟩ := file _ hb
    obtain ⟨s2, v2⟩ := stepM (m := 16) (e := 3) hb (by decide) ⟨by omega, by omega⟩ (by omega) s1
    obtain ⟨s3, v3⟩ := stepM (m := 0) (e := 5) (by simp only [List.append_assoc]; exact hb) (by decide) (by decide) (by decide) s2
    obtain ⟨s4, v4⟩ := lk_pre b q a.locks _ _ [] (fun x hx => ⟨hop x hx, (ha.locks x hx).2.2.1, (ha.locks x hx).2.2.2.1, (ha.locks x hx).2.2.2.2⟩) (by simp only [List.append_assoc]; exact hb) s3
    by_cases hl2 : (digs 8 a.file ++ digs 2 (a.locks.length : Int)).length ≤ b.length
    · have e2 := v2 hl2
      have e0 : lk0 b = lkF b a.locks.length (rM b 2 0 5 (rM b 2 16 3 (ig1 b))) [] := by unfold lk0; rw [e2, Int.toNat_natCast]
      simp only [List.append_assoc] at s4 v4
      refine ⟨by unfold fgR; rw [if_neg c5, if_neg c8, if_neg c9, if_pos rfl, e0]; exact s4, fun hl => ?_⟩
      have e4 := v4 hl
      simp only [List.length_append] at hl v1
      unfold fgV
      rw [if_neg c5, if_neg c8, if_neg c9, if_pos rfl, v1 (by omega), e0, e4, List.nil_append]
      unfold faW at hw; rw [if_neg c5, if_neg c8, if_neg c9, if_pos rfl] at hw
      exact hw
    · have hbad : (rM b 2 16 3 (ig1 b)).2 = 4 := by
        rcases s2 with ⟨g, _⟩ | ⟨_, g⟩
        · exact g
        · exact absurd g hl2
      have hne : (rM b 2 16 3 (ig1 b)).2 ≠ 0 := by rw [hbad]; decide
      refine ⟨.inl ⟨?_, by rw [← List.append_assoc, List.length_append]; omega⟩, fun hl => by rw [← List.append_assoc, List.length_append] at hl; omega⟩
      unfold fgR lk0
      rw [if_neg c5, if_neg c8, if_neg c9, if_pos rfl, rM_err hne, lk_bad hne]
      exact hbad
  · have hL : faL c a = digs 8 a.file := by unfold faL; rw [if_neg hn0, if_neg c5, if_neg c8, if_neg c9, if_neg c10]
    rw [hL] at hb ⊢
    obtain ⟨s1, v1⟩ := file _ hb
    refine ⟨by unfold fgR; rw [if_neg c5, if_neg c8, if_neg c9, if_neg c10]; exact s1, fun hl => ?_⟩
    unfold fgV
    rw [if_neg c5, if_neg c8, if_neg c9, if_neg c10, v1 hl]
    unfold faW at hw; rw [if_neg c5, if_neg c8, if_neg c9, if_neg c10] at hw
    exact hw

theorem file_back (c : Int) (a : Ask) (ha : a.ok) (h : faE c a = 0) : fgE c (faL c a) = 0 ∧ fgA c (faL c a) = a := by
  obtain ⟨s, v⟩ := fa_pre c a ha h (faL c a) [] (by rw [List.append_nil]; exact List.prefix_refl _)
  have e : fgE c (faL c a) = 0 := by
    unfold fgE
    rw [if_pos (fa_parts h).1]
    rcases s with ⟨_, g⟩ | ⟨g, _⟩
    · omega
    · rw [g, rEnd_ok]
  refine ⟨e, ?_⟩
  unfold fgA
  rw [if_neg (fun g => g e), v (Nat.le_refl _)]

theorem file_more (c : Int) (a : Ask) (ha : a.ok) (h : faE c a = 0) (q : List Int) (hq : q ≠ []) : fgE c (faL c a ++ q) = 5 := by
  obtain ⟨s, v⟩ := fa_pre c a ha h (faL c a ++ q) q (List.prefix_refl _)
  have h0 : 0 < q.length := by
    cases q with
    | nil => exact absurd rfl hq
    | cons x q => simp
  unfold fgE
  rw [if_pos (fa_parts h).1]
  rcases s with ⟨_, g⟩ | ⟨g, _⟩
  · rw [List.length_append] at g; omega
  · rw [g, rEnd_long (by rw [List.length_append]; omega)]

theorem file_cut (c : Int) (a : Ask) (ha : a.ok) (h : faE c a = 0) (k : Nat) (hk : k < (faL c a).length) : fgE c ((faL c a).take k) = 4 := by
  obtain ⟨s, v⟩ := fa_pre c a ha h ((faL c a).take k) [] (by rw [List.append_nil]; exact List.take_prefix _ _)
  unfold fgE
  rw [if_pos (fa_parts h).1]
  rcases s with ⟨g, _⟩ | ⟨_, g⟩
  · rw [rEnd_err (by rw [g]; decide), g]
  · rw [List.length_take] at g; omega

end Go.Proofs.YtakgefinmlomdaaDoor.Abs

/- PLAIN LAWS: what file's GetAsk has read is laid again. -/
set_option linter.unusedVariables false
set_option linter.unusedSimpArgs false
set_option maxRecDepth 100000
namespace Go.Proofs.YtakgefinmlomdaaDoor.Abs
open Go Go.Proofs

theorem lk_got (b : List Int) (hB : Bytes b) : ∀ (k a x : Nat) (acc l : List LockR), lkF b k (a, 0) acc = (l, (x, 0)) → a ≤ b.length →
    ∃ es, l = acc ++ es ∧ es.length = k ∧ a ≤ x ∧ x ≤ b.length ∧ lkL es = (b.drop a).take (x - a) ∧ ∀ e ∈ es, e.op = 0 ∧ U64 e.at_ ∧ U64 e.n ∧ U16 e.mode
  | 0, a, x, acc, l, h, ha => by
    simp only [lkF, Prod.mk.injEq, and_true] at h
    obtain ⟨rfl, rfl⟩ := h
    exact ⟨[], by simp, rfl, Nat.le_refl _, ha, by simp [lkL], by simp⟩
  | k + 1, a, x, acc, l, h, ha => by
    rw [lkF, if_pos rfl] at h
    by_cases g : (lkR b (a, 0)).2 = 0
    · rcases h0 : lkR b (a, 0) with ⟨a5, e5⟩
      rw [h0] at g h
      simp only at g
      subst g
      unfold lkR at h0
      unfold lkX at h
      rcases h1 : rN b 8 (a, 0) with ⟨a1, e1⟩
      rw [h1] at h0 h
      rcases h2 : rN b 8 (a1, e1) with ⟨a2, e2⟩
      rw [h2] at h0 h
      rcases h3 : rN b 2 (a2, e2) with ⟨a3, e3⟩
      rw [h3] at h0
      obtain ⟨rfl, x4, m4, d4, z4, _, y4⟩ := rM_got2 hB (by decide) (by decide) h0
      obtain ⟨rfl, x3, m3, d3, z3⟩ := rN_got hB (by decide) h3
      obtain ⟨rfl, x2, m2, d2, z2⟩ := rN_got hB (by decide) h2
      obtain ⟨_, x1, m1, d1, z1⟩ := rN_got hB (by decide) h1
      obtain ⟨es, q1, q2, q3, q4, q5, q7⟩ := lk_got b hB k a5 x _ l h (by omega)
      refine ⟨⟨0, rV b 8 (a, 0), rV b 8 (a1, 0), rV b 2 (a2, 0)⟩ :: es, by rw [q1]; simp, by simp [q2], by omega, q4, ?_, ?_⟩
      · have e0 : lkL (⟨0, rV b 8 (a, 0), rV b 8 (a1, 0), rV b 2 (a2, 0)⟩ :: es) = (digs 8 (rV b 8 (a, 0)) ++ (digs 8 (rV b 8 (a1, 0)) ++ (digs 2 (rV b 2 (a2, 0)) ++ digs 2 0))) ++ lkL es := by simp [lkL, List.flatMap_cons]
        have w4 : digs 2 0 = (b.drop a3).take 2 := by rw [← d4]; congr 1; omega
        rw [e0, d1, d2, d3, w4, q5]
        have t3 := take_two (b := b) (a := a3) (m := 2) (n := x - a3) (by omega)
        rw [← x4, show x - a3 - 2 = x - a5 by omega] at t3
        have t2 := take_two (b := b) (a := a2) (m := 2) (n := x - a2) (by omega)
        rw [← x3, show x - a2 - 2 = x - a3 by omega] at t2
        have t1 := take_two (b := b) (a := a1) (m := 8) (n := x - a1) (by omega)
        rw [← x2, show x - a1 - 8 = x - a2 by omega] at t1
        have t0 := take_two (b := b) (a := a) (m := 8) (n := x - a) (by omega)
        rw [← x1, show x - a - 8 = x - a1 by omega] at t0
        simp only [List.append_assoc]
        rw [t3, t2, t1, t0]
      · intro e he
        rcases List.mem_cons.1 he with rfl | he
        · exact ⟨rfl, ⟨z1.1, by have := z1.2; simp only; omega⟩, ⟨z2.1, by have := z2.2; simp only; omega⟩, ⟨z3.1, by have := z3.2; simp only; omega⟩⟩
        · exact q7 e he
    · rw [lk_bad g] at h
      simp only [Prod.mk.injEq] at h
      rw [h.2] at g
      exact absurd rfl g

theorem fa_zero {c : Int} {a : Ask} (h1 : fkB c = true) (h2 : faW c a = a) (h3 : ∀ x ∈ a.locks, x.op = 0) (h4 : a.data.length ≤ 32768) (h5 : a.locks.length ≤ 16) (h6 : c = 5 → ptE a.name = 0) : faE c a = 0 := by
  have g : ¬ faBad c a := by
    unfold faBad
    rintro (g | g | ⟨x, g1, g2⟩)
    · rw [h1] at g; cases g
    · exact g h2
    · exact g2 (h3 x g1)
  unfold faE
  rw [if_neg g, if_neg (by omega)]
  split
  · rename_i hc; exact h6 hc
  · rfl

theorem file_once (c : Int) (b : List Int) (hB : Bytes b) (h : fgE c b = 0) : faE c (fgA c b) = 0 ∧ faL c (fgA c b) = b := by
  have hE := h
  unfold fgE at h
  cases hk : fkB c with
  | false => rw [if_neg (by simp [hk])] at h; cases h
  | true =>
  rw [if_pos hk] at h
  have hr := rEnd_zero h
  have hA : fgA c b = fgV c b := by unfold fgA; rw [if_neg (fun g => g hE)]
  rw [hA]
  unfold fgR at hr
  unfold fgV
  by_cases c5 : c = 5
  · subst c5
    rw [if_pos rfl] at hr ⊢
    unfold fc8 fc7 fc6 fc5 fc4 fc3 fc2 fc1 at hr
    unfold fc8 fc7 fc6 fc5 fc4 fc3 fc2 fc1
    rcases h1 : rN b 4 (0, 0) with ⟨a1, e1⟩
    rw [h1] at hr
    rcases h2 : rN b 4 (a1, e1) with ⟨a2, e2⟩
    rw [h2] at hr
    rcases h3 : rN b 4 (a2, e2) with ⟨a3, e3⟩
    rw [h3] at hr
    rcases h4 : rN b 4 (a3, e3) with ⟨a4, e4⟩
    rw [h4] at hr
    rcases h5 : rN b 1 (a4, e4) with ⟨a5, e5⟩
    rw [h5] at hr
    rcases h6 : rN b 1 (a5, e5) with ⟨a6, e6⟩
    rw [h6] at hr
    rcases h7 : rM b 2 0 5 (a6, e6) with ⟨a7, e7⟩
    rw [h7] at hr
    rcases h8 : rN b 8 (a7, e7) with ⟨a8, e8⟩
    rw [h8] at hr
    obtain ⟨rfl, p9, l9, m9, d9⟩ := rU_got2 hB hr
    obtain ⟨rfl, x8, m8, d8, z8⟩ := rN_got hB (by decide) h8
    obtain ⟨rfl, x7, m7, d7, z7, _, y7⟩ := rM_got2 hB (by decide) (by decide) h7
    obtain ⟨rfl, x6, m6, d6, z6⟩ := rN_got hB (by decide) h6
    obtain ⟨rfl, x5, m5, d5, z5⟩ := rN_got hB (by decide) h5
    obtain ⟨rfl, x4, m4, d4, z4⟩ := rN_got hB (by decide) h4
    obtain ⟨rfl, x3, m3, d3, z3⟩ := rN_got hB (by decide) h3
    obtain ⟨rfl, x2, m2, d2, z2⟩ := rN_got hB (by decide) h2
    obtain ⟨_, x1, m1, d1, z1⟩ := rN_got hB (by decide) h1
    have e : faE 5 ({ askZ with access := rV b 4 (0, 0), sharing := rV b 4 (a1, 0), way := rV b 4 (a2, 0), options := rV b 4 (a3, 0), level := rV b 1 (a4, 0), durable := rV b 1 (a5, 0), file := rV b 8 (a7, 0), name := rS b (a8, 0) } : Ask) = 0 := fa_zero hk (by simp [faW]) (by simp [askZ]) (by simp [askZ]) (by simp [askZ]) (fun _ => p9)
    refine ⟨e, ?_⟩
    unfold faL
    rw [if_neg (fun g => g e), if_pos rfl]
    show digs 4 (rV b 4 (0, 0)) ++ (digs 4 (rV b 4 (a1, 0)) ++ (digs 4 (rV b 4 (a2, 0)) ++ (digs 4 (rV b 4 (a3, 0)) ++ (digs 1 (rV b 1 (a4, 0)) ++ (digs 1 (rV b 1 (a5, 0)) ++ (digs 2 0 ++ (digs 8 (rV b 8 (a7, 0)) ++ ptL (rS b (a8, 0))))))))) = b
    have w7 : digs 2 0 = (b.drop a6).take 2 := by rw [← d7]; congr 1; omega
    have f9 : (b.drop a8).take (b.length - a8) = b.drop a8 := List.take_of_length_le (by rw [List.length_drop]; omega)
    rw [d1, d2, d3, d4, d5, d6, w7, d8, d9, f9, x8, peel, x7, peel, x6, peel, x5, peel, x4, peel, x3, peel, x2, peel, x1, peel, List.drop_zero]
  rw [if_neg c5] at hr ⊢
  by_cases c8 : c = 8
  · subst c8
    rw [if_pos rfl] at hr ⊢
    unfold ig1 at hr ⊢
    rcases h1 : rN b 8 (0, 0) with ⟨a1, e1⟩
    rw [h1] at hr
    rcases h2 : rN b 8 (a1, e1) with ⟨a2, e2⟩
    rw [h2] at hr
    obtain ⟨rfl, x3, m3, d3, z3⟩ := rN_got hB (by decide) hr
    obtain ⟨rfl, x2, m2, d2, z2⟩ := rN_got hB (by decide) h2
    obtain ⟨_, x1, m1, d1, z1⟩ := rN_got hB (by decide) h1
    have e : faE 8 ({ askZ with file := rV b 8 (0, 0), at_ := rV b 8 (a1, 0), n := rV b 4 (a2, 0) } : Ask) = 0 := fa_zero hk (by simp [faW]) (by simp [askZ]) (by simp [askZ]) (by simp [askZ]) (by simp)
    refine ⟨e, ?_⟩
    unfold faL
    rw [if_neg (fun g => g e), if_neg c5, if_pos rfl]
    show digs 8 (rV b 8 (0, 0)) ++ (digs 8 (rV b 8 (a1, 0)) ++ digs 4 (rV b 4 (a2, 0))) = b
    have f5 : (b.drop a2).take 4 = b.drop a2 := List.take_of_length_le (by rw [List.length_drop]; omega)
    rw [d1, d2, d3, f5, x2, peel, x1, peel, List.drop_zero]
  rw [if_neg c8] at hr ⊢
  by_cases c9 : c = 9
  · subst c9
    rw [if_pos rfl] at hr ⊢
    unfold ig1 at hr ⊢
    rcases h1 : rN b 8 (0, 0) with ⟨a1, e1⟩
    rw [h1] at hr
    rcases h2 : rN b 8 (a1, e1) with ⟨a2, e2⟩
    rw [h2] at hr
    obtain ⟨rfl, m3, x3, l3, n3, d3, q3, _⟩ := fd_got hB hr
    obtain ⟨rfl, x2, m2, d2, z2⟩ := rN_got hB (by decide) h2
    obtain ⟨_, x1, m1, d1, z1⟩ := rN_got hB (by decide) h1
    have e : faE 9 ({ askZ with file := rV b 8 (0, 0), at_ := rV b 8 (a1, 0), data := fdV b (a2, 0) } : Ask) = 0 := fa_zero hk (by simp [faW]) (by simp [askZ]) n3 (by simp [askZ]) (by simp)
    refine ⟨e, ?_⟩
    unfold faL
    rw [if_neg (fun g => g e), if_neg c5, if_neg c8, if_pos rfl]
    show digs 8 (rV b 8 (0, 0)) ++ (digs 8 (rV b 8 (a1, 0)) ++ (digs 4 ((fdV b (a2, 0)).length : Int) ++ fdV b (a2, 0))) = b
    have f5 : fdV b (a2, 0) = b.drop (a2 + 4) := by rw [q3]; exact List.take_of_length_le (by rw [List.length_drop]; omega)
    rw [d1, d2, d3, f5, peel, x2, peel, x1, peel, List.drop_zero]
  rw [if_neg c9] at hr ⊢
  by_cases c10 : c = 10
  · subst c10
    rw [if_pos rfl] at hr ⊢
    rcases hl : lk0 b with ⟨l, x, e0⟩
    rw [hl] at hr
    simp only [Prod.mk.injEq] at hr
    obtain ⟨rfl, rfl⟩ := hr
    unfold lk0 ig1 at hl
    rcases h1 : rN b 8 (0, 0) with ⟨a1, e1⟩
    rw [h1] at hl
    rcases h2 : rM b 2 16 3 (a1, e1) with ⟨a2, e2⟩
    rw [h2] at hl
    rcases h3 : rM b 2 0 5 (a2, e2) with ⟨a3, e3⟩
    rw [h3] at hl
    have g : e3 = 0 := by
      by_cases g : e3 = 0
      · exact g
      · rw [lk_bad g] at hl
        simp only [Prod.mk.injEq] at hl
        exact absurd hl.2.2 g
    subst g
    obtain ⟨rfl, x3, m3, d3, z3, _, y3⟩ := rM_got2 hB (by decide) (by decide) h3
    obtain ⟨rfl, x2, m2, d2, z2, _, y2⟩ := rM_got2 hB (by decide) (by decide) h2
    obtain ⟨_, x1, m1, d1, z1⟩ := rN_got hB (by decide) h1
    obtain ⟨es, q1, q2, q3, q4, q5, q7⟩ := lk_got b hB _ a3 b.length [] l hl (by omega)
    rw [List.nil_append] at q1
    subst q1
    have e : faE 10 ({ askZ with file := rV b 8 (0, 0), locks := l } : Ask) = 0 := fa_zero hk (by simp [faW]) (fun x hx => (q7 x hx).1) (by simp [askZ]) (by show l.length ≤ 16; omega) (by simp)
    refine ⟨e, ?_⟩
    unfold faL
    rw [if_neg (fun g => g e), if_neg c5, if_neg c8, if_neg c9, if_pos rfl]
    show digs 8 (rV b 8 (0, 0)) ++ (digs 2 (l.length : Int) ++ (digs 2 0 ++ lkL l)) = b
    have w2 : digs 2 (l.length : Int) = (b.drop a1).take 2 := by rw [← d2]; congr 1; omega
    have w3 : digs 2 0 = (b.drop a2).take 2 := by rw [← d3]; congr 1; omega
    have f5 : (b.drop a3).take (b.length - a3) = b.drop a3 := List.take_of_length_le (by rw [List.length_drop]; omega)
    rw [d1, w2, w3, q5, f5, x3, peel, x2, peel, x1, peel, List.drop_zero]
  · rw [if_neg c10] at hr ⊢
    unfold ig1 at hr
    obtain ⟨_, x1, m1, d1, z1⟩ := rN_got hB (by decide) hr
    have e : faE c ({ askZ with file := rV b 8 (0, 0) } : Ask) = 0 := fa_zero hk (by unfold faW; rw [if_neg c5, if_neg c8, if_neg c9, if_neg c10]) (by simp [askZ]) (by simp [askZ]) (by simp [askZ]) (fun g => absurd g c5)
    refine ⟨e, ?_⟩
    unfold faL
    rw [if_neg (fun g => g e), if_neg c5, if_neg c8, if_neg c9, if_neg c10]
    show digs 8 (rV b 8 (0, 0)) = b
    rw [d1, List.drop_zero, List.take_of_length_le (by omega)]

end Go.Proofs.YtakgefinmlomdaaDoor.Abs

/- PLAIN LAWS: the answers of file. -/
set_option linter.unusedVariables false
set_option linter.unusedSimpArgs false
set_option maxRecDepth 100000
namespace Go.Proofs.YtakgefinmlomdaaDoor.Abs
open Go Go.Proofs

def fsW (c : Int) (s : Say) : Say :=
  if c = 5 then { sayZ with level := s.level, durable := s.durable, made := s.made, file := s.file, size := s.size, kind := s.kind }
  else if c = 8 then { sayZ with data := s.data } else if c = 9 then { sayZ with n := s.n } else sayZ
def fsE (c : Int) (s : Say) : Int := if fkB c = false ∨ fsW c s ≠ s ∨ 2 < s.made ∨ 2 < s.kind then 2 else if 32768 < s.data.length then 3 else 0
def fsL (c : Int) (s : Say) : List Int :=
  if fsE c s ≠ 0 then []
  else if c = 5 then digs 1 s.level ++ (digs 1 s.durable ++ (digs 2 s.made ++ (digs 8 s.file ++ (digs 8 s.size ++ (digs 2 s.kind ++ digs 2 0)))))
  else if c = 8 then digs 4 s.data.length ++ s.data else if c = 9 then digs 4 s.n else digs 4 0

def ft1 (b : List Int) : Nat × Int := rN b 1 (0, 0)
def ft2 (b : List Int) : Nat × Int := rN b 1 (ft1 b)
def ft3 (b : List Int) : Nat × Int := rM b 2 2 5 (ft2 b)
def ft4 (b : List Int) : Nat × Int := rN b 8 (ft3 b)
def ft5 (b : List Int) : Nat × Int := rN b 8 (ft4 b)
def ft6 (b : List Int) : Nat × Int := rM b 2 2 5 (ft5 b)
def ftR (c : Int) (b : List Int) : Nat × Int :=
  if c = 5 then rM b 2 0 5 (ft6 b) else if c = 8 then fdR b (0, 0) else if c = 9 then rN b 4 (0, 0) else rM b 4 0 5 (0, 0)
def ftV (c : Int) (b : List Int) : Say :=
  if c = 5 then { sayZ with level := rV b 1 (0, 0), durable := rV b 1 (ft1 b), made := rV b 2 (ft2 b), file := rV b 8 (ft3 b), size := rV b 8 (ft4 b), kind := rV b 2 (ft5 b) }
  else if c = 8 then { sayZ with data := fdV b (0, 0) } else if c = 9 then { sayZ with n := rV b 4 (0, 0) } else sayZ
def ftE (c : Int) (b : List Int) : Int := if fkB c = true then rEnd b (ftR c b) else 2
def ftS (c : Int) (b : List Int) : Say := if ftE c b ≠ 0 then sayZ else ftV c b

theorem fs_parts {c : Int} {s : Say} (h : fsE c s = 0) : fkB c = true ∧ fsW c s = s ∧ s.made ≤ 2 ∧ s.kind ≤ 2 ∧ s.data.length ≤ 32768 := by
  unfold fsE at h
  by_cases g : fkB c = false ∨ fsW c s ≠ s ∨ 2 < s.made ∨ 2 < s.kind
  · rw [if_pos g] at h; cases h
  rw [if_neg g] at h
  simp only [not_or, Decidable.not_not, Bool.not_eq_false, ne_eq] at g
  obtain ⟨g1, g2, g3, g4⟩ := g
  by_cases g6 : 32768 < s.data.length
  · rw [if_pos g6] at h; cases h
  exact ⟨g1, g2, by omega, by omega, by omega⟩

theorem file_say_back (c : Int) (s : Say) (hs : s.ok) (h : fsE c s = 0) : ftE c (fsL c s) = 0 ∧ ftS c (fsL c s) = s := by
  obtain ⟨hk, hw, hmd, hkd, hdl⟩ := fs_parts h
  have hn0 : ¬ fsE c s ≠ 0 := fun g => g h
  have key : StR (fsL c s) (fsL c s) (ftR c (fsL c s)) ∧ ftV c (fsL c s) = s := by
    by_cases c5 : c = 5
    · subst c5
      have hL : fsL 5 s = digs 1 s.level ++ (digs 1 s.durable ++ (digs 2 s.made ++ (digs 8 s.file ++ (digs 8 s.size ++ (digs 2 s.kind ++ digs 2 0))))) := by unfold fsL; rw [if_neg hn0, if_pos rfl]
      generalize hb : fsL 5 s = b at hL ⊢
      have hp : b <+: digs 1 s.level ++ (digs 1 s.durable ++ (digs 2 s.made ++ (digs 8 s.file ++ (digs 8 s.size ++ (digs 2 s.kind ++ (digs 2 0 ++ [])))))) := by rw [List.append_nil, hL]; exact List.prefix_refl _
      obtain ⟨s1, v1⟩ := stepN (p := []) (by simpa using hp) (by decide) (u8p hs.level) (StR.nil b)
      rw [List.nil_append] at s1 v1
      obtain ⟨s2, v2⟩ := stepN hp (by decide) (u8p hs.durable) s1
      obtain ⟨s3, v3⟩ := stepM (m := 2) (e := 5) (by simp only [List.append_assoc]; exact hp) (by decide) (u16p hs.made) hmd s2
      obtain ⟨s4, v4⟩ := stepN (by simp only [List.append_assoc]; exact hp) (by decide) (u64p hs.file) s3
      obtain ⟨s5, v5⟩ := stepN (by simp only [List.append_assoc]; exact hp) (by decide) (u64p hs.size) s4
      obtain ⟨s6, v6⟩ := stepM (m := 2) (e := 5) (v := s.kind) (k := 2) (by simp only [List.append_assoc]; exact hp) (by decide) ⟨hs.kind.1, by have := hs.kind.2; omega⟩ hkd s5
      obtain ⟨s7, v7⟩ := stepM (m := 0) (e := 5) (by simp only [List.append_assoc]; exact hp) (by decide) (by decide) (by decide) s6
      have ea : (((((digs 1 s.level ++ digs 1 s.durable) ++ digs 2 s.made) ++ digs 8 s.file) ++ digs 8 s.size) ++ digs 2 s.kind) ++ digs 2 0 = b := by rw [hL]; simp only [List.append_assoc]
      rw [ea] at s7
      have hl := congrArg List.length ea
      simp only [List.length_append] at hl v1 v2 v3 v4 v5 v6
      refine ⟨?_, ?_⟩
      · unfold ftR ft6 ft5 ft4 ft3 ft2 ft1; rw [if_pos rfl]; exact s7
      · unfold ftV
        rw [if_pos rfl]
        unfold ft5 ft4 ft3 ft2 ft1
        rw [v1 (by omega), v2 (by omega), v3 (by omega), v4 (by omega), v5 (by omega), v6 (by omega)]
        unfold fsW at hw; rw [if_pos rfl] at hw
        exact hw
    by_cases c8 : c = 8
    · subst c8
      have hL : fsL 8 s = digs 4 s.data.length ++ s.data := by unfold fsL; rw [if_neg hn0, if_neg c5, if_pos rfl]
      generalize hb : fsL 8 s = b at hL ⊢
      obtain ⟨s1, v1⟩ := stepD (b := b) (p := []) (q := []) (by rw [hL]; simp) hdl (StR.nil b)
      rw [List.nil_append, ← hL] at s1 v1
      refine ⟨?_, ?_⟩
      · unfold ftR; rw [if_neg c5, if_pos rfl]; exact s1
      · unfold ftV
        rw [if_neg c5, if_pos rfl, v1 (Nat.le_refl _)]
        unfold fsW at hw; rw [if_neg c5, if_pos rfl] at hw
        exact hw
    by_cases c9 : c = 9
    · subst c9
      have hL : fsL 9 s = digs 4 s.n := by unfold fsL; rw [if_neg hn0, if_neg c5, if_neg c8, if_pos rfl]
      generalize hb : fsL 9 s = b at hL ⊢
      obtain ⟨s1, v1⟩ := stepN (b := b) (p := []) (q := []) (k := 4) (v := s.n) (by rw [hL]; simp) (by decide) (u32p hs.n) (StR.nil b)
      rw [List.nil_append, ← hL] at s1 v1
      refine ⟨?_, ?_⟩
      · unfold ftR; rw [if_neg c5, if_neg c8, if_pos rfl]; exact s1
      · unfold ftV
        rw [if_neg c5, if_neg c8, if_pos rfl, v1 (Nat.le_refl _)]
        unfold fsW at hw; rw [if_neg c5, if_neg c8, if_pos rfl] at hw
        exact hw
    · have hL : fsL c s = digs 4 0 := by unfold fsL; rw [if_neg hn0, if_neg c5, if_neg c8, if_neg c9]
      rw [hL]
      obtain ⟨s1, v1⟩ := stepM (b := digs 4 0) (p := []) (q := []) (k := 4) (v := 0) (m := 0) (e := 5) (by simp) (by decide) (by decide) (by decide) (StR.nil _)
      refine ⟨?_, ?_⟩
      · unfold ftR; rw [if_neg c5, if_neg c8, if_neg c9]; simpa using s1
      · unfold ftV
        rw [if_neg c5, if_neg c8, if_neg c9]
        unfold fsW at hw; rw [if_neg c5, if_neg c8, if_neg c9] at hw
        exact hw
  obtain ⟨k1, k2⟩ := key
  have e : ftE c (fsL c s) = 0 := by
    unfold ftE
    rw [if_pos hk]
    rcases k1 with ⟨_, g⟩ | ⟨g, _⟩
    · omega
    · rw [g, rEnd_ok]
  refine ⟨e, ?_⟩
  unfold ftS
  rw [if_neg (fun g => g e), k2]

theorem fs_zero {c : Int} {s : Say} (h1 : fkB c = true) (h2 : fsW c s = s) (h3 : s.made ≤ 2) (h4 : s.kind ≤ 2) (h5 : s.data.length ≤ 32768) : fsE c s = 0 := by
  unfold fsE
  rw [if_neg (by rw [h1]; simp only [Bool.true_eq_false, false_or, not_or]; exact ⟨fun g => g h2, by omega, by omega⟩), if_neg (by omega)]

theorem file_say_once (c : Int) (b : List Int) (hB : Bytes b) (h : ftE c b = 0) : fsE c (ftS c b) = 0 ∧ fsL c (ftS c b) = b := by
  have hE := h
  unfold ftE at h
  cases hk : fkB c with
  | false => rw [if_neg (by simp [hk])] at h; cases h
  | true =>
  rw [if_pos hk] at h
  have hr := rEnd_zero h
  have hS : ftS c b = ftV c b := by unfold ftS; rw [if_neg (fun g => g hE)]
  rw [hS]
  unfold ftR at hr
  unfold ftV
  by_cases c5 : c = 5
  · subst c5
    rw [if_pos rfl] at hr ⊢
    unfold ft6 ft5 ft4 ft3 ft2 ft1 at hr
    unfold ft5 ft4 ft3 ft2 ft1
    rcases h1 : rN b 1 (0, 0) with ⟨a1, e1⟩
    rw [h1] at hr
    rcases h2 : rN b 1 (a1, e1) with ⟨a2, e2⟩
    rw [h2] at hr
    rcases h3 : rM b 2 2 5 (a2, e2) with ⟨a3, e3⟩
    rw [h3] at hr
    rcases h4 : rN b 8 (a3, e3) with ⟨a4, e4⟩
    rw [h4] at hr
    rcases h5 : rN b 8 (a4, e4) with ⟨a5, e5⟩
    rw [h5] at hr
    rcases h6 : rM b 2 2 5 (a5, e5) with ⟨a6, e6⟩
    rw [h6] at hr
    obtain ⟨rfl, x7, m7, d7, z7, _, y7⟩ := rM_got2 hB (by decide) (by decide) hr
    obtain ⟨rfl, x6, m6, d6, z6, _, y6⟩ := rM_got2 hB (by decide) (by decide) h6
    obtain ⟨rfl, x5, m5, d5, z5⟩ := rN_got hB (by decide) h5
    obtain ⟨rfl, x4, m4, d4, z4⟩ := rN_got hB (by decide) h4
    obtain ⟨rfl, x3, m3, d3, z3, _, y3⟩ := rM_got2 hB (by decide) (by decide) h3
    obtain ⟨rfl, x2, m2, d2, z2⟩ := rN_got hB (by decide) h2
    obtain ⟨_, x1, m1, d1, z1⟩ := rN_got hB (by decide) h1
    have e : fsE 5 ({ sayZ with level := rV b 1 (0, 0), durable := rV b 1 (a1, 0), made := rV b 2 (a2, 0), file := rV b 8 (a3, 0), size := rV b 8 (a4, 0), kind := rV b 2 (a5, 0) } : Say) = 0 := fs_zero hk (by simp [fsW]) y3 y6 (by simp [sayZ])
    refine ⟨e, ?_⟩
    unfold fsL
    rw [if_neg (fun g => g e), if_pos rfl]
    show digs 1 (rV b 1 (0, 0)) ++ (digs 1 (rV b 1 (a1, 0)) ++ (digs 2 (rV b 2 (a2, 0)) ++ (digs 8 (rV b 8 (a3, 0)) ++ (digs 8 (rV b 8 (a4, 0)) ++ (digs 2 (rV b 2 (a5, 0)) ++ digs 2 0))))) = b
    have w7 : digs 2 0 = (b.drop a6).take 2 := by rw [← d7]; congr 1; omega
    have f9 : (b.drop a6).take 2 = b.drop a6 := List.take_of_length_le (by rw [List.length_drop]; omega)
    rw [d1, d2, d3, d4, d5, d6, w7, f9, x6, peel, x5, peel, x4, peel, x3, peel, x2, peel, x1, peel, List.drop_zero]
  rw [if_neg c5] at hr ⊢
  by_cases c8 : c = 8
  · subst c8
    rw [if_pos rfl] at hr ⊢
    obtain ⟨_, m3, x3, l3, n3, d3, q3, _⟩ := fd_got hB hr
    have e : fsE 8 ({ sayZ with data := fdV b (0, 0) } : Say) = 0 := fs_zero hk (by simp [fsW]) (by simp [sayZ]) (by simp [sayZ]) n3
    refine ⟨e, ?_⟩
    unfold fsL
    rw [if_neg (fun g => g e), if_neg c5, if_pos rfl]
    show digs 4 ((fdV b (0, 0)).length : Int) ++ fdV b (0, 0) = b
    have f5 : fdV b (0, 0) = b.drop (0 + 4) := by rw [q3]; exact List.take_of_length_le (by rw [List.length_drop]; omega)
    rw [d3, f5, peel, List.drop_zero]
  rw [if_neg c8] at hr ⊢
  by_cases c9 : c = 9
  · subst c9
    rw [if_pos rfl] at hr ⊢
    obtain ⟨_, x1, m1, d1, z1⟩ := rN_got hB (by decide) hr
    have e : fsE 9 ({ sayZ with n := rV b 4 (0, 0) } : Say) = 0 := fs_zero hk (by simp [fsW]) (by simp [sayZ]) (by simp [sayZ]) (by simp [sayZ])
    refine ⟨e, ?_⟩
    unfold fsL
    rw [if_neg (fun g => g e), if_neg c5, if_neg c8, if_pos rfl]
    show digs 4 (rV b 4 (0, 0)) = b
    rw [d1, List.drop_zero, List.take_of_length_le (by omega)]
  · rw [if_neg c9] at hr ⊢
    obtain ⟨_, g2, g3, g4, g5, _, g7⟩ := rM_got2 hB (by decide) (by decide) hr
    have e : fsE c sayZ = 0 := fs_zero hk (by unfold fsW; rw [if_neg c5, if_neg c8, if_neg c9]) (by simp [sayZ]) (by simp [sayZ]) (by simp [sayZ])
    refine ⟨e, ?_⟩
    unfold fsL
    rw [if_neg (fun g => g e), if_neg c5, if_neg c8, if_neg c9, show (0 : Int) = rV b 4 (0, 0) by omega, g4, List.drop_zero, List.take_of_length_le (by omega)]

end Go.Proofs.YtakgefinmlomdaaDoor.Abs
