/- info: what PutSay answers, in plain words. -/
import Derived.Test.YtgipkhjpedpedaaDoorIX
set_option linter.unusedVariables false
set_option linter.unusedSimpArgs false
set_option maxRecDepth 100000
namespace Go.Proofs.YtgipkhjpedpedaaDoor.Abs
open Go Go.Proofs

theorem ite_both {c : Prop} [Decidable c] {p q : Prop} (h1 : c → p) (h2 : ¬ c → q) : if c then p else q := by
  split
  · exact h1 ‹_›
  · exact h2 ‹_›

/-- Two texts' rows, the first error. -/
def txE (e : Int) (s : ByteArray) : Int := if e = 0 then ptE s else e

def mayB : List EntR → Bool
  | [] => true
  | x :: r => (decide (x.kind ≤ 2) && decide (0 ≤ x.size) && decide (x.size ≤ 1048576)) && mayB r

theorem mayB_iff (l : List EntR) : mayB l = true ↔ ∀ x ∈ l, mayX x := by
  induction l with
  | nil => simp [mayB]
  | cons x l ih =>
    unfold mayB
    rw [Bool.and_eq_true, ih]
    simp only [Bool.and_eq_true, decide_eq_true_eq, List.mem_cons, forall_eq_or_imp]
    unfold mayX
    simp only [and_assoc]

open Classical in
theorem isE_eq (c : Int) (s : Say) : isE c s = if (!ikB c || c == 12 || !decide (isW c s = s) || !(mayB s.entries && decide (s.kind ≤ 2))) = true then 2 else if 64 < s.entries.length then 3 else if c = 14 then namesE s.entries else 0 := by
  unfold isE
  have h : isBad c s ↔ (!ikB c || c == 12 || !decide (isW c s = s) || !(mayB s.entries && decide (s.kind ≤ 2))) = true := by
    unfold isBad
    have hm := mayB_iff s.entries
    simp only [Bool.or_eq_true, Bool.not_eq_true', beq_iff_eq, decide_eq_false_iff_not, Bool.and_eq_false_iff, ne_eq]
    constructor
    · rintro (h | h | h | h | ⟨x, h1, h2⟩)
      · exact .inl (.inl (.inl h))
      · exact .inl (.inl (.inr h))
      · exact .inl (.inr h)
      · exact .inr (.inr h)
      · refine .inr (.inl ?_)
        cases e : mayB s.entries with
        | false => rfl
        | true => exact absurd ((hm.1 e) x h1) h2
    · rintro (((h | h) | h) | (h | h))
      · exact .inl h
      · exact .inr (.inl h)
      · exact .inr (.inr (.inl h))
      · refine .inr (.inr (.inr (.inr ?_)))
        apply Classical.byContradiction
        intro g
        have : mayB s.entries = true := hm.2 (fun x hx => by
          apply Classical.byContradiction
          intro k
          exact g ⟨x, hx, k⟩)
        rw [h] at this; cases this
      · exact .inr (.inr (.inr (.inl h)))
  by_cases g : isBad c s
  · rw [if_pos g, if_pos (h.1 g)]
  · rw [if_neg g, if_neg (fun k => g (h.2 k))]

theorem namesE_snoc (l : List EntR) (x : EntR) : namesE (l ++ [x]) = txE (namesE l) x.name := by
  induction l with
  | nil =>
    simp only [List.nil_append, namesE, txE]
    by_cases h : ptE x.name = 0 <;> simp [h]
  | cons y l ih =>
    rw [List.cons_append]
    unfold namesE
    by_cases h : ptE y.name = 0
    · rw [if_neg (fun g => g h), if_neg (fun g => g h)]; exact ih
    · rw [if_pos h, if_pos h]; unfold txE; rw [if_neg h]

theorem entL_snoc (l : List EntR) (x : EntR) : entL (l ++ [x]) = entL l ++ (digs 2 x.kind ++ (digs 2 0 ++ (digs 8 x.size ++ ptL x.name))) := by
  simp [entL, List.flatMap_append]

theorem entL_len (l : List EntR) : (entL l).length ≤ 526 * l.length := by
  induction l with
  | nil => simp [entL]
  | cons x l ih =>
    have := pt_len x.name
    have e : entL (x :: l) = (digs 2 x.kind ++ (digs 2 0 ++ (digs 8 x.size ++ ptL x.name))) ++ entL l := by simp [entL, List.flatMap_cons]
    rw [e]
    simp only [List.length_append, digs_length, List.length_cons]
    omega

theorem isL_eq (c : Int) (s : Say) : isL c s = if isE c s ≠ 0 then [] else if c = 14 then digs 2 s.entries.length ++ (digs 2 (onV s.more) ++ entL s.entries)
  else if c = 16 then digs 8 s.size ++ (digs 2 s.kind ++ digs 2 (onV s.gone)) else if c = 18 then digs 8 s.file ++ (digs 1 s.level ++ (digs 1 0 ++ digs 2 0)) else digs 4 0 := rfl

end Go.Proofs.YtgipkhjpedpedaaDoor.Abs
