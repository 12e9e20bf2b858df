/- What is asked and told of info: small, right. -/
import Derived.Test.YtgipkhjpedpedaaDoorK3
import Derived.Test.YtgipkhjpedpedaaDoorK6
import Derived.Test.YtgipkhjpedpedaaDoorKF
import Derived.Test.YtgipkhjpedpedaaDoorUZ
set_option linter.unusedVariables false
set_option linter.unusedSimpArgs false
set_option maxRecDepth 100000
namespace Go.Proofs.YtgipkhjpedpedaaDoor.Abs
open Go Go.Proofs

theorem iaL_bad {c : Int} {a : Ask} (h : iaE c a ≠ 0) : iaL c a = [] := by unfold iaL; rw [if_pos h]
theorem isL_bad {c : Int} {s : Say} (h : isE c s ≠ 0) : isL c s = [] := by rw [isL_eq, if_pos h]

theorem iaL_len (c : Int) (a : Ask) (ha : a.ok) : (iaL c a).length ≤ 1100 := by
  have h1 := pt_len a.pattern
  have h2 := pt_len a.after
  have h3 := pt_len a.name
  unfold iaL
  repeat' split
  all_goals simp only [List.length_append, digs_length, List.length_nil]
  all_goals omega

theorem isE_len {c : Int} {s : Say} (h : isE c s = 0) : s.entries.length ≤ 64 := by
  rw [isE_eq] at h
  split at h
  · cases h
  split at h
  · cases h
  · omega

theorem isL_len (c : Int) (s : Say) (hs : s.ok) : (isL c s).length ≤ 40000 := by
  rw [isL_eq]
  split
  · simp
  rename_i h0
  have h1 := isE_len (c := c) (s := s) (by simpa using h0)
  have h2 := entL_len s.entries
  repeat' split
  all_goals simp only [List.length_append, digs_length]
  all_goals omega

theorem bytes_nil : Bytes [] := fun x hx => by simp at hx

theorem iaL_bytes (c : Int) (a : Ask) (ha : a.ok) : Bytes (iaL c a) := by
  unfold iaL
  repeat' split
  all_goals first
    | exact bytes_nil
    | exact digs_bytes _ _
    | exact bytes_app (digs_bytes _ _) (bytes_app (digs_bytes _ _) (bytes_app (digs_bytes _ _) (bytes_app (ptL_bytes _) (ptL_bytes _))))
    | exact bytes_app (digs_bytes _ _) (bytes_app (digs_bytes _ _) (digs_bytes _ _))
    | exact bytes_app (digs_bytes _ _) (bytes_app (digs_bytes _ _) (bytes_app (digs_bytes _ _) (ptL_bytes _)))
    | exact bytes_app (digs_bytes _ _) (bytes_app (digs_bytes _ _) (bytes_app (digs_bytes _ _) bytes_nil))
    | exact bytes_app (digs_bytes _ _) (bytes_app (digs_bytes _ _) (bytes_app (digs_bytes _ _) (digs_bytes _ _)))

theorem entL_bytes (l : List EntR) : Bytes (entL l) := by
  intro x hx
  obtain ⟨e, he, hx⟩ := List.mem_flatMap.1 hx
  exact bytes_app (digs_bytes _ _) (bytes_app (digs_bytes _ _) (bytes_app (digs_bytes _ _) (ptL_bytes _))) x hx

theorem isL_bytes (c : Int) (s : Say) (hs : s.ok) : Bytes (isL c s) := by
  rw [isL_eq]
  repeat' split
  all_goals first
    | exact bytes_nil
    | exact digs_bytes _ _
    | exact bytes_app (digs_bytes _ _) (bytes_app (digs_bytes _ _) (entL_bytes _))
    | exact bytes_app (digs_bytes _ _) (bytes_app (digs_bytes _ _) (digs_bytes _ _))
    | exact bytes_app (digs_bytes _ _) (bytes_app (digs_bytes _ _) (bytes_app (digs_bytes _ _) (digs_bytes _ _)))

theorem igA_nil (c : Int) (b : List Int) : (igA c b).dialects = [] ∧ (igA c b).data = [] ∧ (igA c b).locks = [] := by
  unfold igA igV
  repeat' split
  all_goals exact ⟨rfl, rfl, rfl⟩

theorem itS_nil (c : Int) (b : List Int) : (itS c b).data = [] := by
  unfold itS itV
  repeat' split
  all_goals rfl

theorem itS_len (c : Int) (b : List Int) (hB : Bytes b) : (itS c b).entries.length ≤ 64 := by
  by_cases h : itE c b = 0
  · exact isE_len (info_say_once c b hB h).1
  · have : itS c b = sayZ := by unfold itS; rw [if_pos h]
    rw [this]; simp [sayZ]

theorem igV_ok (c : Int) (b : List Int) (hB : Bytes b) : (igV c b).ok := by
  have v := fun k r => rV_lt b k r hB
  have u64 : ∀ r, U64 (rV b 8 r) := fun r => ⟨(v 8 r).1, by have := (v 8 r).2; omega⟩
  have u16 : ∀ r, U16 (rV b 2 r) := fun r => ⟨(v 2 r).1, by have := (v 2 r).2; omega⟩
  have u8 : ∀ r, U8 (rV b 1 r) := fun r => ⟨(v 1 r).1, by have := (v 1 r).2; omega⟩
  unfold igV
  by_cases c12 : c = 12
  · rw [if_pos c12]; exact askZ_ok
  rw [if_neg c12]
  by_cases c14 : c = 14
  · rw [if_pos c14]; exact { askZ_ok with file := u64 (0, 0), most := u16 (ig1 b) }
  rw [if_neg c14]
  by_cases c17 : c = 17
  · rw [if_pos c17]
    split
    · exact { askZ_ok with file := u64 (0, 0), cls := u16 (ig1 b), size := u64 (ig2 b) }
    split
    · exact { askZ_ok with file := u64 (0, 0), cls := u16 (ig1 b) }
    split
    · exact { askZ_ok with file := u64 (0, 0), cls := u16 (ig1 b) }
    · exact { askZ_ok with file := u64 (0, 0), cls := u16 (ig1 b) }
  rw [if_neg c17]
  by_cases c18 : c = 18
  · rw [if_pos c18]; exact { askZ_ok with file := u64 (0, 0), level := u8 (ig1 b) }
  rw [if_neg c18]
  exact { askZ_ok with file := u64 (0, 0) }

theorem ig_ok (c : Int) (b : List Int) (hB : Bytes b) : (igA c b).ok := by
  unfold igA
  split
  · exact askZ_ok
  · exact igV_ok c b hB

theorem ia_texts {c : Int} {a : Ask} (h : iaE c a = 0) : ptE a.pattern = 0 ∧ ptE a.after = 0 ∧ ptE a.name = 0 ∧ a.user = ByteArray.empty ∧ a.share = ByteArray.empty ∧ a.dialects = [] ∧ a.data = [] ∧ a.locks = [] := by
  have hk := ia_known h
  unfold iaE at h
  split at h
  · cases h
  rename_i hb
  simp only [not_or, Decidable.not_not] at hb
  obtain ⟨_, hw, hcl⟩ := hb
  have z : ptE ByteArray.empty = 0 := by decide +kernel
  unfold iaW at hw
  by_cases c12 : c = 12
  · rw [if_pos c12] at hw; rw [← hw]; exact ⟨z, z, z, rfl, rfl, rfl, rfl, rfl⟩
  rw [if_neg c12] at hw
  by_cases c14 : c = 14
  · rw [if_pos c14] at hw h
    by_cases g : ptE a.pattern = 0
    · rw [if_neg (fun k => k g)] at h
      rw [← hw] at g h ⊢
      exact ⟨g, h, z, rfl, rfl, rfl, rfl, rfl⟩
    · rw [if_pos g] at h; exact absurd h g
  rw [if_neg c14] at hw h
  by_cases c17 : c = 17
  · rw [if_pos c17] at hw
    by_cases k3 : a.cls = 3
    · rw [if_pos ⟨c17, k3⟩] at h
      rw [if_neg (show ¬ a.cls = 1 by omega), if_neg (show ¬ a.cls = 2 by omega), if_pos k3] at hw
      rw [← hw] at h ⊢
      exact ⟨z, z, h, rfl, rfl, rfl, rfl, rfl⟩
    · rw [← hw]
      repeat' split
      all_goals first
        | exact ⟨z, z, z, rfl, rfl, rfl, rfl, rfl⟩
        | (exfalso; rename_i k _ _; first | exact k3 k | omega)
        | (exfalso; omega)
  rw [if_neg c17] at hw
  rw [← hw]
  split
  all_goals exact ⟨z, z, z, rfl, rfl, rfl, rfl, rfl⟩

theorem ig_small (c : Int) (b : List Int) (hB : Bytes b) (h : igE c b = 0) : (igA c b).small 1048576 := by
  obtain ⟨h1, _⟩ := info_once c b hB h
  obtain ⟨t1, t2, t3, t4, t5, t6, t7, t8⟩ := ia_texts h1
  have s1 := pt_size t1
  have s2 := pt_size t2
  have s3 := pt_size t3
  have z := emp_size
  exact ⟨by rw [t6]; simp, by rw [t4, z]; omega, by rw [t5, z]; omega, by omega, by rw [t7]; simp, by rw [t8]; simp, by omega, by omega⟩

theorem names_zero {l : List EntR} (h : namesE l = 0) : ∀ x ∈ l, ptE x.name = 0 := by
  induction l with
  | nil => intro x hx; simp at hx
  | cons y l ih =>
    unfold namesE at h
    intro x hx
    by_cases g : ptE y.name = 0
    · rw [if_neg (fun k => k g)] at h
      rcases List.mem_cons.1 hx with rfl | hx
      · exact g
      · exact ih h x hx
    · rw [if_pos g] at h; exact absurd h g

theorem it_ents {c : Int} {b : List Int} (hB : Bytes b) (h : itE c b = 0) : ∀ x ∈ (itS c b).entries, ptE x.name = 0 ∧ U8 x.kind ∧ 0 ≤ x.size ∧ x.size ≤ 1048576 := by
  obtain ⟨h1, _⟩ := info_say_once c b hB h
  obtain ⟨_, _, _, _, h5, _, h7⟩ := is_parts h1
  have hS : itS c b = itV c b := by unfold itS; rw [if_neg (fun g => g h)]
  rw [hS] at h5 h7 ⊢
  by_cases c14 : c = 14
  · subst c14
    intro x hx
    have hn := names_zero (h7 rfl) x hx
    have hm := h5 x hx
    have hr : itE 14 b = rEnd b (itR 14 b) := by
      unfold itE at h ⊢
      split
      · rfl
      · rename_i g; rw [if_neg g] at h; cases h
    rw [h] at hr
    have hr := rEnd_zero hr.symm
    have e : (itV 14 b).entries = (it0 b).1 := rfl
    rw [e] at hx
    have hr2 : (it0 b).2 = (b.length, 0) := hr
    have hk : 0 ≤ x.kind := by
      rcases hl : it0 b with ⟨l, y, e0⟩
      rw [hl] at hr2 hx
      simp only [Prod.mk.injEq] at hr2
      obtain ⟨rfl, rfl⟩ := hr2
      unfold it0 at hl
      rcases hq : rM b 2 1 5 (rM b 2 64 3 (0, 0)) with ⟨a2, e2⟩
      rw [hq] at hl
      have g : e2 = 0 := by
        by_cases g : e2 = 0
        · exact g
        · rw [lp_bad g] at hl
          simp only [Prod.mk.injEq] at hl
          exact absurd hl.2.2 g
      subst g
      have ha : a2 ≤ b.length := by
        have := rM_le (b := b) (k := 2) (m := 1) (e := 5) (rM_le (b := b) (k := 2) (m := 64) (e := 3) (r := (0, 0)) (Nat.zero_le _))
        rw [hq] at this; exact this
      obtain ⟨es, q1, _, _, _, _, _, q7⟩ := lp_got b hB _ a2 _ [] l hl ha
      rw [List.nil_append] at q1
      subst q1
      exact (q7 x hx).2
    exact ⟨hn, ⟨hk, by have := hm.1; omega⟩, hm.2.1, hm.2.2⟩
  · have : (itV c b).entries = [] := by
      unfold itV
      rw [if_neg c14]
      repeat' split
      all_goals rfl
    rw [this]
    intro x hx; simp at hx

theorem it_ok (c : Int) (b : List Int) (hB : Bytes b) : (itS c b).ok := by
  by_cases h : itE c b = 0
  · have he := it_ents hB h
    have hn := itS_nil c b
    obtain ⟨h1, _⟩ := info_say_once c b hB h
    obtain ⟨_, _, hw, hk, _, _, _⟩ := is_parts h1
    have hS : itS c b = itV c b := by unfold itS; rw [if_neg (fun g => g h)]
    have v := fun k r => rV_lt b k r hB
    have u64 : ∀ r, U64 (rV b 8 r) := fun r => ⟨(v 8 r).1, by have := (v 8 r).2; omega⟩
    have u8 : ∀ r, U8 (rV b 1 r) := fun r => ⟨(v 1 r).1, by have := (v 1 r).2; omega⟩
    rw [hS] at he hk ⊢
    have hE : ∀ x ∈ (itV c b).entries, U8 x.kind ∧ -9223372036854775808 ≤ x.size ∧ x.size ≤ 9223372036854775807 := fun x hx => by
      obtain ⟨_, h2, h3, h4⟩ := he x hx
      exact ⟨h2, by omega, by omega⟩
    by_cases c14 : c = 14
    · subst c14
      exact { sayZ_ok with entries := hE }
    by_cases c16 : c = 16
    · subst c16
      have hk2 : rV b 2 (ig1 b) ≤ 2 := hk
      exact { sayZ_ok with size := u64 (0, 0), kind := ⟨(v 2 (ig1 b)).1, by show rV b 2 (ig1 b) < 256; omega⟩ }
    by_cases c18 : c = 18
    · subst c18
      exact { sayZ_ok with file := u64 (0, 0), level := u8 (ig1 b) }
    · unfold itV
      rw [if_neg c14, if_neg c16, if_neg c18]
      exact sayZ_ok
  · have : itS c b = sayZ := by unfold itS; rw [if_pos h]
    rw [this]; exact sayZ_ok

theorem it_small (c : Int) (b : List Int) (hB : Bytes b) (h : itE c b = 0) : (itS c b).small 1048576 := by
  have he := it_ents hB h
  have hl := itS_len c b hB
  refine ⟨by rw [itS_nil]; simp, by omega, fun x hx => ?_⟩
  have := pt_size (he x hx).1
  omega

theorem iGetAsk2_meets (c : Int) (b : List Int) (hc : 0 ≤ c) (hb : b.length ≤ 274877906944) (hB : Bytes b) : Meets Tryd.prog 17 [.v (.int .u16 c), .v (.view false (.ints .u8 b))] [.v ((igA c b).sv true), .v (.int .i64 (igE c b))] :=
  Meets.askZ (igA_nil c b).1 (igA_nil c b).2.1 (igA_nil c b).2.2 (iGetAsk_meets c b hc hb hB)
theorem iGetSay2_meets (c : Int) (b : List Int) (hc : 0 ≤ c) (hb : b.length ≤ 274877906944) (hB : Bytes b) : Meets Tryd.prog 19 [.v (.int .u16 c), .v (.view false (.ints .u8 b))] [.v ((itS c b).sv true), .v (.int .i64 (itE c b))] :=
  Meets.sayD (itS_nil c b) (iGetSay_meets c b hc hb hB)

end Go.Proofs.YtgipkhjpedpedaaDoor.Abs
