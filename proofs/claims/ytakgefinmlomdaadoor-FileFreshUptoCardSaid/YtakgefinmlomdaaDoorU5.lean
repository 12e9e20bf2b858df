/- UTF-16, read: what units come to; put and got, got and put (plain laws). -/
import Derived.Test.YtakgefinmlomdaaDoorU3
set_option linter.unusedVariables false
set_option linter.unusedSimpArgs false
set_option maxRecDepth 100000
namespace Go.Proofs.YtakgefinmlomdaaDoor.Abs
open Go Go.Proofs

def dec16 : Int → List Int → Option (List Int)
  | h, [] => if 0 ≤ h then none else some []
  | _, [_] => none
  | h, a :: b :: r =>
    if 56320 ≤ a + 256 * b ∧ a + 256 * b < 57344 then (if 0 ≤ h then (dec16 (-1) r).map (fun l => (65536 + (h - 55296) * 1024 + (a + 256 * b - 56320)) :: l) else none)
    else if 0 ≤ h then none
    else if 55296 ≤ a + 256 * b ∧ a + 256 * b < 56320 then dec16 (a + 256 * b) r
    else (dec16 (-1) r).map (fun l => (a + 256 * b) :: l)

theorem dec16_two (h a b : Int) (r : List Int) : dec16 h (a :: b :: r) = if 56320 ≤ a + 256 * b ∧ a + 256 * b < 57344 then (if 0 ≤ h then (dec16 (-1) r).map (fun l => (65536 + (h - 55296) * 1024 + (a + 256 * b - 56320)) :: l) else none)
    else if 0 ≤ h then none
    else if 55296 ≤ a + 256 * b ∧ a + 256 * b < 56320 then dec16 (a + 256 * b) r
    else (dec16 (-1) r).map (fun l => (a + 256 * b) :: l) := rfl

def encL (n : Int) : List Int := Lib.encodeRuneZ n
def ugetS (b : List Int) : ByteArray := match dec16 (-1) b with | some l => strOfNums (l.flatMap encL) | none => ByteArray.empty
def ugetE (b : List Int) : Int := match dec16 (-1) b with | some _ => 0 | none => 5

def scalI (n : Int) : Prop := 0 ≤ n ∧ n ≤ 1114111 ∧ (n < 55296 ∨ 57344 ≤ n)

theorem dec_uB : ∀ (l : List Int), (∀ n ∈ l, scalI n) → dec16 (-1) (l.flatMap uB) = some l
  | [], _ => rfl
  | n :: l, h => by
    obtain ⟨h0, h1, h2⟩ := h n (by simp)
    have ih := dec_uB l (fun m hm => h m (by simp [hm]))
    rw [List.flatMap_cons]
    by_cases h6 : n < 65536
    · rw [show uB n = [n % 256, n / 256] by unfold uB; rw [if_pos h6]]
      simp only [List.cons_append, List.nil_append]
      have e : n % 256 + 256 * (n / 256) = n := by omega
      rw [dec16_two, e, if_neg (by omega), if_neg (by omega), if_neg (by omega), ih]
      rfl
    · rw [show uB n = [(55296 + (n - 65536) / 1024) % 256, (55296 + (n - 65536) / 1024) / 256, (56320 + (n - 65536) % 1024) % 256, (56320 + (n - 65536) % 1024) / 256] by unfold uB; rw [if_neg h6]]
      simp only [List.cons_append, List.nil_append]
      have e1 : (55296 + (n - 65536) / 1024) % 256 + 256 * ((55296 + (n - 65536) / 1024) / 256) = 55296 + (n - 65536) / 1024 := by omega
      have e2 : (56320 + (n - 65536) % 1024) % 256 + 256 * ((56320 + (n - 65536) % 1024) / 256) = 56320 + (n - 65536) % 1024 := by omega
      rw [dec16_two, e1, if_neg (by omega), if_neg (by omega), if_pos (by omega), dec16_two, e2, if_pos (by omega), if_pos (by omega), ih]
      simp only [Option.map_some]
      congr 2
      omega

theorem dec_back : ∀ (b : List Int) (h : Int) (l : List Int), Bytes b → (h = -1 ∨ (55296 ≤ h ∧ h < 56320)) → dec16 h b = some l →
    (∀ n ∈ l, scalI n) ∧ l.flatMap uB = (if h = -1 then [] else [h % 256, h / 256]) ++ b
  | [], h, l, _, hh, e => by
    unfold dec16 at e
    split at e
    · cases e
    · simp only [Option.some.injEq] at e
      subst e
      rw [if_pos (by omega)]
      simp
  | [_], h, l, _, _, e => by cases e
  | a :: b :: r, h, l, hB, hh, e => by
    have ha := hB a (by simp)
    have hb := hB b (by simp)
    have hr : Bytes r := fun x hx => hB x (by simp [hx])
    rw [dec16_two] at e
    split at e
    · rename_i hlow
      split at e
      · rename_i hp
        cases e2 : dec16 (-1) r with
        | none => rw [e2] at e; cases e
        | some m =>
          rw [e2] at e
          simp only [Option.map_some, Option.some.injEq] at e
          subst e
          obtain ⟨q1, q2⟩ := dec_back r (-1) m hr (.inl rfl) e2
          rw [if_pos rfl, List.nil_append] at q2
          rw [if_neg (by omega)]
          refine ⟨?_, ?_⟩
          · intro n hn
            rcases List.mem_cons.1 hn with rfl | hn
            · unfold scalI; omega
            · exact q1 n hn
          · rw [List.flatMap_cons, q2]
            unfold uB
            rw [if_neg (by omega)]
            simp only [List.cons_append, List.nil_append, List.cons.injEq, and_true]
            omega
      · cases e
    · rename_i hlow
      split at e
      · cases e
      · rename_i hp
        have hm1 : h = -1 := by omega
        subst hm1
        rw [if_pos rfl, List.nil_append]
        split at e
        · rename_i hhi
          obtain ⟨q1, q2⟩ := dec_back r _ l hr (.inr hhi) e
          refine ⟨q1, ?_⟩
          rw [q2, if_neg (by omega)]
          simp only [List.cons_append, List.nil_append, List.cons.injEq, and_true]
          omega
        · rename_i hhi
          cases e2 : dec16 (-1) r with
          | none => rw [e2] at e; cases e
          | some m =>
            rw [e2] at e
            simp only [Option.map_some, Option.some.injEq] at e
            subst e
            obtain ⟨q1, q2⟩ := dec_back r (-1) m hr (.inl rfl) e2
            rw [if_pos rfl, List.nil_append] at q2
            refine ⟨?_, ?_⟩
            · intro n hn
              rcases List.mem_cons.1 hn with rfl | hn
              · unfold scalI; omega
              · exact q1 n hn
            · rw [List.flatMap_cons, q2]
              unfold uB
              rw [if_pos (by omega)]
              simp only [List.cons_append, List.nil_append, List.cons.injEq, and_true]
              omega

theorem encL_cases {n : Int} (h : scalI n) : (n ≤ 127 ∧ encL n = [n]) ∨ (128 ≤ n ∧ n ≤ 2047 ∧ encL n = [192 + n / 64, 128 + n % 64]) ∨
    (2048 ≤ n ∧ n ≤ 65535 ∧ encL n = [224 + n / 4096, 128 + n / 64 % 64, 128 + n % 64]) ∨ (65536 ≤ n ∧ encL n = [240 + n / 262144, 128 + n / 4096 % 64, 128 + n / 64 % 64, 128 + n % 64]) := by
  obtain ⟨h0, h1, h2⟩ := h
  unfold encL
  by_cases c1 : n ≤ 127
  · exact .inl ⟨c1, Lib.encodeRuneZ_one h0 c1⟩
  by_cases c2 : n ≤ 2047
  · exact .inr (.inl ⟨by omega, c2, Lib.encodeRuneZ_two (by omega) c2⟩)
  by_cases c3 : n ≤ 65535
  · exact .inr (.inr (.inl ⟨by omega, c3, Lib.encodeRuneZ_three (by omega)⟩))
  · exact .inr (.inr (.inr ⟨by omega, Lib.encodeRuneZ_four (by omega) h1⟩))

theorem encL_bytes {n : Int} (h : scalI n) : Bytes (encL n) := by
  have hh := h
  obtain ⟨h0, h1, h2⟩ := h
  intro x hx
  rcases encL_cases hh with ⟨c, e⟩ | ⟨c, c', e⟩ | ⟨c, c', e⟩ | ⟨c, e⟩
  all_goals
    rw [e] at hx
    simp only [List.mem_cons, List.not_mem_nil, or_false] at hx
  · omega
  · rcases hx with rfl | rfl <;> omega
  · rcases hx with rfl | rfl | rfl <;> omega
  · rcases hx with rfl | rfl | rfl | rfl <;> omega

def u8L (l : List Int) : List UInt8 := l.map fun n => UInt8.ofNat n.toNat

theorem decode_encode {n : Int} (h : scalI n) (r : List UInt8) : Lib.decodeL (u8L (encL n) ++ r) = (n.toNat, (encL n).length) := by
  have hb := encL_bytes h
  have hh := h
  obtain ⟨h0, h1, h2⟩ := h
  have tn : ∀ x : Int, 0 ≤ x → x < 256 → (UInt8.ofNat x.toNat).toNat = x.toNat := fun x h0 h1 => by rw [UInt8.toNat_ofNat']; omega
  rw [Lib.decodeL_N]
  rcases encL_cases hh with ⟨c, e⟩ | ⟨c, c', e⟩ | ⟨c, c', e⟩ | ⟨c, e⟩
  all_goals
    rw [e]
    simp only [u8L, List.map_cons, List.map_nil, List.cons_append, List.nil_append, List.length_cons, List.length_nil, List.getD_cons_zero, List.getD_cons_succ]
    unfold Lib.decodeN
  · rw [tn n (by omega) (by omega), if_pos (by omega)]
  · rw [tn _ (by omega) (by omega), tn _ (by omega) (by omega), if_neg (by omega), if_pos (by omega), if_pos (by omega)]
    simp only [Prod.mk.injEq, and_true]
    omega
  · rw [tn _ (by omega) (by omega), tn _ (by omega) (by omega), tn _ (by omega) (by omega), if_neg (by omega), if_neg (by omega), if_pos (by omega), if_pos (by omega)]
    simp only [Prod.mk.injEq, and_true]
    omega
  · rw [tn _ (by omega) (by omega), tn _ (by omega) (by omega), tn _ (by omega) (by omega), tn _ (by omega) (by omega), if_neg (by omega), if_neg (by omega), if_neg (by omega), if_pos (by omega), if_pos (by omega)]
    simp only [Prod.mk.injEq, and_true]
    omega

theorem encL_pos {n : Int} (h : scalI n) : 1 ≤ (encL n).length ∧ (encL n).length ≤ 4 ∧ (n = 65533 → (encL n).length = 3) := by
  rcases encL_cases h with ⟨c, e⟩ | ⟨c, c', e⟩ | ⟨c, c', e⟩ | ⟨c, e⟩ <;> rw [e] <;> simp <;> omega

/-- Letters' bytes, read. -/
theorem letters_enc (s : ByteArray) : ∀ (l : List Int) (pre : List UInt8), (∀ n ∈ l, scalI n) → s.data.toList = pre ++ u8L (l.flatMap encL) → allAt s pre.length = true ∧ letAt s pre.length = l
  | [], pre, _, e => by
    have : ¬ pre.length < s.size := by
      have h1 := congrArg List.length e
      rw [Array.length_toList] at h1
      have h2 : s.size = s.data.size := rfl
      simp [u8L] at h1
      omega
    exact ⟨allAt_end s _ this, letAt_end s _ this⟩
  | n :: l, pre, h, e => by
    have hn := h n (by simp)
    obtain ⟨p1, p2, p3⟩ := encL_pos hn
    have e1 : u8L ((n :: l).flatMap encL) = u8L (encL n) ++ u8L (l.flatMap encL) := by simp [u8L]
    have hlen : (u8L (encL n)).length = (encL n).length := by simp [u8L]
    rw [e1] at e
    have hlt : pre.length < s.size := by
      have h1 := congrArg List.length e
      rw [Array.length_toList, List.length_append, List.length_append, hlen] at h1
      have h2 : s.size = s.data.size := rfl
      omega
    have hdec : Utf8.decode s pre.length = (n.toNat, (encL n).length) := by
      rw [← Lib.decodeL_drop, e, List.drop_left, decode_encode hn]
    have ih := letters_enc s l (pre ++ u8L (encL n)) (fun m hm => h m (by simp [hm])) (by rw [e, List.append_assoc])
    rw [List.length_append, hlen] at ih
    have hbad : badP s pre.length = false := by
      unfold badP
      rw [hdec, decide_eq_false_iff_not]
      intro he
      simp only [Prod.mk.injEq] at he
      have h0 := hn.1
      have := p3 (by omega)
      omega
    rw [allAt_step s _ hlt, letAt_step s _ hlt, hbad, hdec, ih.1, ih.2]
    refine ⟨rfl, ?_⟩
    have h0 := hn.1
    simp only [Bool.false_eq_true, if_false, List.cons.injEq, and_true]
    omega

theorem dec_scal (s : ByteArray) (p : Nat) : scalI ((Utf8.decode s p).1 : Int) := by
  rw [Lib.decode_at]
  have k0 := (s.get! p).toNat_lt
  unfold scalI
  rcases Lib.decodeN_shape (s.size - p) (s.get! p).toNat (s.get! (p + 1)).toNat (s.get! (p + 2)).toNat (s.get! (p + 3)).toNat with ⟨c, e⟩ | ⟨c1, c2, c3, cv, e⟩ | ⟨c1, c2, c3, c4, cv, cs, e⟩ | ⟨c1, c2, c3, c4, c5, cv, cw, e⟩ | e
  all_goals
    rw [e]
    dsimp only
    omega

/-- A text's letters' bytes are the text. -/
theorem enc_letters (s : ByteArray) : ∀ (k p : Nat), s.size - p ≤ k → allAt s p = true → (∀ n ∈ letAt s p, scalI n) ∧ u8L ((letAt s p).flatMap encL) = s.data.toList.drop p
  | 0, p, h, _ => by
    rw [letAt_end s p (by omega), List.drop_eq_nil_of_le (by rw [Array.length_toList]; show s.size ≤ p; omega)]
    exact ⟨by simp, rfl⟩
  | k + 1, p, h, ha => by
    by_cases hp : p < s.size
    · have hw := dec_width s p hp
      rw [allAt_step s p hp, Bool.and_eq_true] at ha
      have hb : badP s p = false := by simpa using ha.1
      obtain ⟨q1, q2⟩ := enc_letters s k (p + (Utf8.decode s p).2) (by omega) ha.2
      rw [letAt_step s p hp, hb]
      simp only [Bool.false_eq_true, if_false]
      have hsc := dec_scal s p
      refine ⟨fun n hn => ?_, ?_⟩
      · rcases List.mem_cons.1 hn with rfl | hn
        · exact hsc
        · exact q1 n hn
      · have hne : s.data.toList.drop p ≠ [] := by
          intro h0
          have := congrArg List.length h0
          rw [List.length_drop, Array.length_toList] at this
          have : s.size - p = 0 := this
          omega
        have hE := Lib.encode_decode (s.data.toList.drop p) hne (by
          rw [Lib.decodeL_drop]
          intro hc
          have : badP s p = true := by unfold badP; exact decide_eq_true (Prod.ext hc.1 hc.2)
          rw [this] at hb; cases hb)
        rw [Lib.decodeL_drop] at hE
        have e1 : u8L (((Utf8.decode s p).1 : Int) :: letAt s (p + (Utf8.decode s p).2) |>.flatMap encL) = u8L (encL ((Utf8.decode s p).1 : Int)) ++ u8L ((letAt s (p + (Utf8.decode s p).2)).flatMap encL) := by simp [u8L]
        have e2 : u8L (encL ((Utf8.decode s p).1 : Int)) = Lib.encodeRune ((Utf8.decode s p).1 : Int) := rfl
        rw [e1, e2, hE, q2, ← List.drop_drop, List.take_append_drop]
    · rw [letAt_end s p hp, List.drop_eq_nil_of_le (by rw [Array.length_toList]; show s.size ≤ p; omega)]
      exact ⟨by simp, rfl⟩

theorem get_put (s : ByteArray) (h : utfE s = 0) : ugetE (utfL s) = 0 ∧ ugetS (utfL s) = s := by
  have ha : allAt s 0 = true := by
    unfold utfE at h
    split at h
    · assumption
    · cases h
  obtain ⟨q1, q2⟩ := enc_letters s s.size 0 (by omega) ha
  have hd := dec_uB (letAt s 0) q1
  have hu : utfL s = (letAt s 0).flatMap uB := by unfold utfL; rw [if_pos ha]
  rw [hu]
  unfold ugetE ugetS
  rw [hd]
  refine ⟨rfl, ?_⟩
  show strOfNums _ = s
  rw [List.drop_zero] at q2
  unfold strOfNums
  change (⟨(u8L ((letAt s 0).flatMap encL)).toArray⟩ : ByteArray) = s
  rw [q2]

theorem put_get (b : List Int) (hB : Bytes b) (h : ugetE b = 0) : utfE (ugetS b) = 0 ∧ utfL (ugetS b) = b := by
  unfold ugetE at h
  unfold ugetS
  cases e : dec16 (-1) b with
  | none => rw [e] at h; cases h
  | some l =>
    obtain ⟨q1, q2⟩ := dec_back b (-1) l hB (.inl rfl) e
    rw [if_pos rfl, List.nil_append] at q2
    have := letters_enc (strOfNums (l.flatMap encL)) l [] q1 (by rw [strOfNums_data]; rfl)
    obtain ⟨r1, r2⟩ := this
    have z : ([] : List UInt8).length = 0 := rfl
    rw [z] at r1 r2
    unfold utfE utfL
    simp only [r1, if_true, r2]
    exact ⟨trivial, q2⟩

end Go.Proofs.YtakgefinmlomdaaDoor.Abs
