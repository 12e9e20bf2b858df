/- What chain.Seal answers where there is a key. -/
import Derived.Test.YtdhnjmepgafeiaaDoorCC
import Derived.Test.YtdhnjmepgafeiaaDoorCE
import Derived.Test.YtdhnjmepgafeiaaDoorM7
set_option linter.unusedVariables false
set_option linter.unusedSimpArgs false
set_option maxRecDepth 100000
namespace Go.Proofs.YtdhnjmepgafeiaaDoor.Abs
open Go Go.Proofs

section
variable {P : Program} {T : Tab} {X : Ctx} {s : St}

def absOpsM (P : Program) (X : Ctx) (T : Tab) (ops : Array Oper) (k : List Item) (Φ : St → Prop) : Nat → List Oper → St → Prop
  | 0, rest, s => HOps P X ops rest k s Φ
  | _ + 1, [], s => HOps P X ops [] k s Φ
  | n + 1, o :: rest, s => match absOp T ops s o with
    | .go p s' => p ∧ absOpsM P X T ops k Φ n rest s'
    | .stop => HOps P X ops (o :: rest) k s Φ

theorem part_opsN (TO : TabOk P T) {ops : Array Oper} {k : List Item} {Φ : St → Prop} : ∀ (n : Nat) {rest : List Oper} {s : St}, absOpsM P X T ops k Φ n rest s → HOps P X ops rest k s Φ
  | 0, _, _, h => by unfold absOpsM at h; exact h
  | _ + 1, [], _, h => by unfold absOpsM at h; exact h
  | n + 1, o :: rest, s, h => by
    unfold absOpsM at h
    cases e : absOp T ops s o with
    | go p s' => simp only [e] at h; exact HOps_step TO e h.1 (part_opsN TO n h.2)
    | stop => simp only [e] at h; exact h

end

theorem del_rows3 {q : List (Nat × List Int)} {i : Nat} : del (rowsB (i + 1) q) (1000000 + i) = rowsB (i + 1) q := del_none (rowsB_lt (by omega))

theorem rows_swap {K g n2 g2 i : Nat} {x x2 : Blk} {q : List (Nat × List Int)} (h2 : n2 < 1000000) (hne : n2 ≠ K) : SubB ((K, g, x) :: (n2, g2, x2) :: rowsB i q) ((K, g, x) :: (rowsB i q ++ [(n2, g2, x2)])) := by
  intro n y h
  simp only [fnd] at h ⊢
  split at h
  · rename_i e; rw [if_pos e]; exact h
  · rename_i e; rw [if_neg e]
    split at h
    · rename_i e2; subst e2; rw [fnd_rows h2]; simp only [fnd, if_true]; exact h
    · rw [fnd_app, h]

def or8 (x : Int) : Int := bitsI .or .u8 x 8
/-- A part, flagged as signed. -/
def orF (p : List Int) : List Int := p.set 16 (or8 (p[16]?.getD 0))
def sealP (K p : List Int) : List Int := signL K (orF p)
def sealF (K : List Int) (l : List (List Int)) : List (List Int) := (partsF l).map (sealP K)
def sealL (K : List Int) (l : List (List Int)) : List Int := if partsE l = 0 then (sealF K l).flatten else []

theorem or8_byte (x : Int) : 0 ≤ or8 x ∧ or8 x < 256 := by
  unfold or8 bitsI
  simp only
  rw [IntKind.wrap_u8]
  omega

theorem orF_length (p : List Int) : (orF p).length = p.length := by simp [orF]
theorem orF_bytes {p : List Int} (h : Bytes p) : Bytes (orF p) := by
  intro x hx
  rcases List.mem_or_eq_of_mem_set hx with hx | rfl
  · exact h x hx
  · exact or8_byte _

theorem partL_length {b : List Int} (hg : goodB b = true) (hl : b.length ≤ 4294967000) : (partL b).length = padN b.length := (part_got b [] hg hl).2.2

theorem partsF_64 : ∀ (l : List (List Int)), (∀ b ∈ l, goodB b = true ∧ b.length ≤ 1048576 ∧ Bytes b) → ∀ p ∈ partsF l, 64 ≤ p.length ∧ p.length ≤ 1048584 ∧ Bytes p
  | [], _, p, hp => by simp [partsF] at hp
  | [b], h, p, hp => by
    simp only [partsF, List.mem_singleton] at hp
    subst hp
    obtain ⟨h1, h2, h3⟩ := h p (by simp)
    exact ⟨got_len (last_got p h1).1, by omega, h3⟩
  | b :: c :: l, h, p, hp => by
    simp only [partsF, List.mem_cons] at hp
    rcases hp with rfl | hp
    · obtain ⟨h1, h2, h3⟩ := h b (by simp)
      have e := partL_length h1 (by omega)
      have h4 := got_len (last_got b h1).1
      obtain ⟨p1, p2, p3⟩ := padN_le b.length
      refine ⟨by omega, by omega, ?_⟩
      unfold partL setN
      have hBp : Bytes (padL b) := by unfold padL; exact h3.app (Bytes.zeros _)
      exact ((hBp.take 20).app (digs_bytes _ _)).app (hBp.drop 24)
    · exact partsF_64 (c :: l) (fun x hx => h x (by simp [hx])) p (by simpa [partsF] using hp)

set_option maxHeartbeats 16000000 in
theorem sealK_meets (K : List Int) (l : List (List Int)) (hK0 : 0 < K.length) (hK : K.length ≤ 1048576) (hKB : Bytes K) (hl : l.length ≤ 1048576) (hr : ∀ b ∈ l, b.length ≤ 1048576 ∧ Bytes b) :
    Meets Tryd.prog 9 [.v (.view false (.ints .u8 K)), .v (.view false (.rows false l))] [.own (.ints .u8 (sealL K l)), .v (.int .i64 (partsE l))] := by
  refine meets_go TO 100 Tryd.func9 rfl (fun X => ?_)
  simp only [Tryd.ntmps9, Tryd.results9, pureOpC, svs, blks, AV.sv, absRun, absOps, absOp, evO, constSV, ungd, gdP, gdPs, setD, pureOp, memOp, Op.operands, List.getD, List.getElem?_cons_zero, List.getElem?_cons_succ, Option.getD_some, List.set, List.toList_toArray, true_and, and_self, Nat.zero_add, List.cons_append, List.nil_append, List.length_cons, List.length_nil, Nat.reduceAdd, Nat.reduceSub, List.replicate_succ, List.replicate_zero]
  refine inCE_ops TO 100 (parts_inCE (X := X) l hl hr) Tryd.func22 (by decide +kernel) rfl rfl rfl ⟨⟨rfl, rfl, by simp only [evO, gdP, gdPs, List.getD, List.getElem?_cons_zero, List.getElem?_cons_succ, Option.getD_some, and_self]⟩, fun x b' c1 hQ => ?_⟩
  rcases hQ with ⟨h0, g, q, k, hq, rfl, rfl⟩ | ⟨h0, rfl, rfl⟩
  rotate_left
  · have e2 : sealL K l = [] := by unfold sealL; rw [if_neg h0]
    have h1 : (partsE l != 0) = true := by simpa using h0
    rw [e2]
    simp only [h1, pureOpC, unc, absRun, absOps, absOp, evO, constSV, ungd, gdP, gdPs, setD, binI, binV, ptrE, T_ty, tTy, extractV, pureOp, lenV, Data.len, retP, resV, retQ, rAs, rA, rA0, ownN, nodup, bares, bare, bare0, bareD, Op.operands, Call.operands, List.getD, List.getElem?_cons_zero, List.getElem?_cons_succ, Option.getD_some, List.set, List.map, List.toList_toArray, true_and, and_self, if_true, eq_self, List.append_toArray, List.nil_append, List.length_nil, Bool.and_self]
  obtain ⟨hg, hne, h8, hF⟩ := partsE_ok h0
  have hP := partsF_64 l (fun b hb => ⟨hg b hb, hr b hb⟩)
  have hL : sealL K l = ((q.map Prod.snd).map (sealP K)).flatten := by unfold sealL sealF; rw [if_pos h0, hq]
  have hql : q.length ≤ 8 := by
    have := congrArg List.length hq
    rw [List.length_map, partsF_length] at this; omega
  rw [← hq] at hP
  have hP : ∀ x ∈ q, 64 ≤ x.2.length ∧ x.2.length ≤ 1048584 ∧ Bytes x.2 := fun x hx => hP x.2 (List.mem_map.2 ⟨x, hx, rfl⟩)
  rw [h0, hL]
  clear hL hF hq hg hr hne
  simp only [fnd_rows0, pureOpC, unc, absRun, absOps, absOp, evO, constSV, ungd, gdP, gdPs, setD, binI, binV, ptrE, T_ty, tTy, extractV, pureOp, lenV, blkAt, fnd, Data.len, retP, resV, retQ, rAs, rA, rA0, ownN, nodup, bares, bare, bare0, bareD, Op.operands, Call.operands, List.getD, List.getElem?_cons_zero, List.getElem?_cons_succ, Option.getD_some, List.set, List.map, List.toList_toArray, true_and, and_true, and_self, if_true, if_false, eq_self, Bool.false_eq_true, Int.reduceBNe, List.append_toArray, List.nil_append, List.append_nil, Nat.reduceLT, Bool.and_self]
  refine nil_go 8 44 (.ints .u8 []) rfl ⟨by simp, rfl⟩ ?_
  simp only [upd_rows0, upd, Data.esz, List.set, if_false, Nat.reduceEqDiff, Nat.reduceLT]
  obtain ⟨ps, hps⟩ : ∃ ps : List (List Int), ps = (q.map Prod.snd).map (sealP K) := ⟨_, rfl⟩
  rw [← hps]
  refine loop_up (fun x : Nat × Nat × Nat => x.1 ≤ q.length) (fun x => ⟨tl 47 0 [(0, .view false (.ints .u8 K)), (8, .sl 44 x.2.1 0 1 0 ((ps.take x.1).flatten).length), (19, .sl 5071 g 0 1 0 q.length), (20, .int .i64 q.length), (21, .int .i64 x.1)],
    (5071, g, .cells (rowsS 0 q ++ List.replicate k .any)) :: (44, x.2.1, .vec (.ints .u8 (ps.take x.1).flatten)) :: rowsB x.1 (q.drop x.1), ⟨x.2.2, [], 0⟩⟩) (fun x => q.length - x.1) (0, c1 + 1 + 1 + 1 + 1, _) (Nat.zero_le _) ⟨rfl, ?_, ?_⟩ ?_
  · simp [LeT, tl]
  · exact rows_swap (by decide) (by decide)
  rintro ⟨i, go, c⟩ hi ih
  simp only at hi
  refine absRun_ok TO 8 _ _ ?_
  have hne1 : (1000000 + i = 5071) = False := eq_false (by omega)
  have hne2 : (1000000 + i = 44) = False := eq_false (by omega)
  simp only [pureOpC, unc, absRun, absOps, absOp, evO, constSV, ungd, gdP, gdPs, setD, binI, binV, ptrE, pureOp, notIn, blkAt, fnd, Data.len, Data.esz, retP, resV, retQ, rAs, rA, rA0, ownN, nodup, bares, bare, bare0, bareD, Op.operands, List.getD, List.getElem?_cons_zero, List.getElem?_cons_succ, Option.getD_some, List.set, List.map, List.toList_toArray, exitTo, true_and, and_true, and_self, if_true, if_false, eq_self, Nat.zero_add, List.cons_append, List.nil_append, Nat.reduceAdd, Nat.reduceSub, Nat.reduceEqDiff, beq_self_eq_true, List.replicate_succ, List.replicate_zero, Bool.and_self, Data.ints.injEq, tl]
  split
  · rename_i hc
    have hiq : i < q.length := by have := of_decide_eq_true hc; omega
    obtain ⟨⟨gi, row⟩, hx⟩ : ∃ x : Nat × List Int, q.getD i default = x := ⟨_, rfl⟩
    have hdr : q.drop i = (gi, row) :: q.drop (i + 1) := by
      rw [List.drop_eq_getElem_cons hiq, ← hx]; simp [List.getD, hiq]
    have hmem : (gi, row) ∈ q := by rw [← hx]; simp [List.getD, hiq]
    obtain ⟨r1, r2, r3⟩ := hP _ hmem
    simp only at r1 r2 r3
    have hcell := cell_row (q := q) (k := k) hiq
    rw [hx] at hcell
    have hkd : decide ((0 : Int) < (K.length : Int)) = true := decide_eq_true (by omega)
    have hS := Sign_meets K (orF row) (by omega) hKB (by rw [orF_length]; omega) (orF_bytes r3)
    have hsE : signE (orF row) = 0 := by unfold signE; rw [if_neg (by rw [orF_length]; omega)]
    rw [hsE] at hS
    have hor : row.set 16 (bitsI .or .u8 (row[16]?.getD 0) 8) = orF row := rfl
    have hps2 : ps.take (i + 1) = ps.take i ++ [signL K (orF row)] := by
      have hil : i < ps.length := by rw [hps]; simpa using hiq
      rw [List.take_add_one, List.getElem?_eq_getElem hil]
      have : ps[i] = signL K (orF row) := by
        have e : ps[i]? = some (signL K (orF row)) := by
          rw [hps, List.getElem?_map, List.getElem?_map]
          have : q[i]? = some (gi, row) := by rw [← hx]; simp [List.getD, hiq]
          rw [this]; rfl
        rw [List.getElem?_eq_getElem hil] at e
        exact Option.some.inj e
      rw [this]; rfl
    rw [hdr]
    simp only [rowsB]
    refine HRun_region (part_opsN TO 2 ?_)
    simp only [absOpsM, Nat.mul_one, hcell, pureOpC, unc, absOp, evO, ungd, gdP, gdPs, setD, T_ty, T_size, tTy, tSize, iaddrV, pureOp, loadV, blkAt, fnd, Op.operands, List.getD, List.getElem?_cons_zero, List.getElem?_cons_succ, Option.getD_some, List.set, List.toList_toArray, true_and, and_self, if_true, if_false, eq_self, ne_eq, not_false_eq_true, Nat.zero_add, Int.toNat_natCast, Nat.reduceEqDiff, Nat.succ_ne_self]
    refine ⟨⟨by omega, by omega⟩, ?_⟩
    refine ren_ops 24 (1000000 + i) 7000 (d := Data.ints IntKind.u8 row) ⟨by simp, rfl, by simp only [hne1, hne2, fnd, if_true, if_false, eq_self]⟩ (HOps_go TO 100 ?_)
    simp only [mv, del_rows3, fnd_rows, upd_rows, del_rows, upd_rows0, hne1, hne2, hkd, List.drop_zero, pureOpC, unc, fitT, absRun, absOps, absOp, evO, constSV, ungd, gdP, gdPs, setD, binI, binV, ptrE, T_ty, T_size, T_bytes, T_zero, tTy, tSize, tBytes, tZero, iaddrV, pureOp, memOp, lenV, loadV, notIn, dataOf, appD, isSrc, zI, blkAt, fnd, upd, del, mv, elemV, Data.len, Data.esz, Data.sub, Lim.add, Op.operands, Call.operands, List.getD, List.getElem?_cons_zero, List.getElem?_cons_succ, Option.getD_some, List.set, List.toList_toArray, true_and, and_self, if_true, if_false, eq_self, ne_eq, not_false_eq_true, List.take_length, Nat.zero_add, Int.reduceToNat, Nat.le_refl, List.append_toArray, List.nil_append, Nat.reduceEqDiff, Nat.reduceLT, Nat.succ_ne_self, Int.reduceLE, gt_iff_lt]
    refine ⟨by omega, by omega, ?_⟩
    have htk : (orF row).take row.length = orF row := by rw [← orF_length row, List.take_length]
    rw [hor]
    refine call_go TO 100 hS Tryd.func23 (by decide +kernel) rfl rfl rfl ?_
    have hsl : (signL K (orF row)).length = row.length := by rw [signL_length, if_neg (by rw [orF_length]; omega), orF_length]
    have hfl := flatten_len (n := 1048584) (l := ps.take i) (fun y hy => by
      have hy := List.mem_of_mem_take hy
      rw [hps] at hy
      obtain ⟨z, hz, rfl⟩ := List.mem_map.1 hy
      obtain ⟨x, hx, rfl⟩ := List.mem_map.1 hz
      have := hP x hx
      unfold sealP
      rw [signL_length, orF_length]; split <;> omega)
    rw [List.length_take] at hfl
    have hpl : ps.length = q.length := by rw [hps]; simp
    have hm : min i ps.length * 1048584 ≤ 8 * 1048584 := Nat.mul_le_mul_right _ (by omega)
    have wi : IntKind.i64.wrap ((i : Int) + 1) = ((i + 1 : Nat) : Int) := by rw [w64 (by omega) (by omega)]; omega
    simp only [htk, wi, fnd_rows, upd_rows, del_rows, List.drop_zero, pureOpC, unc, fitT, absRun, absOps, absOp, evO, constSV, ungd, gdP, gdPs, setD, binI, binV, ptrE, T_ty, T_size, T_bytes, T_zero, tTy, tSize, tBytes, tZero, extractV, pureOp, memOp, notIn, dataOf, appD, isSrc, zI, blkAt, fnd, upd, del, mv, Data.len, Data.esz, Data.sub, Lim.add, retP, resV, retQ, rAs, rA, rA0, ownN, nodup, bares, bare, bare0, bareD, guardIs, callP, callS, argS, mAs, mA, mA0, mB0, lowD, allNotIn, nm, impN, impB, impT, packS, delL, Op.operands, Call.operands, List.getD, List.getElem?_cons_zero, List.getElem?_cons_succ, Option.getD_some, List.set, List.map, List.toList_toArray, true_and, and_true, and_self, if_true, if_false, eq_self, Bool.false_eq_true, List.take_length, Nat.zero_add, Nat.add_zero, Nat.le_refl, Int.reduceBNe, List.append_toArray, List.nil_append, List.append_nil, Nat.reduceAdd, Nat.reduceMul, Nat.reduceEqDiff, Nat.reduceLT, Bool.and_self]
    have hfa : (ps.take i).flatten ++ signL K (orF row) = (ps.take (i + 1)).flatten := by rw [hps2, List.flatten_append]; simp
    rw [hfa]
    refine ⟨by rw [orF_length]; omega, ⟨by omega, by omega⟩, ?_⟩
    refine ih (i + 1, c + 9, _) _ hiq (by simp only; omega) rfl ?_ ?_
    · simp [LeT, tl]
    · intro n x hx
      simp only [fnd] at hx ⊢
      split at hx
      · rename_i e; rw [if_pos e]; exact hx
      · rename_i e; rw [if_neg e]
        split at hx
        · rename_i e2; subst e2; rw [fnd_rows (by decide)]; simpa [fnd] using hx
        · rw [fnd_app, hx]
  · rename_i hc
    have hiq : i = q.length := by
      have : ¬ ((i : Int) < q.length) := fun h => hc (decide_eq_true h)
      omega
    have htk : ps.take i = ps := List.take_of_length_le (by rw [hps, hiq]; simp)
    rw [htk]
    exact ⟨rfl, rfl⟩

end Go.Proofs.YtdhnjmepgafeiaaDoor.Abs
