/- The document's bytes of a letter, and its Get. -/
import Derived.Test.YtakgefinmlomdaaDoorU6
set_option linter.unusedVariables false
set_option linter.unusedSimpArgs false
set_option maxRecDepth 100000
namespace Go.Proofs.YtakgefinmlomdaaDoor.Abs
open Go Go.Proofs

theorem bytes_meets (n : Int) (hn : scalI n) : Meets Tryd.prog 88 [.v (.int .i64 n)] [.own (.ints .u8 (encL n))] := by
  have hh := hn
  obtain ⟨h0, h1, h2⟩ := hn
  have qd : ∀ d : Int, 0 < d → d < 1000000 → quoI .i64 n d = n / d := fun d hd hd2 => by
    have := Int.ediv_nonneg h0 (Int.le_of_lt hd)
    have := Int.ediv_le_self d h0
    unfold quoI; rw [Int.tdiv_eq_ediv_of_nonneg h0, w64 (by omega) (by omega)]
  have rm : ∀ x : Int, 0 ≤ x → remI x 64 = x % 64 := fun x hx => by unfold remI; rw [Int.tmod_eq_emod_of_nonneg hx]
  have e64 := qd 64 (by decide) (by decide)
  have e4096 := qd 4096 (by decide) (by decide)
  have e262144 := qd 262144 (by decide) (by decide)
  have r0 := rm n h0
  have r1 := rm (n / 64) (by omega)
  have r2 := rm (n / 4096) (by omega)
  have wb : ∀ a x : Int, 0 ≤ a → 0 ≤ x → a + x < 256 → IntKind.u8.wrap (IntKind.i64.wrap (a + x)) = a + x := fun a x ha hx h => by
    rw [w64 (by omega) (by omega), wu8]; omega
  refine meets_go TO 100 Tryd.func88 rfl (fun X => ?_)
  simp only [Tryd.ntmps88, Tryd.results88, e64, e4096, e262144, r0, r1, r2, pureOpC, unc, svs, blks, AV.sv, absRun, absOps, absOp, evO, constSV, ungd, gdP, gdPs, setD, binI, binV, ptrE, convV, T_ty, T_size, tTy, tSize, pureOp, memOp, newV, notIn, elemsOf, intsOf, known, blkAt, fnd, upd, Data.len, Data.esz, Lim.add, retP, resV, retQ, rAs, rA, ownN, nodup, bares, bare, bareD, Op.operands, List.getD, List.getElem?_cons_zero, List.getElem?_cons_succ, Option.getD_some, List.set, List.map, List.toList_toArray, Option.map_some, true_and, and_true, and_self, if_true, eq_self, ne_eq, not_false_eq_true, Nat.zero_add, List.cons_append, List.nil_append, List.length_cons, List.length_nil, Nat.reduceAdd, Nat.reduceSub, Nat.reduceLeDiff, List.replicate_succ, List.replicate_zero, Bool.and_self, Data.ints.injEq, Int.reduceEq]
  rcases encL_cases hh with ⟨c, e⟩ | ⟨c, c', e⟩ | ⟨c, c', e⟩ | ⟨c, e⟩
  · rw [if_pos (decide_eq_true (by omega)), e, wu8, show n % 256 = n by omega]
    simp
  · rw [if_neg (by simp; omega), if_pos (decide_eq_true (by omega)), e, wb 192 (n / 64) (by omega) (by omega) (by omega), wb 128 (n % 64) (by omega) (by omega) (by omega)]
    simp
  · rw [if_neg (by simp; omega), if_neg (by simp; omega), if_pos (decide_eq_true (by omega)), e, wb 224 (n / 4096) (by omega) (by omega) (by omega), wb 128 (n / 64 % 64) (by omega) (by omega) (by omega), wb 128 (n % 64) (by omega) (by omega) (by omega)]
    simp
  · rw [if_neg (by simp; omega), if_neg (by simp; omega), if_neg (by simp; omega), e, wb 240 (n / 262144) (by omega) (by omega) (by omega), wb 128 (n / 4096 % 64) (by omega) (by omega) (by omega), wb 128 (n / 64 % 64) (by omega) (by omega) (by omega), wb 128 (n % 64) (by omega) (by omega) (by omega)]
    simp

theorem dec_odd : ∀ (b : List Int) (h : Int), b.length % 2 = 1 → dec16 h b = none
  | [], _, h => by simp at h
  | [_], _, _ => rfl
  | a :: b :: r, h, hl => by
    have hr : r.length % 2 = 1 := by simp only [List.length_cons] at hl; omega
    rw [dec16_two, dec_odd r (-1) hr, dec_odd r _ hr]
    repeat' split
    all_goals rfl

theorem drop_two {b : List Int} {i : Nat} (h : i + 1 < b.length) : b.drop i = b[i]?.getD 0 :: b[i + 1]?.getD 0 :: b.drop (i + 2) := (getV_two h).2.2

set_option maxHeartbeats 8000000 in
theorem rGet02_meets (b : List Int) (hb : b.length ≤ 274877906944) (hB : Bytes b) : Meets Tryd.prog 80 [.v (.view false (.ints .u8 b))] [.v (.str (ugetS b)), .v (.int .i64 (ugetE b))] := by
  refine meets_go TO 100 Tryd.func80 rfl (fun X => ?_)
  have hr2 : remI (b.length : Int) 2 = ((b.length % 2 : Nat) : Int) := by unfold remI; rw [Int.tmod_eq_emod_of_nonneg (by omega)]; omega
  simp only [Tryd.ntmps80, Tryd.results80, hr2, pureOpC, unc, svs, blks, AV.sv, absRun, absOps, absOp, evO, constSV, ungd, gdP, gdPs, setD, binI, binV, ptrE, T_ty, tTy, pureOp, lenV, Data.len, retP, resV, retQ, rAs, rA, rA0, ownN, nodup, bares, bare, bare0, Op.operands, Call.operands, List.getD, List.getElem?_cons_zero, List.getElem?_cons_succ, Option.getD_some, List.set, List.map, List.toList_toArray, true_and, and_true, and_self, eq_self, ne_eq, not_false_eq_true, Nat.zero_add, List.append_toArray, List.cons_append, List.nil_append, List.length_cons, List.length_nil, Nat.reduceAdd, Nat.reduceSub, List.replicate_succ, List.replicate_zero, Bool.and_self, Int.reduceEq]
  have bad : dec16 (-1) b = none → ugetS b = ByteArray.empty ∧ ugetE b = 5 := fun hd => ⟨by unfold ugetS; rw [hd], by unfold ugetE; rw [hd]⟩
  by_cases hodd : b.length % 2 = 1
  · obtain ⟨e1, e2⟩ := bad (dec_odd b (-1) hodd)
    rw [if_pos (by rw [hodd]; decide), e1, e2]
    exact ⟨rfl, rfl⟩
  have hev : b.length % 2 = 0 := by omega
  rw [if_neg (by rw [hev]; decide)]
  refine nil_go 4 89 (.ints .u8 []) rfl ⟨by simp, rfl⟩ ?_
  simp only [upd, Data.esz, List.set, Nat.reduceAdd]
  refine loop_up (fun x : Nat × List Int × List Int × Nat × Nat => x.1 ≤ b.length ∧ x.1 % 2 = 0 ∧ x.2.1 = x.2.2.1.flatMap encL ∧ dec16 (-1) b = (dec16 (-1) (b.drop x.1)).map (fun l => x.2.2.1 ++ l) ∧ x.2.1.length ≤ 3 * x.1)
    (fun x => ⟨tl 92 0 [(0, .view false (.ints .u8 b)), (4, .sl 89 x.2.2.2.1 0 1 0 x.2.1.length), (5, .int .i64 x.1)], [(89, x.2.2.2.1, .vec (.ints .u8 x.2.1))], ⟨x.2.2.2.2, [], 0⟩⟩) (fun x => b.length - x.1) (0, [], [], 6, 8) ⟨Nat.zero_le _, rfl, rfl, by simp, Nat.zero_le _⟩ ⟨rfl, ?_, ?_⟩ ?_
  · simp [LeT, tl]
  · intro m x hx
    simpa [fnd] using hx
  rintro ⟨i, out, ls, g, c⟩ ⟨hi, hi2, hout, hdec, hol⟩ ih
  simp only at hi hi2 hout hdec hol
  refine absRun_ok TO 100 _ _ ?_
  simp only [pureOpC, unc, absRun, absOps, absOp, evO, ungd, gdP, gdPs, setD, binI, binV, ptrE, convV, T_ty, tTy, pureOp, memOp, lenV, Data.len, Op.operands, Call.operands, List.getD, List.getElem?_cons_zero, List.getElem?_cons_succ, Option.getD_some, List.set, List.toList_toArray, exitTo, true_and, and_self, if_true, eq_self, Nat.zero_add, List.append_toArray, List.cons_append, List.nil_append, Nat.reduceAdd, Nat.reduceSub, beq_self_eq_true, List.replicate_succ, List.replicate_zero, tl]
  by_cases hil : i < b.length
  rotate_left
  · rw [if_neg (by rw [decide_eq_true_eq]; omega)]
    rw [List.drop_eq_nil_of_le (by omega)] at hdec
    have hd : dec16 (-1) b = some ls := by rw [hdec]; unfold dec16; rw [if_neg (by decide)]; simp
    have e1 : ugetS b = strOfNums out := by unfold ugetS; rw [hd, hout]
    have e2 : ugetE b = 0 := by unfold ugetE; rw [hd]
    refine str_ops TO rfl rfl rfl rfl rfl rfl rfl rfl (by simp) (HOps_go TO 100 ?_)
    simp only [e1, e2, List.drop_zero, pureOpC, unc, absRun, absOps, absOp, evO, constSV, ungd, gdP, gdPs, setD, retP, resV, retQ, rAs, rA, rA0, ownN, nodup, bares, bare, bare0, Op.operands, List.getD, List.getElem?_cons_zero, List.getElem?_cons_succ, Option.getD_some, List.set, List.map, List.toList_toArray, and_self, eq_self, List.take_length, Bool.and_self]
  rw [if_pos (decide_eq_true (by omega))]
  have hi1 : i + 1 < b.length := by omega
  have hd2 := drop_two hi1
  rw [hd2, dec16_two] at hdec
  have b0 := hB.getD i
  have b1 := hB.getD (i + 1)
  have b2 := hB.getD (i + 2)
  have b3 := hB.getD (i + 3)
  simp only [List.getD] at b0 b1 b2 b3
  have k1 : IntKind.i64.wrap ((i : Int) + 1) = ((i + 1 : Nat) : Int) := by rw [w64 (by omega) (by omega)]; omega
  have k2 : IntKind.i64.wrap ((i : Int) + 2) = ((i + 2 : Nat) : Int) := by rw [w64 (by omega) (by omega)]; omega
  have k3 : IntKind.i64.wrap ((i : Int) + 3) = ((i + 3 : Nat) : Int) := by rw [w64 (by omega) (by omega)]; omega
  refine draw_go TO 14 100 mixed_ok (by decide +kernel) ?_
  have wv : ∀ x y : Int, 0 ≤ x → x < 256 → 0 ≤ y → y < 256 → IntKind.i64.wrap (IntKind.i64.wrap x + IntKind.i64.wrap (256 * IntKind.i64.wrap y)) = x + 256 * y := fun x y hx hx2 hy hy2 => by
    rw [w64 (x := x) (by omega) (by omega), w64 (x := y) (by omega) (by omega), w64 (x := 256 * y) (by omega) (by omega), w64 (by omega) (by omega)]
  have wu := wv _ _ b0.1 b0.2 b1.1 b1.2
  have wl := wv _ _ b2.1 b2.2 b3.1 b3.2
  simp only [k1, List.take_succ_cons, List.take_zero, List.drop_succ_cons, List.drop_zero, pureOpC, gloadV, GT, unc, isEff, absD, pureStep, absRun, absOps, absOp, evO, constSV, ungd, gdP, gdPs, setD, binI, binV, ptrE, convV, binS, T_ty, T_size, tTy, tSize, iaddrV, pickV, pureOp, guardOf, memOp, lenV, loadV, known, blkAt, elemV, Data.len, Data.esz, retP, resV, retQ, rAs, rA, rA0, ownN, nodup, bares, bare, bare0, Op.operands, Call.operands, List.getD, List.getElem?_cons_zero, List.getElem?_cons_succ, Option.getD_some, List.set, List.map, List.toList_toArray, List.getElem?_toArray, Option.bind_some, true_and, and_true, and_self, implies_true, imp_self, eq_self, ne_eq, not_false_eq_true, forall_const, reduceCtorEq, Int.toNat_natCast, Bool.cond_true_left, Bool.cond_false_right, List.append_toArray, List.nil_append, Nat.reduceLT, Nat.succ_ne_self, Bool.and_self, gt_iff_lt, ge_iff_le, wu]
  generalize hu : b[i]?.getD 0 + 256 * b[i + 1]?.getD 0 = u at *
  have hu0 : 0 ≤ u ∧ u < 65536 := by omega
  refine ⟨⟨by omega, by omega⟩, ⟨by omega, by omega⟩, ?_⟩
  by_cases c2 : 55296 ≤ u ∧ u < 56320
  · have dh : (decide (55296 ≤ u) && decide (u < 56320)) = true := by simp; exact c2
    rw [if_neg (by omega), if_neg (by decide), if_pos c2] at hdec
    rw [if_pos dh]
    simp only [k3, Int.toNat_natCast]
    by_cases h3 : b.length ≤ i + 3
    · have hd : dec16 (-1) b = none := by rw [hdec, List.drop_eq_nil_of_le (by omega)]; unfold dec16; rw [if_pos (by omega)]; rfl
      obtain ⟨e1, e2⟩ := bad hd
      simp only [decide_eq_true (show (b.length : Int) ≤ ((i + 3 : Nat) : Int) by omega), e1, e2, true_and, and_true, if_true, eq_self, false_implies, Bool.false_eq_true, Bool.not_true, Bool.true_or]
      rfl
    have hd4 := drop_two (b := b) (i := i + 2) (by omega)
    rw [hd4, dec16_two] at hdec
    simp only [decide_eq_false (show ¬ (b.length : Int) ≤ ((i + 3 : Nat) : Int) by omega), eq_self, forall_const, Bool.not_false, Bool.false_or]
    refine ⟨⟨by omega, by omega⟩, fun _ => ⟨by omega, by omega⟩, ?_⟩
    rw [show i + 2 + 1 = i + 3 by omega, show i + 2 + 2 = i + 4 by omega] at hdec
    generalize hlo : b[i + 2]?.getD 0 + 256 * b[i + 3]?.getD 0 = v at *
    by_cases h4 : 56320 ≤ v ∧ v < 57344
    rotate_left
    · have hd : dec16 (-1) b = none := by rw [hdec, if_neg h4, if_pos (by omega)]; rfl
      obtain ⟨e1, e2⟩ := bad hd
      rw [if_pos (by simp only [Bool.or_eq_true, decide_eq_true_eq]; omega), e1, e2]
      exact ⟨rfl, rfl⟩
    rw [if_pos h4, if_pos (by omega)] at hdec
    rw [if_neg (by simp only [Bool.or_eq_true, decide_eq_true_eq]; omega)]
    have hn : scalI (65536 + (u - 55296) * 1024 + (v - 56320)) := by unfold scalI; omega
    have hbm := bytes_meets _ hn
    obtain ⟨p1, p2, p3⟩ := encL_pos hn
    have s1 : IntKind.i64.wrap (IntKind.i64.wrap (IntKind.i64.wrap (65536 + IntKind.i64.wrap (1024 * IntKind.i64.wrap (u - 55296))) + v) - 56320) = 65536 + (u - 55296) * 1024 + (v - 56320) := by
      rw [w64 (x := u - 55296) (by omega) (by omega), w64 (x := 1024 * (u - 55296)) (by omega) (by omega), w64 (x := 65536 + 1024 * (u - 55296)) (by omega) (by omega), w64 (x := 65536 + 1024 * (u - 55296) + v) (by omega) (by omega), w64 (by omega) (by omega)]
      omega
    have k4 : IntKind.i64.wrap (((i + 2 : Nat) : Int) + 2) = ((i + 4 : Nat) : Int) := by rw [w64 (by omega) (by omega)]; omega
    generalize 65536 + (u - 55296) * 1024 + (v - 56320) = n at *
    refine draw_go TO 14 100 mixed_ok (by decide +kernel) ?_
    simp only [k2, k3, List.take_succ_cons, List.take_zero, List.drop_succ_cons, List.drop_zero, pureOpC, unc, isEff, absD, pureStep, absRun, absOps, absOp, evO, constSV, ungd, gdP, gdPs, setD, binI, binV, ptrE, convV, binS, T_ty, T_size, tTy, tSize, iaddrV, pureOp, memOp, loadV, known, blkAt, elemV, Data.len, Data.esz, Op.operands, List.getD, List.getElem?_cons_zero, List.getElem?_cons_succ, Option.getD_some, List.set, List.toList_toArray, true_and, and_true, and_self, implies_true, imp_self, eq_self, ne_eq, not_false_eq_true, forall_const, reduceCtorEq, Int.toNat_natCast, Nat.reduceLT, Nat.succ_ne_self, wl, s1]
    refine ⟨⟨by omega, by omega⟩, ⟨by omega, by omega⟩, ?_⟩
    refine call_go TO 100 hbm Tryd.func88 (by decide +kernel) rfl rfl rfl ?_
    simp only [List.drop_zero, pureOpC, unc, fitT, absRun, absOps, absOp, evO, constSV, ungd, gdP, gdPs, setD, binI, binV, ptrE, T_ty, T_size, T_bytes, T_zero, tTy, tSize, tBytes, tZero, pureOp, memOp, notIn, dataOf, appD, isSrc, zI, blkAt, fnd, upd, del, mv, Data.len, Data.esz, Data.sub, Lim.add, ownN, nodup, bares, bare, bareD, guardIs, callP, callS, argS, mAs, mA, mA0, mB0, allNotIn, nm, impN, impB, impT, packS, delL, Op.operands, Call.operands, List.getD, List.getElem?_cons_zero, List.getElem?_cons_succ, Option.getD_some, List.set, List.map, List.toList_toArray, true_and, and_self, if_true, if_false, eq_self, List.take_length, Nat.zero_add, Nat.add_zero, Nat.le_refl, List.append_toArray, List.nil_append, List.append_nil, Nat.reduceAdd, Nat.reduceMul, Nat.reduceEqDiff, Bool.and_self, k4]
    refine ⟨⟨by omega, by omega⟩, ?_⟩
    rw [show i + 2 + 2 = i + 4 by omega] at *
    refine ih (i + 4, out ++ encL n, ls ++ [n], c + 9, _) _ ⟨by omega, by omega, by simp [hout], ?_, by simp only [List.length_append]; omega⟩ (by simp only; omega) rfl ?_ ?_
    · rw [hdec, Option.map_map]
      congr 1
      funext l
      simp
    · simp [LeT, tl]
    · intro m x hx
      simp only [fnd] at hx ⊢
      split at hx
      · rename_i e; subst e; simpa using hx
      cases hx
  have dh : (decide (55296 ≤ u) && decide (u < 56320)) = false := by
    rw [Bool.and_eq_false_iff, decide_eq_false_iff_not, decide_eq_false_iff_not]; omega
  rw [if_neg (by rw [dh]; decide)]
  have hL := Letter_meets u
  refine call_go TO 100 hL Tryd.func87 (by decide +kernel) rfl rfl rfl ?_
  by_cases c1 : 56320 ≤ u ∧ u < 57344
  · rw [if_pos c1, if_neg (by decide)] at hdec
    obtain ⟨e1, e2⟩ := bad (by rw [hdec]; rfl)
    have hlb : letB u = false := by
      unfold letB
      rw [decide_eq_false (show ¬ u < 55296 by omega), decide_eq_false (show ¬ 57343 < u by omega)]
      simp
    simp only [hlb, e1, e2, pureOpC, unc, absRun, absOps, absOp, evO, constSV, ungd, gdP, gdPs, setD, unV, pureOp, memOp, retP, resV, retQ, rAs, rA, rA0, ownN, nodup, bares, bare, bare0, guardIs, callP, callS, argS, mAs, mA, mA0, mB0, allNotIn, impN, impB, impT, packS, delL, Op.operands, List.getD, List.getElem?_cons_zero, List.getElem?_cons_succ, Option.getD_some, List.set, List.map, List.toList_toArray, true_and, and_true, and_self, if_true, eq_self, List.append_nil, Bool.not_false, Bool.and_self]
    rfl
  rw [if_neg c1, if_neg (by decide), if_neg c2] at hdec
  have hlb : letB u = true := by
    unfold letB
    simp
    omega
  have hn : scalI u := by unfold scalI; omega
  have hbm := bytes_meets _ hn
  obtain ⟨p1, p2, p3⟩ := encL_pos hn
  simp only [hlb, pureOpC, unc, absRun, absOps, absOp, evO, constSV, ungd, gdP, gdPs, setD, unV, pureOp, memOp, retP, resV, retQ, rAs, rA, rA0, ownN, nodup, bares, bare, bare0, guardIs, callP, callS, argS, mAs, mA, mA0, mB0, allNotIn, impN, impB, impT, packS, delL, Op.operands, List.getD, List.getElem?_cons_zero, List.getElem?_cons_succ, Option.getD_some, List.set, List.map, List.toList_toArray, true_and, and_true, and_self, if_false, eq_self, Bool.false_eq_true, List.append_nil, Bool.not_true, Bool.and_self]
  refine call_go TO 100 hbm Tryd.func88 (by decide +kernel) rfl rfl rfl ?_
  simp only [List.drop_zero, pureOpC, unc, fitT, absRun, absOps, absOp, evO, constSV, ungd, gdP, gdPs, setD, binI, binV, ptrE, T_ty, T_size, T_bytes, T_zero, tTy, tSize, tBytes, tZero, pureOp, memOp, notIn, dataOf, appD, isSrc, zI, blkAt, fnd, upd, del, mv, Data.len, Data.esz, Data.sub, Lim.add, ownN, nodup, bares, bare, bareD, guardIs, callP, callS, argS, mAs, mA, mA0, mB0, allNotIn, nm, impN, impB, impT, packS, delL, Op.operands, Call.operands, List.getD, List.getElem?_cons_zero, List.getElem?_cons_succ, Option.getD_some, List.set, List.map, List.toList_toArray, true_and, and_self, if_true, if_false, eq_self, List.take_length, Nat.zero_add, Nat.add_zero, Nat.le_refl, List.append_toArray, List.nil_append, List.append_nil, Nat.reduceAdd, Nat.reduceMul, Nat.reduceEqDiff, Bool.and_self, k2]
  refine ⟨⟨by omega, by omega⟩, ?_⟩
  refine ih (i + 2, out ++ encL u, ls ++ [u], c + 6, _) _ ⟨by omega, by omega, by simp [hout], ?_, by simp only [List.length_append]; omega⟩ (by simp only; omega) rfl ?_ ?_
  · rw [hdec, Option.map_map]
    congr 1
    funext l
    simp
  · simp [LeT, tl]
  · intro m x hx
    simp only [fnd] at hx ⊢
    split at hx
    · rename_i e; subst e; simpa using hx
    cases hx

end Go.Proofs.YtakgefinmlomdaaDoor.Abs
