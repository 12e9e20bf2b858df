/- utf8.AppendRune; utf.Get. -/
import Derived.Test.YtakgefinmlomdaaDoorU5
import Derived.Test.YtakgefinmlomdaaDoorFX
import Derived.Test.YtakgefinmlomdaaDoorRX
set_option linter.unusedVariables false
set_option linter.unusedSimpArgs false
set_option maxRecDepth 100000
namespace Go.Proofs.YtakgefinmlomdaaDoor.Abs
open Go Go.Proofs

theorem o192 {x : Int} (h0 : 0 ≤ x) (h : x < 32) : bitsI .or .u8 192 x = 192 + x := by
  obtain ⟨n, rfl⟩ : ∃ n : Nat, x = n := ⟨x.toNat, by omega⟩
  exact (by decide +kernel : ∀ x : Fin 32, bitsI .or .u8 192 (x.val : Int) = 192 + (x.val : Int)) ⟨n, by omega⟩
theorem o224 {x : Int} (h0 : 0 ≤ x) (h : x < 16) : bitsI .or .u8 224 x = 224 + x := by
  obtain ⟨n, rfl⟩ : ∃ n : Nat, x = n := ⟨x.toNat, by omega⟩
  exact (by decide +kernel : ∀ x : Fin 16, bitsI .or .u8 224 (x.val : Int) = 224 + (x.val : Int)) ⟨n, by omega⟩
theorem o240 {x : Int} (h0 : 0 ≤ x) (h : x < 8) : bitsI .or .u8 240 x = 240 + x := by
  obtain ⟨n, rfl⟩ : ∃ n : Nat, x = n := ⟨x.toNat, by omega⟩
  exact (by decide +kernel : ∀ x : Fin 8, bitsI .or .u8 240 (x.val : Int) = 240 + (x.val : Int)) ⟨n, by omega⟩
theorem o128 {x : Int} (h0 : 0 ≤ x) (h : x < 64) : bitsI .or .u8 128 x = 128 + x := by
  obtain ⟨n, rfl⟩ : ∃ n : Nat, x = n := ⟨x.toNat, by omega⟩
  exact (by decide +kernel : ∀ x : Fin 64, bitsI .or .u8 128 (x.val : Int) = 128 + (x.val : Int)) ⟨n, by omega⟩
theorem a63 {x : Int} (h0 : 0 ≤ x) (h : x < 256) : bitsI .and .u8 x 63 = x % 64 := by
  obtain ⟨n, rfl⟩ : ∃ n : Nat, x = n := ⟨x.toNat, by omega⟩
  exact (by decide +kernel : ∀ x : Fin 256, bitsI .and .u8 (x.val : Int) 63 = (x.val : Int) % 64) ⟨n, by omega⟩

theorem sh6 (x : Int) : shrI .i32 x 6 = x / 64 := by
  show x.fdiv 64 = _
  rw [Int.fdiv_eq_ediv_of_nonneg _ (by decide)]
theorem sh12 (x : Int) : shrI .i32 x 12 = x / 4096 := by
  show x.fdiv 4096 = _
  rw [Int.fdiv_eq_ediv_of_nonneg _ (by decide)]
theorem sh18 (x : Int) : shrI .i32 x 18 = x / 262144 := by
  show x.fdiv 262144 = _
  rw [Int.fdiv_eq_ediv_of_nonneg _ (by decide)]
theorem low63 {x : Int} (h0 : 0 ≤ x) : bitsI .or .u8 128 (bitsI .and .u8 (IntKind.u8.wrap x) 63) = 128 + x % 64 := by
  rw [wu8, a63 (by omega) (by omega), o128 (by omega) (by omega)]; omega

theorem appNA_meets (l : List Int) (n : Int) (hl : l.length ≤ 1099511627776) (hn : scalI n) (h : 128 ≤ n) : Meets Tryd.prog 91 [.own (.ints .u8 l), .v (.int .i32 n)] [.own (.ints .u8 (l ++ encL n))] := by
  have hh := hn
  obtain ⟨h0, h1, h2⟩ := hn
  have w32 : IntKind.u32.wrap n = n := by rw [IntKind.wrap_u32]; omega
  refine meets_go TO 100 Tryd.func91 rfl (fun X => ?_)
  simp only [Tryd.ntmps91, Tryd.results91, w32, List.take_succ_cons, List.take_zero, List.drop_zero, pureOpC, unc, fitT, svs, blks, AV.sv, absRun, absOps, absOp, evO, constSV, ungd, gdP, gdPs, setD, binI, binV, ptrE, convV, T_ty, T_size, T_bytes, T_zero, tTy, tSize, tBytes, tZero, pickV, pureOp, guardOf, memOp, newV, notIn, dataOf, appD, isSrc, elemsOf, intsOf, zI, known, blkAt, fnd, upd, del, mv, Data.len, Data.esz, Data.sub, Lim.add, retP, resV, retQ, rAs, rA, ownN, nodup, bares, bare, bareD, Op.operands, Call.operands, List.getD, List.getElem?_cons_zero, List.getElem?_cons_succ, Option.getD_some, List.set, List.map, List.toList_toArray, List.getElem?_toArray, Option.bind_some, Option.map_some, true_and, and_true, and_self, implies_true, imp_self, if_true, if_false, eq_self, Nat.zero_add, Nat.le_refl, Bool.cond_false_right, List.append_toArray, List.cons_append, List.nil_append, List.length_cons, List.length_nil, Nat.reduceAdd, Nat.reduceSub, Nat.reduceEqDiff, Nat.reduceLeDiff, Nat.succ_ne_self, List.replicate_succ, List.replicate_zero, Bool.and_self, Data.ints.injEq, Int.reduceLE, gt_iff_lt]
  have q0 := low63 (x := n) h0
  have q6 := low63 (x := n / 64) (by omega)
  have q12 := low63 (x := n / 4096) (by omega)
  rcases encL_cases hh with ⟨c, e⟩ | ⟨c, c', e⟩ | ⟨c, c', e⟩ | ⟨c, e⟩
  · omega
  · rw [if_pos (decide_eq_true c'), e]
    simp only [sh6, q0]
    rw [wu8, o192 (by omega) (by omega), show n / 64 % 256 = n / 64 by omega]
    simp
    omega
  · rw [if_neg (by simp; omega), e]
    by_cases c4 : n < 55296
    · rw [if_pos (decide_eq_true c4)]
      simp only [sh6, sh12, q0, q6]
      rw [wu8, o224 (by omega) (by omega), show n / 4096 % 256 = n / 4096 by omega]
      simp [c4]
      omega
    · rw [if_neg (by simp; omega)]
      simp only [decide_eq_true (show 57343 < n by omega), decide_eq_true c', sh6, sh12, q0, q6, if_true, eq_self, Bool.and_self]
      rw [wu8, o224 (by omega) (by omega), show n / 4096 % 256 = n / 4096 by omega]
      simp
      omega
  · rw [if_neg (by simp; omega), if_neg (by simp; omega), e]
    simp only [decide_eq_true (show 57343 < n by omega), decide_eq_false (show ¬ n ≤ 65535 by omega), if_false, Bool.false_eq_true, Bool.and_false]
    simp only [decide_eq_true (show 65535 < n by omega), decide_eq_true h1, sh6, sh12, sh18, q0, q6, q12, if_true, eq_self, Bool.and_self]
    rw [wu8, o240 (by omega) (by omega), show n / 262144 % 256 = n / 262144 by omega]
    simp
    omega

theorem app_meets (l : List Int) (n : Int) (hl : l.length ≤ 1099511627776) (hn : scalI n) : Meets Tryd.prog 85 [.own (.ints .u8 l), .v (.int .i32 n)] [.own (.ints .u8 (l ++ encL n))] := by
  have hh := hn
  obtain ⟨h0, h1, h2⟩ := hn
  have w32 : IntKind.u32.wrap n = n := by rw [IntKind.wrap_u32]; omega
  refine meets_go TO 100 Tryd.func85 rfl (fun X => ?_)
  simp only [Tryd.ntmps85, Tryd.results85, w32, List.take_succ_cons, List.take_zero, List.drop_zero, pureOpC, unc, fitT, svs, blks, AV.sv, absRun, absOps, absOp, evO, constSV, ungd, gdP, gdPs, setD, binI, binV, ptrE, convV, T_ty, T_size, T_bytes, T_zero, tTy, tSize, tBytes, tZero, pureOp, memOp, newV, notIn, dataOf, appD, isSrc, elemsOf, intsOf, zI, known, blkAt, fnd, upd, del, mv, Data.len, Data.esz, Data.sub, Lim.add, retP, resV, retQ, rAs, rA, ownN, nodup, bares, bare, bareD, Op.operands, Call.operands, List.getD, List.getElem?_cons_zero, List.getElem?_cons_succ, Option.getD_some, List.set, List.map, List.toList_toArray, Option.map_some, true_and, and_true, and_self, if_true, if_false, eq_self, Nat.zero_add, Nat.le_refl, List.append_toArray, List.cons_append, List.nil_append, List.length_cons, List.length_nil, Nat.reduceAdd, Nat.reduceSub, Nat.reduceEqDiff, Nat.reduceLeDiff, Nat.succ_ne_self, List.replicate_succ, List.replicate_zero, Bool.and_self, Data.ints.injEq]
  by_cases c : n ≤ 127
  · rw [if_pos (decide_eq_true c), wu8]
    have e : encL n = [n] := Lib.encodeRuneZ_one h0 c
    rw [e, show n % 256 = n by omega]
    simp
    omega
  · rw [if_neg (by simp; omega)]
    refine call_go TO 100 (appNA_meets l n hl hh (by omega)) Tryd.func91 (by decide +kernel) rfl rfl rfl ?_
    simp only [pureOpC, unc, absRun, absOps, absOp, evO, ungd, gdP, gdPs, setD, notIn, blkAt, fnd, upd, del, Data.len, Data.esz, retP, resV, retQ, rAs, rA, ownN, nodup, bares, bare, bareD, guardIs, callP, callS, argS, mAs, mA, mA0, mB0, lowD, allNotIn, nm, impN, impB, impT, packS, delL, Op.operands, List.getD, List.getElem?_cons_zero, List.getElem?_cons_succ, Option.getD_some, List.set, List.map, List.toList_toArray, and_self, if_true, eq_self, Nat.zero_add, Nat.add_zero, List.append_nil, Nat.reduceAdd, Nat.reduceMul, Bool.and_self]

theorem getV_two {b : List Int} {i : Nat} (h : i + 1 < b.length) : getE b.length i 2 = 0 ∧ getV b i 2 = b[i]?.getD 0 + 256 * b[i + 1]?.getD 0 ∧ b.drop i = b[i]?.getD 0 :: b[i + 1]?.getD 0 :: b.drop (i + 2) := by
  have hE : getE b.length i 2 = 0 := by
    unfold getE
    rw [if_pos (by decide)]
    exact cutE_ok (by omega) (by decide) (by omega)
  have hd : b.drop i = b[i]?.getD 0 :: b[i + 1]?.getD 0 :: b.drop (i + 2) := by
    rw [List.drop_eq_getElem_cons (by omega), List.drop_eq_getElem_cons (by omega), List.getElem?_eq_getElem (by omega), List.getElem?_eq_getElem (by omega)]
    rfl
  refine ⟨hE, ?_, hd⟩
  unfold getV
  rw [if_pos hE, cutL_ok (by omega) (by decide) (by omega), show ((i : Int)).toNat = i by omega, hd]
  simp [val]

theorem getE_short {len i : Nat} (h : i ≤ len) (h2 : len ≤ i + 1) : getE len i 2 = 4 := by
  unfold getE
  rw [if_pos (by decide)]
  unfold cutE
  rw [if_neg (by omega), if_pos (by omega)]

set_option maxHeartbeats 4000000 in
theorem uGet_meets (b : List Int) (hb : b.length ≤ 274877906944) (hB : Bytes b) : Meets Tryd.prog 77 [.v (.view false (.ints .u8 b))] [.v (.str (ugetS b)), .v (.int .i64 (ugetE b))] := by
  refine meets_go TO 100 Tryd.func77 rfl (fun X => ?_)
  simp only [Tryd.ntmps77, Tryd.results77, pureOpC, svs, blks, AV.sv, absRun, absOps, absOp, evO, constSV, ungd, gdP, gdPs, setD, Op.operands, List.set, List.toList_toArray, true_and, and_self, Nat.zero_add, List.cons_append, List.nil_append, List.length_cons, List.length_nil, Nat.reduceAdd, Nat.reduceSub, List.replicate_succ, List.replicate_zero, Int.reduceNeg]
  refine nil_go 4 70 (.ints .u8 []) rfl ⟨by simp, rfl⟩ ?_
  simp only [upd, Data.esz, List.set, Nat.reduceAdd, Int.reduceNeg]
  refine loop_up (fun x : Nat × Int × List Int × List Int × Nat × Nat => x.1 ≤ b.length ∧ (x.2.1 = -1 ∨ (55296 ≤ x.2.1 ∧ x.2.1 < 56320)) ∧ x.2.2.1 = x.2.2.2.1.flatMap encL ∧ dec16 (-1) b = (dec16 x.2.1 (b.drop x.1)).map (fun l => x.2.2.2.1 ++ l) ∧ x.2.2.1.length ≤ 3 * x.1)
    (fun x => ⟨tl 64 0 [(0, .view false (.ints .u8 b)), (4, .sl 70 x.2.2.2.2.1 0 1 0 x.2.2.1.length), (5, .int .i32 x.2.1), (6, .int .i64 x.1)], [(70, x.2.2.2.2.1, .vec (.ints .u8 x.2.2.1))], ⟨x.2.2.2.2.2, [], 0⟩⟩) (fun x => b.length - x.1) (0, -1, [], [], 6, 8) ⟨Nat.zero_le _, .inl rfl, rfl, by simp, Nat.zero_le _⟩ ⟨rfl, ?_, ?_⟩ ?_
  · simp [LeT, tl]
  · intro m x hx
    simpa [fnd] using hx
  rintro ⟨i, h, out, ls, g, c⟩ ⟨hi, hh, hout, hdec, hol⟩ ih
  simp only at hi hh hout hdec hol
  refine absRun_ok TO 100 _ _ ?_
  simp only [pureOpC, unc, absRun, absOps, absOp, evO, constSV, ungd, gdP, gdPs, setD, binI, binV, ptrE, convV, T_ty, tTy, pureOp, memOp, lenV, Data.len, retP, resV, retQ, rAs, rA, rA0, ownN, nodup, bares, bare, bare0, Op.operands, Call.operands, List.getD, List.getElem?_cons_zero, List.getElem?_cons_succ, Option.getD_some, List.set, List.map, List.toList_toArray, exitTo, true_and, and_true, and_self, if_true, eq_self, Nat.zero_add, List.append_toArray, List.cons_append, List.nil_append, Nat.reduceAdd, Nat.reduceSub, beq_self_eq_true, List.replicate_succ, List.replicate_zero, Bool.and_self, tl, Int.reduceNeg, ge_iff_le]
  by_cases hil : i < b.length
  rotate_left
  · rw [if_neg (by rw [decide_eq_true_eq]; omega)]
    rw [List.drop_eq_nil_of_le (by omega)] at hdec
    by_cases h0 : 0 ≤ h
    · have hd : dec16 (-1) b = none := by rw [hdec]; unfold dec16; rw [if_pos h0]; rfl
      have e1 : ugetS b = ByteArray.empty := by unfold ugetS; rw [hd]
      have e2 : ugetE b = 5 := by unfold ugetE; rw [hd]
      simp only [decide_eq_true h0, e1, e2, and_true, if_true, eq_self]
      rfl
    · have hd : dec16 (-1) b = some ls := by rw [hdec]; unfold dec16; rw [if_neg h0]; simp
      have e1 : ugetS b = strOfNums out := by unfold ugetS; rw [hd, hout]
      have e2 : ugetE b = 0 := by unfold ugetE; rw [hd]
      simp only [decide_eq_false h0, e1, e2, and_false, if_false, Bool.false_eq_true, Int.reduceEq]
      refine str_ops TO rfl rfl rfl rfl rfl rfl rfl rfl (by simp) (HOps_go TO 100 ?_)
      simp only [List.drop_zero, pureOpC, unc, absRun, absOps, absOp, evO, constSV, ungd, gdP, gdPs, setD, retP, resV, retQ, rAs, rA, rA0, ownN, nodup, bares, bare, bare0, Op.operands, List.getD, List.getElem?_cons_zero, List.getElem?_cons_succ, Option.getD_some, List.set, List.map, List.toList_toArray, and_self, eq_self, List.take_length, Bool.and_self]
  rw [if_pos (decide_eq_true (by omega))]
  have hG := Get_meets b i 2 (by omega) hB
  refine call_go TO 100 hG Tryd.func78 (by decide +kernel) rfl rfl rfl ?_
  by_cases hi1 : i + 1 < b.length
  rotate_left
  · rw [getE_short (by omega) (by omega)]
    have hd : dec16 (-1) b = none := by
      rw [hdec, List.drop_eq_getElem_cons hil, List.drop_eq_nil_of_le (by omega)]
      rfl
    have e1 : ugetS b = ByteArray.empty := by unfold ugetS; rw [hd]
    have e2 : ugetE b = 5 := by unfold ugetE; rw [hd]
    simp only [e1, e2, pureOpC, unc, absRun, absOps, absOp, evO, constSV, ungd, gdP, gdPs, setD, binI, binV, ptrE, convV, T_ty, tTy, extractV, pickV, pureOp, guardOf, memOp, isB, known, retP, resV, retQ, rAs, rA, rA0, ownN, nodup, bares, bare, bare0, guardIs, callP, callS, argS, mAs, mA, mA0, mB0, lowD, allNotIn, impN, impB, impT, packS, delL, Op.operands, List.getD, List.getElem?_cons_zero, List.getElem?_cons_succ, Option.getD_some, List.set, List.map, List.toList_toArray, List.getElem?_toArray, Option.bind_some, true_and, and_true, and_self, implies_true, imp_self, if_true, eq_self, Int.reduceBNe, Bool.cond_false_right, List.append_nil, Bool.and_self, Int.reduceLE, Int.reduceNeg, ge_iff_le]
    rfl
  obtain ⟨g1, g2, g3⟩ := getV_two hi1
  rw [g1, g2]
  rw [g3, dec16_two] at hdec
  have b0 := hB.getD i
  have b1 := hB.getD (i + 1)
  simp only [List.getD] at b0 b1
  generalize hu : b[i]?.getD 0 + 256 * b[i + 1]?.getD 0 = u at *
  have hu0 : 0 ≤ u ∧ u < 65536 := by omega
  have wu : IntKind.i32.wrap u = u := by rw [IntKind.wrap_i32]; omega
  have k2 : IntKind.i64.wrap ((i : Int) + 2) = ((i + 2 : Nat) : Int) := by rw [w64 (by omega) (by omega)]; omega
  by_cases c1 : 56320 ≤ u ∧ u < 57344
  · have dl : (decide (56320 ≤ u) && decide (u < 57344)) = true := by simp; exact c1
    rw [if_pos c1] at hdec
    by_cases h0 : 0 ≤ h
    · rw [if_pos h0] at hdec
      have hn : scalI (65536 + (h - 55296) * 1024 + (u - 56320)) := by unfold scalI; omega
      have ha := app_meets out _ (by omega) hn
      have s1 : IntKind.i32.wrap (IntKind.i32.wrap (65536 + shlI .i32 (IntKind.i32.wrap (h - 55296)) 10) + IntKind.i32.wrap (u - 56320)) = 65536 + (h - 55296) * 1024 + (u - 56320) := by
        have z1 : IntKind.i32.wrap (h - 55296) = h - 55296 := by rw [IntKind.wrap_i32]; omega
        have z2 : IntKind.i32.wrap (u - 56320) = u - 56320 := by rw [IntKind.wrap_i32]; omega
        have z3 : shlI .i32 (h - 55296) 10 = (h - 55296) * 1024 := by
          show IntKind.i32.wrap ((h - 55296) * 1024) = _
          rw [IntKind.wrap_i32]; omega
        rw [z1, z2, z3, IntKind.wrap_i32, IntKind.wrap_i32]; omega
      simp only [wu, dl, decide_eq_true h0, s1, pureOpC, unc, absRun, absOps, absOp, evO, constSV, ungd, gdP, gdPs, setD, binI, binV, ptrE, convV, T_ty, tTy, extractV, pickV, pureOp, guardOf, memOp, isB, known, retP, resV, retQ, rAs, rA, rA0, ownN, nodup, bares, bare, bare0, guardIs, callP, callS, argS, mAs, mA, mA0, mB0, lowD, allNotIn, impN, impB, impT, packS, delL, Op.operands, List.getD, List.getElem?_cons_zero, List.getElem?_cons_succ, Option.getD_some, List.set, List.map, List.toList_toArray, List.getElem?_toArray, Option.bind_some, true_and, and_true, and_self, implies_true, imp_self, if_true, if_false, eq_self, Bool.false_eq_true, Int.reduceBNe, Bool.cond_false_right, List.append_nil, Bool.not_true, beq_self_eq_true, Bool.and_self, Int.reduceLE, Int.reduceNeg, ge_iff_le]
      refine call_go TO 100 ha Tryd.func85 (by decide +kernel) rfl rfl rfl ?_
      simp only [pureOpC, unc, absRun, absOps, absOp, evO, constSV, ungd, gdP, gdPs, setD, binI, binV, ptrE, pureOp, notIn, blkAt, fnd, upd, del, Data.len, Data.esz, ownN, nodup, bares, bare, bareD, guardIs, callP, callS, argS, mAs, mA, mA0, mB0, lowD, allNotIn, nm, impN, impB, impT, packS, delL, Op.operands, List.getD, List.getElem?_cons_zero, List.getElem?_cons_succ, Option.getD_some, List.set, List.map, List.toList_toArray, true_and, and_self, if_true, eq_self, Nat.zero_add, Nat.add_zero, List.append_nil, Nat.reduceAdd, Nat.reduceMul, Bool.and_self, Int.reduceNeg, k2]
      refine ren_go 4 10816 70 ⟨by simp, rfl, rfl⟩ ?_
      simp only [upd, del, mv, List.set, if_true, eq_self, Int.reduceNeg]
      obtain ⟨p1, p2, p3⟩ := encL_pos hn
      refine ih (i + 2, -1, out ++ encL (65536 + (h - 55296) * 1024 + (u - 56320)), ls ++ [65536 + (h - 55296) * 1024 + (u - 56320)], c + 11, _) _ ⟨by omega, .inl rfl, by simp [hout], ?_, by simp only [List.length_append]; omega⟩ (by simp only; omega) rfl ?_ ?_
      · rw [hdec, Option.map_map]
        congr 1
        funext l
        simp
      · simp [LeT, tl]
      · intro m x hx
        simpa [fnd, mv, del, upd] using hx
    · rw [if_neg h0] at hdec
      have e1 : ugetS b = ByteArray.empty := by unfold ugetS; rw [hdec]; rfl
      have e2 : ugetE b = 5 := by unfold ugetE; rw [hdec]; rfl
      simp only [wu, dl, decide_eq_false h0, e1, e2, pureOpC, unc, absRun, absOps, absOp, evO, constSV, ungd, gdP, gdPs, setD, binI, binV, ptrE, convV, T_ty, tTy, extractV, pickV, pureOp, guardOf, memOp, isB, known, retP, resV, retQ, rAs, rA, rA0, ownN, nodup, bares, bare, bare0, guardIs, callP, callS, argS, mAs, mA, mA0, mB0, lowD, allNotIn, impN, impB, impT, packS, delL, Op.operands, List.getD, List.getElem?_cons_zero, List.getElem?_cons_succ, Option.getD_some, List.set, List.map, List.toList_toArray, List.getElem?_toArray, Option.bind_some, true_and, and_true, and_self, implies_true, imp_self, if_true, if_false, eq_self, Bool.false_eq_true, Int.reduceBNe, Bool.cond_false_right, List.append_nil, Bool.and_self, Int.reduceLE, Int.reduceNeg, ge_iff_le]
      rfl
  have dl : (decide (56320 ≤ u) && decide (u < 57344)) = false := by
    rw [Bool.and_eq_false_iff, decide_eq_false_iff_not, decide_eq_false_iff_not]; omega
  rw [if_neg c1] at hdec
  by_cases h0 : 0 ≤ h
  · rw [if_pos h0] at hdec
    have e1 : ugetS b = ByteArray.empty := by unfold ugetS; rw [hdec]; rfl
    have e2 : ugetE b = 5 := by unfold ugetE; rw [hdec]; rfl
    simp only [wu, dl, decide_eq_true h0, e1, e2, pureOpC, unc, absRun, absOps, absOp, evO, constSV, ungd, gdP, gdPs, setD, binI, binV, ptrE, convV, T_ty, tTy, extractV, pickV, pureOp, guardOf, memOp, isB, known, retP, resV, retQ, rAs, rA, rA0, ownN, nodup, bares, bare, bare0, guardIs, callP, callS, argS, mAs, mA, mA0, mB0, lowD, allNotIn, impN, impB, impT, packS, delL, Op.operands, List.getD, List.getElem?_cons_zero, List.getElem?_cons_succ, Option.getD_some, List.set, List.map, List.toList_toArray, List.getElem?_toArray, Option.bind_some, true_and, and_true, and_self, implies_true, imp_self, if_false, eq_self, Bool.false_eq_true, Int.reduceBNe, Bool.cond_false_right, List.append_nil, Bool.and_self, Int.reduceLE, Int.reduceNeg, ge_iff_le]
    rfl
  rw [if_neg h0] at hdec
  have hm1 : h = -1 := by omega
  by_cases c2 : 55296 ≤ u ∧ u < 56320
  · have dh : (decide (55296 ≤ u) && decide (u < 56320)) = true := by simp; exact c2
    rw [if_pos c2] at hdec
    simp only [wu, dl, dh, decide_eq_false h0, k2, pureOpC, unc, absRun, absOps, absOp, evO, constSV, ungd, gdP, gdPs, setD, binI, binV, ptrE, convV, T_ty, tTy, extractV, pickV, pureOp, guardOf, memOp, isB, known, retP, resV, retQ, rAs, rA, rA0, ownN, nodup, bares, bare, bare0, guardIs, callP, callS, argS, mAs, mA, mA0, mB0, lowD, allNotIn, impN, impB, impT, packS, delL, Op.operands, List.getD, List.getElem?_cons_zero, List.getElem?_cons_succ, Option.getD_some, List.set, List.map, List.toList_toArray, List.getElem?_toArray, Option.bind_some, true_and, and_true, and_self, implies_true, imp_self, if_true, if_false, eq_self, Bool.false_eq_true, Int.reduceBNe, Bool.cond_false_right, List.append_nil, Bool.not_true, beq_self_eq_true, Bool.and_self, Int.reduceLE, Int.reduceNeg, ge_iff_le]
    refine ih (i + 2, u, out, ls, g, _) _ ⟨by omega, .inr c2, hout, hdec, by simp only; omega⟩ (by simp only; omega) rfl ?_ ?_
    · simp [LeT, tl]
    · intro m x hx
      simpa [fnd, mv, del, upd] using hx
  · have dh : (decide (55296 ≤ u) && decide (u < 56320)) = false := by
      rw [Bool.and_eq_false_iff, decide_eq_false_iff_not, decide_eq_false_iff_not]; omega
    rw [if_neg c2] at hdec
    have hn : scalI u := by unfold scalI; omega
    have ha := app_meets out _ (by omega) hn
    simp only [wu, dl, dh, decide_eq_false h0, k2, pureOpC, unc, absRun, absOps, absOp, evO, constSV, ungd, gdP, gdPs, setD, binI, binV, ptrE, convV, T_ty, tTy, extractV, pickV, pureOp, guardOf, memOp, isB, known, retP, resV, retQ, rAs, rA, rA0, ownN, nodup, bares, bare, bare0, guardIs, callP, callS, argS, mAs, mA, mA0, mB0, lowD, allNotIn, impN, impB, impT, packS, delL, Op.operands, List.getD, List.getElem?_cons_zero, List.getElem?_cons_succ, Option.getD_some, List.set, List.map, List.toList_toArray, List.getElem?_toArray, Option.bind_some, true_and, and_true, and_self, implies_true, imp_self, if_false, eq_self, Bool.false_eq_true, Int.reduceBNe, Bool.cond_false_right, List.append_nil, Bool.not_true, beq_self_eq_true, Bool.and_self, Int.reduceLE, Int.reduceNeg, ge_iff_le]
    refine call_go TO 100 ha Tryd.func85 (by decide +kernel) rfl rfl rfl ?_
    simp only [pureOpC, unc, absRun, absOps, absOp, evO, constSV, ungd, gdP, gdPs, setD, binI, binV, ptrE, pureOp, notIn, blkAt, fnd, upd, del, Data.len, Data.esz, ownN, nodup, bares, bare, bareD, guardIs, callP, callS, argS, mAs, mA, mA0, mB0, lowD, allNotIn, nm, impN, impB, impT, packS, delL, Op.operands, List.getD, List.getElem?_cons_zero, List.getElem?_cons_succ, Option.getD_some, List.set, List.map, List.toList_toArray, true_and, and_self, if_true, eq_self, Nat.zero_add, Nat.add_zero, List.append_nil, Nat.reduceAdd, Nat.reduceMul, Bool.and_self, Int.reduceNeg, k2]
    refine ren_go 4 10560 70 ⟨by simp, rfl, rfl⟩ ?_
    simp only [upd, del, mv, List.set, if_true, eq_self, Int.reduceNeg]
    obtain ⟨p1, p2, p3⟩ := encL_pos hn
    refine ih (i + 2, h, out ++ encL u, ls ++ [u], c + 11, _) _ ⟨by omega, .inl hm1, by simp [hout], ?_, by simp only [List.length_append]; omega⟩ (by simp only; omega) rfl ?_ ?_
    · rw [hdec, Option.map_map, hm1]
      congr 1
      funext l
      simp
    · simp [LeT, tl]
    · intro m x hx
      simpa [fnd, mv, del, upd] using hx

end Go.Proofs.YtakgefinmlomdaaDoor.Abs
