/- What the document's PutAsk of file answers. -/
import Derived.Test.YtakgefinmlomdaaDoorN8
set_option linter.unusedVariables false
set_option linter.unusedSimpArgs false
set_option maxRecDepth 100000
namespace Go.Proofs.YtakgefinmlomdaaDoor.Abs
open Go Go.Proofs

theorem faW_len (c : Int) (a : Ask) : (faW c a).dialects.length ≤ 0 ∧ (faW c a).data.length ≤ a.data.length ∧ (faW c a).locks.length ≤ a.locks.length := by
  unfold faW; repeat' split
  all_goals exact ⟨by simp [askZ], by simp [askZ], by simp [askZ]⟩

set_option maxHeartbeats 8000000 in
theorem rPutAsk9_meets (c : Int) (a : Ask) (hc : 0 ≤ c) (ha : a.ok) (hs : a.small 1048576) : Meets Tryd.prog 13 [.v (.int .u16 c), .v (a.sv false)] [.own (.ints .u8 (faL c a)), .v (.int .i64 (faE c a))] := by
  have hK := fK_meets c hc
  have hA := fun X b0 c0 => frasked2_inC (X := X) (b0 := b0) (c0 := c0) c a
  have hw := faW_len c a
  have hS := Asks_meets (faW c a) a (by omega) (by have := hs.data; omega) (by have := hs.locks; omega)
  rw [asks_dec] at hS
  clear hw
  have hbad := faE_bad (c := c) (a := a)
  have hgood := faE_good (c := c) (a := a)
  have hL : faL c a = if faE c a ≠ 0 then []
    else if c = 5 then digs 4 a.access ++ (digs 4 a.sharing ++ (digs 4 a.way ++ (digs 4 a.options ++ (digs 1 a.level ++ (digs 1 a.durable ++ (digs 2 0 ++ (digs 8 a.file ++ ptL a.name)))))))
    else if c = 8 then digs 8 a.file ++ (digs 8 a.at_ ++ digs 4 a.n) else if c = 9 then digs 8 a.file ++ (digs 8 a.at_ ++ (digs 4 a.data.length ++ a.data))
    else if c = 10 then digs 8 a.file ++ (digs 2 a.locks.length ++ (digs 2 0 ++ lkL a.locks)) else digs 8 a.file := rfl
  have hd1 := hs.data
  have hd2 := hs.locks
  generalize hsw : decide (faW c a = a) = sw at *
  generalize faW c a = w at *
  generalize faE c a = E at *
  generalize faL c a = L at *
  simp only [Ask.sv, Ask.cells] at hA hS
  refine meets_go TO 100 Tryd.func13 rfl (fun X => ?_)
  simp only [Tryd.ntmps13, Tryd.results13, Ask.sv, Ask.cells, pureOpC, unc, svs, blks, AV.sv, absRun, absOps, absOp, evO, constSV, ungd, gdP, gdPs, setD, pureOp, memOp, newV, notIn, cellsOf, upd, Lim.add, Op.operands, List.getD, List.getElem?_cons_zero, List.getElem?_cons_succ, Option.getD_some, List.set, List.toList_toArray, true_and, and_self, Nat.zero_add, List.cons_append, List.nil_append, List.length_cons, List.length_nil, Nat.reduceAdd, Nat.reduceSub, List.replicate_succ, List.replicate_zero]
  refine draw_go TO 11 100 mixed_ok (by decide +kernel) ?_
  simp only [List.take_succ_cons, List.take_zero, List.drop_succ_cons, List.drop_zero, pureOpC, unc, isEff, absD, pureStep, absRun, absOps, absOp, evO, constSV, ungd, gdP, gdPs, setD, pureOp, memOp, blkAt, Data.len, Data.esz, retP, resV, retQ, rAs, rA, rA0, bares, bare, bare0, bareD, Op.operands, List.getD, List.getElem?_cons_zero, Option.getD_some, List.set, List.map, List.toList_toArray, true_and, and_true, and_self, implies_true, imp_self, eq_self, reduceCtorEq, Nat.reduceAdd, Bool.and_self]
  refine callD_go TO (fun s' h' => HOps_go TO 100 h') hK Tryd.func37 (by decide +kernel) rfl rfl rfl ?_
  cases hk : fkB c with
  | false =>
    obtain ⟨rfl, rfl⟩ := hbad (.inl hk)
    simp only [pureOpC, unc, isEff, absD, pureStep, subB, absOp, evO, ungd, gdP, gdPs, setD, unV, T_ty, T_size, tTy, tSize, pureOp, guardOf, loadV, takeC, dropC, blkAt, fnd, ownN, nodup, bares, bare, bare0, guardIs, callP, callS, argS, mAs, mA, mA0, mB0, allNotIn, impN, impB, impT, packS, delL, Op.operands, List.getD, List.getElem?_cons_zero, List.getElem?_cons_succ, Option.getD_some, List.set, List.map, List.toList_toArray, List.getElem?_toArray, Option.bind_some, Option.map_some, true_and, and_self, implies_true, if_true, eq_self, ne_eq, not_false_eq_true, reduceCtorEq, Bool.false_eq_true, List.append_nil, Nat.reduceAdd, Nat.reduceSub, Nat.reduceLeDiff, Bool.not_true, Bool.not_false, Bool.and_self]
    refine skipD_go TO (.bool false) (fun s' h' => HOps_go TO 100 h') rfl ?_
    simp only [pureOpC, unc, isEff, absD, pureStep, subB, absOp, evO, ungd, gdP, gdPs, setD, T_ty, T_size, tTy, tSize, pureOp, guardOf, loadV, takeC, dropC, blkAt, fnd, guardIs, Op.operands, List.getD, List.getElem?_cons_zero, List.getElem?_cons_succ, Option.getD_some, List.set, List.toList_toArray, List.getElem?_toArray, Option.bind_some, Option.map_some, true_and, and_self, implies_true, if_true, eq_self, ne_eq, not_false_eq_true, reduceCtorEq, Bool.false_eq_true, Nat.reduceAdd, Nat.reduceSub, Nat.reduceLeDiff, Bool.not_true]
    refine skipD_go TO (.bool false) (fun s' h' => HOps_go TO 100 h') rfl ?_
    simp only [pureOpC, unc, isEff, absD, pureStep, subB, absRun, absOps, absOp, evO, constSV, ungd, gdP, gdPs, setD, unV, pickV, pureOp, guardOf, fnd, Data.len, retP, resV, retQ, rAs, rA, rA0, ownN, nodup, bares, bare, bare0, bareD, guardIs, Op.operands, List.getD, List.getElem?_cons_zero, List.getElem?_cons_succ, Option.getD_some, List.set, List.map, List.toList_toArray, List.getElem?_toArray, Option.bind_some, true_and, and_self, implies_true, imp_self, if_true, eq_self, Bool.false_eq_true, Bool.cond_true, List.length_nil, Nat.reduceAdd, Bool.not_true, Bool.not_false, Bool.and_self]
  | true =>
    simp only [pureOpC, unc, isEff, absD, pureStep, subB, absOp, evO, ungd, gdP, gdPs, setD, unV, T_ty, T_size, tTy, tSize, pureOp, guardOf, loadV, takeC, dropC, blkAt, fnd, ownN, nodup, bares, bare, bare0, guardIs, callP, callS, argS, mAs, mA, mA0, mB0, allNotIn, impN, impB, impT, packS, delL, Op.operands, List.getD, List.getElem?_cons_zero, List.getElem?_cons_succ, Option.getD_some, List.set, List.map, List.toList_toArray, List.getElem?_toArray, Option.bind_some, Option.map_some, true_and, and_self, implies_true, if_true, eq_self, ne_eq, not_false_eq_true, reduceCtorEq, List.append_nil, Nat.reduceAdd, Nat.reduceSub, Nat.reduceLeDiff, Bool.not_true, Bool.not_false, Bool.and_self]
    refine inCD_go TO (fun s' h' => HOps_go TO 100 h') (hA X _ _ rfl rfl rfl) Tryd.func38 (by decide +kernel) rfl rfl rfl ?_
    simp only [pureOpC, unc, isEff, absD, pureStep, subB, absOp, evO, ungd, gdP, gdPs, setD, T_ty, T_size, tTy, tSize, pureOp, guardOf, loadV, takeC, dropC, blkAt, fnd, guardIs, argC, Op.operands, List.getD, List.getElem?_cons_zero, List.getElem?_cons_succ, Option.getD_some, List.set, List.map, List.toList_toArray, List.getElem?_toArray, Option.bind_some, Option.map_some, true_and, and_self, implies_true, if_true, eq_self, ne_eq, not_false_eq_true, reduceCtorEq, Nat.reduceAdd, Nat.reduceSub, Nat.reduceLeDiff, Bool.not_false]
    refine callD_go TO (fun s' h' => HOps_go TO 100 h') hS Tryd.func15 (by decide +kernel) rfl rfl rfl ?_
    cases hsv : sw with
    | false =>
      obtain ⟨rfl, rfl⟩ := hbad (.inr (.inl hsv))
      simp only [pureOpC, unc, isEff, absD, pureStep, subB, absRun, absOps, absOp, evO, constSV, ungd, gdP, gdPs, setD, unV, pickV, pureOp, guardOf, fnd, Data.len, retP, resV, retQ, rAs, rA, rA0, ownN, nodup, bares, bare, bare0, bareD, guardIs, callP, callS, argS, mAs, mA, mA0, mB0, mAl, lowD, allNotIn, impN, impB, impT, packS, delL, Op.operands, List.getD, List.getElem?_cons_zero, List.getElem?_cons_succ, Option.getD_some, List.set, List.map, List.toList_toArray, List.getElem?_toArray, Option.bind_some, true_and, and_self, implies_true, if_true, eq_self, Bool.cond_false, List.append_nil, List.length_nil, Nat.reduceAdd, Bool.not_false, Bool.and_self]
    | true =>
    simp only [pureOpC, unc, isEff, absD, pureStep, subB, absRun, absOps, absOp, evO, constSV, ungd, gdP, gdPs, setD, unV, pickV, pureOp, guardOf, fnd, Data.len, retP, resV, retQ, rAs, rA, rA0, ownN, nodup, bares, bare, bare0, bareD, guardIs, callP, callS, argS, mAs, mA, mA0, mB0, mAl, lowD, allNotIn, impN, impB, impT, packS, delL, Op.operands, List.getD, List.getElem?_cons_zero, List.getElem?_cons_succ, Option.getD_some, List.set, List.map, List.toList_toArray, List.getElem?_toArray, Option.bind_some, true_and, and_true, and_self, implies_true, if_true, if_false, eq_self, Bool.false_eq_true, Bool.cond_false, List.append_nil, Nat.reduceAdd, Bool.not_true, Bool.not_false, Bool.and_self]
    refine loop_up (fun x : Nat × Nat => x.1 ≤ a.locks.length ∧ opB a.locks = opB (a.locks.drop x.1))
      (fun x => ⟨tl 168 0 [(0, .int .u16 c), (3, .ptr 3 2 0), (4, .nil), (5, .int .i64 0), (6, .int .i64 x.1)], [(3, 2, .cells (a.cells false))], ⟨x.2, [], 0⟩⟩) (fun x => a.locks.length - x.1) (0, _) ⟨Nat.zero_le _, rfl⟩ ⟨rfl, ?_, ?_⟩ ?_
    · simp [LeT, tl]
    · intro n x hx
      simpa [fnd, Ask.cells] using hx
    rintro ⟨i, c1⟩ ⟨hi, hall⟩ ih
    simp only at hi hall
    refine absRun_ok TO 100 _ _ ?_
    simp only [Ask.cells, pureOpC, unc, absRun, absOps, absOp, evO, constSV, ungd, gdP, gdPs, setD, binI, binV, ptrE, convV, T_ty, T_size, tTy, tSize, fieldOf, faddrV, iaddrV, pickV, pureOp, guardOf, memOp, lenV, loadV, known, cellAt, blkAt, fnd, elemV, Data.len, Data.esz, retP, resV, retQ, rAs, rA, rA0, ownN, nodup, bares, bare, bare0, bareD, Op.operands, Call.operands, List.getD, List.getElem?_cons_zero, List.getElem?_cons_succ, Option.getD_some, List.set, List.map, List.toList_toArray, List.getElem?_toArray, Option.bind_some, exitTo, true_and, and_true, and_self, implies_true, imp_self, if_true, if_false, eq_self, ne_eq, not_false_eq_true, reduceCtorEq, Nat.zero_add, Nat.add_zero, Int.toNat_natCast, Bool.cond_true_left, List.append_toArray, List.cons_append, List.nil_append, Nat.reduceAdd, Nat.reduceSub, Nat.reduceLT, Nat.succ_ne_self, beq_self_eq_true, List.replicate_succ, List.replicate_zero, Bool.and_self, tl, gt_iff_lt]
    by_cases hil : i < a.locks.length
    · rw [if_pos (decide_eq_true (by omega))]
      have wi : IntKind.i64.wrap ((i : Int) + 1) = ((i + 1 : Nat) : Int) := by rw [w64 (by omega) (by omega)]; omega
      have g2 : a.locks.drop i = (a.locks[i]?.getD default) :: a.locks.drop (i + 1) := by
        rw [List.drop_eq_getElem_cons hil, List.getElem?_eq_getElem hil]; rfl
      rw [g2] at hall
      simp only [wi]
      refine ⟨by omega, ?_⟩
      generalize a.locks[i]?.getD default = x at *
      have hm : opB (x :: a.locks.drop (i + 1)) = ((x.op == 0) && opB (a.locks.drop (i + 1))) := rfl
      rw [hm] at hall
      refine ite_both (fun hb => ?_) (fun hb => ?_)
      · have e : opB a.locks = false := by
          rw [hall]
          have : (x.op == 0) = false := by simpa using hb
          rw [this]; rfl
        obtain ⟨rfl, rfl⟩ := hbad (.inr (.inr e))
        simp only [and_self, eq_self, List.length_nil]
      · have e : (x.op == 0) = true := by simpa using hb
        rw [e, Bool.true_and] at hall
        refine ih (i + 1, _) _ ⟨hil, hall⟩ (by simp only; omega) rfl ?_ ?_
        · simp [LeT, tl]
        · intro n x hx
          simp only [fnd, Ask.cells] at hx ⊢
          split at hx
          · rename_i e; subst e; simpa using hx
          cases hx
    rw [if_neg (by rw [decide_eq_true_eq]; omega)]
    have hop : opB a.locks = true := by rw [hall, List.drop_eq_nil_of_le (by omega)]; rfl
    have hE := hgood hk hsv hop
    clear ih hbad hgood hA hS hK hall hi hil
    refine ite_both (fun hb => ?_) (fun hb => ?_)
    · have hE2 : E = 3 := by rw [hE, if_pos (by simp at hb; omega)]
      have hL2 : L = [] := by rw [hL, if_pos (by rw [hE2]; decide)]
      rw [hE2, hL2]
      exact ⟨rfl, rfl⟩
    have hb2 : a.data.length ≤ 32768 ∧ a.locks.length ≤ 16 := by simp at hb; omega
    rw [if_neg (by omega)] at hE
    have f0 := ha.file.1
    have f1 := ha.file.2
    have t0 := ha.at_.1
    have t1 := ha.at_.2
    have n0 := ha.n.1
    have n1 := ha.n.2
    have x1 := ha.access.1
    have x2 := ha.access.2
    have x3 := ha.sharing.1
    have x4 := ha.sharing.2
    have x5 := ha.way.1
    have x6 := ha.way.2
    have x7 := ha.options.1
    have x8 := ha.options.2
    have x9 := ha.level
    have x10 := ha.durable
    have s3 := hs.name
    have w1 : IntKind.u64.wrap a.access = a.access := wu64 (by omega) (by omega)
    have w2 : IntKind.u64.wrap a.sharing = a.sharing := wu64 (by omega) (by omega)
    have w3 : IntKind.u64.wrap a.way = a.way := wu64 (by omega) (by omega)
    have w4 : IntKind.u64.wrap a.options = a.options := wu64 (by omega) (by omega)
    have wn : IntKind.u64.wrap a.n = a.n := wu64 (by omega) (by omega)
    have wd : IntKind.u64.wrap (a.data.length : Int) = a.data.length := wu64 (by omega) (by omega)
    have wl : IntKind.u64.wrap (a.locks.length : Int) = a.locks.length := wu64 (by omega) (by omega)
    have lay : ∀ (l : List Int) (n : Int) (k : Nat), l.length ≤ 1000000000 → szB k = true → 0 ≤ n → n < 256 ^ k → n < 18446744073709551616 → Meets Tryd.prog 39 [.own (.ints .u8 l), .v (.int .u64 n), .v (.int .i64 k)] [.own (.ints .u8 (l ++ digs k n))] := Lay_meets
    by_cases c5 : c = 5
    · subst c5
      rw [if_pos rfl] at hE
      rw [if_pos rfl] at hL
      have hfour : [a.level, a.durable, 0, 0] = digs 1 a.level ++ (digs 1 a.durable ++ digs 2 0) := by
        have y1 := x9.1
        have y2 := x9.2
        have y3 := x10.1
        have y4 := x10.2
        simp only [digs, List.cons_append, List.nil_append, List.cons.injEq, and_true]
        omega
      simp only [w1, if_true, eq_self, beq_self_eq_true]
      have hQ := lay ([]) a.access 4 (by first | (simp; done) | (simp only [List.length_append, digs_length, List.length_cons, List.length_nil]; omega)) rfl (by omega) (by omega) (by omega)
      rw [List.nil_append] at hQ
      refine call_go TO 100 hQ Tryd.func39 (by decide +kernel) rfl rfl rfl ?_
      clear hQ
      simp only [w2, pureOpC, unc, absRun, absOps, absOp, evO, constSV, ungd, gdP, gdPs, setD, convV, T_ty, T_size, tTy, tSize, fieldOf, faddrV, pureOp, memOp, loadV, notIn, known, cellAt, blkAt, fnd, upd, Data.len, Data.esz, ownN, nodup, bares, bare, bareD, guardIs, callP, callS, argS, mAs, mA, mA0, mB0, allNotIn, nm, impN, impB, impT, packS, delL, Op.operands, List.getD, List.getElem?_cons_zero, List.getElem?_cons_succ, Option.getD_some, List.set, List.map, List.toList_toArray, true_and, and_self, if_true, if_false, eq_self, ne_eq, not_false_eq_true, reduceCtorEq, Nat.zero_add, Nat.add_zero, Int.cast_ofNat_Int, List.append_nil, List.length_nil, Nat.reduceAdd, Nat.reduceSub, Nat.reduceMul, Nat.reduceEqDiff, Nat.reduceLT, Nat.succ_ne_self, Bool.and_self]
      have hQ := lay ((digs 4 a.access)) a.sharing 4 (by first | (simp; done) | (simp only [digs_length]; omega)) rfl (by omega) (by omega) (by omega)
      refine call_go TO 100 hQ Tryd.func39 (by decide +kernel) rfl rfl rfl ?_
      clear hQ
      simp only [w3, pureOpC, unc, absRun, absOps, absOp, evO, constSV, ungd, gdP, gdPs, setD, convV, T_ty, T_size, tTy, tSize, fieldOf, faddrV, pureOp, memOp, loadV, notIn, known, cellAt, blkAt, fnd, upd, del, Data.len, Data.esz, ownN, nodup, bares, bare, bareD, guardIs, callP, callS, argS, mAs, mA, mA0, mB0, lowD, allNotIn, nm, impN, impB, impT, packS, delL, Op.operands, List.getD, List.getElem?_cons_zero, List.getElem?_cons_succ, Option.getD_some, List.set, List.map, List.toList_toArray, true_and, and_self, if_true, if_false, eq_self, ne_eq, not_false_eq_true, reduceCtorEq, Nat.zero_add, Nat.add_zero, Int.cast_ofNat_Int, List.append_nil, Nat.reduceAdd, Nat.reduceSub, Nat.reduceMul, Nat.reduceEqDiff, Nat.reduceLT, Nat.succ_ne_self, Bool.and_self]
      have hQ := lay (((digs 4 a.access) ++ digs 4 a.sharing)) a.way 4 (by first | (simp; done) | (simp only [List.length_append, digs_length]; omega)) rfl (by omega) (by omega) (by omega)
      refine call_go TO 100 hQ Tryd.func39 (by decide +kernel) rfl rfl rfl ?_
      clear hQ
      simp only [w4, pureOpC, unc, absRun, absOps, absOp, evO, constSV, ungd, gdP, gdPs, setD, convV, T_ty, T_size, tTy, tSize, fieldOf, faddrV, pureOp, memOp, loadV, notIn, known, cellAt, blkAt, fnd, upd, del, Data.len, Data.esz, ownN, nodup, bares, bare, bareD, guardIs, callP, callS, argS, mAs, mA, mA0, mB0, lowD, allNotIn, nm, impN, impB, impT, packS, delL, Op.operands, List.getD, List.getElem?_cons_zero, List.getElem?_cons_succ, Option.getD_some, List.set, List.map, List.toList_toArray, true_and, and_self, if_true, if_false, eq_self, ne_eq, not_false_eq_true, reduceCtorEq, Nat.zero_add, Nat.add_zero, Int.cast_ofNat_Int, List.append_nil, Nat.reduceAdd, Nat.reduceSub, Nat.reduceMul, Nat.reduceEqDiff, Nat.reduceLT, Nat.succ_ne_self, Bool.and_self]
      have hQ := lay ((((digs 4 a.access) ++ digs 4 a.sharing) ++ digs 4 a.way)) a.options 4 (by first | (simp; done) | (simp only [List.length_append, digs_length]; omega)) rfl (by omega) (by omega) (by omega)
      refine call_go TO 100 hQ Tryd.func39 (by decide +kernel) rfl rfl rfl ?_
      clear hQ
      simp only [List.take_succ_cons, List.take_zero, List.drop_zero, pureOpC, unc, fitT, absRun, absOps, absOp, evO, constSV, ungd, gdP, gdPs, setD, T_ty, T_size, T_bytes, T_zero, tTy, tSize, tBytes, tZero, fieldOf, faddrV, pureOp, memOp, loadV, newV, notIn, dataOf, appD, isSrc, elemsOf, intsOf, zI, cellAt, blkAt, fnd, upd, del, mv, Data.len, Data.esz, Data.sub, Lim.add, ownN, nodup, bares, bare, bareD, guardIs, callP, callS, argS, mAs, mA, mA0, mB0, lowD, allNotIn, nm, impN, impB, impT, packS, delL, Op.operands, Call.operands, List.getD, List.getElem?_cons_zero, List.getElem?_cons_succ, Option.getD_some, List.set, List.map, List.toList_toArray, Option.map_some, true_and, and_self, if_true, if_false, eq_self, ne_eq, not_false_eq_true, reduceCtorEq, Nat.zero_add, Nat.add_zero, Int.cast_ofNat_Int, Nat.le_refl, List.append_toArray, List.nil_append, List.append_nil, List.length_cons, List.length_nil, Nat.reduceAdd, Nat.reduceSub, Nat.reduceMul, Nat.reduceEqDiff, Nat.reduceLeDiff, Nat.reduceLT, Nat.succ_ne_self, Bool.and_self]
      have hl16 : ((((digs 4 a.access) ++ digs 4 a.sharing) ++ digs 4 a.way) ++ digs 4 a.options).length = 16 := by simp only [List.length_append, digs_length]
      refine ⟨⟨by omega, by omega⟩, ?_⟩
      have hQ := lay ((((((digs 4 a.access) ++ digs 4 a.sharing) ++ digs 4 a.way) ++ digs 4 a.options) ++ [a.level, a.durable, 0, 0])) a.file 8 (by first | (simp; done) | (simp only [List.length_append, digs_length, List.length_cons, List.length_nil]; omega)) rfl (by omega) (by omega) (by omega)
      refine call_go TO 100 hQ Tryd.func39 (by decide +kernel) rfl rfl rfl ?_
      clear hQ
      simp only [pureOpC, unc, absRun, absOps, absOp, evO, constSV, ungd, gdP, gdPs, setD, T_ty, T_size, tTy, tSize, fieldOf, faddrV, pureOp, memOp, loadV, notIn, cellAt, blkAt, fnd, upd, del, Data.len, Data.esz, ownN, nodup, bares, bare, bareD, guardIs, callP, callS, argS, mAs, mA, mA0, mB0, lowD, allNotIn, nm, impN, impB, impT, packS, delL, Op.operands, List.getD, List.getElem?_cons_zero, List.getElem?_cons_succ, Option.getD_some, List.set, List.map, List.toList_toArray, true_and, and_self, if_true, if_false, eq_self, ne_eq, not_false_eq_true, reduceCtorEq, Nat.zero_add, Nat.add_zero, Int.cast_ofNat_Int, List.append_nil, Nat.reduceAdd, Nat.reduceSub, Nat.reduceMul, Nat.reduceEqDiff, Nat.reduceLT, Nat.succ_ne_self, Bool.and_self]
      refine call_go TO 100 (rPutText_meets a.name (by omega)) Tryd.func40 (by decide +kernel) rfl rfl rfl ?_
      have hpl := pt_len a.name
      by_cases hp : ptE a.name = 0
      · rw [hp] at hE ⊢
        subst hE
        rw [if_neg (by decide)] at hL
        have hL5 : ((((((digs 4 a.access) ++ digs 4 a.sharing) ++ digs 4 a.way) ++ digs 4 a.options) ++ [a.level, a.durable, 0, 0]) ++ digs 8 a.file) ++ ptL a.name = L := by rw [hL, hfour]; simp only [List.append_assoc]
        have hz : ((((((digs 4 a.access) ++ digs 4 a.sharing) ++ digs 4 a.way) ++ digs 4 a.options) ++ [a.level, a.durable, 0, 0]) ++ digs 8 a.file).length = 28 := by simp only [List.length_append, digs_length, List.length_cons, List.length_nil]
        simp only [List.drop_zero, pureOpC, unc, fitT, absRun, absOps, absOp, evO, constSV, ungd, gdP, gdPs, setD, binI, binV, ptrE, T_ty, T_size, T_bytes, T_zero, tTy, tSize, tBytes, tZero, extractV, pureOp, memOp, notIn, dataOf, appD, isSrc, zI, blkAt, fnd, upd, del, mv, Data.len, Data.esz, Data.sub, Lim.add, retP, resV, retQ, rAs, rA, rA0, ownN, nodup, bares, bare, bare0, bareD, guardIs, callP, callS, argS, mAs, mA, mA0, mB0, allNotIn, nm, impN, impB, impT, packS, delL, Op.operands, Call.operands, List.getD, List.getElem?_cons_zero, List.getElem?_cons_succ, Option.getD_some, List.set, List.map, List.toList_toArray, true_and, and_true, and_self, if_true, if_false, eq_self, Bool.false_eq_true, List.take_length, Nat.zero_add, Nat.add_zero, Nat.le_refl, Int.reduceBNe, List.append_toArray, List.nil_append, List.append_nil, Nat.reduceAdd, Nat.reduceMul, Nat.reduceEqDiff, Bool.and_self, Data.ints.injEq]
        rw [hL5, hz]
        first | exact ⟨⟨by omega, by omega⟩, rfl, rfl⟩ | exact ⟨⟨by omega, by omega⟩, ⟨rfl, rfl⟩, rfl⟩ | (refine ⟨⟨by omega, by omega⟩, ?_⟩; simp)
      · have hp' : (ptE a.name != 0) = true := by simpa using hp
        subst hE
        rw [if_pos hp] at hL
        subst hL
        simp only [hp', List.drop_zero, pureOpC, unc, fitT, absRun, absOps, absOp, evO, constSV, ungd, gdP, gdPs, setD, binI, binV, ptrE, T_ty, T_size, T_bytes, T_zero, tTy, tSize, tBytes, tZero, extractV, pureOp, memOp, notIn, dataOf, appD, isSrc, zI, blkAt, fnd, upd, del, mv, Data.len, Data.esz, Data.sub, Lim.add, retP, resV, retQ, rAs, rA, rA0, ownN, nodup, bares, bare, bare0, bareD, guardIs, callP, callS, argS, mAs, mA, mA0, mB0, allNotIn, nm, impN, impB, impT, packS, delL, Op.operands, Call.operands, List.getD, List.getElem?_cons_zero, List.getElem?_cons_succ, Option.getD_some, List.set, List.map, List.toList_toArray, true_and, and_true, and_self, if_true, if_false, eq_self, List.take_length, Nat.zero_add, Nat.add_zero, Nat.le_refl, List.append_toArray, List.nil_append, List.append_nil, List.length_nil, Nat.reduceAdd, Nat.reduceMul, Nat.reduceEqDiff, Bool.and_self, Data.ints.injEq]
    rw [if_neg c5] at hE
    subst hE
    rw [if_neg (by decide), if_neg c5] at hL
    have d5 : (c == 5) = false := by simpa using c5
    simp only [d5, w1, if_false, Bool.false_eq_true]
    have hQ := lay ([]) a.file 8 (by first | (simp; done) | (simp only [List.length_append, digs_length, List.length_cons, List.length_nil]; omega)) rfl (by omega) (by omega) (by omega)
    rw [List.nil_append] at hQ
    refine call_go TO 100 hQ Tryd.func39 (by decide +kernel) rfl rfl rfl ?_
    clear hQ
    by_cases c8 : c = 8
    · subst c8
      rw [if_pos rfl, ← List.append_assoc] at hL
      subst hL
      simp only [wl, pureOpC, unc, absRun, absOps, absOp, evO, constSV, ungd, gdP, gdPs, setD, binI, binV, ptrE, convV, T_ty, T_size, tTy, tSize, fieldOf, faddrV, pureOp, memOp, lenV, loadV, notIn, known, cellAt, blkAt, fnd, upd, Data.len, Data.esz, retP, resV, retQ, rAs, rA, rA0, ownN, nodup, bares, bare, bare0, bareD, guardIs, callP, callS, argS, mAs, mA, mA0, mB0, allNotIn, nm, impN, impB, impT, packS, delL, Op.operands, Call.operands, List.getD, List.getElem?_cons_zero, List.getElem?_cons_succ, Option.getD_some, List.set, List.map, List.toList_toArray, true_and, and_true, and_self, if_true, if_false, eq_self, ne_eq, not_false_eq_true, reduceCtorEq, Bool.false_eq_true, Nat.zero_add, Nat.add_zero, Int.cast_ofNat_Int, Int.reduceBEq, List.append_toArray, List.nil_append, List.append_nil, List.length_nil, Nat.reduceAdd, Nat.reduceSub, Nat.reduceMul, Nat.reduceEqDiff, Nat.reduceLT, Nat.succ_ne_self, beq_self_eq_true, Bool.and_self, Data.ints.injEq]
      have hQ := lay ((digs 8 a.file)) a.at_ 8 (by first | (simp; done) | (simp only [digs_length]; omega)) rfl (by omega) (by omega) (by omega)
      refine call_go TO 100 hQ Tryd.func39 (by decide +kernel) rfl rfl rfl ?_
      clear hQ
      simp only [wn, pureOpC, unc, absRun, absOps, absOp, evO, constSV, ungd, gdP, gdPs, setD, convV, T_ty, T_size, tTy, tSize, fieldOf, faddrV, pureOp, memOp, loadV, notIn, known, cellAt, blkAt, fnd, upd, del, Data.len, Data.esz, ownN, nodup, bares, bare, bareD, guardIs, callP, callS, argS, mAs, mA, mA0, mB0, lowD, allNotIn, nm, impN, impB, impT, packS, delL, Op.operands, List.getD, List.getElem?_cons_zero, List.getElem?_cons_succ, Option.getD_some, List.set, List.map, List.toList_toArray, true_and, and_self, if_true, if_false, eq_self, ne_eq, not_false_eq_true, reduceCtorEq, Nat.zero_add, Nat.add_zero, Int.cast_ofNat_Int, List.append_nil, Nat.reduceAdd, Nat.reduceSub, Nat.reduceMul, Nat.reduceEqDiff, Nat.reduceLT, Nat.succ_ne_self, Bool.and_self]
      have hQ := lay (((digs 8 a.file) ++ digs 8 a.at_)) a.n 4 (by first | (simp; done) | (simp only [List.length_append, digs_length]; omega)) rfl (by omega) (by omega) (by omega)
      refine call_go TO 100 hQ Tryd.func39 (by decide +kernel) rfl rfl rfl ?_
      clear hQ
      simp only [pureOpC, unc, absRun, absOps, absOp, evO, constSV, ungd, gdP, gdPs, setD, notIn, blkAt, fnd, upd, del, Data.len, Data.esz, retP, resV, retQ, rAs, rA, rA0, ownN, nodup, bares, bare, bare0, bareD, guardIs, callP, callS, argS, mAs, mA, mA0, mB0, lowD, allNotIn, nm, impN, impB, impT, packS, delL, Op.operands, List.getD, List.getElem?_cons_zero, List.getElem?_cons_succ, Option.getD_some, List.set, List.map, List.toList_toArray, and_self, if_true, if_false, eq_self, Nat.zero_add, Nat.add_zero, Int.cast_ofNat_Int, List.append_nil, Nat.reduceAdd, Nat.reduceMul, Nat.reduceEqDiff, Bool.and_self]
    have d8 : (c == 8) = false := by simpa using c8
    rw [if_neg c8] at hL
    by_cases c9 : c = 9
    · subst c9
      rw [if_pos rfl, ← List.append_assoc, ← List.append_assoc] at hL
      subst hL
      simp only [wl, pureOpC, unc, absRun, absOps, absOp, evO, constSV, ungd, gdP, gdPs, setD, binI, binV, ptrE, convV, T_ty, T_size, tTy, tSize, fieldOf, faddrV, pureOp, memOp, lenV, loadV, notIn, known, cellAt, blkAt, fnd, upd, Data.len, Data.esz, retP, resV, retQ, rAs, rA, rA0, ownN, nodup, bares, bare, bare0, bareD, guardIs, callP, callS, argS, mAs, mA, mA0, mB0, allNotIn, nm, impN, impB, impT, packS, delL, Op.operands, Call.operands, List.getD, List.getElem?_cons_zero, List.getElem?_cons_succ, Option.getD_some, List.set, List.map, List.toList_toArray, true_and, and_true, and_self, if_true, if_false, eq_self, ne_eq, not_false_eq_true, reduceCtorEq, Bool.false_eq_true, Nat.zero_add, Nat.add_zero, Int.cast_ofNat_Int, Int.reduceBEq, List.append_toArray, List.nil_append, List.append_nil, List.length_nil, Nat.reduceAdd, Nat.reduceSub, Nat.reduceMul, Nat.reduceEqDiff, Nat.reduceLT, Nat.succ_ne_self, beq_self_eq_true, Bool.and_self, Data.ints.injEq]
      have hQ := lay ((digs 8 a.file)) a.at_ 8 (by first | (simp; done) | (simp only [digs_length]; omega)) rfl (by omega) (by omega) (by omega)
      refine call_go TO 100 hQ Tryd.func39 (by decide +kernel) rfl rfl rfl ?_
      clear hQ
      simp only [wd, pureOpC, unc, absRun, absOps, absOp, evO, constSV, ungd, gdP, gdPs, setD, convV, T_ty, T_size, tTy, tSize, fieldOf, faddrV, pureOp, memOp, lenV, loadV, notIn, known, cellAt, blkAt, fnd, upd, del, Data.len, Data.esz, ownN, nodup, bares, bare, bareD, guardIs, callP, callS, argS, mAs, mA, mA0, mB0, lowD, allNotIn, nm, impN, impB, impT, packS, delL, Op.operands, Call.operands, List.getD, List.getElem?_cons_zero, List.getElem?_cons_succ, Option.getD_some, List.set, List.map, List.toList_toArray, true_and, and_self, if_true, if_false, eq_self, ne_eq, not_false_eq_true, reduceCtorEq, Nat.zero_add, Nat.add_zero, Int.cast_ofNat_Int, List.append_toArray, List.nil_append, List.append_nil, Nat.reduceAdd, Nat.reduceSub, Nat.reduceMul, Nat.reduceEqDiff, Nat.reduceLT, Nat.succ_ne_self, Bool.and_self]
      have hQ := lay (((digs 8 a.file) ++ digs 8 a.at_)) (a.data.length : Int) 4 (by first | (simp; done) | (simp only [List.length_append, digs_length]; omega)) rfl (by omega) (by omega) (by omega)
      refine call_go TO 100 hQ Tryd.func39 (by decide +kernel) rfl rfl rfl ?_
      clear hQ
      simp only [pureOpC, unc, fitT, absRun, absOps, absOp, evO, constSV, ungd, gdP, gdPs, setD, T_ty, T_size, T_bytes, T_zero, tTy, tSize, tBytes, tZero, fieldOf, faddrV, pureOp, memOp, loadV, notIn, dataOf, appD, isSrc, zI, cellAt, blkAt, fnd, upd, del, mv, Data.len, Data.esz, Lim.add, retP, resV, retQ, rAs, rA, rA0, ownN, nodup, bares, bare, bare0, bareD, guardIs, callP, callS, argS, mAs, mA, mA0, mB0, lowD, allNotIn, nm, impN, impB, impT, packS, delL, Op.operands, Call.operands, List.getD, List.getElem?_cons_zero, List.getElem?_cons_succ, Option.getD_some, List.set, List.map, List.toList_toArray, true_and, and_true, and_self, if_true, if_false, eq_self, ne_eq, not_false_eq_true, reduceCtorEq, Nat.zero_add, Nat.add_zero, Int.cast_ofNat_Int, List.append_toArray, List.nil_append, List.append_nil, Nat.reduceAdd, Nat.reduceSub, Nat.reduceMul, Nat.reduceEqDiff, Nat.reduceLT, Nat.succ_ne_self, Bool.and_self]
      have hz : (((digs 8 a.file) ++ digs 8 a.at_) ++ digs 4 (a.data.length : Int)).length = 20 := by simp only [List.length_append, digs_length]
      rw [hz]
      exact ⟨by omega, by omega⟩
    have d9 : (c == 9) = false := by simpa using c9
    rw [if_neg c9] at hL
    by_cases c10 : c = 10
    · subst c10
      rw [if_pos rfl] at hL
      simp only [wl, pureOpC, unc, absRun, absOps, absOp, evO, constSV, ungd, gdP, gdPs, setD, binI, binV, ptrE, convV, T_ty, T_size, tTy, tSize, fieldOf, faddrV, pureOp, memOp, lenV, loadV, notIn, known, cellAt, blkAt, fnd, upd, Data.len, Data.esz, retP, resV, retQ, rAs, rA, rA0, ownN, nodup, bares, bare, bare0, bareD, guardIs, callP, callS, argS, mAs, mA, mA0, mB0, allNotIn, nm, impN, impB, impT, packS, delL, Op.operands, Call.operands, List.getD, List.getElem?_cons_zero, List.getElem?_cons_succ, Option.getD_some, List.set, List.map, List.toList_toArray, true_and, and_true, and_self, if_true, if_false, eq_self, ne_eq, not_false_eq_true, reduceCtorEq, Bool.false_eq_true, Nat.zero_add, Nat.add_zero, Int.cast_ofNat_Int, Int.reduceBEq, List.append_toArray, List.nil_append, List.append_nil, List.length_nil, Nat.reduceAdd, Nat.reduceSub, Nat.reduceMul, Nat.reduceEqDiff, Nat.reduceLT, Nat.succ_ne_self, beq_self_eq_true, Bool.and_self, Data.ints.injEq]
      have hQ := lay ((digs 8 a.file)) (a.locks.length : Int) 2 (by first | (simp; done) | (simp only [digs_length]; omega)) rfl (by omega) (by omega) (by omega)
      refine call_go TO 100 hQ Tryd.func39 (by decide +kernel) rfl rfl rfl ?_
      clear hQ
      simp only [pureOpC, unc, absRun, absOps, absOp, evO, constSV, ungd, gdP, gdPs, setD, pureOp, memOp, notIn, blkAt, fnd, upd, del, Data.len, Data.esz, ownN, nodup, bares, bare, bareD, guardIs, callP, callS, argS, mAs, mA, mA0, mB0, lowD, allNotIn, nm, impN, impB, impT, packS, delL, Op.operands, List.getD, List.getElem?_cons_zero, List.getElem?_cons_succ, Option.getD_some, List.set, List.map, List.toList_toArray, true_and, and_self, if_true, if_false, eq_self, Nat.zero_add, Nat.add_zero, Int.cast_ofNat_Int, List.append_nil, Nat.reduceAdd, Nat.reduceMul, Nat.reduceEqDiff, Bool.and_self]
      have hQ := lay (((digs 8 a.file) ++ digs 2 (a.locks.length : Int))) 0 2 (by first | (simp; done) | (simp only [List.length_append, digs_length]; omega)) rfl (by omega) (by omega) (by omega)
      refine call_go TO 100 hQ Tryd.func39 (by decide +kernel) rfl rfl rfl ?_
      clear hQ
      simp only [pureOpC, unc, absRun, absOps, absOp, evO, constSV, ungd, gdP, gdPs, setD, notIn, blkAt, fnd, upd, del, Data.len, Data.esz, ownN, nodup, bares, bare, bareD, guardIs, callP, callS, argS, mAs, mA, mA0, mB0, lowD, allNotIn, nm, impN, impB, impT, packS, delL, Op.operands, List.getD, List.getElem?_cons_zero, List.getElem?_cons_succ, Option.getD_some, List.set, List.map, List.toList_toArray, true_and, and_self, if_true, if_false, eq_self, Nat.zero_add, Nat.add_zero, Int.cast_ofNat_Int, List.append_nil, Nat.reduceAdd, Nat.reduceMul, Nat.reduceEqDiff, Bool.and_self]
      obtain ⟨B0, hB0⟩ : ∃ B0, B0 = (((digs 8 a.file) ++ digs 2 (a.locks.length : Int)) ++ digs 2 0) := ⟨_, rfl⟩
      have hB0l : B0.length = 12 := by rw [hB0]; simp only [List.length_append, digs_length]
      have hL3 : L = B0 ++ lkL a.locks := by rw [hL, hB0]; simp only [List.append_assoc]
      rw [← hB0]
      clear hL hB0
      refine ren_go 7 12112 12656 ⟨by simp, rfl, rfl⟩ ?_
      simp only [upd, del, mv, List.set, if_true, if_false, eq_self, Nat.reduceEqDiff]
      refine loop_up (fun x : Nat × Nat × Nat => x.1 ≤ a.locks.length)
        (fun x => ⟨tl 168 0 [(0, .int .u16 10), (3, .ptr 3 2 0), (4, .nil), (5, .int .i64 0), (7, .sl 12656 x.2.1 0 1 0 (B0 ++ lkL (a.locks.take x.1)).length), (10, .int .i64 x.1)], [(3, 2, .cells (a.cells false)), (12656, x.2.1, .vec (.ints .u8 (B0 ++ lkL (a.locks.take x.1))))], ⟨x.2.2, [], 0⟩⟩) (fun x => a.locks.length - x.1) (0, c1 + 13, _) (Nat.zero_le _) ⟨rfl, ?_, ?_⟩ ?_
      · simp [LeT, tl, lkL]
      · intro n x hx
        simp only [fnd, Ask.cells] at hx ⊢
        split at hx
        · rename_i e; subst e; simpa using hx
        split at hx
        · rename_i e; subst e; simpa [lkL] using hx
        cases hx
      rintro ⟨i2, g, c2⟩ hi2 ih
      simp only at hi2
      refine absRun_ok TO 100 _ _ ?_
      simp only [Ask.cells, pureOpC, unc, absRun, absOps, absOp, evO, constSV, ungd, gdP, gdPs, setD, binI, binV, ptrE, T_ty, T_size, tTy, tSize, fieldOf, faddrV, iaddrV, pureOp, memOp, lenV, loadV, notIn, cellAt, blkAt, fnd, elemV, Data.len, Data.esz, retP, resV, retQ, rAs, rA, rA0, ownN, nodup, bares, bare, bare0, bareD, Op.operands, Call.operands, List.getD, List.getElem?_cons_zero, List.getElem?_cons_succ, Option.getD_some, List.set, List.map, List.toList_toArray, exitTo, true_and, and_true, and_self, if_true, if_false, eq_self, ne_eq, not_false_eq_true, reduceCtorEq, Bool.false_eq_true, Nat.zero_add, Int.toNat_natCast, List.append_toArray, List.cons_append, List.nil_append, Nat.reduceAdd, Nat.reduceSub, Nat.reduceEqDiff, Nat.reduceBEq, Nat.reduceLT, Nat.succ_ne_self, beq_self_eq_true, List.replicate_succ, List.replicate_zero, Bool.and_self, Data.ints.injEq, tl]
      by_cases hil : i2 < a.locks.length
      · rw [if_pos (decide_eq_true (by omega))]
        have wi : IntKind.i64.wrap ((i2 : Int) + 1) = ((i2 + 1 : Nat) : Int) := by rw [w64 (by omega) (by omega)]; omega
        have g1 : a.locks[i2]? = some (a.locks[i2]?.getD default) := by rw [List.getElem?_eq_getElem hil]; rfl
        have g2 : a.locks[i2]?.getD default ∈ a.locks := List.mem_of_getElem? g1
        have g3 : a.locks.take (i2 + 1) = a.locks.take i2 ++ [a.locks[i2]?.getD default] := by rw [List.take_add_one, g1]; rfl
        have gl := lkL_len (a.locks.take i2)
        rw [List.length_take] at gl
        have go := ha.locks _ g2
        refine ⟨by omega, ?_⟩
        generalize hx : a.locks[i2]?.getD default = x at *
        obtain ⟨z1, z0, z2, z3, z4⟩ := go
        have o0 := z2.1
        have o1 := z2.2
        have o2 := z3.1
        have o3 := z3.2
        have o4 := z4.1
        have o5 := z4.2
        have wk2 : IntKind.u64.wrap x.mode = x.mode := wu64 (by omega) (by omega)
        have hl3 : B0 ++ lkL (a.locks.take i2) ++ digs 8 x.at_ ++ digs 8 x.n ++ digs 2 x.mode ++ digs 2 0 = B0 ++ lkL (a.locks.take (i2 + 1)) := by
          rw [g3, lkL_snoc]; simp only [List.append_assoc]
        have hQ := lay ((B0 ++ lkL (a.locks.take i2))) x.at_ 8 (by first | (simp; done) | (simp only [List.length_append]; omega)) rfl (by omega) (by omega) (by omega)
        refine call_go TO 100 hQ Tryd.func39 (by decide +kernel) rfl rfl rfl ?_
        clear hQ
        simp only [hx, pureOpC, unc, absRun, absOps, absOp, evO, constSV, ungd, gdP, gdPs, setD, T_ty, T_size, tTy, tSize, fieldOf, faddrV, iaddrV, pureOp, memOp, loadV, notIn, cellAt, blkAt, fnd, upd, del, elemV, Data.len, Data.esz, ownN, nodup, bares, bare, bareD, guardIs, callP, callS, argS, mAs, mA, mA0, mB0, lowD, allNotIn, nm, impN, impB, impT, packS, delL, Op.operands, List.getD, List.getElem?_cons_zero, List.getElem?_cons_succ, Option.getD_some, List.set, List.map, List.toList_toArray, true_and, and_self, if_true, if_false, eq_self, ne_eq, not_false_eq_true, reduceCtorEq, Nat.zero_add, Nat.add_zero, Int.toNat_natCast, Int.cast_ofNat_Int, List.append_nil, Nat.reduceAdd, Nat.reduceSub, Nat.reduceMul, Nat.reduceEqDiff, Nat.reduceLT, Nat.succ_ne_self, Bool.and_self]
        refine ⟨by omega, ?_⟩
        have hQ := lay (((B0 ++ lkL (a.locks.take i2)) ++ digs 8 x.at_)) x.n 8 (by first | (simp; done) | (simp only [List.length_append, digs_length]; omega)) rfl (by omega) (by omega) (by omega)
        refine call_go TO 100 hQ Tryd.func39 (by decide +kernel) rfl rfl rfl ?_
        clear hQ
        simp only [hx, wk2, pureOpC, unc, absRun, absOps, absOp, evO, constSV, ungd, gdP, gdPs, setD, convV, T_ty, T_size, tTy, tSize, fieldOf, faddrV, iaddrV, pureOp, memOp, loadV, notIn, known, cellAt, blkAt, fnd, upd, del, elemV, Data.len, Data.esz, ownN, nodup, bares, bare, bareD, guardIs, callP, callS, argS, mAs, mA, mA0, mB0, lowD, allNotIn, nm, impN, impB, impT, packS, delL, Op.operands, List.getD, List.getElem?_cons_zero, List.getElem?_cons_succ, Option.getD_some, List.set, List.map, List.toList_toArray, true_and, and_self, if_true, if_false, eq_self, ne_eq, not_false_eq_true, reduceCtorEq, Nat.zero_add, Nat.add_zero, Int.toNat_natCast, Int.cast_ofNat_Int, List.append_nil, Nat.reduceAdd, Nat.reduceSub, Nat.reduceMul, Nat.reduceEqDiff, Nat.reduceLT, Nat.succ_ne_self, Bool.and_self]
        refine ⟨by omega, ?_⟩
        have hQ := lay ((((B0 ++ lkL (a.locks.take i2)) ++ digs 8 x.at_) ++ digs 8 x.n)) x.mode 2 (by first | (simp; done) | (simp only [List.length_append, digs_length]; omega)) rfl (by omega) (by omega) (by omega)
        refine call_go TO 100 hQ Tryd.func39 (by decide +kernel) rfl rfl rfl ?_
        clear hQ
        simp only [pureOpC, unc, absRun, absOps, absOp, evO, constSV, ungd, gdP, gdPs, setD, pureOp, memOp, notIn, blkAt, fnd, upd, del, Data.len, Data.esz, ownN, nodup, bares, bare, bareD, guardIs, callP, callS, argS, mAs, mA, mA0, mB0, lowD, allNotIn, nm, impN, impB, impT, packS, delL, Op.operands, List.getD, List.getElem?_cons_zero, List.getElem?_cons_succ, Option.getD_some, List.set, List.map, List.toList_toArray, true_and, and_self, if_true, if_false, eq_self, Nat.zero_add, Nat.add_zero, Int.cast_ofNat_Int, List.append_nil, Nat.reduceAdd, Nat.reduceMul, Nat.reduceEqDiff, Bool.and_self]
        have hQ := lay (((((B0 ++ lkL (a.locks.take i2)) ++ digs 8 x.at_) ++ digs 8 x.n) ++ digs 2 x.mode)) 0 2 (by first | (simp; done) | (simp only [List.length_append, digs_length]; omega)) rfl (by omega) (by omega) (by omega)
        refine call_go TO 100 hQ Tryd.func39 (by decide +kernel) rfl rfl rfl ?_
        clear hQ
        rw [hl3]
        simp only [wi, pureOpC, unc, absRun, absOps, absOp, evO, constSV, ungd, gdP, gdPs, setD, binI, binV, ptrE, pureOp, notIn, blkAt, fnd, upd, del, Data.len, Data.esz, ownN, nodup, bares, bare, bareD, guardIs, callP, callS, argS, mAs, mA, mA0, mB0, lowD, allNotIn, nm, impN, impB, impT, packS, delL, Op.operands, List.getD, List.getElem?_cons_zero, List.getElem?_cons_succ, Option.getD_some, List.set, List.map, List.toList_toArray, true_and, and_self, if_true, if_false, eq_self, Nat.zero_add, Nat.add_zero, Int.cast_ofNat_Int, List.append_nil, Nat.reduceAdd, Nat.reduceMul, Nat.reduceEqDiff, Bool.and_self]
        refine ih (i2 + 1, c2 + 5, _) _ hil (by simp only; omega) rfl ?_ ?_
        · simp [LeT, tl]
        · intro m x hx
          simp only [fnd, Ask.cells] at hx ⊢
          split at hx
          · rename_i e; subst e; simpa using hx
          split at hx
          · rename_i e; subst e; simpa using hx
          cases hx
      · rw [if_neg (by rw [decide_eq_true_eq]; omega)]
        have htk : a.locks.take i2 = a.locks := List.take_of_length_le (by omega)
        rw [htk, ← hL3]
        first | exact ⟨⟨rfl, rfl⟩, rfl⟩ | exact ⟨⟨rfl, rfl⟩, rfl, rfl⟩ | simp only [and_self, eq_self]
    have d10 : (c == 10) = false := by simpa using c10
    rw [if_neg c10] at hL
    subst hL
    simp only [d8, d9, d10, wl, pureOpC, unc, absRun, absOps, absOp, evO, constSV, ungd, gdP, gdPs, setD, binI, binV, ptrE, convV, T_ty, T_size, tTy, tSize, fieldOf, faddrV, pureOp, memOp, lenV, loadV, notIn, known, cellAt, blkAt, fnd, upd, Data.len, Data.esz, retP, resV, retQ, rAs, rA, rA0, ownN, nodup, bares, bare, bare0, bareD, guardIs, callP, callS, argS, mAs, mA, mA0, mB0, allNotIn, nm, impN, impB, impT, packS, delL, Op.operands, Call.operands, List.getD, List.getElem?_cons_zero, List.getElem?_cons_succ, Option.getD_some, List.set, List.map, List.toList_toArray, true_and, and_self, if_true, if_false, eq_self, ne_eq, not_false_eq_true, reduceCtorEq, Bool.false_eq_true, Nat.zero_add, Nat.add_zero, Int.cast_ofNat_Int, List.append_toArray, List.nil_append, List.append_nil, List.length_nil, Nat.reduceAdd, Nat.reduceSub, Nat.reduceMul, Nat.reduceEqDiff, Nat.reduceLT, Nat.succ_ne_self, Bool.and_self]

end Go.Proofs.YtakgefinmlomdaaDoor.Abs
