/- What mac.Sign, mac.Check, mac.Derive and mac.Proof do. -/
import Derived.Test.YtdhnjmepgafeiaaDoorM2
set_option linter.unusedVariables false
set_option linter.unusedSimpArgs false
set_option maxRecDepth 100000
namespace Go.Proofs.YtdhnjmepgafeiaaDoor.Abs
open Go Go.Proofs

def signL (key m : List Int) : List Int := if m.length < 64 then [] else m.take 48 ++ (sigL key m ++ m.drop 64)
def signE (m : List Int) : Int := if m.length < 64 then 2 else 0
def checkE (key m : List Int) : Int := if m.length < 64 then 2 else if (m.drop 48).take 16 = sigL key m then 0 else 6
def strB (s : ByteArray) : List Int := s.data.toList.map byteI
theorem strB_length (s : ByteArray) : (strB s).length = s.size := by simp [strB]
theorem strB_bytes (s : ByteArray) : Bytes (strB s) := by
  intro x hx
  obtain ⟨y, _, rfl⟩ := List.mem_map.1 hx
  have := y.toNat_lt
  unfold byteI
  omega
def deriveB (label ctx : List Int) : List Int := [0, 0, 0, 1] ++ (label ++ ([0] ++ (ctx ++ [0, 0, 0, 128])))
def deriveL (key label ctx : List Int) : List Int := (macL key (deriveB label ctx)).take 16

theorem Sign_meets (key m : List Int) (hk : key.length ≤ 140737488355000) (hK : Bytes key) (hm : m.length ≤ 140737488354900) (hM : Bytes m) :
    Meets Tryd.prog 23 [.v (.view false (.ints .u8 key)), .v (.view false (.ints .u8 m))] [.own (.ints .u8 (signL key m)), .v (.int .i64 (signE m))] := by
  refine meets_go TO 100 Tryd.func23 rfl (fun X => ?_)
  simp only [Tryd.ntmps23, Tryd.results23, pureOpC, unc, svs, blks, AV.sv, absRun, absOps, absOp, evO, constSV, ungd, gdP, gdPs, setD, binI, binV, ptrE, T_ty, tTy, pureOp, memOp, lenV, Data.len, retP, resV, retQ, rAs, rA, rA0, ownN, nodup, bares, bare, bare0, bareD, Op.operands, Call.operands, List.getD, List.getElem?_cons_zero, List.getElem?_cons_succ, Option.getD_some, List.set, List.map, List.toList_toArray, true_and, and_true, and_self, eq_self, Nat.zero_add, List.append_toArray, List.cons_append, List.nil_append, List.length_cons, List.length_nil, Nat.reduceAdd, Nat.reduceSub, List.replicate_succ, List.replicate_zero, Bool.and_self]
  split
  · rename_i hc
    have hc : m.length < 64 := by simp at hc; omega
    simp [signL, signE, hc]
  · rename_i hc
    have hc : ¬ m.length < 64 := by simp at hc; omega
    refine call_go TO 100 (signature_meets key m hk hK ⟨by omega, hm⟩ hM) Tryd.func30 (by decide +kernel) rfl rfl rfl ?_
    have hl := sigL_length key m
    have e1 : signL key m = m.take 48 ++ (sigL key m ++ m.drop 64) := by unfold signL; rw [if_neg hc]
    have e2 : signE m = 0 := by unfold signE; rw [if_neg hc]
    rw [e1, e2]
    generalize sigL key m = q at *
    have hA := all_meets [m.take 48, q, m.drop 64] (by simp; omega) (by simp)
    have e3 : [m.take 48, q, m.drop 64].flatten = m.take 48 ++ (q ++ m.drop 64) := by simp
    rw [e3] at hA
    simp only [pureOpC, unc, absRun, absOps, absOp, evO, ungd, gdP, gdPs, setD, T_ty, T_size, T_zero, tTy, tSize, tZero, pureOp, memOp, newV, notIn, arrAt, setA, blkAt, fnd, upd, Lim.add, ownN, nodup, bares, bare, guardIs, callP, callS, argS, mAs, mA, mA0, mB0, lowD, allNotIn, impN, impB, impT, packS, delL, Op.operands, List.getD, List.getElem?_cons_zero, List.getElem?_cons_succ, Option.getD_some, List.set, List.map, List.toList_toArray, Option.map_none, true_and, and_self, if_true, ite_self, eq_self, ne_eq, not_false_eq_true, reduceCtorEq, Nat.zero_add, List.append_nil, Nat.reduceLeDiff, List.replicate_succ, List.replicate_zero, Bool.and_self]
    refine draw_go TO 7 100 mixed_ok (by decide +kernel) ?_
    simp only [List.take_succ_cons, List.take_zero, List.drop_succ_cons, List.drop_zero, pureOpC, unc, isEff, absD, pureStep, subB, absRun, absOps, absOp, evO, constSV, ungd, gdP, gdPs, setD, T_ty, T_size, tTy, tSize, lowI, highI, maxP, sliceV, pureOp, memOp, newV, notIn, scal, elemsOf, rowsOf, rowOf, arrAt, blkAt, fnd, upd, Data.len, Data.esz, Data.sub, Lim.add, retP, resV, retQ, rAs, rA, rA0, bares, bare, bare0, bareD, Op.operands, List.getD, List.getElem?_cons_zero, List.getElem?_cons_succ, Option.getD_some, List.set, List.map, List.all, List.toList_toArray, Option.map_some, Option.map_none, Option.isSome, true_and, and_true, and_self, implies_true, imp_self, if_true, if_false, ite_self, eq_self, ne_eq, not_false_eq_true, forall_const, reduceCtorEq, Nat.zero_add, Int.sub_zero, Int.cast_ofNat_Int, Int.reduceToNat, Int.le_refl, Int.toNat_zero, Option.toArray_some, Option.toArray_none, List.append_toArray, List.cons_append, List.nil_append, List.append_nil, List.length_cons, List.length_nil, Nat.reduceAdd, Nat.reduceEqDiff, Nat.reduceLeDiff, Nat.succ_ne_self, Bool.and_true, Bool.and_self, Int.reduceLE]
    have htk : List.take ((m.length : Int) - 64).toNat (List.drop 64 m) = List.drop 64 m := List.take_of_length_le (by rw [List.length_drop]; omega)
    refine ⟨by omega, by omega, ?_⟩
    rw [htk]
    refine callD_go TO (fun s' h' => HOps_go TO 100 h') hA Tryd.func35 (by decide +kernel) rfl rfl rfl ?_
    simp only [List.drop_zero, pureOpC, unc, absD, subB, absRun, absOps, absOp, evO, constSV, ungd, gdP, gdPs, setD, notIn, arrAt, blkAt, fnd, upd, Data.len, Data.esz, retP, resV, retQ, rAs, rA, rA0, ownN, nodup, bares, bare, bare0, bareD, guardIs, callP, callS, argS, mAs, mA, mA0, mB0, rowsM, lowD, allNotIn, nm, impN, impB, impT, packS, delL, Op.operands, List.getD, List.getElem?_cons_zero, List.getElem?_cons_succ, Option.getD_some, List.set, List.map, List.toList_toArray, true_and, and_true, and_self, if_true, if_false, ite_self, eq_self, Nat.zero_add, Nat.add_zero, Nat.le_refl, List.cons_append, List.nil_append, List.length_cons, List.length_nil, Nat.reduceAdd, Nat.reduceMul, Nat.reduceEqDiff, Nat.reduceLeDiff, Bool.and_self, Data.ints.injEq]
    exact List.take_of_length_le (by omega)

theorem Check_meets (key m : List Int) (hk : key.length ≤ 140737488355000) (hK : Bytes key) (hm : m.length ≤ 140737488354900) (hM : Bytes m) :
    Meets Tryd.prog 19 [.v (.view false (.ints .u8 key)), .v (.view false (.ints .u8 m))] [.v (.int .i64 (checkE key m))] := by
  refine meets_go TO 100 Tryd.func19 rfl (fun X => ?_)
  simp only [Tryd.ntmps19, Tryd.results19, pureOpC, unc, svs, blks, AV.sv, absRun, absOps, absOp, evO, constSV, ungd, gdP, gdPs, setD, binI, binV, ptrE, T_ty, tTy, pureOp, lenV, Data.len, retP, resV, retQ, rAs, rA, rA0, ownN, nodup, bares, bare, bare0, Op.operands, Call.operands, List.getD, List.getElem?_cons_zero, List.getElem?_cons_succ, Option.getD_some, List.set, List.map, List.toList_toArray, true_and, and_true, and_self, eq_self, Nat.zero_add, List.append_toArray, List.cons_append, List.nil_append, List.length_cons, List.length_nil, Nat.reduceAdd, Nat.reduceSub, List.replicate_succ, List.replicate_zero, Bool.and_self]
  split
  · rename_i hc
    have hc : m.length < 64 := by simp at hc; omega
    simp [checkE, hc]
  · rename_i hc
    have hc : ¬ m.length < 64 := by simp at hc; omega
    have e1 : checkE key m = if (m.drop 48).take 16 = sigL key m then 0 else 6 := by unfold checkE; rw [if_neg hc]
    rw [e1]
    have hl := sigL_length key m
    have hS := signature_meets key m hk hK ⟨by omega, hm⟩ hM
    generalize sigL key m = q at *
    refine draw_go TO 9 100 mixed_ok (by decide +kernel) ?_
    simp only [List.take_succ_cons, List.take_zero, List.drop_succ_cons, List.drop_zero, pureOpC, unc, isEff, absD, pureStep, absRun, absOps, absOp, evO, constSV, ungd, gdP, gdPs, setD, pureOp, memOp, Data.len, retP, resV, retQ, rAs, rA, rA0, ownN, nodup, bares, bare, bare0, Op.operands, List.getD, List.getElem?_cons_zero, List.getElem?_cons_succ, Option.getD_some, List.set, List.map, List.toList_toArray, true_and, and_true, and_self, implies_true, imp_self, eq_self, reduceCtorEq, Nat.reduceAdd, Bool.and_self]
    refine callD_go TO (fun s' h' => HOps_go TO 100 h') hS Tryd.func30 (by decide +kernel) rfl rfl rfl ?_
    simp only [List.drop_zero, pureOpC, arrPV, unc, isEff, absD, pureStep, subB, absRun, absOps, absOp, evO, constSV, ungd, gdP, gdPs, setD, binV, ptrE, T_ty, T_size, tTy, tSize, lowI, highI, maxP, sliceV, pureOp, loadV, isI, isA, Data.len, Data.esz, Data.sub, retP, resV, retQ, rAs, rA, rA0, ownN, nodup, bares, bare, bare0, guardIs, callP, callS, argS, mAs, mA, mA0, mB0, lowD, allNotIn, impN, impB, impT, packS, delL, Op.operands, List.getD, List.getElem?_cons_zero, List.getElem?_cons_succ, Option.getD_some, List.set, List.map, List.toList_toArray, Option.map_some, Option.isSome, true_and, and_true, and_self, eq_self, ne_eq, not_false_eq_true, reduceCtorEq, Nat.zero_add, Int.reduceToNat, Int.reduceSub, Option.toArray_some, List.append_toArray, List.cons_append, List.nil_append, List.append_nil, Nat.reduceAdd, Nat.succ_ne_self, Bool.and_self, Int.reduceLE]
    have hl2 : (List.take 16 (List.drop 48 m)).length = 16 := by simp; omega
    refine ⟨by omega, by omega, by omega, ?_⟩
    rw [List.take_take, Nat.min_self]
    by_cases he : List.take 16 (List.drop 48 m) = q
    · simp [he]
    · have he' : ¬ q = List.take 16 (List.drop 48 m) := fun h => he h.symm
      simp [he, he']

end Go.Proofs.YtdhnjmepgafeiaaDoor.Abs
