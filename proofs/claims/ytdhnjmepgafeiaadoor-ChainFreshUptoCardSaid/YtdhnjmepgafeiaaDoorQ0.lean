/- What head.Known, head.May and the document's Known, Has, May answer. -/
import Derived.Test.YtdhnjmepgafeiaaDoorFX
import Derived.Test.YtdhnjmepgafeiaaDoorB5
set_option linter.unusedVariables false
set_option linter.unusedSimpArgs false
set_option maxRecDepth 100000
namespace Go.Proofs.YtdhnjmepgafeiaaDoor.Abs
open Go Go.Proofs

/-- A head. -/
structure Hd where
  charge : Int
  status : Int
  cmd : Int
  credits : Int
  flags : Int
  next : Int
  id : Int
  async : Int
  tree : Int
  session : Int
  sig : List Int

def Hd.ok (h : Hd) : Prop :=
  (0 ≤ h.charge ∧ h.charge < 65536) ∧ (0 ≤ h.status ∧ h.status < 4294967296) ∧ (0 ≤ h.cmd ∧ h.cmd < 65536) ∧ (0 ≤ h.credits ∧ h.credits < 65536) ∧
  (0 ≤ h.flags ∧ h.flags < 4294967296) ∧ (0 ≤ h.next ∧ h.next < 4294967296) ∧ (0 ≤ h.id ∧ h.id < 18446744073709551616) ∧ (0 ≤ h.async ∧ h.async < 18446744073709551616) ∧
  (0 ≤ h.tree ∧ h.tree < 4294967296) ∧ (0 ≤ h.session ∧ h.session < 18446744073709551616) ∧ h.sig.length = 16 ∧ Bytes h.sig

def Hd.sv (h : Hd) : SV := .agg [.int .u16 h.charge, .int .u32 h.status, .int .u16 h.cmd, .int .u16 h.credits, .int .u32 h.flags, .int .u32 h.next, .int .u64 h.id, .int .u64 h.async, .int .u32 h.tree, .int .u64 h.session, .arr .u8 16 h.sig]

def knB (c : Int) : Bool := decide (c ≤ 18) && c != 11 && c != 15

theorem hKnown_meets (c : Int) (h0 : 0 ≤ c) : Meets Tryd.prog 51 [.v (.int .u16 c)] [.v (.bool (knB c))] := by
  refine meets_go TO 100 Tryd.func51 rfl (fun X => ?_)
  simp only [Tryd.ntmps51, Tryd.results51, pureOpC, unc, svs, blks, AV.sv, absRun, absOps, absOp, evO, constSV, ungd, gdP, gdPs, setD, binI, binV, ptrE, pureOp, retP, resV, retQ, rAs, rA, rA0, ownN, nodup, bares, bare, bare0, Op.operands, List.getD, List.getElem?_cons_zero, List.getElem?_cons_succ, Option.getD_some, List.set, List.map, List.toList_toArray, true_and, and_true, and_self, eq_self, Nat.zero_add, List.cons_append, List.nil_append, List.length_cons, List.length_nil, Nat.reduceAdd, Nat.reduceSub, List.replicate_succ, List.replicate_zero, Bool.and_self]
  by_cases h1 : c = 11
  · subst h1; rfl
  · by_cases h2 : c = 15
    · subst h2; rfl
    · have e1 : (c != 11) = true := by simpa using h1
      have e2 : (c != 15) = true := by simpa using h2
      simp [knB, h1, h2, e1, e2]

def knL : List Int := [0, 1, 2, 3, 4, 5, 6, 7, 8, 9, 10, 12, 13, 14, 16, 17, 18]

theorem knB_mem (c : Int) (h0 : 0 ≤ c) : knB c = decide (c ∈ knL) := by
  rw [Bool.eq_iff_iff]
  simp only [knB, knL, List.mem_cons, List.not_mem_nil, or_false, Bool.and_eq_true, bne_iff_ne, decide_eq_true_eq]
  omega

theorem rKnown_meets (c : Int) (h0 : 0 ≤ c) : Meets Tryd.prog 43 [.v (.int .u16 c)] [.v (.bool (knB c))] := by
  rw [knB_mem c h0]
  refine meets_go TO 100 Tryd.func43 rfl (fun X => ?_)
  simp only [Tryd.ntmps43, Tryd.results43, pureOpC, unc, svs, blks, AV.sv, absRun, absOps, absOp, evO, constSV, ungd, gdP, gdPs, setD, T_ty, T_size, tTy, tSize, pureOp, memOp, newV, notIn, elemsOf, intsOf, upd, Lim.add, Op.operands, List.getD, List.getElem?_cons_zero, List.getElem?_cons_succ, Option.getD_some, List.set, List.map, List.toList_toArray, Option.map_some, true_and, and_self, if_true, eq_self, Nat.zero_add, List.cons_append, List.nil_append, List.length_cons, List.length_nil, Nat.reduceAdd, Nat.reduceSub, Nat.reduceLeDiff, List.replicate_succ, List.replicate_zero]
  refine loop_up (fun x : Nat × Nat => x.1 ≤ 17 ∧ ∀ j, j < x.1 → knL[j]?.getD 0 ≠ c) (fun x => ⟨tl 18 0 [(0, .int .u16 c), (2, .bool false), (3, .sl 5 3 0 1 0 17), (4, .int .i64 x.1)], [(5, 3, .vec (.ints .u16 knL))], ⟨x.2, [], 0⟩⟩) (fun x => 17 - x.1) (0, 5) ⟨by decide, by simp⟩ ⟨rfl, ?_, ?_⟩ ?_
  · simp [LeT, tl]
  · intro m x hx; simpa [fnd, knL] using hx
  · rintro ⟨i, g⟩ ⟨hi, hn⟩ ih
    simp only at hi hn
    refine absRun_ok TO 100 _ _ ?_
    simp only [pureOpC, unc, absRun, absOps, absOp, evO, constSV, ungd, gdP, gdPs, setD, binI, binV, ptrE, T_ty, T_size, tTy, tSize, iaddrV, pureOp, lenV, loadV, blkAt, fnd, elemV, Data.len, Data.esz, retP, resV, retQ, rAs, rA, rA0, ownN, nodup, bares, bare, bare0, Op.operands, Call.operands, List.getD, List.getElem?_cons_zero, List.getElem?_cons_succ, Option.getD_some, List.set, List.map, List.toList_toArray, exitTo, true_and, and_true, and_self, if_true, eq_self, ne_eq, not_false_eq_true, Nat.zero_add, Int.toNat_natCast, Int.cast_ofNat_Int, List.append_toArray, List.cons_append, List.nil_append, Nat.reduceAdd, Nat.reduceSub, Nat.succ_ne_self, beq_self_eq_true, List.replicate_succ, List.replicate_zero, Bool.and_self, tl]
    split
    · rename_i hc
      have hik : i < 17 := by have := of_decide_eq_true hc; omega
      refine ⟨⟨by omega, by omega⟩, by decide, ?_⟩
      by_cases he : knL[i]?.getD 0 = c
      · rw [if_pos (by simpa using he)]
        have : c ∈ knL := by
          rw [← he]
          have hl : i < knL.length := hik
          rw [List.getElem?_eq_getElem hl, Option.getD_some]
          exact List.getElem_mem hl
        simp [this]
      · rw [if_neg (by simpa using he)]
        rw [w64 (by omega) (by omega)]
        refine ih (i + 1, _) _ ⟨hik, fun j hj => ?_⟩ (by simp only; omega) rfl ?_ ?_
        · rcases Nat.lt_succ_iff_lt_or_eq.1 hj with h | h
          · exact hn j h
          · rw [h]; exact he
        · simp [LeT, tl]
        · intro n x hx; simpa [fnd] using hx
    · rename_i hc
      have hik : i = 17 := by
        have : ¬ ((i : Int) < 17) := fun h => hc (decide_eq_true h)
        omega
      subst hik
      have : c ∉ knL := by
        intro hm
        obtain ⟨j, hj, e⟩ := List.getElem_of_mem hm
        exact hn j hj (by rw [List.getElem?_eq_getElem hj, Option.getD_some, e])
      simp [this]

theorem and_mod (f : Int) (h0 : 0 ≤ f) (h1 : f < 4294967296) : bitsI .and .u32 f 2 = 2 * (f / 2 % 2) ∧ bitsI .and .u32 f 15 = f % 16 := by
  obtain ⟨n, rfl⟩ : ∃ n : Nat, f = n := ⟨f.toNat, by omega⟩
  have e2 : bitsI .and .u32 (n : Int) 2 = IntKind.u32.wrap ((BitVec.ofInt 32 (n : Int) &&& BitVec.ofInt 32 2).toNat : Int) := rfl
  have e15 : bitsI .and .u32 (n : Int) 15 = IntKind.u32.wrap ((BitVec.ofInt 32 (n : Int) &&& BitVec.ofInt 32 15).toNat : Int) := rfl
  have t : (BitVec.ofInt 32 (n : Int)).toNat = n := by rw [BitVec.toNat_ofInt]; omega
  have a15 : n &&& 15 = n % 16 := Nat.and_two_pow_sub_one_eq_mod n 4
  have a3 : n &&& 3 = n % 4 := Nat.and_two_pow_sub_one_eq_mod n 2
  have a2 : n &&& 2 = n % 4 &&& 2 := by
    rw [← a3, Nat.and_assoc]; rfl
  have a2' : n &&& 2 = 2 * (n / 2 % 2) := by
    rw [a2]
    have h4 : n % 4 = 0 ∨ n % 4 = 1 ∨ n % 4 = 2 ∨ n % 4 = 3 := by omega
    rcases h4 with h | h | h | h <;> rw [h]
    · show 0 = _; omega
    · show 0 = _; omega
    · show 2 = _; omega
    · show 2 = _; omega
  rw [e2, e15, BitVec.toNat_and, BitVec.toNat_and, t, show (BitVec.ofInt 32 2).toNat = 2 from rfl, show (BitVec.ofInt 32 15).toNat = 15 from rfl, a15, a2', IntKind.wrap_u32, IntKind.wrap_u32]
  omega

def hasB (h : Hd) : Bool := h.flags / 2 % 2 == 1
def mayB (h : Hd) : Bool := knB h.cmd && decide (h.flags < 16) && (if hasB h then h.tree == 0 else h.async == 0)

theorem rHas_meets (h : Hd) (hk : h.ok) : Meets Tryd.prog 18 [.v h.sv, .v (.int .u32 2)] [.v (.bool (hasB h))] := by
  obtain ⟨_, _, _, _, hf, _⟩ := hk
  refine meets_go TO 100 Tryd.func18 rfl (fun X => ?_)
  simp only [Tryd.ntmps18, Tryd.results18, Hd.sv, pureOpC, unc, svs, blks, AV.sv, absRun, absOps, absOp, evO, constSV, ungd, gdP, gdPs, setD, binI, binV, ptrE, T_ty, T_size, tTy, tSize, fieldOf, faddrV, pureOp, memOp, loadV, newV, notIn, cellsOf, cellAt, blkAt, fnd, upd, Lim.add, retP, resV, retQ, rAs, rA, rA0, ownN, nodup, bares, bare, bare0, Op.operands, List.getD, List.getElem?_cons_zero, List.getElem?_cons_succ, Option.getD_some, List.set, List.map, List.toList_toArray, true_and, and_true, and_self, if_true, if_false, eq_self, ne_eq, not_false_eq_true, reduceCtorEq, Nat.zero_add, List.cons_append, List.nil_append, List.length_cons, List.length_nil, Nat.reduceAdd, Nat.reduceSub, Nat.reduceLT, Nat.succ_ne_self, List.replicate_succ, List.replicate_zero, Bool.and_self, Int.reduceEq]
  have e1 : quoI .u32 h.flags 2 = h.flags / 2 := by unfold quoI; rw [Int.tdiv_eq_ediv_of_nonneg (by omega), IntKind.wrap_u32]; omega
  have e2 : remI (h.flags / 2) 2 = h.flags / 2 % 2 := by unfold remI; rw [Int.tmod_eq_emod_of_nonneg (by omega)]
  rw [e1, e2]; rfl

theorem hMay_meets (h : Hd) (hk : h.ok) : Meets Tryd.prog 41 [.v h.sv] [.v (.bool (mayB h))] := by
  have hk' := hk
  obtain ⟨h1, h2, h3, h4, h5, h6, h7, h8, h9, h10, h11⟩ := hk
  have hK := hKnown_meets h.cmd h3.1
  obtain ⟨a2, a15⟩ := and_mod h.flags h5.1 h5.2
  refine meets_go TO 100 Tryd.func41 rfl (fun X => ?_)
  simp only [Tryd.ntmps41, Tryd.results41, Hd.sv, pureOpC, cntC, unc, svs, blks, AV.sv, absRun, absOps, absOp, evO, constSV, ungd, gdP, gdPs, setD, binI, binV, ptrE, T_ty, T_size, T_zero, tTy, tSize, tZero, fieldOf, faddrV, pureOp, memOp, loadV, newV, notIn, scal, cellsOf, okC, cellAt, takeC, dropC, setC, blkAt, fnd, upd, Lim.add, Op.operands, List.getD, List.getElem?_cons_zero, List.getElem?_cons_succ, Option.getD_some, List.set, List.toList_toArray, Option.bind_some, Option.map_some, Option.map_none, true_and, and_self, if_true, if_false, ite_self, eq_self, ne_eq, not_false_eq_true, reduceCtorEq, Nat.zero_add, Nat.add_zero, Nat.le_refl, List.cons_append, List.nil_append, List.append_nil, List.length_cons, List.length_nil, Nat.reduceAdd, Nat.reduceSub, Nat.reduceEqDiff, Nat.reduceLT, Nat.succ_ne_self, List.replicate_succ, List.replicate_zero, Bool.and_self]
  have hb : (2 * (h.flags / 2 % 2) != 0) = hasB h := by
    unfold hasB
    rw [Bool.eq_iff_iff]
    simp only [bne_iff_ne, ne_eq, beq_iff_eq]
    omega
  have hm : (h.flags % 16 == h.flags) = decide (h.flags < 16) := by
    rw [Bool.eq_iff_iff]
    simp only [beq_iff_eq, decide_eq_true_eq]
    omega
  rw [a2, a15, hb]
  by_cases c : hasB h = true
  · rw [if_pos c]
    refine call_go TO 100 hK Tryd.func51 (by decide +kernel) rfl rfl rfl ?_
    simp only [pureOpC, unc, absRun, absOps, absOp, evO, constSV, ungd, gdP, gdPs, setD, binV, ptrE, T_ty, T_size, tTy, tSize, pickV, pureOp, guardOf, loadV, eqF, eq1, T_eq, tEq, isI, isA, cellAt, arrAt, takeC, dropC, blkAt, fnd, retP, resV, retQ, rAs, rA, rA0, ownN, nodup, bares, bare, bare0, guardIs, callP, callS, argS, mAs, mA, mA0, mB0, allNotIn, impN, impB, impT, packS, delL, Op.operands, List.getD, List.getElem?_cons_zero, List.getElem?_cons_succ, Option.getD_some, List.set, List.map, List.toList_toArray, List.getElem?_toArray, Option.bind_some, Option.map_some, true_and, and_true, and_self, implies_true, imp_self, if_true, if_false, ite_self, eq_self, ne_eq, not_false_eq_true, reduceCtorEq, Nat.le_refl, Bool.cond_false_right, List.append_nil, Nat.reduceAdd, Nat.reduceSub, Nat.reduceEqDiff, Nat.reduceLeDiff, Nat.reduceLT, Nat.succ_ne_self, beq_self_eq_true, Bool.and_true, Bool.true_and, Bool.and_self, hm]
    unfold mayB
    rw [if_pos c, Bool.and_assoc, show (0 == h.tree) = (h.tree == 0) from by rw [Bool.eq_iff_iff]; simp only [beq_iff_eq]; omega]
  · rw [if_neg c]
    refine call_go TO 100 hK Tryd.func51 (by decide +kernel) rfl rfl rfl ?_
    simp only [pureOpC, unc, absRun, absOps, absOp, evO, constSV, ungd, gdP, gdPs, setD, binV, ptrE, T_ty, T_size, tTy, tSize, pickV, pureOp, guardOf, loadV, eqF, eq1, T_eq, tEq, isI, isA, cellAt, arrAt, takeC, dropC, blkAt, fnd, retP, resV, retQ, rAs, rA, rA0, ownN, nodup, bares, bare, bare0, guardIs, callP, callS, argS, mAs, mA, mA0, mB0, allNotIn, impN, impB, impT, packS, delL, Op.operands, List.getD, List.getElem?_cons_zero, List.getElem?_cons_succ, Option.getD_some, List.set, List.map, List.toList_toArray, List.getElem?_toArray, Option.bind_some, Option.map_some, true_and, and_true, and_self, implies_true, imp_self, if_true, if_false, ite_self, eq_self, ne_eq, not_false_eq_true, reduceCtorEq, Nat.le_refl, Bool.cond_false_right, List.append_nil, Nat.reduceAdd, Nat.reduceSub, Nat.reduceEqDiff, Nat.reduceLeDiff, Nat.reduceLT, Nat.succ_ne_self, beq_self_eq_true, Bool.and_true, Bool.true_and, Bool.and_self, hm]
    unfold mayB
    rw [if_neg c, Bool.and_assoc, show (0 == h.async) = (h.async == 0) from by rw [Bool.eq_iff_iff]; simp only [beq_iff_eq]; omega]

theorem rMay_meets (h : Hd) (hk : h.ok) : Meets Tryd.prog 29 [.v h.sv] [.v (.bool (mayB h))] := by
  have hk' := hk
  obtain ⟨h1, h2, h3, h4, h5, h6, h7, h8, h9, h10, h11⟩ := hk
  have hK := rKnown_meets h.cmd h3.1
  have hH := rHas_meets h hk'
  simp only [Hd.sv] at hH
  refine meets_go TO 100 Tryd.func29 rfl (fun X => ?_)
  simp only [Tryd.ntmps29, Tryd.results29, Hd.sv, pureOpC, unc, svs, blks, AV.sv, absRun, absOps, absOp, evO, constSV, ungd, gdP, gdPs, setD, T_ty, T_size, tTy, tSize, fieldOf, faddrV, pureOp, memOp, loadV, newV, notIn, cellsOf, cellAt, blkAt, fnd, upd, Lim.add, Op.operands, List.getD, List.getElem?_cons_zero, List.getElem?_cons_succ, Option.getD_some, List.set, List.toList_toArray, true_and, and_self, if_true, if_false, eq_self, ne_eq, not_false_eq_true, reduceCtorEq, Nat.zero_add, List.cons_append, List.nil_append, List.length_cons, List.length_nil, Nat.reduceAdd, Nat.reduceSub, Nat.reduceLT, Nat.succ_ne_self, List.replicate_succ, List.replicate_zero]
  refine call_go TO 100 hK Tryd.func43 (by decide +kernel) rfl rfl rfl ?_
  simp only [pureOpC, unc, absRun, absOps, absOp, evO, constSV, ungd, gdP, gdPs, setD, binI, binV, ptrE, unV, T_ty, T_size, tTy, tSize, fieldOf, faddrV, pickV, pureOp, guardOf, memOp, loadV, cellAt, takeC, dropC, blkAt, fnd, retP, resV, retQ, rAs, rA, rA0, ownN, nodup, bares, bare, bare0, guardIs, callP, callS, argS, mAs, mA, mA0, mB0, allNotIn, impN, impB, impT, packS, delL, Op.operands, List.getD, List.getElem?_cons_zero, List.getElem?_cons_succ, Option.getD_some, List.set, List.map, List.toList_toArray, List.getElem?_toArray, Option.bind_some, Option.map_some, true_and, and_true, and_self, implies_true, imp_self, if_true, if_false, eq_self, ne_eq, not_false_eq_true, reduceCtorEq, Nat.zero_add, Nat.le_refl, Bool.cond_true_left, List.append_nil, Nat.reduceAdd, Nat.reduceSub, Nat.reduceLT, Nat.succ_ne_self, Bool.and_self, ge_iff_le]
  by_cases c1 : knB h.cmd = true
  · by_cases c2 : h.flags < 16
    · have d2 : decide (16 ≤ h.flags) = false := decide_eq_false (by omega)
      simp only [c1, d2, if_false, Bool.false_eq_true, Bool.not_true, Bool.not_false, Bool.or_false]
      refine call_go TO 100 hH Tryd.func18 (by decide +kernel) rfl rfl rfl ?_
      simp only [pureOpC, unc, absRun, absOps, absOp, evO, constSV, ungd, gdP, gdPs, setD, binI, binV, ptrE, T_ty, T_size, tTy, tSize, fieldOf, faddrV, pureOp, loadV, cellAt, blkAt, fnd, retP, resV, retQ, rAs, rA, rA0, ownN, nodup, bares, bare, bare0, guardIs, callP, callS, argS, mAs, mA, mA0, mB0, mAl, allNotIn, impN, impB, impT, packS, delL, Op.operands, List.getD, List.getElem?_cons_zero, List.getElem?_cons_succ, Option.getD_some, List.set, List.map, List.toList_toArray, true_and, and_true, and_self, if_true, if_false, eq_self, ne_eq, not_false_eq_true, reduceCtorEq, Nat.zero_add, List.append_nil, Nat.reduceAdd, Nat.reduceSub, Nat.reduceLT, Nat.succ_ne_self, Bool.and_self]
      unfold mayB
      cases hasB h <;> simp [c1, c2]
    · have d2 : decide (16 ≤ h.flags) = true := decide_eq_true (by omega)
      simp only [c1, d2, if_true, eq_self, Bool.not_true, Bool.not_false, Bool.or_true]
      unfold mayB
      simp [c2]
  · have c1' : knB h.cmd = false := by simpa using c1
    simp only [c1', if_true, eq_self, Bool.not_true, Bool.not_false, Bool.true_or]
    unfold mayB
    simp [c1']

end Go.Proofs.YtdhnjmepgafeiaaDoor.Abs
