/- What Spoil does: it writes over a row of bytes that is handed over, and answers nothing. -/
import Derived.Test.YtdhnjmepgafeiaaDoorT
import Derived.Test.YtdhnjmepgafeiaaDoorFX
import Derived.Test.YtdhnjmepgafeiaaDoorB5
set_option linter.unusedVariables false
set_option linter.unusedSimpArgs false
set_option maxRecDepth 100000
namespace Go.Proofs.YtdhnjmepgafeiaaDoor.Abs
open Go Go.Proofs

def Spoil_S (by_ : Int) (K : Nat) (x : Nat × List Int) : St := ⟨[.slc 1000 0 1 K K, .int .u8 by_, .any, .any, .int .i64 x.1] ++ List.replicate 19 .any, [(1000, 0, .vec (.ints .u8 x.2))], ⟨3 + 3 * x.1, [], 0⟩⟩

theorem Spoil_meets (l : List Int) (by_ : Int) : Meets Tryd.prog 16 [.own (.ints .u8 l), .v (.int .u8 by_)] [] := by
  refine meets_of_run TO Tryd.func16 rfl (fun X => ?_)
  simp only [Tryd.ntmps16, Tryd.results16, svs, blks, AV.sv, List.length_cons, List.length_nil, List.replicate]
  refine open_go 0 (n := 1000) (g := 0) (k := .u8) (l := l) ⟨by simp, rfl, rfl⟩ (fun extra hx => ?_)
  refine absRun_ok TO 100 _ _ ?_
  simp only [pureOpC, capV, sliceC, absRun, absOps, absOp, evO, constSV, ungd, gdP, gdPs, setD, T_ty, T_size, tTy, tSize, lowI, highI, blkAt, fnd, upd, Data.len, Data.esz, Op.operands, Call.operands, List.getD, List.getElem?_cons_zero, List.getElem?_cons_succ, Option.getD_some, List.set, List.toList_toArray, Option.map_some, Option.map_none, true_and, and_true, and_self, if_true, eq_self, ne_eq, not_false_eq_true, Int.toNat_natCast, Int.le_refl, Option.toArray_some, Option.toArray_none, List.append_toArray, List.cons_append, List.nil_append, List.append_nil, Nat.reduceAdd, Nat.succ_ne_self]
  refine ⟨by omega, ?_⟩
  have hm : (l ++ extra).length = l.length + extra.length := List.length_append
  generalize l.length + extra.length = K at *
  generalize l ++ extra = m0 at *
  refine loop_go (fun x : Nat × List Int => x.1 ≤ K ∧ x.2.length = K) (Spoil_S by_ K) (fun x => K - x.1) (0, m0) ⟨Nat.zero_le _, hm⟩ ⟨rfl, ?_, ?_⟩ ?_
  · simp [Spoil_S, LeT]
  · intro m x hx; simpa [Spoil_S, fnd] using hx
  · rintro ⟨i, m⟩ ⟨hi, hl⟩ ih
    simp only at hi hl
    refine absRun_ok TO 100 _ _ ?_
    simp only [Spoil_S, pureOpC, unc, absRun, absOps, absOp, evO, constSV, ungd, gdP, gdPs, setD, binI, binV, ptrE, T_ty, T_size, tTy, tSize, iaddrV, pureOp, memOp, lenV, loadV, blkAt, fnd, upd, elemV, Data.len, Data.esz, retP, retQ, rAs, ownN, nodup, bares, Op.operands, Call.operands, List.getD, List.getElem?_cons_zero, List.getElem?_cons_succ, Option.getD_some, List.set, List.map, List.toList_toArray, exitTo, true_and, and_true, and_self, if_true, eq_self, ne_eq, not_false_eq_true, Nat.zero_add, Int.toNat_natCast, List.append_toArray, List.cons_append, List.nil_append, Nat.succ_ne_self, beq_self_eq_true, List.replicate_succ, List.replicate_zero]
    split
    · rename_i hc
      have hik : i < K := by simpa using hc
      rw [w64 (by omega) (by omega)]
      refine ⟨⟨by omega, by omega⟩, by omega, ⟨by omega, by omega⟩, by omega, ?_⟩
      refine ih (i + 1, m.set i (bitsI .xor .u8 (m[i]?.getD 0) by_)) _ ⟨hik, by simpa using hl⟩ (by simp only; omega) ?_ ?_ ?_
      · simp [Spoil_S]; omega
      · simp [Spoil_S, LeT]
      · intro n x hx; simpa [Spoil_S, fnd] using hx
    · trivial

end Go.Proofs.YtdhnjmepgafeiaaDoor.Abs
