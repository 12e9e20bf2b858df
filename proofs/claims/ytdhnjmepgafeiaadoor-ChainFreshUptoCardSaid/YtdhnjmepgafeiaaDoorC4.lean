/- What the document's Split answers: the same. -/
import Derived.Test.YtdhnjmepgafeiaaDoorC3
set_option linter.unusedVariables false
set_option linter.unusedSimpArgs false
set_option maxRecDepth 100000
namespace Go.Proofs.YtdhnjmepgafeiaaDoor.Abs
open Go Go.Proofs

theorem copy12_meets (b : List Int) (hb : b.length ≤ 140737488355328) : Meets Tryd.prog 14 [.v (.view false (.ints .u8 b))] [.own (.ints .u8 b)] := by
  refine meets_go TO 100 Tryd.func14 rfl (fun X => ?_)
  simp only [Tryd.ntmps14, Tryd.results14, pureOpC, unc, fitT, svs, blks, AV.sv, absRun, absOps, absOp, evO, constSV, ungd, gdP, gdPs, setD, T_ty, T_size, T_bytes, T_zero, tTy, tSize, tBytes, tZero, pureOp, memOp, notIn, dataOf, isSrc, zI, blkAt, fnd, upd, Data.len, Data.esz, Lim.add, retP, resV, retQ, rAs, rA, ownN, nodup, bares, bare, bareD, Op.operands, Call.operands, List.getD, List.getElem?_cons_zero, List.getElem?_cons_succ, Option.getD_some, List.set, List.map, List.toList_toArray, true_and, and_true, and_self, if_true, eq_self, Nat.zero_add, List.append_toArray, List.cons_append, List.nil_append, List.length_cons, List.length_nil, Nat.reduceAdd, Nat.reduceSub, List.replicate_succ, List.replicate_zero, Bool.and_self]
  exact ⟨by omega, by omega⟩

end Go.Proofs.YtdhnjmepgafeiaaDoor.Abs
