/- What mac.all does: parts, one behind the other. -/
import Derived.Test.YtdhnjmepgafeiaaDoorT
import Derived.Test.YtdhnjmepgafeiaaDoorFX
import Derived.Test.YtdhnjmepgafeiaaDoorB5
set_option linter.unusedVariables false
set_option linter.unusedSimpArgs false
set_option maxRecDepth 100000
namespace Go.Proofs.YtdhnjmepgafeiaaDoor.Abs
open Go Go.Proofs

theorem flat_le (l : List (List Int)) (i : Nat) : (l.take i).flatten.length ≤ l.flatten.length := by
  have h : l.flatten = (l.take i).flatten ++ (l.drop i).flatten := by rw [← List.flatten_append, List.take_append_drop]
  rw [h, List.length_append]
  omega

theorem flat_succ {l : List (List Int)} {i : Nat} (h : i < l.length) : (l.take (i + 1)).flatten = (l.take i).flatten ++ l[i]?.getD [] := by
  rw [List.take_add_one, List.getElem?_eq_getElem h, List.flatten_append]
  simp

theorem all_meets (l : List (List Int)) (hl : l.flatten.length ≤ 140737488355328) (hn : l.length ≤ 1000000) : Meets Tryd.prog 35 [.v (.view false (.rows false l))] [.own (.ints .u8 l.flatten)] := by
  refine meets_go TO 100 Tryd.func35 rfl (fun X => ?_)
  simp only [Tryd.ntmps35, Tryd.results35, pureOpC, unc, svs, blks, AV.sv, absRun, absOps, absOp, evO, constSV, ungd, gdP, gdPs, setD, T_ty, tTy, pureOp, lenV, Data.len, Op.operands, Call.operands, List.getD, List.getElem?_cons_zero, List.getElem?_cons_succ, Option.getD_some, List.set, List.toList_toArray, true_and, and_self, Nat.zero_add, List.append_toArray, List.cons_append, List.nil_append, List.length_cons, List.length_nil, Nat.reduceAdd, Nat.reduceSub, List.replicate_succ, List.replicate_zero]
  refine nil_go 3 14 (.ints .u8 []) rfl ⟨by simp, rfl⟩ ?_
  refine loop_up (fun x : Nat × Nat × Nat => x.1 ≤ l.length) (fun x =>
    ⟨tl 17 0 [(3, .sl 14 x.2.1 0 1 0 (l.take x.1).flatten.length), (6, .view false (.rows false l)), (7, .int .i64 l.length), (8, .int .i64 x.1)], [(14, x.2.1, .vec (.ints .u8 (l.take x.1).flatten))], ⟨x.2.2, [], 0⟩⟩) (fun x => l.length - x.1) (0, 5, _) (Nat.zero_le _) ⟨rfl, ?_, ?_⟩ ?_
  · simp [tl, LeT, Data.esz]
  · intro n x hx; simpa [fnd, upd] using hx
  · rintro ⟨i, g, c⟩ hi ih
    have hi : i ≤ l.length := hi
    refine absRun_ok TO 100 _ _ ?_
    simp only [pureOpC, unc, fitT, absRun, absOps, absOp, evO, constSV, ungd, gdP, gdPs, setD, binI, binV, ptrE, T_ty, T_size, T_bytes, T_zero, tTy, tSize, tBytes, tZero, iaddrV, pureOp, memOp, loadV, notIn, dataOf, appD, isSrc, zI, blkAt, fnd, upd, del, mv, elemV, Data.len, Data.esz, Lim.add, retP, resV, retQ, rAs, rA, ownN, nodup, bares, bare, bareD, Op.operands, Call.operands, List.getD, List.getElem?_cons_zero, List.getElem?_cons_succ, Option.getD_some, List.set, List.map, List.toList_toArray, exitTo, true_and, and_true, and_self, if_true, eq_self, ne_eq, not_false_eq_true, Nat.zero_add, Int.toNat_natCast, List.append_toArray, List.cons_append, List.nil_append, Nat.reduceAdd, Nat.reduceSub, Nat.reduceLT, Nat.succ_ne_self, beq_self_eq_true, List.replicate_succ, List.replicate_zero, Bool.and_self, Data.ints.injEq, tl]
    split
    · rename_i hc
      have hi' : i < l.length := by simp at hc; omega
      have h1 := flat_le l i
      have h2 := flat_le l (i + 1)
      have h3 := flat_succ hi'
      have h4 : (l.take (i + 1)).flatten.length = (l.take i).flatten.length + (l[i]?.getD []).length := by rw [h3, List.length_append]
      rw [h4] at h2
      refine ⟨⟨by omega, by omega⟩, ?_⟩
      rw [w64 (by omega) (by omega)]
      refine ⟨⟨by omega, by omega⟩, ?_⟩
      refine ih (i + 1, c + 1 + 1 + 1, _) _ (by simp only; omega) (by simp only; omega) rfl ?_ ?_
      · simp [tl, LeT, h3]
      · intro n x hx; simpa [fnd, h3] using hx
    · rename_i hc
      have hi' : i = l.length := by simp at hc; omega
      subst hi'
      simp

end Go.Proofs.YtdhnjmepgafeiaaDoor.Abs
