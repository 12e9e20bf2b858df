/- What the document's Derive and Proof do. -/
import Derived.Test.YtdhnjmepgafeiaaDoorM5
set_option linter.unusedVariables false
set_option linter.unusedSimpArgs false
set_option maxRecDepth 100000
namespace Go.Proofs.YtdhnjmepgafeiaaDoor.Abs
open Go Go.Proofs

theorem strB_succ {s : ByteArray} {i : Nat} (h : i < s.size) : (strB s).take (i + 1) = (strB s).take i ++ [((s.data.toList[i]?.getD 0).toNat : Int)] := by
  have hl : i < s.data.toList.length := by rw [Array.length_toList]; exact h
  have e : (strB s)[i]? = some (byteI s.data.toList[i]) := by unfold strB; rw [List.getElem?_map, List.getElem?_eq_getElem hl]; rfl
  rw [List.take_add_one, e, List.getElem?_eq_getElem hl]
  rfl

end Go.Proofs.YtdhnjmepgafeiaaDoor.Abs
