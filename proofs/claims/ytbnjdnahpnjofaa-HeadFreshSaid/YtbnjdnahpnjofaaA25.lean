/- OWN LIBRARY, part 25: blocks, written over. -/
import Derived.Test.YtbnjdnahpnjofaaA24
namespace Go.Proofs.Ytbnjdnahpnjofaa.Abs
open Go

theorem fnd_same (b : List (Nat × Nat × Blk)) (n g : Nat) (x : Blk) : fnd (upd b n g x) n = some (g, x) := by rw [fnd_upd, if_pos rfl]
theorem upd_same : ∀ (b : List (Nat × Nat × Blk)) (n g g' : Nat) (x y : Blk), upd (upd b n g x) n g' y = upd b n g' y
  | [], n, g, g', x, y => by simp [upd]
  | (m, h, z) :: l, n, g, g', x, y => by
    by_cases e : n = m
    · simp [upd, e]
    · simp [upd, e, upd_same l]
theorem blk_same (b : List (Nat × Nat × Blk)) (n g : Nat) (x : Blk) : blkAt (upd b n g x) n g = some x := by simp [blkAt, fnd_same]

end Go.Proofs.Ytbnjdnahpnjofaa.Abs
