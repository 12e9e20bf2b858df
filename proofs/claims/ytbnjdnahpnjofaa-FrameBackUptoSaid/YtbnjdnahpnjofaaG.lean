/- THE TABLES of this seat: what its package-level variables hold. -/
import Derived.Calls
namespace Go.Proofs.Ytbnjdnahpnjofaa.Abs
open Go
/-- The table of a variable. -/
def GT (g : Nat) : Option (IntKind × List Int) :=
  match g with
  | _ => none
end Go.Proofs.Ytbnjdnahpnjofaa.Abs
