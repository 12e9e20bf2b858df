/- THE TABLES of this seat: what its package-level variables hold. -/
import Derived.Calls
import Derived.Shelf.Unicode.DecodeSlow
namespace Go.Proofs.YtakgefinmlomdaaDoor.Abs
open Go
def G0 : List Int := (List.range 256).map fun c => (Go.Lib.firstT c : Int)
def G1 : List Int := (List.range 32).map fun j => if j % 2 = 0 then (Go.Lib.accLo (j / 2) : Int) else (Go.Lib.accHi (j / 2) : Int)
/-- The table of a variable. -/
def GT (g : Nat) : Option (IntKind × List Int) :=
  match g with
  | 0 => some (.u8, G0)
  | 1 => some (.u8, G1)
  | _ => none
end Go.Proofs.YtakgefinmlomdaaDoor.Abs
