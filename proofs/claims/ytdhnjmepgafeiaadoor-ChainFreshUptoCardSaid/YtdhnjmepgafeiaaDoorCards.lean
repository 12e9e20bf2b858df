/-
  DERIVED. GIVEN WITH THE SEED: THE CARDS: each row of YtdhnjmepgafeiaaDoorRows.lean that lists a variable, with what it lists TIED to the program's text (the seventh form; the later family's looks); each row that meets fmt, with fmt's text TOLD by the authors' own Lean function (tested against real Go, not proved from fmt's source: count such statements apart). THE CARD IS WHAT COUNTS. Prove the row's statement (the work); the ties are given (YtdhnjmepgafeiaaDoorTie.lean); close each card by the builder's one call (the guide's Derived/Test/ToyasCard.lean, 'card_holds'). Laid BY PROGRAM, IN A SANDBOX (cutbox-door.mjs). By AI agents, Wed Nov 11 2026. No macro, syntax, notation, axiom, sorry.
-/
import Derived.Test.YtdhnjmepgafeiaaDoorRows
import GoSem.ClaimSeven
namespace Go.Proofs.YtdhnjmepgafeiaaDoor
namespace Rows

/-- THE TIED CARD OF 'refectorylaw12.ChainSeals'. -/
def chainSealsCard : Claim7 := { stood := { row := chainSealsRow, standIns := [], harness := (true, "a9d3a5b1ea49a8301c88ba0b5d7917d2b88d6ba8380c7b980c2b7aa3b215416c"), looks := false }, kinds := [], alts := [], laidByText := true, laidKinds := [.data], laidTests := true, laidLooks := .later }
def ChainSealsCardSaid : Prop := Claim7.holds Tryd.pinned (.plain (OpenSpec.ofChange chainSealsSpec)) chainSealsCard

/-- THE TIED CARD OF 'refectorylaw12.ChainFresh'. -/
def chainFreshCard : Claim7 := { stood := { row := chainFreshRow, standIns := [], harness := (true, "a9d3a5b1ea49a8301c88ba0b5d7917d2b88d6ba8380c7b980c2b7aa3b215416c"), looks := false }, kinds := [], alts := [], laidByText := true, laidKinds := [.data], laidTests := true, laidLooks := .later }
def ChainFreshCardSaid : Prop := Claim7.holds Tryd.pinned (.plain (OpenSpec.ofChange chainFreshSpec)) chainFreshCard

/-- THE TIED CARD OF 'refectorylaw12.ChainSigned'. -/
def chainSignedCard : Claim7 := { stood := { row := chainSignedRow, standIns := [], harness := (true, "a9d3a5b1ea49a8301c88ba0b5d7917d2b88d6ba8380c7b980c2b7aa3b215416c"), looks := false }, kinds := [], alts := [], laidByText := true, laidKinds := [.data], laidTests := true, laidLooks := .later }
def ChainSignedCardSaid : Prop := Claim7.holds Tryd.pinned (.plain (OpenSpec.ofChange chainSignedSpec)) chainSignedCard

/-- THE SECOND FORM's CARD OF 'refectorylaw12.ChainSeals'. -/
def chainSealsUptoCard : Claim7 := { stood := { row := chainSealsUptoRow, standIns := [], harness := (true, "a9d3a5b1ea49a8301c88ba0b5d7917d2b88d6ba8380c7b980c2b7aa3b215416c"), looks := false }, kinds := [], alts := [], laidByText := true, laidKinds := [.data], laidTests := true, laidLooks := .later }
def ChainSealsUptoCardSaid : Prop := Claim7.holds Tryd.pinned (.plain (OpenSpec.upto chainSealsSpec)) chainSealsUptoCard

/-- THE SECOND FORM's CARD OF 'refectorylaw12.ChainFresh'. -/
def chainFreshUptoCard : Claim7 := { stood := { row := chainFreshUptoRow, standIns := [], harness := (true, "a9d3a5b1ea49a8301c88ba0b5d7917d2b88d6ba8380c7b980c2b7aa3b215416c"), looks := false }, kinds := [], alts := [], laidByText := true, laidKinds := [.data], laidTests := true, laidLooks := .later }
def ChainFreshUptoCardSaid : Prop := Claim7.holds Tryd.pinned (.plain (OpenSpec.upto chainFreshSpec)) chainFreshUptoCard

/-- THE SECOND FORM's CARD OF 'refectorylaw12.ChainSigned'. -/
def chainSignedUptoCard : Claim7 := { stood := { row := chainSignedUptoRow, standIns := [], harness := (true, "a9d3a5b1ea49a8301c88ba0b5d7917d2b88d6ba8380c7b980c2b7aa3b215416c"), looks := false }, kinds := [], alts := [], laidByText := true, laidKinds := [.data], laidTests := true, laidLooks := .later }
def ChainSignedUptoCardSaid : Prop := Claim7.holds Tryd.pinned (.plain (OpenSpec.upto chainSignedSpec)) chainSignedUptoCard
end Rows
end Go.Proofs.YtdhnjmepgafeiaaDoor
