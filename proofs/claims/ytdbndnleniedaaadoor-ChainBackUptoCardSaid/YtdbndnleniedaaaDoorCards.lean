/-
  DERIVED. GIVEN WITH THE SEED: THE CARDS: each row of YtdbndnleniedaaaDoorRows.lean that lists a variable, with what it lists TIED to the program's text (the seventh form; the later family's looks); each row that meets fmt, with fmt's text TOLD by the authors' own Lean function (tested against real Go, not proved from fmt's source: count such statements apart). THE CARD IS WHAT COUNTS. Prove the row's statement (the work); the ties are given (YtdbndnleniedaaaDoorTie.lean); close each card by the builder's one call (the guide's Derived/Test/ToyasCard.lean, 'card_holds'). Laid BY PROGRAM, IN A SANDBOX (cutbox-door.mjs). By AI agents, Wed Nov 11 2026. No macro, syntax, notation, axiom, sorry.
-/
import Derived.Test.YtdbndnleniedaaaDoorRows
import GoSem.ClaimSeven
namespace Go.Proofs.YtdbndnleniedaaaDoor
namespace Rows

/-- THE TIED CARD OF 'refectorylaw12.ChainJoins'. -/
def chainJoinsCard : Claim7 := { stood := { row := chainJoinsRow, standIns := [], harness := (true, "2c3af061bff2f7b81d9d02927f881bf631e77c46696dfafed7b3abaa3b9b07ba"), looks := false }, kinds := [], alts := [], laidByText := true, laidKinds := [.data], laidTests := true, laidLooks := .later }
def ChainJoinsCardSaid : Prop := Claim7.holds Tryd.pinned (.plain (OpenSpec.ofChange chainJoinsSpec)) chainJoinsCard

/-- THE TIED CARD OF 'refectorylaw12.ChainSplits'. -/
def chainSplitsCard : Claim7 := { stood := { row := chainSplitsRow, standIns := [], harness := (true, "2c3af061bff2f7b81d9d02927f881bf631e77c46696dfafed7b3abaa3b9b07ba"), looks := false }, kinds := [], alts := [], laidByText := true, laidKinds := [.data], laidTests := true, laidLooks := .later }
def ChainSplitsCardSaid : Prop := Claim7.holds Tryd.pinned (.plain (OpenSpec.ofChange chainSplitsSpec)) chainSplitsCard

/-- THE TIED CARD OF 'refectorylaw12.ChainSeals'. -/
def chainSealsCard : Claim7 := { stood := { row := chainSealsRow, standIns := [], harness := (true, "2c3af061bff2f7b81d9d02927f881bf631e77c46696dfafed7b3abaa3b9b07ba"), looks := false }, kinds := [], alts := [], laidByText := true, laidKinds := [.data], laidTests := true, laidLooks := .later }
def ChainSealsCardSaid : Prop := Claim7.holds Tryd.pinned (.plain (OpenSpec.ofChange chainSealsSpec)) chainSealsCard

/-- THE TIED CARD OF 'refectorylaw12.ChainBack'. -/
def chainBackCard : Claim7 := { stood := { row := chainBackRow, standIns := [], harness := (true, "2c3af061bff2f7b81d9d02927f881bf631e77c46696dfafed7b3abaa3b9b07ba"), looks := false }, kinds := [], alts := [], laidByText := true, laidKinds := [.data], laidTests := true, laidLooks := .later }
def ChainBackCardSaid : Prop := Claim7.holds Tryd.pinned (.plain (OpenSpec.ofChange chainBackSpec)) chainBackCard

/-- THE TIED CARD OF 'refectorylaw12.ChainCover'. -/
def chainCoverCard : Claim7 := { stood := { row := chainCoverRow, standIns := [], harness := (true, "2c3af061bff2f7b81d9d02927f881bf631e77c46696dfafed7b3abaa3b9b07ba"), looks := false }, kinds := [], alts := [], laidByText := true, laidKinds := [.data], laidTests := true, laidLooks := .later }
def ChainCoverCardSaid : Prop := Claim7.holds Tryd.pinned (.plain (OpenSpec.ofChange chainCoverSpec)) chainCoverCard

/-- THE TIED CARD OF 'refectorylaw12.ChainFresh'. -/
def chainFreshCard : Claim7 := { stood := { row := chainFreshRow, standIns := [], harness := (true, "2c3af061bff2f7b81d9d02927f881bf631e77c46696dfafed7b3abaa3b9b07ba"), looks := false }, kinds := [], alts := [], laidByText := true, laidKinds := [.data], laidTests := true, laidLooks := .later }
def ChainFreshCardSaid : Prop := Claim7.holds Tryd.pinned (.plain (OpenSpec.ofChange chainFreshSpec)) chainFreshCard

/-- THE TIED CARD OF 'refectorylaw12.ChainSigned'. -/
def chainSignedCard : Claim7 := { stood := { row := chainSignedRow, standIns := [], harness := (true, "2c3af061bff2f7b81d9d02927f881bf631e77c46696dfafed7b3abaa3b9b07ba"), looks := false }, kinds := [], alts := [], laidByText := true, laidKinds := [.data], laidTests := true, laidLooks := .later }
def ChainSignedCardSaid : Prop := Claim7.holds Tryd.pinned (.plain (OpenSpec.ofChange chainSignedSpec)) chainSignedCard

/-- THE SECOND FORM's CARD OF 'refectorylaw12.ChainJoins'. -/
def chainJoinsUptoCard : Claim7 := { stood := { row := chainJoinsUptoRow, standIns := [], harness := (true, "2c3af061bff2f7b81d9d02927f881bf631e77c46696dfafed7b3abaa3b9b07ba"), looks := false }, kinds := [], alts := [], laidByText := true, laidKinds := [.data], laidTests := true, laidLooks := .later }
def ChainJoinsUptoCardSaid : Prop := Claim7.holds Tryd.pinned (.plain (OpenSpec.upto chainJoinsSpec)) chainJoinsUptoCard

/-- THE SECOND FORM's CARD OF 'refectorylaw12.ChainSplits'. -/
def chainSplitsUptoCard : Claim7 := { stood := { row := chainSplitsUptoRow, standIns := [], harness := (true, "2c3af061bff2f7b81d9d02927f881bf631e77c46696dfafed7b3abaa3b9b07ba"), looks := false }, kinds := [], alts := [], laidByText := true, laidKinds := [.data], laidTests := true, laidLooks := .later }
def ChainSplitsUptoCardSaid : Prop := Claim7.holds Tryd.pinned (.plain (OpenSpec.upto chainSplitsSpec)) chainSplitsUptoCard

/-- THE SECOND FORM's CARD OF 'refectorylaw12.ChainSeals'. -/
def chainSealsUptoCard : Claim7 := { stood := { row := chainSealsUptoRow, standIns := [], harness := (true, "2c3af061bff2f7b81d9d02927f881bf631e77c46696dfafed7b3abaa3b9b07ba"), looks := false }, kinds := [], alts := [], laidByText := true, laidKinds := [.data], laidTests := true, laidLooks := .later }
def ChainSealsUptoCardSaid : Prop := Claim7.holds Tryd.pinned (.plain (OpenSpec.upto chainSealsSpec)) chainSealsUptoCard

/-- THE SECOND FORM's CARD OF 'refectorylaw12.ChainBack'. -/
def chainBackUptoCard : Claim7 := { stood := { row := chainBackUptoRow, standIns := [], harness := (true, "2c3af061bff2f7b81d9d02927f881bf631e77c46696dfafed7b3abaa3b9b07ba"), looks := false }, kinds := [], alts := [], laidByText := true, laidKinds := [.data], laidTests := true, laidLooks := .later }
def ChainBackUptoCardSaid : Prop := Claim7.holds Tryd.pinned (.plain (OpenSpec.upto chainBackSpec)) chainBackUptoCard

/-- THE SECOND FORM's CARD OF 'refectorylaw12.ChainCover'. -/
def chainCoverUptoCard : Claim7 := { stood := { row := chainCoverUptoRow, standIns := [], harness := (true, "2c3af061bff2f7b81d9d02927f881bf631e77c46696dfafed7b3abaa3b9b07ba"), looks := false }, kinds := [], alts := [], laidByText := true, laidKinds := [.data], laidTests := true, laidLooks := .later }
def ChainCoverUptoCardSaid : Prop := Claim7.holds Tryd.pinned (.plain (OpenSpec.upto chainCoverSpec)) chainCoverUptoCard

/-- THE SECOND FORM's CARD OF 'refectorylaw12.ChainFresh'. -/
def chainFreshUptoCard : Claim7 := { stood := { row := chainFreshUptoRow, standIns := [], harness := (true, "2c3af061bff2f7b81d9d02927f881bf631e77c46696dfafed7b3abaa3b9b07ba"), looks := false }, kinds := [], alts := [], laidByText := true, laidKinds := [.data], laidTests := true, laidLooks := .later }
def ChainFreshUptoCardSaid : Prop := Claim7.holds Tryd.pinned (.plain (OpenSpec.upto chainFreshSpec)) chainFreshUptoCard

/-- THE SECOND FORM's CARD OF 'refectorylaw12.ChainSigned'. -/
def chainSignedUptoCard : Claim7 := { stood := { row := chainSignedUptoRow, standIns := [], harness := (true, "2c3af061bff2f7b81d9d02927f881bf631e77c46696dfafed7b3abaa3b9b07ba"), looks := false }, kinds := [], alts := [], laidByText := true, laidKinds := [.data], laidTests := true, laidLooks := .later }
def ChainSignedUptoCardSaid : Prop := Claim7.holds Tryd.pinned (.plain (OpenSpec.upto chainSignedSpec)) chainSignedUptoCard
end Rows
end Go.Proofs.YtdbndnleniedaaaDoor
