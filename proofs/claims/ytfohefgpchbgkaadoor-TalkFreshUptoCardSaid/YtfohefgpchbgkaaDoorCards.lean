/-
  DERIVED. GIVEN WITH THE SEED: THE CARDS: each row of YtfohefgpchbgkaaDoorRows.lean that lists a variable, with what it lists TIED to the program's text (the seventh form; the later family's looks); each row that meets fmt, with fmt's text TOLD by the authors' own Lean function (tested against real Go, not proved from fmt's source: count such statements apart). THE CARD IS WHAT COUNTS. Prove the row's statement (the work); the ties are given (YtfohefgpchbgkaaDoorTie.lean); close each card by the builder's one call (the guide's Derived/Test/ToyasCard.lean, 'card_holds'). Laid BY PROGRAM, IN A SANDBOX (cutbox-door.mjs). By AI agents, Wed Nov 11 2026. No macro, syntax, notation, axiom, sorry.
-/
import Derived.Test.YtfohefgpchbgkaaDoorRows
import GoSem.ClaimSeven
namespace Go.Proofs.YtfohefgpchbgkaaDoor
namespace Rows

/-- THE TIED CARD OF 'refectorylaw08.TalkAsks'. -/
def talkAsksCard : Claim7 := { stood := { row := talkAsksRow, standIns := [], harness := (true, "f5842b2157fe778cdf0db53e222ec6d05bcdf5a8b43c0372c4f9890c0833427a"), looks := false }, kinds := [], alts := [], laidByText := true, laidKinds := [.data, .pinned], laidTests := true, laidLooks := .later }
def TalkAsksCardSaid : Prop := Claim7.holds Tryd.pinned (.plain (OpenSpec.ofChange talkAsksSpec)) talkAsksCard

/-- THE TIED CARD OF 'refectorylaw08.TalkGets'. -/
def talkGetsCard : Claim7 := { stood := { row := talkGetsRow, standIns := [], harness := (true, "f5842b2157fe778cdf0db53e222ec6d05bcdf5a8b43c0372c4f9890c0833427a"), looks := false }, kinds := [], alts := [], laidByText := true, laidKinds := [.data, .pinned], laidTests := true, laidLooks := .later }
def TalkGetsCardSaid : Prop := Claim7.holds Tryd.pinned (.plain (OpenSpec.ofChange talkGetsSpec)) talkGetsCard

/-- THE TIED CARD OF 'refectorylaw08.TalkCut'. -/
def talkCutCard : Claim7 := { stood := { row := talkCutRow, standIns := [], harness := (true, "f5842b2157fe778cdf0db53e222ec6d05bcdf5a8b43c0372c4f9890c0833427a"), looks := false }, kinds := [], alts := [], laidByText := true, laidKinds := [.data, .pinned], laidTests := true, laidLooks := .later }
def TalkCutCardSaid : Prop := Claim7.holds Tryd.pinned (.plain (OpenSpec.ofChange talkCutSpec)) talkCutCard

/-- THE TIED CARD OF 'refectorylaw08.TalkRows'. -/
def talkRowsCard : Claim7 := { stood := { row := talkRowsRow, standIns := [], harness := (true, "f5842b2157fe778cdf0db53e222ec6d05bcdf5a8b43c0372c4f9890c0833427a"), looks := false }, kinds := [], alts := [], laidByText := true, laidKinds := [.data, .pinned], laidTests := true, laidLooks := .later }
def TalkRowsCardSaid : Prop := Claim7.holds Tryd.pinned (.plain (OpenSpec.ofChange talkRowsSpec)) talkRowsCard

/-- THE TIED CARD OF 'refectorylaw08.TalkSays'. -/
def talkSaysCard : Claim7 := { stood := { row := talkSaysRow, standIns := [], harness := (true, "f5842b2157fe778cdf0db53e222ec6d05bcdf5a8b43c0372c4f9890c0833427a"), looks := false }, kinds := [], alts := [], laidByText := true, laidKinds := [.data, .pinned], laidTests := true, laidLooks := .later }
def TalkSaysCardSaid : Prop := Claim7.holds Tryd.pinned (.plain (OpenSpec.ofChange talkSaysSpec)) talkSaysCard

/-- THE TIED CARD OF 'refectorylaw08.TalkBack'. -/
def talkBackCard : Claim7 := { stood := { row := talkBackRow, standIns := [], harness := (true, "f5842b2157fe778cdf0db53e222ec6d05bcdf5a8b43c0372c4f9890c0833427a"), looks := false }, kinds := [], alts := [], laidByText := true, laidKinds := [.data, .pinned], laidTests := true, laidLooks := .later }
def TalkBackCardSaid : Prop := Claim7.holds Tryd.pinned (.plain (OpenSpec.ofChange talkBackSpec)) talkBackCard

/-- THE TIED CARD OF 'refectorylaw08.TalkOnce'. -/
def talkOnceCard : Claim7 := { stood := { row := talkOnceRow, standIns := [], harness := (true, "f5842b2157fe778cdf0db53e222ec6d05bcdf5a8b43c0372c4f9890c0833427a"), looks := false }, kinds := [], alts := [], laidByText := true, laidKinds := [.data, .pinned], laidTests := true, laidLooks := .later }
def TalkOnceCardSaid : Prop := Claim7.holds Tryd.pinned (.plain (OpenSpec.ofChange talkOnceSpec)) talkOnceCard

/-- THE TIED CARD OF 'refectorylaw08.TalkFresh'. -/
def talkFreshCard : Claim7 := { stood := { row := talkFreshRow, standIns := [], harness := (true, "f5842b2157fe778cdf0db53e222ec6d05bcdf5a8b43c0372c4f9890c0833427a"), looks := false }, kinds := [], alts := [], laidByText := true, laidKinds := [.data, .pinned], laidTests := true, laidLooks := .later }
def TalkFreshCardSaid : Prop := Claim7.holds Tryd.pinned (.plain (OpenSpec.ofChange talkFreshSpec)) talkFreshCard

/-- THE SECOND FORM's CARD OF 'refectorylaw08.TalkAsks'. -/
def talkAsksUptoCard : Claim7 := { stood := { row := talkAsksUptoRow, standIns := [], harness := (true, "f5842b2157fe778cdf0db53e222ec6d05bcdf5a8b43c0372c4f9890c0833427a"), looks := false }, kinds := [], alts := [], laidByText := true, laidKinds := [.data, .pinned], laidTests := true, laidLooks := .later }
def TalkAsksUptoCardSaid : Prop := Claim7.holds Tryd.pinned (.plain (OpenSpec.upto talkAsksSpec)) talkAsksUptoCard

/-- THE SECOND FORM's CARD OF 'refectorylaw08.TalkGets'. -/
def talkGetsUptoCard : Claim7 := { stood := { row := talkGetsUptoRow, standIns := [], harness := (true, "f5842b2157fe778cdf0db53e222ec6d05bcdf5a8b43c0372c4f9890c0833427a"), looks := false }, kinds := [], alts := [], laidByText := true, laidKinds := [.data, .pinned], laidTests := true, laidLooks := .later }
def TalkGetsUptoCardSaid : Prop := Claim7.holds Tryd.pinned (.plain (OpenSpec.upto talkGetsSpec)) talkGetsUptoCard

/-- THE SECOND FORM's CARD OF 'refectorylaw08.TalkCut'. -/
def talkCutUptoCard : Claim7 := { stood := { row := talkCutUptoRow, standIns := [], harness := (true, "f5842b2157fe778cdf0db53e222ec6d05bcdf5a8b43c0372c4f9890c0833427a"), looks := false }, kinds := [], alts := [], laidByText := true, laidKinds := [.data, .pinned], laidTests := true, laidLooks := .later }
def TalkCutUptoCardSaid : Prop := Claim7.holds Tryd.pinned (.plain (OpenSpec.upto talkCutSpec)) talkCutUptoCard

/-- THE SECOND FORM's CARD OF 'refectorylaw08.TalkRows'. -/
def talkRowsUptoCard : Claim7 := { stood := { row := talkRowsUptoRow, standIns := [], harness := (true, "f5842b2157fe778cdf0db53e222ec6d05bcdf5a8b43c0372c4f9890c0833427a"), looks := false }, kinds := [], alts := [], laidByText := true, laidKinds := [.data, .pinned], laidTests := true, laidLooks := .later }
def TalkRowsUptoCardSaid : Prop := Claim7.holds Tryd.pinned (.plain (OpenSpec.upto talkRowsSpec)) talkRowsUptoCard

/-- THE SECOND FORM's CARD OF 'refectorylaw08.TalkSays'. -/
def talkSaysUptoCard : Claim7 := { stood := { row := talkSaysUptoRow, standIns := [], harness := (true, "f5842b2157fe778cdf0db53e222ec6d05bcdf5a8b43c0372c4f9890c0833427a"), looks := false }, kinds := [], alts := [], laidByText := true, laidKinds := [.data, .pinned], laidTests := true, laidLooks := .later }
def TalkSaysUptoCardSaid : Prop := Claim7.holds Tryd.pinned (.plain (OpenSpec.upto talkSaysSpec)) talkSaysUptoCard

/-- THE SECOND FORM's CARD OF 'refectorylaw08.TalkBack'. -/
def talkBackUptoCard : Claim7 := { stood := { row := talkBackUptoRow, standIns := [], harness := (true, "f5842b2157fe778cdf0db53e222ec6d05bcdf5a8b43c0372c4f9890c0833427a"), looks := false }, kinds := [], alts := [], laidByText := true, laidKinds := [.data, .pinned], laidTests := true, laidLooks := .later }
def TalkBackUptoCardSaid : Prop := Claim7.holds Tryd.pinned (.plain (OpenSpec.upto talkBackSpec)) talkBackUptoCard

/-- THE SECOND FORM's CARD OF 'refectorylaw08.TalkOnce'. -/
def talkOnceUptoCard : Claim7 := { stood := { row := talkOnceUptoRow, standIns := [], harness := (true, "f5842b2157fe778cdf0db53e222ec6d05bcdf5a8b43c0372c4f9890c0833427a"), looks := false }, kinds := [], alts := [], laidByText := true, laidKinds := [.data, .pinned], laidTests := true, laidLooks := .later }
def TalkOnceUptoCardSaid : Prop := Claim7.holds Tryd.pinned (.plain (OpenSpec.upto talkOnceSpec)) talkOnceUptoCard

/-- THE SECOND FORM's CARD OF 'refectorylaw08.TalkFresh'. -/
def talkFreshUptoCard : Claim7 := { stood := { row := talkFreshUptoRow, standIns := [], harness := (true, "f5842b2157fe778cdf0db53e222ec6d05bcdf5a8b43c0372c4f9890c0833427a"), looks := false }, kinds := [], alts := [], laidByText := true, laidKinds := [.data, .pinned], laidTests := true, laidLooks := .later }
def TalkFreshUptoCardSaid : Prop := Claim7.holds Tryd.pinned (.plain (OpenSpec.upto talkFreshSpec)) talkFreshUptoCard
end Rows
end Go.Proofs.YtfohefgpchbgkaaDoor
