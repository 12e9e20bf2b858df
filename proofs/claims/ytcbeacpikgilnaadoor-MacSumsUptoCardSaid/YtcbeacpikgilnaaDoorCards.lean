/-
  DERIVED. GIVEN WITH THE SEED: THE CARDS: each row of YtcbeacpikgilnaaDoorRows.lean that lists a variable, with what it lists TIED to the program's text (the seventh form; the later family's looks); each row that meets fmt, with fmt's text TOLD by the authors' own Lean function (tested against real Go, not proved from fmt's source: count such statements apart). THE CARD IS WHAT COUNTS. Prove the row's statement (the work); the ties are given (YtcbeacpikgilnaaDoorTie.lean); close each card by the builder's one call (the guide's Derived/Test/ToyasCard.lean, 'card_holds'). Laid BY PROGRAM, IN A SANDBOX (cutbox-door.mjs). By AI agents, Wed Nov 11 2026. No macro, syntax, notation, axiom, sorry.
-/
import Derived.Test.YtcbeacpikgilnaaDoorRows
import GoSem.ClaimSeven
namespace Go.Proofs.YtcbeacpikgilnaaDoor
namespace Rows

/-- THE TIED CARD OF 'refectorylaw03.ShaPresses'. -/
def shaPressesCard : Claim7 := { stood := { row := shaPressesRow, standIns := [], harness := (true, "bf80d300521b99d80bf6d3e2811c1e991be36a852aa973a504dc969d26d7bde1"), looks := false }, kinds := [], alts := [], laidByText := true, laidKinds := [.data], laidTests := true, laidLooks := .later }
def ShaPressesCardSaid : Prop := Claim7.holds Tryd.pinned (.plain (OpenSpec.ofChange shaPressesSpec)) shaPressesCard

/-- THE TIED CARD OF 'refectorylaw03.ShaBehind'. -/
def shaBehindCard : Claim7 := { stood := { row := shaBehindRow, standIns := [], harness := (true, "bf80d300521b99d80bf6d3e2811c1e991be36a852aa973a504dc969d26d7bde1"), looks := false }, kinds := [], alts := [], laidByText := true, laidKinds := [.data], laidTests := true, laidLooks := .later }
def ShaBehindCardSaid : Prop := Claim7.holds Tryd.pinned (.plain (OpenSpec.ofChange shaBehindSpec)) shaBehindCard

/-- THE TIED CARD OF 'refectorylaw03.ShaSums'. -/
def shaSumsCard : Claim7 := { stood := { row := shaSumsRow, standIns := [], harness := (true, "bf80d300521b99d80bf6d3e2811c1e991be36a852aa973a504dc969d26d7bde1"), looks := false }, kinds := [], alts := [], laidByText := true, laidKinds := [.data], laidTests := true, laidLooks := .later }
def ShaSumsCardSaid : Prop := Claim7.holds Tryd.pinned (.plain (OpenSpec.ofChange shaSumsSpec)) shaSumsCard

/-- THE TIED CARD OF 'refectorylaw03.ShaSteps'. -/
def shaStepsCard : Claim7 := { stood := { row := shaStepsRow, standIns := [], harness := (true, "bf80d300521b99d80bf6d3e2811c1e991be36a852aa973a504dc969d26d7bde1"), looks := false }, kinds := [], alts := [], laidByText := true, laidKinds := [.data], laidTests := true, laidLooks := .later }
def ShaStepsCardSaid : Prop := Claim7.holds Tryd.pinned (.plain (OpenSpec.ofChange shaStepsSpec)) shaStepsCard

/-- THE TIED CARD OF 'refectorylaw03.ShaFresh'. -/
def shaFreshCard : Claim7 := { stood := { row := shaFreshRow, standIns := [], harness := (true, "bf80d300521b99d80bf6d3e2811c1e991be36a852aa973a504dc969d26d7bde1"), looks := false }, kinds := [], alts := [], laidByText := true, laidKinds := [.data], laidTests := true, laidLooks := .later }
def ShaFreshCardSaid : Prop := Claim7.holds Tryd.pinned (.plain (OpenSpec.ofChange shaFreshSpec)) shaFreshCard

/-- THE TIED CARD OF 'refectorylaw04.MacSigns'. -/
def macSignsCard : Claim7 := { stood := { row := macSignsRow, standIns := [], harness := (true, "bf80d300521b99d80bf6d3e2811c1e991be36a852aa973a504dc969d26d7bde1"), looks := false }, kinds := [], alts := [], laidByText := true, laidKinds := [.data], laidTests := true, laidLooks := .later }
def MacSignsCardSaid : Prop := Claim7.holds Tryd.pinned (.plain (OpenSpec.ofChange macSignsSpec)) macSignsCard

/-- THE TIED CARD OF 'refectorylaw04.MacBack'. -/
def macBackCard : Claim7 := { stood := { row := macBackRow, standIns := [], harness := (true, "bf80d300521b99d80bf6d3e2811c1e991be36a852aa973a504dc969d26d7bde1"), looks := false }, kinds := [], alts := [], laidByText := true, laidKinds := [.data], laidTests := true, laidLooks := .later }
def MacBackCardSaid : Prop := Claim7.holds Tryd.pinned (.plain (OpenSpec.ofChange macBackSpec)) macBackCard

/-- THE TIED CARD OF 'refectorylaw04.MacOne'. -/
def macOneCard : Claim7 := { stood := { row := macOneRow, standIns := [], harness := (true, "bf80d300521b99d80bf6d3e2811c1e991be36a852aa973a504dc969d26d7bde1"), looks := false }, kinds := [], alts := [], laidByText := true, laidKinds := [.data], laidTests := true, laidLooks := .later }
def MacOneCardSaid : Prop := Claim7.holds Tryd.pinned (.plain (OpenSpec.ofChange macOneSpec)) macOneCard

/-- THE TIED CARD OF 'refectorylaw04.MacKeys'. -/
def macKeysCard : Claim7 := { stood := { row := macKeysRow, standIns := [], harness := (true, "bf80d300521b99d80bf6d3e2811c1e991be36a852aa973a504dc969d26d7bde1"), looks := false }, kinds := [], alts := [], laidByText := true, laidKinds := [.data], laidTests := true, laidLooks := .later }
def MacKeysCardSaid : Prop := Claim7.holds Tryd.pinned (.plain (OpenSpec.ofChange macKeysSpec)) macKeysCard

/-- THE TIED CARD OF 'refectorylaw04.MacFresh'. -/
def macFreshCard : Claim7 := { stood := { row := macFreshRow, standIns := [], harness := (true, "bf80d300521b99d80bf6d3e2811c1e991be36a852aa973a504dc969d26d7bde1"), looks := false }, kinds := [], alts := [], laidByText := true, laidKinds := [.data], laidTests := true, laidLooks := .later }
def MacFreshCardSaid : Prop := Claim7.holds Tryd.pinned (.plain (OpenSpec.ofChange macFreshSpec)) macFreshCard

/-- THE TIED CARD OF 'refectorylaw04.MacSums'. -/
def macSumsCard : Claim7 := { stood := { row := macSumsRow, standIns := [], harness := (true, "bf80d300521b99d80bf6d3e2811c1e991be36a852aa973a504dc969d26d7bde1"), looks := false }, kinds := [], alts := [], laidByText := true, laidKinds := [.data], laidTests := true, laidLooks := .later }
def MacSumsCardSaid : Prop := Claim7.holds Tryd.pinned (.plain (OpenSpec.ofChange macSumsSpec)) macSumsCard

/-- THE TIED CARD OF 'refectorylaw04.MacProof'. -/
def macProofCard : Claim7 := { stood := { row := macProofRow, standIns := [], harness := (true, "bf80d300521b99d80bf6d3e2811c1e991be36a852aa973a504dc969d26d7bde1"), looks := false }, kinds := [], alts := [], laidByText := true, laidKinds := [.data], laidTests := true, laidLooks := .later }
def MacProofCardSaid : Prop := Claim7.holds Tryd.pinned (.plain (OpenSpec.ofChange macProofSpec)) macProofCard

/-- THE SECOND FORM's CARD OF 'refectorylaw03.ShaPresses'. -/
def shaPressesUptoCard : Claim7 := { stood := { row := shaPressesUptoRow, standIns := [], harness := (true, "bf80d300521b99d80bf6d3e2811c1e991be36a852aa973a504dc969d26d7bde1"), looks := false }, kinds := [], alts := [], laidByText := true, laidKinds := [.data], laidTests := true, laidLooks := .later }
def ShaPressesUptoCardSaid : Prop := Claim7.holds Tryd.pinned (.plain (OpenSpec.upto shaPressesSpec)) shaPressesUptoCard

/-- THE SECOND FORM's CARD OF 'refectorylaw03.ShaBehind'. -/
def shaBehindUptoCard : Claim7 := { stood := { row := shaBehindUptoRow, standIns := [], harness := (true, "bf80d300521b99d80bf6d3e2811c1e991be36a852aa973a504dc969d26d7bde1"), looks := false }, kinds := [], alts := [], laidByText := true, laidKinds := [.data], laidTests := true, laidLooks := .later }
def ShaBehindUptoCardSaid : Prop := Claim7.holds Tryd.pinned (.plain (OpenSpec.upto shaBehindSpec)) shaBehindUptoCard

/-- THE SECOND FORM's CARD OF 'refectorylaw03.ShaSums'. -/
def shaSumsUptoCard : Claim7 := { stood := { row := shaSumsUptoRow, standIns := [], harness := (true, "bf80d300521b99d80bf6d3e2811c1e991be36a852aa973a504dc969d26d7bde1"), looks := false }, kinds := [], alts := [], laidByText := true, laidKinds := [.data], laidTests := true, laidLooks := .later }
def ShaSumsUptoCardSaid : Prop := Claim7.holds Tryd.pinned (.plain (OpenSpec.upto shaSumsSpec)) shaSumsUptoCard

/-- THE SECOND FORM's CARD OF 'refectorylaw03.ShaSteps'. -/
def shaStepsUptoCard : Claim7 := { stood := { row := shaStepsUptoRow, standIns := [], harness := (true, "bf80d300521b99d80bf6d3e2811c1e991be36a852aa973a504dc969d26d7bde1"), looks := false }, kinds := [], alts := [], laidByText := true, laidKinds := [.data], laidTests := true, laidLooks := .later }
def ShaStepsUptoCardSaid : Prop := Claim7.holds Tryd.pinned (.plain (OpenSpec.upto shaStepsSpec)) shaStepsUptoCard

/-- THE SECOND FORM's CARD OF 'refectorylaw03.ShaFresh'. -/
def shaFreshUptoCard : Claim7 := { stood := { row := shaFreshUptoRow, standIns := [], harness := (true, "bf80d300521b99d80bf6d3e2811c1e991be36a852aa973a504dc969d26d7bde1"), looks := false }, kinds := [], alts := [], laidByText := true, laidKinds := [.data], laidTests := true, laidLooks := .later }
def ShaFreshUptoCardSaid : Prop := Claim7.holds Tryd.pinned (.plain (OpenSpec.upto shaFreshSpec)) shaFreshUptoCard

/-- THE SECOND FORM's CARD OF 'refectorylaw04.MacSigns'. -/
def macSignsUptoCard : Claim7 := { stood := { row := macSignsUptoRow, standIns := [], harness := (true, "bf80d300521b99d80bf6d3e2811c1e991be36a852aa973a504dc969d26d7bde1"), looks := false }, kinds := [], alts := [], laidByText := true, laidKinds := [.data], laidTests := true, laidLooks := .later }
def MacSignsUptoCardSaid : Prop := Claim7.holds Tryd.pinned (.plain (OpenSpec.upto macSignsSpec)) macSignsUptoCard

/-- THE SECOND FORM's CARD OF 'refectorylaw04.MacBack'. -/
def macBackUptoCard : Claim7 := { stood := { row := macBackUptoRow, standIns := [], harness := (true, "bf80d300521b99d80bf6d3e2811c1e991be36a852aa973a504dc969d26d7bde1"), looks := false }, kinds := [], alts := [], laidByText := true, laidKinds := [.data], laidTests := true, laidLooks := .later }
def MacBackUptoCardSaid : Prop := Claim7.holds Tryd.pinned (.plain (OpenSpec.upto macBackSpec)) macBackUptoCard

/-- THE SECOND FORM's CARD OF 'refectorylaw04.MacOne'. -/
def macOneUptoCard : Claim7 := { stood := { row := macOneUptoRow, standIns := [], harness := (true, "bf80d300521b99d80bf6d3e2811c1e991be36a852aa973a504dc969d26d7bde1"), looks := false }, kinds := [], alts := [], laidByText := true, laidKinds := [.data], laidTests := true, laidLooks := .later }
def MacOneUptoCardSaid : Prop := Claim7.holds Tryd.pinned (.plain (OpenSpec.upto macOneSpec)) macOneUptoCard

/-- THE SECOND FORM's CARD OF 'refectorylaw04.MacKeys'. -/
def macKeysUptoCard : Claim7 := { stood := { row := macKeysUptoRow, standIns := [], harness := (true, "bf80d300521b99d80bf6d3e2811c1e991be36a852aa973a504dc969d26d7bde1"), looks := false }, kinds := [], alts := [], laidByText := true, laidKinds := [.data], laidTests := true, laidLooks := .later }
def MacKeysUptoCardSaid : Prop := Claim7.holds Tryd.pinned (.plain (OpenSpec.upto macKeysSpec)) macKeysUptoCard

/-- THE SECOND FORM's CARD OF 'refectorylaw04.MacFresh'. -/
def macFreshUptoCard : Claim7 := { stood := { row := macFreshUptoRow, standIns := [], harness := (true, "bf80d300521b99d80bf6d3e2811c1e991be36a852aa973a504dc969d26d7bde1"), looks := false }, kinds := [], alts := [], laidByText := true, laidKinds := [.data], laidTests := true, laidLooks := .later }
def MacFreshUptoCardSaid : Prop := Claim7.holds Tryd.pinned (.plain (OpenSpec.upto macFreshSpec)) macFreshUptoCard

/-- THE SECOND FORM's CARD OF 'refectorylaw04.MacSums'. -/
def macSumsUptoCard : Claim7 := { stood := { row := macSumsUptoRow, standIns := [], harness := (true, "bf80d300521b99d80bf6d3e2811c1e991be36a852aa973a504dc969d26d7bde1"), looks := false }, kinds := [], alts := [], laidByText := true, laidKinds := [.data], laidTests := true, laidLooks := .later }
def MacSumsUptoCardSaid : Prop := Claim7.holds Tryd.pinned (.plain (OpenSpec.upto macSumsSpec)) macSumsUptoCard

/-- THE SECOND FORM's CARD OF 'refectorylaw04.MacProof'. -/
def macProofUptoCard : Claim7 := { stood := { row := macProofUptoRow, standIns := [], harness := (true, "bf80d300521b99d80bf6d3e2811c1e991be36a852aa973a504dc969d26d7bde1"), looks := false }, kinds := [], alts := [], laidByText := true, laidKinds := [.data], laidTests := true, laidLooks := .later }
def MacProofUptoCardSaid : Prop := Claim7.holds Tryd.pinned (.plain (OpenSpec.upto macProofSpec)) macProofUptoCard
end Rows
end Go.Proofs.YtcbeacpikgilnaaDoor
