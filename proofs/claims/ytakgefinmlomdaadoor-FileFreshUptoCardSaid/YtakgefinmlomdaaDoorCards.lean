/-
  DERIVED. GIVEN WITH THE SEED: THE CARDS: each row of YtakgefinmlomdaaDoorRows.lean that lists a variable, with what it lists TIED to the program's text (the seventh form; the later family's looks); each row that meets fmt, with fmt's text TOLD by the authors' own Lean function (tested against real Go, not proved from fmt's source: count such statements apart). THE CARD IS WHAT COUNTS. Prove the row's statement (the work); the ties are given (YtakgefinmlomdaaDoorTie.lean); close each card by the builder's one call (the guide's Derived/Test/ToyasCard.lean, 'card_holds'). Laid BY PROGRAM, IN A SANDBOX (cutbox-door.mjs). By AI agents, Wed Nov 11 2026. No macro, syntax, notation, axiom, sorry.
-/
import Derived.Test.YtakgefinmlomdaaDoorRows
import GoSem.ClaimSeven
namespace Go.Proofs.YtakgefinmlomdaaDoor
namespace Rows

/-- THE TIED CARD OF 'refectorylaw09.FileAsks'. -/
def fileAsksCard : Claim7 := { stood := { row := fileAsksRow, standIns := [], harness := (true, "75f9ea25ebf3271a5d6acf1767f64ca862e68583cc302fa0a6500d2067a930f2"), looks := false }, kinds := [], alts := [], laidByText := true, laidKinds := [.data, .pinned], laidTests := true, laidLooks := .later }
def FileAsksCardSaid : Prop := Claim7.holds Tryd.pinned (.plain (OpenSpec.ofChange fileAsksSpec)) fileAsksCard

/-- THE TIED CARD OF 'refectorylaw09.FileGets'. -/
def fileGetsCard : Claim7 := { stood := { row := fileGetsRow, standIns := [], harness := (true, "75f9ea25ebf3271a5d6acf1767f64ca862e68583cc302fa0a6500d2067a930f2"), looks := false }, kinds := [], alts := [], laidByText := true, laidKinds := [.data, .pinned], laidTests := true, laidLooks := .later }
def FileGetsCardSaid : Prop := Claim7.holds Tryd.pinned (.plain (OpenSpec.ofChange fileGetsSpec)) fileGetsCard

/-- THE TIED CARD OF 'refectorylaw09.FileCut'. -/
def fileCutCard : Claim7 := { stood := { row := fileCutRow, standIns := [], harness := (true, "75f9ea25ebf3271a5d6acf1767f64ca862e68583cc302fa0a6500d2067a930f2"), looks := false }, kinds := [], alts := [], laidByText := true, laidKinds := [.data, .pinned], laidTests := true, laidLooks := .later }
def FileCutCardSaid : Prop := Claim7.holds Tryd.pinned (.plain (OpenSpec.ofChange fileCutSpec)) fileCutCard

/-- THE TIED CARD OF 'refectorylaw09.FileCharge'. -/
def fileChargeCard : Claim7 := { stood := { row := fileChargeRow, standIns := [], harness := (true, "75f9ea25ebf3271a5d6acf1767f64ca862e68583cc302fa0a6500d2067a930f2"), looks := false }, kinds := [], alts := [], laidByText := true, laidKinds := [.data, .pinned], laidTests := true, laidLooks := .later }
def FileChargeCardSaid : Prop := Claim7.holds Tryd.pinned (.plain (OpenSpec.ofChange fileChargeSpec)) fileChargeCard

/-- THE TIED CARD OF 'refectorylaw09.FileSays'. -/
def fileSaysCard : Claim7 := { stood := { row := fileSaysRow, standIns := [], harness := (true, "75f9ea25ebf3271a5d6acf1767f64ca862e68583cc302fa0a6500d2067a930f2"), looks := false }, kinds := [], alts := [], laidByText := true, laidKinds := [.data, .pinned], laidTests := true, laidLooks := .later }
def FileSaysCardSaid : Prop := Claim7.holds Tryd.pinned (.plain (OpenSpec.ofChange fileSaysSpec)) fileSaysCard

/-- THE TIED CARD OF 'refectorylaw09.FileBack'. -/
def fileBackCard : Claim7 := { stood := { row := fileBackRow, standIns := [], harness := (true, "75f9ea25ebf3271a5d6acf1767f64ca862e68583cc302fa0a6500d2067a930f2"), looks := false }, kinds := [], alts := [], laidByText := true, laidKinds := [.data, .pinned], laidTests := true, laidLooks := .later }
def FileBackCardSaid : Prop := Claim7.holds Tryd.pinned (.plain (OpenSpec.ofChange fileBackSpec)) fileBackCard

/-- THE TIED CARD OF 'refectorylaw09.FileOnce'. -/
def fileOnceCard : Claim7 := { stood := { row := fileOnceRow, standIns := [], harness := (true, "75f9ea25ebf3271a5d6acf1767f64ca862e68583cc302fa0a6500d2067a930f2"), looks := false }, kinds := [], alts := [], laidByText := true, laidKinds := [.data, .pinned], laidTests := true, laidLooks := .later }
def FileOnceCardSaid : Prop := Claim7.holds Tryd.pinned (.plain (OpenSpec.ofChange fileOnceSpec)) fileOnceCard

/-- THE TIED CARD OF 'refectorylaw09.FileFresh'. -/
def fileFreshCard : Claim7 := { stood := { row := fileFreshRow, standIns := [], harness := (true, "75f9ea25ebf3271a5d6acf1767f64ca862e68583cc302fa0a6500d2067a930f2"), looks := false }, kinds := [], alts := [], laidByText := true, laidKinds := [.data, .pinned], laidTests := true, laidLooks := .later }
def FileFreshCardSaid : Prop := Claim7.holds Tryd.pinned (.plain (OpenSpec.ofChange fileFreshSpec)) fileFreshCard

/-- THE SECOND FORM's CARD OF 'refectorylaw09.FileAsks'. -/
def fileAsksUptoCard : Claim7 := { stood := { row := fileAsksUptoRow, standIns := [], harness := (true, "75f9ea25ebf3271a5d6acf1767f64ca862e68583cc302fa0a6500d2067a930f2"), looks := false }, kinds := [], alts := [], laidByText := true, laidKinds := [.data, .pinned], laidTests := true, laidLooks := .later }
def FileAsksUptoCardSaid : Prop := Claim7.holds Tryd.pinned (.plain (OpenSpec.upto fileAsksSpec)) fileAsksUptoCard

/-- THE SECOND FORM's CARD OF 'refectorylaw09.FileGets'. -/
def fileGetsUptoCard : Claim7 := { stood := { row := fileGetsUptoRow, standIns := [], harness := (true, "75f9ea25ebf3271a5d6acf1767f64ca862e68583cc302fa0a6500d2067a930f2"), looks := false }, kinds := [], alts := [], laidByText := true, laidKinds := [.data, .pinned], laidTests := true, laidLooks := .later }
def FileGetsUptoCardSaid : Prop := Claim7.holds Tryd.pinned (.plain (OpenSpec.upto fileGetsSpec)) fileGetsUptoCard

/-- THE SECOND FORM's CARD OF 'refectorylaw09.FileCut'. -/
def fileCutUptoCard : Claim7 := { stood := { row := fileCutUptoRow, standIns := [], harness := (true, "75f9ea25ebf3271a5d6acf1767f64ca862e68583cc302fa0a6500d2067a930f2"), looks := false }, kinds := [], alts := [], laidByText := true, laidKinds := [.data, .pinned], laidTests := true, laidLooks := .later }
def FileCutUptoCardSaid : Prop := Claim7.holds Tryd.pinned (.plain (OpenSpec.upto fileCutSpec)) fileCutUptoCard

/-- THE SECOND FORM's CARD OF 'refectorylaw09.FileCharge'. -/
def fileChargeUptoCard : Claim7 := { stood := { row := fileChargeUptoRow, standIns := [], harness := (true, "75f9ea25ebf3271a5d6acf1767f64ca862e68583cc302fa0a6500d2067a930f2"), looks := false }, kinds := [], alts := [], laidByText := true, laidKinds := [.data, .pinned], laidTests := true, laidLooks := .later }
def FileChargeUptoCardSaid : Prop := Claim7.holds Tryd.pinned (.plain (OpenSpec.upto fileChargeSpec)) fileChargeUptoCard

/-- THE SECOND FORM's CARD OF 'refectorylaw09.FileSays'. -/
def fileSaysUptoCard : Claim7 := { stood := { row := fileSaysUptoRow, standIns := [], harness := (true, "75f9ea25ebf3271a5d6acf1767f64ca862e68583cc302fa0a6500d2067a930f2"), looks := false }, kinds := [], alts := [], laidByText := true, laidKinds := [.data, .pinned], laidTests := true, laidLooks := .later }
def FileSaysUptoCardSaid : Prop := Claim7.holds Tryd.pinned (.plain (OpenSpec.upto fileSaysSpec)) fileSaysUptoCard

/-- THE SECOND FORM's CARD OF 'refectorylaw09.FileBack'. -/
def fileBackUptoCard : Claim7 := { stood := { row := fileBackUptoRow, standIns := [], harness := (true, "75f9ea25ebf3271a5d6acf1767f64ca862e68583cc302fa0a6500d2067a930f2"), looks := false }, kinds := [], alts := [], laidByText := true, laidKinds := [.data, .pinned], laidTests := true, laidLooks := .later }
def FileBackUptoCardSaid : Prop := Claim7.holds Tryd.pinned (.plain (OpenSpec.upto fileBackSpec)) fileBackUptoCard

/-- THE SECOND FORM's CARD OF 'refectorylaw09.FileOnce'. -/
def fileOnceUptoCard : Claim7 := { stood := { row := fileOnceUptoRow, standIns := [], harness := (true, "75f9ea25ebf3271a5d6acf1767f64ca862e68583cc302fa0a6500d2067a930f2"), looks := false }, kinds := [], alts := [], laidByText := true, laidKinds := [.data, .pinned], laidTests := true, laidLooks := .later }
def FileOnceUptoCardSaid : Prop := Claim7.holds Tryd.pinned (.plain (OpenSpec.upto fileOnceSpec)) fileOnceUptoCard

/-- THE SECOND FORM's CARD OF 'refectorylaw09.FileFresh'. -/
def fileFreshUptoCard : Claim7 := { stood := { row := fileFreshUptoRow, standIns := [], harness := (true, "75f9ea25ebf3271a5d6acf1767f64ca862e68583cc302fa0a6500d2067a930f2"), looks := false }, kinds := [], alts := [], laidByText := true, laidKinds := [.data, .pinned], laidTests := true, laidLooks := .later }
def FileFreshUptoCardSaid : Prop := Claim7.holds Tryd.pinned (.plain (OpenSpec.upto fileFreshSpec)) fileFreshUptoCard
end Rows
end Go.Proofs.YtakgefinmlomdaaDoor
