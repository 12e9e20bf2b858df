/-
  DERIVED. GIVEN WITH THE SEED: THE CARDS: each row of YtgipkhjpedpedaaDoorRows.lean that lists a variable, with what it lists TIED to the program's text (the seventh form; the later family's looks); each row that meets fmt, with fmt's text TOLD by the authors' own Lean function (tested against real Go, not proved from fmt's source: count such statements apart). THE CARD IS WHAT COUNTS. Prove the row's statement (the work); the ties are given (YtgipkhjpedpedaaDoorTie.lean); close each card by the builder's one call (the guide's Derived/Test/ToyasCard.lean, 'card_holds'). Laid BY PROGRAM, IN A SANDBOX (cutbox-door.mjs). By AI agents, Wed Nov 11 2026. No macro, syntax, notation, axiom, sorry.
-/
import Derived.Test.YtgipkhjpedpedaaDoorRows
import GoSem.ClaimSeven
namespace Go.Proofs.YtgipkhjpedpedaaDoor
namespace Rows

/-- THE TIED CARD OF 'refectorylaw10.InfoAsks'. -/
def infoAsksCard : Claim7 := { stood := { row := infoAsksRow, standIns := [], harness := (true, "b8194191a12921b776ef8d2b25d5c826ef6ddf5b391bcd1353557c62f9ed6f02"), looks := false }, kinds := [], alts := [], laidByText := true, laidKinds := [.data, .pinned], laidTests := true, laidLooks := .later }
def InfoAsksCardSaid : Prop := Claim7.holds Tryd.pinned (.plain (OpenSpec.ofChange infoAsksSpec)) infoAsksCard

/-- THE TIED CARD OF 'refectorylaw10.InfoGets'. -/
def infoGetsCard : Claim7 := { stood := { row := infoGetsRow, standIns := [], harness := (true, "b8194191a12921b776ef8d2b25d5c826ef6ddf5b391bcd1353557c62f9ed6f02"), looks := false }, kinds := [], alts := [], laidByText := true, laidKinds := [.data, .pinned], laidTests := true, laidLooks := .later }
def InfoGetsCardSaid : Prop := Claim7.holds Tryd.pinned (.plain (OpenSpec.ofChange infoGetsSpec)) infoGetsCard

/-- THE TIED CARD OF 'refectorylaw10.InfoCut'. -/
def infoCutCard : Claim7 := { stood := { row := infoCutRow, standIns := [], harness := (true, "b8194191a12921b776ef8d2b25d5c826ef6ddf5b391bcd1353557c62f9ed6f02"), looks := false }, kinds := [], alts := [], laidByText := true, laidKinds := [.data, .pinned], laidTests := true, laidLooks := .later }
def InfoCutCardSaid : Prop := Claim7.holds Tryd.pinned (.plain (OpenSpec.ofChange infoCutSpec)) infoCutCard

/-- THE TIED CARD OF 'refectorylaw10.InfoSays'. -/
def infoSaysCard : Claim7 := { stood := { row := infoSaysRow, standIns := [], harness := (true, "b8194191a12921b776ef8d2b25d5c826ef6ddf5b391bcd1353557c62f9ed6f02"), looks := false }, kinds := [], alts := [], laidByText := true, laidKinds := [.data, .pinned], laidTests := true, laidLooks := .later }
def InfoSaysCardSaid : Prop := Claim7.holds Tryd.pinned (.plain (OpenSpec.ofChange infoSaysSpec)) infoSaysCard

/-- THE TIED CARD OF 'refectorylaw10.InfoBack'. -/
def infoBackCard : Claim7 := { stood := { row := infoBackRow, standIns := [], harness := (true, "b8194191a12921b776ef8d2b25d5c826ef6ddf5b391bcd1353557c62f9ed6f02"), looks := false }, kinds := [], alts := [], laidByText := true, laidKinds := [.data, .pinned], laidTests := true, laidLooks := .later }
def InfoBackCardSaid : Prop := Claim7.holds Tryd.pinned (.plain (OpenSpec.ofChange infoBackSpec)) infoBackCard

/-- THE TIED CARD OF 'refectorylaw10.InfoOnce'. -/
def infoOnceCard : Claim7 := { stood := { row := infoOnceRow, standIns := [], harness := (true, "b8194191a12921b776ef8d2b25d5c826ef6ddf5b391bcd1353557c62f9ed6f02"), looks := false }, kinds := [], alts := [], laidByText := true, laidKinds := [.data, .pinned], laidTests := true, laidLooks := .later }
def InfoOnceCardSaid : Prop := Claim7.holds Tryd.pinned (.plain (OpenSpec.ofChange infoOnceSpec)) infoOnceCard

/-- THE TIED CARD OF 'refectorylaw10.InfoFresh'. -/
def infoFreshCard : Claim7 := { stood := { row := infoFreshRow, standIns := [], harness := (true, "b8194191a12921b776ef8d2b25d5c826ef6ddf5b391bcd1353557c62f9ed6f02"), looks := false }, kinds := [], alts := [], laidByText := true, laidKinds := [.data, .pinned], laidTests := true, laidLooks := .later }
def InfoFreshCardSaid : Prop := Claim7.holds Tryd.pinned (.plain (OpenSpec.ofChange infoFreshSpec)) infoFreshCard

/-- THE SECOND FORM's CARD OF 'refectorylaw10.InfoAsks'. -/
def infoAsksUptoCard : Claim7 := { stood := { row := infoAsksUptoRow, standIns := [], harness := (true, "b8194191a12921b776ef8d2b25d5c826ef6ddf5b391bcd1353557c62f9ed6f02"), looks := false }, kinds := [], alts := [], laidByText := true, laidKinds := [.data, .pinned], laidTests := true, laidLooks := .later }
def InfoAsksUptoCardSaid : Prop := Claim7.holds Tryd.pinned (.plain (OpenSpec.upto infoAsksSpec)) infoAsksUptoCard

/-- THE SECOND FORM's CARD OF 'refectorylaw10.InfoGets'. -/
def infoGetsUptoCard : Claim7 := { stood := { row := infoGetsUptoRow, standIns := [], harness := (true, "b8194191a12921b776ef8d2b25d5c826ef6ddf5b391bcd1353557c62f9ed6f02"), looks := false }, kinds := [], alts := [], laidByText := true, laidKinds := [.data, .pinned], laidTests := true, laidLooks := .later }
def InfoGetsUptoCardSaid : Prop := Claim7.holds Tryd.pinned (.plain (OpenSpec.upto infoGetsSpec)) infoGetsUptoCard

/-- THE SECOND FORM's CARD OF 'refectorylaw10.InfoCut'. -/
def infoCutUptoCard : Claim7 := { stood := { row := infoCutUptoRow, standIns := [], harness := (true, "b8194191a12921b776ef8d2b25d5c826ef6ddf5b391bcd1353557c62f9ed6f02"), looks := false }, kinds := [], alts := [], laidByText := true, laidKinds := [.data, .pinned], laidTests := true, laidLooks := .later }
def InfoCutUptoCardSaid : Prop := Claim7.holds Tryd.pinned (.plain (OpenSpec.upto infoCutSpec)) infoCutUptoCard

/-- THE SECOND FORM's CARD OF 'refectorylaw10.InfoSays'. -/
def infoSaysUptoCard : Claim7 := { stood := { row := infoSaysUptoRow, standIns := [], harness := (true, "b8194191a12921b776ef8d2b25d5c826ef6ddf5b391bcd1353557c62f9ed6f02"), looks := false }, kinds := [], alts := [], laidByText := true, laidKinds := [.data, .pinned], laidTests := true, laidLooks := .later }
def InfoSaysUptoCardSaid : Prop := Claim7.holds Tryd.pinned (.plain (OpenSpec.upto infoSaysSpec)) infoSaysUptoCard

/-- THE SECOND FORM's CARD OF 'refectorylaw10.InfoBack'. -/
def infoBackUptoCard : Claim7 := { stood := { row := infoBackUptoRow, standIns := [], harness := (true, "b8194191a12921b776ef8d2b25d5c826ef6ddf5b391bcd1353557c62f9ed6f02"), looks := false }, kinds := [], alts := [], laidByText := true, laidKinds := [.data, .pinned], laidTests := true, laidLooks := .later }
def InfoBackUptoCardSaid : Prop := Claim7.holds Tryd.pinned (.plain (OpenSpec.upto infoBackSpec)) infoBackUptoCard

/-- THE SECOND FORM's CARD OF 'refectorylaw10.InfoOnce'. -/
def infoOnceUptoCard : Claim7 := { stood := { row := infoOnceUptoRow, standIns := [], harness := (true, "b8194191a12921b776ef8d2b25d5c826ef6ddf5b391bcd1353557c62f9ed6f02"), looks := false }, kinds := [], alts := [], laidByText := true, laidKinds := [.data, .pinned], laidTests := true, laidLooks := .later }
def InfoOnceUptoCardSaid : Prop := Claim7.holds Tryd.pinned (.plain (OpenSpec.upto infoOnceSpec)) infoOnceUptoCard

/-- THE SECOND FORM's CARD OF 'refectorylaw10.InfoFresh'. -/
def infoFreshUptoCard : Claim7 := { stood := { row := infoFreshUptoRow, standIns := [], harness := (true, "b8194191a12921b776ef8d2b25d5c826ef6ddf5b391bcd1353557c62f9ed6f02"), looks := false }, kinds := [], alts := [], laidByText := true, laidKinds := [.data, .pinned], laidTests := true, laidLooks := .later }
def InfoFreshUptoCardSaid : Prop := Claim7.holds Tryd.pinned (.plain (OpenSpec.upto infoFreshSpec)) infoFreshUptoCard
end Rows
end Go.Proofs.YtgipkhjpedpedaaDoor
