/-
  NARROWER THAN 'FOR EVERY INPUT', by the rows' own cells (each row's printed sentence says how): FileAsks: laid · FileGets: laid · FileCut: laid · FileCharge: laid · FileSays: laid · FileBack: laid · FileOnce: laid · FileFresh: laid.
  DERIVED. THE GIVEN ROWS OF THIS SEAT. 8 by the template 'for every input the law returns true; each argument reads behind the call as it read before'; 0 by the template 'total and deterministic' (their statements: YtakgefinmlomdaaDoorTotals.lean).
  GIVEN WITH THE SEED: the statements are not yours to turn. If you find one false, say at which input.
  Laid BY PROGRAM, IN A SANDBOX (cutbox-rows.mjs): the forced cells as the released guide's own fill.sh prints them over the translation bcef69e6f90ccdc7… (all of the seat's roots in one cut). By AI agents, Wed Nov 11 2026. No macro, syntax, notation, axiom, sorry.
-/
import Derived.Test.YtakgefinmlomdaaDoorChecked
import GoSem.PinnedTables
import GoSem.Claim
import GoSem.ClaimJoined
import GoSem.ClaimMapViews
import Derived.JoinedTies
import Derived.KernelRfl
namespace Go.Proofs.YtakgefinmlomdaaDoor
/- THE CELL 'sum', in the pinned program and in every row, IS THE sha256 OF THE DUMP (.gsa) THAT YtakgefinmlomdaaDoorProg.lean LOADS. Nothing in Lean hashes anything: it is a label: what it is worth is what the hold of that sum in a sandbox is worth. -/
noncomputable def Tryd.pinned : Pinned := { name := "ytakgefinmlomdaadoor", sum := "bcef69e6f90ccdc71811f6c01f3ac722ffe3c9ba623cc36d6c9e7cff35a67963", checked := Tryd.checked }
namespace Rows
def none {H : Type} : Left H := { results := [], args := [] }

/- WHAT THE LISTED PACKAGE-LEVEL VARIABLES READ AS WHEN THE CALL BEGINS. Each datum BY PROGRAM (the guide's laid-datum.mjs) off the statement by which the dump's own 'gosem.cut.vars' lays the variable. In a bare row this is a premise. The card (YtakgefinmlomdaaDoorCards.lean) ties it to the program's text. -/
def laid_unicode_utf8_acceptRanges {H : Type} : DataW H := .agg [.agg [.lit (.int .u8 128), .lit (.int .u8 191)], .agg [.lit (.int .u8 160), .lit (.int .u8 191)], .agg [.lit (.int .u8 128), .lit (.int .u8 159)], .agg [.lit (.int .u8 144), .lit (.int .u8 191)], .agg [.lit (.int .u8 128), .lit (.int .u8 143)], .agg [.lit (.int .u8 0), .lit (.int .u8 0)], .agg [.lit (.int .u8 0), .lit (.int .u8 0)], .agg [.lit (.int .u8 0), .lit (.int .u8 0)], .agg [.lit (.int .u8 0), .lit (.int .u8 0)], .agg [.lit (.int .u8 0), .lit (.int .u8 0)], .agg [.lit (.int .u8 0), .lit (.int .u8 0)], .agg [.lit (.int .u8 0), .lit (.int .u8 0)], .agg [.lit (.int .u8 0), .lit (.int .u8 0)], .agg [.lit (.int .u8 0), .lit (.int .u8 0)], .agg [.lit (.int .u8 0), .lit (.int .u8 0)], .agg [.lit (.int .u8 0), .lit (.int .u8 0)]]
/-- One of Go's own tables, pinned by name: the form's constant. -/
def laid_unicode_utf8_first : DataW Unit := Go.Pinned.utf8First

/-- 'refectorylaw09.FileAsks': WHATEVER THE INPUT: true; the input reads as it did. -/
def fileAsksSpec : ChangeSpec := { name := "fileAsks", fn := fun _ => fun
  | [d1, d2] => { results := [.lit (.bool true)], args := [d1, d2] }
  | _ => none }
def fileAsksRow : OpenClaim := { program := "ytakgefinmlomdaadoor", sum := "bcef69e6f90ccdc71811f6c01f3ac722ffe3c9ba623cc36d6c9e7cff35a67963", func := "refectory/refectorylaw09.FileAsks", spec := "fileAsks", unfollowed := true, recurses := true, named := ["unicode/utf8.first", "unicode/utf8.acceptRanges"], apart := false, laid := [("unicode/utf8.acceptRanges", laid_unicode_utf8_acceptRanges), ("unicode/utf8.first", laid_unicode_utf8_first)] }
def FileAsksSaid : Prop := fileAsksRow.holds Tryd.pinned (OpenSpec.ofChange fileAsksSpec)

/-- ITS FALSE NEIGHBOUR: 'it returns false'. Refute it at one input. -/
def fileAsksWrong : ChangeSpec := { name := "fileAsks", fn := fun _ => fun
  | [d1, d2] => { results := [.lit (.bool false)], args := [d1, d2] }
  | _ => none }
def FileAsksWrongFalsely : Prop := fileAsksRow.holds Tryd.pinned (OpenSpec.ofChange fileAsksWrong)

/-- 'refectorylaw09.FileGets': WHATEVER THE INPUT: true; the input reads as it did. -/
def fileGetsSpec : ChangeSpec := { name := "fileGets", fn := fun _ => fun
  | [d1, d2] => { results := [.lit (.bool true)], args := [d1, d2] }
  | _ => none }
def fileGetsRow : OpenClaim := { program := "ytakgefinmlomdaadoor", sum := "bcef69e6f90ccdc71811f6c01f3ac722ffe3c9ba623cc36d6c9e7cff35a67963", func := "refectory/refectorylaw09.FileGets", spec := "fileGets", unfollowed := true, recurses := true, named := ["unicode/utf8.first", "unicode/utf8.acceptRanges"], apart := false, laid := [("unicode/utf8.acceptRanges", laid_unicode_utf8_acceptRanges), ("unicode/utf8.first", laid_unicode_utf8_first)] }
def FileGetsSaid : Prop := fileGetsRow.holds Tryd.pinned (OpenSpec.ofChange fileGetsSpec)

/-- ITS FALSE NEIGHBOUR: 'it returns false'. Refute it at one input. -/
def fileGetsWrong : ChangeSpec := { name := "fileGets", fn := fun _ => fun
  | [d1, d2] => { results := [.lit (.bool false)], args := [d1, d2] }
  | _ => none }
def FileGetsWrongFalsely : Prop := fileGetsRow.holds Tryd.pinned (OpenSpec.ofChange fileGetsWrong)

/-- 'refectorylaw09.FileCut': WHATEVER THE INPUT: true; the input reads as it did. -/
def fileCutSpec : ChangeSpec := { name := "fileCut", fn := fun _ => fun
  | [d1, d2, d3, d4] => { results := [.lit (.bool true)], args := [d1, d2, d3, d4] }
  | _ => none }
def fileCutRow : OpenClaim := { program := "ytakgefinmlomdaadoor", sum := "bcef69e6f90ccdc71811f6c01f3ac722ffe3c9ba623cc36d6c9e7cff35a67963", func := "refectory/refectorylaw09.FileCut", spec := "fileCut", unfollowed := true, recurses := true, named := ["unicode/utf8.first", "unicode/utf8.acceptRanges"], apart := false, laid := [("unicode/utf8.acceptRanges", laid_unicode_utf8_acceptRanges), ("unicode/utf8.first", laid_unicode_utf8_first)] }
def FileCutSaid : Prop := fileCutRow.holds Tryd.pinned (OpenSpec.ofChange fileCutSpec)

/-- ITS FALSE NEIGHBOUR: 'it returns false'. Refute it at one input. -/
def fileCutWrong : ChangeSpec := { name := "fileCut", fn := fun _ => fun
  | [d1, d2, d3, d4] => { results := [.lit (.bool false)], args := [d1, d2, d3, d4] }
  | _ => none }
def FileCutWrongFalsely : Prop := fileCutRow.holds Tryd.pinned (OpenSpec.ofChange fileCutWrong)

/-- 'refectorylaw09.FileCharge': WHATEVER THE INPUT: true; the input reads as it did. -/
def fileChargeSpec : ChangeSpec := { name := "fileCharge", fn := fun _ => fun
  | [d1, d2] => { results := [.lit (.bool true)], args := [d1, d2] }
  | _ => none }
def fileChargeRow : OpenClaim := { program := "ytakgefinmlomdaadoor", sum := "bcef69e6f90ccdc71811f6c01f3ac722ffe3c9ba623cc36d6c9e7cff35a67963", func := "refectory/refectorylaw09.FileCharge", spec := "fileCharge", unfollowed := true, recurses := true, named := ["unicode/utf8.first", "unicode/utf8.acceptRanges"], apart := false, laid := [("unicode/utf8.acceptRanges", laid_unicode_utf8_acceptRanges), ("unicode/utf8.first", laid_unicode_utf8_first)] }
def FileChargeSaid : Prop := fileChargeRow.holds Tryd.pinned (OpenSpec.ofChange fileChargeSpec)

/-- ITS FALSE NEIGHBOUR: 'it returns false'. Refute it at one input. -/
def fileChargeWrong : ChangeSpec := { name := "fileCharge", fn := fun _ => fun
  | [d1, d2] => { results := [.lit (.bool false)], args := [d1, d2] }
  | _ => none }
def FileChargeWrongFalsely : Prop := fileChargeRow.holds Tryd.pinned (OpenSpec.ofChange fileChargeWrong)

/-- 'refectorylaw09.FileSays': WHATEVER THE INPUT: true; the input reads as it did. -/
def fileSaysSpec : ChangeSpec := { name := "fileSays", fn := fun _ => fun
  | [d1, d2] => { results := [.lit (.bool true)], args := [d1, d2] }
  | _ => none }
def fileSaysRow : OpenClaim := { program := "ytakgefinmlomdaadoor", sum := "bcef69e6f90ccdc71811f6c01f3ac722ffe3c9ba623cc36d6c9e7cff35a67963", func := "refectory/refectorylaw09.FileSays", spec := "fileSays", unfollowed := true, recurses := true, named := ["unicode/utf8.first", "unicode/utf8.acceptRanges"], apart := false, laid := [("unicode/utf8.acceptRanges", laid_unicode_utf8_acceptRanges), ("unicode/utf8.first", laid_unicode_utf8_first)] }
def FileSaysSaid : Prop := fileSaysRow.holds Tryd.pinned (OpenSpec.ofChange fileSaysSpec)

/-- ITS FALSE NEIGHBOUR: 'it returns false'. Refute it at one input. -/
def fileSaysWrong : ChangeSpec := { name := "fileSays", fn := fun _ => fun
  | [d1, d2] => { results := [.lit (.bool false)], args := [d1, d2] }
  | _ => none }
def FileSaysWrongFalsely : Prop := fileSaysRow.holds Tryd.pinned (OpenSpec.ofChange fileSaysWrong)

/-- 'refectorylaw09.FileBack': WHATEVER THE INPUT: true; the input reads as it did. -/
def fileBackSpec : ChangeSpec := { name := "fileBack", fn := fun _ => fun
  | [d1, d2, d3] => { results := [.lit (.bool true)], args := [d1, d2, d3] }
  | _ => none }
def fileBackRow : OpenClaim := { program := "ytakgefinmlomdaadoor", sum := "bcef69e6f90ccdc71811f6c01f3ac722ffe3c9ba623cc36d6c9e7cff35a67963", func := "refectory/refectorylaw09.FileBack", spec := "fileBack", unfollowed := true, recurses := true, named := ["unicode/utf8.first", "unicode/utf8.acceptRanges"], apart := false, laid := [("unicode/utf8.acceptRanges", laid_unicode_utf8_acceptRanges), ("unicode/utf8.first", laid_unicode_utf8_first)] }
def FileBackSaid : Prop := fileBackRow.holds Tryd.pinned (OpenSpec.ofChange fileBackSpec)

/-- ITS FALSE NEIGHBOUR: 'it returns false'. Refute it at one input. -/
def fileBackWrong : ChangeSpec := { name := "fileBack", fn := fun _ => fun
  | [d1, d2, d3] => { results := [.lit (.bool false)], args := [d1, d2, d3] }
  | _ => none }
def FileBackWrongFalsely : Prop := fileBackRow.holds Tryd.pinned (OpenSpec.ofChange fileBackWrong)

/-- 'refectorylaw09.FileOnce': WHATEVER THE INPUT: true; the input reads as it did. -/
def fileOnceSpec : ChangeSpec := { name := "fileOnce", fn := fun _ => fun
  | [d1, d2] => { results := [.lit (.bool true)], args := [d1, d2] }
  | _ => none }
def fileOnceRow : OpenClaim := { program := "ytakgefinmlomdaadoor", sum := "bcef69e6f90ccdc71811f6c01f3ac722ffe3c9ba623cc36d6c9e7cff35a67963", func := "refectory/refectorylaw09.FileOnce", spec := "fileOnce", unfollowed := true, recurses := true, named := ["unicode/utf8.first", "unicode/utf8.acceptRanges"], apart := false, laid := [("unicode/utf8.acceptRanges", laid_unicode_utf8_acceptRanges), ("unicode/utf8.first", laid_unicode_utf8_first)] }
def FileOnceSaid : Prop := fileOnceRow.holds Tryd.pinned (OpenSpec.ofChange fileOnceSpec)

/-- ITS FALSE NEIGHBOUR: 'it returns false'. Refute it at one input. -/
def fileOnceWrong : ChangeSpec := { name := "fileOnce", fn := fun _ => fun
  | [d1, d2] => { results := [.lit (.bool false)], args := [d1, d2] }
  | _ => none }
def FileOnceWrongFalsely : Prop := fileOnceRow.holds Tryd.pinned (OpenSpec.ofChange fileOnceWrong)

/-- 'refectorylaw09.FileFresh': WHATEVER THE INPUT: true; the input reads as it did. -/
def fileFreshSpec : ChangeSpec := { name := "fileFresh", fn := fun _ => fun
  | [d1, d2, d3] => { results := [.lit (.bool true)], args := [d1, d2, d3] }
  | _ => none }
def fileFreshRow : OpenClaim := { program := "ytakgefinmlomdaadoor", sum := "bcef69e6f90ccdc71811f6c01f3ac722ffe3c9ba623cc36d6c9e7cff35a67963", func := "refectory/refectorylaw09.FileFresh", spec := "fileFresh", unfollowed := true, recurses := true, named := ["unicode/utf8.first", "unicode/utf8.acceptRanges"], apart := false, laid := [("unicode/utf8.acceptRanges", laid_unicode_utf8_acceptRanges), ("unicode/utf8.first", laid_unicode_utf8_first)] }
def FileFreshSaid : Prop := fileFreshRow.holds Tryd.pinned (OpenSpec.ofChange fileFreshSpec)

/-- ITS FALSE NEIGHBOUR: 'it returns false'. Refute it at one input. -/
def fileFreshWrong : ChangeSpec := { name := "fileFresh", fn := fun _ => fun
  | [d1, d2, d3] => { results := [.lit (.bool false)], args := [d1, d2, d3] }
  | _ => none }
def FileFreshWrongFalsely : Prop := fileFreshRow.holds Tryd.pinned (OpenSpec.ofChange fileFreshWrong)

/- THE SECOND FORM. 'bulk': how many values and letters a reading holds, each counted each time it is reached (what is shared counts as often as it is met; a slice's spare places count too). A statement '..UptoSaid' is the law's where the arguments, and the package variables that the reading takes, are together of bulk at most 1048576: NARROWER than '..Said'. Prove '..Said' where nothing that the law and all that it calls make is longer than what came in: it says more and counts as full. Else prove '..UptoSaid'. A law counts once. -/
mutual
def uptoBulk {H : Type} : DataW H → Nat
  | .lit (.string bytes) => bytes.length + 1
  | .lit _ => 1
  | .nil => 1
  | .ptr d => uptoBulk d + 1
  | .slice elems spare => uptoBulkAll elems + uptoBulkAll spare + 1
  | .agg parts => uptoBulkAll parts + 1
  | .iface _ d => uptoBulk d + 1
  | .map entries => uptoBulkEntries entries + 1
  | .held _ => 1
def uptoBulkAll {H : Type} : List (DataW H) → Nat
  | [] => 0
  | d :: r => uptoBulk d + uptoBulkAll r
def uptoBulkEntries {H : Type} : List (Lit × DataW H) → Nat
  | [] => 0
  | x :: r => uptoBulkEntry x + uptoBulkEntries r
def uptoBulkEntry {H : Type} : Lit × DataW H → Nat
  | (.string bytes, d) => bytes.length + uptoBulk d + 1
  | (_, d) => uptoBulk d + 1
 end
def uptoSmall : (H : Type) → List (DataW H) → Bool := fun _ ds => decide (uptoBulkAll ds ≤ 1048576)
def OpenSpec.upto (s : _root_.Go.ChangeSpec) : _root_.Go.OpenSpec := { _root_.Go.OpenSpec.ofChange s with cond := some uptoSmall }

/-- 'refectorylaw09.FileAsks', WHERE WHAT IT READS IS OF BULK AT MOST 1048576: true; the input reads as it did. -/
def fileAsksUptoRow : OpenClaim := { program := "ytakgefinmlomdaadoor", sum := "bcef69e6f90ccdc71811f6c01f3ac722ffe3c9ba623cc36d6c9e7cff35a67963", func := "refectory/refectorylaw09.FileAsks", spec := "fileAsks", unfollowed := true, recurses := true, named := ["unicode/utf8.first", "unicode/utf8.acceptRanges"], apart := false, laid := [("unicode/utf8.acceptRanges", laid_unicode_utf8_acceptRanges), ("unicode/utf8.first", laid_unicode_utf8_first)], narrowed := true }
def FileAsksUptoSaid : Prop := fileAsksUptoRow.holds Tryd.pinned (OpenSpec.upto fileAsksSpec)

/-- 'refectorylaw09.FileGets', WHERE WHAT IT READS IS OF BULK AT MOST 1048576: true; the input reads as it did. -/
def fileGetsUptoRow : OpenClaim := { program := "ytakgefinmlomdaadoor", sum := "bcef69e6f90ccdc71811f6c01f3ac722ffe3c9ba623cc36d6c9e7cff35a67963", func := "refectory/refectorylaw09.FileGets", spec := "fileGets", unfollowed := true, recurses := true, named := ["unicode/utf8.first", "unicode/utf8.acceptRanges"], apart := false, laid := [("unicode/utf8.acceptRanges", laid_unicode_utf8_acceptRanges), ("unicode/utf8.first", laid_unicode_utf8_first)], narrowed := true }
def FileGetsUptoSaid : Prop := fileGetsUptoRow.holds Tryd.pinned (OpenSpec.upto fileGetsSpec)

/-- 'refectorylaw09.FileCut', WHERE WHAT IT READS IS OF BULK AT MOST 1048576: true; the input reads as it did. -/
def fileCutUptoRow : OpenClaim := { program := "ytakgefinmlomdaadoor", sum := "bcef69e6f90ccdc71811f6c01f3ac722ffe3c9ba623cc36d6c9e7cff35a67963", func := "refectory/refectorylaw09.FileCut", spec := "fileCut", unfollowed := true, recurses := true, named := ["unicode/utf8.first", "unicode/utf8.acceptRanges"], apart := false, laid := [("unicode/utf8.acceptRanges", laid_unicode_utf8_acceptRanges), ("unicode/utf8.first", laid_unicode_utf8_first)], narrowed := true }
def FileCutUptoSaid : Prop := fileCutUptoRow.holds Tryd.pinned (OpenSpec.upto fileCutSpec)

/-- 'refectorylaw09.FileCharge', WHERE WHAT IT READS IS OF BULK AT MOST 1048576: true; the input reads as it did. -/
def fileChargeUptoRow : OpenClaim := { program := "ytakgefinmlomdaadoor", sum := "bcef69e6f90ccdc71811f6c01f3ac722ffe3c9ba623cc36d6c9e7cff35a67963", func := "refectory/refectorylaw09.FileCharge", spec := "fileCharge", unfollowed := true, recurses := true, named := ["unicode/utf8.first", "unicode/utf8.acceptRanges"], apart := false, laid := [("unicode/utf8.acceptRanges", laid_unicode_utf8_acceptRanges), ("unicode/utf8.first", laid_unicode_utf8_first)], narrowed := true }
def FileChargeUptoSaid : Prop := fileChargeUptoRow.holds Tryd.pinned (OpenSpec.upto fileChargeSpec)

/-- 'refectorylaw09.FileSays', WHERE WHAT IT READS IS OF BULK AT MOST 1048576: true; the input reads as it did. -/
def fileSaysUptoRow : OpenClaim := { program := "ytakgefinmlomdaadoor", sum := "bcef69e6f90ccdc71811f6c01f3ac722ffe3c9ba623cc36d6c9e7cff35a67963", func := "refectory/refectorylaw09.FileSays", spec := "fileSays", unfollowed := true, recurses := true, named := ["unicode/utf8.first", "unicode/utf8.acceptRanges"], apart := false, laid := [("unicode/utf8.acceptRanges", laid_unicode_utf8_acceptRanges), ("unicode/utf8.first", laid_unicode_utf8_first)], narrowed := true }
def FileSaysUptoSaid : Prop := fileSaysUptoRow.holds Tryd.pinned (OpenSpec.upto fileSaysSpec)

/-- 'refectorylaw09.FileBack', WHERE WHAT IT READS IS OF BULK AT MOST 1048576: true; the input reads as it did. -/
def fileBackUptoRow : OpenClaim := { program := "ytakgefinmlomdaadoor", sum := "bcef69e6f90ccdc71811f6c01f3ac722ffe3c9ba623cc36d6c9e7cff35a67963", func := "refectory/refectorylaw09.FileBack", spec := "fileBack", unfollowed := true, recurses := true, named := ["unicode/utf8.first", "unicode/utf8.acceptRanges"], apart := false, laid := [("unicode/utf8.acceptRanges", laid_unicode_utf8_acceptRanges), ("unicode/utf8.first", laid_unicode_utf8_first)], narrowed := true }
def FileBackUptoSaid : Prop := fileBackUptoRow.holds Tryd.pinned (OpenSpec.upto fileBackSpec)

/-- 'refectorylaw09.FileOnce', WHERE WHAT IT READS IS OF BULK AT MOST 1048576: true; the input reads as it did. -/
def fileOnceUptoRow : OpenClaim := { program := "ytakgefinmlomdaadoor", sum := "bcef69e6f90ccdc71811f6c01f3ac722ffe3c9ba623cc36d6c9e7cff35a67963", func := "refectory/refectorylaw09.FileOnce", spec := "fileOnce", unfollowed := true, recurses := true, named := ["unicode/utf8.first", "unicode/utf8.acceptRanges"], apart := false, laid := [("unicode/utf8.acceptRanges", laid_unicode_utf8_acceptRanges), ("unicode/utf8.first", laid_unicode_utf8_first)], narrowed := true }
def FileOnceUptoSaid : Prop := fileOnceUptoRow.holds Tryd.pinned (OpenSpec.upto fileOnceSpec)

/-- 'refectorylaw09.FileFresh', WHERE WHAT IT READS IS OF BULK AT MOST 1048576: true; the input reads as it did. -/
def fileFreshUptoRow : OpenClaim := { program := "ytakgefinmlomdaadoor", sum := "bcef69e6f90ccdc71811f6c01f3ac722ffe3c9ba623cc36d6c9e7cff35a67963", func := "refectory/refectorylaw09.FileFresh", spec := "fileFresh", unfollowed := true, recurses := true, named := ["unicode/utf8.first", "unicode/utf8.acceptRanges"], apart := false, laid := [("unicode/utf8.acceptRanges", laid_unicode_utf8_acceptRanges), ("unicode/utf8.first", laid_unicode_utf8_first)], narrowed := true }
def FileFreshUptoSaid : Prop := fileFreshUptoRow.holds Tryd.pinned (OpenSpec.upto fileFreshSpec)

end Rows
end Go.Proofs.YtakgefinmlomdaaDoor
