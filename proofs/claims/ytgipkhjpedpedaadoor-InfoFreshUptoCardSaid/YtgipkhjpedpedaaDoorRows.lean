/-
  NARROWER THAN 'FOR EVERY INPUT', by the rows' own cells (each row's printed sentence says how): InfoAsks: laid · InfoGets: laid · InfoCut: laid · InfoSays: laid · InfoBack: laid · InfoOnce: laid · InfoFresh: laid.
  DERIVED. THE GIVEN ROWS OF THIS SEAT. 7 by the template 'for every input the law returns true; each argument reads behind the call as it read before'; 0 by the template 'total and deterministic' (their statements: YtgipkhjpedpedaaDoorTotals.lean).
  GIVEN WITH THE SEED: the statements are not yours to turn. If you find one false, say at which input.
  Laid BY PROGRAM, IN A SANDBOX (cutbox-rows.mjs): the forced cells as the released guide's own fill.sh prints them over the translation 7cbfb52276794978… (all of the seat's roots in one cut). By AI agents, Wed Nov 11 2026. No macro, syntax, notation, axiom, sorry.
-/
import Derived.Test.YtgipkhjpedpedaaDoorChecked
import GoSem.PinnedTables
import GoSem.Claim
import GoSem.ClaimJoined
import GoSem.ClaimMapViews
import Derived.JoinedTies
import Derived.KernelRfl
namespace Go.Proofs.YtgipkhjpedpedaaDoor
/- THE CELL 'sum', in the pinned program and in every row, IS THE sha256 OF THE DUMP (.gsa) THAT YtgipkhjpedpedaaDoorProg.lean LOADS. Nothing in Lean hashes anything: it is a label: what it is worth is what the hold of that sum in a sandbox is worth. -/
noncomputable def Tryd.pinned : Pinned := { name := "ytgipkhjpedpedaadoor", sum := "7cbfb52276794978cc72a6cd8727844965cda47f95146a3975df6d9c73ead025", checked := Tryd.checked }
namespace Rows
def none {H : Type} : Left H := { results := [], args := [] }

/- WHAT THE LISTED PACKAGE-LEVEL VARIABLES READ AS WHEN THE CALL BEGINS. Each datum BY PROGRAM (the guide's laid-datum.mjs) off the statement by which the dump's own 'gosem.cut.vars' lays the variable. In a bare row this is a premise. The card (YtgipkhjpedpedaaDoorCards.lean) ties it to the program's text. -/
def laid_unicode_utf8_acceptRanges {H : Type} : DataW H := .agg [.agg [.lit (.int .u8 128), .lit (.int .u8 191)], .agg [.lit (.int .u8 160), .lit (.int .u8 191)], .agg [.lit (.int .u8 128), .lit (.int .u8 159)], .agg [.lit (.int .u8 144), .lit (.int .u8 191)], .agg [.lit (.int .u8 128), .lit (.int .u8 143)], .agg [.lit (.int .u8 0), .lit (.int .u8 0)], .agg [.lit (.int .u8 0), .lit (.int .u8 0)], .agg [.lit (.int .u8 0), .lit (.int .u8 0)], .agg [.lit (.int .u8 0), .lit (.int .u8 0)], .agg [.lit (.int .u8 0), .lit (.int .u8 0)], .agg [.lit (.int .u8 0), .lit (.int .u8 0)], .agg [.lit (.int .u8 0), .lit (.int .u8 0)], .agg [.lit (.int .u8 0), .lit (.int .u8 0)], .agg [.lit (.int .u8 0), .lit (.int .u8 0)], .agg [.lit (.int .u8 0), .lit (.int .u8 0)], .agg [.lit (.int .u8 0), .lit (.int .u8 0)]]
/-- One of Go's own tables, pinned by name: the form's constant. -/
def laid_unicode_utf8_first : DataW Unit := Go.Pinned.utf8First

/-- 'refectorylaw10.InfoAsks': WHATEVER THE INPUT: true; the input reads as it did. -/
def infoAsksSpec : ChangeSpec := { name := "infoAsks", fn := fun _ => fun
  | [d1, d2] => { results := [.lit (.bool true)], args := [d1, d2] }
  | _ => none }
def infoAsksRow : OpenClaim := { program := "ytgipkhjpedpedaadoor", sum := "7cbfb52276794978cc72a6cd8727844965cda47f95146a3975df6d9c73ead025", func := "refectory/refectorylaw10.InfoAsks", spec := "infoAsks", unfollowed := true, recurses := true, named := ["unicode/utf8.first", "unicode/utf8.acceptRanges"], apart := false, laid := [("unicode/utf8.acceptRanges", laid_unicode_utf8_acceptRanges), ("unicode/utf8.first", laid_unicode_utf8_first)] }
def InfoAsksSaid : Prop := infoAsksRow.holds Tryd.pinned (OpenSpec.ofChange infoAsksSpec)

/-- ITS FALSE NEIGHBOUR: 'it returns false'. Refute it at one input. -/
def infoAsksWrong : ChangeSpec := { name := "infoAsks", fn := fun _ => fun
  | [d1, d2] => { results := [.lit (.bool false)], args := [d1, d2] }
  | _ => none }
def InfoAsksWrongFalsely : Prop := infoAsksRow.holds Tryd.pinned (OpenSpec.ofChange infoAsksWrong)

/-- 'refectorylaw10.InfoGets': WHATEVER THE INPUT: true; the input reads as it did. -/
def infoGetsSpec : ChangeSpec := { name := "infoGets", fn := fun _ => fun
  | [d1, d2] => { results := [.lit (.bool true)], args := [d1, d2] }
  | _ => none }
def infoGetsRow : OpenClaim := { program := "ytgipkhjpedpedaadoor", sum := "7cbfb52276794978cc72a6cd8727844965cda47f95146a3975df6d9c73ead025", func := "refectory/refectorylaw10.InfoGets", spec := "infoGets", unfollowed := true, recurses := true, named := ["unicode/utf8.first", "unicode/utf8.acceptRanges"], apart := false, laid := [("unicode/utf8.acceptRanges", laid_unicode_utf8_acceptRanges), ("unicode/utf8.first", laid_unicode_utf8_first)] }
def InfoGetsSaid : Prop := infoGetsRow.holds Tryd.pinned (OpenSpec.ofChange infoGetsSpec)

/-- ITS FALSE NEIGHBOUR: 'it returns false'. Refute it at one input. -/
def infoGetsWrong : ChangeSpec := { name := "infoGets", fn := fun _ => fun
  | [d1, d2] => { results := [.lit (.bool false)], args := [d1, d2] }
  | _ => none }
def InfoGetsWrongFalsely : Prop := infoGetsRow.holds Tryd.pinned (OpenSpec.ofChange infoGetsWrong)

/-- 'refectorylaw10.InfoCut': WHATEVER THE INPUT: true; the input reads as it did. -/
def infoCutSpec : ChangeSpec := { name := "infoCut", fn := fun _ => fun
  | [d1, d2, d3, d4] => { results := [.lit (.bool true)], args := [d1, d2, d3, d4] }
  | _ => none }
def infoCutRow : OpenClaim := { program := "ytgipkhjpedpedaadoor", sum := "7cbfb52276794978cc72a6cd8727844965cda47f95146a3975df6d9c73ead025", func := "refectory/refectorylaw10.InfoCut", spec := "infoCut", unfollowed := true, recurses := true, named := ["unicode/utf8.first", "unicode/utf8.acceptRanges"], apart := false, laid := [("unicode/utf8.acceptRanges", laid_unicode_utf8_acceptRanges), ("unicode/utf8.first", laid_unicode_utf8_first)] }
def InfoCutSaid : Prop := infoCutRow.holds Tryd.pinned (OpenSpec.ofChange infoCutSpec)

/-- ITS FALSE NEIGHBOUR: 'it returns false'. Refute it at one input. -/
def infoCutWrong : ChangeSpec := { name := "infoCut", fn := fun _ => fun
  | [d1, d2, d3, d4] => { results := [.lit (.bool false)], args := [d1, d2, d3, d4] }
  | _ => none }
def InfoCutWrongFalsely : Prop := infoCutRow.holds Tryd.pinned (OpenSpec.ofChange infoCutWrong)

/-- 'refectorylaw10.InfoSays': WHATEVER THE INPUT: true; the input reads as it did. -/
def infoSaysSpec : ChangeSpec := { name := "infoSays", fn := fun _ => fun
  | [d1, d2] => { results := [.lit (.bool true)], args := [d1, d2] }
  | _ => none }
def infoSaysRow : OpenClaim := { program := "ytgipkhjpedpedaadoor", sum := "7cbfb52276794978cc72a6cd8727844965cda47f95146a3975df6d9c73ead025", func := "refectory/refectorylaw10.InfoSays", spec := "infoSays", unfollowed := true, recurses := true, named := ["unicode/utf8.first", "unicode/utf8.acceptRanges"], apart := false, laid := [("unicode/utf8.acceptRanges", laid_unicode_utf8_acceptRanges), ("unicode/utf8.first", laid_unicode_utf8_first)] }
def InfoSaysSaid : Prop := infoSaysRow.holds Tryd.pinned (OpenSpec.ofChange infoSaysSpec)

/-- ITS FALSE NEIGHBOUR: 'it returns false'. Refute it at one input. -/
def infoSaysWrong : ChangeSpec := { name := "infoSays", fn := fun _ => fun
  | [d1, d2] => { results := [.lit (.bool false)], args := [d1, d2] }
  | _ => none }
def InfoSaysWrongFalsely : Prop := infoSaysRow.holds Tryd.pinned (OpenSpec.ofChange infoSaysWrong)

/-- 'refectorylaw10.InfoBack': WHATEVER THE INPUT: true; the input reads as it did. -/
def infoBackSpec : ChangeSpec := { name := "infoBack", fn := fun _ => fun
  | [d1, d2, d3] => { results := [.lit (.bool true)], args := [d1, d2, d3] }
  | _ => none }
def infoBackRow : OpenClaim := { program := "ytgipkhjpedpedaadoor", sum := "7cbfb52276794978cc72a6cd8727844965cda47f95146a3975df6d9c73ead025", func := "refectory/refectorylaw10.InfoBack", spec := "infoBack", unfollowed := true, recurses := true, named := ["unicode/utf8.first", "unicode/utf8.acceptRanges"], apart := false, laid := [("unicode/utf8.acceptRanges", laid_unicode_utf8_acceptRanges), ("unicode/utf8.first", laid_unicode_utf8_first)] }
def InfoBackSaid : Prop := infoBackRow.holds Tryd.pinned (OpenSpec.ofChange infoBackSpec)

/-- ITS FALSE NEIGHBOUR: 'it returns false'. Refute it at one input. -/
def infoBackWrong : ChangeSpec := { name := "infoBack", fn := fun _ => fun
  | [d1, d2, d3] => { results := [.lit (.bool false)], args := [d1, d2, d3] }
  | _ => none }
def InfoBackWrongFalsely : Prop := infoBackRow.holds Tryd.pinned (OpenSpec.ofChange infoBackWrong)

/-- 'refectorylaw10.InfoOnce': WHATEVER THE INPUT: true; the input reads as it did. -/
def infoOnceSpec : ChangeSpec := { name := "infoOnce", fn := fun _ => fun
  | [d1, d2] => { results := [.lit (.bool true)], args := [d1, d2] }
  | _ => none }
def infoOnceRow : OpenClaim := { program := "ytgipkhjpedpedaadoor", sum := "7cbfb52276794978cc72a6cd8727844965cda47f95146a3975df6d9c73ead025", func := "refectory/refectorylaw10.InfoOnce", spec := "infoOnce", unfollowed := true, recurses := true, named := ["unicode/utf8.first", "unicode/utf8.acceptRanges"], apart := false, laid := [("unicode/utf8.acceptRanges", laid_unicode_utf8_acceptRanges), ("unicode/utf8.first", laid_unicode_utf8_first)] }
def InfoOnceSaid : Prop := infoOnceRow.holds Tryd.pinned (OpenSpec.ofChange infoOnceSpec)

/-- ITS FALSE NEIGHBOUR: 'it returns false'. Refute it at one input. -/
def infoOnceWrong : ChangeSpec := { name := "infoOnce", fn := fun _ => fun
  | [d1, d2] => { results := [.lit (.bool false)], args := [d1, d2] }
  | _ => none }
def InfoOnceWrongFalsely : Prop := infoOnceRow.holds Tryd.pinned (OpenSpec.ofChange infoOnceWrong)

/-- 'refectorylaw10.InfoFresh': WHATEVER THE INPUT: true; the input reads as it did. -/
def infoFreshSpec : ChangeSpec := { name := "infoFresh", fn := fun _ => fun
  | [d1, d2, d3] => { results := [.lit (.bool true)], args := [d1, d2, d3] }
  | _ => none }
def infoFreshRow : OpenClaim := { program := "ytgipkhjpedpedaadoor", sum := "7cbfb52276794978cc72a6cd8727844965cda47f95146a3975df6d9c73ead025", func := "refectory/refectorylaw10.InfoFresh", spec := "infoFresh", unfollowed := true, recurses := true, named := ["unicode/utf8.first", "unicode/utf8.acceptRanges"], apart := false, laid := [("unicode/utf8.acceptRanges", laid_unicode_utf8_acceptRanges), ("unicode/utf8.first", laid_unicode_utf8_first)] }
def InfoFreshSaid : Prop := infoFreshRow.holds Tryd.pinned (OpenSpec.ofChange infoFreshSpec)

/-- ITS FALSE NEIGHBOUR: 'it returns false'. Refute it at one input. -/
def infoFreshWrong : ChangeSpec := { name := "infoFresh", fn := fun _ => fun
  | [d1, d2, d3] => { results := [.lit (.bool false)], args := [d1, d2, d3] }
  | _ => none }
def InfoFreshWrongFalsely : Prop := infoFreshRow.holds Tryd.pinned (OpenSpec.ofChange infoFreshWrong)

/- THE SECOND FORM. 'bulk': how many values and letters a reading holds, each counted each time it is reached (what is shared counts as often as it is met; a slice's spare places count too). A statement '..UptoSaid' is the law's where the arguments, and the package variables that the reading takes, are together of bulk at most 1048576: NARROWER than '..Said'. Prove '..Said' where nothing that the law and all that it calls make is longer than what came in: it says more and counts as full. Else prove '..UptoSaid'. A law counts once. -/
mutual
def uptoBulk {H : Type} : DataW H → Nat
  | .lit (.string bytes) => bytes.length + 1
  | .lit _ => 1
  | .nil => 1
  | .ptr d => uptoBulk d + 1
  | .slice elems spare => uptoBulkAll elems + uptoBulkAll spare + 1
  | .agg parts => uptoBulkAll parts + 1
  | .iface _ d => uptoBulk d + 1
  | .map entries => uptoBulkEntries entries + 1
  | .held _ => 1
def uptoBulkAll {H : Type} : List (DataW H) → Nat
  | [] => 0
  | d :: r => uptoBulk d + uptoBulkAll r
def uptoBulkEntries {H : Type} : List (Lit × DataW H) → Nat
  | [] => 0
  | x :: r => uptoBulkEntry x + uptoBulkEntries r
def uptoBulkEntry {H : Type} : Lit × DataW H → Nat
  | (.string bytes, d) => bytes.length + uptoBulk d + 1
  | (_, d) => uptoBulk d + 1
 end
def uptoSmall : (H : Type) → List (DataW H) → Bool := fun _ ds => decide (uptoBulkAll ds ≤ 1048576)
def OpenSpec.upto (s : _root_.Go.ChangeSpec) : _root_.Go.OpenSpec := { _root_.Go.OpenSpec.ofChange s with cond := some uptoSmall }

/-- 'refectorylaw10.InfoAsks', WHERE WHAT IT READS IS OF BULK AT MOST 1048576: true; the input reads as it did. -/
def infoAsksUptoRow : OpenClaim := { program := "ytgipkhjpedpedaadoor", sum := "7cbfb52276794978cc72a6cd8727844965cda47f95146a3975df6d9c73ead025", func := "refectory/refectorylaw10.InfoAsks", spec := "infoAsks", unfollowed := true, recurses := true, named := ["unicode/utf8.first", "unicode/utf8.acceptRanges"], apart := false, laid := [("unicode/utf8.acceptRanges", laid_unicode_utf8_acceptRanges), ("unicode/utf8.first", laid_unicode_utf8_first)], narrowed := true }
def InfoAsksUptoSaid : Prop := infoAsksUptoRow.holds Tryd.pinned (OpenSpec.upto infoAsksSpec)

/-- 'refectorylaw10.InfoGets', WHERE WHAT IT READS IS OF BULK AT MOST 1048576: true; the input reads as it did. -/
def infoGetsUptoRow : OpenClaim := { program := "ytgipkhjpedpedaadoor", sum := "7cbfb52276794978cc72a6cd8727844965cda47f95146a3975df6d9c73ead025", func := "refectory/refectorylaw10.InfoGets", spec := "infoGets", unfollowed := true, recurses := true, named := ["unicode/utf8.first", "unicode/utf8.acceptRanges"], apart := false, laid := [("unicode/utf8.acceptRanges", laid_unicode_utf8_acceptRanges), ("unicode/utf8.first", laid_unicode_utf8_first)], narrowed := true }
def InfoGetsUptoSaid : Prop := infoGetsUptoRow.holds Tryd.pinned (OpenSpec.upto infoGetsSpec)

/-- 'refectorylaw10.InfoCut', WHERE WHAT IT READS IS OF BULK AT MOST 1048576: true; the input reads as it did. -/
def infoCutUptoRow : OpenClaim := { program := "ytgipkhjpedpedaadoor", sum := "7cbfb52276794978cc72a6cd8727844965cda47f95146a3975df6d9c73ead025", func := "refectory/refectorylaw10.InfoCut", spec := "infoCut", unfollowed := true, recurses := true, named := ["unicode/utf8.first", "unicode/utf8.acceptRanges"], apart := false, laid := [("unicode/utf8.acceptRanges", laid_unicode_utf8_acceptRanges), ("unicode/utf8.first", laid_unicode_utf8_first)], narrowed := true }
def InfoCutUptoSaid : Prop := infoCutUptoRow.holds Tryd.pinned (OpenSpec.upto infoCutSpec)

/-- 'refectorylaw10.InfoSays', WHERE WHAT IT READS IS OF BULK AT MOST 1048576: true; the input reads as it did. -/
def infoSaysUptoRow : OpenClaim := { program := "ytgipkhjpedpedaadoor", sum := "7cbfb52276794978cc72a6cd8727844965cda47f95146a3975df6d9c73ead025", func := "refectory/refectorylaw10.InfoSays", spec := "infoSays", unfollowed := true, recurses := true, named := ["unicode/utf8.first", "unicode/utf8.acceptRanges"], apart := false, laid := [("unicode/utf8.acceptRanges", laid_unicode_utf8_acceptRanges), ("unicode/utf8.first", laid_unicode_utf8_first)], narrowed := true }
def InfoSaysUptoSaid : Prop := infoSaysUptoRow.holds Tryd.pinned (OpenSpec.upto infoSaysSpec)

/-- 'refectorylaw10.InfoBack', WHERE WHAT IT READS IS OF BULK AT MOST 1048576: true; the input reads as it did. -/
def infoBackUptoRow : OpenClaim := { program := "ytgipkhjpedpedaadoor", sum := "7cbfb52276794978cc72a6cd8727844965cda47f95146a3975df6d9c73ead025", func := "refectory/refectorylaw10.InfoBack", spec := "infoBack", unfollowed := true, recurses := true, named := ["unicode/utf8.first", "unicode/utf8.acceptRanges"], apart := false, laid := [("unicode/utf8.acceptRanges", laid_unicode_utf8_acceptRanges), ("unicode/utf8.first", laid_unicode_utf8_first)], narrowed := true }
def InfoBackUptoSaid : Prop := infoBackUptoRow.holds Tryd.pinned (OpenSpec.upto infoBackSpec)

/-- 'refectorylaw10.InfoOnce', WHERE WHAT IT READS IS OF BULK AT MOST 1048576: true; the input reads as it did. -/
def infoOnceUptoRow : OpenClaim := { program := "ytgipkhjpedpedaadoor", sum := "7cbfb52276794978cc72a6cd8727844965cda47f95146a3975df6d9c73ead025", func := "refectory/refectorylaw10.InfoOnce", spec := "infoOnce", unfollowed := true, recurses := true, named := ["unicode/utf8.first", "unicode/utf8.acceptRanges"], apart := false, laid := [("unicode/utf8.acceptRanges", laid_unicode_utf8_acceptRanges), ("unicode/utf8.first", laid_unicode_utf8_first)], narrowed := true }
def InfoOnceUptoSaid : Prop := infoOnceUptoRow.holds Tryd.pinned (OpenSpec.upto infoOnceSpec)

/-- 'refectorylaw10.InfoFresh', WHERE WHAT IT READS IS OF BULK AT MOST 1048576: true; the input reads as it did. -/
def infoFreshUptoRow : OpenClaim := { program := "ytgipkhjpedpedaadoor", sum := "7cbfb52276794978cc72a6cd8727844965cda47f95146a3975df6d9c73ead025", func := "refectory/refectorylaw10.InfoFresh", spec := "infoFresh", unfollowed := true, recurses := true, named := ["unicode/utf8.first", "unicode/utf8.acceptRanges"], apart := false, laid := [("unicode/utf8.acceptRanges", laid_unicode_utf8_acceptRanges), ("unicode/utf8.first", laid_unicode_utf8_first)], narrowed := true }
def InfoFreshUptoSaid : Prop := infoFreshUptoRow.holds Tryd.pinned (OpenSpec.upto infoFreshSpec)

end Rows
end Go.Proofs.YtgipkhjpedpedaaDoor
