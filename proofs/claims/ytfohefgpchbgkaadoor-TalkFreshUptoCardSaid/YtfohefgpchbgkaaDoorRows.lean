/-
  NARROWER THAN 'FOR EVERY INPUT', by the rows' own cells (each row's printed sentence says how): TalkAsks: laid · TalkGets: laid · TalkCut: laid · TalkRows: laid · TalkSays: laid · TalkBack: laid · TalkOnce: laid · TalkFresh: laid.
  DERIVED. THE GIVEN ROWS OF THIS SEAT. 8 by the template 'for every input the law returns true; each argument reads behind the call as it read before'; 0 by the template 'total and deterministic' (their statements: YtfohefgpchbgkaaDoorTotals.lean).
  GIVEN WITH THE SEED: the statements are not yours to turn. If you find one false, say at which input.
  Laid BY PROGRAM, IN A SANDBOX (cutbox-rows.mjs): the forced cells as the released guide's own fill.sh prints them over the translation 392f1d77af6f5bc9… (all of the seat's roots in one cut). By AI agents, Wed Nov 11 2026. No macro, syntax, notation, axiom, sorry.
-/
import Derived.Test.YtfohefgpchbgkaaDoorChecked
import GoSem.PinnedTables
import GoSem.Claim
import GoSem.ClaimJoined
import GoSem.ClaimMapViews
import Derived.JoinedTies
import Derived.KernelRfl
namespace Go.Proofs.YtfohefgpchbgkaaDoor
/- THE CELL 'sum', in the pinned program and in every row, IS THE sha256 OF THE DUMP (.gsa) THAT YtfohefgpchbgkaaDoorProg.lean LOADS. Nothing in Lean hashes anything: it is a label: what it is worth is what the hold of that sum in a sandbox is worth. -/
noncomputable def Tryd.pinned : Pinned := { name := "ytfohefgpchbgkaadoor", sum := "392f1d77af6f5bc9c5d175afb0961b52c92c160b868744cff36c49a6adccc9ad", checked := Tryd.checked }
namespace Rows
def none {H : Type} : Left H := { results := [], args := [] }

/- WHAT THE LISTED PACKAGE-LEVEL VARIABLES READ AS WHEN THE CALL BEGINS. Each datum BY PROGRAM (the guide's laid-datum.mjs) off the statement by which the dump's own 'gosem.cut.vars' lays the variable. In a bare row this is a premise. The card (YtfohefgpchbgkaaDoorCards.lean) ties it to the program's text. -/
def laid_unicode_utf8_acceptRanges {H : Type} : DataW H := .agg [.agg [.lit (.int .u8 128), .lit (.int .u8 191)], .agg [.lit (.int .u8 160), .lit (.int .u8 191)], .agg [.lit (.int .u8 128), .lit (.int .u8 159)], .agg [.lit (.int .u8 144), .lit (.int .u8 191)], .agg [.lit (.int .u8 128), .lit (.int .u8 143)], .agg [.lit (.int .u8 0), .lit (.int .u8 0)], .agg [.lit (.int .u8 0), .lit (.int .u8 0)], .agg [.lit (.int .u8 0), .lit (.int .u8 0)], .agg [.lit (.int .u8 0), .lit (.int .u8 0)], .agg [.lit (.int .u8 0), .lit (.int .u8 0)], .agg [.lit (.int .u8 0), .lit (.int .u8 0)], .agg [.lit (.int .u8 0), .lit (.int .u8 0)], .agg [.lit (.int .u8 0), .lit (.int .u8 0)], .agg [.lit (.int .u8 0), .lit (.int .u8 0)], .agg [.lit (.int .u8 0), .lit (.int .u8 0)], .agg [.lit (.int .u8 0), .lit (.int .u8 0)]]
/-- One of Go's own tables, pinned by name: the form's constant. -/
def laid_unicode_utf8_first : DataW Unit := Go.Pinned.utf8First

/-- 'refectorylaw08.TalkAsks': WHATEVER THE INPUT: true; the input reads as it did. -/
def talkAsksSpec : ChangeSpec := { name := "talkAsks", fn := fun _ => fun
  | [d1, d2] => { results := [.lit (.bool true)], args := [d1, d2] }
  | _ => none }
def talkAsksRow : OpenClaim := { program := "ytfohefgpchbgkaadoor", sum := "392f1d77af6f5bc9c5d175afb0961b52c92c160b868744cff36c49a6adccc9ad", func := "refectory/refectorylaw08.TalkAsks", spec := "talkAsks", unfollowed := true, recurses := true, named := ["unicode/utf8.first", "unicode/utf8.acceptRanges"], apart := false, laid := [("unicode/utf8.acceptRanges", laid_unicode_utf8_acceptRanges), ("unicode/utf8.first", laid_unicode_utf8_first)] }
def TalkAsksSaid : Prop := talkAsksRow.holds Tryd.pinned (OpenSpec.ofChange talkAsksSpec)

/-- ITS FALSE NEIGHBOUR: 'it returns false'. Refute it at one input. -/
def talkAsksWrong : ChangeSpec := { name := "talkAsks", fn := fun _ => fun
  | [d1, d2] => { results := [.lit (.bool false)], args := [d1, d2] }
  | _ => none }
def TalkAsksWrongFalsely : Prop := talkAsksRow.holds Tryd.pinned (OpenSpec.ofChange talkAsksWrong)

/-- 'refectorylaw08.TalkGets': WHATEVER THE INPUT: true; the input reads as it did. -/
def talkGetsSpec : ChangeSpec := { name := "talkGets", fn := fun _ => fun
  | [d1, d2] => { results := [.lit (.bool true)], args := [d1, d2] }
  | _ => none }
def talkGetsRow : OpenClaim := { program := "ytfohefgpchbgkaadoor", sum := "392f1d77af6f5bc9c5d175afb0961b52c92c160b868744cff36c49a6adccc9ad", func := "refectory/refectorylaw08.TalkGets", spec := "talkGets", unfollowed := true, recurses := true, named := ["unicode/utf8.first", "unicode/utf8.acceptRanges"], apart := false, laid := [("unicode/utf8.acceptRanges", laid_unicode_utf8_acceptRanges), ("unicode/utf8.first", laid_unicode_utf8_first)] }
def TalkGetsSaid : Prop := talkGetsRow.holds Tryd.pinned (OpenSpec.ofChange talkGetsSpec)

/-- ITS FALSE NEIGHBOUR: 'it returns false'. Refute it at one input. -/
def talkGetsWrong : ChangeSpec := { name := "talkGets", fn := fun _ => fun
  | [d1, d2] => { results := [.lit (.bool false)], args := [d1, d2] }
  | _ => none }
def TalkGetsWrongFalsely : Prop := talkGetsRow.holds Tryd.pinned (OpenSpec.ofChange talkGetsWrong)

/-- 'refectorylaw08.TalkCut': WHATEVER THE INPUT: true; the input reads as it did. -/
def talkCutSpec : ChangeSpec := { name := "talkCut", fn := fun _ => fun
  | [d1, d2, d3, d4] => { results := [.lit (.bool true)], args := [d1, d2, d3, d4] }
  | _ => none }
def talkCutRow : OpenClaim := { program := "ytfohefgpchbgkaadoor", sum := "392f1d77af6f5bc9c5d175afb0961b52c92c160b868744cff36c49a6adccc9ad", func := "refectory/refectorylaw08.TalkCut", spec := "talkCut", unfollowed := true, recurses := true, named := ["unicode/utf8.first", "unicode/utf8.acceptRanges"], apart := false, laid := [("unicode/utf8.acceptRanges", laid_unicode_utf8_acceptRanges), ("unicode/utf8.first", laid_unicode_utf8_first)] }
def TalkCutSaid : Prop := talkCutRow.holds Tryd.pinned (OpenSpec.ofChange talkCutSpec)

/-- ITS FALSE NEIGHBOUR: 'it returns false'. Refute it at one input. -/
def talkCutWrong : ChangeSpec := { name := "talkCut", fn := fun _ => fun
  | [d1, d2, d3, d4] => { results := [.lit (.bool false)], args := [d1, d2, d3, d4] }
  | _ => none }
def TalkCutWrongFalsely : Prop := talkCutRow.holds Tryd.pinned (OpenSpec.ofChange talkCutWrong)

/-- 'refectorylaw08.TalkRows': WHATEVER THE INPUT: true; the input reads as it did. -/
def talkRowsSpec : ChangeSpec := { name := "talkRows", fn := fun _ => fun
  | [d1, d2, d3, d4] => { results := [.lit (.bool true)], args := [d1, d2, d3, d4] }
  | _ => none }
def talkRowsRow : OpenClaim := { program := "ytfohefgpchbgkaadoor", sum := "392f1d77af6f5bc9c5d175afb0961b52c92c160b868744cff36c49a6adccc9ad", func := "refectory/refectorylaw08.TalkRows", spec := "talkRows", unfollowed := true, recurses := true, named := ["unicode/utf8.first", "unicode/utf8.acceptRanges"], apart := false, laid := [("unicode/utf8.acceptRanges", laid_unicode_utf8_acceptRanges), ("unicode/utf8.first", laid_unicode_utf8_first)] }
def TalkRowsSaid : Prop := talkRowsRow.holds Tryd.pinned (OpenSpec.ofChange talkRowsSpec)

/-- ITS FALSE NEIGHBOUR: 'it returns false'. Refute it at one input. -/
def talkRowsWrong : ChangeSpec := { name := "talkRows", fn := fun _ => fun
  | [d1, d2, d3, d4] => { results := [.lit (.bool false)], args := [d1, d2, d3, d4] }
  | _ => none }
def TalkRowsWrongFalsely : Prop := talkRowsRow.holds Tryd.pinned (OpenSpec.ofChange talkRowsWrong)

/-- 'refectorylaw08.TalkSays': WHATEVER THE INPUT: true; the input reads as it did. -/
def talkSaysSpec : ChangeSpec := { name := "talkSays", fn := fun _ => fun
  | [d1, d2] => { results := [.lit (.bool true)], args := [d1, d2] }
  | _ => none }
def talkSaysRow : OpenClaim := { program := "ytfohefgpchbgkaadoor", sum := "392f1d77af6f5bc9c5d175afb0961b52c92c160b868744cff36c49a6adccc9ad", func := "refectory/refectorylaw08.TalkSays", spec := "talkSays", unfollowed := true, recurses := true, named := ["unicode/utf8.first", "unicode/utf8.acceptRanges"], apart := false, laid := [("unicode/utf8.acceptRanges", laid_unicode_utf8_acceptRanges), ("unicode/utf8.first", laid_unicode_utf8_first)] }
def TalkSaysSaid : Prop := talkSaysRow.holds Tryd.pinned (OpenSpec.ofChange talkSaysSpec)

/-- ITS FALSE NEIGHBOUR: 'it returns false'. Refute it at one input. -/
def talkSaysWrong : ChangeSpec := { name := "talkSays", fn := fun _ => fun
  | [d1, d2] => { results := [.lit (.bool false)], args := [d1, d2] }
  | _ => none }
def TalkSaysWrongFalsely : Prop := talkSaysRow.holds Tryd.pinned (OpenSpec.ofChange talkSaysWrong)

/-- 'refectorylaw08.TalkBack': WHATEVER THE INPUT: true; the input reads as it did. -/
def talkBackSpec : ChangeSpec := { name := "talkBack", fn := fun _ => fun
  | [d1, d2, d3] => { results := [.lit (.bool true)], args := [d1, d2, d3] }
  | _ => none }
def talkBackRow : OpenClaim := { program := "ytfohefgpchbgkaadoor", sum := "392f1d77af6f5bc9c5d175afb0961b52c92c160b868744cff36c49a6adccc9ad", func := "refectory/refectorylaw08.TalkBack", spec := "talkBack", unfollowed := true, recurses := true, named := ["unicode/utf8.first", "unicode/utf8.acceptRanges"], apart := false, laid := [("unicode/utf8.acceptRanges", laid_unicode_utf8_acceptRanges), ("unicode/utf8.first", laid_unicode_utf8_first)] }
def TalkBackSaid : Prop := talkBackRow.holds Tryd.pinned (OpenSpec.ofChange talkBackSpec)

/-- ITS FALSE NEIGHBOUR: 'it returns false'. Refute it at one input. -/
def talkBackWrong : ChangeSpec := { name := "talkBack", fn := fun _ => fun
  | [d1, d2, d3] => { results := [.lit (.bool false)], args := [d1, d2, d3] }
  | _ => none }
def TalkBackWrongFalsely : Prop := talkBackRow.holds Tryd.pinned (OpenSpec.ofChange talkBackWrong)

/-- 'refectorylaw08.TalkOnce': WHATEVER THE INPUT: true; the input reads as it did. -/
def talkOnceSpec : ChangeSpec := { name := "talkOnce", fn := fun _ => fun
  | [d1, d2] => { results := [.lit (.bool true)], args := [d1, d2] }
  | _ => none }
def talkOnceRow : OpenClaim := { program := "ytfohefgpchbgkaadoor", sum := "392f1d77af6f5bc9c5d175afb0961b52c92c160b868744cff36c49a6adccc9ad", func := "refectory/refectorylaw08.TalkOnce", spec := "talkOnce", unfollowed := true, recurses := true, named := ["unicode/utf8.first", "unicode/utf8.acceptRanges"], apart := false, laid := [("unicode/utf8.acceptRanges", laid_unicode_utf8_acceptRanges), ("unicode/utf8.first", laid_unicode_utf8_first)] }
def TalkOnceSaid : Prop := talkOnceRow.holds Tryd.pinned (OpenSpec.ofChange talkOnceSpec)

/-- ITS FALSE NEIGHBOUR: 'it returns false'. Refute it at one input. -/
def talkOnceWrong : ChangeSpec := { name := "talkOnce", fn := fun _ => fun
  | [d1, d2] => { results := [.lit (.bool false)], args := [d1, d2] }
  | _ => none }
def TalkOnceWrongFalsely : Prop := talkOnceRow.holds Tryd.pinned (OpenSpec.ofChange talkOnceWrong)

/-- 'refectorylaw08.TalkFresh': WHATEVER THE INPUT: true; the input reads as it did. -/
def talkFreshSpec : ChangeSpec := { name := "talkFresh", fn := fun _ => fun
  | [d1, d2, d3] => { results := [.lit (.bool true)], args := [d1, d2, d3] }
  | _ => none }
def talkFreshRow : OpenClaim := { program := "ytfohefgpchbgkaadoor", sum := "392f1d77af6f5bc9c5d175afb0961b52c92c160b868744cff36c49a6adccc9ad", func := "refectory/refectorylaw08.TalkFresh", spec := "talkFresh", unfollowed := true, recurses := true, named := ["unicode/utf8.first", "unicode/utf8.acceptRanges"], apart := false, laid := [("unicode/utf8.acceptRanges", laid_unicode_utf8_acceptRanges), ("unicode/utf8.first", laid_unicode_utf8_first)] }
def TalkFreshSaid : Prop := talkFreshRow.holds Tryd.pinned (OpenSpec.ofChange talkFreshSpec)

/-- ITS FALSE NEIGHBOUR: 'it returns false'. Refute it at one input. -/
def talkFreshWrong : ChangeSpec := { name := "talkFresh", fn := fun _ => fun
  | [d1, d2, d3] => { results := [.lit (.bool false)], args := [d1, d2, d3] }
  | _ => none }
def TalkFreshWrongFalsely : Prop := talkFreshRow.holds Tryd.pinned (OpenSpec.ofChange talkFreshWrong)

/- THE SECOND FORM. 'bulk': how many values and letters a reading holds, each counted each time it is reached (what is shared counts as often as it is met; a slice's spare places count too). A statement '..UptoSaid' is the law's where the arguments, and the package variables that the reading takes, are together of bulk at most 1048576: NARROWER than '..Said'. Prove '..Said' where nothing that the law and all that it calls make is longer than what came in: it says more and counts as full. Else prove '..UptoSaid'. A law counts once. -/
mutual
def uptoBulk {H : Type} : DataW H → Nat
  | .lit (.string bytes) => bytes.length + 1
  | .lit _ => 1
  | .nil => 1
  | .ptr d => uptoBulk d + 1
  | .slice elems spare => uptoBulkAll elems + uptoBulkAll spare + 1
  | .agg parts => uptoBulkAll parts + 1
  | .iface _ d => uptoBulk d + 1
  | .map entries => uptoBulkEntries entries + 1
  | .held _ => 1
def uptoBulkAll {H : Type} : List (DataW H) → Nat
  | [] => 0
  | d :: r => uptoBulk d + uptoBulkAll r
def uptoBulkEntries {H : Type} : List (Lit × DataW H) → Nat
  | [] => 0
  | x :: r => uptoBulkEntry x + uptoBulkEntries r
def uptoBulkEntry {H : Type} : Lit × DataW H → Nat
  | (.string bytes, d) => bytes.length + uptoBulk d + 1
  | (_, d) => uptoBulk d + 1
 end
def uptoSmall : (H : Type) → List (DataW H) → Bool := fun _ ds => decide (uptoBulkAll ds ≤ 1048576)
def OpenSpec.upto (s : _root_.Go.ChangeSpec) : _root_.Go.OpenSpec := { _root_.Go.OpenSpec.ofChange s with cond := some uptoSmall }

/-- 'refectorylaw08.TalkAsks', WHERE WHAT IT READS IS OF BULK AT MOST 1048576: true; the input reads as it did. -/
def talkAsksUptoRow : OpenClaim := { program := "ytfohefgpchbgkaadoor", sum := "392f1d77af6f5bc9c5d175afb0961b52c92c160b868744cff36c49a6adccc9ad", func := "refectory/refectorylaw08.TalkAsks", spec := "talkAsks", unfollowed := true, recurses := true, named := ["unicode/utf8.first", "unicode/utf8.acceptRanges"], apart := false, laid := [("unicode/utf8.acceptRanges", laid_unicode_utf8_acceptRanges), ("unicode/utf8.first", laid_unicode_utf8_first)], narrowed := true }
def TalkAsksUptoSaid : Prop := talkAsksUptoRow.holds Tryd.pinned (OpenSpec.upto talkAsksSpec)

/-- 'refectorylaw08.TalkGets', WHERE WHAT IT READS IS OF BULK AT MOST 1048576: true; the input reads as it did. -/
def talkGetsUptoRow : OpenClaim := { program := "ytfohefgpchbgkaadoor", sum := "392f1d77af6f5bc9c5d175afb0961b52c92c160b868744cff36c49a6adccc9ad", func := "refectory/refectorylaw08.TalkGets", spec := "talkGets", unfollowed := true, recurses := true, named := ["unicode/utf8.first", "unicode/utf8.acceptRanges"], apart := false, laid := [("unicode/utf8.acceptRanges", laid_unicode_utf8_acceptRanges), ("unicode/utf8.first", laid_unicode_utf8_first)], narrowed := true }
def TalkGetsUptoSaid : Prop := talkGetsUptoRow.holds Tryd.pinned (OpenSpec.upto talkGetsSpec)

/-- 'refectorylaw08.TalkCut', WHERE WHAT IT READS IS OF BULK AT MOST 1048576: true; the input reads as it did. -/
def talkCutUptoRow : OpenClaim := { program := "ytfohefgpchbgkaadoor", sum := "392f1d77af6f5bc9c5d175afb0961b52c92c160b868744cff36c49a6adccc9ad", func := "refectory/refectorylaw08.TalkCut", spec := "talkCut", unfollowed := true, recurses := true, named := ["unicode/utf8.first", "unicode/utf8.acceptRanges"], apart := false, laid := [("unicode/utf8.acceptRanges", laid_unicode_utf8_acceptRanges), ("unicode/utf8.first", laid_unicode_utf8_first)], narrowed := true }
def TalkCutUptoSaid : Prop := talkCutUptoRow.holds Tryd.pinned (OpenSpec.upto talkCutSpec)

/-- 'refectorylaw08.TalkRows', WHERE WHAT IT READS IS OF BULK AT MOST 1048576: true; the input reads as it did. -/
def talkRowsUptoRow : OpenClaim := { program := "ytfohefgpchbgkaadoor", sum := "392f1d77af6f5bc9c5d175afb0961b52c92c160b868744cff36c49a6adccc9ad", func := "refectory/refectorylaw08.TalkRows", spec := "talkRows", unfollowed := true, recurses := true, named := ["unicode/utf8.first", "unicode/utf8.acceptRanges"], apart := false, laid := [("unicode/utf8.acceptRanges", laid_unicode_utf8_acceptRanges), ("unicode/utf8.first", laid_unicode_utf8_first)], narrowed := true }
def TalkRowsUptoSaid : Prop := talkRowsUptoRow.holds Tryd.pinned (OpenSpec.upto talkRowsSpec)

/-- 'refectorylaw08.TalkSays', WHERE WHAT IT READS IS OF BULK AT MOST 1048576: true; the input reads as it did. -/
def talkSaysUptoRow : OpenClaim := { program := "ytfohefgpchbgkaadoor", sum := "392f1d77af6f5bc9c5d175afb0961b52c92c160b868744cff36c49a6adccc9ad", func := "refectory/refectorylaw08.TalkSays", spec := "talkSays", unfollowed := true, recurses := true, named := ["unicode/utf8.first", "unicode/utf8.acceptRanges"], apart := false, laid := [("unicode/utf8.acceptRanges", laid_unicode_utf8_acceptRanges), ("unicode/utf8.first", laid_unicode_utf8_first)], narrowed := true }
def TalkSaysUptoSaid : Prop := talkSaysUptoRow.holds Tryd.pinned (OpenSpec.upto talkSaysSpec)

/-- 'refectorylaw08.TalkBack', WHERE WHAT IT READS IS OF BULK AT MOST 1048576: true; the input reads as it did. -/
def talkBackUptoRow : OpenClaim := { program := "ytfohefgpchbgkaadoor", sum := "392f1d77af6f5bc9c5d175afb0961b52c92c160b868744cff36c49a6adccc9ad", func := "refectory/refectorylaw08.TalkBack", spec := "talkBack", unfollowed := true, recurses := true, named := ["unicode/utf8.first", "unicode/utf8.acceptRanges"], apart := false, laid := [("unicode/utf8.acceptRanges", laid_unicode_utf8_acceptRanges), ("unicode/utf8.first", laid_unicode_utf8_first)], narrowed := true }
def TalkBackUptoSaid : Prop := talkBackUptoRow.holds Tryd.pinned (OpenSpec.upto talkBackSpec)

/-- 'refectorylaw08.TalkOnce', WHERE WHAT IT READS IS OF BULK AT MOST 1048576: true; the input reads as it did. -/
def talkOnceUptoRow : OpenClaim := { program := "ytfohefgpchbgkaadoor", sum := "392f1d77af6f5bc9c5d175afb0961b52c92c160b868744cff36c49a6adccc9ad", func := "refectory/refectorylaw08.TalkOnce", spec := "talkOnce", unfollowed := true, recurses := true, named := ["unicode/utf8.first", "unicode/utf8.acceptRanges"], apart := false, laid := [("unicode/utf8.acceptRanges", laid_unicode_utf8_acceptRanges), ("unicode/utf8.first", laid_unicode_utf8_first)], narrowed := true }
def TalkOnceUptoSaid : Prop := talkOnceUptoRow.holds Tryd.pinned (OpenSpec.upto talkOnceSpec)

/-- 'refectorylaw08.TalkFresh', WHERE WHAT IT READS IS OF BULK AT MOST 1048576: true; the input reads as it did. -/
def talkFreshUptoRow : OpenClaim := { program := "ytfohefgpchbgkaadoor", sum := "392f1d77af6f5bc9c5d175afb0961b52c92c160b868744cff36c49a6adccc9ad", func := "refectory/refectorylaw08.TalkFresh", spec := "talkFresh", unfollowed := true, recurses := true, named := ["unicode/utf8.first", "unicode/utf8.acceptRanges"], apart := false, laid := [("unicode/utf8.acceptRanges", laid_unicode_utf8_acceptRanges), ("unicode/utf8.first", laid_unicode_utf8_first)], narrowed := true }
def TalkFreshUptoSaid : Prop := talkFreshUptoRow.holds Tryd.pinned (OpenSpec.upto talkFreshSpec)

end Rows
end Go.Proofs.YtfohefgpchbgkaaDoor
