/-
  No cell of these rows narrows 'for every input' (looked for: loops, veiled, ifaces, maps, wideKeys, modest, calm, conditions, laid).
  DERIVED. THE GIVEN ROWS OF THIS SEAT. 11 by the template 'for every input the law returns true; each argument reads behind the call as it read before'; 0 by the template 'total and deterministic' (their statements: YtbnjdnahpnjofaaTotals.lean).
  GIVEN WITH THE SEED: the statements are not yours to turn. If you find one false, say at which input.
  Laid BY PROGRAM, IN A SANDBOX (cutbox-rows.mjs): the forced cells as the released guide's own fill.sh prints them over the translation 37dea2d06fcdcbcf… (all of the seat's roots in one cut). By AI agents, Wed Nov 11 2026. No macro, syntax, notation, axiom, sorry.
-/
import Derived.Test.YtbnjdnahpnjofaaChecked
import GoSem.Claim
import GoSem.ClaimJoined
import GoSem.ClaimMapViews
import Derived.JoinedTies
import Derived.KernelRfl
namespace Go.Proofs.Ytbnjdnahpnjofaa
/- THE CELL 'sum', in the pinned program and in every row, IS THE sha256 OF THE DUMP (.gsa) THAT YtbnjdnahpnjofaaProg.lean LOADS. Nothing in Lean hashes anything: it is a label: what it is worth is what the hold of that sum in a sandbox is worth. -/
noncomputable def Try.pinned : Pinned := { name := "ytbnjdnahpnjofaa", sum := "37dea2d06fcdcbcf32b21ca75ed2a612bb783007914e32e9afcbfacaa5207a60", checked := Try.checked }
namespace Rows
def none {H : Type} : Left H := { results := [], args := [] }

/-- 'refectorylaw13.FramePuts': WHATEVER THE INPUT: true; the input reads as it did. -/
def framePutsSpec : ChangeSpec := { name := "framePuts", fn := fun _ => fun
  | [d] => { results := [.lit (.bool true)], args := [d] }
  | _ => none }
def framePutsRow : OpenClaim := { program := "ytbnjdnahpnjofaa", sum := "37dea2d06fcdcbcf32b21ca75ed2a612bb783007914e32e9afcbfacaa5207a60", func := "refectory/refectorylaw13.FramePuts", spec := "framePuts", apart := false }
def FramePutsSaid : Prop := framePutsRow.holds Try.pinned (OpenSpec.ofChange framePutsSpec)

/-- ITS FALSE NEIGHBOUR: 'it returns false'. Refute it at one input. -/
def framePutsWrong : ChangeSpec := { name := "framePuts", fn := fun _ => fun
  | [d] => { results := [.lit (.bool false)], args := [d] }
  | _ => none }
def FramePutsWrongFalsely : Prop := framePutsRow.holds Try.pinned (OpenSpec.ofChange framePutsWrong)

/-- 'refectorylaw13.FrameBack': WHATEVER THE INPUT: true; the input reads as it did. -/
def frameBackSpec : ChangeSpec := { name := "frameBack", fn := fun _ => fun
  | [d1, d2] => { results := [.lit (.bool true)], args := [d1, d2] }
  | _ => none }
def frameBackRow : OpenClaim := { program := "ytbnjdnahpnjofaa", sum := "37dea2d06fcdcbcf32b21ca75ed2a612bb783007914e32e9afcbfacaa5207a60", func := "refectory/refectorylaw13.FrameBack", spec := "frameBack", apart := false }
def FrameBackSaid : Prop := frameBackRow.holds Try.pinned (OpenSpec.ofChange frameBackSpec)

/-- ITS FALSE NEIGHBOUR: 'it returns false'. Refute it at one input. -/
def frameBackWrong : ChangeSpec := { name := "frameBack", fn := fun _ => fun
  | [d1, d2] => { results := [.lit (.bool false)], args := [d1, d2] }
  | _ => none }
def FrameBackWrongFalsely : Prop := frameBackRow.holds Try.pinned (OpenSpec.ofChange frameBackWrong)

/-- 'refectorylaw13.FrameLong': WHATEVER THE INPUT: true; the input reads as it did. -/
def frameLongSpec : ChangeSpec := { name := "frameLong", fn := fun _ => fun
  | [d1, d2] => { results := [.lit (.bool true)], args := [d1, d2] }
  | _ => none }
def frameLongRow : OpenClaim := { program := "ytbnjdnahpnjofaa", sum := "37dea2d06fcdcbcf32b21ca75ed2a612bb783007914e32e9afcbfacaa5207a60", func := "refectory/refectorylaw13.FrameLong", spec := "frameLong", apart := false }
def FrameLongSaid : Prop := frameLongRow.holds Try.pinned (OpenSpec.ofChange frameLongSpec)

/-- ITS FALSE NEIGHBOUR: 'it returns false'. Refute it at one input. -/
def frameLongWrong : ChangeSpec := { name := "frameLong", fn := fun _ => fun
  | [d1, d2] => { results := [.lit (.bool false)], args := [d1, d2] }
  | _ => none }
def FrameLongWrongFalsely : Prop := frameLongRow.holds Try.pinned (OpenSpec.ofChange frameLongWrong)

/-- 'refectorylaw13.FrameNil': WHATEVER THE INPUT: true; the input reads as it did. -/
def frameNilSpec : ChangeSpec := { name := "frameNil", fn := fun _ => fun
  | [d1, d2] => { results := [.lit (.bool true)], args := [d1, d2] }
  | _ => none }
def frameNilRow : OpenClaim := { program := "ytbnjdnahpnjofaa", sum := "37dea2d06fcdcbcf32b21ca75ed2a612bb783007914e32e9afcbfacaa5207a60", func := "refectory/refectorylaw13.FrameNil", spec := "frameNil", apart := false }
def FrameNilSaid : Prop := frameNilRow.holds Try.pinned (OpenSpec.ofChange frameNilSpec)

/-- ITS FALSE NEIGHBOUR: 'it returns false'. Refute it at one input. -/
def frameNilWrong : ChangeSpec := { name := "frameNil", fn := fun _ => fun
  | [d1, d2] => { results := [.lit (.bool false)], args := [d1, d2] }
  | _ => none }
def FrameNilWrongFalsely : Prop := frameNilRow.holds Try.pinned (OpenSpec.ofChange frameNilWrong)

/-- 'refectorylaw07.HeadPuts': WHATEVER THE INPUT: true; the input reads as it did. -/
def headPutsSpec : ChangeSpec := { name := "headPuts", fn := fun _ => fun
  | [d1, d2] => { results := [.lit (.bool true)], args := [d1, d2] }
  | _ => none }
def headPutsRow : OpenClaim := { program := "ytbnjdnahpnjofaa", sum := "37dea2d06fcdcbcf32b21ca75ed2a612bb783007914e32e9afcbfacaa5207a60", func := "refectory/refectorylaw07.HeadPuts", spec := "headPuts", unfollowed := true, recurses := true, apart := false }
def HeadPutsSaid : Prop := headPutsRow.holds Try.pinned (OpenSpec.ofChange headPutsSpec)

/-- ITS FALSE NEIGHBOUR: 'it returns false'. Refute it at one input. -/
def headPutsWrong : ChangeSpec := { name := "headPuts", fn := fun _ => fun
  | [d1, d2] => { results := [.lit (.bool false)], args := [d1, d2] }
  | _ => none }
def HeadPutsWrongFalsely : Prop := headPutsRow.holds Try.pinned (OpenSpec.ofChange headPutsWrong)

/-- 'refectorylaw07.HeadGets': WHATEVER THE INPUT: true; the input reads as it did. -/
def headGetsSpec : ChangeSpec := { name := "headGets", fn := fun _ => fun
  | [d1, d2] => { results := [.lit (.bool true)], args := [d1, d2] }
  | _ => none }
def headGetsRow : OpenClaim := { program := "ytbnjdnahpnjofaa", sum := "37dea2d06fcdcbcf32b21ca75ed2a612bb783007914e32e9afcbfacaa5207a60", func := "refectory/refectorylaw07.HeadGets", spec := "headGets", unfollowed := true, recurses := true, apart := false }
def HeadGetsSaid : Prop := headGetsRow.holds Try.pinned (OpenSpec.ofChange headGetsSpec)

/-- ITS FALSE NEIGHBOUR: 'it returns false'. Refute it at one input. -/
def headGetsWrong : ChangeSpec := { name := "headGets", fn := fun _ => fun
  | [d1, d2] => { results := [.lit (.bool false)], args := [d1, d2] }
  | _ => none }
def HeadGetsWrongFalsely : Prop := headGetsRow.holds Try.pinned (OpenSpec.ofChange headGetsWrong)

/-- 'refectorylaw07.HeadBack': WHATEVER THE INPUT: true; the input reads as it did. -/
def headBackSpec : ChangeSpec := { name := "headBack", fn := fun _ => fun
  | [d1, d2, d3] => { results := [.lit (.bool true)], args := [d1, d2, d3] }
  | _ => none }
def headBackRow : OpenClaim := { program := "ytbnjdnahpnjofaa", sum := "37dea2d06fcdcbcf32b21ca75ed2a612bb783007914e32e9afcbfacaa5207a60", func := "refectory/refectorylaw07.HeadBack", spec := "headBack", unfollowed := true, recurses := true, apart := false }
def HeadBackSaid : Prop := headBackRow.holds Try.pinned (OpenSpec.ofChange headBackSpec)

/-- ITS FALSE NEIGHBOUR: 'it returns false'. Refute it at one input. -/
def headBackWrong : ChangeSpec := { name := "headBack", fn := fun _ => fun
  | [d1, d2, d3] => { results := [.lit (.bool false)], args := [d1, d2, d3] }
  | _ => none }
def HeadBackWrongFalsely : Prop := headBackRow.holds Try.pinned (OpenSpec.ofChange headBackWrong)

/-- 'refectorylaw07.HeadOnce': WHATEVER THE INPUT: true; the input reads as it did. -/
def headOnceSpec : ChangeSpec := { name := "headOnce", fn := fun _ => fun
  | [d] => { results := [.lit (.bool true)], args := [d] }
  | _ => none }
def headOnceRow : OpenClaim := { program := "ytbnjdnahpnjofaa", sum := "37dea2d06fcdcbcf32b21ca75ed2a612bb783007914e32e9afcbfacaa5207a60", func := "refectory/refectorylaw07.HeadOnce", spec := "headOnce", unfollowed := true, recurses := true, apart := false }
def HeadOnceSaid : Prop := headOnceRow.holds Try.pinned (OpenSpec.ofChange headOnceSpec)

/-- ITS FALSE NEIGHBOUR: 'it returns false'. Refute it at one input. -/
def headOnceWrong : ChangeSpec := { name := "headOnce", fn := fun _ => fun
  | [d] => { results := [.lit (.bool false)], args := [d] }
  | _ => none }
def HeadOnceWrongFalsely : Prop := headOnceRow.holds Try.pinned (OpenSpec.ofChange headOnceWrong)

/-- 'refectorylaw07.HeadUnlike': WHATEVER THE INPUT: true; the input reads as it did. -/
def headUnlikeSpec : ChangeSpec := { name := "headUnlike", fn := fun _ => fun
  | [d1, d2] => { results := [.lit (.bool true)], args := [d1, d2] }
  | _ => none }
def headUnlikeRow : OpenClaim := { program := "ytbnjdnahpnjofaa", sum := "37dea2d06fcdcbcf32b21ca75ed2a612bb783007914e32e9afcbfacaa5207a60", func := "refectory/refectorylaw07.HeadUnlike", spec := "headUnlike", unfollowed := true, recurses := true, apart := false }
def HeadUnlikeSaid : Prop := headUnlikeRow.holds Try.pinned (OpenSpec.ofChange headUnlikeSpec)

/-- ITS FALSE NEIGHBOUR: 'it returns false'. Refute it at one input. -/
def headUnlikeWrong : ChangeSpec := { name := "headUnlike", fn := fun _ => fun
  | [d1, d2] => { results := [.lit (.bool false)], args := [d1, d2] }
  | _ => none }
def HeadUnlikeWrongFalsely : Prop := headUnlikeRow.holds Try.pinned (OpenSpec.ofChange headUnlikeWrong)

/-- 'refectorylaw07.HeadShort': WHATEVER THE INPUT: true; the input reads as it did. -/
def headShortSpec : ChangeSpec := { name := "headShort", fn := fun _ => fun
  | [d1, d2] => { results := [.lit (.bool true)], args := [d1, d2] }
  | _ => none }
def headShortRow : OpenClaim := { program := "ytbnjdnahpnjofaa", sum := "37dea2d06fcdcbcf32b21ca75ed2a612bb783007914e32e9afcbfacaa5207a60", func := "refectory/refectorylaw07.HeadShort", spec := "headShort", unfollowed := true, recurses := true, apart := false }
def HeadShortSaid : Prop := headShortRow.holds Try.pinned (OpenSpec.ofChange headShortSpec)

/-- ITS FALSE NEIGHBOUR: 'it returns false'. Refute it at one input. -/
def headShortWrong : ChangeSpec := { name := "headShort", fn := fun _ => fun
  | [d1, d2] => { results := [.lit (.bool false)], args := [d1, d2] }
  | _ => none }
def HeadShortWrongFalsely : Prop := headShortRow.holds Try.pinned (OpenSpec.ofChange headShortWrong)

/-- 'refectorylaw07.HeadFresh': WHATEVER THE INPUT: true; the input reads as it did. -/
def headFreshSpec : ChangeSpec := { name := "headFresh", fn := fun _ => fun
  | [d] => { results := [.lit (.bool true)], args := [d] }
  | _ => none }
def headFreshRow : OpenClaim := { program := "ytbnjdnahpnjofaa", sum := "37dea2d06fcdcbcf32b21ca75ed2a612bb783007914e32e9afcbfacaa5207a60", func := "refectory/refectorylaw07.HeadFresh", spec := "headFresh", unfollowed := true, recurses := true, apart := false }
def HeadFreshSaid : Prop := headFreshRow.holds Try.pinned (OpenSpec.ofChange headFreshSpec)

/-- ITS FALSE NEIGHBOUR: 'it returns false'. Refute it at one input. -/
def headFreshWrong : ChangeSpec := { name := "headFresh", fn := fun _ => fun
  | [d] => { results := [.lit (.bool false)], args := [d] }
  | _ => none }
def HeadFreshWrongFalsely : Prop := headFreshRow.holds Try.pinned (OpenSpec.ofChange headFreshWrong)

/- THE SECOND FORM. 'bulk': how many values and letters a reading holds, each counted each time it is reached (what is shared counts as often as it is met; a slice's spare places count too). A statement '..UptoSaid' is the law's where the arguments, and the package variables that the reading takes, are together of bulk at most 1048576: NARROWER than '..Said'. Prove '..Said' where nothing that the law and all that it calls make is longer than what came in: it says more and counts as full. Else prove '..UptoSaid'. A law counts once. -/
mutual
def uptoBulk {H : Type} : DataW H → Nat
  | .lit (.string bytes) => bytes.length + 1
  | .lit _ => 1
  | .nil => 1
  | .ptr d => uptoBulk d + 1
  | .slice elems spare => uptoBulkAll elems + uptoBulkAll spare + 1
  | .agg parts => uptoBulkAll parts + 1
  | .iface _ d => uptoBulk d + 1
  | .map entries => uptoBulkEntries entries + 1
  | .held _ => 1
def uptoBulkAll {H : Type} : List (DataW H) → Nat
  | [] => 0
  | d :: r => uptoBulk d + uptoBulkAll r
def uptoBulkEntries {H : Type} : List (Lit × DataW H) → Nat
  | [] => 0
  | x :: r => uptoBulkEntry x + uptoBulkEntries r
def uptoBulkEntry {H : Type} : Lit × DataW H → Nat
  | (.string bytes, d) => bytes.length + uptoBulk d + 1
  | (_, d) => uptoBulk d + 1
 end
def uptoSmall : (H : Type) → List (DataW H) → Bool := fun _ ds => decide (uptoBulkAll ds ≤ 1048576)
def OpenSpec.upto (s : _root_.Go.ChangeSpec) : _root_.Go.OpenSpec := { _root_.Go.OpenSpec.ofChange s with cond := some uptoSmall }

/-- 'refectorylaw13.FramePuts', WHERE WHAT IT READS IS OF BULK AT MOST 1048576: true; the input reads as it did. -/
def framePutsUptoRow : OpenClaim := { program := "ytbnjdnahpnjofaa", sum := "37dea2d06fcdcbcf32b21ca75ed2a612bb783007914e32e9afcbfacaa5207a60", func := "refectory/refectorylaw13.FramePuts", spec := "framePuts", apart := false, narrowed := true }
def FramePutsUptoSaid : Prop := framePutsUptoRow.holds Try.pinned (OpenSpec.upto framePutsSpec)

/-- 'refectorylaw13.FrameBack', WHERE WHAT IT READS IS OF BULK AT MOST 1048576: true; the input reads as it did. -/
def frameBackUptoRow : OpenClaim := { program := "ytbnjdnahpnjofaa", sum := "37dea2d06fcdcbcf32b21ca75ed2a612bb783007914e32e9afcbfacaa5207a60", func := "refectory/refectorylaw13.FrameBack", spec := "frameBack", apart := false, narrowed := true }
def FrameBackUptoSaid : Prop := frameBackUptoRow.holds Try.pinned (OpenSpec.upto frameBackSpec)

/-- 'refectorylaw13.FrameLong', WHERE WHAT IT READS IS OF BULK AT MOST 1048576: true; the input reads as it did. -/
def frameLongUptoRow : OpenClaim := { program := "ytbnjdnahpnjofaa", sum := "37dea2d06fcdcbcf32b21ca75ed2a612bb783007914e32e9afcbfacaa5207a60", func := "refectory/refectorylaw13.FrameLong", spec := "frameLong", apart := false, narrowed := true }
def FrameLongUptoSaid : Prop := frameLongUptoRow.holds Try.pinned (OpenSpec.upto frameLongSpec)

/-- 'refectorylaw13.FrameNil', WHERE WHAT IT READS IS OF BULK AT MOST 1048576: true; the input reads as it did. -/
def frameNilUptoRow : OpenClaim := { program := "ytbnjdnahpnjofaa", sum := "37dea2d06fcdcbcf32b21ca75ed2a612bb783007914e32e9afcbfacaa5207a60", func := "refectory/refectorylaw13.FrameNil", spec := "frameNil", apart := false, narrowed := true }
def FrameNilUptoSaid : Prop := frameNilUptoRow.holds Try.pinned (OpenSpec.upto frameNilSpec)

/-- 'refectorylaw07.HeadPuts', WHERE WHAT IT READS IS OF BULK AT MOST 1048576: true; the input reads as it did. -/
def headPutsUptoRow : OpenClaim := { program := "ytbnjdnahpnjofaa", sum := "37dea2d06fcdcbcf32b21ca75ed2a612bb783007914e32e9afcbfacaa5207a60", func := "refectory/refectorylaw07.HeadPuts", spec := "headPuts", unfollowed := true, recurses := true, apart := false, narrowed := true }
def HeadPutsUptoSaid : Prop := headPutsUptoRow.holds Try.pinned (OpenSpec.upto headPutsSpec)

/-- 'refectorylaw07.HeadGets', WHERE WHAT IT READS IS OF BULK AT MOST 1048576: true; the input reads as it did. -/
def headGetsUptoRow : OpenClaim := { program := "ytbnjdnahpnjofaa", sum := "37dea2d06fcdcbcf32b21ca75ed2a612bb783007914e32e9afcbfacaa5207a60", func := "refectory/refectorylaw07.HeadGets", spec := "headGets", unfollowed := true, recurses := true, apart := false, narrowed := true }
def HeadGetsUptoSaid : Prop := headGetsUptoRow.holds Try.pinned (OpenSpec.upto headGetsSpec)

/-- 'refectorylaw07.HeadBack', WHERE WHAT IT READS IS OF BULK AT MOST 1048576: true; the input reads as it did. -/
def headBackUptoRow : OpenClaim := { program := "ytbnjdnahpnjofaa", sum := "37dea2d06fcdcbcf32b21ca75ed2a612bb783007914e32e9afcbfacaa5207a60", func := "refectory/refectorylaw07.HeadBack", spec := "headBack", unfollowed := true, recurses := true, apart := false, narrowed := true }
def HeadBackUptoSaid : Prop := headBackUptoRow.holds Try.pinned (OpenSpec.upto headBackSpec)

/-- 'refectorylaw07.HeadOnce', WHERE WHAT IT READS IS OF BULK AT MOST 1048576: true; the input reads as it did. -/
def headOnceUptoRow : OpenClaim := { program := "ytbnjdnahpnjofaa", sum := "37dea2d06fcdcbcf32b21ca75ed2a612bb783007914e32e9afcbfacaa5207a60", func := "refectory/refectorylaw07.HeadOnce", spec := "headOnce", unfollowed := true, recurses := true, apart := false, narrowed := true }
def HeadOnceUptoSaid : Prop := headOnceUptoRow.holds Try.pinned (OpenSpec.upto headOnceSpec)

/-- 'refectorylaw07.HeadUnlike', WHERE WHAT IT READS IS OF BULK AT MOST 1048576: true; the input reads as it did. -/
def headUnlikeUptoRow : OpenClaim := { program := "ytbnjdnahpnjofaa", sum := "37dea2d06fcdcbcf32b21ca75ed2a612bb783007914e32e9afcbfacaa5207a60", func := "refectory/refectorylaw07.HeadUnlike", spec := "headUnlike", unfollowed := true, recurses := true, apart := false, narrowed := true }
def HeadUnlikeUptoSaid : Prop := headUnlikeUptoRow.holds Try.pinned (OpenSpec.upto headUnlikeSpec)

/-- 'refectorylaw07.HeadShort', WHERE WHAT IT READS IS OF BULK AT MOST 1048576: true; the input reads as it did. -/
def headShortUptoRow : OpenClaim := { program := "ytbnjdnahpnjofaa", sum := "37dea2d06fcdcbcf32b21ca75ed2a612bb783007914e32e9afcbfacaa5207a60", func := "refectory/refectorylaw07.HeadShort", spec := "headShort", unfollowed := true, recurses := true, apart := false, narrowed := true }
def HeadShortUptoSaid : Prop := headShortUptoRow.holds Try.pinned (OpenSpec.upto headShortSpec)

/-- 'refectorylaw07.HeadFresh', WHERE WHAT IT READS IS OF BULK AT MOST 1048576: true; the input reads as it did. -/
def headFreshUptoRow : OpenClaim := { program := "ytbnjdnahpnjofaa", sum := "37dea2d06fcdcbcf32b21ca75ed2a612bb783007914e32e9afcbfacaa5207a60", func := "refectory/refectorylaw07.HeadFresh", spec := "headFresh", unfollowed := true, recurses := true, apart := false, narrowed := true }
def HeadFreshUptoSaid : Prop := headFreshUptoRow.holds Try.pinned (OpenSpec.upto headFreshSpec)

end Rows
end Go.Proofs.Ytbnjdnahpnjofaa
