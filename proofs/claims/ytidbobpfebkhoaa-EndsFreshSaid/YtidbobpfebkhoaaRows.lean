/-
  No cell of these rows narrows 'for every input' (looked for: loops, veiled, ifaces, maps, wideKeys, modest, calm, conditions, laid).
  DERIVED. THE GIVEN ROWS OF THIS SEAT. 8 by the template 'for every input the law returns true; each argument reads behind the call as it read before'; 0 by the template 'total and deterministic' (their statements: YtidbobpfebkhoaaTotals.lean).
  GIVEN WITH THE SEED: the statements are not yours to turn. If you find one false, say at which input.
  Laid BY PROGRAM, IN A SANDBOX (cutbox-rows.mjs): the forced cells as the released guide's own fill.sh prints them over the translation de2be40d0c523cad… (all of the seat's roots in one cut). By AI agents, Wed Nov 11 2026. No macro, syntax, notation, axiom, sorry.
-/
import Derived.Test.YtidbobpfebkhoaaChecked
import GoSem.Claim
import GoSem.ClaimJoined
import GoSem.ClaimMapViews
import Derived.JoinedTies
import Derived.KernelRfl
namespace Go.Proofs.Ytidbobpfebkhoaa
/- THE CELL 'sum', in the pinned program and in every row, IS THE sha256 OF THE DUMP (.gsa) THAT YtidbobpfebkhoaaProg.lean LOADS. Nothing in Lean hashes anything: it is a label: what it is worth is what the hold of that sum in a sandbox is worth. -/
noncomputable def Try.pinned : Pinned := { name := "ytidbobpfebkhoaa", sum := "de2be40d0c523cad31bb27227b6f940d33474983a9f4b3228416f6f83021aecf", checked := Try.checked }
namespace Rows
def none {H : Type} : Left H := { results := [], args := [] }

/-- 'refectorylaw01.EndsPuts': WHATEVER THE INPUT: true; the input reads as it did. -/
def endsPutsSpec : ChangeSpec := { name := "endsPuts", fn := fun _ => fun
  | [d1, d2] => { results := [.lit (.bool true)], args := [d1, d2] }
  | _ => none }
def endsPutsRow : OpenClaim := { program := "ytidbobpfebkhoaa", sum := "de2be40d0c523cad31bb27227b6f940d33474983a9f4b3228416f6f83021aecf", func := "refectory/refectorylaw01.EndsPuts", spec := "endsPuts", apart := false }
def EndsPutsSaid : Prop := endsPutsRow.holds Try.pinned (OpenSpec.ofChange endsPutsSpec)

/-- ITS FALSE NEIGHBOUR: 'it returns false'. Refute it at one input. -/
def endsPutsWrong : ChangeSpec := { name := "endsPuts", fn := fun _ => fun
  | [d1, d2] => { results := [.lit (.bool false)], args := [d1, d2] }
  | _ => none }
def EndsPutsWrongFalsely : Prop := endsPutsRow.holds Try.pinned (OpenSpec.ofChange endsPutsWrong)

/-- 'refectorylaw01.EndsGets': WHATEVER THE INPUT: true; the input reads as it did. -/
def endsGetsSpec : ChangeSpec := { name := "endsGets", fn := fun _ => fun
  | [d1, d2, d3] => { results := [.lit (.bool true)], args := [d1, d2, d3] }
  | _ => none }
def endsGetsRow : OpenClaim := { program := "ytidbobpfebkhoaa", sum := "de2be40d0c523cad31bb27227b6f940d33474983a9f4b3228416f6f83021aecf", func := "refectory/refectorylaw01.EndsGets", spec := "endsGets", apart := false }
def EndsGetsSaid : Prop := endsGetsRow.holds Try.pinned (OpenSpec.ofChange endsGetsSpec)

/-- ITS FALSE NEIGHBOUR: 'it returns false'. Refute it at one input. -/
def endsGetsWrong : ChangeSpec := { name := "endsGets", fn := fun _ => fun
  | [d1, d2, d3] => { results := [.lit (.bool false)], args := [d1, d2, d3] }
  | _ => none }
def EndsGetsWrongFalsely : Prop := endsGetsRow.holds Try.pinned (OpenSpec.ofChange endsGetsWrong)

/-- 'refectorylaw01.EndsOne': WHATEVER THE INPUT: true; the input reads as it did. -/
def endsOneSpec : ChangeSpec := { name := "endsOne", fn := fun _ => fun
  | [d1, d2] => { results := [.lit (.bool true)], args := [d1, d2] }
  | _ => none }
def endsOneRow : OpenClaim := { program := "ytidbobpfebkhoaa", sum := "de2be40d0c523cad31bb27227b6f940d33474983a9f4b3228416f6f83021aecf", func := "refectory/refectorylaw01.EndsOne", spec := "endsOne", apart := false }
def EndsOneSaid : Prop := endsOneRow.holds Try.pinned (OpenSpec.ofChange endsOneSpec)

/-- ITS FALSE NEIGHBOUR: 'it returns false'. Refute it at one input. -/
def endsOneWrong : ChangeSpec := { name := "endsOne", fn := fun _ => fun
  | [d1, d2] => { results := [.lit (.bool false)], args := [d1, d2] }
  | _ => none }
def EndsOneWrongFalsely : Prop := endsOneRow.holds Try.pinned (OpenSpec.ofChange endsOneWrong)

/-- 'refectorylaw01.EndsBack': WHATEVER THE INPUT: true; the input reads as it did. -/
def endsBackSpec : ChangeSpec := { name := "endsBack", fn := fun _ => fun
  | [d1, d2, d3, d4] => { results := [.lit (.bool true)], args := [d1, d2, d3, d4] }
  | _ => none }
def endsBackRow : OpenClaim := { program := "ytidbobpfebkhoaa", sum := "de2be40d0c523cad31bb27227b6f940d33474983a9f4b3228416f6f83021aecf", func := "refectory/refectorylaw01.EndsBack", spec := "endsBack", apart := false }
def EndsBackSaid : Prop := endsBackRow.holds Try.pinned (OpenSpec.ofChange endsBackSpec)

/-- ITS FALSE NEIGHBOUR: 'it returns false'. Refute it at one input. -/
def endsBackWrong : ChangeSpec := { name := "endsBack", fn := fun _ => fun
  | [d1, d2, d3, d4] => { results := [.lit (.bool false)], args := [d1, d2, d3, d4] }
  | _ => none }
def EndsBackWrongFalsely : Prop := endsBackRow.holds Try.pinned (OpenSpec.ofChange endsBackWrong)

/-- 'refectorylaw01.EndsSplit': WHATEVER THE INPUT: true; the input reads as it did. -/
def endsSplitSpec : ChangeSpec := { name := "endsSplit", fn := fun _ => fun
  | [d1, d2, d3, d4] => { results := [.lit (.bool true)], args := [d1, d2, d3, d4] }
  | _ => none }
def endsSplitRow : OpenClaim := { program := "ytidbobpfebkhoaa", sum := "de2be40d0c523cad31bb27227b6f940d33474983a9f4b3228416f6f83021aecf", func := "refectory/refectorylaw01.EndsSplit", spec := "endsSplit", apart := false }
def EndsSplitSaid : Prop := endsSplitRow.holds Try.pinned (OpenSpec.ofChange endsSplitSpec)

/-- ITS FALSE NEIGHBOUR: 'it returns false'. Refute it at one input. -/
def endsSplitWrong : ChangeSpec := { name := "endsSplit", fn := fun _ => fun
  | [d1, d2, d3, d4] => { results := [.lit (.bool false)], args := [d1, d2, d3, d4] }
  | _ => none }
def EndsSplitWrongFalsely : Prop := endsSplitRow.holds Try.pinned (OpenSpec.ofChange endsSplitWrong)

/-- 'refectorylaw01.EndsPad': WHATEVER THE INPUT: true; the input reads as it did. -/
def endsPadSpec : ChangeSpec := { name := "endsPad", fn := fun _ => fun
  | [d] => { results := [.lit (.bool true)], args := [d] }
  | _ => none }
def endsPadRow : OpenClaim := { program := "ytidbobpfebkhoaa", sum := "de2be40d0c523cad31bb27227b6f940d33474983a9f4b3228416f6f83021aecf", func := "refectory/refectorylaw01.EndsPad", spec := "endsPad", apart := false }
def EndsPadSaid : Prop := endsPadRow.holds Try.pinned (OpenSpec.ofChange endsPadSpec)

/-- ITS FALSE NEIGHBOUR: 'it returns false'. Refute it at one input. -/
def endsPadWrong : ChangeSpec := { name := "endsPad", fn := fun _ => fun
  | [d] => { results := [.lit (.bool false)], args := [d] }
  | _ => none }
def EndsPadWrongFalsely : Prop := endsPadRow.holds Try.pinned (OpenSpec.ofChange endsPadWrong)

/-- 'refectorylaw01.EndsParts': WHATEVER THE INPUT: true; the input reads as it did. -/
def endsPartsSpec : ChangeSpec := { name := "endsParts", fn := fun _ => fun
  | [d1, d2, d3] => { results := [.lit (.bool true)], args := [d1, d2, d3] }
  | _ => none }
def endsPartsRow : OpenClaim := { program := "ytidbobpfebkhoaa", sum := "de2be40d0c523cad31bb27227b6f940d33474983a9f4b3228416f6f83021aecf", func := "refectory/refectorylaw01.EndsParts", spec := "endsParts", apart := false }
def EndsPartsSaid : Prop := endsPartsRow.holds Try.pinned (OpenSpec.ofChange endsPartsSpec)

/-- ITS FALSE NEIGHBOUR: 'it returns false'. Refute it at one input. -/
def endsPartsWrong : ChangeSpec := { name := "endsParts", fn := fun _ => fun
  | [d1, d2, d3] => { results := [.lit (.bool false)], args := [d1, d2, d3] }
  | _ => none }
def EndsPartsWrongFalsely : Prop := endsPartsRow.holds Try.pinned (OpenSpec.ofChange endsPartsWrong)

/-- 'refectorylaw01.EndsFresh': WHATEVER THE INPUT: true; the input reads as it did. -/
def endsFreshSpec : ChangeSpec := { name := "endsFresh", fn := fun _ => fun
  | [d1, d2, d3] => { results := [.lit (.bool true)], args := [d1, d2, d3] }
  | _ => none }
def endsFreshRow : OpenClaim := { program := "ytidbobpfebkhoaa", sum := "de2be40d0c523cad31bb27227b6f940d33474983a9f4b3228416f6f83021aecf", func := "refectory/refectorylaw01.EndsFresh", spec := "endsFresh", apart := false }
def EndsFreshSaid : Prop := endsFreshRow.holds Try.pinned (OpenSpec.ofChange endsFreshSpec)

/-- ITS FALSE NEIGHBOUR: 'it returns false'. Refute it at one input. -/
def endsFreshWrong : ChangeSpec := { name := "endsFresh", fn := fun _ => fun
  | [d1, d2, d3] => { results := [.lit (.bool false)], args := [d1, d2, d3] }
  | _ => none }
def EndsFreshWrongFalsely : Prop := endsFreshRow.holds Try.pinned (OpenSpec.ofChange endsFreshWrong)

/- THE SECOND FORM. 'bulk': how many values and letters a reading holds, each counted each time it is reached (what is shared counts as often as it is met; a slice's spare places count too). A statement '..UptoSaid' is the law's where the arguments, and the package variables that the reading takes, are together of bulk at most 1048576: NARROWER than '..Said'. Prove '..Said' where nothing that the law and all that it calls make is longer than what came in: it says more and counts as full. Else prove '..UptoSaid'. A law counts once. -/
mutual
def uptoBulk {H : Type} : DataW H → Nat
  | .lit (.string bytes) => bytes.length + 1
  | .lit _ => 1
  | .nil => 1
  | .ptr d => uptoBulk d + 1
  | .slice elems spare => uptoBulkAll elems + uptoBulkAll spare + 1
  | .agg parts => uptoBulkAll parts + 1
  | .iface _ d => uptoBulk d + 1
  | .map entries => uptoBulkEntries entries + 1
  | .held _ => 1
def uptoBulkAll {H : Type} : List (DataW H) → Nat
  | [] => 0
  | d :: r => uptoBulk d + uptoBulkAll r
def uptoBulkEntries {H : Type} : List (Lit × DataW H) → Nat
  | [] => 0
  | x :: r => uptoBulkEntry x + uptoBulkEntries r
def uptoBulkEntry {H : Type} : Lit × DataW H → Nat
  | (.string bytes, d) => bytes.length + uptoBulk d + 1
  | (_, d) => uptoBulk d + 1
 end
def uptoSmall : (H : Type) → List (DataW H) → Bool := fun _ ds => decide (uptoBulkAll ds ≤ 1048576)
def OpenSpec.upto (s : _root_.Go.ChangeSpec) : _root_.Go.OpenSpec := { _root_.Go.OpenSpec.ofChange s with cond := some uptoSmall }

/-- 'refectorylaw01.EndsPuts', WHERE WHAT IT READS IS OF BULK AT MOST 1048576: true; the input reads as it did. -/
def endsPutsUptoRow : OpenClaim := { program := "ytidbobpfebkhoaa", sum := "de2be40d0c523cad31bb27227b6f940d33474983a9f4b3228416f6f83021aecf", func := "refectory/refectorylaw01.EndsPuts", spec := "endsPuts", apart := false, narrowed := true }
def EndsPutsUptoSaid : Prop := endsPutsUptoRow.holds Try.pinned (OpenSpec.upto endsPutsSpec)

/-- 'refectorylaw01.EndsGets', WHERE WHAT IT READS IS OF BULK AT MOST 1048576: true; the input reads as it did. -/
def endsGetsUptoRow : OpenClaim := { program := "ytidbobpfebkhoaa", sum := "de2be40d0c523cad31bb27227b6f940d33474983a9f4b3228416f6f83021aecf", func := "refectory/refectorylaw01.EndsGets", spec := "endsGets", apart := false, narrowed := true }
def EndsGetsUptoSaid : Prop := endsGetsUptoRow.holds Try.pinned (OpenSpec.upto endsGetsSpec)

/-- 'refectorylaw01.EndsOne', WHERE WHAT IT READS IS OF BULK AT MOST 1048576: true; the input reads as it did. -/
def endsOneUptoRow : OpenClaim := { program := "ytidbobpfebkhoaa", sum := "de2be40d0c523cad31bb27227b6f940d33474983a9f4b3228416f6f83021aecf", func := "refectory/refectorylaw01.EndsOne", spec := "endsOne", apart := false, narrowed := true }
def EndsOneUptoSaid : Prop := endsOneUptoRow.holds Try.pinned (OpenSpec.upto endsOneSpec)

/-- 'refectorylaw01.EndsBack', WHERE WHAT IT READS IS OF BULK AT MOST 1048576: true; the input reads as it did. -/
def endsBackUptoRow : OpenClaim := { program := "ytidbobpfebkhoaa", sum := "de2be40d0c523cad31bb27227b6f940d33474983a9f4b3228416f6f83021aecf", func := "refectory/refectorylaw01.EndsBack", spec := "endsBack", apart := false, narrowed := true }
def EndsBackUptoSaid : Prop := endsBackUptoRow.holds Try.pinned (OpenSpec.upto endsBackSpec)

/-- 'refectorylaw01.EndsSplit', WHERE WHAT IT READS IS OF BULK AT MOST 1048576: true; the input reads as it did. -/
def endsSplitUptoRow : OpenClaim := { program := "ytidbobpfebkhoaa", sum := "de2be40d0c523cad31bb27227b6f940d33474983a9f4b3228416f6f83021aecf", func := "refectory/refectorylaw01.EndsSplit", spec := "endsSplit", apart := false, narrowed := true }
def EndsSplitUptoSaid : Prop := endsSplitUptoRow.holds Try.pinned (OpenSpec.upto endsSplitSpec)

/-- 'refectorylaw01.EndsPad', WHERE WHAT IT READS IS OF BULK AT MOST 1048576: true; the input reads as it did. -/
def endsPadUptoRow : OpenClaim := { program := "ytidbobpfebkhoaa", sum := "de2be40d0c523cad31bb27227b6f940d33474983a9f4b3228416f6f83021aecf", func := "refectory/refectorylaw01.EndsPad", spec := "endsPad", apart := false, narrowed := true }
def EndsPadUptoSaid : Prop := endsPadUptoRow.holds Try.pinned (OpenSpec.upto endsPadSpec)

/-- 'refectorylaw01.EndsParts', WHERE WHAT IT READS IS OF BULK AT MOST 1048576: true; the input reads as it did. -/
def endsPartsUptoRow : OpenClaim := { program := "ytidbobpfebkhoaa", sum := "de2be40d0c523cad31bb27227b6f940d33474983a9f4b3228416f6f83021aecf", func := "refectory/refectorylaw01.EndsParts", spec := "endsParts", apart := false, narrowed := true }
def EndsPartsUptoSaid : Prop := endsPartsUptoRow.holds Try.pinned (OpenSpec.upto endsPartsSpec)

/-- 'refectorylaw01.EndsFresh', WHERE WHAT IT READS IS OF BULK AT MOST 1048576: true; the input reads as it did. -/
def endsFreshUptoRow : OpenClaim := { program := "ytidbobpfebkhoaa", sum := "de2be40d0c523cad31bb27227b6f940d33474983a9f4b3228416f6f83021aecf", func := "refectory/refectorylaw01.EndsFresh", spec := "endsFresh", apart := false, narrowed := true }
def EndsFreshUptoSaid : Prop := endsFreshUptoRow.holds Try.pinned (OpenSpec.upto endsFreshSpec)

end Rows
end Go.Proofs.Ytidbobpfebkhoaa
