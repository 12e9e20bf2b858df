/-
  NARROWER THAN 'FOR EVERY INPUT', by the rows' own cells (each row's printed sentence says how): ShaPresses: laid · ShaBehind: laid · ShaSums: laid · ShaSteps: laid · ShaFresh: laid · MacSigns: laid · MacBack: laid · MacOne: laid · MacKeys: laid · MacFresh: laid · MacSums: laid · MacProof: laid.
  DERIVED. THE GIVEN ROWS OF THIS SEAT. 12 by the template 'for every input the law returns true; each argument reads behind the call as it read before'; 0 by the template 'total and deterministic' (their statements: YtcbeacpikgilnaaDoorTotals.lean).
  GIVEN WITH THE SEED: the statements are not yours to turn. If you find one false, say at which input.
  Laid BY PROGRAM, IN A SANDBOX (cutbox-rows.mjs): the forced cells as the released guide's own fill.sh prints them over the translation fe8a4ad359a38914… (all of the seat's roots in one cut). By AI agents, Wed Nov 11 2026. No macro, syntax, notation, axiom, sorry.
-/
import Derived.Test.YtcbeacpikgilnaaDoorChecked
import GoSem.Claim
import GoSem.ClaimJoined
import GoSem.ClaimMapViews
import Derived.JoinedTies
import Derived.KernelRfl
namespace Go.Proofs.YtcbeacpikgilnaaDoor
/- THE CELL 'sum', in the pinned program and in every row, IS THE sha256 OF THE DUMP (.gsa) THAT YtcbeacpikgilnaaDoorProg.lean LOADS. Nothing in Lean hashes anything: it is a label: what it is worth is what the hold of that sum in a sandbox is worth. -/
noncomputable def Tryd.pinned : Pinned := { name := "ytcbeacpikgilnaadoor", sum := "fe8a4ad359a389142da91550468927ee978f05b13f1acaa247d1405ef37bc738", checked := Tryd.checked }
namespace Rows
def none {H : Type} : Left H := { results := [], args := [] }

/- WHAT THE LISTED PACKAGE-LEVEL VARIABLES READ AS WHEN THE CALL BEGINS. Each datum BY PROGRAM (the guide's laid-datum.mjs) off the statement by which the dump's own 'gosem.cut.vars' lays the variable. In a bare row this is a premise. The card (YtcbeacpikgilnaaDoorCards.lean) ties it to the program's text. -/
def laid_refectory_sha_constants {H : Type} : DataW H := .agg [.lit (.int .u32 1116352408), .lit (.int .u32 1899447441), .lit (.int .u32 3049323471), .lit (.int .u32 3921009573), .lit (.int .u32 961987163), .lit (.int .u32 1508970993), .lit (.int .u32 2453635748), .lit (.int .u32 2870763221), .lit (.int .u32 3624381080), .lit (.int .u32 310598401), .lit (.int .u32 607225278), .lit (.int .u32 1426881987), .lit (.int .u32 1925078388), .lit (.int .u32 2162078206), .lit (.int .u32 2614888103), .lit (.int .u32 3248222580), .lit (.int .u32 3835390401), .lit (.int .u32 4022224774), .lit (.int .u32 264347078), .lit (.int .u32 604807628), .lit (.int .u32 770255983), .lit (.int .u32 1249150122), .lit (.int .u32 1555081692), .lit (.int .u32 1996064986), .lit (.int .u32 2554220882), .lit (.int .u32 2821834349), .lit (.int .u32 2952996808), .lit (.int .u32 3210313671), .lit (.int .u32 3336571891), .lit (.int .u32 3584528711), .lit (.int .u32 113926993), .lit (.int .u32 338241895), .lit (.int .u32 666307205), .lit (.int .u32 773529912), .lit (.int .u32 1294757372), .lit (.int .u32 1396182291), .lit (.int .u32 1695183700), .lit (.int .u32 1986661051), .lit (.int .u32 2177026350), .lit (.int .u32 2456956037), .lit (.int .u32 2730485921), .lit (.int .u32 2820302411), .lit (.int .u32 3259730800), .lit (.int .u32 3345764771), .lit (.int .u32 3516065817), .lit (.int .u32 3600352804), .lit (.int .u32 4094571909), .lit (.int .u32 275423344), .lit (.int .u32 430227734), .lit (.int .u32 506948616), .lit (.int .u32 659060556), .lit (.int .u32 883997877), .lit (.int .u32 958139571), .lit (.int .u32 1322822218), .lit (.int .u32 1537002063), .lit (.int .u32 1747873779), .lit (.int .u32 1955562222), .lit (.int .u32 2024104815), .lit (.int .u32 2227730452), .lit (.int .u32 2361852424), .lit (.int .u32 2428436474), .lit (.int .u32 2756734187), .lit (.int .u32 3204031479), .lit (.int .u32 3329325298)]

/-- 'refectorylaw03.ShaPresses': WHATEVER THE INPUT: true; the input reads as it did. -/
def shaPressesSpec : ChangeSpec := { name := "shaPresses", fn := fun _ => fun
  | [d1, d2] => { results := [.lit (.bool true)], args := [d1, d2] }
  | _ => none }
def shaPressesRow : OpenClaim := { program := "ytcbeacpikgilnaadoor", sum := "fe8a4ad359a389142da91550468927ee978f05b13f1acaa247d1405ef37bc738", func := "refectory/refectorylaw03.ShaPresses", spec := "shaPresses", named := ["refectory/sha.constants"], apart := false, laid := [("refectory/sha.constants", laid_refectory_sha_constants)] }
def ShaPressesSaid : Prop := shaPressesRow.holds Tryd.pinned (OpenSpec.ofChange shaPressesSpec)

/-- ITS FALSE NEIGHBOUR: 'it returns false'. Refute it at one input. -/
def shaPressesWrong : ChangeSpec := { name := "shaPresses", fn := fun _ => fun
  | [d1, d2] => { results := [.lit (.bool false)], args := [d1, d2] }
  | _ => none }
def ShaPressesWrongFalsely : Prop := shaPressesRow.holds Tryd.pinned (OpenSpec.ofChange shaPressesWrong)

/-- 'refectorylaw03.ShaBehind': WHATEVER THE INPUT: true; the input reads as it did. -/
def shaBehindSpec : ChangeSpec := { name := "shaBehind", fn := fun _ => fun
  | [d] => { results := [.lit (.bool true)], args := [d] }
  | _ => none }
def shaBehindRow : OpenClaim := { program := "ytcbeacpikgilnaadoor", sum := "fe8a4ad359a389142da91550468927ee978f05b13f1acaa247d1405ef37bc738", func := "refectory/refectorylaw03.ShaBehind", spec := "shaBehind", named := ["refectory/sha.constants"], apart := false, laid := [("refectory/sha.constants", laid_refectory_sha_constants)] }
def ShaBehindSaid : Prop := shaBehindRow.holds Tryd.pinned (OpenSpec.ofChange shaBehindSpec)

/-- ITS FALSE NEIGHBOUR: 'it returns false'. Refute it at one input. -/
def shaBehindWrong : ChangeSpec := { name := "shaBehind", fn := fun _ => fun
  | [d] => { results := [.lit (.bool false)], args := [d] }
  | _ => none }
def ShaBehindWrongFalsely : Prop := shaBehindRow.holds Tryd.pinned (OpenSpec.ofChange shaBehindWrong)

/-- 'refectorylaw03.ShaSums': WHATEVER THE INPUT: true; the input reads as it did. -/
def shaSumsSpec : ChangeSpec := { name := "shaSums", fn := fun _ => fun
  | [d] => { results := [.lit (.bool true)], args := [d] }
  | _ => none }
def shaSumsRow : OpenClaim := { program := "ytcbeacpikgilnaadoor", sum := "fe8a4ad359a389142da91550468927ee978f05b13f1acaa247d1405ef37bc738", func := "refectory/refectorylaw03.ShaSums", spec := "shaSums", named := ["refectory/sha.constants"], apart := false, laid := [("refectory/sha.constants", laid_refectory_sha_constants)] }
def ShaSumsSaid : Prop := shaSumsRow.holds Tryd.pinned (OpenSpec.ofChange shaSumsSpec)

/-- ITS FALSE NEIGHBOUR: 'it returns false'. Refute it at one input. -/
def shaSumsWrong : ChangeSpec := { name := "shaSums", fn := fun _ => fun
  | [d] => { results := [.lit (.bool false)], args := [d] }
  | _ => none }
def ShaSumsWrongFalsely : Prop := shaSumsRow.holds Tryd.pinned (OpenSpec.ofChange shaSumsWrong)

/-- 'refectorylaw03.ShaSteps': WHATEVER THE INPUT: true; the input reads as it did. -/
def shaStepsSpec : ChangeSpec := { name := "shaSteps", fn := fun _ => fun
  | [d] => { results := [.lit (.bool true)], args := [d] }
  | _ => none }
def shaStepsRow : OpenClaim := { program := "ytcbeacpikgilnaadoor", sum := "fe8a4ad359a389142da91550468927ee978f05b13f1acaa247d1405ef37bc738", func := "refectory/refectorylaw03.ShaSteps", spec := "shaSteps", named := ["refectory/sha.constants"], apart := false, laid := [("refectory/sha.constants", laid_refectory_sha_constants)] }
def ShaStepsSaid : Prop := shaStepsRow.holds Tryd.pinned (OpenSpec.ofChange shaStepsSpec)

/-- ITS FALSE NEIGHBOUR: 'it returns false'. Refute it at one input. -/
def shaStepsWrong : ChangeSpec := { name := "shaSteps", fn := fun _ => fun
  | [d] => { results := [.lit (.bool false)], args := [d] }
  | _ => none }
def ShaStepsWrongFalsely : Prop := shaStepsRow.holds Tryd.pinned (OpenSpec.ofChange shaStepsWrong)

/-- 'refectorylaw03.ShaFresh': WHATEVER THE INPUT: true; the input reads as it did. -/
def shaFreshSpec : ChangeSpec := { name := "shaFresh", fn := fun _ => fun
  | [d1, d2] => { results := [.lit (.bool true)], args := [d1, d2] }
  | _ => none }
def shaFreshRow : OpenClaim := { program := "ytcbeacpikgilnaadoor", sum := "fe8a4ad359a389142da91550468927ee978f05b13f1acaa247d1405ef37bc738", func := "refectory/refectorylaw03.ShaFresh", spec := "shaFresh", named := ["refectory/sha.constants"], apart := false, laid := [("refectory/sha.constants", laid_refectory_sha_constants)] }
def ShaFreshSaid : Prop := shaFreshRow.holds Tryd.pinned (OpenSpec.ofChange shaFreshSpec)

/-- ITS FALSE NEIGHBOUR: 'it returns false'. Refute it at one input. -/
def shaFreshWrong : ChangeSpec := { name := "shaFresh", fn := fun _ => fun
  | [d1, d2] => { results := [.lit (.bool false)], args := [d1, d2] }
  | _ => none }
def ShaFreshWrongFalsely : Prop := shaFreshRow.holds Tryd.pinned (OpenSpec.ofChange shaFreshWrong)

/-- 'refectorylaw04.MacSigns': WHATEVER THE INPUT: true; the input reads as it did. -/
def macSignsSpec : ChangeSpec := { name := "macSigns", fn := fun _ => fun
  | [d1, d2] => { results := [.lit (.bool true)], args := [d1, d2] }
  | _ => none }
def macSignsRow : OpenClaim := { program := "ytcbeacpikgilnaadoor", sum := "fe8a4ad359a389142da91550468927ee978f05b13f1acaa247d1405ef37bc738", func := "refectory/refectorylaw04.MacSigns", spec := "macSigns", named := ["refectory/sha.constants"], apart := false, laid := [("refectory/sha.constants", laid_refectory_sha_constants)] }
def MacSignsSaid : Prop := macSignsRow.holds Tryd.pinned (OpenSpec.ofChange macSignsSpec)

/-- ITS FALSE NEIGHBOUR: 'it returns false'. Refute it at one input. -/
def macSignsWrong : ChangeSpec := { name := "macSigns", fn := fun _ => fun
  | [d1, d2] => { results := [.lit (.bool false)], args := [d1, d2] }
  | _ => none }
def MacSignsWrongFalsely : Prop := macSignsRow.holds Tryd.pinned (OpenSpec.ofChange macSignsWrong)

/-- 'refectorylaw04.MacBack': WHATEVER THE INPUT: true; the input reads as it did. -/
def macBackSpec : ChangeSpec := { name := "macBack", fn := fun _ => fun
  | [d1, d2] => { results := [.lit (.bool true)], args := [d1, d2] }
  | _ => none }
def macBackRow : OpenClaim := { program := "ytcbeacpikgilnaadoor", sum := "fe8a4ad359a389142da91550468927ee978f05b13f1acaa247d1405ef37bc738", func := "refectory/refectorylaw04.MacBack", spec := "macBack", named := ["refectory/sha.constants"], apart := false, laid := [("refectory/sha.constants", laid_refectory_sha_constants)] }
def MacBackSaid : Prop := macBackRow.holds Tryd.pinned (OpenSpec.ofChange macBackSpec)

/-- ITS FALSE NEIGHBOUR: 'it returns false'. Refute it at one input. -/
def macBackWrong : ChangeSpec := { name := "macBack", fn := fun _ => fun
  | [d1, d2] => { results := [.lit (.bool false)], args := [d1, d2] }
  | _ => none }
def MacBackWrongFalsely : Prop := macBackRow.holds Tryd.pinned (OpenSpec.ofChange macBackWrong)

/-- 'refectorylaw04.MacOne': WHATEVER THE INPUT: true; the input reads as it did. -/
def macOneSpec : ChangeSpec := { name := "macOne", fn := fun _ => fun
  | [d1, d2, d3, d4] => { results := [.lit (.bool true)], args := [d1, d2, d3, d4] }
  | _ => none }
def macOneRow : OpenClaim := { program := "ytcbeacpikgilnaadoor", sum := "fe8a4ad359a389142da91550468927ee978f05b13f1acaa247d1405ef37bc738", func := "refectory/refectorylaw04.MacOne", spec := "macOne", named := ["refectory/sha.constants"], apart := false, laid := [("refectory/sha.constants", laid_refectory_sha_constants)] }
def MacOneSaid : Prop := macOneRow.holds Tryd.pinned (OpenSpec.ofChange macOneSpec)

/-- ITS FALSE NEIGHBOUR: 'it returns false'. Refute it at one input. -/
def macOneWrong : ChangeSpec := { name := "macOne", fn := fun _ => fun
  | [d1, d2, d3, d4] => { results := [.lit (.bool false)], args := [d1, d2, d3, d4] }
  | _ => none }
def MacOneWrongFalsely : Prop := macOneRow.holds Tryd.pinned (OpenSpec.ofChange macOneWrong)

/-- 'refectorylaw04.MacKeys': WHATEVER THE INPUT: true; the input reads as it did. -/
def macKeysSpec : ChangeSpec := { name := "macKeys", fn := fun _ => fun
  | [d1, d2, d3] => { results := [.lit (.bool true)], args := [d1, d2, d3] }
  | _ => none }
def macKeysRow : OpenClaim := { program := "ytcbeacpikgilnaadoor", sum := "fe8a4ad359a389142da91550468927ee978f05b13f1acaa247d1405ef37bc738", func := "refectory/refectorylaw04.MacKeys", spec := "macKeys", named := ["refectory/sha.constants"], apart := false, laid := [("refectory/sha.constants", laid_refectory_sha_constants)] }
def MacKeysSaid : Prop := macKeysRow.holds Tryd.pinned (OpenSpec.ofChange macKeysSpec)

/-- ITS FALSE NEIGHBOUR: 'it returns false'. Refute it at one input. -/
def macKeysWrong : ChangeSpec := { name := "macKeys", fn := fun _ => fun
  | [d1, d2, d3] => { results := [.lit (.bool false)], args := [d1, d2, d3] }
  | _ => none }
def MacKeysWrongFalsely : Prop := macKeysRow.holds Tryd.pinned (OpenSpec.ofChange macKeysWrong)

/-- 'refectorylaw04.MacFresh': WHATEVER THE INPUT: true; the input reads as it did. -/
def macFreshSpec : ChangeSpec := { name := "macFresh", fn := fun _ => fun
  | [d1, d2] => { results := [.lit (.bool true)], args := [d1, d2] }
  | _ => none }
def macFreshRow : OpenClaim := { program := "ytcbeacpikgilnaadoor", sum := "fe8a4ad359a389142da91550468927ee978f05b13f1acaa247d1405ef37bc738", func := "refectory/refectorylaw04.MacFresh", spec := "macFresh", named := ["refectory/sha.constants"], apart := false, laid := [("refectory/sha.constants", laid_refectory_sha_constants)] }
def MacFreshSaid : Prop := macFreshRow.holds Tryd.pinned (OpenSpec.ofChange macFreshSpec)

/-- ITS FALSE NEIGHBOUR: 'it returns false'. Refute it at one input. -/
def macFreshWrong : ChangeSpec := { name := "macFresh", fn := fun _ => fun
  | [d1, d2] => { results := [.lit (.bool false)], args := [d1, d2] }
  | _ => none }
def MacFreshWrongFalsely : Prop := macFreshRow.holds Tryd.pinned (OpenSpec.ofChange macFreshWrong)

/-- 'refectorylaw04.MacSums': WHATEVER THE INPUT: true; the input reads as it did. -/
def macSumsSpec : ChangeSpec := { name := "macSums", fn := fun _ => fun
  | [d1, d2, d3, d4, d5, d6] => { results := [.lit (.bool true)], args := [d1, d2, d3, d4, d5, d6] }
  | _ => none }
def macSumsRow : OpenClaim := { program := "ytcbeacpikgilnaadoor", sum := "fe8a4ad359a389142da91550468927ee978f05b13f1acaa247d1405ef37bc738", func := "refectory/refectorylaw04.MacSums", spec := "macSums", named := ["refectory/sha.constants"], apart := false, laid := [("refectory/sha.constants", laid_refectory_sha_constants)] }
def MacSumsSaid : Prop := macSumsRow.holds Tryd.pinned (OpenSpec.ofChange macSumsSpec)

/-- ITS FALSE NEIGHBOUR: 'it returns false'. Refute it at one input. -/
def macSumsWrong : ChangeSpec := { name := "macSums", fn := fun _ => fun
  | [d1, d2, d3, d4, d5, d6] => { results := [.lit (.bool false)], args := [d1, d2, d3, d4, d5, d6] }
  | _ => none }
def MacSumsWrongFalsely : Prop := macSumsRow.holds Tryd.pinned (OpenSpec.ofChange macSumsWrong)

/-- 'refectorylaw04.MacProof': WHATEVER THE INPUT: true; the input reads as it did. -/
def macProofSpec : ChangeSpec := { name := "macProof", fn := fun _ => fun
  | [d1, d2, d3] => { results := [.lit (.bool true)], args := [d1, d2, d3] }
  | _ => none }
def macProofRow : OpenClaim := { program := "ytcbeacpikgilnaadoor", sum := "fe8a4ad359a389142da91550468927ee978f05b13f1acaa247d1405ef37bc738", func := "refectory/refectorylaw04.MacProof", spec := "macProof", named := ["refectory/sha.constants"], apart := false, laid := [("refectory/sha.constants", laid_refectory_sha_constants)] }
def MacProofSaid : Prop := macProofRow.holds Tryd.pinned (OpenSpec.ofChange macProofSpec)

/-- ITS FALSE NEIGHBOUR: 'it returns false'. Refute it at one input. -/
def macProofWrong : ChangeSpec := { name := "macProof", fn := fun _ => fun
  | [d1, d2, d3] => { results := [.lit (.bool false)], args := [d1, d2, d3] }
  | _ => none }
def MacProofWrongFalsely : Prop := macProofRow.holds Tryd.pinned (OpenSpec.ofChange macProofWrong)

/- THE SECOND FORM. 'bulk': how many values and letters a reading holds, each counted each time it is reached (what is shared counts as often as it is met; a slice's spare places count too). A statement '..UptoSaid' is the law's where the arguments, and the package variables that the reading takes, are together of bulk at most 1048576: NARROWER than '..Said'. Prove '..Said' where nothing that the law and all that it calls make is longer than what came in: it says more and counts as full. Else prove '..UptoSaid'. A law counts once. -/
mutual
def uptoBulk {H : Type} : DataW H → Nat
  | .lit (.string bytes) => bytes.length + 1
  | .lit _ => 1
  | .nil => 1
  | .ptr d => uptoBulk d + 1
  | .slice elems spare => uptoBulkAll elems + uptoBulkAll spare + 1
  | .agg parts => uptoBulkAll parts + 1
  | .iface _ d => uptoBulk d + 1
  | .map entries => uptoBulkEntries entries + 1
  | .held _ => 1
def uptoBulkAll {H : Type} : List (DataW H) → Nat
  | [] => 0
  | d :: r => uptoBulk d + uptoBulkAll r
def uptoBulkEntries {H : Type} : List (Lit × DataW H) → Nat
  | [] => 0
  | x :: r => uptoBulkEntry x + uptoBulkEntries r
def uptoBulkEntry {H : Type} : Lit × DataW H → Nat
  | (.string bytes, d) => bytes.length + uptoBulk d + 1
  | (_, d) => uptoBulk d + 1
 end
def uptoSmall : (H : Type) → List (DataW H) → Bool := fun _ ds => decide (uptoBulkAll ds ≤ 1048576)
def OpenSpec.upto (s : _root_.Go.ChangeSpec) : _root_.Go.OpenSpec := { _root_.Go.OpenSpec.ofChange s with cond := some uptoSmall }

/-- 'refectorylaw03.ShaPresses', WHERE WHAT IT READS IS OF BULK AT MOST 1048576: true; the input reads as it did. -/
def shaPressesUptoRow : OpenClaim := { program := "ytcbeacpikgilnaadoor", sum := "fe8a4ad359a389142da91550468927ee978f05b13f1acaa247d1405ef37bc738", func := "refectory/refectorylaw03.ShaPresses", spec := "shaPresses", named := ["refectory/sha.constants"], apart := false, laid := [("refectory/sha.constants", laid_refectory_sha_constants)], narrowed := true }
def ShaPressesUptoSaid : Prop := shaPressesUptoRow.holds Tryd.pinned (OpenSpec.upto shaPressesSpec)

/-- 'refectorylaw03.ShaBehind', WHERE WHAT IT READS IS OF BULK AT MOST 1048576: true; the input reads as it did. -/
def shaBehindUptoRow : OpenClaim := { program := "ytcbeacpikgilnaadoor", sum := "fe8a4ad359a389142da91550468927ee978f05b13f1acaa247d1405ef37bc738", func := "refectory/refectorylaw03.ShaBehind", spec := "shaBehind", named := ["refectory/sha.constants"], apart := false, laid := [("refectory/sha.constants", laid_refectory_sha_constants)], narrowed := true }
def ShaBehindUptoSaid : Prop := shaBehindUptoRow.holds Tryd.pinned (OpenSpec.upto shaBehindSpec)

/-- 'refectorylaw03.ShaSums', WHERE WHAT IT READS IS OF BULK AT MOST 1048576: true; the input reads as it did. -/
def shaSumsUptoRow : OpenClaim := { program := "ytcbeacpikgilnaadoor", sum := "fe8a4ad359a389142da91550468927ee978f05b13f1acaa247d1405ef37bc738", func := "refectory/refectorylaw03.ShaSums", spec := "shaSums", named := ["refectory/sha.constants"], apart := false, laid := [("refectory/sha.constants", laid_refectory_sha_constants)], narrowed := true }
def ShaSumsUptoSaid : Prop := shaSumsUptoRow.holds Tryd.pinned (OpenSpec.upto shaSumsSpec)

/-- 'refectorylaw03.ShaSteps', WHERE WHAT IT READS IS OF BULK AT MOST 1048576: true; the input reads as it did. -/
def shaStepsUptoRow : OpenClaim := { program := "ytcbeacpikgilnaadoor", sum := "fe8a4ad359a389142da91550468927ee978f05b13f1acaa247d1405ef37bc738", func := "refectory/refectorylaw03.ShaSteps", spec := "shaSteps", named := ["refectory/sha.constants"], apart := false, laid := [("refectory/sha.constants", laid_refectory_sha_constants)], narrowed := true }
def ShaStepsUptoSaid : Prop := shaStepsUptoRow.holds Tryd.pinned (OpenSpec.upto shaStepsSpec)

/-- 'refectorylaw03.ShaFresh', WHERE WHAT IT READS IS OF BULK AT MOST 1048576: true; the input reads as it did. -/
def shaFreshUptoRow : OpenClaim := { program := "ytcbeacpikgilnaadoor", sum := "fe8a4ad359a389142da91550468927ee978f05b13f1acaa247d1405ef37bc738", func := "refectory/refectorylaw03.ShaFresh", spec := "shaFresh", named := ["refectory/sha.constants"], apart := false, laid := [("refectory/sha.constants", laid_refectory_sha_constants)], narrowed := true }
def ShaFreshUptoSaid : Prop := shaFreshUptoRow.holds Tryd.pinned (OpenSpec.upto shaFreshSpec)

/-- 'refectorylaw04.MacSigns', WHERE WHAT IT READS IS OF BULK AT MOST 1048576: true; the input reads as it did. -/
def macSignsUptoRow : OpenClaim := { program := "ytcbeacpikgilnaadoor", sum := "fe8a4ad359a389142da91550468927ee978f05b13f1acaa247d1405ef37bc738", func := "refectory/refectorylaw04.MacSigns", spec := "macSigns", named := ["refectory/sha.constants"], apart := false, laid := [("refectory/sha.constants", laid_refectory_sha_constants)], narrowed := true }
def MacSignsUptoSaid : Prop := macSignsUptoRow.holds Tryd.pinned (OpenSpec.upto macSignsSpec)

/-- 'refectorylaw04.MacBack', WHERE WHAT IT READS IS OF BULK AT MOST 1048576: true; the input reads as it did. -/
def macBackUptoRow : OpenClaim := { program := "ytcbeacpikgilnaadoor", sum := "fe8a4ad359a389142da91550468927ee978f05b13f1acaa247d1405ef37bc738", func := "refectory/refectorylaw04.MacBack", spec := "macBack", named := ["refectory/sha.constants"], apart := false, laid := [("refectory/sha.constants", laid_refectory_sha_constants)], narrowed := true }
def MacBackUptoSaid : Prop := macBackUptoRow.holds Tryd.pinned (OpenSpec.upto macBackSpec)

/-- 'refectorylaw04.MacOne', WHERE WHAT IT READS IS OF BULK AT MOST 1048576: true; the input reads as it did. -/
def macOneUptoRow : OpenClaim := { program := "ytcbeacpikgilnaadoor", sum := "fe8a4ad359a389142da91550468927ee978f05b13f1acaa247d1405ef37bc738", func := "refectory/refectorylaw04.MacOne", spec := "macOne", named := ["refectory/sha.constants"], apart := false, laid := [("refectory/sha.constants", laid_refectory_sha_constants)], narrowed := true }
def MacOneUptoSaid : Prop := macOneUptoRow.holds Tryd.pinned (OpenSpec.upto macOneSpec)

/-- 'refectorylaw04.MacKeys', WHERE WHAT IT READS IS OF BULK AT MOST 1048576: true; the input reads as it did. -/
def macKeysUptoRow : OpenClaim := { program := "ytcbeacpikgilnaadoor", sum := "fe8a4ad359a389142da91550468927ee978f05b13f1acaa247d1405ef37bc738", func := "refectory/refectorylaw04.MacKeys", spec := "macKeys", named := ["refectory/sha.constants"], apart := false, laid := [("refectory/sha.constants", laid_refectory_sha_constants)], narrowed := true }
def MacKeysUptoSaid : Prop := macKeysUptoRow.holds Tryd.pinned (OpenSpec.upto macKeysSpec)

/-- 'refectorylaw04.MacFresh', WHERE WHAT IT READS IS OF BULK AT MOST 1048576: true; the input reads as it did. -/
def macFreshUptoRow : OpenClaim := { program := "ytcbeacpikgilnaadoor", sum := "fe8a4ad359a389142da91550468927ee978f05b13f1acaa247d1405ef37bc738", func := "refectory/refectorylaw04.MacFresh", spec := "macFresh", named := ["refectory/sha.constants"], apart := false, laid := [("refectory/sha.constants", laid_refectory_sha_constants)], narrowed := true }
def MacFreshUptoSaid : Prop := macFreshUptoRow.holds Tryd.pinned (OpenSpec.upto macFreshSpec)

/-- 'refectorylaw04.MacSums', WHERE WHAT IT READS IS OF BULK AT MOST 1048576: true; the input reads as it did. -/
def macSumsUptoRow : OpenClaim := { program := "ytcbeacpikgilnaadoor", sum := "fe8a4ad359a389142da91550468927ee978f05b13f1acaa247d1405ef37bc738", func := "refectory/refectorylaw04.MacSums", spec := "macSums", named := ["refectory/sha.constants"], apart := false, laid := [("refectory/sha.constants", laid_refectory_sha_constants)], narrowed := true }
def MacSumsUptoSaid : Prop := macSumsUptoRow.holds Tryd.pinned (OpenSpec.upto macSumsSpec)

/-- 'refectorylaw04.MacProof', WHERE WHAT IT READS IS OF BULK AT MOST 1048576: true; the input reads as it did. -/
def macProofUptoRow : OpenClaim := { program := "ytcbeacpikgilnaadoor", sum := "fe8a4ad359a389142da91550468927ee978f05b13f1acaa247d1405ef37bc738", func := "refectory/refectorylaw04.MacProof", spec := "macProof", named := ["refectory/sha.constants"], apart := false, laid := [("refectory/sha.constants", laid_refectory_sha_constants)], narrowed := true }
def MacProofUptoSaid : Prop := macProofUptoRow.holds Tryd.pinned (OpenSpec.upto macProofSpec)

end Rows
end Go.Proofs.YtcbeacpikgilnaaDoor
