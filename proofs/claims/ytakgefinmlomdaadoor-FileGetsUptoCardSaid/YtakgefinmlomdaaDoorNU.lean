/- What the document's GetAsk and GetSay of file answer, told as all others. -/
import Derived.Test.YtakgefinmlomdaaDoorNE
import Derived.Test.YtakgefinmlomdaaDoorNG
set_option linter.unusedVariables false
set_option linter.unusedSimpArgs false
set_option maxRecDepth 100000
namespace Go.Proofs.YtakgefinmlomdaaDoor.Abs
open Go Go.Proofs

theorem rGetAsk92_meets (c : Int) (b : List Int) (hc : 0 ≤ c) (hb : b.length ≤ 274877906944) (hB : Bytes b) : Meets Tryd.prog 19 [.v (.int .u16 c), .v (.view false (.ints .u8 b))] [.v ((fgA c b).sv true), .v (.int .i64 (fgE c b))] :=
  Meets.askL (fgA_dialects c b) (rGetAsk9_meets c b hc hb hB)
theorem rGetSay92_meets (c : Int) (b : List Int) (hc : 0 ≤ c) (hb : b.length ≤ 274877906944) (hB : Bytes b) : Meets Tryd.prog 21 [.v (.int .u16 c), .v (.view false (.ints .u8 b))] [.v ((ftS c b).sv true), .v (.int .i64 (ftE c b))] :=
  Meets.sayL (ftS_entries c b) (rGetSay9_meets c b hc hb hB)

end Go.Proofs.YtakgefinmlomdaaDoor.Abs
