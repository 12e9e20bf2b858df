/- GetAsk, GetSay: what has no bytes is nil; Spoil. -/
import Derived.Test.YtakgefinmlomdaaDoorUZ
set_option linter.unusedVariables false
set_option linter.unusedSimpArgs false
set_option maxRecDepth 100000
namespace Go.Proofs.YtakgefinmlomdaaDoor.Abs
open Go Go.Proofs

def Ask.svN (a : Ask) : SV := .agg [.view true (.ints .u16 a.dialects), .arr .u8 16 a.guid, .arr .u8 32 a.proof, .str a.user, .str a.share, .int .u32 a.access, .int .u32 a.sharing, .int .u32 a.way, .int .u32 a.options, .int .u8 a.level, .int .u8 a.durable, .int .u64 a.file, .str a.name, .int .u64 a.at_, .int .u32 a.n, .nil, .nil, .int .u16 a.most, .str a.pattern, .str a.after, .int .u16 a.cls, .int .u64 a.size, .bool a.on]
def Say.svN (s : Say) : SV := .agg [.int .u16 s.dialect, .int .u64 s.size, .arr .u8 8 s.challenge, .int .u8 s.level, .int .u8 s.durable, .int .u16 s.made, .int .u64 s.file, .int .u8 s.kind, .nil, .int .u32 s.n, .nil, .bool s.more, .bool s.gone]

section
variable {P : Program} {X : Ctx} {T : Tab} {s : St}
end

end Go.Proofs.YtakgefinmlomdaaDoor.Abs
