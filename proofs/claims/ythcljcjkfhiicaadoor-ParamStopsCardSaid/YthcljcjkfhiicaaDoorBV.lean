/- The walk of param, part 13: one value read by the document's answer. No conditions. -/
import Derived.Test.YthcljcjkfhiicaaDoorBN
set_option linter.unusedVariables false
set_option linter.unusedSimpArgs false
namespace Go.Vs.YthcljcjkfhiicaaDoor
set_option linter.unusedSimpArgs false
set_option linter.unusedVariables false
open Go.Proofs Go.Vs.U8 Go.Vs.Pa
set_option maxRecDepth 100000
set_option maxHeartbeats 8000000
def valueJ : Got → IV
  | .no e p => .tuple [.str [], .int .i64 p, .int .i64 e]
  | .ok v n => .tuple [.str v, .int .i64 n, .int .i64 0]
end Go.Vs.YthcljcjkfhiicaaDoor
