/- The walk of param, part 14: one parameter read. No conditions. -/
import Derived.Test.YtbchceojmblkkaaDoorBV
import Derived.Test.YtbchceojmblkkaaDoorBQ
set_option linter.unusedVariables false
set_option linter.unusedSimpArgs false
namespace Go.Vs.YtbchceojmblkkaaDoor
set_option linter.unusedSimpArgs false
set_option linter.unusedVariables false
open Go.Proofs Go.Vs.U8 Go.Vs.Pa
set_option maxRecDepth 100000
set_option maxHeartbeats 8000000
end Go.Vs.YtbchceojmblkkaaDoor
