/- The walk of param, part 13: one value read by the document's answer. No conditions. -/
import Derived.Test.YtbchceojmblkkaaGreatDoorBN
set_option linter.unusedVariables false
set_option linter.unusedSimpArgs false
namespace Go.Vs.YtbchceojmblkkaaGreatDoor
set_option linter.unusedSimpArgs false
set_option linter.unusedVariables false
open Go.Proofs Go.Vs.U8 Go.Vs.Pa
set_option maxRecDepth 100000
set_option maxHeartbeats 8000000
end Go.Vs.YtbchceojmblkkaaGreatDoor
