/- The walk of the document's nums, part 2: lists that are read, numbers' text. No conditions. -/
import Derived.Test.YtbchceojmblkkaaGreatDoorNG
set_option linter.unusedVariables false
set_option linter.unusedSimpArgs false
namespace Go.Vs.YtbchceojmblkkaaGreatDoor
set_option linter.unusedSimpArgs false
set_option linter.unusedVariables false
open Go.Proofs Go.Vs.U8 Go.Vs.Pa Go.Vs.Nu Go.Lib
set_option maxRecDepth 100000
set_option maxHeartbeats 8000000
end Go.Vs.YtbchceojmblkkaaGreatDoor
