/- Plain mathematics of rules of recurrence: their texts' lengths and signs; texts whose parts stand in another order. No conditions. -/
import Derived.Test.YtbchceojmblkkaaGreatDoorRB
set_option linter.unusedVariables false
set_option linter.unusedSimpArgs false
namespace Go.Vs.YtbchceojmblkkaaGreatDoor.Rc
set_option linter.unusedSimpArgs false
set_option linter.unusedVariables false
open Go.Proofs Go.Vs.U8 Go.Vs.Pa Go.Vs.Nu Go.Lib Go.Vs.Mo
end Go.Vs.YtbchceojmblkkaaGreatDoor.Rc
namespace Go.Vs.YtbchceojmblkkaaGreatDoor.Rc
set_option linter.unusedSimpArgs false
set_option linter.unusedVariables false
open Go.Proofs Go.Vs.U8 Go.Vs.Pa Go.Vs.Nu Go.Lib Go.Vs.Mo
end Go.Vs.YtbchceojmblkkaaGreatDoor.Rc
