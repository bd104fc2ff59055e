/- The walk of line, part 1: lines compared, copied, found. No conditions. -/
import Derived.Test.YtbchceojmblkkaaGreatDoorBM
import Derived.Test.YtbchceojmblkkaaGreatDoorBW
import Derived.Test.YtbchceojmblkkaaGreatDoorRows
import Derived.KernelRfl
set_option linter.unusedVariables false
set_option linter.unusedSimpArgs false
namespace Go.Vs.U8
end Go.Vs.U8
namespace Go.Vs.Pa
end Go.Vs.Pa
namespace Go.Vs.YtbchceojmblkkaaGreatDoor
set_option linter.unusedSimpArgs false
set_option linter.unusedVariables false
open Go.Proofs Go.Vs.U8 Go.Vs.Pa
set_option maxRecDepth 100000
set_option maxHeartbeats 8000000
structure Ln where
 n : Str
 p : List Pm
 v : Str
 deriving DecidableEq
def Ln.iv (x : Ln) : IV := .agg [.str x.n, .slice (ps x.p), .str x.v]
end Go.Vs.YtbchceojmblkkaaGreatDoor
