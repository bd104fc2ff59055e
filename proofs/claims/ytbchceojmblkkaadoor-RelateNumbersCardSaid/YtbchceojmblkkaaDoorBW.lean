/- The walk of param, part 15: parameters read. No conditions. -/
import Derived.Test.YtbchceojmblkkaaDoorBO
set_option linter.unusedVariables false
set_option linter.unusedSimpArgs false
namespace Go.Vs.YtbchceojmblkkaaDoor
set_option linter.unusedSimpArgs false
set_option linter.unusedVariables false
open Go.Proofs Go.Vs.U8 Go.Vs.Pa
set_option maxRecDepth 100000
set_option maxHeartbeats 8000000
theorem ps_snoc (l : List Pm) (p : Pm) : ps (l ++ [p]) = ps l ++ [[.str p.n, .slice (ts p.v)]] := by simp [ps]
end Go.Vs.YtbchceojmblkkaaDoor
