/- The walk of the statements' own helpers: sizes. No conditions. -/
import Derived.Test.YtbchceojmblkkaaDoorBQ
import Derived.Test.YtbchceojmblkkaaDoorBW
set_option linter.unusedVariables false
set_option linter.unusedSimpArgs false
namespace Go.Vs.YtbchceojmblkkaaDoor
set_option linter.unusedSimpArgs false
set_option linter.unusedVariables false
open Go.Proofs Go.Vs.U8 Go.Vs.Pa
set_option maxRecDepth 100000
set_option maxHeartbeats 8000000
end Go.Vs.YtbchceojmblkkaaDoor
namespace Go.Vs.YtbchceojmblkkaaDoor
set_option linter.unusedSimpArgs false
set_option linter.unusedVariables false
open Go.Proofs Go.Vs.U8 Go.Vs.Pa
set_option maxRecDepth 100000
set_option maxHeartbeats 8000000
theorem ps_take_succ {l : List Pm} {i : Nat} {p : Pm} (h : i < l.length) (hp : l[i] = p) : ps (l.take (i + 1)) = ps (l.take i) ++ [[.str p.n, .slice (ts p.v)]] := by
  rw [List.take_succ_eq_append_getElem h, hp, ps_snoc]
end Go.Vs.YtbchceojmblkkaaDoor
namespace Go.Vs.YtbchceojmblkkaaDoor
set_option linter.unusedSimpArgs false
set_option linter.unusedVariables false
open Go.Proofs Go.Vs.U8 Go.Vs.Pa
set_option maxRecDepth 100000
set_option maxHeartbeats 8000000
end Go.Vs.YtbchceojmblkkaaDoor
