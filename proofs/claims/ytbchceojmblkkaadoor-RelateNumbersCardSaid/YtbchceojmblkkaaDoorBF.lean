/- errors.As at the targets **Fault and *Errno: the walks, at chains of whatever depth. No conditions. -/
import Derived.Test.YtbchceojmblkkaaDoorBE
import Derived.LoopTactic
import Derived.Lib.Hide
set_option linter.unusedVariables false
set_option linter.unusedSimpArgs false
set_option linter.unusedSimpArgs false
set_option linter.unusedVariables false
namespace Go.Vs.YtbchceojmblkkaaDoor.E
open Go.Proofs Go.Proofs.YtbchceojmblkkaaDoor Go.RowKit Go.Extern.Stop Go.Stop Go.Extern
set_option maxRecDepth 1000000
set_option pp.deepTerms true

end Go.Vs.YtbchceojmblkkaaDoor.E
