/- Plain mathematics of lists of numbers and weekdays: how they are read and printed. No conditions. -/
import Derived.Test.YtbchceojmblkkaaDoorBM
import Derived.Test.YtbchceojmblkkaaDoorNA
import Derived.Test.YtbchceojmblkkaaDoorBE
set_option linter.unusedVariables false
set_option linter.unusedSimpArgs false
namespace Go.Vs.YtbchceojmblkkaaDoor
set_option linter.unusedSimpArgs false
set_option linter.unusedVariables false
open Go.Proofs Go.Vs.U8 Go.Vs.Pa Go.Vs.Nu Go.Lib
end Go.Vs.YtbchceojmblkkaaDoor
namespace Go.Vs.YtbchceojmblkkaaDoor
set_option linter.unusedSimpArgs false
set_option linter.unusedVariables false
open Go.Proofs Go.Vs.U8 Go.Vs.Pa Go.Vs.Nu Go.Lib
end Go.Vs.YtbchceojmblkkaaDoor
namespace Go.Vs.YtbchceojmblkkaaDoor
def k_strconv_Itoa : Nat := 19
end Go.Vs.YtbchceojmblkkaaDoor
