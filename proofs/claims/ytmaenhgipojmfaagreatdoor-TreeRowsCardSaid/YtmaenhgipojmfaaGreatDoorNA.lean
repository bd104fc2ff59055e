/- Sets of signs, as the program keeps them: rows of booleans. No conditions. -/
import Derived.Test.YtmaenhgipojmfaaGreatDoorBD
import Derived.Test.YtmaenhgipojmfaaGreatDoorBH
import Derived.Lib.ItoaNum
set_option linter.unusedVariables false
set_option linter.unusedSimpArgs false
namespace Go.Vs.Nu
end Go.Vs.Nu
set_option linter.unusedVariables false
set_option linter.unusedSimpArgs false
namespace Go.Vs
open Go.Vs.Nu
def zv (i:Nat):List IV:=(List.range 256).map fun j=>.bool (decide (48≤j∧j < 48+i))
def zs (i:Nat):List SV:=(zv i).map .val
def NQ:List SV:=List.replicate 256 (.val (.bool false))
end Go.Vs
