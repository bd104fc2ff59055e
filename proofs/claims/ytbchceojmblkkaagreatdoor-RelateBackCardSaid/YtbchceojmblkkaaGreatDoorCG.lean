/- The walk of the statements LineParses and LineTells. No conditions. -/
import Derived.Test.YtbchceojmblkkaaGreatDoorCF
import Derived.Test.YtbchceojmblkkaaGreatDoorBT
import Derived.Test.YtbchceojmblkkaaGreatDoorBD
set_option linter.unusedVariables false
set_option linter.unusedSimpArgs false
namespace Go.Vs.YtbchceojmblkkaaGreatDoor
set_option linter.unusedSimpArgs false
set_option linter.unusedVariables false
open Go.Proofs Go.Vs.U8 Go.Vs.Pa
set_option maxRecDepth 100000
set_option maxHeartbeats 16000000
theorem fitL1 {a : Ln} (ha : FitX a) : FitL [a] := by
  intro x hx
  simp at hx
  subst hx
  exact ha
end Go.Vs.YtbchceojmblkkaaGreatDoor
