/- The statement RecurParses holds at every input: what the row tells of the code. No conditions. -/
import Derived.Test.YtbchceojmblkkaaGreatDoorRW
set_option linter.unusedVariables false
set_option linter.unusedSimpArgs false
namespace Go.Vs.YtbchceojmblkkaaGreatDoor
end Go.Vs.YtbchceojmblkkaaGreatDoor
set_option linter.unusedSimpArgs false
set_option linter.unusedVariables false
set_option maxRecDepth 100000
set_option maxHeartbeats 4000000
namespace Go.Proofs.YtbchceojmblkkaaGreatDoor
open Go.Vs Go.Vs.YtbchceojmblkkaaGreatDoor Go.RowKit Go.ChangeShapes Go.WideShapes
theorem recurParses_f2 : (Rows.recurParsesRow.unfollowed == Tryz.pinned.checked.prog.unfollowed 8) = true := by kernel_rfl
theorem recurParses_f3 : (Rows.recurParsesRow.recurses == Tryz.pinned.checked.prog.recurses 8) = true := by kernel_rfl
theorem recurParses_f4 : (Rows.recurParsesRow.named == Tryz.pinned.checked.prog.varsNamed 8) = true := by kernel_rfl
end Go.Proofs.YtbchceojmblkkaaGreatDoor
