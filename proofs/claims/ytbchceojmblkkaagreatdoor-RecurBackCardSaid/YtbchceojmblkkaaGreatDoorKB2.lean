/- The statement RecurBack holds at every input: what the row tells of the code. No conditions. -/
import Derived.Test.YtbchceojmblkkaaGreatDoorRW
set_option linter.unusedVariables false
set_option linter.unusedSimpArgs false
namespace Go.Vs.YtbchceojmblkkaaGreatDoor
end Go.Vs.YtbchceojmblkkaaGreatDoor
set_option linter.unusedSimpArgs false
set_option linter.unusedVariables false
set_option maxRecDepth 100000
set_option maxHeartbeats 4000000
namespace Go.Proofs.YtbchceojmblkkaaGreatDoor
open Go.Vs Go.Vs.YtbchceojmblkkaaGreatDoor Go.RowKit Go.ChangeShapes Go.WideShapes
theorem recurBack_f2 : (Rows.recurBackRow.unfollowed == Tryz.pinned.checked.prog.unfollowed 10) = true := by kernel_rfl
theorem recurBack_f3 : (Rows.recurBackRow.recurses == Tryz.pinned.checked.prog.recurses 10) = true := by kernel_rfl
theorem recurBack_f4 : (Rows.recurBackRow.named == Tryz.pinned.checked.prog.varsNamed 10) = true := by kernel_rfl
end Go.Proofs.YtbchceojmblkkaaGreatDoor
