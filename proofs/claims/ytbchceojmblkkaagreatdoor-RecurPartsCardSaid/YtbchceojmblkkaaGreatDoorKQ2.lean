/- The statement RecurParts holds at every input: what the row tells of the code. No conditions. -/
import Derived.Test.YtbchceojmblkkaaGreatDoorRW
set_option linter.unusedVariables false
set_option linter.unusedSimpArgs false
namespace Go.Vs.YtbchceojmblkkaaGreatDoor
end Go.Vs.YtbchceojmblkkaaGreatDoor
set_option linter.unusedSimpArgs false
set_option linter.unusedVariables false
set_option maxRecDepth 100000
set_option maxHeartbeats 4000000
namespace Go.Proofs.YtbchceojmblkkaaGreatDoor
open Go.Vs Go.Vs.YtbchceojmblkkaaGreatDoor Go.RowKit Go.ChangeShapes Go.WideShapes
theorem recurParts_f2 : (Rows.recurPartsRow.unfollowed == Tryz.pinned.checked.prog.unfollowed 11) = true := by kernel_rfl
theorem recurParts_f3 : (Rows.recurPartsRow.recurses == Tryz.pinned.checked.prog.recurses 11) = true := by kernel_rfl
theorem recurParts_f4 : (Rows.recurPartsRow.named == Tryz.pinned.checked.prog.varsNamed 11) = true := by kernel_rfl
end Go.Proofs.YtbchceojmblkkaaGreatDoor
