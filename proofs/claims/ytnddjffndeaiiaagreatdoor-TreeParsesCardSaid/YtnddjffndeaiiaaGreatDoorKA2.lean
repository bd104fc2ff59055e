/- The statement TreeParses holds at every input: what the row tells of the code. No conditions. -/
import Derived.Test.YtnddjffndeaiiaaGreatDoorLB
set_option linter.unusedVariables false
set_option linter.unusedSimpArgs false
set_option maxRecDepth 100000
set_option maxHeartbeats 4000000
namespace Go.Proofs.YtnddjffndeaiiaaGreatDoor
open Go.Vs Go.Vs.YtnddjffndeaiiaaGreatDoor Go.RowKit Go.ChangeShapes Go.WideShapes
theorem As:(Rows.treeParsesRow.unfollowed==Tryz.pinned.checked.prog.unfollowed 3)=true:=by kernel_rfl
theorem At:(Rows.treeParsesRow.recurses==Tryz.pinned.checked.prog.recurses 3)=true:=by kernel_rfl
theorem Au:(Rows.treeParsesRow.named==Tryz.pinned.checked.prog.varsNamed 3)=true:=by kernel_rfl
end Go.Proofs.YtnddjffndeaiiaaGreatDoor
