/- The statement TreeBack holds at every input: what the row tells of the code. No conditions. -/
import Derived.Test.YtmaenhgipojmfaaGreatDoorLB
set_option linter.unusedVariables false
set_option linter.unusedSimpArgs false
set_option maxRecDepth 100000
set_option maxHeartbeats 4000000
namespace Go.Proofs.YtmaenhgipojmfaaGreatDoor
open Go.Vs Go.Vs.YtmaenhgipojmfaaGreatDoor Go.RowKit Go.ChangeShapes Go.WideShapes
theorem EX:(Rows.treeBackRow.unfollowed==Tryz.pinned.checked.prog.unfollowed 5)=true:=by kernel_rfl
theorem EY:(Rows.treeBackRow.recurses==Tryz.pinned.checked.prog.recurses 5)=true:=by kernel_rfl
theorem EZ:(Rows.treeBackRow.named==Tryz.pinned.checked.prog.varsNamed 5)=true:=by kernel_rfl
end Go.Proofs.YtmaenhgipojmfaaGreatDoor
