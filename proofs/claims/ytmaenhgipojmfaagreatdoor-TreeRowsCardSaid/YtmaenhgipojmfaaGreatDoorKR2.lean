/- The statement TreeRows holds at every input: what the row tells of the code. No conditions. -/
import Derived.Test.YtmaenhgipojmfaaGreatDoorLB
set_option linter.unusedVariables false
set_option linter.unusedSimpArgs false
set_option maxRecDepth 100000
set_option maxHeartbeats 4000000
namespace Go.Proofs.YtmaenhgipojmfaaGreatDoor
open Go.Vs Go.Vs.YtmaenhgipojmfaaGreatDoor Go.RowKit Go.ChangeShapes Go.WideShapes
theorem F1:(Rows.treeRowsRow.unfollowed==Tryz.pinned.checked.prog.unfollowed 7)=true:=by kernel_rfl
theorem F2:(Rows.treeRowsRow.recurses==Tryz.pinned.checked.prog.recurses 7)=true:=by kernel_rfl
theorem F3:(Rows.treeRowsRow.named==Tryz.pinned.checked.prog.varsNamed 7)=true:=by kernel_rfl
end Go.Proofs.YtmaenhgipojmfaaGreatDoor
