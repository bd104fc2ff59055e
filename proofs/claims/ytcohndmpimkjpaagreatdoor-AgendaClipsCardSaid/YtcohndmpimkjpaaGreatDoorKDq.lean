/- The statement AgendaClips holds at every input: what the row tells of the code. No conditions. -/
import Derived.Test.YtcohndmpimkjpaaGreatDoorLAq
set_option linter.unusedVariables false
set_option linter.unusedSimpArgs false
set_option linter.unusedSimpArgs false
set_option linter.unusedVariables false
set_option maxRecDepth 100000
set_option maxHeartbeats 4000000
namespace Go.Proofs.YtcohndmpimkjpaaGreatDoor
open Go.Vs Go.Vs.YtcohndmpimkjpaaGreatDoor Go.RowKit Go.ChangeShapes Go.WideShapes
theorem agendaClips_f2 : (Rows.agendaClipsRow.unfollowed == Tryz.pinned.checked.prog.unfollowed 3) = true := by kernel_rfl
theorem agendaClips_f3 : (Rows.agendaClipsRow.recurses == Tryz.pinned.checked.prog.recurses 3) = true := by kernel_rfl
theorem agendaClips_f4 : (Rows.agendaClipsRow.named == Tryz.pinned.checked.prog.varsNamed 3) = true := by kernel_rfl
end Go.Proofs.YtcohndmpimkjpaaGreatDoor
set_option linter.unusedSimpArgs false
set_option linter.unusedVariables false
set_option maxRecDepth 100000
set_option maxHeartbeats 4000000
namespace Go.Proofs.YtcohndmpimkjpaaGreatDoor
open Go.Vs Go.Vs.YtcohndmpimkjpaaGreatDoor Go.RowKit Go.ChangeShapes Go.WideShapes
theorem agendaClips_h1 : Rows.agendaClipsRow.wfByText (OpenSpec.ofChange Rows.agendaClipsSpec) = true := by kernel_rfl
theorem agendaClips_h2 : Tryz.pinned.checked.prog.mainIs = some (Rows.agendaClipsCard.stood.harness.1, Rows.agendaClipsCard.stood.harness.2.toList) := by kernel_rfl
theorem agendaClips_h5 : Tryz.prog.funcNamed "errand/errandlaw36.AgendaClips" = some 3 := by kernel_rfl
end Go.Proofs.YtcohndmpimkjpaaGreatDoor
set_option linter.unusedSimpArgs false
set_option linter.unusedVariables false
set_option maxRecDepth 100000
set_option maxHeartbeats 4000000
namespace Go.Proofs.YtcohndmpimkjpaaGreatDoor
open Go.Vs Go.Vs.YtcohndmpimkjpaaGreatDoor Go.RowKit Go.ChangeShapes Go.WideShapes
theorem agendaClips_h3 : Rows.agendaClipsCard.stood.looks = Tryz.pinned.checked.prog.looks [] := by kernel_rfl
end Go.Proofs.YtcohndmpimkjpaaGreatDoor
set_option linter.unusedSimpArgs false
set_option linter.unusedVariables false
set_option maxRecDepth 100000
set_option maxHeartbeats 4000000
namespace Go.Proofs.YtcohndmpimkjpaaGreatDoor
open Go.Vs Go.Vs.YtcohndmpimkjpaaGreatDoor Go.RowKit Go.ChangeShapes Go.WideShapes
theorem agendaClips_h4 : false = Rows.agendaClipsRow.goesBy Tryz.pinned.checked.prog := by kernel_rfl
end Go.Proofs.YtcohndmpimkjpaaGreatDoor
