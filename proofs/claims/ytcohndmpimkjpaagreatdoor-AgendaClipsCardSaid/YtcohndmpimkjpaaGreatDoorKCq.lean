/- The statement AgendaClips holds at every input: more of what the row tells. No conditions. -/
import Derived.Test.YtcohndmpimkjpaaGreatDoorLAq
set_option linter.unusedVariables false
set_option linter.unusedSimpArgs false
set_option linter.unusedSimpArgs false
set_option linter.unusedVariables false
set_option maxRecDepth 100000
set_option maxHeartbeats 4000000
namespace Go.Proofs.YtcohndmpimkjpaaGreatDoor
open Go.Vs Go.Vs.YtcohndmpimkjpaaGreatDoor Go.RowKit Go.ChangeShapes Go.WideShapes
theorem agendaClips_g0 : Rows.agendaClipsRow.wf (OpenSpec.ofChange Rows.agendaClipsSpec) = true := by kernel_rfl
theorem agendaClips_g1 : laidOutB Tryz.pinned.checked.prog = true := by kernel_rfl
theorem agendaClips_g2 : mapsRowed Tryz.pinned.checked.prog = true := by kernel_rfl
theorem agendaClips_g3 : Tryz.f3.params.all (Tryz.pinned.checked.prog.readableRec ·) = true := by kernel_rfl
theorem agendaClips_g4 : namedTie Tryz.pinned.checked.prog Rows.agendaClipsRow.named Rows.agendaClipsSpec.vars = true := by kernel_rfl
theorem agendaClips_g5 : (Rows.agendaClipsRow.stops == []) = true := by kernel_rfl
theorem agendaClips_g6 : (Tryz.pinned.checked.prog.stops == []) = true := by kernel_rfl
theorem agendaClips_g7 : (Rows.agendaClipsRow.knobs == []) = true := by kernel_rfl
theorem agendaClips_g8 : (Tryz.pinned.checked.prog.stopKnobs == []) = true := by kernel_rfl
theorem agendaClips_g13 : (Rows.agendaClipsRow.maps == (Tryz.f3.params.toList ++ Rows.agendaClipsSpec.plain.varTypes Tryz.pinned.checked.prog).any (Tryz.pinned.checked.prog.mapsRec ·)) = true := by kernel_rfl
theorem agendaClips_g14 : (Rows.agendaClipsRow.ifaces == (Tryz.f3.params.toList ++ Rows.agendaClipsSpec.plain.varTypes Tryz.pinned.checked.prog).any (Tryz.pinned.checked.prog.ifacesRec ·)) = true := by kernel_rfl
theorem agendaClips_g15 : (Rows.agendaClipsRow.mapsOut == Tryz.pinned.checked.prog.mapsAmong Tryz.f3.resultTypes.toList) = true := by kernel_rfl
theorem agendaClips_g16 : (Rows.agendaClipsRow.loops == (Tryz.f3.params.toList ++ Rows.agendaClipsSpec.plain.varTypes Tryz.pinned.checked.prog).any (Tryz.pinned.checked.prog.loopsFrom ·)) = true := by kernel_rfl
theorem agendaClips_g17 : (Rows.agendaClipsRow.wideKeys == (Tryz.f3.params.toList ++ Rows.agendaClipsSpec.plain.varTypes Tryz.pinned.checked.prog ++ Tryz.f3.resultTypes.toList).any (Tryz.pinned.checked.prog.wideKeysFrom ·)) = true := by kernel_rfl
theorem agendaClips_g18 : Rows.agendaClipsSpec.vars.all (Tryz.pinned.checked.prog.varReadable ·) = true := by kernel_rfl
theorem agendaClips_g19 : Tryz.f3.resultTypes.all (fun t => Tryz.pinned.checked.prog.readableRec t && decide (t < Tryz.pinned.checked.prog.types.size)) = true := by kernel_rfl
theorem agendaClips_g20 : (Rows.agendaClipsRow.ifacesOut == Tryz.f3.resultTypes.toList.any (Tryz.pinned.checked.prog.ifacesRec ·)) = true := by kernel_rfl
theorem agendaClips_g21 : (Rows.agendaClipsRow.loopsOut == Tryz.f3.resultTypes.toList.any (Tryz.pinned.checked.prog.loopsFrom ·)) = true := by kernel_rfl
theorem agendaClips_g22 : (Rows.agendaClipsRow.plainKeys == Tryz.pinned.checked.prog.plainKeys) = true := by kernel_rfl
theorem agendaClips_g23 : Rows.agendaClipsRow.shortTexts.isNone = true := by kernel_rfl
theorem agendaClips_g24 : Tryz.pinned.checked.prog.stopsHeard = true := by kernel_rfl
theorem agendaClips_g25 : Tryz.pinned.checked.prog.mayEnter = true := by kernel_rfl
theorem agendaClips_g26 : (Rows.agendaClipsRow.lifted == Tryz.pinned.checked.prog.liftsFinal) = true := by kernel_rfl
theorem agendaClips_g27 : (Tryz.pinned.checked.prog.make == some Rows.agendaClipsRow.make) = true := by kernel_rfl
theorem agendaClips_g29 : (Rows.agendaClipsRow.pinned == Rows.agendaClipsRow.pinnedBy) = true := by kernel_rfl
theorem agendaClips_g30 : (Rows.agendaClipsRow.veiled == (Tryz.f3.params.toList ++ Rows.agendaClipsSpec.plain.varTypes Tryz.pinned.checked.prog ++ Tryz.f3.resultTypes.toList).any (Tryz.pinned.checked.prog.veiledRec ·)) = true := by kernel_rfl
theorem agendaClips_g31 : Rows.agendaClipsRow.veiledFits Tryz.pinned.checked.prog Tryz.f3.params.toList (Tryz.f3.params.toList ++ Rows.agendaClipsSpec.plain.varTypes Tryz.pinned.checked.prog ++ Tryz.f3.resultTypes.toList) = true := by kernel_rfl
end Go.Proofs.YtcohndmpimkjpaaGreatDoor
