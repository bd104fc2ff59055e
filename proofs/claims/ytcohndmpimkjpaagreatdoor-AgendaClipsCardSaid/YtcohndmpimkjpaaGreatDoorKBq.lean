/- The statement AgendaClips holds at every input: its walk. No conditions. -/
import Derived.Test.YtcohndmpimkjpaaGreatDoorLAq
import Derived.Test.YtcohndmpimkjpaaGreatDoorKAq
set_option linter.unusedVariables false
set_option linter.unusedSimpArgs false
set_option linter.unusedSimpArgs false
set_option linter.unusedVariables false
set_option maxRecDepth 100000
set_option maxHeartbeats 4000000
namespace Go.Proofs.YtcohndmpimkjpaaGreatDoor
open Go.Vs Go.Vs.YtcohndmpimkjpaaGreatDoor Go.RowKit Go.ChangeShapes Go.WideShapes
theorem agendaClips_lifted (os : Os) (started : os.Started) (H : Type) (enc : TypeId × Value → H) :
    ReturnsInHanded {} Tryz.checked os 3 .any (fun w args => (Rows.agendaClipsSpec.pre enc Tryz.prog Tryz.f3 [] false w args ∧ laidMetH Tryz.prog LaR w) ∧ sizedMet enc Tryz.prog Tryz.f3 (OpenSpec.ofChange Rows.agendaClipsSpec) false w args) (Rows.agendaClipsSpec.post enc Tryz.prog Tryz.f3 false true false false) :=
  law_lifted_laid own_knobR started (by kernel_rfl) Tryz.func3 (by decide) (by kernel_rfl)
    (ChangeSpec.witness_at (enc := enc) (C := Tryz.checked) (os := os) (X := fun w _ => laidMetH Tryz.prog LaR w) false (laidWorldR os) #[.slice none 0 0, .int .i64 0] 12 rfl (by kernel_rfl) (by kernel_rfl) (by kernel_rfl) (by kernel_rfl) (by kernel_rfl) (laidWorldR_met os _))
    (fun W h => hglR h)
    [.slice Ag.scE, .int .i64] (by kernel_rfl) _ rfl (by kernel_rfl) rfl
    (fun ds h => by
      match ds, h with
      | [_, _], _ => rfl) laid_outR (by kernel_rfl) Ag.AgendaClips_true
theorem agendaClips_f1 : (Rows.agendaClipsRow.inPlace == Tryz.pinned.checked.prog.inPlace 3) = true := by kernel_rfl
end Go.Proofs.YtcohndmpimkjpaaGreatDoor
