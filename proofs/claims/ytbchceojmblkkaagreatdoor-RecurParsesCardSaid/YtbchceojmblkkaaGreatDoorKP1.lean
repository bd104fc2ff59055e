/- The statement RecurParses holds at every input: its walk. No conditions. -/
import Derived.Test.YtbchceojmblkkaaGreatDoorRW
import Derived.Test.YtbchceojmblkkaaGreatDoorRZ
set_option linter.unusedVariables false
set_option linter.unusedSimpArgs false
namespace Go.Vs.YtbchceojmblkkaaGreatDoor
end Go.Vs.YtbchceojmblkkaaGreatDoor
set_option linter.unusedSimpArgs false
set_option linter.unusedVariables false
set_option maxRecDepth 100000
set_option maxHeartbeats 4000000
namespace Go.Proofs.YtbchceojmblkkaaGreatDoor
open Go.Vs Go.Vs.YtbchceojmblkkaaGreatDoor Go.RowKit Go.ChangeShapes Go.WideShapes
theorem recurParses_lifted (os : Os) (started : os.Started) (H : Type) (enc : TypeId × Value → H) :
  ReturnsInHanded {} Tryz.checked os 8 .any (fun w args => (Rows.recurParsesSpec.pre enc Tryz.prog Tryz.f8 [] false w args ∧ laidMetH Tryz.prog LaR w) ∧ sizedMet enc Tryz.prog Tryz.f8 (OpenSpec.ofChange Rows.recurParsesSpec) false w args) (Rows.recurParsesSpec.post enc Tryz.prog Tryz.f8 false true false false) :=
 law_lifted_laid own_knobR started (by kernel_rfl) Tryz.func8 (by decide) (by kernel_rfl)
  (ChangeSpec.witness_at (enc := enc) (C := Tryz.checked) (os := os) (X := fun w _ => laidMetH Tryz.prog LaR w) false (laidWorldR os) #[.string ⟨#[]⟩] 12 rfl (by kernel_rfl) (by kernel_rfl) (by kernel_rfl) (by kernel_rfl) (by kernel_rfl) (laidWorldR_met os _))
  (fun W h => hglR h)
  [.str] (by kernel_rfl) _ rfl (by kernel_rfl) rfl
  (fun ds h => by
    match ds, h with
    | [_], _ => rfl) laid_outR (by kernel_rfl) Rc.RecurParses_true
theorem recurParses_f1 : (Rows.recurParsesRow.inPlace == Tryz.pinned.checked.prog.inPlace 8) = true := by kernel_rfl
end Go.Proofs.YtbchceojmblkkaaGreatDoor
