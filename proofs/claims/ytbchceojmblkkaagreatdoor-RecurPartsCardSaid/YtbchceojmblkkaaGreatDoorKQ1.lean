/- The statement RecurParts holds at every input: its walk. No conditions. -/
import Derived.Test.YtbchceojmblkkaaGreatDoorRW
import Derived.Test.YtbchceojmblkkaaGreatDoorRX
set_option linter.unusedVariables false
set_option linter.unusedSimpArgs false
namespace Go.Vs.YtbchceojmblkkaaGreatDoor
end Go.Vs.YtbchceojmblkkaaGreatDoor
set_option linter.unusedSimpArgs false
set_option linter.unusedVariables false
set_option maxRecDepth 100000
set_option maxHeartbeats 4000000
namespace Go.Proofs.YtbchceojmblkkaaGreatDoor
open Go.Vs Go.Vs.YtbchceojmblkkaaGreatDoor Go.RowKit Go.ChangeShapes Go.WideShapes
theorem recurParts_lifted (os : Os) (started : os.Started) (H : Type) (enc : TypeId × Value → H) :
  ReturnsInHanded {} Tryz.checked os 11 .any (fun w args => (Rows.recurPartsSpec.pre enc Tryz.prog Tryz.f11 [] false w args ∧ laidMetH Tryz.prog LaR w) ∧ sizedMet enc Tryz.prog Tryz.f11 (OpenSpec.ofChange Rows.recurPartsSpec) false w args) (Rows.recurPartsSpec.post enc Tryz.prog Tryz.f11 false true false false) :=
 law_lifted_laid own_knobR started (by kernel_rfl) Tryz.func11 (by decide) (by kernel_rfl)
  (ChangeSpec.witness_at (enc := enc) (C := Tryz.checked) (os := os) (X := fun w _ => laidMetH Tryz.prog LaR w) false (laidWorldR os) #[.agg #[.int .u8 0, .int .i64 0, .int .i64 0, .int .u8 0, .int .i64 0, .slice none 0 0, .slice none 0 0, .slice none 0 0, .slice none 0 0, .slice none 0 0, .slice none 0 0, .slice none 0 0, .slice none 0 0, .slice none 0 0, .int .i64 0], .int .u8 0] 12 rfl (by kernel_rfl) (by kernel_rfl) (by kernel_rfl) (by kernel_rfl) (by kernel_rfl) (laidWorldR_met os _))
  (fun W h => hglR h)
  [Rc.scRu, .int .u8] (by kernel_rfl) _ rfl (by kernel_rfl) rfl
  (fun ds h => by
    match ds, h with
    | [_, _], _ => rfl) laid_outR (by kernel_rfl) Rc.RecurParts_true
theorem recurParts_f1 : (Rows.recurPartsRow.inPlace == Tryz.pinned.checked.prog.inPlace 11) = true := by kernel_rfl
end Go.Proofs.YtbchceojmblkkaaGreatDoor
