/- The statement TreeEnds holds at every input: its walk. No conditions. -/
import Derived.Test.YtnddjffndeaiiaaGreatDoorLB
import Derived.Test.YtnddjffndeaiiaaGreatDoorTO
set_option linter.unusedVariables false
set_option linter.unusedSimpArgs false
set_option maxRecDepth 100000
set_option maxHeartbeats 4000000
namespace Go.Proofs.YtnddjffndeaiiaaGreatDoor
open Go.Vs Go.Vs.YtnddjffndeaiiaaGreatDoor Go.RowKit Go.ChangeShapes Go.WideShapes
theorem wM (os:Os) (started:os.Started) (H:Type) (enc:TypeId×Value→H) :
  ReturnsInHanded {} Tryz.checked os 6 .any (fun w args=>(Rows.treeEndsSpec.pre enc Tryz.prog Tryz.f6 [] false w args∧laidMetH Tryz.prog La w)∧sizedMet enc Tryz.prog Tryz.f6 (OpenSpec.ofChange Rows.treeEndsSpec) false w args) (Rows.treeEndsSpec.post enc Tryz.prog Tryz.f6 false true false false):=
 ea pO started (by kernel_rfl) Tryz.func6 (by decide) (by kernel_rfl)
  (ChangeSpec.witness_at (enc:=enc) (C:=Tryz.checked) (os:=os) (X:=fun w _=>laidMetH Tryz.prog La w) false (ka os) #[.string ⟨#[]⟩] 12 rfl (by kernel_rfl) (by kernel_rfl) (by kernel_rfl) (by kernel_rfl) (by kernel_rfl) (fY os _))
  (fun W h=>k9 h)
  [.str] (by kernel_rfl) _ rfl (by kernel_rfl) rfl
  (fun ds h=>by
    match ds,h with
    | [_],_=>rfl) pP (by kernel_rfl) Ao
theorem ES:(Rows.treeEndsRow.inPlace==Tryz.pinned.checked.prog.inPlace 6)=true:=by kernel_rfl
end Go.Proofs.YtnddjffndeaiiaaGreatDoor
