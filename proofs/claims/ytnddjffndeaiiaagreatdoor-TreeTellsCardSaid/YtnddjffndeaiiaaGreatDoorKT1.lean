/- The statement TreeTells holds at every input: its walk. No conditions. -/
import Derived.Test.YtnddjffndeaiiaaGreatDoorLB
import Derived.Test.YtnddjffndeaiiaaGreatDoorTP
set_option linter.unusedVariables false
set_option linter.unusedSimpArgs false
set_option maxRecDepth 100000
set_option maxHeartbeats 4000000
namespace Go.Proofs.YtnddjffndeaiiaaGreatDoor
open Go.Vs Go.Vs.YtnddjffndeaiiaaGreatDoor Go.RowKit Go.ChangeShapes Go.WideShapes
theorem vw (os:Os) (started:os.Started) (H:Type) (enc:TypeId×Value→H) :
  ReturnsInHanded {} Tryz.checked os 4 .any (fun w args=>(Rows.treeTellsSpec.pre enc Tryz.prog Tryz.f4 [] false w args∧laidMetH Tryz.prog La w)∧sizedMet enc Tryz.prog Tryz.f4 (OpenSpec.ofChange Rows.treeTellsSpec) false w args) (Rows.treeTellsSpec.post enc Tryz.prog Tryz.f4 false true false false):=
 ea pO started (by kernel_rfl) Tryz.func4 (by decide) (by kernel_rfl)
  (ChangeSpec.witness_at (enc:=enc) (C:=Tryz.checked) (os:=os) (X:=fun w _=>laidMetH Tryz.prog La w) false (ka os) #[.agg #[.slice none 0 0,.slice none 0 0],.int .i64 0] 12 rfl (by kernel_rfl) (by kernel_rfl) (by kernel_rfl) (by kernel_rfl) (by kernel_rfl) (fY os _))
  (fun W h=>k9 h)
  [.arr 2 (.slice Mz),.int .i64] (by kernel_rfl) _ rfl (by kernel_rfl) rfl
  (fun ds h=>by
    match ds,h with
    | [_,_],_=>rfl) pP (by kernel_rfl) zr
theorem CW:(Rows.treeTellsRow.inPlace==Tryz.pinned.checked.prog.inPlace 4)=true:=by kernel_rfl
end Go.Proofs.YtnddjffndeaiiaaGreatDoor
