/- The statement VtodoLife holds at every input: its walk. No conditions. -/
import Derived.Test.YtcjeehebikeghaaGreatDoorLA
import Derived.Test.YtcjeehebikeghaaGreatDoorVR
set_option linter.unusedVariables false
set_option linter.unusedSimpArgs false
set_option maxRecDepth 100000
set_option maxHeartbeats 4000000
namespace Go.Proofs.YtcjeehebikeghaaGreatDoor
open Go.Vs Go.Vs.YtcjeehebikeghaaGreatDoor Go.RowKit Go.ChangeShapes Go.WideShapes
theorem Cr(os:Os)(started:os.Started)(H:Type)(enc:TypeId×Value→H) :
  ReturnsInHanded {} Tryz.checked os 7 .any (fun w args=>(Rows.vtodoLifeSpec.pre enc Tryz.prog Tryz.f7 [] false w args∧laidMetH Tryz.prog Zi w)∧sizedMet enc Tryz.prog Tryz.f7 (OpenSpec.ofChange Rows.vtodoLifeSpec) false w args) (Rows.vtodoLifeSpec.post enc Tryz.prog Tryz.f7 false true false false):=
 nV Co started (by kernel_rfl) Tryz.func7 (by decide) (by kernel_rfl)
  (ChangeSpec.witness_at (enc:=enc) (C:=Tryz.checked) (os:=os) (X:=fun w _=>laidMetH Tryz.prog Zi w) false (tQ os) #[.slice none 0 0,.agg #[.int .u8 0,.int .i64 0,.int .i64 0]] 12 rfl (by kernel_rfl) (by kernel_rfl) (by kernel_rfl) (by kernel_rfl) (by kernel_rfl) (qk os _))
  (fun W h=>aaP h)
  [.slice Vt.scL,Vt.scLf] (by kernel_rfl) _ rfl (by kernel_rfl) rfl
  (fun ds h=>by
    match ds,h with
    |[_,_],_=>rfl) Cp (by kernel_rfl) Vt.VtodoLife_true
theorem LY:(Rows.vtodoLifeRow.inPlace==Tryz.pinned.checked.prog.inPlace 7)=true:=by kernel_rfl
end Go.Proofs.YtcjeehebikeghaaGreatDoor
