/- A part of a proof. No conditions. -/
import Derived.Test.YtcjeehebikeghaaGreatDoorLAz
import Derived.Test.YtcjeehebikeghaaGreatDoorVXz
set_option linter.unusedVariables false
set_option linter.unusedSimpArgs false
set_option maxRecDepth 100000
set_option maxHeartbeats 4000000
namespace Go.Proofs.YtcjeehebikeghaaGreatDoor
open Go.Vs Go.Vs.YtcjeehebikeghaaGreatDoor Go.RowKit Go.ChangeShapes Go.WideShapes
theorem aer(os:Os)(a:os.Started)(H:Type)(enc:TypeId×Value→H) :
  ReturnsInHanded {} Tryz.checked os 4 .any (fun w b=>(Rows.vtodoWritesSpec.pre enc Tryz.prog Tryz.f4 [] false w b∧laidMetH Tryz.prog LaR w)∧sizedMet enc Tryz.prog Tryz.f4 (OpenSpec.ofChange Rows.vtodoWritesSpec) false w b) (Rows.vtodoWritesSpec.post enc Tryz.prog Tryz.f4 false true false false):=
 Gq Wn a (by kernel_rfl) Tryz.func4 (by decide) (by kernel_rfl)
  (ChangeSpec.witness_at (enc:=enc) (C:=Tryz.checked) (os:=os) (X:=fun w _=>laidMetH Tryz.prog LaR w) false (JM os) #[.slice none 0 0,.slice none 0 0,.agg #[.int .u8 0,.int .i64 0,.int .i64 0]] 12 rfl (by kernel_rfl) (by kernel_rfl) (by kernel_rfl) (by kernel_rfl) (by kernel_rfl) (JN os _))
  (fun W h=>ae4 h)
  [.slice Vt.scL,.slice Vt.scL,Vt.scLf] (by kernel_rfl) _ rfl (by kernel_rfl) rfl
  (fun d h=>by
    match d,h with
    |[_,_,_],_=>rfl) Wo (by kernel_rfl) Vt.VtodoWrites_true
theorem afz:(Rows.vtodoWritesRow.inPlace==Tryz.pinned.checked.prog.inPlace 4)=true:=by kernel_rfl
end Go.Proofs.YtcjeehebikeghaaGreatDoor
