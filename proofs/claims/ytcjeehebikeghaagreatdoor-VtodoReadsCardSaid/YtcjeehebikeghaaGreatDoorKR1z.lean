/- A part of a proof. No conditions. -/
import Derived.Test.YtcjeehebikeghaaGreatDoorLAz
import Derived.Test.YtcjeehebikeghaaGreatDoorVYz
set_option linter.unusedVariables false
set_option linter.unusedSimpArgs false
set_option maxRecDepth 100000
set_option maxHeartbeats 4000000
namespace Go.Proofs.YtcjeehebikeghaaGreatDoor
open Go.Vs Go.Vs.YtcjeehebikeghaaGreatDoor Go.RowKit Go.ChangeShapes Go.WideShapes
theorem DZ(os:Os)(a:os.Started)(H:Type)(enc:TypeId×Value→H) :
  ReturnsInHanded {} Tryz.checked os 3 .any (fun w b=>(Rows.vtodoReadsSpec.pre enc Tryz.prog Tryz.f3 [] false w b∧laidMetH Tryz.prog LaR w)∧sizedMet enc Tryz.prog Tryz.f3 (OpenSpec.ofChange Rows.vtodoReadsSpec) false w b) (Rows.vtodoReadsSpec.post enc Tryz.prog Tryz.f3 false true false false):=
 Gq Wn a (by kernel_rfl) Tryz.func3 (by decide) (by kernel_rfl)
  (ChangeSpec.witness_at (enc:=enc) (C:=Tryz.checked) (os:=os) (X:=fun w _=>laidMetH Tryz.prog LaR w) false (JM os) #[.slice none 0 0,.int .i64 0] 12 rfl (by kernel_rfl) (by kernel_rfl) (by kernel_rfl) (by kernel_rfl) (by kernel_rfl) (JN os _))
  (fun W h=>ae4 h)
  [.slice Vt.scL,.int .i64] (by kernel_rfl) _ rfl (by kernel_rfl) rfl
  (fun d h=>by
    match d,h with
    |[_,_],_=>rfl) Wo (by kernel_rfl) Vt.VtodoReads_true
theorem Lr:(Rows.vtodoReadsRow.inPlace==Tryz.pinned.checked.prog.inPlace 3)=true:=by kernel_rfl
end Go.Proofs.YtcjeehebikeghaaGreatDoor
