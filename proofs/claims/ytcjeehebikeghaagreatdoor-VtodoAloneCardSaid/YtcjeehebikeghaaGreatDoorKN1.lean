/- A part of a proof. No conditions. -/
import Derived.Test.YtcjeehebikeghaaGreatDoorLA
import Derived.Test.YtcjeehebikeghaaGreatDoorVS
set_option linter.unusedVariables false
set_option linter.unusedSimpArgs false
set_option maxRecDepth 100000
set_option maxHeartbeats 4000000
namespace Go.Proofs.YtcjeehebikeghaaGreatDoor
open Go.Vs Go.Vs.YtcjeehebikeghaaGreatDoor Go.RowKit Go.ChangeShapes Go.WideShapes
theorem zd(os:Os)(started:os.Started)(H:Type)(enc:TypeId×Value→H) :
  ReturnsInHanded {} Tryz.checked os 6 .any (fun w args=>(Rows.vtodoAloneSpec.pre enc Tryz.prog Tryz.f6 [] false w args∧laidMetH Tryz.prog Xc w)∧sizedMet enc Tryz.prog Tryz.f6 (OpenSpec.ofChange Rows.vtodoAloneSpec) false w args) (Rows.vtodoAloneSpec.post enc Tryz.prog Tryz.f6 false true false false):=
 B4 OL started (by kernel_rfl) Tryz.func6 (by decide) (by kernel_rfl)
  (ChangeSpec.witness_at (enc:=enc) (C:=Tryz.checked) (os:=os) (X:=fun w _=>laidMetH Tryz.prog Xc w) false (E9 os) #[.slice none 0 0] 12 rfl (by kernel_rfl) (by kernel_rfl) (by kernel_rfl) (by kernel_rfl) (by kernel_rfl) (Ea os _))
  (fun W h=>Xy h)
  [.slice Vt.scL] (by kernel_rfl) _ rfl (by kernel_rfl) rfl
  (fun ds h=>by
    match ds,h with
    |[_],_=>rfl) OM (by kernel_rfl) Vt.VtodoAlone_true
theorem F8:(Rows.vtodoAloneRow.inPlace==Tryz.pinned.checked.prog.inPlace 6)=true:=by kernel_rfl
end Go.Proofs.YtcjeehebikeghaaGreatDoor
