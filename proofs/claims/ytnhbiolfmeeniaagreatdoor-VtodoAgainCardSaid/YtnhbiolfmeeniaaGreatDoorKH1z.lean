/- A part of a proof. No conditions. -/
import Derived.Test.YtnhbiolfmeeniaaGreatDoorLAz
import Derived.Test.YtnhbiolfmeeniaaGreatDoorXMz
set_option linter.all false
set_option maxRecDepth 100000
set_option maxHeartbeats 4000000
namespace Go.Proofs.YtnhbiolfmeeniaaGreatDoor
open Go.Vs Go.Vs.Y Go.RowKit Go.ChangeShapes Go.WideShapes
theorem G3(os:Os)(a:os.Started)(H:Type)(enc:TypeId×Value→H) :
  ReturnsInHanded {} Tryz.checked os 3 .any (fun w b=>(Rows.vtodoAgainSpec.pre enc Tryz.prog Tryz.f3 [] false w b∧laidMetH Tryz.prog LaR w)∧sizedMet enc Tryz.prog Tryz.f3 (OpenSpec.ofChange Rows.vtodoAgainSpec) false w b) (Rows.vtodoAgainSpec.post enc Tryz.prog Tryz.f3 false true false false):=
 It aae a (by kernel_rfl) Tryz.func3 (by decide) (by kernel_rfl)
  (ChangeSpec.witness_at (enc:=enc) (C:=Tryz.checked) (os:=os) (X:=fun w _=>laidMetH Tryz.prog LaR w) false (M4 os) #[.slice none 0 0,.int .u64 0] 12 rfl (by kernel_rfl) (by kernel_rfl) (by kernel_rfl) (by kernel_rfl) (by kernel_rfl) (M6 os _))
  (fun W h=>akg h)
  [.slice Vt.scL,.int .u64] (by kernel_rfl) _ rfl (by kernel_rfl) rfl
  (fun d h=>by
    match d,h with
    |[_,_],_=>rfl) aaf (by kernel_rfl) Vt.VtodoAgain_true
theorem O4:(Rows.vtodoAgainRow.inPlace==Tryz.pinned.checked.prog.inPlace 3)=true:=by kernel_rfl
end Go.Proofs.YtnhbiolfmeeniaaGreatDoor
