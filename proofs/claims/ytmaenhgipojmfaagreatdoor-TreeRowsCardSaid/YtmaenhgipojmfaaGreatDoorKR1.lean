/- The statement TreeRows holds at every input: its walk. No conditions. -/
import Derived.Test.YtmaenhgipojmfaaGreatDoorLB
import Derived.Test.YtmaenhgipojmfaaGreatDoorTS
set_option linter.unusedVariables false
set_option linter.unusedSimpArgs false
set_option maxRecDepth 100000
set_option maxHeartbeats 4000000
namespace Go.Proofs.YtmaenhgipojmfaaGreatDoor
open Go.Vs Go.Vs.YtmaenhgipojmfaaGreatDoor Go.RowKit Go.ChangeShapes Go.WideShapes
theorem wP (os:Os) (started:os.Started) (H:Type) (enc:TypeId×Value→H) :
  ReturnsInHanded {} Tryz.checked os 7 .any (fun w args=>(Rows.treeRowsSpec.pre enc Tryz.prog Tryz.f7 [] false w args∧laidMetH Tryz.prog La w)∧sizedMet enc Tryz.prog Tryz.f7 (OpenSpec.ofChange Rows.treeRowsSpec) false w args) (Rows.treeRowsSpec.post enc Tryz.prog Tryz.f7 false true false false):=
 ea pO started (by kernel_rfl) Tryz.func7 (by decide) (by kernel_rfl)
  (ChangeSpec.witness_at (enc:=enc) (C:=Tryz.checked) (os:=os) (X:=fun w _=>laidMetH Tryz.prog La w) false (ka os) #[.slice none 0 0] 12 rfl (by kernel_rfl) (by kernel_rfl) (by kernel_rfl) (by kernel_rfl) (by kernel_rfl) (fY os _))
  (fun W h=>k9 h)
  [.slice Mz] (by kernel_rfl) _ rfl (by kernel_rfl) rfl
  (fun ds h=>by
    match ds,h with
    | [_],_=>rfl) pP (by kernel_rfl) Aq
theorem F0:(Rows.treeRowsRow.inPlace==Tryz.pinned.checked.prog.inPlace 7)=true:=by kernel_rfl
end Go.Proofs.YtmaenhgipojmfaaGreatDoor
