/- The statement TreeRows holds at every input: its tied card. No conditions. -/
import Derived.Test.YtmaenhgipojmfaaGreatDoorKR3
set_option linter.unusedVariables false
set_option linter.unusedSimpArgs false
set_option maxRecDepth 100000
set_option maxHeartbeats 4000000
namespace Go.Proofs.YtmaenhgipojmfaaGreatDoor
open Go.Vs Go.Vs.YtmaenhgipojmfaaGreatDoor Go.RowKit Go.ChangeShapes Go.WideShapes
theorem treeRows_card:Rows.TreeRowsCardSaid:=
 Claim7.holds_tied_plain_at .later [] _ _ _ _ zw (fun _ h=>by cases h) (by kernel_rfl) (fun _ h=>by cases h) treeRows_row_tie rfl ⟨rfl,rfl⟩ (by kernel_rfl) rfl
  (fun f fn hf hfn=>by
    obtain rfl:f=7:=Option.some.inj ((show Tryz.prog.funcNamed "errand/errandlaw19.TreeRows" = some 7 by kernel_rfl).symm.trans hf) |>.symm
    obtain rfl:fn=Tryz.f7:=(Option.some.inj (Tryz.func7.symm.trans hfn)).symm
    refine ⟨by kernel_rfl,fun j t ht=>?_⟩
    have hall:Tryz.f7.params.all (fun t=>!Tryz.prog.wantsStandIn t)=true:=by kernel_rfl
    have:=Array.all_eq_true_iff_forall_mem.1 hall t (Array.mem_of_getElem? ht)
    exact (by simpa using this:Tryz.prog.wantsStandIn t=false))
  (by kernel_rfl)
end Go.Proofs.YtmaenhgipojmfaaGreatDoor
