/- The statement VtodoOrder holds at every input: its tied card. No conditions. -/
import Derived.Test.YtcjeehebikeghaaGreatDoorKO3
set_option linter.unusedVariables false
set_option linter.unusedSimpArgs false
set_option maxRecDepth 100000
set_option maxHeartbeats 4000000
namespace Go.Proofs.YtcjeehebikeghaaGreatDoor
open Go.Vs Go.Vs.YtcjeehebikeghaaGreatDoor Go.RowKit Go.ChangeShapes Go.WideShapes
theorem Td:Rows.VtodoOrderCardSaid:=
 Claim7.holds_tied_plain_at .later [] _ _ _ _ Cq (fun _ h=>by cases h) In (fun _ h=>by cases h) vtodoOrder_row_tie rfl ⟨rfl,rfl⟩ Io rfl
  (fun f fn hf hfn=>by
    obtain rfl:f=5:=Option.some.inj (Ip.symm.trans hf) |>.symm;obtain rfl:fn=Tryz.f5:=(Option.some.inj (Tryz.func5.symm.trans hfn)).symm;refine⟨Iq,fun j t ht=>?_⟩;have hall:Tryz.f5.params.all (fun t=>!Tryz.prog.wantsStandIn t)=true:=by kernel_rfl
    have:=Array.all_eq_true_iff_forall_mem.1 hall t (Array.mem_of_getElem? ht)
    exact(by simpa using this:Tryz.prog.wantsStandIn t=false))
  Ir
end Go.Proofs.YtcjeehebikeghaaGreatDoor
