/- The statement VtodoOrder holds at every input: the row. No conditions. -/
import Derived.Test.YtcjeehebikeghaaGreatDoorKO1
import Derived.Test.YtcjeehebikeghaaGreatDoorKO6
import Derived.Test.YtcjeehebikeghaaGreatDoorKO5
set_option linter.unusedVariables false
set_option linter.unusedSimpArgs false
set_option maxRecDepth 100000
set_option maxHeartbeats 4000000
namespace Go.Proofs.YtcjeehebikeghaaGreatDoor
open Go.Vs Go.Vs.YtcjeehebikeghaaGreatDoor Go.RowKit Go.ChangeShapes Go.WideShapes
theorem Cq:Rows.VtodoOrderSaid:=
 OpenClaim.holds_of_wide (p:=Tryz.pinned) (s:=Rows.vtodoOrderSpec) (c:=Rows.vtodoOrderRow) 5 Tryz.f5 rfl rfl rfl rfl rfl rfl rfl ⟨rfl,rfl,rfl,rfl,rfl⟩ rfl rfl rfl rfl rfl (by kernel_rfl) Tryz.func5 (by
   unfold joinedFacts;simp only[Bool.and_eq_true];and_intros
   ·exact Ib
   ·exact Ic
   ·exact Id
   ·exact Ie
   ·exact If
   ·exact Ig
   ·exact Ih
   ·exact Ii
   ·exact Ij
   ·exact Ia
   ·exact Ik
   ·exact Il
   ·exact Im
   ·exact GM
   ·exact GN
   ·exact GO
   ·exact GP
   ·exact GQ
   ·exact GR
   ·exact GS
   ·exact GT
   ·exact GU
   ·exact GV
   ·exact GW
   ·exact GX
   ·exact GY
   ·exact GZ
   ·exact H0
   ·kernel_rfl
   ·exact H1
   ·exact H2
   ·exact H4)
  (of_decide_eq_true (by kernel_rfl)) (by unfold Func.isWrapper;first|(rw[if_pos (by decide +kernel)];kernel_rfl)|(rw[if_neg (by decide +kernel)];exact⟨rfl,rfl⟩))
  (fun os started H enc _=>Bs os started H enc)
theorem vtodoOrder_card:Rows.VtodoOrderCardSaid:=
 Claim7.holds_tied_plain_at .later [] _ _ _ _ Cq (fun _ h=>by cases h) In (fun _ h=>by cases h) vtodoOrder_row_tie rfl ⟨rfl,rfl⟩ Io rfl
  (fun f fn hf hfn=>by
    obtain rfl:f=5:=Option.some.inj (Ip.symm.trans hf) |>.symm;obtain rfl:fn=Tryz.f5:=(Option.some.inj (Tryz.func5.symm.trans hfn)).symm;refine⟨Iq,fun j t ht=>?_⟩;have hall:Tryz.f5.params.all (fun t=>!Tryz.prog.wantsStandIn t)=true:=by kernel_rfl
    have:=Array.all_eq_true_iff_forall_mem.1 hall t (Array.mem_of_getElem? ht)
    exact(by simpa using this:Tryz.prog.wantsStandIn t=false))
  Ir
end Go.Proofs.YtcjeehebikeghaaGreatDoor
