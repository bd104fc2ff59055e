/- The statement VtodoReads holds at every input: the row. No conditions. -/
import Derived.Test.YtcjeehebikeghaaGreatDoorKR1z
import Derived.Test.YtcjeehebikeghaaGreatDoorKR6z
import Derived.Test.YtcjeehebikeghaaGreatDoorKR5z
set_option linter.unusedVariables false
set_option linter.unusedSimpArgs false
set_option maxRecDepth 100000
set_option maxHeartbeats 4000000
namespace Go.Proofs.YtcjeehebikeghaaGreatDoor
open Go.Vs Go.Vs.YtcjeehebikeghaaGreatDoor Go.RowKit Go.ChangeShapes Go.WideShapes
theorem EZ:Rows.VtodoReadsSaid:=
 OpenClaim.holds_of_wide (p:=Tryz.pinned) (s:=Rows.vtodoReadsSpec) (c:=Rows.vtodoReadsRow) 3 Tryz.f3 rfl rfl rfl rfl rfl rfl rfl ⟨rfl,rfl,rfl,rfl,rfl⟩ rfl rfl rfl rfl rfl (by kernel_rfl) Tryz.func3 (by
   unfold joinedFacts;simp only[Bool.and_eq_true];and_intros
   ·exact Ls
   ·exact Lt
   ·exact Lu
   ·exact Lv
   ·exact Lw
   ·exact Lx
   ·exact Ly
   ·exact Lz
   ·exact LA
   ·exact Lr
   ·exact LC
   ·exact LD
   ·exact LF
   ·exact JO
   ·exact JP
   ·exact JQ
   ·exact JR
   ·exact JS
   ·exact JT
   ·exact JU
   ·exact JV
   ·exact JW
   ·exact JX
   ·exact JY
   ·exact K0
   ·exact K1
   ·exact K2
   ·exact K3
   ·kernel_rfl
   ·exact K4
   ·exact K5
   ·exact K6)
  (of_decide_eq_true (by kernel_rfl)) (by unfold Func.isWrapper;first|(rw[if_pos (by decide +kernel)];kernel_rfl)|(rw[if_neg (by decide +kernel)];exact⟨rfl,rfl⟩))
  (fun d a H b _=>DZ d a H b)
theorem vtodoReads_card:Rows.VtodoReadsCardSaid:=
 Claim7.holds_tied_plain_at .later [] _ _ _ _ EZ (fun _ h=>by cases h) LG (fun _ h=>by cases h) vtodoReads_row_tie rfl ⟨rfl,rfl⟩ LH rfl
  (fun f c d b=>by
    obtain rfl:f=3:=Option.some.inj (LI.symm.trans d) |>.symm;obtain rfl:c=Tryz.f3:=(Option.some.inj (Tryz.func3.symm.trans b)).symm;refine⟨LJ,fun j t e=>?_⟩;have a:Tryz.f3.params.all (fun t=>!Tryz.prog.wantsStandIn t)=true:=by kernel_rfl
    have:=Array.all_eq_true_iff_forall_mem.1 a t (Array.mem_of_getElem? e)
    exact(by simpa using this:Tryz.prog.wantsStandIn t=false))
  LL
end Go.Proofs.YtcjeehebikeghaaGreatDoor
