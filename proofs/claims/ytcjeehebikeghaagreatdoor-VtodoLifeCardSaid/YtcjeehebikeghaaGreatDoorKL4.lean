/- The statement VtodoLife holds at every input: the row. No conditions. -/
import Derived.Test.YtcjeehebikeghaaGreatDoorKL1
import Derived.Test.YtcjeehebikeghaaGreatDoorKL6
import Derived.Test.YtcjeehebikeghaaGreatDoorKL5
set_option linter.unusedVariables false
set_option linter.unusedSimpArgs false
set_option maxRecDepth 100000
set_option maxHeartbeats 4000000
namespace Go.Proofs.YtcjeehebikeghaaGreatDoor
open Go.Vs Go.Vs.YtcjeehebikeghaaGreatDoor Go.RowKit Go.ChangeShapes Go.WideShapes
theorem DP:Rows.VtodoLifeSaid:=
 OpenClaim.holds_of_wide (p:=Tryz.pinned) (s:=Rows.vtodoLifeSpec) (c:=Rows.vtodoLifeRow) 7 Tryz.f7 rfl rfl rfl rfl rfl rfl rfl ⟨rfl,rfl,rfl,rfl,rfl⟩ rfl rfl rfl rfl rfl (by kernel_rfl) Tryz.func7 (by
   unfold joinedFacts;simp only[Bool.and_eq_true];and_intros
   ·exact LZ
   ·exact M0
   ·exact M3
   ·exact M4
   ·exact M6
   ·exact M7
   ·exact M8
   ·exact M9
   ·exact Ma
   ·exact LY
   ·exact Mb
   ·exact Mc
   ·exact Md
   ·exact Is
   ·exact It
   ·exact Iu
   ·exact Iv
   ·exact Iw
   ·exact Ix
   ·exact Iy
   ·exact Iz
   ·exact IA
   ·exact IB
   ·exact IC
   ·exact ID
   ·exact IE
   ·exact IF
   ·exact IG
   ·kernel_rfl
   ·exact IH
   ·exact II
   ·exact IJ)
  (of_decide_eq_true (by kernel_rfl)) (by unfold Func.isWrapper;first|(rw[if_pos (by decide +kernel)];kernel_rfl)|(rw[if_neg (by decide +kernel)];exact⟨rfl,rfl⟩))
  (fun os started H enc _=>Cr os started H enc)
theorem vtodoLife_card:Rows.VtodoLifeCardSaid:=
 Claim7.holds_tied_plain_at .later [] _ _ _ _ DP (fun _ h=>by cases h) Me (fun _ h=>by cases h) vtodoLife_row_tie rfl ⟨rfl,rfl⟩ Mf rfl
  (fun f fn hf hfn=>by
    obtain rfl:f=7:=Option.some.inj (Mg.symm.trans hf) |>.symm;obtain rfl:fn=Tryz.f7:=(Option.some.inj (Tryz.func7.symm.trans hfn)).symm;refine⟨Mh,fun j t ht=>?_⟩;have hall:Tryz.f7.params.all (fun t=>!Tryz.prog.wantsStandIn t)=true:=by kernel_rfl
    have:=Array.all_eq_true_iff_forall_mem.1 hall t (Array.mem_of_getElem? ht)
    exact(by simpa using this:Tryz.prog.wantsStandIn t=false))
  Mi
end Go.Proofs.YtcjeehebikeghaaGreatDoor
