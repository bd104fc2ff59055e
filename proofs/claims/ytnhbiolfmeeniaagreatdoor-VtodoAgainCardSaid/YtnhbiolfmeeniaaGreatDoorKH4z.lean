/- The statement VtodoAgain holds at every input: the row. No conditions. -/
import Derived.Test.YtnhbiolfmeeniaaGreatDoorKH1z
import Derived.Test.YtnhbiolfmeeniaaGreatDoorKH6z
import Derived.Test.YtnhbiolfmeeniaaGreatDoorKH5z
set_option linter.all false
set_option maxRecDepth 100000
set_option maxHeartbeats 4000000
namespace Go.Proofs.YtnhbiolfmeeniaaGreatDoor
open Go.Vs Go.Vs.Y Go.RowKit Go.ChangeShapes Go.WideShapes
theorem Hd:Rows.VtodoAgainSaid:=
 OpenClaim.holds_of_wide (p:=Tryz.pinned) (s:=Rows.vtodoAgainSpec) (c:=Rows.vtodoAgainRow) 3 Tryz.f3 rfl rfl rfl rfl rfl rfl rfl ⟨rfl,rfl,rfl,rfl,rfl⟩ rfl rfl rfl rfl rfl (by kernel_rfl) Tryz.func3 (by
   unfold joinedFacts;simp only[Bool.and_eq_true];and_intros
   ·exact O5
   ·exact O6
   ·exact O7
   ·exact O8
   ·exact O9
   ·exact Oa
   ·exact Oc
   ·exact Od
   ·exact Oe
   ·exact O4
   ·exact Of
   ·exact Og
   ·exact Oh
   ·exact ME
   ·exact MF
   ·exact MG
   ·exact MH
   ·exact MI
   ·exact MJ
   ·exact MK
   ·exact ML
   ·exact MM
   ·exact MN
   ·exact MO
   ·exact MP
   ·exact MQ
   ·exact MR
   ·exact MS
   ·kernel_rfl
   ·exact MT
   ·exact MU
   exact MV)
  (of_decide_eq_true (by kernel_rfl)) (by unfold Func.isWrapper;first|(rw[if_pos (by decide +kernel)];kernel_rfl)|(rw[if_neg (by decide +kernel)];exact⟨rfl,rfl⟩))
  (fun d a H b _=>G3 d a H b)
theorem vtodoAgain_card:Rows.VtodoAgainCardSaid:=
 Claim7.holds_tied_plain_at .later [] _ _ _ _ Hd (fun _ h=>by cases h) Oi (fun _ h=>by cases h) vtodoAgain_row_tie rfl ⟨rfl,rfl⟩ Oj rfl
  (fun f c d b=>by
    obtain rfl:f=3:=Option.some.inj (Ok.symm.trans d) |>.symm;obtain rfl:c=Tryz.f3:=(Option.some.inj (Tryz.func3.symm.trans b)).symm;refine⟨Ol,fun j t e=>?_⟩;have a:Tryz.f3.params.all (fun t=>!Tryz.prog.wantsStandIn t)=true:=by kernel_rfl
    have:=Array.all_eq_true_iff_forall_mem.1 a t (Array.mem_of_getElem? e)
    exact(by simpa using this:Tryz.prog.wantsStandIn t=false))
  Om
end Go.Proofs.YtnhbiolfmeeniaaGreatDoor
