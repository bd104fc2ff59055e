/- The statement VtodoWrites holds at every input: the row. No conditions. -/
import Derived.Test.YtcjeehebikeghaaGreatDoorKW1z
import Derived.Test.YtcjeehebikeghaaGreatDoorKW6z
import Derived.Test.YtcjeehebikeghaaGreatDoorKW5z
set_option linter.unusedVariables false
set_option linter.unusedSimpArgs false
set_option maxRecDepth 100000
set_option maxHeartbeats 4000000
namespace Go.Proofs.YtcjeehebikeghaaGreatDoor
open Go.Vs Go.Vs.YtcjeehebikeghaaGreatDoor Go.RowKit Go.ChangeShapes Go.WideShapes
theorem ae0:Rows.VtodoWritesSaid:=
 OpenClaim.holds_of_wide (p:=Tryz.pinned) (s:=Rows.vtodoWritesSpec) (c:=Rows.vtodoWritesRow) 4 Tryz.f4 rfl rfl rfl rfl rfl rfl rfl ⟨rfl,rfl,rfl,rfl,rfl⟩ rfl rfl rfl rfl rfl (by kernel_rfl) Tryz.func4 (by
   unfold joinedFacts;simp only[Bool.and_eq_true];and_intros
   ·exact afA
   ·exact afB
   ·exact afC
   ·exact afD
   ·exact afE
   ·exact afF
   ·exact afG
   ·exact afH
   ·exact afI
   ·exact afz
   ·exact afJ
   ·exact afK
   ·exact afL
   ·exact afa
   ·exact afb
   ·exact afc
   ·exact afd
   ·exact afe
   ·exact aff
   ·exact afg
   ·exact afh
   ·exact afi
   ·exact afj
   ·exact afk
   ·exact afl
   ·exact afm
   ·exact afn
   ·exact afo
   ·kernel_rfl
   ·exact afp
   ·exact afq
   ·exact afr)
  (of_decide_eq_true (by kernel_rfl)) (by unfold Func.isWrapper;first|(rw[if_pos (by decide +kernel)];kernel_rfl)|(rw[if_neg (by decide +kernel)];exact⟨rfl,rfl⟩))
  (fun d a H b _=>aer d a H b)
theorem vtodoWrites_card:Rows.VtodoWritesCardSaid:=
 Claim7.holds_tied_plain_at .later [] _ _ _ _ ae0 (fun _ h=>by cases h) afM (fun _ h=>by cases h) vtodoWrites_row_tie rfl ⟨rfl,rfl⟩ afN rfl
  (fun f c d b=>by
    obtain rfl:f=4:=Option.some.inj (afO.symm.trans d) |>.symm;obtain rfl:c=Tryz.f4:=(Option.some.inj (Tryz.func4.symm.trans b)).symm;refine⟨afP,fun j t e=>?_⟩;have a:Tryz.f4.params.all (fun t=>!Tryz.prog.wantsStandIn t)=true:=by kernel_rfl
    have:=Array.all_eq_true_iff_forall_mem.1 a t (Array.mem_of_getElem? e)
    exact(by simpa using this:Tryz.prog.wantsStandIn t=false))
  afQ
end Go.Proofs.YtcjeehebikeghaaGreatDoor
