/- The statement VtodoAlone holds at every input: the row. No conditions. -/
import Derived.Test.YtcjeehebikeghaaGreatDoorKN1
import Derived.Test.YtcjeehebikeghaaGreatDoorKN6
import Derived.Test.YtcjeehebikeghaaGreatDoorKN5
set_option linter.unusedVariables false
set_option linter.unusedSimpArgs false
set_option maxRecDepth 100000
set_option maxHeartbeats 4000000
namespace Go.Proofs.YtcjeehebikeghaaGreatDoor
open Go.Vs Go.Vs.YtcjeehebikeghaaGreatDoor Go.RowKit Go.ChangeShapes Go.WideShapes
theorem A5:Rows.VtodoAloneSaid:=
 OpenClaim.holds_of_wide (p:=Tryz.pinned) (s:=Rows.vtodoAloneSpec) (c:=Rows.vtodoAloneRow) 6 Tryz.f6 rfl rfl rfl rfl rfl rfl rfl ⟨rfl,rfl,rfl,rfl,rfl⟩ rfl rfl rfl rfl rfl (by kernel_rfl) Tryz.func6 (by
   unfold joinedFacts;simp only[Bool.and_eq_true];and_intros
   ·exact F9
   ·exact Fa
   ·exact Fb
   ·exact Fd
   ·exact Fe
   ·exact Ff
   ·exact Fg
   ·exact Fh
   ·exact Fi
   ·exact F8
   ·exact Fj
   ·exact Fk
   ·exact Fl
   ·exact Eb
   ·exact Ec
   ·exact Ed
   ·exact Ee
   ·exact Ef
   ·exact Eg
   ·exact Eh
   ·exact Ei
   ·exact Ej
   ·exact Ek
   ·exact El
   ·exact Em
   ·exact En
   ·exact Eo
   ·exact Ep
   ·kernel_rfl
   ·exact Er
   ·exact Es
   ·exact Et)
  (of_decide_eq_true (by kernel_rfl)) (by unfold Func.isWrapper;first|(rw[if_pos (by decide +kernel)];kernel_rfl)|(rw[if_neg (by decide +kernel)];exact⟨rfl,rfl⟩))
  (fun os started H enc _=>zd os started H enc)
theorem vtodoAlone_card:Rows.VtodoAloneCardSaid:=
 Claim7.holds_tied_plain_at .later [] _ _ _ _ A5 (fun _ h=>by cases h) Fm (fun _ h=>by cases h) vtodoAlone_row_tie rfl ⟨rfl,rfl⟩ Fo rfl
  (fun f fn hf hfn=>by
    obtain rfl:f=6:=Option.some.inj (Fp.symm.trans hf) |>.symm;obtain rfl:fn=Tryz.f6:=(Option.some.inj (Tryz.func6.symm.trans hfn)).symm;refine⟨Fq,fun j t ht=>?_⟩;have hall:Tryz.f6.params.all (fun t=>!Tryz.prog.wantsStandIn t)=true:=by kernel_rfl
    have:=Array.all_eq_true_iff_forall_mem.1 hall t (Array.mem_of_getElem? ht)
    exact(by simpa using this:Tryz.prog.wantsStandIn t=false))
  Fr
end Go.Proofs.YtcjeehebikeghaaGreatDoor
