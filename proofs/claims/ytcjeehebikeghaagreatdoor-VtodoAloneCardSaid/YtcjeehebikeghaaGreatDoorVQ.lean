/- A part of a proof. No conditions. -/
import Derived.Test.YtcjeehebikeghaaGreatDoorVP
set_option linter.unusedVariables false
set_option linter.unusedSimpArgs false
set_option maxRecDepth 100000
set_option maxHeartbeats 16000000
namespace Go.Vs.YtcjeehebikeghaaGreatDoor.Vt
open Go.Proofs Go.Vs.U8 Go.Vs.Pa Go.Vs.Nu Go.Vs.Mo Go.Vs.Vt Go.Vs.YtcjeehebikeghaaGreatDoor.Rc
theorem E5{l:List Ln}{f:Fc}(hv:jo 1000 l)(h:kS l=.ok f):FitF f:=by
 unfold kS at h;split at h
 ·cases h
 ·next hl=>
  have gen:∀(r:List Ln) (i:Nat) (g:Fc),i+r.length<=24->(∀x∈r,x.v.length<=1000)->RG i g->iU l r i g=.ok f->FitF f:=by
   intro r
   induction r with
   |nil=>
    intro i g _ _ hI hg;unfold iU at hg;split at hg
    ·cases hg;exact hI.1
    ·cases hg
   |cons x r ih=>
    intro i g hi hr hI hg;unfold iU at hg;split at hg
    ·exact ih (i+1) _ (by simp at hi;omega) (fun y hy=>hr y (List.mem_cons_of_mem _ hy)) (DZ hI (by simp at hi;omega) (hr x (by simp))) hg
    ·cases hg
  exact gen l 0 Rp (by omega) hv MJ h
theorem LM{l:List Ln}(h:pJ l=true):jo 1000 l:=fun x hx=>by
 simp only[pJ,Bool.and_eq_true,decide_eq_true_eq,List.all_eq_true,Ms]at h;have:=(h.2 x hx).2.1;omega
theorem params_psL:∀ {rows:List (List IV)},(∀row∈rows,Sh (.struct [.str,.slice .str]) row)->∃l,rows=ps l
 |[],_=>⟨[],rfl⟩
 |r::rs,h=>by
  obtain⟨a,b,rfl,⟨s,rfl,_⟩,c,d,rfl,⟨rows',rfl,_,hr⟩,hd⟩:=h r (by simp);have hd:d=[]:=hd;subst hd;obtain⟨v,rfl⟩:=Db hr;obtain⟨l,hl⟩:=params_psL (rows:=rs) (fun x hx=>h x (by simp[hx]));exact⟨⟨s,v⟩::l,by rw[hl];rfl⟩
def scL:Sc:=.struct [.str,.slice (.struct [.str,.slice .str]),.str]
theorem line_of:∀ {row:List IV},Sh scL row->∃x:Ln,row=[.str x.n,.slice (ps x.p),.str x.v]
 |r,h=>by
  obtain⟨a,b,rfl,⟨s,rfl,_⟩,c,d,rfl,⟨rows',rfl,_,hr⟩,e,f,rfl,⟨t,rfl,_⟩,hf⟩:=h;have hf:f=[]:=hf;subst hf;obtain⟨l,rfl⟩:=params_psL hr;exact⟨⟨s,l,t⟩,rfl⟩
theorem lines_of:∀ {rows:List (List IV)},(∀row∈rows,Sh scL row)->∃l,rows=ls l
 |[],_=>⟨[],rfl⟩
 |r::rs,h=>by
  obtain⟨x,rfl⟩:=line_of (h r (by simp));obtain⟨l,hl⟩:=lines_of (rows:=rs) (fun x hx=>h x (by simp[hx]));exact⟨x::l,by rw[hl];rfl⟩
end Go.Vs.YtcjeehebikeghaaGreatDoor.Vt
