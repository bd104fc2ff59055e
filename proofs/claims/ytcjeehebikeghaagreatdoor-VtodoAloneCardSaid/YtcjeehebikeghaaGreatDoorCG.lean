/- A part of a proof. No conditions. -/
import Derived.Test.YtcjeehebikeghaaGreatDoorCC
set_option linter.unusedVariables false
set_option linter.unusedSimpArgs false
set_option maxRecDepth 100000
set_option maxHeartbeats 64000000
namespace Go.Vs.YtcjeehebikeghaaGreatDoor
open Go.Proofs Go.Vs.U8 Go.Vs.Pa
theorem set_len(l:List Ln)(x:Ln):(nv l x).length<=l.length+1:=by
 have:=uG x l false;unfold nv;split
 ·omega
 ·simp;omega
theorem drop_len(l:List Ln)(n:Str):(bf l n).length<=l.length:=List.length_filter_le _ _
theorem Db:∀ {rows:List (List IV)},(∀row∈rows,Sh .str row)->∃v,rows=ts v
 |[],_=>⟨[],rfl⟩
 |r::rs,h=>by
  obtain⟨s,hs,_⟩:=h r (by simp);obtain⟨v,hv⟩:=Db (rows:=rs) (fun x hx=>h x (by simp[hx]));exact⟨s::v,by rw[hs,hv];rfl⟩
theorem params_psL:∀ {rows:List (List IV)},(∀row∈rows,Sh (.struct [.str,.slice .str]) row)->∃l,rows=ps l
 |[],_=>⟨[],rfl⟩
 |r::rs,h=>by
  obtain⟨a,b,rfl,⟨s,rfl,_⟩,c,d,rfl,⟨rows',rfl,_,hr⟩,hd⟩:=h r (by simp);have hd:d=[]:=hd;subst hd;obtain⟨v,rfl⟩:=Db hr;obtain⟨l,hl⟩:=params_psL (rows:=rs) (fun x hx=>h x (by simp[hx]));exact⟨⟨s,v⟩::l,by rw[hl];rfl⟩
def scL:Sc:=.struct [.str,.slice (.struct [.str,.slice .str]),.str]
theorem line_of:∀ {row:List IV},Sh scL row->∃x:Ln,row=[.str x.n,.slice (ps x.p),.str x.v]
 |r,h=>by
  obtain⟨a,b,rfl,⟨s,rfl,_⟩,c,d,rfl,⟨rows',rfl,_,hr⟩,e,f,rfl,⟨t,rfl,_⟩,hf⟩:=h;have hf:f=[]:=hf;subst hf;obtain⟨l,rfl⟩:=params_psL hr;exact⟨⟨s,l,t⟩,rfl⟩
theorem lines_of:∀ {rows:List (List IV)},(∀row∈rows,Sh scL row)->∃l,rows=ls l
 |[],_=>⟨[],rfl⟩
 |r::rs,h=>by
  obtain⟨x,rfl⟩:=line_of (h r (by simp));obtain⟨l,hl⟩:=lines_of (rows:=rs) (fun x hx=>h x (by simp[hx]));exact⟨x::l,by rw[hl];rfl⟩
theorem drop_drop(l:List Ln)(n:Str):bf (bf l n) n=bf l n:=by
 simp only[bf];rw[List.filter_filter];congr 1;funext a;cases dr n a<;>rfl
theorem drop_length(n:Str):∀l:List Ln,(bf l n).length+aV l n=l.length
 |[]=>rfl
 |y::r=>by
  have ih:=drop_length n r;simp only[bf,aV]at ih |-;cases hb:dr n y<;>simp[hb]<;>omega
end Go.Vs.YtcjeehebikeghaaGreatDoor
