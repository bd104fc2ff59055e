/- The walk of the statement LineTells. No conditions. -/
import Derived.Test.YtcjeehebikeghaaGreatDoorCC
set_option linter.unusedVariables false
set_option linter.unusedSimpArgs false
set_option maxRecDepth 100000
set_option maxHeartbeats 64000000
namespace Go.Vs.YtcjeehebikeghaaGreatDoor
open Go.Proofs Go.Vs.U8 Go.Vs.Pa
theorem set_len(l:List Ln)(x:Ln):(oP l x).length≤l.length+1:=by
 have:=wM x l false;unfold oP;split
 ·omega
 ·simp;omega
theorem drop_len(l:List Ln)(n:Str):(br l n).length≤l.length:=List.length_filter_le _ _
theorem FN:∀ {rows:List (List IV)},(∀row∈rows,Sh .str row)→∃v,rows=ts v
 |[],_=>⟨[],rfl⟩
 |r::rs,h=>by
  obtain⟨s,hs,_⟩:=h r (by simp);obtain⟨v,hv⟩:=FN (rows:=rs) (fun x hx=>h x (by simp[hx]));exact⟨s::v,by rw[hs,hv];rfl⟩
theorem params_psL:∀ {rows:List (List IV)},(∀row∈rows,Sh (.struct [.str,.slice .str]) row)→∃l,rows=ps l
 |[],_=>⟨[],rfl⟩
 |r::rs,h=>by
  obtain⟨a,b,rfl,⟨s,rfl,_⟩,c,d,rfl,⟨rows',rfl,_,hr⟩,hd⟩:=h r (by simp);have hd:d=[]:=hd;subst hd;obtain⟨v,rfl⟩:=FN hr;obtain⟨l,hl⟩:=params_psL (rows:=rs) (fun x hx=>h x (by simp[hx]));exact⟨⟨s,v⟩::l,by rw[hl];rfl⟩
def scL:Sc:=.struct [.str,.slice (.struct [.str,.slice .str]),.str]
theorem line_of:∀ {row:List IV},Sh scL row→∃x:Ln,row=[.str x.n,.slice (ps x.p),.str x.v]
 |r,h=>by
  obtain⟨a,b,rfl,⟨s,rfl,_⟩,c,d,rfl,⟨rows',rfl,_,hr⟩,e,f,rfl,⟨t,rfl,_⟩,hf⟩:=h;have hf:f=[]:=hf;subst hf;obtain⟨l,rfl⟩:=params_psL hr;exact⟨⟨s,l,t⟩,rfl⟩
theorem lines_of:∀ {rows:List (List IV)},(∀row∈rows,Sh scL row)→∃l,rows=ls l
 |[],_=>⟨[],rfl⟩
 |r::rs,h=>by
  obtain⟨x,rfl⟩:=line_of (h r (by simp));obtain⟨l,hl⟩:=lines_of (rows:=rs) (fun x hx=>h x (by simp[hx]));exact⟨x::l,by rw[hl];rfl⟩
theorem drop_drop(l:List Ln)(n:Str):br (br l n) n=br l n:=by
 simp only[br];rw[List.filter_filter];congr 1;funext a;cases ck n a<;>rfl
theorem drop_length(n:Str):∀l:List Ln,(br l n).length+aE l n=l.length
 |[]=>rfl
 |y::r=>by
  have ih:=drop_length n r;simp only[br,aE]at ih ⊢;cases hb:ck n y<;>simp[hb]<;>omega
end Go.Vs.YtcjeehebikeghaaGreatDoor
