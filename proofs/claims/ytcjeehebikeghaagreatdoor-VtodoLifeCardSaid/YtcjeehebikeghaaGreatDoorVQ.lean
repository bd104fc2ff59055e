/- THE LAW VtodoOrder, walked. No conditions. -/
import Derived.Test.YtcjeehebikeghaaGreatDoorVP
set_option linter.unusedVariables false
set_option linter.unusedSimpArgs false
set_option maxRecDepth 100000
set_option maxHeartbeats 16000000
namespace Go.Vs.YtcjeehebikeghaaGreatDoor.Vt
open Go.Proofs Go.Vs.U8 Go.Vs.Pa Go.Vs.Nu Go.Vs.Mo Go.Vs.Vt Go.Vs.YtcjeehebikeghaaGreatDoor.Rc
theorem OB(l:List Ln)(n:Str):aE l n=(l.map (·.n)).count n:=by
 induction l with
 |nil=>rfl
 |cons x r ih=>
  simp only[aE,ck,List.filter_cons,List.map_cons,List.count_cons]at ih ⊢;by_cases h:x.n=n<;>simp[h,ih]
theorem OC{l:List Ln}(h:∀x∈l,aE l x.n=1):(l.map (·.n)).Nodup:=by
 rw[List.nodup_iff_count];intro n;by_cases hn:n∈l.map (·.n)
 ·obtain⟨x,hx,rfl⟩:=List.mem_map.1 hn;rw[←OB,h x hx];exact Nat.le_refl 1
 ·rw[List.count_eq_zero_of_not_mem hn];omega
theorem wA{l:List Ln}{f:Fc}(hv:j6 1000 l)(h:ig l=.ok f):FitF f:=by
 unfold ig at h;split at h
 ·cases h
 ·next hl=>
  have gen:∀(r:List Ln) (i:Nat) (g:Fc),i+r.length≤24→(∀x∈r,x.v.length≤1000)→Wi i g→gK l r i g=.ok f→FitF f:=by
   intro r
   induction r with
   |nil=>
    intro i g _ _ hI hg;unfold gK at hg;split at hg
    ·cases hg;exact hI.1
    ·cases hg
   |cons x r ih=>
    intro i g hi hr hI hg;unfold gK at hg;split at hg
    ·exact ih (i+1) _ (by simp at hi;omega) (fun y hy=>hr y (List.mem_cons_of_mem _ hy)) (GE hI (by simp at hi;omega) (hr x (by simp))) hg
    ·cases hg
  exact gen l 0 Ml (by omega) hv QY h
theorem zk{l:List Ln}(h:nY l=true):j6 1000 l:=fun x hx=>by
 simp only[nY,Bool.and_eq_true,decide_eq_true_eq,List.all_eq_true,QI]at h;have:=(h.2 x hx).2.1;omega
theorem Wq(l:List Ln)(n:Int)(hn:0≤n∧n≤255):Fn G2 Tryz.prog kW [.slice (ls l),.int .u8 n] (.bool true):=by
 refine ag hm wY (by simp) ?_;have hS:=up (C2 l);simp[qg,qh];refine aa hS ?_;cases h0:nY l with
 |false=>
  simp(disch:=omega)[wl];refine aa fI ?_;simp
 |true=>
  obtain⟨hl,hf⟩:=yT h0;have hv:=zk h0;by_cases h1:l.length=0
  ·simp(disch:=omega)[wl,be,h1];refine aa fI ?_;simp
  have hO:=up (Lh l (by omega) hf);simp(disch:=omega)[wl,be,h1];refine aa hO ?_;simp;refine bS hm [] (fun i:Nat=>[(6,.val (.int .i64 i))]) (fun _=>[]) (fun i=>i≤l.length∧∀x∈l.take i,aE l x.n=1) (fun i=>l.length-i) 0 ⟨by omega,by simp⟩ ?_ ?_
  ·simp;exact bT
  rintro i ⟨hi,hc⟩;simp;by_cases h:i<l.length
  ·obtain⟨x,hx⟩:∃x,l[i]=x:=⟨_,rfl⟩;have hgx:=pK h hx;have hN:=up (wL l x.n (by omega));simp(disch:=omega)[wl,be,hgx];refine aa hN ?_;by_cases h2:aE l x.n=1
   ·simp(disch:=omega)[wl,h2];refine aq (i+1) ⟨by omega,fun y hy=>?_⟩ (by omega) ?_
    ·rw[List.take_succ_eq_append_getElem h,hx]at hy;rcases List.mem_append.1 hy with hy|hy
     ·exact hc y hy
     ·rw[List.mem_singleton.1 hy];exact h2
    simp;exact ap rfl rfl (by simp[bv,aC,ac,be,h1]) (by simp[cC,ac,be,h1]) (by simp[ct])
   ·simp(disch:=omega)[wl,h2];refine aa fI ?_;simp
  ·obtain rfl:i=l.length:=by omega
   rw[List.take_length]at hc;have hd:=OC hc;have hlp:(0:Int)<l.length:=by omega
   have k1:0≤n.tmod l.length:=Int.tmod_nonneg _ hn.1;have k2:n.tmod l.length<l.length:=Int.tmod_lt_of_pos _ hlp;have hne:¬l=[]:=fun e=>h1 (by rw[e];rfl)
   simp(disch:=omega)[wl,be];refine⟨hne,⟨⟨k1,by omega⟩,wx l⟩,⟨by omega,fun r hr=>wx l r (List.mem_of_mem_take (List.mem_of_mem_drop hr))⟩,⟨⟨k1,by omega⟩,wx l⟩,⟨by omega,fun r hr=>wx l r (List.mem_of_mem_take hr)⟩,?_⟩;obtain⟨k,hk⟩:∃k,(n.tmod ↑l.length).toNat=k:=⟨_,rfl⟩;obtain⟨m,hm2⟩:∃m,l.drop k++l.take k=m:=⟨_,rfl⟩
   have hme:List.drop k (List.take l.length (ls l))++List.take k (ls l)=ls m:=by
    rw[←hm2,List.take_of_length_le (by rw[be];omega)];simp[ls,List.map_drop,List.map_take]
   have hperm:l.Perm m:=by
    rw[←hm2];exact(List.Perm.of_eq (List.take_append_drop k l).symm).trans List.perm_append_comm
   have mf:ew m:=fun x hx=>hf x (hperm.mem_iff.2 hx)
   have mv:j6 1000 m:=fun x hx=>hv x (hperm.mem_iff.2 hx)
   have hR1:=jF l hf hv (by omega);have hR2:=jF m mf mv (by rw[←hperm.length_eq];omega);refine aa hR1 ?_;rcases SO hperm hd with⟨f,e1,e2⟩|⟨e,p,e',p',e1,e2,e3,e4⟩
   ·have hF:=wA hv e1;have hB:=fn_Back f hF;have hSm:=GG f hF;rw[e2]at hR2;rw[e1];simp only[Hn,Fc.iv,uf,cells,List.cons_append,List.nil_append]at hB hSm hR2 ⊢;simp(disch:=omega)[wl,hk,hme];refine aa hR2 ?_;simp;refine aa hB ?_;simp;refine aa hB ?_;simp;refine aa hSm ?_;simp;refine aa fI ?_;simp;rfl
   ·rw[e2]at hR2;rw[e1];have hF:FitF Mk:=⟨mh,mh,mh,mh,by simp[Mk],by simp[Mk],by simp[Mk],by simp[Mk],by simp[Mk],by simp[Mk],by simp[wa,Mk,OF],by simp[Mk,OF],by simp[Mk,OF],by simp[Mk],by simp[Mk]⟩;have hB:=fn_Back Mk hF;have hSm:=GG Mk hF;obtain⟨t,v,hv1⟩:=cH e [(p:Int)];obtain⟨t',v',hv2⟩:=cH e' [(p':Int)];simp only[Hn,hv1,hv2,Fc.iv,uf,cells,List.cons_append,List.nil_append]at hB hSm hR2 ⊢;simp(disch:=omega)[wl,hk,hme];refine aa hR2 ?_;simp;refine aa hB ?_;simp;refine aa hB ?_;simp;refine aa hSm ?_;simp;refine aa fI ?_;simp;rfl
theorem Zg{n:Int}(h:(Lit.int .u8 n).wf=true):0≤n∧n≤255:=by
 simp[Lit.wf]at h;have h1:IntKind.u8.max=255:=by rfl
 have h2:IntKind.u8.min=0:=by rfl
 simp only[h1,h2]at h;exact h
theorem params_psL:∀ {rows:List (List IV)},(∀row∈rows,Sh (.struct [.str,.slice .str]) row)→∃l,rows=ps l
 |[],_=>⟨[],rfl⟩
 |r::rs,h=>by
  obtain⟨a,b,rfl,⟨s,rfl,_⟩,c,d,rfl,⟨rows',rfl,_,hr⟩,hd⟩:=h r (by simp);have hd:d=[]:=hd;subst hd;obtain⟨v,rfl⟩:=FN hr;obtain⟨l,hl⟩:=params_psL (rows:=rs) (fun x hx=>h x (by simp[hx]));exact⟨⟨s,v⟩::l,by rw[hl];rfl⟩
def scL:Sc:=.struct [.str,.slice (.struct [.str,.slice .str]),.str]
theorem line_of:∀ {row:List IV},Sh scL row→∃x:Ln,row=[.str x.n,.slice (ps x.p),.str x.v]
 |r,h=>by
  obtain⟨a,b,rfl,⟨s,rfl,_⟩,c,d,rfl,⟨rows',rfl,_,hr⟩,e,f,rfl,⟨t,rfl,_⟩,hf⟩:=h;have hf:f=[]:=hf;subst hf;obtain⟨l,rfl⟩:=params_psL hr;exact⟨⟨s,l,t⟩,rfl⟩
theorem lines_of:∀ {rows:List (List IV)},(∀row∈rows,Sh scL row)→∃l,rows=ls l
 |[],_=>⟨[],rfl⟩
 |r::rs,h=>by
  obtain⟨x,rfl⟩:=line_of (h r (by simp));obtain⟨l,hl⟩:=lines_of (rows:=rs) (fun x hx=>h x (by simp[hx]));exact⟨x::l,by rw[hl];rfl⟩
theorem VtodoOrder_true(args:List IV)(h:S4 [.slice scL,.int .u8] args):Fn G2 Tryz.prog kW args (.bool true):=by
 obtain⟨v,b,rfl,⟨r0,hr0,_,h0⟩,x,d,rfl,⟨n,hn,hw⟩,hd⟩:=h;have hd:d=[]:=hd;subst hd;simp only[List.cons.injEq,and_true]at hr0 hn;subst hr0 hn;obtain⟨l,rfl⟩:=lines_of h0;exact Wq l n (Zg hw)
end Go.Vs.YtcjeehebikeghaaGreatDoor.Vt
