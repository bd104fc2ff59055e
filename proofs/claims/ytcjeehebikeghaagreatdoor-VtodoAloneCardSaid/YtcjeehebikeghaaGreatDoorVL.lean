/- A part of a proof. No conditions. -/
import Derived.Test.YtcjeehebikeghaaGreatDoorVK
set_option linter.unusedVariables false
set_option linter.unusedSimpArgs false
set_option maxRecDepth 100000
set_option maxHeartbeats 16000000
namespace Go.Vs.YtcjeehebikeghaaGreatDoor.Vt
open Go.Proofs Go.Vs.U8 Go.Vs.Pa Go.Vs.Nu Go.Vs.Mo Go.Vs.Vt Go.Vs.YtcjeehebikeghaaGreatDoor.Rc
theorem TX{l:List Ln}{n:Str}{x:Ln}(h:d7 l n=some x):x∈l:=List.mem_of_find?_eq_some h
theorem MK{l:List Ln}(hf:fU l){n v:Str}(hn:n.length<100000)(hv:v.length<100000):FitX ⟨n,Ly l n,v⟩:=by
 unfold Ly;cases h:d7 l n with
 |none=>exact⟨hn,by simp,⟨by simp,by simp,by simp⟩,hv⟩
 |some x=>
  have:=hf x (TX h);exact⟨hn,this.p,this.f,hv⟩
theorem rK{l:List Ln}(hf:fU l){n v:Str}(hn:n.length<100000)(hv:v.length<100000):fU (kW l n v):=by
 intro y hy;rcases qE (by rw[<-ud];exact hy)with h|h
 ·rw[h];exact MK hf hn hv
 ·exact hf y h
theorem E3{l:List Ln}{n v:Str}{B:Nat}(hf:∀x∈l,x.v.length<=B)(hv:v.length<=B):∀x∈kW l n v,x.v.length<=B:=by
 intro y hy;rcases qE (by rw[<-ud];exact hy)with h|h
 ·rw[h];exact hv
 ·exact hf y h
theorem Id(l:List Ln)(n v:Str):(kW l n v).length<=l.length+1:=by
 have:=DG l n v true;simpa[oB]using this
theorem Kk{l:List Ln}(hf:fU l){n v:Str}{b:Bool}(hn:n.length<100000)(hv:v.length<100000):fU (oB l n v b):=by
 unfold oB;split
 ·exact rK hf hn hv
 ·exact fun x hx=>hf x (ki hx)
theorem yX(l:List Ln)(n v:Str)(hf:fU l)(hl:l.length<100000)(hn:n.length<100000)(hv:v.length<100000):Fn G2 T_ 79 [.slice (ls l),.str n,.str v] (.slice (ls (kW l n v))):=by
 refine ag hm I1 (by simp) ?_;have hG:=up (Mr l n hl hf);have hS:=up (Hz l ⟨n,Ly l n,v⟩ hl hf (MK hf hn hv));simp only[Ln.iv]at hS;rw[ud];simp[AZ];refine aa hG ?_;unfold Ly at hS |-;cases h:d7 l n with
 |none=>
  rw[h]at hS;simp only at hS;simp[O4,Ln.iv];refine aa hS ?_;simp
 |some x=>
  rw[h]at hS;simp only at hS;simp[O4,Ln.iv];refine aa hS ?_;simp
theorem Ie(l:List Ln)(n v:Str)(b:Bool)(hf:fU l)(hl:l.length<100000)(hn:n.length<100000)(hv:v.length<100000):Fn G2 T_ 63 [.slice (ls l),.str n,.str v,.bool b] (.slice (ls (oB l n v b))):=by
 refine ag hm F1 (by simp) ?_;have hP:=yX l n v hf hl hn hv;have hD:=up (gp l n hl hf);simp[yL];cases b with
 |true=>
  simp;refine aa hP ?_;simp[oB]
 |false=>
  simp;refine aa hD ?_;simp[oB]
theorem fn_Clone(l:List Ln)(hl:l.length<100000):Fn G2 T_ 61 [.slice (ls l)] (.slice (ls l)):=by
 refine ag hm uh (by simp) ?_;simp[mZ];cases l with
 |nil=>simp[ls]
 |cons x r=>
  simp[ls];simp at hl;omega
theorem VO{x:Lif}(h:uQ x=0):-1<=x.p/\x.p<=100/\-1<=x.d/\x.d<=315537897599/\x.s<=4:=by
 unfold uQ at h;split at h
 ·simp at h
 ·split at h
  ·simp at h
  ·omega
theorem TY{v:Mom} : dQ v≠[]:=by
 intro h;have:=congrArg List.length h;simp[dQ,Mo.dayT,iP]at this
theorem RI(x:Lif):(u9 x≠[])=(0<=x.d):=by
 unfold u9;by_cases h:0<=x.d
 ·simp[h,TY]
 ·simp[h]
theorem OD(x:Lif):(u9 x).length<=16:=by
 unfold u9;split
 ·exact qA _
 ·simp
theorem itoa_len{n:Int}(h:-1<=n/\n<=100):(Lib.itoa n).length<=6:=by
 have:=Gg (n:=n) (by omega);unfold Lib.itoa;split
 ·simp only[List.length_cons];omega
 ·rw[show n.toNat=n.natAbs by omega];omega
theorem Kl(s:Int):(sh s).length<=12:=by
 unfold sh;split
 ·decide
 split
 ·decide
 split
 ·decide
 split<;>decide
theorem Km(l:List Ln)(x:Lif)(hf:fU l)(hl:l.length<90000)(hs:0<=x.s):Fn G2 T_ 23 [.slice (ls l),Lif.iv x] (.slice (ls (DD l x))):=by
 refine ag hm yI (by simp) ?_;have hC:=Gw x;have hCl:=fn_Clone l (by omega);simp only[Lif.iv]at hC;by_cases h1:uQ x=0
 case neg=>
  have hR:DD l x=l:=by unfold DD;rw[if_pos h1]
  simp[lN,Lif.iv];refine aa hC ?_;simp(disch:=omega)[wl,h1];refine aa hCl ?_;simp[hR]
 obtain⟨b1,b2,b3,b4,b5⟩:=VO h1;have hN:=K2 x.s;have hI:=up (Td x.p (by omega) (by omega));have hP:=uJ ⟨3,x.d⟩ (show(0:Int)<=3 by decide);obtain⟨R,hR⟩:∃R,DD l x=R:=⟨_,rfl⟩;rw[hR];unfold DD at hR;rw[if_neg (by simp[h1])]at hR;have q1:=DG l dq (sh x.s) (decide (x.s≠0));have f1:fU (oB l dq (sh x.s) (decide (x.s≠0))):=Kk hf (by decide) (by have:=Kl x.s;omega);have hT1:=Ie l dq (sh x.s) (decide (x.s≠0)) hf (by omega) (by decide) (by have:=Kl x.s;omega);obtain⟨l1,e1⟩:∃l1,oB l dq (sh x.s) (decide (x.s≠0))=l1:=⟨_,rfl⟩;rw[e1]at hT1 f1 q1 hR;have q2:=DG l1 ii (Lib.itoa x.p) (decide (0<=x.p));have f2:fU (oB l1 ii (Lib.itoa x.p) (decide (0<=x.p))):=Kk f1 (by decide) (by have:=itoa_len ⟨b1,b2⟩;omega);have hT2:=Ie l1 ii (Lib.itoa x.p) (decide (0<=x.p)) f1 (by omega) (by decide) (by have:=itoa_len ⟨b1,b2⟩;omega);obtain⟨l2,e2⟩:∃l2,oB l1 ii (Lib.itoa x.p) (decide (0<=x.p))=l2:=⟨_,rfl⟩;rw[e2]at hT2 f2 q2 hR;have hT3:=Ie l2 bP (u9 x) (decide (0<=x.d)) f2 (by omega) (by decide) (by have:=OD x;omega);rw[hR]at hT3;simp only[dq,ii,bP,ne_eq,decide_not]at hT1 hT2 hT3;have hmo:0<=x.d->gE ⟨3,x.d⟩=0:=fun h=>by unfold gE;rw[if_neg (by simp),if_neg (by simp only;omega),if_neg (by simp)]
 simp[lN,Lif.iv];refine aa hC ?_;by_cases h2:0<=x.d
 ·have hd:u9 x=dQ ⟨3,x.d⟩:=by unfold u9;rw[if_pos h2]
  unfold Oh at hP;rw[hmo h2,if_pos rfl,<-hd]at hP;rw[decide_eq_true h2]at hT3;have hne:u9 x≠[]:=by rw[RI];exact h2
  simp(disch:=omega)[wl,h1,h2];refine aa hP ?_;simp;refine aa hN ?_;simp;refine aa hT1 ?_;simp;refine⟨rfl,?_⟩;refine aa hI ?_;simp;refine aa hT2 ?_;simp;refine⟨rfl,?_⟩;simp[hne];refine aa hT3 ?_;simp
 ·rw[decide_eq_false h2]at hT3;have hd:u9 x=[]:=by unfold u9;rw[if_neg h2]
  rw[hd]at hT3;simp(disch:=omega)[wl,h1,h2];refine aa hN ?_;simp;refine aa hT1 ?_;simp;refine⟨rfl,?_⟩;refine aa hI ?_;simp;refine aa hT2 ?_;simp;refine⟨rfl,?_⟩;refine aa hT3 ?_;simp
theorem RJ(n:Str):Fn G2 T_ 66 [.str n] (.bool (decide (n∈ub))):=by
 refine ag hm DM (by simp) ?_;by_cases hn:n∈ub
 ·simp only[ub,List.mem_cons,List.not_mem_nil,or_false]at hn;rcases hn with rfl|rfl|rfl|rfl|rfl|rfl|rfl|rfl|rfl|rfl|rfl|rfl|rfl<;>simp[qb,ub,cZ,be,dq,ii,bP,oz,bH,bM,bj,fX,dk,EW,EX]
 ·have hd:decide (n∈ub)=false:=decide_eq_false hn;rw[hd];simp[ub,cZ,be,dq,ii,bP,oz,bH,bM,bj,fX,dk,EW,EX]at hn;obtain⟨a1,a2,a3,a4,a5,a6,a7,a8,a9,a10,a11,a12,a13⟩:=hn;simp[qb,a1,a2,a3,a4,a5,a6,a7,a8,a9,a10,a11,a12,a13]
theorem UC{l:List Ln} : ∀ {r:List Ln} {i:Nat} {f:Fc} {e:Int} {p:Nat},iU l r i f=.no e p->e≠0
 |[],i,f,e,p,h=>by
  unfold iU at h;split at h
  ·cases h
  ·next h1=>cases h;exact h1
 |x::r,i,f,e,p,h=>by
  unfold iU at h;split at h
  ·exact UC h
  ·next h1=>cases h;exact h1
theorem TZ{l:List Ln}{e:Int}{p:Nat}(h:kS l=.no e p):e≠0:=by
 unfold kS at h;split at h
 ·cases h;decide
 ·exact UC h
def Wj:PaX->IV
 |.no e p=>.tuple [.slice [],cS e [(p:Int)]]
 |.ok l=>.tuple [.slice (ls l),.nili]
def jo(B:Nat)(l:List Ln):Prop:=∀x∈l,x.v.length<=B
theorem xd{l:List Ln}{x:Ln}(hf:fU l)(fx:FitX x):fU (js l x):=by
 unfold js;split
 ·exact fun y hy=>hf y (ki hy)
 ·intro y hy;rcases qE hy with h|h
  ·rw[h];exact fx
  ·exact hf y h
theorem uu{l:List Ln}{x:Ln}{B:Nat}(hf:jo B l)(fx:x.v.length<=B):jo B (js l x):=by
 unfold js;split
 ·exact fun y hy=>hf y (ki hy)
 ·intro y hy;rcases qE hy with h|h
  ·rw[h];exact fx
  ·exact hf y h
theorem xe(l:List Ln)(x:Ln):(js l x).length<=l.length+1:=by
 unfold js;split
 ·have:=drop_len l x.n;omega
 ·have:=set_len x l;split at this<;>omega
theorem RK(l c:List Ln)(hf:fU l)(hv:jo 1000 l)(cf:fU c)(cv:jo 1000 c)(hl:l.length<1000)(hc:c.length<1000):Fn G2 T_ 24 [.slice (ls l),.slice (ls c)] (Wj (HT l c)):=by
 refine ag hm DI (by simp) ?_;obtain⟨R,hR⟩:∃R,HT l c=R:=⟨_,rfl⟩;rw[hR];unfold HT at hR;simp[we];refine ce hm [] (fun p:Nat×List Ln=>[(13,.val (.int .i64 p.1)),(0,.val (.slice (ls p.2)))]) (fun _=>[]) (fun p=>p.1<=c.length/\fU p.2/\jo 1000 p.2/\p.2.length<=l.length+p.1/\yz c.length (c.drop p.1) p.1 p.2=R) (fun p=>c.length-p.1) (0,l) ⟨by simp,hf,hv,by simp,by simpa using hR⟩ ?_ ?_
 ·simp;exact bQ
 rintro⟨i,m⟩ ⟨hi,mf,mv,hml,hg⟩;dsimp only at hi mf mv hml hg;clear hR;simp[bt];by_cases h:i<c.length
 ·obtain⟨x,hx⟩:∃x,c[i]=x:=⟨_,rfl⟩;have hm':x∈c:=hx▸List.getElem_mem h;have hgx:=tz h hx;have fx:=cf x hm';have hC:=up (Gd x fx);have hF:=RJ x.n;have hD:=up (gp m x.n (by omega) mf);have hS:=up (Hz m x (by omega) mf fx);rw[List.drop_eq_getElem_cons h,hx]at hg;simp only[yz]at hg;simp only[Ln.iv]at hC hS
  have hE:∀e:Int,e≠0->Fn G2 T_ 38 [.int .i64 e,.int .i64 i] (cS e [(i:Int)]):=fun e he=>by
   have:=up (fd e i)
   rwa[if_neg he]at this
  simp(disch:=omega)[wl,hgx];refine aa hC ?_;by_cases c1:fV x=0
  case neg=>
   have he:uc x=fV x:=by unfold uc;rw[if_pos c1]
   rw[if_neg (by rw[he];exact c1),he]at hg;subst hg;simp(disch:=omega)[wl,c1];refine aa (hE _ c1) ?_;simp[Wj]
  simp(disch:=omega)[wl,c1];refine aa hF ?_;by_cases c2:x.n∈ub
  ·have he:uc x=11:=by unfold uc;rw[if_neg (by simp[c1]),if_pos c2]
   rw[if_neg (by rw[he];decide),he]at hg;subst hg;simp(disch:=omega)[wl,c2];refine aa (hE _ (by decide)) ?_;simp[Wj]
  have he:uc x=0:=by unfold uc;rw[if_neg (by simp[c1]),if_neg c2]
  rw[if_pos he]at hg;simp(disch:=omega)[wl,c2];by_cases c3:x.v=[]
  ·by_cases c4:x.p=[]
   ·have hp:js m x=bf m x.n:=by unfold js;rw[if_pos ⟨c3,c4⟩]
    have hps:(ps x.p).length=0:=by simp[c4,ps]
    simp(disch:=omega)[wl,c3,hps];refine aa hD ?_;simp(disch:=omega)[wl,bt];refine au (i+1,js m x) ⟨by omega,xd mf fx,uu mv (cv x hm'),by have:=xe m x;simp only;omega,hg⟩ (by simp;omega) ?_;simp[hp];exact ap rfl rfl (by simp[bp,aC,ac,bt]) (by simp[ch,ac,bt]) (by simp[cg])
   ·have hp:js m x=nv m x:=by unfold js;rw[if_neg (fun h=>c4 h.2)]
    rw[c3]at hS;have hps:¬(ps x.p).length=0:=by simp[c4,ps]
    simp(disch:=omega)[wl,c3,hps];refine aa hS ?_;simp(disch:=omega)[wl,bt];refine au (i+1,js m x) ⟨by omega,xd mf fx,uu mv (cv x hm'),by have:=xe m x;simp only;omega,hg⟩ (by simp;omega) ?_;simp[hp];exact ap rfl rfl (by simp[bp,aC,ac,bt]) (by simp[ch,ac,bt]) (by simp[cg])
  ·have hp:js m x=nv m x:=by unfold js;rw[if_neg (fun h=>c3 h.1)]
   simp(disch:=omega)[wl,c3];refine aa hS ?_;simp(disch:=omega)[wl,bt];refine au (i+1,js m x) ⟨by omega,xd mf fx,uu mv (cv x hm'),by have:=xe m x;simp only;omega,hg⟩ (by simp;omega) ?_;simp[hp];exact ap rfl rfl (by simp[bp,aC,ac,bt]) (by simp[ch,ac,bt]) (by simp[cg])
 ·obtain rfl:i=c.length:=by omega
  rw[List.drop_length]at hg;simp only[yz]at hg;have hRd:=oL m mf mv (by omega);simp(disch:=omega)[wl];refine aa hRd ?_;cases hr:kS m with
  |no e p=>
   rw[hr]at hg;simp only at hg;subst hg;have hW:=DX e [(p:Int)];have hE:=up (fd e c.length);rw[if_neg (TZ hr)]at hE;obtain⟨t,v,h'⟩:=dg e [(p:Int)];rw[h']at hW;simp only[Kj,h',Fc.iv,zf,cells,List.cons_append,List.nil_append];simp(disch:=omega)[wl];refine aa hW ?_;simp[bt];refine aa hE ?_;simp[Wj]
  |ok f=>
   rw[hr]at hg;simp only at hg;subst hg;have hCl:=fn_Clone m (by omega);simp only[Kj,Fc.iv,zf,cells,List.cons_append,List.nil_append];simp(disch:=omega)[wl];refine aa hCl ?_;simp[Wj]
end Go.Vs.YtcjeehebikeghaaGreatDoor.Vt
