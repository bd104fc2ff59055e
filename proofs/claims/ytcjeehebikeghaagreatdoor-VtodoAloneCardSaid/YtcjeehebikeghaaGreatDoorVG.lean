/- A part of a proof. No conditions. -/
import Derived.Test.YtcjeehebikeghaaGreatDoorVD
set_option linter.unusedVariables false
set_option linter.unusedSimpArgs false
set_option maxRecDepth 100000
set_option maxHeartbeats 16000000
namespace Go.Vs.YtcjeehebikeghaaGreatDoor.Vt
open Go.Proofs Go.Vs.U8 Go.Vs.Pa Go.Vs.Nu Go.Vs.Mo Go.Vs.Vt Go.Vs.YtcjeehebikeghaaGreatDoor.Rc
def zf(f:Fc):List IV:=[.str f.uid,.str f.sm,.int .u8 f.st.k,.int .i64 f.st.s,.int .u8 f.b.k,.int .i64 f.b.s,.int .u8 f.e.k,.int .i64 f.e.s,.int .i64 f.sp,.int .u8 f.li.s,.int .i64 f.li.p,.int .i64 f.li.d,.int .i64 f.pr,.bool f.rd]++(cells f.ru++[.slice (ms f.i),.slice (ms f.o),.int .u8 f.at'.k,.int .i64 f.at'.s,.bool f.af])
def Fc.iv(f:Fc):IV:=.agg (zf f)
def yW(v:Mom):Prop:=0<=v.k/\0<=v.s/\v.s<=315537897599
structure FitF(f:Fc):Prop where
 st:yW f.st
 b:yW f.b
 e:yW f.e
 t:yW f.at'
 sp:-86399913600<=f.sp/\f.sp<=86399913600
 ls:0<=f.li.s
 il:f.i.length<100000
 ol:f.o.length<100000
 ik:∀v∈f.i,0<=v.k
 ok:∀v∈f.o,0<=v.k
 rf:zT f.ru
 uk:0<=f.ru.u.k
 rk:0<=f.ru.f
 ul:f.uid.length<100000
 pp:-1<=f.pr/\f.pr<=1000
theorem FitF.set{f:Fc}(h:FitF f):FitS f.b f.ru f.i f.o:=⟨h.b.1,h.uk,h.il,h.ol,h.ik,h.ok,h.rf⟩
theorem jF(k s:Int):Fn G2 T_ 58 [.agg [.int .u8 k,.int .i64 s]] (.bool (decide (k≠0))):=by
 refine ag hm DK (by simp) ?_;simp[wj]
theorem TP(f:Fc):Fn G2 T_ 86 [f.iv] (TO f.b f.ru f.i f.o):=by
 refine ag hm I2 (by simp) ?_;simp[B1,Fc.iv,zf,cells,TO]
theorem VH{f:Fc}(h:FitF f):-315537897599<=mN f/\mN f<=315537897599:=by
 obtain⟨_,hb,he,_,hs,_⟩:=h;unfold mN yW at *;split<;>omega
theorem VI(f:Fc)(h:FitF f):Fn G2 T_ 59 [.ref (zf f)] (.int .i64 (mN f)):=by
 refine ag hm mt (by simp) ?_;obtain⟨_,hb,he,_,hs,_⟩:=h;unfold yW at hb he;simp[ij,zf,cells];refine aa (jF f.b.k f.b.s) ?_;by_cases h1:f.b.k=0
 ·have hl:mN f=f.sp:=by unfold mN;rw[if_neg (by simp[h1])]
  simp(disch:=omega)[wl,h1,hl]
 ·simp(disch:=omega)[wl,h1];refine aa (jF f.e.k f.e.s) ?_;by_cases h2:f.e.k=0
  ·have hl:mN f=f.sp:=by unfold mN;rw[if_neg (by simp[h2])]
   simp(disch:=omega)[wl,h2,hl]
  ·have hl:mN f=f.e.s-f.b.s:=by unfold mN;rw[if_pos ⟨h1,h2⟩]
   simp(disch:=omega)[wl,h2,hl]
theorem BH(f:Fc):Fn G2 T_ 21 [f.iv] (.int .i64 (bD f)):=by
 refine ag hm EZ (by simp) ?_;simp[yG,Fc.iv,zf,cells];refine aa (jF f.at'.k f.at'.s) ?_;by_cases h1:f.at'.k=0
 ·have hl:bD f=f.b.s:=by unfold bD;rw[if_neg (by simp[h1])]
  simp(disch:=omega)[wl,h1,hl]
 ·cases h2:f.rd with
  |false=>
   have hl:bD f=f.b.s:=by unfold bD;rw[if_neg (by simp[h2])]
   simp(disch:=omega)[wl,h1,hl]
  |true=>
   have hl:bD f=f.at'.s:=by unfold bD;rw[if_pos ⟨h1,h2⟩]
   simp(disch:=omega)[wl,h1,hl]
theorem RA(f:Fc)(h:FitF f)(a:Int):Fn G2 T_ 19 [f.iv,.int .i64 a] (.tuple [.int .i64 (lL f a).1,.bool (lL f a).2]):=by
 refine ag hm DH (by simp) ?_;have hL:=VI f h;have hl:=VH h;have hT:=jF f.b.k f.b.s;obtain⟨R,hR⟩:∃R,lL f a=R:=⟨_,rfl⟩;rw[hR];unfold lL at hR;simp only[zf,cells]at hL;simp[wc,Fc.iv,zf,cells];by_cases h1:a<0
 ·rw[if_pos (.inl h1)]at hR;subst hR;simp(disch:=omega)[wl,h1]
 ·by_cases h2:315537897599<a
  ·rw[if_pos (.inr (.inl h2))]at hR;subst hR;simp(disch:=omega)[wl,h1,h2]
  ·simp(disch:=omega)[wl,h1,h2];refine aa hT ?_;by_cases h3:f.b.k=0
   ·rw[if_pos (.inr (.inr (.inl h3)))]at hR;subst hR;simp(disch:=omega)[wl,h3]
   ·simp(disch:=omega)[wl,h3];refine aa hL ?_;by_cases h4:315537897599<a+mN f
    ·rw[if_pos (.inr (.inr (.inr h4)))]at hR;subst hR;simp(disch:=omega)[wl,h4]
    ·rw[if_neg (by simp[h1,h2,h3,h4])]at hR;subst hR;simp(disch:=omega)[wl,h4]
theorem DV(f:Fc)(h:FitF f):Fn G2 T_ 17 [f.iv] (.tuple [.int .i64 (dX f).1,.bool (dX f).2]):=by
 refine ag hm HZ (by simp) ?_;have hT:=jF f.e.k f.e.s;have hI:=BH f;have hS:=RA f h (bD f);simp only[Fc.iv,zf,cells]at hI hS;simp[AV,Fc.iv,zf,cells];refine aa hT ?_;by_cases h1:f.e.k=0
 ·have hd:dX f=lL f (bD f):=by unfold dX;rw[if_neg (by simp[h1])]
  rw[h1]at hI hS;simp(disch:=omega)[wl,h1,hd];refine aa hI ?_;simp(disch:=omega)[wl];refine aa hS ?_;simp(disch:=omega)[wl];exact⟨rfl,by rw[hd],by rw[hd]⟩
 ·cases h2:f.rd with
  |true=>
   have hd:dX f=lL f (bD f):=by unfold dX;rw[if_neg (by simp[h2])]
   rw[h2]at hI hS;simp(disch:=omega)[wl,h1,hd];refine aa hI ?_;simp(disch:=omega)[wl];refine aa hS ?_;simp(disch:=omega)[wl];exact⟨rfl,by rw[hd],by rw[hd]⟩
  |false=>
   have hd:dX f=(f.e.s,true):=by unfold dX;rw[if_pos ⟨h1,h2⟩]
   simp(disch:=omega)[wl,h1,hd]
theorem BI(s:Str):yW (gq s).1:=by
 obtain⟨h1,h2,h3⟩:=Mt (v:=(gq s).1) (e:=(gq s).2) (s:=s) rfl;unfold yW;by_cases h:(gq s).2=0
 ·obtain⟨g1,g2,g3,g4,g5⟩:=uH (h1 h);omega
 ·rw[h2 h];decide
def Ik(p:Int×List Mom):IV:=.tuple [.slice (ms p.2),.int .i64 p.1]
theorem LB(a:List Mom)(v:Mom):ms (a++[v])=ms a++[[.int .u8 v.k,.int .i64 v.s]]:=by simp[ms]
theorem lQ(q:Option Pm)(a:List Mom):jc q [] a=(0,a):=rfl
theorem jY(q:Option Pm)(s:Str)(r:List Str)(a:List Mom):jc q (s::r) a=if (gq s).2≠0 then ((gq s).2,[])else if DB q (gq s).1.k then (4,[])else jc q r (a++[(gq s).1]):=rfl
theorem GA(q:Option Pm):∀(l:List Str) (a:List Mom),(jc q l a).2.length<=l.length+a.length
 |[],a=>by rw[lQ];simp
 |s::r,a=>by
  rw[jY];split
  ·simp
  ·split
   ·simp
   ·have:=GA q r (a++[(gq s).1]);simp at this |-;omega
theorem MG(c:UInt8)(s:Str):(parts c s).length<=s.length+1:=by
 rw[nN];have:=List.count_le_length (a:=c) (l:=s);omega
theorem LC:ts []=[]:=rfl
theorem ut(x:Ln)(fx:FitX x)(hv:x.v.length<50000):Fn G2 T_ 147 [x.iv] (Ik (cq x)):=by
 refine ag hm DO (by simp) ?_;have hFz:=up (By x.p Wg (by have:=fx.p;omega) (fun p hp=>by have:=fx.f.v p hp;omega));have hFv:=up (By x.p Dz (by have:=fx.p;omega) (fun p hp=>by have:=fx.f.v p hp;omega));have hSp:=up (sY x.v 44 (by omega));obtain⟨R,hR⟩:∃R,cq x=R:=⟨_,rfl⟩;rw[hR];unfold cq at hR;simp[wt,Ln.iv];refine aa hFz ?_;cases hz:gK x.p Wg with
 |some p=>
  rw[hz]at hR;simp at hR;subst hR;simp(disch:=omega)[wl,o7,Pm.iv,Ik,ms]
 |none=>
  rw[hz]at hR;simp at hR;simp(disch:=omega)[wl,o7,Pm.iv,LC];refine aa hFv ?_;obtain⟨l,hl⟩:∃l,parts 44 x.v=l:=⟨_,rfl⟩;have hll:=MG 44 x.v;rw[hl]at hSp hR hll
  have hls:∀s∈l,s.length<1000000:=fun s hs=>by
   have:=kc (c:=44) (v:=x.v) (hl▸hs);omega
  cases hq:gK x.p Dz with
  |none=>
   rw[hq]at hR;simp(disch:=omega)[wl,o7,Pm.iv,LC];refine aa hSp ?_;simp(disch:=omega)[wl,bE];refine ce hm [] (fun p:Nat×List Mom=>[(31,.val (.int .i64 p.1)),(8,.own 8 p.2.length)]) (fun p=>[(8,.arr p.2.length 2 (ms p.2)),(6,.box [.val (.str []),.val (.slice [])]),(4,.box [.val (.str []),.val (.slice [])])]) (fun p=>p.1<=l.length/\p.2.length<=p.1/\R=jc none (l.drop p.1) p.2) (fun p=>l.length-p.1) (0,[]) ⟨by simp,by simp,by simpa using hR.symm⟩ ?_ ?_
   ·simp[ms];exact cR.trans (fS (k:=8) 8 2 (by simp) (by simp[aC,ac])) (ap rfl rfl (by simp[St.adopt,bp,aC,ac,put,dT,SV.erase]) (by simp[St.adopt,ch,ac,put,cC,Ob.erase]) (by simp[St.adopt,cg]))
   rintro⟨i,a⟩ ⟨hi,ha,hg⟩;dsimp only at hi ha hg;clear hR;simp[bE];by_cases h:i<l.length
   ·obtain⟨s,hs⟩:∃s,l[i]=s:=⟨_,rfl⟩;have hgs:=rg h hs;have hP:=uI s (hls s (hs▸List.getElem_mem h));rw[List.drop_eq_getElem_cons h,hs,jY]at hg;have hmf:=BI s;obtain⟨⟨⟨k,t⟩,e⟩,hm'⟩:∃r,gq s=r:=⟨_,rfl⟩;rw[hm']at hP hg hmf;simp only[lK]at hP;simp(disch:=omega)[wl,hgs];refine aa hP ?_;by_cases h1:e=0
    ·rw[if_neg (by simp[h1])]at hg;by_cases h2:k=1
     ·rw[if_pos (by unfold DB;exact h2)]at hg;subst hg;simp(disch:=omega)[wl,h1,h2,Ik,ms]
     ·rw[if_neg (by unfold DB;exact h2)]at hg;simp(disch:=omega)[wl,h1,h2,gU];refine⟨by omega,?_⟩;refine au (i+1,a++[⟨k,t⟩]) ⟨by omega,by simp;omega,hg⟩ (by omega) ?_;simp[LB];exact bQ
    ·rw[if_pos h1]at hg;subst hg;simp(disch:=omega)[wl,h1,Ik,ms]
   ·obtain rfl:i=l.length:=by omega
    rw[List.drop_length,lQ]at hg;subst hg;simp(disch:=omega)[wl,Ik]
  |some p=>
   rw[hq]at hR;have hpm:p∈x.p:=List.mem_of_find?_eq_some hq;have hpv:=fx.f.v p hpm;simp(disch:=omega)[wl,o7,Pm.iv,LC];refine aa hSp ?_;simp(disch:=omega)[wl,bE];refine ce hm [] (fun p:Nat×List Mom=>[(31,.val (.int .i64 p.1)),(8,.own 8 p.2.length)]) (fun q=>[(8,.arr q.2.length 2 (ms q.2)),(6,.box [.val (.str p.n),.val (.slice (ts p.v))]),(4,.box [.val (.str []),.val (.slice [])])]) (fun q=>q.1<=l.length/\q.2.length<=q.1/\R=jc (some p) (l.drop q.1) q.2) (fun p=>l.length-p.1) (0,[]) ⟨by simp,by simp,by simpa using hR.symm⟩ ?_ ?_
   ·simp[ms];exact cR.trans (fS (k:=8) 8 2 (by simp) (by simp[aC,ac])) (ap rfl rfl (by simp[St.adopt,bp,aC,ac,put,dT,SV.erase]) (by simp[St.adopt,ch,ac,put,cC,Ob.erase]) (by simp[St.adopt,cg]))
   rintro⟨i,a⟩ ⟨hi,ha,hg⟩;dsimp only at hi ha hg;clear hR;simp[bE];by_cases h:i<l.length
   ·obtain⟨s,hs⟩:∃s,l[i]=s:=⟨_,rfl⟩;have hgs:=rg h hs;have hP:=uI s (hls s (hs▸List.getElem_mem h));rw[List.drop_eq_getElem_cons h,hs,jY]at hg;have hmf:=BI s;obtain⟨⟨⟨k,t⟩,e⟩,hm'⟩:∃r,gq s=r:=⟨_,rfl⟩;rw[hm']at hP hg hmf;simp only[lK]at hP;simp(disch:=omega)[wl,hgs];refine aa hP ?_;by_cases h1:e=0
    ·rw[if_neg (by simp[h1])]at hg;have hb:DB (some p) k↔p.v.length≠1\/upper (p.v.headD [])≠DA k:=Iff.rfl;by_cases h3:p.v.length=1
     ·obtain⟨v,hv1⟩:∃v,p.v=[v]:=List.length_eq_one_iff.1 h3;have hUp:=up (CN v (by have:=fx.f.t p hpm v (by rw[hv1];simp);omega));have hb':DB (some p) k↔¬upper v=DA k:=by rw[hb,hv1];simp
      by_cases h2:k=1
      ·have hw:DA k=[68,65,84,69]:=by unfold DA;rw[if_pos h2];rfl
       rw[hw]at hb';simp(disch:=omega)[wl,h1,h2,hv1,ts];refine aa hUp ?_;by_cases h4:upper v=[68,65,84,69]
       ·rw[if_neg (fun h=>(hb'.1 h) h4)]at hg;simp(disch:=omega)[wl,h4,gU];refine⟨by omega,?_⟩;refine au (i+1,a++[⟨k,t⟩]) ⟨by omega,by simp;omega,hg⟩ (by omega) ?_;simp[LB];exact ap rfl rfl (by simp[bp,aC,ac,h2,ts,hv1]) (by simp[ch,ac,h2,ts,hv1]) (by simp[cg])
       ·rw[if_pos (hb'.2 h4)]at hg;subst hg;simp(disch:=omega)[wl,h4,Ik,ms]
      ·have hw:DA k=[68,65,84,69,45,84,73,77,69]:=by unfold DA;rw[if_neg h2];rfl
       rw[hw]at hb';simp(disch:=omega)[wl,h1,h2,hv1,ts];refine aa hUp ?_;by_cases h4:upper v=[68,65,84,69,45,84,73,77,69]
       ·rw[if_neg (fun h=>(hb'.1 h) h4)]at hg;simp(disch:=omega)[wl,h4,gU];refine⟨by omega,?_⟩;refine au (i+1,a++[⟨k,t⟩]) ⟨by omega,by simp;omega,hg⟩ (by omega) ?_;simp[LB];exact ap rfl rfl (by simp[bp,aC,ac,ts,hv1]) (by simp[ch,ac,ts,hv1]) (by simp[cg])
       ·rw[if_pos (hb'.2 h4)]at hg;subst hg;simp(disch:=omega)[wl,h4,Ik,ms]
     ·rw[if_pos (hb.2 (.inl h3))]at hg;subst hg;by_cases h2:k=1
      ·simp(disch:=omega)[wl,h1,h2,bE,Ik,ms]
      ·simp(disch:=omega)[wl,h1,h2,bE,Ik,ms]
    ·rw[if_pos h1]at hg;subst hg;simp(disch:=omega)[wl,h1,Ik,ms]
   ·obtain rfl:i=l.length:=by omega
    rw[List.drop_length,lQ]at hg;subst hg;simp(disch:=omega)[wl,Ik]
def UB(p:Int×Mom):IV:=.tuple [lK p.2,.int .i64 p.1]
theorem MH(x:Ln)(fx:FitX x):Fn G2 T_ 145 [x.iv] (UB (u6 x)):=by
 refine ag hm F3 (by simp) ?_;have hP:=uI x.v (by have:=fx.v;omega);unfold u6;obtain⟨⟨⟨k,t⟩,e⟩,hm'⟩:∃r,gq x.v=r:=⟨_,rfl⟩;rw[hm']at hP |-;simp only[lK]at hP;simp[yP,Ln.iv];refine aa hP ?_;by_cases h1:e=0
 ·by_cases h2:k=3
  ·simp(disch:=omega)[wl,h1,h2,UB,lK]
  ·simp(disch:=omega)[wl,h1,h2,UB,lK]
 ·simp(disch:=omega)[wl,h1,UB,lK]
theorem LD(l:List Mom)(h:l.length=1):l=[l.headD yy]:=by
 obtain⟨v,rfl⟩:=List.length_eq_one_iff.1 h;rfl
theorem DW(q:Option Pm):∀(l:List Str) (a:List Mom),(jc q l a).1=0->(jc q l a).2.length=l.length+a.length
 |[],a,h=>by rw[lQ];simp
 |s::r,a,h=>by
  rw[jY]at h |-;split
  ·next h1=>rw[if_pos h1]at h;exact absurd h h1
  ·next h1=>
   rw[if_neg h1]at h;split
   ·next h2=>rw[if_pos h2]at h;cases h
   ·next h2=>
    rw[if_neg h2]at h;have:=DW q r _ h;simp at this |-;omega
theorem xb{x:Ln}(h:(cq x).1=0):1<=(cq x).2.length:=by
 unfold cq at h |-;split
 ·next h1=>rw[if_pos h1]at h;cases h
 ·next h1=>
  rw[if_neg h1]at h;rw[DW _ _ _ h];have:=List.length_pos_iff.2 (qr 44 x.v);omega
end Go.Vs.YtcjeehebikeghaaGreatDoor.Vt
