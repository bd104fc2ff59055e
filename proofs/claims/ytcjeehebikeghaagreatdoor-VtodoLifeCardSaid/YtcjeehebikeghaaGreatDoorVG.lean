/- The walk of vtodo and of the document's: sets, lengths, instances, shifts, due. No conditions. -/
import Derived.Test.YtcjeehebikeghaaGreatDoorVD
set_option linter.unusedVariables false
set_option linter.unusedSimpArgs false
set_option maxRecDepth 100000
set_option maxHeartbeats 16000000
namespace Go.Vs.YtcjeehebikeghaaGreatDoor.Vt
open Go.Proofs Go.Vs.U8 Go.Vs.Pa Go.Vs.Nu Go.Vs.Mo Go.Vs.Vt Go.Vs.YtcjeehebikeghaaGreatDoor.Rc
def uf(f:Fc):List IV:=[.str f.uid,.str f.sm,.int .u8 f.st.k,.int .i64 f.st.s,.int .u8 f.b.k,.int .i64 f.b.s,.int .u8 f.e.k,.int .i64 f.e.s,.int .i64 f.sp,.int .u8 f.li.s,.int .i64 f.li.p,.int .i64 f.li.d,.int .i64 f.pr,.bool f.rd]++(cells f.ru++[.slice (ms f.i),.slice (ms f.o),.int .u8 f.at'.k,.int .i64 f.at'.s,.bool f.af])
def Fc.iv(f:Fc):IV:=.agg (uf f)
def Bi(v:Mom):Prop:=0≤v.k∧0≤v.s∧v.s≤315537897599
structure FitF(f:Fc):Prop where
 st:Bi f.st
 b:Bi f.b
 e:Bi f.e
 t:Bi f.at'
 sp:-86399913600≤f.sp∧f.sp≤86399913600
 ls:0≤f.li.s
 il:f.i.length<100000
 ol:f.o.length<100000
 ik:∀v∈f.i,0≤v.k
 ok:∀v∈f.o,0≤v.k
 rf:wa f.ru
 uk:0≤f.ru.u.k
 rk:0≤f.ru.f
 ul:f.uid.length<100000
 pp:-1≤f.pr∧f.pr≤1000
theorem FitF.set{f:Fc}(h:FitF f):FitS f.b f.ru f.i f.o:=⟨h.b.1,h.uk,h.il,h.ol,h.ik,h.ok,h.rf⟩
theorem kE(k s:Int):Fn G2 Tryz.prog cJ [.agg [.int .u8 k,.int .i64 s]] (.bool (decide (k≠0))):=by
 refine ag hm Gp (by simp) ?_;simp[ye,yf]
theorem Yl(f:Fc):Fn G2 Tryz.prog wg [f.iv] (Yk f.b f.ru f.i f.o):=by
 refine ag hm LF (by simp) ?_;simp[Dp,Dq,Fc.iv,uf,cells,Yk]
theorem aav{f:Fc}(h:FitF f):-315537897599≤o7 f∧o7 f≤315537897599:=by
 obtain⟨_,hb,he,_,hs,_⟩:=h;unfold o7 Bi at *;split<;>omega
theorem aaw(f:Fc)(h:FitF f):Fn G2 Tryz.prog eI [.ref (uf f)] (.int .i64 (o7 f)):=by
 refine ag hm nP (by simp) ?_;obtain⟨_,hb,he,_,hs,_⟩:=h;unfold Bi at hb he;simp[iX,iY,uf,cells];refine aa (kE f.b.k f.b.s) ?_;by_cases h1:f.b.k=0
 ·have hl:o7 f=f.sp:=by unfold o7;rw[if_neg (by simp[h1])]
  simp(disch:=omega)[wl,h1,hl]
 ·simp(disch:=omega)[wl,h1];refine aa (kE f.e.k f.e.s) ?_;by_cases h2:f.e.k=0
  ·have hl:o7 f=f.sp:=by unfold o7;rw[if_neg (by simp[h2])]
   simp(disch:=omega)[wl,h2,hl]
  ·have hl:o7 f=f.e.s-f.b.s:=by unfold o7;rw[if_pos ⟨h1,h2⟩]
   simp(disch:=omega)[wl,h2,hl]
theorem Ec(f:Fc):Fn G2 Tryz.prog jQ [f.iv] (.int .i64 (bO f)):=by
 refine ag hm I1 (by simp) ?_;simp[B2,B3,Fc.iv,uf,cells];refine aa (kE f.at'.k f.at'.s) ?_;by_cases h1:f.at'.k=0
 ·have hl:bO f=f.b.s:=by unfold bO;rw[if_neg (by simp[h1])]
  simp(disch:=omega)[wl,h1,hl]
 ·cases h2:f.rd with
  |false=>
   have hl:bO f=f.b.s:=by unfold bO;rw[if_neg (by simp[h2])]
   simp(disch:=omega)[wl,h1,hl]
  |true=>
   have hl:bO f=f.at'.s:=by unfold bO;rw[if_pos ⟨h1,h2⟩]
   simp(disch:=omega)[wl,h1,hl]
theorem Wd(f:Fc)(h:FitF f)(a:Int):Fn G2 Tryz.prog rD [f.iv,.int .i64 a] (.tuple [.int .i64 (nc f a).1,.bool (nc f a).2]):=by
 refine ag hm Gl (by simp) ?_;have hL:=aaw f h;have hl:=aav h;have hT:=kE f.b.k f.b.s;obtain⟨R,hR⟩:∃R,nc f a=R:=⟨_,rfl⟩;rw[hR];unfold nc at hR;simp only[uf,cells]at hL;simp[y8,y9,Fc.iv,uf,cells];by_cases h1:a<0
 ·rw[if_pos (.inl h1)]at hR;subst hR;simp(disch:=omega)[wl,h1]
 ·by_cases h2:315537897599<a
  ·rw[if_pos (.inr (.inl h2))]at hR;subst hR;simp(disch:=omega)[wl,h1,h2]
  ·simp(disch:=omega)[wl,h1,h2];refine aa hT ?_;by_cases h3:f.b.k=0
   ·rw[if_pos (.inr (.inr (.inl h3)))]at hR;subst hR;simp(disch:=omega)[wl,h3]
   ·simp(disch:=omega)[wl,h3];refine aa hL ?_;by_cases h4:315537897599<a+o7 f
    ·rw[if_pos (.inr (.inr (.inr h4)))]at hR;subst hR;simp(disch:=omega)[wl,h4]
    ·rw[if_neg (by simp[h1,h2,h3,h4])]at hR;subst hR;simp(disch:=omega)[wl,h4]
theorem GA(f:Fc)(h:FitF f):Fn G2 Tryz.prog jz [f.iv] (.tuple [.int .i64 (eH f).1,.bool (eH f).2]):=by
 refine ag hm LC (by simp) ?_;have hT:=kE f.e.k f.e.s;have hI:=Ec f;have hS:=Wd f h (bO f);simp only[Fc.iv,uf,cells]at hI hS;simp[Di,Dj,Fc.iv,uf,cells];refine aa hT ?_;by_cases h1:f.e.k=0
 ·have hd:eH f=nc f (bO f):=by unfold eH;rw[if_neg (by simp[h1])]
  rw[h1]at hI hS;simp(disch:=omega)[wl,h1,hd];refine aa hI ?_;simp(disch:=omega)[wl];refine aa hS ?_;simp(disch:=omega)[wl];exact⟨rfl,by rw[hd],by rw[hd]⟩
 ·cases h2:f.rd with
  |true=>
   have hd:eH f=nc f (bO f):=by unfold eH;rw[if_neg (by simp[h2])]
   rw[h2]at hI hS;simp(disch:=omega)[wl,h1,hd];refine aa hI ?_;simp(disch:=omega)[wl];refine aa hS ?_;simp(disch:=omega)[wl];exact⟨rfl,by rw[hd],by rw[hd]⟩
  |false=>
   have hd:eH f=(f.e.s,true):=by unfold eH;rw[if_pos ⟨h1,h2⟩]
   simp(disch:=omega)[wl,h1,hd]
theorem Ed(s:Str):Bi (i7 s).1:=by
 obtain⟨h1,h2,h3⟩:=QJ (v:=(i7 s).1) (e:=(i7 s).2) (s:=s) rfl;unfold Bi;by_cases h:(i7 s).2=0
 ·obtain⟨g1,g2,g3,g4,g5⟩:=wN (h1 h);omega
 ·rw[h2 h];decide
def Mn(p:Int×List Mom):IV:=.tuple [.slice (ms p.2),.int .i64 p.1]
theorem PX(a:List Mom)(v:Mom):ms (a++[v])=ms a++[[.int .u8 v.k,.int .i64 v.s]]:=by simp[ms]
theorem ng(q:Option Pm)(a:List Mom):jO q [] a=(0,a):=rfl
theorem kV(q:Option Pm)(s:Str)(r:List Str)(a:List Mom):jO q (s::r) a=if (i7 s).2≠0 then ((i7 s).2,[])else if Gd q (i7 s).1.k then (4,[])else jO q r (a++[(i7 s).1]):=rfl
theorem Kc(q:Option Pm):∀(l:List Str) (a:List Mom),(jO q l a).2.length≤l.length+a.length
 |[],a=>by rw[ng];simp
 |s::r,a=>by
  rw[kV];split
  ·simp
  ·split
   ·simp
   ·have:=Kc q r (a++[(i7 s).1]);simp at this ⊢;omega
theorem QV(c:UInt8)(s:Str):(parts c s).length≤s.length+1:=by
 rw[pd];have:=List.count_le_length (a:=c) (l:=s);omega
theorem PY:ts []=[]:=rfl
theorem ww(x:Ln)(fx:FitX x)(hv:x.v.length<50000):Fn G2 Tryz.prog kB [x.iv] (Mn (cR x)):=by
 refine ag hm Gt (by simp) ?_;have hFz:=up (E3 x.p nTZ (by have:=fx.p;omega) (fun p hp=>by have:=fx.f.v p hp;omega));have hFv:=up (E3 x.p Gb (by have:=fx.p;omega) (fun p hp=>by have:=fx.f.v p hp;omega));have hSp:=up (v8 x.v 44 (by omega));obtain⟨R,hR⟩:∃R,cR x=R:=⟨_,rfl⟩;rw[hR];unfold cR at hR;simp[yk,yl,Ln.iv];refine aa hFz ?_;cases hz:iw x.p nTZ with
 |some p=>
  rw[hz]at hR;simp at hR;subst hR;simp(disch:=omega)[wl,pE,Pm.iv,Mn,ms]
 |none=>
  rw[hz]at hR;simp at hR;simp(disch:=omega)[wl,pE,Pm.iv,PY];refine aa hFv ?_;obtain⟨l,hl⟩:∃l,parts 44 x.v=l:=⟨_,rfl⟩;have hll:=QV 44 x.v;rw[hl]at hSp hR hll
  have hls:∀s∈l,s.length<1000000:=fun s hs=>by
   have:=lh (c:=44) (v:=x.v) (hl▸hs);omega
  cases hq:iw x.p Gb with
  |none=>
   rw[hq]at hR;simp(disch:=omega)[wl,pE,Pm.iv,PY];refine aa hSp ?_;simp(disch:=omega)[wl,bI];refine bS hm [] (fun p:Nat×List Mom=>[(31,.val (.int .i64 p.1)),(8,.own 8 p.2.length)]) (fun p=>[(8,.arr p.2.length 2 (ms p.2)),(6,.box [.val (.str []),.val (.slice [])]),(4,.box [.val (.str []),.val (.slice [])])]) (fun p=>p.1≤l.length∧p.2.length≤p.1∧R=jO none (l.drop p.1) p.2) (fun p=>l.length-p.1) (0,[]) ⟨by simp,by simp,by simpa using hR.symm⟩ ?_ ?_
   ·simp[ms];exact d5.trans (dR (k:=8) 8 2 (by simp) (by simp[aC,ac])) (ap rfl rfl (by simp[St.adopt,bv,aC,ac,put,dJ,SV.erase]) (by simp[St.adopt,cC,ac,put,cK,Ob.erase]) (by simp[St.adopt,ct]))
   rintro⟨i,a⟩ ⟨hi,ha,hg⟩;dsimp only at hi ha hg;clear hR;simp[bI];by_cases h:i<l.length
   ·obtain⟨s,hs⟩:∃s,l[i]=s:=⟨_,rfl⟩;have hgs:=pC h hs;have hP:=wP s (hls s (hs▸List.getElem_mem h));rw[List.drop_eq_getElem_cons h,hs,kV]at hg;have hmf:=Ed s;obtain⟨⟨⟨k,t⟩,e⟩,hm'⟩:∃r,i7 s=r:=⟨_,rfl⟩;rw[hm']at hP hg hmf;simp only[n9]at hP;simp(disch:=omega)[wl,hgs];refine aa hP ?_;by_cases h1:e=0
    ·rw[if_neg (by simp[h1])]at hg;by_cases h2:k=1
     ·rw[if_pos (by unfold Gd;exact h2)]at hg;subst hg;simp(disch:=omega)[wl,h1,h2,Mn,ms]
     ·rw[if_neg (by unfold Gd;exact h2)]at hg;simp(disch:=omega)[wl,h1,h2,fG];refine⟨by omega,?_⟩;refine aq (i+1,a++[⟨k,t⟩]) ⟨by omega,by simp;omega,hg⟩ (by omega) ?_;simp[PX];exact bT
    ·rw[if_pos h1]at hg;subst hg;simp(disch:=omega)[wl,h1,Mn,ms]
   ·obtain rfl:i=l.length:=by omega
    rw[List.drop_length,ng]at hg;subst hg;simp(disch:=omega)[wl,Mn]
  |some p=>
   rw[hq]at hR;have hpm:p∈x.p:=List.mem_of_find?_eq_some hq;have hpv:=fx.f.v p hpm;simp(disch:=omega)[wl,pE,Pm.iv,PY];refine aa hSp ?_;simp(disch:=omega)[wl,bI];refine bS hm [] (fun p:Nat×List Mom=>[(31,.val (.int .i64 p.1)),(8,.own 8 p.2.length)]) (fun q=>[(8,.arr q.2.length 2 (ms q.2)),(6,.box [.val (.str p.n),.val (.slice (ts p.v))]),(4,.box [.val (.str []),.val (.slice [])])]) (fun q=>q.1≤l.length∧q.2.length≤q.1∧R=jO (some p) (l.drop q.1) q.2) (fun p=>l.length-p.1) (0,[]) ⟨by simp,by simp,by simpa using hR.symm⟩ ?_ ?_
   ·simp[ms];exact d5.trans (dR (k:=8) 8 2 (by simp) (by simp[aC,ac])) (ap rfl rfl (by simp[St.adopt,bv,aC,ac,put,dJ,SV.erase]) (by simp[St.adopt,cC,ac,put,cK,Ob.erase]) (by simp[St.adopt,ct]))
   rintro⟨i,a⟩ ⟨hi,ha,hg⟩;dsimp only at hi ha hg;clear hR;simp[bI];by_cases h:i<l.length
   ·obtain⟨s,hs⟩:∃s,l[i]=s:=⟨_,rfl⟩;have hgs:=pC h hs;have hP:=wP s (hls s (hs▸List.getElem_mem h));rw[List.drop_eq_getElem_cons h,hs,kV]at hg;have hmf:=Ed s;obtain⟨⟨⟨k,t⟩,e⟩,hm'⟩:∃r,i7 s=r:=⟨_,rfl⟩;rw[hm']at hP hg hmf;simp only[n9]at hP;simp(disch:=omega)[wl,hgs];refine aa hP ?_;by_cases h1:e=0
    ·rw[if_neg (by simp[h1])]at hg;have hb:Gd (some p) k↔p.v.length≠1∨upper (p.v.headD [])≠Gc k:=Iff.rfl;by_cases h3:p.v.length=1
     ·obtain⟨v,hv1⟩:∃v,p.v=[v]:=List.length_eq_one_iff.1 h3;have hUp:=up (Fm v (by have:=fx.f.t p hpm v (by rw[hv1];simp);omega));have hb':Gd (some p) k↔¬upper v=Gc k:=by rw[hb,hv1];simp
      by_cases h2:k=1
      ·have hw:Gc k=[68,65,84,69]:=by unfold Gc;rw[if_pos h2];rfl
       rw[hw]at hb';simp(disch:=omega)[wl,h1,h2,hv1,ts];refine aa hUp ?_;by_cases h4:upper v=[68,65,84,69]
       ·rw[if_neg (fun h=>(hb'.1 h) h4)]at hg;simp(disch:=omega)[wl,h4,fG];refine⟨by omega,?_⟩;refine aq (i+1,a++[⟨k,t⟩]) ⟨by omega,by simp;omega,hg⟩ (by omega) ?_;simp[PX];exact ap rfl rfl (by simp[bv,aC,ac,h2,ts,hv1]) (by simp[cC,ac,h2,ts,hv1]) (by simp[ct])
       ·rw[if_pos (hb'.2 h4)]at hg;subst hg;simp(disch:=omega)[wl,h4,Mn,ms]
      ·have hw:Gc k=[68,65,84,69,45,84,73,77,69]:=by unfold Gc;rw[if_neg h2];rfl
       rw[hw]at hb';simp(disch:=omega)[wl,h1,h2,hv1,ts];refine aa hUp ?_;by_cases h4:upper v=[68,65,84,69,45,84,73,77,69]
       ·rw[if_neg (fun h=>(hb'.1 h) h4)]at hg;simp(disch:=omega)[wl,h4,fG];refine⟨by omega,?_⟩;refine aq (i+1,a++[⟨k,t⟩]) ⟨by omega,by simp;omega,hg⟩ (by omega) ?_;simp[PX];exact ap rfl rfl (by simp[bv,aC,ac,ts,hv1]) (by simp[cC,ac,ts,hv1]) (by simp[ct])
       ·rw[if_pos (hb'.2 h4)]at hg;subst hg;simp(disch:=omega)[wl,h4,Mn,ms]
     ·rw[if_pos (hb.2 (.inl h3))]at hg;subst hg;by_cases h2:k=1
      ·simp(disch:=omega)[wl,h1,h2,bI,Mn,ms]
      ·simp(disch:=omega)[wl,h1,h2,bI,Mn,ms]
    ·rw[if_pos h1]at hg;subst hg;simp(disch:=omega)[wl,h1,Mn,ms]
   ·obtain rfl:i=l.length:=by omega
    rw[List.drop_length,ng]at hg;subst hg;simp(disch:=omega)[wl,Mn]
def Za(p:Int×Mom):IV:=.tuple [n9 p.2,.int .i64 p.1]
theorem QW(x:Ln)(fx:FitX x):Fn G2 Tryz.prog oU [x.iv] (Za (ox x)):=by
 refine ag hm I5 (by simp) ?_;have hP:=wP x.v (by have:=fx.v;omega);unfold ox;obtain⟨⟨⟨k,t⟩,e⟩,hm'⟩:∃r,i7 x.v=r:=⟨_,rfl⟩;rw[hm']at hP ⊢;simp only[n9]at hP;simp[Bb,Bc,Ln.iv];refine aa hP ?_;by_cases h1:e=0
 ·by_cases h2:k=3
  ·simp(disch:=omega)[wl,h1,h2,Za,n9]
  ·simp(disch:=omega)[wl,h1,h2,Za,n9]
 ·simp(disch:=omega)[wl,h1,Za,n9]
theorem PZ(l:List Mom)(h:l.length=1):l=[l.headD AP]:=by
 obtain⟨v,rfl⟩:=List.length_eq_one_iff.1 h;rfl
theorem GB(q:Option Pm):∀(l:List Str) (a:List Mom),(jO q l a).1=0→(jO q l a).2.length=l.length+a.length
 |[],a,h=>by rw[ng];simp
 |s::r,a,h=>by
  rw[kV]at h ⊢;split
  ·next h1=>rw[if_pos h1]at h;exact absurd h h1
  ·next h1=>
   rw[if_neg h1]at h;split
   ·next h2=>rw[if_pos h2]at h;cases h
   ·next h2=>
    rw[if_neg h2]at h;have:=GB q r _ h;simp at this ⊢;omega
theorem ze{x:Ln}(h:(cR x).1=0):1≤(cR x).2.length:=by
 unfold cR at h ⊢;split
 ·next h1=>rw[if_pos h1]at h;cases h
 ·next h1=>
  rw[if_neg h1]at h;rw[GB _ _ _ h];have:=List.length_pos_iff.2 (rZ 44 x.v);omega
end Go.Vs.YtcjeehebikeghaaGreatDoor.Vt
