/- A part of a proof. No conditions. -/
import Derived.Test.YtcjeehebikeghaaGreatDoorVDz
set_option linter.unusedVariables false
set_option linter.unusedSimpArgs false
set_option maxRecDepth 100000
set_option maxHeartbeats 16000000
namespace Go.Vs.YtcjeehebikeghaaGreatDoor.Vt
open Go.Proofs Go.Vs.U8 Go.Vs.Pa Go.Vs.Nu Go.Vs.Mo Go.Vs.Vt Go.Vs.YtcjeehebikeghaaGreatDoor.Rc
def vh(f:Fc):List IV:=[.str f.uid,.str f.sm,.int .u8 f.st.k,.int .i64 f.st.s,.int .u8 f.b.k,.int .i64 f.b.s,.int .u8 f.e.k,.int .i64 f.e.s,.int .i64 f.sp,.int .u8 f.li.s,.int .i64 f.li.p,.int .i64 f.li.d,.int .i64 f.pr,.bool f.rd]++(cells f.ru++[.slice (ms f.i),.slice (ms f.o),.int .u8 f.at'.k,.int .i64 f.at'.s,.bool f.af])
def Fc.iv(f:Fc):IV:=.agg (vh f)
def Bk(v:Mom):Prop:=0<=v.k/\0<=v.s/\v.s<=315537897599
structure FitF(f:Fc):Prop where
 st:Bk f.st
 b:Bk f.b
 e:Bk f.e
 t:Bk f.at'
 sp:-86399913600<=f.sp/\f.sp<=86399913600
 ls:0<=f.li.s
 il:f.i.length<100000
 ol:f.o.length<100000
 ik:∀v∈f.i,0<=v.k
 ok:∀v∈f.o,0<=v.k
 rf:uW f.ru
 uk:0<=f.ru.u.k
 rk:0<=f.ru.f
 ul:f.uid.length<100000
 pp:-1<=f.pr/\f.pr<=1000
theorem FitF.set{f:Fc}(h:FitF f):FitS f.b f.ru f.i f.o:=⟨h.b.1,h.uk,h.il,h.ol,h.ik,h.ok,h.rf⟩
theorem mh(k s:Int):Fn G2 T_ 58 [.agg [.int .u8 k,.int .i64 s]] (.bool (decide (k≠0))):=by
 refine ae hm Jk (by simp) ?_;simp[Ak]
theorem abo(f:Fc):Fn G2 T_ 86 [f.iv] (R8 f.b f.ru f.i f.o):=by
 refine ae hm Oy (by simp) ?_;simp[Gf,Fc.iv,vh,cells,R8]
theorem abp(f:Fc):Fn G2 T_ 173 [f.iv] (R8 f.b f.ru f.i f.o):=by
 refine ae hm OC (by simp) ?_;simp[Gn,Fc.iv,vh,cells,R8]
theorem Zc{f:Fc}(h:FitF f):-315537897599<=sE f/\sE f<=315537897599:=by
 obtain⟨_,a,b,_,c,_⟩:=h;unfold sE Bk at *;split<;>omega
theorem adk(f:Fc)(h:FitF f):Fn G2 T_ 59 [.ref (vh f)] (.int .i64 (sE f)):=by
 refine ae hm o7 (by simp) ?_;obtain⟨_,d,e,_,g,_⟩:=h;unfold Bk at d e;simp[iK,vh,cells];refine aa (mh f.b.k f.b.s) ?_;by_cases b:f.b.k=0
 ·have a:sE f=f.sp:=by unfold sE;rw[if_neg (by simp[b])]
  simp(disch:=omega)[wl,b,a]
 ·simp(disch:=omega)[wl,b];refine aa (mh f.e.k f.e.s) ?_;by_cases c:f.e.k=0
  ·have a:sE f=f.sp:=by unfold sE;rw[if_neg (by simp[c])]
   simp(disch:=omega)[wl,c,a]
  ·have a:sE f=f.e.s-f.b.s:=by unfold sE;rw[if_pos ⟨b,c⟩]
   simp(disch:=omega)[wl,c,a]
theorem abq(f:Fc)(h:FitF f):Fn G2 T_ 60 [f.iv] (.int .i64 (sE f)):=by
 refine ae hm L6 (by simp) ?_;obtain⟨_,d,e,_,g,_⟩:=h;unfold Bk at d e;simp[Dr,Fc.iv,vh,cells];by_cases a:f.e.k=0
 ·have b:sE f=f.sp:=by unfold sE;rw[if_neg (by simp[a])]
  simp(disch:=omega)[wl,a,b]
 ·by_cases c:f.b.k=0
  ·have b:sE f=f.sp:=by unfold sE;rw[if_neg (by simp[c])]
   simp(disch:=omega)[wl,c,a,b]
  ·have b:sE f=f.e.s-f.b.s:=by unfold sE;rw[if_pos ⟨c,a⟩]
   simp(disch:=omega)[wl,c,a,b]
theorem OK(f:Fc):Fn G2 T_ 21 [f.iv] (.int .i64 (jt f)):=by
 refine ae hm L3 (by simp) ?_;simp[Dj,Fc.iv,vh,cells];refine aa (mh f.at'.k f.at'.s) ?_;by_cases a:f.at'.k=0
 ·have b:jt f=f.b.s:=by unfold jt;rw[if_neg (by simp[a])]
  simp(disch:=omega)[wl,a,b]
 ·cases c:f.rd with
  |false=>
   have b:jt f=f.b.s:=by unfold jt;rw[if_neg (by simp[c])]
   simp(disch:=omega)[wl,a,b]
  |true=>
   have b:jt f=f.at'.s:=by unfold jt;rw[if_pos ⟨a,c⟩]
   simp(disch:=omega)[wl,a,b]
theorem Rb(f:Fc):Fn G2 T_ 22 [f.iv] (.int .i64 (jt f)):=by
 refine ae hm L4 (by simp) ?_;simp[Dl,Fc.iv,vh,cells];cases c:f.rd with
 |false=>
  have a:jt f=f.b.s:=by unfold jt;rw[if_neg (by simp[c])]
  simp(disch:=omega)[wl,a]
 |true=>
  by_cases b:f.at'.k=0
  ·have a:jt f=f.b.s:=by unfold jt;rw[if_neg (by simp[b])]
   simp(disch:=omega)[wl,b,a]
  ·have a:jt f=f.at'.s:=by unfold jt;rw[if_pos ⟨b,c⟩]
   simp(disch:=omega)[wl,b,a]
theorem Rd(f:Fc)(h:FitF f)(a:Int):Fn G2 T_ 19 [f.iv,.int .i64 a] (.tuple [.int .i64 (nc f a).1,.bool (nc f a).2]):=by
 refine ae hm Jg (by simp) ?_;have i:=adk f h;have j:=Zc h;have hT:=mh f.b.k f.b.s;obtain⟨R,b⟩:∃R,nc f a=R:=⟨_,rfl⟩;rw[b];unfold nc at b;simp only[vh,cells]at i;simp[Ab,Fc.iv,vh,cells];by_cases c:a<0
 ·rw[if_pos (.inl c)]at b;subst b;simp(disch:=omega)[wl,c]
 ·by_cases d:315537897599<a
  ·rw[if_pos (.inr (.inl d))]at b;subst b;simp(disch:=omega)[wl,c,d]
  ·simp(disch:=omega)[wl,c,d];refine aa hT ?_;by_cases e:f.b.k=0
   ·rw[if_pos (.inr (.inr (.inl e)))]at b;subst b;simp(disch:=omega)[wl,e]
   ·simp(disch:=omega)[wl,e];refine aa i ?_;by_cases g:315537897599<a+sE f
    ·rw[if_pos (.inr (.inr (.inr g)))]at b;subst b;simp(disch:=omega)[wl,g]
    ·rw[if_neg (by simp[c,d,e,g])]at b;subst b;simp(disch:=omega)[wl,g]
theorem EP(f:Fc)(h:FitF f)(a:Int):Fn G2 T_ 20 [f.iv,.int .i64 a] (.tuple [.int .i64 (nc f a).1,.bool (nc f a).2]):=by
 refine ae hm Jh (by simp) ?_;have i:=abq f h;have j:=Zc h;obtain⟨R,b⟩:∃R,nc f a=R:=⟨_,rfl⟩;rw[b];unfold nc at b;simp only[Fc.iv,vh,cells]at i;simp[Ad,Fc.iv,vh,cells];by_cases c:f.b.k=0
 ·rw[if_pos (.inr (.inr (.inl c)))]at b;subst b;simp(disch:=omega)[wl,c]
 ·by_cases d:a<0
  ·rw[if_pos (.inl d)]at b;subst b;simp(disch:=omega)[wl,d,c]
  ·by_cases e:315537897599<a
   ·rw[if_pos (.inr (.inl e))]at b;subst b;simp(disch:=omega)[wl,d,e,c]
   ·simp(disch:=omega)[wl,d,e,c];refine aa i ?_;by_cases g:315537897599<a+sE f
    ·rw[if_pos (.inr (.inr (.inr g)))]at b;subst b;simp(disch:=omega)[wl,g]
    ·rw[if_neg (by simp[d,e,c,g])]at b;subst b;simp(disch:=omega)[wl,g];refine aa i ?_;simp(disch:=omega)[wl]
theorem T4(f:Fc)(h:FitF f):Fn G2 T_ 17 [f.iv] (.tuple [.int .i64 (kQ f).1,.bool (kQ f).2]):=by
 refine ae hm Oq (by simp) ?_;have hT:=mh f.e.k f.e.s;have c:=OK f;have d:=Rd f h (jt f);simp only[Fc.iv,vh,cells]at c d;simp[G3,Fc.iv,vh,cells];refine aa hT ?_;by_cases b:f.e.k=0
 ·have a:kQ f=nc f (jt f):=by unfold kQ;rw[if_neg (by simp[b])]
  rw[b]at c d;simp(disch:=omega)[wl,b,a];refine aa c ?_;simp(disch:=omega)[wl];refine aa d ?_;simp(disch:=omega)[wl];exact⟨rfl,by rw[a],by rw[a]⟩
 ·cases e:f.rd with
  |true=>
   have a:kQ f=nc f (jt f):=by unfold kQ;rw[if_neg (by simp[e])]
   rw[e]at c d;simp(disch:=omega)[wl,b,a];refine aa c ?_;simp(disch:=omega)[wl];refine aa d ?_;simp(disch:=omega)[wl];exact⟨rfl,by rw[a],by rw[a]⟩
  |false=>
   have a:kQ f=(f.e.s,true):=by unfold kQ;rw[if_pos ⟨b,e⟩]
   simp(disch:=omega)[wl,b,a]
theorem Uj(f:Fc)(h:FitF f):Fn G2 T_ 18 [f.iv] (.tuple [.int .i64 (kQ f).1,.bool (kQ f).2]):=by
 refine ae hm Ot (by simp) ?_;have e:=Rb f;have g:=EP f h (jt f);have a:=EP f h f.b.s;simp only[Fc.iv,vh,cells]at e g a;simp[G5,Fc.iv,vh,cells];cases c:f.rd with
 |true=>
  have b:kQ f=nc f (jt f):=by unfold kQ;rw[if_neg (by simp[c])]
  rw[c]at e g;simp(disch:=omega)[wl,b];refine aa e ?_;simp(disch:=omega)[wl];refine aa g ?_;simp(disch:=omega)[wl];exact⟨rfl,by rw[b],by rw[b]⟩
 |false=>
  by_cases d:f.e.k=0
  ·have i:jt f=f.b.s:=by unfold jt;rw[if_neg (by simp[c])]
   have b:kQ f=nc f f.b.s:=by unfold kQ;rw[if_neg (by simp[d]),i]
   rw[c]at a;simp(disch:=omega)[wl,d,b];rw[d]at a;refine aa a ?_;simp(disch:=omega)[wl,b]
  ·have b:kQ f=(f.e.s,true):=by unfold kQ;rw[if_pos ⟨d,c⟩]
   simp(disch:=omega)[wl,d,b]
theorem yv(s:Str):Bk (fu s).1:=by
 obtain⟨a,b,d⟩:=aaV (v:=(fu s).1) (e:=(fu s).2) (s:=s) rfl;unfold Bk;by_cases h:(fu s).2=0
 ·obtain⟨f,g,i,j,l⟩:=EE (a h);omega
 ·rw[b h];decide
def AR(p:Int×List Mom):IV:=.tuple [.slice (ms p.2),.int .i64 p.1]
theorem EQ(a:List Mom)(v:Mom):ms (a++[v])=ms a++[[.int .u8 v.k,.int .i64 v.s]]:=by simp[ms]
theorem lg(q:Option Pm)(a:List Mom):io q [] a=(0,a):=rfl
theorem jA(q:Option Pm)(s:Str)(r:List Str)(a:List Mom):io q (s::r) a=if (fu s).2≠0 then ((fu s).2,[])else if GG q (fu s).1.k then (4,[])else io q r (a++[(fu s).1]):=rfl
theorem MX(q:Option Pm):∀(l:List Str) (a:List Mom),(io q l a).2.length<=l.length+a.length
 |[],a=>by rw[lg];simp
 |s::r,a=>by
  rw[jA];split
  ·simp
  ·split
   ·simp
   ·have:=MX q r (a++[(fu s).1]);simp at this |-;omega
theorem OL(c:UInt8)(s:Str):(parts c s).length<=s.length+1:=by
 rw[kX];have:=List.count_le_length (a:=c) (l:=s);omega
theorem Bl:ts []=[]:=rfl
theorem xV(x:Ln)(C:FitX x)(W:x.v.length<50000):Fn G2 T_ 147 [x.iv] (AR (d5 x)):=by
 refine ae hm Js (by simp) ?_;have H:=up (GY x.p nTZ (by have:=C.p;omega) (fun p I=>by have:=C.f.v p I;omega));have J:=up (GY x.p KY (by have:=C.p;omega) (fun p I=>by have:=C.f.v p I;omega));have w:=up (wF x.v 44 (by omega));obtain⟨R,g⟩:∃R,d5 x=R:=⟨_,rfl⟩;rw[g];unfold d5 at g;simp[Az,Ln.iv];refine aa H ?_;cases P:gB x.p nTZ with
 |some p=>
  rw[P]at g;simp at g;subst g;simp(disch:=omega)[wl,gP,Pm.iv,AR,ms]
 |none=>
  rw[P]at g;simp at g;simp(disch:=omega)[wl,gP,Pm.iv,Bl];refine aa J ?_;obtain⟨l,Q⟩:∃l,parts 44 x.v=l:=⟨_,rfl⟩;have K:=OL 44 x.v;rw[Q]at w g K
  have D:∀s∈l,s.length<1000000:=fun s o=>by
   have:=gg (c:=44) (v:=x.v) (Q▸o);omega
  cases L:gB x.p KY with
  |none=>
   rw[L]at g;simp(disch:=omega)[wl,gP,Pm.iv,Bl];refine aa w ?_;simp(disch:=omega)[wl,aQ];refine be hm [] (fun p:Nat×List Mom=>[(31,.val (.int .i64 p.1)),(8,.own 8 p.2.length)]) (fun p=>[(8,.arr p.2.length 2 (ms p.2)),(6,.box [.val (.str []),.val (.slice [])]),(4,.box [.val (.str []),.val (.slice [])])]) (fun p=>p.1<=l.length/\p.2.length<=p.1/\R=io none (l.drop p.1) p.2) (fun p=>l.length-p.1) (0,[]) ⟨by simp,by simp,by simpa using g.symm⟩ ?_ ?_
   ·simp[ms];exact cH.trans (ct (k:=8) 8 2 (by simp) (by simp[ap,ac])) (ag rfl rfl (by simp[St.adopt,aI,ap,ac,put,cS,SV.erase]) (by simp[St.adopt,bD,ac,put,ck,Ob.erase]) (by simp[St.adopt,bB]))
   rintro⟨i,a⟩ ⟨M,N,d⟩;dsimp only at M N d;clear g;simp[aQ];by_cases h:i<l.length
   ·obtain⟨s,o⟩:∃s,l[i]=s:=⟨_,rfl⟩;have y:=kM h o;have z:=yl s (D s (o▸List.getElem_mem h));rw[List.drop_eq_getElem_cons h,o,jA]at d;have A:=yv s;obtain⟨⟨⟨k,t⟩,e⟩,B⟩:∃r,fu s=r:=⟨_,rfl⟩;rw[B]at z d A;simp only[eX]at z;simp(disch:=omega)[wl,y];refine aa z ?_;by_cases m:e=0
    ·rw[if_neg (by simp[m])]at d;by_cases j:k=1
     ·rw[if_pos (by unfold GG;exact j)]at d;subst d;simp(disch:=omega)[wl,m,j,AR,ms]
     ·rw[if_neg (by unfold GG;exact j)]at d;simp(disch:=omega)[wl,m,j,cJ];refine⟨by omega,?_⟩;refine ai (i+1,a++[⟨k,t⟩]) ⟨by omega,by simp;omega,d⟩ (by omega) ?_;simp[EQ];exact bp
    ·rw[if_pos m]at d;subst d;simp(disch:=omega)[wl,m,AR,ms]
   ·obtain rfl:i=l.length:=by omega
    rw[List.drop_length,lg]at d;subst d;simp(disch:=omega)[wl,AR]
  |some p=>
   rw[L]at g;have E:p∈x.p:=List.mem_of_find?_eq_some L;have V:=C.f.v p E;simp(disch:=omega)[wl,gP,Pm.iv,Bl];refine aa w ?_;simp(disch:=omega)[wl,aQ];refine be hm [] (fun p:Nat×List Mom=>[(31,.val (.int .i64 p.1)),(8,.own 8 p.2.length)]) (fun q=>[(8,.arr q.2.length 2 (ms q.2)),(6,.box [.val (.str p.n),.val (.slice (ts p.v))]),(4,.box [.val (.str []),.val (.slice [])])]) (fun q=>q.1<=l.length/\q.2.length<=q.1/\R=io (some p) (l.drop q.1) q.2) (fun p=>l.length-p.1) (0,[]) ⟨by simp,by simp,by simpa using g.symm⟩ ?_ ?_
   ·simp[ms];exact cH.trans (ct (k:=8) 8 2 (by simp) (by simp[ap,ac])) (ag rfl rfl (by simp[St.adopt,aI,ap,ac,put,cS,SV.erase]) (by simp[St.adopt,bD,ac,put,ck,Ob.erase]) (by simp[St.adopt,bB]))
   rintro⟨i,a⟩ ⟨M,N,d⟩;dsimp only at M N d;clear g;simp[aQ];by_cases h:i<l.length
   ·obtain⟨s,o⟩:∃s,l[i]=s:=⟨_,rfl⟩;have y:=kM h o;have z:=yl s (D s (o▸List.getElem_mem h));rw[List.drop_eq_getElem_cons h,o,jA]at d;have A:=yv s;obtain⟨⟨⟨k,t⟩,e⟩,B⟩:∃r,fu s=r:=⟨_,rfl⟩;rw[B]at z d A;simp only[eX]at z;simp(disch:=omega)[wl,y];refine aa z ?_;by_cases m:e=0
    ·rw[if_neg (by simp[m])]at d;have S:GG (some p) k↔p.v.length≠1\/upper (p.v.headD [])≠tR k:=Iff.rfl;by_cases U:p.v.length=1
     ·obtain⟨v,f⟩:∃v,p.v=[v]:=List.length_eq_one_iff.1 U;have F:=up (Ic v (by have:=C.f.t p E v (by rw[f];simp);omega));have n:GG (some p) k↔¬upper v=tR k:=by rw[S,f];simp
      by_cases j:k=1
      ·have O:tR k=[68,65,84,69]:=by unfold tR;rw[if_pos j];rfl
       rw[O]at n;simp(disch:=omega)[wl,m,j,f,ts];refine aa F ?_;by_cases u:upper v=[68,65,84,69]
       ·rw[if_neg (fun h=>(n.1 h) u)]at d;simp(disch:=omega)[wl,u,cJ];refine⟨by omega,?_⟩;refine ai (i+1,a++[⟨k,t⟩]) ⟨by omega,by simp;omega,d⟩ (by omega) ?_;simp[EQ];exact ag rfl rfl (by simp[aI,ap,ac,j,ts,f]) (by simp[bD,ac,j,ts,f]) (by simp[bB])
       ·rw[if_pos (n.2 u)]at d;subst d;simp(disch:=omega)[wl,u,AR,ms]
      ·have O:tR k=[68,65,84,69,45,84,73,77,69]:=by unfold tR;rw[if_neg j];rfl
       rw[O]at n;simp(disch:=omega)[wl,m,j,f,ts];refine aa F ?_;by_cases u:upper v=[68,65,84,69,45,84,73,77,69]
       ·rw[if_neg (fun h=>(n.1 h) u)]at d;simp(disch:=omega)[wl,u,cJ];refine⟨by omega,?_⟩;refine ai (i+1,a++[⟨k,t⟩]) ⟨by omega,by simp;omega,d⟩ (by omega) ?_;simp[EQ];exact ag rfl rfl (by simp[aI,ap,ac,ts,f]) (by simp[bD,ac,ts,f]) (by simp[bB])
       ·rw[if_pos (n.2 u)]at d;subst d;simp(disch:=omega)[wl,u,AR,ms]
     ·rw[if_pos (S.2 (.inl U))]at d;subst d;by_cases j:k=1
      ·simp(disch:=omega)[wl,m,j,aQ,AR,ms]
      ·simp(disch:=omega)[wl,m,j,aQ,AR,ms]
    ·rw[if_pos m]at d;subst d;simp(disch:=omega)[wl,m,AR,ms]
   ·obtain rfl:i=l.length:=by omega
    rw[List.drop_length,lg]at d;subst d;simp(disch:=omega)[wl,AR]
def zuI(p:Int×Mom):IV:=.tuple [eX p.2,.int .i64 p.1]
theorem Uk(x:Ln)(f:FitX x):Fn G2 T_ 145 [x.iv] (zuI (rA x)):=by
 refine ae hm Le (by simp) ?_;have a:=yl x.v (by have:=f.v;omega);unfold rA;obtain⟨⟨⟨k,t⟩,e⟩,b⟩:∃r,fu x.v=r:=⟨_,rfl⟩;rw[b]at a |-;simp only[eX]at a;simp[DG,Ln.iv];refine aa a ?_;by_cases c:e=0
 ·by_cases d:k=3
  ·simp(disch:=omega)[wl,c,d,zuI,eX]
  ·simp(disch:=omega)[wl,c,d,zuI,eX]
 ·simp(disch:=omega)[wl,c,zuI,eX]
theorem Zd(x:Ln)(f:FitX x):Fn G2 T_ 102 [x.iv] (.tuple [eX (rA x).2,.int .i64 (rA x).1]):=by
 refine ae hm OA (by simp) ?_;have a:=ym x.v (by have:=f.v;omega);unfold rA;obtain⟨⟨⟨k,t⟩,e⟩,b⟩:∃r,fu x.v=r:=⟨_,rfl⟩;rw[b]at a |-;simp only[eX]at a;simp[Gj,Ln.iv];refine aa a ?_;by_cases c:e=0
 ·by_cases d:k=3
  ·simp(disch:=omega)[wl,c,d,eX]
  ·simp(disch:=omega)[wl,c,d,eX]
 ·simp(disch:=omega)[wl,c,eX]
theorem Zf(x:Ln)(f:FitX x):Fn G2 T_ 105 [x.iv] (.tuple [.int .i64 (GH x).2,.int .i64 (GH x).1]):=by
 refine ae hm Lb (by simp) ?_;have c:=R5 x.v (by have:=f.v;omega);unfold GH;obtain⟨⟨n,e⟩,a⟩:∃r,fM x.v=r:=⟨_,rfl⟩;rw[a]at c |-;simp[Dz,Ln.iv];refine aa c ?_;by_cases b:e=0
 ·by_cases d:n<=0
  ·simp(disch:=omega)[wl,b,d]
  ·simp(disch:=omega)[wl,b,d]
 ·simp(disch:=omega)[wl,b]
def xW(s:Str):Str->Nat->Nat->List Str->List Str
 |[],i,b,a=>a++[s.drop b]
 |c::r,i,b,a=>if c=44 then xW s r (i+1) (i+1) (a++[(s.take i).drop b])else xW s r (i+1) b a
theorem OM(s:Str):∀(r:Str) (i b:Nat) (a:List Str),s.drop i=r->i<=s.length->b<=i->44∉(s.take i).drop b->xW s r i b a=a++parts 44 (s.drop b)
 |[],i,b,a,h,n,o,g=>by
  have m:i=s.length:=by
   have:=congrArg List.length h;simp at this;omega
  subst m;rw[List.take_length]at g;unfold xW;rw[uA g]
 |c::r,i,b,a,h,n,o,g=>by
  have j:i<s.length:=by
   have:=congrArg List.length h;simp at this;omega
  have l:s[i]=c/\s.drop (i+1)=r:=by
   rw[List.drop_eq_getElem_cons j]at h;injection h with p q
   exact⟨p,q⟩
  have d:s.drop b=(s.take i).drop b++c::r:=by
   have e:s=s.take i++c::r:=by rw[<-h,List.take_append_drop]
   conv=>lhs;rw[e]
   rw[List.drop_append_of_le_length (by rw[List.length_take];omega)]
  unfold xW;split
  ·next f=>
   subst f;rw[OM s r (i+1) (i+1) _ l.2 (by omega) (Nat.le_refl _) (by simp),d,SB g,l.2];simp
  ·next f=>
   rw[OM s r (i+1) b a l.2 (by omega) (by omega) ?_];rw[List.take_add_one,List.getElem?_eq_getElem j,l.1];rw[List.drop_append_of_le_length (by rw[List.length_take];omega)];simp only[Option.toList_some,List.mem_append,List.mem_singleton,not_or];exact⟨g,fun h=>f h.symm⟩
theorem ts_app(a:List Str)(s:Str):ts (a++[s])=ts a++[[.str s]]:=by simp[ts]
theorem VX(s:Str)(n:s.length<1000000):Fn G2 T_ 162 [.str s] (.slice (ts (parts 44 s))):=by
 refine ae hm Jv (by simp) ?_;simp[AB];refine be hm [] (fun p:Nat×Nat×List Str=>[(5,.val (.int .i64 p.1)),(4,.val (.int .i64 p.2.1)),(3,.own 3 p.2.2.length)]) (fun p=>[(3,.arr p.2.2.length 1 (ts p.2.2))]) (fun p=>p.1<=s.length/\p.2.1<=p.1/\p.2.2.length<=p.1/\parts 44 s=xW s (s.drop p.1) p.1 p.2.1 p.2.2) (fun p=>s.length-p.1) (0,0,[]) ⟨by simp,by simp,by simp,by simpa using (OM s s 0 0 [] rfl (by omega) (by omega) (by simp)).symm⟩ ?_ ?_
 ·simp[Bl];exact cH.trans (ct (k:=3) 3 1 (by simp) (by simp[ap,ac])) (ag rfl rfl (by simp[St.adopt,aI,ap,ac,put,cS,SV.erase]) (by simp[St.adopt,bD,ac,put,ck,Ob.erase]) (by simp[St.adopt,bB]))
 rintro⟨i,g,a⟩ ⟨j,l,m,b⟩;dsimp only at j l m b;simp;by_cases h:i<s.length
 ·obtain⟨c,e⟩:∃c,s[i]=c:=⟨_,rfl⟩;rw[List.drop_eq_getElem_cons h,e]at b;unfold xW at b;have d:c.toNat=44↔c=44:=u8_is c 44 (by omega);by_cases q:c=44
  ·rw[if_pos q]at b;have f:=d.2 q;simp(disch:=omega)[wl,e,f,aQ];refine⟨⟨by omega,by omega⟩,by omega,?_⟩;refine ai (i+1,i+1,a++[(s.take i).drop g]) ⟨by omega,Nat.le_refl _,by simp;omega,b⟩ (by simp only;omega) ?_;simp[ts_app];exact bp
  ·rw[if_neg q]at b;have f:¬c.toNat=44:=fun h=>q (d.1 h)
   simp(disch:=omega)[wl,e,f];refine ai (i+1,g,a) ⟨by omega,by simp only;omega,by simp only;omega,b⟩ (by simp only;omega) ?_;simp;exact bp
 ·obtain rfl:i=s.length:=by omega
  rw[List.drop_length]at b;unfold xW at b;simp(disch:=omega)[wl,b,ts_app,aQ];omega
theorem ER(x:Ln)(E:FitX x)(U:x.v.length<50000):Fn G2 T_ 104 [x.iv] (AR (d5 x)):=by
 refine ae hm Jp (by simp) ?_;have F:=up (Io x.p nTZ (by have:=E.p;omega));have H:=up (Io x.p KY (by have:=E.p;omega));have u:=VX x.v (by omega);obtain⟨R,f⟩:∃R,d5 x=R:=⟨_,rfl⟩;rw[f];unfold d5 at f;simp[As,Ln.iv];refine aa F ?_;cases N:gB x.p nTZ with
 |some p=>
  rw[N]at f;simp at f;subst f;simp(disch:=omega)[wl,gP,Pm.iv,AR,ms]
 |none=>
  rw[N]at f;simp at f;simp(disch:=omega)[wl,gP,Pm.iv,Bl];refine aa H ?_;obtain⟨l,O⟩:∃l,parts 44 x.v=l:=⟨_,rfl⟩;have I:=OL 44 x.v;rw[O]at u f I
  have B:∀s∈l,s.length<1000000:=fun s n=>by
   have:=gg (c:=44) (v:=x.v) (O▸n);omega
  cases J:gB x.p KY with
  |none=>
   rw[J]at f;simp(disch:=omega)[wl,gP,Pm.iv,Bl];refine aa u ?_;simp(disch:=omega)[wl,aQ];refine be hm [] (fun p:Nat×List Mom=>[(10,.val (.int .i64 p.1)),(9,.own 9 p.2.length)]) (fun p=>[(9,.arr p.2.length 2 (ms p.2)),(6,.box [.val (.str []),.val (.slice [])]),(4,.box [.val (.str []),.val (.slice [])])]) (fun p=>p.1<=l.length/\p.2.length<=p.1/\R=io none (l.drop p.1) p.2) (fun p=>l.length-p.1) (0,[]) ⟨by simp,by simp,by simpa using f.symm⟩ ?_ ?_
   ·simp[ms];exact cH.trans (ct (k:=9) 9 2 (by simp) (by simp[ap,ac])) (ag rfl rfl (by simp[St.adopt,aI,ap,ac,put,cS,SV.erase]) (by simp[St.adopt,bD,ac,put,ck,Ob.erase]) (by simp[St.adopt,bB]))
   rintro⟨i,a⟩ ⟨K,L,b⟩;dsimp only at K L b;clear f;simp[aQ];by_cases h:i<l.length
   ·obtain⟨s,n⟩:∃s,l[i]=s:=⟨_,rfl⟩;have w:=kM h n;have y:=ym s (B s (n▸List.getElem_mem h));rw[List.drop_eq_getElem_cons h,n,jA]at b;have z:=yv s;obtain⟨⟨⟨k,t⟩,e⟩,A⟩:∃r,fu s=r:=⟨_,rfl⟩;rw[A]at y b z;simp only[eX]at y;simp(disch:=omega)[wl,w];refine aa y ?_;by_cases j:e=0
    ·rw[if_neg (by simp[j])]at b;by_cases g:k=1
     ·rw[if_pos (by unfold GG;exact g)]at b;subst b;simp(disch:=omega)[wl,j,g,AR,ms]
     ·rw[if_neg (by unfold GG;exact g)]at b;simp(disch:=omega)[wl,j,g,cJ];refine⟨by omega,?_⟩;refine ai (i+1,a++[⟨k,t⟩]) ⟨by omega,by simp;omega,b⟩ (by omega) ?_;simp[EQ];exact bp
    ·rw[if_pos j]at b;subst b;simp(disch:=omega)[wl,j,AR,ms]
   ·obtain rfl:i=l.length:=by omega
    rw[List.drop_length,lg]at b;subst b;simp(disch:=omega)[wl,AR]
  |some p=>
   rw[J]at f;have C:p∈x.p:=List.mem_of_find?_eq_some J;have S:=E.f.v p C;simp(disch:=omega)[wl,gP,Pm.iv,Bl];refine aa u ?_;simp(disch:=omega)[wl,aQ];refine be hm [] (fun p:Nat×List Mom=>[(10,.val (.int .i64 p.1)),(9,.own 9 p.2.length)]) (fun q=>[(9,.arr q.2.length 2 (ms q.2)),(6,.box [.val (.str p.n),.val (.slice (ts p.v))]),(4,.box [.val (.str []),.val (.slice [])])]) (fun q=>q.1<=l.length/\q.2.length<=q.1/\R=io (some p) (l.drop q.1) q.2) (fun p=>l.length-p.1) (0,[]) ⟨by simp,by simp,by simpa using f.symm⟩ ?_ ?_
   ·simp[ms];exact cH.trans (ct (k:=9) 9 2 (by simp) (by simp[ap,ac])) (ag rfl rfl (by simp[St.adopt,aI,ap,ac,put,cS,SV.erase]) (by simp[St.adopt,bD,ac,put,ck,Ob.erase]) (by simp[St.adopt,bB]))
   rintro⟨i,a⟩ ⟨K,L,b⟩;dsimp only at K L b;clear f;simp[aQ];by_cases h:i<l.length
   ·obtain⟨s,n⟩:∃s,l[i]=s:=⟨_,rfl⟩;have w:=kM h n;have y:=ym s (B s (n▸List.getElem_mem h));rw[List.drop_eq_getElem_cons h,n,jA]at b;have z:=yv s;obtain⟨⟨⟨k,t⟩,e⟩,A⟩:∃r,fu s=r:=⟨_,rfl⟩;rw[A]at y b z;simp only[eX]at y;simp(disch:=omega)[wl,w];refine aa y ?_;by_cases j:e=0
    ·rw[if_neg (by simp[j])]at b;have P:GG (some p) k↔p.v.length≠1\/upper (p.v.headD [])≠tR k:=Iff.rfl;by_cases Q:p.v.length=1
     ·obtain⟨v,d⟩:∃v,p.v=[v]:=List.length_eq_one_iff.1 Q;have D:=up (Mv v (by have:=E.f.t p C v (by rw[d];simp);omega));have m:GG (some p) k↔¬upper v=tR k:=by rw[P,d];simp
      by_cases g:k=1
      ·have M:tR k=[68,65,84,69]:=by unfold tR;rw[if_pos g];rfl
       rw[M]at m;simp(disch:=omega)[wl,j,g,d,ts];refine aa D ?_;by_cases o:upper v=[68,65,84,69]
       ·rw[if_neg (fun h=>(m.1 h) o)]at b;simp(disch:=omega)[wl,o,cJ];refine⟨by omega,?_⟩;refine ai (i+1,a++[⟨k,t⟩]) ⟨by omega,by simp;omega,b⟩ (by omega) ?_;simp[EQ];exact ag rfl rfl (by simp[aI,ap,ac,g,ts,d]) (by simp[bD,ac,g,ts,d]) (by simp[bB])
       ·rw[if_pos (m.2 o)]at b;subst b;simp(disch:=omega)[wl,o,AR,ms]
      ·have M:tR k=[68,65,84,69,45,84,73,77,69]:=by unfold tR;rw[if_neg g];rfl
       rw[M]at m;simp(disch:=omega)[wl,j,g,d,ts];refine aa D ?_;by_cases o:upper v=[68,65,84,69,45,84,73,77,69]
       ·rw[if_neg (fun h=>(m.1 h) o)]at b;simp(disch:=omega)[wl,o,cJ];refine⟨by omega,?_⟩;refine ai (i+1,a++[⟨k,t⟩]) ⟨by omega,by simp;omega,b⟩ (by omega) ?_;simp[EQ];exact ag rfl rfl (by simp[aI,ap,ac,ts,d]) (by simp[bD,ac,ts,d]) (by simp[bB])
       ·rw[if_pos (m.2 o)]at b;subst b;simp(disch:=omega)[wl,o,AR,ms]
     ·rw[if_pos (P.2 (.inl Q))]at b;subst b;by_cases g:k=1
      ·simp(disch:=omega)[wl,j,g,aQ,AR,ms]
      ·simp(disch:=omega)[wl,j,g,aQ,AR,ms]
    ·rw[if_pos j]at b;subst b;simp(disch:=omega)[wl,j,AR,ms]
   ·obtain rfl:i=l.length:=by omega
    rw[List.drop_length,lg]at b;subst b;simp(disch:=omega)[wl,AR]
theorem ON(l:List Mom)(h:l.length=1):l=[l.headD SR]:=by
 obtain⟨v,rfl⟩:=List.length_eq_one_iff.1 h;rfl
theorem MY(q:Option Pm):∀(l:List Str) (a:List Mom),(io q l a).1≠0->(io q l a).2=[]
 |[],a,h=>by rw[lg]at h;exact absurd rfl h
 |s::r,a,h=>by
  rw[jA]at h |-;split
  ·rfl
  ·next b=>
   rw[if_neg b]at h;split
   ·rfl
   ·next c=>rw[if_neg c]at h;exact MY q r _ h
theorem T5{x:Ln}(h:(d5 x).1≠0):(d5 x).2=[]:=by
 unfold d5 at h |-;split
 ·rfl
 ·next a=>rw[if_neg a]at h;exact MY _ _ _ h
theorem JG(q:Option Pm):∀(l:List Str) (a:List Mom),(io q l a).1=0->(io q l a).2.length=l.length+a.length
 |[],a,h=>by rw[lg];simp
 |s::r,a,h=>by
  rw[jA]at h |-;split
  ·next b=>rw[if_pos b]at h;exact absurd h b
  ·next b=>
   rw[if_neg b]at h;split
   ·next c=>rw[if_pos c]at h;cases h
   ·next c=>
    rw[if_neg c]at h;have:=JG q r _ h;simp at this |-;omega
theorem vl{x:Ln}(h:(d5 x).1=0):1<=(d5 x).2.length:=by
 unfold d5 at h |-;split
 ·next a=>rw[if_pos a]at h;cases h
 ·next a=>
  rw[if_neg a]at h;rw[JG _ _ _ h];have:=List.length_pos_iff.2 (tA 44 x.v);omega
theorem JH(x:Ln)(i:FitX x)(j:x.v.length<50000):Fn G2 T_ 103 [x.iv] (.tuple [eX (gE x).2,.int .i64 (gE x).1]):=by
 refine ae hm La (by simp) ?_;have c:=ER x i j;have d:=@vl x;have g:=@T5 x;unfold gE;obtain⟨⟨e,l⟩,f⟩:∃r,d5 x=r:=⟨_,rfl⟩;rw[f]at c d g |-;dsimp only at d g |-;simp only[AR,Ln.iv]at c;simp[Dx,Ln.iv];refine aa c ?_;by_cases b:e=0
 ·have k:=d b;by_cases h:l.length=1
  ·have a:=ON l h;rw[a];simp(disch:=omega)[wl,b,ms,eX]
  ·simp(disch:=omega)[wl,b,cJ,h,eX,SR]
 ·simp(disch:=omega)[wl,b,eX,SR]
end Go.Vs.YtcjeehebikeghaaGreatDoor.Vt
