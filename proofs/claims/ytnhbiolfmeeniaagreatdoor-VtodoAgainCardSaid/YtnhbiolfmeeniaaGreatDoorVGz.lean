/- A part of a proof. No conditions. -/
import Derived.Test.YtnhbiolfmeeniaaGreatDoorVDz
set_option linter.all false
set_option maxRecDepth 100000
set_option maxHeartbeats 16000000
namespace Go.Vs.Y.Vt
open Go.Proofs Go.Vs.U8 Go.Vs.Pa Go.Vs.Nu Go.Vs.Mo Go.Vs.Vt Go.Vs.Y.Rc
def B7(f:Fc):List IV:=[.str f.uid,.str f.sm,.int .u8 f.st.k,.int .i64 f.st.s,.int .u8 f.b.k,.int .i64 f.b.s,.int .u8 f.e.k,.int .i64 f.e.s,.int .i64 f.sp,.int .u8 f.li.s,.int .i64 f.li.p,.int .i64 f.li.d,.int .i64 f.pr,.bool f.rd]++(cells f.ru++[.slice (ms f.i),.slice (ms f.o),.int .u8 f.at'.k,.int .i64 f.at'.s,.bool f.af])
def Fc.iv(f:Fc):IV:=.agg (B7 f)
def Dt(v:Mom):Prop:=0<=v.k/\0<=v.s/\v.s<=315537897599
structure FitF(f:Fc):Prop where
 st:Dt f.st
 b:Dt f.b
 e:Dt f.e
 t:Dt f.at'
 sp:-86399913600<=f.sp/\f.sp<=86399913600
 ls:0<=f.li.s
 il:f.i.length<100000
 ol:f.o.length<100000
 ik:∀v∈f.i,0<=v.k
 ok:∀v∈f.o,0<=v.k
 rf:Do f.ru
 uk:0<=f.ru.u.k
 rk:0<=f.ru.f
 ul:f.uid.length<100000
 pp:-1<=f.pr/\f.pr<=1000
theorem FitF.set{f:Fc}(h:FitF f):FitS f.b f.ru f.i f.o:=⟨h.b.1,h.uk,h.il,h.ol,h.ik,h.ok,h.rf⟩
theorem mM(k s:Int):Fn G2 T_ 39 [.agg [.int .u8 k,.int .i64 s]] (.bool (decide (k≠0))):=by
 refine ae hm LI (by simp) ?_;simp[Cc]
theorem Jo(f:Fc):Fn G2 T_ 13 [f.iv] (wI f.b f.ru f.i f.o):=by
 refine ae hm Rf (by simp) ?_;simp[I6,Fc.iv,B7,cells,wI]
theorem aih{f:Fc}(h:FitF f):-315537897599<=di f/\di f<=315537897599:=by
 obtain⟨_,a,b,_,c,_⟩:=h;unfold di Dt at *;split<;>omega
theorem Wr(f:Fc)(h:FitF f):Fn G2 T_ 64 [.ref (B7 f)] (.int .i64 (di f)):=by
 refine ae hm qM (by simp) ?_;obtain⟨_,e,g,_,i,_⟩:=h;unfold Dt at e g;simp[jY,B7,cells];refine aa (mM f.b.k f.b.s) ?_;by_cases b:f.b.k=0
 .have a:di f=f.sp:=by unfold di;rw[if_neg (by simp[b])]
  simp(disch:=omega)[wl,b,a]
 simp(disch:=omega)[wl,b];refine aa (mM f.e.k f.e.s) ?_;by_cases d:f.e.k=0
 .have a:di f=f.sp:=by unfold di;rw[if_neg (by simp[d])]
  simp(disch:=omega)[wl,d,a]
 have a:di f=f.e.s-f.b.s:=by unfold di;rw[if_pos ⟨b,d⟩]
 simp(disch:=omega)[wl,d,a]
theorem Fs(f:Fc):Fn G2 T_ 11 [f.iv] (.int .i64 (dN f)):=by
 refine ae hm NF (by simp) ?_;simp[Fa,Fc.iv,B7,cells];refine aa (mM f.at'.k f.at'.s) ?_;by_cases b:f.at'.k=0
 .have d:dN f=f.b.s:=by unfold dN;rw[if_neg (by simp[b])]
  simp(disch:=omega)[wl,b,d]
 cases e:f.rd with
 |false=>
  have d:dN f=f.b.s:=by unfold dN;rw[if_neg (by simp[e])]
  simp(disch:=omega)[wl,b,d]
 |true=>
  have d:dN f=f.at'.s:=by unfold dN;rw[if_pos ⟨b,e⟩]
  simp(disch:=omega)[wl,b,d]
theorem U6(f:Fc)(h:FitF f)(a:Int):Fn G2 T_ 30 [f.iv,.int .i64 a] (.tuple [.int .i64 (jk f a).1,.bool (jk f a).2]):=by
 refine ae hm LH (by simp) ?_;have j:=Wr f h;have l:=aih h;have hT:=mM f.b.k f.b.s;obtain⟨R,b⟩:=A_ (jk f a);rw[b];unfold jk at b;simp only[B7,cells]at j;simp[Ca,Fc.iv,B7,cells];by_cases d:a<0
 .rw[if_pos (.inl d)]at b;subst b;simp(disch:=omega)[wl,d]
 by_cases e:315537897599<a
 .rw[if_pos (.inr (.inl e))]at b;subst b;simp(disch:=omega)[wl,d,e]
 simp(disch:=omega)[wl,d,e];refine aa hT ?_;by_cases g:f.b.k=0
 .rw[if_pos (.inr (.inr (.inl g)))]at b;subst b;simp(disch:=omega)[wl,g]
 simp(disch:=omega)[wl,g];refine aa j ?_;by_cases i:315537897599<a+di f
 .rw[if_pos (.inr (.inr (.inr i)))]at b;subst b;simp(disch:=omega)[wl,i]
 rw[if_neg (by simp[d,e,g,i])]at b;subst b;simp(disch:=omega)[wl,i]
theorem Rn(f:Fc)(h:FitF f):Fn G2 T_ 10 [f.iv] (.tuple [.int .i64 (mg f).1,.bool (mg f).2]):=by
 refine ae hm Re (by simp) ?_;have hT:=mM f.e.k f.e.s;have e:=Fs f;have g:=U6 f h (dN f);simp only[Fc.iv,B7,cells]at e g;simp[I4,Fc.iv,B7,cells];refine aa hT ?_;by_cases d:f.e.k=0
 .have b:mg f=jk f (dN f):=by unfold mg;rw[if_neg (by simp[d])]
  rw[d]at e g;simp(disch:=omega)[wl,d,b];refine aa e ?_;simp(disch:=omega)[wl];refine aa g ?_;simp(disch:=omega)[wl];exact⟨rfl,by rw[b],by rw[b]⟩
 cases i:f.rd with
 |true=>
  have b:mg f=jk f (dN f):=by unfold mg;rw[if_neg (by simp[i])]
  rw[i]at e g;simp(disch:=omega)[wl,d,b];refine aa e ?_;simp(disch:=omega)[wl];refine aa g ?_;simp(disch:=omega)[wl];exact⟨rfl,by rw[b],by rw[b]⟩
 |false=>
  have b:mg f=(f.e.s,true):=by unfold mg;rw[if_pos ⟨d,i⟩]
  simp(disch:=omega)[wl,d,b]
theorem Jp(s:Str):Dt (iw s).1:=by
 obtain⟨a,b,d⟩:=Xv (v:=(iw s).1) (e:=(iw s).2) (s:=s) rfl;unfold Dt;by_cases h:(iw s).2=0
 .obtain⟨f,g,i,j,l⟩:=AQ (a h);omega
 rw[b h];decide
def S9(p:Int×List Mom):IV:=.tuple [.slice (ms p.2),.int .i64 p.1]
theorem Ws(a:List Mom)(v:Mom):ms (a++[v])=ms a++[[.int .u8 v.k,.int .i64 v.s]]:=by simp[ms]
theorem nV(q:Option Pm)(a:List Mom):lH q [] a=(0,a):=rfl
theorem lh(q:Option Pm)(s:Str)(r:List Str)(a:List Mom):lH q (s::r) a=if (iw s).2≠0 then ((iw s).2,[])else if GQ q (iw s).1.k then (4,[])else lH q r (a++[(iw s).1]):=rfl
theorem PC(q:Option Pm):∀(l:List Str) (a:List Mom),(lH q l a).2.length<=l.length+a.length
 |[],a=>by rw[nV];simp
 |s::r,a=>by
  rw[lh];split
  .simp
  split
  .simp
  have:=PC q r (a++[(iw s).1]);simp at this |-;omega
theorem XP(c:UInt8)(s:Str):(parts c s).length<=s.length+1:=by
 rw[sC];have:=List.count_le_length (a:=c) (l:=s);omega
theorem Wt:ts []=[]:=rfl
theorem Ac(x:Ln)(C:FitX x)(W:x.v.length<50000):Fn G2 T_ 91 [x.iv] (S9 (cO x)):=by
 refine ae hm LN (by simp) ?_;have H:=up (Ja x.p nTZ (by have:=C.p;omega) (fun p I=>by have:=C.f.v p I;omega));have J:=up (Ja x.p F3 (by have:=C.p;omega) (fun p I=>by have:=C.f.v p I;omega));have w:=up (zl x.v 44 (by omega));obtain⟨R,g⟩:=A_ (cO x);rw[g];unfold cO at g;simp[Ci,Ln.iv];refine aa H ?_;cases P:ij x.p nTZ with
 |some p=>
  rw[P]at g;simp at g;subst g;simp(disch:=omega)[wl,tr,Pm.iv,S9,ms]
 |none=>
  rw[P]at g;simp at g;simp(disch:=omega)[wl,tr,Pm.iv,Wt];refine aa J ?_;obtain⟨l,Q⟩:=A_ (parts 44 x.v);have K:=XP 44 x.v;rw[Q]at w g K
  have D:∀s∈l,s.length<1000000:=fun s o=>by
   have:=nJ (c:=44) (v:=x.v) (Q▸o);omega
  cases L:ij x.p F3 with
  |none=>
   rw[L]at g;simp(disch:=omega)[wl,tr,Pm.iv,Wt];refine aa w ?_;simp(disch:=omega)[wl,bO];refine bx hm [] (fun p:Nat×List Mom=>[(31,.val (.int .i64 p.1)),(8,.own 8 p.2.length)]) (fun p=>[(8,.arr p.2.length 2 (ms p.2)),(6,.box [.val (.str []),.val (.slice [])]),(4,.box [.val (.str []),.val (.slice [])])]) (fun p=>p.1<=l.length/\p.2.length<=p.1/\R=lH none (l.drop p.1) p.2) (fun p=>l.length-p.1) (0,[]) ⟨by simp,by simp,by simpa using g.symm⟩ ?_ ?_
   .simp[ms];exact cJ.trans (fu (k:=8) 8 2 (by simp) (by simp[aE,ac])) (an rfl rfl (by simp[St.adopt,bj,aE,ac,put,dB,SV.erase]) (by simp[St.adopt,bZ,ac,put,cp,Ob.erase]) (by simp[St.adopt,bX]))
   rintro⟨i,a⟩ ⟨M,N,d⟩;dsimp only at M N d;clear g;simp[bO];by_cases h:i<l.length
   .obtain⟨s,o⟩:=A_ (l[i]);have y:=xt h o;have z:=AS s (D s (o▸List.getElem_mem h));rw[List.drop_eq_getElem_cons h,o,lh]at d;have A:=Jp s;obtain⟨⟨⟨k,t⟩,e⟩,B⟩:=A_ (iw s);rw[B]at z d A;simp only[ma]at z;simp(disch:=omega)[wl,y];refine aa z ?_;by_cases m:e=0
    .rw[if_neg (by simp[m])]at d;by_cases j:k=1
     .rw[if_pos (by unfold GQ;exact j)]at d;subst d;simp(disch:=omega)[wl,m,j,S9,ms]
     rw[if_neg (by unfold GQ;exact j)]at d;simp(disch:=omega)[wl,m,j,bP];refine⟨by omega,?_⟩;refine aj (i+1,a++[⟨k,t⟩]) ⟨by omega,by simp;omega,d⟩ (by omega) ?_;simp[Ws];exact bA
    rw[if_pos m]at d;subst d;simp(disch:=omega)[wl,m,S9,ms]
   obtain rfl:i=l.length:=by omega
   rw[List.drop_length,nV]at d;subst d;simp(disch:=omega)[wl,S9]
  |some p=>
   rw[L]at g;have E:p∈x.p:=List.mem_of_find?_eq_some L;have V:=C.f.v p E;simp(disch:=omega)[wl,tr,Pm.iv,Wt];refine aa w ?_;simp(disch:=omega)[wl,bO];refine bx hm [] (fun p:Nat×List Mom=>[(31,.val (.int .i64 p.1)),(8,.own 8 p.2.length)]) (fun q=>[(8,.arr q.2.length 2 (ms q.2)),(6,.box [.val (.str p.n),.val (.slice (ts p.v))]),(4,.box [.val (.str []),.val (.slice [])])]) (fun q=>q.1<=l.length/\q.2.length<=q.1/\R=lH (some p) (l.drop q.1) q.2) (fun p=>l.length-p.1) (0,[]) ⟨by simp,by simp,by simpa using g.symm⟩ ?_ ?_
   .simp[ms];exact cJ.trans (fu (k:=8) 8 2 (by simp) (by simp[aE,ac])) (an rfl rfl (by simp[St.adopt,bj,aE,ac,put,dB,SV.erase]) (by simp[St.adopt,bZ,ac,put,cp,Ob.erase]) (by simp[St.adopt,bX]))
   rintro⟨i,a⟩ ⟨M,N,d⟩;dsimp only at M N d;clear g;simp[bO];by_cases h:i<l.length
   .obtain⟨s,o⟩:=A_ (l[i]);have y:=xt h o;have z:=AS s (D s (o▸List.getElem_mem h));rw[List.drop_eq_getElem_cons h,o,lh]at d;have A:=Jp s;obtain⟨⟨⟨k,t⟩,e⟩,B⟩:=A_ (iw s);rw[B]at z d A;simp only[ma]at z;simp(disch:=omega)[wl,y];refine aa z ?_;by_cases m:e=0
    .rw[if_neg (by simp[m])]at d;have S:GQ (some p) k↔p.v.length≠1\/upper (p.v.headD [])≠LB k:=Iff.rfl;by_cases U:p.v.length=1
     .obtain⟨v,f⟩:∃v,p.v=[v]:=List.length_eq_one_iff.1 U;have F:=up (Kw v (by have:=C.f.t p E v (by rw[f];simp);omega));have n:GQ (some p) k↔¬upper v=LB k:=by rw[S,f];simp
      by_cases j:k=1
      .have O:LB k=[68,65,84,69]:=by unfold LB;rw[if_pos j];rfl
       rw[O]at n;simp(disch:=omega)[wl,m,j,f,ts];refine aa F ?_;by_cases u:upper v=[68,65,84,69]
       .rw[if_neg (fun h=>(n.1 h) u)]at d;simp(disch:=omega)[wl,u,bP];refine⟨by omega,?_⟩;refine aj (i+1,a++[⟨k,t⟩]) ⟨by omega,by simp;omega,d⟩ (by omega) ?_;simp[Ws];exact an rfl rfl (by simp[bj,aE,ac,j,ts,f]) (by simp[bZ,ac,j,ts,f]) (by simp[bX])
       rw[if_pos (n.2 u)]at d;subst d;simp(disch:=omega)[wl,u,S9,ms]
      have O:LB k=[68,65,84,69,45,84,73,77,69]:=by unfold LB;rw[if_neg j];rfl
      rw[O]at n;simp(disch:=omega)[wl,m,j,f,ts];refine aa F ?_;by_cases u:upper v=[68,65,84,69,45,84,73,77,69]
      .rw[if_neg (fun h=>(n.1 h) u)]at d;simp(disch:=omega)[wl,u,bP];refine⟨by omega,?_⟩;refine aj (i+1,a++[⟨k,t⟩]) ⟨by omega,by simp;omega,d⟩ (by omega) ?_;simp[Ws];exact an rfl rfl (by simp[bj,aE,ac,ts,f]) (by simp[bZ,ac,ts,f]) (by simp[bX])
      rw[if_pos (n.2 u)]at d;subst d;simp(disch:=omega)[wl,u,S9,ms]
     rw[if_pos (S.2 (.inl U))]at d;subst d;by_cases j:k=1
     .simp(disch:=omega)[wl,m,j,bO,S9,ms]
     simp(disch:=omega)[wl,m,j,bO,S9,ms]
    rw[if_pos m]at d;subst d;simp(disch:=omega)[wl,m,S9,ms]
   obtain rfl:i=l.length:=by omega
   rw[List.drop_length,nV]at d;subst d;simp(disch:=omega)[wl,S9]
def zuI(p:Int×Mom):IV:=.tuple [ma p.2,.int .i64 p.1]
theorem XQ(x:Ln)(f:FitX x):Fn G2 T_ 89 [x.iv] (zuI (zV x)):=by
 refine ae hm NK (by simp) ?_;have a:=AS x.v (by have:=f.v;omega);unfold zV;obtain⟨⟨⟨k,t⟩,e⟩,b⟩:=A_ (iw x.v);rw[b]at a |-;simp only[ma]at a;simp[Fm,Ln.iv];refine aa a ?_;by_cases c:e=0
 .by_cases d:k=3
  .simp(disch:=omega)[wl,c,d,zuI,ma]
  simp(disch:=omega)[wl,c,d,zuI,ma]
 simp(disch:=omega)[wl,c,zuI,ma]
theorem ts_app(a:List Str)(s:Str):ts (a++[s])=ts a++[[.str s]]:=by simp[ts]
theorem Wu(l:List Mom)(h:l.length=1):l=[l.headD mj]:=by
 obtain⟨v,rfl⟩:=List.length_eq_one_iff.1 h;rfl
theorem LU(q:Option Pm):∀(l:List Str) (a:List Mom),(lH q l a).1=0->(lH q l a).2.length=l.length+a.length
 |[],a,h=>by rw[nV];simp
 |s::r,a,h=>by
  rw[lh]at h |-;split
  .next b=>rw[if_pos b]at h;exact absurd h b
  next b=>
  rw[if_neg b]at h;split
  .next c=>rw[if_pos c]at h;cases h
  next c=>
  rw[if_neg c]at h;have:=LU q r _ h;simp at this |-;omega
theorem Du{x:Ln}(h:(cO x).1=0):1<=(cO x).2.length:=by
 unfold cO at h |-;split
 .next a=>rw[if_pos a]at h;cases h
 next a=>
 rw[if_neg a]at h;rw[LU _ _ _ h];have:=List.length_pos_iff.2 (tp 44 x.v);omega
end Go.Vs.Y.Vt
