/- A part of a proof. No conditions. -/
import Derived.Test.YtnhbiolfmeeniaaGreatDoorXEz
set_option linter.all false
set_option maxRecDepth 100000
set_option maxHeartbeats 16000000
namespace Go.Vs.Y.Vt
open Go.Proofs Go.Vs.Cv Go.Vs.Nu Go.Vs.Mo Go.Vs.Y.Rc
structure WkA where
 b:Mom
 r:Ru
 i:List Mom
 o:List Mom
 fr:Int
 to:Int
 bud:Int
 once:Bool
def WkA.obs(x:WkA)(b:Int)(a:List Int):List (Nat×Ob):=[(1000,.box (AD x.b x.r x.i x.o x.fr x.to x.bud x.once b (.own 1001 a.length))),(1001,.arr a.length 1 (is a))]
structure WkF(x:WkA):Prop where
 k:RuK x.r
 s:0<=x.b.s/\x.b.s<=315537897599
 fr:0<=x.fr/\x.fr<=315537897600
 to:0<=x.to/\x.to<=315537897600
 bud:0<=x.bud/\x.bud<=4000
 c:0<=x.r.c/\x.r.c<=1000
 i:x.i.length<=1000
 o:x.o.length<=1000
 p:∀p∈x.r.l12,-1000000<p/\p<1000000
def DB(x:WkA):Option Nat:=
 if 0<x.r.c then some (dK x.r.f.toNat x.r.w.toNat x.b.s.toNat)
 else if 315537897599<max x.fr x.b.s then none
 else some (wJ (dK x.r.f.toNat x.r.w.toNat x.b.s.toNat) x.r.i.toNat (dK x.r.f.toNat x.r.w.toNat (max x.fr x.b.s).toNat))
def aiE:Option Nat->IV
 |some i=>.tuple [.int .i64 i,.bool true]
 |none=>.tuple [.int .i64 0,.bool false]
theorem Hb{f w s:Nat}(d:f<=6)(e:w<=6)(g:s<=ff):dK f w s<=ff:=by
 have h:=(Y0 d e g).2;have c:=RL d e;unfold ff at *;have:f<=3\/f=4\/f=5\/f=6:=by omega
 rcases this with j|l|m|n
 .have:=(c.1 j).1;have o:=Af f;have:dZ f w*1<=dZ f w*eJ f:=Nat.mul_le_mul_left _ o;omega
 .have:=c.2.1 l;omega
 .have:=c.2.2.1 m;omega
 have:=c.2.2.2 n;omega
theorem aam(x:WkA)(c:WkF x)(b:Int)(d:List Int):lB G2 T_ 102 {args:=[.loc 1000 0],objs:=x.obs b d,res:=.val (aiE (DB x)),objs':=x.obs b d,ro':=[] }:=by
 refine aK hm ug (by simp) rfl ?_;have C:=c.k.s.f;have D:=c.k.s.w;have E:=c.s;have z:=c.fr;have F:=c.k.i;obtain⟨f,p⟩:∃f:Nat,x.r.f=(f:Int):=⟨x.r.f.toNat,by omega⟩;obtain⟨w,q⟩:∃w:Nat,x.r.w=(w:Int):=⟨x.r.w.toNat,by omega⟩;obtain⟨s,u⟩:∃s:Nat,x.b.s=(s:Int):=⟨x.b.s.toNat,by omega⟩;obtain⟨k,v⟩:∃k:Nat,x.r.i=(k:Int):=⟨x.r.i.toNat,by omega⟩;have y:=Rc.fn_Index f w s (by omega) (by omega) (by unfold ff;omega);have n:=Hb (f:=f) (w:=w) (s:=s) (by omega) (by omega) (by unfold ff;omega);obtain⟨R,a⟩:=A_ (DB x);rw[a];unfold DB at a;rw[p,q,u,v]at a;simp only[Int.toNat_natCast]at a;obtain⟨I,o⟩:=A_ (dK f w s);rw[o]at y a n;simp only[WkA.obs,AD,pd,List.cons_append,List.nil_append];rw[p,q,u,v];simp[lY,is_len,aJ,bP];refine⟨rfl,?_⟩;refine aa y ?_;by_cases e:0<x.r.c
 .rw[if_pos e]at a;subst a;simp(disch:=omega)[wl,e];exact ch [(2,.val (.int .i64 I)),(3,.val (.bool true))]
 rw[if_neg e]at a;obtain⟨T,hT⟩:∃T:Nat,max x.fr (s:Int)=(T:Int):=⟨(max x.fr (s:Int)).toNat,by omega⟩;rw[hT]at a;by_cases m:315537897599<(T:Int)
 .rw[if_pos m]at a;subst a;simp(disch:=omega)[wl,e,hT,m];exact ch [(2,.val (.int .i64 0)),(3,.val (.bool false))]
 rw[if_neg m,Int.toNat_natCast]at a;have g:T<=ff:=by unfold ff;omega
 have h:=Rc.fn_Index f w T (by omega) (by omega) g;have j:=Hb (f:=f) (w:=w) (s:=T) (by omega) (by omega) g;obtain⟨J,A⟩:=A_ (dK f w T);rw[A]at h a j;have l:=agk I k J (by omega) (by omega) (by omega) (by omega);obtain⟨S,B⟩:=A_ (wJ I k J);rw[B]at l a;subst a;simp(disch:=omega)[wl,e,hT,m];refine aa h ?_;simp(disch:=omega)[wl];refine aa l ?_;simp(disch:=omega)[wl];exact⟨rfl,ch [(2,.val (.int .i64 S)),(3,.val (.bool true))]⟩
def RT(x:WkA)(t:Int)(a:List Int):List Int:=if x.fr<=t/\t<x.to then a++[t]else a
def aan(x:WkA)(t:Int):Bool:=decide (x.fr<=t/\t<x.to)&&(x.once&&!atM x.o t)
theorem adP(x:WkA)(m:WkF x)(d:Int)(a:List Int)(t:Int)(q:a.length<1000000):lB G2 T_ 107 {args:=[.loc 1000 0,.val (.int .i64 t)],objs:=x.obs d a,res:=.val (.bool (aan x t)),objs':=x.obs d (RT x t a),ro':=[] }:=by
 refine aK hm uw (by simp) rfl ?_;have n:=WM x.o t (by have:=m.o;omega);obtain⟨R,b⟩:=A_ (aan x t);obtain⟨M,e⟩:=A_ (RT x t a);rw[b,e];unfold aan at b;unfold RT at e;simp only[WkA.obs,AD,pd,List.cons_append,List.nil_append];obtain⟨o,p⟩:=A_ x.once;rw[p]at b |-;simp[mQ,is_len,aJ,bP];by_cases k:x.fr<=t
 .by_cases l:t<x.to
  .rw[if_pos ⟨k,l⟩]at e;subst e;rw[decide_eq_true ⟨k,l⟩,Bool.true_and]at b;have c:¬t<x.fr:=by omega
   have g:¬x.to<=t:=by omega
   have j:is (a++[t])=is a++[[.int .i64 t]]:=by simp[is]
   simp(disch:=omega)[wl,c,g,is_len];refine⟨by omega,?_⟩;cases o with
   |false=>
    simp at b;subst b;simp(disch:=omega)[wl,j];exact ch [(4,.val (.bool false))]
   |true=>
    rw[Bool.true_and]at b;subst b;simp(disch:=omega)[wl];refine aa n ?_;simp(disch:=omega)[wl,j];exact ch [(4,.val (.bool (!atM x.o t)))]
  rw[if_neg (fun h=>l h.2)]at e;subst e;rw[decide_eq_false (fun h=>l h.2),Bool.false_and]at b;subst b;have c:¬t<x.fr:=by omega
  have g:x.to<=t:=by omega
  simp(disch:=omega)[wl,c,g];exact ch [(4,.val (.bool false))]
 rw[if_neg (fun h=>k h.1)]at e;subst e;rw[decide_eq_false (fun h=>k h.1),Bool.false_and]at b;subst b;have c:t<x.fr:=by omega
 simp(disch:=omega)[wl,c];exact ch [(4,.val (.bool false))]
def px(x:WkA):Wlk where
 start:=x.b.s
 en:=enW x.r
 fr:=x.fr
 to:=x.to
 budget:=x.bud
 once:=x.once
 out:=atM x.o
 cost:=fun i=>(wS x.r x.b.s.toNat i+1:Nat)
 of:=fun i=>if dK x.r.f.toNat x.r.w.toNat 0<=i/\i<=dZ x.r.f.toNat x.r.w.toNat then PT x.r x.b.s.toNat i else []
 fst:=fun i=>(IP x.r.f.toNat x.r.w.toNat i:Nat)
 last:=dZ x.r.f.toNat x.r.w.toNat
 k:=x.r.i.toNat
def wc(x:Wlk):Nat->Nat->Int->Int->List Int->Int×Int×List Int
 |0,_,_,a,b=>(0,a,b)
 |n+1,i,left,a,b=>
  if x.last<i then (0,a,b)else if x.to<=x.fst i\/x.en<x.fst i then (0,a,b)
  else if x.budget<a+x.cost i then (13,a+x.cost i,b)
  else match dj x (x.of i) left b with
   |(true,_,m)=>(0,a+x.cost i,m)
   |(false,l,m)=>wc x n (i+x.k) l (a+x.cost i) m
theorem DC(x:Wlk):∀(n i:Nat) (left a:Int) (b:List Int),mO x n i left a b=if (wc x n i left a b).1=0 then some (wc x n i left a b).2 else none
 |0,i,left,a,b=>by simp[mO,wc]
 |n+1,i,left,a,b=>by
  unfold mO wc;split
  .simp
  split
  .simp
  split
  .simp
  obtain⟨⟨c,l,m⟩,e⟩:=A_ (dj x (x.of i) left b);rw[e];cases c with
  |true=>simp
  |false=>exact DC x n _ _ _ _
theorem WN(x:WkA)(t:Int)(ts:List Int)(left:Int)(a:List Int):dj (px x) (t::ts) left a=if t<x.b.s then dj (px x) ts left a else if enW x.r<t then (true,left,a)else if aan x t=true\/left-1=0 then (true,left-1,RT x t a)else dj (px x) ts (left-1) (RT x t a):=by
 rw[dj];by_cases g:t<x.b.s
 .have e:t<(px x).start:=g;rw[if_pos e,if_pos g]
 have e:¬t<(px x).start:=g;rw[if_neg e,if_neg g];by_cases j:enW x.r<t
 .have e:(px x).en<t:=j;rw[if_pos e,if_pos j]
 have e:¬(px x).en<t:=j;rw[if_neg e,if_neg j];unfold aan RT;by_cases c:x.fr<=t/\t<x.to
 .have e:(px x).fr<=t/\t<(px x).to:=c;rw[if_pos e,if_pos c,decide_eq_true c];by_cases d:x.once=true/\atM x.o t=false
  .have e:(px x).once=true/\(px x).out t=false:=d;rw[if_pos e,if_pos (.inl (by simp[d.1,d.2]))]
  have e:¬((px x).once=true/\(px x).out t=false):=d;rw[if_neg e];have e2:¬(true&&(x.once&&!atM x.o t))=true:=fun h=>d (by simpa using h)
  by_cases b:left-1=0
  .rw[if_pos b,if_pos (.inr b)]
  rw[if_neg b,if_neg (fun h=>h.elim e2 b)]
 have e:¬((px x).fr<=t/\t<(px x).to):=c;rw[if_neg e,if_neg c,decide_eq_false c];by_cases b:left-1=0
 .rw[if_pos b,if_pos (.inr b)]
 rw[if_neg b,if_neg (fun h=>h.elim (by simp) b)]
def mW(x:WkA):Int×Int×List Int:=match DB x with
 |none=>(0,0,[])
 |some i=>wc (px x) (dZ x.r.f.toNat x.r.w.toNat+1) i x.r.c 0 []
@[simp] def rS(r:Ru):List SV:=[.val (.int .u8 r.f),.val (.int .i64 r.i),.val (.int .i64 r.c),.val (.int .u8 r.u.k),.val (.int .i64 r.u.s),.val (.slice (is r.l4)),.val (.slice (is r.l5)),.val (.slice (is r.l6)),.val (.slice (B4 r.l7)),.val (.slice (is r.l8)),.val (.slice (is r.l9)),.val (.slice (is r.l10)),.val (.slice (is r.l11)),.val (.slice (is r.l12)),.val (.int .i64 r.w)]
theorem aiF{r:Ru}{s i:Nat}(h:r.l12.length<=12):(PT r s i).length<=12*(wS r s i+1):=by
 unfold PT;split
 .unfold wa;split
  .simp
  rw[FX];unfold wS;omega
 rw[List.length_map,wR];have:=AY (wa r s i).length r.l12;omega
theorem ags{a k b:Nat}(c:1<=k):a<=wJ a k b/\wJ a k b<=max a b+k:=by
 unfold wJ;split
 .have d:=Uv (p:=b-a) c;rw[d];split<;>omega
 omega
theorem aiG{x:WkA}(d:WkF x){i:Nat}(h:DB x=some i):dK x.r.f.toNat x.r.w.toNat 0<=i/\i<=320000000000:=by
 have m:=d.k.s.f;have n:=d.k.s.w;have o:=d.s;have p:=d.k.i;have c:x.b.s.toNat<=ff:=by unfold ff;omega
 have j:=Y0 (f:=x.r.f.toNat) (w:=x.r.w.toNat) (by omega) (by omega) c;have g:=Hb (f:=x.r.f.toNat) (w:=x.r.w.toNat) (by omega) (by omega) c;unfold DB at h;split at h
 .simp only[E_]at h;subst h;unfold ff at g;exact⟨j.1,by omega⟩
 split at h
 .cases h
 next q=>
 simp only[E_]at h;have e:(max x.fr x.b.s).toNat<=ff:=by unfold ff;omega
 have l:=Hb (f:=x.r.f.toNat) (w:=x.r.w.toNat) (by omega) (by omega) e;have:=ags (a:=dK x.r.f.toNat x.r.w.toNat x.b.s.toNat) (k:=x.r.i.toNat) (b:=dK x.r.f.toNat x.r.w.toNat (max x.fr x.b.s).toNat) (by omega);rw[h]at this;unfold ff at g l;omega
theorem Y9(x:WkA)(u:WkF x):lB G2 T_ 63 {args:=[.loc 1000 0],objs:=x.obs 0 [],res:=.val (.int .i64 (mW x).1),objs':=x.obs (mW x).2.1 (mW x).2.2,ro':=[] }:=by
 refine aK hm vZ (by simp) rfl ?_;obtain⟨⟨E,U,M⟩,z⟩:=A_ (mW x);rw[z];unfold mW at z;have hB:=aam x u 0 [];have hf:=u.k.s.f;have hw:=u.k.s.w;have hs:=u.s;have hi:=u.k.i;have hc:=u.c;obtain⟨f,ef⟩:∃f:Nat,x.r.f=(f:Int):=⟨x.r.f.toNat,by omega⟩;obtain⟨w,ew⟩:∃w:Nat,x.r.w=(w:Int):=⟨x.r.w.toNat,by omega⟩;obtain⟨s,es⟩:∃s:Nat,x.b.s=(s:Int):=⟨x.b.s.toNat,by omega⟩;obtain⟨k,ek⟩:∃k:Nat,x.r.i=(k:Int):=⟨x.r.i.toNat,by omega⟩;have D:=Y4 f w (by omega) (by omega);simp only[WkA.obs,AD,pd,List.cons_append,List.nil_append];simp[nW,is_len,aJ,bP];refine ahF hm 0 (fun _:Unit=>⟨[],[],[],118,G2⟩) (fun _=>False) (fun _=>0) rfl (fun _=>rfl) ?_ (fun _ h=>h.elim);simp;refine⟨rfl,?_⟩;refine callM [(1000,1000),(1001,1001)] [] hB rfl rfl ⟨rfl,rfl,trivial⟩ ⟨rfl,rfl⟩ rfl ?_;cases hb:DB x with
 |none=>
  rw[hb]at z;obtain⟨rfl,rfl,rfl⟩:0=E/\0=U/\[]=M:=by simpa using z
  simp[aiE,WkA.obs,AD,pd];exact ch [(2,.val (.int .i64 0))]
 |some i0=>
  rw[hb]at z;simp only at z;simp[aiE,WkA.obs,AD,pd];have a':Fn G2 T_ 103 [.int .u8 x.r.f,.int .i64 x.r.w] (.int .i64 (dZ f w:Nat)):=by rw[ef,ew];exact D
  refine aa a' ?_;simp
  refine bx hm [] (fun p:Nat×Nat×Int×Int×List Int=>[(5,.val (.int .i64 p.2.1)),(7,.val (.int .i64 p.2.2.1))])
   (fun p=>[(3,.box (rS x.r)),(1000,.box (AD x.b x.r x.i x.o x.fr x.to x.bud x.once p.2.2.2.1 (.own 1001 p.2.2.2.2.length))),(1001,.arr p.2.2.2.2.length 1 (is p.2.2.2.2))])
   (fun p=>dK f w 0<=p.2.1/\p.2.1<=400000000000/\dZ f w+1<=p.2.1+p.1/\p.2.2.2.2.length<=12*p.2.2.2.1/\p.2.2.2.1<=4000/\x.r.c-12*p.2.2.2.1<=p.2.2.1/\p.2.2.1<=1000/\wc (px x) p.1 p.2.1 p.2.2.1 p.2.2.2.1 p.2.2.2.2=(E,U,M))
   (fun p=>p.1) (dZ f w+1,i0,x.r.c,0,[]) ?_ ?_ ?_
  .have:=aiG u hb;rw[show x.r.f.toNat=f by omega,show x.r.w.toNat=w by omega]at this z;exact⟨this.1,by simp only;omega,by simp only;omega,by simp,by simp,by simp,by simp only;omega,z⟩
  .simp[AD,pd];exact bA
  rintro⟨n,i,left,b,c⟩ ⟨K,h2,h3,h4,h5,h6,h7,a⟩;simp only at K h2 h3 h4 h5 h6 h7 a;have m':dZ f w<=315537897599:=Hb (f:=f) (w:=w) (s:=ff) (by omega) (by omega) (Nat.le_refl _);have v:(px x).last=dZ f w:=by show dZ x.r.f.toNat x.r.w.toNat=_;rw[show x.r.f.toNat=f by omega,show x.r.w.toNat=w by omega]
  have O:∀i,(px x).fst i=(IP f w i:Nat):=fun i=>by show((IP x.r.f.toNat x.r.w.toNat i:Nat):Int)=_;rw[show x.r.f.toNat=f by omega,show x.r.w.toNat=w by omega]
  simp[AD,pd];by_cases o:i<=dZ f w
  .obtain⟨m,rfl⟩:∃m,n=m+1:=⟨n-1,by omega⟩;have l:PerI x.r s i:=⟨u.k,by unfold ff;omega,by rw[show x.r.f.toNat=f by omega,show x.r.w.toNat=w by omega];exact K,by rw[show x.r.f.toNat=f by omega,show x.r.w.toNat=w by omega];exact o⟩;have P:Fn G2 T_ 104 [.int .u8 x.r.f,.int .i64 x.r.w,.int .i64 i] (.tuple [.int .i64 ((iF f w i).1:Nat),.int .i64 ((iF f w i).2:Nat)]):=by rw[ef,ew];exact Mr f w i (by omega) (by omega) K o
   have H:Fn G2 T_ 105 [x.r.iv,.int .i64 x.b.s,.int .i64 i] (.int .i64 (wS x.r s i+1:Nat)):=by rw[es];exact agq x.r s i l
   have I:Fn G2 T_ 106 [x.r.iv,.int .i64 x.b.s,.int .i64 i] (.slice (is (PT x.r s i))):=by rw[es];exact ajC x.r s i l u.p
   have b':=RQ l;have Q:=aiF (r:=x.r) (s:=s) (i:=i) u.k.s.l12
   have R:∀t∈PT x.r s i,0<=t/\t<400000000000:=fun t S=>by
    have q:=Y7 l (WL S);have g:=(AC (f:=f) (w:=w) (by omega) (by omega) K o).2.1;have:Y6 x.r i=(iF f w i).2:=by unfold Y6;rw[show x.r.f.toNat=f by omega,show x.r.w.toNat=w by omega]
    omega
   have c':IP f w i=(iF f w i).1:=by unfold IP;rw[if_neg (by omega)]
   unfold wc at a;rw[if_neg (by rw[v];omega),O,c']at a;have J:(px x).cost i=((wS x.r s i+1:Nat):Int):=by show((wS x.r x.b.s.toNat i+1:Nat):Int)=_;rw[show x.b.s.toNat=s by omega]
   have d':(px x).of i=PT x.r s i:=by show(if dK x.r.f.toNat x.r.w.toNat 0<=i/\i<=dZ x.r.f.toNat x.r.w.toNat then PT x.r x.b.s.toNat i else [])=_;rw[show x.b.s.toNat=s by omega,show x.r.f.toNat=f by omega,show x.r.w.toNat=w by omega,if_pos ⟨K,o⟩]
   have e':(px x).k=k:=by show x.r.i.toNat=k;omega
   rw[J,d',e']at a;have f':(px x).to=x.to:=rfl;have g':(px x).en=enW x.r:=rfl;have h':(px x).budget=x.bud:=rfl;rw[f',g',h']at a;obtain⟨F,hF⟩:=A_ ((iF f w i).1);obtain⟨T,hT⟩:=A_ ((iF f w i).2);obtain⟨L,hL⟩:=A_ (PT x.r s i);obtain⟨C,hC⟩:=A_ (wS x.r s i);rw[hF,hT]at P;rw[hF]at a;rw[hL]at I R Q a;rw[hC]at H b' Q a;unfold Ru.iv cells at H I;have n':=u.bud;simp(disch:=omega)[wl,o];refine aa P ?_;by_cases q1:x.to<=F
   .rw[if_pos (.inl q1)]at a;obtain⟨rfl,rfl,rfl⟩:0=E/\b=U/\c=M:=by simpa using a
    simp(disch:=omega)[wl,q1];exact ch [(2,.val (.int .i64 0))]
   by_cases q2:enW x.r<F
   .rw[if_pos (.inr q2)]at a;obtain⟨rfl,rfl,rfl⟩:0=E/\b=U/\c=M:=by simpa using a
    simp(disch:=omega)[wl,q1,q2];exact ch [(2,.val (.int .i64 0))]
   rw[if_neg (by omega)]at a;simp(disch:=omega)[wl,q1,q2];refine aa H ?_;obtain⟨V,hV⟩:=A_ (b+((C+1:Nat):Int));rw[hV]at a;have i':b+((C:Int)+1)=V:=by omega
   simp(disch:=omega)[wl,i'];refine⟨rfl,?_⟩;by_cases q3:x.bud<V
   .rw[if_pos q3]at a;obtain⟨rfl,rfl,rfl⟩:13=E/\V=U/\c=M:=by simpa using a
    simp(disch:=omega)[wl,q3];exact ch [(2,.val (.int .i64 13))]
   rw[if_neg q3]at a;simp(disch:=omega)[wl,q3];refine aa I ?_;simp(disch:=omega)[wl,is_len];obtain⟨⟨cb,W,cm⟩,X⟩:=A_ (dj (px x) L left c);rw[X]at a
   refine bx hm [] (fun p:Nat×Int×List Int=>[(93,.val (.int .i64 p.1)),(7,.val (.int .i64 p.2.1))])
    (fun p=>[(1000,.box (AD x.b x.r x.i x.o x.fr x.to x.bud x.once V (.own 1001 p.2.2.length))),(1001,.arr p.2.2.length 1 (is p.2.2))])
    (fun p=>p.1<=L.length/\p.2.2.length<=c.length+p.1/\left-p.1<=p.2.1/\p.2.1<=left/\dj (px x) (L.drop p.1) p.2.1 p.2.2=(cb,W,cm)) (fun p=>L.length-p.1) (0,left,c) ⟨by simp,by simp,by simp,by simp,by simpa using X⟩ ?_ ?_
   .simp[AD,pd];exact bA
   rintro⟨j,A,y⟩ ⟨g1,g2,g3,g4,e⟩;simp only at g1 g2 g3 g4 e;simp[AD,pd,is_len];by_cases hj:j<L.length
   .obtain⟨t,S⟩:=A_ (L[j]);have o':=R t (S▸List.getElem_mem hj);have hg:=vv hj S;rw[List.drop_eq_getElem_cons hj,S,WN]at e;simp(disch:=omega)[wl,hj,is_len,hg];by_cases Y:t<x.b.s
    .rw[if_pos Y]at e;simp(disch:=omega)[wl,Y];refine aj (j+1,A,y) ⟨by simp only;omega,by simp only;omega,by simp only;omega,g4,e⟩ (by simp only;omega) ?_;simp[AD,pd];exact bA
    rw[if_neg Y]at e;by_cases r2:enW x.r<t
    .rw[if_pos r2]at e;obtain⟨rfl,rfl,rfl⟩:true=cb/\A=W/\y=cm:=by simpa using e
     simp only at a;obtain⟨rfl,rfl,rfl⟩:0=E/\V=U/\y=M:=by simpa using a
     simp(disch:=omega)[wl,Y,r2];exact ch [(2,.val (.int .i64 0))]
    rw[if_neg r2]at e;have Z:=adP x u V y t (by omega);have j':(RT x t y).length<=y.length+1:=by unfold RT;split<;>simp
    obtain⟨B,k'⟩:=A_ (aan x t);obtain⟨N,hN⟩:=A_ (RT x t y);rw[k',hN]at Z e;rw[hN]at j';simp(disch:=omega)[wl,Y,r2];refine callM [(1000,1000),(1001,1001)] [] Z rfl rfl ⟨rfl,rfl,trivial⟩ ⟨rfl,[],[],rfl,rfl,rfl⟩ rfl ?_;simp[WkA.obs,AD,pd];cases B with
    |true=>
     rw[if_pos (.inl rfl)]at e;obtain⟨rfl,rfl,rfl⟩:true=cb/\A-1=W/\N=cm:=by simpa using e
     simp only at a;obtain⟨rfl,rfl,rfl⟩:0=E/\V=U/\N=M:=by simpa using a
     simp(disch:=omega)[wl];exact ch [(2,.val (.int .i64 0))]
    |false=>
     by_cases r4:A-1=0
     .rw[if_pos (.inr r4)]at e;obtain⟨rfl,rfl,rfl⟩:true=cb/\A-1=W/\N=cm:=by simpa using e
      simp only at a;obtain⟨rfl,rfl,rfl⟩:0=E/\V=U/\N=M:=by simpa using a
      simp(disch:=omega)[wl,r4];exact ch [(2,.val (.int .i64 0))]
     rw[if_neg (by simpa using r4)]at e;simp(disch:=omega)[wl,r4];refine aj (j+1,A-1,N) ⟨by simp only;omega,by simp only;omega,by simp only;omega,by simp only;omega,e⟩ (by simp only;omega) ?_;simp[AD,pd];exact bA
   obtain rfl:j=L.length:=by omega
   rw[List.drop_length]at e;obtain⟨rfl,rfl,rfl⟩:false=cb/\A=W/\y=cm:=by simpa[dj]using e
   simp only at a;simp(disch:=omega)[wl,is_len];refine aj (m,i+k,A,V,y) ⟨by simp only;omega,by simp only;omega,by simp only;omega,by simp only;omega,by simp only;omega,by simp only;omega,by simp only;omega,a⟩ (by simp only;omega) ?_;simp[AD,pd,ek];exact bA
  have l':wc (px x) n i left b c=(0,b,c):=by
   cases n with
   |zero=>rfl
   |succ n=>unfold wc;rw[if_pos (by rw[v];omega)]
  rw[l']at a;obtain⟨rfl,rfl,rfl⟩:0=E/\b=U/\c=M:=by simpa using a
  simp(disch:=omega)[wl,o];exact ch [(2,.val (.int .i64 0))]
theorem aiH{r:Ru}(o:Do r)(q:0<=r.u.k)(d:0<=r.f)(h:cT r=0):RuK r/\(0<=r.c/\r.c<=1000)/\∀p∈r.l12,-1000000<p/\p<1000000:=by
 obtain⟨b,u,-⟩:=ei h;obtain⟨v,w,x,y,z,A,B,-⟩:=iN b;have s:=fun k (C:k∈bq)=>u k C
 have g:=dw (s 4 (by decide));have i:=dw (s 5 (by decide));have j:=dw (s 6 (by decide));have D:=qF (s 7 (by decide));have E:=dw (s 8 (by decide));have F:=dw (s 9 (by decide));have e:=dw (s 10 (by decide));have f:=dw (s 11 (by decide));have c:=dw (s 12 (by decide));have l:=wF r o q;rw[h]at l;refine⟨⟨⟨⟨d,v⟩,⟨A,B⟩,g.1,i.1,j.1,D.1,E.1,F.1,e.1,f.1,c.1⟩,?_,?_,?_,l,⟨w,x⟩⟩,⟨y,z⟩,?_⟩
 .intro n a;have:=g.2.2 n a;have m:=this.1 rfl;have b:(n.natAbs:Int)<=59:=this.2.2;omega
 .intro n a;have:=i.2.2 n a;have m:=this.1 rfl;have b:(n.natAbs:Int)<=59:=this.2.2;omega
 .intro n a;have:=j.2.2 n a;have m:=this.1 rfl;have b:(n.natAbs:Int)<=23:=this.2.2;omega
 intro n a;have:=c.2.2 n a;have b:(n.natAbs:Int)<=366:=this.2.2;omega
def iH(b:Int)(o i:List Mom):Int:=i.foldl (fun a v=>if b<v.s/\v.s<a/\atM o v.s=false then v.s else a) 315537897600
theorem Hc(a:Int)(o i:List Mom)(v:Mom):iH a o (i++[v])=if a<v.s/\v.s<iH a o i/\atM o v.s=false then v.s else iH a o i:=by unfold iH;rw[List.foldl_append];rfl
theorem Mx(a:Int)(o:List Mom)(h:a<=315537897599):∀i:List Mom,a<iH a o i/\iH a o i<=315537897600:=by
 intro i
 have:∀r:List Mom,a<iH a o r.reverse/\iH a o r.reverse<=315537897600:=fun r=>by
  induction r with
  |nil=>simp[iH];omega
  |cons x r b=>
   rw[List.reverse_cons,Hc];split
   .next h=>exact⟨h.1,by omega⟩
   exact b
 simpa using this i.reverse
def yx(b:Mom)(r:Ru)(i o:List Mom)(a c:Int):WkA:=⟨b,r,i,o,a+1,iH a o i,c,true⟩
def FY(o:List Mom)(a:Int)(M:List Int):Int:=match M.getLast? with
 |some t=>if atM o t=false then t else a
 |none=>a
def py(b:Mom)(r:Ru)(i o:List Mom)(after bud:Int):Int×Bool×Int:=
 let p:=mW (yx b r i o after bud)
 if p.1≠0 then (0,false,p.1)else if 315537897599<FY o (iH after o i) p.2.2 then (0,false,0)else (FY o (iH after o i) p.2.2,true,0)
theorem iI{v:Mom} : dm v=0↔1<=v.k/\v.k<=3/\0<=v.s/\v.s<=315537897599/\(v.k=1->v.s%86400=0):=by
 unfold dm;constructor
 .intro h;split at h
  .simp at h
  split at h
  .simp at h
  split at h
  .simp at h
  next d e b=>exact⟨by omega,by omega,by omega,by omega,fun g=>Classical.byContradiction fun q=>b ⟨g,q⟩⟩
 rintro⟨d,e,b,j,i⟩;rw[if_neg (by omega),if_neg (by omega),if_neg (fun q=>q.2 (i q.1))]
theorem wT{b:Mom}{r:Ru}{i o:List Mom}{after bud:Int}(l:FitS b r i o)(e:0<=r.f)(h:kC b r i o=0)(m:-1<=after/\after<=315537897599)(n:0<=bud/\bud<=4000):WkF (yx b r i o after bud)/\i.length<=12/\o.length<=12:=by
 unfold kC at h;split at h
 .next q=>exact absurd h q
 next p=>
 split at h
 .next q=>exact absurd h q
 next u=>
 split at h
 .cases h
 split at h
 .cases h
 split at h
 .cases h
 next v=>
 have g:=aiH l.rf l.uk e (by simpa using u);have hm:=iI.1 (by simpa using p);have k:=Mx after o m.2 i;exact⟨⟨g.1,⟨hm.2.2.1,hm.2.2.2.1⟩,⟨by show 0<=after+1;omega,by show after+1<=_;omega⟩,⟨by show 0<=iH after o i;omega,k.2⟩,n,g.2.1,by show i.length<=1000;omega,by show o.length<=1000;omega,g.2.2⟩,by omega,by omega⟩
theorem AZ(x:Wlk):∀(ts:List Int) (a:Int) (m:List Int),(dj x ts a m).2.2.length<=m.length+ts.length
 |[],a,m=>by simp[dj]
 |t::ts,a,m=>by
  have c:=AZ x ts a m;have d:=AZ x ts (a-1) m;have b:=AZ x ts (a-1) (m++[t]);simp only[List.length_append,List.length_cons,List.length_nil]at b;unfold dj;simp only[List.length_cons]
  repeat' split
  all_goals first|omega|(simp only[List.length_append,List.length_cons,List.length_nil];omega)
theorem agt{r:Ru}{s i:Nat}(h:r.l12.length<=12):(PT r s i).length<=4000:=by
 unfold PT;split
 .have:=Y8 (r:=r) (s:=s) (i:=i);omega
 rw[List.length_map,wR];have:=AY (wa r s i).length r.l12;omega
theorem UE(x:WkA)(h:x.r.l12.length<=12):∀(n i:Nat) (a u:Int) (m:List Int),(wc (px x) n i a u m).2.2.length<=m.length+n*4000
 |0,i,a,u,m=>by simp[wc]
 |n+1,i,a,u,m=>by
  have f:((px x).of i).length<=4000:=by
   show(if dK x.r.f.toNat x.r.w.toNat 0<=i/\i<=dZ x.r.f.toNat x.r.w.toNat then PT x.r x.b.s.toNat i else []).length<=4000;split
   .exact agt h
   simp
  have b:=AZ (px x) ((px x).of i) a m;unfold wc;split
  .simp
  split
  .simp
  split
  .simp
  obtain⟨⟨c,l,d⟩,e⟩:=A_ (dj (px x) ((px x).of i) a m);rw[e]at b |-;simp only at b;cases c with
  |true=>simp only;omega
  |false=>have:=UE x h n (i+(px x).k) l (u+(px x).cost i) d;simp only;omega
theorem agu(x:WkA)(a:WkF x):(mW x).2.2.length<=2000000000000000:=by
 have c:=a.k.s.f;have e:=a.k.s.w;have b:dZ x.r.f.toNat x.r.w.toNat<=315537897599:=Hb (s:=ff) (by omega) (by omega) (Nat.le_refl _);unfold mW;split
 .simp
 next i _=>
 have:=UE x a.k.s.l12 (dZ x.r.f.toNat x.r.w.toNat+1) i x.r.c 0 [];simp only[List.length_nil]at this;omega
def Ya(p:Int×Bool×Int):IV:=.tuple [.int .i64 p.1,.bool p.2.1,.int .i64 p.2.2]
theorem UF(b:Mom)(r:Ru)(i o:List Mom)(a e:Int)(W:FitS b r i o)(L:0<=r.f)(h:kC b r i o=0)(N:-1<=a/\a<=315537897599)(X:0<=e/\e<=4000) :
  Fn G2 T_ 29 [wI b r i o,.int .i64 a,.int .i64 e] (Ya (py b r i o a e)):=by
 refine ae hm RE (by simp) ?_;obtain⟨Y,b',c'⟩:=wT W L h N X;have O:=uS W;rw[h]at O;have z:=UD e;rw[decide_eq_true X]at z;have A:=fun t=>WM o t (by omega)
 obtain⟨⟨n,p,u⟩,f⟩:=A_ (py b r i o a e);rw[f];unfold py at f;have P:=Mx a o N.2 i;have g:=Y9 (yx b r i o a e) Y;have C:=agu (yx b r i o a e) Y;obtain⟨⟨E,U,M⟩,hE⟩:=A_ (mW (yx b r i o a e));rw[hE]at f g C;simp only[yx,WkA.obs,AD,pd,List.cons_append,List.nil_append]at g;have w:=PU b r i o (a+1) (iH a o i) e true;simp only[AD,pd,wI,cells,List.cons_append,List.nil_append]at w;have Q:∀j,j<=i.length->a<iH a o (i.take j)/\iH a o (i.take j)<=315537897600:=fun j _=>Mx a o N.2 _
 obtain⟨B,Z⟩:=A_ (iH a o i);rw[Z]at f P g w;simp only[wI,cells,List.cons_append,List.nil_append]at O |-;simp only[Ya];simp[Id,is_len,aJ,bP];refine aa O ?_;have e1:¬a < -1:=by omega
 have e2:¬315537897599<a:=by omega
 simp(disch:=omega)[wl,e1,e2];refine aa z ?_;simp(disch:=omega)[wl];refine bx hm [] (fun j:Nat=>[(35,.val (.int .i64 j)),(10,.val (.int .i64 (iH a o (i.take j))))]) (fun _=>[]) (fun j=>j<=i.length) (fun j=>i.length-j) 0 (by omega) ?_ ?_
 .simp[iH];exact bA
 rintro j hj;have D:=Q j hj;simp[bP];by_cases x:j<i.length
 .obtain⟨v,hv⟩:=A_ (i[j]);have R:=Rm x hv;have l:=Hc a o (i.take j) v;rw[show i.take j++[v]=i.take (j+1) by rw[List.take_succ_eq_append_getElem x,hv]]at l;obtain⟨T,hT⟩:=A_ (iH a o (i.take j));rw[hT]at D l |-;have S:=A v.s;simp(disch:=omega)[wl,x,bP,R];by_cases F:a<v.s
  .by_cases J:v.s<T
   .simp(disch:=omega)[wl,F,J];refine aa S ?_;cases H:atM o v.s with
    |true=>
     rw[if_neg (by simp[H])]at l;simp(disch:=omega)[wl];refine aj (j+1) (by omega) (by omega) ?_;simp[l,bP];exact bA
    |false=>
     rw[if_pos ⟨F,J,H⟩]at l;simp(disch:=omega)[wl];refine aj (j+1) (by omega) (by omega) ?_;simp[l,bP];exact bA
   rw[if_neg (fun h=>J h.2.1)]at l;simp(disch:=omega)[wl,F,J];refine aj (j+1) (by omega) (by omega) ?_;simp[l,bP];exact bA
  rw[if_neg (fun h=>F h.1)]at l;simp(disch:=omega)[wl,F];refine aj (j+1) (by omega) (by omega) ?_;simp[l,bP];exact bA
 obtain rfl:j=i.length:=by omega
 rw[List.take_length,Z]at D |-;simp(disch:=omega)[wl,bP];refine Vy hm [] [] (fun _:Unit=>[(13,.loc 13 0)]) (fun _=>[(13,.box (AD b r i o (a+1) B e true 0 (.own 16 0))),(16,.arr 0 1 [])]) (fun _=>True) ?_ ?_
 .simp(disch:=omega)[wl];refine callM [(10,65)] [] w rfl rfl trivial ⟨[],[],rfl,⟨[],[],rfl,⟨[],[],rfl,⟨[],[],rfl,⟨[],[],rfl,rfl,rfl⟩,rfl⟩,rfl⟩,rfl⟩,rfl⟩ rfl ?_;simp(disch:=omega)[wl];refine cz () trivial ?_;simp[AD,pd];exact cJ.trans (wq false (d:=13) (j:=25) 16 1 (by simp) (by decide) rfl rfl rfl) (an rfl rfl (by simp[St.adoptC,bj,aE,ac,dB,SV.erase]) (by simp[St.adoptC,bZ,ac,put,cp,fJ,Ob.erase,SV.erase,qd,xc]) (by simp[bX,St.adoptC]))
 intro _ _;simp[AD,pd];refine callM [(1000,13),(1001,16)] [] g rfl rfl ⟨rfl,rfl,trivial⟩ ⟨rfl,rfl⟩ rfl ?_;simp(disch:=omega)[wl];by_cases y:E=0
 .subst y;simp only[ne_eq,not_true_eq_false,if_false]at f;simp(disch:=omega)[wl,is_len];rcases List.eq_nil_or_concat M with rfl|⟨K,t,rfl⟩
  .have V:FY o B []=B:=rfl;rw[V]at f;simp(disch:=omega)[wl];refine⟨rfl,?_⟩;by_cases q:315537897599<B
   .rw[if_pos q]at f;obtain⟨rfl,rfl,rfl⟩:0=n/\false=p/\0=u:=by simpa using f
    simp(disch:=omega)[wl,q]
   rw[if_neg q]at f;obtain⟨rfl,rfl,rfl⟩:B=n/\true=p/\0=u:=by simpa using f
   simp(disch:=omega)[wl,q]
  have V:FY o B (K.concat t)=if atM o t=false then t else B:=by unfold FY;simp
  rw[V]at f;have I:=A t;have a':K.length+1<=2000000000000000:=by simpa using C
  have R:(is (K++[t]))[K.length]?=some [.int .i64 t]:=by simp[is]
  obtain⟨d',m⟩:=List.getElem?_eq_some_iff.1 R;simp(disch:=omega)[wl,is_len,m];refine aa I ?_;cases H:atM o t with
  |true=>
   have eT:(if atM o t=false then t else B)=B:=if_neg (by simp[H]);rw[eT]at f;simp(disch:=omega)[wl];refine⟨rfl,?_⟩;by_cases q:315537897599<B
   .rw[if_pos q]at f;obtain⟨rfl,rfl,rfl⟩:0=n/\false=p/\0=u:=by simpa using f
    simp(disch:=omega)[wl,q]
   rw[if_neg q]at f;obtain⟨rfl,rfl,rfl⟩:B=n/\true=p/\0=u:=by simpa using f
   simp(disch:=omega)[wl,q]
  |false=>
   have eT:(if atM o t=false then t else B)=t:=if_pos H;rw[eT]at f;simp(disch:=omega)[wl,is_len,m];refine⟨rfl,?_⟩;by_cases q:315537897599<t
   .rw[if_pos q]at f;obtain⟨rfl,rfl,rfl⟩:0=n/\false=p/\0=u:=by simpa using f
    simp(disch:=omega)[wl,is_len,m,q]
   rw[if_neg q]at f;obtain⟨rfl,rfl,rfl⟩:t=n/\true=p/\0=u:=by simpa using f
   simp(disch:=omega)[wl,is_len,m,q]
 rw[if_pos y]at f;obtain⟨rfl,rfl,rfl⟩:0=n/\false=p/\E=u:=by simpa using f
 simp(disch:=omega)[wl,y]
def uo(f:Fc)(v:Mom)(bud:Int):Int×Bool×Int:=if f.af=true then py v {f.ru with c:=0 } [] f.o v.s bud else py f.b f.ru f.i f.o (dN f) bud
def pX(f:Fc)(b bud:Int):Mom×Mom×Bool×Int:=
 if f.rd=false then (mj,mj,false,9)
 else if (Rc.atM f.b.k b).2≠0 then (mj,mj,false,(Rc.atM f.b.k b).2)
 else if f.af=true/\f.ru.c=1 then (mj,mj,false,0)
 else if (uo f (Rc.atM f.b.k b).1 bud).2.2≠0 then (mj,mj,false,(uo f (Rc.atM f.b.k b).1 bud).2.2)
 else if (uo f (Rc.atM f.b.k b).1 bud).2.1=false\/(jk f (uo f (Rc.atM f.b.k b).1 bud).1).2=false then (mj,mj,false,0)
 else ((Rc.atM f.b.k (uo f (Rc.atM f.b.k b).1 bud).1).1,if f.af=true then (Rc.atM f.b.k b).1 else f.b,true,(Rc.atM f.b.k (uo f (Rc.atM f.b.k b).1 bud).1).2)
def WO(p:Mom×Mom×Bool×Int):IV:=.tuple [.agg [.int .u8 p.1.k,.int .i64 p.1.s],.agg [.int .u8 p.2.1.k,.int .i64 p.2.1.s],.bool p.2.2.1,.int .i64 p.2.2.2]
structure NextH(f:Fc):Prop where
 fit:FitF f
 set:f.rd=true->kC f.b f.ru f.i f.o=0
 aft:f.rd=true->∀v:Mom,dm v=0->v.k=f.b.k->kC v {f.ru with c:=0 } [] f.o=0
 ins:0<=dN f/\dN f<=315537897599
theorem ajD{k s:Int}(h:(Rc.atM k s).2=0):dm (Rc.atM k s).1=0/\(Rc.atM k s).1.k=k:=by
 unfold Rc.atM at h |-;split at h
 .next q=>exact absurd h q
 next q=>
 rw[if_neg q];have d:Dk k s=0:=by simpa using q
 refine⟨?_,rfl⟩;unfold Dk at d;rw[iI];by_cases a:k<1\/3<k
 .rw[if_pos a]at d;simp at d
 rw[if_neg a]at d;by_cases b:s<0\/315537897599<s
 .rw[if_pos b]at d;simp at d
 simp only;by_cases c:k=1
 .rw[if_pos c];exact⟨by omega,by omega,by omega,by omega,fun _=>by omega⟩
 rw[if_neg c];exact⟨by omega,by omega,by omega,by omega,fun h=>absurd h c⟩
theorem adQ(f:Fc)(g bud:Int)(h:NextH f)(Z:0<=bud/\bud<=4000):Fn G2 T_ 8 [f.iv,.int .i64 g,.int .i64 bud] (WO (pX f g bud)):=by
 refine ae hm NQ (by simp) ?_;have P:=Rc.fn_At f.b.k g h.fit.b.1;have l:=Jo f;have D:=Fs f;obtain⟨⟨n,o,q,u⟩,b⟩:=A_ (pX f g bud);rw[b];unfold pX at b;obtain⟨⟨v,e⟩,hv⟩:=A_ (Rc.atM f.b.k g);have E:=ajD (k:=f.b.k) (s:=g);rw[hv]at b P E;simp only[ma]at b P E;have B:=fun t=>Rc.fn_At f.b.k t h.fit.b.1
 have i:=fun t=>U6 f h.fit t
 simp only[Fc.iv,B7,cells,wI,List.cons_append,List.nil_append]at l D i |-;simp only[WO];simp[FC,is_len,aJ,bP];cases j:f.rd with
 |false=>
  rw[if_pos j]at b;obtain⟨rfl,rfl,rfl,rfl⟩:mj=n/\mj=o/\false=q/\9=u:=by simpa using b
  simp(disch:=omega)[wl,mj]
 |true=>
  rw[if_neg (by simp[j])]at b;rw[j]at l D;simp only[j]at i;have J:=h.set j;have K:=h.aft j;simp(disch:=omega)[wl];refine aa P ?_;by_cases Q:e=0
  .subst Q;rw[if_neg (by simp)]at b;have R:=E rfl;simp(disch:=omega)[wl];refine aa l ?_;simp(disch:=omega)[wl];refine aa D ?_;simp(disch:=omega)[wl];refine⟨rfl,?_⟩;obtain⟨I,hI⟩:=A_ (dN f);have L:=h.ins;rw[hI]at L |-;unfold uo at b;rw[hI]at b;cases w:f.af with
   |false=>
    rw[w]at i;have C:=UF f.b f.ru f.i f.o I bud h.fit.set h.fit.rk J (by omega) Z;obtain⟨⟨z,S,M⟩,x⟩:=A_ (py f.b f.ru f.i f.o I bud);rw[x]at C;simp only[w,Bool.false_eq_true,if_false,false_and,x]at b;simp only[wI,cells,Ya,List.cons_append,List.nil_append]at C;simp(disch:=omega)[wl];refine aa C ?_;by_cases F:M=0
    .subst F;rw[if_neg (by simp)]at b;obtain⟨⟨S1,U⟩,V⟩:=A_ (jk f z);have y:=i z;rw[V]at y b;simp(disch:=omega)[wl];refine aa y ?_;cases S with
     |false=>
      rw[if_pos (.inl rfl)]at b;obtain⟨rfl,rfl,rfl,rfl⟩:mj=n/\mj=o/\false=q/\0=u:=by simpa using b
      simp(disch:=omega)[wl,mj]
     |true=>
      cases U with
      |false=>
       rw[if_pos (.inr rfl)]at b;obtain⟨rfl,rfl,rfl,rfl⟩:mj=n/\mj=o/\false=q/\0=u:=by simpa using b
       simp(disch:=omega)[wl,mj]
      |true=>
       rw[if_neg (by simp)]at b;have d:=B z;obtain⟨⟨m,e⟩,H⟩:=A_ (Rc.atM f.b.k z);rw[H]at d b;simp only[ma]at d;obtain⟨rfl,rfl,rfl,rfl⟩:m=n/\f.b=o/\true=q/\e=u:=by simpa using b
       simp(disch:=omega)[wl];refine aa d ?_;simp(disch:=omega)[wl];rfl
    rw[if_pos F]at b;obtain⟨rfl,rfl,rfl,rfl⟩:mj=n/\mj=o/\false=q/\M=u:=by simpa using b
    simp(disch:=omega)[wl,F,mj]
   |true=>
    rw[w]at i;by_cases A:f.ru.c=1
    .rw[if_pos ⟨w,A⟩]at b;obtain⟨rfl,rfl,rfl,rfl⟩:mj=n/\mj=o/\false=q/\0=u:=by simpa using b
     simp(disch:=omega)[wl,A,mj]
    rw[if_neg (fun h=>A h.2)]at b;obtain⟨N,O⟩:=R;have W:=K v N O;have a':=iI.1 N;have X:FitS v {f.ru with c:=0 } [] f.o:=⟨by omega,h.fit.uk,by simp,h.fit.ol,by simp,h.fit.ok,h.fit.rf⟩;have C:=UF v {f.ru with c:=0 } [] f.o v.s bud X h.fit.rk W (by omega) Z;obtain⟨⟨z,S,M⟩,x⟩:∃p,py v {f.ru with c:=0 } [] f.o v.s bud=p:=⟨_,rfl⟩;rw[x]at C;simp only[w,if_true,x]at b;simp only[wI,cells,Ya,List.cons_append,List.nil_append]at C;have Y:ms ([]:List Mom)=[]:=rfl;rw[Y]at C;simp(disch:=omega)[wl,A];refine⟨rfl,?_⟩;refine aa C ?_;by_cases F:M=0
    .subst F;rw[if_neg (by simp)]at b;obtain⟨⟨S1,U⟩,V⟩:=A_ (jk f z);have y:=i z;rw[V]at y b;simp(disch:=omega)[wl];refine aa y ?_;cases S with
     |false=>
      rw[if_pos (.inl rfl)]at b;obtain⟨rfl,rfl,rfl,rfl⟩:mj=n/\mj=o/\false=q/\0=u:=by simpa using b
      simp(disch:=omega)[wl,mj]
     |true=>
      cases U with
      |false=>
       rw[if_pos (.inr rfl)]at b;obtain⟨rfl,rfl,rfl,rfl⟩:mj=n/\mj=o/\false=q/\0=u:=by simpa using b
       simp(disch:=omega)[wl,mj]
      |true=>
       rw[if_neg (by simp)]at b;have d:=B z;obtain⟨⟨m,e⟩,H⟩:=A_ (Rc.atM f.b.k z);rw[H]at d b;simp only[ma]at d;obtain⟨rfl,rfl,rfl,rfl⟩:m=n/\v=o/\true=q/\e=u:=by simpa using b
       simp(disch:=omega)[wl];refine aa d ?_;simp(disch:=omega)[wl];rfl
    rw[if_pos F]at b;obtain⟨rfl,rfl,rfl,rfl⟩:mj=n/\mj=o/\false=q/\M=u:=by simpa using b
    simp(disch:=omega)[wl,F,mj]
  rw[if_pos Q]at b;obtain⟨rfl,rfl,rfl,rfl⟩:mj=n/\mj=o/\false=q/\e=u:=by simpa using b
  simp(disch:=omega)[wl,Q,mj]
end Go.Vs.Y.Vt
