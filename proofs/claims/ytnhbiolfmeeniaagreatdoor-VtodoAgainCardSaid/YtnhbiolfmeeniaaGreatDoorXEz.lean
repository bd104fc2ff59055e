/- A part of a proof. No conditions. -/
import Derived.Test.YtnhbiolfmeeniaaGreatDoorXCz
set_option linter.all false
set_option maxRecDepth 100000
set_option maxHeartbeats 8000000
namespace Go.Vs.Y.Vt
open Go.Proofs Go.Vs.Cv Go.Vs.Nu Go.Vs.Y.Rc
theorem aaj(l:List Int)(a:l≠[])(b:l.length<100000):CV G2 T_ 282 [.slice (is l)] (.own 1 (is l)):=by
 refine ae hm Ba (by simp) ?_;simp[uj];cases l with
 |nil=>exact absurd rfl a
 |cons x r=>
  simp[is];simp at b;omega
def Iq(l:List Int)(a:Bool)(c:Int)(b:Nat):List Int×Nat:=if l≠[]then (mV l,0)else if a=true then ([c],0)else ([],b)
theorem adL(l:List Int)(a:Bool)(c:Int)(b:Nat)(d:l.length<=12):Fn G2 T_ 273 [.slice (is l),.bool a,.int .i64 c,.int .i64 b] (.agg (xN (Iq l a c b).1 (Iq l a c b).2)):=by
 refine ae hm Mm (by simp) ?_;unfold Iq xN;simp[CK,is_len];by_cases q:l=[]
 .subst q;cases a with
  |true=>
   simp(disch:=omega)[wl,is_len]
  |false=>
   simp(disch:=omega)[wl,is_len]
 have e:0<l.length:=List.length_pos_iff.2 q;simp(disch:=omega)[wl,is_len,e];refine Gh (aaj l q (by omega)) ?_;simp(disch:=omega)[wl];refine callM [(1000,15)] [] (Mu 0 l d) rfl rfl (by simp[gI,Vs.ren,ac,Ob.ren]) (by simp[iT,Vs.ren,ac,SV.ren]) rfl ?_;simp(disch:=omega)[wl,q];rfl
def Bc(r:Ru)(s:Nat)(a to:Int):Tm:=
 ⟨(Iq r.l6 (decide (3<=r.f)) ((s%86400/3600:Nat):Int) 24).1,(Iq r.l6 (decide (3<=r.f)) ((s%86400/3600:Nat):Int) 24).2,
  (Iq r.l5 (decide (2<=r.f)) ((s%86400/60%60:Nat):Int) 60).1,(Iq r.l5 (decide (2<=r.f)) ((s%86400/60%60:Nat):Int) 60).2,
  (Iq r.l4 (decide (1<=r.f)) ((s%86400%60:Nat):Int) 60).1,(Iq r.l4 (decide (1<=r.f)) ((s%86400%60:Nat):Int) 60).2,a,to⟩
theorem adM(r:Ru)(s:Nat)(v to:Int)(k:RuS r)(p:Fn G2 T_ 72 [r.iv] (.int .i64 0))(w:s<=ff):Fn G2 T_ 253 [r.iv,.int .i64 s] (.tuple [.agg (Bc r s v to).cells,.bool true]):=by
 refine ae hm IW (by simp) ?_;unfold ff at w;have a:(s:Int).tmod 86400=((s%86400:Nat):Int):=tm4 s 86400 (by omega);obtain⟨d,q⟩:=A_ (s%86400);have y:d<86400:=by omega
 have b:(d:Int).tdiv 3600=((d/3600:Nat):Int):=MX d 3600 (by omega);have c:(d:Int).tdiv 60=((d/60:Nat):Int):=MX d 60 (by omega);obtain⟨e,u⟩:=A_ (d/60);have f:(e:Int).tmod 60=((e%60:Nat):Int):=tm4 e 60 (by omega);have g:(d:Int).tmod 60=((d%60:Nat):Int):=tm4 d 60 (by omega);rw[q]at a;rw[u]at c;have h:=adL r.l6 (decide (3<=r.f)) ((d/3600:Nat):Int) 24 k.l6;have i:=adL r.l5 (decide (2<=r.f)) ((e%60:Nat):Int) 60 k.l5;have j:=adL r.l4 (decide (1<=r.f)) ((d%60:Nat):Int) 60 k.l4;unfold Bc Tm.cells;simp only[q,u];obtain⟨⟨B,C⟩,z⟩:=A_ (Iq r.l6 (decide (3<=r.f)) ((d/3600:Nat):Int) 24);obtain⟨⟨D,E⟩,A⟩:=A_ (Iq r.l5 (decide (2<=r.f)) ((e%60:Nat):Int) 60);obtain⟨⟨F,H⟩,l⟩:=A_ (Iq r.l4 (decide (1<=r.f)) ((d%60:Nat):Int) 60);rw[z]at h |-;rw[A]at i |-;rw[l]at j |-;obtain⟨I,m⟩:∃x:Nat,d/3600=x:=⟨_,rfl⟩;obtain⟨J,n⟩:∃x:Nat,e%60=x:=⟨_,rfl⟩;obtain⟨K,o⟩:∃x:Nat,d%60=x:=⟨_,rfl⟩;rw[m]at b h;rw[n]at f i;rw[o]at g j;simp only[xN,List.cons_append,List.nil_append]at h i j |-;unfold Ru.iv cells at p |-;simp[Au,is_len,aJ];simp(disch:=omega)[wl];refine aa p ?_;simp(disch:=omega)[wl,a,b,c,f,g];refine aa h ?_;simp(disch:=omega)[wl,a,b,c,f,g];refine aa i ?_;simp(disch:=omega)[wl,a,b,c,f,g];refine aa j ?_;simp(disch:=omega)[wl];rfl
theorem AW{l:List Int}{told:Bool}{st:Int}{all:Nat}{hi:Int}(c:∀n∈l,0<=n/\n<=hi)(d:0<=st/\st<=hi)(e:(all:Int)<=hi+1) :
  (∀n∈u9 (Iq l told st all).1 (Iq l told st all).2,0<=n/\n<=hi)/\(Iq l told st all).2<=all/\(Iq l told st all).1.length<=max l.length 1:=by
 unfold Iq u9;split
 .refine⟨fun n b=>?_,by omega,by simp[wR];omega⟩;simp at b;exact c n ((AB n l).1 b)
 split
 .refine⟨fun n b=>?_,by omega,by simp;omega⟩;simp at b;subst b;exact d
 refine⟨fun n b=>?_,by omega,by simp⟩;simp at b;obtain⟨a,f,rfl⟩:=b;omega
theorem AC{f w i:Nat}(e:f<=6)(g:w<=6)(b:dK f w 0<=i)(q:i<=dZ f w):(iF f w i).1<(iF f w i).2/\(iF f w i).2<=315537897600/\((iF f w i).2-1)/86400+1-(iF f w i).1/86400<=366/\
  (f<3->(iF f w i).2-(iF f w i).1/86400*86400<=86400)/\(3<=f->(iF f w i).1%86400=0/\(iF f w i).2%86400=0):=by
 obtain⟨a,j,k,l⟩:=RL e g;obtain⟨n,o⟩:=PQ f w
 have p:f=4->(7-w)/7<=i:=by
  intro h;subst h;unfold dK at b;rw[if_neg (by omega),if_pos rfl]at b;simpa using b
 have:f=0\/f=1\/f=2\/f=3\/f=4\/f=5\/f=6:=by omega
 rcases this with rfl|rfl|rfl|rfl|rfl|rfl|rfl
 .have:=(a (by omega)).2;simp only[eJ,ff,iF]at this |-;simp at this |-;omega
 .have:=(a (by omega)).2;simp only[eJ,ff,iF]at this |-;simp at this |-;omega
 .have:=(a (by omega)).2;simp only[eJ,ff,iF]at this |-;simp at this |-;omega
 .have:=(a (by omega)).2;simp only[eJ,ff,iF]at this |-;simp at this |-;omega
 .have:=j rfl;have:=p rfl;unfold iF M7;simp;omega
 .have:=k rfl;have:=n rfl
  have c:28<=jF (i/12) (i%12+1)/\jF (i/12) (i%12+1)<=31:=by
   unfold jF fO
   repeat' split
   all_goals omega
  have N7:=GH (y:=i/12) (m:=i%12+1) (d:=1) (by omega) (by omega) (by omega) (by omega) (by omega) (by omega);unfold iF M7;simp;omega
 have:=l rfl;have:=o rfl;have c:365<=fO i/\fO i<=366:=by unfold fO;split<;>omega
 have N7:=GH (y:=i) (m:=1) (d:=1) (by omega) (by omega) (by omega) (by omega) (by omega) (by unfold jF;simp);unfold iF M7;simp;omega
def UA(r:Ru)(i:Nat):Nat:=(iF r.f.toNat r.w.toNat i).1
def Y6(r:Ru)(i:Nat):Nat:=(iF r.f.toNat r.w.toNat i).2
def uY(r:Ru)(s i:Nat):List Nat:=uX r (s/86400) (UA r i/86400) ((Y6 r i-1)/86400+1-UA r i/86400)
def WK(r:Ru)(s i:Nat):Tm:=if 3<=r.f then Bc r s 0 86400 else Bc r s ((UA r i-UA r i/86400*86400:Nat):Int) ((Y6 r i-UA r i/86400*86400:Nat):Int)
def gB(r:Ru)(s i:Nat):List Int:=if r.f<3/\uY r s i=[]then []else i6 (WK r s i)
structure RuK(r:Ru):Prop where
 s:RuS r
 a4:∀n∈r.l4,0<=n/\n<=60
 a5:∀n∈r.l5,0<=n/\n<=59
 a6:∀n∈r.l6,0<=n/\n<=23
 chk:Fn G2 T_ 72 [r.iv] (.int .i64 0)
 i:1<=r.i/\r.i<=1000
theorem Mv{a b:Type}(f:a->List b)(k:Nat):∀l:List a,(∀x∈l,(f x).length<=k)->(l.flatMap f).length<=l.length*k
 |[],_=>by simp
 |x::l,h=>by
  have:=Mv f k l fun y c=>h y (List.mem_cons_of_mem _ c)
  have d:=h x List.mem_cons_self;simp only[List.flatMap_cons,List.length_append,List.length_cons,Nat.add_mul,Nat.one_mul];omega
theorem RO{l:List Int}{told:Bool}{st:Int}{all:Nat}(h:l.length<=12)(a:all<=60):(u9 (Iq l told st all).1 (Iq l told st all).2).length<=60:=by
 unfold Iq;rw[XV];split
 .simp[wR];omega
 split
 .simp
 simp;omega
theorem RP(r:Ru)(s:Nat)(a to:Int)(b:RuK r)(i:0<=a/\a<=100000)(j:0<=to/\to<=100000):FitT (Bc r s a to)/\(i6 (Bc r s a to)).length<=216000:=by
 have d:=AW (l:=r.l6) (told:=decide (3<=r.f)) (st:=((s%86400/3600:Nat):Int)) (all:=24) (hi:=23) b.a6 (by omega) (by omega);have e:=AW (l:=r.l5) (told:=decide (2<=r.f)) (st:=((s%86400/60%60:Nat):Int)) (all:=60) (hi:=59) b.a5 (by omega) (by omega);have f:=AW (l:=r.l4) (told:=decide (1<=r.f)) (st:=((s%86400%60:Nat):Int)) (all:=60) (hi:=60) b.a4 (by omega) (by omega);have k:=RO (l:=r.l6) (told:=decide (3<=r.f)) (st:=((s%86400/3600:Nat):Int)) (all:=24) b.s.l6 (by omega);have o:=RO (l:=r.l5) (told:=decide (2<=r.f)) (st:=((s%86400/60%60:Nat):Int)) (all:=60) b.s.l5 (by omega);have p:=RO (l:=r.l4) (told:=decide (1<=r.f)) (st:=((s%86400%60:Nat):Int)) (all:=60) b.s.l4 (by omega);have v:=b.s.l6;have w:=b.s.l5;have x:=b.s.l4;refine⟨⟨?_,?_,?_,?_,?_,?_,?_,?_,?_,i,j⟩,?_⟩
 .have:=d.2.1;simp only[Bc];omega
 .have:=e.2.1;simp only[Bc];omega
 .have:=f.2.1;simp only[Bc];omega
 .have:=d.2.2;simp only[Bc];omega
 .have:=e.2.2;simp only[Bc];omega
 .have:=f.2.2;simp only[Bc];omega
 .intro n c;have:=d.1 n c;omega
 .intro n c;have:=e.1 n c;omega
 .intro n c;have:=f.1 n c;omega
 have q:∀h m,(sT (Bc r s a to) h m).length<=60:=fun h m=>by
  refine Nat.le_trans (List.length_filter_le _ _) ?_;rw[List.length_map];exact p
 have g:∀h,(mT (Bc r s a to) h).length<=3600:=fun h=>by
  refine Nat.le_trans (Mv _ 60 _ fun m _=>q h m) ?_;have:(u9 (Bc r s a to).m (Bc r s a to).am).length<=60:=o;omega
 have u:∀h,(hT (Bc r s a to) h).length<=3600:=fun h=>by
  unfold hT;split
  .simp
  exact g h
 refine Nat.le_trans (Mv _ 3600 _ fun h _=>u h) ?_;have:(u9 (Bc r s a to).h (Bc r s a to).ah).length<=60:=k;omega
structure PerI(r:Ru)(s i:Nat):Prop where
 k:RuK r
 s:s<=ff
 lo:dK r.f.toNat r.w.toNat 0<=i
 hi:i<=dZ r.f.toNat r.w.toNat
theorem H8{r:Ru}{s i:Nat}(h:PerI r s i):(gB r s i).length<=216000/\(uY r s i).length<=366:=by
 obtain⟨a,f,b,c⟩:=h;have g:=a.s.f;have j:=a.s.w;obtain⟨k,l,d,e,m⟩:=AC (by omega) (by omega) b c;refine⟨?_,Nat.le_trans (Uz _ _ _ _) d⟩;unfold gB WK;split
 .simp
 split
 .exact(RP r s 0 86400 a (by omega) (by omega)).2
 have:=e (by omega);exact(RP r s _ _ a ⟨by omega,by unfold UA;omega⟩ ⟨by omega,by unfold Y6 UA;omega⟩).2
theorem UB(r:Ru)(s i:Nat)(h:PerI r s i):Fn G2 T_ 159 [r.iv,.int .i64 s,.int .i64 i] (.tuple [.slice (isN (uY r s i)),.slice (is (gB r s i)),.bool true]):=by
 refine ae hm IR (by simp) ?_;have j:=H8 h;obtain⟨k,y,B,C⟩:=h;have hf:=k.s.f;have hw:=k.s.w;obtain⟨f,R⟩:∃f:Nat,r.f=(f:Int):=⟨r.f.toNat,by omega⟩;obtain⟨w,S⟩:∃w:Nat,r.w=(w:Int):=⟨r.w.toNat,by omega⟩;have l:r.f.toNat=f:=by omega
 have m:r.w.toNat=w:=by omega
 rw[l,m]at B C;have p:f<=6:=by omega
 have q:w<=6:=by omega
 have E:=Mr f w i p q B C;obtain⟨N,O,z,A,P⟩:=AC p q B C;have o:=k.chk;obtain⟨⟨F,T⟩,n⟩:=A_ (iF f w i);have Q:UA r i=F:=by unfold UA;rw[l,m,n]
 have eT:Y6 r i=T:=by unfold Y6;rw[l,m,n]
 rw[n]at E N O z A P;simp only at E N O z A P;obtain⟨d,u⟩:=A_ (F/86400);obtain⟨e,H⟩:=A_ ((T-1)/86400);have U:(F:Int).tdiv 86400=(d:Int):=by rw[<-u];exact MX F 86400 (by omega)
 have I:(T:Int)-1=((T-1:Nat):Int):=by omega
 have V:((T-1:Nat):Int).tdiv 86400=(e:Int):=by rw[<-H];exact MX (T-1) 86400 (by omega)
 rw[u,H]at z;rw[u]at A;have J:=y;unfold ff at J;have b:=aiA r s d (e+1-d) k.s o y z (by omega);have W:((d+(e+1-d):Nat):Int)=(e:Int)+1:=by omega
 rw[W]at b;have eD:uY r s i=uX r (s/86400) d (e+1-d):=by unfold uY;rw[Q,eT,u,H]
 rw[<-eD]at b;obtain⟨D,K⟩:=A_ (uY r s i)
 have c:3<=f->CV G2 T_ aaa [r.iv,.int .i64 s,.int .i64 0,.int .i64 86400] (.own 1 (yo (gB r s i))):=fun v=>by
  have e1:gB r s i=i6 (Bc r s 0 86400):=by unfold gB WK;rw[if_neg (by omega),if_pos (by omega)]
  have L:=RP r s 0 86400 k (by omega) (by omega);rw[e1];exact WA r s (Bc r s 0 86400) L.1 (by simp[Bc]) (by simp[Bc]) (by simp[Bc]) (by omega) (adM r s 0 86400 k.s o y)
 have g:f<3->D≠[]->CV G2 T_ aaa [r.iv,.int .i64 s,.int .i64 ((F-d*86400:Nat):Int),.int .i64 ((T-d*86400:Nat):Int)] (.own 1 (yo (gB r s i))):=fun v a=>by
  have e1:gB r s i=i6 (Bc r s ((F-d*86400:Nat):Int) ((T-d*86400:Nat):Int)):=by
   unfold gB WK;rw[K,if_neg (fun h=>a h.2),if_neg (by omega),Q,eT,u]
  have:=A v;have L:=RP r s ((F-d*86400:Nat):Int) ((T-d*86400:Nat):Int) k (by omega) (by omega);rw[e1];exact WA r s _ L.1 (by simp[Bc]) (by simp[Bc];omega) (by simp[Bc];omega) (by omega) (adM r s _ _ k.s o y)
 have x:f<3->D=[]->gB r s i=[]:=fun v a=>by unfold gB;rw[K,if_pos ⟨by omega,a⟩]
 rw[K]at b j |-;obtain⟨Y,X⟩:=A_ (gB r s i);rw[X]at c g x j |-;have M:is Y=yo Y:=rfl;rw[M];unfold Ru.iv cells at o b c g |-;rw[R,S]at o b c g |-;simp[Al,is_len,aJ];simp(disch:=omega)[wl];refine aa o ?_;simp(disch:=omega)[wl];refine aa E ?_;simp(disch:=omega)[wl,U,I,V];refine aa b ?_;by_cases v:3<=f
 .simp(disch:=omega)[wl];refine Gh (c v) ?_;simp(disch:=omega)[wl]
 by_cases a:D=[]
 .have:=x (by omega) a;subst this a;simp(disch:=omega)[wl,sx];exact⟨rfl,rfl⟩
 have Z:0<D.length:=List.length_pos_iff.2 a;have e1:(F:Int)-(d:Int)*86400=((F-d*86400:Nat):Int):=by omega
 have e2:(T:Int)-(d:Int)*86400=((T-d*86400:Nat):Int):=by omega
 simp(disch:=omega)[wl,sx,Z,e1,e2];refine Gh (g (by omega) a) ?_;simp(disch:=omega)[wl]
def wS(r:Ru)(s i:Nat):Nat:=(uY r s i).length*(gB r s i).length
theorem RQ{r:Ru}{s i:Nat}(h:PerI r s i):wS r s i<=79056000:=by
 obtain⟨a,b⟩:=H8 h;exact Nat.mul_le_mul b a
theorem agq(r:Ru)(s i:Nat)(h:PerI r s i):Fn G2 T_ 105 [r.iv,.int .i64 s,.int .i64 i] (.int .i64 (wS r s i+1:Nat)):=by
 refine ae hm Mf (by simp) ?_;have a:=UB r s i h;have b:=RQ h;unfold wS at b |-;obtain⟨D,c⟩:=A_ (uY r s i);obtain⟨Y,d⟩:=A_ (gB r s i);rw[c,d]at a b |-;have e:(D.length:Int)*(Y.length:Int)=((D.length*Y.length:Nat):Int):=by push_cast;rfl
 obtain⟨n,g⟩:=A_ (D.length*Y.length);rw[g]at e b |-;unfold Ru.iv cells at a |-;simp[Cw,is_len,aJ];refine aa a ?_;simp(disch:=omega)[wl,sx,is_len,e]
theorem adN{x:Tm}{t:Int}(h:t∈i6 x):x.fr<=t/\t<x.to:=by
 unfold i6 at h;obtain⟨a,-,h⟩:=List.mem_flatMap.1 h;unfold hT at h;split at h
 .simp at h
 unfold mT at h;obtain⟨b,-,h⟩:=List.mem_flatMap.1 h;unfold sT at h;have:=(List.mem_filter.1 h).2;unfold Wy at this;simpa using this
theorem AX{r:Ru}{s i:Nat}{t:Int}(h:PerI r s i)(a:t∈gB r s i):0<=t/\t<86400/\(r.f<3->(UA r i:Int)<=(UA r i/86400*86400:Nat)+t/\(UA r i/86400*86400:Nat)+t<(Y6 r i:Int)):=by
 obtain⟨b,j,c,d⟩:=h;have k:=b.s.f;have l:=b.s.w;obtain⟨m,n,o,e,p⟩:=AC (by omega) (by omega) c d;unfold gB at a;split at a
 .simp at a
 have:=adN a;unfold WK at this;split at this
 .next f=>
  simp only[Bc]at this;exact⟨this.1,this.2,fun h=>by omega⟩
 next f=>
 have g:=e (by omega);simp only[Bc]at this;unfold UA Y6 at *;exact⟨by omega,by omega,fun _=>by omega⟩
theorem UC{r:Ru}{s i d:Nat}(h:PerI r s i)(b:d∈uY r s i):UA r i/86400<=d/\d<=(Y6 r i-1)/86400:=by
 obtain⟨c,j,f,g⟩:=h;have k:=c.s.f;have l:=c.s.w;obtain⟨m,n,o,p,q⟩:=AC (by omega) (by omega) f g;unfold uY uX at b;have:=(List.mem_filter.1 b).1;obtain⟨a,e,rfl⟩:=List.mem_map.1 this;have e:=List.mem_range.1 e;unfold UA Y6 at *;omega
def secs(D:List Nat)(Y:List Int):List Int:=D.flatMap fun(d:Nat)=>Y.map fun(t:Int)=>(d:Int)*86400+t
def wa(r:Ru)(s i:Nat):List Int:=if 4000<=wS r s i then []else secs (uY r s i) (gB r s i)
theorem Y7{r:Ru}{s i:Nat}{t:Int}(h:PerI r s i)(a:t∈wa r s i):(UA r i:Int)<=t/\t<(Y6 r i:Int):=by
 unfold wa at a;split at a
 .simp at a
 unfold secs at a;obtain⟨d,c,a⟩:=List.mem_flatMap.1 a;obtain⟨y,e,rfl⟩:=List.mem_map.1 a;have n:=UC h c;have g:=AX h e;obtain⟨b,o,j,k⟩:=h;have p:=b.s.f;have q:=b.s.w;obtain⟨u,v,x,l,m⟩:=AC (by omega) (by omega) j k;unfold UA Y6 at *;by_cases z:3<=r.f
 .have:=m (by omega);omega
 have:=g.2.2 (by omega);have:=l (by omega);omega
theorem FX(D:List Nat)(Y:List Int):(secs D Y).length=D.length*Y.length:=by
 unfold secs
 induction D with
 |nil=>simp
 |cons d D a=>simp only[List.flatMap_cons,List.length_append,List.length_map,a,List.length_cons,Nat.add_mul,Nat.one_mul];omega
theorem aiC(r:Ru)(s i:Nat)(h:PerI r s i):Fn G2 T_ 160 [r.iv,.int .i64 s,.int .i64 i] (.slice (is (wa r s i))):=by
 refine ae hm NU (by simp) ?_;have w:=UB r s i h;have z:=RQ h;have f:=H8 h
 have g:∀d∈uY r s i,d<=3652058:=fun d l=>by
  have q:=UC h l;obtain⟨c,Z,L,A⟩:=h;have hf:=c.s.f;have hw:=c.s.w;obtain⟨g1,g2,g3,g4,g5⟩:=AC (by omega) (by omega) L A;unfold Y6 at q;omega
 have m:∀t∈gB r s i,0<=t/\t<86400:=fun t M=>by have:=AX h M;exact⟨this.1,this.2.1⟩
 unfold wa;unfold wS at z |-;obtain⟨D,J⟩:=A_ (uY r s i);obtain⟨Y,K⟩:=A_ (gB r s i);rw[J,K]at w z f |-;obtain⟨N,O⟩:=f;rw[J]at g;rw[K]at m;have e:(D.length:Int)*(Y.length:Int)=((D.length*Y.length:Nat):Int):=by push_cast;rfl
 have B:=FX D Y;obtain⟨n,P⟩:=A_ (D.length*Y.length);rw[P]at e z B |-;obtain⟨R,o⟩:=A_ ((if 4000<=n then []else secs D Y));rw[o];unfold Ru.iv cells at w |-;simp[FJ,is_len,aJ];refine aa w ?_;by_cases q:4000<=n
 .rw[if_pos q]at o;subst o;simp(disch:=omega)[wl,sx,is_len,e];rfl
 rw[if_neg q]at o;simp(disch:=omega)[wl,sx,is_len,e];refine⟨by omega,?_⟩;refine bx hm [] (fun x:Nat×List Int=>[(41,.val (.int .i64 x.1)),(10,.own 38 x.2.length)]) (fun x=>[(38,.arr x.2.length 1 (is x.2))]) (fun x=>x.1<=D.length/\x.2=secs (D.take x.1) Y) (fun x=>D.length-x.1) (0,[]) ⟨by simp,by simp[secs]⟩ ?_ ?_
 .simp[is];exact bA
 rintro⟨j,b⟩ ⟨A,u⟩;simp only at A u;simp[sx];by_cases v:j<D.length
 .obtain⟨d,l⟩:=A_ (D[j]);have Q:=g d (l▸List.getElem_mem v);have S:(isN D)[j]?=some [.int .i64 d]:=by simp[isN,is,v,l]
  obtain⟨C,E⟩:=List.getElem?_eq_some_iff.1 S
  have a:secs (D.take (j+1)) Y=b++Y.map fun t=>(d:Int)*86400+t:=by
   rw[u,List.take_succ_eq_append_getElem v,l];simp[secs]
  have U:b.length+Y.length<=n:=by
   have e1:=FX (D.take (j+1)) Y;rw[a,List.length_append,List.length_map,List.length_take]at e1;have:(min (j+1) D.length)*Y.length<=D.length*Y.length:=Nat.mul_le_mul_right _ (Nat.min_le_right _ _);omega
  simp(disch:=omega)[wl,v,sx,is_len,C,E];refine bx hm [] (fun x:Nat×List Int=>[(47,.val (.int .i64 x.1)),(10,.own 38 x.2.length)]) (fun x=>[(38,.arr x.2.length 1 (is x.2))]) (fun x=>x.1<=Y.length/\x.2=b++(Y.take x.1).map fun t=>(d:Int)*86400+t) (fun x=>Y.length-x.1) (0,b) ⟨by simp,by simp⟩ ?_ ?_
  .simp;exact bA
  rintro⟨k,o2⟩ ⟨V,p⟩;simp only at V p;simp[is_len];by_cases c:k<Y.length
  .obtain⟨y,F⟩:=A_ (Y[k]);have W:=m y (F▸List.getElem_mem c);have H:=vv c F;have I:is (o2++[(d:Int)*86400+y])=is o2++[[.int .i64 ((d:Int)*86400+y)]]:=by simp[is]
   have X:o2.length<=n:=by rw[p];simp;omega
   simp(disch:=omega)[wl,c,is_len,H];refine⟨by omega,?_⟩;refine aj (k+1,o2++[(d:Int)*86400+y]) ⟨by simp;omega,by simp[p,List.take_succ_eq_append_getElem c,F]⟩ (by simp;omega) ?_;simp[I];exact bA
  obtain rfl:k=Y.length:=by omega
  rw[List.take_length]at p;simp(disch:=omega)[wl,is_len];refine aj (j+1,o2) ⟨by simp;omega,by simp[p,a]⟩ (by simp;omega) ?_;simp;exact bA
 obtain rfl:j=D.length:=by omega
 rw[List.take_length,o]at u;subst u;simp(disch:=omega)[wl,sx]
theorem aak(v:Nat)(l:List Int)(x:Int)(f:l.length<100000):lB G2 T_ 215 {args:=[.own 1000 v,.val (.int .i64 x)],objs:=[(1000,.arr v 1 (is l))],res:=.val (.int .i64 (S8 l x)),objs':=[(1000,.arr v 1 (is l))],ro':=[] }:=by
 refine aK hm rE (by simp) rfl ?_;simp[nw,is_len];refine bx hm [] (fun i:Nat=>[(8,.val (.int .i64 i))]) (fun _=>[]) (fun i=>i<=l.length/\x∉l.take i) (fun i=>l.length-i) 0 ⟨by omega,by simp⟩ ?_ ?_
 .simp;exact bA
 rintro i ⟨g,a⟩;simp[is_len];by_cases h:i<l.length
 .obtain⟨y,b⟩:=A_ (l[i]);have c:=vv h b;by_cases e:x=y
  .have d:=Tp h (b.trans e.symm) a;rw[d];simp(disch:=omega)[wl,is_len,c,e];exact⟨h,ch [(4,.val (.int .i64 i))]⟩
  simp(disch:=omega)[wl,is_len,c,e];refine⟨h,?_⟩;refine aj (i+1) ⟨by omega,Go.Vs.Y.take_no h b a e⟩ (by omega) ?_;simp;exact bA
 obtain rfl:i=l.length:=by omega
 rw[List.take_length]at a;rw[Tq a];simp(disch:=omega)[wl];exact ch [(4,.val (.int .i64 (-1)))]
def Ir:VCode:=Q_ 4 [.K (cb false)] (R_ 5 8 [.m 0,.m 1,.g (.callM 215 [tm 5,tm 6]),.i .geq 0,.a 4] .ret)
theorem RR:FnOk T_ 162 Ir [.tmp 4] 9:=by
 obtain⟨a,c,b,d,e,f,i,g,h⟩:=oD.ok;exact⟨a,c,b,d,e,f,by rfl,g,h⟩
theorem RS(v:Nat)(l:List Int)(x:Int)(a:l.length<100000):lB G2 T_ 162 {args:=[.own 1000 v,.val (.int .i64 x)],objs:=[(1000,.arr v 1 (is l))],res:=.val (.bool (decide (x∈l))),objs':=[(1000,.arr v 1 (is l))],ro':=[] }:=by
 have:decide (x∈l)=decide (0<=S8 l x):=by rw[decide_eq_decide,VV]
 rw[this];refine aK hm RR (by simp) rfl ?_;simp[Ir];refine callM [(1000,1000)] [] (aak v l x a) rfl rfl (by simp[gI,Vs.ren,ac,Ob.ren]) (by simp[iT,Vs.ren,ac,SV.ren]) rfl ?_;simp;exact ch [(4,.val (.bool (decide (0<=S8 l x))))]
def m4(n:Nat)(at':List Int)(k:Int):List Int:=if 0<=k/\k<n/\k∉at' then at'++[k]else at'
theorem adO(v:Nat)(a at':List Int)(k:Int)(m:at'.length<100)(n:-1000000000<k/\k<1000000000)(o:a.length<1000000):lB G2 T_ 161 {args:=[.val (.int .i64 k),.loc 1000 0,.loc 1001 0],objs:=[(1000,.box [.val (.slice (is a))]),(1001,.box [.own 1002 at'.length]),(1002,.arr at'.length 1 (is at'))],res:=.val (.tuple []),objs':=[(1000,.box [.val (.slice (is a))]),(1001,.box [.own 1002 (m4 a.length at' k).length]),(1002,.arr (m4 a.length at' k).length 1 (is (m4 a.length at' k)))],ro':=[] }:=by
 refine aK hm Mj (by simp) rfl ?_;have l:=RS at'.length at' k (by omega);obtain⟨P,b⟩:=A_ (m4 a.length at' k);rw[b];simp[CE,is_len];by_cases c:0<=k
 .by_cases f:k<a.length
  .simp(disch:=omega)[wl,c,f,is_len];refine callM [(1000,1002)] [] l rfl rfl (by simp[gI,Vs.ren,ac,Ob.ren]) (by simp[iT,Vs.ren,ac,SV.ren]) rfl ?_;by_cases g:k∈at'
   .have e:m4 a.length at' k=at':=by unfold m4;rw[if_neg (fun h=>h.2.2 g)]
    rw[e]at b;subst b;simp(disch:=omega)[wl,g];exact ch []
   have e:m4 a.length at' k=at'++[k]:=by unfold m4;rw[if_pos ⟨c,f,g⟩]
   have e2:is (at'++[k])=is at'++[[.int .i64 k]]:=by simp[is]
   rw[e]at b;subst b;simp(disch:=omega)[wl,g,is_len,e2];exact⟨by omega,ch []⟩
  have e:m4 a.length at' k=at':=by unfold m4;rw[if_neg (fun h=>f h.2.1)]
  rw[e]at b;subst b;simp(disch:=omega)[wl,c,f,is_len];exact ch []
 have e:m4 a.length at' k=at':=by unfold m4;rw[if_neg (fun h=>c h.1)]
 rw[e]at b;subst b;simp(disch:=omega)[wl,c,is_len];exact ch []
def Mw(n:Nat)(p:Int):Int:=if 0<p then p-1 else n+p
def qQ(n:Nat)(l:List Int):List Int:=l.foldl (fun a p=>m4 n a (Mw n p)) []
theorem xZ(n:Nat)(l:List Int)(p:Int):qQ n (l++[p])=m4 n (qQ n l) (Mw n p):=by simp[qQ]
theorem aal(n:Nat)(a:List Int)(k:Int):(m4 n a k).length<=a.length+1/\a.length<=(m4 n a k).length:=by
 unfold m4;split<;>simp
theorem AY(n:Nat)(l:List Int):(qQ n l).length<=l.length:=by
 induction l using PS with
 |b=>simp[qQ]
 |c l x a=>rw[xZ];have:=(aal n (qQ n l) (Mw n x)).1;simp;omega
theorem H9(n:Nat)(l:List Int):∀k∈qQ n l,0<=k/\k<n:=by
 induction l using PS with
 |b=>simp[qQ]
 |c l x e=>
  intro k a;rw[xZ]at a;unfold m4 at a;split at a
  .next h=>
   rcases List.mem_append.1 a with c|c
   .exact e k c
   rw[List.mem_singleton.1 c];exact⟨h.1,h.2.1⟩
  exact e k a
def PT(r:Ru)(s i:Nat):List Int:=if r.l12=[]then wa r s i else (mV (qQ (wa r s i).length r.l12)).map fun k=>(wa r s i).getD k.toNat 0
theorem WL{r:Ru}{s i:Nat}{t:Int}(h:t∈PT r s i):t∈wa r s i:=by
 unfold PT at h;split at h
 .exact h
 obtain⟨k,b,rfl⟩:=List.mem_map.1 h;have:=H9 _ _ k ((AB k _).1 b);have a:k.toNat<(wa r s i).length:=by omega
 rw[List.getD_eq_getElem?_getD,List.getElem?_eq_getElem a];exact List.getElem_mem a
theorem Y8{r:Ru}{s i:Nat} : (wa r s i).length<4000:=by
 unfold wa;split
 .simp
 next h=>rw[FX];unfold wS at h;omega
theorem ajC(r:Ru)(s i:Nat)(h:PerI r s i)(z:∀p∈r.l12,-1000000<p/\p<1000000):Fn G2 T_ 106 [r.iv,.int .i64 s,.int .i64 i] (.slice (is (PT r s i))):=by
 refine ae hm RG (by simp) ?_;have I:=aiC r s i h;have hl:=Y8 (r:=r) (s:=s) (i:=i);have K:=h.k.s.l12;unfold PT;obtain⟨A,M⟩:=A_ (wa r s i);rw[M]at I hl |-;have N:=H9 A.length r.l12;have B:=AY A.length r.l12;obtain⟨L,Z⟩:=A_ r.l12;rw[Z]at z K N B |-;obtain⟨R,l⟩:∃R,(if L=[]then A else (mV (qQ A.length L)).map fun k=>A.getD k.toNat 0)=R:=⟨_,rfl⟩;rw[l];unfold Ru.iv cells at I |-;rw[Z]at I |-;simp[Ih,is_len,aJ];refine aa I ?_;by_cases q:L=[]
 .rw[if_pos q]at l;subst l;simp(disch:=omega)[wl,is_len,q]
 have hq:0<L.length:=List.length_pos_iff.2 q;rw[if_neg q]at l;by_cases O:A=[]
 .subst O
  have b:qQ 0 L=[]:=by
   cases e:qQ 0 L with
   |nil=>rfl
   |cons k t=>have:=N k (by simp[e]);simp at this;omega
  have P:R=[]:=by rw[<-l];simp[b,mV]
  subst P;simp(disch:=omega)[wl,is_len,hq];rfl
 have Q:0<A.length:=List.length_pos_iff.2 O;simp(disch:=omega)[wl,is_len,hq,O,Q];refine bx hm [] (fun x:Nat×List Int=>[(31,.val (.int .i64 x.1))]) (fun x=>[(7,.box [.val (.slice (is A))]),(8,.box [.own 13 x.2.length]),(13,.arr x.2.length 1 (is x.2))]) (fun x=>x.1<=L.length/\x.2=qQ A.length (L.take x.1)) (fun x=>L.length-x.1) (0,[]) ⟨by simp,by simp[qQ]⟩ ?_ ?_
 .simp[is];exact cJ.trans (wq false (d:=8) (j:=0) 13 1 (by simp) (by decide) rfl rfl rfl) (an rfl rfl (by simp[St.adoptC,bj,aE,ac,dB,SV.erase]) (by simp[St.adoptC,bZ,ac,put,cp,fJ,Ob.erase,SV.erase,qd,xc]) (by simp[bX,St.adoptC]))
 rintro⟨j,at'⟩ ⟨h1,n⟩;simp only at h1 n;simp[is_len];by_cases C:j<L.length
 .obtain⟨p,o⟩:=A_ (L[j]);have a':=z p (o▸List.getElem_mem C);have hg:=vv C o;have a:qQ A.length (L.take (j+1))=m4 A.length at' (Mw A.length p):=by rw[List.take_succ_eq_append_getElem C,o,xZ,n]
  have u:at'.length<=12:=by have:=AY A.length (L.take j);rw[<-n]at this;simp at this;omega
  have D:=adO 0 A at' (Mw A.length p) (by omega) (by unfold Mw;split<;>omega) (by omega);unfold Mw at D a;by_cases b:0<p
  .rw[if_pos b]at D a;simp(disch:=omega)[wl,C,is_len,hg,b];refine callM [(1000,7),(1001,8),(1002,13)] [] D rfl rfl (by simp[gI,Vs.ren,ac,Ob.ren,SV.ren]) (by simp[iT,Vs.ren,ac,SV.ren]) rfl ?_;simp(disch:=omega)[wl];refine aj (j+1,m4 A.length at' (p-1)) ⟨by simp;omega,by simp[a]⟩ (by simp;omega) ?_;simp;exact bA
  rw[if_neg b]at D a;simp(disch:=omega)[wl,C,is_len,hg,b];refine callM [(1000,7),(1001,8),(1002,13)] [] D rfl rfl (by simp[gI,Vs.ren,ac,Ob.ren,SV.ren]) (by simp[iT,Vs.ren,ac,SV.ren]) rfl ?_;simp(disch:=omega)[wl];refine aj (j+1,m4 A.length at' (A.length+p)) ⟨by simp;omega,by simp[a]⟩ (by simp;omega) ?_;simp;exact bA
 obtain rfl:j=L.length:=by omega
 rw[List.take_length]at n;have u:at'.length<=12:=by have:=B;rw[<-n]at this;omega
 simp(disch:=omega)[wl,is_len];refine callM [(1000,13)] [] (Mu at'.length at' u) rfl rfl (by simp[gI,Vs.ren,ac,Ob.ren]) (by simp[iT,Vs.ren,ac,SV.ren]) rfl ?_;simp(disch:=omega)[wl,is_len];obtain⟨S,J⟩:=A_ (mV at');have b':S.length<=12:=by rw[<-J,wR];exact u
 have U:∀k∈S,0<=k/\k<A.length:=fun k E=>N k (by rw[<-n];exact(AB k at').1 (J▸E))
 rw[<-n,J]at l;rw[J];refine bx hm [] (fun x:Nat×List Int=>[(52,.val (.int .i64 x.1)),(12,.own 12 x.2.length)]) (fun x=>[(13,.arr at'.length 1 (is S)),(12,.arr x.2.length 1 (is x.2))]) (fun x=>x.1<=S.length/\x.2=(S.take x.1).map fun k=>A.getD k.toNat 0) (fun x=>S.length-x.1) (0,[]) ⟨by simp,by simp⟩ ?_ ?_
 .simp[is];exact cJ.trans (fu (k:=12) 12 1 (by simp) (by simp[aE,ac])) (an rfl rfl (by simp[St.adopt,bj,aE,ac,put,dB,SV.erase]) (by simp[St.adopt,bZ,ac,put,cp,Ob.erase]) (by simp[St.adopt,bX]))
 rintro⟨m,c⟩ ⟨h3,F⟩;simp only at h3 F;simp[is_len];by_cases g:m<S.length
 .obtain⟨k,E⟩:=A_ (S[m]);have c':=U k (E▸List.getElem_mem g);obtain⟨H,rfl⟩:∃H:Nat,k=(H:Int):=⟨k.toNat,by omega⟩;have v:H<A.length:=by omega
  obtain⟨y,hy⟩:=A_ (A[H]);have V:=vv g E;have W:=vv v hy;have X:A[H]?.getD 0=y:=by rw[List.getElem?_eq_getElem v,hy];rfl
  have Y:is (c++[y])=is c++[[.int .i64 y]]:=by simp[is]
  have d':c.length<=12:=by rw[F];simp;omega
  simp(disch:=omega)[wl,g,is_len,V,W,v];refine⟨by omega,?_⟩;refine aj (m+1,c++[y]) ⟨by simp;omega,by rw[List.take_succ_eq_append_getElem g,E,List.map_append,<-F];simp[X]⟩ (by simp;omega) ?_;simp[Y];exact bA
 obtain rfl:m=S.length:=by omega
 rw[List.take_length,l]at F;subst F;simp(disch:=omega)[wl,is_len]
open Go.Vs.Mo
theorem aiD(v:Mom)(t:Int):Fn G2 T_ 101 [.agg [.int .u8 v.k,.int .i64 v.s],.ref [.int .i64 t]] (.bool (decide (v.s=t))):=by
 refine ae hm RF (by simp) ?_;simp[If]
def ixM(l:List Mom)(p:Mom->Bool):Int:=if l.findIdx p<l.length then (l.findIdx p:Nat)else -1
theorem agr(l:List Mom)(p:Mom->Bool):0<=ixM l p↔l.any p=true:=by
 have a:=List.findIdx_lt_length (p:=p) (xs:=l);rw[List.any_eq_true];unfold ixM;by_cases h:l.findIdx p<l.length
 .rw[if_pos h];exact⟨fun _=>a.1 h,fun _=>by omega⟩
 rw[if_neg h];exact⟨fun b=>by omega,fun b=>absurd (a.2 b) h⟩
theorem O1(l:List Mom)(k:Nat)(a:List IV)(p:Mom->Bool)(q:l.length<1000000)(n:∀v∈l,Fn G2 T_ k (.agg [.int .u8 v.k,.int .i64 v.s]::a) (.bool (p v))):Fn G2 T_ 150 [.slice (ms l),.fn k a] (.int .i64 (ixM l p)):=by
 refine ae hm ux (by simp) ?_;have o:=List.findIdx_le_length (p:=p) (xs:=l);simp[mS,bP];refine bx hm [] (fun i:Nat=>[(8,.val (.int .i64 i))]) (fun _=>[]) (fun i=>i<=l.findIdx p) (fun i=>l.length-i) 0 (by omega) ?_ ?_
 .simp;exact bA
 intro i s;simp[bP];by_cases h:i<l.length
 .obtain⟨x,b⟩:=A_ (l[i]);have m:=Rm h b;have c:=n x (b▸List.getElem_mem h);by_cases d:p x=true
  .have e:l.findIdx p=i:=by
    have:¬i<l.findIdx p:=fun f=>by
     have:=List.not_of_lt_findIdx f;rw[b]at this;simp[d]at this
    omega
   have g:ixM l p=i:=by unfold ixM;rw[e,if_pos h]
   rw[g];rw[d]at c;simp(disch:=omega)[wl,bP,m];refine aa c ?_;simp(disch:=omega)[wl]
  have e:l.findIdx p≠i:=fun e=>by
   have:=List.findIdx_getElem (p:=p) (xs:=l) (w:=by omega);simp only[e,b]at this;exact d this
  have j:p x=false:=by simpa using d
  rw[j]at c;simp(disch:=omega)[wl,bP,m];refine aa c ?_;simp(disch:=omega)[wl];refine aj (i+1) (by omega) (by omega) ?_;simp;exact bA
 have g:ixM l p = -1:=by unfold ixM;rw[if_neg (by omega)]
 rw[g];simp(disch:=omega)[wl,bP]
theorem Ha(l:List Mom)(b:Nat)(a:List IV)(p:Mom->Bool)(c:l.length<1000000)(d:∀v∈l,Fn G2 T_ b (.agg [.int .u8 v.k,.int .i64 v.s]::a) (.bool (p v))):Fn G2 T_ 100 [.slice (ms l),.fn b a] (.bool (l.any p)):=by
 refine ae hm rl (by simp) ?_;have e:=O1 l b a p c d
 have:l.any p=decide (0<=ixM l p):=by
  rw[Bool.eq_iff_iff,decide_eq_true_eq];exact(agr l p).symm
 rw[this];simp[kx];refine aa e ?_;simp
def atM(l:List Mom)(t:Int):Bool:=l.any fun v=>decide (v.s=t)
theorem WM(l:List Mom)(t:Int)(a:l.length<1000000):Fn G2 T_ 61 [.slice (ms l),.int .i64 t] (.bool (atM l t)):=by
 refine ae hm WJ (by simp) ?_;have b:=Ha l 101 [.ref [.int .i64 t]] _ a (fun v _=>aiD v t);unfold atM;simp[PK];refine aa b ?_;simp
theorem UD(b:Int):Fn G2 T_ 60 [.int .i64 b] (.bool (decide (0<=b/\b<=4000))):=by
 refine ae hm NR (by simp) ?_;simp[FE];by_cases q:0<=b
 .by_cases a:b<=4000
  .simp(disch:=omega)[wl,q,a]
  simp(disch:=omega)[wl,q,a]
 simp(disch:=omega)[wl,q]
def pd(b:Mom)(r:Ru)(i o:List Mom):List SV:=[.val (.int .u8 b.k),.val (.int .i64 b.s),.val (.int .u8 r.f),.val (.int .i64 r.i),.val (.int .i64 r.c),.val (.int .u8 r.u.k),.val (.int .i64 r.u.s),.val (.slice (is r.l4)),.val (.slice (is r.l5)),.val (.slice (is r.l6)),.val (.slice (B4 r.l7)),.val (.slice (is r.l8)),.val (.slice (is r.l9)),.val (.slice (is r.l10)),.val (.slice (is r.l11)),.val (.slice (is r.l12)),.val (.int .i64 r.w),.val (.slice (ms i)),.val (.slice (ms o))]
def enW(r:Ru):Int:=if r.u.k≠0 then r.u.s else 315537897599
def AD(b:Mom)(r:Ru)(i o:List Mom)(h to a:Int)(c:Bool)(e:Int)(g:SV):List SV:=pd b r i o++[.val (.int .i64 h),.val (.int .i64 to),.val (.int .i64 (enW r)),.val (.int .i64 a),.val (.bool c),.val (.int .i64 e),g]
theorem PU(b:Mom)(r:Ru)(i o:List Mom)(e to a:Int)(c:Bool):lB G2 T_ 62 {args:=[.val (wI b r i o),.val (.int .i64 e),.val (.int .i64 to),.val (.int .i64 a),.val (.bool c)],objs:=[],res:=.agg (AD b r i o e to a c 0 .nils),objs':=[(10,.box (AD b r i o e to a c 0 .nils))],ro':=[] }:=by
 refine aK hm NT (by simp) rfl ?_;unfold AD pd enW wI cells;simp only[List.cons_append,List.nil_append];simp[FG,is_len,aJ,bP];by_cases q:r.u.k=0
 .simp(disch:=omega)[wl,q];exact ch [(10,.loc 10 0)]
 simp(disch:=omega)[wl,q];exact ch [(10,.loc 10 0)]
end Go.Vs.Y.Vt
