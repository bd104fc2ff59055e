/- A part of a proof. No conditions. -/
import Derived.Test.YtnhbiolfmeeniaaGreatDoorXBz
import Derived.Test.YtnhbiolfmeeniaaGreatDoorXAz
set_option linter.all false
set_option maxRecDepth 100000
set_option maxHeartbeats 8000000
namespace Go.Vs.Y.Rc
open Go.Proofs Go.Vs.Cv
theorem AA(n:Nat)(h:n<=3652058):Fn G2 T_ 249 [.int .i64 n] (.int .i64 (n%7:Nat)):=by
 refine ae hm GL (by simp) ?_;have t:(n:Int).tmod 7=(n:Int)%7:=Int.tmod_eq_emod_of_nonneg (by omega);simp[ym];refine aa (Lo n h) ?_;simp(disch:=omega)[wl,t]
theorem fn_Place(n:Nat)(h:n<=3652058):Fn G2 T_ 266 [.int .i64 n] (.int .i64 ((fP n).2+1:Nat)):=by
 refine ae hm Lm (by simp) ?_
 have d:(fP n).2<400:=by
  obtain⟨y,t,f,k,g,i⟩:=GG n 9999 (by have:=jG (y:=9999) (by omega);have e:Cv.ahead (9999+1)=3652059:=rfl;omega);rw[i,qA f g];have:fO y<=366:=by unfold fO;split<;>omega
  show t<400;omega
 obtain⟨⟨a,b⟩,j⟩:=A_ (fP n);have c:=TK n h;rw[j]at c d |-;simp only at d c |-;simp[BW];refine aa (Lo n h) ?_;simp(disch:=omega)[wl];refine aa c ?_;simp(disch:=omega)[wl]
def PM(y:Nat):Nat:=if 1<=y/\y<=9999 then fO y else 0
theorem Ut(y:Nat)(h:y<1000000):Fn G2 T_ 156 [.int .i64 y] (.int .i64 (PM y:Nat)):=by
 refine ae hm Ny (by simp) ?_;have b:=GM y h;have a:=XB y h;unfold PM;simp[EP];refine aa b ?_;by_cases q:1<=y/\y<=9999
 .rw[R3 q]at a |-;rw[Bool.true_and]at a;rw[if_pos q];unfold fO;simp(disch:=omega)[wl];refine aa a ?_;cases yC y<;>simp(disch:=omega)[wl]
 rw[XA q,if_neg q];simp(disch:=omega)[wl]
theorem xX(w:Nat)(h:w<=6):Fn G2 T_ 248 [.int .i64 w] (.bool true):=by
 refine ae hm IT (by simp) ?_;simp[Ap];omega
def wb(n w:Nat):Nat:=(n+49-w)%7
theorem FU(n w:Nat):wb n w<=6:=by unfold wb;omega
theorem Y1(n w:Nat)(e:n<=4000000)(f:w<=6):Fn G2 T_ 250 [.int .i64 n,.int .i64 w] (.int .i64 (wb n w:Nat)):=by
 refine ae hm RI (by simp) ?_;obtain⟨K,a⟩:=A_ (wb n w);have c:K<=6:=by rw[<-a];exact FU n w
 rw[a];simp[Il];refine bx hm [] (fun i:Nat=>[(6,.val (.int .i64 i))]) (fun _=>[]) (fun i=>i<=K) (fun i=>10-i) 0 (by omega) ?_ ?_
 .simp;exact bA
 rintro i g;have e1:(n:Int)-(i:Int)+49-(w:Int)=((n+49-w-i:Nat):Int):=by omega
 have t:((n+49-w-i:Nat):Int).tmod 7=(((n+49-w-i)%7:Nat):Int):=tm4 (n+49-w-i) 7 (by omega);simp;by_cases q:i=K
 .have b:(n+49-w-i)%7=0:=by rw[q,<-a];unfold wb;omega
  rw[b]at t;simp(disch:=omega)[wl,e1,t];omega
 have b:(n+49-w-i)%7≠0:=by unfold wb at a;omega
 obtain⟨z,d⟩:=A_ ((n+49-w-i)%7);rw[d]at t b;simp(disch:=omega)[wl,e1,t,b];refine aj (i+1) (by omega) (by omega) ?_;simp;exact bA
theorem adB(n w:Nat)(c:n<=3652058)(a:w<=6):Fn G2 T_ 211 [.int .i64 n,.int .i64 w] (.int .i64 ((n:Int)-(wb n w:Nat))):=by
 refine ae hm NV (by simp) ?_;have d:=FU n w;have b:=Y1 n w (by omega) a;obtain⟨K,e⟩:=A_ (wb n w);rw[e]at d b |-;simp[FL];refine aa (xX w a) ?_;simp(disch:=omega)[wl];refine aa (AA n c) ?_;simp(disch:=omega)[wl];refine aa b ?_;simp(disch:=omega)[wl]
def fN(y:Nat):Nat:=(y+399)*365+(y+399)/4-(y+399)/100+(y+399)/400+3
def G5(y w:Nat):Int:=(fN y:Int)-146097-(wb (fN y) w:Nat)
theorem adC{y:Nat}(h:1<=y):fN y=Cv.ahead y+146100:=by
 unfold fN Cv.ahead;omega
theorem adD{y:Nat}(h:y<=10001):fN y<=3900000:=by unfold fN;omega
theorem aah(y:Nat)(h:y<=10001):Fn G2 T_ 284 [.int .i64 y] (.int .i64 ((fN y:Int)-146097)):=by
 refine ae hm Mn (by simp) ?_;obtain⟨p,l⟩:=A_ (y+399);have e0:(y:Int)+399=(p:Int):=by omega
 have d:(p:Int).tdiv 4=((p/4:Nat):Int):=MX p 4 (by omega);have e:(p:Int).tdiv 100=((p/100:Nat):Int):=MX p 100 (by omega);have f:(p:Int).tdiv 400=((p/400:Nat):Int):=MX p 400 (by omega);have g:fN y=p*365+p/4-p/100+p/400+3:=by unfold fN;rw[l]
 obtain⟨a,i⟩:=A_ (p/4);obtain⟨b,j⟩:=A_ (p/100);obtain⟨c,k⟩:=A_ (p/400);rw[i]at d;rw[j]at e;rw[k]at f;rw[i,j,k]at g;have m:b<=a/\a<=p/\c<=p:=by omega
 rw[g];simp[CM];simp(disch:=omega)[wl,e0,d,e,f];omega
theorem Mp(y w:Nat)(h:y<=10001)(a:w<=6):Fn G2 T_ 279 [.int .i64 y,.int .i64 w] (.int .i64 (G5 y w)):=by
 refine ae hm NX (by simp) ?_;have b:=aah y h;have d:=adD h;unfold G5;obtain⟨F,e⟩:=A_ (fN y);rw[e]at b d |-;have c:=Y1 F w (by omega) a;have f:=FU F w;obtain⟨K,g⟩:=A_ (wb F w);rw[g]at c f |-;have e1:(F:Int)-146097+146097=(F:Int):=by omega
 simp[FP];refine aa (xX w a) ?_;simp(disch:=omega)[wl];refine aa b ?_;simp(disch:=omega)[wl,e1];refine aa c ?_;simp(disch:=omega)[wl]
theorem Uu(y w:Nat)(c:w<=6):G5 y w+358<=G5 (y+1) w/\G5 (y+1) w<=G5 y w+373:=by
 have a:=FU (fN y) w;have b:=FU (fN (y+1)) w;have:fN y+365<=fN (y+1)/\fN (y+1)<=fN y+366:=by unfold fN;omega
 unfold G5;omega
def wks(y w:Nat):Nat:=(G5 (y+1) w-G5 y w).toNat/7
theorem adE(y w:Nat)(h:y<=10000)(c:w<=6):Fn G2 T_ 280 [.int .i64 y,.int .i64 w] (.int .i64 (wks y w:Nat)):=by
 refine ae hm NY (by simp) ?_;have g:=Mp y w (by omega) c;have e:=Mp (y+1) w (by omega) c;have i:=Uu y w c;have j:=adD (y:=y) (by omega);have k:=FU (fN y) w;have f:-146200<=G5 y w/\G5 y w<=4000000:=by unfold G5;omega
 unfold wks;obtain⟨a,l⟩:=A_ (G5 y w);obtain⟨b,m⟩:=A_ (G5 (y+1) w);rw[l]at g i f |-;rw[m]at e i |-;obtain⟨d,n⟩:∃d:Nat,b-a=(d:Int):=⟨(b-a).toNat,by omega⟩;have t:(d:Int).tdiv 7=((d/7:Nat):Int):=MX d 7 (by omega);have o:(b-a).toNat=d:=by omega
 rw[o];rw[show((y+1:Nat):Int)=(y:Int)+1 by omega]at e;simp[FR];refine aa (xX w c) ?_;simp(disch:=omega)[wl];refine aa e ?_;simp(disch:=omega)[wl];refine aa g ?_;simp(disch:=omega)[wl,n,t]
def nK(n w:Nat):Nat:=if G5 ((bn n).1+1) w<=n then 0 else if G5 (bn n).1 w<=n then 1 else 2
def FV(n w:Nat):Nat:=(bn n).1+1-nK n w
def Mq(n w:Nat):Nat:=((n:Int)-G5 (FV n w) w).toNat/7+1
theorem agi{n w:Nat}(h:n<=3652058)(m:w<=6):G5 ((bn n).1-1) w<=n:=by
 obtain⟨c,o,d,f,g,i,j⟩:=oS h;have a:=(FA c d f g i).1;rw[j]at a;have k:dO (bn n).1 1 1=Cv.ahead (bn n).1:=by simp[dO,ej,before]
 rw[k]at a;obtain⟨y,b⟩:=A_ ((bn n).1);rw[b]at a c |-;rcases Nat.lt_or_ge 1 y with q|q
 .have e:=adC (y:=y-1) (by omega);have e2:=jG (y:=y-1) (by omega);have l:y-1+1=y:=by omega
  rw[l]at e2;have:365<=fO (y-1):=by unfold fO;split<;>omega
  unfold G5;omega
 have:y=1:=by omega
 subst this;have:fN 0=145734:=rfl;show G5 0 w<=_;unfold G5;omega
theorem ajz{n w i:Nat}(h:i<nK n w):(n:Int)<G5 ((bn n).1+1-i) w:=by
 unfold nK at h;split at h
 .omega
 next a=>
 split at h
 .have:i=0:=by omega
  subst this;simpa using Int.not_le.1 a
 next b=>
 have:i=0\/i=1:=by omega
 rcases this with rfl|rfl
 .simpa using Int.not_le.1 a
 simpa using Int.not_le.1 b
theorem ajA{n w:Nat}(h:n<=3652058)(a:w<=6):G5 (FV n w) w<=n:=by
 have:=agi h a;unfold FV nK;split
 .simpa
 split
 .simpa
 rw[show(bn n).1+1-2=(bn n).1-1 by omega];exact this
theorem PN(n w:Nat)(g:n<=3652058)(j:w<=6):Fn G2 T_ 269 [.int .i64 n,.int .i64 w] (.tuple [.int .i64 (FV n w:Nat),.int .i64 (Mq n w:Nat)]):=by
 refine ae hm Ml (by simp) ?_;have k:=Jg n g;obtain⟨u,v,-⟩:=oS g;have l:nK n w<=2:=by unfold nK;split<;>(try split)<;>omega
 have c:=fun i=>ajz (n:=n) (w:=w) (i:=i)
 have b:=ajA g j;unfold Mq;unfold FV at b |-;obtain⟨⟨y,m,d⟩,z⟩:=A_ (bn n);rw[z]at k c b u v |-;simp only at k c b u v |-;obtain⟨K,A⟩:=A_ (nK n w);rw[A]at l c b |-;have B:=fun i (C:i<=2)=>Mp (y+1-i) w (by omega) j
 have H:=adD (y:=y+1-K) (by omega);have E:=FU (fN (y+1-K)) w;have o:-146200<=G5 (y+1-K) w:=by unfold G5;omega
 obtain⟨a,h⟩:=A_ (G5 (y+1-K) w);rw[h]at b o |-;obtain⟨D,p⟩:∃D:Nat,(n:Int)-a=(D:Int):=⟨((n:Int)-a).toNat,by omega⟩;have t:(D:Int).tdiv 7=((D/7:Nat):Int):=MX D 7 (by omega);have F:((n:Int)-a).toNat=D:=by omega
 have s:¬(n:Int)<a:=by omega
 rw[F];simp[CI];refine aa (xX w j) ?_;simp(disch:=omega)[wl];refine aa (AA n g) ?_;simp(disch:=omega)[wl];refine aa k ?_;simp(disch:=omega)[wl];refine bx hm [] (fun i:Nat=>[(6,.val (.int .i64 ((y+1-i:Nat):Int)))]) (fun _=>[]) (fun i=>i<=K) (fun i=>10-i) 0 (by omega) ?_ ?_
 .simp;exact bA
 rintro i C;have f:=B i (by omega);simp;refine aa f ?_;by_cases q:i=K
 .subst q;rw[h]at f |-;simp(disch:=omega)[wl,s];refine aa f ?_;simp(disch:=omega)[wl,p,t]
 have x:=c i (by omega);obtain⟨a,h⟩:=A_ (G5 (y+1-i) w);rw[h]at x |-;simp(disch:=omega)[wl,x];refine aj (i+1) (by omega) (by omega) ?_;have e:((y+1-i:Nat):Int)-1=((y+1-(i+1):Nat):Int):=by omega
 simp[e];exact bA
def PO(n w:Nat):Int:=(Mq n w:Int)-1-(wks (FV n w) w:Nat)
theorem Y2{n w:Nat}(h:n<=3652058)(a:w<=6):1<=Mq n w/\Mq n w<=600000:=by
 have b:=FU (fN (FV n w)) w;unfold Mq G5;omega
theorem agj(n w:Nat)(b:n<=3652058)(a:w<=6):Fn G2 T_ 270 [.int .i64 n,.int .i64 w] (.int .i64 (PO n w)):=by
 refine ae hm RJ (by simp) ?_;have c:=PN n w b a;have g:FV n w<=10000:=by have:=(oS b).2.1;unfold FV;omega
 have d:=adE (FV n w) w g a;have h:=Y2 b a;have f:wks (FV n w) w<=60:=by have:=Uu (FV n w) w a;unfold wks;omega
 unfold PO;obtain⟨Y,i⟩:=A_ (FV n w);obtain⟨N,j⟩:=A_ (Mq n w);rw[i]at c d f |-;rw[j]at c h |-;obtain⟨V,k⟩:=A_ (wks Y w);rw[k]at d f |-;have e:¬(N:Int)=0:=by omega
 simp[In];refine aa c ?_;simp(disch:=omega)[wl,e];refine aa d ?_;simp(disch:=omega)[wl]
theorem PP(f w:Nat)(a:f<=6)(b:w<=6):Fn G2 T_ 153 [.int .u8 f,.int .i64 w] (.bool true):=by
 refine ae hm H6 (by simp) ?_;simp[yt];simp(disch:=omega)[wl];omega
theorem Y3(f:Nat)(a:f<=3):Fn G2 T_ 154 [.int .u8 f] (.int .i64 (eJ f:Nat)):=by
 refine ae hm Mh (by simp) ?_;have:f=0\/f=1\/f=2\/f=3:=by omega
 simp[CA];rcases this with rfl|rfl|rfl|rfl<;>simp(disch:=omega)[wl,eJ]
theorem fn_Index(f w s:Nat)(J:f<=6)(v:w<=6)(L:s<=ff):Fn G2 T_ 151 [.int .u8 f,.int .i64 w,.int .i64 s] (.int .i64 (dK f w s:Nat)):=by
 refine ae hm IQ (by simp) ?_;unfold ff at L;obtain⟨d,h⟩:=A_ (s/86400);have b:d<=3652058:=by omega
 have i:(s:Int).tdiv 86400=(d:Int):=by rw[<-h];exact MX s 86400 (by omega)
 obtain⟨R,a⟩:=A_ (dK f w s);rw[a];simp[Aj];refine aa (PP f w J v) ?_;by_cases c:f<=3
 .have z:=Af f;have j:(s:Int).tdiv (eJ f:Nat)=((s/eJ f:Nat):Int):=MX s (eJ f) z;have e:dK f w s=s/eJ f:=by unfold dK;rw[if_pos c]
  have A:=Y3 f c;have B:s/eJ f<=s:=Nat.div_le_self _ _;rw[e]at a;obtain⟨u,l⟩:=A_ (eJ f);rw[l]at z j A B a;obtain⟨x,M⟩:=A_ (s/u);rw[M]at j B a;subst a;have n:¬(u:Int)=0:=by omega
  have o:¬(u:Int) = -1:=by omega
  simp(disch:=omega)[wl,c];refine aa A ?_;simp(disch:=omega)[wl,j,n,o];omega
 by_cases C:f=4
 .subst C;have D:=adB d w b v;have e:dK 4 w s=(d+7-w)/7:=by unfold dK;rw[if_neg (by omega),if_pos rfl,h]
  rw[e]at a;subst a;have p:wb d w=(d+49-w)%7:=rfl;have N:=FU d w;obtain⟨K,O⟩:=A_ (wb d w);rw[O]at D N p
  have P:((d:Int)-(K:Int)-(w:Int)).tdiv 7=(((d+7-w)/7:Nat):Int)-1:=by
   have e7:(d:Int)-K-w=7*((((d+7-w)/7:Nat):Int)-1):=by omega
   rw[e7,Int.mul_tdiv_cancel_left _ (by omega)]
  simp(disch:=omega)[wl,i];refine aa D ?_;simp(disch:=omega)[wl,P]
 have g:=Jg d b;obtain⟨E,F,H,I,-⟩:=oS b;have e:dK f w s=if f=5 then (bn d).1*12+(bn d).2.1-1 else (bn d).1:=by unfold dK;rw[if_neg c,if_neg C,h]
 rw[e]at a;obtain⟨⟨y,m,k⟩,Q⟩:=A_ (bn d);rw[Q]at g E F H I a;simp only at g E F H I a;subst a;have q:f=5\/f=6:=by omega
 rcases q with rfl|rfl
 .simp(disch:=omega)[wl,i];refine aa g ?_;simp(disch:=omega)[wl];omega
 simp(disch:=omega)[wl,i];refine aa g ?_;simp(disch:=omega)[wl]
theorem Y4(f w:Nat)(a:f<=6)(b:w<=6):Fn G2 T_ 103 [.int .u8 f,.int .i64 w] (.int .i64 (dZ f w:Nat)):=by
 refine ae hm Me (by simp) ?_;have h:=fn_Index f w ff a b (Nat.le_refl _);simp[Ct];refine aa h ?_;simp[dZ]
theorem RK(a b:Int)(f:-1000<=a)(c:a<=4000000)(g:-1000<=b)(e:b<=4000000):Fn G2 T_ 155 [.int .i64 a,.int .i64 b] (.tuple [.int .i64 (max a 0*86400),.int .i64 (min b 3652059*86400)]):=by
 refine ae hm Mi (by simp) ?_;simp[CC];simp(disch:=omega)[wl]
theorem RL{f w:Nat}(b:f<=6)(c:w<=6):(f<=3->dZ f w*eJ f<=ff/\(dZ f w+1)*eJ f<=ff+1)/\(f=4->7*dZ f w+w<=3652065)/\(f=5->dZ f w<=119999)/\(f=6->dZ f w<=9999):=by
 have a:bn 3652058=(9999,12,31):=rfl;refine⟨fun h=>?_,fun h=>?_,fun h=>?_,fun h=>?_⟩
 .have:f=0\/f=1\/f=2\/f=3:=by omega
  rcases this with rfl|rfl|rfl|rfl<;>simp[dZ,dK,eJ,ff]
 .subst h;unfold dZ dK ff;rw[if_neg (by omega),if_pos rfl];omega
 .subst h;unfold dZ dK ff;rw[if_neg (by omega),if_neg (by omega),if_pos rfl];show(bn 3652058).1*12+(bn 3652058).2.1-1<=_;rw[a];decide
 subst h;unfold dZ dK ff;rw[if_neg (by omega),if_neg (by omega),if_neg (by omega)];show(bn 3652058).1<=_;rw[a];decide
theorem PQ(f w:Nat):(f=5->12<=dK f w 0)/\(f=6->1<=dK f w 0):=by
 have a:bn 0=(1,1,1):=rfl;refine⟨fun h=>?_,fun h=>?_⟩
 .subst h;unfold dK;rw[if_neg (by omega),if_neg (by omega),if_pos rfl,Nat.zero_div,a];decide
 subst h;unfold dK;rw[if_neg (by omega),if_neg (by omega),if_neg (by omega),Nat.zero_div,a];decide
theorem Mr(f w i:Nat)(q:f<=6)(v:w<=6)(h0:dK f w 0<=i)(V:i<=dZ f w):Fn G2 T_ 104 [.int .u8 f,.int .i64 w,.int .i64 i] (.tuple [.int .i64 ((iF f w i).1:Nat),.int .i64 ((iF f w i).2:Nat)]):=by
 refine ae hm FI (by simp) ?_;have W:=fn_Index f w 0 q v (by unfold ff;omega);have X:=Y4 f w q v;obtain⟨Y,E,F,H⟩:=RL q v;obtain⟨I,J⟩:=PQ f w;obtain⟨A,hA⟩:=A_ (dK f w 0);obtain⟨L,K⟩:=A_ (dZ f w);rw[hA]at W h0 I J;rw[K]at X V Y E F H;have n1:¬(i:Int)<(A:Int):=by omega
 have z:¬(L:Int)<(i:Int):=by omega
 obtain⟨⟨P,Q⟩,a⟩:=A_ (iF f w i);rw[a];simp only;simp[wL];refine aa (PP f w q v) ?_;simp(disch:=omega)[wl];refine aa W ?_;simp(disch:=omega)[wl,n1];refine aa X ?_;by_cases l:f<=3
 .have e:iF f w i=(i*eJ f,(i+1)*eJ f):=by unfold iF;rw[if_pos l]
  rw[e]at a;have Z:=Y3 f l;have hb:=(Y l).2;have hu:=Af f;have N:eJ f<=86400:=by unfold eJ;split<;>(try split)<;>(try split)<;>omega
  have m1:i*eJ f<=L*eJ f:=Nat.mul_le_mul_right _ V;have m2:(i+1)*eJ f<=(L+1)*eJ f:=Nat.mul_le_mul_right _ (by omega);unfold ff at hb;obtain⟨u,O⟩:=A_ (eJ f);rw[O]at Z hu hb m1 m2 N a;obtain⟨x,B⟩:=A_ (i*u);obtain⟨y,j⟩:=A_ ((i+1)*u);have e1:(i:Int)*(u:Int)=(x:Int):=by rw[<-B];simp
  have e2:((i:Int)+1)*(u:Int)=(y:Int):=by rw[<-j];simp
  have a':y=x+u:=by rw[<-B,<-j,Nat.add_mul,Nat.one_mul]
  have b':x<=400000000000/\y<=400000000000:=by rw[j]at m2;omega
  have hi:i<=x:=by rw[<-B];exact Nat.le_mul_of_pos_right _ hu
  rw[B,j]at a;obtain⟨rfl,rfl⟩:=Prod.mk.inj a;simp(disch:=omega)[wl,z,l];refine aa Z ?_;simp(disch:=omega)[wl,e1,e2]
 have e:iF f w i=((M7 f w i).1*86400,min (M7 f w i).2 3652059*86400):=by unfold iF;rw[if_neg l]
 rw[e]at a;unfold M7 at a;by_cases h4:f=4
 .subst h4;have E:=E rfl;have h:=RK ((i:Int)*7-7+w) ((i:Int)*7-7+w+7) (by omega) (by omega) (by omega) (by omega);have e1:((i:Int)-1)*7+(w:Int)=(i:Int)*7-7+w:=by omega
  rw[if_pos rfl]at a;obtain⟨rfl,rfl⟩:=Prod.mk.inj a;have e2:max ((i:Int)*7-7+w) 0*86400=((7*i+w-7:Nat):Int)*86400:=by omega
  have n:min ((i:Int)*7-7+w+7) 3652059*86400=((min (7*i+w) 3652059*86400:Nat):Int):=by omega
  have e4:((7*i+w-7:Nat):Int)*86400=(((7*i+w-7)*86400:Nat):Int):=by omega
  rw[e2,n,e4]at h;simp(disch:=omega)[wl,z,e1];refine aa h ?_;simp(disch:=omega)[wl]
 have c:=Ut i (by omega);rw[if_neg h4]at a;have R:f=5\/f=6:=by omega
 rcases R with rfl|rfl
 .have F:=F rfl;have I:=I rfl;have td:(i:Int).tdiv 12=((i/12:Nat):Int):=MX i 12 (by omega);have o:(i:Int).tmod 12=((i%12:Nat):Int):=tm4 i 12 (by omega);obtain⟨y,j⟩:=A_ (i/12);obtain⟨m,p⟩:=A_ (i%12);rw[j]at td;rw[p]at o;have c':1<=y/\y<=9999/\m<=11:=by omega
  have g:=Wi y (m+1) (by omega) (by omega);have C:re y (m+1)=jF y (m+1):=by unfold re;rw[if_pos (by omega)]
  have k:28<=jF y (m+1)/\jF y (m+1)<=31:=by
   unfold jF fO
   repeat' split
   all_goals omega
  have b:=Wj y (m+1) 1 (by omega) (by omega) (by omega)
  have eD:R4 y (m+1) 1=(dO y (m+1) 1,0):=by
   unfold R4;rw[C,if_neg (by omega)]
  rw[eD]at b;rw[C]at g;have N7:=GH (y:=y) (m:=m+1) (d:=1) (by omega) (by omega) (by omega) (by omega) (by omega) (by omega);rw[if_pos rfl,j,p]at a;obtain⟨D,S⟩:=A_ (dO y (m+1) 1);obtain⟨M,U⟩:=A_ (jF y (m+1));rw[S]at b N7 a;rw[U]at g k a;obtain⟨rfl,rfl⟩:=Prod.mk.inj a;have h:=RK D ((D:Int)+M) (by omega) (by omega) (by omega) (by omega);have e2:max (D:Int) 0*86400=((D*86400:Nat):Int):=by omega
  have n:min ((D:Int)+M) 3652059*86400=((min (D+M) 3652059*86400:Nat):Int):=by omega
  rw[e2,n]at h;rw[show((m+1:Nat):Int)=(m:Int)+1 by omega]at g b;simp(disch:=omega)[wl,z];refine aa c ?_;simp(disch:=omega)[wl,td,o];refine aa g ?_;simp(disch:=omega)[wl];refine aa b ?_;simp(disch:=omega)[wl,I0];refine aa h ?_;simp(disch:=omega)[wl]
 have H:=H rfl;have J:=J rfl;have C:PM i=fO i:=by unfold PM;rw[if_pos (by omega)]
 have k:365<=fO i/\fO i<=366:=by unfold fO;split<;>omega
 have b:=Wj i 1 1 (by omega) (by omega) (by omega)
 have eD:R4 i 1 1=(dO i 1 1,0):=by
  unfold R4;rw[if_neg (by unfold re jF;rw[if_pos (by omega)];simp)]
 rw[eD]at b;rw[C]at c;have N7:=GH (y:=i) (m:=1) (d:=1) (by omega) (by omega) (by omega) (by omega) (by omega) (by unfold jF;simp);rw[if_neg (by omega)]at a;obtain⟨D,S⟩:=A_ (dO i 1 1);obtain⟨M,U⟩:=A_ (fO i);rw[S]at b N7 a;rw[U]at c k a;obtain⟨rfl,rfl⟩:=Prod.mk.inj a;have h:=RK D ((D:Int)+M) (by omega) (by omega) (by omega) (by omega);have e2:max (D:Int) 0*86400=((D*86400:Nat):Int):=by omega
 have n:min ((D:Int)+M) 3652059*86400=((min (D+M) 3652059*86400:Nat):Int):=by omega
 rw[e2,n]at h;simp(disch:=omega)[wl,z];refine aa c ?_;simp(disch:=omega)[wl];refine aa b ?_;simp(disch:=omega)[wl,I0];refine aa h ?_;simp(disch:=omega)[wl]
theorem Uv{p k:Nat}(c:1<=k):(p+k-1)/k*k=if p%k=0 then p else p+(k-p%k):=by
 have e:=Nat.div_add_mod p k;have l:=Nat.mod_lt p (show 0<k by omega);obtain⟨q,b⟩:=A_ (p/k);obtain⟨r,a⟩:=A_ (p%k);rw[b,a]at e;rw[a]at l |-;split
 .have e1:p+k-1=k*q+(k-1):=by omega
  rw[e1,Nat.mul_add_div (by omega),Nat.div_eq_of_lt (by omega),Nat.add_zero,Nat.mul_comm];omega
 have e1:p+k-1=k*(q+1)+(r-1):=by rw[Nat.mul_add,Nat.mul_one];omega
 rw[e1,Nat.mul_add_div (by omega),Nat.div_eq_of_lt (by omega),Nat.add_zero,Nat.mul_comm,Nat.mul_add,Nat.mul_one];omega
theorem agk(a k b:Nat)(e:1<=k)(g:k<=1000)(h:a<=ff+1)(j:b<=ff+1):Fn G2 T_ 152 [.int .i64 a,.int .i64 k,.int .i64 b] (.int .i64 (wJ a k b:Nat)):=by
 refine ae hm Mg (by simp) ?_;unfold ff at h j;obtain⟨R,c⟩:=A_ (wJ a k b);rw[c];unfold wJ at c;simp[Cy];simp(disch:=omega)[wl];refine bx hm [] (fun i:Nat=>[(20,.val (.int .i64 i))]) (fun _=>[]) (fun i=>i<=2) (fun i=>10-i) 0 (by omega) ?_ ?_
 .simp;exact bA
 rintro i o;have:i=0\/i=1\/i=2:=by omega
 rcases this with rfl|rfl|rfl
 .simp;simp(disch:=omega)[wl];refine aj 1 (by omega) (by omega) ?_;simp;exact bA
 .simp;simp(disch:=omega)[wl];refine aj 2 (by omega) (by omega) ?_;simp;exact bA
 simp;by_cases q:a<b
 .rw[if_pos q]at c;obtain⟨p,u⟩:=A_ (b-a);have e1:(b:Int)-(a:Int)=(p:Int):=by omega
  have m:=Uv (p:=p) e;have e2:b-a+k-1=p+k-1:=by omega
  rw[e2,m]at c;have tm:(p:Int).tmod (k:Int)=((p%k:Nat):Int):=tm4 p k (by omega);have l:=Nat.mod_lt p (show 0<k by omega);obtain⟨r,n⟩:=A_ (p%k);rw[n]at tm c l;by_cases d:r=0
  .rw[if_pos d]at c;simp(disch:=omega)[wl,e1,tm,d];omega
  rw[if_neg d]at c;simp(disch:=omega)[wl,e1,tm,d];omega
 rw[if_neg q]at c;simp(disch:=omega)[wl];omega
open Go.Vs.Nu
structure DF where
 d:Nat
 t:Nat
 k:Nat
 w:Nat
 im:Nat
 iy:Nat
 p:Nat
 n0:Int
 n1:Int
 n2:Int
 n3:Int
def DF.cells(x:DF):List IV:=[.int .i64 x.d,.int .i64 x.t,.int .i64 x.k,.int .i64 x.w,.int .i64 x.im,.int .i64 x.iy,.int .i64 x.p,.int .i64 x.n0,.int .i64 x.n1,.int .i64 x.n2,.int .i64 x.n3]
def DF.iv(x:DF):IV:=.agg x.cells
def ajB(n y m k p:Nat):DF:=⟨n,m,k,n%7,jF y m,fO y,p,(k-1)/7+1,-((jF y m-k)/7+1:Nat),(p-1)/7+1,-((fO y-p)/7+1:Nat)⟩
def Y5(n:Nat):DF:=ajB n (bn n).1 (bn n).2.1 (bn n).2.2 ((fP n).2+1)
structure DFit(x:DF):Prop where
 d:x.d<=3652058
 t:x.t<=12
 k:x.k<=31
 im:x.im<=31
 iy:x.iy<=366
 p:x.p<=366
theorem FW(a:Nat)(h:a<=1000):Fn G2 T_ 267 [.int .i64 a] (.int .i64 (a/7+1:Nat)):=by
 refine ae hm IX (by simp) ?_;have t:(a:Int).tdiv 7=((a/7:Nat):Int):=MX a 7 (by omega);simp[Aw];simp(disch:=omega)[wl,t]
theorem Uw{n:Nat}(h:n<=3652058):(fP n).2+1<=fO (bn n).1/\(bn n).1=(fP n).1:=by
 obtain⟨y,t,b,d,a,c⟩:=GG n 9999 (by have e:Cv.ahead (9999+1)=3652059:=rfl;omega);have e:=qA b a;rw[<-c]at e;have:(bn n).1=(fP n).1:=rfl;rw[this,e];exact⟨a,rfl⟩
theorem aiz{n:Nat}(h:n<=3652058):DFit (Y5 n):=by
 obtain⟨c,d,e,a,f,g,i⟩:=oS h;have j:=Uw h;have hm:=Jf (bn n).1 (bn n).2.1;have b:fO (bn n).1<=366:=by unfold fO;split<;>omega
 refine⟨h,a,?_,hm,b,?_⟩
 .show(bn n).2.2<=31;omega
 show(fP n).2+1<=366;omega
theorem Ux(n:Nat)(h:n<=3652058):Fn G2 T_ 251 [.int .i64 n] (.tuple [(Y5 n).iv,.bool true]):=by
 refine ae hm IU (by simp) ?_;have e:=Jg n h;have A:=AA n h;have o:=fn_Place n h;obtain⟨q,s,u,v,w,f,N⟩:=oS h;have d:=(Uw h).1;have a:=Jf (bn n).1 (bn n).2.1;have g:fO (bn n).1<=366:=by unfold fO;split<;>omega
 unfold Y5;obtain⟨⟨y,m,k⟩,B⟩:=A_ (bn n);rw[B]at e q s u v w f d a g |-;simp only at e q s u v w f d a g |-;obtain⟨p,i⟩:=A_ ((fP n).2+1);have C:1<=p:=by omega
 rw[i]at o d |-;have j:=Wi y m (by omega) (by omega);have D:re y m=jF y m:=by unfold re;rw[if_pos (by omega)]
 have c:=Ut y (by omega);have eD:PM y=fO y:=by unfold PM;rw[if_pos (by omega)]
 rw[D]at j;rw[eD]at c;unfold ajB DF.iv DF.cells;obtain⟨M,E⟩:=A_ (jF y m);obtain⟨Y,F⟩:=A_ (fO y);rw[E]at j f a |-;rw[F]at c d g |-;have w1:=FW (k-1) (by omega);have l:=FW (M-k) (by omega);have w3:=FW (p-1) (by omega);have w4:=FW (Y-p) (by omega);rw[show((k-1:Nat):Int)=(k:Int)-1 by omega]at w1;rw[show((M-k:Nat):Int)=(M:Int)-k by omega]at l;rw[show((p-1:Nat):Int)=(p:Int)-1 by omega]at w3;rw[show((Y-p:Nat):Int)=(Y:Int)-p by omega]at w4;simp only;obtain⟨x,e1⟩:=A_ ((k-1)/7+1);obtain⟨H,e2⟩:=A_ ((M-k)/7+1);obtain⟨z,I⟩:=A_ ((p-1)/7+1);obtain⟨J,e4⟩:=A_ ((Y-p)/7+1);have K:((k:Int)-1)/7+1=(x:Int):=by omega
 have L:((p:Int)-1)/7+1=(z:Int):=by omega
 rw[e1]at w1;rw[e2]at l |-;rw[I]at w3;rw[e4]at w4 |-;rw[K,L];have b:x<=100/\H<=100/\z<=100/\J<=100:=by omega
 simp[Ar];refine aa e ?_;simp(disch:=omega)[wl];refine aa A ?_;simp(disch:=omega)[wl];refine aa j ?_;simp(disch:=omega)[wl];refine aa c ?_;simp(disch:=omega)[wl];refine aa o ?_;simp(disch:=omega)[wl];refine aa w1 ?_;simp(disch:=omega)[wl];refine aa l ?_;simp(disch:=omega)[wl];refine aa w3 ?_;simp(disch:=omega)[wl];refine aa w4 ?_;simp(disch:=omega)[wl];rfl
def hasL(l:List Int)(a b:Int):Bool:=decide (l=[]\/a∈l\/b∈l)
theorem Ju(l:List Int)(a b:Int)(d:l.length<1000000):Fn G2 T_ 268 [.slice (is l),.int .i64 a,.int .i64 b] (.bool (hasL l a b)):=by
 refine ae hm NW (by simp) ?_;have e:=up (fn_Has l a d);have f:=up (fn_Has l b d);unfold hasL;simp[FN,is_len];cases l with
 |nil=>simp(disch:=omega)[wl,is_len]
 |cons x l=>
  simp(disch:=omega)[wl,is_len];refine aa e ?_;by_cases c:a∈x::l
  .simp(disch:=omega)[wl,c]
  simp(disch:=omega)[wl,c];refine aa f ?_;simp(disch:=omega)[wl,c]
def onB(x:Dn)(w:Nat)(a b:Int):Bool:=decide (x.2=w/\(x.1=0\/x.1=a\/x.1=b))
def i1(n:Int):IV:=.int .i64 n
theorem PR(x:Dn)(F:DF)(a b:Int):Fn G2 T_ 281 [.agg [.int .i64 x.1,.int .i64 x.2],.ref F.cells,.ref [.slice [[.int .i64 a],[.int .i64 b]]]] (.bool (onB x F.w a b)):=by
 refine ae hm FT (by simp) ?_;obtain⟨n,d⟩:=x;unfold onB DF.cells;simp only;simp[wO];by_cases c:d=F.w
 .by_cases e:n=0
  .simp(disch:=omega)[wl,c,e]
  by_cases f:n=a
  .simp(disch:=omega)[wl,c,e,f]
  by_cases g:n=b
  .simp(disch:=omega)[wl,c,e,f,g]
  simp(disch:=omega)[wl,c,e,f,g]
 simp(disch:=omega)[wl,c]
def ixP(l:List Dn)(p:Dn->Bool):Int:=if l.findIdx p<l.length then (l.findIdx p:Nat)else -1
theorem agl(l:List Dn)(p:Dn->Bool):0<=ixP l p↔l.any p=true:=by
 have a:=List.findIdx_lt_length (p:=p) (xs:=l);rw[List.any_eq_true];unfold ixP;by_cases h:l.findIdx p<l.length
 .rw[if_pos h];exact⟨fun _=>a.1 h,fun _=>by omega⟩
 rw[if_neg h];exact⟨fun b=>by omega,fun b=>absurd (a.2 b) h⟩
theorem NZ(l:List Dn)(k:Nat)(a:List IV)(p:Dn->Bool)(q:l.length<1000000)(n:∀x∈l,Fn G2 T_ k (.agg [.int .i64 x.1,.int .i64 x.2]::a) (.bool (p x))):Fn G2 T_ 219 [.slice (B4 l),.fn k a] (.int .i64 (ixP l p)):=by
 refine ae hm kU (by simp) ?_;have o:=List.findIdx_le_length (p:=p) (xs:=l);simp[gX,aJ];refine bx hm [] (fun i:Nat=>[(8,.val (.int .i64 i))]) (fun _=>[]) (fun i=>i<=l.findIdx p) (fun i=>l.length-i) 0 (by omega) ?_ ?_
 .simp;exact bA
 intro i s;simp[aJ];by_cases h:i<l.length
 .obtain⟨x,b⟩:=A_ (l[i]);have m:=AO h b;have c:=n x (b▸List.getElem_mem h);by_cases d:p x=true
  .have e:l.findIdx p=i:=by
    have:¬i<l.findIdx p:=fun f=>by
     have:=List.not_of_lt_findIdx f;rw[b]at this;simp[d]at this
    omega
   have g:ixP l p=i:=by unfold ixP;rw[e,if_pos h]
   rw[g];rw[d]at c;simp(disch:=omega)[wl,aJ,m];refine aa c ?_;simp(disch:=omega)[wl]
  have e:l.findIdx p≠i:=fun e=>by
   have:=List.findIdx_getElem (p:=p) (xs:=l) (w:=by omega);simp only[e,b]at this;exact d this
  have j:p x=false:=by simpa using d
  rw[j]at c;simp(disch:=omega)[wl,aJ,m];refine aa c ?_;simp(disch:=omega)[wl];refine aj (i+1) (by omega) (by omega) ?_;simp;exact bA
 have g:ixP l p = -1:=by unfold ixP;rw[if_neg (by omega)]
 rw[g];simp(disch:=omega)[wl,aJ]
theorem wQ(l:List Dn)(b:Nat)(a:List IV)(p:Dn->Bool)(c:l.length<1000000)(d:∀x∈l,Fn G2 T_ b (.agg [.int .i64 x.1,.int .i64 x.2]::a) (.bool (p x))):Fn G2 T_ 172 [.slice (B4 l),.fn b a] (.bool (l.any p)):=by
 refine ae hm jw (by simp) ?_;have e:=NZ l b a p c d
 have:l.any p=decide (0<=ixP l p):=by
  rw[Bool.eq_iff_iff,decide_eq_true_eq];exact(agl l p).symm
 rw[this];simp[fB];refine aa e ?_;simp
def Ms(r:Ru)(F:DF):Bool:=decide (r.l7=[])||r.l7.any fun x=>if r.f=5\/r.l11≠[]then onB x F.w F.n0 F.n1 else onB x F.w F.n2 F.n3
theorem adF(r:Ru)(F:DF)(n:r.l7.length<1000)(m:r.l11.length<1000):Fn G2 T_ 271 [r.iv,F.iv] (.bool (Ms r F)):=by
 refine ae hm IY (by simp) ?_;have k:=wQ r.l7 281 [.ref F.cells,.ref [.slice [[.int .i64 F.n0],[.int .i64 F.n1]]]] _ (by omega) (fun x _=>PR x F F.n0 F.n1);have l:=wQ r.l7 281 [.ref F.cells,.ref [.slice [[.int .i64 F.n2],[.int .i64 F.n3]]]] _ (by omega) (fun x _=>PR x F F.n2 F.n3);obtain⟨R,a⟩:=A_ (Ms r F);rw[a];unfold Ms at a;obtain⟨o,f⟩:∃R,(r.l7.any fun x=>onB x F.w F.n0 F.n1)=R:=⟨_,rfl⟩;obtain⟨p,i⟩:∃R,(r.l7.any fun x=>onB x F.w F.n2 F.n3)=R:=⟨_,rfl⟩;rw[f]at k;rw[i]at l;unfold DF.cells at k l;unfold DF.iv DF.cells Ru.iv cells;simp[Ay,is_len,aJ];have j:r.l11=[]↔¬(0<r.l11.length):=by rw[List.length_pos_iff];simp
 by_cases d:r.f=5
 .simp only[d,true_or,if_true,f]at a;by_cases b:r.l7=[]
  .simp[b]at a;subst a;simp(disch:=omega)[wl,d,b,aJ,is_len]
  simp[b]at a;subst a;have c:¬r.l7.length=0:=fun h=>b (List.length_eq_zero_iff.1 h)
  simp(disch:=omega)[wl,d,c,aJ,is_len];refine aa k ?_;simp(disch:=omega)[wl]
 by_cases g:0<r.l11.length
 .have e:¬r.l11=[]:=fun h=>j.1 h g
  simp only[d,e,ne_eq,not_false_eq_true,or_true,if_true,f]at a;by_cases b:r.l7=[]
  .simp[b]at a;subst a;simp(disch:=omega)[wl,d,g,b,aJ,is_len]
  simp[b]at a;subst a;have c:¬r.l7.length=0:=fun h=>b (List.length_eq_zero_iff.1 h)
  simp(disch:=omega)[wl,d,g,c,aJ,is_len];refine aa k ?_;simp(disch:=omega)[wl]
 have e:r.l11=[]:=j.2 g;simp only[d,e,ne_eq,not_true_eq_false,or_self,if_false,i]at a;by_cases b:r.l7=[]
 .simp[b]at a;subst a;simp(disch:=omega)[wl,d,g,b,aJ,is_len]
 simp[b]at a;subst a;have c:¬r.l7.length=0:=fun h=>b (List.length_eq_zero_iff.1 h)
 simp(disch:=omega)[wl,d,g,c,aJ,is_len];refine aa l ?_;simp(disch:=omega)[wl]
def Uy(r:Ru)(S F:DF):Bool:=
 if r.f<4\/0<r.l9.length+r.l8.length+r.l7.length then true
 else if r.f=4\/0<r.l10.length then decide (F.w=S.w)
 else if r.f=5\/0<r.l11.length then decide (F.k=S.k)
 else decide (F.k=S.k/\F.t=S.t)
theorem RM(r:Ru)(S F:DF)(j:r.l7.length<1000/\r.l8.length<1000/\r.l9.length<1000/\r.l10.length<1000/\r.l11.length<1000)(l:0<=r.f/\r.f<=6):Fn G2 T_ 272 [r.iv,S.iv,F.iv] (.bool (Uy r S F)):=by
 refine ae hm B9 (by simp) ?_;obtain⟨R,a⟩:=A_ (Uy r S F);rw[a];unfold Uy at a;unfold DF.iv DF.cells Ru.iv cells;obtain⟨m,n,o,p,q⟩:=j;have e1:(r.l9.length:Int)+r.l8.length+r.l7.length=((r.l9.length+r.l8.length+r.l7.length:Nat):Int):=by omega
 simp[uh,is_len,aJ];by_cases c:r.f<4
 .rw[if_pos (.inl c)]at a;subst a;simp(disch:=omega)[wl,c]
 by_cases k:0<r.l9.length+r.l8.length+r.l7.length
 .rw[if_pos (.inr k)]at a;subst a;simp(disch:=omega)[wl,c,is_len,aJ]
 rw[if_neg (by omega)]at a;by_cases d:r.f=4
 .rw[if_pos (.inl d)]at a;by_cases b:F.w=S.w
  .rw[decide_eq_true b]at a;subst a;simp(disch:=omega)[wl,c,d,b,is_len,aJ]
  rw[decide_eq_false b]at a;subst a;simp(disch:=omega)[wl,c,d,b,is_len,aJ]
  all_goals omega
 by_cases e:0<r.l10.length
 .rw[if_pos (.inr e)]at a;by_cases b:F.w=S.w
  .rw[decide_eq_true b]at a;subst a;simp(disch:=omega)[wl,c,d,b,e,is_len,aJ]
  rw[decide_eq_false b]at a;subst a;simp(disch:=omega)[wl,c,d,b,e,is_len,aJ]
  all_goals omega
 rw[if_neg (fun h=>h.elim d e)]at a;by_cases f:r.f=5
 .rw[if_pos (.inl f)]at a;by_cases b:F.k=S.k
  .rw[decide_eq_true b]at a;subst a;simp(disch:=omega)[wl,c,d,b,e,f,is_len,aJ]
  rw[decide_eq_false b]at a;subst a;simp(disch:=omega)[wl,c,d,b,e,f,is_len,aJ]
  all_goals omega
 by_cases g:0<r.l11.length
 .rw[if_pos (.inr g)]at a;by_cases b:F.k=S.k
  .rw[decide_eq_true b]at a;subst a;simp(disch:=omega)[wl,c,d,b,e,f,g,is_len,aJ]
  rw[decide_eq_false b]at a;subst a;simp(disch:=omega)[wl,c,d,b,e,f,g,is_len,aJ]
  all_goals omega
 rw[if_neg (fun h=>h.elim f g)]at a;by_cases b:F.k=S.k
 .by_cases i:F.t=S.t
  .rw[decide_eq_true ⟨b,i⟩]at a;subst a;simp(disch:=omega)[wl,c,d,b,e,f,g,i,is_len,aJ]
  rw[decide_eq_false (fun h=>i h.2)]at a;subst a;simp(disch:=omega)[wl,c,d,b,e,f,g,i,is_len,aJ]
  all_goals omega
 rw[decide_eq_false (fun h=>b h.1)]at a;subst a;simp(disch:=omega)[wl,c,d,b,e,f,g,is_len,aJ]
 all_goals omega
def Ip(r:Ru)(S F:DF):Bool:=
 hasL r.l11 F.t F.t&&(hasL r.l9 F.p (F.p-F.iy-1)&&(hasL r.l8 F.k (F.k-F.im-1)&&((decide (r.l10.length=0)||hasL r.l10 (Mq F.d r.w.toNat:Nat) (PO F.d r.w.toNat))&&(Ms r F&&Uy r S F))))
structure RuS(r:Ru):Prop where
 f:0<=r.f/\r.f<=6
 w:0<=r.w/\r.w<=6
 l4:r.l4.length<=12
 l5:r.l5.length<=12
 l6:r.l6.length<=12
 l7:r.l7.length<=12
 l8:r.l8.length<=12
 l9:r.l9.length<=12
 l10:r.l10.length<=12
 l11:r.l11.length<=12
 l12:r.l12.length<=12
theorem agm(r:Ru)(S F:DF)(v:RuS r)(x:DFit F):Fn G2 T_ 252 [r.iv,S.iv,F.iv] (.bool (Ip r S F)):=by
 refine ae hm Mk (by simp) ?_;obtain⟨e,N,O,y,z,P⟩:=x;obtain⟨A,rw',Q,U,V,W,X,Y,B,C,D⟩:=v;obtain⟨w,g⟩:∃w:Nat,r.w=(w:Int):=⟨r.w.toNat,by omega⟩;have b:w<=6:=by omega
 have h:=Ju r.l11 F.t F.t (by omega);have i:=Ju r.l9 F.p ((F.p:Int)-F.iy-1) (by omega);have j:=Ju r.l8 F.k ((F.k:Int)-F.im-1) (by omega);have l:=PN F.d w e b;have m:=agj F.d w e b;have f:=Ju r.l10 (Mq F.d w:Nat) (PO F.d w) (by omega);have c:=adF r F (by omega) (by omega);have d:=RM r S F ⟨by omega,by omega,by omega,by omega,by omega⟩ A;have E:=Y2 e b;obtain⟨R,a⟩:=A_ (Ip r S F);rw[a];unfold Ip at a;rw[g,Int.toNat_natCast]at a;obtain⟨H,e1⟩:=A_ (hasL r.l11 F.t F.t);obtain⟨I,e2⟩:=A_ (hasL r.l9 F.p ((F.p:Int)-F.iy-1));obtain⟨J,n⟩:=A_ (hasL r.l8 F.k ((F.k:Int)-F.im-1));obtain⟨K,o⟩:=A_ (hasL r.l10 (Mq F.d w:Nat) (PO F.d w));obtain⟨p,e7⟩:=A_ (Ms r F);obtain⟨Z,e8⟩:=A_ (Uy r S F);rw[e1]at h;rw[e2]at i;rw[n]at j;rw[o]at f;rw[e7]at c;rw[e8]at d;rw[e1,e2,n,o,e7,e8]at a;obtain⟨Nn,s⟩:=A_ (Mq F.d w);obtain⟨Bb,u⟩:=A_ (PO F.d w);obtain⟨Yy,L⟩:=A_ (FV F.d w);rw[s,L]at l;rw[u]at m;rw[s,u]at f;unfold Ru.iv cells DF.iv DF.cells at c d;unfold DF.iv DF.cells Ru.iv cells;rw[g]at c d |-;simp[CG,is_len,aJ];refine aa h ?_;cases H with
 |false=>simp at a;subst a;simp(disch:=omega)[wl]
 |true=>
  simp(disch:=omega)[wl];refine aa i ?_;cases I with
  |false=>simp at a;subst a;simp(disch:=omega)[wl]
  |true=>
   simp(disch:=omega)[wl];refine aa j ?_;cases J with
   |false=>simp at a;subst a;simp(disch:=omega)[wl]
   |true=>
    by_cases q:r.l10.length=0
    .simp only[q,decide_true,Bool.true_or,Bool.true_and]at a;simp(disch:=omega)[wl,is_len,q];refine aa c ?_;cases p with
     |false=>simp at a;subst a;simp(disch:=omega)[wl]
     |true=>
      simp at a;subst a;simp(disch:=omega)[wl];refine aa d ?_;simp(disch:=omega)[wl]
    have M:0<r.l10.length:=by omega
    simp only[q,decide_false,Bool.false_or,Bool.true_and]at a;simp(disch:=omega)[wl,is_len,M];refine aa l ?_;simp(disch:=omega)[wl];refine aa m ?_;simp(disch:=omega)[wl];refine aa f ?_;cases K with
    |false=>
     simp at a;subst a;simp(disch:=omega)[wl];rfl
    |true=>
     simp only[Bool.true_and]at a;simp(disch:=omega)[wl];refine⟨rfl,?_⟩;refine aa c ?_;cases p with
     |false=>simp at a;subst a;simp(disch:=omega)[wl]
     |true=>
      simp at a;subst a;simp(disch:=omega)[wl];refine aa d ?_;simp(disch:=omega)[wl]
def uX(r:Ru)(s a n:Nat):List Nat:=((List.range n).map (a + ·)).filter fun d=>Ip r (Y5 s) (Y5 d)
theorem aai(r:Ru)(s a n:Nat):uX r s a (n+1)=uX r s a n++if Ip r (Y5 s) (Y5 (a+n))=true then [a+n]else []:=by
 unfold uX;rw[List.range_succ,List.map_append,List.filter_append];simp only[List.map_cons,List.map_nil,List.filter_cons,List.filter_nil]
theorem Uz(r:Ru)(s a n:Nat):(uX r s a n).length<=n:=by
 unfold uX;have:=List.length_filter_le (fun d=>Ip r (Y5 s) (Y5 d)) ((List.range n).map (a + ·));simpa using this
def isN(l:List Nat):List (List IV):=is (l.map fun(n:Nat)=>(n:Int))
theorem adH(l:List Nat)(n:Nat):isN (l++[n])=isN l++[[.int .i64 n]]:=by simp[isN,is]
theorem sx(l:List Nat):(isN l).length=l.length:=by simp[isN,is]
@[simp] def DF.svs(x:DF):List SV:=[.val (.int .i64 x.d),.val (.int .i64 x.t),.val (.int .i64 x.k),.val (.int .i64 x.w),.val (.int .i64 x.im),.val (.int .i64 x.iy),.val (.int .i64 x.p),.val (.int .i64 x.n0),.val (.int .i64 x.n1),.val (.int .i64 x.n2),.val (.int .i64 x.n3)]
theorem aiA(r:Ru)(s a n:Nat)(y:RuS r)(p:Fn G2 T_ 72 [r.iv] (.int .i64 0))(z:s<=ff)(H:n<=366)(I:a+n<=3652059):Fn G2 T_ 213 [r.iv,.int .i64 s,.int .i64 a,.int .i64 (a+n:Nat)] (.slice (isN (uX r (s/86400) a n))):=by
 refine ae hm RH (by simp) ?_;unfold ff at z;have j:=Ux (s/86400) (by omega);have q:(s:Int).tdiv 86400=((s/86400:Nat):Int):=MX s 86400 (by omega);obtain⟨c,m⟩:∃c,s/86400=c:=⟨_,rfl⟩;rw[m]at j q |-;obtain⟨R,u⟩:=A_ (uX r c a n);rw[u];have o:=fun i (A:i<n)=>agm r (Y5 c) (Y5 (a+i)) y (aiz (by omega))
 have B:=fun i (A:i<n)=>Ux (a+i) (by omega)
 obtain⟨S,v⟩:=A_ (Y5 c);rw[v]at j o;have C:∀i,uX r c a (i+1)=uX r c a i++if Ip r S (Y5 (a+i))=true then [a+i]else []:=fun i=>by rw[aai,v]
 unfold DF.iv DF.cells at j;unfold Ru.iv cells at p o;unfold Ru.iv cells;simp[Ij,is_len,aJ];simp(disch:=omega)[wl];refine aa p ?_;simp(disch:=omega)[wl,q];refine aa j ?_;simp(disch:=omega)[wl];refine bx hm [] (fun x:Nat×List Nat=>[(12,.val (.int .i64 ((a+x.1:Nat):Int))),(11,.own 11 x.2.length)]) (fun x=>[(9,.box S.svs),(11,.arr x.2.length 1 (isN x.2))]) (fun x=>x.1<=n/\x.2=uX r c a x.1) (fun x=>n-x.1) (0,[]) ⟨by simp,by simp[uX]⟩ ?_ ?_
 .simp[isN,is];exact cJ.trans (fu (k:=11) 11 1 (by simp) (by simp[aE,ac])) (an rfl rfl (by simp[St.adopt,bj,aE,ac,put,dB,SV.erase]) (by simp[St.adopt,bZ,ac,put,cp,Ob.erase]) (by simp[St.adopt,bX]))
 rintro⟨i,d⟩ ⟨D,l⟩;simp only at D l;simp;by_cases h:i<n
 .have e:=B i h;have f:=o i h;have b:=C i;obtain⟨F,E⟩:=A_ (Y5 (a+i));rw[E]at e f b;unfold DF.iv DF.cells at e f;have g:=Uz r c a i;rw[<-l]at g b;have e1:(a:Int)+(i:Int)<(a:Int)+(n:Int):=by omega
  simp(disch:=omega)[wl,h];refine aa e ?_;simp(disch:=omega)[wl];refine aa f ?_;cases w:Ip r S F with
  |false=>
   rw[w]at b;simp at b;simp(disch:=omega)[wl];refine aj (i+1,d) ⟨by simp;omega,by simp[b]⟩ (by simp;omega) ?_;simp[Int.add_assoc];exact bA
  |true=>
   rw[w]at b;simp at b;have e2:=adH d (a+i);simp(disch:=omega)[wl,sx];refine⟨by omega,?_⟩;refine aj (i+1,d++[a+i]) ⟨by simp;omega,by simp[b]⟩ (by simp;omega) ?_;simp[e2,Int.add_assoc];exact bA
 have:i=n:=by omega
 subst this;rw[u]at l;subst l;simp(disch:=omega)[wl]
def Mt(A:List Int)(x:Int):List Int:=(A.reverse.dropWhile fun z=>decide (x<z)).reverse++x::(A.reverse.takeWhile fun z=>decide (x<z)).reverse
def mV(l:List Int):List Int:=l.foldl Mt []
theorem xY(l:List Int)(x:Int):mV (l++[x])=Mt (mV l) x:=by simp[mV]
theorem aiB{A a b:List Int}{x:Int}(h:a++b=A)(d:∀z∈b,x<z)(e:a=[]\/∃B y,a=B++[y]/\y<=x):Mt A x=a++x::b:=by
 subst h;have c:∀z∈b.reverse,decide (x<z)=true:=fun z f=>by simpa using d z (List.mem_reverse.1 f)
 unfold Mt;rw[List.reverse_append,List.dropWhile_append_of_pos c,List.takeWhile_append_of_pos c];rcases e with rfl|⟨B,y,rfl,k⟩
 .simp
 have g:¬x<y:=by omega
 simp[List.dropWhile_cons,List.takeWhile_cons,g]
theorem agn{A:List Int}{x z:Int} : z∈Mt A x↔z=x\/z∈A:=by
 have e:=List.takeWhile_append_dropWhile (p:=fun z=>decide (x<z)) (l:=A.reverse);have:z∈A↔z∈(A.reverse.takeWhile fun z=>decide (x<z))++(A.reverse.dropWhile fun z=>decide (x<z)):=by rw[e,List.mem_reverse]
 rw[this];unfold Mt;simp only[List.mem_append,List.mem_reverse,List.mem_cons];constructor
 .rintro(h|h|h)
  .exact .inr (.inr h)
  .exact .inl h
  exact .inr (.inl h)
 rintro(h|h|h)
 .exact .inr (.inl h)
 .exact .inr (.inr h)
 exact .inl h
theorem ago(A:List Int)(x:Int):(Mt A x).length=A.length+1:=by
 have e:=congrArg List.length (List.takeWhile_append_dropWhile (p:=fun z=>decide (x<z)) (l:=A.reverse));unfold Mt;simp only[List.length_append,List.length_reverse,List.length_cons]at e |-;omega
theorem PS{a:List Int->Prop}(b:a [])(c:∀l x,a l->a (l++[x]))(l:List Int):a l:=by
 have:∀r:List Int,a r.reverse:=fun r=>by
  induction r with
  |nil=>exact b
  |cons x r d=>rw[List.reverse_cons];exact c _ _ d
 simpa using this l.reverse
theorem AB(z:Int)(l:List Int):z∈mV l↔z∈l:=by
 induction l using PS with
 |b=>simp[mV]
 |c l x a=>rw[xY,agn,a];simp[or_comm]
theorem wR(l:List Int):(mV l).length=l.length:=by
 induction l using PS with
 |b=>rfl
 |c l x a=>rw[xY,ago,a];simp
theorem adI(x:Int):Fn G2 T_ 225 [.int .i64 x] (.bool false):=by
 refine ae hm H7 (by simp) ?_;simp[yv]
theorem RN(x y:Int):Fn G2 T_ 180 [.int .i64 x,.int .i64 y] (.bool (decide (x<y))):=by
 refine ae hm IS (by simp) ?_;simp[An];refine aa (adI x) ?_;simp(disch:=omega)[wl]
theorem adJ{a:Type}{R A B C:List a}{x y:a}{i j:Nat}(h:R=A++x::(B++y::C))(b:A.length=i)(c:i+1+B.length=j) :
  R[i]?=some x/\R[j]?=some y/\((R.set i y)[j]?=some y)/\(R.set i y).set j x=A++y::(B++x::C):=by
 subst h;subst b;subst c
 have e1:(A++x::(B++y::C))[A.length+1+B.length]?=some y:=by
  rw[List.getElem?_append_right (by omega),show A.length+1+B.length-A.length=B.length+1 by omega,List.getElem?_cons_succ];simp
 have e2:(A++x::(B++y::C)).set A.length y=A++y::(B++y::C):=by simp
 refine⟨by simp,e1,?_,?_⟩
 .rw[List.getElem?_set_ne (by omega)];exact e1
 rw[e2,List.set_append_right _ _ (by omega),show A.length+1+B.length-A.length=B.length+1 by omega,List.set_cons_succ];simp
theorem O0(v:Nat)(X:List Int)(b:Nat)(hX:X.length=b)(hb:b<1000) :
  lB G2 T_ 174 {args:=[.own 1000 v,.val (.int .i64 0),.val (.int .i64 b)],objs:=[(1000,.arr v 1 (is X))],res:=.val (.tuple []),objs':=[(1000,.arr v 1 (is (mV X)))],ro':=[] }:=by
 refine aK hm nF (by simp) rfl ?_;simp[gO];simp(disch:=omega)[wl]
 refine Hs hm (fun t:Nat=>⟨[(6,.val (.int .i64 t)),(0,.own 1000 v),(1,.val (.int .i64 0)),(2,.val (.int .i64 b))],
   [(1000,.arr v 1 (is (mV (X.take t)++X.drop t)))],[],49,G2⟩)
  (fun t=>1<=t/\t<=max 1 X.length) (fun t=>X.length-t) 1 ⟨by omega,by omega⟩ ?_ (fun _=>rfl) ?_
 .have e:mV (X.take 1)++X.drop 1=X:=by
   cases X with
   |nil=>rfl
   |cons x r=>simp[mV,Mt]
  simp only[e];exact bA
 rintro t ⟨h1,h2⟩;simp;refine brd (fun V=>?_) (fun V=>?_)
 case refine_2=>
  have e1:X.take t=X:=List.take_of_length_le (by omega);have e2:X.drop t=[]:=List.drop_eq_nil_iff.2 (by omega);simp[cI,e1,e2];exact⟨_,cJ.refl _,by simp,[],rfl,rfl,rfl⟩
 have O:t<X.length:=by omega
 obtain⟨x,P⟩:=B_ (X[t]);have g:X.drop t=x::X.drop (t+1):=by rw[P];exact List.drop_eq_getElem_cons O
 have h:X.take (t+1)=X.take t++[x]:=by rw[P];exact List.take_succ_eq_append_getElem O
 obtain⟨A,E⟩:=B_ (mV (X.take t));have n:A.length=t:=by rw[E,wR];simp;omega
 simp
 refine Hs hm (fun y:List Int×List Int=>⟨[(7,.val (.int .i64 (y.1.length:Int))),(6,.val (.int .i64 t)),(0,.own 1000 v),(1,.val (.int .i64 0)),(2,.val (.int .i64 b))],
   [(1000,.arr v 1 (is (y.1++(x::(y.2++X.drop (t+1))))))],[],49,G2⟩)
  (fun y=>y.1++y.2=A/\∀z∈y.2,x<z) (fun y=>y.1.length) (A,[]) ⟨by simp,by simp⟩ ?_ (fun _=>rfl) ?_
 .simp only[g,<-E,n,List.cons_append,List.nil_append];exact bA
 have o:∀k c:List Int,k++c=A->(∀z∈c,x<z)->(k=[]\/∃B y,k=B++[y]/\y<=x)->is (k++(x::(c++X.drop (t+1))))=is (mV (X.take (t+1))++X.drop (t+1)):=by
  intro k c F m d;rw[h,xY,<-E,aiB F m d];simp
 have p:IntKind.i64.wrap ((t:Int)+1)=((t+1:Nat):Int):=by rw[IntKind.wrap_i64];omega
 rintro⟨k,c⟩ ⟨d,m⟩;simp only at d m;simp;rcases List.eq_nil_or_concat k with rfl|⟨a,y,rfl⟩
 .simp;refine⟨rfl,?_⟩;rw[p];refine aj (t+1) ⟨by omega,by omega⟩ (by omega) ?_;have e:=o [] c d m (.inl rfl);simp only[List.nil_append]at e;simp only[<-e];exact bA
 have W:y∈A:=by rw[<-d];simp
 have Y:a.length+1+c.length=t:=by rw[<-n,<-d];simp;omega
 obtain⟨R,H⟩:=B_ (is (a++y::x::(c++X.drop (t+1))));have I:R=is a++[.int .i64 y]::(is []++[.int .i64 x]::is (c++X.drop (t+1))):=by rw[H];simp[is]
 obtain⟨l,J⟩:=B_ a.length;obtain⟨f,Z⟩:=B_ (a.length+1);obtain⟨k1,k2,k3,k4⟩:=adJ I (i:=l) (j:=f) (by simp[is,J]) (by simp[is];omega);obtain⟨Q,q⟩:=List.getElem?_eq_some_iff.1 k1;obtain⟨S,s⟩:=List.getElem?_eq_some_iff.1 k2;have K:¬l=f:=by omega
 have u:¬f=l:=by omega
 have hj:(a.length:Int)+1=(f:Int):=by omega
 have w:IntKind.i64.wrap ((f:Int)-1)=(l:Int):=by rw[IntKind.wrap_i64];omega
 have L:0<f:=by omega
 have M:is (a++y::x::(c++X.drop (t+1)))=R:=H.symm;simp[hj,M,L,Q,S,q,s,w];refine aa (RN x y) ?_;simp;refine⟨rfl,?_⟩;refine brd (fun U=>?_) (fun U=>?_)
 .have C:(R.set f [.int .i64 y]).set l [.int .i64 x]=is a++[.int .i64 x]::(is []++[.int .i64 y]::is (c++X.drop (t+1))):=by rw[List.set_comm _ _ (by omega)];exact k4
  simp[Q,S,q,s,K,u,w,List.getElem_set];refine aj (a,y::c) ⟨by simpa using d,?_⟩ (by simp) ?_
  .intro z N;rcases List.mem_cons.1 N with rfl|N
   .exact U
   exact m z N
  have e:is (a++(x::(y::c++X.drop (t+1))))=(R.set f [.int .i64 y]).set l [.int .i64 x]:=by rw[C];simp[is]
  have D:(a.length:Int)=(l:Int):=by omega
  simp only[e,D];exact bA
 simp;rw[p];refine aj (t+1) ⟨by omega,by omega⟩ (by omega) ?_;have e:=o (a++[y]) c (by simpa using d) m (.inr ⟨a,y,rfl,by omega⟩);have e2:R=is (a++[y]++(x::(c++X.drop (t+1)))):=by rw[H];simp
 simp only[e2,e];exact bA
def ahc(n:Nat):Nat:=if n=0 then 0 else if n=1 then 1 else if n<=3 then 2 else if n<=7 then 3 else 4
theorem adK(n:Nat)(h:n<=12):Fn G2 T_ 126 [.int .u64 n] (.int .i64 (ahc n:Nat)):=by
 have:n=0\/n=1\/n=2\/n=3\/n=4\/n=5\/n=6\/n=7\/n=8\/n=9\/n=10\/n=11\/n=12:=by omega
 rcases this with rfl|rfl|rfl|rfl|rfl|rfl|rfl|rfl|rfl|rfl|rfl|rfl|rfl <;>
  exact D4 hm [] [] (xe (gl:=G2) (es:=[]) (by simp)) 60 (by kernel_rfl)
theorem agp(v:Nat)(X:List Int)(b c:Nat)(a:X.length=b)(d:b<=12) :
  lB G2 T_ 125 {args:=[.own 1000 v,.val (.int .i64 0),.val (.int .i64 b),.val (.int .i64 c)],objs:=[(1000,.arr v 1 (is X))],res:=.val (.tuple []),objs':=[(1000,.arr v 1 (is (mV X)))],ro':=[] }:=by
 refine aK hm ka (by simp) rfl ?_;simp[fV];refine bx hm [] (fun x:Nat=>[]) (fun _=>[(1000,.arr v 1 (is X))]) (fun x=>True) (fun x=>0) 0 trivial ?_ ?_
 .simp;exact bA
 intro i _;simp;simp(disch:=omega)[wl];refine callM [(1000,1000)] [] (O0 v X b a (by omega)) rfl rfl (by simp[gI,Vs.ren,ac,Ob.ren]) (by simp[iT,Vs.ren,ac,SV.ren]) rfl ?_;simp;exact ch []
theorem Mu(v:Nat)(X:List Int)(a:X.length<=12) :
  lB G2 T_ 74 {args:=[.own 1000 v],objs:=[(1000,.arr v 1 (is X))],res:=.val (.tuple []),objs':=[(1000,.arr v 1 (is (mV X)))],ro':=[] }:=by
 refine aK hm uf (by simp) rfl ?_;simp[oV];have b:IntKind.u64.wrap (X.length:Int)=(X.length:Int):=by rw[IntKind.wrap_u64];omega
 simp(disch:=omega)[wl,is_len,b];refine aa (adK X.length a) ?_;simp(disch:=omega)[wl];refine callM [(1000,1000)] [] (agp v X X.length (ahc X.length) rfl a) rfl rfl (by simp[gI,Vs.ren,ac,Ob.ren]) (by simp[iT,Vs.ren,ac,SV.ren,is_len]) rfl ?_;simp;exact ch []
end Go.Vs.Y.Rc
