/- A part of a proof. No conditions. -/
import Derived.Test.YtcjeehebikeghaaGreatDoorRRz
set_option linter.unusedVariables false
set_option linter.unusedSimpArgs false
set_option maxRecDepth 100000
set_option maxHeartbeats 64000000
namespace Go.Vs.YtcjeehebikeghaaGreatDoor.Rc
open Go.Proofs Go.Vs.U8 Go.Vs.Pa Go.Vs.Cv Go.Vs.Mo Go.Vs.Nu Go.Lib
theorem MO{r y:Ru}{k:Nat}{v:Str}(g:k<14)(b:Fin r)(h:tM r k v=.ok y):Fin y:=by
 by_cases c:k=7
 ·subst c;rw[YK]at h;cases a:bK nS v with
  |ok l=>rw[a]at h;simp only[TkR.ok.injEq]at h;rw[<-h];exact YN (uX a) b
  |no e p=>rw[a]at h;cases h
 ·by_cases f:k∈cC
  ·rw[YJ r k f c]at h;cases a:bK (cF 5 (MD k) (ME k) (RC k)) v with
   |ok l=>rw[a]at h;simp only[TkR.ok.injEq]at h;rw[<-h];exact YM (uX a) b
   |no e p=>rw[a]at h;cases h
  ·rw[YI r k (by simp[cC]at f;omega)]at h;split at h
   ·simp only[TkR.ok.injEq]at h;rw[<-h];exact SO k v b
   ·cases h
theorem FZ:∀ {N:Nat} {ps:List Str} {a:Nat} {b:List Nat} {r x:Ru},Fin r->im N ps a b r=.ok x->Fin x
 |N,[],a,b,r,x,c,h=>by
  simp only[im,Yh]at h;split at h
  ·split at h
   ·next e=>simp only[RuR.ok.injEq]at h;rw[<-h];exact c
   ·cases h
  ·cases h
 |N,p::ps,a,b,r,x,c,h=>by
  simp only[im]at h;split at h
  ·cases h
  ·split at h
   ·cases h
   ·next f=>
    split at h
    ·cases h
    ·split at h
     ·cases h
     ·next d=>exact FZ (MO (by omega) c d) h
theorem QR{s:Str}{x:Ru}(h:kD s=.ok x):Fin x/\jo x=0:=
 ⟨FZ ⟨by simp[uW,TZ],by simp[TZ],by simp[TZ]⟩ h,IR h⟩
def H4(r:Ru)(k:Nat)(v:Str):Ru×Int×Nat:=
 if k=0 then (if gT.idxOf v<7 then ({r with f:=(gT.idxOf v:Nat) },0,0)else (r,11,0))
 else if k=1 then ({r with u:=(fu v).1 },(fu v).2,0)
 else if k=2 then ({r with c:=(cF 5 1 1000 false v).1 },(cF 5 1 1000 false v).2,0)
 else if k=3 then ({r with i:=(cF 5 1 1000 false v).1 },(cF 5 1 1000 false v).2,0)
 else if k=7 then (match bK nS v with
  |.ok l=>({r with l7:=l },0,0)
  |.no e p=>({r with l7:=[] },e,p))
 else if k=13 then ({r with w:=vO v },if vO v<0 then 4 else 0,0)
 else match bK (cF 5 (MD k) (ME k) (RC k)) v with
  |.ok l=>(eJ r k l,0,0)
  |.no e p=>(eJ r k [],e,p)
def tjI(x:Ru×Int×Nat):IV:=.tuple [x.1.iv,.int .i64 x.2.1,.int .i64 (x.2.2:Nat)]
theorem YP{i:Nat}(h:i<=6):gT.idxOf (tL i)=i:=by
 rcases k7 h with rfl|rfl|rfl|rfl|rfl|rfl|rfl<;>rfl
theorem YQ{v:Str}(h:gT.idxOf v<7):tL (gT.idxOf v)=v:=by
 have a:gT.idxOf v<gT.length:=h;have b:=List.getElem_idxOf a;unfold tL;rw[List.getD_eq_getElem?_getD,List.getElem?_eq_getElem a,b];rfl
theorem YR(r:Ru)(k:Nat)(v:Str)(B:k<14)(g:v.length<1000000):Fn G2 T_ 169 [r.iv,.int .i64 k,.str v] (tjI (H4 r k v)):=by
 refine ae hm KP (by simp) ?_;unfold Ru.iv cells;simp[CV];rcases k14 B with rfl|rfl|rfl|rfl|rfl|rfl|rfl|rfl|rfl|rfl|rfl|rfl|rfl|rfl
 ·have hT:H4 r 0 v=if gT.idxOf v<7 then ({r with f:=(gT.idxOf v:Nat) },0,0)else (r,11,0):=rfl
  rw[hT];have j:=fun h=>YQ (v:=v) h
  have m:=fun i h=>YP (i:=i) h
  have n:gT.idxOf v<=7:=List.idxOf_le_length;obtain⟨X,z⟩:∃X,gT.idxOf v=X:=⟨_,rfl⟩;rw[z]at j n |-;simp(disch:=omega)[wl];refine be hm [] (fun i:Nat=>[(11,.val (.int .i64 i)),(9,.val (.int .i64 (if X<i then 0 else 11)))]) (fun i=>[(3,.box (dY {r with f:=if X<i then (X:Int)else r.f }))]) (fun i=>i<=7) (fun i=>7-i) 0 (by omega) ?_ ?_
  ·simp[dY];exact bp
  intro i H;simp[dY];by_cases h:i<7
  ·have C:=aa4 i (by omega);have D:=m i (by omega);simp(disch:=omega)[wl];refine aa C ?_;by_cases e:i=X
   ·subst e;have E:=j (by omega);simp(disch:=omega)[wl,E];refine ai (i+1) (by omega) (by omega) ?_;simp[dY];exact bp
   ·have o:¬v=tL i:=fun h=>e (by rw[<-h,z]at D;omega)
    have F:X<i+1↔X<i:=by omega
    simp(disch:=omega)[wl,o];refine ai (i+1) (by omega) (by omega) ?_;simp[dY,F];exact bp
  ·obtain rfl:i=7:=by omega
   by_cases A:X<7
   ·simp(disch:=omega)[wl,A];rfl
   ·simp(disch:=omega)[wl,A];rfl
 ·have s:=ym v g;have hT:H4 r 1 v=({r with u:=(fu v).1 },(fu v).2,0):=rfl;rw[hT];obtain⟨P,a⟩:∃P,fu v=P:=⟨_,rfl⟩;rw[a]at s |-;unfold eX at s;simp(disch:=omega)[wl];refine aa s ?_;simp(disch:=omega)[wl];rfl
 ·have b:=up (yf 1 1000 false v g);have hT:H4 r 2 v=({r with c:=(cF 5 1 1000 false v).1 },(cF 5 1 1000 false v).2,0):=rfl;rw[hT];obtain⟨P,a⟩:∃P,cF 5 1 1000 false v=P:=⟨_,rfl⟩;rw[a]at b |-;unfold ln at b;simp(disch:=omega)[wl];refine aa b ?_;simp(disch:=omega)[wl];rfl
 ·have b:=up (yf 1 1000 false v g);have hT:H4 r 3 v=({r with i:=(cF 5 1 1000 false v).1 },(cF 5 1 1000 false v).2,0):=rfl;rw[hT];obtain⟨P,a⟩:∃P,cF 5 1 1000 false v=P:=⟨_,rfl⟩;rw[a]at b |-;unfold ln at b;simp(disch:=omega)[wl];refine aa b ?_;simp(disch:=omega)[wl];rfl
 ·have b:=up (nV 0 59 false v g)
  have hT:H4 r 4 v=(match bK (cF 5 0 59 false) v with
  |.ok l=>(eJ r 4 l,0,0)
  |.no e p=>(eJ r 4 [],e,p)):=rfl
  rw[hT];obtain⟨P,a⟩:∃P,bK (cF 5 0 59 false) v=P:=⟨_,rfl⟩;rw[a]at b |-;simp(disch:=omega)[wl];refine aa b ?_;cases P with
  |ok l=>
   simp(disch:=omega)[wl,kk];rfl
  |no e p=>
   simp(disch:=omega)[wl,kk];rfl
 ·have b:=up (nV 0 59 false v g)
  have hT:H4 r 5 v=(match bK (cF 5 0 59 false) v with
  |.ok l=>(eJ r 5 l,0,0)
  |.no e p=>(eJ r 5 [],e,p)):=rfl
  rw[hT];obtain⟨P,a⟩:∃P,bK (cF 5 0 59 false) v=P:=⟨_,rfl⟩;rw[a]at b |-;simp(disch:=omega)[wl];refine aa b ?_;cases P with
  |ok l=>
   simp(disch:=omega)[wl,kk];rfl
  |no e p=>
   simp(disch:=omega)[wl,kk];rfl
 ·have b:=up (nV 0 23 false v g)
  have hT:H4 r 6 v=(match bK (cF 5 0 23 false) v with
  |.ok l=>(eJ r 6 l,0,0)
  |.no e p=>(eJ r 6 [],e,p)):=rfl
  rw[hT];obtain⟨P,a⟩:∃P,bK (cF 5 0 23 false) v=P:=⟨_,rfl⟩;rw[a]at b |-;simp(disch:=omega)[wl];refine aa b ?_;cases P with
  |ok l=>
   simp(disch:=omega)[wl,kk];rfl
  |no e p=>
   simp(disch:=omega)[wl,kk];rfl
 ·have b:=up (Y3 v g)
  have hT:H4 r 7 v=(match bK nS v with
  |.ok l=>({r with l7:=l },0,0)
  |.no e p=>({r with l7:=[] },e,p)):=rfl
  rw[hT];obtain⟨P,a⟩:∃P,bK nS v=P:=⟨_,rfl⟩;rw[a]at b |-;simp(disch:=omega)[wl];refine aa b ?_;cases P with
  |ok l=>
   simp(disch:=omega)[wl,Iz];rfl
  |no e p=>
   simp(disch:=omega)[wl,Iz];rfl
 ·have b:=up (nV 1 31 true v g)
  have hT:H4 r 8 v=(match bK (cF 5 1 31 true) v with
  |.ok l=>(eJ r 8 l,0,0)
  |.no e p=>(eJ r 8 [],e,p)):=rfl
  rw[hT];obtain⟨P,a⟩:∃P,bK (cF 5 1 31 true) v=P:=⟨_,rfl⟩;rw[a]at b |-;simp(disch:=omega)[wl];refine aa b ?_;cases P with
  |ok l=>
   simp(disch:=omega)[wl,kk];rfl
  |no e p=>
   simp(disch:=omega)[wl,kk];rfl
 ·have b:=up (nV 1 366 true v g)
  have hT:H4 r 9 v=(match bK (cF 5 1 366 true) v with
  |.ok l=>(eJ r 9 l,0,0)
  |.no e p=>(eJ r 9 [],e,p)):=rfl
  rw[hT];obtain⟨P,a⟩:∃P,bK (cF 5 1 366 true) v=P:=⟨_,rfl⟩;rw[a]at b |-;simp(disch:=omega)[wl];refine aa b ?_;cases P with
  |ok l=>
   simp(disch:=omega)[wl,kk];rfl
  |no e p=>
   simp(disch:=omega)[wl,kk];rfl
 ·have b:=up (nV 1 53 true v g)
  have hT:H4 r 10 v=(match bK (cF 5 1 53 true) v with
  |.ok l=>(eJ r 10 l,0,0)
  |.no e p=>(eJ r 10 [],e,p)):=rfl
  rw[hT];obtain⟨P,a⟩:∃P,bK (cF 5 1 53 true) v=P:=⟨_,rfl⟩;rw[a]at b |-;simp(disch:=omega)[wl];refine aa b ?_;cases P with
  |ok l=>
   simp(disch:=omega)[wl,kk];rfl
  |no e p=>
   simp(disch:=omega)[wl,kk];rfl
 ·have b:=up (nV 1 12 false v g)
  have hT:H4 r 11 v=(match bK (cF 5 1 12 false) v with
  |.ok l=>(eJ r 11 l,0,0)
  |.no e p=>(eJ r 11 [],e,p)):=rfl
  rw[hT];obtain⟨P,a⟩:∃P,bK (cF 5 1 12 false) v=P:=⟨_,rfl⟩;rw[a]at b |-;simp(disch:=omega)[wl];refine aa b ?_;cases P with
  |ok l=>
   simp(disch:=omega)[wl,kk];rfl
  |no e p=>
   simp(disch:=omega)[wl,kk];rfl
 ·have b:=up (nV 1 366 true v g)
  have hT:H4 r 12 v=(match bK (cF 5 1 366 true) v with
  |.ok l=>(eJ r 12 l,0,0)
  |.no e p=>(eJ r 12 [],e,p)):=rfl
  rw[hT];obtain⟨P,a⟩:∃P,bK (cF 5 1 366 true) v=P:=⟨_,rfl⟩;rw[a]at b |-;simp(disch:=omega)[wl];refine aa b ?_;cases P with
  |ok l=>
   simp(disch:=omega)[wl,kk];rfl
  |no e p=>
   simp(disch:=omega)[wl,kk];rfl
 ·have b:=up (FE v);have hT:H4 r 13 v=({r with w:=vO v },if vO v<0 then 4 else 0,0):=rfl;rw[hT];obtain⟨P,a⟩:∃P,vO v=P:=⟨_,rfl⟩;rw[a]at b |-;simp(disch:=omega)[wl];refine aa b ?_;by_cases h:P<0
  ·simp(disch:=omega)[wl,h];rfl
  ·simp(disch:=omega)[wl,h];rfl
theorem adf(r:Ru)(k:Nat)(u:k<14)(v:Str):∃q:List Int,q.sum=((H4 r k v).2.2:Nat)/\tM r k v=if (H4 r k v).2.1=0 then .ok (H4 r k v).1 else .no (H4 r k v).2.1 q:=by
 by_cases i:k=0
 ·subst i;have hT:H4 r 0 v=if gT.idxOf v<7 then ({r with f:=(gT.idxOf v:Nat) },0,0)else (r,11,0):=rfl
  have o:tM r 0 v=if gT.idxOf v<7 then .ok {r with f:=gT.idxOf v } else .no 11 []:=rfl
  rw[hT,o];by_cases h:gT.idxOf v<7
  ·rw[if_pos h,if_pos h];exact⟨[],rfl,rfl⟩
  ·rw[if_neg h,if_neg h];exact⟨[],rfl,rfl⟩
 by_cases j:k=1
 ·subst j;exact⟨[],rfl,rfl⟩
 by_cases m:k=2
 ·subst m;exact⟨[],rfl,rfl⟩
 by_cases n:k=3
 ·subst n;exact⟨[],rfl,rfl⟩
 by_cases a:k=13
 ·subst a;refine⟨[],rfl,?_⟩;show(if vO v<0 then TkR.no 4 []else .ok {r with w:=vO v })=if (if vO v<0 then (4:Int)else 0)=0 then .ok {r with w:=vO v } else .no (if vO v<0 then (4:Int)else 0) []
  by_cases h:vO v<0
  ·rw[if_pos h,if_pos h,if_neg (by decide)]
  ·rw[if_neg h,if_neg h,if_pos rfl]
 by_cases b:k=7
 ·subst b
  have hT:H4 r 7 v=(match bK nS v with
  |.ok l=>({r with l7:=l },0,0)
  |.no e p=>({r with l7:=[] },e,p)):=rfl
  rw[hT,YK];cases c:bK nS v with
  |ok l=>exact⟨[],rfl,rfl⟩
  |no e p=>
   have g:=(yj c).1;refine⟨[(p:Int)],by simp,?_⟩;simp only;rw[if_neg g]
 have s:k∈cC:=by simp[cC];omega
 have hT:H4 r k v=(match bK (cF 5 (MD k) (ME k) (RC k)) v with
  |.ok l=>(eJ r k l,0,0)
  |.no e p=>(eJ r k [],e,p)):=by
  unfold H4;rw[if_neg i,if_neg j,if_neg m,if_neg n,if_neg b,if_neg a]
 rw[hT,YJ r k s b];cases c:bK (cF 5 (MD k) (ME k) (RC k)) v with
 |ok l=>exact⟨[],rfl,rfl⟩
 |no e p=>
  have g:=(yj c).1;refine⟨[(p:Int)],by simp,?_⟩;simp only;rw[if_neg g]
def Zu:RuR->IV
 |.no e q=>.tuple [Ws.iv,.int .i64 e,.int .i64 q.sum]
 |.ok r=>.tuple [r.iv,.int .i64 0,.int .i64 0]
theorem abd{s p:Str}{a:Nat}(c:p=(s.drop a).take p.length)(f:59∉p)(b:s[a+p.length]?=some 59\/a+p.length=s.length):(s.drop a).idxOf 59=p.length:=by
 have e:s.drop a=p++s.drop (a+p.length):=by
  have:=(List.take_append_drop p.length (s.drop a)).symm;rw[<-c,List.drop_drop]at this;exact this
 rw[e,List.idxOf_append,if_neg f];rcases b with b|b
 ·obtain⟨g,h⟩:=List.getElem?_eq_some_iff.1 b;rw[List.drop_eq_getElem_cons g,h,List.idxOf_cons_self];omega
 ·rw[b,List.drop_length];simp
theorem YS{x:Str}{k:Nat}(b:k<iH.length)(h:k<=iH.idxOf x):(iH[k]=x->iH.idxOf x=k)/\(iH[k]≠x->k+1<=iH.idxOf x):=by
 refine⟨fun e=>?_,fun e=>?_⟩
 ·have:¬k<iH.idxOf x:=fun a=>by
   have:=List.not_of_lt_findIdx (p:=(· == x)) (xs:=iH) (i:=k) a;simp[e]at this
  omega
 ·have:k≠iH.idxOf x:=fun c=>by
   subst c;exact e (List.getElem_idxOf b)
  omega
theorem VL(k:Nat)(a:List Nat):fh k (QQ a)=QQ a:=by
 have:QQ a=((List.range 14).map fun j=>IV.bool (decide (j∈a))).map .val:=by
  unfold QQ;rw[List.map_map];rfl
 rw[this];exact Er _ _
structure JSt where
 a:Nat
 was:List Nat
 r:Ru
 ps:List Str
theorem SQ(s:Str)(hs:s.length<90000):Fn G2 T_ 109 [.str s] (Zu (kD s)):=by
 refine ae hm J1 (by simp) ?_;obtain⟨R,L⟩:∃R,kD s=R:=⟨_,rfl⟩;rw[L];unfold kD at L;have M:=Yv;simp[zS,SM]
 refine M9 hm (fun x:JSt=>⟨[(7,.val (.int .i64 x.a)),(6,.loc 6 0),(5,.loc 5 0),(4,.val (.int .i64 0)),(3,.val (.int .i64 0)),(2,.loc 2 0),(0,.val (.str s))],[(6,.box (QQ x.was)),(5,.box (dY x.r)),(2,.box bz)],[],103,G2⟩)
  (fun x=>AtR s x.ps x.a/\im s.length x.ps x.a x.was x.r=R/\Fin x.r) (fun x=>s.length+1-x.a) ⟨0,[],TZ,parts 59 s⟩ ⟨Yk s,L,⟨by simp[uW,TZ],by simp[TZ],by simp[TZ]⟩⟩ ?_ (fun _=>rfl) ?_
 ·exact cH.trans (yo (d:=5) rfl rfl) (ag rfl rfl (by simp[aI,ap,ac]) (by simp[bD,ac,put,dY,Jd,TZ,U5,SM,bz,is,sX]) (by simp[bB]))
 rintro⟨a,c,r,ps⟩ ⟨N,b,I⟩;simp only at N b I;simp[bz];rcases ps with _|⟨p,ps⟩
 ·have ha:a=s.length+1:=by
   rcases N with⟨_,h⟩|⟨_,h⟩
   ·exact h
   ·obtain⟨q,qs,hq,_⟩:=wW 59 (s.drop a);rw[hq]at h;cases h
  subst ha;simp only[im,Yh]at b;have O:=Jc r I.1 I.2.1;have P:=yn c (k:=0) (by omega);obtain⟨e,he⟩:∃e,jo r=e:=⟨_,rfl⟩;rw[he]at O b;unfold Ru.iv cells at O;simp(disch:=omega)[wl,P];by_cases J:0∈c
  ·rw[if_pos J]at b;simp(disch:=omega)[wl,J,dY];refine aa O ?_;by_cases e0:e=0
   ·rw[if_pos e0]at b;subst b;simp(disch:=omega)[wl,e0,Zu,Ru.iv,cells]
    try rfl
   ·rw[if_neg e0]at b;subst b;simp(disch:=omega)[wl,e0,Zu,kP]
    try rfl
  ·rw[if_neg J]at b;subst b;simp(disch:=omega)[wl,J,Zu,kP]
   try rfl
 ·obtain⟨b1,b2,b3,b4,b5⟩:=Yl N;obtain⟨E,S⟩:∃E,a+p.length=E:=⟨_,rfl⟩;have m:=U4 s a 59 (by omega) (by omega);rw[abd b2 b3 (b5.imp (fun x=>x) (fun x=>x.1)),S]at m;have m:Fn G2 T_ 167 [.str s,.int .i64 a,.int .u8 59] (.int .i64 (E:Nat)):=m
  have j:(s.take E).drop a=p:=by
   rw[List.drop_take,show E-a=p.length by omega,<-b2]
  have l:=U4 (s.take E) a 61 (by rw[List.length_take];omega) (by rw[List.length_take];omega);rw[j]at l;obtain⟨Q,hQ⟩:∃Q,a+p.idxOf 61=Q:=⟨_,rfl⟩;rw[hQ]at l;have l:Fn G2 T_ 167 [.str (s.take E),.int .i64 a,.int .u8 61] (.int .i64 (Q:Nat)):=l;simp(disch:=omega)[wl];refine aa m ?_;simp(disch:=omega)[wl];refine⟨by omega,aa l ?_⟩;simp only[im]at b;by_cases o:(61:UInt8)∈p
  ·have f':=List.idxOf_lt_length_iff.2 o;rw[if_neg (by simpa using o)]at b;have z:¬(Q:Int)=E:=by omega
   have C:(s.take Q).drop a=vH p:=by
    have:(s.take Q).drop a=((s.take E).drop a).take (Q-a):=by
     rw[List.drop_take,List.drop_take,List.take_take];congr 1;omega
    rw[this,j,show Q-a=p.idxOf 61 by omega];rfl
   have D:(s.take E).drop (Q+1)=iX p:=by
    have:(s.take E).drop (Q+1)=((s.take E).drop a).drop (p.idxOf 61+1):=by
     rw[List.drop_drop];congr 1;omega
    rw[this,j];rfl
   have U:(iX p).length<1000000:=by unfold iX;rw[List.length_drop];omega
   simp(disch:=omega)[wl,z];refine aa M ?_;simp(disch:=omega)[wl];refine be hm [] (fun k:Nat=>[(11,.val (.int .i64 k))]) (fun _=>[]) (fun k=>k<=iH.idxOf (vH p)) (fun k=>14-k) 0 (by omega) ?_ ?_
   ·simp;exact bp
   intro k hk;have d':k<=14:=Nat.le_trans hk List.idxOf_le_length;simp[aQ];have u:iH.length=14:=rfl;by_cases f:k<14
   ·obtain⟨y,hy⟩:∃y,iH[k]=y:=⟨_,rfl⟩;have hg:=kM f hy;obtain⟨n1,n2⟩:=YS f hk;rw[hy]at n1 n2;by_cases e:y=vH p
    ·have V:zC p=k:=n1 e;simp(disch:=omega)[wl,hg,e,u,C];refine⟨⟨by omega,by omega⟩,?_⟩;have A:¬(k:Int)=14:=by omega
     have W:=yn c f;have X:=U6 c f;rw[V]at b;rw[if_neg (by omega)]at b;simp(disch:=omega)[wl,aQ,u,A,W];refine⟨by omega,?_⟩;by_cases w:k∈c
     ·rw[if_pos w]at b;subst b;simp(disch:=omega)[wl,w,Zu,kP]
     ·rw[if_neg w]at b;obtain⟨q,g,i⟩:=adf r k f (iX p);have F:=fun(y:Ru)=>MO (r:=r) (y:=y) (k:=k) (v:=iX p) f I
      have hT:=YR r k (iX p) f U;obtain⟨⟨K,H,B⟩,Y⟩:∃T,H4 r k (iX p)=T:=⟨_,rfl⟩;rw[Y]at hT g i;have g:q.sum=(B:Nat):=g;have i:tM r k (iX p)=if H=0 then .ok K else .no H q:=i
      have hT:Fn G2 T_ 169 [r.iv,.int .i64 k,.str (iX p)] (.tuple [.agg (cells K),.int .i64 H,.int .i64 (B:Nat)]):=hT;unfold Ru.iv cells at hT;rw[i]at b;have Z:=D8 c;simp(disch:=omega)[wl,w,X,Z,dY,D];refine⟨by omega,by omega,by omega,?_⟩;refine aa hT ?_;simp(disch:=omega)[wl];refine⟨rfl,?_⟩;by_cases e0:H=0
      ·rw[if_pos e0]at b;have a':=F K (by rw[i,if_pos e0]);simp(disch:=omega)[wl,e0];refine ai (⟨E+1,k::c,K,ps⟩:JSt) ⟨by rw[<-S];exact b4,by rw[<-S];exact b,a'⟩ (by simp only;omega) ?_;simp[bz,dY];exact ag rfl rfl (by simp[aI,ap,ac]) (by simp[bD,ac,VL]) (by simp[bB])
      ·rw[if_neg e0]at b;simp only at b;have b':=(Yj (x:=r) (k:=k) (v:=iX p) (e:=H) (q:=q) (by rw[i,if_neg e0])).2
       have hi:B<=(iX p).length:=by
        rcases b' with rfl|⟨n,rfl,hn⟩
        ·have:(0:Int)=(B:Nat):=g;omega
        ·have:(n:Int)+0=(B:Nat):=g;omega
       have c':IntKind.i64.wrap ((Q:Int)+1+B)=a+(List.idxOf 61 p:Nat)+1+B:=by
        rw[wrap_i64 (by omega) (by omega)];omega
       subst b;simp(disch:=omega)[wl,e0,Zu,kP,g,c']
    ·have:=n2 e;simp(disch:=omega)[wl,hg,e,u,C];refine⟨⟨by omega,by omega⟩,?_⟩;refine ai (k+1) this (by omega) ?_;simp;exact bp
   ·obtain rfl:k=14:=by omega
    have V:¬zC p<14:=by unfold zC;omega
    rw[if_pos V]at b;subst b;simp(disch:=omega)[wl,u,aQ,Zu,kP]
  ·rw[if_pos o]at b;subst b
   have z:Q=E:=by
    rw[List.idxOf_eq_length o]at hQ;omega
   simp(disch:=omega)[wl,z,Zu,kP]
end Go.Vs.YtcjeehebikeghaaGreatDoor.Rc
