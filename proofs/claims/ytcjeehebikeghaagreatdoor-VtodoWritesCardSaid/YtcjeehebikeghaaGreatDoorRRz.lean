/- A part of a proof. No conditions. -/
import Derived.Test.YtcjeehebikeghaaGreatDoorRNz
set_option linter.unusedVariables false
set_option linter.unusedSimpArgs false
set_option maxRecDepth 100000
set_option maxHeartbeats 64000000
namespace Go.Vs.YtcjeehebikeghaaGreatDoor.Rc
open Go.Proofs Go.Vs.U8 Go.Vs.Pa Go.Vs.Cv Go.Vs.Mo Go.Vs.Nu
theorem aed{a b:Ru}(k:a.f=b.f)(l:a.i=b.i)(m:a.c=b.c)(n:a.u.k=b.u.k)(o:a.u.s=b.u.s)(p:a.w=b.w)(q:a.l7=b.l7)(d:∀j,j∈cC->j≠7->Zt a j=Zt b j):a=b:=by
 have s:a.l4=b.l4:=d 4 (by simp[cC]) (by omega);have u:a.l5=b.l5:=d 5 (by simp[cC]) (by omega);have v:a.l6=b.l6:=d 6 (by simp[cC]) (by omega);have x:a.l8=b.l8:=d 8 (by simp[cC]) (by omega);have y:a.l9=b.l9:=d 9 (by simp[cC]) (by omega);have e:a.l10=b.l10:=d 10 (by simp[cC]) (by omega);have g:a.l11=b.l11:=d 11 (by simp[cC]) (by omega);have h:a.l12=b.l12:=d 12 (by simp[cC]) (by omega);obtain⟨f,i,c,⟨N,O⟩,P,Q,R,S,U,V,l10,C,D,w⟩:=a;obtain⟨W,X,Y,⟨E,F⟩,H,I,J,K,L,M,z,A,B,Z⟩:=b;simp only at k l m n o p q s u v x y e g h;subst k l m n o p q s u v x y e g h;rfl
theorem VI(a b:Ru)(u:uW a)(v:uW b):Fn G2 T_ 52 [a.iv,b.iv] (.bool (decide (a=b))):=by
 refine ae hm KM (by simp) ?_;obtain⟨M,N,O,P,Q,R,w,x,y⟩:=u;obtain⟨S,U,V,W,X,Y,z,A,B⟩:=v;have C:=up (hJ a.l4 b.l4 (by omega) (by omega));have D:=up (hJ a.l5 b.l5 (by omega) (by omega));have E:=up (hJ a.l6 b.l6 (by omega) (by omega));have F:=up (Qu a.l7 b.l7 (by omega) (by omega));have H:=up (hJ a.l8 b.l8 (by omega) (by omega));have I:=up (hJ a.l9 b.l9 (by omega) (by omega));have k:=up (hJ a.l10 b.l10 (by omega) (by omega));have l:=up (hJ a.l11 b.l11 (by omega) (by omega));have m:=up (hJ a.l12 b.l12 (by omega) (by omega));unfold Ru.iv cells;simp[CP];by_cases e0:a.f=b.f
 ·skip;by_cases e1:a.i=b.i
  ·skip;by_cases e2:a.c=b.c
   ·skip;by_cases h:a.u.k=b.u.k
    ·skip;by_cases e4:a.u.s=b.u.s
     ·skip;by_cases e5:a.w=b.w
      ·skip;simp(disch:=omega)[wl,e0,e1,e2,h,e4,e5];refine aa C ?_;by_cases n:a.l4=b.l4
       ·simp(disch:=omega)[wl,n];refine aa D ?_;by_cases o:a.l5=b.l5
        ·simp(disch:=omega)[wl,o];refine aa E ?_;by_cases p:a.l6=b.l6
         ·simp(disch:=omega)[wl,p];refine aa F ?_;by_cases i:a.l7=b.l7
          ·simp(disch:=omega)[wl,i];refine aa H ?_;by_cases q:a.l8=b.l8
           ·simp(disch:=omega)[wl,q];refine aa I ?_;by_cases s:a.l9=b.l9
            ·simp(disch:=omega)[wl,s];refine aa k ?_;by_cases d:a.l10=b.l10
             ·simp(disch:=omega)[wl,d];refine aa l ?_;by_cases f:a.l11=b.l11
              ·simp(disch:=omega)[wl,f];refine aa m ?_;by_cases g:a.l12=b.l12
               ·simp(disch:=omega)[wl,g];have J:a=b:=aed e0 e1 e2 h e4 e5 i (fun j K L=>by rcases k8 K L with rfl|rfl|rfl|rfl|rfl|rfl|rfl|rfl<;>assumption);simp[J]
               ·have c:¬a=b:=fun e=>g (by rw[e])
                simp(disch:=omega)[wl,g,c]
              ·have c:¬a=b:=fun e=>f (by rw[e])
               simp(disch:=omega)[wl,f,c]
             ·have c:¬a=b:=fun e=>d (by rw[e])
              simp(disch:=omega)[wl,d,c]
            ·have c:¬a=b:=fun e=>s (by rw[e])
             simp(disch:=omega)[wl,s,c]
           ·have c:¬a=b:=fun e=>q (by rw[e])
            simp(disch:=omega)[wl,q,c]
          ·have c:¬a=b:=fun e=>i (by rw[e])
           simp(disch:=omega)[wl,i,c]
         ·have c:¬a=b:=fun e=>p (by rw[e])
          simp(disch:=omega)[wl,p,c]
        ·have c:¬a=b:=fun e=>o (by rw[e])
         simp(disch:=omega)[wl,o,c]
       ·have c:¬a=b:=fun e=>n (by rw[e])
        simp(disch:=omega)[wl,n,c]
      ·have c:¬a=b:=fun e=>e5 (by rw[e])
       simp(disch:=omega)[wl,e0,e1,e2,h,e4,e5,c]
     ·have c:¬a=b:=fun e=>e4 (by rw[e])
      simp(disch:=omega)[wl,e0,e1,e2,h,e4,c]
    ·have c:¬a=b:=fun e=>h (by rw[e])
     simp(disch:=omega)[wl,e0,e1,e2,h,c]
   ·have c:¬a=b:=fun e=>e2 (by rw[e])
    simp(disch:=omega)[wl,e0,e1,e2,c]
  ·have c:¬a=b:=fun e=>e1 (by rw[e])
   simp(disch:=omega)[wl,e0,e1,c]
 ·have c:¬a=b:=fun e=>e0 (by rw[e])
  simp(disch:=omega)[wl,e0,c]
theorem YH(r:Ru)(a:uW r):Fn G2 T_ 54 [r.iv] r.iv:=by
 refine ae hm KN (by simp) ?_;obtain⟨f,g,h,i,j,k,b,c,d⟩:=a;have e:=up (Y2 r.l7 (by omega));unfold Ru.iv cells;simp[CR];refine aa e ?_;simp(disch:=omega)[wl]
 first|rfl|(refine⟨rfl,?_⟩;rfl)|(refine⟨rfl,?_⟩;simp(disch:=omega)[wl])
open Go.Lib
def tx(l:List (Nat×Str)):List Str:=l.map fun p=>eqS p.1 p.2
theorem ts_app(a b:List Str):ts (a++b)=ts a++ts b:=by simp[ts]
def sp(l:List (Nat×Str)):Str:=join (tx l) [59]
def addS(b:Bool)(k:Nat)(v:Str):Str:=if b=true then 59::eqS k v else []
theorem VJ(r:Ru)(k:Nat)(h:k∈cC)(a:k≠7):jL G2 T_ 204
  {args:=[.loc 1000 0,.val (.int .i64 k)],objs:=[(1000,.box (dY r))],res:=.loc 1000 (k+1),objs':=[(1000,.box (dY r))],ro':=[] }:=by
 refine aN hm jq (by simp) rfl ?_;simp[fU,ji,dY];rcases k8 h a with rfl|rfl|rfl|rfl|rfl|rfl|rfl|rfl <;>
 ·simp(disch:=omega)[wl];simp[dc];exact⟨⟨[(4,.loc 1000 _)],[(1000,.box (dY r))],[],44,G2⟩,ag rfl rfl (by simp[aI,ap,ac]) (by simp[bD,ac,dY]) (by simp[bB]),by simp[dY],[],rfl,rfl,rfl⟩
def Bg{a:Type} : GotE a->List a
 |.ok l=>l
 |.no _ _=>[]
def xq{a:Type} : GotE a->IV
 |.ok _=>.nili
 |.no e p=>dq e [(p:Int)]
theorem aa9(R:GotE Dn):FG R=.tuple [.slice (sX (Bg R)),xq R]:=by cases R<;>rfl
theorem aba(R:GotE Int):FF R=.tuple [.slice (is (Bg R)),xq R]:=by cases R<;>rfl
theorem Om(r:Ru)(k:Nat)(h:k∈cC)(a:k≠7)(v:Str)(e:v.length<1000000):jL G2 T_ 219
  {args:=[.loc 1000 0,.val (.int .i64 k),.val (.str v)],objs:=[(1000,.box (dY r))],res:=.val (xq (bK (cF 5 (MD k) (ME k) (RC k)) v)),objs':=[(1000,.box (dY (eJ r k (Bg (bK (cF 5 (MD k) (ME k) (RC k)) v)))))],ro':=[] }:=by
 refine aN hm gU (by simp) rfl ?_;have c:=fn_within k (by simp[cC]at h;omega);have b:=up (aaO (MD k) (ME k) (RC k) v e);rw[aba]at b;obtain⟨R,f⟩:∃R,bK (cF 5 (MD k) (ME k) (RC k)) v=R:=⟨_,rfl⟩;rw[f]at b |-;have g:=VJ r k h a;unfold wiI at c;simp[ei,ji];simp(disch:=omega)[wl,a];refine aa c ?_;simp(disch:=omega)[wl];refine aa b ?_;simp(disch:=omega)[wl];refine callM [] [] g rfl rfl ⟨rfl,trivial⟩ ⟨rfl,[],[],rfl,rfl,rfl⟩ rfl ?_;rcases k8 h a with rfl|rfl|rfl|rfl|rfl|rfl|rfl|rfl
 ·simp(disch:=omega)[wl,dY];simp[dc];exact⟨⟨[(6,.val (xq R))],[(1000,.box (dY (eJ r 4 (Bg R))))],[],43,G2⟩,ag rfl rfl (by simp[aI,ap,ac]) (by simp[bD,ac,dY,eJ]) (by simp[bB]),by simp[dY,eJ],[],rfl,rfl,rfl⟩
 ·simp(disch:=omega)[wl,dY];simp[dc];exact⟨⟨[(6,.val (xq R))],[(1000,.box (dY (eJ r 5 (Bg R))))],[],43,G2⟩,ag rfl rfl (by simp[aI,ap,ac]) (by simp[bD,ac,dY,eJ]) (by simp[bB]),by simp[dY,eJ],[],rfl,rfl,rfl⟩
 ·simp(disch:=omega)[wl,dY];simp[dc];exact⟨⟨[(6,.val (xq R))],[(1000,.box (dY (eJ r 6 (Bg R))))],[],43,G2⟩,ag rfl rfl (by simp[aI,ap,ac]) (by simp[bD,ac,dY,eJ]) (by simp[bB]),by simp[dY,eJ],[],rfl,rfl,rfl⟩
 ·simp(disch:=omega)[wl,dY];simp[dc];exact⟨⟨[(6,.val (xq R))],[(1000,.box (dY (eJ r 8 (Bg R))))],[],43,G2⟩,ag rfl rfl (by simp[aI,ap,ac]) (by simp[bD,ac,dY,eJ]) (by simp[bB]),by simp[dY,eJ],[],rfl,rfl,rfl⟩
 ·simp(disch:=omega)[wl,dY];simp[dc];exact⟨⟨[(6,.val (xq R))],[(1000,.box (dY (eJ r 9 (Bg R))))],[],43,G2⟩,ag rfl rfl (by simp[aI,ap,ac]) (by simp[bD,ac,dY,eJ]) (by simp[bB]),by simp[dY,eJ],[],rfl,rfl,rfl⟩
 ·simp(disch:=omega)[wl,dY];simp[dc];exact⟨⟨[(6,.val (xq R))],[(1000,.box (dY (eJ r 10 (Bg R))))],[],43,G2⟩,ag rfl rfl (by simp[aI,ap,ac]) (by simp[bD,ac,dY,eJ]) (by simp[bB]),by simp[dY,eJ],[],rfl,rfl,rfl⟩
 ·simp(disch:=omega)[wl,dY];simp[dc];exact⟨⟨[(6,.val (xq R))],[(1000,.box (dY (eJ r 11 (Bg R))))],[],43,G2⟩,ag rfl rfl (by simp[aI,ap,ac]) (by simp[bD,ac,dY,eJ]) (by simp[bB]),by simp[dY,eJ],[],rfl,rfl,rfl⟩
 ·simp(disch:=omega)[wl,dY];simp[dc];exact⟨⟨[(6,.val (xq R))],[(1000,.box (dY (eJ r 12 (Bg R))))],[],43,G2⟩,ag rfl rfl (by simp[aI,ap,ac]) (by simp[bD,ac,dY,eJ]) (by simp[bB]),by simp[dY,eJ],[],rfl,rfl,rfl⟩
theorem On(r:Ru)(v:Str)(b:v.length<1000000):jL G2 T_ 219
  {args:=[.loc 1000 0,.val (.int .i64 7),.val (.str v)],objs:=[(1000,.box (dY r))],res:=.val (xq (bK nS v)),objs':=[(1000,.box (dY {r with l7:=Bg (bK nS v) }))],ro':=[] }:=by
 refine aN hm gU (by simp) rfl ?_;have a:=up (aaP v b);rw[aa9]at a;obtain⟨R,c⟩:∃R,bK nS v=R:=⟨_,rfl⟩;rw[c]at a |-;simp[ei,ji];refine aa a ?_;simp(disch:=omega)[wl,dY];simp[dc];exact⟨⟨[(6,.val (xq R))],[(1000,.box (dY {r with l7:=Bg R }))],[],43,G2⟩,ag rfl rfl (by simp[aI,ap,ac]) (by simp[bD,ac,dY]) (by simp[bB]),by simp[dY],[],rfl,rfl,rfl⟩
def frP(v:Str):Nat:=min (gT.idxOf v) 6
def tkP(r:Ru)(k:Nat)(v:Str):Ru×Int:=
 if k=0 then ({r with f:=(frP v:Nat) },if gT.idxOf v<7 then 0 else 11)
 else if k=1 then ({r with u:=(fu v).1 },(fu v).2)
 else if k=2 then ({r with c:=(cF 5 1 1000 false v).1 },(cF 5 1 1000 false v).2)
 else if k=3 then ({r with i:=(cF 5 1 1000 false v).1 },(cF 5 1 1000 false v).2)
 else ({r with w:=vO v },if vO v<0 then 4 else 0)
def yF(e:Int):IV:=if e=0 then .nili else dq e [0]
theorem abb{v:Str}{k:Nat}(h:k<gT.idxOf v)(a:k<=6):¬tL k=v:=fun e=>by
 have:=List.not_of_lt_findIdx (p:=(· == v)) (xs:=gT) (i:=k) h;subst e;rcases k7 a with rfl|rfl|rfl|rfl|rfl|rfl|rfl<;>exact Bool.noConfusion (show true=false from this)
theorem fnM_take(r:Ru)(k:Nat)(M:k=0\/k=1\/k=2\/k=3\/k=13)(v:Str)(F:v.length<1000000):jL G2 T_ 221
  {args:=[.loc 1000 0,.val (.int .i64 k),.val (.str v)],objs:=[(1000,.box (dY r))],res:=.val (yF (tkP r k v).2),objs':=[(1000,.box (dY (tkP r k v).1))],ro':=[] }:=by
 refine aN hm qr (by simp) rfl ?_;obtain⟨⟨R,e⟩,hT⟩:∃p,tkP r k v=p:=⟨_,rfl⟩;rw[hT];have n:=up (fP e 0);have H:(if e=0 then IV.nili else dq e [0])=yF e:=rfl;rw[H]at n;simp[jM,ji];rcases M with rfl|rfl|rfl|rfl|rfl
 ·simp only[tkP]at hT;rw[if_pos trivial]at hT;obtain⟨X,x⟩:∃X,gT.idxOf v=X:=⟨_,rfl⟩;have N:X<=7:=by rw[<-x];exact List.idxOf_le_length
  have I:frP v=min X 6:=by unfold frP;rw[x]
  have y:X<7->tL X=v:=fun h=>by
   have D:gT.idxOf v<gT.length:=by rw[x];exact h
   have J:=List.getElem_idxOf D;unfold tL;rw[List.getD_eq_getElem?_getD,<-x,List.getElem?_eq_getElem D,J];rfl
  have z:∀i,i<X->i<=6->¬tL i=v:=fun i D J=>abb (by rw[x];exact D) J
  rw[x,I]at hT;obtain⟨Y,O⟩:∃Y,min X 6=Y:=⟨_,rfl⟩;rw[O]at hT;obtain⟨rfl,o⟩:=Prod.mk.inj hT;simp(disch:=omega)[wl,dY];refine be hm [] (fun _:Nat=>[]) (fun i=>[(1000,.box (dY {r with f:=(i:Nat) }))]) (fun i=>i<=min X 6) (fun i=>6-i) 0 (by omega) ?_ ?_
  ·simp[dY];exact bp
  intro i S;have q:=aa3 i (by omega);simp[dY];have L:∀A B C:Prop,A->B->C->A/\B/\C:=fun _ _ _ a b c=>⟨a,b,c⟩
  by_cases Q:i<6
  ·simp(disch:=omega)[wl,Q];refine aa q ?_;by_cases K:i=X
   ·have E:tL i=v:=by rw[K];exact y (by omega)
    obtain rfl:i=Y:=by omega
    rw[if_pos (by omega)]at o;subst o;simp(disch:=omega)[wl,E];rw[E]at q;refine aa q ?_;simp(disch:=omega)[wl];refine aa n ?_;simp(disch:=omega)[wl];simp[dc];exact⟨⟨[(6,.val (yF 0))],[(1000,.box (dY {r with f:=((i:Nat):Int) }))],[],91,G2⟩,ag rfl rfl (by simp[aI,ap,ac]) (by simp[bD,ac,dY]) (by simp[bB]),by simp[dY],[],rfl,rfl,rfl⟩
   ·have s:=z i (by omega) (by omega);simp(disch:=omega)[wl,s];refine ai (i+1) (by omega) (by omega) ?_;simp[dY];exact bp
  ·obtain rfl:i=6:=by omega
   simp(disch:=omega)[wl];refine aa q ?_;by_cases K:X=6
   ·obtain rfl:6=Y:=by omega
    have E:tL 6=v:=by have:=y (by omega);rwa[K]at this
    rw[if_pos (by omega)]at o;subst o;simp(disch:=omega)[wl,E];refine aa n ?_;simp(disch:=omega)[wl];simp[dc];exact⟨⟨[(6,.val (yF 0))],[(1000,.box (dY {r with f:=((6:Nat):Int) }))],[],91,G2⟩,ag rfl rfl (by simp[aI,ap,ac]) (by simp[bD,ac,dY]) (by simp[bB]),by simp[dY],[],rfl,rfl,rfl⟩
   ·obtain rfl:6=Y:=by omega
    have s:=z 6 (by omega) (by omega);rw[if_neg (by omega)]at o;subst o;simp(disch:=omega)[wl,s];refine aa n ?_;simp(disch:=omega)[wl];simp[dc];exact⟨⟨[(6,.val (yF 11))],[(1000,.box (dY {r with f:=((6:Nat):Int) }))],[],91,G2⟩,ag rfl rfl (by simp[aI,ap,ac]) (by simp[bD,ac,dY]) (by simp[bB]),by simp[dY],[],rfl,rfl,rfl⟩
 ·have l:=yl v F;simp only[tkP]at hT;rw[if_neg (by omega),if_pos trivial]at hT;obtain⟨P,g⟩:∃P,fu v=P:=⟨_,rfl⟩;rw[g]at l hT;obtain⟨rfl,rfl⟩:=Prod.mk.inj hT;unfold eX at l;simp(disch:=omega)[wl];refine aa l ?_;simp(disch:=omega)[wl,dY];refine aa n ?_;simp(disch:=omega)[wl];simp[dc];exact⟨⟨[(6,.val (yF P.2))],[(1000,.box (dY {r with u:=P.1 }))],[],91,G2⟩,ag rfl rfl (by simp[aI,ap,ac]) (by simp[bD,ac,dY]) (by simp[bB]),by simp[dY],[],rfl,rfl,rfl⟩
 ·have l:=up (H0 1 1000 false v F);simp only[tkP]at hT;rw[if_neg (by omega),if_neg (by omega),if_pos trivial]at hT;obtain⟨P,g⟩:∃P,cF 5 1 1000 false v=P:=⟨_,rfl⟩;rw[g]at l hT;obtain⟨rfl,rfl⟩:=Prod.mk.inj hT;unfold Vr at l;simp(disch:=omega)[wl];refine aa l ?_;by_cases m:P.2=0
  ·rw[if_pos m];rw[m]at n;simp(disch:=omega)[wl,dY];refine aa (up wA) ?_;simp(disch:=omega)[wl];refine aa n ?_;simp(disch:=omega)[wl];simp[dc];exact⟨⟨[(6,.val (yF P.2))],[(1000,.box (dY {r with c:=P.1 }))],[],91,G2⟩,ag rfl rfl (by simp[aI,ap,ac,m]) (by simp[bD,ac,dY]) (by simp[bB]),by simp[dY],[],rfl,rfl,rfl⟩
  ·rw[if_neg m];simp(disch:=omega)[wl,dY];refine aa (up (uv P.2 [0])) ?_;simp(disch:=omega)[wl];refine aa n ?_;simp(disch:=omega)[wl];simp[dc];exact⟨⟨[(6,.val (yF P.2))],[(1000,.box (dY {r with c:=P.1 }))],[],91,G2⟩,ag rfl rfl (by simp[aI,ap,ac]) (by simp[bD,ac,dY]) (by simp[bB]),by simp[dY],[],rfl,rfl,rfl⟩
 ·have l:=up (H0 1 1000 false v F);simp only[tkP]at hT;rw[if_neg (by omega),if_neg (by omega),if_neg (by omega),if_pos trivial]at hT;obtain⟨P,g⟩:∃P,cF 5 1 1000 false v=P:=⟨_,rfl⟩;rw[g]at l hT;obtain⟨rfl,rfl⟩:=Prod.mk.inj hT;unfold Vr at l;simp(disch:=omega)[wl];refine aa l ?_;by_cases m:P.2=0
  ·rw[if_pos m];rw[m]at n;simp(disch:=omega)[wl,dY];refine aa (up wA) ?_;simp(disch:=omega)[wl];refine aa n ?_;simp(disch:=omega)[wl];simp[dc];exact⟨⟨[(6,.val (yF P.2))],[(1000,.box (dY {r with i:=P.1 }))],[],91,G2⟩,ag rfl rfl (by simp[aI,ap,ac,m]) (by simp[bD,ac,dY]) (by simp[bB]),by simp[dY],[],rfl,rfl,rfl⟩
  ·rw[if_neg m];simp(disch:=omega)[wl,dY];refine aa (up (uv P.2 [0])) ?_;simp(disch:=omega)[wl];refine aa n ?_;simp(disch:=omega)[wl];simp[dc];exact⟨⟨[(6,.val (yF P.2))],[(1000,.box (dY {r with i:=P.1 }))],[],91,G2⟩,ag rfl rfl (by simp[aI,ap,ac]) (by simp[bD,ac,dY]) (by simp[bB]),by simp[dY],[],rfl,rfl,rfl⟩
 ·have l:=up (Ix v);simp only[tkP]at hT;rw[if_neg (by omega),if_neg (by omega),if_neg (by omega),if_neg (by omega)]at hT;obtain⟨P,g⟩:∃P,vO v=P:=⟨_,rfl⟩;rw[g]at l hT;obtain⟨rfl,o⟩:=Prod.mk.inj hT;simp(disch:=omega)[wl];refine aa l ?_;by_cases m:P<0
  ·rw[if_pos m]at o;subst o;simp(disch:=omega)[wl,dY,m];refine aa n ?_;simp(disch:=omega)[wl];simp[dc];exact⟨⟨[(6,.val (yF 4))],[(1000,.box (dY {r with w:=P }))],[],91,G2⟩,ag rfl rfl (by simp[aI,ap,ac]) (by simp[bD,ac,dY]) (by simp[bB]),by simp[dY],[],rfl,rfl,rfl⟩
  ·rw[if_neg m]at o;subst o;simp(disch:=omega)[wl,dY,m];refine aa n ?_;simp(disch:=omega)[wl];simp[dc];exact⟨⟨[(6,.val (yF 0))],[(1000,.box (dY {r with w:=P }))],[],91,G2⟩,ag rfl rfl (by simp[aI,ap,ac]) (by simp[bD,ac,dY]) (by simp[bB]),by simp[dY],[],rfl,rfl,rfl⟩
theorem FY{c:Type} [DecidableEq c]{one:Str->c×Int} : ∀ {L:List Str} {a:Nat} {b l:List c},em one L a b=.ok l->b.length<=12->l.length<=12
 |[],a,b,l,h,d=>by simp only[em,GotE.ok.injEq]at h;rw[<-h];exact d
 |x::r,a,b,l,h,d=>by
  simp only[em]at h;split at h
  ·cases h
  ·split at h
   ·cases h
   ·split at h
    ·cases h
    ·exact FY h (by simp;omega)
theorem uX{a:Type} [DecidableEq a]{one:Str->a×Int}{s:Str}{l:List a}(h:bK one s=.ok l):l.length<=12:=FY h (by simp)
theorem YI(r:Ru)(k:Nat)(a:k=0\/k=1\/k=2\/k=3\/k=13)(v:Str):tM r k v=if (tkP r k v).2=0 then .ok (tkP r k v).1 else .no (tkP r k v).2 []:=by
 rcases a with rfl|rfl|rfl|rfl|rfl
 ·simp only[tM,tkP,frP,if_true];by_cases h:gT.idxOf v<7
  ·rw[if_pos h,if_pos h,if_pos rfl];congr 2;omega
  ·rw[if_neg h,if_neg h,if_neg (by decide)]
 ·rfl
 ·rfl
 ·rfl
 ·show(if vO v<0 then TkR.no 4 []else .ok {r with w:=vO v })=if (if vO v<0 then (4:Int)else 0)=0 then .ok {r with w:=vO v } else .no (if vO v<0 then (4:Int)else 0) []
  by_cases h:vO v<0
  ·rw[if_pos h,if_pos h,if_neg (by decide)]
  ·rw[if_neg h,if_neg h,if_pos rfl]
theorem YJ(r:Ru)(k:Nat)(h:k∈cC)(a:k≠7)(v:Str):tM r k v=match bK (cF 5 (MD k) (ME k) (RC k)) v with
  |.ok l=>.ok (eJ r k l)
  |.no e p=>.no e [(p:Int)]:=by
 unfold tM;have:=k8 h a;rw[if_neg (by omega),if_neg (by omega),if_neg (by omega),if_neg (by omega),if_neg (by omega),if_neg (by omega)];cases bK (cF 5 (MD k) (ME k) (RC k)) v<;>rfl
theorem YK(r:Ru)(v:Str):tM r 7 v=match bK nS v with
  |.ok l=>.ok {r with l7:=l }
  |.no e p=>.no e [(p:Int)]:=by
 unfold tM;rw[if_neg (by omega),if_neg (by omega),if_neg (by omega),if_neg (by omega),if_pos rfl];cases bK nS v<;>rfl
def Fin(r:Ru):Prop:=uW r/\0<=r.u.k/\0<=r.f
theorem YL(s:Str):0<=nZ s:=by
 rcases uO s with⟨h,_⟩|⟨h,_⟩|⟨h,_⟩|⟨h,_⟩<;>omega
theorem ade(s:Str):0<=(fu s).1.k:=by
 unfold fu;split
 ·simp
 ·split
  ·simp
  ·exact YL s
theorem SO{r:Ru}(k:Nat)(v:Str)(h:Fin r):Fin (tkP r k v).1:=by
 obtain⟨a,b,c⟩:=h;unfold tkP;split
 ·exact⟨a,b,by simp⟩
 ·split
  ·exact⟨a,ade v,c⟩
  ·split
   ·exact⟨a,b,c⟩
   ·split
    ·exact⟨a,b,c⟩
    ·exact⟨a,b,c⟩
theorem YM{r:Ru}{k:Nat}{l:List Int}(g:l.length<=12)(h:Fin r):Fin (eJ r k l):=by
 obtain⟨⟨i,j,m,n,o,p,a,b,c⟩,e,f⟩:=h;unfold eJ;split<;>exact⟨⟨by first|assumption|(simp only;omega),by first|assumption|(simp only;omega),by first|assumption|(simp only;omega),by first|assumption|(simp only;omega),by first|assumption|(simp only;omega),by first|assumption|(simp only;omega),by first|assumption|(simp only;omega),by first|assumption|(simp only;omega),by first|assumption|(simp only;omega)⟩,e,f⟩
theorem YN{r:Ru}{l:List Dn}(o:l.length<=12)(h:Fin r):Fin {r with l7:=l }:=by
 obtain⟨⟨e,f,g,p,i,j,a,b,c⟩,m,n⟩:=h;exact⟨⟨e,f,g,by simp only;omega,i,j,a,b,c⟩,m,n⟩
def VK:RuR->IV
 |.no e p=>.tuple [Ws.iv,dq e p]
 |.ok r=>.tuple [r.iv,.nili]
def QQ(a:List Nat):List SV:=(List.range 14).map fun j=>.val (.bool (decide (j∈a)))
theorem yn(a:List Nat){k:Nat}(h:k<14):(QQ a)[k]?=some (.val (.bool (decide (k∈a)))):=by simp[QQ,h]
theorem D8(a:List Nat):(QQ a).length=14:=by simp[QQ]
theorem abc(a:List Nat){k:Nat}(h:k<14):(QQ a).set k (.val (.bool true))=QQ (k::a):=by
 apply List.ext_getElem?;intro j;by_cases c:j=k
 ·subst c;simp[QQ,h]
 ·have:¬k=j:=fun e=>c e.symm
  rw[List.getElem?_set_ne this];by_cases b:j<14
  ·rw[yn a b,yn _ b];simp[c]
  ·rw[List.getElem?_eq_none (by rw[D8];omega),List.getElem?_eq_none (by rw[D8];omega)]
theorem U5:QQ []=SM:=by rfl
end Go.Vs.YtcjeehebikeghaaGreatDoor.Rc
namespace Go.Vs.YtcjeehebikeghaaGreatDoor.Rc
open Go Go.Vs Go.Proofs
def Jd:SV->SV
 |.nils=>.val (.slice [])
 |x=>x
theorem MN{w:World}{S:ba}{c:Nat->Value}{objs:List (Nat×Ob)} : ∀ {b:List SV} {l:List Value},ak w S c objs b l->ak w S c objs (b.map Jd) l
 |[],l,h=>h
 |x::r,l,⟨v,t,e,f,d,g⟩=>by
  refine⟨v,t,e,f,?_,MN g⟩;cases x with
  |nils=>
   obtain⟨a,rfl⟩:∃a,v=.slice a 0 0:=d;exact⟨a,0,rfl,by first|exact Nat.le_refl _|trivial|simp,by simp⟩
  |_=>exact d
theorem yo{g:St}{d:Nat}{c:List SV}(o:ac g.objs d=some (.box c))(i:g.ro.contains d=false):cH g {g with objs:=put g.objs d (.box (c.map Jd)) }:=by
 rintro w0 A M a w ⟨S,B,C,h⟩;obtain⟨b,vs,p,fr,s,l,f,m,n⟩:=h.objs d _ o
 have u:=h.write (id:=d) (x':=.box (c.map Jd)) (w':=w) o s (vs:=vs) (e:=p) (fr:=fr) ⟨rfl,rfl,rfl,rfl,fun _ _=>rfl,f,fun _ _ h=>h⟩ (by
  intro z;have:g.ro.contains d=true:=by simpa using z
  rw[this]at i;cases i) (.inl ⟨_,_,rfl,rfl⟩) ⟨b,vs,p,fr,rfl,l,f,m,MN n⟩
 exact⟨S,_,_,u⟩
end Go.Vs.YtcjeehebikeghaaGreatDoor.Rc
namespace Go.Vs.YtcjeehebikeghaaGreatDoor.Rc
open Go.Proofs Go.Vs.U8 Go.Vs.Pa Go.Vs.Cv Go.Vs.Mo Go.Vs.Nu Go.Lib
def bz:List SV:=[.val (.int .u8 0),.val (.int .i64 0),.val (.int .i64 0),.val (.int .u8 0),.val (.int .i64 0),.nils,.nils,.nils,.nils,.nils,.nils,.nils,.nils,.nils,.val (.int .i64 0)]
theorem kP:Ws.iv=.agg [.int .u8 0,.int .i64 0,.int .i64 0,.int .u8 0,.int .i64 0,.slice [],.slice [],.slice [],.slice [],.slice [],.slice [],.slice [],.slice [],.slice [],.int .i64 0]:=rfl
theorem U6(a:List Nat){k:Nat}(h:k<14):(QQ a).take k++.val (.bool true)::(QQ a).drop (k+1)=QQ (k::a):=by
 rw[<-abc a h,List.set_eq_take_append_cons_drop,if_pos (by rw[D8];exact h)]
theorem H2(x:Ru):rQ [(1000,4)] (dY x)=dY x:=rfl
theorem YO(x:Str)(h:iH.idxOf x<iH.length):SD iH x=(iH.idxOf x:Nat):=TQ h (List.getElem_idxOf h) (fun a=>by
 rw[List.mem_take_iff_getElem]at a;obtain⟨j,b,e⟩:=a;have:=List.not_of_lt_findIdx (p:=(· == x)) (xs:=iH) (i:=j) (by show j<iH.idxOf x;omega)
 simp[e]at this)
structure PSt where
 i:Nat
 a:Nat
 was:List Nat
 r:Ru
theorem SP(s:Str)(hs:s.length<90000):Fn G2 T_ 152 [.str s] (VK (kD s)):=by
 refine ae hm J2 (by simp) ?_;have H:=up (wF s 59 (by omega));obtain⟨R,N⟩:∃R,kD s=R:=⟨_,rfl⟩;rw[N];unfold kD at N;have B:=EF 59 s.length s (Nat.le_refl _);obtain⟨P,hP⟩:∃P,parts 59 s=P:=⟨_,rfl⟩;rw[hP]at N H B
 have b':P.length<=s.length+1:=by
  have:∀l:List Str,l.length<=SK l:=fun l=>by
   induction l with
   |nil=>simp
   |cons x l ih=>rw[yi,List.length_cons];omega
  have:=this P;omega
 simp[zU,SM];refine aa H ?_;simp(disch:=omega)[wl,aQ]
 refine M9 hm (fun x:PSt=>⟨[(21,.val (.int .i64 x.i)),(20,.val (.int .i64 P.length)),(19,.val (.slice (ts P))),(6,.val (.int .i64 x.a)),(5,.loc 5 0),(4,.loc 4 0),(3,.val .nili),(2,.loc 2 0),(0,.val (.str s))],[(5,.box (QQ x.was)),(4,.box (dY x.r)),(2,.box bz)],[],107,G2⟩)
  (fun x=>x.i<=P.length/\x.a+SK (P.drop x.i)=s.length+1/\im s.length (P.drop x.i) x.a x.was x.r=R/\Fin x.r) (fun x=>P.length-x.i) ⟨0,0,[],TZ⟩ ⟨by simp,by simpa using B,by simpa using N,⟨by simp[uW,TZ],by simp[TZ],by simp[TZ]⟩⟩ ?_ (fun _=>rfl) ?_
 ·exact cH.trans (yo (d:=4) rfl rfl) (ag rfl rfl (by simp[aI,ap,ac]) (by simp[bD,ac,put,dY,Jd,TZ,U5,SM,bz,is,sX]) (by simp[bB]))
 rintro⟨i,a,g,r⟩ ⟨h1,S,b,D⟩;simp only at h1 S b D;simp[bz];by_cases h:i<P.length
 ·obtain⟨p,hp⟩:∃p,P[i]=p:=⟨_,rfl⟩;have hg:=kM h hp;rw[List.drop_eq_getElem_cons h,hp]at S b;rw[yi]at S;have n:=ada p (by omega);unfold Yw at n;by_cases o:(61:UInt8)∈p
  ·rw[if_pos o]at n;have U:=List.idxOf_lt_length_iff.2 o;have O:=MM (p.take (p.idxOf 61));simp only[im]at b;rw[if_neg (by simpa using o)]at b;have hN:p.take (p.idxOf 61)=vH p:=rfl;have hV:p.drop (p.idxOf 61+1)=iX p:=rfl;rw[hN]at n O;rw[hV]at n;have u:(vH p).length=p.idxOf 61:=by rw[<-hN,List.length_take];omega
   obtain⟨I,J⟩:∃I,p.idxOf 61=I:=⟨_,rfl⟩;rw[J]at u U;have z:(iX p).length<1000000:=by rw[<-hV,List.length_drop];omega
   simp(disch:=omega)[wl,aQ,hg];refine aa n ?_;simp(disch:=omega)[wl];refine aa O ?_;by_cases K:zC p<14
   ·have F:SD iH (vH p)=(zC p:Nat):=YO _ K;rw[if_neg (by omega)]at b;obtain⟨k,L⟩:∃k,zC p=k:=⟨_,rfl⟩;rw[F,L];rw[L]at b K;have V:=yn g K;have W:=U6 g K;simp(disch:=omega)[wl,V];by_cases A:k∈g
    ·rw[if_pos A]at b;subst b;have c:=up (fP 19 a);rw[if_neg (by omega)]at c;simp(disch:=omega)[wl,A];refine⟨by omega,?_⟩;refine aa c ?_;simp(disch:=omega)[wl,VK,kP]
    ·rw[if_neg A]at b;have c':=D8 g;simp(disch:=omega)[wl,A,W];refine⟨by omega,by omega,?_⟩;by_cases d':4<=k
     ·by_cases j:k<=12
      ·have C:k∈cC:=by simp[cC];omega
       by_cases X:k=7
       ·subst X;rw[YK]at b;have m:=On r (iX p) z;obtain⟨E,M⟩:∃E,bK nS (iX p)=E:=⟨_,rfl⟩;rw[M]at m b;simp(disch:=omega)[wl];refine callM [(1000,4)] [] m rfl rfl ⟨rfl,trivial⟩ ⟨rfl,[],[],rfl,⟨[],[],rfl,rfl,rfl⟩,rfl⟩ rfl ?_;cases E with
        |ok l=>
         have j:=uX M;simp only at b;simp(disch:=omega)[wl,xq,Bg];refine ai ⟨i+1,a+p.length+1,7::g,{r with l7:=l }⟩ ⟨by simp only;omega,by simp only;omega,b,YN j D⟩ (by simp only;omega) ?_;simp[bz,H2];exact ag rfl rfl (by simp[aI,ap,ac];omega) (by simp[bD,ac]) (by simp[bB])
        |no e q=>
         simp only at b;rw[J]at b;subst b;have v:=up (abY e [(q:Int)] ((a:Int)+((vH p).length:Int)+1));simp only[dq]at v;simp(disch:=omega)[wl,xq,dq];refine aa v ?_;simp(disch:=omega)[wl,VK,kP,dq,u]
       ·rw[YJ r k C X]at b;have m:=Om r k C X (iX p) z;obtain⟨E,M⟩:∃E,bK (cF 5 (MD k) (ME k) (RC k)) (iX p)=E:=⟨_,rfl⟩;rw[M]at m b;simp(disch:=omega)[wl];refine callM [(1000,4)] [] m rfl rfl ⟨rfl,trivial⟩ ⟨rfl,[],[],rfl,⟨[],[],rfl,rfl,rfl⟩,rfl⟩ rfl ?_;cases E with
        |ok l=>
         have j:=uX M;simp only at b;simp(disch:=omega)[wl,xq,Bg];refine ai ⟨i+1,a+p.length+1,k::g,eJ r k l⟩ ⟨by simp only;omega,by simp only;omega,b,YM j D⟩ (by simp only;omega) ?_;simp[bz,H2];exact ag rfl rfl (by simp[aI,ap,ac];omega) (by simp[bD,ac]) (by simp[bB])
        |no e q=>
         simp only at b;rw[J]at b;subst b;have v:=up (abY e [(q:Int)] ((a:Int)+((vH p).length:Int)+1));simp only[dq]at v;simp(disch:=omega)[wl,xq,dq];refine aa v ?_;simp(disch:=omega)[wl,VK,kP,dq,u]
      ·skip;have w:k=0\/k=1\/k=2\/k=3\/k=13:=by omega
       rw[YI r k w]at b;have m:=fnM_take r k w (iX p) z;have f:=SO k (iX p) D;obtain⟨⟨Y,e⟩,hT⟩:∃T,tkP r k (iX p)=T:=⟨_,rfl⟩;rw[hT]at m b f;simp only at m b f;simp(disch:=omega)[wl];refine callM [(1000,4)] [] m rfl rfl ⟨rfl,trivial⟩ ⟨rfl,[],[],rfl,⟨[],[],rfl,rfl,rfl⟩,rfl⟩ rfl ?_;by_cases e0:e=0
       ·rw[if_pos e0]at b;simp only at b;subst e0;simp(disch:=omega)[wl,yF];refine ai ⟨i+1,a+p.length+1,k::g,Y⟩ ⟨by simp only;omega,by simp only;omega,b,f⟩ (by simp only;omega) ?_;simp[bz,H2];exact ag rfl rfl (by simp[aI,ap,ac];omega) (by simp[bD,ac]) (by simp[bB])
       ·rw[if_neg e0]at b;simp only at b;rw[J]at b;subst b;have y:=up (uv e [0]);have c:=up (fP e ((a:Int)+((vH p).length:Int)+1));rw[if_neg e0]at c;simp only[dq]at y c;simp(disch:=omega)[wl,yF,e0,dq];refine aa y ?_;simp(disch:=omega)[wl];refine aa c ?_;simp(disch:=omega)[wl,VK,kP,dq,u]
     ·skip;have w:k=0\/k=1\/k=2\/k=3\/k=13:=by omega
      rw[YI r k w]at b;have m:=fnM_take r k w (iX p) z;have f:=SO k (iX p) D;obtain⟨⟨Y,e⟩,hT⟩:∃T,tkP r k (iX p)=T:=⟨_,rfl⟩;rw[hT]at m b f;simp only at m b f;simp(disch:=omega)[wl];refine callM [(1000,4)] [] m rfl rfl ⟨rfl,trivial⟩ ⟨rfl,[],[],rfl,⟨[],[],rfl,rfl,rfl⟩,rfl⟩ rfl ?_;by_cases e0:e=0
      ·rw[if_pos e0]at b;simp only at b;subst e0;simp(disch:=omega)[wl,yF];refine ai ⟨i+1,a+p.length+1,k::g,Y⟩ ⟨by simp only;omega,by simp only;omega,b,f⟩ (by simp only;omega) ?_;simp[bz,H2];exact ag rfl rfl (by simp[aI,ap,ac];omega) (by simp[bD,ac]) (by simp[bB])
      ·rw[if_neg e0]at b;simp only at b;rw[J]at b;subst b;have y:=up (uv e [0]);have c:=up (fP e ((a:Int)+((vH p).length:Int)+1));rw[if_neg e0]at c;simp only[dq]at y c;simp(disch:=omega)[wl,yF,e0,dq];refine aa y ?_;simp(disch:=omega)[wl];refine aa c ?_;simp(disch:=omega)[wl,VK,kP,dq,u]
   ·have F:SD iH (vH p) = -1:=TS (fun Z=>K (List.idxOf_lt_length_iff.2 Z));rw[if_pos (by omega)]at b;subst b;rw[F];have c:=up (fP 11 a);rw[if_neg (by omega)]at c;simp(disch:=omega)[wl];refine aa c ?_;simp(disch:=omega)[wl,VK,kP]
  ·rw[if_neg o]at n;have O:=MM p;simp only[im]at b;rw[if_pos o]at b;subst b;have c:=up (fP 4 a);rw[if_neg (by omega)]at c;simp(disch:=omega)[wl,aQ,hg];refine aa n ?_;simp(disch:=omega)[wl];refine aa O ?_;simp(disch:=omega)[wl];refine aa c ?_;simp(disch:=omega)[wl,VK,kP]
 ·obtain rfl:i=P.length:=by omega
  rw[List.drop_length]at b;simp only[im,Yh]at b;have n:=EL r D.1 D.2.1;have a':=yn g (k:=0) (by omega);obtain⟨e,he⟩:∃e,jo r=e:=⟨_,rfl⟩;rw[he]at n b;unfold Ru.iv cells at n;simp(disch:=omega)[wl,aQ,a'];by_cases Q:0∈g
  ·rw[if_pos Q]at b;simp(disch:=omega)[wl,Q,dY];refine aa n ?_;by_cases e0:e=0
   ·rw[if_pos e0]at b;subst b;simp(disch:=omega)[wl,e0,VK,Ru.iv,cells]
   ·rw[if_neg e0]at b;subst b;have c:=up (fP e s.length);rw[if_neg e0]at c;simp(disch:=omega)[wl,e0];refine aa c ?_;simp(disch:=omega)[wl,VK,kP]
  ·rw[if_neg Q]at b;subst b;have c:=up (fP 6 s.length);rw[if_neg (by omega)]at c;simp(disch:=omega)[wl,Q];refine aa c ?_;simp(disch:=omega)[wl,VK,kP]
end Go.Vs.YtcjeehebikeghaaGreatDoor.Rc
