/- A part of a proof. No conditions. -/
import Derived.Test.YtcjeehebikeghaaGreatDoorVB
import Derived.Test.YtcjeehebikeghaaGreatDoorVA
import Derived.Test.YtcjeehebikeghaaGreatDoorBS
set_option linter.unusedVariables false
set_option linter.unusedSimpArgs false
set_option maxRecDepth 100000
set_option maxHeartbeats 16000000
namespace Go.Vs.YtcjeehebikeghaaGreatDoor.Vt
open Go.Proofs Go.Vs.U8 Go.Vs.Pa Go.Vs.Vt
abbrev Lif.iv(l:Lif):IV:=.agg [.int .u8 l.s,.int .i64 l.p,.int .i64 l.d]
theorem TH(x:Int):Fn G2 T_ 80 [.int .u8 x] (.tuple [.int .i64 (Bi x),.int .i64 (mM x)]):=by
 refine ag hm DN (by simp) ?_;simp[wo,Bi,mM,j9]
 grind
theorem Gw(l:Lif):Fn G2 T_ 31 [Lif.iv l] (.int .i64 (uQ l)):=by
 obtain⟨s,p,d⟩:=l;refine ag hm Bk (by simp) ?_;simp[uf];refine W9 (fun h1=>?_) (fun h1=>?_)<;>simp[h1]
 ·simp[uQ,h1]
 simp[j9];refine⟨fun h=>?_,fun h2=>⟨fun h=>?_,fun h3=>⟨fun h=>?_,fun h4=>⟨fun h=>?_,fun h5=>aa (TH s) ?_⟩⟩⟩⟩
 iterate 4 (unfold uQ;grind)
 simp[j9];unfold uQ
 grind
theorem TI:Fn G2 T_ 39 [] (Lif.iv Om):=by
 refine ag hm F0 (by simp) ?_;simp[yJ,Om]
theorem K2(s:Int):Fn G2 T_ 64 [.int .u8 s] (.str (sh s)):=by
 refine ag hm DL (by simp) ?_;simp[wm,j9];unfold sh
 grind
def Xa(p:Int×Int):IV:=.tuple [.int .u8 p.1,.int .i64 p.2]
theorem TJ{s:Int}(h:1<=s/\s<=4):IntKind.u8.wrap (s+1)=s+1:=by
 have:s=1\/s=2\/s=3\/s=4:=by omega
 rcases this with rfl|rfl|rfl|rfl<;>rfl
theorem K3{x:Str}{s:Int}(h:1<=s/\s<=4)(e:sh s=x):HQ x=(s,0):=by
 subst e;have:s=1\/s=2\/s=3\/s=4:=by omega
 rcases this with rfl|rfl|rfl|rfl<;>rfl
theorem Uy{x:Str}(h:∀t:Int,1<=t->t<5->sh t≠x):HQ x=(0,11):=by
 unfold HQ;rw[if_neg (fun e=>h 1 (by omega) (by omega) e.symm),if_neg (fun e=>h 2 (by omega) (by omega) e.symm),if_neg (fun e=>h 3 (by omega) (by omega) e.symm),if_neg (fun e=>h 4 (by omega) (by omega) e.symm)]
theorem On(x:Str):Fn G2 T_ 150 [.str x] (Xa (HQ x)):=by
 refine ag hm Bm (by simp) ?_;by_cases h0:x=[]
 ·subst h0;simp[oI];rfl
 simp[oI];simp(disch:=omega)[wl,h0];refine ce hm [] (fun s:Nat=>[(4,.val (.int .u8 s))]) (fun _=>[]) (fun s=>1<=s/\s<=5/\∀t:Int,1<=t->t<s->sh t≠x) (fun s=>5-s) 1 ⟨by omega,by omega,fun t h1 h2=>by omega⟩ ?_ ?_
 ·simp;exact bQ
 rintro s ⟨h1,h2,h3⟩;simp;by_cases h4:s<=4
 ·simp(disch:=omega)[wl];refine aa (K2 s) ?_;by_cases h5:sh s=x
  ·simp(disch:=omega)[wl,h5,K3 (s:=s) (by omega) h5,Xa]
  ·have e:=TJ (s:=s) (by omega);simp(disch:=omega)[wl,h5,e];refine au (s+1) ⟨by omega,by omega,fun t k1 k2=>?_⟩ (by omega) ?_
   ·by_cases ht:t=s
    ·subst ht;exact h5
    ·exact h3 t k1 (by omega)
   simp;exact bQ
 ·obtain rfl:s=5:=by omega
  simp(disch:=omega)[wl,Uy h3,Xa]
open Go.Vs.Nu
theorem K4(c:UInt8):Fn G2 T_ 323 [.int .u8 c.toNat] (.bool (dL c)):=by
 refine ag hm Bo (by simp) ?_;simp[uo,j9];simp only[dL]
 grind
def ze(p:Str×Nat×Nat):List SV:=[.val (.str p.1),.val (.int .i64 p.2.1),.val (.int .i64 p.2.2)]
theorem K5{s:Str}{j:Nat}(h:j<s.length){d:Nat}(hd:0<d):BE d (s.drop j)=if dL s[j]=true then BE (d-1) (s.drop (j+1))+1 else 0:=by
 rw[List.drop_eq_getElem_cons h];obtain⟨e,rfl⟩:∃e,d=e+1:=⟨d-1,by omega⟩;rfl
theorem wz{s:Str}{c:UInt8}{u m k:Nat}(h:jB s c=none):tk c u (s,m,k)=(s,m,k):=by unfold tk;rw[h]
theorem yV{s:Str}{c:UInt8}{u m k n:Nat}{r:Str}(h:jB s c=some (n,r)):tk c u (s,m,k)=(r,m+n*u,k+1):=by unfold tk;rw[h]
theorem VF(c:UInt8)(h:dL c=true):IntKind.u8.wrap ((c.toNat:Int)-48)=(c.toNat-48:Nat):=by
 have:=Hv h;rw[wrap_u8 (by omega) (by omega)];omega
theorem iZ(s:Str)(m k:Nat)(c:UInt8)(u:Nat)(hs:s.length<1000000)(hu:u<=604800)(hm':m<=1000000000000)(hk:k<=100):mP G2 T_ 279
  {args:=[.loc 1000 0,.val (.int .u8 c.toNat),.val (.int .i64 u)],objs:=[(1000,.box (ze (s,m,k)))],res:=.val (.bool (jB s c).isSome),objs':=[(1000,.box (ze (tk c u (s,m,k))))],ro':=[] }:=by
 refine bn hm oR (by simp) rfl ?_;simp[jD,nj,ze];refine J6 hm (fun j:Nat=>⟨[(7,.val (.int .i64 (bx 0 (s.take j):Nat))),(8,.val (.int .i64 j)),(0,.loc 1000 0),(1,.val (.int .u8 c.toNat)),(2,.val (.int .i64 u))],[(1000,.box [.val (.str s),.val (.int .i64 m),.val (.int .i64 k)])],[],90,G2⟩) (fun j=>j<=6/\j<=s.length/\(s.take j).all dL=true/\j+BE (6-j) (s.drop j)=BE 6 s) (fun j=>6-j) 0 ⟨by omega,by omega,rfl,by simp⟩ ?_ (fun _=>rfl) ?_
 ·have h0:bx 0 (s.take 0)=0:=rfl;rw[h0];exact bQ
 rintro j ⟨j1,j2,j3,j4⟩;have hv:=val_bd j3 (d:=6) (by rw[List.length_take];omega);simp;by_cases h:j<s.length/\j<6/\(∀h:j<s.length,dL s[j]=true)
 ·obtain⟨h1,h2,h3⟩:=h;have h3:=h3 h1;obtain⟨x,hx⟩:∃x,s[j]=x:=⟨_,rfl⟩;rw[hx]at h3;have hg:=K4 x;rw[h3]at hg;have hu8:=VF x h3;have hb:=Hv h3;have ht:s.take (j+1)=s.take j++[x]:=by rw[List.take_succ_eq_append_getElem h1,hx]
  simp(disch:=omega)[wl,h1,h2,hx];refine aa hg ?_;simp(disch:=omega)[wl,h1,hx,hu8];refine au (j+1) ⟨by omega,by omega,?_,?_⟩ (by omega) ?_
  ·rw[ht,List.all_append,j3];simp[h3]
  ·rw[<-j4,K5 h1 (by omega),hx,if_pos h3,show 6-(j+1)=6-j-1 by omega];omega
  simp[ht,D3];exact bQ
 ·have hj:j=BE 6 s:=by
   rw[<-j4];by_cases h2:j<6
   ·by_cases h1:j<s.length
    ·have:dL s[j]=false:=by
      cases hd:dL s[j]with
      |false=>rfl
      |true=>exact absurd ⟨h1,h2,fun _=>hd⟩ h
     rw[K5 h1 (by omega),this];simp
    ·rw[List.drop_eq_nil_of_le (by omega)];cases 6-j<;>rfl
   ·rw[show 6-j=0 by omega];rfl
  by_cases h1:j<s.length
  ·obtain⟨x,hx⟩:∃x,s[j]=x:=⟨_,rfl⟩;by_cases h2:j<6
   ·have h3:dL x=false:=by
     cases hd:dL x with
     |false=>rfl
     |true=>exact absurd ⟨h1,h2,fun _=>by rw[hx];exact hd⟩ h
    have hg:=K4 x;rw[h3]at hg;simp(disch:=omega)[wl,h1,h2,hx];refine aa hg ?_;simp(disch:=omega)[wl];by_cases e0:j=0
    ·have hn:jB s c=none:=by unfold jB;rw[<-hj,if_pos (.inl e0)]
     simp(disch:=omega)[wl,e0];rw[hn,wz hn];exact dP [(6,.val (.bool false))]
    ·by_cases e:x=c
     ·have hn:jB s c=some (bx 0 (s.take j),s.drop (j+1)):=by unfold jB;rw[<-hj,if_neg (by simp[e0,List.getElem?_eq_getElem h1,hx,e])]
      have hmul:bx 0 (s.take j)*u<=1000000*604800:=Nat.mul_le_mul (by omega) hu;obtain⟨q,hq⟩:∃q,bx 0 (s.take j)*u=q:=⟨_,rfl⟩;have hq':(bx 0 (s.take j):Int)*u=(q:Int):=by rw[<-hq];simp
      rw[hq]at hmul;simp(disch:=omega)[wl,e0,h1,hx,e,hq'];refine⟨by omega,?_⟩;rw[hn,yV hn];exact dP [(6,.val (.bool true))] (ap rfl rfl (by simp[bp,aC,ac]) (by simp[ch,ac,ze,hq]) (by simp[cg]))
     ·have hn:jB s c=none:=by unfold jB;rw[<-hj,if_pos (.inr (by simp[List.getElem?_eq_getElem h1,hx,e]))]
      have e':¬x.toNat=c.toNat:=fun h=>e (UInt8.toNat_inj.1 h)
      simp(disch:=omega)[wl,e0,h1,hx,e'];rw[hn,wz hn];exact dP [(6,.val (.bool false))]
   ·simp(disch:=omega)[wl,h1,h2];have e0:¬j=0:=by omega
    ·by_cases e:x=c
     ·have hn:jB s c=some (bx 0 (s.take j),s.drop (j+1)):=by unfold jB;rw[<-hj,if_neg (by simp[e0,List.getElem?_eq_getElem h1,hx,e])]
      have hmul:bx 0 (s.take j)*u<=1000000*604800:=Nat.mul_le_mul (by omega) hu;obtain⟨q,hq⟩:∃q,bx 0 (s.take j)*u=q:=⟨_,rfl⟩;have hq':(bx 0 (s.take j):Int)*u=(q:Int):=by rw[<-hq];simp
      rw[hq]at hmul;simp(disch:=omega)[wl,e0,h1,hx,e,hq'];refine⟨by omega,?_⟩;rw[hn,yV hn];exact dP [(6,.val (.bool true))] (ap rfl rfl (by simp[bp,aC,ac]) (by simp[ch,ac,ze,hq]) (by simp[cg]))
     ·have hn:jB s c=none:=by unfold jB;rw[<-hj,if_pos (.inr (by simp[List.getElem?_eq_getElem h1,hx,e]))]
      have e':¬x.toNat=c.toNat:=fun h=>e (UInt8.toNat_inj.1 h)
      simp(disch:=omega)[wl,e0,h1,hx,e'];rw[hn,wz hn];exact dP [(6,.val (.bool false))]
  ·have hn:jB s c=none:=by unfold jB;rw[<-hj,if_pos (.inr (by rw[List.getElem?_eq_none (by omega)];simp))]
   simp(disch:=omega)[wl,h1];by_cases e0:j=0
   ·simp(disch:=omega)[wl,e0];rw[hn,wz hn];exact dP [(6,.val (.bool false))]
   ·have e1:(j:Int)=s.length:=by omega
    have e2:¬s.length=0:=by omega
    simp(disch:=omega)[wl,e1,e2];rw[hn,wz hn];exact dP [(6,.val (.bool false))]
def zW(s p:Str):Bool:=decide (s.take p.length=p)
def cutP(s p:Str):IV:=if zW s p=true then .tuple [.str (s.drop p.length),.bool true]else .tuple [.str s,.bool false]
def K6(s p:Str):Str:=if zW s p=true then s.drop p.length else s
theorem DT{s p:Str}(h:zW s p=true):p.length<=s.length:=by
 simp[zW]at h;have:=congrArg List.length h;rw[List.length_take]at this;omega
theorem ME(s p:Str)(hs:s.length<1000000)(hp:p.length<1000000):Fn G2 T_ 322 [.str s,.str p] (.bool (zW s p)):=by
 refine ag hm kt (by simp) ?_;simp[fO];by_cases h:p.length<=s.length
 ·simp(disch:=omega)[wl,h,zW]
 ·have:zW s p=false:=by
   cases h2:zW s p with
   |false=>rfl
   |true=>exact absurd (DT h2) h
  simp(disch:=omega)[wl,h,this]
theorem Rs(s p:Str)(hs:s.length<1000000)(hp:p.length<1000000):Fn G2 T_ 277 [.str s,.str p] (cutP s p):=by
 refine ag hm kq (by simp) ?_;simp[fM];refine aa (ME s p hs hp) ?_;unfold cutP;cases h:zW s p with
 |false=>simp(disch:=omega)[wl]
 |true=>
  have:=DT h;simp(disch:=omega)[wl,this]
theorem I3(s p:Str)(hs:s.length<1000000)(hp:p.length<1000000):Fn G2 T_ 212 [.str s,.str p] (cutP s p):=by
 refine ag hm ui (by simp) ?_;simp[n4];refine aa (Rs s p hs hp) ?_;unfold cutP;cases h:zW s p<;>simp(disch:=omega)[wl]
theorem Oo(s p:Str)(hs:s.length<1000000)(hp:p.length<1000000):Fn G2 T_ 278 [.str s,.str p] (.str (K6 s p)):=by
 refine ag hm jX (by simp) ?_;simp[fb];refine aa (ME s p hs hp) ?_;unfold K6;cases h:zW s p with
 |false=>simp(disch:=omega)[wl]
 |true=>
  have:=DT h;simp(disch:=omega)[wl,this]
theorem Rt(s p:Str)(hs:s.length<1000000)(hp:p.length<1000000):Fn G2 T_ 213 [.str s,.str p] (.str (K6 s p)):=by
 refine ag hm si (by simp) ?_;simp[my];refine aa (Oo s p hs hp) ?_;simp(disch:=omega)[wl]
theorem Rv(s:Str)(c:UInt8):zW s [c]=decide (s[0]?=some c):=by
 cases s<;>simp[zW]
theorem Gx(c:UInt8)(u:Nat)(s:Str)(m k:Nat):(tk c u (s,m,k)).1.length<=s.length/\(tk c u (s,m,k)).2.1<=m+1000000*u/\(tk c u (s,m,k)).2.2<=k+1:=by
 cases h:jB s c with
 |none=>rw[wz h];simp
 |some p=>
  obtain⟨n,r⟩:=p;have:=BF h;rw[yV h];have h2:n*u<=1000000*u:=Nat.mul_le_mul (by omega) (by omega);dsimp only;omega
theorem Oq{s:Str}{c:UInt8}(h:c∈s)(hd:dL c=false):c∈vC s:=by
 obtain⟨d,e,hda⟩:=rc s;rw[e,List.mem_append]at h
 have hc:c∈dS s:=by
  rcases h with h|h
  ·exact h
  ·rw[List.all_eq_true.1 hda c h]at hd;cases hd
 unfold vC;rw[<-List.takeWhile_append_dropWhile (p:=dL) (l:=dS s),List.mem_append]at hc;rcases hc with hc|hc
 ·rw[List.all_eq_true.1 (List.all_takeWhile (l:=dS s) (p:=dL)) c hc]at hd;cases hd
 ·exact hc
theorem MF{s:Str}{c:UInt8}(h:¬c∈s):jB s c=none:=by
 unfold jB;rw[if_pos];right;intro he;exact h (List.mem_of_getElem? he)
def I4(s:Str)(m k:Nat):Str×Nat×Nat:=if s[0]?=some 84 then HP (s.drop 1) m else (s,m,k)
def zX(s:Str)(m:Nat):Bool:=decide (s[0]?=some 84/\0<(HP (s.drop 1) m).2.2)
theorem Uz{s:Str}(h:¬72∈s)(m:Nat):HP s m=tk 83 1 (tk 77 60 (s,m,0)):=by unfold HP;rw[wz (MF h)]
theorem WL{s:Str}(h:¬72∈s)(h2:¬77∈s)(m:Nat):HP s m=tk 83 1 (s,m,0):=by rw[Uz h,wz (MF h2)]
theorem Gy(s:Str)(m k:Nat)(hs:s.length<1000000)(hm':m<=700000000000)(hk:k<=90):mP G2 T_ 280
  {args:=[.loc 1000 0],objs:=[(1000,.box (ze (s,m,k)))],res:=.val (.bool (zX s m)),objs':=[(1000,.box (ze (I4 s m k)))],ro':=[] }:=by
 refine bn hm oK (by simp) rfl ?_;simp[jm,nj,ze];refine aa (I3 s [84] hs (by simp)) ?_;unfold cutP;rw[Rv];by_cases h:s[0]?=some 84
 ·have hS:I4 s m k=HP (s.drop 1) m:=by unfold I4;rw[if_pos h]
  have hl:(s.drop 1).length<1000000:=by rw[List.length_drop];omega
  have hT:=up (Mk (s.drop 1) hl);simp only[Uo]at hT;obtain⟨r,hr⟩:∃r,s.drop 1=r:=⟨_,rfl⟩;have hB:zX s m=decide (0<(HP r m).2.2):=by unfold zX;simp[h,hr]
  rw[hS,hB];rw[hr]at hT hl |-;simp[h,hr];refine aa hT ?_;clear hT hS hB h hr;obtain⟨t,ht⟩:∃t,vC r=t:=⟨_,rfl⟩;have hh:∀c,dL c=false->¬c∈t->¬c∈r:=fun c hc hn hi=>hn (ht▸Oq hi hc)
  rw[ht];by_cases hM:t=[77]\/t=[77,83]\/t=[77,48,83]
  ·have e:HP r m=tk 83 1 (tk 77 60 (r,m,0)):=Uz (hh 72 rfl (by rcases hM with rfl|rfl|rfl<;>simp)) m;rw[e];have b1:=Gx 77 60 r m 0;have g1:=iZ r m 0 77 60 hl (by omega) (by omega) (by omega);obtain⟨⟨s1,m1,k1⟩,e1⟩:∃p,tk 77 60 (r,m,0)=p:=⟨_,rfl⟩;rw[e1]at b1 g1 |-;dsimp only at b1;have g2:=iZ s1 m1 k1 83 1 (by omega) (by omega) (by omega) (by omega);obtain⟨⟨s2,m2,k2⟩,e2⟩:∃p,tk 83 1 (s1,m1,k1)=p:=⟨_,rfl⟩;rw[e2]at g2 |-
   rcases hM with rfl|rfl|rfl<;>(
    simp(disch:=omega)[wl,ze];refine callM [] [] g1 rfl rfl ⟨rfl,trivial⟩ ⟨rfl,[],[],rfl,⟨[],[],rfl,rfl,rfl⟩,rfl⟩ rfl ?_;simp(disch:=omega)[wl,ze];refine callM [] [] g2 rfl rfl ⟨rfl,trivial⟩ ⟨rfl,[],[],rfl,⟨[],[],rfl,rfl,rfl⟩,rfl⟩ rfl ?_;simp(disch:=omega)[wl,ze]
    exact dP [(2,.val (.bool (decide (0<k2))))])
  by_cases hS:t=[83]
  ·subst hS;have e:HP r m=tk 83 1 (r,m,0):=WL (hh 72 rfl (by simp)) (hh 77 rfl (by simp)) m;rw[e];have g2:=iZ r m 0 83 1 hl (by omega) (by omega) (by omega);obtain⟨⟨s2,m2,k2⟩,e2⟩:∃p,tk 83 1 (r,m,0)=p:=⟨_,rfl⟩;rw[e2]at g2 |-;simp(disch:=omega)[wl,ze];refine callM [] [] g2 rfl rfl ⟨rfl,trivial⟩ ⟨rfl,[],[],rfl,⟨[],[],rfl,rfl,rfl⟩,rfl⟩ rfl ?_;simp(disch:=omega)[wl,ze];exact dP [(2,.val (.bool (decide (0<k2))))]
  ·simp only[not_or]at hM;obtain⟨n1,n2,n3⟩:=hM;unfold HP;have b0:=Gx 72 3600 r m 0;have g0:=iZ r m 0 72 3600 hl (by omega) (by omega) (by omega);obtain⟨⟨s0,m0,k0⟩,e0⟩:∃p,tk 72 3600 (r,m,0)=p:=⟨_,rfl⟩;rw[e0]at b0 g0 |-;dsimp only at b0;have b1:=Gx 77 60 s0 m0 k0;have g1:=iZ s0 m0 k0 77 60 (by omega) (by omega) (by omega) (by omega);obtain⟨⟨s1,m1,k1⟩,e1⟩:∃p,tk 77 60 (s0,m0,k0)=p:=⟨_,rfl⟩;rw[e1]at b1 g1 |-;dsimp only at b1;have g2:=iZ s1 m1 k1 83 1 (by omega) (by omega) (by omega) (by omega);obtain⟨⟨s2,m2,k2⟩,e2⟩:∃p,tk 83 1 (s1,m1,k1)=p:=⟨_,rfl⟩;rw[e2]at g2 |-;simp(disch:=omega)[wl,ze,n1,n2,n3,hS];refine callM [] [] g0 rfl rfl ⟨rfl,trivial⟩ ⟨rfl,[],[],rfl,⟨[],[],rfl,rfl,rfl⟩,rfl⟩ rfl ?_;simp(disch:=omega)[wl,ze];refine callM [] [] g1 rfl rfl ⟨rfl,trivial⟩ ⟨rfl,[],[],rfl,⟨[],[],rfl,rfl,rfl⟩,rfl⟩ rfl ?_;simp(disch:=omega)[wl,ze];refine callM [] [] g2 rfl rfl ⟨rfl,trivial⟩ ⟨rfl,[],[],rfl,⟨[],[],rfl,rfl,rfl⟩,rfl⟩ rfl ?_;simp(disch:=omega)[wl,ze];exact dP [(2,.val (.bool (decide (0<k2))))]
 ·have hS:I4 s m k=(s,m,k):=by unfold I4;rw[if_neg h]
  have hB:zX s m=false:=by unfold zX;simp[h]
  rw[hS,hB];simp[h];exact dP [(2,.val (.bool false))]
end Go.Vs.YtcjeehebikeghaaGreatDoor.Vt
