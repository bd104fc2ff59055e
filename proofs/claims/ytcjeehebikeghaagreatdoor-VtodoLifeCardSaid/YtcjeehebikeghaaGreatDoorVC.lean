/- The walk of status: lives, and their ub. No conditions. -/
import Derived.Test.YtcjeehebikeghaaGreatDoorVB
import Derived.Test.YtcjeehebikeghaaGreatDoorVA
import Derived.Test.YtcjeehebikeghaaGreatDoorBS
set_option linter.unusedVariables false
set_option linter.unusedSimpArgs false
set_option maxRecDepth 100000
set_option maxHeartbeats 16000000
namespace Go.Vs.YtcjeehebikeghaaGreatDoor.Vt
open Go.Proofs Go.Vs.U8 Go.Vs.Pa Go.Vs.Vt
abbrev Lif.iv(l:Lif):IV:=.agg [.int .u8 l.s,.int .i64 l.p,.int .i64 l.d]
theorem Yd(x:Int):Fn G2 Tryz.prog rH [.int .u8 x] (.tuple [.int .i64 (DI x),.int .i64 (nv x)]):=by
 refine ag hm Gs (by simp) ?_;simp[yi,yj,DI,nv,jL]
 grind
theorem Ce(l:Lif):Fn G2 Tryz.prog jA [Lif.iv l] (.int .i64 (sx l)):=by
 obtain⟨s,p,d⟩:=l;refine ag hm DJ (by simp) ?_;simp[wh,wi];refine brd (fun h1=>?_) (fun h1=>?_)<;>simp[h1]
 ·simp[sx,h1]
 simp[jL];refine⟨fun h=>?_,fun h2=>⟨fun h=>?_,fun h3=>⟨fun h=>?_,fun h4=>⟨fun h=>?_,fun h5=>aa (Yd s) ?_⟩⟩⟩⟩
 iterate 4 (unfold sx;grind)
 simp[jL];unfold sx
 grind
theorem Ye:Fn G2 Tryz.prog tL [] (Lif.iv SM):=by
 refine ag hm I2 (by simp) ?_;simp[B5,B6,SM]
theorem Of(s:Int):Fn G2 Tryz.prog nw [.int .u8 s] (.str (jd s)):=by
 refine ag hm Gq (by simp) ?_;simp[yg,yh,jL];unfold jd
 grind
def stI(p:Int×Int):IV:=.tuple [.int .u8 p.1,.int .i64 p.2]
theorem Yf{s:Int}(h:1≤s∧s≤4):IntKind.u8.wrap (s+1)=s+1:=by
 have:s=1∨s=2∨s=3∨s=4:=by omega
 rcases this with rfl|rfl|rfl|rfl<;>rfl
theorem Og{x:Str}{s:Int}(h:1≤s∧s≤4)(e:jd s=x):Ca x=(s,0):=by
 subst e;have:s=1∨s=2∨s=3∨s=4:=by omega
 rcases this with rfl|rfl|rfl|rfl<;>rfl
theorem Z7{x:Str}(h:∀t:Int,1≤t→t<5→jd t≠x):Ca x=(0,11):=by
 unfold Ca;rw[if_neg (fun e=>h 1 (by omega) (by omega) e.symm),if_neg (fun e=>h 2 (by omega) (by omega) e.symm),if_neg (fun e=>h 3 (by omega) (by omega) e.symm),if_neg (fun e=>h 4 (by omega) (by omega) e.symm)]
theorem SP(x:Str):Fn G2 Tryz.prog pY [.str x] (stI (Ca x)):=by
 refine ag hm DM (by simp) ?_;by_cases h0:x=[]
 ·subst h0;simp[qd,qe];rfl
 simp[qd,qe];simp(disch:=omega)[wl,h0];refine bS hm [] (fun s:Nat=>[(4,.val (.int .u8 s))]) (fun _=>[]) (fun s=>1≤s∧s≤5∧∀t:Int,1≤t→t<s→jd t≠x) (fun s=>5-s) 1 ⟨by omega,by omega,fun t h1 h2=>by omega⟩ ?_ ?_
 ·simp;exact bT
 rintro s ⟨h1,h2,h3⟩;simp;by_cases h4:s≤4
 ·simp(disch:=omega)[wl];refine aa (Of s) ?_;by_cases h5:jd s=x
  ·simp(disch:=omega)[wl,h5,Og (s:=s) (by omega) h5,stI]
  ·have e:=Yf (s:=s) (by omega);simp(disch:=omega)[wl,h5,e];refine aq (s+1) ⟨by omega,by omega,fun t k1 k2=>?_⟩ (by omega) ?_
   ·by_cases ht:t=s
    ·subst ht;exact h5
    ·exact h3 t k1 (by omega)
   simp;exact bT
 ·obtain rfl:s=5:=by omega
  simp(disch:=omega)[wl,Z7 h3,stI]
open Go.Vs.Nu
theorem Oh(c:UInt8):Fn G2 Tryz.prog qa [.int .u8 c.toNat] (.bool (dS c)):=by
 refine ag hm DO (by simp) ?_;simp[wt,wu,jL];simp only[dS]
 grind
def Bu(p:Str×Nat×Nat):List SV:=[.val (.str p.1),.val (.int .i64 p.2.1),.val (.int .i64 p.2.2)]
theorem Oi{s:Str}{j:Nat}(h:j<s.length){d:Nat}(hd:0<d):E8 d (s.drop j)=if dS s[j]=true then E8 (d-1) (s.drop (j+1))+1 else 0:=by
 rw[List.drop_eq_getElem_cons h];obtain⟨e,rfl⟩:∃e,d=e+1:=⟨d-1,by omega⟩;rfl
theorem yq{s:Str}{c:UInt8}{u m k:Nat}(h:kA s c=none):tk c u (s,m,k)=(s,m,k):=by unfold tk;rw[h]
theorem Bh{s:Str}{c:UInt8}{u m k n:Nat}{r:Str}(h:kA s c=some (n,r)):tk c u (s,m,k)=(r,m+n*u,k+1):=by unfold tk;rw[h]
theorem aau(c:UInt8)(h:dS c=true):IntKind.u8.wrap ((c.toNat:Int)-48)=(c.toNat-48:Nat):=by
 have:=L9 h;rw[wrap_u8 (by omega) (by omega)];omega
theorem jE(s:Str)(m k:Nat)(c:UInt8)(u:Nat)(hs:s.length<1000000)(hu:u≤604800)(hm':m≤1000000000000)(hk:k≤100):oe G2 Tryz.prog cc
  {args:=[.loc 1000 0,.val (.int .u8 c.toNat),.val (.int .i64 u)],objs:=[(1000,.box (Bu (s,m,k)))],res:=.val (.bool (kA s c).isSome),objs':=[(1000,.box (Bu (tk c u (s,m,k))))],ro':=[] }:=by
 refine bA hm qq (by simp) rfl ?_;simp[kC,kD,og,Bu];refine Na hm (fun j:Nat=>⟨[(7,.val (.int .i64 (bJ 0 (s.take j):Nat))),(8,.val (.int .i64 j)),(0,.loc 1000 0),(1,.val (.int .u8 c.toNat)),(2,.val (.int .i64 u))],[(1000,.box [.val (.str s),.val (.int .i64 m),.val (.int .i64 k)])],[],90,G2⟩) (fun j=>j≤6∧j≤s.length∧(s.take j).all dS=true∧j+E8 (6-j) (s.drop j)=E8 6 s) (fun j=>6-j) 0 ⟨by omega,by omega,rfl,by simp⟩ ?_ (fun _=>rfl) ?_
 ·have h0:bJ 0 (s.take 0)=0:=rfl;rw[h0];exact bT
 rintro j ⟨j1,j2,j3,j4⟩;have hv:=val_bd j3 (d:=6) (by rw[List.length_take];omega);simp;by_cases h:j<s.length∧j<6∧(∀h:j<s.length,dS s[j]=true)
 ·obtain⟨h1,h2,h3⟩:=h;have h3:=h3 h1;obtain⟨x,hx⟩:∃x,s[j]=x:=⟨_,rfl⟩;rw[hx]at h3;have hg:=Oh x;rw[h3]at hg;have hu8:=aau x h3;have hb:=L9 h3;have ht:s.take (j+1)=s.take j++[x]:=by rw[List.take_succ_eq_append_getElem h1,hx]
  simp(disch:=omega)[wl,h1,h2,hx];refine aa hg ?_;simp(disch:=omega)[wl,h1,hx,hu8];refine aq (j+1) ⟨by omega,by omega,?_,?_⟩ (by omega) ?_
  ·rw[ht,List.all_append,j3];simp[h3]
  ·rw[←j4,Oi h1 (by omega),hx,if_pos h3,show 6-(j+1)=6-j-1 by omega];omega
  simp[ht,FF];exact bT
 ·have hj:j=E8 6 s:=by
   rw[←j4];by_cases h2:j<6
   ·by_cases h1:j<s.length
    ·have:dS s[j]=false:=by
      cases hd:dS s[j]with
      |false=>rfl
      |true=>exact absurd ⟨h1,h2,fun _=>hd⟩ h
     rw[Oi h1 (by omega),this];simp
    ·rw[List.drop_eq_nil_of_le (by omega)];cases 6-j<;>rfl
   ·rw[show 6-j=0 by omega];rfl
  by_cases h1:j<s.length
  ·obtain⟨x,hx⟩:∃x,s[j]=x:=⟨_,rfl⟩;by_cases h2:j<6
   ·have h3:dS x=false:=by
     cases hd:dS x with
     |false=>rfl
     |true=>exact absurd ⟨h1,h2,fun _=>by rw[hx];exact hd⟩ h
    have hg:=Oh x;rw[h3]at hg;simp(disch:=omega)[wl,h1,h2,hx];refine aa hg ?_;simp(disch:=omega)[wl];by_cases e0:j=0
    ·have hn:kA s c=none:=by unfold kA;rw[←hj,if_pos (.inl e0)]
     simp(disch:=omega)[wl,e0];rw[hn,yq hn];exact eu [(6,.val (.bool false))]
    ·by_cases e:x=c
     ·have hn:kA s c=some (bJ 0 (s.take j),s.drop (j+1)):=by unfold kA;rw[←hj,if_neg (by simp[e0,List.getElem?_eq_getElem h1,hx,e])]
      have hmul:bJ 0 (s.take j)*u≤1000000*604800:=Nat.mul_le_mul (by omega) hu;obtain⟨q,hq⟩:∃q,bJ 0 (s.take j)*u=q:=⟨_,rfl⟩;have hq':(bJ 0 (s.take j):Int)*u=(q:Int):=by rw[←hq];simp
      rw[hq]at hmul;simp(disch:=omega)[wl,e0,h1,hx,e,hq'];refine⟨by omega,?_⟩;rw[hn,Bh hn];exact eu [(6,.val (.bool true))] (ap rfl rfl (by simp[bv,aC,ac]) (by simp[cC,ac,Bu,hq]) (by simp[ct]))
     ·have hn:kA s c=none:=by unfold kA;rw[←hj,if_pos (.inr (by simp[List.getElem?_eq_getElem h1,hx,e]))]
      have e':¬x.toNat=c.toNat:=fun h=>e (UInt8.toNat_inj.1 h)
      simp(disch:=omega)[wl,e0,h1,hx,e'];rw[hn,yq hn];exact eu [(6,.val (.bool false))]
   ·simp(disch:=omega)[wl,h1,h2];have e0:¬j=0:=by omega
    ·by_cases e:x=c
     ·have hn:kA s c=some (bJ 0 (s.take j),s.drop (j+1)):=by unfold kA;rw[←hj,if_neg (by simp[e0,List.getElem?_eq_getElem h1,hx,e])]
      have hmul:bJ 0 (s.take j)*u≤1000000*604800:=Nat.mul_le_mul (by omega) hu;obtain⟨q,hq⟩:∃q,bJ 0 (s.take j)*u=q:=⟨_,rfl⟩;have hq':(bJ 0 (s.take j):Int)*u=(q:Int):=by rw[←hq];simp
      rw[hq]at hmul;simp(disch:=omega)[wl,e0,h1,hx,e,hq'];refine⟨by omega,?_⟩;rw[hn,Bh hn];exact eu [(6,.val (.bool true))] (ap rfl rfl (by simp[bv,aC,ac]) (by simp[cC,ac,Bu,hq]) (by simp[ct]))
     ·have hn:kA s c=none:=by unfold kA;rw[←hj,if_pos (.inr (by simp[List.getElem?_eq_getElem h1,hx,e]))]
      have e':¬x.toNat=c.toNat:=fun h=>e (UInt8.toNat_inj.1 h)
      simp(disch:=omega)[wl,e0,h1,hx,e'];rw[hn,yq hn];exact eu [(6,.val (.bool false))]
  ·have hn:kA s c=none:=by unfold kA;rw[←hj,if_pos (.inr (by rw[List.getElem?_eq_none (by omega)];simp))]
   simp(disch:=omega)[wl,h1];by_cases e0:j=0
   ·simp(disch:=omega)[wl,e0];rw[hn,yq hn];exact eu [(6,.val (.bool false))]
   ·have e1:(j:Int)=s.length:=by omega
    have e2:¬s.length=0:=by omega
    simp(disch:=omega)[wl,e1,e2];rw[hn,yq hn];exact eu [(6,.val (.bool false))]
def Cf(s p:Str):Bool:=decide (s.take p.length=p)
def cutP(s p:Str):IV:=if Cf s p=true then .tuple [.str (s.drop p.length),.bool true]else .tuple [.str s,.bool false]
def Oj(s p:Str):Str:=if Cf s p=true then s.drop p.length else s
theorem Gy{s p:Str}(h:Cf s p=true):p.length≤s.length:=by
 simp[Cf]at h;have:=congrArg List.length h;rw[List.length_take]at this;omega
theorem QT(s p:Str)(hs:s.length<1000000)(hp:p.length<1000000):Fn G2 Tryz.prog cO [.str s,.str p] (.bool (Cf s p)):=by
 refine ag hm lC (by simp) ?_;simp[gy,gA];by_cases h:p.length≤s.length
 ·simp(disch:=omega)[wl,h,Cf]
 ·have:Cf s p=false:=by
   cases h2:Cf s p with
   |false=>rfl
   |true=>exact absurd (Gy h2) h
  simp(disch:=omega)[wl,h,this]
theorem VY(s p:Str)(hs:s.length<1000000)(hp:p.length<1000000):Fn G2 Tryz.prog dG [.str s,.str p] (cutP s p):=by
 refine ag hm lB (by simp) ?_;simp[gv,gx];refine aa (QT s p hs hp) ?_;unfold cutP;cases h:Cf s p with
 |false=>simp(disch:=omega)[wl]
 |true=>
  have:=Gy h;simp(disch:=omega)[wl,this]
theorem LG(s p:Str)(hs:s.length<1000000)(hp:p.length<1000000):Fn G2 Tryz.prog eQ [.str s,.str p] (cutP s p):=by
 refine ag hm wn (by simp) ?_;simp[oB,oC];refine aa (VY s p hs hp) ?_;unfold cutP;cases h:Cf s p<;>simp(disch:=omega)[wl]
theorem SQ(s p:Str)(hs:s.length<1000000)(hp:p.length<1000000):Fn G2 Tryz.prog dA [.str s,.str p] (.str (Oj s p)):=by
 refine ag hm kU (by simp) ?_;simp[fO,fP];refine aa (QT s p hs hp) ?_;unfold Oj;cases h:Cf s p with
 |false=>simp(disch:=omega)[wl]
 |true=>
  have:=Gy h;simp(disch:=omega)[wl,this]
theorem VZ(s p:Str)(hs:s.length<1000000)(hp:p.length<1000000):Fn G2 Tryz.prog jB [.str s,.str p] (.str (Oj s p)):=by
 refine ag hm uj (by simp) ?_;simp[nR,nS];refine aa (SQ s p hs hp) ?_;simp(disch:=omega)[wl]
theorem W0(s:Str)(c:UInt8):Cf s [c]=decide (s[0]?=some c):=by
 cases s<;>simp[Cf]
theorem K9(c:UInt8)(u:Nat)(s:Str)(m k:Nat):(tk c u (s,m,k)).1.length≤s.length∧(tk c u (s,m,k)).2.1≤m+1000000*u∧(tk c u (s,m,k)).2.2≤k+1:=by
 cases h:kA s c with
 |none=>rw[yq h];simp
 |some p=>
  obtain⟨n,r⟩:=p;have:=E9 h;rw[Bh h];have h2:n*u≤1000000*u:=Nat.mul_le_mul (by omega) (by omega);dsimp only;omega
theorem SR{s:Str}{c:UInt8}(h:c∈s)(hd:dS c=false):c∈xB s:=by
 obtain⟨d,e,hda⟩:=sX s;rw[e,List.mem_append]at h
 have hc:c∈ez s:=by
  rcases h with h|h
  ·exact h
  ·rw[List.all_eq_true.1 hda c h]at hd;cases hd
 unfold xB;rw[←List.takeWhile_append_dropWhile (p:=dS) (l:=ez s),List.mem_append]at hc;rcases hc with hc|hc
 ·rw[List.all_eq_true.1 (List.all_takeWhile (l:=ez s) (p:=dS)) c hc]at hd;cases hd
 ·exact hc
theorem QU{s:Str}{c:UInt8}(h:¬c∈s):kA s c=none:=by
 unfold kA;rw[if_pos];right;intro he;exact h (List.mem_of_getElem? he)
def LH(s:Str)(m k:Nat):Str×Nat×Nat:=if s[0]?=some 84 then Lw (s.drop 1) m else (s,m,k)
def Cg(s:Str)(m:Nat):Bool:=decide (s[0]?=some 84∧0<(Lw (s.drop 1) m).2.2)
theorem Z8{s:Str}(h:¬72∈s)(m:Nat):Lw s m=tk 83 1 (tk 77 60 (s,m,0)):=by unfold Lw;rw[yq (QU h)]
theorem abt{s:Str}(h:¬72∈s)(h2:¬77∈s)(m:Nat):Lw s m=tk 83 1 (s,m,0):=by rw[Z8 h,yq (QU h2)]
theorem Ka(s:Str)(m k:Nat)(hs:s.length<1000000)(hm':m≤700000000000)(hk:k≤90):oe G2 Tryz.prog dP
  {args:=[.loc 1000 0],objs:=[(1000,.box (Bu (s,m,k)))],res:=.val (.bool (Cg s m)),objs':=[(1000,.box (Bu (LH s m k)))],ro':=[] }:=by
 refine bA hm qf (by simp) rfl ?_;simp[ka,kb,og,Bu];refine aa (LG s [84] hs (by simp)) ?_;unfold cutP;rw[W0];by_cases h:s[0]?=some 84
 ·have hS:LH s m k=Lw (s.drop 1) m:=by unfold LH;rw[if_pos h]
  have hl:(s.drop 1).length<1000000:=by rw[List.length_drop];omega
  have hT:=up (QB (s.drop 1) hl);simp only[YU]at hT;obtain⟨r,hr⟩:∃r,s.drop 1=r:=⟨_,rfl⟩;have hB:Cg s m=decide (0<(Lw r m).2.2):=by unfold Cg;simp[h,hr]
  rw[hS,hB];rw[hr]at hT hl ⊢;simp[h,hr];refine aa hT ?_;clear hT hS hB h hr;obtain⟨t,ht⟩:∃t,xB r=t:=⟨_,rfl⟩;have hh:∀c,dS c=false→¬c∈t→¬c∈r:=fun c hc hn hi=>hn (ht▸SR hi hc)
  rw[ht];by_cases hM:t=[77]∨t=[77,83]∨t=[77,48,83]
  ·have e:Lw r m=tk 83 1 (tk 77 60 (r,m,0)):=Z8 (hh 72 rfl (by rcases hM with rfl|rfl|rfl<;>simp)) m;rw[e];have b1:=K9 77 60 r m 0;have g1:=jE r m 0 77 60 hl (by omega) (by omega) (by omega);obtain⟨⟨s1,m1,k1⟩,e1⟩:∃p,tk 77 60 (r,m,0)=p:=⟨_,rfl⟩;rw[e1]at b1 g1 ⊢;dsimp only at b1;have g2:=jE s1 m1 k1 83 1 (by omega) (by omega) (by omega) (by omega);obtain⟨⟨s2,m2,k2⟩,e2⟩:∃p,tk 83 1 (s1,m1,k1)=p:=⟨_,rfl⟩;rw[e2]at g2 ⊢
   rcases hM with rfl|rfl|rfl<;>(
    simp(disch:=omega)[wl,Bu];refine callM [] [] g1 rfl rfl ⟨rfl,trivial⟩ ⟨rfl,[],[],rfl,⟨[],[],rfl,rfl,rfl⟩,rfl⟩ rfl ?_;simp(disch:=omega)[wl,Bu];refine callM [] [] g2 rfl rfl ⟨rfl,trivial⟩ ⟨rfl,[],[],rfl,⟨[],[],rfl,rfl,rfl⟩,rfl⟩ rfl ?_;simp(disch:=omega)[wl,Bu]
    exact eu [(2,.val (.bool (decide (0<k2))))])
  by_cases hS:t=[83]
  ·subst hS;have e:Lw r m=tk 83 1 (r,m,0):=abt (hh 72 rfl (by simp)) (hh 77 rfl (by simp)) m;rw[e];have g2:=jE r m 0 83 1 hl (by omega) (by omega) (by omega);obtain⟨⟨s2,m2,k2⟩,e2⟩:∃p,tk 83 1 (r,m,0)=p:=⟨_,rfl⟩;rw[e2]at g2 ⊢;simp(disch:=omega)[wl,Bu];refine callM [] [] g2 rfl rfl ⟨rfl,trivial⟩ ⟨rfl,[],[],rfl,⟨[],[],rfl,rfl,rfl⟩,rfl⟩ rfl ?_;simp(disch:=omega)[wl,Bu];exact eu [(2,.val (.bool (decide (0<k2))))]
  ·simp only[not_or]at hM;obtain⟨n1,n2,n3⟩:=hM;unfold Lw;have b0:=K9 72 3600 r m 0;have g0:=jE r m 0 72 3600 hl (by omega) (by omega) (by omega);obtain⟨⟨s0,m0,k0⟩,e0⟩:∃p,tk 72 3600 (r,m,0)=p:=⟨_,rfl⟩;rw[e0]at b0 g0 ⊢;dsimp only at b0;have b1:=K9 77 60 s0 m0 k0;have g1:=jE s0 m0 k0 77 60 (by omega) (by omega) (by omega) (by omega);obtain⟨⟨s1,m1,k1⟩,e1⟩:∃p,tk 77 60 (s0,m0,k0)=p:=⟨_,rfl⟩;rw[e1]at b1 g1 ⊢;dsimp only at b1;have g2:=jE s1 m1 k1 83 1 (by omega) (by omega) (by omega) (by omega);obtain⟨⟨s2,m2,k2⟩,e2⟩:∃p,tk 83 1 (s1,m1,k1)=p:=⟨_,rfl⟩;rw[e2]at g2 ⊢;simp(disch:=omega)[wl,Bu,n1,n2,n3,hS];refine callM [] [] g0 rfl rfl ⟨rfl,trivial⟩ ⟨rfl,[],[],rfl,⟨[],[],rfl,rfl,rfl⟩,rfl⟩ rfl ?_;simp(disch:=omega)[wl,Bu];refine callM [] [] g1 rfl rfl ⟨rfl,trivial⟩ ⟨rfl,[],[],rfl,⟨[],[],rfl,rfl,rfl⟩,rfl⟩ rfl ?_;simp(disch:=omega)[wl,Bu];refine callM [] [] g2 rfl rfl ⟨rfl,trivial⟩ ⟨rfl,[],[],rfl,⟨[],[],rfl,rfl,rfl⟩,rfl⟩ rfl ?_;simp(disch:=omega)[wl,Bu];exact eu [(2,.val (.bool (decide (0<k2))))]
 ·have hS:LH s m k=(s,m,k):=by unfold LH;rw[if_neg h]
  have hB:Cg s m=false:=by unfold Cg;simp[h]
  rw[hS,hB];simp[h];exact eu [(2,.val (.bool false))]
end Go.Vs.YtcjeehebikeghaaGreatDoor.Vt
