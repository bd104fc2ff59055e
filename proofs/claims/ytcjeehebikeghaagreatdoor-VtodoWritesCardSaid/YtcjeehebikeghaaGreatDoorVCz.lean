/- A part of a proof. No conditions. -/
import Derived.Test.YtcjeehebikeghaaGreatDoorVBz
import Derived.Test.YtcjeehebikeghaaGreatDoorVAz
import Derived.Test.YtcjeehebikeghaaGreatDoorBZz
set_option linter.unusedVariables false
set_option linter.unusedSimpArgs false
set_option maxRecDepth 100000
set_option maxHeartbeats 16000000
namespace Go.Vs.YtcjeehebikeghaaGreatDoor.Vt
open Go.Proofs Go.Vs.U8 Go.Vs.Pa Go.Vs.Vt
abbrev Lif.iv(l:Lif):IV:=.agg [.int .u8 l.s,.int .i64 l.p,.int .i64 l.d]
theorem abf(x:Int):Fn G2 T_ 80 [.int .u8 x] (.tuple [.int .i64 (G1 x),.int .i64 (nB x)]):=by
 refine ae hm Jo (by simp) ?_;simp[Aq,G1,nB,fW]
 grind
theorem MS(l:Lif):Fn G2 T_ 31 [Lif.iv l] (.int .i64 (tQ l)):=by
 obtain⟨s,p,d⟩:=l;refine ae hm GI (by simp) ?_;simp[xB];refine Pd (fun a=>?_) (fun a=>?_)<;>simp[a]
 ·simp[tQ,a]
 simp[fW];refine⟨fun h=>?_,fun b=>⟨fun h=>?_,fun c=>⟨fun h=>?_,fun e=>⟨fun h=>?_,fun f=>aa (abf s) ?_⟩⟩⟩⟩
 iterate 4 (unfold tQ;grind)
 simp[fW];unfold tQ
 grind
theorem ST(l:Lif)(e:0<=l.s):Fn G2 T_ 73 [Lif.iv l] (.int .i64 (tQ l)):=by
 obtain⟨s,p,d⟩:=l;refine ae hm Jn (by simp) ?_;simp[Ao];refine Pd (fun a=>?_) (fun a=>?_)<;>simp[a]
 ·simp[tQ,a]
 simp[fW];refine⟨fun h=>?_,fun f=>⟨fun h=>?_,fun g=>⟨fun h=>?_,fun i=>⟨fun h=>?_,fun j=>Pd (fun c=>?_) (fun c=>?_)⟩⟩⟩⟩
 iterate 4 (unfold tQ;grind)
 ·have b:s=0\/s=1\/s=2\/s=3\/s=4:=by simp at e;omega
  rcases b with rfl|rfl|rfl|rfl|rfl<;>simp[fW]<;>simp[tQ,G1,nB]at *<;>grind
 ·simp;simp at c;unfold tQ;grind
theorem abg:Fn G2 T_ 39 [] (Lif.iv KW):=by
 refine ae hm L5 (by simp) ?_;simp[Dp,KW]
theorem YV:Fn G2 T_ 45 [] (Lif.iv KW):=by
 refine ae hm Ou (by simp) ?_;simp[G7,KW]
theorem QX(s:Int):Fn G2 T_ 64 [.int .u8 s] (.str (qw s)):=by
 refine ae hm Jl (by simp) ?_;simp[Am,fW];unfold qw
 grind
theorem VN(s:Int)(c:0<=s):Fn G2 T_ 75 [.int .u8 s] (.str (qw s)):=by
 refine ae hm L9 (by simp) ?_;simp[Dv];refine Pd (fun b=>?_) (fun b=>?_)
 ·simp;unfold qw;grind
 ·have a:s=0\/s=1\/s=2\/s=3\/s=4:=by omega
  rcases a with rfl|rfl|rfl|rfl|rfl<;>simp[qw]
def stI(p:Int×Int):IV:=.tuple [.int .u8 p.1,.int .i64 p.2]
theorem Ub{s:Int}(h:1<=s/\s<=4):IntKind.u8.wrap (s+1)=s+1:=by
 have:s=1\/s=2\/s=3\/s=4:=by omega
 rcases this with rfl|rfl|rfl|rfl<;>rfl
theorem JD{x:Str}{s:Int}(h:1<=s/\s<=4)(e:qw s=x):KX x=(s,0):=by
 subst e;have:s=1\/s=2\/s=3\/s=4:=by omega
 rcases this with rfl|rfl|rfl|rfl<;>rfl
theorem YW{x:Str}(h:∀t:Int,1<=t->t<5->qw t≠x):KX x=(0,11):=by
 unfold KX;rw[if_neg (fun e=>h 1 (by omega) (by omega) e.symm),if_neg (fun e=>h 2 (by omega) (by omega) e.symm),if_neg (fun e=>h 3 (by omega) (by omega) e.symm),if_neg (fun e=>h 4 (by omega) (by omega) e.symm)]
theorem SU(x:Str):Fn G2 T_ 107 [.str x] (stI (KX x)):=by
 refine ae hm Jq (by simp) ?_;simp[Av];refine be hm [] (fun s:Nat=>[(4,.val (.int .u8 s))]) (fun _=>[]) (fun s=>1<=s/\s<=5/\∀t:Int,1<=t->t<s->qw t≠x) (fun s=>5-s) 1 ⟨by omega,by omega,fun t c d=>by omega⟩ ?_ ?_
 ·simp;exact bp
 rintro s ⟨c,d,b⟩;simp;by_cases h:s<=4
 ·simp(disch:=omega)[wl];refine aa (VN s (by omega)) ?_;by_cases a:qw s=x
  ·simp(disch:=omega)[wl,a,JD (s:=s) (by omega) a,stI]
  ·have e:=Ub (s:=s) (by omega);simp(disch:=omega)[wl,a,e];refine ai (s+1) ⟨by omega,by omega,fun t f i=>?_⟩ (by omega) ?_
   ·by_cases g:t=s
    ·subst g;exact a
    ·exact b t f (by omega)
   simp;exact bp
 ·obtain rfl:s=5:=by omega
  simp(disch:=omega)[wl,YW b,stI]
theorem VO(x:Str):Fn G2 T_ 150 [.str x] (stI (KX x)):=by
 refine ae hm GM (by simp) ?_;by_cases b:x=[]
 ·subst b;simp[qE];rfl
 simp[qE];simp(disch:=omega)[wl,b];refine be hm [] (fun s:Nat=>[(4,.val (.int .u8 s))]) (fun _=>[]) (fun s=>1<=s/\s<=5/\∀t:Int,1<=t->t<s->qw t≠x) (fun s=>5-s) 1 ⟨by omega,by omega,fun t d f=>by omega⟩ ?_ ?_
 ·simp;exact bp
 rintro s ⟨d,f,c⟩;simp;by_cases i:s<=4
 ·simp(disch:=omega)[wl];refine aa (QX s) ?_;by_cases a:qw s=x
  ·simp(disch:=omega)[wl,a,JD (s:=s) (by omega) a,stI]
  ·have e:=Ub (s:=s) (by omega);simp(disch:=omega)[wl,a,e];refine ai (s+1) ⟨by omega,by omega,fun t g j=>?_⟩ (by omega) ?_
   ·by_cases h:t=s
    ·subst h;exact a
    ·exact c t g (by omega)
   simp;exact bp
 ·obtain rfl:s=5:=by omega
  simp(disch:=omega)[wl,YW c,stI]
open Go.Vs.Nu
theorem QY(c:UInt8):Fn G2 T_ 323 [.int .u8 c.toNat] (.bool (d7 c)):=by
 refine ae hm GP (by simp) ?_;simp[xP,fW];simp only[d7]
 grind
def E3(p:Str×Nat×Nat):List SV:=[.val (.str p.1),.val (.int .i64 p.2.1),.val (.int .i64 p.2.2)]
theorem DU{s:Str}{j:Nat}(h:j<s.length){d:Nat}(a:0<d):vP d (s.drop j)=if d7 s[j]=true then vP (d-1) (s.drop (j+1))+1 else 0:=by
 rw[List.drop_eq_getElem_cons h];obtain⟨e,rfl⟩:∃e,d=e+1:=⟨d-1,by omega⟩;rfl
theorem xS{s:Str}{c:UInt8}{u m k:Nat}(h:fI s c=none):tk c u (s,m,k)=(s,m,k):=by unfold tk;rw[h]
theorem yt{s:Str}{c:UInt8}{u m k n:Nat}{r:Str}(h:fI s c=some (n,r)):tk c u (s,m,k)=(r,m+n*u,k+1):=by unfold tk;rw[h]
theorem YX(c:UInt8)(h:d7 c=true):IntKind.u8.wrap ((c.toNat:Int)-48)=(c.toNat-48:Nat):=by
 have:=wQ h;rw[wrap_u8 (by omega) (by omega)];omega
theorem jz(s:Str)(m k:Nat)(c:UInt8)(u:Nat)(H:s.length<1000000)(A:u<=604800)(E:m<=1000000000000)(I:k<=100):jL G2 T_ 279
  {args:=[.loc 1000 0,.val (.int .u8 c.toNat),.val (.int .i64 u)],objs:=[(1000,.box (E3 (s,m,k)))],res:=.val (.bool (fI s c).isSome),objs':=[(1000,.box (E3 (tk c u (s,m,k))))],ro':=[] }:=by
 refine aN hm qT (by simp) rfl ?_;simp[kv,ji,E3];refine M9 hm (fun j:Nat=>⟨[(7,.val (.int .i64 (bt 0 (s.take j):Nat))),(8,.val (.int .i64 j)),(0,.loc 1000 0),(1,.val (.int .u8 c.toNat)),(2,.val (.int .i64 u))],[(1000,.box [.val (.str s),.val (.int .i64 m),.val (.int .i64 k)])],[],90,G2⟩) (fun j=>j<=6/\j<=s.length/\(s.take j).all d7=true/\j+vP (6-j) (s.drop j)=vP 6 s) (fun j=>6-j) 0 ⟨by omega,by omega,rfl,by simp⟩ ?_ (fun _=>rfl) ?_
 ·have F:bt 0 (s.take 0)=0:=rfl;rw[F];exact bp
 rintro j ⟨J,K,B,C⟩;have L:=val_bd B (d:=6) (by rw[List.length_take];omega);simp;by_cases h:j<s.length/\j<6/\(∀h:j<s.length,d7 s[j]=true)
 ·obtain⟨a,l,i⟩:=h;have i:=i a;obtain⟨x,f⟩:∃x,s[j]=x:=⟨_,rfl⟩;rw[f]at i;have v:=QY x;rw[i]at v;have w:=YX x i;have M:=wQ i;have D:s.take (j+1)=s.take j++[x]:=by rw[List.take_succ_eq_append_getElem a,f]
  simp(disch:=omega)[wl,a,l,f];refine aa v ?_;simp(disch:=omega)[wl,a,f,w];refine ai (j+1) ⟨by omega,by omega,?_,?_⟩ (by omega) ?_
  ·rw[D,List.all_append,B];simp[i]
  ·rw[<-C,DU a (by omega),f,if_pos i,show 6-(j+1)=6-j-1 by omega];omega
  simp[D,tG];exact bp
 ·have p:j=vP 6 s:=by
   rw[<-C];by_cases l:j<6
   ·by_cases a:j<s.length
    ·have:d7 s[j]=false:=by
      cases y:d7 s[j]with
      |false=>rfl
      |true=>exact absurd ⟨a,l,fun _=>y⟩ h
     rw[DU a (by omega),this];simp
    ·rw[List.drop_eq_nil_of_le (by omega)];cases 6-j<;>rfl
   ·rw[show 6-j=0 by omega];rfl
  by_cases a:j<s.length
  ·obtain⟨x,f⟩:∃x,s[j]=x:=⟨_,rfl⟩;by_cases l:j<6
   ·have i:d7 x=false:=by
     cases y:d7 x with
     |false=>rfl
     |true=>exact absurd ⟨a,l,fun _=>by rw[f];exact y⟩ h
    have v:=QY x;rw[i]at v;simp(disch:=omega)[wl,a,l,f];refine aa v ?_;simp(disch:=omega)[wl];by_cases e0:j=0
    ·have b:fI s c=none:=by unfold fI;rw[<-p,if_pos (.inl e0)]
     simp(disch:=omega)[wl,e0];rw[b,xS b];exact cW [(6,.val (.bool false))]
    ·by_cases e:x=c
     ·have b:fI s c=some (bt 0 (s.take j),s.drop (j+1)):=by unfold fI;rw[<-p,if_neg (by simp[e0,List.getElem?_eq_getElem a,f,e])]
      have g:bt 0 (s.take j)*u<=1000000*604800:=Nat.mul_le_mul (by omega) A;obtain⟨q,n⟩:∃q,bt 0 (s.take j)*u=q:=⟨_,rfl⟩;have o:(bt 0 (s.take j):Int)*u=(q:Int):=by rw[<-n];simp
      rw[n]at g;simp(disch:=omega)[wl,e0,a,f,e,o];refine⟨by omega,?_⟩;rw[b,yt b];exact cW [(6,.val (.bool true))] (ag rfl rfl (by simp[aI,ap,ac]) (by simp[bD,ac,E3,n]) (by simp[bB]))
     ·have b:fI s c=none:=by unfold fI;rw[<-p,if_pos (.inr (by simp[List.getElem?_eq_getElem a,f,e]))]
      have z:¬x.toNat=c.toNat:=fun h=>e (UInt8.toNat_inj.1 h)
      simp(disch:=omega)[wl,e0,a,f,z];rw[b,xS b];exact cW [(6,.val (.bool false))]
   ·simp(disch:=omega)[wl,a,l];have e0:¬j=0:=by omega
    ·by_cases e:x=c
     ·have b:fI s c=some (bt 0 (s.take j),s.drop (j+1)):=by unfold fI;rw[<-p,if_neg (by simp[e0,List.getElem?_eq_getElem a,f,e])]
      have g:bt 0 (s.take j)*u<=1000000*604800:=Nat.mul_le_mul (by omega) A;obtain⟨q,n⟩:∃q,bt 0 (s.take j)*u=q:=⟨_,rfl⟩;have o:(bt 0 (s.take j):Int)*u=(q:Int):=by rw[<-n];simp
      rw[n]at g;simp(disch:=omega)[wl,e0,a,f,e,o];refine⟨by omega,?_⟩;rw[b,yt b];exact cW [(6,.val (.bool true))] (ag rfl rfl (by simp[aI,ap,ac]) (by simp[bD,ac,E3,n]) (by simp[bB]))
     ·have b:fI s c=none:=by unfold fI;rw[<-p,if_pos (.inr (by simp[List.getElem?_eq_getElem a,f,e]))]
      have z:¬x.toNat=c.toNat:=fun h=>e (UInt8.toNat_inj.1 h)
      simp(disch:=omega)[wl,e0,a,f,z];rw[b,xS b];exact cW [(6,.val (.bool false))]
  ·have b:fI s c=none:=by unfold fI;rw[<-p,if_pos (.inr (by rw[List.getElem?_eq_none (by omega)];simp))]
   simp(disch:=omega)[wl,a];by_cases e0:j=0
   ·simp(disch:=omega)[wl,e0];rw[b,xS b];exact cW [(6,.val (.bool false))]
   ·have e1:(j:Int)=s.length:=by omega
    have e2:¬s.length=0:=by omega
    simp(disch:=omega)[wl,e1,e2];rw[b,xS b];exact cW [(6,.val (.bool false))]
def EM(s p:Str):Bool:=decide (s.take p.length=p)
def cutP(s p:Str):IV:=if EM s p=true then .tuple [.str (s.drop p.length),.bool true]else .tuple [.str s,.bool false]
def QZ(s p:Str):Str:=if EM s p=true then s.drop p.length else s
theorem JE{s p:Str}(h:EM s p=true):p.length<=s.length:=by
 simp[EM]at h;have:=congrArg List.length h;rw[List.length_take]at this;omega
theorem Uc(s p:Str)(b:s.length<1000000)(c:p.length<1000000):Fn G2 T_ 322 [.str s,.str p] (.bool (EM s p)):=by
 refine ae hm lu (by simp) ?_;simp[gq];by_cases h:p.length<=s.length
 ·simp(disch:=omega)[wl,h,EM]
 ·have:EM s p=false:=by
   cases a:EM s p with
   |false=>rfl
   |true=>exact absurd (JE a) h
  simp(disch:=omega)[wl,h,this]
theorem YY(s p:Str)(a:s.length<1000000)(b:p.length<1000000):Fn G2 T_ 277 [.str s,.str p] (cutP s p):=by
 refine ae hm lr (by simp) ?_;simp[gn];refine aa (Uc s p a b) ?_;unfold cutP;cases h:EM s p with
 |false=>simp(disch:=omega)[wl]
 |true=>
  have:=JE h;simp(disch:=omega)[wl,this]
theorem OD(s p:Str)(a:s.length<1000000)(b:p.length<1000000):Fn G2 T_ 212 [.str s,.str p] (cutP s p):=by
 refine ae hm xJ (by simp) ?_;simp[oN];refine aa (YY s p a b) ?_;unfold cutP;cases h:EM s p<;>simp(disch:=omega)[wl]
theorem VP(s p:Str)(a:s.length<1000000)(b:p.length<1000000):Fn G2 T_ 278 [.str s,.str p] (.str (QZ s p)):=by
 refine ae hm kR (by simp) ?_;simp[fN];refine aa (Uc s p a b) ?_;unfold QZ;cases h:EM s p with
 |false=>simp(disch:=omega)[wl]
 |true=>
  have:=JE h;simp(disch:=omega)[wl,this]
theorem Z2(s p:Str)(a:s.length<1000000)(b:p.length<1000000):Fn G2 T_ 213 [.str s,.str p] (.str (QZ s p)):=by
 refine ae hm vQ (by simp) ?_;simp[oc];refine aa (VP s p a b) ?_;simp(disch:=omega)[wl]
theorem Z3(s:Str)(c:UInt8):EM s [c]=decide (s[0]?=some c):=by
 cases s<;>simp[EM]
theorem MT(c:UInt8)(u:Nat)(s:Str)(m k:Nat):(tk c u (s,m,k)).1.length<=s.length/\(tk c u (s,m,k)).2.1<=m+1000000*u/\(tk c u (s,m,k)).2.2<=k+1:=by
 cases h:fI s c with
 |none=>rw[xS h];simp
 |some p=>
  obtain⟨n,r⟩:=p;have:=yp h;rw[yt h];have a:n*u<=1000000*u:=Nat.mul_le_mul (by omega) (by omega);dsimp only;omega
theorem VQ{s:Str}{c:UInt8}(h:c∈s)(b:d7 c=false):c∈zn s:=by
 obtain⟨d,e,f⟩:=uw s;rw[e,List.mem_append]at h
 have a:c∈dk s:=by
  rcases h with h|h
  ·exact h
  ·rw[List.all_eq_true.1 f c h]at b;cases b
 unfold zn;rw[<-List.takeWhile_append_dropWhile (p:=d7) (l:=dk s),List.mem_append]at a;rcases a with a|a
 ·rw[List.all_eq_true.1 (List.all_takeWhile (l:=dk s) (p:=d7)) c a]at b;cases b
 ·exact a
theorem Ud{s:Str}{c:UInt8}(h:¬c∈s):fI s c=none:=by
 unfold fI;rw[if_pos];right;intro a;exact h (List.mem_of_getElem? a)
def OE(s:Str)(m k:Nat):Str×Nat×Nat:=if s[0]?=some 84 then MP (s.drop 1) m else (s,m,k)
def EN(s:Str)(m:Nat):Bool:=decide (s[0]?=some 84/\0<(MP (s.drop 1) m).2.2)
theorem ab6{s:Str}(h:¬72∈s)(m:Nat):MP s m=tk 83 1 (tk 77 60 (s,m,0)):=by unfold MP;rw[xS (Ud h)]
theorem aej{s:Str}(h:¬72∈s)(a:¬77∈s)(m:Nat):MP s m=tk 83 1 (s,m,0):=by rw[ab6 h,xS (Ud a)]
theorem MU(s:Str)(m k:Nat)(E:s.length<1000000)(F:m<=700000000000)(N:k<=90):jL G2 T_ 280
  {args:=[.loc 1000 0],objs:=[(1000,.box (E3 (s,m,k)))],res:=.val (.bool (EN s m)),objs':=[(1000,.box (E3 (OE s m k)))],ro':=[] }:=by
 refine aN hm qG (by simp) rfl ?_;simp[jU,ji,E3];refine aa (OD s [84] E (by simp)) ?_;unfold cutP;rw[Z3];by_cases h:s[0]?=some 84
 ·have b:OE s m k=MP (s.drop 1) m:=by unfold OE;rw[if_pos h]
  have d:(s.drop 1).length<1000000:=by rw[List.length_drop];omega
  have hT:=up (TP (s.drop 1) d);simp only[dgs]at hT;obtain⟨r,o⟩:∃r,s.drop 1=r:=⟨_,rfl⟩;have q:EN s m=decide (0<(MP r m).2.2):=by unfold EN;simp[h,o]
  rw[b,q];rw[o]at hT d |-;simp[h,o];refine aa hT ?_;clear hT b q h o;obtain⟨t,z⟩:∃t,zn r=t:=⟨_,rfl⟩;have v:∀c,d7 c=false->¬c∈t->¬c∈r:=fun c H I J=>I (z▸VQ J H)
  rw[z];by_cases u:t=[77]\/t=[77,83]\/t=[77,48,83]
  ·have e:MP r m=tk 83 1 (tk 77 60 (r,m,0)):=ab6 (v 72 rfl (by rcases u with rfl|rfl|rfl<;>simp)) m;rw[e];have f:=MT 77 60 r m 0;have g:=jz r m 0 77 60 d (by omega) (by omega) (by omega);obtain⟨⟨i,j,l⟩,e1⟩:∃p,tk 77 60 (r,m,0)=p:=⟨_,rfl⟩;rw[e1]at f g |-;dsimp only at f;have a:=jz i j l 83 1 (by omega) (by omega) (by omega) (by omega);obtain⟨⟨A,B,n⟩,e2⟩:∃p,tk 83 1 (i,j,l)=p:=⟨_,rfl⟩;rw[e2]at a |-
   rcases u with rfl|rfl|rfl<;>(
    simp(disch:=omega)[wl,E3];refine callM [] [] g rfl rfl ⟨rfl,trivial⟩ ⟨rfl,[],[],rfl,⟨[],[],rfl,rfl,rfl⟩,rfl⟩ rfl ?_;simp(disch:=omega)[wl,E3];refine callM [] [] a rfl rfl ⟨rfl,trivial⟩ ⟨rfl,[],[],rfl,⟨[],[],rfl,rfl,rfl⟩,rfl⟩ rfl ?_;simp(disch:=omega)[wl,E3]
    exact cW [(2,.val (.bool (decide (0<n))))])
  by_cases b:t=[83]
  ·subst b;have e:MP r m=tk 83 1 (r,m,0):=aej (v 72 rfl (by simp)) (v 77 rfl (by simp)) m;rw[e];have a:=jz r m 0 83 1 d (by omega) (by omega) (by omega);obtain⟨⟨A,B,n⟩,e2⟩:∃p,tk 83 1 (r,m,0)=p:=⟨_,rfl⟩;rw[e2]at a |-;simp(disch:=omega)[wl,E3];refine callM [] [] a rfl rfl ⟨rfl,trivial⟩ ⟨rfl,[],[],rfl,⟨[],[],rfl,rfl,rfl⟩,rfl⟩ rfl ?_;simp(disch:=omega)[wl,E3];exact cW [(2,.val (.bool (decide (0<n))))]
  ·simp only[not_or]at u;obtain⟨K,L,M⟩:=u;unfold MP;have C:=MT 72 3600 r m 0;have D:=jz r m 0 72 3600 d (by omega) (by omega) (by omega);obtain⟨⟨w,x,y⟩,e0⟩:∃p,tk 72 3600 (r,m,0)=p:=⟨_,rfl⟩;rw[e0]at C D |-;dsimp only at C;have f:=MT 77 60 w x y;have g:=jz w x y 77 60 (by omega) (by omega) (by omega) (by omega);obtain⟨⟨i,j,l⟩,e1⟩:∃p,tk 77 60 (w,x,y)=p:=⟨_,rfl⟩;rw[e1]at f g |-;dsimp only at f;have a:=jz i j l 83 1 (by omega) (by omega) (by omega) (by omega);obtain⟨⟨A,B,n⟩,e2⟩:∃p,tk 83 1 (i,j,l)=p:=⟨_,rfl⟩;rw[e2]at a |-;simp(disch:=omega)[wl,E3,K,L,M,b];refine callM [] [] D rfl rfl ⟨rfl,trivial⟩ ⟨rfl,[],[],rfl,⟨[],[],rfl,rfl,rfl⟩,rfl⟩ rfl ?_;simp(disch:=omega)[wl,E3];refine callM [] [] g rfl rfl ⟨rfl,trivial⟩ ⟨rfl,[],[],rfl,⟨[],[],rfl,rfl,rfl⟩,rfl⟩ rfl ?_;simp(disch:=omega)[wl,E3];refine callM [] [] a rfl rfl ⟨rfl,trivial⟩ ⟨rfl,[],[],rfl,⟨[],[],rfl,rfl,rfl⟩,rfl⟩ rfl ?_;simp(disch:=omega)[wl,E3];exact cW [(2,.val (.bool (decide (0<n))))]
 ·have b:OE s m k=(s,m,k):=by unfold OE;rw[if_neg h]
  have q:EN s m=false:=by unfold EN;simp[h]
  rw[b,q];simp[h];exact cW [(2,.val (.bool false))]
end Go.Vs.YtcjeehebikeghaaGreatDoor.Vt
