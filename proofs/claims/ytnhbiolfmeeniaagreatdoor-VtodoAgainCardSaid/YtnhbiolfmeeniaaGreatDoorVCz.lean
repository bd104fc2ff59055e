/- A part of a proof. No conditions. -/
import Derived.Test.YtnhbiolfmeeniaaGreatDoorVBz
import Derived.Test.YtnhbiolfmeeniaaGreatDoorVAz
import Derived.Test.YtnhbiolfmeeniaaGreatDoorBZz
set_option linter.all false
set_option maxRecDepth 100000
set_option maxHeartbeats 16000000
namespace Go.Vs.Y.Vt
open Go.Proofs Go.Vs.U8 Go.Vs.Pa Go.Vs.Vt
abbrev Lif.iv(l:Lif):IV:=.agg [.int .u8 l.s,.int .i64 l.p,.int .i64 l.d]
theorem afS(x:Int):Fn G2 T_ 78 [.int .u8 x] (.tuple [.int .i64 (IH x),.int .i64 (rh x)]):=by
 refine ae hm LM (by simp) ?_;simp[Cg,IH,rh,lC]
 grind
theorem Py(l:Lif):Fn G2 T_ 43 [Lif.iv l] (.int .i64 (yD l)):=by
 obtain⟨s,p,d⟩:=l;refine ae hm IK (by simp) ?_;simp[A3];refine brd (fun a=>?_) (fun a=>?_)<;>simp[a]
 .simp[yD,a]
 simp[lC];refine⟨fun h=>?_,fun b=>⟨fun h=>?_,fun c=>⟨fun h=>?_,fun e=>⟨fun h=>?_,fun f=>aa (afS s) ?_⟩⟩⟩⟩
 iterate 4 (unfold yD;grind)
 simp[lC];unfold yD
 grind
theorem XM:Fn G2 T_ 12 [] (Lif.iv Lz):=by
 refine ae hm NG (by simp) ?_;simp[Fd,Lz]
theorem TY(s:Int):Fn G2 T_ 46 [.int .u8 s] (.str (yE s)):=by
 refine ae hm LJ (by simp) ?_;simp[Ce,lC];unfold yE
 grind
def stI(p:Int×Int):IV:=.tuple [.int .u8 p.1,.int .i64 p.2]
theorem afT{s:Int}(h:1<=s/\s<=4):IntKind.u8.wrap (s+1)=s+1:=by
 have:s=1\/s=2\/s=3\/s=4:=by omega
 rcases this with rfl|rfl|rfl|rfl<;>rfl
theorem TZ{x:Str}{s:Int}(h:1<=s/\s<=4)(e:yE s=x):R9 x=(s,0):=by
 subst e;have:s=1\/s=2\/s=3\/s=4:=by omega
 rcases this with rfl|rfl|rfl|rfl<;>rfl
theorem ag3{x:Str}(h:∀t:Int,1<=t->t<5->yE t≠x):R9 x=(0,11):=by
 unfold R9;rw[if_neg (fun e=>h 1 (by omega) (by omega) e.symm),if_neg (fun e=>h 2 (by omega) (by omega) e.symm),if_neg (fun e=>h 3 (by omega) (by omega) e.symm),if_neg (fun e=>h 4 (by omega) (by omega) e.symm)]
theorem ZM(x:Str):Fn G2 T_ 94 [.str x] (stI (R9 x)):=by
 refine ae hm IL (by simp) ?_;by_cases b:x=[]
 .subst b;simp[tX];rfl
 simp[tX];simp(disch:=omega)[wl,b];refine bx hm [] (fun s:Nat=>[(4,.val (.int .u8 s))]) (fun _=>[]) (fun s=>1<=s/\s<=5/\∀t:Int,1<=t->t<s->yE t≠x) (fun s=>5-s) 1 ⟨by omega,by omega,fun t d f=>by omega⟩ ?_ ?_
 .simp;exact bA
 rintro s ⟨d,f,c⟩;simp;by_cases i:s<=4
 .simp(disch:=omega)[wl];refine aa (TY s) ?_;by_cases a:yE s=x
  .simp(disch:=omega)[wl,a,TZ (s:=s) (by omega) a,stI]
  have e:=afT (s:=s) (by omega);simp(disch:=omega)[wl,a,e];refine aj (s+1) ⟨by omega,by omega,fun t g j=>?_⟩ (by omega) ?_
  .by_cases h:t=s
   .subst h;exact a
   exact c t g (by omega)
  simp;exact bA
 obtain rfl:s=5:=by omega
 simp(disch:=omega)[wl,ag3 c,stI]
open Go.Vs.Nu
theorem U0(c:UInt8):Fn G2 T_ 235 [.int .u8 c.toNat] (.bool (eI c)):=by
 refine ae hm IN (by simp) ?_;simp[A9,lC];simp only[eI]
 grind
def G4(p:Str×Nat×Nat):List SV:=[.val (.str p.1),.val (.int .i64 p.2.1),.val (.int .i64 p.2.2)]
theorem U1{s:Str}{j:Nat}(h:j<s.length){d:Nat}(a:0<d):cnt d (s.drop j)=if eI s[j]=true then cnt (d-1) (s.drop (j+1))+1 else 0:=by
 rw[List.drop_eq_getElem_cons h];obtain⟨e,rfl⟩:∃e,d=e+1:=⟨d-1,by omega⟩;rfl
theorem Co{s:Str}{c:UInt8}{u m k:Nat}(h:nA s c=none):tk c u (s,m,k)=(s,m,k):=by unfold tk;rw[h]
theorem Fr{s:Str}{c:UInt8}{u m k n:Nat}{r:Str}(h:nA s c=some (n,r)):tk c u (s,m,k)=(r,m+n*u,k+1):=by unfold tk;rw[h]
theorem aig(c:UInt8)(h:eI c=true):IntKind.u8.wrap ((c.toNat:Int)-48)=(c.toNat-48:Nat):=by
 have:=QN h;rw[wrap_u8 (by omega) (by omega)];omega
theorem lg(s:Str)(m k:Nat)(c:UInt8)(u:Nat)(H:s.length<1000000)(A:u<=604800)(E:m<=1000000000000)(I:k<=100):lB G2 T_ 196
  {args:=[.loc 1000 0,.val (.int .u8 c.toNat),.val (.int .i64 u)],objs:=[(1000,.box (G4 (s,m,k)))],res:=.val (.bool (nA s c).isSome),objs':=[(1000,.box (G4 (tk c u (s,m,k))))],ro':=[] }:=by
 refine aK hm uv (by simp) rfl ?_;simp[mH,rq,G4];refine Hs hm (fun j:Nat=>⟨[(7,.val (.int .i64 (bE 0 (s.take j):Nat))),(8,.val (.int .i64 j)),(0,.loc 1000 0),(1,.val (.int .u8 c.toNat)),(2,.val (.int .i64 u))],[(1000,.box [.val (.str s),.val (.int .i64 m),.val (.int .i64 k)])],[],90,G2⟩) (fun j=>j<=6/\j<=s.length/\(s.take j).all eI=true/\j+cnt (6-j) (s.drop j)=cnt 6 s) (fun j=>6-j) 0 ⟨by omega,by omega,rfl,by simp⟩ ?_ (fun _=>rfl) ?_
 .have F:bE 0 (s.take 0)=0:=rfl;rw[F];exact bA
 rintro j ⟨J,K,B,C⟩;have L:=val_bd B (d:=6) (by rw[List.length_take];omega);simp;by_cases h:j<s.length/\j<6/\(∀h:j<s.length,eI s[j]=true)
 .obtain⟨a,l,i⟩:=h;have i:=i a;obtain⟨x,f⟩:=A_ (s[j]);rw[f]at i;have v:=U0 x;rw[i]at v;have w:=aig x i;have M:=QN i;have D:s.take (j+1)=s.take j++[x]:=by rw[List.take_succ_eq_append_getElem a,f]
  simp(disch:=omega)[wl,a,l,f];refine aa v ?_;simp(disch:=omega)[wl,a,f,w];refine aj (j+1) ⟨by omega,by omega,?_,?_⟩ (by omega) ?_
  .rw[D,List.all_append,B];simp[i]
  .rw[<-C,U1 a (by omega),f,if_pos i,show 6-(j+1)=6-j-1 by omega];omega
  simp[D,KQ];exact bA
 have p:j=cnt 6 s:=by
  rw[<-C];by_cases l:j<6
  .by_cases a:j<s.length
   .have:eI s[j]=false:=by
     cases y:eI s[j]with
     |false=>rfl
     |true=>exact absurd ⟨a,l,fun _=>y⟩ h
    rw[U1 a (by omega),this];simp
   rw[List.drop_eq_nil_of_le (by omega)];cases 6-j<;>rfl
  rw[show 6-j=0 by omega];rfl
 by_cases a:j<s.length
 .obtain⟨x,f⟩:=A_ (s[j]);by_cases l:j<6
  .have i:eI x=false:=by
    cases y:eI x with
    |false=>rfl
    |true=>exact absurd ⟨a,l,fun _=>by rw[f];exact y⟩ h
   have v:=U0 x;rw[i]at v;simp(disch:=omega)[wl,a,l,f];refine aa v ?_;simp(disch:=omega)[wl];by_cases e0:j=0
   .have b:nA s c=none:=by unfold nA;rw[<-p,if_pos (.inl e0)]
    simp(disch:=omega)[wl,e0];rw[b,Co b];exact ch [(6,.val (.bool false))]
   by_cases e:x=c
   .have b:nA s c=some (bE 0 (s.take j),s.drop (j+1)):=by unfold nA;rw[<-p,if_neg (by simp[e0,List.getElem?_eq_getElem a,f,e])]
    have g:bE 0 (s.take j)*u<=1000000*604800:=Nat.mul_le_mul (by omega) A;obtain⟨q,n⟩:=A_ (bE 0 (s.take j)*u);have o:(bE 0 (s.take j):Int)*u=(q:Int):=by rw[<-n];simp
    rw[n]at g;simp(disch:=omega)[wl,e0,a,f,e,o];refine⟨by omega,?_⟩;rw[b,Fr b];exact ch [(6,.val (.bool true))] (an rfl rfl (by simp[bj,aE,ac]) (by simp[bZ,ac,G4,n]) (by simp[bX]))
   have b:nA s c=none:=by unfold nA;rw[<-p,if_pos (.inr (by simp[List.getElem?_eq_getElem a,f,e]))]
   have z:¬x.toNat=c.toNat:=fun h=>e (UInt8.toNat_inj.1 h)
   simp(disch:=omega)[wl,e0,a,f,z];rw[b,Co b];exact ch [(6,.val (.bool false))]
  simp(disch:=omega)[wl,a,l];have e0:¬j=0:=by omega
  by_cases e:x=c
  .have b:nA s c=some (bE 0 (s.take j),s.drop (j+1)):=by unfold nA;rw[<-p,if_neg (by simp[e0,List.getElem?_eq_getElem a,f,e])]
   have g:bE 0 (s.take j)*u<=1000000*604800:=Nat.mul_le_mul (by omega) A;obtain⟨q,n⟩:=A_ (bE 0 (s.take j)*u);have o:(bE 0 (s.take j):Int)*u=(q:Int):=by rw[<-n];simp
   rw[n]at g;simp(disch:=omega)[wl,e0,a,f,e,o];refine⟨by omega,?_⟩;rw[b,Fr b];exact ch [(6,.val (.bool true))] (an rfl rfl (by simp[bj,aE,ac]) (by simp[bZ,ac,G4,n]) (by simp[bX]))
  have b:nA s c=none:=by unfold nA;rw[<-p,if_pos (.inr (by simp[List.getElem?_eq_getElem a,f,e]))]
  have z:¬x.toNat=c.toNat:=fun h=>e (UInt8.toNat_inj.1 h)
  simp(disch:=omega)[wl,e0,a,f,z];rw[b,Co b];exact ch [(6,.val (.bool false))]
 have b:nA s c=none:=by unfold nA;rw[<-p,if_pos (.inr (by rw[List.getElem?_eq_none (by omega)];simp))]
 simp(disch:=omega)[wl,a];by_cases e0:j=0
 .simp(disch:=omega)[wl,e0];rw[b,Co b];exact ch [(6,.val (.bool false))]
 have e1:(j:Int)=s.length:=by omega
 have e2:¬s.length=0:=by omega
 simp(disch:=omega)[wl,e1,e2];rw[b,Co b];exact ch [(6,.val (.bool false))]
def GT(s p:Str):Bool:=decide (s.take p.length=p)
def cutP(s p:Str):IV:=if GT s p=true then .tuple [.str (s.drop p.length),.bool true]else .tuple [.str s,.bool false]
def U2(s p:Str):Str:=if GT s p=true then s.drop p.length else s
theorem LS{s p:Str}(h:GT s p=true):p.length<=s.length:=by
 simp[GT]at h;have:=congrArg List.length h;rw[List.length_take]at this;omega
theorem XN(s p:Str)(b:s.length<1000000)(c:p.length<1000000):Fn G2 T_ 234 [.str s,.str p] (.bool (GT s p)):=by
 refine ae hm o8 (by simp) ?_;simp[iC];by_cases h:p.length<=s.length
 .simp(disch:=omega)[wl,h,GT]
 have:GT s p=false:=by
  cases a:GT s p with
  |false=>rfl
  |true=>exact absurd (LS a) h
 simp(disch:=omega)[wl,h,this]
theorem ac9(s p:Str)(a:s.length<1000000)(b:p.length<1000000):Fn G2 T_ 194 [.str s,.str p] (cutP s p):=by
 refine ae hm o7 (by simp) ?_;simp[iA];refine aa (XN s p a b) ?_;unfold cutP;cases h:GT s p with
 |false=>simp(disch:=omega)[wl]
 |true=>
  have:=LS h;simp(disch:=omega)[wl,this]
theorem Ri(s p:Str)(a:s.length<1000000)(b:p.length<1000000):Fn G2 T_ 137 [.str s,.str p] (cutP s p):=by
 refine ae hm A6 (by simp) ?_;simp[rI];refine aa (ac9 s p a b) ?_;unfold cutP;cases h:GT s p<;>simp(disch:=omega)[wl]
theorem ZN(s p:Str)(a:s.length<1000000)(b:p.length<1000000):Fn G2 T_ 195 [.str s,.str p] (.str (U2 s p)):=by
 refine ae hm nB (by simp) ?_;simp[gL];refine aa (XN s p a b) ?_;unfold U2;cases h:GT s p with
 |false=>simp(disch:=omega)[wl]
 |true=>
  have:=LS h;simp(disch:=omega)[wl,this]
theorem ada(s p:Str)(a:s.length<1000000)(b:p.length<1000000):Fn G2 T_ 138 [.str s,.str p] (.str (U2 s p)):=by
 refine ae hm yF (by simp) ?_;simp[qN];refine aa (ZN s p a b) ?_;simp(disch:=omega)[wl]
theorem adb(s:Str)(c:UInt8):GT s [c]=decide (s[0]?=some c):=by
 cases s<;>simp[GT]
theorem Pz(c:UInt8)(u:Nat)(s:Str)(m k:Nat):(tk c u (s,m,k)).1.length<=s.length/\(tk c u (s,m,k)).2.1<=m+1000000*u/\(tk c u (s,m,k)).2.2<=k+1:=by
 cases h:nA s c with
 |none=>rw[Co h];simp
 |some p=>
  obtain⟨n,r⟩:=p;have:=num_len h;rw[Fr h];have a:n*u<=1000000*u:=Nat.mul_le_mul (by omega) (by omega);dsimp only;omega
theorem ZO{s:Str}{c:UInt8}(h:c∈s)(b:eI c=false):c∈BC s:=by
 obtain⟨d,e,f⟩:=xp s;rw[e,List.mem_append]at h
 have a:c∈fi s:=by
  rcases h with h|h
  .exact h
  rw[List.all_eq_true.1 f c h]at b;cases b
 unfold BC;rw[<-List.takeWhile_append_dropWhile (p:=eI) (l:=fi s),List.mem_append]at a;rcases a with a|a
 .rw[List.all_eq_true.1 (List.all_takeWhile (l:=fi s) (p:=eI)) c a]at b;cases b
 exact a
theorem XO{s:Str}{c:UInt8}(h:¬c∈s):nA s c=none:=by
 unfold nA;rw[if_pos];right;intro a;exact h (List.mem_of_getElem? a)
def Rj(s:Str)(m k:Nat):Str×Nat×Nat:=if s[0]?=some 84 then R8 (s.drop 1) m else (s,m,k)
def GU(s:Str)(m:Nat):Bool:=decide (s[0]?=some 84/\0<(R8 (s.drop 1) m).2.2)
theorem ag4{s:Str}(h:¬72∈s)(m:Nat):R8 s m=tk 83 1 (tk 77 60 (s,m,0)):=by unfold R8;rw[Co (XO h)]
theorem ajl{s:Str}(h:¬72∈s)(a:¬77∈s)(m:Nat):R8 s m=tk 83 1 (s,m,0):=by rw[ag4 h,Co (XO a)]
theorem PA(s:Str)(m k:Nat)(D:s.length<1000000)(E:m<=700000000000)(M:k<=90):lB G2 T_ 197
  {args:=[.loc 1000 0],objs:=[(1000,.box (G4 (s,m,k)))],res:=.val (.bool (GU s m)),objs':=[(1000,.box (G4 (Rj s m k)))],ro':=[] }:=by
 refine aK hm tZ (by simp) rfl ?_;simp[lW,rq,G4];refine aa (Ri s [84] D (by simp)) ?_;unfold cutP;rw[adb];by_cases h:s[0]?=some 84
 .have b:Rj s m k=R8 (s.drop 1) m:=by unfold Rj;rw[if_pos h]
  have d:(s.drop 1).length<1000000:=by rw[List.length_drop];omega
  have hT:=up (Xp (s.drop 1) d);simp only[dgs]at hT;obtain⟨r,o⟩:=A_ (s.drop 1);have p:GU s m=decide (0<(R8 r m).2.2):=by unfold GU;simp[h,o]
  rw[b,p];rw[o]at hT d |-;simp[h,o];refine aa hT ?_;clear hT b p h o;obtain⟨t,y⟩:=A_ (BC r);have u:∀c,eI c=false->¬c∈t->¬c∈r:=fun c F H I=>H (y▸ZO I F)
  rw[y];by_cases q:t=[77]\/t=[77,83]\/t=[77,48,83]
  .have e:R8 r m=tk 83 1 (tk 77 60 (r,m,0)):=ag4 (u 72 rfl (by rcases q with rfl|rfl|rfl<;>simp)) m;rw[e];have f:=Pz 77 60 r m 0;have g:=lg r m 0 77 60 d (by omega) (by omega) (by omega);obtain⟨⟨i,j,l⟩,e1⟩:=A_ (tk 77 60 (r,m,0));rw[e1]at f g |-;dsimp only at f;have a:=lg i j l 83 1 (by omega) (by omega) (by omega) (by omega);obtain⟨⟨z,A,n⟩,e2⟩:=A_ (tk 83 1 (i,j,l));rw[e2]at a |-
   rcases q with rfl|rfl|rfl<;>(
    simp(disch:=omega)[wl,G4];refine callM [] [] g rfl rfl ⟨rfl,trivial⟩ ⟨rfl,[],[],rfl,⟨[],[],rfl,rfl,rfl⟩,rfl⟩ rfl ?_;simp(disch:=omega)[wl,G4];refine callM [] [] a rfl rfl ⟨rfl,trivial⟩ ⟨rfl,[],[],rfl,⟨[],[],rfl,rfl,rfl⟩,rfl⟩ rfl ?_;simp(disch:=omega)[wl,G4]
    exact ch [(2,.val (.bool (decide (0<n))))])
  by_cases b:t=[83]
  .subst b;have e:R8 r m=tk 83 1 (r,m,0):=ajl (u 72 rfl (by simp)) (u 77 rfl (by simp)) m;rw[e];have a:=lg r m 0 83 1 d (by omega) (by omega) (by omega);obtain⟨⟨z,A,n⟩,e2⟩:=A_ (tk 83 1 (r,m,0));rw[e2]at a |-;simp(disch:=omega)[wl,G4];refine callM [] [] a rfl rfl ⟨rfl,trivial⟩ ⟨rfl,[],[],rfl,⟨[],[],rfl,rfl,rfl⟩,rfl⟩ rfl ?_;simp(disch:=omega)[wl,G4];exact ch [(2,.val (.bool (decide (0<n))))]
  simp only[not_or]at q;obtain⟨J,K,L⟩:=q;unfold R8;have B:=Pz 72 3600 r m 0;have C:=lg r m 0 72 3600 d (by omega) (by omega) (by omega);obtain⟨⟨v,w,x⟩,e0⟩:=A_ (tk 72 3600 (r,m,0));rw[e0]at B C |-;dsimp only at B;have f:=Pz 77 60 v w x;have g:=lg v w x 77 60 (by omega) (by omega) (by omega) (by omega);obtain⟨⟨i,j,l⟩,e1⟩:=A_ (tk 77 60 (v,w,x));rw[e1]at f g |-;dsimp only at f;have a:=lg i j l 83 1 (by omega) (by omega) (by omega) (by omega);obtain⟨⟨z,A,n⟩,e2⟩:=A_ (tk 83 1 (i,j,l));rw[e2]at a |-;simp(disch:=omega)[wl,G4,J,K,L,b];refine callM [] [] C rfl rfl ⟨rfl,trivial⟩ ⟨rfl,[],[],rfl,⟨[],[],rfl,rfl,rfl⟩,rfl⟩ rfl ?_;simp(disch:=omega)[wl,G4];refine callM [] [] g rfl rfl ⟨rfl,trivial⟩ ⟨rfl,[],[],rfl,⟨[],[],rfl,rfl,rfl⟩,rfl⟩ rfl ?_;simp(disch:=omega)[wl,G4];refine callM [] [] a rfl rfl ⟨rfl,trivial⟩ ⟨rfl,[],[],rfl,⟨[],[],rfl,rfl,rfl⟩,rfl⟩ rfl ?_;simp(disch:=omega)[wl,G4];exact ch [(2,.val (.bool (decide (0<n))))]
 have b:Rj s m k=(s,m,k):=by unfold Rj;rw[if_neg h]
 have p:GU s m=false:=by unfold GU;simp[h]
 rw[b,p];simp[h];exact ch [(2,.val (.bool false))]
end Go.Vs.Y.Vt
