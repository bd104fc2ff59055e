/- The walk of what a line that tells when tells. No conditions. -/
import Derived.Test.YtcjeehebikeghaaGreatDoorVG
import Derived.Test.YtcjeehebikeghaaGreatDoorBZ
set_option linter.unusedVariables false
set_option linter.unusedSimpArgs false
set_option maxRecDepth 100000
set_option maxHeartbeats 16000000
namespace Go.Vs.YtcjeehebikeghaaGreatDoor.Vt
open Go.Proofs Go.Vs.U8 Go.Vs.Pa Go.Vs.Nu Go.Vs.Mo Go.Vs.Vt Go.Vs.YtcjeehebikeghaaGreatDoor.Rc
def qQ(r:Ru):List SV:=[.val (.int .u8 r.f),.val (.int .i64 r.i),.val (.int .i64 r.c),.val (.int .u8 r.u.k),.val (.int .i64 r.u.s),.val (.slice (is r.l4)),.val (.slice (is r.l5)),.val (.slice (is r.l6)),.val (.slice (vu r.l7)),.val (.slice (is r.l8)),.val (.slice (is r.l9)),.val (.slice (is r.l10)),.val (.slice (is r.l11)),.val (.slice (is r.l12)),.val (.int .i64 r.w)]
def rN(f:Fc)(vi vo:Nat):List SV:=[.val (.str f.uid),.val (.str f.sm),.val (.int .u8 f.st.k),.val (.int .i64 f.st.s),.val (.int .u8 f.b.k),.val (.int .i64 f.b.s),.val (.int .u8 f.e.k),.val (.int .i64 f.e.s),.val (.int .i64 f.sp),.val (.int .u8 f.li.s),.val (.int .i64 f.li.p),.val (.int .i64 f.li.d),.val (.int .i64 f.pr),.val (.bool f.rd)]++(qQ f.ru++[.own 1001 vi,.own 1002 vo,.val (.int .u8 f.at'.k),.val (.int .i64 f.at'.s),.val (.bool f.af)])
def fH(f:Fc)(vi vo:Nat):List (Nat×Ob):=[(1000,.box (rN f vi vo)),(1001,.arr vi 2 (ms f.i)),(1002,.arr vo 2 (ms f.o))]
theorem Q0(m:Mom):ms [m]=[[.int .u8 m.k,.int .i64 m.s]]:=rfl
theorem SU(f:Fc)(vi vo:Nat)(x:Ln)(fx:FitX x)(hv:x.v.length<50000):oe G2 Tryz.prog iJ
  {args:=[.val x.iv,.loc 1000 4],objs:=fH f vi vo,res:=.val (.int .i64 (cP x).1),objs':=fH (if (cP x).1=0 then {f with b:=(cP x).2 } else f) vi vo,ro':=[] }:=by
 refine bA hm rM (by simp) rfl ?_;have hD:=ww x fx hv;have hp:=@ze x;unfold cP;obtain⟨⟨e,l⟩,hm'⟩:∃r,cR x=r:=⟨_,rfl⟩;rw[hm']at hD hp ⊢;dsimp only at hp ⊢;simp only[Mn,Ln.iv]at hD;simp[oY,oZ,Ln.iv,og,fH,rN,qQ];refine aa hD ?_;by_cases h1:e=0
 ·have hl:=hp h1;by_cases h2:l.length=1
  ·have hone:=PZ l h2;rw[hone];simp(disch:=omega)[wl,h1,Q0];exact eu [(4,.val (.int .i64 0))]
  ·simp(disch:=omega)[wl,h1,fG,h2];exact eu [(4,.val (.int .i64 4))]
 ·simp(disch:=omega)[wl,h1];exact eu [(4,.val (.int .i64 e))]
theorem SW(f:Fc)(vi vo:Nat)(x:Ln)(fx:FitX x)(hv:x.v.length<50000):oe G2 Tryz.prog iJ
  {args:=[.val x.iv,.loc 1000 6],objs:=fH f vi vo,res:=.val (.int .i64 (cP x).1),objs':=fH (if (cP x).1=0 then {f with e:=(cP x).2 } else f) vi vo,ro':=[] }:=by
 refine bA hm rM (by simp) rfl ?_;have hD:=ww x fx hv;have hp:=@ze x;unfold cP;obtain⟨⟨e,l⟩,hm'⟩:∃r,cR x=r:=⟨_,rfl⟩;rw[hm']at hD hp ⊢;dsimp only at hp ⊢;simp only[Mn,Ln.iv]at hD;simp[oY,oZ,Ln.iv,og,fH,rN,qQ];refine aa hD ?_;by_cases h1:e=0
 ·have hl:=hp h1;by_cases h2:l.length=1
  ·have hone:=PZ l h2;rw[hone];simp(disch:=omega)[wl,h1,Q0];exact eu [(4,.val (.int .i64 0))]
  ·simp(disch:=omega)[wl,h1,fG,h2];exact eu [(4,.val (.int .i64 4))]
 ·simp(disch:=omega)[wl,h1];exact eu [(4,.val (.int .i64 e))]
theorem Q1(f:Fc)(vi vo:Nat)(x:Ln)(fx:FitX x)(hv:x.v.length<50000):oe G2 Tryz.prog iJ
  {args:=[.val x.iv,.loc 1000 31],objs:=fH f vi vo,res:=.val (.int .i64 (cP x).1),objs':=fH (if (cP x).1=0 then {f with at':=(cP x).2 } else f) vi vo,ro':=[] }:=by
 refine bA hm rM (by simp) rfl ?_;have hD:=ww x fx hv;have hp:=@ze x;unfold cP;obtain⟨⟨e,l⟩,hm'⟩:∃r,cR x=r:=⟨_,rfl⟩;rw[hm']at hD hp ⊢;dsimp only at hp ⊢;simp only[Mn,Ln.iv]at hD;simp[oY,oZ,Ln.iv,og,fH,rN,qQ];refine aa hD ?_;by_cases h1:e=0
 ·have hl:=hp h1;by_cases h2:l.length=1
  ·have hone:=PZ l h2;rw[hone];simp(disch:=omega)[wl,h1,Q0];exact eu [(4,.val (.int .i64 0))]
  ·simp(disch:=omega)[wl,h1,fG,h2];exact eu [(4,.val (.int .i64 4))]
 ·simp(disch:=omega)[wl,h1];exact eu [(4,.val (.int .i64 e))]
def Oo:List Str:=[bn,bj,aO,dd,gc,bW,bt,de]
def cF(f:Fc)(x:Ln):Fc:=if (x.n=aO∨x.n=dd∨x.n=gc)∧(cP x).1≠0 then f else cg f x
def Ch(x:Ln)(v:Nat):Nat:=if x.n=bW then v+1 else v
def Ci(x:Ln)(v:Nat):Nat:=if x.n=bt then v+1 else v
theorem QX(a b:List Mom):ms a++ms b=ms (a++b):=by simp[ms]
theorem We(l:List Mom):∀r∈ms l,r.length=2:=by
 intro r hr;obtain⟨v,_,rfl⟩:=List.mem_map.1 hr;rfl
theorem zf(x:Ln):(cR x).2.length≤x.v.length+1:=by
 unfold cR;split
 ·simp
 ·have:=Kc (iw x.p Gb) (parts 44 x.v) [];have:=QV 44 x.v;simp at *;omega
theorem I8(f:Fc)(vi vo:Nat)(x:Ln)(fx:FitX x)(hv:x.v.length<50000)(hi:f.i.length<1000000)(ho:f.o.length<1000000)(hn:x.n=bn):oe G2 Tryz.prog aH
  {args:=[.loc 1000 0,.val x.iv],objs:=fH f vi vo,res:=.val (.tuple [.int .i64 (bG x),.bool true]),objs':=fH (cF f x) (Ch x vi) (Ci x vo),ro':=[] }:=by
 refine bA hm bb (by simp) rfl ?_;have hZ:=QW x fx;obtain⟨⟨e,m⟩,hz⟩:∃r,ox x=r:=⟨_,rfl⟩;rw[hz]at hZ;simp[bG,cF,cg,Ch,Ci,hn,hz,dc,bn,bj,aO,dd,gc,bW,bt,de,Ln.iv,Mn,Za,n9]at hZ ⊢;simp[aw,ax,og,fH,rN,qQ];refine aa hZ ?_;simp;exact eu [(5,.val (.bool true)),(4,.val (.int .i64 e))]
theorem LJ(f:Fc)(vi vo:Nat)(x:Ln)(fx:FitX x)(hv:x.v.length<50000)(hi:f.i.length<1000000)(ho:f.o.length<1000000)(hn:x.n=bj):oe G2 Tryz.prog aH
  {args:=[.loc 1000 0,.val x.iv],objs:=fH f vi vo,res:=.val (.tuple [.int .i64 (bG x),.bool true]),objs':=fH (cF f x) (Ch x vi) (Ci x vo),ro':=[] }:=by
 refine bA hm bb (by simp) rfl ?_;have hZ:=QW x fx;obtain⟨⟨e,m⟩,hz⟩:∃r,ox x=r:=⟨_,rfl⟩;rw[hz]at hZ;simp[bG,cF,cg,Ch,Ci,hn,hz,dc,bn,bj,aO,dd,gc,bW,bt,de,Ln.iv,Mn,Za,n9]at hZ ⊢;simp[aw,ax,og,fH,rN,qQ];refine aa hZ ?_;simp;exact eu [(5,.val (.bool true)),(4,.val (.int .i64 e))]
theorem I9(f:Fc)(vi vo:Nat)(x:Ln)(fx:FitX x)(hv:x.v.length<50000)(hi:f.i.length<1000000)(ho:f.o.length<1000000)(hn:x.n=aO):oe G2 Tryz.prog aH
  {args:=[.loc 1000 0,.val x.iv],objs:=fH f vi vo,res:=.val (.tuple [.int .i64 (bG x),.bool true]),objs':=fH (cF f x) (Ch x vi) (Ci x vo),ro':=[] }:=by
 refine bA hm bb (by simp) rfl ?_;have hZ:=SU f vi vo x fx hv;obtain⟨⟨e,m⟩,hz⟩:∃r,cP x=r:=⟨_,rfl⟩;rw[hz]at hZ;dsimp only at hZ;by_cases he:e=0
 ·subst he;rw[if_pos rfl]at hZ;simp[bG,cF,cg,Ch,Ci,hn,hz,dc,bn,bj,aO,dd,gc,bW,bt,de,Ln.iv,fH,rN,qQ]at hZ ⊢;simp[aw,ax,og,fH,rN,qQ];refine mZ hm (vs:=[_,_,_,_]) ?_;simp;refine⟨rfl,?_⟩;refine callM [] [] hZ rfl rfl ⟨rfl,rfl,rfl,trivial⟩ ⟨[],[],rfl,⟨rfl,rfl⟩,rfl⟩ rfl ?_;simp;exact eu [(5,.val (.bool true)),(4,.val (.int .i64 0))]
 ·rw[if_neg he]at hZ;simp[he,bG,cF,cg,Ch,Ci,hn,hz,dc,bn,bj,aO,dd,gc,bW,bt,de,Ln.iv,fH,rN,qQ]at hZ ⊢;simp[aw,ax,og,fH,rN,qQ];refine mZ hm (vs:=[_,_,_,_]) ?_;simp;refine⟨rfl,?_⟩;refine callM [] [] hZ rfl rfl ⟨rfl,rfl,rfl,trivial⟩ ⟨[],[],rfl,⟨rfl,rfl⟩,rfl⟩ rfl ?_;simp;exact eu [(5,.val (.bool true)),(4,.val (.int .i64 e))]
theorem Oq(f:Fc)(vi vo:Nat)(x:Ln)(fx:FitX x)(hv:x.v.length<50000)(hi:f.i.length<1000000)(ho:f.o.length<1000000)(hn:x.n=dd):oe G2 Tryz.prog aH
  {args:=[.loc 1000 0,.val x.iv],objs:=fH f vi vo,res:=.val (.tuple [.int .i64 (bG x),.bool true]),objs':=fH (cF f x) (Ch x vi) (Ci x vo),ro':=[] }:=by
 refine bA hm bb (by simp) rfl ?_;have hZ:=SW f vi vo x fx hv;obtain⟨⟨e,m⟩,hz⟩:∃r,cP x=r:=⟨_,rfl⟩;rw[hz]at hZ;dsimp only at hZ;by_cases he:e=0
 ·subst he;rw[if_pos rfl]at hZ;simp[bG,cF,cg,Ch,Ci,hn,hz,dc,bn,bj,aO,dd,gc,bW,bt,de,Ln.iv,fH,rN,qQ]at hZ ⊢;simp[aw,ax,og,fH,rN,qQ];refine mZ hm (vs:=[_,_,_,_]) ?_;simp;refine⟨rfl,?_⟩;refine callM [] [] hZ rfl rfl ⟨rfl,rfl,rfl,trivial⟩ ⟨[],[],rfl,⟨rfl,rfl⟩,rfl⟩ rfl ?_;simp;exact eu [(5,.val (.bool true)),(4,.val (.int .i64 0))]
 ·rw[if_neg he]at hZ;simp[he,bG,cF,cg,Ch,Ci,hn,hz,dc,bn,bj,aO,dd,gc,bW,bt,de,Ln.iv,fH,rN,qQ]at hZ ⊢;simp[aw,ax,og,fH,rN,qQ];refine mZ hm (vs:=[_,_,_,_]) ?_;simp;refine⟨rfl,?_⟩;refine callM [] [] hZ rfl rfl ⟨rfl,rfl,rfl,trivial⟩ ⟨[],[],rfl,⟨rfl,rfl⟩,rfl⟩ rfl ?_;simp;exact eu [(5,.val (.bool true)),(4,.val (.int .i64 e))]
theorem Q2(f:Fc)(vi vo:Nat)(x:Ln)(fx:FitX x)(hv:x.v.length<50000)(hi:f.i.length<1000000)(ho:f.o.length<1000000)(hn:x.n=gc):oe G2 Tryz.prog aH
  {args:=[.loc 1000 0,.val x.iv],objs:=fH f vi vo,res:=.val (.tuple [.int .i64 (bG x),.bool true]),objs':=fH (cF f x) (Ch x vi) (Ci x vo),ro':=[] }:=by
 refine bA hm bb (by simp) rfl ?_;have hZ:=Q1 f vi vo x fx hv;obtain⟨⟨e,m⟩,hz⟩:∃r,cP x=r:=⟨_,rfl⟩;rw[hz]at hZ;dsimp only at hZ;by_cases he:e=0
 ·subst he;rw[if_pos rfl]at hZ;simp[bG,cF,cg,Ch,Ci,hn,hz,dc,bn,bj,aO,dd,gc,bW,bt,de,Ln.iv,fH,rN,qQ]at hZ ⊢;simp[aw,ax,og,fH,rN,qQ];refine mZ hm (vs:=[_,_,_,_]) ?_;simp;refine⟨rfl,?_⟩;refine callM [] [] hZ rfl rfl ⟨rfl,rfl,rfl,trivial⟩ ⟨[],[],rfl,⟨rfl,rfl⟩,rfl⟩ rfl ?_;simp;exact eu [(5,.val (.bool true)),(4,.val (.int .i64 0))]
 ·rw[if_neg he]at hZ;simp[he,bG,cF,cg,Ch,Ci,hn,hz,dc,bn,bj,aO,dd,gc,bW,bt,de,Ln.iv,fH,rN,qQ]at hZ ⊢;simp[aw,ax,og,fH,rN,qQ];refine mZ hm (vs:=[_,_,_,_]) ?_;simp;refine⟨rfl,?_⟩;refine callM [] [] hZ rfl rfl ⟨rfl,rfl,rfl,trivial⟩ ⟨[],[],rfl,⟨rfl,rfl⟩,rfl⟩ rfl ?_;simp;exact eu [(5,.val (.bool true)),(4,.val (.int .i64 e))]
theorem Ot(f:Fc)(vi vo:Nat)(x:Ln)(fx:FitX x)(hv:x.v.length<50000)(hi:f.i.length<1000000)(ho:f.o.length<1000000)(hn:x.n=bW):oe G2 Tryz.prog aH
  {args:=[.loc 1000 0,.val x.iv],objs:=fH f vi vo,res:=.val (.tuple [.int .i64 (bG x),.bool true]),objs':=fH (cF f x) (Ch x vi) (Ci x vo),ro':=[] }:=by
 refine bA hm bb (by simp) rfl ?_;have hZ:=ww x fx hv;have hl:=zf x;obtain⟨⟨e,m⟩,hz⟩:∃r,cR x=r:=⟨_,rfl⟩;rw[hz]at hZ hl;simp[bG,cF,cg,Ch,Ci,hn,hz,dc,bn,bj,aO,dd,gc,bW,bt,de,Ln.iv,Mn,Za,n9]at hZ hl ⊢;simp[aw,ax,og,fH,rN,qQ];refine aa hZ ?_;simp;refine⟨⟨by rw[fG,fG];omega,We _⟩,?_⟩;rw[QX];exact eu [(5,.val (.bool true)),(4,.val (.int .i64 e))]
theorem LL(f:Fc)(vi vo:Nat)(x:Ln)(fx:FitX x)(hv:x.v.length<50000)(hi:f.i.length<1000000)(ho:f.o.length<1000000)(hn:x.n=bt):oe G2 Tryz.prog aH
  {args:=[.loc 1000 0,.val x.iv],objs:=fH f vi vo,res:=.val (.tuple [.int .i64 (bG x),.bool true]),objs':=fH (cF f x) (Ch x vi) (Ci x vo),ro':=[] }:=by
 refine bA hm bb (by simp) rfl ?_;have hZ:=ww x fx hv;have hl:=zf x;obtain⟨⟨e,m⟩,hz⟩:∃r,cR x=r:=⟨_,rfl⟩;rw[hz]at hZ hl;simp[bG,cF,cg,Ch,Ci,hn,hz,dc,bn,bj,aO,dd,gc,bW,bt,de,Ln.iv,Mn,Za,n9]at hZ hl ⊢;simp[aw,ax,og,fH,rN,qQ];refine aa hZ ?_;simp;refine⟨⟨by rw[fG,fG];omega,We _⟩,?_⟩;rw[QX];exact eu [(5,.val (.bool true)),(4,.val (.int .i64 e))]
theorem LM(f:Fc)(vi vo:Nat)(x:Ln)(fx:FitX x)(hv:x.v.length<50000)(hi:f.i.length<1000000)(ho:f.o.length<1000000)(hn:x.n=de):oe G2 Tryz.prog aH
  {args:=[.loc 1000 0,.val x.iv],objs:=fH f vi vo,res:=.val (.tuple [.int .i64 (bG x),.bool true]),objs':=fH (cF f x) (Ch x vi) (Ci x vo),ro':=[] }:=by
 refine bA hm bb (by simp) rfl ?_;have hZ:=PU x.v (by have:=fx.v;omega);obtain⟨⟨d,e⟩,hz⟩:∃r,ue x.v=r:=⟨_,rfl⟩;rw[hz]at hZ;dsimp only at hZ;by_cases h1:e=0
 ·subst h1;by_cases h2:d≤0
  ·simp[bG,cF,cg,Ch,Ci,Lx,hn,hz,h2,dc,bn,bj,aO,dd,gc,bW,bt,de,Ln.iv];simp[aw,ax,og,fH,rN,qQ];refine aa hZ ?_;simp(disch:=omega)[wl,h2];exact eu [(5,.val (.bool true)),(4,.val (.int .i64 8))]
  ·simp[bG,cF,cg,Ch,Ci,Lx,hn,hz,h2,dc,bn,bj,aO,dd,gc,bW,bt,de,Ln.iv];simp[aw,ax,og,fH,rN,qQ];refine aa hZ ?_;simp(disch:=omega)[wl,h2];exact eu [(5,.val (.bool true)),(4,.val (.int .i64 0))]
 ·simp[bG,cF,cg,Ch,Ci,Lx,hn,hz,h1,dc,bn,bj,aO,dd,gc,bW,bt,de,Ln.iv];simp[aw,ax,og,fH,rN,qQ];refine aa hZ ?_;simp(disch:=omega)[wl,h1];exact eu [(5,.val (.bool true)),(4,.val (.int .i64 e))]
theorem SX(f:Fc)(vi vo:Nat)(x:Ln)(hn:x.n∉Oo):oe G2 Tryz.prog aH
  {args:=[.loc 1000 0,.val x.iv],objs:=fH f vi vo,res:=.val (.tuple [.int .i64 0,.bool false]),objs':=fH f vi vo,ro':=[] }:=by
 refine bA hm bb (by simp) rfl ?_;simp[Oo,bn,bj,aO,dd,gc,bW,bt,de]at hn;obtain⟨h1,h2,h3,h4,h5,h6,h7,h8⟩:=hn;simp[aw,ax,og,fH,rN,qQ,Ln.iv,h1,h2,h3,h4,h5,h6,h7,h8];exact eu [(5,.val (.bool false)),(4,.val (.int .i64 0))]
theorem GC(n:Int)(ps:List Int):Fn G2 Tryz.prog nO [dp n ps] (.int .i64 n):=by
 refine ag hm LD (by simp) ?_;have hA:=upM (Ff n 0 ps);obtain⟨t,v,h⟩:=cH n ps;rw[h]at hA ⊢;simp[Dk,Dl];refine callM [(1000,3)] [] hA rfl rfl ⟨rfl,trivial⟩ ⟨[],[],rfl,⟨rfl,rfl⟩,rfl⟩ rfl ?_;simp
def SY:List Str:=[dc,eO,bF,dg,gt,bP,dz,pV]
theorem LN(r:Ru):r.iv=.agg [.int .u8 r.f,.int .i64 r.i,.int .i64 r.c,.int .u8 r.u.k,.int .i64 r.u.s,.slice (is r.l4),.slice (is r.l5),.slice (is r.l6),.slice (vu r.l7),.slice (is r.l8),.slice (is r.l9),.slice (is r.l10),.slice (is r.l11),.slice (is r.l12),.int .i64 r.w]:=rfl
theorem Ou(f:Fc)(vi vo:Nat)(x:Ln)(fx:FitX x)(hv:x.v.length<50000)(hn:x.n=dc):oe G2 Tryz.prog aI
  {args:=[.loc 1000 0,.val x.iv],objs:=fH f vi vo,res:=.val (.int .i64 (bG x)),objs':=fH (cF f x) vi vo,ro':=[] }:=by
 refine bA hm bc (by simp) rfl ?_;have hZ:=up (Lk x.v (by have:=fx.v;omega));by_cases h1:ra x.v=true
 ·rw[h1]at hZ;simp[bG,cF,cg,hn,h1,dc,eO,bF,dg,gt,bP,dz,pV,bn,bj,aO,dd,gc,bW,bt,de,fY,ie,Ln.iv];simp[au,av,og,fH,rN,qQ];refine aa hZ ?_;simp;exact eu [(4,.val (.int .i64 0))]
 ·have h1:ra x.v=false:=by simpa using h1
  rw[h1]at hZ;simp[bG,cF,cg,hn,h1,dc,eO,bF,dg,gt,bP,dz,pV,bn,bj,aO,dd,gc,bW,bt,de,fY,ie,Ln.iv];simp[au,av,og,fH,rN,qQ];refine aa hZ ?_;simp;exact eu [(4,.val (.int .i64 4))]
theorem LO(f:Fc)(vi vo:Nat)(x:Ln)(fx:FitX x)(hv:x.v.length<50000)(hn:x.n=eO):oe G2 Tryz.prog aI
  {args:=[.loc 1000 0,.val x.iv],objs:=fH f vi vo,res:=.val (.int .i64 (bG x)),objs':=fH (cF f x) vi vo,ro':=[] }:=by
 refine bA hm bc (by simp) rfl ?_;have hZ:=Ol x.v (by have:=fx.v;omega);obtain⟨R,hR⟩:∃R,unR x.v=R:=⟨_,rfl⟩;rw[hR]at hZ;cases R with
 |ok t=>
  simp only[Z9]at hZ;simp[bG,cF,cg,hn,unE,unT,hR,dc,eO,bF,dg,gt,bP,dz,pV,bn,bj,aO,dd,gc,bW,bt,de,fY,ie,Ln.iv];simp[au,av,og,fH,rN,qQ];refine aa hZ ?_;simp;exact eu [(4,.val (.int .i64 0))]
 |bad p=>
  have hW:=GC 4 [(p:Int)];simp only[Z9]at hZ;obtain⟨t,v,h⟩:=cH 4 [(p:Int)];rw[h]at hZ hW;simp[bG,cF,cg,hn,unE,unT,hR,dc,eO,bF,dg,gt,bP,dz,pV,bn,bj,aO,dd,gc,bW,bt,de,fY,ie,Ln.iv];simp[au,av,og,fH,rN,qQ];refine aa hZ ?_;simp;refine aa hW ?_;simp;exact eu [(4,.val (.int .i64 4))]
theorem LP(f:Fc)(vi vo:Nat)(x:Ln)(fx:FitX x)(hv:x.v.length<50000)(hn:x.n=bF):oe G2 Tryz.prog aI
  {args:=[.loc 1000 0,.val x.iv],objs:=fH f vi vo,res:=.val (.int .i64 (bG x)),objs':=fH (cF f x) vi vo,ro':=[] }:=by
 refine bA hm bc (by simp) rfl ?_;have hZ:=SP x.v;obtain⟨⟨s,e⟩,hR⟩:∃R,Ca x.v=R:=⟨_,rfl⟩;rw[hR]at hZ;simp only[stI]at hZ;simp[bG,cF,cg,hn,hR,dc,eO,bF,dg,gt,bP,dz,pV,bn,bj,aO,dd,gc,bW,bt,de,fY,ie,Ln.iv];simp[au,av,og,fH,rN,qQ];refine aa hZ ?_;simp;exact eu [(4,.val (.int .i64 e))]
theorem Ov(f:Fc)(vi vo:Nat)(x:Ln)(fx:FitX x)(hv:x.v.length<50000)(hn:x.n=dg):oe G2 Tryz.prog aI
  {args:=[.loc 1000 0,.val x.iv],objs:=fH f vi vo,res:=.val (.int .i64 (bG x)),objs':=fH (cF f x) vi vo,ro':=[] }:=by
 refine bA hm bc (by simp) rfl ?_;have hZ:=up (E4 0 100 false x.v (by have:=fx.v;omega));obtain⟨⟨n,e⟩,hR⟩:∃R,dU 5 0 100 false x.v=R:=⟨_,rfl⟩;rw[hR]at hZ;simp only[Sp]at hZ;by_cases h1:e=0
 ·subst h1;rw[if_pos rfl]at hZ;simp[bG,cF,cg,hn,hR,dc,eO,bF,dg,gt,bP,dz,pV,bn,bj,aO,dd,gc,bW,bt,de,fY,ie,Ln.iv];simp[au,av,og,fH,rN,qQ];refine aa hZ ?_;simp;exact eu [(4,.val (.int .i64 0))]
 ·rw[if_neg h1]at hZ;have hW:=GC e [0];obtain⟨t,v,h⟩:=cH e [0];rw[h]at hZ hW;simp[bG,cF,cg,hn,hR,dc,eO,bF,dg,gt,bP,dz,pV,bn,bj,aO,dd,gc,bW,bt,de,fY,ie,Ln.iv];simp[au,av,og,fH,rN,qQ];refine aa hZ ?_;simp;refine aa hW ?_;simp;exact eu [(4,.val (.int .i64 e))]
theorem LQ(f:Fc)(vi vo:Nat)(x:Ln)(fx:FitX x)(hv:x.v.length<50000)(hn:x.n=gt):oe G2 Tryz.prog aI
  {args:=[.loc 1000 0,.val x.iv],objs:=fH f vi vo,res:=.val (.int .i64 (bG x)),objs':=fH (cF f x) vi vo,ro':=[] }:=by
 refine bA hm bc (by simp) rfl ?_;have hZ:=up (E4 0 9 false x.v (by have:=fx.v;omega));obtain⟨⟨n,e⟩,hR⟩:∃R,dU 5 0 9 false x.v=R:=⟨_,rfl⟩;rw[hR]at hZ;simp only[Sp]at hZ;by_cases h1:e=0
 ·subst h1;rw[if_pos rfl]at hZ;simp[bG,cF,cg,hn,hR,dc,eO,bF,dg,gt,bP,dz,pV,bn,bj,aO,dd,gc,bW,bt,de,fY,ie,Ln.iv];simp[au,av,og,fH,rN,qQ];refine aa hZ ?_;simp;exact eu [(4,.val (.int .i64 0))]
 ·rw[if_neg h1]at hZ;have hW:=GC e [0];obtain⟨t,v,h⟩:=cH e [0];rw[h]at hZ hW;simp[bG,cF,cg,hn,hR,dc,eO,bF,dg,gt,bP,dz,pV,bn,bj,aO,dd,gc,bW,bt,de,fY,ie,Ln.iv];simp[au,av,og,fH,rN,qQ];refine aa hZ ?_;simp;refine aa hW ?_;simp;exact eu [(4,.val (.int .i64 e))]
theorem LR(f:Fc)(vi vo:Nat)(x:Ln)(fx:FitX x)(hv:x.v.length<50000)(hn:x.n=bP):oe G2 Tryz.prog aI
  {args:=[.loc 1000 0,.val x.iv],objs:=fH f vi vo,res:=.val (.int .i64 (bG x)),objs':=fH (cF f x) vi vo,ro':=[] }:=by
 refine bA hm bc (by simp) rfl ?_;have hZ:=PP x.v (by have:=fx.v;omega);obtain⟨R,hR⟩:∃R,qJ x.v=R:=⟨_,rfl⟩;rw[hR]at hZ;cases R with
 |ok r=>
  simp only[SK,LN]at hZ;simp[bG,cF,cg,hn,ruE,ruV,hR,dc,eO,bF,dg,gt,bP,dz,pV,bn,bj,aO,dd,gc,bW,bt,de,fY,ie,Ln.iv];simp[au,av,og,fH,rN,qQ];refine aa hZ ?_;simp;exact eu [(4,.val (.int .i64 0))]
 |no e p=>
  have hW:=GC e p;simp only[SK,LN]at hZ;obtain⟨t,v,h⟩:=cH e p;rw[h]at hZ hW;simp[bG,cF,cg,hn,ruE,ruV,hR,dc,eO,bF,dg,gt,bP,dz,pV,bn,bj,aO,dd,gc,bW,bt,de,fY,ie,Ln.iv];simp[au,av,og,fH,rN,qQ];refine aa hZ ?_;simp;refine aa hW ?_;simp;exact eu [(4,.val (.int .i64 e))]
theorem Ow(f:Fc)(vi vo:Nat)(x:Ln)(fx:FitX x)(hv:x.v.length<50000)(hn:x.n=dz):oe G2 Tryz.prog aI
  {args:=[.loc 1000 0,.val x.iv],objs:=fH f vi vo,res:=.val (.int .i64 (bG x)),objs':=fH (cF f x) vi vo,ro':=[] }:=by
 refine bA hm bc (by simp) rfl ?_;by_cases h1:x.v=fY
 ·simp only[fY]at h1;simp[bG,cF,cg,hn,h1,dc,eO,bF,dg,gt,bP,dz,pV,bn,bj,aO,dd,gc,bW,bt,de,fY,ie,Ln.iv];simp[au,av,og,fH,rN,qQ];exact eu [(4,.val (.int .i64 0))]
 ·by_cases h2:x.v=ie
  ·simp only[ie]at h2;simp[bG,cF,cg,hn,h2,dc,eO,bF,dg,gt,bP,dz,pV,bn,bj,aO,dd,gc,bW,bt,de,fY,ie,Ln.iv];simp[au,av,og,fH,rN,qQ];exact eu [(4,.val (.int .i64 0))]
  ·simp only[ie]at h2;simp only[fY]at h1;simp[bG,cF,cg,hn,h1,h2,dc,eO,bF,dg,gt,bP,dz,pV,bn,bj,aO,dd,gc,bW,bt,de,fY,ie,Ln.iv];simp[au,av,og,fH,rN,qQ];simp(disch:=omega)[wl,h1,h2];exact eu [(4,.val (.int .i64 4))]
theorem Ox(f:Fc)(vi vo:Nat)(x:Ln)(fx:FitX x)(hv:x.v.length<50000)(hn:x.n=pV):oe G2 Tryz.prog aI
  {args:=[.loc 1000 0,.val x.iv],objs:=fH f vi vo,res:=.val (.int .i64 (bG x)),objs':=fH (cF f x) vi vo,ro':=[] }:=by
 refine bA hm bc (by simp) rfl ?_;have hZ:=up (XN x fx);obtain⟨⟨⟨a,b⟩,e⟩,hR⟩:∃R,Vh x=R:=⟨_,rfl⟩;rw[hR]at hZ;simp only[D5,Ln.iv,hn,pV]at hZ;simp[bG,cF,cg,hn,hR,dc,eO,bF,dg,gt,bP,dz,pV,bn,bj,aO,dd,gc,bW,bt,de,fY,ie,Ln.iv];simp[au,av,og,fH,rN,qQ];refine aa hZ ?_;simp;exact eu [(4,.val (.int .i64 e))]
theorem SZ(f:Fc)(vi vo:Nat)(x:Ln)(hn:x.n∉SY):oe G2 Tryz.prog aI
  {args:=[.loc 1000 0,.val x.iv],objs:=fH f vi vo,res:=.val (.int .i64 0),objs':=fH f vi vo,ro':=[] }:=by
 refine bA hm bc (by simp) rfl ?_;simp[SY,dc,eO,bF,dg,gt,bP,dz,pV,bn,bj,aO,dd,gc,bW,bt,de,fY,ie]at hn;obtain⟨h1,h2,h3,h4,h5,h6,h7,h8⟩:=hn;simp[au,av,og,fH,rN,qQ,Ln.iv,h1,h2,h3,h4,h5,h6,h7,h8];exact eu [(4,.val (.int .i64 0))]
theorem aax(f:Fc)(vi vo:Nat)(x:Ln)(fx:FitX x)(hv:x.v.length<50000)(hi:f.i.length<1000000)(ho:f.o.length<1000000)(hn:x.n∈Oo):oe G2 Tryz.prog aH
  {args:=[.loc 1000 0,.val x.iv],objs:=fH f vi vo,res:=.val (.tuple [.int .i64 (bG x),.bool true]),objs':=fH (cF f x) (Ch x vi) (Ci x vo),ro':=[] }:=by
 simp only[Oo,List.mem_cons,List.not_mem_nil,or_false]at hn;rcases hn with h|h|h|h|h|h|h|h
 ·exact I8 f vi vo x fx hv hi ho h
 ·exact LJ f vi vo x fx hv hi ho h
 ·exact I9 f vi vo x fx hv hi ho h
 ·exact Oq f vi vo x fx hv hi ho h
 ·exact Q2 f vi vo x fx hv hi ho h
 ·exact Ot f vi vo x fx hv hi ho h
 ·exact LL f vi vo x fx hv hi ho h
 ·exact LM f vi vo x fx hv hi ho h
theorem take_no{x:Ln}(h1:x.n∉Oo)(h2:x.n∉SY)(f:Fc):bG x=0∧cF f x=f:=by
 simp only[Oo,List.mem_cons,List.not_mem_nil,or_false,not_or]at h1;simp only[SY,List.mem_cons,List.not_mem_nil,or_false,not_or]at h2;obtain⟨a1,a2,a3,a4,a5,a6,a7,a8⟩:=h1;obtain⟨b1,b2,b3,b4,b5,b6,b7,b8⟩:=h2;simp[bG,cF,cg,a1,a2,a3,a4,a5,a6,a7,a8,b1,b2,b3,b4,b5,b6,b7,b8]
theorem aay(f:Fc)(vi vo:Nat)(x:Ln)(fx:FitX x)(hv:x.v.length<50000)(hn:x.n∉Oo):oe G2 Tryz.prog aI
  {args:=[.loc 1000 0,.val x.iv],objs:=fH f vi vo,res:=.val (.int .i64 (bG x)),objs':=fH (cF f x) vi vo,ro':=[] }:=by
 by_cases hw:x.n∈SY
 ·simp only[SY,List.mem_cons,List.not_mem_nil,or_false]at hw;rcases hw with h|h|h|h|h|h|h|h
  ·exact Ou f vi vo x fx hv h
  ·exact LO f vi vo x fx hv h
  ·exact LP f vi vo x fx hv h
  ·exact Ov f vi vo x fx hv h
  ·exact LQ f vi vo x fx hv h
  ·exact LR f vi vo x fx hv h
  ·exact Ow f vi vo x fx hv h
  ·exact Ox f vi vo x fx hv h
 ·obtain⟨e1,e2⟩:=take_no hn hw f;rw[e1,e2];exact SZ f vi vo x hw
theorem fnM_take(f:Fc)(vi vo:Nat)(x:Ln)(fx:FitX x)(hv:x.v.length<50000)(hi:f.i.length<1000000)(ho:f.o.length<1000000):oe G2 Tryz.prog fC
  {args:=[.loc 1000 0,.val x.iv],objs:=fH f vi vo,res:=.val (.int .i64 (bG x)),objs':=fH (cF f x) (Ch x vi) (Ci x vo),ro':=[] }:=by
 refine bA hm oW (by simp) rfl ?_;by_cases hn:x.n∈Oo
 ·have hD:=aax f vi vo x fx hv hi ho hn;simp[fE,fF,og,fH,rN,qQ,Ln.iv]at hD ⊢;refine callM [] [] hD rfl rfl ⟨rfl,rfl,rfl,trivial⟩ ⟨rfl,[],[],rfl,rfl,rfl⟩ rfl ?_;simp;exact eu [(4,.val (.int .i64 (bG x)))]
 ·have hno:bG x=bG x:=rfl;have hvi:Ch x vi=vi:=by unfold Ch;rw[if_neg (fun e=>hn (by rw[e];decide))]
  have hvo:Ci x vo=vo:=by unfold Ci;rw[if_neg (fun e=>hn (by rw[e];decide))]
  rw[hvi,hvo];have hW:=aay f vi vo x fx hv hn;have hD:oe G2 Tryz.prog aH {args:=[.loc 1000 0,.val x.iv],objs:=fH f vi vo,res:=.val (.tuple [.int .i64 0,.bool false]),objs':=fH f vi vo,ro':=[] }:=SX f vi vo x hn;simp[fE,fF,og,fH,rN,qQ,Ln.iv]at hD hW ⊢;refine callM [] [] hD rfl rfl ⟨rfl,rfl,rfl,trivial⟩ ⟨rfl,[],[],rfl,rfl,rfl⟩ rfl ?_;simp;refine callM [] [] hW rfl rfl ⟨rfl,rfl,rfl,trivial⟩ ⟨rfl,[],[],rfl,rfl,rfl⟩ rfl ?_;simp;exact eu [(4,.val (.int .i64 (bG x)))]
end Go.Vs.YtcjeehebikeghaaGreatDoor.Vt
