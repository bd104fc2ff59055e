/- A part of a proof. No conditions. -/
import Derived.Test.YtcjeehebikeghaaGreatDoorVG
import Derived.Test.YtcjeehebikeghaaGreatDoorBZ
set_option linter.unusedVariables false
set_option linter.unusedSimpArgs false
set_option maxRecDepth 100000
set_option maxHeartbeats 16000000
namespace Go.Vs.YtcjeehebikeghaaGreatDoor.Vt
open Go.Proofs Go.Vs.U8 Go.Vs.Pa Go.Vs.Nu Go.Vs.Mo Go.Vs.Vt Go.Vs.YtcjeehebikeghaaGreatDoor.Rc
def pm(r:Ru):List SV:=[.val (.int .u8 r.f),.val (.int .i64 r.i),.val (.int .i64 r.c),.val (.int .u8 r.u.k),.val (.int .i64 r.u.s),.val (.slice (is r.l4)),.val (.slice (is r.l5)),.val (.slice (is r.l6)),.val (.slice (zK r.l7)),.val (.slice (is r.l8)),.val (.slice (is r.l9)),.val (.slice (is r.l10)),.val (.slice (is r.l11)),.val (.slice (is r.l12)),.val (.int .i64 r.w)]
def qe(f:Fc)(vi vo:Nat):List SV:=[.val (.str f.uid),.val (.str f.sm),.val (.int .u8 f.st.k),.val (.int .i64 f.st.s),.val (.int .u8 f.b.k),.val (.int .i64 f.b.s),.val (.int .u8 f.e.k),.val (.int .i64 f.e.s),.val (.int .i64 f.sp),.val (.int .u8 f.li.s),.val (.int .i64 f.li.p),.val (.int .i64 f.li.d),.val (.int .i64 f.pr),.val (.bool f.rd)]++(pm f.ru++[.own 1001 vi,.own 1002 vo,.val (.int .u8 f.at'.k),.val (.int .i64 f.at'.s),.val (.bool f.af)])
def eX(f:Fc)(vi vo:Nat):List (Nat×Ob):=[(1000,.box (qe f vi vo)),(1001,.arr vi 2 (ms f.i)),(1002,.arr vo 2 (ms f.o))]
theorem LE(m:Mom):ms [m]=[[.int .u8 m.k,.int .i64 m.s]]:=rfl
theorem Ov(f:Fc)(vi vo:Nat)(x:Ln)(fx:FitX x)(hv:x.v.length<50000):mP G2 T_ 146
  {args:=[.val x.iv,.loc 1000 4],objs:=eX f vi vo,res:=.val (.int .i64 (ck x).1),objs':=eX (if (ck x).1=0 then {f with b:=(ck x).2 } else f) vi vo,ro':=[] }:=by
 refine bn hm qd (by simp) rfl ?_;have hD:=ut x fx hv;have hp:=@xb x;unfold ck;obtain⟨⟨e,l⟩,hm'⟩:∃r,cq x=r:=⟨_,rfl⟩;rw[hm']at hD hp |-;dsimp only at hp |-;simp only[Ik,Ln.iv]at hD;simp[nF,Ln.iv,nj,eX,qe,pm];refine aa hD ?_;by_cases h1:e=0
 ·have hl:=hp h1;by_cases h2:l.length=1
  ·have hone:=LD l h2;rw[hone];simp(disch:=omega)[wl,h1,LE];exact dP [(4,.val (.int .i64 0))]
  ·simp(disch:=omega)[wl,h1,gU,h2];exact dP [(4,.val (.int .i64 4))]
 ·simp(disch:=omega)[wl,h1];exact dP [(4,.val (.int .i64 e))]
theorem Ow(f:Fc)(vi vo:Nat)(x:Ln)(fx:FitX x)(hv:x.v.length<50000):mP G2 T_ 146
  {args:=[.val x.iv,.loc 1000 6],objs:=eX f vi vo,res:=.val (.int .i64 (ck x).1),objs':=eX (if (ck x).1=0 then {f with e:=(ck x).2 } else f) vi vo,ro':=[] }:=by
 refine bn hm qd (by simp) rfl ?_;have hD:=ut x fx hv;have hp:=@xb x;unfold ck;obtain⟨⟨e,l⟩,hm'⟩:∃r,cq x=r:=⟨_,rfl⟩;rw[hm']at hD hp |-;dsimp only at hp |-;simp only[Ik,Ln.iv]at hD;simp[nF,Ln.iv,nj,eX,qe,pm];refine aa hD ?_;by_cases h1:e=0
 ·have hl:=hp h1;by_cases h2:l.length=1
  ·have hone:=LD l h2;rw[hone];simp(disch:=omega)[wl,h1,LE];exact dP [(4,.val (.int .i64 0))]
  ·simp(disch:=omega)[wl,h1,gU,h2];exact dP [(4,.val (.int .i64 4))]
 ·simp(disch:=omega)[wl,h1];exact dP [(4,.val (.int .i64 e))]
theorem LF(f:Fc)(vi vo:Nat)(x:Ln)(fx:FitX x)(hv:x.v.length<50000):mP G2 T_ 146
  {args:=[.val x.iv,.loc 1000 31],objs:=eX f vi vo,res:=.val (.int .i64 (ck x).1),objs':=eX (if (ck x).1=0 then {f with at':=(ck x).2 } else f) vi vo,ro':=[] }:=by
 refine bn hm qd (by simp) rfl ?_;have hD:=ut x fx hv;have hp:=@xb x;unfold ck;obtain⟨⟨e,l⟩,hm'⟩:∃r,cq x=r:=⟨_,rfl⟩;rw[hm']at hD hp |-;dsimp only at hp |-;simp only[Ik,Ln.iv]at hD;simp[nF,Ln.iv,nj,eX,qe,pm];refine aa hD ?_;by_cases h1:e=0
 ·have hl:=hp h1;by_cases h2:l.length=1
  ·have hone:=LD l h2;rw[hone];simp(disch:=omega)[wl,h1,LE];exact dP [(4,.val (.int .i64 0))]
  ·simp(disch:=omega)[wl,h1,gU,h2];exact dP [(4,.val (.int .i64 4))]
 ·simp(disch:=omega)[wl,h1];exact dP [(4,.val (.int .i64 e))]
def Kb:List Str:=[be,bP,aK,cW,fX,bM,bj,d5]
def bZ(f:Fc)(x:Ln):Fc:=if (x.n=aK\/x.n=cW\/x.n=fX)/\(ck x).1≠0 then f else cz f x
def zY(x:Ln)(v:Nat):Nat:=if x.n=bM then v+1 else v
def zZ(x:Ln)(v:Nat):Nat:=if x.n=bj then v+1 else v
theorem MI(a b:List Mom):ms a++ms b=ms (a++b):=by simp[ms]
theorem RB(l:List Mom):∀r∈ms l,r.length=2:=by
 intro r hr;obtain⟨v,_,rfl⟩:=List.mem_map.1 hr;rfl
theorem xc(x:Ln):(cq x).2.length<=x.v.length+1:=by
 unfold cq;split
 ·simp
 ·have:=GA (gK x.p Dz) (parts 44 x.v) [];have:=MG 44 x.v;simp at *;omega
theorem F6(f:Fc)(vi vo:Nat)(x:Ln)(fx:FitX x)(hv:x.v.length<50000)(hi:f.i.length<1000000)(ho:f.o.length<1000000)(hn:x.n=be):mP G2 T_ 94
  {args:=[.loc 1000 0,.val x.iv],objs:=eX f vi vo,res:=.val (.tuple [.int .i64 (bB x),.bool true]),objs':=eX (bZ f x) (zY x vi) (zZ x vo),ro':=[] }:=by
 refine bn hm ba (by simp) rfl ?_;have hZ:=MH x fx;obtain⟨⟨e,m⟩,hz⟩:∃r,u6 x=r:=⟨_,rfl⟩;rw[hz]at hZ;simp[bB,bZ,cz,zY,zZ,hn,hz,cZ,be,bP,aK,cW,fX,bM,bj,d5,Ln.iv,Ik,UB,lK]at hZ |-;simp[av,nj,eX,qe,pm];refine aa hZ ?_;simp;exact dP [(5,.val (.bool true)),(4,.val (.int .i64 e))]
theorem I6(f:Fc)(vi vo:Nat)(x:Ln)(fx:FitX x)(hv:x.v.length<50000)(hi:f.i.length<1000000)(ho:f.o.length<1000000)(hn:x.n=bP):mP G2 T_ 94
  {args:=[.loc 1000 0,.val x.iv],objs:=eX f vi vo,res:=.val (.tuple [.int .i64 (bB x),.bool true]),objs':=eX (bZ f x) (zY x vi) (zZ x vo),ro':=[] }:=by
 refine bn hm ba (by simp) rfl ?_;have hZ:=MH x fx;obtain⟨⟨e,m⟩,hz⟩:∃r,u6 x=r:=⟨_,rfl⟩;rw[hz]at hZ;simp[bB,bZ,cz,zY,zZ,hn,hz,cZ,be,bP,aK,cW,fX,bM,bj,d5,Ln.iv,Ik,UB,lK]at hZ |-;simp[av,nj,eX,qe,pm];refine aa hZ ?_;simp;exact dP [(5,.val (.bool true)),(4,.val (.int .i64 e))]
theorem F7(f:Fc)(vi vo:Nat)(x:Ln)(fx:FitX x)(hv:x.v.length<50000)(hi:f.i.length<1000000)(ho:f.o.length<1000000)(hn:x.n=aK):mP G2 T_ 94
  {args:=[.loc 1000 0,.val x.iv],objs:=eX f vi vo,res:=.val (.tuple [.int .i64 (bB x),.bool true]),objs':=eX (bZ f x) (zY x vi) (zZ x vo),ro':=[] }:=by
 refine bn hm ba (by simp) rfl ?_;have hZ:=Ov f vi vo x fx hv;obtain⟨⟨e,m⟩,hz⟩:∃r,ck x=r:=⟨_,rfl⟩;rw[hz]at hZ;dsimp only at hZ;by_cases he:e=0
 ·subst he;rw[if_pos rfl]at hZ;simp[bB,bZ,cz,zY,zZ,hn,hz,cZ,be,bP,aK,cW,fX,bM,bj,d5,Ln.iv,eX,qe,pm]at hZ |-;simp[av,nj,eX,qe,pm];refine lG hm (vs:=[_,_,_,_]) ?_;simp;refine⟨rfl,?_⟩;refine callM [] [] hZ rfl rfl ⟨rfl,rfl,rfl,trivial⟩ ⟨[],[],rfl,⟨rfl,rfl⟩,rfl⟩ rfl ?_;simp;exact dP [(5,.val (.bool true)),(4,.val (.int .i64 0))]
 ·rw[if_neg he]at hZ;simp[he,bB,bZ,cz,zY,zZ,hn,hz,cZ,be,bP,aK,cW,fX,bM,bj,d5,Ln.iv,eX,qe,pm]at hZ |-;simp[av,nj,eX,qe,pm];refine lG hm (vs:=[_,_,_,_]) ?_;simp;refine⟨rfl,?_⟩;refine callM [] [] hZ rfl rfl ⟨rfl,rfl,rfl,trivial⟩ ⟨[],[],rfl,⟨rfl,rfl⟩,rfl⟩ rfl ?_;simp;exact dP [(5,.val (.bool true)),(4,.val (.int .i64 e))]
theorem Kc(f:Fc)(vi vo:Nat)(x:Ln)(fx:FitX x)(hv:x.v.length<50000)(hi:f.i.length<1000000)(ho:f.o.length<1000000)(hn:x.n=cW):mP G2 T_ 94
  {args:=[.loc 1000 0,.val x.iv],objs:=eX f vi vo,res:=.val (.tuple [.int .i64 (bB x),.bool true]),objs':=eX (bZ f x) (zY x vi) (zZ x vo),ro':=[] }:=by
 refine bn hm ba (by simp) rfl ?_;have hZ:=Ow f vi vo x fx hv;obtain⟨⟨e,m⟩,hz⟩:∃r,ck x=r:=⟨_,rfl⟩;rw[hz]at hZ;dsimp only at hZ;by_cases he:e=0
 ·subst he;rw[if_pos rfl]at hZ;simp[bB,bZ,cz,zY,zZ,hn,hz,cZ,be,bP,aK,cW,fX,bM,bj,d5,Ln.iv,eX,qe,pm]at hZ |-;simp[av,nj,eX,qe,pm];refine lG hm (vs:=[_,_,_,_]) ?_;simp;refine⟨rfl,?_⟩;refine callM [] [] hZ rfl rfl ⟨rfl,rfl,rfl,trivial⟩ ⟨[],[],rfl,⟨rfl,rfl⟩,rfl⟩ rfl ?_;simp;exact dP [(5,.val (.bool true)),(4,.val (.int .i64 0))]
 ·rw[if_neg he]at hZ;simp[he,bB,bZ,cz,zY,zZ,hn,hz,cZ,be,bP,aK,cW,fX,bM,bj,d5,Ln.iv,eX,qe,pm]at hZ |-;simp[av,nj,eX,qe,pm];refine lG hm (vs:=[_,_,_,_]) ?_;simp;refine⟨rfl,?_⟩;refine callM [] [] hZ rfl rfl ⟨rfl,rfl,rfl,trivial⟩ ⟨[],[],rfl,⟨rfl,rfl⟩,rfl⟩ rfl ?_;simp;exact dP [(5,.val (.bool true)),(4,.val (.int .i64 e))]
theorem LG(f:Fc)(vi vo:Nat)(x:Ln)(fx:FitX x)(hv:x.v.length<50000)(hi:f.i.length<1000000)(ho:f.o.length<1000000)(hn:x.n=fX):mP G2 T_ 94
  {args:=[.loc 1000 0,.val x.iv],objs:=eX f vi vo,res:=.val (.tuple [.int .i64 (bB x),.bool true]),objs':=eX (bZ f x) (zY x vi) (zZ x vo),ro':=[] }:=by
 refine bn hm ba (by simp) rfl ?_;have hZ:=LF f vi vo x fx hv;obtain⟨⟨e,m⟩,hz⟩:∃r,ck x=r:=⟨_,rfl⟩;rw[hz]at hZ;dsimp only at hZ;by_cases he:e=0
 ·subst he;rw[if_pos rfl]at hZ;simp[bB,bZ,cz,zY,zZ,hn,hz,cZ,be,bP,aK,cW,fX,bM,bj,d5,Ln.iv,eX,qe,pm]at hZ |-;simp[av,nj,eX,qe,pm];refine lG hm (vs:=[_,_,_,_]) ?_;simp;refine⟨rfl,?_⟩;refine callM [] [] hZ rfl rfl ⟨rfl,rfl,rfl,trivial⟩ ⟨[],[],rfl,⟨rfl,rfl⟩,rfl⟩ rfl ?_;simp;exact dP [(5,.val (.bool true)),(4,.val (.int .i64 0))]
 ·rw[if_neg he]at hZ;simp[he,bB,bZ,cz,zY,zZ,hn,hz,cZ,be,bP,aK,cW,fX,bM,bj,d5,Ln.iv,eX,qe,pm]at hZ |-;simp[av,nj,eX,qe,pm];refine lG hm (vs:=[_,_,_,_]) ?_;simp;refine⟨rfl,?_⟩;refine callM [] [] hZ rfl rfl ⟨rfl,rfl,rfl,trivial⟩ ⟨[],[],rfl,⟨rfl,rfl⟩,rfl⟩ rfl ?_;simp;exact dP [(5,.val (.bool true)),(4,.val (.int .i64 e))]
theorem Kd(f:Fc)(vi vo:Nat)(x:Ln)(fx:FitX x)(hv:x.v.length<50000)(hi:f.i.length<1000000)(ho:f.o.length<1000000)(hn:x.n=bM):mP G2 T_ 94
  {args:=[.loc 1000 0,.val x.iv],objs:=eX f vi vo,res:=.val (.tuple [.int .i64 (bB x),.bool true]),objs':=eX (bZ f x) (zY x vi) (zZ x vo),ro':=[] }:=by
 refine bn hm ba (by simp) rfl ?_;have hZ:=ut x fx hv;have hl:=xc x;obtain⟨⟨e,m⟩,hz⟩:∃r,cq x=r:=⟨_,rfl⟩;rw[hz]at hZ hl;simp[bB,bZ,cz,zY,zZ,hn,hz,cZ,be,bP,aK,cW,fX,bM,bj,d5,Ln.iv,Ik,UB,lK]at hZ hl |-;simp[av,nj,eX,qe,pm];refine aa hZ ?_;simp;refine⟨⟨by rw[gU,gU];omega,RB _⟩,?_⟩;rw[MI];exact dP [(5,.val (.bool true)),(4,.val (.int .i64 e))]
theorem I7(f:Fc)(vi vo:Nat)(x:Ln)(fx:FitX x)(hv:x.v.length<50000)(hi:f.i.length<1000000)(ho:f.o.length<1000000)(hn:x.n=bj):mP G2 T_ 94
  {args:=[.loc 1000 0,.val x.iv],objs:=eX f vi vo,res:=.val (.tuple [.int .i64 (bB x),.bool true]),objs':=eX (bZ f x) (zY x vi) (zZ x vo),ro':=[] }:=by
 refine bn hm ba (by simp) rfl ?_;have hZ:=ut x fx hv;have hl:=xc x;obtain⟨⟨e,m⟩,hz⟩:∃r,cq x=r:=⟨_,rfl⟩;rw[hz]at hZ hl;simp[bB,bZ,cz,zY,zZ,hn,hz,cZ,be,bP,aK,cW,fX,bM,bj,d5,Ln.iv,Ik,UB,lK]at hZ hl |-;simp[av,nj,eX,qe,pm];refine aa hZ ?_;simp;refine⟨⟨by rw[gU,gU];omega,RB _⟩,?_⟩;rw[MI];exact dP [(5,.val (.bool true)),(4,.val (.int .i64 e))]
theorem I8(f:Fc)(vi vo:Nat)(x:Ln)(fx:FitX x)(hv:x.v.length<50000)(hi:f.i.length<1000000)(ho:f.o.length<1000000)(hn:x.n=d5):mP G2 T_ 94
  {args:=[.loc 1000 0,.val x.iv],objs:=eX f vi vo,res:=.val (.tuple [.int .i64 (bB x),.bool true]),objs':=eX (bZ f x) (zY x vi) (zZ x vo),ro':=[] }:=by
 refine bn hm ba (by simp) rfl ?_;have hZ:=Lz x.v (by have:=fx.v;omega);obtain⟨⟨d,e⟩,hz⟩:∃r,s9 x.v=r:=⟨_,rfl⟩;rw[hz]at hZ;dsimp only at hZ;by_cases h1:e=0
 ·subst h1;by_cases h2:d<=0
  ·simp[bB,bZ,cz,zY,zZ,HR,hn,hz,h2,cZ,be,bP,aK,cW,fX,bM,bj,d5,Ln.iv];simp[av,nj,eX,qe,pm];refine aa hZ ?_;simp(disch:=omega)[wl,h2];exact dP [(5,.val (.bool true)),(4,.val (.int .i64 8))]
  ·simp[bB,bZ,cz,zY,zZ,HR,hn,hz,h2,cZ,be,bP,aK,cW,fX,bM,bj,d5,Ln.iv];simp[av,nj,eX,qe,pm];refine aa hZ ?_;simp(disch:=omega)[wl,h2];exact dP [(5,.val (.bool true)),(4,.val (.int .i64 0))]
 ·simp[bB,bZ,cz,zY,zZ,HR,hn,hz,h1,cZ,be,bP,aK,cW,fX,bM,bj,d5,Ln.iv];simp[av,nj,eX,qe,pm];refine aa hZ ?_;simp(disch:=omega)[wl,h1];exact dP [(5,.val (.bool true)),(4,.val (.int .i64 e))]
theorem Ox(f:Fc)(vi vo:Nat)(x:Ln)(hn:x.n∉Kb):mP G2 T_ 94
  {args:=[.loc 1000 0,.val x.iv],objs:=eX f vi vo,res:=.val (.tuple [.int .i64 0,.bool false]),objs':=eX f vi vo,ro':=[] }:=by
 refine bn hm ba (by simp) rfl ?_;simp[Kb,be,bP,aK,cW,fX,bM,bj,d5]at hn;obtain⟨h1,h2,h3,h4,h5,h6,h7,h8⟩:=hn;simp[av,nj,eX,qe,pm,Ln.iv,h1,h2,h3,h4,h5,h6,h7,h8];exact dP [(5,.val (.bool false)),(4,.val (.int .i64 0))]
theorem DX(n:Int)(ps:List Int):Fn G2 T_ 68 [cS n ps] (.int .i64 n):=by
 refine ag hm I0 (by simp) ?_;have hA:=X6 (CG n 0 ps);obtain⟨t,v,h⟩:=dg n ps;rw[h]at hA |-;simp[AX];refine callM [(1000,3)] [] hA rfl rfl ⟨rfl,trivial⟩ ⟨[],[],rfl,⟨rfl,rfl⟩,rfl⟩ rfl ?_;simp
def Oy:List Str:=[cZ,fK,dq,ii,gv,bH,dk,oz]
theorem RC(r:Ru):r.iv=.agg [.int .u8 r.f,.int .i64 r.i,.int .i64 r.c,.int .u8 r.u.k,.int .i64 r.u.s,.slice (is r.l4),.slice (is r.l5),.slice (is r.l6),.slice (zK r.l7),.slice (is r.l8),.slice (is r.l9),.slice (is r.l10),.slice (is r.l11),.slice (is r.l12),.int .i64 r.w]:=rfl
theorem Ke(f:Fc)(vi vo:Nat)(x:Ln)(fx:FitX x)(hv:x.v.length<50000)(hn:x.n=cZ):mP G2 T_ 95
  {args:=[.loc 1000 0,.val x.iv],objs:=eX f vi vo,res:=.val (.int .i64 (bB x)),objs':=eX (bZ f x) vi vo,ro':=[] }:=by
 refine bn hm bb (by simp) rfl ?_;have hZ:=up (HE x.v (by have:=fx.v;omega));by_cases h1:pz x.v=true
 ·rw[h1]at hZ;simp[bB,bZ,cz,hn,h1,cZ,fK,dq,ii,gv,bH,dk,oz,be,bP,aK,cW,fX,bM,bj,d5,fq,gx,Ln.iv];simp[al,nj,eX,qe,pm];refine aa hZ ?_;simp;exact dP [(4,.val (.int .i64 0))]
 ·have h1:pz x.v=false:=by simpa using h1
  rw[h1]at hZ;simp[bB,bZ,cz,hn,h1,cZ,fK,dq,ii,gv,bH,dk,oz,be,bP,aK,cW,fX,bM,bj,d5,fq,gx,Ln.iv];simp[al,nj,eX,qe,pm];refine aa hZ ?_;simp;exact dP [(4,.val (.int .i64 4))]
theorem I9(f:Fc)(vi vo:Nat)(x:Ln)(fx:FitX x)(hv:x.v.length<50000)(hn:x.n=fK):mP G2 T_ 95
  {args:=[.loc 1000 0,.val x.iv],objs:=eX f vi vo,res:=.val (.int .i64 (bB x)),objs':=eX (bZ f x) vi vo,ro':=[] }:=by
 refine bn hm bb (by simp) rfl ?_;have hZ:=K8 x.v (by have:=fx.v;omega);obtain⟨R,hR⟩:∃R,WJ x.v=R:=⟨_,rfl⟩;rw[hR]at hZ;cases R with
 |ok t=>
  simp only[UA]at hZ;simp[bB,bZ,cz,hn,Xp,X9,hR,cZ,fK,dq,ii,gv,bH,dk,oz,be,bP,aK,cW,fX,bM,bj,d5,fq,gx,Ln.iv];simp[al,nj,eX,qe,pm];refine aa hZ ?_;simp;exact dP [(4,.val (.int .i64 0))]
 |bad p=>
  have hW:=DX 4 [(p:Int)];simp only[UA]at hZ;obtain⟨t,v,h⟩:=dg 4 [(p:Int)];rw[h]at hZ hW;simp[bB,bZ,cz,hn,Xp,X9,hR,cZ,fK,dq,ii,gv,bH,dk,oz,be,bP,aK,cW,fX,bM,bj,d5,fq,gx,Ln.iv];simp[al,nj,eX,qe,pm];refine aa hZ ?_;simp;refine aa hW ?_;simp;exact dP [(4,.val (.int .i64 4))]
theorem Ia(f:Fc)(vi vo:Nat)(x:Ln)(fx:FitX x)(hv:x.v.length<50000)(hn:x.n=dq):mP G2 T_ 95
  {args:=[.loc 1000 0,.val x.iv],objs:=eX f vi vo,res:=.val (.int .i64 (bB x)),objs':=eX (bZ f x) vi vo,ro':=[] }:=by
 refine bn hm bb (by simp) rfl ?_;have hZ:=On x.v;obtain⟨⟨s,e⟩,hR⟩:∃R,HQ x.v=R:=⟨_,rfl⟩;rw[hR]at hZ;simp only[Xa]at hZ;simp[bB,bZ,cz,hn,hR,cZ,fK,dq,ii,gv,bH,dk,oz,be,bP,aK,cW,fX,bM,bj,d5,fq,gx,Ln.iv];simp[al,nj,eX,qe,pm];refine aa hZ ?_;simp;exact dP [(4,.val (.int .i64 e))]
theorem Kf(f:Fc)(vi vo:Nat)(x:Ln)(fx:FitX x)(hv:x.v.length<50000)(hn:x.n=ii):mP G2 T_ 95
  {args:=[.loc 1000 0,.val x.iv],objs:=eX f vi vo,res:=.val (.int .i64 (bB x)),objs':=eX (bZ f x) vi vo,ro':=[] }:=by
 refine bn hm bb (by simp) rfl ?_;have hZ:=up (BA 0 100 false x.v (by have:=fx.v;omega));obtain⟨⟨n,e⟩,hR⟩:∃R,eH 5 0 100 false x.v=R:=⟨_,rfl⟩;rw[hR]at hZ;simp only[O1]at hZ;by_cases h1:e=0
 ·subst h1;rw[if_pos rfl]at hZ;simp[bB,bZ,cz,hn,hR,cZ,fK,dq,ii,gv,bH,dk,oz,be,bP,aK,cW,fX,bM,bj,d5,fq,gx,Ln.iv];simp[al,nj,eX,qe,pm];refine aa hZ ?_;simp;exact dP [(4,.val (.int .i64 0))]
 ·rw[if_neg h1]at hZ;have hW:=DX e [0];obtain⟨t,v,h⟩:=dg e [0];rw[h]at hZ hW;simp[bB,bZ,cz,hn,hR,cZ,fK,dq,ii,gv,bH,dk,oz,be,bP,aK,cW,fX,bM,bj,d5,fq,gx,Ln.iv];simp[al,nj,eX,qe,pm];refine aa hZ ?_;simp;refine aa hW ?_;simp;exact dP [(4,.val (.int .i64 e))]
theorem Ib(f:Fc)(vi vo:Nat)(x:Ln)(fx:FitX x)(hv:x.v.length<50000)(hn:x.n=gv):mP G2 T_ 95
  {args:=[.loc 1000 0,.val x.iv],objs:=eX f vi vo,res:=.val (.int .i64 (bB x)),objs':=eX (bZ f x) vi vo,ro':=[] }:=by
 refine bn hm bb (by simp) rfl ?_;have hZ:=up (BA 0 9 false x.v (by have:=fx.v;omega));obtain⟨⟨n,e⟩,hR⟩:∃R,eH 5 0 9 false x.v=R:=⟨_,rfl⟩;rw[hR]at hZ;simp only[O1]at hZ;by_cases h1:e=0
 ·subst h1;rw[if_pos rfl]at hZ;simp[bB,bZ,cz,hn,hR,cZ,fK,dq,ii,gv,bH,dk,oz,be,bP,aK,cW,fX,bM,bj,d5,fq,gx,Ln.iv];simp[al,nj,eX,qe,pm];refine aa hZ ?_;simp;exact dP [(4,.val (.int .i64 0))]
 ·rw[if_neg h1]at hZ;have hW:=DX e [0];obtain⟨t,v,h⟩:=dg e [0];rw[h]at hZ hW;simp[bB,bZ,cz,hn,hR,cZ,fK,dq,ii,gv,bH,dk,oz,be,bP,aK,cW,fX,bM,bj,d5,fq,gx,Ln.iv];simp[al,nj,eX,qe,pm];refine aa hZ ?_;simp;refine aa hW ?_;simp;exact dP [(4,.val (.int .i64 e))]
theorem Ic(f:Fc)(vi vo:Nat)(x:Ln)(fx:FitX x)(hv:x.v.length<50000)(hn:x.n=bH):mP G2 T_ 95
  {args:=[.loc 1000 0,.val x.iv],objs:=eX f vi vo,res:=.val (.int .i64 (bB x)),objs':=eX (bZ f x) vi vo,ro':=[] }:=by
 refine bn hm bb (by simp) rfl ?_;have hZ:=Lx x.v (by have:=fx.v;omega);obtain⟨R,hR⟩:∃R,pg x.v=R:=⟨_,rfl⟩;rw[hR]at hZ;cases R with
 |ok r=>
  simp only[Ok,RC]at hZ;simp[bB,bZ,cz,hn,Xq,Wh,hR,cZ,fK,dq,ii,gv,bH,dk,oz,be,bP,aK,cW,fX,bM,bj,d5,fq,gx,Ln.iv];simp[al,nj,eX,qe,pm];refine aa hZ ?_;simp;exact dP [(4,.val (.int .i64 0))]
 |no e p=>
  have hW:=DX e p;simp only[Ok,RC]at hZ;obtain⟨t,v,h⟩:=dg e p;rw[h]at hZ hW;simp[bB,bZ,cz,hn,Xq,Wh,hR,cZ,fK,dq,ii,gv,bH,dk,oz,be,bP,aK,cW,fX,bM,bj,d5,fq,gx,Ln.iv];simp[al,nj,eX,qe,pm];refine aa hZ ?_;simp;refine aa hW ?_;simp;exact dP [(4,.val (.int .i64 e))]
theorem Kg(f:Fc)(vi vo:Nat)(x:Ln)(fx:FitX x)(hv:x.v.length<50000)(hn:x.n=dk):mP G2 T_ 95
  {args:=[.loc 1000 0,.val x.iv],objs:=eX f vi vo,res:=.val (.int .i64 (bB x)),objs':=eX (bZ f x) vi vo,ro':=[] }:=by
 refine bn hm bb (by simp) rfl ?_;by_cases h1:x.v=fq
 ·simp only[fq]at h1;simp[bB,bZ,cz,hn,h1,cZ,fK,dq,ii,gv,bH,dk,oz,be,bP,aK,cW,fX,bM,bj,d5,fq,gx,Ln.iv];simp[al,nj,eX,qe,pm];exact dP [(4,.val (.int .i64 0))]
 ·by_cases h2:x.v=gx
  ·simp only[gx]at h2;simp[bB,bZ,cz,hn,h2,cZ,fK,dq,ii,gv,bH,dk,oz,be,bP,aK,cW,fX,bM,bj,d5,fq,gx,Ln.iv];simp[al,nj,eX,qe,pm];exact dP [(4,.val (.int .i64 0))]
  ·simp only[gx]at h2;simp only[fq]at h1;simp[bB,bZ,cz,hn,h1,h2,cZ,fK,dq,ii,gv,bH,dk,oz,be,bP,aK,cW,fX,bM,bj,d5,fq,gx,Ln.iv];simp[al,nj,eX,qe,pm];simp(disch:=omega)[wl,h1,h2];exact dP [(4,.val (.int .i64 4))]
theorem Kh(f:Fc)(vi vo:Nat)(x:Ln)(fx:FitX x)(hv:x.v.length<50000)(hn:x.n=oz):mP G2 T_ 95
  {args:=[.loc 1000 0,.val x.iv],objs:=eX f vi vo,res:=.val (.int .i64 (bB x)),objs':=eX (bZ f x) vi vo,ro':=[] }:=by
 refine bn hm bb (by simp) rfl ?_;have hZ:=up (Tg x fx);obtain⟨⟨⟨a,b⟩,e⟩,hR⟩:∃R,QL x=R:=⟨_,rfl⟩;rw[hR]at hZ;simp only[AI,Ln.iv,hn,oz]at hZ;simp[bB,bZ,cz,hn,hR,cZ,fK,dq,ii,gv,bH,dk,oz,be,bP,aK,cW,fX,bM,bj,d5,fq,gx,Ln.iv];simp[al,nj,eX,qe,pm];refine aa hZ ?_;simp;exact dP [(4,.val (.int .i64 e))]
theorem Oz(f:Fc)(vi vo:Nat)(x:Ln)(hn:x.n∉Oy):mP G2 T_ 95
  {args:=[.loc 1000 0,.val x.iv],objs:=eX f vi vo,res:=.val (.int .i64 0),objs':=eX f vi vo,ro':=[] }:=by
 refine bn hm bb (by simp) rfl ?_;simp[Oy,cZ,fK,dq,ii,gv,bH,dk,oz,be,bP,aK,cW,fX,bM,bj,d5,fq,gx]at hn;obtain⟨h1,h2,h3,h4,h5,h6,h7,h8⟩:=hn;simp[al,nj,eX,qe,pm,Ln.iv,h1,h2,h3,h4,h5,h6,h7,h8];exact dP [(4,.val (.int .i64 0))]
theorem VJ(f:Fc)(vi vo:Nat)(x:Ln)(fx:FitX x)(hv:x.v.length<50000)(hi:f.i.length<1000000)(ho:f.o.length<1000000)(hn:x.n∈Kb):mP G2 T_ 94
  {args:=[.loc 1000 0,.val x.iv],objs:=eX f vi vo,res:=.val (.tuple [.int .i64 (bB x),.bool true]),objs':=eX (bZ f x) (zY x vi) (zZ x vo),ro':=[] }:=by
 simp only[Kb,List.mem_cons,List.not_mem_nil,or_false]at hn;rcases hn with h|h|h|h|h|h|h|h
 ·exact F6 f vi vo x fx hv hi ho h
 ·exact I6 f vi vo x fx hv hi ho h
 ·exact F7 f vi vo x fx hv hi ho h
 ·exact Kc f vi vo x fx hv hi ho h
 ·exact LG f vi vo x fx hv hi ho h
 ·exact Kd f vi vo x fx hv hi ho h
 ·exact I7 f vi vo x fx hv hi ho h
 ·exact I8 f vi vo x fx hv hi ho h
theorem take_no{x:Ln}(h1:x.n∉Kb)(h2:x.n∉Oy)(f:Fc):bB x=0/\bZ f x=f:=by
 simp only[Kb,List.mem_cons,List.not_mem_nil,or_false,not_or]at h1;simp only[Oy,List.mem_cons,List.not_mem_nil,or_false,not_or]at h2;obtain⟨a1,a2,a3,a4,a5,a6,a7,a8⟩:=h1;obtain⟨b1,b2,b3,b4,b5,b6,b7,b8⟩:=h2;simp[bB,bZ,cz,a1,a2,a3,a4,a5,a6,a7,a8,b1,b2,b3,b4,b5,b6,b7,b8]
theorem VK(f:Fc)(vi vo:Nat)(x:Ln)(fx:FitX x)(hv:x.v.length<50000)(hn:x.n∉Kb):mP G2 T_ 95
  {args:=[.loc 1000 0,.val x.iv],objs:=eX f vi vo,res:=.val (.int .i64 (bB x)),objs':=eX (bZ f x) vi vo,ro':=[] }:=by
 by_cases hw:x.n∈Oy
 ·simp only[Oy,List.mem_cons,List.not_mem_nil,or_false]at hw;rcases hw with h|h|h|h|h|h|h|h
  ·exact Ke f vi vo x fx hv h
  ·exact I9 f vi vo x fx hv h
  ·exact Ia f vi vo x fx hv h
  ·exact Kf f vi vo x fx hv h
  ·exact Ib f vi vo x fx hv h
  ·exact Ic f vi vo x fx hv h
  ·exact Kg f vi vo x fx hv h
  ·exact Kh f vi vo x fx hv h
 ·obtain⟨e1,e2⟩:=take_no hn hw f;rw[e1,e2];exact Oz f vi vo x hw
theorem fnM_take(f:Fc)(vi vo:Nat)(x:Ln)(fx:FitX x)(hv:x.v.length<50000)(hi:f.i.length<1000000)(ho:f.o.length<1000000):mP G2 T_ 42
  {args:=[.loc 1000 0,.val x.iv],objs:=eX f vi vo,res:=.val (.int .i64 (bB x)),objs':=eX (bZ f x) (zY x vi) (zZ x vo),ro':=[] }:=by
 refine bn hm nD (by simp) rfl ?_;by_cases hn:x.n∈Kb
 ·have hD:=VJ f vi vo x fx hv hi ho hn;simp[eR,nj,eX,qe,pm,Ln.iv]at hD |-;refine callM [] [] hD rfl rfl ⟨rfl,rfl,rfl,trivial⟩ ⟨rfl,[],[],rfl,rfl,rfl⟩ rfl ?_;simp;exact dP [(4,.val (.int .i64 (bB x)))]
 ·have hno:bB x=bB x:=rfl;have hvi:zY x vi=vi:=by unfold zY;rw[if_neg (fun e=>hn (by rw[e];decide))]
  have hvo:zZ x vo=vo:=by unfold zZ;rw[if_neg (fun e=>hn (by rw[e];decide))]
  rw[hvi,hvo];have hW:=VK f vi vo x fx hv hn;have hD:mP G2 T_ 94 {args:=[.loc 1000 0,.val x.iv],objs:=eX f vi vo,res:=.val (.tuple [.int .i64 0,.bool false]),objs':=eX f vi vo,ro':=[] }:=Ox f vi vo x hn;simp[eR,nj,eX,qe,pm,Ln.iv]at hD hW |-;refine callM [] [] hD rfl rfl ⟨rfl,rfl,rfl,trivial⟩ ⟨rfl,[],[],rfl,rfl,rfl⟩ rfl ?_;simp;refine callM [] [] hW rfl rfl ⟨rfl,rfl,rfl,trivial⟩ ⟨rfl,[],[],rfl,rfl,rfl⟩ rfl ?_;simp;exact dP [(4,.val (.int .i64 (bB x)))]
end Go.Vs.YtcjeehebikeghaaGreatDoor.Vt
