/- A part of a proof. No conditions. -/
import Derived.Test.YtcjeehebikeghaaGreatDoorVGz
set_option linter.unusedVariables false
set_option linter.unusedSimpArgs false
set_option maxRecDepth 100000
set_option maxHeartbeats 16000000
namespace Go.Vs.YtcjeehebikeghaaGreatDoor.Vt
open Go.Proofs Go.Vs.U8 Go.Vs.Pa Go.Vs.Nu Go.Vs.Mo Go.Vs.Vt Go.Vs.YtcjeehebikeghaaGreatDoor.Rc
def jW(r:Ru):List SV:=[.val (.int .u8 r.f),.val (.int .i64 r.i),.val (.int .i64 r.c),.val (.int .u8 r.u.k),.val (.int .i64 r.u.s),.val (.slice (is r.l4)),.val (.slice (is r.l5)),.val (.slice (is r.l6)),.val (.slice (sX r.l7)),.val (.slice (is r.l8)),.val (.slice (is r.l9)),.val (.slice (is r.l10)),.val (.slice (is r.l11)),.val (.slice (is r.l12)),.val (.int .i64 r.w)]
def jK(f:Fc)(a c:Nat):List SV:=[.val (.str f.uid),.val (.str f.sm),.val (.int .u8 f.st.k),.val (.int .i64 f.st.s),.val (.int .u8 f.b.k),.val (.int .i64 f.b.s),.val (.int .u8 f.e.k),.val (.int .i64 f.e.s),.val (.int .i64 f.sp),.val (.int .u8 f.li.s),.val (.int .i64 f.li.p),.val (.int .i64 f.li.d),.val (.int .i64 f.pr),.val (.bool f.rd)]++(jW f.ru++[.own 1001 a,.own 1002 c,.val (.int .u8 f.at'.k),.val (.int .i64 f.at'.s),.val (.bool f.af)])
def fE(f:Fc)(a c:Nat):List (Nat×Ob):=[(1000,.box (jK f a c)),(1001,.arr a 2 (ms f.i)),(1002,.arr c 2 (ms f.o))]
theorem T6(m:Mom):ms [m]=[[.int .u8 m.k,.int .i64 m.s]]:=rfl
theorem VY(f:Fc)(i j:Nat)(x:Ln)(m:FitX x)(n:x.v.length<50000):jL G2 T_ 146
  {args:=[.val x.iv,.loc 1000 4],objs:=fE f i j,res:=.val (.int .i64 (gE x).1),objs':=fE (if (gE x).1=0 then {f with b:=(gE x).2 } else f) i j,ro':=[] }:=by
 refine aN hm sW (by simp) rfl ?_;have d:=xV x m n;have g:=@vl x;unfold gE;obtain⟨⟨e,l⟩,h⟩:∃r,d5 x=r:=⟨_,rfl⟩;rw[h]at d g |-;dsimp only at g |-;simp only[AR,Ln.iv]at d;simp[pA,Ln.iv,ji,fE,jK,jW];refine aa d ?_;by_cases c:e=0
 ·have o:=g c;by_cases k:l.length=1
  ·have a:=ON l k;rw[a];simp(disch:=omega)[wl,c,T6];exact cW [(4,.val (.int .i64 0))]
  ·simp(disch:=omega)[wl,c,cJ,k];exact cW [(4,.val (.int .i64 4))]
 ·simp(disch:=omega)[wl,c];exact cW [(4,.val (.int .i64 e))]
theorem VZ(f:Fc)(h i:Nat)(x:Ln)(k:FitX x)(m:x.v.length<50000):jL G2 T_ 146
  {args:=[.val x.iv,.loc 1000 6],objs:=fE f h i,res:=.val (.int .i64 (gE x).1),objs':=fE (if (gE x).1=0 then {f with e:=(gE x).2 } else f) h i,ro':=[] }:=by
 refine aN hm sW (by simp) rfl ?_;have c:=xV x k m;have d:=@vl x;unfold gE;obtain⟨⟨e,l⟩,g⟩:∃r,d5 x=r:=⟨_,rfl⟩;rw[g]at c d |-;dsimp only at d |-;simp only[AR,Ln.iv]at c;simp[pA,Ln.iv,ji,fE,jK,jW];refine aa c ?_;by_cases b:e=0
 ·have n:=d b;by_cases j:l.length=1
  ·have a:=ON l j;rw[a];simp(disch:=omega)[wl,b,T6];exact cW [(4,.val (.int .i64 0))]
  ·simp(disch:=omega)[wl,b,cJ,j];exact cW [(4,.val (.int .i64 4))]
 ·simp(disch:=omega)[wl,b];exact cW [(4,.val (.int .i64 e))]
theorem T7(f:Fc)(h i:Nat)(x:Ln)(k:FitX x)(m:x.v.length<50000):jL G2 T_ 146
  {args:=[.val x.iv,.loc 1000 31],objs:=fE f h i,res:=.val (.int .i64 (gE x).1),objs':=fE (if (gE x).1=0 then {f with at':=(gE x).2 } else f) h i,ro':=[] }:=by
 refine aN hm sW (by simp) rfl ?_;have c:=xV x k m;have d:=@vl x;unfold gE;obtain⟨⟨e,l⟩,g⟩:∃r,d5 x=r:=⟨_,rfl⟩;rw[g]at c d |-;dsimp only at d |-;simp only[AR,Ln.iv]at c;simp[pA,Ln.iv,ji,fE,jK,jW];refine aa c ?_;by_cases b:e=0
 ·have n:=d b;by_cases j:l.length=1
  ·have a:=ON l j;rw[a];simp(disch:=omega)[wl,b,T6];exact cW [(4,.val (.int .i64 0))]
  ·simp(disch:=omega)[wl,b,cJ,j];exact cW [(4,.val (.int .i64 4))]
 ·simp(disch:=omega)[wl,b];exact cW [(4,.val (.int .i64 e))]
def GQ:List Str:=[aK,bq,aV,cN,eO,ce,bn,bM]
def cU(f:Fc)(x:Ln):Fc:=if (x.n=aV\/x.n=cN\/x.n=eO)/\(gE x).1≠0 then f else ch f x
def mJ(x:Ln)(v:Nat):Nat:=if x.n=ce then v+1 else v
def mL(x:Ln)(v:Nat):Nat:=if x.n=bn then v+1 else v
theorem H5(a b:List Mom):ms a++ms b=ms (a++b):=by simp[ms]
theorem OO(l:List Mom):∀r∈ms l,r.length=2:=by
 intro r a;obtain⟨v,_,rfl⟩:=List.mem_map.1 a;rfl
theorem qI(x:Ln):(d5 x).2.length<=x.v.length+1:=by
 unfold d5;split
 ·simp
 ·have:=MX (gB x.p KY) (parts 44 x.v) [];have:=OL 44 x.v;simp at *;omega
theorem Ll(f:Fc)(b c:Nat)(x:Ln)(g:FitX x)(i:x.v.length<50000)(j:f.i.length<1000000)(k:f.o.length<1000000)(h:x.n=aK):jL G2 T_ 94
  {args:=[.loc 1000 0,.val x.iv],objs:=fE f b c,res:=.val (.tuple [.int .i64 (br x),.bool true]),objs':=fE (cU f x) (mJ x b) (mL x c),ro':=[] }:=by
 refine aN hm bf (by simp) rfl ?_;have a:=Uk x g;obtain⟨⟨e,m⟩,d⟩:∃r,rA x=r:=⟨_,rfl⟩;rw[d]at a;simp[br,cU,ch,mJ,mL,h,d,nm_,Ln.iv,AR,zuI,eX]at a |-;simp[aw,ji,fE,jK,jW];refine aa a ?_;simp;exact cW [(5,.val (.bool true)),(4,.val (.int .i64 e))]
theorem OP(f:Fc)(b c:Nat)(x:Ln)(g:FitX x)(i:x.v.length<50000)(j:f.i.length<1000000)(k:f.o.length<1000000)(h:x.n=bq):jL G2 T_ 94
  {args:=[.loc 1000 0,.val x.iv],objs:=fE f b c,res:=.val (.tuple [.int .i64 (br x),.bool true]),objs':=fE (cU f x) (mJ x b) (mL x c),ro':=[] }:=by
 refine aN hm bf (by simp) rfl ?_;have a:=Uk x g;obtain⟨⟨e,m⟩,d⟩:∃r,rA x=r:=⟨_,rfl⟩;rw[d]at a;simp[br,cU,ch,mJ,mL,h,d,nm_,Ln.iv,AR,zuI,eX]at a |-;simp[aw,ji,fE,jK,jW];refine aa a ?_;simp;exact cW [(5,.val (.bool true)),(4,.val (.int .i64 e))]
theorem Lm(f:Fc)(b c:Nat)(x:Ln)(i:FitX x)(j:x.v.length<50000)(k:f.i.length<1000000)(l:f.o.length<1000000)(h:x.n=aV):jL G2 T_ 94
  {args:=[.loc 1000 0,.val x.iv],objs:=fE f b c,res:=.val (.tuple [.int .i64 (br x),.bool true]),objs':=fE (cU f x) (mJ x b) (mL x c),ro':=[] }:=by
 refine aN hm bf (by simp) rfl ?_;have a:=VY f b c x i j;obtain⟨⟨e,m⟩,d⟩:∃r,gE x=r:=⟨_,rfl⟩;rw[d]at a;dsimp only at a;by_cases g:e=0
 ·subst g;rw[if_pos rfl]at a;simp[br,cU,ch,mJ,mL,h,d,nm_,Ln.iv,fE,jK,jW]at a |-;simp[aw,ji,fE,jK,jW];refine mW hm (vs:=[_,_,_,_]) ?_;simp;refine⟨rfl,?_⟩;refine callM [] [] a rfl rfl ⟨rfl,rfl,rfl,trivial⟩ ⟨[],[],rfl,⟨rfl,rfl⟩,rfl⟩ rfl ?_;simp;exact cW [(5,.val (.bool true)),(4,.val (.int .i64 0))]
 ·rw[if_neg g]at a;simp[g,br,cU,ch,mJ,mL,h,d,nm_,Ln.iv,fE,jK,jW]at a |-;simp[aw,ji,fE,jK,jW];refine mW hm (vs:=[_,_,_,_]) ?_;simp;refine⟨rfl,?_⟩;refine callM [] [] a rfl rfl ⟨rfl,rfl,rfl,trivial⟩ ⟨[],[],rfl,⟨rfl,rfl⟩,rfl⟩ rfl ?_;simp;exact cW [(5,.val (.bool true)),(4,.val (.int .i64 e))]
theorem Re(f:Fc)(b c:Nat)(x:Ln)(i:FitX x)(j:x.v.length<50000)(k:f.i.length<1000000)(l:f.o.length<1000000)(h:x.n=cN):jL G2 T_ 94
  {args:=[.loc 1000 0,.val x.iv],objs:=fE f b c,res:=.val (.tuple [.int .i64 (br x),.bool true]),objs':=fE (cU f x) (mJ x b) (mL x c),ro':=[] }:=by
 refine aN hm bf (by simp) rfl ?_;have a:=VZ f b c x i j;obtain⟨⟨e,m⟩,d⟩:∃r,gE x=r:=⟨_,rfl⟩;rw[d]at a;dsimp only at a;by_cases g:e=0
 ·subst g;rw[if_pos rfl]at a;simp[br,cU,ch,mJ,mL,h,d,nm_,Ln.iv,fE,jK,jW]at a |-;simp[aw,ji,fE,jK,jW];refine mW hm (vs:=[_,_,_,_]) ?_;simp;refine⟨rfl,?_⟩;refine callM [] [] a rfl rfl ⟨rfl,rfl,rfl,trivial⟩ ⟨[],[],rfl,⟨rfl,rfl⟩,rfl⟩ rfl ?_;simp;exact cW [(5,.val (.bool true)),(4,.val (.int .i64 0))]
 ·rw[if_neg g]at a;simp[g,br,cU,ch,mJ,mL,h,d,nm_,Ln.iv,fE,jK,jW]at a |-;simp[aw,ji,fE,jK,jW];refine mW hm (vs:=[_,_,_,_]) ?_;simp;refine⟨rfl,?_⟩;refine callM [] [] a rfl rfl ⟨rfl,rfl,rfl,trivial⟩ ⟨[],[],rfl,⟨rfl,rfl⟩,rfl⟩ rfl ?_;simp;exact cW [(5,.val (.bool true)),(4,.val (.int .i64 e))]
theorem T8(f:Fc)(b c:Nat)(x:Ln)(i:FitX x)(j:x.v.length<50000)(k:f.i.length<1000000)(l:f.o.length<1000000)(h:x.n=eO):jL G2 T_ 94
  {args:=[.loc 1000 0,.val x.iv],objs:=fE f b c,res:=.val (.tuple [.int .i64 (br x),.bool true]),objs':=fE (cU f x) (mJ x b) (mL x c),ro':=[] }:=by
 refine aN hm bf (by simp) rfl ?_;have a:=T7 f b c x i j;obtain⟨⟨e,m⟩,d⟩:∃r,gE x=r:=⟨_,rfl⟩;rw[d]at a;dsimp only at a;by_cases g:e=0
 ·subst g;rw[if_pos rfl]at a;simp[br,cU,ch,mJ,mL,h,d,nm_,Ln.iv,fE,jK,jW]at a |-;simp[aw,ji,fE,jK,jW];refine mW hm (vs:=[_,_,_,_]) ?_;simp;refine⟨rfl,?_⟩;refine callM [] [] a rfl rfl ⟨rfl,rfl,rfl,trivial⟩ ⟨[],[],rfl,⟨rfl,rfl⟩,rfl⟩ rfl ?_;simp;exact cW [(5,.val (.bool true)),(4,.val (.int .i64 0))]
 ·rw[if_neg g]at a;simp[g,br,cU,ch,mJ,mL,h,d,nm_,Ln.iv,fE,jK,jW]at a |-;simp[aw,ji,fE,jK,jW];refine mW hm (vs:=[_,_,_,_]) ?_;simp;refine⟨rfl,?_⟩;refine callM [] [] a rfl rfl ⟨rfl,rfl,rfl,trivial⟩ ⟨[],[],rfl,⟨rfl,rfl⟩,rfl⟩ rfl ?_;simp;exact cW [(5,.val (.bool true)),(4,.val (.int .i64 e))]
theorem Rf(f:Fc)(b c:Nat)(x:Ln)(h:FitX x)(i:x.v.length<50000)(k:f.i.length<1000000)(l:f.o.length<1000000)(j:x.n=ce):jL G2 T_ 94
  {args:=[.loc 1000 0,.val x.iv],objs:=fE f b c,res:=.val (.tuple [.int .i64 (br x),.bool true]),objs':=fE (cU f x) (mJ x b) (mL x c),ro':=[] }:=by
 refine aN hm bf (by simp) rfl ?_;have a:=xV x h i;have d:=qI x;obtain⟨⟨e,m⟩,g⟩:∃r,d5 x=r:=⟨_,rfl⟩;rw[g]at a d;simp[br,cU,ch,mJ,mL,j,g,nm_,Ln.iv,AR,zuI,eX]at a d |-;simp[aw,ji,fE,jK,jW];refine aa a ?_;simp;refine⟨⟨by rw[cJ,cJ];omega,OO _⟩,?_⟩;rw[H5];exact cW [(5,.val (.bool true)),(4,.val (.int .i64 e))]
theorem OQ(f:Fc)(b c:Nat)(x:Ln)(h:FitX x)(i:x.v.length<50000)(k:f.i.length<1000000)(l:f.o.length<1000000)(j:x.n=bn):jL G2 T_ 94
  {args:=[.loc 1000 0,.val x.iv],objs:=fE f b c,res:=.val (.tuple [.int .i64 (br x),.bool true]),objs':=fE (cU f x) (mJ x b) (mL x c),ro':=[] }:=by
 refine aN hm bf (by simp) rfl ?_;have a:=xV x h i;have d:=qI x;obtain⟨⟨e,m⟩,g⟩:∃r,d5 x=r:=⟨_,rfl⟩;rw[g]at a d;simp[br,cU,ch,mJ,mL,j,g,nm_,Ln.iv,AR,zuI,eX]at a d |-;simp[aw,ji,fE,jK,jW];refine aa a ?_;simp;refine⟨⟨by rw[cJ,cJ];omega,OO _⟩,?_⟩;rw[H5];exact cW [(5,.val (.bool true)),(4,.val (.int .i64 e))]
theorem OR(f:Fc)(i j:Nat)(x:Ln)(k:FitX x)(l:x.v.length<50000)(m:f.i.length<1000000)(n:f.o.length<1000000)(g:x.n=bM):jL G2 T_ 94
  {args:=[.loc 1000 0,.val x.iv],objs:=fE f i j,res:=.val (.tuple [.int .i64 (br x),.bool true]),objs':=fE (cU f x) (mJ x i) (mL x j),ro':=[] }:=by
 refine aN hm bf (by simp) rfl ?_;have a:=SW x.v (by have:=k.v;omega);obtain⟨⟨d,e⟩,b⟩:∃r,fM x.v=r:=⟨_,rfl⟩;rw[b]at a;dsimp only at a;by_cases h:e=0
 ·subst h;by_cases c:d<=0
  ·simp[br,cU,ch,mJ,mL,GH,g,b,c,nm_,Ln.iv];simp[aw,ji,fE,jK,jW];refine aa a ?_;simp(disch:=omega)[wl,c];exact cW [(5,.val (.bool true)),(4,.val (.int .i64 8))]
  ·simp[br,cU,ch,mJ,mL,GH,g,b,c,nm_,Ln.iv];simp[aw,ji,fE,jK,jW];refine aa a ?_;simp(disch:=omega)[wl,c];exact cW [(5,.val (.bool true)),(4,.val (.int .i64 0))]
 ·simp[br,cU,ch,mJ,mL,GH,g,b,h,nm_,Ln.iv];simp[aw,ji,fE,jK,jW];refine aa a ?_;simp(disch:=omega)[wl,h];exact cW [(5,.val (.bool true)),(4,.val (.int .i64 e))]
theorem W0(f:Fc)(a b:Nat)(x:Ln)(c:x.n∉GQ):jL G2 T_ 94
  {args:=[.loc 1000 0,.val x.iv],objs:=fE f a b,res:=.val (.tuple [.int .i64 0,.bool false]),objs':=fE f a b,ro':=[] }:=by
 refine aN hm bf (by simp) rfl ?_;simp[GQ,nm_]at c;obtain⟨d,e,g,h,i,j,k,l⟩:=c;simp[aw,ji,fE,jK,jW,Ln.iv,d,e,g,h,i,j,k,l];exact cW [(5,.val (.bool false)),(4,.val (.int .i64 0))]
theorem JI(n:Int)(ps:List Int):Fn G2 T_ 68 [dq n ps] (.int .i64 n):=by
 refine ae hm Ow (by simp) ?_;have a:=upM (I2 n 0 ps);obtain⟨t,v,h⟩:=dD n ps;rw[h]at a |-;simp[Gb];refine callM [(1000,3)] [] a rfl rfl ⟨rfl,trivial⟩ ⟨[],[],rfl,⟨rfl,rfl⟩,rfl⟩ rfl ?_;simp
def Lo:List Str:=[cp,cg,bN,cY,cn,cc,cO,dB]
theorem ES(r:Ru):r.iv=.agg [.int .u8 r.f,.int .i64 r.i,.int .i64 r.c,.int .u8 r.u.k,.int .i64 r.u.s,.slice (is r.l4),.slice (is r.l5),.slice (is r.l6),.slice (sX r.l7),.slice (is r.l8),.slice (is r.l9),.slice (is r.l10),.slice (is r.l11),.slice (is r.l12),.int .i64 r.w]:=rfl
theorem Rg(f:Fc)(c d:Nat)(x:Ln)(g:FitX x)(h:x.v.length<50000)(e:x.n=cp):jL G2 T_ 95
  {args:=[.loc 1000 0,.val x.iv],objs:=fE f c d,res:=.val (.int .i64 (br x)),objs':=fE (cU f x) c d,ro':=[] }:=by
 refine aN hm bj (by simp) rfl ?_;have b:=up (O6 x.v (by have:=g.v;omega));by_cases a:jF x.v=true
 ·rw[a]at b;simp[br,cU,ch,e,a,nm_,Ln.iv];simp[aq,ji,fE,jK,jW];refine aa b ?_;simp;exact cW [(4,.val (.int .i64 0))]
 ·have a:jF x.v=false:=by simpa using a
  rw[a]at b;simp[br,cU,ch,e,a,nm_,Ln.iv];simp[aq,ji,fE,jK,jW];refine aa b ?_;simp;exact cW [(4,.val (.int .i64 4))]
theorem OS(f:Fc)(c d:Nat)(x:Ln)(i:FitX x)(j:x.v.length<50000)(e:x.n=cg):jL G2 T_ 95
  {args:=[.loc 1000 0,.val x.iv],objs:=fE f c d,res:=.val (.int .i64 (br x)),objs':=fE (cU f x) c d,ro':=[] }:=by
 refine aN hm bj (by simp) rfl ?_;have a:=R6 x.v (by have:=i.v;omega);obtain⟨R,b⟩:∃R,unR x.v=R:=⟨_,rfl⟩;rw[b]at a;cases R with
 |ok t=>
  simp only[unI]at a;simp[br,cU,ch,e,unE,unT,b,nm_,Ln.iv];simp[aq,ji,fE,jK,jW];refine aa a ?_;simp;exact cW [(4,.val (.int .i64 0))]
 |bad p=>
  have g:=JI 4 [(p:Int)];simp only[unI]at a;obtain⟨t,v,h⟩:=dD 4 [(p:Int)];rw[h]at a g;simp[br,cU,ch,e,unE,unT,b,nm_,Ln.iv];simp[aq,ji,fE,jK,jW];refine aa a ?_;simp;refine aa g ?_;simp;exact cW [(4,.val (.int .i64 4))]
theorem OT(f:Fc)(b c:Nat)(x:Ln)(h:FitX x)(i:x.v.length<50000)(g:x.n=bN):jL G2 T_ 95
  {args:=[.loc 1000 0,.val x.iv],objs:=fE f b c,res:=.val (.int .i64 (br x)),objs':=fE (cU f x) b c,ro':=[] }:=by
 refine aN hm bj (by simp) rfl ?_;have a:=VO x.v;obtain⟨⟨s,e⟩,d⟩:∃R,KX x.v=R:=⟨_,rfl⟩;rw[d]at a;simp only[stI]at a;simp[br,cU,ch,g,d,nm_,Ln.iv];simp[aq,ji,fE,jK,jW];refine aa a ?_;simp;exact cW [(4,.val (.int .i64 e))]
theorem Rh(f:Fc)(c d:Nat)(x:Ln)(k:FitX x)(l:x.v.length<50000)(g:x.n=cY):jL G2 T_ 95
  {args:=[.loc 1000 0,.val x.iv],objs:=fE f c d,res:=.val (.int .i64 (br x)),objs':=fE (cU f x) c d,ro':=[] }:=by
 refine aN hm bj (by simp) rfl ?_;have a:=up (H0 0 100 false x.v (by have:=k.v;omega));obtain⟨⟨n,e⟩,b⟩:∃R,cF 5 0 100 false x.v=R:=⟨_,rfl⟩;rw[b]at a;simp only[Vr]at a;by_cases i:e=0
 ·subst i;rw[if_pos rfl]at a;simp[br,cU,ch,g,b,nm_,Ln.iv];simp[aq,ji,fE,jK,jW];refine aa a ?_;simp;exact cW [(4,.val (.int .i64 0))]
 ·rw[if_neg i]at a;have j:=JI e [0];obtain⟨t,v,h⟩:=dD e [0];rw[h]at a j;simp[br,cU,ch,g,b,nm_,Ln.iv];simp[aq,ji,fE,jK,jW];refine aa a ?_;simp;refine aa j ?_;simp;exact cW [(4,.val (.int .i64 e))]
theorem OU(f:Fc)(c d:Nat)(x:Ln)(k:FitX x)(l:x.v.length<50000)(g:x.n=cn):jL G2 T_ 95
  {args:=[.loc 1000 0,.val x.iv],objs:=fE f c d,res:=.val (.int .i64 (br x)),objs':=fE (cU f x) c d,ro':=[] }:=by
 refine aN hm bj (by simp) rfl ?_;have a:=up (H0 0 9 false x.v (by have:=k.v;omega));obtain⟨⟨n,e⟩,b⟩:∃R,cF 5 0 9 false x.v=R:=⟨_,rfl⟩;rw[b]at a;simp only[Vr]at a;by_cases i:e=0
 ·subst i;rw[if_pos rfl]at a;simp[br,cU,ch,g,b,nm_,Ln.iv];simp[aq,ji,fE,jK,jW];refine aa a ?_;simp;exact cW [(4,.val (.int .i64 0))]
 ·rw[if_neg i]at a;have j:=JI e [0];obtain⟨t,v,h⟩:=dD e [0];rw[h]at a j;simp[br,cU,ch,g,b,nm_,Ln.iv];simp[aq,ji,fE,jK,jW];refine aa a ?_;simp;refine aa j ?_;simp;exact cW [(4,.val (.int .i64 e))]
theorem OV(f:Fc)(c d:Nat)(x:Ln)(j:FitX x)(k:x.v.length<50000)(g:x.n=cc):jL G2 T_ 95
  {args:=[.loc 1000 0,.val x.iv],objs:=fE f c d,res:=.val (.int .i64 (br x)),objs':=fE (cU f x) c d,ro':=[] }:=by
 refine aN hm bj (by simp) rfl ?_;have a:=SP x.v (by have:=j.v;omega);obtain⟨R,b⟩:∃R,kD x.v=R:=⟨_,rfl⟩;rw[b]at a;cases R with
 |ok r=>
  simp only[VK,ES]at a;simp[br,cU,ch,g,ruE,ruV,b,nm_,Ln.iv];simp[aq,ji,fE,jK,jW];refine aa a ?_;simp;exact cW [(4,.val (.int .i64 0))]
 |no e p=>
  have i:=JI e p;simp only[VK,ES]at a;obtain⟨t,v,h⟩:=dD e p;rw[h]at a i;simp[br,cU,ch,g,ruE,ruV,b,nm_,Ln.iv];simp[aq,ji,fE,jK,jW];refine aa a ?_;simp;refine aa i ?_;simp;exact cW [(4,.val (.int .i64 e))]
theorem Ri(f:Fc)(d e:Nat)(x:Ln)(g:FitX x)(h:x.v.length<50000)(c:x.n=cO):jL G2 T_ 95
  {args:=[.loc 1000 0,.val x.iv],objs:=fE f d e,res:=.val (.int .i64 (br x)),objs':=fE (cU f x) d e,ro':=[] }:=by
 refine aN hm bj (by simp) rfl ?_;by_cases a:x.v=bF
 ·simp only[bF]at a;simp[br,cU,ch,c,a,nm_,Ln.iv];simp[aq,ji,fE,jK,jW];exact cW [(4,.val (.int .i64 0))]
 ·by_cases b:x.v=bH
  ·simp only[bH]at b;simp[br,cU,ch,c,b,nm_,Ln.iv];simp[aq,ji,fE,jK,jW];exact cW [(4,.val (.int .i64 0))]
  ·simp only[bH]at b;simp only[bF]at a;simp[br,cU,ch,c,a,b,nm_,Ln.iv];simp[aq,ji,fE,jK,jW];simp(disch:=omega)[wl,a,b];exact cW [(4,.val (.int .i64 4))]
theorem Rj(f:Fc)(d g:Nat)(x:Ln)(j:FitX x)(k:x.v.length<50000)(h:x.n=dB):jL G2 T_ 95
  {args:=[.loc 1000 0,.val x.iv],objs:=fE f d g,res:=.val (.int .i64 (br x)),objs':=fE (cU f x) d g,ro':=[] }:=by
 refine aN hm bj (by simp) rfl ?_;have c:=up (aaU x j);obtain⟨⟨⟨a,b⟩,e⟩,i⟩:∃R,O5 x=R:=⟨_,rfl⟩;rw[i]at c;simp only[nX,Ln.iv,h,dB]at c;simp[br,cU,ch,h,i,nm_,Ln.iv];simp[aq,ji,fE,jK,jW];refine aa c ?_;simp;exact cW [(4,.val (.int .i64 e))]
theorem W7(f:Fc)(a b:Nat)(x:Ln)(c:x.n∉Lo):jL G2 T_ 95
  {args:=[.loc 1000 0,.val x.iv],objs:=fE f a b,res:=.val (.int .i64 0),objs':=fE f a b,ro':=[] }:=by
 refine aN hm bj (by simp) rfl ?_;simp[Lo,nm_]at c;obtain⟨d,e,g,h,i,j,k,l⟩:=c;simp[aq,ji,fE,jK,jW,Ln.iv,d,e,g,h,i,j,k,l];exact cW [(4,.val (.int .i64 0))]
theorem adl(f:Fc)(a b:Nat)(x:Ln)(c:FitX x)(d:x.v.length<50000)(e:f.i.length<1000000)(g:f.o.length<1000000)(i:x.n∈GQ):jL G2 T_ 94
  {args:=[.loc 1000 0,.val x.iv],objs:=fE f a b,res:=.val (.tuple [.int .i64 (br x),.bool true]),objs':=fE (cU f x) (mJ x a) (mL x b),ro':=[] }:=by
 simp only[GQ,List.mem_cons,List.not_mem_nil,or_false]at i;rcases i with h|h|h|h|h|h|h|h
 ·exact Ll f a b x c d e g h
 ·exact OP f a b x c d e g h
 ·exact Lm f a b x c d e g h
 ·exact Re f a b x c d e g h
 ·exact T8 f a b x c d e g h
 ·exact Rf f a b x c d e g h
 ·exact OQ f a b x c d e g h
 ·exact OR f a b x c d e g h
theorem take_no{x:Ln}(a:x.n∉GQ)(b:x.n∉Lo)(f:Fc):br x=0/\cU f x=f:=by
 simp only[GQ,List.mem_cons,List.not_mem_nil,or_false,not_or]at a;simp only[Lo,List.mem_cons,List.not_mem_nil,or_false,not_or]at b;obtain⟨c,d,e,g,h,i,j,l⟩:=a;obtain⟨m,n,o,p,q,s,u,v⟩:=b;simp[br,cU,ch,c,d,e,g,h,i,j,l,m,n,o,p,q,s,u,v]
theorem adm(f:Fc)(a b:Nat)(x:Ln)(c:FitX x)(d:x.v.length<50000)(g:x.n∉GQ):jL G2 T_ 95
  {args:=[.loc 1000 0,.val x.iv],objs:=fE f a b,res:=.val (.int .i64 (br x)),objs':=fE (cU f x) a b,ro':=[] }:=by
 by_cases e:x.n∈Lo
 ·simp only[Lo,List.mem_cons,List.not_mem_nil,or_false]at e;rcases e with h|h|h|h|h|h|h|h
  ·exact Rg f a b x c d h
  ·exact OS f a b x c d h
  ·exact OT f a b x c d h
  ·exact Rh f a b x c d h
  ·exact OU f a b x c d h
  ·exact OV f a b x c d h
  ·exact Ri f a b x c d h
  ·exact Rj f a b x c d h
 ·obtain⟨e1,e2⟩:=take_no g e f;rw[e1,e2];exact W7 f a b x e
theorem fnM_take(f:Fc)(a b:Nat)(x:Ln)(n:FitX x)(o:x.v.length<50000)(q:f.i.length<1000000)(s:f.o.length<1000000):jL G2 T_ 42
  {args:=[.loc 1000 0,.val x.iv],objs:=fE f a b,res:=.val (.int .i64 (br x)),objs':=fE (cU f x) (mJ x a) (mL x b),ro':=[] }:=by
 refine aN hm py (by simp) rfl ?_;by_cases g:x.n∈GQ
 ·have h:=adl f a b x n o q s g;simp[fC,ji,fE,jK,jW,Ln.iv]at h |-;refine callM [] [] h rfl rfl ⟨rfl,rfl,rfl,trivial⟩ ⟨rfl,[],[],rfl,rfl,rfl⟩ rfl ?_;simp;exact cW [(4,.val (.int .i64 (br x)))]
 ·have v:br x=br x:=rfl;have l:mJ x a=a:=by unfold mJ;rw[if_neg (fun e=>g (by rw[e];decide))]
  have m:mL x b=b:=by unfold mL;rw[if_neg (fun e=>g (by rw[e];decide))]
  rw[l,m];have p:=adm f a b x n o g;have h:jL G2 T_ 94 {args:=[.loc 1000 0,.val x.iv],objs:=fE f a b,res:=.val (.tuple [.int .i64 0,.bool false]),objs':=fE f a b,ro':=[] }:=W0 f a b x g;simp[fC,ji,fE,jK,jW,Ln.iv]at h p |-;refine callM [] [] h rfl rfl ⟨rfl,rfl,rfl,trivial⟩ ⟨rfl,[],[],rfl,rfl,rfl⟩ rfl ?_;simp;refine callM [] [] p rfl rfl ⟨rfl,rfl,rfl,trivial⟩ ⟨rfl,[],[],rfl,rfl,rfl⟩ rfl ?_;simp;exact cW [(4,.val (.int .i64 (br x)))]
end Go.Vs.YtcjeehebikeghaaGreatDoor.Vt
