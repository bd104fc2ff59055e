/- A part of a proof. No conditions. -/
import Derived.Test.YtnhbiolfmeeniaaGreatDoorVGz
set_option linter.all false
set_option maxRecDepth 100000
set_option maxHeartbeats 16000000
namespace Go.Vs.Y.Vt
open Go.Proofs Go.Vs.U8 Go.Vs.Pa Go.Vs.Nu Go.Vs.Mo Go.Vs.Vt Go.Vs.Y.Rc
def uT(r:Ru):List SV:=[.val (.int .u8 r.f),.val (.int .i64 r.i),.val (.int .i64 r.c),.val (.int .u8 r.u.k),.val (.int .i64 r.u.s),.val (.slice (is r.l4)),.val (.slice (is r.l5)),.val (.slice (is r.l6)),.val (.slice (B4 r.l7)),.val (.slice (is r.l8)),.val (.slice (is r.l9)),.val (.slice (is r.l10)),.val (.slice (is r.l11)),.val (.slice (is r.l12)),.val (.int .i64 r.w)]
def vS(f:Fc)(a c:Nat):List SV:=[.val (.str f.uid),.val (.str f.sm),.val (.int .u8 f.st.k),.val (.int .i64 f.st.s),.val (.int .u8 f.b.k),.val (.int .i64 f.b.s),.val (.int .u8 f.e.k),.val (.int .i64 f.e.s),.val (.int .i64 f.sp),.val (.int .u8 f.li.s),.val (.int .i64 f.li.p),.val (.int .i64 f.li.d),.val (.int .i64 f.pr),.val (.bool f.rd)]++(uT f.ru++[.own 1001 a,.own 1002 c,.val (.int .u8 f.at'.k),.val (.int .i64 f.at'.s),.val (.bool f.af)])
def gv(f:Fc)(a c:Nat):List (Nat×Ob):=[(1000,.box (vS f a c)),(1001,.arr a 2 (ms f.i)),(1002,.arr c 2 (ms f.o))]
theorem Wv(m:Mom):ms [m]=[[.int .u8 m.k,.int .i64 m.s]]:=rfl
theorem ZR(f:Fc)(i j:Nat)(x:Ln)(m:FitX x)(n:x.v.length<50000):lB G2 T_ 90
  {args:=[.val x.iv,.loc 1000 4],objs:=gv f i j,res:=.val (.int .i64 (bJ x).1),objs':=gv (if (bJ x).1=0 then {f with b:=(bJ x).2 } else f) i j,ro':=[] }:=by
 refine aK hm vR (by simp) rfl ?_;have d:=Ac x m n;have g:=@Du x;unfold bJ;obtain⟨⟨e,l⟩,h⟩:=A_ (cO x);rw[h]at d g |-;dsimp only at g |-;simp only[S9,Ln.iv]at d;simp[sj,Ln.iv,rq,gv,vS,uT];refine aa d ?_;by_cases c:e=0
 .have o:=g c;by_cases k:l.length=1
  .have a:=Wu l k;rw[a];simp(disch:=omega)[wl,c,Wv];exact ch [(4,.val (.int .i64 0))]
  simp(disch:=omega)[wl,c,bP,k];exact ch [(4,.val (.int .i64 4))]
 simp(disch:=omega)[wl,c];exact ch [(4,.val (.int .i64 e))]
theorem ZS(f:Fc)(h i:Nat)(x:Ln)(k:FitX x)(m:x.v.length<50000):lB G2 T_ 90
  {args:=[.val x.iv,.loc 1000 6],objs:=gv f h i,res:=.val (.int .i64 (bJ x).1),objs':=gv (if (bJ x).1=0 then {f with e:=(bJ x).2 } else f) h i,ro':=[] }:=by
 refine aK hm vR (by simp) rfl ?_;have c:=Ac x k m;have d:=@Du x;unfold bJ;obtain⟨⟨e,l⟩,g⟩:=A_ (cO x);rw[g]at c d |-;dsimp only at d |-;simp only[S9,Ln.iv]at c;simp[sj,Ln.iv,rq,gv,vS,uT];refine aa c ?_;by_cases b:e=0
 .have n:=d b;by_cases j:l.length=1
  .have a:=Wu l j;rw[a];simp(disch:=omega)[wl,b,Wv];exact ch [(4,.val (.int .i64 0))]
  simp(disch:=omega)[wl,b,bP,j];exact ch [(4,.val (.int .i64 4))]
 simp(disch:=omega)[wl,b];exact ch [(4,.val (.int .i64 e))]
theorem Ww(f:Fc)(h i:Nat)(x:Ln)(k:FitX x)(m:x.v.length<50000):lB G2 T_ 90
  {args:=[.val x.iv,.loc 1000 31],objs:=gv f h i,res:=.val (.int .i64 (bJ x).1),objs':=gv (if (bJ x).1=0 then {f with at':=(bJ x).2 } else f) h i,ro':=[] }:=by
 refine aK hm vR (by simp) rfl ?_;have c:=Ac x k m;have d:=@Du x;unfold bJ;obtain⟨⟨e,l⟩,g⟩:=A_ (cO x);rw[g]at c d |-;dsimp only at d |-;simp only[S9,Ln.iv]at c;simp[sj,Ln.iv,rq,gv,vS,uT];refine aa c ?_;by_cases b:e=0
 .have n:=d b;by_cases j:l.length=1
  .have a:=Wu l j;rw[a];simp(disch:=omega)[wl,b,Wv];exact ch [(4,.val (.int .i64 0))]
  simp(disch:=omega)[wl,b,bP,j];exact ch [(4,.val (.int .i64 4))]
 simp(disch:=omega)[wl,b];exact ch [(4,.val (.int .i64 e))]
def U7:List Str:=[bp,bv,ba,ct,fI,cV,cj,cR]
def cH(f:Fc)(x:Ln):Fc:=if (x.n=ba\/x.n=ct\/x.n=fI)/\(bJ x).1≠0 then f else dc f x
def GV(x:Ln)(v:Nat):Nat:=if x.n=cV then v+1 else v
def GW(x:Ln)(v:Nat):Nat:=if x.n=cj then v+1 else v
theorem XR(a b:List Mom):ms a++ms b=ms (a++b):=by simp[ms]
theorem adh(l:List Mom):∀r∈ms l,r.length=2:=by
 intro r a;obtain⟨v,_,rfl⟩:=List.mem_map.1 a;rfl
theorem Dv(x:Ln):(cO x).2.length<=x.v.length+1:=by
 unfold cO;split
 .simp
 have:=PC (ij x.p F3) (parts 44 x.v) [];have:=XP 44 x.v;simp at *;omega
theorem NM(f:Fc)(b c:Nat)(x:Ln)(g:FitX x)(i:x.v.length<50000)(j:f.i.length<1000000)(k:f.o.length<1000000)(h:x.n=bp):lB G2 T_ 55
  {args:=[.loc 1000 0,.val x.iv],objs:=gv f b c,res:=.val (.tuple [.int .i64 (bt x),.bool true]),objs':=gv (cH f x) (GV x b) (GW x c),ro':=[] }:=by
 refine aK hm be (by simp) rfl ?_;have a:=XQ x g;obtain⟨⟨e,m⟩,d⟩:=A_ (zV x);rw[d]at a;simp[bt,cH,dc,GV,GW,h,d,nm_,Ln.iv,S9,zuI,ma]at a |-;simp[ay,rq,gv,vS,uT];refine aa a ?_;simp;exact ch [(5,.val (.bool true)),(4,.val (.int .i64 e))]
theorem Ro(f:Fc)(b c:Nat)(x:Ln)(g:FitX x)(i:x.v.length<50000)(j:f.i.length<1000000)(k:f.o.length<1000000)(h:x.n=bv):lB G2 T_ 55
  {args:=[.loc 1000 0,.val x.iv],objs:=gv f b c,res:=.val (.tuple [.int .i64 (bt x),.bool true]),objs':=gv (cH f x) (GV x b) (GW x c),ro':=[] }:=by
 refine aK hm be (by simp) rfl ?_;have a:=XQ x g;obtain⟨⟨e,m⟩,d⟩:=A_ (zV x);rw[d]at a;simp[bt,cH,dc,GV,GW,h,d,nm_,Ln.iv,S9,zuI,ma]at a |-;simp[ay,rq,gv,vS,uT];refine aa a ?_;simp;exact ch [(5,.val (.bool true)),(4,.val (.int .i64 e))]
theorem NO(f:Fc)(b c:Nat)(x:Ln)(i:FitX x)(j:x.v.length<50000)(k:f.i.length<1000000)(l:f.o.length<1000000)(h:x.n=ba):lB G2 T_ 55
  {args:=[.loc 1000 0,.val x.iv],objs:=gv f b c,res:=.val (.tuple [.int .i64 (bt x),.bool true]),objs':=gv (cH f x) (GV x b) (GW x c),ro':=[] }:=by
 refine aK hm be (by simp) rfl ?_;have a:=ZR f b c x i j;obtain⟨⟨e,m⟩,d⟩:=A_ (bJ x);rw[d]at a;dsimp only at a;by_cases g:e=0
 .subst g;rw[if_pos rfl]at a;simp[bt,cH,dc,GV,GW,h,d,nm_,Ln.iv,gv,vS,uT]at a |-;simp[ay,rq,gv,vS,uT];refine pK hm (vs:=[_,_,_,_]) ?_;simp;refine⟨rfl,?_⟩;refine callM [] [] a rfl rfl ⟨rfl,rfl,rfl,trivial⟩ ⟨[],[],rfl,⟨rfl,rfl⟩,rfl⟩ rfl ?_;simp;exact ch [(5,.val (.bool true)),(4,.val (.int .i64 0))]
 rw[if_neg g]at a;simp[g,bt,cH,dc,GV,GW,h,d,nm_,Ln.iv,gv,vS,uT]at a |-;simp[ay,rq,gv,vS,uT];refine pK hm (vs:=[_,_,_,_]) ?_;simp;refine⟨rfl,?_⟩;refine callM [] [] a rfl rfl ⟨rfl,rfl,rfl,trivial⟩ ⟨[],[],rfl,⟨rfl,rfl⟩,rfl⟩ rfl ?_;simp;exact ch [(5,.val (.bool true)),(4,.val (.int .i64 e))]
theorem U9(f:Fc)(b c:Nat)(x:Ln)(i:FitX x)(j:x.v.length<50000)(k:f.i.length<1000000)(l:f.o.length<1000000)(h:x.n=ct):lB G2 T_ 55
  {args:=[.loc 1000 0,.val x.iv],objs:=gv f b c,res:=.val (.tuple [.int .i64 (bt x),.bool true]),objs':=gv (cH f x) (GV x b) (GW x c),ro':=[] }:=by
 refine aK hm be (by simp) rfl ?_;have a:=ZS f b c x i j;obtain⟨⟨e,m⟩,d⟩:=A_ (bJ x);rw[d]at a;dsimp only at a;by_cases g:e=0
 .subst g;rw[if_pos rfl]at a;simp[bt,cH,dc,GV,GW,h,d,nm_,Ln.iv,gv,vS,uT]at a |-;simp[ay,rq,gv,vS,uT];refine pK hm (vs:=[_,_,_,_]) ?_;simp;refine⟨rfl,?_⟩;refine callM [] [] a rfl rfl ⟨rfl,rfl,rfl,trivial⟩ ⟨[],[],rfl,⟨rfl,rfl⟩,rfl⟩ rfl ?_;simp;exact ch [(5,.val (.bool true)),(4,.val (.int .i64 0))]
 rw[if_neg g]at a;simp[g,bt,cH,dc,GV,GW,h,d,nm_,Ln.iv,gv,vS,uT]at a |-;simp[ay,rq,gv,vS,uT];refine pK hm (vs:=[_,_,_,_]) ?_;simp;refine⟨rfl,?_⟩;refine callM [] [] a rfl rfl ⟨rfl,rfl,rfl,trivial⟩ ⟨[],[],rfl,⟨rfl,rfl⟩,rfl⟩ rfl ?_;simp;exact ch [(5,.val (.bool true)),(4,.val (.int .i64 e))]
theorem Wx(f:Fc)(b c:Nat)(x:Ln)(i:FitX x)(j:x.v.length<50000)(k:f.i.length<1000000)(l:f.o.length<1000000)(h:x.n=fI):lB G2 T_ 55
  {args:=[.loc 1000 0,.val x.iv],objs:=gv f b c,res:=.val (.tuple [.int .i64 (bt x),.bool true]),objs':=gv (cH f x) (GV x b) (GW x c),ro':=[] }:=by
 refine aK hm be (by simp) rfl ?_;have a:=Ww f b c x i j;obtain⟨⟨e,m⟩,d⟩:=A_ (bJ x);rw[d]at a;dsimp only at a;by_cases g:e=0
 .subst g;rw[if_pos rfl]at a;simp[bt,cH,dc,GV,GW,h,d,nm_,Ln.iv,gv,vS,uT]at a |-;simp[ay,rq,gv,vS,uT];refine pK hm (vs:=[_,_,_,_]) ?_;simp;refine⟨rfl,?_⟩;refine callM [] [] a rfl rfl ⟨rfl,rfl,rfl,trivial⟩ ⟨[],[],rfl,⟨rfl,rfl⟩,rfl⟩ rfl ?_;simp;exact ch [(5,.val (.bool true)),(4,.val (.int .i64 0))]
 rw[if_neg g]at a;simp[g,bt,cH,dc,GV,GW,h,d,nm_,Ln.iv,gv,vS,uT]at a |-;simp[ay,rq,gv,vS,uT];refine pK hm (vs:=[_,_,_,_]) ?_;simp;refine⟨rfl,?_⟩;refine callM [] [] a rfl rfl ⟨rfl,rfl,rfl,trivial⟩ ⟨[],[],rfl,⟨rfl,rfl⟩,rfl⟩ rfl ?_;simp;exact ch [(5,.val (.bool true)),(4,.val (.int .i64 e))]
theorem Ua(f:Fc)(b c:Nat)(x:Ln)(h:FitX x)(i:x.v.length<50000)(k:f.i.length<1000000)(l:f.o.length<1000000)(j:x.n=cV):lB G2 T_ 55
  {args:=[.loc 1000 0,.val x.iv],objs:=gv f b c,res:=.val (.tuple [.int .i64 (bt x),.bool true]),objs':=gv (cH f x) (GV x b) (GW x c),ro':=[] }:=by
 refine aK hm be (by simp) rfl ?_;have a:=Ac x h i;have d:=Dv x;obtain⟨⟨e,m⟩,g⟩:=A_ (cO x);rw[g]at a d;simp[bt,cH,dc,GV,GW,j,g,nm_,Ln.iv,S9,zuI,ma]at a d |-;simp[ay,rq,gv,vS,uT];refine aa a ?_;simp;refine⟨⟨by rw[bP,bP];omega,adh _⟩,?_⟩;rw[XR];exact ch [(5,.val (.bool true)),(4,.val (.int .i64 e))]
theorem Rp(f:Fc)(b c:Nat)(x:Ln)(h:FitX x)(i:x.v.length<50000)(k:f.i.length<1000000)(l:f.o.length<1000000)(j:x.n=cj):lB G2 T_ 55
  {args:=[.loc 1000 0,.val x.iv],objs:=gv f b c,res:=.val (.tuple [.int .i64 (bt x),.bool true]),objs':=gv (cH f x) (GV x b) (GW x c),ro':=[] }:=by
 refine aK hm be (by simp) rfl ?_;have a:=Ac x h i;have d:=Dv x;obtain⟨⟨e,m⟩,g⟩:=A_ (cO x);rw[g]at a d;simp[bt,cH,dc,GV,GW,j,g,nm_,Ln.iv,S9,zuI,ma]at a d |-;simp[ay,rq,gv,vS,uT];refine aa a ?_;simp;refine⟨⟨by rw[bP,bP];omega,adh _⟩,?_⟩;rw[XR];exact ch [(5,.val (.bool true)),(4,.val (.int .i64 e))]
theorem Rq(f:Fc)(i j:Nat)(x:Ln)(k:FitX x)(l:x.v.length<50000)(m:f.i.length<1000000)(n:f.o.length<1000000)(g:x.n=cR):lB G2 T_ 55
  {args:=[.loc 1000 0,.val x.iv],objs:=gv f i j,res:=.val (.tuple [.int .i64 (bt x),.bool true]),objs':=gv (cH f x) (GV x i) (GW x j),ro':=[] }:=by
 refine aK hm be (by simp) rfl ?_;have a:=Wp x.v (by have:=k.v;omega);obtain⟨⟨d,e⟩,b⟩:=A_ (wG x.v);rw[b]at a;dsimp only at a;by_cases h:e=0
 .subst h;by_cases c:d<=0
  .simp[bt,cH,dc,GV,GW,II,g,b,c,nm_,Ln.iv];simp[ay,rq,gv,vS,uT];refine aa a ?_;simp(disch:=omega)[wl,c];exact ch [(5,.val (.bool true)),(4,.val (.int .i64 8))]
  simp[bt,cH,dc,GV,GW,II,g,b,c,nm_,Ln.iv];simp[ay,rq,gv,vS,uT];refine aa a ?_;simp(disch:=omega)[wl,c];exact ch [(5,.val (.bool true)),(4,.val (.int .i64 0))]
 simp[bt,cH,dc,GV,GW,II,g,b,h,nm_,Ln.iv];simp[ay,rq,gv,vS,uT];refine aa a ?_;simp(disch:=omega)[wl,h];exact ch [(5,.val (.bool true)),(4,.val (.int .i64 e))]
theorem ZT(f:Fc)(a b:Nat)(x:Ln)(c:x.n∉U7):lB G2 T_ 55
  {args:=[.loc 1000 0,.val x.iv],objs:=gv f a b,res:=.val (.tuple [.int .i64 0,.bool false]),objs':=gv f a b,ro':=[] }:=by
 refine aK hm be (by simp) rfl ?_;simp[U7,nm_]at c;obtain⟨d,e,g,h,i,j,k,l⟩:=c;simp[ay,rq,gv,vS,uT,Ln.iv,d,e,g,h,i,j,k,l];exact ch [(5,.val (.bool false)),(4,.val (.int .i64 0))]
theorem LV(n:Int)(ps:List Int):Fn G2 T_ 31 [dD n ps] (.int .i64 n):=by
 refine ae hm Rg (by simp) ?_;have a:=upM (Kp n 0 ps);obtain⟨t,v,h⟩:=dQ n ps;rw[h]at a |-;simp[I8];refine callM [(1000,3)] [] a rfl rfl ⟨rfl,trivial⟩ ⟨[],[],rfl,⟨rfl,rfl⟩,rfl⟩ rfl ?_;simp
def ZU:List Str:=[bK,fG,bW,eg,gp,bN,js,tO]
theorem adi(r:Ru):r.iv=.agg [.int .u8 r.f,.int .i64 r.i,.int .i64 r.c,.int .u8 r.u.k,.int .i64 r.u.s,.slice (is r.l4),.slice (is r.l5),.slice (is r.l6),.slice (B4 r.l7),.slice (is r.l8),.slice (is r.l9),.slice (is r.l10),.slice (is r.l11),.slice (is r.l12),.int .i64 r.w]:=rfl
theorem Ub(f:Fc)(c d:Nat)(x:Ln)(g:FitX x)(h:x.v.length<50000)(e:x.n=bK):lB G2 T_ 56
  {args:=[.loc 1000 0,.val x.iv],objs:=gv f c d,res:=.val (.int .i64 (bt x)),objs':=gv (cH f x) c d,ro':=[] }:=by
 refine aK hm bf (by simp) rfl ?_;have b:=up (L3 x.v (by have:=g.v;omega));by_cases a:ti x.v=true
 .rw[a]at b;simp[bt,cH,dc,e,a,nm_,Ln.iv];simp[aq,rq,gv,vS,uT];refine aa b ?_;simp;exact ch [(4,.val (.int .i64 0))]
 have a:ti x.v=false:=by simpa using a
 rw[a]at b;simp[bt,cH,dc,e,a,nm_,Ln.iv];simp[aq,rq,gv,vS,uT];refine aa b ?_;simp;exact ch [(4,.val (.int .i64 4))]
theorem Rr(f:Fc)(c d:Nat)(x:Ln)(i:FitX x)(j:x.v.length<50000)(e:x.n=fG):lB G2 T_ 56
  {args:=[.loc 1000 0,.val x.iv],objs:=gv f c d,res:=.val (.int .i64 (bt x)),objs':=gv (cH f x) c d,ro':=[] }:=by
 refine aK hm bf (by simp) rfl ?_;have a:=U4 x.v (by have:=i.v;omega);obtain⟨R,b⟩:=A_ (unR x.v);rw[b]at a;cases R with
 |ok t=>
  simp only[unI]at a;simp[bt,cH,dc,e,unE,unT,b,nm_,Ln.iv];simp[aq,rq,gv,vS,uT];refine aa a ?_;simp;exact ch [(4,.val (.int .i64 0))]
 |bad p=>
  have g:=LV 4 [(p:Int)];simp only[unI]at a;obtain⟨t,v,h⟩:=dQ 4 [(p:Int)];rw[h]at a g;simp[bt,cH,dc,e,unE,unT,b,nm_,Ln.iv];simp[aq,rq,gv,vS,uT];refine aa a ?_;simp;refine aa g ?_;simp;exact ch [(4,.val (.int .i64 4))]
theorem Rs(f:Fc)(b c:Nat)(x:Ln)(h:FitX x)(i:x.v.length<50000)(g:x.n=bW):lB G2 T_ 56
  {args:=[.loc 1000 0,.val x.iv],objs:=gv f b c,res:=.val (.int .i64 (bt x)),objs':=gv (cH f x) b c,ro':=[] }:=by
 refine aK hm bf (by simp) rfl ?_;have a:=ZM x.v;obtain⟨⟨s,e⟩,d⟩:=A_ (R9 x.v);rw[d]at a;simp only[stI]at a;simp[bt,cH,dc,g,d,nm_,Ln.iv];simp[aq,rq,gv,vS,uT];refine aa a ?_;simp;exact ch [(4,.val (.int .i64 e))]
theorem Uc(f:Fc)(c d:Nat)(x:Ln)(k:FitX x)(l:x.v.length<50000)(g:x.n=eg):lB G2 T_ 56
  {args:=[.loc 1000 0,.val x.iv],objs:=gv f c d,res:=.val (.int .i64 (bt x)),objs':=gv (cH f x) c d,ro':=[] }:=by
 refine aK hm bf (by simp) rfl ?_;have a:=up (Jd 0 100 false x.v (by have:=k.v;omega));obtain⟨⟨n,e⟩,b⟩:=A_ (dT 5 0 100 false x.v);rw[b]at a;simp only[Zl]at a;by_cases i:e=0
 .subst i;rw[if_pos rfl]at a;simp[bt,cH,dc,g,b,nm_,Ln.iv];simp[aq,rq,gv,vS,uT];refine aa a ?_;simp;exact ch [(4,.val (.int .i64 0))]
 rw[if_neg i]at a;have j:=LV e [0];obtain⟨t,v,h⟩:=dQ e [0];rw[h]at a j;simp[bt,cH,dc,g,b,nm_,Ln.iv];simp[aq,rq,gv,vS,uT];refine aa a ?_;simp;refine aa j ?_;simp;exact ch [(4,.val (.int .i64 e))]
theorem Rt(f:Fc)(c d:Nat)(x:Ln)(k:FitX x)(l:x.v.length<50000)(g:x.n=gp):lB G2 T_ 56
  {args:=[.loc 1000 0,.val x.iv],objs:=gv f c d,res:=.val (.int .i64 (bt x)),objs':=gv (cH f x) c d,ro':=[] }:=by
 refine aK hm bf (by simp) rfl ?_;have a:=up (Jd 0 9 false x.v (by have:=k.v;omega));obtain⟨⟨n,e⟩,b⟩:=A_ (dT 5 0 9 false x.v);rw[b]at a;simp only[Zl]at a;by_cases i:e=0
 .subst i;rw[if_pos rfl]at a;simp[bt,cH,dc,g,b,nm_,Ln.iv];simp[aq,rq,gv,vS,uT];refine aa a ?_;simp;exact ch [(4,.val (.int .i64 0))]
 rw[if_neg i]at a;have j:=LV e [0];obtain⟨t,v,h⟩:=dQ e [0];rw[h]at a j;simp[bt,cH,dc,g,b,nm_,Ln.iv];simp[aq,rq,gv,vS,uT];refine aa a ?_;simp;refine aa j ?_;simp;exact ch [(4,.val (.int .i64 e))]
theorem Rv(f:Fc)(c d:Nat)(x:Ln)(j:FitX x)(k:x.v.length<50000)(g:x.n=bN):lB G2 T_ 56
  {args:=[.loc 1000 0,.val x.iv],objs:=gv f c d,res:=.val (.int .i64 (bt x)),objs':=gv (cH f x) c d,ro':=[] }:=by
 refine aK hm bf (by simp) rfl ?_;have a:=Wn x.v (by have:=j.v;omega);obtain⟨R,b⟩:=A_ (iY x.v);rw[b]at a;cases R with
 |ok r=>
  simp only[ZJ,adi]at a;simp[bt,cH,dc,g,ruE,Wo,b,nm_,Ln.iv];simp[aq,rq,gv,vS,uT];refine aa a ?_;simp;exact ch [(4,.val (.int .i64 0))]
 |no e p=>
  have i:=LV e p;simp only[ZJ,adi]at a;obtain⟨t,v,h⟩:=dQ e p;rw[h]at a i;simp[bt,cH,dc,g,ruE,Wo,b,nm_,Ln.iv];simp[aq,rq,gv,vS,uT];refine aa a ?_;simp;refine aa i ?_;simp;exact ch [(4,.val (.int .i64 e))]
theorem Ud(f:Fc)(d e:Nat)(x:Ln)(g:FitX x)(h:x.v.length<50000)(c:x.n=js):lB G2 T_ 56
  {args:=[.loc 1000 0,.val x.iv],objs:=gv f d e,res:=.val (.int .i64 (bt x)),objs':=gv (cH f x) d e,ro':=[] }:=by
 refine aK hm bf (by simp) rfl ?_;by_cases a:x.v=gZ
 .simp only[gZ]at a;simp[bt,cH,dc,c,a,nm_,Ln.iv];simp[aq,rq,gv,vS,uT];exact ch [(4,.val (.int .i64 0))]
 by_cases b:x.v=jj
 .simp only[jj]at b;simp[bt,cH,dc,c,b,nm_,Ln.iv];simp[aq,rq,gv,vS,uT];exact ch [(4,.val (.int .i64 0))]
 simp only[jj]at b;simp only[gZ]at a;simp[bt,cH,dc,c,a,b,nm_,Ln.iv];simp[aq,rq,gv,vS,uT];simp(disch:=omega)[wl,a,b];exact ch [(4,.val (.int .i64 4))]
theorem Ue(f:Fc)(d g:Nat)(x:Ln)(j:FitX x)(k:x.v.length<50000)(h:x.n=tO):lB G2 T_ 56
  {args:=[.loc 1000 0,.val x.iv],objs:=gv f d g,res:=.val (.int .i64 (bt x)),objs':=gv (cH f x) d g,ro':=[] }:=by
 refine aK hm bf (by simp) rfl ?_;have c:=up (afs x j);obtain⟨⟨⟨a,b⟩,e⟩,i⟩:=A_ (aco x);rw[i]at c;simp only[HQ,Ln.iv,h,tO]at c;simp[bt,cH,dc,h,i,nm_,Ln.iv];simp[aq,rq,gv,vS,uT];refine aa c ?_;simp;exact ch [(4,.val (.int .i64 e))]
theorem ZV(f:Fc)(a b:Nat)(x:Ln)(c:x.n∉ZU):lB G2 T_ 56
  {args:=[.loc 1000 0,.val x.iv],objs:=gv f a b,res:=.val (.int .i64 0),objs':=gv f a b,ro':=[] }:=by
 refine aK hm bf (by simp) rfl ?_;simp[ZU,nm_]at c;obtain⟨d,e,g,h,i,j,k,l⟩:=c;simp[aq,rq,gv,vS,uT,Ln.iv,d,e,g,h,i,j,k,l];exact ch [(4,.val (.int .i64 0))]
theorem aii(f:Fc)(a b:Nat)(x:Ln)(c:FitX x)(d:x.v.length<50000)(e:f.i.length<1000000)(g:f.o.length<1000000)(i:x.n∈U7):lB G2 T_ 55
  {args:=[.loc 1000 0,.val x.iv],objs:=gv f a b,res:=.val (.tuple [.int .i64 (bt x),.bool true]),objs':=gv (cH f x) (GV x a) (GW x b),ro':=[] }:=by
 simp only[U7,List.mem_cons,List.not_mem_nil,or_false]at i;rcases i with h|h|h|h|h|h|h|h
 .exact NM f a b x c d e g h
 .exact Ro f a b x c d e g h
 .exact NO f a b x c d e g h
 .exact U9 f a b x c d e g h
 .exact Wx f a b x c d e g h
 .exact Ua f a b x c d e g h
 .exact Rp f a b x c d e g h
 exact Rq f a b x c d e g h
theorem take_no{x:Ln}(a:x.n∉U7)(b:x.n∉ZU)(f:Fc):bt x=0/\cH f x=f:=by
 simp only[U7,List.mem_cons,List.not_mem_nil,or_false,not_or]at a;simp only[ZU,List.mem_cons,List.not_mem_nil,or_false,not_or]at b;obtain⟨c,d,e,g,h,i,j,k⟩:=a;obtain⟨l,m,n,o,p,q,s,u⟩:=b;simp[bt,cH,dc,c,d,e,g,h,i,j,k,l,m,n,o,p,q,s,u]
theorem aij(f:Fc)(a b:Nat)(x:Ln)(c:FitX x)(d:x.v.length<50000)(g:x.n∉U7):lB G2 T_ 56
  {args:=[.loc 1000 0,.val x.iv],objs:=gv f a b,res:=.val (.int .i64 (bt x)),objs':=gv (cH f x) a b,ro':=[] }:=by
 by_cases e:x.n∈ZU
 .simp only[ZU,List.mem_cons,List.not_mem_nil,or_false]at e;rcases e with h|h|h|h|h|h|h|h
  .exact Ub f a b x c d h
  .exact Rr f a b x c d h
  .exact Rs f a b x c d h
  .exact Uc f a b x c d h
  .exact Rt f a b x c d h
  .exact Rv f a b x c d h
  .exact Ud f a b x c d h
  exact Ue f a b x c d h
 obtain⟨e1,e2⟩:=take_no g e f;rw[e1,e2];exact ZV f a b x e
theorem fnM_take(f:Fc)(a b:Nat)(x:Ln)(n:FitX x)(o:x.v.length<50000)(q:f.i.length<1000000)(s:f.o.length<1000000):lB G2 T_ 26
  {args:=[.loc 1000 0,.val x.iv],objs:=gv f a b,res:=.val (.int .i64 (bt x)),objs':=gv (cH f x) (GV x a) (GW x b),ro':=[] }:=by
 refine aK hm sh (by simp) rfl ?_;by_cases g:x.n∈U7
 .have h:=aii f a b x n o q s g;simp[gt,rq,gv,vS,uT,Ln.iv]at h |-;refine callM [] [] h rfl rfl ⟨rfl,rfl,rfl,trivial⟩ ⟨rfl,[],[],rfl,rfl,rfl⟩ rfl ?_;simp;exact ch [(4,.val (.int .i64 (bt x)))]
 have v:bt x=bt x:=rfl;have l:GV x a=a:=by unfold GV;rw[if_neg (fun e=>g (by rw[e];decide))]
 have m:GW x b=b:=by unfold GW;rw[if_neg (fun e=>g (by rw[e];decide))]
 rw[l,m];have p:=aij f a b x n o g;have h:lB G2 T_ 55 {args:=[.loc 1000 0,.val x.iv],objs:=gv f a b,res:=.val (.tuple [.int .i64 0,.bool false]),objs':=gv f a b,ro':=[] }:=ZT f a b x g;simp[gt,rq,gv,vS,uT,Ln.iv]at h p |-;refine callM [] [] h rfl rfl ⟨rfl,rfl,rfl,trivial⟩ ⟨rfl,[],[],rfl,rfl,rfl⟩ rfl ?_;simp;refine callM [] [] p rfl rfl ⟨rfl,rfl,rfl,trivial⟩ ⟨rfl,[],[],rfl,rfl,rfl⟩ rfl ?_;simp;exact ch [(4,.val (.int .i64 (bt x)))]
end Go.Vs.Y.Vt
