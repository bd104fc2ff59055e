/- A part of a proof. No conditions. -/
import Derived.Test.YtnhbiolfmeeniaaGreatDoorRJz
set_option linter.all false
set_option maxRecDepth 100000
set_option maxHeartbeats 64000000
namespace Go.Vs.Y.Rc
open Go.Proofs Go.Vs.U8 Go.Vs.Pa Go.Vs.Cv Go.Vs.Mo Go.Vs.Nu Go.Lib
def tx(l:List (Nat×Str)):List Str:=l.map fun p=>eqS p.1 p.2
theorem Lw(a b:List (Nat×Str)):tx (a++b)=tx a++tx b:=by simp[tx]
theorem ts_app(a b:List Str):ts (a++b)=ts a++ts b:=by simp[ts]
def pr0(r:Ru):List (Nat×Str):=[(0,lM r.f.toNat)]
def pr1(r:Ru):List (Nat×Str):=pr0 r++kh (decide (r.u.k≠0)) 1 (dn r.u)
def pr2(r:Ru):List (Nat×Str):=pr1 r++kh (decide (r.c≠0)) 2 (itoa r.c)
def pr3(r:Ru):List (Nat×Str):=pr2 r++kh (decide (r.i≠1)) 3 (itoa r.i)
def UR(r:Ru)(j:Nat):List (Nat×Str):=pr3 r++fA r (bq.take j)
theorem acW(r:Ru):cU r=UR r 9++kh (decide (r.w≠0)) 13 (yB r.w):=by simp[cU,UR,pr3,pr2,pr1,pr0,bq]
def rtI(r:Ru):IV:=.tuple [.str (if cT r=0 then dJ r else []),.int .i64 (cT r)]
theorem Lx(r:Ru):∀a b,fA r (a++b)=fA r a++fA r b
 |[],b=>rfl
 |x::a,b=>by simp[fA,Lx r a b]
theorem acX(r:Ru){j k:Nat}(b:j<9)(a:k=4+j):UR r (j+1)=UR r j++kh (decide (qD r k≠[])) k (qD r k):=by
 have e:bq.take (j+1)=bq.take j++[k]:=by
  have:j=0\/j=1\/j=2\/j=3\/j=4\/j=5\/j=6\/j=7\/j=8:=by omega
  subst a;rcases this with rfl|rfl|rfl|rfl|rfl|rfl|rfl|rfl|rfl<;>rfl
 unfold UR;rw[e,Lx];simp[fA]
theorem acY(l:List (Nat×Str)):(ts (tx l)).length=l.length:=by simp[ts,tx]
theorem Jh(b:Bool)(k:Nat)(v:Str):(kh b k v).length<=1:=by unfold kh;split<;>simp
def nm9:List Str:=(qB.drop 4).take 9
theorem afH{j:Nat}(h:j<9):(ts nm9)[j]?=some [.str (lL (4+j))]:=by
 have:j=0\/j=1\/j=2\/j=3\/j=4\/j=5\/j=6\/j=7\/j=8:=by omega
 rcases this with rfl|rfl|rfl|rfl|rfl|rfl|rfl|rfl|rfl<;>rfl
theorem Wl{n:Int}(h:n.natAbs<=1000000):i64 n:=by unfold i64;omega
theorem TQ(r:Ru)(hf:Do r)(hk:0<=r.u.k)(h0:0<=r.f):Fn G2 T_ 71 [r.iv] (rtI r):=by
 refine ae hm Lp (by simp) ?_;have N:=wF r hf hk;obtain⟨e,B⟩:=A_ (cT r);unfold rtI;rw[B]at N |-;unfold Ru.iv cells at N |-;simp[BY];refine aa N ?_;by_cases e0:e=0
 .subst e0;rw[if_pos rfl];obtain⟨c1,c2,_⟩:=ei B;obtain⟨d1,d2,d3,d4,d5,d6,d7,d8⟩:=iN c1;have b':=Wf h0 B;obtain⟨f,C⟩:∃f:Nat,r.f=f:=⟨r.f.toNat,by omega⟩;have M:=XE f (by omega);have O:=(Xz f).2;have D:tx (pr0 r)=[eqS 0 (lM f)]:=by simp[tx,pr0,C]
  rw[<-C]at M;simp(disch:=omega)[wl];refine aa M ?_;simp(disch:=omega)[wl];have hz:[[IV.str (70::82::69::81::61::lM f)]]=ts (tx (pr0 r)):=by rw[D];rfl
  rw[hz];refine⟨by omega,?_⟩;have E:(ts (tx (pr0 r))).length=1:=by rw[D];rfl
  have P:(ts (tx (pr1 r))).length<=2:=by rw[acY]at E |-;rw[pr1,List.length_append];have:=Jh (decide (r.u.k≠0)) 1 (dn r.u);omega
  have Q:(ts (tx (pr2 r))).length<=3:=by rw[acY]at P |-;rw[pr2,List.length_append];have:=Jh (decide (r.c≠0)) 2 (itoa r.c);omega
  have R:(ts (tx (pr3 r))).length<=4:=by rw[acY]at Q |-;rw[pr3,List.length_append];have:=Jh (decide (r.i≠1)) 3 (itoa r.i);omega
  refine Qo hm (fun v:Nat=>⟨[(5,.own 21 v),(4,.val (.int .i64 0)),(3,.val (.int .i64 0)),(2,.val (.str [])),(1,.loc 1 0)],[(21,.arr v 1 (ts (tx (pr1 r)))),(1,.box (dX r))],[],99,G2⟩) (fun _=>True) (fun _=>rfl) ?_ ?_
  .by_cases b:r.u.k=0
   .have g:pr1 r=pr0 r:=by simp[pr1,kh,b]
    rw[g];simp(disch:=omega)[wl,b];refine cz 0 trivial ?_;simp[dX,b];exact an rfl rfl (by simp[bj,aE,ac]) (by simp[bZ,ac,b]) (by simp[bX])
   have hu:dm r.u=0:=by
    rcases d8 with h|h
    .rw[h]at b;exact absurd rfl b
    exact h.2
   have s:=sE r.u hk;unfold TO ma at s;rw[hu,if_pos rfl]at s;have F:=kO r.u
   have g:ts (tx (pr0 r))++[[.str (85::78::84::73::76::61::dn r.u)]]=ts (tx (pr1 r)):=by
    unfold pr1;rw[Lw,ts_app];simp[kh,b,tx,ts];rfl
   simp(disch:=omega)[wl,b];refine aa s ?_;simp(disch:=omega)[wl,E,g];refine⟨by omega,?_⟩;refine cz 1 trivial ?_;simp[dX];exact bA
  intro v1 _;simp[dX];refine Qo hm (fun v:Nat=>⟨[(5,.own 21 v),(4,.val (.int .i64 0)),(3,.val (.int .i64 0)),(2,.val (.str [])),(1,.loc 1 0)],[(21,.arr v 1 (ts (tx (pr2 r)))),(1,.box (dX r))],[],99,G2⟩) (fun _=>True) (fun _=>rfl) ?_ ?_
  .by_cases b:r.c=0
   .have g:pr2 r=pr1 r:=by simp[pr2,kh,b]
    rw[g];simp(disch:=omega)[wl,b];refine cz v1 trivial ?_;simp[dX,b];exact an rfl rfl (by simp[bj,aE,ac]) (by simp[bZ,ac,b]) (by simp[bX])
   have s:=up (Ex r.c (by omega) (by omega));have F:=itoa_len (n:=r.c) (by omega)
   have g:ts (tx (pr1 r))++[[.str (67::79::85::78::84::61::itoa r.c)]]=ts (tx (pr2 r)):=by
    unfold pr2;rw[Lw,ts_app];simp[kh,b,tx,ts];rfl
   simp(disch:=omega)[wl,b];refine aa s ?_;simp(disch:=omega)[wl,g];refine⟨by omega,by omega,?_⟩;refine cz (v1+1) trivial ?_;simp[dX];exact bA
  intro v2 _;simp[dX];refine Qo hm (fun v:Nat=>⟨[(5,.own 21 v),(4,.val (.int .i64 0)),(3,.val (.int .i64 0)),(2,.val (.str [])),(1,.loc 1 0)],[(21,.arr v 1 (ts (tx (pr3 r)))),(1,.box (dX r))],[],99,G2⟩) (fun _=>True) (fun _=>rfl) ?_ ?_
  .by_cases b:r.i=1
   .have g:pr3 r=pr2 r:=by simp[pr3,kh,b]
    rw[g];simp(disch:=omega)[wl,b];refine cz v2 trivial ?_;simp[dX,b];exact an rfl rfl (by simp[bj,aE,ac]) (by simp[bZ,ac,b]) (by simp[bX])
   have s:=up (Ex r.i (by omega) (by omega));have F:=itoa_len (n:=r.i) (by omega)
   have g:ts (tx (pr2 r))++[[.str (73::78::84::69::82::86::65::76::61::itoa r.i)]]=ts (tx (pr3 r)):=by
    unfold pr3;rw[Lw,ts_app];simp[kh,b,tx,ts];rfl
   simp(disch:=omega)[wl,b];refine aa s ?_;simp(disch:=omega)[wl,g];refine⟨by omega,by omega,?_⟩;refine cz (v2+1) trivial ?_;simp[dX];exact bA
  intro v3 _;simp[dX];have H:UR r 0=pr3 r:=by simp[UR,bq,fA]
  refine Hs hm (fun x:Nat×Nat=>⟨[(60,.val (.int .i64 x.1)),(59,.val (.int .i64 9)),(58,.own 57 0),(8,.own 57 0),(5,.own 21 x.2),(4,.val (.int .i64 0)),(3,.val (.int .i64 0)),(2,.val (.str [])),(1,.loc 1 0)],[(57,.arr 0 1 (ts nm9)),(21,.arr x.2 1 (ts (tx (UR r x.1)))),(1,.box (dX r))],[1],99,G2⟩) (fun x=>x.1<=9) (fun x=>9-x.1) (0,v3) (by simp) ?_ (fun _=>rfl) ?_
  .simp[dX,H];exact an rfl rfl (by simp[bj,aE,ac]) (by simp[bZ,ac,nm9,qB,ts]) (by simp[bX])
  rintro⟨j,v⟩ hj;simp only at hj;have u:(ts nm9).length=9:=rfl
  have d':(ts (tx (UR r j))).length<=13:=by
   rw[acY,UR,List.length_append];rw[acY]at R
   have:∀l:List Nat,(fA r l).length<=l.length:=fun l=>by
    induction l with
    |nil=>simp[fA]
    |cons x l ih=>simp only[fA,List.length_append,List.length_cons];have:=Jh (decide (qD r x≠[])) x (qD r x);omega
   have:=this (bq.take j);have:(bq.take j).length<=9:=by rw[List.length_take];simp[bq];omega
   omega
  simp[dX];by_cases h:j<9
  .have I:=afH h;have d:=acX r h (k:=4+j) rfl;obtain⟨k,S⟩:=A_ (4+j);rw[S]at I d
   have J:∀U,(ts nm9)[j]'U=[.str (lL k)]:=fun U=>by
    rw[List.getElem?_eq_getElem U]at I;exact O_ I
   have e4:(4:Int)+(j:Int)=(k:Int):=by omega
   have w:k∈bq:=by simp[bq];omega
   have W:=c2 k w;have e':=TI (k:=k) (by omega);obtain⟨V,K⟩:=A_ (qD r k);rw[K]at d
   have m:V≠[]->ts (tx (UR r j))++[[.str (lL k++61::V)]]=ts (tx (UR r (j+1))):=fun X=>by
    rw[d,Lw,ts_app];simp[kh,X,tx,ts,eqS]
   have q:V=[]->UR r (j+1)=UR r j:=fun B=>by
    rw[d];simp[kh,B]
   by_cases A:k=7
   .subst A;have y:tG r.l7=0:=W;obtain⟨a,_,c⟩:=qF y;have L:=up (Zq r.l7 (by omega) (fun x z=>by have:=c x z;exact⟨Wl (by omega),Wl (by omega)⟩))
    have Y:V.length<=120:=by
     rw[<-K];have:=Lc (l:=r.l7) (fun x z=>by have:=c x z;omega);show(m7 r.l7).length<=120;omega
    have o:m7 r.l7=V:=K;rw[o]at L;simp(disch:=omega)[wl,u,I,J,e4];refine⟨by omega,?_⟩;refine aa L ?_;by_cases p:V=[]
    .have i:=q p;subst p;simp(disch:=omega)[wl];refine aj (j+1,v) (by simp;omega) (by simp;omega) ?_;simp[dX,i];exact bA
    have i:=m p;simp(disch:=omega)[wl,p,i];refine⟨by omega,by omega,by omega,?_⟩;refine aj (j+1,v+1) (by simp;omega) (by simp;omega) ?_;simp[dX];exact bA
   have y:vC (Nt k) (L7 k) (TF k) (Ns r k)=0:=by unfold rF at W;rwa[if_neg A]at W
   have o:m6 (Ns r k)=V:=by unfold qD at K;rwa[if_neg A]at K
   obtain⟨a,_,c⟩:=dw y;have f':=Wa k;have L:=up (Zp (Ns r k) (by omega) (fun x z=>Wl (by have:=c x z;omega)))
   have Y:V.length<=120:=by
    rw[<-o];have:=Lb (l:=Ns r k) (fun x z=>by have:=c x z;omega);omega
   rw[o]at L;obtain⟨c',hd⟩:=drop_at r k w A;have Z:=Lu r k w A;rw[hd]at Z;unfold cells at Z;simp(disch:=omega)[wl,u,I,J,e4,A];refine⟨by omega,?_⟩;refine aa Z ?_;simp(disch:=omega)[wl];refine aa L ?_;by_cases p:V=[]
   .have i:=q p;subst p;simp(disch:=omega)[wl];refine aj (j+1,v) (by simp;omega) (by simp;omega) ?_;simp[dX,i];exact bA
   have i:=m p;simp(disch:=omega)[wl,p,i];refine⟨by omega,by omega,by omega,?_⟩;refine aj (j+1,v+1) (by simp;omega) (by simp;omega) ?_;simp[dX];exact bA
  obtain rfl:j=9:=by omega
  simp(disch:=omega)[wl,u];refine Qo hm (fun v':Nat=>⟨[(5,.own 21 v'),(4,.val (.int .i64 0)),(3,.val (.int .i64 0)),(2,.val (.str []))],[(21,.arr v' 1 (ts (yj r)))],[],99,G2⟩) (fun _=>True) (fun _=>rfl) ?_ ?_
  .have M:=up (oE r.w);have O:=QZ r.w;by_cases b:r.w=0
   .have g:yj r=tx (UR r 9):=by
     show tx (cU r)=_;rw[acW];simp[kh,b]
    rw[g];simp(disch:=omega)[wl,b];refine cz v trivial ?_;exact bA
   have g:ts (tx (UR r 9))++[[.str (87::75::83::84::61::yB r.w)]]=ts (yj r):=by
    show _=ts (tx (cU r));rw[acW,Lw,ts_app];simp[kh,b,tx,ts];rfl
   simp(disch:=omega)[wl,b];refine aa M ?_;simp(disch:=omega)[wl,g];refine⟨by omega,by omega,?_⟩;refine cz (v+1) trivial ?_;exact bA
  intro v' _;have hJ:=up (afa (yj r) [59] (by have:=Pl r;omega) (by show(dJ r).length<_;omega));have a':Fn G2 T_ 119 [.slice (ts (yj r)),.str [59]] (.str (dJ r)):=hJ;simp(disch:=omega)[wl];refine aa a' ?_;simp(disch:=omega)[wl]
 rw[if_neg e0];simp(disch:=omega)[wl,e0]
def sp(l:List (Nat×Str)):Str:=join (tx l) [59]
def addS(b:Bool)(k:Nat)(v:Str):Str:=if b=true then 59::eqS k v else []
theorem ZI(r:Ru)(k:Nat)(h:k∈bq)(a:k≠7):lB G2 T_ 117
  {args:=[.loc 1000 0,.val (.int .i64 k)],objs:=[(1000,.box (dX r))],res:=.loc 1000 (k+1),objs':=[(1000,.box (dX r))],ro':=[] }:=by
 refine aK hm kR (by simp) rfl ?_;simp[gV,rq,dX];rcases k8 h a with rfl|rfl|rfl|rfl|rfl|rfl|rfl|rfl <;>
 .simp(disch:=omega)[wl];simp[cI];exact⟨⟨[(4,.loc 1000 _)],[(1000,.box (dX r))],[],44,G2⟩,an rfl rfl (by simp[bj,aE,ac]) (by simp[bZ,ac,dX]) (by simp[bX]),by simp[dX],[],rfl,rfl,rfl⟩
def Dp{a:Type} : GotE a->List a
 |.ok l=>l
 |.no _ _=>[]
def zU{a:Type} : GotE a->IV
 |.ok _=>.nili
 |.no e p=>dD e [(p:Int)]
theorem afI(R:GotE Dn):HL R=.tuple [.slice (B4 (Dp R)),zU R]:=by cases R<;>rfl
theorem afJ(R:GotE Int):HK R=.tuple [.slice (is (Dp R)),zU R]:=by cases R<;>rfl
theorem R6(r:Ru)(k:Nat)(h:k∈bq)(a:k≠7)(v:Str)(e:v.length<1000000):lB G2 T_ 144
  {args:=[.loc 1000 0,.val (.int .i64 k),.val (.str v)],objs:=[(1000,.box (dX r))],res:=.val (zU (cS (dT 5 (Nt k) (L7 k) (TF k)) v)),objs':=[(1000,.box (dX (o6 r k (Dp (cS (dT 5 (Nt k) (L7 k) (TF k)) v)))))],ro':=[] }:=by
 refine aK hm ji (by simp) rfl ?_;have c:=fn_within k (by simp[bq]at h;omega);have b:=up (afm (Nt k) (L7 k) (TF k) v e);rw[afJ]at b;obtain⟨R,f⟩:=A_ (cS (dT 5 (Nt k) (L7 k) (TF k)) v);rw[f]at b |-;have g:=ZI r k h a;unfold wiI at c;simp[fd,rq];simp(disch:=omega)[wl,a];refine aa c ?_;simp(disch:=omega)[wl];refine aa b ?_;simp(disch:=omega)[wl];refine callM [] [] g rfl rfl ⟨rfl,trivial⟩ ⟨rfl,[],[],rfl,rfl,rfl⟩ rfl ?_;rcases k8 h a with rfl|rfl|rfl|rfl|rfl|rfl|rfl|rfl
 .simp(disch:=omega)[wl,dX];simp[cI];exact⟨⟨[(6,.val (zU R))],[(1000,.box (dX (o6 r 4 (Dp R))))],[],43,G2⟩,an rfl rfl (by simp[bj,aE,ac]) (by simp[bZ,ac,dX,o6]) (by simp[bX]),by simp[dX,o6],[],rfl,rfl,rfl⟩
 .simp(disch:=omega)[wl,dX];simp[cI];exact⟨⟨[(6,.val (zU R))],[(1000,.box (dX (o6 r 5 (Dp R))))],[],43,G2⟩,an rfl rfl (by simp[bj,aE,ac]) (by simp[bZ,ac,dX,o6]) (by simp[bX]),by simp[dX,o6],[],rfl,rfl,rfl⟩
 .simp(disch:=omega)[wl,dX];simp[cI];exact⟨⟨[(6,.val (zU R))],[(1000,.box (dX (o6 r 6 (Dp R))))],[],43,G2⟩,an rfl rfl (by simp[bj,aE,ac]) (by simp[bZ,ac,dX,o6]) (by simp[bX]),by simp[dX,o6],[],rfl,rfl,rfl⟩
 .simp(disch:=omega)[wl,dX];simp[cI];exact⟨⟨[(6,.val (zU R))],[(1000,.box (dX (o6 r 8 (Dp R))))],[],43,G2⟩,an rfl rfl (by simp[bj,aE,ac]) (by simp[bZ,ac,dX,o6]) (by simp[bX]),by simp[dX,o6],[],rfl,rfl,rfl⟩
 .simp(disch:=omega)[wl,dX];simp[cI];exact⟨⟨[(6,.val (zU R))],[(1000,.box (dX (o6 r 9 (Dp R))))],[],43,G2⟩,an rfl rfl (by simp[bj,aE,ac]) (by simp[bZ,ac,dX,o6]) (by simp[bX]),by simp[dX,o6],[],rfl,rfl,rfl⟩
 .simp(disch:=omega)[wl,dX];simp[cI];exact⟨⟨[(6,.val (zU R))],[(1000,.box (dX (o6 r 10 (Dp R))))],[],43,G2⟩,an rfl rfl (by simp[bj,aE,ac]) (by simp[bZ,ac,dX,o6]) (by simp[bX]),by simp[dX,o6],[],rfl,rfl,rfl⟩
 .simp(disch:=omega)[wl,dX];simp[cI];exact⟨⟨[(6,.val (zU R))],[(1000,.box (dX (o6 r 11 (Dp R))))],[],43,G2⟩,an rfl rfl (by simp[bj,aE,ac]) (by simp[bZ,ac,dX,o6]) (by simp[bX]),by simp[dX,o6],[],rfl,rfl,rfl⟩
 simp(disch:=omega)[wl,dX];simp[cI];exact⟨⟨[(6,.val (zU R))],[(1000,.box (dX (o6 r 12 (Dp R))))],[],43,G2⟩,an rfl rfl (by simp[bj,aE,ac]) (by simp[bZ,ac,dX,o6]) (by simp[bX]),by simp[dX,o6],[],rfl,rfl,rfl⟩
theorem R7(r:Ru)(v:Str)(b:v.length<1000000):lB G2 T_ 144
  {args:=[.loc 1000 0,.val (.int .i64 7),.val (.str v)],objs:=[(1000,.box (dX r))],res:=.val (zU (cS tw v)),objs':=[(1000,.box (dX {r with l7:=Dp (cS tw v) }))],ro':=[] }:=by
 refine aK hm ji (by simp) rfl ?_;have a:=up (afn v b);rw[afI]at a;obtain⟨R,c⟩:=A_ (cS tw v);rw[c]at a |-;simp[fd,rq];refine aa a ?_;simp(disch:=omega)[wl,dX];simp[cI];exact⟨⟨[(6,.val (zU R))],[(1000,.box (dX {r with l7:=Dp R }))],[],43,G2⟩,an rfl rfl (by simp[bj,aE,ac]) (by simp[bZ,ac,dX]) (by simp[bX]),by simp[dX],[],rfl,rfl,rfl⟩
def frP(v:Str):Nat:=min (qC.idxOf v) 6
def US(r:Ru)(k:Nat)(v:Str):Ru×Int:=
 if k=0 then ({r with f:=(frP v:Nat) },if qC.idxOf v<7 then 0 else 11)
 else if k=1 then ({r with u:=(iw v).1 },(iw v).2)
 else if k=2 then ({r with c:=(dT 5 1 1000 false v).1 },(dT 5 1 1000 false v).2)
 else if k=3 then ({r with i:=(dT 5 1 1000 false v).1 },(dT 5 1 1000 false v).2)
 else ({r with w:=Iv v },if Iv v<0 then 4 else 0)
def B6(e:Int):IV:=if e=0 then .nili else dD e [0]
theorem afK{v:Str}{k:Nat}(h:k<qC.idxOf v)(a:k<=6):¬lM k=v:=fun e=>by
 have:=List.not_of_lt_findIdx (p:=(· == v)) (xs:=qC) (i:=k) h;subst e;rcases k7 a with rfl|rfl|rfl|rfl|rfl|rfl|rfl<;>exact Bool.noConfusion (show true=false from this)
theorem fnM_take(r:Ru)(k:Nat)(L:k=0\/k=1\/k=2\/k=3\/k=13)(v:Str)(E:v.length<1000000):lB G2 T_ 146
  {args:=[.loc 1000 0,.val (.int .i64 k),.val (.str v)],objs:=[(1000,.box (dX r))],res:=.val (B6 (US r k v).2),objs':=[(1000,.box (dX (US r k v).1))],ro':=[] }:=by
 refine aK hm tN (by simp) rfl ?_;obtain⟨⟨Q,e⟩,hT⟩:=A_ (US r k v);rw[hT];have n:=up (gQ e 0);have F:(if e=0 then IV.nili else dD e [0])=B6 e:=rfl;rw[F]at n;simp[lU,rq];rcases L with rfl|rfl|rfl|rfl|rfl
 .simp only[US]at hT;rw[if_pos trivial]at hT;obtain⟨X,s⟩:=A_ (qC.idxOf v);have M:X<=7:=by rw[<-s];exact List.idxOf_le_length
  have H:frP v=min X 6:=by unfold frP;rw[s]
  have x:X<7->lM X=v:=fun h=>by
   have z:qC.idxOf v<qC.length:=by rw[s];exact h
   have I:=List.getElem_idxOf z;unfold lM;rw[List.getD_eq_getElem?_getD,<-s,List.getElem?_eq_getElem z,I];rfl
  have y:∀i,i<X->i<=6->¬lM i=v:=fun i z I=>afK (by rw[s];exact z) I
  rw[s,H]at hT;obtain⟨Y,N⟩:=A_ (min X 6);rw[N]at hT;obtain⟨rfl,o⟩:=Prod.mk.inj hT;simp(disch:=omega)[wl,dX];refine bx hm [] (fun _:Nat=>[]) (fun i=>[(1000,.box (dX {r with f:=(i:Nat) }))]) (fun i=>i<=min X 6) (fun i=>6-i) 0 (by omega) ?_ ?_
  .simp[dX];exact bA
  intro i R;have p:=XE i (by omega);simp[dX];have K:∀A B C:Prop,A->B->C->A/\B/\C:=fun _ _ _ a b c=>⟨a,b,c⟩
  by_cases O:i<6
  .simp(disch:=omega)[wl,O];refine aa p ?_;by_cases J:i=X
   .have D:lM i=v:=by rw[J];exact x (by omega)
    obtain rfl:i=Y:=by omega
    rw[if_pos (by omega)]at o;subst o;simp(disch:=omega)[wl,D];rw[D]at p;refine aa p ?_;simp(disch:=omega)[wl];refine aa n ?_;simp(disch:=omega)[wl];simp[cI];exact⟨⟨[(6,.val (B6 0))],[(1000,.box (dX {r with f:=((i:Nat):Int) }))],[],91,G2⟩,an rfl rfl (by simp[bj,aE,ac]) (by simp[bZ,ac,dX]) (by simp[bX]),by simp[dX],[],rfl,rfl,rfl⟩
   have q:=y i (by omega) (by omega);simp(disch:=omega)[wl,q];refine aj (i+1) (by omega) (by omega) ?_;simp[dX];exact bA
  obtain rfl:i=6:=by omega
  simp(disch:=omega)[wl];refine aa p ?_;by_cases J:X=6
  .obtain rfl:6=Y:=by omega
   have D:lM 6=v:=by have:=x (by omega);rwa[J]at this
   rw[if_pos (by omega)]at o;subst o;simp(disch:=omega)[wl,D];refine aa n ?_;simp(disch:=omega)[wl];simp[cI];exact⟨⟨[(6,.val (B6 0))],[(1000,.box (dX {r with f:=((6:Nat):Int) }))],[],91,G2⟩,an rfl rfl (by simp[bj,aE,ac]) (by simp[bZ,ac,dX]) (by simp[bX]),by simp[dX],[],rfl,rfl,rfl⟩
  obtain rfl:6=Y:=by omega
  have q:=y 6 (by omega) (by omega);rw[if_neg (by omega)]at o;subst o;simp(disch:=omega)[wl,q];refine aa n ?_;simp(disch:=omega)[wl];simp[cI];exact⟨⟨[(6,.val (B6 11))],[(1000,.box (dX {r with f:=((6:Nat):Int) }))],[],91,G2⟩,an rfl rfl (by simp[bj,aE,ac]) (by simp[bZ,ac,dX]) (by simp[bX]),by simp[dX],[],rfl,rfl,rfl⟩
 .have l:=AS v E;simp only[US]at hT;rw[if_neg (by omega),if_pos trivial]at hT;obtain⟨P,g⟩:=A_ (iw v);rw[g]at l hT;obtain⟨rfl,rfl⟩:=Prod.mk.inj hT;unfold ma at l;simp(disch:=omega)[wl];refine aa l ?_;simp(disch:=omega)[wl,dX];refine aa n ?_;simp(disch:=omega)[wl];simp[cI];exact⟨⟨[(6,.val (B6 P.2))],[(1000,.box (dX {r with u:=P.1 }))],[],91,G2⟩,an rfl rfl (by simp[bj,aE,ac]) (by simp[bZ,ac,dX]) (by simp[bX]),by simp[dX],[],rfl,rfl,rfl⟩
 .have l:=up (Jd 1 1000 false v E);simp only[US]at hT;rw[if_neg (by omega),if_neg (by omega),if_pos trivial]at hT;obtain⟨P,g⟩:=A_ (dT 5 1 1000 false v);rw[g]at l hT;obtain⟨rfl,rfl⟩:=Prod.mk.inj hT;unfold Zl at l;simp(disch:=omega)[wl];refine aa l ?_;by_cases m:P.2=0
  .rw[if_pos m];rw[m]at n;simp(disch:=omega)[wl,dX];refine aa (up HD) ?_;simp(disch:=omega)[wl];refine aa n ?_;simp(disch:=omega)[wl];simp[cI];exact⟨⟨[(6,.val (B6 P.2))],[(1000,.box (dX {r with c:=P.1 }))],[],91,G2⟩,an rfl rfl (by simp[bj,aE,ac,m]) (by simp[bZ,ac,dX]) (by simp[bX]),by simp[dX],[],rfl,rfl,rfl⟩
  rw[if_neg m];simp(disch:=omega)[wl,dX];refine aa (up (AM P.2 [0])) ?_;simp(disch:=omega)[wl];refine aa n ?_;simp(disch:=omega)[wl];simp[cI];exact⟨⟨[(6,.val (B6 P.2))],[(1000,.box (dX {r with c:=P.1 }))],[],91,G2⟩,an rfl rfl (by simp[bj,aE,ac]) (by simp[bZ,ac,dX]) (by simp[bX]),by simp[dX],[],rfl,rfl,rfl⟩
 .have l:=up (Jd 1 1000 false v E);simp only[US]at hT;rw[if_neg (by omega),if_neg (by omega),if_neg (by omega),if_pos trivial]at hT;obtain⟨P,g⟩:=A_ (dT 5 1 1000 false v);rw[g]at l hT;obtain⟨rfl,rfl⟩:=Prod.mk.inj hT;unfold Zl at l;simp(disch:=omega)[wl];refine aa l ?_;by_cases m:P.2=0
  .rw[if_pos m];rw[m]at n;simp(disch:=omega)[wl,dX];refine aa (up HD) ?_;simp(disch:=omega)[wl];refine aa n ?_;simp(disch:=omega)[wl];simp[cI];exact⟨⟨[(6,.val (B6 P.2))],[(1000,.box (dX {r with i:=P.1 }))],[],91,G2⟩,an rfl rfl (by simp[bj,aE,ac,m]) (by simp[bZ,ac,dX]) (by simp[bX]),by simp[dX],[],rfl,rfl,rfl⟩
  rw[if_neg m];simp(disch:=omega)[wl,dX];refine aa (up (AM P.2 [0])) ?_;simp(disch:=omega)[wl];refine aa n ?_;simp(disch:=omega)[wl];simp[cI];exact⟨⟨[(6,.val (B6 P.2))],[(1000,.box (dX {r with i:=P.1 }))],[],91,G2⟩,an rfl rfl (by simp[bj,aE,ac]) (by simp[bZ,ac,dX]) (by simp[bX]),by simp[dX],[],rfl,rfl,rfl⟩
 have l:=up (KR v);simp only[US]at hT;rw[if_neg (by omega),if_neg (by omega),if_neg (by omega),if_neg (by omega)]at hT;obtain⟨P,g⟩:=A_ (Iv v);rw[g]at l hT;obtain⟨rfl,o⟩:=Prod.mk.inj hT;simp(disch:=omega)[wl];refine aa l ?_;by_cases m:P<0
 .rw[if_pos m]at o;subst o;simp(disch:=omega)[wl,dX,m];refine aa n ?_;simp(disch:=omega)[wl];simp[cI];exact⟨⟨[(6,.val (B6 4))],[(1000,.box (dX {r with w:=P }))],[],91,G2⟩,an rfl rfl (by simp[bj,aE,ac]) (by simp[bZ,ac,dX]) (by simp[bX]),by simp[dX],[],rfl,rfl,rfl⟩
 rw[if_neg m]at o;subst o;simp(disch:=omega)[wl,dX,m];refine aa n ?_;simp(disch:=omega)[wl];simp[cI];exact⟨⟨[(6,.val (B6 0))],[(1000,.box (dX {r with w:=P }))],[],91,G2⟩,an rfl rfl (by simp[bj,aE,ac]) (by simp[bZ,ac,dX]) (by simp[bX]),by simp[dX],[],rfl,rfl,rfl⟩
theorem I2{c:Type} [DecidableEq c]{one:Str->c×Int} : ∀ {L:List Str} {a:Nat} {b l:List c},fL one L a b=.ok l->b.length<=12->l.length<=12
 |[],a,b,l,h,d=>by simp only[fL,GotE.ok.injEq]at h;rw[<-h];exact d
 |x::r,a,b,l,h,d=>by
  simp only[fL]at h;split at h
  .cases h
  split at h
  .cases h
  split at h
  .cases h
  exact I2 h (by simp;omega)
theorem xG{a:Type} [DecidableEq a]{one:Str->a×Int}{s:Str}{l:List a}(h:cS one s=.ok l):l.length<=12:=I2 h (by simp)
theorem acZ(r:Ru)(k:Nat)(a:k=0\/k=1\/k=2\/k=3\/k=13)(v:Str):kN r k v=if (US r k v).2=0 then .ok (US r k v).1 else .no (US r k v).2 []:=by
 rcases a with rfl|rfl|rfl|rfl|rfl
 .simp only[kN,US,frP,if_true];by_cases h:qC.idxOf v<7
  .rw[if_pos h,if_pos h,if_pos rfl];congr 2;omega
  rw[if_neg h,if_neg h,if_neg (by decide)]
 .rfl
 .rfl
 .rfl
 show(if Iv v<0 then TkR.no 4 []else .ok {r with w:=Iv v })=if (if Iv v<0 then (4:Int)else 0)=0 then .ok {r with w:=Iv v } else .no (if Iv v<0 then (4:Int)else 0) []
 by_cases h:Iv v<0
 .rw[if_pos h,if_pos h,if_neg (by decide)]
 rw[if_neg h,if_neg h,if_pos rfl]
theorem agZ(r:Ru)(k:Nat)(h:k∈bq)(a:k≠7)(v:Str):kN r k v=match cS (dT 5 (Nt k) (L7 k) (TF k)) v with
  |.ok l=>.ok (o6 r k l)
  |.no e p=>.no e [(p:Int)]:=by
 unfold kN;have:=k8 h a;rw[if_neg (by omega),if_neg (by omega),if_neg (by omega),if_neg (by omega),if_neg (by omega),if_neg (by omega)];cases cS (dT 5 (Nt k) (L7 k) (TF k)) v<;>rfl
theorem ag0(r:Ru)(v:Str):kN r 7 v=match cS tw v with
  |.ok l=>.ok {r with l7:=l }
  |.no e p=>.no e [(p:Int)]:=by
 unfold kN;rw[if_neg (by omega),if_neg (by omega),if_neg (by omega),if_neg (by omega),if_pos rfl];cases cS tw v<;>rfl
def Fin(r:Ru):Prop:=Do r/\0<=r.u.k/\0<=r.f
theorem ac0(s:Str):0<=qZ s:=by
 rcases Dl s with⟨h,_⟩|⟨h,_⟩|⟨h,_⟩|⟨h,_⟩<;>omega
theorem aie(s:Str):0<=(iw s).1.k:=by
 unfold iw;split
 .simp
 split
 .simp
 exact ac0 s
theorem Wm{r:Ru}(k:Nat)(v:Str)(h:Fin r):Fin (US r k v).1:=by
 obtain⟨a,b,c⟩:=h;unfold US;split
 .exact⟨a,b,by simp⟩
 split
 .exact⟨a,aie v,c⟩
 split
 .exact⟨a,b,c⟩
 split
 .exact⟨a,b,c⟩
 exact⟨a,b,c⟩
theorem ac1{r:Ru}{k:Nat}{l:List Int}(g:l.length<=12)(h:Fin r):Fin (o6 r k l):=by
 obtain⟨⟨i,j,m,n,o,p,a,b,c⟩,e,f⟩:=h;unfold o6;split<;>exact⟨⟨by first|assumption|(simp only;omega),by first|assumption|(simp only;omega),by first|assumption|(simp only;omega),by first|assumption|(simp only;omega),by first|assumption|(simp only;omega),by first|assumption|(simp only;omega),by first|assumption|(simp only;omega),by first|assumption|(simp only;omega),by first|assumption|(simp only;omega)⟩,e,f⟩
theorem ac2{r:Ru}{l:List Dn}(o:l.length<=12)(h:Fin r):Fin {r with l7:=l }:=by
 obtain⟨⟨e,f,g,p,i,j,a,b,c⟩,m,n⟩:=h;exact⟨⟨e,f,g,by simp only;omega,i,j,a,b,c⟩,m,n⟩
def ZJ:RuR->IV
 |.no e p=>.tuple [Zv.iv,dD e p]
 |.ok r=>.tuple [r.iv,.nili]
def wbs(a:List Nat):List SV:=(List.range 14).map fun j=>.val (.bool (decide (j∈a)))
theorem Ji(a:List Nat){k:Nat}(h:k<14):(wbs a)[k]?=some (.val (.bool (decide (k∈a)))):=by simp[wbs,h]
theorem Jj(a:List Nat):(wbs a).length=14:=by simp[wbs]
theorem afL(a:List Nat){k:Nat}(h:k<14):(wbs a).set k (.val (.bool true))=wbs (k::a):=by
 apply List.ext_getElem?;intro j;by_cases c:j=k
 .subst c;simp[wbs,h]
 have:¬k=j:=fun e=>c e.symm
 rw[List.getElem?_set_ne this];by_cases b:j<14
 .rw[Ji a b,Ji _ b];simp[c]
 rw[List.getElem?_eq_none (by rw[Jj];omega),List.getElem?_eq_none (by rw[Jj];omega)]
theorem afM:wbs []=afB:=by rfl
end Go.Vs.Y.Rc
namespace Go.Vs.Y.Rc
open Go Go.Vs Go.Proofs
def TS:SV->SV
 |.nils=>.val (.slice [])
 |x=>x
theorem Pt{w:World}{S:bb}{c:Nat->Value}{objs:List (Nat×Ob)} : ∀ {b:List SV} {l:List Value},al w S c objs b l->al w S c objs (b.map TS) l
 |[],l,h=>h
 |x::r,l,⟨v,t,e,f,d,g⟩=>by
  refine⟨v,t,e,f,?_,Pt g⟩;cases x with
  |nils=>
   obtain⟨a,rfl⟩:∃a,v=.slice a 0 0:=d;exact⟨a,0,rfl,by first|exact Nat.le_refl _|trivial|simp,by simp⟩
  |_=>exact d
theorem Pu{g:St}{d:Nat}{c:List SV}(o:ac g.objs d=some (.box c))(i:g.ro.contains d=false):cJ g {g with objs:=put g.objs d (.box (c.map TS)) }:=by
 rintro w0 v M a w ⟨S,x,y,h⟩;obtain⟨b,vs,p,fr,q,l,f,m,n⟩:=h.objs d _ o
 have s:=h.write (id:=d) (x':=.box (c.map TS)) (w':=w) o q (vs:=vs) (e:=p) (fr:=fr) ⟨rfl,rfl,rfl,rfl,fun _ _=>rfl,f,fun _ _ h=>h⟩ (by
  intro u;have:g.ro.contains d=true:=by simpa using u
  rw[this]at i;cases i) (.inl ⟨_,_,rfl,rfl⟩) ⟨b,vs,p,fr,rfl,l,f,m,Pt n⟩
 exact⟨S,_,_,s⟩
end Go.Vs.Y.Rc
namespace Go.Vs.Y.Rc
open Go.Proofs Go.Vs.U8 Go.Vs.Pa Go.Vs.Cv Go.Vs.Mo Go.Vs.Nu Go.Lib
def bz:List SV:=[.val (.int .u8 0),.val (.int .i64 0),.val (.int .i64 0),.val (.int .u8 0),.val (.int .i64 0),.nils,.nils,.nils,.nils,.nils,.nils,.nils,.nils,.nils,.val (.int .i64 0)]
theorem xH:Zv.iv=.agg [.int .u8 0,.int .i64 0,.int .i64 0,.int .u8 0,.int .i64 0,.slice [],.slice [],.slice [],.slice [],.slice [],.slice [],.slice [],.slice [],.slice [],.int .i64 0]:=rfl
theorem afN(a:List Nat){k:Nat}(h:k<14):(wbs a).take k++.val (.bool true)::(wbs a).drop (k+1)=wbs (k::a):=by
 rw[<-afL a h,List.set_eq_take_append_cons_drop,if_pos (by rw[Jj];exact h)]
theorem Jk(x:Ru):wj [(1000,4)] (dX x)=dX x:=rfl
theorem ac3(x:Str)(h:qB.idxOf x<qB.length):S8 qB x=(qB.idxOf x:Nat):=Tp h (List.getElem_idxOf h) (fun a=>by
 rw[List.mem_take_iff_getElem]at a;obtain⟨j,b,e⟩:=a;have:=List.not_of_lt_findIdx (p:=(· == x)) (xs:=qB) (i:=j) (by show j<qB.idxOf x;omega)
 simp[e]at this)
structure PSt where
 i:Nat
 a:Nat
 was:List Nat
 r:Ru
theorem Wn(s:Str)(hs:s.length<90000):Fn G2 T_ 96 [.str s] (ZJ (iY s)):=by
 refine ae hm Lr (by simp) ?_;have H:=up (zl s 59 (by omega));obtain⟨R,N⟩:=A_ (iY s);rw[N];unfold iY at N;have B:=GJ 59 s.length s (Nat.le_refl _);obtain⟨P,hP⟩:=A_ (parts 59 s);rw[hP]at N H B
 have b':P.length<=s.length+1:=by
  have:∀l:List Str,l.length<=Wg l:=fun l=>by
   induction l with
   |nil=>simp
   |cons x l ih=>rw[AR,List.length_cons];omega
  have:=this P;omega
 simp[C2,afB];refine aa H ?_;simp(disch:=omega)[wl,bO]
 refine Hs hm (fun x:PSt=>⟨[(21,.val (.int .i64 x.i)),(20,.val (.int .i64 P.length)),(19,.val (.slice (ts P))),(6,.val (.int .i64 x.a)),(5,.loc 5 0),(4,.loc 4 0),(3,.val .nili),(2,.loc 2 0),(0,.val (.str s))],[(5,.box (wbs x.was)),(4,.box (dX x.r)),(2,.box bz)],[],107,G2⟩)
  (fun x=>x.i<=P.length/\x.a+Wg (P.drop x.i)=s.length+1/\fj s.length (P.drop x.i) x.a x.was x.r=R/\Fin x.r) (fun x=>P.length-x.i) ⟨0,0,[],Xw⟩ ⟨by simp,by simpa using B,by simpa using N,⟨by simp[Do,Xw],by simp[Xw],by simp[Xw]⟩⟩ ?_ (fun _=>rfl) ?_
 .exact cJ.trans (Pu (d:=4) rfl rfl) (an rfl rfl (by simp[bj,aE,ac]) (by simp[bZ,ac,put,dX,TS,Xw,afM,afB,bz,is,B4]) (by simp[bX]))
 rintro⟨i,a,g,r⟩ ⟨h1,S,b,D⟩;simp only at h1 S b D;simp[bz];by_cases h:i<P.length
 .obtain⟨p,hp⟩:=A_ (P[i]);have hg:=xt h hp;rw[List.drop_eq_getElem_cons h,hp]at S b;rw[AR]at S;have n:=aib p (by omega);unfold acJ at n;by_cases o:(61:UInt8)∈p
  .rw[if_pos o]at n;have U:=List.idxOf_lt_length_iff.2 o;have O:=Ps (p.take (p.idxOf 61));simp only[fj]at b;rw[if_neg (by simpa using o)]at b;have hN:p.take (p.idxOf 61)=tH p:=rfl;have hV:p.drop (p.idxOf 61+1)=pq p:=rfl;rw[hN]at n O;rw[hV]at n;have u:(tH p).length=p.idxOf 61:=by rw[<-hN,List.length_take];omega
   obtain⟨I,J⟩:=A_ (p.idxOf 61);rw[J]at u U;have z:(pq p).length<1000000:=by rw[<-hV,List.length_drop];omega
   simp(disch:=omega)[wl,bO,hg];refine aa n ?_;simp(disch:=omega)[wl];refine aa O ?_;by_cases K:qE p<14
   .have F:S8 qB (tH p)=(qE p:Nat):=ac3 _ K;rw[if_neg (by omega)]at b;obtain⟨k,L⟩:=A_ (qE p);rw[F,L];rw[L]at b K;have V:=Ji g K;have W:=afN g K;simp(disch:=omega)[wl,V];by_cases A:k∈g
    .rw[if_pos A]at b;subst b;have c:=up (gQ 19 a);rw[if_neg (by omega)]at c;simp(disch:=omega)[wl,A];refine⟨by omega,?_⟩;refine aa c ?_;simp(disch:=omega)[wl,ZJ,xH]
    rw[if_neg A]at b;have c':=Jj g;simp(disch:=omega)[wl,A,W];refine⟨by omega,by omega,?_⟩;by_cases d':4<=k
    .by_cases j:k<=12
     .have C:k∈bq:=by simp[bq];omega
      by_cases X:k=7
      .subst X;rw[ag0]at b;have m:=R7 r (pq p) z;obtain⟨E,M⟩:=A_ (cS tw (pq p));rw[M]at m b;simp(disch:=omega)[wl];refine callM [(1000,4)] [] m rfl rfl ⟨rfl,trivial⟩ ⟨rfl,[],[],rfl,⟨[],[],rfl,rfl,rfl⟩,rfl⟩ rfl ?_;cases E with
       |ok l=>
        have j:=xG M;simp only at b;simp(disch:=omega)[wl,zU,Dp];refine aj ⟨i+1,a+p.length+1,7::g,{r with l7:=l }⟩ ⟨by simp only;omega,by simp only;omega,b,ac2 j D⟩ (by simp only;omega) ?_;simp[bz,Jk];exact an rfl rfl (by simp[bj,aE,ac];omega) (by simp[bZ,ac]) (by simp[bX])
       |no e q=>
        simp only at b;rw[J]at b;subst b;have v:=up (agU e [(q:Int)] ((a:Int)+((tH p).length:Int)+1));simp only[dD]at v;simp(disch:=omega)[wl,zU,dD];refine aa v ?_;simp(disch:=omega)[wl,ZJ,xH,dD,u]
      rw[agZ r k C X]at b;have m:=R6 r k C X (pq p) z;obtain⟨E,M⟩:=A_ (cS (dT 5 (Nt k) (L7 k) (TF k)) (pq p));rw[M]at m b;simp(disch:=omega)[wl];refine callM [(1000,4)] [] m rfl rfl ⟨rfl,trivial⟩ ⟨rfl,[],[],rfl,⟨[],[],rfl,rfl,rfl⟩,rfl⟩ rfl ?_;cases E with
      |ok l=>
       have j:=xG M;simp only at b;simp(disch:=omega)[wl,zU,Dp];refine aj ⟨i+1,a+p.length+1,k::g,o6 r k l⟩ ⟨by simp only;omega,by simp only;omega,b,ac1 j D⟩ (by simp only;omega) ?_;simp[bz,Jk];exact an rfl rfl (by simp[bj,aE,ac];omega) (by simp[bZ,ac]) (by simp[bX])
      |no e q=>
       simp only at b;rw[J]at b;subst b;have v:=up (agU e [(q:Int)] ((a:Int)+((tH p).length:Int)+1));simp only[dD]at v;simp(disch:=omega)[wl,zU,dD];refine aa v ?_;simp(disch:=omega)[wl,ZJ,xH,dD,u]
     skip;have w:k=0\/k=1\/k=2\/k=3\/k=13:=by omega
     rw[acZ r k w]at b;have m:=fnM_take r k w (pq p) z;have f:=Wm k (pq p) D;obtain⟨⟨Y,e⟩,hT⟩:=A_ (US r k (pq p));rw[hT]at m b f;simp only at m b f;simp(disch:=omega)[wl];refine callM [(1000,4)] [] m rfl rfl ⟨rfl,trivial⟩ ⟨rfl,[],[],rfl,⟨[],[],rfl,rfl,rfl⟩,rfl⟩ rfl ?_;by_cases e0:e=0
     .rw[if_pos e0]at b;simp only at b;subst e0;simp(disch:=omega)[wl,B6];refine aj ⟨i+1,a+p.length+1,k::g,Y⟩ ⟨by simp only;omega,by simp only;omega,b,f⟩ (by simp only;omega) ?_;simp[bz,Jk];exact an rfl rfl (by simp[bj,aE,ac];omega) (by simp[bZ,ac]) (by simp[bX])
     rw[if_neg e0]at b;simp only at b;rw[J]at b;subst b;have y:=up (AM e [0]);have c:=up (gQ e ((a:Int)+((tH p).length:Int)+1));rw[if_neg e0]at c;simp only[dD]at y c;simp(disch:=omega)[wl,B6,e0,dD];refine aa y ?_;simp(disch:=omega)[wl];refine aa c ?_;simp(disch:=omega)[wl,ZJ,xH,dD,u]
    skip;have w:k=0\/k=1\/k=2\/k=3\/k=13:=by omega
    rw[acZ r k w]at b;have m:=fnM_take r k w (pq p) z;have f:=Wm k (pq p) D;obtain⟨⟨Y,e⟩,hT⟩:=A_ (US r k (pq p));rw[hT]at m b f;simp only at m b f;simp(disch:=omega)[wl];refine callM [(1000,4)] [] m rfl rfl ⟨rfl,trivial⟩ ⟨rfl,[],[],rfl,⟨[],[],rfl,rfl,rfl⟩,rfl⟩ rfl ?_;by_cases e0:e=0
    .rw[if_pos e0]at b;simp only at b;subst e0;simp(disch:=omega)[wl,B6];refine aj ⟨i+1,a+p.length+1,k::g,Y⟩ ⟨by simp only;omega,by simp only;omega,b,f⟩ (by simp only;omega) ?_;simp[bz,Jk];exact an rfl rfl (by simp[bj,aE,ac];omega) (by simp[bZ,ac]) (by simp[bX])
    rw[if_neg e0]at b;simp only at b;rw[J]at b;subst b;have y:=up (AM e [0]);have c:=up (gQ e ((a:Int)+((tH p).length:Int)+1));rw[if_neg e0]at c;simp only[dD]at y c;simp(disch:=omega)[wl,B6,e0,dD];refine aa y ?_;simp(disch:=omega)[wl];refine aa c ?_;simp(disch:=omega)[wl,ZJ,xH,dD,u]
   have F:S8 qB (tH p) = -1:=Tq (fun Z=>K (List.idxOf_lt_length_iff.2 Z));rw[if_pos (by omega)]at b;subst b;rw[F];have c:=up (gQ 11 a);rw[if_neg (by omega)]at c;simp(disch:=omega)[wl];refine aa c ?_;simp(disch:=omega)[wl,ZJ,xH]
  rw[if_neg o]at n;have O:=Ps p;simp only[fj]at b;rw[if_pos o]at b;subst b;have c:=up (gQ 4 a);rw[if_neg (by omega)]at c;simp(disch:=omega)[wl,bO,hg];refine aa n ?_;simp(disch:=omega)[wl];refine aa O ?_;simp(disch:=omega)[wl];refine aa c ?_;simp(disch:=omega)[wl,ZJ,xH]
 obtain rfl:i=P.length:=by omega
 rw[List.drop_length]at b;simp only[fj,Nw]at b;have n:=wF r D.1 D.2.1;have a':=Ji g (k:=0) (by omega);obtain⟨e,he⟩:=A_ (cT r);rw[he]at n b;unfold Ru.iv cells at n;simp(disch:=omega)[wl,bO,a'];by_cases Q:0∈g
 .rw[if_pos Q]at b;simp(disch:=omega)[wl,Q,dX];refine aa n ?_;by_cases e0:e=0
  .rw[if_pos e0]at b;subst b;simp(disch:=omega)[wl,e0,ZJ,Ru.iv,cells]
  rw[if_neg e0]at b;subst b;have c:=up (gQ e s.length);rw[if_neg e0]at c;simp(disch:=omega)[wl,e0];refine aa c ?_;simp(disch:=omega)[wl,ZJ,xH]
 rw[if_neg Q]at b;subst b;have c:=up (gQ 6 s.length);rw[if_neg (by omega)]at c;simp(disch:=omega)[wl,Q];refine aa c ?_;simp(disch:=omega)[wl,ZJ,xH]
end Go.Vs.Y.Rc
