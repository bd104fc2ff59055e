/- A part of a proof. No conditions. -/
import Derived.Test.YtnhbiolfmeeniaaGreatDoorVBz
import Derived.Test.YtnhbiolfmeeniaaGreatDoorBZz
set_option linter.all false
set_option maxRecDepth 100000
set_option maxHeartbeats 16000000
namespace Go.Vs.Y
open Go.Proofs
def jl:VCode:=Q_ 3 [.X 0,.X 1,.X 2,.K (.const (.val .nilf))] (R_ 7 7 [.g (.mkFunc 274 [tm 3,tm 4,tm 5]),.a 6] .ret)
theorem p9:FnOk T_ 254 jl [.tmp 6] 8:=fK_ Tryz.func254
def jx:VCode:=Q_ 1 [.X 0,.K (.const (.val .nilf))] (R_ 3 3 [.g (.mkFunc 283 [tm 1]),.a 2] .ret)
theorem pU:FnOk T_ 275 jx [.tmp 2] 4:=fK_ Tryz.func275
def pc:VCode:=.seq (G_ 6 [.F 1 1,.l,.n 0] [6,6] (.block 0 (.loop (Q_ 9 [.g (.bin .lss (tm 8) (tm 7))] (.seq (c_ 9 .skip (.exit 0)) (.seq (.block 1 (R_ 10 10 [.m 8,.a 3] (C_ 11 13 [.m 0,.m 3,.g (.callV (tm 11) [tm 12]),.u] .ret .skip))) (X_ 15 15 [.g (.bin .add (tm 8) (ci 1)),.a 8]))))))) (G_ 16 [.F 0 1,.l,.v,.n 0] [16,16] (.block 2 (.loop (Q_ 20 [.g (.bin .lss (tm 19) (tm 18))] (.seq (c_ 20 .skip (.exit 2)) (.seq (.block 3 (R_ 21 22 [.g (.indexAddr 1 (tm 17) (tm 19)),.l,.a 5] (C_ 23 25 [.m 0,.m 5,.g (.callV (tm 23) [tm 24]),.u] .ret .skip))) (X_ 27 27 [.g (.bin .add (tm 19) (ci 1)),.a 19])))))))
theorem iE:FnOk T_ 283 pc [] 28:=fK_ Tryz.func283
end Go.Vs.Y
namespace Go.Vs.Y.Vt
open Go.Proofs Go.Vs.U8 Go.Vs.Pa Go.Vs.Nu
def xN(b:List Int)(a:Nat):List IV:=[.slice (b.map fun n=>[.int .i64 n]),.int .i64 a]
def UT(b:List Int)(a:Nat)(i:Nat):Int:=if i<a then i else b.getD (i-a) 0
def eA(l:Nat)(d:List Int)(a i:Nat)(b:List (Nat×SV)):St:=⟨[(0,.val (.yld l)),(1,.val (.ref (xN d a))),(7,.val (.int .i64 a)),(8,.val (.int .i64 i))]++b,[],[],28,[]⟩
def eB(l:Nat)(b:List Int)(d i:Nat)(a:List (Nat×SV)):St:=⟨[(0,.val (.yld l)),(17,.val (.slice (b.map fun n=>[.int .i64 n]))),(18,.val (.int .i64 b.length)),(19,.val (.int .i64 i))]++a,[],[],28,[]⟩
theorem GY(f:List Int)(d:Nat)(h1:d<=1000)(h2:f.length<=1000):VG T_ 283 [.ref (xN f d)] (d+f.length) (fun i=>.int .i64 (UT f d i)):=by
 intro W S vs hS s l J Z W1 hk hs hZ k z h0;obtain⟨H,c,hf,I,u,v,s',g,K⟩:=iE.ok;obtain⟨cA,cB,rfl,hA,hB⟩:=Gm v;obtain⟨u',v',rfl,L,M⟩:=Gm hA;obtain⟨cL,rfl,hL⟩:=Qs M;obtain⟨w',rfl,O⟩:=agO hL;obtain⟨a1,a2,rfl,P,Q⟩:=Gm O;obtain⟨a3,a4,rfl,A,R⟩:=Gm Q;obtain⟨a5,a6,rfl,U,V⟩:=Gm R;obtain⟨a7,rfl,X⟩:=Qs U;obtain⟨a8,a9,rfl,Y,a'⟩:=Gm X;obtain⟨aY,aR,rfl,b',c'⟩:=Gm a';obtain⟨ia,oa,rfl,B⟩:=ahL b';obtain⟨x',y',rfl,d',e'⟩:=Gm hB;obtain⟨cM,rfl,hM⟩:=Qs e';obtain⟨z',rfl,f'⟩:=agO hM;obtain⟨b1,b2,rfl,g',h'⟩:=Gm f';obtain⟨b3,b4,rfl,C,i'⟩:=Gm h';obtain⟨b5,b6,rfl,j',k'⟩:=Gm i';obtain⟨b7,rfl,m'⟩:=Qs j';obtain⟨b8,b9,rfl,n',o'⟩:=Gm m';obtain⟨bY,bR,rfl,p',q'⟩:=Gm o';obtain⟨ib,ob,rfl,D⟩:=ahL p'
 have w:br W1 S [.yld l,.ref (xN f d)] ((#[Value.func (.yield l) #[] #[]]++vs).toList):=by
  refine⟨Value.func (.yield l) #[] #[],vs.toList,by simp,rfl,?_⟩;exact br.mono hk (fun _ _ x=>x) _ _ s
 have t':=br.length s;have j:∀b o,S b o->b<W1.heap.size:=fun b o E=>Nat.lt_of_lt_of_le (hS b o E) hs
 obtain⟨S',A',B',y⟩:=aet (gl:=[]) (n:=28) j w (by simp) (by simp);refine calls_of_wp hf u ((wpIn_wide (n:=0)).1 ?_);have hw:Fence.wide=dr none:=rfl;rw[hw,K]
 have A0:=At.base (S0:=S) (J:=J) (p:=0) h0 hZ (uq.of y rfl rfl) (fun b o E=>by
  rcases y.back b o E with q|q|q
  .exact .inl q
  .have:=y.stab b o E;omega
  exact q.elim)
 refine wpIn_seq (wpIn_seq (wpIn_mono (A0.does k j (dt hm _ L (e:=.normal) (σ1:=eA l f d 0 []) ?_)) ?_))
 .simp[eA,xN];exact bA
 rintro e a W2 ⟨rfl,k1⟩;refine wpIn_block (wpIn_mono (At.loop (ex:=0) (N:=d) (q:=0) (elem:=fun i=>(i:Int)) (σL:=fun i=>eA l f d i []) (σ1:=fun i=>eA l f d i [(9,.val (.bool (decide ((i:Int)<d))))]) (σ2:=fun i=>eA l f d i [(3,.val (.int .i64 i))]) (σ3:=fun i=>eA l f d i [(14,.val (.bool false))]) k z j (by omega) ?_ (fun i h=>dt hm _ P ?_) (fun i h=>dt hm _ A ?_) (dt hm _ A ?_) (fun i h=>dt hm _ Y ?_) (fun i h=>⟨[o1 11 (.move (tm 0)),o1 12 (.move (tm 3))],[o1 14 (.un (.not) (tm 13))],o1 13 (.callV (tm 11) [tm 12]),tm 11,tm 12,13,⟨(12,.val (.int .i64 i))::(11,.val (.yld l))::(eA l f d i [(3,.val (.int .i64 i))]).env,[],[],28,[]⟩,B,uG B rfl,rfl,rfl,rfl,.inl rfl,?_,rfl,rfl,rfl,?_,rfl⟩) (fun i h=>dt hm _ c' ?_) (fun i h=>dt hm _ V ?_) k1) ?_)
 .intro i h;simp[UT,h]
 .simp[eA,xN];exact bA
 .have:(i:Int)<d:=by omega
  simp[eA,xN,this];exact bA
 .simp[eA,xN];exact bA
 .simp[eA,xN];exact bA
 .simp[eA,xN]
 .simp[eA,xN];exact bA
 .simp[eA,xN];exact bA
 .have:IntKind.i64.wrap ((i:Int)+1)=i+1:=wrap_i64 (by omega) (by omega);simp[eA,xN,this];exact bA
 rintro e a2 W3 ⟨rfl,k2⟩;simp only[Exit.inBlock,if_true,Exit.then];refine wpIn_seq (wpIn_mono (k2.does k j (dt hm _ d' (e:=.normal) (σ1:=eB l f d 0 []) ?_)) ?_)
 .simp[eA,eB,xN];exact bA
 rintro e a3 W4 ⟨rfl,k3⟩;rw[Nat.zero_add]at k3
 have hg:∀i,i<f.length->(f.map fun n=>[(IV.int .i64 n)])[i]?=some [.int .i64 (f.getD i 0)]:=fun i h=>by
  simp[List.getD,List.getElem?_eq_getElem h]
 refine wpIn_block (wpIn_mono (At.loop (ex:=2) (N:=f.length) (q:=d) (elem:=fun i=>f.getD i 0) (σL:=fun i=>eB l f d i []) (σ1:=fun i=>eB l f d i [(20,.val (.bool (decide ((i:Int)<f.length))))]) (σ2:=fun i=>eB l f d i [(5,.val (.int .i64 (f.getD i 0)))]) (σ3:=fun i=>eB l f d i [(26,.val (.bool false))]) k z j (by omega) ?_ (fun i h=>dt hm _ g' ?_) (fun i h=>dt hm _ C ?_) (dt hm _ C ?_) (fun i h=>dt hm _ n' ?_) (fun i h=>⟨[o1 23 (.move (tm 0)),o1 24 (.move (tm 5))],[o1 26 (.un (.not) (tm 25))],o1 25 (.callV (tm 23) [tm 24]),tm 23,tm 24,25,⟨(24,.val (.int .i64 (f.getD i 0)))::(23,.val (.yld l))::(eB l f d i [(5,.val (.int .i64 (f.getD i 0)))]).env,[],[],28,[]⟩,D,uG D rfl,rfl,rfl,rfl,.inl rfl,?_,rfl,rfl,rfl,?_,rfl⟩) (fun i h=>dt hm _ q' ?_) (fun i h=>dt hm _ k' ?_) k3) ?_)
 .intro i h;have:¬d+i<d:=by omega
  simp[UT];omega
 .simp[eB];exact bA
 .have:(i:Int)<f.length:=by omega
  simp[eB,this];exact bA
 .simp[eB];exact bA
 .have:=hg i h;simp(disch:=omega)[wl,eB,this];exact bA
 .simp[eB]
 .simp[eB];exact bA
 .simp[eB];exact bA
 .have:IntKind.i64.wrap ((i:Int)+1)=i+1:=wrap_i64 (by omega) (by omega);simp[eB,this];exact bA
 rintro e a4 W5 ⟨rfl,Z5,S5,g1,g2,g3,g4,g5,g6,g7⟩;simp only[Exit.inBlock,if_true]
 have r':H.results = #[]:=by
  have:H.results.toList=[]:=by
   cases hl:H.results.toList with
   |nil=>rfl
   |cons x r=>
    rw[hl]at g;cases x with
    |tmp t=>simp[cw]at g
    |cell t ty=>
     simp only[cw]at g;split at g<;>simp[]at g
  exact Array.toList_inj.1 this
 exact⟨g3.2.defers,_,results_none r' _ _ _,⟨_,rfl⟩,Z5,g1⟩
theorem Rx{d:List (Nat×List IV)}(b:List Int)(a:Nat):Fn d T_ 275 [.agg (xN b a)] (.fn 283 [.ref (xN b a)]):=by
 refine ae hm pU (by simp) ?_;simp[jx,xN]
def nW1:Nat:=274
def w0:VCode:=rt [o1 4 (.box (tm 0))] []
def w1:VCode:=rt [o1 9 (.fieldAddr 0 (tm 1)),o1 10 (.load (some 2) (tm 9)),o1 11 (.call 275 [tm 10])] [9,10]
def wa1:VCode:=rt [o1 5 (.alloc [.val (.int .i64 0)]),o3 (.store 1 (tm 5) (tm 12))] []
def w3:VCode:=rt [o1 13 (.load none (tm 5)),o1 14 (.bin .add (tm 13) (ci 1)),o1 15 (.bin .mul (tm 14) (ci 3600)),o1 16 (.load none (tm 2)),o1 17 (.bin .leq (tm 15) (tm 16)),o1 18 (.move (tm 17)),o2 19 (.load none (tm 5)) 18 false,o2 20 (.bin .mul (tm 19) (ci 3600)) 18 false,o2 21 (.load none (tm 3)) 18 false,o2 22 (.bin .geq (tm 20) (tm 21)) 18 false,o1 23 (.pick (tm 18) (cb true) (tm 22))] []
def w3c:VCode:=.cond (tm 23) (.exit 1) .skip
def w4:VCode:=rt [o1 24 (.fieldAddr 2 (tm 1)),o1 25 (.load (some 2) (tm 24)),o1 26 (.call 275 [tm 25])] [24,25]
def wa2:VCode:=rt [o1 6 (.alloc [.val (.int .i64 0)]),o3 (.store 1 (tm 6) (tm 27))] []
def w6:VCode:=rt [o1 28 (.fieldAddr 4 (tm 1)),o1 29 (.load (some 2) (tm 28)),o1 30 (.call 275 [tm 29])] [28,29]
def wa3:VCode:=rt [o1 7 (.move (tm 31))] []
def w8:VCode:=rt [o1 32 (.load none (tm 5)),o1 33 (.bin .mul (tm 32) (ci 3600)),o1 34 (.load none (tm 6)),o1 35 (.bin .mul (tm 34) (ci 60)),o1 36 (.bin .add (tm 33) (tm 35)),o1 37 (.move (tm 7)),o1 38 (.bin .add (tm 36) (tm 37)),o1 8 (.move (tm 38))] [32,38]
def PE:List VOper:=[o1 39 (.move (tm 8)),o1 40 (.load none (tm 2)),o1 41 (.bin .geq (tm 39) (tm 40)),o1 42 (.move (tm 41)),o2 43 (.move (tm 8)) 42 true,o2 44 (.load none (tm 3)) 42 true,o2 45 (.bin .lss (tm 43) (tm 44)) 42 true,o1 46 (.pick (tm 42) (tm 45) (cb false)),o1 47 (.move (tm 46)),o2 48 (.load none (tm 4)) 47 true,o2 49 (.move (tm 8)) 47 true]
def w9y:VOper:=o2 50 (.callV (tm 48) [tm 49]) 47 true
def GZ:List VOper:=[o2 51 (.un .not (tm 50)) 47 true,o1 52 (.pick (tm 47) (tm 51) (cb false))]
def w9:VCode:=rt (PE++w9y::GZ) [39,51]
def w9c:VCode:=.cond (tm 52) .ret .skip
theorem XU:∃a b d e f g h i j k o q,Tryz.f274.body=some (.seq a (.seq b (.block 0 (.rangeFunc (.tmp 11) #[12] d (.block 1 (.seq (.seq e f) (.seq g (.block 2 (.rangeFunc (.tmp 26) #[27] h (.block 3 (.seq i (.block 4 (.rangeFunc (.tmp 30) #[31] j (.block 5 (.seq k (.seq o q))))))))))))))))/\
  comp T_ a=some w0.strip/\comp T_ b=some w1.strip/\comp T_ d=some wa1.strip/\comp T_ e=some w3.strip/\comp T_ f=some w3c.strip/\comp T_ g=some w4.strip/\comp T_ h=some wa2.strip/\comp T_ i=some w6.strip/\comp T_ j=some wa3.strip/\comp T_ k=some w8.strip/\comp T_ o=some w9.strip/\comp T_ q=some w9c.strip:=
 ⟨_,_,_,_,_,_,_,_,_,_,_,_,rfl,by kernel_rfl,by kernel_rfl,by kernel_rfl,by kernel_rfl,by kernel_rfl,by kernel_rfl,by kernel_rfl,by kernel_rfl,by kernel_rfl,by kernel_rfl,by kernel_rfl,by kernel_rfl⟩
end Go.Vs.Y.Vt
namespace Go.Vs.Y.Vt
open Go.Proofs Go.Vs.U8 Go.Vs.Pa Go.Vs.Nu
def u9(a:List Int)(all:Nat):List Int:=(List.range all).map (fun i:Nat=>(i:Int))++a
theorem XV(b:List Int)(a:Nat):(u9 b a).length=a+b.length:=by simp[u9]
theorem Jt{b:List Int}{a i:Nat}(h:i<a+b.length):(u9 b a)[i]?=some (UT b a i):=by
 unfold u9 UT;by_cases d:i<a
 .rw[List.getElem?_append_left (by simpa using d),if_pos d];simp[d]
 rw[List.getElem?_append_right (by simp;omega),if_neg d];have:i-a<b.length:=by omega
 simp[List.getD,List.getElem?_eq_getElem this]
theorem LY{b:List Int}{a i:Nat}(h:i<a+b.length):(u9 b a).take (i+1)=(u9 b a).take i++[UT b a i]:=by
 rw[List.take_add_one,Jt h];rfl
theorem Ry(b:List Int)(a:Nat):(u9 b a).take (a+b.length)=u9 b a:=by rw[List.take_of_length_le (by rw[XV];omega)]
structure Tm where
 h:List Int
 ah:Nat
 m:List Int
 am:Nat
 s:List Int
 as':Nat
 fr:Int
 to:Int
def Wy(x:Tm)(t:Int):Bool:=decide (x.fr<=t)&&decide (t<x.to)
def sT(x:Tm)(h m:Int):List Int:=((u9 x.s x.as').map fun s=>h*3600+m*60+s).filter (Wy x)
def mT(x:Tm)(h:Int):List Int:=(u9 x.m x.am).flatMap (sT x h)
def hT(x:Tm)(h:Int):List Int:=if (h+1)*3600<=x.fr\/x.to<=h*3600 then []else mT x h
def i6(x:Tm):List Int:=(u9 x.h x.ah).flatMap (hT x)
def Tm.cells(x:Tm):List IV:=xN x.h x.ah++(xN x.m x.am++xN x.s x.as')
structure FitT(x:Tm):Prop where
 n1:x.ah<=1000
 n2:x.am<=1000
 n3:x.as'<=1000
 l1:x.h.length<=1000
 l2:x.m.length<=1000
 l3:x.s.length<=1000
 h:∀n∈u9 x.h x.ah,0<=n/\n<=10000
 m:∀n∈u9 x.m x.am,0<=n/\n<=10000
 s:∀n∈u9 x.s x.as',0<=n/\n<=10000
 fr:0<=x.fr/\x.fr<=100000
 to:0<=x.to/\x.to<=100000
def eW(x:Tm)(l:Nat)(a:List (Nat×SV)):St:=⟨[(1,.val (.ref x.cells)),(2,.val (.ref [.int .i64 x.fr])),(3,.val (.ref [.int .i64 x.to])),(4,.val (.ref [.yld l]))]++a,[],[],53,[]⟩
section
variable {x:Tm} {l:Nat} {c:Code}
theorem d0(a:comp T_ c=some w0.strip):mo T_ c (st0 [] [.yld l,.ref x.cells,.ref [.int .i64 x.fr],.ref [.int .i64 x.to]] 53) .normal (eW x l []):=by
 refine dt hm _ a ?_;simp[w0,eW];exact cJ.trans (Ef (k:=4) (id:=4) (cells:=[.yld l]) (by simp[aE,ac]) (by simp[ac])) (an rfl rfl (by simp[bj,aE,ac,put]) (by simp[bZ,ac]) (by simp[bX]))
theorem d1(a:comp T_ c=some w1.strip):mo T_ c (eW x l []) .normal (eW x l [(11,.val (.fn 283 [.ref (xN x.h x.ah)]))]):=by
 refine dt hm _ a ?_;simp[w1,eW,Tm.cells,xN];refine aa (Rx x.h x.ah) ?_;simp[xN];exact bA
theorem da1(h:Int)(a:List (Nat×SV))(b:comp T_ c=some wa1.strip):mo T_ c {eW x l a with env:=put (eW x l a).env 12 (.val (.int .i64 h)) } .normal (eW x l [(5,.val (.ref [.int .i64 h]))]):=by
 refine dt hm _ b ?_;simp[wa1,eW];exact cJ.trans (Ef (k:=5) (id:=5) (cells:=[.int .i64 h]) (by simp[aE,ac]) (by simp[ac])) (an rfl rfl (by simp[bj,aE,ac,put]) (by simp[bZ,ac]) (by simp[bX]))
theorem d3(h:Int)(o:FitT x)(s:0<=h/\h<=10000)(i:comp T_ c=some w3.strip):mo T_ c (eW x l [(5,.val (.ref [.int .i64 h]))]) .normal (eW x l [(5,.val (.ref [.int .i64 h])),(23,.val (.bool (decide ((h+1)*3600<=x.fr\/x.to<=h*3600))))]):=by
 have a:IntKind.i64.wrap (h+1)=h+1:=wrap_i64 (by omega) (by omega);have d:IntKind.i64.wrap ((h+1)*3600)=(h+1)*3600:=wrap_i64 (by omega) (by omega);have j:IntKind.i64.wrap (h*3600)=h*3600:=wrap_i64 (by omega) (by omega);refine dt hm _ i ?_;by_cases q:(h+1)*3600<=x.fr
 .simp[w3,eW,a,d,q];exact bA
 simp[w3,eW,a,d,j,q];exact bA
theorem d3c(h:Int)(b:Bool)(a:comp T_ c=some w3c.strip):mo T_ c (eW x l [(5,.val (.ref [.int .i64 h])),(23,.val (.bool b))]) (if b=true then .exit 1 else .normal) (eW x l [(5,.val (.ref [.int .i64 h]))]):=by
 refine dt hm _ a ?_;cases b
 .simp[w3c,eW];exact bA
 simp[w3c,eW];exact bA
theorem d4(h:Int)(a:comp T_ c=some w4.strip):mo T_ c (eW x l [(5,.val (.ref [.int .i64 h]))]) .normal (eW x l [(5,.val (.ref [.int .i64 h])),(26,.val (.fn 283 [.ref (xN x.m x.am)]))]):=by
 refine dt hm _ a ?_;simp[w4,eW,Tm.cells,xN];refine aa (Rx x.m x.am) ?_;simp[xN];exact bA
theorem da2(h m:Int)(v:SV)(a:comp T_ c=some wa2.strip):mo T_ c {eW x l [(5,.val (.ref [.int .i64 h])),(26,v)]with env:=put (eW x l [(5,.val (.ref [.int .i64 h])),(26,v)]).env 27 (.val (.int .i64 m)) } .normal (eW x l [(5,.val (.ref [.int .i64 h])),(6,.val (.ref [.int .i64 m]))]):=by
 refine dt hm _ a ?_;simp[wa2,eW];exact cJ.trans (Ef (k:=6) (id:=6) (cells:=[.int .i64 m]) (by simp[aE,ac]) (by simp[ac])) (an rfl rfl (by simp[bj,aE,ac,put]) (by simp[bZ,ac]) (by simp[bX]))
theorem d6(h m:Int)(a:comp T_ c=some w6.strip):mo T_ c (eW x l [(5,.val (.ref [.int .i64 h])),(6,.val (.ref [.int .i64 m]))]) .normal (eW x l [(5,.val (.ref [.int .i64 h])),(6,.val (.ref [.int .i64 m])),(30,.val (.fn 283 [.ref (xN x.s x.as')]))]):=by
 refine dt hm _ a ?_;simp[w6,eW,Tm.cells,xN];refine aa (Rx x.s x.as') ?_;simp[xN];exact bA
theorem da3(h m s:Int)(v:SV)(a:comp T_ c=some wa3.strip):mo T_ c {eW x l [(5,.val (.ref [.int .i64 h])),(6,.val (.ref [.int .i64 m])),(30,v)]with env:=put (eW x l [(5,.val (.ref [.int .i64 h])),(6,.val (.ref [.int .i64 m])),(30,v)]).env 31 (.val (.int .i64 s)) } .normal (eW x l [(5,.val (.ref [.int .i64 h])),(6,.val (.ref [.int .i64 m])),(7,.val (.int .i64 s))]):=by
 refine dt hm _ a ?_;simp[wa3,eW];exact bA
theorem d8(h m s:Int)(i:0<=h/\h<=10000)(a:0<=m/\m<=10000)(j:0<=s/\s<=10000)(b:comp T_ c=some w8.strip):mo T_ c (eW x l [(5,.val (.ref [.int .i64 h])),(6,.val (.ref [.int .i64 m])),(7,.val (.int .i64 s))]) .normal (eW x l [(8,.val (.int .i64 (h*3600+m*60+s)))]):=by
 have d:IntKind.i64.wrap (h*3600)=h*3600:=wrap_i64 (by omega) (by omega);have e:IntKind.i64.wrap (m*60)=m*60:=wrap_i64 (by omega) (by omega);have f:IntKind.i64.wrap (h*3600+m*60)=h*3600+m*60:=wrap_i64 (by omega) (by omega);have g:IntKind.i64.wrap (h*3600+m*60+s)=h*3600+m*60+s:=wrap_i64 (by omega) (by omega);refine dt hm _ b ?_;simp[w8,eW,d,e,f,g];exact bA
theorem d9(t:Int)(a:Wy x t=false)(b:comp T_ c=some w9.strip):mo T_ c (eW x l [(8,.val (.int .i64 t))]) .normal (eW x l [(52,.val (.bool false))]):=by
 refine dt hm _ b ?_;unfold Wy at a;by_cases q:x.fr<=t
 .have d:¬t<x.to:=fun h=>by simp[q,h]at a
  simp[w9,PE,w9y,GZ,eW,q,d];exact bA
 simp[w9,PE,w9y,GZ,eW,q];exact bA
theorem d9y(t:Int)(a:Wy x t=true){b:Array Oper}(d:cq T_ b b.toList=some (aV (PE++w9y::GZ))):YReg T_ l b t (eW x l [(8,.val (.int .i64 t))]) (eW x l [(52,.val (.bool false))]):=by
 unfold Wy at a;simp only[Bool.and_eq_true,decide_eq_true_eq]at a;obtain⟨e,f⟩:=a;refine⟨PE,GZ,w9y,tm 48,tm 49,50,⟨[(49,.val (.int .i64 t)),(48,.val (.yld l)),(47,.val (.bool true)),(46,.val (.bool true)),(45,.val (.bool true)),(44,.val (.int .i64 x.to)),(43,.val (.int .i64 t)),(42,.val (.bool true)),(41,.val (.bool true)),(40,.val (.int .i64 x.fr)),(39,.val (.int .i64 t))]++(eW x l [(8,.val (.int .i64 t))]).env,[],[],53,[]⟩,d,uG d rfl,rfl,rfl,rfl,.inr ⟨47,rfl,rfl⟩,?_,rfl,rfl,rfl,?_,rfl⟩
 .simp[PE,eW,e,f]
 simp[GZ,eW];exact bA
theorem d9c(a:comp T_ c=some w9c.strip):mo T_ c (eW x l [(52,.val (.bool false))]) .normal (eW x l [(52,.val (.bool false))]):=by
 refine dt hm _ a ?_;simp[w9c,eW];exact bA
end
end Go.Vs.Y.Vt
