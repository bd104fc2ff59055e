/- The code of the seat's functions in the small typed code; printed by a program of the prover's. -/
import Derived.Test.YtcjeehebikeghaaGreatDoorVB
import Derived.Test.YtcjeehebikeghaaGreatDoorBY
set_option linter.unusedVariables false
set_option linter.unusedSimpArgs false
set_option maxRecDepth 100000
set_option maxHeartbeats 16000000
namespace Go.Vs.YtcjeehebikeghaaGreatDoor
open Go.Proofs
def nz:Nat:=345
def dY:Nat:=346
def co:Nat:=374
def ay:Nat:=388
def ii:VCode:=
 r_ [o1 3 (.box (tm 0)),o1 4 (.box (tm 1)),o1 5 (.box (tm 2)),o1 6 (.move (.const (.val (.nilf))))] [] (r_ [o1 7 (.mkFunc 373 [tm 3,tm 4,tm 5]),m_ 6 7] [7,7] (.ret))
def ij:List VRes:=[.tmp 6]
theorem mo:FnOk Tryz.prog dY ii ij 8:=
 ⟨⟨Tryz.f346,_,Tryz.func346,by decide,rfl,by kernel_rfl,by kernel_rfl,by kernel_rfl,rfl⟩⟩

def iz:VCode:=
 r_ [o1 1 (.box (tm 0)),o1 2 (.move (.const (.val (.nilf))))] [] (r_ [o1 3 (.mkFunc ay [tm 1]),m_ 2 3] [3,3] (.ret))
def iA:List VRes:=[.tmp 2]
theorem nh:FnOk Tryz.prog co iz iA 4:=
 ⟨⟨Tryz.f374,_,Tryz.func374,by decide,rfl,by kernel_rfl,by kernel_rfl,by kernel_rfl,rfl⟩⟩

def mq:VCode:=
 .seq (r_ [f_ 6 1 1,l_ 7 6,j_ 8 0] [6,6] (.block 0 (.loop (r_ [b_ 9 .lss 8 7] [] (.seq (c_ 9 (.skip) (.exit 0)) (.seq (.block 1 (r_ [m_ 10 8,m_ 3 10] [10,10] (r_ [m_ 11 0,m_ 12 3,o1 13 (.callV (tm 11) [tm 12]),u_ 14 13] [11,13] (c_ 14 (.ret) (.skip))))) (rt [i_ 15 .add 8 1,m_ 8 15] [15,15]))))))) (r_ [f_ 16 0 1,l_ 17 16,v_ 18 17,j_ 19 0] [16,16] (.block 2 (.loop (r_ [b_ 20 .lss 19 18] [] (.seq (c_ 20 (.skip) (.exit 2)) (.seq (.block 3 (r_ [o1 21 (.indexAddr 1 (tm 17) (tm 19)),l_ 22 21,m_ 5 22] [21,22] (r_ [m_ 23 0,m_ 24 5,o1 25 (.callV (tm 23) [tm 24]),u_ 26 25] [23,25] (c_ 26 (.ret) (.skip))))) (rt [i_ 27 .add 19 1,m_ 19 27] [27,27])))))))
def dL:List VRes:=[]
theorem gB:FnOk Tryz.prog ay mq dL 28:=
 ⟨⟨Tryz.f388,_,Tryz.func388,by decide,rfl,by kernel_rfl,by kernel_rfl,by kernel_rfl,rfl⟩⟩
end Go.Vs.YtcjeehebikeghaaGreatDoor
namespace Go.Vs.YtcjeehebikeghaaGreatDoor.Vt
open Go.Proofs Go.Vs.U8 Go.Vs.Pa Go.Vs.Nu
def um(li:List Int)(all:Nat):List IV:=[.slice (li.map fun n=>[.int .i64 n]),.int .i64 all]
def OG(li:List Int)(all:Nat)(i:Nat):Int:=if i<all then i else li.getD (i-all) 0
def eA(l:Nat)(li:List Int)(all i:Nat)(more:List (Nat×SV)):St:=⟨[(0,.val (.yld l)),(1,.val (.ref (um li all))),(7,.val (.int .i64 all)),(8,.val (.int .i64 i))]++more,[],[],28,[]⟩
def eB(l:Nat)(li:List Int)(all i:Nat)(more:List (Nat×SV)):St:=⟨[(0,.val (.yld l)),(17,.val (.slice (li.map fun n=>[.int .i64 n]))),(18,.val (.int .i64 li.length)),(19,.val (.int .i64 i))]++more,[],[],28,[]⟩
theorem Cl(li:List Int)(all:Nat)(h1:all≤1000)(h2:li.length≤1000):Pt Tryz.prog ay [.ref (um li all)] (all+li.length) (fun i=>.int .i64 (OG li all i)):=by
 intro W S vs hS hrep l J Z W1 hk hs hZ hst hyz h0;obtain⟨fn,c,hf,hname,hbody,hcomp,hbnd,hres,hnt⟩:=gB.ok;obtain⟨cA,cB,rfl,hA,hB⟩:=BO hcomp;obtain⟨cA0,cAL,rfl,hA0,hAL⟩:=BO hA;obtain⟨cL,rfl,hL⟩:=KM hAL;obtain⟨cLb,rfl,hLb⟩:=YN hL;obtain⟨a1,a2,rfl,ha1,ha2⟩:=BO hLb;obtain⟨a3,a4,rfl,ha3,ha4⟩:=BO ha2;obtain⟨a5,a6,rfl,ha5,ha6⟩:=BO ha4;obtain⟨a7,rfl,ha7⟩:=KM ha5;obtain⟨a8,a9,rfl,ha8,ha9⟩:=BO ha7;obtain⟨aY,aR,rfl,haY,haR⟩:=BO ha9;obtain⟨ia,oa,rfl,hoa⟩:=ZO haY;obtain⟨cB0,cBL,rfl,hB0,hBL⟩:=BO hB;obtain⟨cM,rfl,hM⟩:=KM hBL;obtain⟨cMb,rfl,hMb⟩:=YN hM;obtain⟨b1,b2,rfl,hb1,hb2⟩:=BO hMb;obtain⟨b3,b4,rfl,hb3,hb4⟩:=BO hb2;obtain⟨b5,b6,rfl,hb5,hb6⟩:=BO hb4;obtain⟨b7,rfl,hb7⟩:=KM hb5;obtain⟨b8,b9,rfl,hb8,hb9⟩:=BO hb7;obtain⟨bY,bR,rfl,hbY,hbR⟩:=BO hb9;obtain⟨ib,ob,rfl,hob⟩:=ZO hbY
 have hrep1:bp W1 S [.yld l,.ref (um li all)] ((#[Value.func (.yield l) #[] #[]]++vs).toList):=by
  refine⟨Value.func (.yield l) #[] #[],vs.toList,by simp,rfl,?_⟩;exact bp.mono hk (fun _ _ x=>x) _ _ hrep
 have hlen:=bp.length hrep;have hS1:∀b o,S b o→b<W1.heap.size:=fun b o hb=>Nat.lt_of_lt_of_le (hS b o hb) hs
 obtain⟨S',μ',β',hs0⟩:=WP (gl:=[]) (n:=28) hS1 hrep1 (by simp) (by simp);refine calls_of_wp hf hbody ((wpIn_wide (n:=0)).1 ?_);have hw:Fence.wide=d7 none:=rfl;rw[hw,hnt]
 have A0:=At.base (S0:=S) (J:=J) (p:=0) h0 hZ (ql.of hs0 rfl rfl) (fun b o hb=>by
  rcases hs0.back b o hb with q|q|q
  ·exact .inl q
  ·have:=hs0.stab b o hb;omega
  ·exact q.elim)
 refine wpIn_seq (wpIn_seq (wpIn_mono (A0.does hst hS1 (di hm _ hA0 (e:=.normal) (σ1:=eA l li all 0 []) ?_)) ?_))
 ·simp[eA,um];exact bT
 rintro e a W2 ⟨rfl,k1⟩;refine wpIn_block (wpIn_mono (At.loop (ex:=0) (N:=all) (q:=0) (elem:=fun i=>(i:Int)) (σL:=fun i=>eA l li all i []) (σ1:=fun i=>eA l li all i [(9,.val (.bool (decide ((i:Int)<all))))]) (σ2:=fun i=>eA l li all i [(3,.val (.int .i64 i))]) (σ3:=fun i=>eA l li all i [(14,.val (.bool false))]) hst hyz hS1 (by omega) ?_ (fun i hi=>di hm _ ha1 ?_) (fun i hi=>di hm _ ha3 ?_) (di hm _ ha3 ?_) (fun i hi=>di hm _ ha8 ?_) (fun i hi=>⟨[m_ 11 0,m_ 12 3],[u_ 14 13],o1 13 (.callV (tm 11) [tm 12]),tm 11,tm 12,13,⟨(12,.val (.int .i64 i))::(11,.val (.yld l))::(eA l li all i [(3,.val (.int .i64 i))]).env,[],[],28,[]⟩,hoa,qC hoa rfl,rfl,rfl,rfl,.inl rfl,?_,rfl,rfl,rfl,?_,rfl⟩) (fun i hi=>di hm _ haR ?_) (fun i hi=>di hm _ ha6 ?_) k1) ?_)
 ·intro i hi;simp[OG,hi]
 ·simp[eA,um];exact bT
 ·have:(i:Int)<all:=by omega
  simp[eA,um,this];exact bT
 ·simp[eA,um];exact bT
 ·simp[eA,um];exact bT
 ·simp[eA,um]
 ·simp[eA,um];exact bT
 ·simp[eA,um];exact bT
 ·have:IntKind.i64.wrap ((i:Int)+1)=i+1:=wrap_i64 (by omega) (by omega);simp[eA,um,this];exact bT
 rintro e a2 W3 ⟨rfl,k2⟩;simp only[Exit.inBlock,if_true,Exit.then];refine wpIn_seq (wpIn_mono (k2.does hst hS1 (di hm _ hB0 (e:=.normal) (σ1:=eB l li all 0 []) ?_)) ?_)
 ·simp[eA,eB,um];exact bT
 rintro e a3 W4 ⟨rfl,k3⟩;rw[Nat.zero_add]at k3
 have hg:∀i,i<li.length→(li.map fun n=>[(IV.int .i64 n)])[i]?=some [.int .i64 (li.getD i 0)]:=fun i hi=>by
  simp[List.getD,List.getElem?_eq_getElem hi]
 refine wpIn_block (wpIn_mono (At.loop (ex:=2) (N:=li.length) (q:=all) (elem:=fun i=>li.getD i 0) (σL:=fun i=>eB l li all i []) (σ1:=fun i=>eB l li all i [(20,.val (.bool (decide ((i:Int)<li.length))))]) (σ2:=fun i=>eB l li all i [(5,.val (.int .i64 (li.getD i 0)))]) (σ3:=fun i=>eB l li all i [(26,.val (.bool false))]) hst hyz hS1 (by omega) ?_ (fun i hi=>di hm _ hb1 ?_) (fun i hi=>di hm _ hb3 ?_) (di hm _ hb3 ?_) (fun i hi=>di hm _ hb8 ?_) (fun i hi=>⟨[m_ 23 0,m_ 24 5],[u_ 26 25],o1 25 (.callV (tm 23) [tm 24]),tm 23,tm 24,25,⟨(24,.val (.int .i64 (li.getD i 0)))::(23,.val (.yld l))::(eB l li all i [(5,.val (.int .i64 (li.getD i 0)))]).env,[],[],28,[]⟩,hob,qC hob rfl,rfl,rfl,rfl,.inl rfl,?_,rfl,rfl,rfl,?_,rfl⟩) (fun i hi=>di hm _ hbR ?_) (fun i hi=>di hm _ hb6 ?_) k3) ?_)
 ·intro i hi;have:¬all+i<all:=by omega
  simp[OG];omega
 ·simp[eB];exact bT
 ·have:(i:Int)<li.length:=by omega
  simp[eB,this];exact bT
 ·simp[eB];exact bT
 ·have:=hg i hi;simp(disch:=omega)[wl,eB,this];exact bT
 ·simp[eB]
 ·simp[eB];exact bT
 ·simp[eB];exact bT
 ·have:IntKind.i64.wrap ((i:Int)+1)=i+1:=wrap_i64 (by omega) (by omega);simp[eB,this];exact bT
 rintro e a4 W5 ⟨rfl,Z5,S5,g1,g2,g3,g4,g5,g6,g7⟩;simp only[Exit.inBlock,if_true]
 have hr0:fn.results = #[]:=by
  have:fn.results.toList=[]:=by
   cases hl:fn.results.toList with
   |nil=>rfl
   |cons x r=>
    rw[hl]at hres;cases x with
    |tmp t=>simp[cj,dL]at hres
    |cell t ty=>
     simp only[cj]at hres;split at hres<;>simp[dL]at hres
  exact Array.toList_inj.1 this
 exact⟨g3.2.defers,_,results_none hr0 _ _ _,⟨_,rfl⟩,Z5,g1⟩
theorem LU{gl:List (Nat×List IV)}(li:List Int)(all:Nat):Fn gl Tryz.prog co [.agg (um li all)] (.fn ay [.ref (um li all)]):=by
 refine ag hm nh (by simp) ?_;simp[iz,iA,um]
def Wy:Nat:=373
def w0:VCode:=rt [o1 4 (.box (tm 0))] []
def w1:VCode:=rt [f_ 9 0 1,s_ 10 2 9,o1 11 (.call co [tm 10])] [9,10]
def wa1:VCode:=rt [o1 5 (.alloc [.val (.int .i64 0)]),o3 (.store 1 (tm 5) (tm 12))] []
def w3:VCode:=rt [l_ 13 5,i_ 14 .add 13 1,i_ 15 .mul 14 3600,l_ 16 2,b_ 17 .leq 15 16,m_ 18 17,L_ 19 5 18 false,I_ 20 .mul 19 3600 18 false,L_ 21 3 18 false,B_ 22 .geq 20 21 18 false,q_ 23 18 22] []
def w3c:VCode:=c_ 23 (.exit 1) .skip
def w4:VCode:=rt [f_ 24 2 1,s_ 25 2 24,o1 26 (.call co [tm 25])] [24,25]
def wa2:VCode:=rt [o1 6 (.alloc [.val (.int .i64 0)]),o3 (.store 1 (tm 6) (tm 27))] []
def w6:VCode:=rt [f_ 28 4 1,s_ 29 2 28,o1 30 (.call co [tm 29])] [28,29]
def wa3:VCode:=rt [m_ 7 31] []
def w8:VCode:=rt [l_ 32 5,i_ 33 .mul 32 3600,l_ 34 6,i_ 35 .mul 34 60,b_ 36 .add 33 35,m_ 37 7,b_ 38 .add 36 37,m_ 8 38] [32,38]
def Kg:List VOper:=[m_ 39 8,l_ 40 2,b_ 41 .geq 39 40,m_ 42 41,M_ 43 8 42 true,L_ 44 3 42 true,B_ 45 .lss 43 44 42 true,p_ 46 42 45,m_ 47 46,L_ 48 4 47 true,M_ 49 8 47 true]
def w9y:VOper:=o2 50 (.callV (tm 48) [tm 49]) 47 true
def Cm:List VOper:=[o2 51 (.un .not (tm 50)) 47 true,p_ 52 47 51]
def w9:VCode:=rt (Kg++w9y::Cm) [39,51]
def w9c:VCode:=c_ 52 .ret .skip
theorem R0:∃r0 r1 a1 r3 c3 r4 a2 r6 a3 r8 r9 c9,Tryz.f373.body=some (.seq r0 (.seq r1 (.block 0 (.rangeFunc (.tmp 11) #[12] a1 (.block 1 (.seq (.seq r3 c3) (.seq r4 (.block 2 (.rangeFunc (.tmp 26) #[27] a2 (.block 3 (.seq r6 (.block 4 (.rangeFunc (.tmp 30) #[31] a3 (.block 5 (.seq r8 (.seq r9 c9))))))))))))))))∧
  comp Tryz.prog r0=some w0.strip∧comp Tryz.prog r1=some w1.strip∧comp Tryz.prog a1=some wa1.strip∧comp Tryz.prog r3=some w3.strip∧comp Tryz.prog c3=some w3c.strip∧comp Tryz.prog r4=some w4.strip∧comp Tryz.prog a2=some wa2.strip∧comp Tryz.prog r6=some w6.strip∧comp Tryz.prog a3=some wa3.strip∧comp Tryz.prog r8=some w8.strip∧comp Tryz.prog r9=some w9.strip∧comp Tryz.prog c9=some w9c.strip:=
 ⟨_,_,_,_,_,_,_,_,_,_,_,_,rfl,by kernel_rfl,by kernel_rfl,by kernel_rfl,by kernel_rfl,by kernel_rfl,by kernel_rfl,by kernel_rfl,by kernel_rfl,by kernel_rfl,by kernel_rfl,by kernel_rfl,by kernel_rfl⟩
end Go.Vs.YtcjeehebikeghaaGreatDoor.Vt
namespace Go.Vs.YtcjeehebikeghaaGreatDoor.Vt
open Go.Proofs Go.Vs.U8 Go.Vs.Pa Go.Vs.Nu
def yt(li:List Int)(all:Nat):List Int:=(List.range all).map (fun i:Nat=>(i:Int))++li
theorem Yv(li:List Int)(all:Nat):(yt li all).length=all+li.length:=by simp[yt]
theorem Ef{li:List Int}{all i:Nat}(h:i<all+li.length):(yt li all)[i]?=some (OG li all i):=by
 unfold yt OG;by_cases h1:i<all
 ·rw[List.getElem?_append_left (by simpa using h1),if_pos h1];simp[h1]
 ·rw[List.getElem?_append_right (by simp;omega),if_neg h1];have:i-all<li.length:=by omega
  simp[List.getD,List.getElem?_eq_getElem this]
theorem GH{li:List Int}{all i:Nat}(h:i<all+li.length):(yt li all).take (i+1)=(yt li all).take i++[OG li all i]:=by
 rw[List.take_add_one,Ef h];rfl
theorem LV(li:List Int)(all:Nat):(yt li all).take (all+li.length)=yt li all:=by rw[List.take_of_length_le (by rw[Yv];omega)]
structure Tm where
 h:List Int
 ah:Nat
 m:List Int
 am:Nat
 s:List Int
 as':Nat
 fr:Int
 to:Int
def R1(x:Tm)(t:Int):Bool:=decide (x.fr≤t)&&decide (t<x.to)
def sT(x:Tm)(h m:Int):List Int:=((yt x.s x.as').map fun s=>h*3600+m*60+s).filter (R1 x)
def mT(x:Tm)(h:Int):List Int:=(yt x.m x.am).flatMap (sT x h)
def hT(x:Tm)(h:Int):List Int:=if (h+1)*3600≤x.fr∨x.to≤h*3600 then []else mT x h
def jG(x:Tm):List Int:=(yt x.h x.ah).flatMap (hT x)
def Tm.cells(x:Tm):List IV:=um x.h x.ah++(um x.m x.am++um x.s x.as')
structure FitT(x:Tm):Prop where
 n1:x.ah≤1000
 n2:x.am≤1000
 n3:x.as'≤1000
 l1:x.h.length≤1000
 l2:x.m.length≤1000
 l3:x.s.length≤1000
 h:∀n∈yt x.h x.ah,0≤n∧n≤10000
 m:∀n∈yt x.m x.am,0≤n∧n≤10000
 s:∀n∈yt x.s x.as',0≤n∧n≤10000
 fr:0≤x.fr∧x.fr≤100000
 to:0≤x.to∧x.to≤100000
def eW(x:Tm)(l:Nat)(more:List (Nat×SV)):St:=⟨[(1,.val (.ref x.cells)),(2,.val (.ref [.int .i64 x.fr])),(3,.val (.ref [.int .i64 x.to])),(4,.val (.ref [.yld l]))]++more,[],[],53,[]⟩
section
variable {x:Tm} {l:Nat} {c:Code}
theorem d0(hc:comp Tryz.prog c=some w0.strip):kk Tryz.prog c (TD [] [.yld l,.ref x.cells,.ref [.int .i64 x.fr],.ref [.int .i64 x.to]] 53) .normal (eW x l []):=by
 refine di hm _ hc ?_;simp[w0,eW];exact d5.trans (zV (k:=4) (id:=4) (cells:=[.yld l]) (by simp[aC,ac]) (by simp[ac])) (ap rfl rfl (by simp[bv,aC,ac,put]) (by simp[cC,ac]) (by simp[ct]))
theorem d1(hc:comp Tryz.prog c=some w1.strip):kk Tryz.prog c (eW x l []) .normal (eW x l [(11,.val (.fn ay [.ref (um x.h x.ah)]))]):=by
 refine di hm _ hc ?_;simp[w1,eW,Tm.cells,um];refine aa (LU x.h x.ah) ?_;simp[um];exact bT
theorem da1(h:Int)(more:List (Nat×SV))(hc:comp Tryz.prog c=some wa1.strip):kk Tryz.prog c {eW x l more with env:=put (eW x l more).env 12 (.val (.int .i64 h)) } .normal (eW x l [(5,.val (.ref [.int .i64 h]))]):=by
 refine di hm _ hc ?_;simp[wa1,eW];exact d5.trans (zV (k:=5) (id:=5) (cells:=[.int .i64 h]) (by simp[aC,ac]) (by simp[ac])) (ap rfl rfl (by simp[bv,aC,ac,put]) (by simp[cC,ac]) (by simp[ct]))
theorem d3(h:Int)(fx:FitT x)(hh:0≤h∧h≤10000)(hc:comp Tryz.prog c=some w3.strip):kk Tryz.prog c (eW x l [(5,.val (.ref [.int .i64 h]))]) .normal (eW x l [(5,.val (.ref [.int .i64 h])),(23,.val (.bool (decide ((h+1)*3600≤x.fr∨x.to≤h*3600))))]):=by
 have h1:IntKind.i64.wrap (h+1)=h+1:=wrap_i64 (by omega) (by omega);have h2:IntKind.i64.wrap ((h+1)*3600)=(h+1)*3600:=wrap_i64 (by omega) (by omega);have h3:IntKind.i64.wrap (h*3600)=h*3600:=wrap_i64 (by omega) (by omega);refine di hm _ hc ?_;by_cases q:(h+1)*3600≤x.fr
 ·simp[w3,eW,h1,h2,q];exact bT
 ·simp[w3,eW,h1,h2,h3,q];exact bT
theorem d3c(h:Int)(b:Bool)(hc:comp Tryz.prog c=some w3c.strip):kk Tryz.prog c (eW x l [(5,.val (.ref [.int .i64 h])),(23,.val (.bool b))]) (if b=true then .exit 1 else .normal) (eW x l [(5,.val (.ref [.int .i64 h]))]):=by
 refine di hm _ hc ?_;cases b
 ·simp[w3c,eW];exact bT
 ·simp[w3c,eW];exact bT
theorem d4(h:Int)(hc:comp Tryz.prog c=some w4.strip):kk Tryz.prog c (eW x l [(5,.val (.ref [.int .i64 h]))]) .normal (eW x l [(5,.val (.ref [.int .i64 h])),(26,.val (.fn ay [.ref (um x.m x.am)]))]):=by
 refine di hm _ hc ?_;simp[w4,eW,Tm.cells,um];refine aa (LU x.m x.am) ?_;simp[um];exact bT
theorem da2(h m:Int)(v:SV)(hc:comp Tryz.prog c=some wa2.strip):kk Tryz.prog c {eW x l [(5,.val (.ref [.int .i64 h])),(26,v)]with env:=put (eW x l [(5,.val (.ref [.int .i64 h])),(26,v)]).env 27 (.val (.int .i64 m)) } .normal (eW x l [(5,.val (.ref [.int .i64 h])),(6,.val (.ref [.int .i64 m]))]):=by
 refine di hm _ hc ?_;simp[wa2,eW];exact d5.trans (zV (k:=6) (id:=6) (cells:=[.int .i64 m]) (by simp[aC,ac]) (by simp[ac])) (ap rfl rfl (by simp[bv,aC,ac,put]) (by simp[cC,ac]) (by simp[ct]))
theorem d6(h m:Int)(hc:comp Tryz.prog c=some w6.strip):kk Tryz.prog c (eW x l [(5,.val (.ref [.int .i64 h])),(6,.val (.ref [.int .i64 m]))]) .normal (eW x l [(5,.val (.ref [.int .i64 h])),(6,.val (.ref [.int .i64 m])),(30,.val (.fn ay [.ref (um x.s x.as')]))]):=by
 refine di hm _ hc ?_;simp[w6,eW,Tm.cells,um];refine aa (LU x.s x.as') ?_;simp[um];exact bT
theorem da3(h m s:Int)(v:SV)(hc:comp Tryz.prog c=some wa3.strip):kk Tryz.prog c {eW x l [(5,.val (.ref [.int .i64 h])),(6,.val (.ref [.int .i64 m])),(30,v)]with env:=put (eW x l [(5,.val (.ref [.int .i64 h])),(6,.val (.ref [.int .i64 m])),(30,v)]).env 31 (.val (.int .i64 s)) } .normal (eW x l [(5,.val (.ref [.int .i64 h])),(6,.val (.ref [.int .i64 m])),(7,.val (.int .i64 s))]):=by
 refine di hm _ hc ?_;simp[wa3,eW];exact bT
theorem d8(h m s:Int)(hh:0≤h∧h≤10000)(hm':0≤m∧m≤10000)(hs:0≤s∧s≤10000)(hc:comp Tryz.prog c=some w8.strip):kk Tryz.prog c (eW x l [(5,.val (.ref [.int .i64 h])),(6,.val (.ref [.int .i64 m])),(7,.val (.int .i64 s))]) .normal (eW x l [(8,.val (.int .i64 (h*3600+m*60+s)))]):=by
 have h3:IntKind.i64.wrap (h*3600)=h*3600:=wrap_i64 (by omega) (by omega);have h4:IntKind.i64.wrap (m*60)=m*60:=wrap_i64 (by omega) (by omega);have h5:IntKind.i64.wrap (h*3600+m*60)=h*3600+m*60:=wrap_i64 (by omega) (by omega);have h6:IntKind.i64.wrap (h*3600+m*60+s)=h*3600+m*60+s:=wrap_i64 (by omega) (by omega);refine di hm _ hc ?_;simp[w8,eW,h3,h4,h5,h6];exact bT
theorem d9(t:Int)(ht:R1 x t=false)(hc:comp Tryz.prog c=some w9.strip):kk Tryz.prog c (eW x l [(8,.val (.int .i64 t))]) .normal (eW x l [(52,.val (.bool false))]):=by
 refine di hm _ hc ?_;unfold R1 at ht;by_cases q:x.fr≤t
 ·have q2:¬t<x.to:=fun h=>by simp[q,h]at ht
  simp[w9,Kg,w9y,Cm,eW,q,q2];exact bT
 ·simp[w9,Kg,w9y,Cm,eW,q];exact bT
theorem d9y(t:Int)(ht:R1 x t=true){os:Array Oper}(hc:ch Tryz.prog os os.toList=some (aQ (Kg++w9y::Cm))):YReg Tryz.prog l os t (eW x l [(8,.val (.int .i64 t))]) (eW x l [(52,.val (.bool false))]):=by
 unfold R1 at ht;simp only[Bool.and_eq_true,decide_eq_true_eq]at ht;obtain⟨q1,q2⟩:=ht;refine⟨Kg,Cm,w9y,tm 48,tm 49,50,⟨[(49,.val (.int .i64 t)),(48,.val (.yld l)),(47,.val (.bool true)),(46,.val (.bool true)),(45,.val (.bool true)),(44,.val (.int .i64 x.to)),(43,.val (.int .i64 t)),(42,.val (.bool true)),(41,.val (.bool true)),(40,.val (.int .i64 x.fr)),(39,.val (.int .i64 t))]++(eW x l [(8,.val (.int .i64 t))]).env,[],[],53,[]⟩,hc,qC hc rfl,rfl,rfl,rfl,.inr ⟨47,rfl,rfl⟩,?_,rfl,rfl,rfl,?_,rfl⟩
 ·simp[Kg,eW,q1,q2]
 ·simp[Cm,eW];exact bT
theorem d9c(hc:comp Tryz.prog c=some w9c.strip):kk Tryz.prog c (eW x l [(52,.val (.bool false))]) .normal (eW x l [(52,.val (.bool false))]):=by
 refine di hm _ hc ?_;simp[w9c,eW];exact bT
end
end Go.Vs.YtcjeehebikeghaaGreatDoor.Vt
