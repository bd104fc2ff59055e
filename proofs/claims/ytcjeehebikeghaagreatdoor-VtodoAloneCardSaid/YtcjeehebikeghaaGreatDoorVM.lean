/- A part of a proof. No conditions. -/
import Derived.Test.YtcjeehebikeghaaGreatDoorVB
import Derived.Test.YtcjeehebikeghaaGreatDoorBY
set_option linter.unusedVariables false
set_option linter.unusedSimpArgs false
set_option maxRecDepth 100000
set_option maxHeartbeats 16000000
namespace Go.Vs.YtcjeehebikeghaaGreatDoor
open Go.Proofs
def gy:VCode:=Q_ 3 [.X 0,.X 1,.X 2,.K (.const (.val .nilf))] (R_ 7 7 [.g (.mkFunc 373 [tm 3,tm 4,tm 5]),.a 6] .ret)
theorem kX:FnOk T_ 346 gy [.tmp 6] 8:=fK_ Tryz.func346
def gL:VCode:=Q_ 1 [.X 0,.K (.const (.val .nilf))] (R_ 3 3 [.g (.mkFunc 388 [tm 1]),.a 2] .ret)
theorem lS:FnOk T_ 374 gL [.tmp 2] 4:=fK_ Tryz.func374
def kY:VCode:=.seq (G_ 6 [.F 1 1,.l,.n 0] [6,6] (.block 0 (.loop (Q_ 9 [.g (.bin .lss (tm 8) (tm 7))] (.seq (c_ 9 .skip (.exit 0)) (.seq (.block 1 (R_ 10 10 [.m 8,.a 3] (C_ 11 13 [.m 0,.m 3,.g (.callV (tm 11) [tm 12]),.u] .ret .skip))) (X_ 15 15 [.g (.bin .add (tm 8) (ci 1)),.a 8]))))))) (G_ 16 [.F 0 1,.l,.v,.n 0] [16,16] (.block 2 (.loop (Q_ 20 [.g (.bin .lss (tm 19) (tm 18))] (.seq (c_ 20 .skip (.exit 2)) (.seq (.block 3 (R_ 21 22 [.g (.indexAddr 1 (tm 17) (tm 19)),.l,.a 5] (C_ 23 25 [.m 0,.m 5,.g (.callV (tm 23) [tm 24]),.u] .ret .skip))) (X_ 27 27 [.g (.bin .add (tm 19) (ci 1)),.a 19])))))))
theorem fQ:FnOk T_ 388 kY [] 28:=fK_ Tryz.func388
end Go.Vs.YtcjeehebikeghaaGreatDoor
namespace Go.Vs.YtcjeehebikeghaaGreatDoor.Vt
open Go.Proofs Go.Vs.U8 Go.Vs.Pa Go.Vs.Nu
def sj(li:List Int)(all:Nat):List IV:=[.slice (li.map fun n=>[.int .i64 n]),.int .i64 all]
def Kr(li:List Int)(all:Nat)(i:Nat):Int:=if i<all then i else li.getD (i-all) 0
def eA(l:Nat)(li:List Int)(all i:Nat)(more:List (Nat×SV)):St:=⟨[(0,.val (.yld l)),(1,.val (.ref (sj li all))),(7,.val (.int .i64 all)),(8,.val (.int .i64 i))]++more,[],[],28,[]⟩
def eB(l:Nat)(li:List Int)(all i:Nat)(more:List (Nat×SV)):St:=⟨[(0,.val (.yld l)),(17,.val (.slice (li.map fun n=>[.int .i64 n]))),(18,.val (.int .i64 li.length)),(19,.val (.int .i64 i))]++more,[],[],28,[]⟩
theorem A2(li:List Int)(all:Nat)(h1:all<=1000)(h2:li.length<=1000):L9 T_ 388 [.ref (sj li all)] (all+li.length) (fun i=>.int .i64 (Kr li all i)):=by
 intro W S vs hS hrep l J Z W1 hk hs hZ hst hyz h0;obtain⟨fn,c,hf,hname,hbody,hcomp,hbnd,hres,hnt⟩:=fQ.ok;obtain⟨cA,cB,rfl,hA,hB⟩:=zx hcomp;obtain⟨cA0,cAL,rfl,hA0,hAL⟩:=zx hA;obtain⟨cL,rfl,hL⟩:=H9 hAL;obtain⟨cLb,rfl,hLb⟩:=Uh hL;obtain⟨a1,a2,rfl,ha1,ha2⟩:=zx hLb;obtain⟨a3,a4,rfl,ha3,ha4⟩:=zx ha2;obtain⟨a5,a6,rfl,ha5,ha6⟩:=zx ha4;obtain⟨a7,rfl,ha7⟩:=H9 ha5;obtain⟨a8,a9,rfl,ha8,ha9⟩:=zx ha7;obtain⟨aY,aR,rfl,haY,haR⟩:=zx ha9;obtain⟨ia,oa,rfl,hoa⟩:=V8 haY;obtain⟨cB0,cBL,rfl,hB0,hBL⟩:=zx hB;obtain⟨cM,rfl,hM⟩:=H9 hBL;obtain⟨cMb,rfl,hMb⟩:=Uh hM;obtain⟨b1,b2,rfl,hb1,hb2⟩:=zx hMb;obtain⟨b3,b4,rfl,hb3,hb4⟩:=zx hb2;obtain⟨b5,b6,rfl,hb5,hb6⟩:=zx hb4;obtain⟨b7,rfl,hb7⟩:=H9 hb5;obtain⟨b8,b9,rfl,hb8,hb9⟩:=zx hb7;obtain⟨bY,bR,rfl,hbY,hbR⟩:=zx hb9;obtain⟨ib,ob,rfl,hob⟩:=V8 hbY
 have hrep1:bc W1 S [.yld l,.ref (sj li all)] ((#[Value.func (.yield l) #[] #[]]++vs).toList):=by
  refine⟨Value.func (.yield l) #[] #[],vs.toList,by simp,rfl,?_⟩;exact bc.mono hk (fun _ _ x=>x) _ _ hrep
 have hlen:=bc.length hrep;have hS1:∀b o,S b o->b<W1.heap.size:=fun b o hb=>Nat.lt_of_lt_of_le (hS b o hb) hs
 obtain⟨S',μ',β',hs0⟩:=Sb (gl:=[]) (n:=28) hS1 hrep1 (by simp) (by simp);refine calls_of_wp hf hbody ((wpIn_wide (n:=0)).1 ?_);have hw:Fence.wide=cF none:=rfl;rw[hw,hnt]
 have A0:=At.base (S0:=S) (J:=J) (p:=0) h0 hZ (oO.of hs0 rfl rfl) (fun b o hb=>by
  rcases hs0.back b o hb with q|q|q
  ·exact .inl q
  ·have:=hs0.stab b o hb;omega
  ·exact q.elim)
 refine wpIn_seq (wpIn_seq (wpIn_mono (A0.does hst hS1 (cI hm _ hA0 (e:=.normal) (σ1:=eA l li all 0 []) ?_)) ?_))
 ·simp[eA,sj];exact bQ
 rintro e a W2 ⟨rfl,k1⟩;refine wpIn_block (wpIn_mono (At.loop (ex:=0) (N:=all) (q:=0) (elem:=fun i=>(i:Int)) (σL:=fun i=>eA l li all i []) (σ1:=fun i=>eA l li all i [(9,.val (.bool (decide ((i:Int)<all))))]) (σ2:=fun i=>eA l li all i [(3,.val (.int .i64 i))]) (σ3:=fun i=>eA l li all i [(14,.val (.bool false))]) hst hyz hS1 (by omega) ?_ (fun i hi=>cI hm _ ha1 ?_) (fun i hi=>cI hm _ ha3 ?_) (cI hm _ ha3 ?_) (fun i hi=>cI hm _ ha8 ?_) (fun i hi=>⟨[o1 11 (.move (tm 0)),o1 12 (.move (tm 3))],[o1 14 (.un (.not) (tm 13))],o1 13 (.callV (tm 11) [tm 12]),tm 11,tm 12,13,⟨(12,.val (.int .i64 i))::(11,.val (.yld l))::(eA l li all i [(3,.val (.int .i64 i))]).env,[],[],28,[]⟩,hoa,p6 hoa rfl,rfl,rfl,rfl,.inl rfl,?_,rfl,rfl,rfl,?_,rfl⟩) (fun i hi=>cI hm _ haR ?_) (fun i hi=>cI hm _ ha6 ?_) k1) ?_)
 ·intro i hi;simp[Kr,hi]
 ·simp[eA,sj];exact bQ
 ·have:(i:Int)<all:=by omega
  simp[eA,sj,this];exact bQ
 ·simp[eA,sj];exact bQ
 ·simp[eA,sj];exact bQ
 ·simp[eA,sj]
 ·simp[eA,sj];exact bQ
 ·simp[eA,sj];exact bQ
 ·have:IntKind.i64.wrap ((i:Int)+1)=i+1:=wrap_i64 (by omega) (by omega);simp[eA,sj,this];exact bQ
 rintro e a2 W3 ⟨rfl,k2⟩;simp only[Exit.inBlock,if_true,Exit.then];refine wpIn_seq (wpIn_mono (k2.does hst hS1 (cI hm _ hB0 (e:=.normal) (σ1:=eB l li all 0 []) ?_)) ?_)
 ·simp[eA,eB,sj];exact bQ
 rintro e a3 W4 ⟨rfl,k3⟩;rw[Nat.zero_add]at k3
 have hg:∀i,i<li.length->(li.map fun n=>[(IV.int .i64 n)])[i]?=some [.int .i64 (li.getD i 0)]:=fun i hi=>by
  simp[List.getD,List.getElem?_eq_getElem hi]
 refine wpIn_block (wpIn_mono (At.loop (ex:=2) (N:=li.length) (q:=all) (elem:=fun i=>li.getD i 0) (σL:=fun i=>eB l li all i []) (σ1:=fun i=>eB l li all i [(20,.val (.bool (decide ((i:Int)<li.length))))]) (σ2:=fun i=>eB l li all i [(5,.val (.int .i64 (li.getD i 0)))]) (σ3:=fun i=>eB l li all i [(26,.val (.bool false))]) hst hyz hS1 (by omega) ?_ (fun i hi=>cI hm _ hb1 ?_) (fun i hi=>cI hm _ hb3 ?_) (cI hm _ hb3 ?_) (fun i hi=>cI hm _ hb8 ?_) (fun i hi=>⟨[o1 23 (.move (tm 0)),o1 24 (.move (tm 5))],[o1 26 (.un (.not) (tm 25))],o1 25 (.callV (tm 23) [tm 24]),tm 23,tm 24,25,⟨(24,.val (.int .i64 (li.getD i 0)))::(23,.val (.yld l))::(eB l li all i [(5,.val (.int .i64 (li.getD i 0)))]).env,[],[],28,[]⟩,hob,p6 hob rfl,rfl,rfl,rfl,.inl rfl,?_,rfl,rfl,rfl,?_,rfl⟩) (fun i hi=>cI hm _ hbR ?_) (fun i hi=>cI hm _ hb6 ?_) k3) ?_)
 ·intro i hi;have:¬all+i<all:=by omega
  simp[Kr];omega
 ·simp[eB];exact bQ
 ·have:(i:Int)<li.length:=by omega
  simp[eB,this];exact bQ
 ·simp[eB];exact bQ
 ·have:=hg i hi;simp(disch:=omega)[wl,eB,this];exact bQ
 ·simp[eB]
 ·simp[eB];exact bQ
 ·simp[eB];exact bQ
 ·have:IntKind.i64.wrap ((i:Int)+1)=i+1:=wrap_i64 (by omega) (by omega);simp[eB,this];exact bQ
 rintro e a4 W5 ⟨rfl,Z5,S5,g1,g2,g3,g4,g5,g6,g7⟩;simp only[Exit.inBlock,if_true]
 have hr0:fn.results = #[]:=by
  have:fn.results.toList=[]:=by
   cases hl:fn.results.toList with
   |nil=>rfl
   |cons x r=>
    rw[hl]at hres;cases x with
    |tmp t=>simp[bS]at hres
    |cell t ty=>
     simp only[bS]at hres;split at hres<;>simp[]at hres
  exact Array.toList_inj.1 this
 exact⟨g3.2.defers,_,results_none hr0 _ _ _,⟨_,rfl⟩,Z5,g1⟩
theorem If{gl:List (Nat×List IV)}(li:List Int)(all:Nat):Fn gl T_ 374 [.agg (sj li all)] (.fn 388 [.ref (sj li all)]):=by
 refine ag hm lS (by simp) ?_;simp[gL,sj]
def RR:Nat:=373
def w0:VCode:=rt [o1 4 (.box (tm 0))] []
def w1:VCode:=rt [o1 9 (.fieldAddr 0 (tm 1)),o1 10 (.load (some 2) (tm 9)),o1 11 (.call 374 [tm 10])] [9,10]
def Xr:VCode:=rt [o1 5 (.alloc [.val (.int .i64 0)]),o3 (.store 1 (tm 5) (tm 12))] []
def w3:VCode:=rt [o1 13 (.load none (tm 5)),o1 14 (.bin .add (tm 13) (ci 1)),o1 15 (.bin .mul (tm 14) (ci 3600)),o1 16 (.load none (tm 2)),o1 17 (.bin .leq (tm 15) (tm 16)),o1 18 (.move (tm 17)),o2 19 (.load none (tm 5)) 18 false,o2 20 (.bin .mul (tm 19) (ci 3600)) 18 false,o2 21 (.load none (tm 3)) 18 false,o2 22 (.bin .geq (tm 20) (tm 21)) 18 false,o1 23 (.pick (tm 18) (cb true) (tm 22))] []
def WM:VCode:=.cond (tm 23) (.exit 1) .skip
def w4:VCode:=rt [o1 24 (.fieldAddr 2 (tm 1)),o1 25 (.load (some 2) (tm 24)),o1 26 (.call 374 [tm 25])] [24,25]
def Xb:VCode:=rt [o1 6 (.alloc [.val (.int .i64 0)]),o3 (.store 1 (tm 6) (tm 27))] []
def w6:VCode:=rt [o1 28 (.fieldAddr 4 (tm 1)),o1 29 (.load (some 2) (tm 28)),o1 30 (.call 374 [tm 29])] [28,29]
def WN:VCode:=rt [o1 7 (.move (tm 31))] []
def w8:VCode:=rt [o1 32 (.load none (tm 5)),o1 33 (.bin .mul (tm 32) (ci 3600)),o1 34 (.load none (tm 6)),o1 35 (.bin .mul (tm 34) (ci 60)),o1 36 (.bin .add (tm 33) (tm 35)),o1 37 (.move (tm 7)),o1 38 (.bin .add (tm 36) (tm 37)),o1 8 (.move (tm 38))] [32,38]
def GC:List VOper:=[o1 39 (.move (tm 8)),o1 40 (.load none (tm 2)),o1 41 (.bin .geq (tm 39) (tm 40)),o1 42 (.move (tm 41)),o2 43 (.move (tm 8)) 42 true,o2 44 (.load none (tm 3)) 42 true,o2 45 (.bin .lss (tm 43) (tm 44)) 42 true,o1 46 (.pick (tm 42) (tm 45) (cb false)),o1 47 (.move (tm 46)),o2 48 (.load none (tm 4)) 47 true,o2 49 (.move (tm 8)) 47 true]
def WO:VOper:=o2 50 (.callV (tm 48) [tm 49]) 47 true
def A3:List VOper:=[o2 51 (.un .not (tm 50)) 47 true,o1 52 (.pick (tm 47) (tm 51) (cb false))]
def w9:VCode:=rt (GC++WO::A3) [39,51]
def Wk:VCode:=.cond (tm 52) .ret .skip
theorem ML:∃r0 r1 a1 r3 c3 r4 a2 r6 a3 r8 r9 c9,Tryz.f373.body=some (.seq r0 (.seq r1 (.block 0 (.rangeFunc (.tmp 11) #[12] a1 (.block 1 (.seq (.seq r3 c3) (.seq r4 (.block 2 (.rangeFunc (.tmp 26) #[27] a2 (.block 3 (.seq r6 (.block 4 (.rangeFunc (.tmp 30) #[31] a3 (.block 5 (.seq r8 (.seq r9 c9))))))))))))))))/\
  comp T_ r0=some w0.strip/\comp T_ r1=some w1.strip/\comp T_ a1=some Xr.strip/\comp T_ r3=some w3.strip/\comp T_ c3=some WM.strip/\comp T_ r4=some w4.strip/\comp T_ a2=some Xb.strip/\comp T_ r6=some w6.strip/\comp T_ a3=some WN.strip/\comp T_ r8=some w8.strip/\comp T_ r9=some w9.strip/\comp T_ c9=some Wk.strip:=
 ⟨_,_,_,_,_,_,_,_,_,_,_,_,rfl,by kernel_rfl,by kernel_rfl,by kernel_rfl,by kernel_rfl,by kernel_rfl,by kernel_rfl,by kernel_rfl,by kernel_rfl,by kernel_rfl,by kernel_rfl,by kernel_rfl,by kernel_rfl⟩
end Go.Vs.YtcjeehebikeghaaGreatDoor.Vt
namespace Go.Vs.YtcjeehebikeghaaGreatDoor.Vt
open Go.Proofs Go.Vs.U8 Go.Vs.Pa Go.Vs.Nu
def wA(li:List Int)(all:Nat):List Int:=(List.range all).map (fun i:Nat=>(i:Int))++li
theorem U0(li:List Int)(all:Nat):(wA li all).length=all+li.length:=by simp[wA]
theorem BK{li:List Int}{all i:Nat}(h:i<all+li.length):(wA li all)[i]?=some (Kr li all i):=by
 unfold wA Kr;by_cases h1:i<all
 ·rw[List.getElem?_append_left (by simpa using h1),if_pos h1];simp[h1]
 ·rw[List.getElem?_append_right (by simp;omega),if_neg h1];have:i-all<li.length:=by omega
  simp[List.getD,List.getElem?_eq_getElem this]
theorem E4{li:List Int}{all i:Nat}(h:i<all+li.length):(wA li all).take (i+1)=(wA li all).take i++[Kr li all i]:=by
 rw[List.take_add_one,BK h];rfl
theorem Ig(li:List Int)(all:Nat):(wA li all).take (all+li.length)=wA li all:=by rw[List.take_of_length_le (by rw[U0];omega)]
structure Tm where
 h:List Int
 ah:Nat
 m:List Int
 am:Nat
 s:List Int
 as':Nat
 fr:Int
 to:Int
def MM(x:Tm)(t:Int):Bool:=decide (x.fr<=t)&&decide (t<x.to)
def sT(x:Tm)(h m:Int):List Int:=((wA x.s x.as').map fun s=>h*3600+m*60+s).filter (MM x)
def mT(x:Tm)(h:Int):List Int:=(wA x.m x.am).flatMap (sT x h)
def hT(x:Tm)(h:Int):List Int:=if (h+1)*3600<=x.fr\/x.to<=h*3600 then []else mT x h
def j0(x:Tm):List Int:=(wA x.h x.ah).flatMap (hT x)
def Tm.cells(x:Tm):List IV:=sj x.h x.ah++(sj x.m x.am++sj x.s x.as')
structure FitT(x:Tm):Prop where
 n1:x.ah<=1000
 n2:x.am<=1000
 n3:x.as'<=1000
 l1:x.h.length<=1000
 l2:x.m.length<=1000
 l3:x.s.length<=1000
 h:∀n∈wA x.h x.ah,0<=n/\n<=10000
 m:∀n∈wA x.m x.am,0<=n/\n<=10000
 s:∀n∈wA x.s x.as',0<=n/\n<=10000
 fr:0<=x.fr/\x.fr<=100000
 to:0<=x.to/\x.to<=100000
def eW(x:Tm)(l:Nat)(more:List (Nat×SV)):St:=⟨[(1,.val (.ref x.cells)),(2,.val (.ref [.int .i64 x.fr])),(3,.val (.ref [.int .i64 x.to])),(4,.val (.ref [.yld l]))]++more,[],[],53,[]⟩
section
variable {x:Tm} {l:Nat} {c:Code}
theorem d0(hc:comp T_ c=some w0.strip):ju T_ c (Pf [] [.yld l,.ref x.cells,.ref [.int .i64 x.fr],.ref [.int .i64 x.to]] 53) .normal (eW x l []):=by
 refine cI hm _ hc ?_;simp[w0,eW];exact cR.trans (xO (k:=4) (id:=4) (cells:=[.yld l]) (by simp[aC,ac]) (by simp[ac])) (ap rfl rfl (by simp[bp,aC,ac,put]) (by simp[ch,ac]) (by simp[cg]))
theorem d1(hc:comp T_ c=some w1.strip):ju T_ c (eW x l []) .normal (eW x l [(11,.val (.fn 388 [.ref (sj x.h x.ah)]))]):=by
 refine cI hm _ hc ?_;simp[w1,eW,Tm.cells,sj];refine aa (If x.h x.ah) ?_;simp[sj];exact bQ
theorem XR(h:Int)(more:List (Nat×SV))(hc:comp T_ c=some Xr.strip):ju T_ c {eW x l more with env:=put (eW x l more).env 12 (.val (.int .i64 h)) } .normal (eW x l [(5,.val (.ref [.int .i64 h]))]):=by
 refine cI hm _ hc ?_;simp[Xr,eW];exact cR.trans (xO (k:=5) (id:=5) (cells:=[.int .i64 h]) (by simp[aC,ac]) (by simp[ac])) (ap rfl rfl (by simp[bp,aC,ac,put]) (by simp[ch,ac]) (by simp[cg]))
theorem d3(h:Int)(fx:FitT x)(hh:0<=h/\h<=10000)(hc:comp T_ c=some w3.strip):ju T_ c (eW x l [(5,.val (.ref [.int .i64 h]))]) .normal (eW x l [(5,.val (.ref [.int .i64 h])),(23,.val (.bool (decide ((h+1)*3600<=x.fr\/x.to<=h*3600))))]):=by
 have h1:IntKind.i64.wrap (h+1)=h+1:=wrap_i64 (by omega) (by omega);have h2:IntKind.i64.wrap ((h+1)*3600)=(h+1)*3600:=wrap_i64 (by omega) (by omega);have h3:IntKind.i64.wrap (h*3600)=h*3600:=wrap_i64 (by omega) (by omega);refine cI hm _ hc ?_;by_cases q:(h+1)*3600<=x.fr
 ·simp[w3,eW,h1,h2,q];exact bQ
 ·simp[w3,eW,h1,h2,h3,q];exact bQ
theorem XS(h:Int)(b:Bool)(hc:comp T_ c=some WM.strip):ju T_ c (eW x l [(5,.val (.ref [.int .i64 h])),(23,.val (.bool b))]) (if b=true then .exit 1 else .normal) (eW x l [(5,.val (.ref [.int .i64 h]))]):=by
 refine cI hm _ hc ?_;cases b
 ·simp[WM,eW];exact bQ
 ·simp[WM,eW];exact bQ
theorem d4(h:Int)(hc:comp T_ c=some w4.strip):ju T_ c (eW x l [(5,.val (.ref [.int .i64 h]))]) .normal (eW x l [(5,.val (.ref [.int .i64 h])),(26,.val (.fn 388 [.ref (sj x.m x.am)]))]):=by
 refine cI hm _ hc ?_;simp[w4,eW,Tm.cells,sj];refine aa (If x.m x.am) ?_;simp[sj];exact bQ
theorem XT(h m:Int)(v:SV)(hc:comp T_ c=some Xb.strip):ju T_ c {eW x l [(5,.val (.ref [.int .i64 h])),(26,v)]with env:=put (eW x l [(5,.val (.ref [.int .i64 h])),(26,v)]).env 27 (.val (.int .i64 m)) } .normal (eW x l [(5,.val (.ref [.int .i64 h])),(6,.val (.ref [.int .i64 m]))]):=by
 refine cI hm _ hc ?_;simp[Xb,eW];exact cR.trans (xO (k:=6) (id:=6) (cells:=[.int .i64 m]) (by simp[aC,ac]) (by simp[ac])) (ap rfl rfl (by simp[bp,aC,ac,put]) (by simp[ch,ac]) (by simp[cg]))
theorem d6(h m:Int)(hc:comp T_ c=some w6.strip):ju T_ c (eW x l [(5,.val (.ref [.int .i64 h])),(6,.val (.ref [.int .i64 m]))]) .normal (eW x l [(5,.val (.ref [.int .i64 h])),(6,.val (.ref [.int .i64 m])),(30,.val (.fn 388 [.ref (sj x.s x.as')]))]):=by
 refine cI hm _ hc ?_;simp[w6,eW,Tm.cells,sj];refine aa (If x.s x.as') ?_;simp[sj];exact bQ
theorem XU(h m s:Int)(v:SV)(hc:comp T_ c=some WN.strip):ju T_ c {eW x l [(5,.val (.ref [.int .i64 h])),(6,.val (.ref [.int .i64 m])),(30,v)]with env:=put (eW x l [(5,.val (.ref [.int .i64 h])),(6,.val (.ref [.int .i64 m])),(30,v)]).env 31 (.val (.int .i64 s)) } .normal (eW x l [(5,.val (.ref [.int .i64 h])),(6,.val (.ref [.int .i64 m])),(7,.val (.int .i64 s))]):=by
 refine cI hm _ hc ?_;simp[WN,eW];exact bQ
theorem d8(h m s:Int)(hh:0<=h/\h<=10000)(hm':0<=m/\m<=10000)(hs:0<=s/\s<=10000)(hc:comp T_ c=some w8.strip):ju T_ c (eW x l [(5,.val (.ref [.int .i64 h])),(6,.val (.ref [.int .i64 m])),(7,.val (.int .i64 s))]) .normal (eW x l [(8,.val (.int .i64 (h*3600+m*60+s)))]):=by
 have h3:IntKind.i64.wrap (h*3600)=h*3600:=wrap_i64 (by omega) (by omega);have h4:IntKind.i64.wrap (m*60)=m*60:=wrap_i64 (by omega) (by omega);have h5:IntKind.i64.wrap (h*3600+m*60)=h*3600+m*60:=wrap_i64 (by omega) (by omega);have h6:IntKind.i64.wrap (h*3600+m*60+s)=h*3600+m*60+s:=wrap_i64 (by omega) (by omega);refine cI hm _ hc ?_;simp[w8,eW,h3,h4,h5,h6];exact bQ
theorem d9(t:Int)(ht:MM x t=false)(hc:comp T_ c=some w9.strip):ju T_ c (eW x l [(8,.val (.int .i64 t))]) .normal (eW x l [(52,.val (.bool false))]):=by
 refine cI hm _ hc ?_;unfold MM at ht;by_cases q:x.fr<=t
 ·have q2:¬t<x.to:=fun h=>by simp[q,h]at ht
  simp[w9,GC,WO,A3,eW,q,q2];exact bQ
 ·simp[w9,GC,WO,A3,eW,q];exact bQ
theorem XV(t:Int)(ht:MM x t=true){os:Array Oper}(hc:bO T_ os os.toList=some (aI (GC++WO::A3))):YReg T_ l os t (eW x l [(8,.val (.int .i64 t))]) (eW x l [(52,.val (.bool false))]):=by
 unfold MM at ht;simp only[Bool.and_eq_true,decide_eq_true_eq]at ht;obtain⟨q1,q2⟩:=ht;refine⟨GC,A3,WO,tm 48,tm 49,50,⟨[(49,.val (.int .i64 t)),(48,.val (.yld l)),(47,.val (.bool true)),(46,.val (.bool true)),(45,.val (.bool true)),(44,.val (.int .i64 x.to)),(43,.val (.int .i64 t)),(42,.val (.bool true)),(41,.val (.bool true)),(40,.val (.int .i64 x.fr)),(39,.val (.int .i64 t))]++(eW x l [(8,.val (.int .i64 t))]).env,[],[],53,[]⟩,hc,p6 hc rfl,rfl,rfl,rfl,.inr ⟨47,rfl,rfl⟩,?_,rfl,rfl,rfl,?_,rfl⟩
 ·simp[GC,eW,q1,q2]
 ·simp[A3,eW];exact bQ
theorem XF(hc:comp T_ c=some Wk.strip):ju T_ c (eW x l [(52,.val (.bool false))]) .normal (eW x l [(52,.val (.bool false))]):=by
 refine cI hm _ hc ?_;simp[Wk,eW];exact bQ
end
end Go.Vs.YtcjeehebikeghaaGreatDoor.Vt
