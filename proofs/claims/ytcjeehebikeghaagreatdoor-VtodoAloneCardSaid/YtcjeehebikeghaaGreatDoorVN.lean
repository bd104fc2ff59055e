/- A part of a proof. No conditions. -/
import Derived.Test.YtcjeehebikeghaaGreatDoorVM
import Derived.Test.YtcjeehebikeghaaGreatDoorRJ
set_option linter.unusedVariables false
set_option linter.unusedSimpArgs false
set_option maxRecDepth 100000
set_option maxHeartbeats 16000000
namespace Go.Vs.YtcjeehebikeghaaGreatDoor.Vt
open Go.Proofs Go.Vs.U8 Go.Vs.Pa Go.Vs.Nu
theorem A4(args:Array Value)(w:World):(callFunc 388 args).run T_ w=.ok (.enter 388 args) w:=by
 obtain⟨fn,c,hf,hname,hbody,_⟩:=fQ.ok;simp only[callFunc,Sem.run_bind,run_program,Result.andThen_ok,hf];rw[if_neg (by simpa using hname),if_neg (by simp[hbody])];rfl
theorem U1{ts pre suf:List Int}{t:Int}(h:pre++[t] <+: ts):pre.length<ts.length/\ts.getD pre.length 0=t:=by
 obtain⟨r,rfl⟩:=h;refine⟨by simp,?_⟩;simp[List.getD]
theorem Kn{f:Int->List Int}(l:List Int)(i:Nat):(l.take i).flatMap f <+: l.flatMap f:=by
 refine⟨(l.drop i).flatMap f,?_⟩;rw[<-List.flatMap_append,List.take_append_drop]
theorem RL{f:Int->Int}{q:Int->Bool}(l:List Int)(i:Nat):((l.take i).map f).filter q <+: (l.map f).filter q:=by
 refine⟨((l.drop i).map f).filter q,?_⟩;rw[<-List.filter_append,<-List.map_append,List.take_append_drop]
abbrev LH(x:Tm)(i:Nat):Value:=.int .i64 ((j0 x).getD i 0)
section
variable {x:Tm} {l:Nat} {J:JZ} {S0:aO} {Wb:World} {Zb:Nat->Prop}
theorem XW(fx:FitT x){r8 r9 c9:Code}(h8:comp T_ r8=some w8.strip)(h9:comp T_ r9=some w9.strip)(h9c:comp T_ c9=some Wk.strip){ro:Option Nat}{h m s:Int}(bh:0<=h/\h<=10000)(bm:0<=m/\m<=10000)(bs:0<=s/\s<=10000){pre:List Int}{a:Act}{W:World}
  (hst:M7 J) (hyz:YZ T_ l S0 (LH x) (j0 x).length J) (hS0:∀b o,S0 b o->b<Wb.heap.size) (hpre:pre++(if MM x (h*3600+m*60+s)=true then [h*3600+m*60+s]else []) <+: j0 x)
  (ha:At J S0 Wb Zb (eW x l [(5,.val (.ref [.int .i64 h])),(6,.val (.ref [.int .i64 m])),(7,.val (.int .i64 s))]) pre.length a W) :
  (Code.block 5 (.seq r8 (.seq r9 c9))).wpIn (cF ro) 0 T_ (fun e a' W'=>e=.normal/\∃σ3,At J S0 Wb Zb σ3 (pre++(if MM x (h*3600+m*60+s)=true then [h*3600+m*60+s]else [])).length a' W') a W:=by
 refine wpIn_block (wpIn_seq (wpIn_mono (ha.does hst hS0 (d8 h m s bh bm bs h8)) ?_));rintro e a1 W1 ⟨rfl,k1⟩;obtain⟨t,ht⟩:∃t,h*3600+m*60+s=t:=⟨_,rfl⟩;rw[ht]at k1 hpre |-;by_cases hi:MM x t=true
 ·rw[if_pos hi]at hpre |-;obtain⟨g1,g2⟩:=U1 (suf:=[]) hpre;obtain⟨i9,o9,rfl,ho9⟩:=V8 h9;refine wpIn_seq (wpIn_mono (k1.yreg hst hyz hS0 (XV t hi ho9) (by simp only[LH,g2]) g1) ?_);rintro e a2 W2 ⟨rfl,k2⟩;refine wpIn_mono (k2.does hst hS0 (XF h9c)) ?_;rintro e a3 W3 ⟨rfl,k3⟩;refine⟨rfl,eW x l [(52,.val (.bool false))],?_⟩;rw[List.length_append];exact k3
 ·rw[if_neg hi]at hpre |-;refine wpIn_seq (wpIn_mono (k1.does hst hS0 (d9 t (by simpa using hi) h9)) ?_);rintro e a2 W2 ⟨rfl,k2⟩;refine wpIn_mono (k2.does hst hS0 (XF h9c)) ?_;rintro e a3 W3 ⟨rfl,k3⟩;refine⟨rfl,eW x l [(52,.val (.bool false))],?_⟩;rw[List.append_nil];exact k3
theorem XX(fx:FitT x){r6 a3 r8 r9 c9:Code}(h6:comp T_ r6=some w6.strip)(ha3:comp T_ a3=some WN.strip)(h8:comp T_ r8=some w8.strip)(h9:comp T_ r9=some w9.strip)(h9c:comp T_ c9=some Wk.strip){l':Nat}{h m:Int}(bh:0<=h/\h<=10000)(bm:0<=m/\m<=10000){pre:List Int}{a:Act}{W:World}
  (hst:M7 J) (hyz:YZ T_ l S0 (LH x) (j0 x).length J) (hS0:∀b o,S0 b o->b<Wb.heap.size) (hrec:∃r,W.heap[l']?=some (.loop r)) (hpre:pre++sT x h m <+: j0 x)
  (ha:At J S0 Wb Zb (eW x l [(5,.val (.ref [.int .i64 h])),(6,.val (.ref [.int .i64 m]))]) pre.length a W) :
  (Code.block 3 (.seq r6 (.block 4 (.rangeFunc (.tmp 30) #[31] a3 (.block 5 (.seq r8 (.seq r9 c9))))))).wpIn (cF (some l')) 0 T_ (fun e a' W'=>e=.normal/\∃σ3,At J S0 Wb Zb σ3 (pre++sT x h m).length a' W') a W:=by
 refine wpIn_block (wpIn_seq (wpIn_mono (ha.doesK hst hS0 (d6 h m h6)) ?_));rintro e a1 W1 ⟨rfl,k1,q1⟩;obtain⟨r,hr⟩:=hrec;have hr1:∃r,W1.heap[l']?=some (.loop r):=⟨r,(q1.block l' (Array.getElem?_eq_some_iff.1 hr).1 (fun x=>x)).trans hr⟩
 let pi:Nat->Nat:=fun k=>(pre++(((wA x.s x.as').take k).map fun s=>h*3600+m*60+s).filter (MM x)).length
 have k0:At J S0 Wb Zb (eW x l [(5,.val (.ref [.int .i64 h])),(6,.val (.ref [.int .i64 m])),(30,.val (.fn 388 [.ref (sj x.s x.as')]))]) (pi 0) a1 W1:=by
  have:pi 0=pre.length:=by simp[pi]
  rw[this];exact k1
 refine wpIn_block (wpIn_mono (At.range (m:=x.as'+x.s.length) (pi:=pi) (σb:=fun i=>eW x l [(5,.val (.ref [.int .i64 h])),(6,.val (.ref [.int .i64 m])),(7,.val (.int .i64 (Kr x.s x.as' i)))]) hst hS0 rfl (show 30<53 by decide) (show 31<53 by decide) rfl A4 (A2 x.s x.as' fx.n3 fx.l3) (fun l0 e=>by cases e;exact hr1) (fun i hi=>XU h m _ _ ha3) ?_ k0) ?_)
 ·intro i hi l2 Wb2 Zb2 a2 W2 _ hS2 k2;have hmem:Kr x.s x.as' i∈wA x.s x.as':=List.mem_of_getElem? (BK hi)
  have e:(((wA x.s x.as').take (i+1)).map fun s=>h*3600+m*60+s).filter (MM x)=(((wA x.s x.as').take i).map fun s=>h*3600+m*60+s).filter (MM x)++(if MM x (h*3600+m*60+Kr x.s x.as' i)=true then [h*3600+m*60+Kr x.s x.as' i]else []):=by
   rw[E4 hi,List.map_append,List.filter_append];congr 1;simp only[List.map_cons,List.map_nil,List.filter_cons,List.filter_nil]
  have:=XW (Wb:=Wb2) (Zb:=Zb2) (ro:=some l2) fx h8 h9 h9c bh bm (fx.s _ hmem) (pre:=pre++(((wA x.s x.as').take i).map fun s=>h*3600+m*60+s).filter (MM x)) hst hyz hS2 (by
   rw[List.append_assoc,<-e]
   exact((List.prefix_append_right_inj pre).2 (RL _ _)).trans hpre) k2
  rw[List.append_assoc,<-e]at this;exact this
 ·rintro e a2 W2 ⟨rfl,k2⟩;refine⟨rfl,eW x l [(5,.val (.ref [.int .i64 h])),(6,.val (.ref [.int .i64 m])),(30,.val (.fn 388 [.ref (sj x.s x.as')]))],?_⟩
  have:pi (x.as'+x.s.length)=(pre++sT x h m).length:=by
   show(pre++(((wA x.s x.as').take (x.as'+x.s.length)).map fun s=>h*3600+m*60+s).filter (MM x)).length=_;rw[Ig];rfl
  rw[<-this];exact k2
theorem XY(fx:FitT x){r3 c3 r4 a2 r6 a3 r8 r9 c9:Code}(h3:comp T_ r3=some w3.strip)(h3c:comp T_ c3=some WM.strip)(h4:comp T_ r4=some w4.strip)(ha2:comp T_ a2=some Xb.strip)(h6:comp T_ r6=some w6.strip)(ha3:comp T_ a3=some WN.strip)(h8:comp T_ r8=some w8.strip)(h9:comp T_ r9=some w9.strip)(h9c:comp T_ c9=some Wk.strip){l':Nat}{h:Int}(bh:0<=h/\h<=10000){pre:List Int}{a:Act}{W:World}
  (hst:M7 J) (hyz:YZ T_ l S0 (LH x) (j0 x).length J) (hS0:∀b o,S0 b o->b<Wb.heap.size) (hrec:∃r,W.heap[l']?=some (.loop r)) (hpre:pre++hT x h <+: j0 x)
  (ha:At J S0 Wb Zb (eW x l [(5,.val (.ref [.int .i64 h]))]) pre.length a W) :
  (Code.block 1 (.seq (.seq r3 c3) (.seq r4 (.block 2 (.rangeFunc (.tmp 26) #[27] a2 (.block 3 (.seq r6 (.block 4 (.rangeFunc (.tmp 30) #[31] a3 (.block 5 (.seq r8 (.seq r9 c9)))))))))))).wpIn (cF (some l')) 0 T_ (fun e a' W'=>e=.normal/\∃σ3,At J S0 Wb Zb σ3 (pre++hT x h).length a' W') a W:=by
 refine wpIn_block (wpIn_seq (wpIn_seq (wpIn_mono (ha.doesK hst hS0 (d3 h fx bh h3)) ?_)));rintro e a1 W1 ⟨rfl,k1,q1⟩;refine wpIn_mono (k1.doesK hst hS0 (XS h _ h3c)) ?_;by_cases hsk:(h+1)*3600<=x.fr\/x.to<=h*3600
 ·have hn:hT x h=[]:=by unfold hT;rw[if_pos hsk]
  rw[hn,List.append_nil];rw[decide_eq_true hsk,if_pos rfl];rintro e a2 W2 ⟨rfl,k2,q2⟩;simp only[Exit.then,Exit.inBlock,if_true];exact⟨trivial,_,k2⟩
 ·have hn:hT x h=mT x h:=by unfold hT;rw[if_neg hsk]
  rw[hn]at hpre |-;rw[decide_eq_false hsk,if_neg (by decide)];rintro e a2 W2 ⟨rfl,k2,q2⟩;refine wpIn_seq (wpIn_mono (k2.doesK hst hS0 (d4 h h4)) ?_);rintro e a3 W3 ⟨rfl,k3,q3⟩;obtain⟨r,hr⟩:=hrec
  have hr3:∃r,W3.heap[l']?=some (.loop r):=by
   have g1:=(q1.block l' (Array.getElem?_eq_some_iff.1 hr).1 (fun x=>x)).trans hr;have g2:=(q2.block l' (Array.getElem?_eq_some_iff.1 g1).1 (fun x=>x)).trans g1;exact⟨r,(q3.block l' (Array.getElem?_eq_some_iff.1 g2).1 (fun x=>x)).trans g2⟩
  let pi:Nat->Nat:=fun k=>(pre++((wA x.m x.am).take k).flatMap (sT x h)).length
  have k0:At J S0 Wb Zb (eW x l [(5,.val (.ref [.int .i64 h])),(26,.val (.fn 388 [.ref (sj x.m x.am)]))]) (pi 0) a3 W3:=by
   have:pi 0=pre.length:=by simp[pi]
   rw[this];exact k3
  refine wpIn_block (wpIn_mono (At.range (m:=x.am+x.m.length) (pi:=pi) (σb:=fun i=>eW x l [(5,.val (.ref [.int .i64 h])),(6,.val (.ref [.int .i64 (Kr x.m x.am i)]))]) hst hS0 rfl (show 26<53 by decide) (show 27<53 by decide) rfl A4 (A2 x.m x.am fx.n2 fx.l2) (fun l0 e=>by cases e;exact hr3) (fun i hi=>XT h _ _ ha2) ?_ k0) ?_)
  ·intro i hi l2 Wb2 Zb2 a4 W4 hrec4 hS2 k4;have hmem:Kr x.m x.am i∈wA x.m x.am:=List.mem_of_getElem? (BK hi)
   have e:((wA x.m x.am).take (i+1)).flatMap (sT x h)=((wA x.m x.am).take i).flatMap (sT x h)++sT x h (Kr x.m x.am i):=by
    rw[E4 hi,List.flatMap_append];simp
   have:=XX (Wb:=Wb2) (Zb:=Zb2) (l':=l2) fx h6 ha3 h8 h9 h9c bh (fx.m _ hmem) (pre:=pre++((wA x.m x.am).take i).flatMap (sT x h)) hst hyz hS2 hrec4 (by
    rw[List.append_assoc,<-e]
    exact((List.prefix_append_right_inj pre).2 (Kn _ _)).trans hpre) k4
   rw[List.append_assoc,<-e]at this;exact this
  ·rintro e a4 W4 ⟨rfl,k4⟩;refine⟨rfl,eW x l [(5,.val (.ref [.int .i64 h])),(26,.val (.fn 388 [.ref (sj x.m x.am)]))],?_⟩
   have:pi (x.am+x.m.length)=(pre++mT x h).length:=by
    show(pre++((wA x.m x.am).take (x.am+x.m.length)).flatMap (sT x h)).length=_;rw[Ig];rfl
   rw[<-this];exact k4
end
theorem Ko(x:Tm)(fx:FitT x):L9 T_ RR [.ref x.cells,.ref [.int .i64 x.fr],.ref [.int .i64 x.to]] (j0 x).length (LH x):=by
 intro W S vs hS hrep l J Z W1 hk hs hZ hst hyz h0;obtain⟨r0,r1,a1,r3,c3,r4,a2,r6,a3,r8,r9,c9,hbody,g0,g1,ga1,g3,g3c,g4,ga2,g6,ga3,g8,g9,g9c⟩:=ML
 have hrep1:bc W1 S [.yld l,.ref x.cells,.ref [.int .i64 x.fr],.ref [.int .i64 x.to]] ((#[Value.func (.yield l) #[] #[]]++vs).toList):=by
  refine⟨Value.func (.yield l) #[] #[],vs.toList,by simp,rfl,?_⟩;exact bc.mono hk (fun _ _ x=>x) _ _ hrep
 have hS1:∀b o,S b o->b<W1.heap.size:=fun b o hb=>Nat.lt_of_lt_of_le (hS b o hb) hs
 obtain⟨S',μ',β',hs0⟩:=Sb (gl:=[]) (n:=53) hS1 hrep1 (by simp) (by simp);refine callsIn_wide.1 (callsIn_of_wp_marks (n:=0) (F:=Fence.wide) Tryz.func373 hbody trivial ?_ rfl);have hnt:Tryz.f373.ntmps=53:=rfl;have hw:Fence.wide=cF none:=rfl;rw[hw,hnt]
 have A0:=At.base (S0:=S) (J:=J) (p:=0) h0 hZ (oO.of hs0 rfl rfl) (fun b o hb=>by
  rcases hs0.back b o hb with q|q|q
  ·exact .inl q
  ·have:=hs0.stab b o hb;omega
  ·exact q.elim)
 refine wpIn_seq (wpIn_mono (A0.does hst hS1 (d0 g0)) ?_);rintro e b1 W2 ⟨rfl,k1⟩;refine wpIn_seq (wpIn_mono (k1.does hst hS1 (d1 g1)) ?_);rintro e b2 W3 ⟨rfl,k2⟩
 let pi:Nat->Nat:=fun k=>(((wA x.h x.ah).take k).flatMap (hT x)).length
 have k0:At J S W1 Z (eW x l [(11,.val (.fn 388 [.ref (sj x.h x.ah)]))]) (pi 0) b2 W3:=by
  have:pi 0=0:=by simp[pi]
  rw[this];exact k2
 refine wpIn_block (wpIn_mono (At.range (m:=x.ah+x.h.length) (pi:=pi) (σb:=fun i=>eW x l [(5,.val (.ref [.int .i64 (Kr x.h x.ah i)]))]) hst hS1 rfl (show 11<53 by decide) (show 12<53 by decide) rfl A4 (A2 x.h x.ah fx.n1 fx.l1) (fun l0 e=>by cases e) (fun i hi=>XR _ _ ga1) ?_ k0) ?_)
 ·intro i hi l2 Wb2 Zb2 a4 W4 hrec4 hS2 k4;have hmem:Kr x.h x.ah i∈wA x.h x.ah:=List.mem_of_getElem? (BK hi)
  have e:((wA x.h x.ah).take (i+1)).flatMap (hT x)=((wA x.h x.ah).take i).flatMap (hT x)++hT x (Kr x.h x.ah i):=by
   rw[E4 hi,List.flatMap_append];simp
  have:=XY (Wb:=Wb2) (Zb:=Zb2) (l':=l2) fx g3 g3c g4 ga2 g6 ga3 g8 g9 g9c (fx.h _ hmem) (pre:=((wA x.h x.ah).take i).flatMap (hT x)) hst hyz hS2 hrec4 (by
   rw[<-e]
   exact Kn _ _) k4
  rw[<-e]at this;exact this
 ·rintro e b3 W4 ⟨rfl,Z',D,j1,j2,j3,j4⟩;simp only[Exit.inBlock]
  have hpi:pi (x.ah+x.h.length)=(j0 x).length:=by
   show(((wA x.h x.ah).take (x.ah+x.h.length)).flatMap (hT x)).length=_;rw[Ig];rfl
  rw[hpi]at j1;show LeavesInM _ _ _ _ _ _ _ _ _;rw[j3];refine⟨by simp,.inl ⟨D,_,rfl,run_takeDeferred j4,?_⟩⟩;exact⟨_,results_none rfl _ _ _,⟨_,rfl⟩,_,hst _ _ _ _ j1 (Jj j4 Z' j2)⟩
end Go.Vs.YtcjeehebikeghaaGreatDoor.Vt
namespace Go.Vs.YtcjeehebikeghaaGreatDoor.Vt
open Go.Proofs Go.Vs.U8 Go.Vs.Pa Go.Vs.Nu
def u0:VCode:=rt [o1 4 (.box (tm 0)),o1 8 (.move (.const .nils))] []
def u1:VCode:=rt [o1 14 (.load (some 15) (tm 4)),o1 15 (.move (tm 1)),o1 16 (.call 345 [tm 14,tm 15]),o1 13 (.move (tm 16)),o1 17 (.extract (tm 13) 0),o1 18 (.extract (tm 13) 1),o1 9 (.alloc [.nils,.val (.int .i64 0),.nils,.val (.int .i64 0),.nils,.val (.int .i64 0)]),o3 (.store 6 (tm 9) (tm 17)),o1 10 (.move (tm 18))] []
def u2:VCode:=.seq (rt [o1 19 (.move (tm 10)),o1 20 (.un .not (tm 19)),o1 21 (.move (tm 20)),o2 22 (.move (tm 2)) 21 false,o2 23 (.bin .lss (tm 22) (ci 0)) 21 false,o1 24 (.pick (tm 21) (cb true) (tm 23)),o1 25 (.move (tm 24)),o2 26 (.move (tm 2)) 25 false,o2 27 (.move (tm 3)) 25 false,o2 28 (.bin .gtr (tm 26) (tm 27)) 25 false,o1 29 (.pick (tm 25) (cb true) (tm 28)),o1 30 (.move (tm 29)),o2 31 (.move (tm 3)) 30 false,o2 32 (.bin .gtr (tm 31) (ci 86400)) 30 false,o1 33 (.pick (tm 30) (cb true) (tm 32))] []) (.cond (tm 33) (.seq (rt [o1 8 (.move (.const .nils))] []) .ret) .skip)
def u4:VCode:=rt [o1 11 (.alloc [.nils])] []
def u5:VCode:=rt [o1 34 (.load (some 6) (tm 9)),o1 35 (.move (tm 2)),o1 36 (.move (tm 3)),o1 37 (.call 346 [tm 34,tm 35,tm 36])] []
def ua:VCode:=rt [o1 12 (.move (tm 38))] []
def u7:VCode:=rt [o1 39 (.load none (tm 11)),o1 40 (.move (tm 12)),o1 41 (.buildSlice 1 1 [.val (.int .i64 0)] [(0,1,tm 40)]),o1 42 (.append 3 1 8 (tm 39) (tm 41)),o3 (.store 1 (tm 11) (tm 42))] []
def u8:VCode:=rt [o1 43 (.load none (tm 11)),o1 8 (.move (tm 43))] []
theorem U2:∃r0 r1 r2 r4 r5 a r7 r8,Tryz.f312.body=some (.seq r0 (.seq r1 (.seq r2 (.seq r4 (.seq (.seq r5 (.block 0 (.rangeFunc (.tmp 37) #[38] a (.block 1 r7)))) (.seq r8 .ret))))))/\
  comp T_ r0=some u0.strip/\comp T_ r1=some u1.strip/\comp T_ r2=some u2.strip/\comp T_ r4=some u4.strip/\comp T_ r5=some u5.strip/\comp T_ a=some ua.strip/\comp T_ r7=some u7.strip/\comp T_ r8=some u8.strip:=
 ⟨_,_,_,_,_,_,_,_,rfl,by kernel_rfl,by kernel_rfl,by kernel_rfl,by kernel_rfl,by kernel_rfl,by kernel_rfl,by kernel_rfl,by kernel_rfl⟩
end Go.Vs.YtcjeehebikeghaaGreatDoor.Vt
namespace Go.Vs.YtcjeehebikeghaaGreatDoor.Vt
open Go.Proofs Go.Vs.U8 Go.Vs.Pa Go.Vs.Nu Go.Vs.Mo Go.Vs.YtcjeehebikeghaaGreatDoor.Rc
theorem fn_within{gl:List (Nat×List IV)}(x:Tm):Fn gl T_ 346 [.agg x.cells,.int .i64 x.fr,.int .i64 x.to] (.fn RR [.ref x.cells,.ref [.int .i64 x.fr],.ref [.int .i64 x.to]]):=by
 refine ag hm kX (by simp) ?_;simp[gy,Tm.cells,sj,RR]
def U3:Nat:=312
def yY(l:List Int):List (List IV):=l.map fun t=>[.int .i64 t]
def oA(gl:List (Nat×List IV))(n:Nat)(l:List Int)(more:List (Nat×SV)):St:=⟨[(11,.loc 1000 0)]++more,sR n (yY l),[],44,gl⟩
section
variable {gl:List (Nat×List IV)} {c:Code}
theorem e7(n:Nat)(l:List Int)(t:Int)(hc:comp T_ c=some u7.strip)(hl:l.length<10000000):sQ T_ c (oA gl n l [(12,.val (.int .i64 t))]) .normal ⟨[],sR (n+1) (yY (l++[t])),[],44,gl⟩:=by
 refine mb hm _ hc ?_;simp[u7,oA,sR,yY];refine⟨by omega,?_⟩;exact bQ
theorem ea(n:Nat)(l:List Int)(t:Int)(hc:comp T_ c=some ua.strip):sQ T_ c {oA gl n l []with env:=put (oA gl n l []).env 38 (.val (.int .i64 t)) } .normal (oA gl n l [(12,.val (.int .i64 t))]):=by
 refine mb hm _ hc ?_;simp[ua,oA,sR];exact bQ
theorem e8(n:Nat)(l:List Int)(hc:comp T_ c=some u8.strip):sQ T_ c (oA gl n l []) .normal ⟨[(8,.own 1001 n)],sR n (yY l),[],44,gl⟩:=by
 refine mb hm _ hc ?_;simp[u8,oA,sR];exact bQ
theorem e0(r:Ru)(s f t:Int)(hc:comp T_ c=some u0.strip):sQ T_ c (Pf gl [r.iv,.int .i64 s,.int .i64 f,.int .i64 t] 44) .normal ⟨[(1,.val (.int .i64 s)),(2,.val (.int .i64 f)),(3,.val (.int .i64 t)),(4,.loc 4 0)],[(4,.box ((cells r).map .val))],[],44,gl⟩:=by
 refine mb hm _ hc ?_;simp[u0,Ru.iv,cells];exact bQ
theorem e1(r:Ru)(s f t:Int)(x:Tm)(hset:Fn gl T_ 345 [r.iv,.int .i64 s] (.tuple [.agg x.cells,.bool true]))(hc:comp T_ c=some u1.strip):sQ T_ c ⟨[(1,.val (.int .i64 s)),(2,.val (.int .i64 f)),(3,.val (.int .i64 t)),(4,.loc 4 0)],[(4,.box ((cells r).map .val))],[],44,gl⟩ .normal ⟨[(2,.val (.int .i64 f)),(3,.val (.int .i64 t)),(9,.val (.ref x.cells)),(10,.val (.bool true))],[],[],44,gl⟩:=by
 refine mb hm _ hc ?_;unfold Ru.iv cells Tm.cells sj at *;simp[u1];refine aa hset ?_;simp;exact cR.trans (xO (k:=9) (id:=9) (cells:=[.slice (x.h.map fun n=>[.int .i64 n]),.int .i64 x.ah,.slice (x.m.map fun n=>[.int .i64 n]),.int .i64 x.am,.slice (x.s.map fun n=>[.int .i64 n]),.int .i64 x.as']) (by simp[aC,ac]) (by simp[ac])) (ap rfl rfl (by simp[bp,aC,ac,put]) (by simp[ch,ac]) (by simp[cg]))
theorem e2(x:Tm)(h1:0<=x.fr)(h2:x.fr<=x.to)(h3:x.to<=86400)(hc:comp T_ c=some u2.strip):sQ T_ c ⟨[(2,.val (.int .i64 x.fr)),(3,.val (.int .i64 x.to)),(9,.val (.ref x.cells)),(10,.val (.bool true))],[],[],44,gl⟩ .normal ⟨[(2,.val (.int .i64 x.fr)),(3,.val (.int .i64 x.to)),(9,.val (.ref x.cells))],[],[],44,gl⟩:=by
 refine mb hm _ hc ?_;have q1:¬x.fr<0:=by omega
 have q2:¬x.to<x.fr:=by omega
 have q3:¬86400<x.to:=by omega
 simp[u2,q1,q2,q3];exact bQ
theorem e4(x:Tm)(hc:comp T_ c=some u4.strip):sQ T_ c ⟨[(2,.val (.int .i64 x.fr)),(3,.val (.int .i64 x.to)),(9,.val (.ref x.cells))],[],[],44,gl⟩ .normal ⟨[(2,.val (.int .i64 x.fr)),(3,.val (.int .i64 x.to)),(9,.val (.ref x.cells)),(11,.loc 11 0)],[(11,.box [.nils])],[],44,gl⟩:=by
 refine mb hm _ hc ?_;simp[u4];exact bQ
theorem e5(x:Tm)(hc:comp T_ c=some u5.strip):sQ T_ c ⟨[(2,.val (.int .i64 x.fr)),(3,.val (.int .i64 x.to)),(9,.val (.ref x.cells)),(11,.loc 11 0)],[(11,.box [.nils])],[],44,gl⟩ .normal ⟨[(11,.loc 11 0),(37,.val (.fn RR [.ref x.cells,.ref [.int .i64 x.fr],.ref [.int .i64 x.to]]))],[(11,.box [.nils])],[],44,gl⟩:=by
 refine mb hm _ hc ?_;have hW:=fn_within (gl:=gl) x;unfold Tm.cells sj at *;simp[u5];refine aa hW ?_;simp;exact bQ
theorem step{σ σ1:St}{a:Act}{w W:World}{S:aO}(hT:sQ T_ c σ .normal σ1)(hs:cE w S Ctx.nothing σ a W):c.wpIn (cF none) 0 T_ (fun e a' W'=>e=.normal/\cE w S Ctx.nothing σ1 a' W') a W:=by
 refine wpIn_mono (hT none w S _ a W hs) (fun e a' W' hl=>?_);cases e<;>first|exact hl.elim|(obtain⟨σ',⟨q1,q2⟩,_,q3⟩:=hl;exact⟨q1,q2 _ _ _ _ _ q3⟩)
end
theorem U4(args:Array Value)(w:World):(callFunc RR args).run T_ w=.ok (.enter RR args) w:=by
 obtain⟨r0,r1,a1,r3,c3,r4,a2,r6,a3,r8,r9,c9,hbody,_⟩:=ML;have hf:T_.funcs[RR]?=some Tryz.f373:=Tryz.func373;simp only[callFunc,Sem.run_bind,run_program,Result.andThen_ok,hf];rw[if_neg (by decide),if_neg (by simp[hbody])];rfl
theorem VP{gl:List (Nat×List IV)}(r:Ru)(s:Int)(x:Tm)(fx:FitT x)(h1:0<=x.fr)(h2:x.fr<=x.to)(h3:x.to<=86400)(hlen:(j0 x).length<10000000)(hset:Fn gl T_ 345 [r.iv,.int .i64 s] (.tuple [.agg x.cells,.bool true])) :
  zk gl T_ U3 [r.iv,.int .i64 s,.int .i64 x.fr,.int .i64 x.to] (.own 1 (yY (j0 x))):=by
 obtain⟨r0,r1,r2,r4,r5,ca,r7,r8,hbody,g0,g1,g2,g4,g5,ga,g7,g8⟩:=U2;have hfn:T_.funcs[U3]?=some Tryz.f312:=Tryz.func312;refine⟨⟨_,hfn,by decide⟩,fun w S vs hS hrep hgl=>.inl ⟨⟨_,hfn,by rw[hbody];rfl⟩,?_⟩⟩;refine callsIn_wide.1 (callsIn_of_wp_marks (n:=0) (F:=Fence.wide) hfn hbody trivial ?_ rfl);have hnt:Tryz.f312.ntmps=44:=rfl;have hw:Fence.wide=cF none:=rfl;rw[hw,hnt];have s0:=Sb (n:=44) hS hrep hgl (by simp);refine wpIn_seq (wpIn_mono (step (e0 r s x.fr x.to g0) s0) ?_);rintro e a1 W1 ⟨rfl,s1⟩;refine wpIn_seq (wpIn_mono (step (e1 r s x.fr x.to x hset g1) s1) ?_);rintro e a2 W2 ⟨rfl,s2⟩;refine wpIn_seq (wpIn_mono (step (e2 x h1 h2 h3 g2) s2) ?_);rintro e a3 W3 ⟨rfl,s3⟩;refine wpIn_seq (wpIn_mono (step (e4 x g4) s3) ?_);rintro e a4 W4 ⟨rfl,s4⟩;refine wpIn_seq (wpIn_seq (wpIn_mono (step (e5 x g5) s4) ?_));rintro e a5 W5 ⟨rfl,S5,μ5,β5,s5⟩
 obtain⟨μ6,β6,s6,hown⟩:=s5.outBox (d:=11) (env':=[(37,.val (.fn RR [.ref x.cells,.ref [.int .i64 x.fr],.ref [.int .i64 x.to]]))]) rfl rfl rfl rfl (fun k=>by
  simp only[aC,ac];cases h:37==k with
  |true=>rw[beq_iff_eq]at h;subst h;exact .inr ⟨_,rfl,rfl⟩
  |false=>exact .inl rfl)
 obtain⟨σ6,hσ6⟩:∃σ6:St,(⟨put [(37,.val (.fn RR [.ref x.cells,.ref [.int .i64 x.fr],.ref [.int .i64 x.to]]))] 11 (.loc 1000 0),sR 0 [],[],44,gl⟩:St)=σ6:=⟨_,rfl⟩;have hcaps:=s5.env 37;have hd5:a5.defers=[]:=s5.defers;have hz5:a5.tmps.size=44:=s5.size;obtain⟨vs5,hv5,hr5⟩:=hcaps
 have hev:a5.eval (.tmp 37)=.func (.func RR) #[] vs5:=by
  have hlt:37<a5.tmps.size:=by rw[hz5];decide
  simp[Array.getD,hlt]at hv5;simp[Act.eval,hlt,hv5]
 rw[hσ6]at s6 hown;have hob:σ6.objs=sR 0 []:=by rw[<-hσ6]
 have hn6:σ6.n=44:=by rw[<-hσ6]
 have hg6:σ6.gl=gl:=by rw[<-hσ6]
 have hr6:σ6.ro=[]:=by rw[<-hσ6]
 have he6:aC σ6.env 11=.loc 1000 0:=by rw[<-hσ6];rfl
 have base:=s6.rebase
 let M5:List Deferred->Ctx:=fun df=>⟨Ji σ6 β6,[(0,.loc 1000 0)],fun _=>a5.tmps.getD 11 Go.undef,df⟩
 have h11:ar W5 S5 μ6 (sR 0 []) (.loc 1000 0) (a5.tmps.getD 11 Go.undef):=by
  have:=base.env 11;rw[he6,hob]at this;exact this
 have h7:SimG W5 S5 (M5 []) (oA gl 0 [] []) a5 W5 S5 μ6 β6:=by
  have bo:=base.objs;have bi:=base.inj;have bw:=base.own;have bu:=base.unst;have bg:=base.glob;rw[hob]at bo bi bw bu;rw[hg6]at bg;rw[hr6]at bu;refine {defers:=hd5,size:=hz5,env:=fun k=>?_,objs:=bo,inj:=bi,own:=bw,unst:=bu,stab:=base.stab,ext:=base.ext,back:=base.back,kept:=base.kept,stay:=base.stay,hist:=fun p hp=>?_,far:=fun p hp d hd=>?_,glob:=bg }
  ·show ar W5 S5 μ6 (sR 0 []) (aC [(11,.loc 1000 0)] k) _;simp only[aC,ac];cases h:11==k with
   |true=>rw[beq_iff_eq]at h;subst h;exact h11
   |false=>trivial
  ·obtain rfl:p=(0,.loc 1000 0):=by simpa[M5]using hp
   exact h11
  ·obtain rfl:p=(0,.loc 1000 0):=by simpa[M5]using hp
   have hd:d<44:=hd;simp[SV.noRef];omega
 let I:JZ:=fun i Z W=>uL W5 S5 (M5 []) (oA gl i ((j0 x).take i) []) a5 Z W
 let B:Nat->(Nat->Prop)->Act->World->Prop:=fun i Z a W=>uL W5 S5 (M5 []) (oA gl i ((j0 x).take i) [(12,.val (.int .i64 ((j0 x).getD i 0)))]) a Z W
 have hI0:I 0 (fun _=>False) W5:=⟨S5,μ6,β6,h7,fun b hb=>hb.elim⟩;refine wpIn_block (FY (S:=S5) (p:=38) hev U4 (fun l0 e=>by cases e) rfl (Ko x fx W5 S5 vs5 s5.stab hr5) s5.stab I (fun i Z W W' h hk=>h.other hk) (Z0:=fun _=>False) (fun b hb=>hb.elim) hI0 B (fun i Z a W W' h hk=>h.other hk) ?_ ?_ ?_)
 ·rintro l i Z W hl ⟨Sx,μx,βx,k,hz⟩ hi;have kp:=k.put (d:=38) (sv:=.val (.int .i64 ((j0 x).getD i 0))) (v:=.int .i64 ((j0 x).getD i 0)) (show 38<44 by decide) rfl
  have hact:a5.put (some 38) (.int .i64 ((j0 x).getD i 0)) = {tmps:=a5.tmps.setIfInBounds 38 (LH x i),defers:=[] }:=by
   simp[Act.put,hd5,LH]
  rw[hact]at kp;exact uL.does (ea i ((j0 x).take i) _ ga) ⟨Sx,μx,βx,kp,hz⟩
 ·rintro l i Z b1 Wb hl hrec hB hi;refine wpIn_block (wpIn_mono (uL.does (e7 i ((j0 x).take i) _ g7 (by rw[List.length_take];omega)) hB) ?_);rintro e b2 Wc ⟨rfl,⟨Sx,μx,βx,k,hz⟩,hsame⟩
  have htk:(j0 x).take (i+1)=(j0 x).take i++[(j0 x).getD i 0]:=by
   rw[List.take_add_one,List.getElem?_eq_getElem hi];simp[List.getD,List.getElem?_eq_getElem hi]
  rw[<-htk]at k hz;exact⟨rfl,⟨Sx,μx,βx,k.back' (by simp[M5]) rfl hz5 hd5,hz⟩,hsame⟩
 ·rintro D Z W ⟨Sx,μx,βx,k,hz⟩ hD hsz;obtain⟨hZD,hWD⟩:=hD rfl
  have hk2:SimG W5 S5 (M5 [{target:=.collected D,args:=#[] }]) (oA gl (j0 x).length (j0 x) []) {a5 with defers:={target:=.collected D,args:=#[] }::a5.defers } W Sx μx βx:=by
   rw[List.take_length]at k;exact {defers:=by rw[hd5],size:=k.size,env:=k.env,objs:=k.objs,inj:=k.inj,own:=k.own,unst:=k.unst,stab:=k.stab,ext:=k.ext,back:=k.back,kept:=k.kept,stay:=k.stay,hist:=k.hist,far:=k.far,glob:=k.glob }
  rw[List.take_length]at hz;show Code.wpIn _ _ _ _ _ _ _;refine wpIn_seq (wpIn_mono (uL.does (e8 (j0 x).length (j0 x) g8) ⟨Sx,μx,βx,hk2,hz⟩) ?_);rintro e b3 W6 ⟨rfl,⟨Sy,μy,βy,ky,hzy⟩,hsame⟩;refine wpIn_ret ?_;have hW6:W6.heap[D]?=some (.deferred (some [])):=(hsame.1 D hZD).trans hWD;show LeavesInM _ _ _ _ _ _ _ _ _;rw[ky.defers];refine⟨by simp,.inl ⟨D,_,rfl,run_takeDeferred hW6,?_⟩⟩;obtain⟨k7,_⟩:=ky.other hzy (Jj hW6 Z hZD)
  have k8:SimG W5 S5 (M5 []) ⟨[(8,.own 1001 (j0 x).length)],sR (j0 x).length (yY (j0 x)),[],44,gl⟩ {tmps:=b3.tmps,defers:=[] } (W6.putObj D (.deferred none)) Sy μy βy:=
   {defers:=rfl,size:=k7.size,env:=k7.env,objs:=k7.objs,inj:=k7.inj,own:=k7.own,unst:=k7.unst,stab:=k7.stab,ext:=k7.ext,back:=k7.back,kept:=k7.kept,stay:=k7.stay,hist:=k7.hist,far:=k7.far,glob:=k7.glob }
  have F:=s6.unbase k8 rfl (fun p hp=>by simp[Ctx.nothing]at hp) (fun p hp=>by simp[Ctx.nothing]at hp);have hl1:ac (sR (j0 x).length (yY (j0 x))) 1001=some (.arr (j0 x).length 1 (yY (j0 x))):=rfl
  have hv:b3.tmps.getD 8 Go.undef=μy 1001:=by
   have:=F.env 8;exact(this _ _ _ hl1).2 rfl
  refine⟨b3.tmps.getD 8 Go.undef,by simp[results,Tryz.f312],?_⟩;refine⟨_,Sy,rfl,⟨βy 1001,?_,fun b hb=>⟨?_,fun off hS=>?_⟩⟩,F.ext,fun b o hb=>?_,F.stab,F.kept⟩
  ·rw[hv];exact F.objs 1001 _ hl1
  ·rcases F.own 1001 _ b hl1 hb with q|q
   ·exact q
   ·exact q.elim
  ·have:=(F.unst 1001 _ b off hl1 hb hS).1;simp at this
  ·rcases F.back b o hb with q|q|q
   ·exact .inl q
   ·exact .inr q
   ·exact q.elim
end Go.Vs.YtcjeehebikeghaaGreatDoor.Vt
