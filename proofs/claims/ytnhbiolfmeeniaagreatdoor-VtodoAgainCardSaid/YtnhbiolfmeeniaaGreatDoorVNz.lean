/- A part of a proof. No conditions. -/
import Derived.Test.YtnhbiolfmeeniaaGreatDoorVMz
import Derived.Test.YtnhbiolfmeeniaaGreatDoorRJz
set_option linter.all false
set_option maxRecDepth 100000
set_option maxHeartbeats 16000000
namespace Go.Vs.Y.Vt
open Go.Proofs Go.Vs.U8 Go.Vs.Pa Go.Vs.Nu
theorem H0(a:Array Value)(w:World):(callFunc 283 a).run T_ w=.ok (.enter 283 a) w:=by
 obtain⟨f,c,e,b,d,_⟩:=iE.ok;simp only[callFunc,Sem.run_bind,run_program,Result.andThen_ok,e];rw[if_neg (by simpa using b),if_neg (by simp[d])];rfl
theorem af6{ts a suf:List Int}{t:Int}(h:a++[t] <+: ts):a.length<ts.length/\ts.getD a.length 0=t:=by
 obtain⟨r,rfl⟩:=h;refine⟨by simp,?_⟩;simp[List.getD]
theorem Uk{f:Int->List Int}(l:List Int)(i:Nat):(l.take i).flatMap f <+: l.flatMap f:=by
 refine⟨(l.drop i).flatMap f,?_⟩;rw[<-List.flatMap_append,List.take_append_drop]
theorem ads{f:Int->Int}{q:Int->Bool}(l:List Int)(i:Nat):((l.take i).map f).filter q <+: (l.map f).filter q:=by
 refine⟨((l.drop i).map f).filter q,?_⟩;rw[<-List.filter_append,<-List.map_append,List.take_append_drop]
abbrev Wz(x:Tm)(i:Nat):Value:=.int .i64 ((i6 x).getD i 0)
section
variable {x:Tm} {l:Nat} {J:JZ} {S0:bb} {Wb:World} {Zb:Nat->Prop}
theorem lv3(R:FitT x){w y z:Code}(B:comp T_ w=some w8.strip)(A:comp T_ y=some w9.strip)(i:comp T_ z=some w9c.strip){ro:Option Nat}{h m s:Int}(C:0<=h/\h<=10000)(D:0<=m/\m<=10000)(E:0<=s/\s<=10000){pre:List Int}{a:Act}{W:World}
  (f:Xd J) (k:YZ T_ l S0 (Wz x) (i6 x).length J) (g:∀b o,S0 b o->b<Wb.heap.size) (d:pre++(if Wy x (h*3600+m*60+s)=true then [h*3600+m*60+s]else []) <+: i6 x)
  (F:At J S0 Wb Zb (eW x l [(5,.val (.ref [.int .i64 h])),(6,.val (.ref [.int .i64 m])),(7,.val (.int .i64 s))]) pre.length a W) :
  (Code.block 5 (.seq w (.seq y z))).wpIn (dr ro) 0 T_ (fun e H I=>e=.normal/\∃n,At J S0 Wb Zb n (pre++(if Wy x (h*3600+m*60+s)=true then [h*3600+m*60+s]else [])).length H I) a W:=by
 refine wpIn_block (wpIn_seq (wpIn_mono (F.does f g (d8 h m s C D E B)) ?_));rintro e S U ⟨rfl,p⟩;obtain⟨t,K⟩:=A_ (h*3600+m*60+s);rw[K]at p d |-;by_cases j:Wy x t=true
 .rw[if_pos j]at d |-;obtain⟨L,M⟩:=af6 (suf:=[]) d;obtain⟨V,X,rfl,q⟩:=ahL A;refine wpIn_seq (wpIn_mono (p.yreg f k g (d9y t j q) (by simp only[Wz,M]) L) ?_);rintro e N O ⟨rfl,u⟩;refine wpIn_mono (u.does f g (d9c i)) ?_;rintro e P Q ⟨rfl,v⟩;refine⟨rfl,eW x l [(52,.val (.bool false))],?_⟩;rw[List.length_append];exact v
 rw[if_neg j]at d |-;refine wpIn_seq (wpIn_mono (p.does f g (d9 t (by simpa using j) A)) ?_);rintro e N O ⟨rfl,u⟩;refine wpIn_mono (u.does f g (d9c i)) ?_;rintro e P Q ⟨rfl,v⟩;refine⟨rfl,eW x l [(52,.val (.bool false))],?_⟩;rw[List.append_nil];exact v
theorem lv2(p:FitT x){E F H I K:Code}(N:comp T_ E=some w6.strip)(q:comp T_ F=some wa3.strip)(O:comp T_ H=some w8.strip)(P:comp T_ I=some w9.strip)(u:comp T_ K=some w9c.strip){l':Nat}{h m:Int}(Q:0<=h/\h<=10000)(R:0<=m/\m<=10000){pre:List Int}{a:Act}{W:World}
  (d:Xd J) (v:YZ T_ l S0 (Wz x) (i6 x).length J) (f:∀b o,S0 b o->b<Wb.heap.size) (g:∃r,W.heap[l']?=some (.loop r)) (j:pre++sT x h m <+: i6 x)
  (S:At J S0 Wb Zb (eW x l [(5,.val (.ref [.int .i64 h])),(6,.val (.ref [.int .i64 m]))]) pre.length a W) :
  (Code.block 3 (.seq E (.block 4 (.rangeFunc (.tmp 30) #[31] F (.block 5 (.seq H (.seq I K))))))).wpIn (dr (some l')) 0 T_ (fun e U V=>e=.normal/\∃w,At J S0 Wb Zb w (pre++sT x h m).length U V) a W:=by
 refine wpIn_block (wpIn_seq (wpIn_mono (S.doesK d f (d6 h m N)) ?_));rintro e X L ⟨rfl,Y,Z⟩;obtain⟨r,M⟩:=g;have y:∃r,L.heap[l']?=some (.loop r):=⟨r,(Z.block l' (Array.getElem?_eq_some_iff.1 M).1 (fun x=>x)).trans M⟩
 let pi:Nat->Nat:=fun k=>(pre++(((u9 x.s x.as').take k).map fun s=>h*3600+m*60+s).filter (Wy x)).length
 have k0:At J S0 Wb Zb (eW x l [(5,.val (.ref [.int .i64 h])),(6,.val (.ref [.int .i64 m])),(30,.val (.fn 283 [.ref (xN x.s x.as')]))]) (pi 0) X L:=by
  have:pi 0=pre.length:=by simp[pi]
  rw[this];exact Y
 refine wpIn_block (wpIn_mono (At.range (m:=x.as'+x.s.length) (pi:=pi) (σb:=fun i=>eW x l [(5,.val (.ref [.int .i64 h])),(6,.val (.ref [.int .i64 m])),(7,.val (.int .i64 (UT x.s x.as' i)))]) d f rfl (show 30<53 by decide) (show 31<53 by decide) rfl H0 (GY x.s x.as' p.n3 p.l3) (fun l0 e=>by cases e;exact y) (fun i z=>da3 h m _ _ q) ?_ k0) ?_)
 .intro i z l2 A B a2 W2 _ C D;have n:UT x.s x.as' i∈u9 x.s x.as':=List.mem_of_getElem? (Jt z)
  have e:(((u9 x.s x.as').take (i+1)).map fun s=>h*3600+m*60+s).filter (Wy x)=(((u9 x.s x.as').take i).map fun s=>h*3600+m*60+s).filter (Wy x)++(if Wy x (h*3600+m*60+UT x.s x.as' i)=true then [h*3600+m*60+UT x.s x.as' i]else []):=by
   rw[LY z,List.map_append,List.filter_append];congr 1;simp only[List.map_cons,List.map_nil,List.filter_cons,List.filter_nil]
  have:=lv3 (Wb:=A) (Zb:=B) (ro:=some l2) p O P u Q R (p.s _ n) (pre:=pre++(((u9 x.s x.as').take i).map fun s=>h*3600+m*60+s).filter (Wy x)) d v C (by
   rw[List.append_assoc,<-e]
   exact((List.prefix_append_right_inj pre).2 (ads _ _)).trans j) D
  rw[List.append_assoc,<-e]at this;exact this
 rintro e a2 W2 ⟨rfl,D⟩;refine⟨rfl,eW x l [(5,.val (.ref [.int .i64 h])),(6,.val (.ref [.int .i64 m])),(30,.val (.fn 283 [.ref (xN x.s x.as')]))],?_⟩
 have:pi (x.as'+x.s.length)=(pre++sT x h m).length:=by
  show(pre++(((u9 x.s x.as').take (x.as'+x.s.length)).map fun s=>h*3600+m*60+s).filter (Wy x)).length=_;rw[Ry];rfl
 rw[<-this];exact D
theorem lv1(s:FitT x){Q R S w U y V X Y:Code}(h3:comp T_ Q=some w3.strip)(z:comp T_ R=some w3c.strip)(h4:comp T_ S=some w4.strip)(A:comp T_ w=some wa2.strip)(h6:comp T_ U=some w6.strip)(B:comp T_ y=some wa3.strip)(h8:comp T_ V=some w8.strip)(h9:comp T_ X=some w9.strip)(C:comp T_ Y=some w9c.strip){l':Nat}{h:Int}(Z:0<=h/\h<=10000){pre:List Int}{a:Act}{W:World}
  (d:Xd J) (D:YZ T_ l S0 (Wz x) (i6 x).length J) (f:∀b o,S0 b o->b<Wb.heap.size) (u:∃r,W.heap[l']?=some (.loop r)) (j:pre++hT x h <+: i6 x)
  (ha:At J S0 Wb Zb (eW x l [(5,.val (.ref [.int .i64 h]))]) pre.length a W) :
  (Code.block 1 (.seq (.seq Q R) (.seq S (.block 2 (.rangeFunc (.tmp 26) #[27] w (.block 3 (.seq U (.block 4 (.rangeFunc (.tmp 30) #[31] y (.block 5 (.seq V (.seq X Y)))))))))))).wpIn (dr (some l')) 0 T_ (fun e a' W'=>e=.normal/\∃E,At J S0 Wb Zb E (pre++hT x h).length a' W') a W:=by
 refine wpIn_block (wpIn_seq (wpIn_seq (wpIn_mono (ha.doesK d f (d3 h s Z h3)) ?_)));rintro e a1 W1 ⟨rfl,k1,q1⟩;refine wpIn_mono (k1.doesK d f (d3c h _ z)) ?_;by_cases g:(h+1)*3600<=x.fr\/x.to<=h*3600
 .have H:hT x h=[]:=by unfold hT;rw[if_pos g]
  rw[H,List.append_nil];rw[decide_eq_true g,if_pos rfl];rintro e w W2 ⟨rfl,I,q2⟩;simp only[Exit.then,Exit.inBlock,if_true];exact⟨trivial,_,I⟩
 have H:hT x h=mT x h:=by unfold hT;rw[if_neg g]
 rw[H]at j |-;rw[decide_eq_false g,if_neg (by decide)];rintro e w W2 ⟨rfl,I,q2⟩;refine wpIn_seq (wpIn_mono (I.doesK d f (d4 h h4)) ?_);rintro e y W3 ⟨rfl,k3,q3⟩;obtain⟨r,hr⟩:=u
 have K:∃r,W3.heap[l']?=some (.loop r):=by
  have g1:=(q1.block l' (Array.getElem?_eq_some_iff.1 hr).1 (fun x=>x)).trans hr;have g2:=(q2.block l' (Array.getElem?_eq_some_iff.1 g1).1 (fun x=>x)).trans g1;exact⟨r,(q3.block l' (Array.getElem?_eq_some_iff.1 g2).1 (fun x=>x)).trans g2⟩
 let pi:Nat->Nat:=fun k=>(pre++((u9 x.m x.am).take k).flatMap (sT x h)).length
 have k0:At J S0 Wb Zb (eW x l [(5,.val (.ref [.int .i64 h])),(26,.val (.fn 283 [.ref (xN x.m x.am)]))]) (pi 0) y W3:=by
  have:pi 0=pre.length:=by simp[pi]
  rw[this];exact k3
 refine wpIn_block (wpIn_mono (At.range (m:=x.am+x.m.length) (pi:=pi) (σb:=fun i=>eW x l [(5,.val (.ref [.int .i64 h])),(6,.val (.ref [.int .i64 (UT x.m x.am i)]))]) d f rfl (show 26<53 by decide) (show 27<53 by decide) rfl H0 (GY x.m x.am s.n2 s.l2) (fun l0 e=>by cases e;exact K) (fun i L=>da2 h _ _ A) ?_ k0) ?_)
 .intro i L l2 M N a4 W4 q O P;have v:UT x.m x.am i∈u9 x.m x.am:=List.mem_of_getElem? (Jt L)
  have e:((u9 x.m x.am).take (i+1)).flatMap (sT x h)=((u9 x.m x.am).take i).flatMap (sT x h)++sT x h (UT x.m x.am i):=by
   rw[LY L,List.flatMap_append];simp
  have:=lv2 (Wb:=M) (Zb:=N) (l':=l2) s h6 B h8 h9 C Z (s.m _ v) (pre:=pre++((u9 x.m x.am).take i).flatMap (sT x h)) d D O q (by
   rw[List.append_assoc,<-e]
   exact((List.prefix_append_right_inj pre).2 (Uk _ _)).trans j) P
  rw[List.append_assoc,<-e]at this;exact this
 rintro e a4 W4 ⟨rfl,P⟩;refine⟨rfl,eW x l [(5,.val (.ref [.int .i64 h])),(26,.val (.fn 283 [.ref (xN x.m x.am)]))],?_⟩
 have:pi (x.am+x.m.length)=(pre++mT x h).length:=by
  show(pre++((u9 x.m x.am).take (x.am+x.m.length)).flatMap (sT x h)).length=_;rw[Ry];rfl
 rw[<-this];exact P
end
theorem Ul(x:Tm)(y:FitT x):VG T_ nW1 [.ref x.cells,.ref [.int .i64 x.fr],.ref [.int .i64 x.to]] (i6 x).length (Wz x):=by
 intro W S R X u l J Z A Y hs hZ a B h0;obtain⟨r0,r1,a1,r3,c3,r4,a2,r6,a3,r8,r9,c9,g,g0,g1,C,g3,E,g4,H,g6,I,g8,g9,K⟩:=XU
 have h:br A S [.yld l,.ref x.cells,.ref [.int .i64 x.fr],.ref [.int .i64 x.to]] ((#[Value.func (.yield l) #[] #[]]++R).toList):=by
  refine⟨Value.func (.yield l) #[] #[],R.toList,by simp,rfl,?_⟩;exact br.mono Y (fun _ _ x=>x) _ _ u
 have f:∀b o,S b o->b<A.heap.size:=fun b o z=>Nat.lt_of_lt_of_le (X b o z) hs
 obtain⟨S',a',b',j⟩:=aet (gl:=[]) (n:=53) f h (by simp) (by simp);refine callsIn_wide.1 (callsIn_of_wp_marks (n:=0) (F:=Fence.wide) Tryz.func274 g trivial ?_ rfl);have L:Tryz.f274.ntmps=53:=rfl;have hw:Fence.wide=dr none:=rfl;rw[hw,L]
 have A0:=At.base (S0:=S) (J:=J) (p:=0) h0 hZ (uq.of j rfl rfl) (fun b o z=>by
  rcases j.back b o z with q|q|q
  .exact .inl q
  .have:=j.stab b o z;omega
  exact q.elim)
 refine wpIn_seq (wpIn_mono (A0.does a f (d0 g0)) ?_);rintro e b1 W2 ⟨rfl,k1⟩;refine wpIn_seq (wpIn_mono (k1.does a f (d1 g1)) ?_);rintro e b2 W3 ⟨rfl,k2⟩
 let pi:Nat->Nat:=fun k=>(((u9 x.h x.ah).take k).flatMap (hT x)).length
 have k0:At J S A Z (eW x l [(11,.val (.fn 283 [.ref (xN x.h x.ah)]))]) (pi 0) b2 W3:=by
  have:pi 0=0:=by simp[pi]
  rw[this];exact k2
 refine wpIn_block (wpIn_mono (At.range (m:=x.ah+x.h.length) (pi:=pi) (σb:=fun i=>eW x l [(5,.val (.ref [.int .i64 (UT x.h x.ah i)]))]) a f rfl (show 11<53 by decide) (show 12<53 by decide) rfl H0 (GY x.h x.ah y.n1 y.l1) (fun l0 e=>by cases e) (fun i M=>da1 _ _ C) ?_ k0) ?_)
 .intro i M l2 N O a4 W4 s P k4;have w:UT x.h x.ah i∈u9 x.h x.ah:=List.mem_of_getElem? (Jt M)
  have e:((u9 x.h x.ah).take (i+1)).flatMap (hT x)=((u9 x.h x.ah).take i).flatMap (hT x)++hT x (UT x.h x.ah i):=by
   rw[LY M,List.flatMap_append];simp
  have:=lv1 (Wb:=N) (Zb:=O) (l':=l2) y g3 E g4 H g6 I g8 g9 K (y.h _ w) (pre:=((u9 x.h x.ah).take i).flatMap (hT x)) a B P s (by
   rw[<-e]
   exact Uk _ _) k4
  rw[<-e]at this;exact this
 rintro e b3 W4 ⟨rfl,Z',D,U,j2,j3,V⟩;simp only[Exit.inBlock]
 have Q:pi (x.ah+x.h.length)=(i6 x).length:=by
  show(((u9 x.h x.ah).take (x.ah+x.h.length)).flatMap (hT x)).length=_;rw[Ry];rfl
 rw[Q]at U;show LeavesInM _ _ _ _ _ _ _ _ _;rw[j3];refine⟨by simp,.inl ⟨D,_,rfl,run_takeDeferred V,?_⟩⟩;exact⟨_,results_none rfl _ _ _,⟨_,rfl⟩,_,a _ _ _ _ U (T3 V Z' j2)⟩
end Go.Vs.Y.Vt
namespace Go.Vs.Y.Vt
open Go.Proofs Go.Vs.U8 Go.Vs.Pa Go.Vs.Nu
def u0:VCode:=rt [o1 4 (.box (tm 0)),o1 8 (.move (.const .nils))] []
def u1:VCode:=rt [o1 14 (.load (some 15) (tm 4)),o1 15 (.move (tm 1)),o1 16 (.call 253 [tm 14,tm 15]),o1 13 (.move (tm 16)),o1 17 (.extract (tm 13) 0),o1 18 (.extract (tm 13) 1),o1 9 (.alloc [.nils,.val (.int .i64 0),.nils,.val (.int .i64 0),.nils,.val (.int .i64 0)]),o3 (.store 6 (tm 9) (tm 17)),o1 10 (.move (tm 18))] []
def u2:VCode:=.seq (rt [o1 19 (.move (tm 10)),o1 20 (.un .not (tm 19)),o1 21 (.move (tm 20)),o2 22 (.move (tm 2)) 21 false,o2 23 (.bin .lss (tm 22) (ci 0)) 21 false,o1 24 (.pick (tm 21) (cb true) (tm 23)),o1 25 (.move (tm 24)),o2 26 (.move (tm 2)) 25 false,o2 27 (.move (tm 3)) 25 false,o2 28 (.bin .gtr (tm 26) (tm 27)) 25 false,o1 29 (.pick (tm 25) (cb true) (tm 28)),o1 30 (.move (tm 29)),o2 31 (.move (tm 3)) 30 false,o2 32 (.bin .gtr (tm 31) (ci 86400)) 30 false,o1 33 (.pick (tm 30) (cb true) (tm 32))] []) (.cond (tm 33) (.seq (rt [o1 8 (.move (.const .nils))] []) .ret) .skip)
def u4:VCode:=rt [o1 11 (.alloc [.nils])] []
def u5:VCode:=rt [o1 34 (.load (some 6) (tm 9)),o1 35 (.move (tm 2)),o1 36 (.move (tm 3)),o1 37 (.call 254 [tm 34,tm 35,tm 36])] []
def ua:VCode:=rt [o1 12 (.move (tm 38))] []
def u7:VCode:=rt [o1 39 (.load none (tm 11)),o1 40 (.move (tm 12)),o1 41 (.buildSlice 1 1 [.val (.int .i64 0)] [(0,1,tm 40)]),o1 42 (.append 3 1 8 (tm 39) (tm 41)),o3 (.store 1 (tm 11) (tm 42))] []
def u8:VCode:=rt [o1 43 (.load none (tm 11)),o1 8 (.move (tm 43))] []
theorem af7:∃b e f g h a i j,Tryz.f214.body=some (.seq b (.seq e (.seq f (.seq g (.seq (.seq h (.block 0 (.rangeFunc (.tmp 37) #[38] a (.block 1 i)))) (.seq j .ret))))))/\
  comp T_ b=some u0.strip/\comp T_ e=some u1.strip/\comp T_ f=some u2.strip/\comp T_ g=some u4.strip/\comp T_ h=some u5.strip/\comp T_ a=some ua.strip/\comp T_ i=some u7.strip/\comp T_ j=some u8.strip:=
 ⟨_,_,_,_,_,_,_,_,rfl,by kernel_rfl,by kernel_rfl,by kernel_rfl,by kernel_rfl,by kernel_rfl,by kernel_rfl,by kernel_rfl,by kernel_rfl⟩
end Go.Vs.Y.Vt
namespace Go.Vs.Y.Vt
open Go.Proofs Go.Vs.U8 Go.Vs.Pa Go.Vs.Nu Go.Vs.Mo Go.Vs.Y.Rc
theorem fn_within{gl:List (Nat×List IV)}(x:Tm):Fn gl T_ 254 [.agg x.cells,.int .i64 x.fr,.int .i64 x.to] (.fn nW1 [.ref x.cells,.ref [.int .i64 x.fr],.ref [.int .i64 x.to]]):=by
 refine ae hm p9 (by simp) ?_;simp[jl,Tm.cells,xN,nW1]
def aaa:Nat:=214
def yo(l:List Int):List (List IV):=l.map fun t=>[.int .i64 t]
def oA(gl:List (Nat×List IV))(n:Nat)(l:List Int)(a:List (Nat×SV)):St:=⟨[(11,.loc 1000 0)]++a,zf n (yo l),[],44,gl⟩
section
variable {gl:List (Nat×List IV)} {c:Code}
theorem e7(n:Nat)(l:List Int)(t:Int)(a:comp T_ c=some u7.strip)(b:l.length<10000000):ze T_ c (oA gl n l [(12,.val (.int .i64 t))]) .normal ⟨[],zf (n+1) (yo (l++[t])),[],44,gl⟩:=by
 refine qv hm _ a ?_;simp[u7,oA,zf,yo];refine⟨by omega,?_⟩;exact bA
theorem ea(n:Nat)(l:List Int)(t:Int)(a:comp T_ c=some ua.strip):ze T_ c {oA gl n l []with env:=put (oA gl n l []).env 38 (.val (.int .i64 t)) } .normal (oA gl n l [(12,.val (.int .i64 t))]):=by
 refine qv hm _ a ?_;simp[ua,oA,zf];exact bA
theorem e8(n:Nat)(l:List Int)(a:comp T_ c=some u8.strip):ze T_ c (oA gl n l []) .normal ⟨[(8,.own 1001 n)],zf n (yo l),[],44,gl⟩:=by
 refine qv hm _ a ?_;simp[u8,oA,zf];exact bA
theorem e0(r:Ru)(s f t:Int)(g:comp T_ c=some u0.strip):ze T_ c (st0 gl [r.iv,.int .i64 s,.int .i64 f,.int .i64 t] 44) .normal ⟨[(1,.val (.int .i64 s)),(2,.val (.int .i64 f)),(3,.val (.int .i64 t)),(4,.loc 4 0)],[(4,.box ((cells r).map .val))],[],44,gl⟩:=by
 refine qv hm _ g ?_;simp[u0,Ru.iv,cells];exact bA
theorem e1(r:Ru)(s f t:Int)(x:Tm)(q:Fn gl T_ 253 [r.iv,.int .i64 s] (.tuple [.agg x.cells,.bool true]))(u:comp T_ c=some u1.strip):ze T_ c ⟨[(1,.val (.int .i64 s)),(2,.val (.int .i64 f)),(3,.val (.int .i64 t)),(4,.loc 4 0)],[(4,.box ((cells r).map .val))],[],44,gl⟩ .normal ⟨[(2,.val (.int .i64 f)),(3,.val (.int .i64 t)),(9,.val (.ref x.cells)),(10,.val (.bool true))],[],[],44,gl⟩:=by
 refine qv hm _ u ?_;unfold Ru.iv cells Tm.cells xN at *;simp[u1];refine aa q ?_;simp;exact cJ.trans (Ef (k:=9) (id:=9) (cells:=[.slice (x.h.map fun n=>[.int .i64 n]),.int .i64 x.ah,.slice (x.m.map fun n=>[.int .i64 n]),.int .i64 x.am,.slice (x.s.map fun n=>[.int .i64 n]),.int .i64 x.as']) (by simp[aE,ac]) (by simp[ac])) (an rfl rfl (by simp[bj,aE,ac,put]) (by simp[bZ,ac]) (by simp[bX]))
theorem e2(x:Tm)(D:0<=x.fr)(E:x.fr<=x.to)(H:x.to<=86400)(q:comp T_ c=some u2.strip):ze T_ c ⟨[(2,.val (.int .i64 x.fr)),(3,.val (.int .i64 x.to)),(9,.val (.ref x.cells)),(10,.val (.bool true))],[],[],44,gl⟩ .normal ⟨[(2,.val (.int .i64 x.fr)),(3,.val (.int .i64 x.to)),(9,.val (.ref x.cells))],[],[],44,gl⟩:=by
 refine qv hm _ q ?_;have u:¬x.fr<0:=by omega
 have B:¬x.to<x.fr:=by omega
 have C:¬86400<x.to:=by omega
 simp[u2,u,B,C];exact bA
theorem e4(x:Tm)(a:comp T_ c=some u4.strip):ze T_ c ⟨[(2,.val (.int .i64 x.fr)),(3,.val (.int .i64 x.to)),(9,.val (.ref x.cells))],[],[],44,gl⟩ .normal ⟨[(2,.val (.int .i64 x.fr)),(3,.val (.int .i64 x.to)),(9,.val (.ref x.cells)),(11,.loc 11 0)],[(11,.box [.nils])],[],44,gl⟩:=by
 refine qv hm _ a ?_;simp[u4];exact bA
theorem e5(x:Tm)(a:comp T_ c=some u5.strip):ze T_ c ⟨[(2,.val (.int .i64 x.fr)),(3,.val (.int .i64 x.to)),(9,.val (.ref x.cells)),(11,.loc 11 0)],[(11,.box [.nils])],[],44,gl⟩ .normal ⟨[(11,.loc 11 0),(37,.val (.fn nW1 [.ref x.cells,.ref [.int .i64 x.fr],.ref [.int .i64 x.to]]))],[(11,.box [.nils])],[],44,gl⟩:=by
 refine qv hm _ a ?_;have b:=fn_within (gl:=gl) x;unfold Tm.cells xN at *;simp[u5];refine aa b ?_;simp;exact bA
theorem step{f b:St}{a:Act}{w W:World}{S:bb}(hT:ze T_ c f .normal b)(j:gc w S Ctx.nothing f a W):c.wpIn (dr none) 0 T_ (fun e g h=>e=.normal/\gc w S Ctx.nothing b g h) a W:=by
 refine wpIn_mono (hT none w S _ a W j) (fun e g h i=>?_);cases e<;>first|exact i.elim|(obtain⟨k,⟨m,o⟩,_,q⟩:=i;exact⟨m,o _ _ _ _ _ q⟩)
end
theorem af8(args:Array Value)(w:World):(callFunc nW1 args).run T_ w=.ok (.enter nW1 args) w:=by
 obtain⟨e,f,g,h,i,j,k,m,o,q,s,u,a,_⟩:=XU;have b:T_.funcs[nW1]?=some Tryz.f274:=Tryz.func274;simp only[callFunc,Sem.run_bind,run_program,Result.andThen_ok,b];rw[if_neg (by decide),if_neg (by simp[a])];rfl
theorem WA{gl:List (Nat×List IV)}(r:Ru)(s:Int)(x:Tm)(fx:FitT x)(h1:0<=x.fr)(h2:x.fr<=x.to)(h3:x.to<=86400)(z':(i6 x).length<10000000)(Y:Fn gl T_ 253 [r.iv,.int .i64 s] (.tuple [.agg x.cells,.bool true])) :
  CV gl T_ aaa [r.iv,.int .i64 s,.int .i64 x.fr,.int .i64 x.to] (.own 1 (yo (i6 x))):=by
 obtain⟨r0,r1,r2,r4,r5,ca,r7,r8,z,g0,g1,g2,g4,g5,ga,g7,g8⟩:=af7;have N:T_.funcs[aaa]?=some Tryz.f214:=Tryz.func214;refine⟨⟨_,N,by decide⟩,fun w S vs hS a' m'=>.inl ⟨⟨_,N,by rw[z];rfl⟩,?_⟩⟩;refine callsIn_wide.1 (callsIn_of_wp_marks (n:=0) (F:=Fence.wide) N z trivial ?_ rfl);have n':Tryz.f214.ntmps=44:=rfl;have hw:Fence.wide=dr none:=rfl;rw[hw,n'];have s0:=aet (n:=44) hS a' m' (by simp);refine wpIn_seq (wpIn_mono (step (e0 r s x.fr x.to g0) s0) ?_);rintro e a1 W1 ⟨rfl,s1⟩;refine wpIn_seq (wpIn_mono (step (e1 r s x.fr x.to x Y g1) s1) ?_);rintro e a2 W2 ⟨rfl,s2⟩;refine wpIn_seq (wpIn_mono (step (e2 x h1 h2 h3 g2) s2) ?_);rintro e a3 W3 ⟨rfl,s3⟩;refine wpIn_seq (wpIn_mono (step (e4 x g4) s3) ?_);rintro e a4 W4 ⟨rfl,s4⟩;refine wpIn_seq (wpIn_seq (wpIn_mono (step (e5 x g5) s4) ?_));rintro e y C ⟨rfl,A,B',C',V⟩
 obtain⟨E,O,s6,b'⟩:=V.outBox (d:=11) (env':=[(37,.val (.fn nW1 [.ref x.cells,.ref [.int .i64 x.fr],.ref [.int .i64 x.to]]))]) rfl rfl rfl rfl (fun k=>by
  simp only[aE,ac];cases h:37==k with
  |true=>rw[beq_iff_eq]at h;subst h;exact .inr ⟨_,rfl,rfl⟩
  |false=>exact .inl rfl)
 obtain⟨g,f⟩:∃g:St,(⟨put [(37,.val (.fn nW1 [.ref x.cells,.ref [.int .i64 x.fr],.ref [.int .i64 x.to]]))] 11 (.loc 1000 0),zf 0 [],[],44,gl⟩:St)=g:=⟨_,rfl⟩;have P:=V.env 37;have H:y.defers=[]:=V.defers;have Q:y.tmps.size=44:=V.size;obtain⟨c',d',o'⟩:=P
 have p':y.eval (.tmp 37)=.func (.func nW1) #[] c':=by
  have e':37<y.tmps.size:=by rw[Q];decide
  simp[Array.getD,e']at d';simp[Act.eval,e',d']
 rw[f]at s6 b';have f':g.objs=zf 0 []:=by rw[<-f]
 have D':g.n=44:=by rw[<-f]
 have q':g.gl=gl:=by rw[<-f]
 have r':g.ro=[]:=by rw[<-f]
 have s':aE g.env 11=.loc 1000 0:=by rw[<-f];rfl
 have base:=s6.rebase
 let L:List Deferred->Ctx:=fun df=>⟨VD g O,[(0,.loc 1000 0)],fun _=>y.tmps.getD 11 Go.undef,df⟩
 have g':au C A E (zf 0 []) (.loc 1000 0) (y.tmps.getD 11 Go.undef):=by
  have:=base.env 11;rw[s',f']at this;exact this
 have h7:SimG C A (L []) (oA gl 0 [] []) y C A E O:=by
  have bo:=base.objs;have bi:=base.inj;have bw:=base.own;have bu:=base.unst;have bg:=base.glob;rw[f']at bo bi bw bu;rw[q']at bg;rw[r']at bu;refine {defers:=H,size:=Q,env:=fun k=>?_,objs:=bo,inj:=bi,own:=bw,unst:=bu,stab:=base.stab,ext:=base.ext,back:=base.back,kept:=base.kept,stay:=base.stay,hist:=fun p R=>?_,far:=fun p R d hd=>?_,glob:=bg }
  .show au C A E (zf 0 []) (aE [(11,.loc 1000 0)] k) _;simp only[aE,ac];cases h:11==k with
   |true=>rw[beq_iff_eq]at h;subst h;exact g'
   |false=>trivial
  .obtain rfl:p=(0,.loc 1000 0):=by simpa[L]using R
   exact g'
  obtain rfl:p=(0,.loc 1000 0):=by simpa[L]using R
  have hd:d<44:=hd;simp[SV.noRef];omega
 let I:JZ:=fun i Z W=>Iu C A (L []) (oA gl i ((i6 x).take i) []) y Z W
 let B:Nat->(Nat->Prop)->Act->World->Prop:=fun i Z a W=>Iu C A (L []) (oA gl i ((i6 x).take i) [(12,.val (.int .i64 ((i6 x).getD i 0)))]) a Z W
 have t':I 0 (fun _=>False) C:=⟨A,E,O,h7,fun b M=>M.elim⟩;refine wpIn_block (OW (S:=A) (p:=38) p' af8 (fun l0 e=>by cases e) rfl (Ul x fx C A c' V.stab o') V.stab I (fun i Z W W' h hk=>h.other hk) (Z0:=fun _=>False) (fun b M=>M.elim) t' B (fun i Z a W W' h hk=>h.other hk) ?_ ?_ ?_)
 .rintro l i Z W hl ⟨X,m,u,k,U⟩ hi;have kp:=k.put (d:=38) (sv:=.val (.int .i64 ((i6 x).getD i 0))) (v:=.int .i64 ((i6 x).getD i 0)) (show 38<44 by decide) rfl
  have h':y.put (some 38) (.int .i64 ((i6 x).getD i 0)) = {tmps:=y.tmps.setIfInBounds 38 (Wz x i),defers:=[] }:=by
   simp[Act.put,H,Wz]
  rw[h']at kp;exact Iu.does (ea i ((i6 x).take i) _ ga) ⟨X,m,u,kp,U⟩
 .rintro l i Z b1 Wb hl A' hB hi;refine wpIn_block (wpIn_mono (Iu.does (e7 i ((i6 x).take i) _ g7 (by rw[List.length_take];omega)) hB) ?_);rintro e b2 Wc ⟨rfl,⟨X,m,u,k,U⟩,j⟩
  have u':(i6 x).take (i+1)=(i6 x).take i++[(i6 x).getD i 0]:=by
   rw[List.take_add_one,List.getElem?_eq_getElem hi];simp[List.getD,List.getElem?_eq_getElem hi]
  rw[<-u']at k U;exact⟨rfl,⟨X,m,u,k.back' (by simp[L]) rfl Q H,U⟩,j⟩
 rintro D Z W ⟨X,m,u,k,U⟩ hD E';obtain⟨i',v'⟩:=hD rfl
 have w':SimG C A (L [{target:=.collected D,args:=#[] }]) (oA gl (i6 x).length (i6 x) []) {y with defers:={target:=.collected D,args:=#[] }::y.defers } W X m u:=by
  rw[List.take_length]at k;exact {defers:=by rw[H],size:=k.size,env:=k.env,objs:=k.objs,inj:=k.inj,own:=k.own,unst:=k.unst,stab:=k.stab,ext:=k.ext,back:=k.back,kept:=k.kept,stay:=k.stay,hist:=k.hist,far:=k.far,glob:=k.glob }
 rw[List.take_length]at U;show Code.wpIn _ _ _ _ _ _ _;refine wpIn_seq (wpIn_mono (Iu.does (e8 (i6 x).length (i6 x) g8) ⟨X,m,u,w',U⟩) ?_);rintro e b3 W6 ⟨rfl,⟨Sy,j',k',ky,x'⟩,j⟩;refine wpIn_ret ?_;have l':W6.heap[D]?=some (.deferred (some [])):=(j.1 D i').trans v';show LeavesInM _ _ _ _ _ _ _ _ _;rw[ky.defers];refine⟨by simp,.inl ⟨D,_,rfl,run_takeDeferred l',?_⟩⟩;obtain⟨k7,_⟩:=ky.other x' (T3 l' Z i')
 have k8:SimG C A (L []) ⟨[(8,.own 1001 (i6 x).length)],zf (i6 x).length (yo (i6 x)),[],44,gl⟩ {tmps:=b3.tmps,defers:=[] } (W6.putObj D (.deferred none)) Sy j' k':=
  {defers:=rfl,size:=k7.size,env:=k7.env,objs:=k7.objs,inj:=k7.inj,own:=k7.own,unst:=k7.unst,stab:=k7.stab,ext:=k7.ext,back:=k7.back,kept:=k7.kept,stay:=k7.stay,hist:=k7.hist,far:=k7.far,glob:=k7.glob }
 have F:=s6.unbase k8 rfl (fun p R=>by simp[Ctx.nothing]at R) (fun p R=>by simp[Ctx.nothing]at R);have K:ac (zf (i6 x).length (yo (i6 x))) 1001=some (.arr (i6 x).length 1 (yo (i6 x))):=rfl
 have hv:b3.tmps.getD 8 Go.undef=j' 1001:=by
  have:=F.env 8;exact(this _ _ _ K).2 rfl
 refine⟨b3.tmps.getD 8 Go.undef,by simp[results,Tryz.f214],?_⟩;refine⟨_,Sy,rfl,⟨k' 1001,?_,fun b M=>⟨?_,fun y' hS=>?_⟩⟩,F.ext,fun b o M=>?_,F.stab,F.kept⟩
 .rw[hv];exact F.objs 1001 _ K
 .rcases F.own 1001 _ b K M with q|q
  .exact q
  exact q.elim
 .have:=(F.unst 1001 _ b y' K M hS).1;simp at this
 rcases F.back b o M with q|q|q
 .exact .inl q
 .exact .inr q
 exact q.elim
end Go.Vs.Y.Vt
