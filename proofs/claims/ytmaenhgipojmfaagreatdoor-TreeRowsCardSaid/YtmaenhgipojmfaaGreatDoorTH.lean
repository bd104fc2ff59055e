/- The walk of what nodes are printed as. No conditions. -/
import Derived.Test.YtmaenhgipojmfaaGreatDoorTG
set_option linter.unusedVariables false
set_option linter.unusedSimpArgs false
namespace Go.Vs.U8
end Go.Vs.U8
namespace Go.Vs.Pa
end Go.Vs.Pa
namespace Go.Vs.Fd
end Go.Vs.Fd
namespace Go.Vs.Tr
end Go.Vs.Tr
namespace Go.Vs.YtmaenhgipojmfaaGreatDoor
set_option linter.unusedSimpArgs false
set_option linter.unusedVariables false
open Go.Proofs Go.Vs.U8 Go.Vs.Pa Go.Vs.Fd Go.Vs.Tr
set_option maxRecDepth 100000
set_option maxHeartbeats 16000000
theorem x9 (l:List Str) (s:Str):ts (l++[s])=ts l++[[.str s]]:=by simp[ts]
def mv (L:cn) (s:List Nat):List Str:=s.map fun k=>gk (.fin ((L[k]?).elim [] Nd.n))
def uF (L:cn) (O:List Nat) (T:List Str) (v w h:Nat):List (Nat×Ob):=[(1000,.box [.view 1003 v 0 h]),(1001,.box [.own 1004 w]),(1002,.box [.val (.slice (gL L))]),(1003,.arr v 1 (kR O)),(1004,.arr w 1 (ts T))]
theorem KC (n:Str):gk (.fin n)=[69,78,68,58]++n:=by
 simp[gk,CJ,co,fT,aq]
theorem KD (n:Str):gk (.beg n)=[66,69,71,73,78,58]++n:=by
 simp[gk,CJ,co,eE,aq]
theorem Im (up:Int) (k:Nat) (r:List Nat):ef up (k::r)=if (k:Int)=up then [] else k::ef up r:=rfl
theorem In (up:Int) (k:Nat) (r:List Nat):b9 up (k::r)=if (k:Int)=up then k::r else b9 up r:=rfl
theorem mw {O:List Nat} {k:Nat} {r:List Nat} {h:Nat} (ho:O.take h=(k::r).reverse) (hh:h≤O.length):h=r.length+1∧O[h-1]?=some k∧O.take (h-1)=r.reverse:=by
 have hl:=congrArg List.length ho
 rw[List.length_take,List.length_reverse,List.length_cons] at hl
 have e:h=r.length+1:=by omega
 refine ⟨e,?_,?_⟩
 ·have:(O.take h)[h-1]?=some k:=by
   rw[ho,List.reverse_cons,List.getElem?_append_right (by rw[List.length_reverse];omega),List.length_reverse,show h-1-r.length=0 by omega];rfl
  rw[List.getElem?_take_of_lt (by omega)] at this
  exact this
 ·have:(O.take h).take (h-1)=((k::r).reverse).take (h-1):=by rw[ho]
  rw[List.take_take,Nat.min_eq_left (by omega),List.reverse_cons,List.take_append_of_le_length (by rw[List.length_reverse];omega),List.take_of_length_le (l:=r.reverse) (by rw[List.length_reverse];omega)] at this
  exact this
theorem EF (L:cn) (O:List Nat) (op:List Nat) (T:List Str) (v w h:Nat) (up:Int) (hL:L.length < 100000) (hO:O.length < 100000) (hT:T.length < 100000) (hh:h≤O.length) (ho:O.take h=op.reverse) (hlt:∀ k∈op,k < L.length) (hn:∀ x∈L,x.n.length < 100000):zx G Tryz.prog kC
  {args:=[.val (.int .i64 up),.loc 1000 0,.loc 1001 0,.loc 1002 0],objs:=uF L O T v w h,res:=.val (.tuple []),objs':=uF L O (T++mv L (ef up op)) v (w+(ef up op).length) (b9 up op).length,ro':=[] }:=by
 refine bA hm wK (by simp) rfl ?_
 obtain ⟨R,hR⟩:∃ R,T++mv L (ef up op)=R:=⟨_,rfl⟩
 obtain ⟨W,hW⟩:∃ W,w+(ef up op).length=W:=⟨_,rfl⟩
 obtain ⟨K,hK⟩:∃ K,(b9 up op).length=K:=⟨_,rfl⟩
 rw[hR,hW,hK]
 have hhl:h=op.length:=by
  have:=congrArg List.length ho
  rw[List.length_take,List.length_reverse] at this
  omega
 simp[pF,pG,uO,uF]
 refine aA hm [] (fun _:Nat×List Str×List Nat=>[]) (fun x=>[(1000,.box [.view 1003 v 0 x.2.2.length]),(1001,.box [.own 1004 x.1]),(1004,.arr x.1 1 (ts x.2.1))]) (fun x=>x.2.1++mv L (ef up x.2.2)=R∧x.1+(ef up x.2.2).length=W∧(b9 up x.2.2).length=K∧O.take x.2.2.length=x.2.2.reverse∧x.2.2.length≤h∧(∀ k∈x.2.2,k < L.length)∧x.2.1.length+x.2.2.length≤200000) (fun x=>x.2.2.length) (w,T,op) ⟨hR,hW,hK,by rw[←hhl];exact ho,by simp only;omega,hlt,by simp only;omega⟩ ?_ ?_
 ·simp[hhl]
  exact aQ
 rintro ⟨w',T',p⟩ ⟨h1,h2,h3,h4,h5,h6,h7⟩
 simp only at h1 h2 h3 h4 h5 h6 h7
 simp
 cases p with
 | nil=>
  simp only[ef,b9,List.length_nil,mv,List.map_nil,List.append_nil,Nat.add_zero] at h1 h2 h3
  subst h1
  subst h2
  subst h3
  simp
  refine ⟨⟨[],uF L O T' v w' 0,[],37,G⟩,[],?_,rfl,rfl,rfl⟩
  simp[uF]
  exact aQ
 | cons k r=>
  have hk:=h6 k (by simp)
  obtain ⟨x,hx⟩:∃ x,L[k]=x:=⟨_,rfl⟩
  have hg:=bC hk hx
  have hxn:=hn x (hx▸List.getElem_mem hk)
  obtain ⟨t1,t2,t3⟩:=mw h4 (by omega)
  rw[List.length_cons] at h5 h7 t2 t3
  simp only[Nat.add_sub_cancel] at t2 t3
  have hgo:(kR O)[r.length]?=some [.int .i64 (k:Nat)]:=by
   obtain ⟨q1,q2⟩:=List.getElem?_eq_some_iff.1 t2
   exact x8 q1 q2
  rw[Im] at h1 h2
  rw[In] at h3
  by_cases e:(k:Int)=up
  ·rw[if_pos e] at h1 h2 h3
   simp only[mv,List.map_nil,List.append_nil,List.length_nil,Nat.add_zero] at h1 h2
   subst h1
   subst h2
   subst h3
   simp (disch:=omega) [wl,hgo,e]
   refine ⟨⟨[],uF L O T' v w' (r.length+1),[],37,G⟩,[],?_,rfl,rfl,rfl⟩
   simp[uF]
   exact aQ
  ·rw[if_neg e] at h1 h2 h3
   simp (disch:=omega) [wl,hgo,e,hg,aB,ah]
   refine ⟨by omega,by omega,rfl,?_⟩
   simp (disch:=omega) [wl,bT]
   refine ⟨by omega,?_⟩
   have hf:T'++[gk (.fin x.n)]++mv L (ef up r)=R:=by
    rw[←h1]
    simp[mv,hk,hx]
   refine ae (w'+1,T'++[gk (.fin x.n)],r) ⟨hf,by simp only[List.length_cons] at h2 ⊢;omega,h3,t3,by simp only;omega,fun j hj=>h6 j (by simp[hj]),by simp only[List.length_append,List.length_singleton];omega⟩ (by simp) ?_
   simp[x9,KC]
   exact aQ
theorem Mb (l:List Ln):(l.map Ev.lin).map gk=l.map co:=by rw[List.map_map];rfl
theorem rO {l:List Ln} {j:Nat} {y:Ln} (h:j < l.length) (hy:l[j]=y):(l.take (j+1)).map co=(l.take j).map co++[co y]:=by
 rw[List.take_succ_eq_append_getElem h,hy,List.map_append];rfl
theorem EG (L:cn) (hL:qp L) (hc:∀ x∈L,∀ y∈x.l,bv y=0):∀ (n:Nat) (up:Int),-1≤up→up < L.length→(L.length:Int)-up≤n→(dt L up (up+1).toNat).length < 100000→Fn G Tryz.prog fX [.slice (gL L),.int .i64 up] (.slice (ts ((dt L up (up+1).toNat).map gk)))
 | n,up,hu,hup,hn,hsz=>by
  refine ac hm zb (by simp) ?_
  obtain ⟨hl,fl⟩:=hL
  obtain ⟨R,hR⟩:∃ R,(dt L up (up+1).toNat).map gk=R:=⟨_,rfl⟩
  have hRl:R.length < 100000:=by rw[←hR,List.length_map];exact hsz
  rw[hR]
  simp[rJ,rK,ah]
  obtain ⟨a,ha⟩:∃ a:Nat,up+1=a:=⟨(up+1).toNat,by omega⟩
  rw[ha,show ((a:Nat):Int).toNat=a by omega] at hR
  rw[wrap_i64 (by omega) (by omega),ha]
  refine aA hm [7,8,9] (fun x:Nat×List Str×Nat=>[(6,.val (.int .i64 x.1)),(5,.own 5 x.2.2)]) (fun x=>[(5,.arr x.2.2 1 (ts x.2.1))]) (fun x=>(x.1:Int) > up∧x.1≤L.length∧x.2.1++(dt L up x.1).map gk=R) (fun x=>L.length-x.1) (a,[],0) ⟨by simp only;omega,by simp only;omega,by simpa using hR⟩ ?_ ?_
  ·simp[ts]
   exact aS.trans (ce (k:=5) 5 1 (by simp) (by simp[ap,a8])) (an rfl rfl (by simp[St.adopt,aR,ap,a8,put,ba,SV.erase]) (by simp[St.adopt,bM,a8,put,aE,Ob.erase]) (by simp[St.adopt,bQ]))
  rintro ⟨i,T,v⟩ ⟨h1,h2,h3⟩
  simp only at h1 h2 h3
  simp[ah]
  by_cases h:i < L.length
  ·obtain ⟨x,hx⟩:∃ x,L[i]=x:=⟨_,rfl⟩
   have hg:=bC h hx
   have fx:=fl x (hx▸List.getElem_mem h)
   have fxn:=fx.n
   have fxl:=fx.l
   rw[nI up (by rw[List.getElem?_eq_getElem h,hx])] at h3
   by_cases e:x.up=up
   ·rw[if_pos e] at h3
    rw[List.map_cons,List.map_append,List.map_append,List.map_cons,Mb,KD,KC] at h3
    have hTl:T.length+x.l.length+(dt L i (i+1)).length+2≤R.length:=by rw[←h3];simp;omega
    have ih:Fn G Tryz.prog fX [.slice (gL L),.int .i64 (i:Nat)] (.slice (ts ((dt L i (i+1)).map gk))):=by
     cases n with
     | zero=>omega
     | succ n=>
      have:=EG L ⟨hl,fl⟩ hc n (i:Nat) (by omega) (by omega) (by omega) (by rw[show ((i:Nat):Int)+1=((i+1:Nat):Int) by omega,show (((i+1:Nat):Int)).toNat=i+1 by omega];omega)
      rw[show ((i:Nat):Int)+1=((i+1:Nat):Int) by omega,show (((i+1:Nat):Int)).toNat=i+1 by omega] at this
      exact this
    simp (disch:=omega) [wl,ah,hg,e,aB]
    refine ⟨by omega,by omega,?_⟩
    refine aA hm [8,9] (fun x:Nat×List Str×Nat=>[(7,.val (.int .i64 x.1)),(5,.own 5 x.2.2)]) (fun x=>[(5,.arr x.2.2 1 (ts x.2.1))]) (fun y=>y.1≤x.l.length∧y.2.1=T++[[66,69,71,73,78,58]++x.n]++(x.l.take y.1).map co) (fun y=>x.l.length-y.1) (0,T++[[66,69,71,73,78,58]++x.n],v+1) ⟨by simp,by simp⟩ ?_ ?_
    ·simp[x9]
     exact aQ
    rintro ⟨j,U,v'⟩ ⟨j1,j2⟩
    simp only at j1 j2
    have hUl:U.length≤T.length+1+x.l.length:=by rw[j2];simp;omega
    simp[hg,az]
    by_cases hj:j < x.l.length
    ·obtain ⟨y,hy⟩:∃ y,x.l[j]=y:=⟨_,rfl⟩
     have hg':=jj hj hy
     have hP:=FW y (fx.f y (hy▸List.getElem_mem hj))
     have hy0:=hc x (hx▸List.getElem_mem h) y (hy▸List.getElem_mem hj)
     simp only[Ln.iv,ld,hy0,if_true] at hP
     have hsn:=rO hj hy
     simp (disch:=omega) [wl,hg,hg',az]
     refine a7 hP ?_
     simp (disch:=omega) [wl,aB]
     refine ⟨by omega,?_⟩
     refine ae (j+1,U++[co y],v'+1) ⟨by simp only;omega,by simp only[hsn,j2];simp⟩ (by simp only;omega) ?_
     simp[x9]
     exact aQ
    ·obtain rfl:j=x.l.length:=by omega
     rw[List.take_length] at j2
     simp (disch:=omega) [wl,hg,az]
     refine a7 ih ?_
     simp (disch:=omega) [wl,hg,aB]
     refine ⟨⟨by omega,fun r hr=>by simp only[ts,List.mem_map] at hr;obtain ⟨_,_,rfl⟩:=hr;rfl⟩,by omega,by omega,?_⟩
     refine ae (i+1,U++(dt L i (i+1)).map gk++[[69,78,68,58]++x.n],v'+1+1) ⟨by simp only;omega,by simp only;omega,by rw[←h3,j2];simp⟩ (by simp only;omega) ?_
     simp[ts]
     exact aQ
   ·rw[if_neg e] at h3
    simp (disch:=omega) [wl,ah,hg,e]
    refine ae (i+1,T,v) ⟨by simp only;omega,by simp only;omega,h3⟩ (by simp only;omega) ?_
    simp
    exact aQ
  ·obtain rfl:i=L.length:=by omega
   rw[CE up (Nat.le_refl _),List.map_nil,List.append_nil] at h3
   subst h3
   simp (disch:=omega) [wl,ah]
def Ix (l:cn):IV:=.tuple [.str (if wi l=0 then fV l else []),.int .i64 (wi l)]
end Go.Vs.YtmaenhgipojmfaaGreatDoor
namespace Go.Vs.YtmaenhgipojmfaaGreatDoor
set_option linter.unusedSimpArgs false
set_option linter.unusedVariables false
open Go.Proofs Go.Vs.U8 Go.Vs.Pa Go.Vs.Fd Go.Vs.Tr
set_option maxRecDepth 100000
set_option maxHeartbeats 16000000
theorem jX {l:cn} (h:wi l=0):l.length≤40∧∃ q,lN jp ax l 0 []=.ok q:=by
 unfold wi nG at h
 split at h
 ·cases h
 ·refine ⟨by omega,?_⟩
  cases hq:lN jp ax l 0 [] with
  | no e=>rw[hq] at h;exact absurd h (CD jp ax l 0 [] e hq)
  | ok q=>exact ⟨q,rfl⟩
theorem jY {l:cn} (h:wi l=0):∀ x∈l,x.l.length≤24∧∀ y∈x.l,bv y=0:=by
 obtain ⟨_,q,hq⟩:=jX h
 intro x hx
 obtain ⟨k,hk,e⟩:=List.mem_iff_getElem.1 hx
 have:=yN jp ax l 0 [] q k x hq (by rw[List.getElem?_eq_getElem hk,e])
 obtain ⟨h1,h2⟩:=nH jp this
 refine ⟨h1,fun y hy=>?_⟩
 have gen:∀ r:List Ln,kx jp r=0→∀ y∈r,bv y=0:=by
  intro r
  induction r with
  | nil=>intro _ y hy;cases hy
  | cons z r ih=>
   intro hb y hy
   rw[qi] at hb
   split at hb
   ·next h0=>exact absurd hb h0
   ·next h0=>
    split at hb
    ·cases hb
    ·rcases List.mem_cons.1 hy with rfl | hy
     ·simpa using h0
     ·exact ih hb y hy
 exact gen x.l h2 y hy
theorem Io {x:Ln} (h:bv x=0):(co x).length≤5000:=by
 obtain ⟨h1,h2,h3,h4⟩:=(eR x).1 h
 obtain ⟨k1,k2,k3⟩:=(gX x.p).1 h2
 have hp:(∀ p∈x.p,bu p=0)∧x.p.length≤6:=by
  refine ⟨?_,?_⟩
  ·first | exact k2 | exact k1 | exact k3
  ·first | exact k1 | omega
 have hn:=(px h1).2.2
 have gen:∀ r:List Pm,(∀ p∈r,bu p=0)→(aq r).length≤764*r.length:=by
  intro r
  induction r with
  | nil=>intro _;simp[aq]
  | cons p r ih=>
   intro hr
   have a:=nu (hr p (by simp))
   have b:=ih (fun q hq=>hr q (by simp[hq]))
   have e:aq (p::r)=cS p++aq r:=by simp[aq]
   rw[e,List.length_append,List.length_cons]
   omega
 have:=gen x.p hp.1
 have e:(co x).length=x.n.length+(aq x.p).length+1+x.v.length:=by simp[co];omega
 rw[e]
 omega
theorem EH:∀ {l:List Str},(∀ x∈l,x.length≤5000)→(cT l).length≤20002*l.length
 | [],_=>by simp[qf]
 | x::r,h=>by
  have a:=EH (l:=r) (fun y hy=>h y (by simp[hy]))
  have b:=ze x
  have c:=h x (by simp)
  rw[sj,List.length_append,List.length_cons]
  omega
theorem KE {l:cn} (h:∀ x∈l,x.l.length≤24):(l.map fun x=>x.l.length+2).sum≤26*l.length:=by
 induction l with
 | nil=>simp
 | cons x r ih=>
  have:=h x (by simp)
  have:=ih (fun y hy=>h y (by simp[hy]))
  simp only[List.map_cons,List.sum_cons,List.length_cons]
  omega
theorem BC {l:cn} (h:wi l=0):(CC l).length≤1040∧(∀ x∈(CC l).map gk,x.length≤5000)∧(cT ((CC l).map gk)).length < 90000000:=by
 obtain ⟨h1,_⟩:=jX h
 have h2:=KE (l:=l) (fun x hx=>(jY h x hx).1)
 have h3:=G2 l l 0 []
 have h4:(CC l).length≤1040:=by
  unfold CC
  rw[h3,List.length_nil]
  omega
 have h5:∀ x∈(CC l).map gk,x.length≤5000:=fun x hx=>by
  obtain ⟨e,he,rfl⟩:=List.mem_map.1 hx
  exact Io (sn (CK h e he))
 refine ⟨h4,h5,?_⟩
 have:=EH h5
 rw[List.length_map] at this
 omega
theorem Gc (l:cn) (fl:qp l):Fn G Tryz.prog lP [.slice (gL l)] (Ix l):=by
 refine ac hm yY (by simp) ?_
 have hC:=zk l fl
 simp[rx,ry]
 refine a7 hC ?_
 by_cases h:wi l=0
 ·obtain ⟨s1,s2,s3⟩:=BC h
  obtain ⟨hl40,q,hq⟩:=jX h
  have hd:=Nl jp ax hq
  rw[hd] at s1 s2 s3
  have hT:=EG l fl (fun x hx=>(jY h x hx).2) (l.length+1) (-1) (by omega) (by omega) (by omega) (by show (dt l (-1) 0).length < _;omega)
  have hJ:=Ig ((dt l (-1) 0).map gk) (by rw[List.length_map];omega) (fun x hx=>by have:=s2 x hx;omega) s3
  have e:fV l=cT ((dt l (-1) 0).map gk):=by unfold fV;rw[hd]
  rw[h]
  simp (disch:=omega) [wl]
  refine a7 hT ?_
  simp (disch:=omega) [wl]
  refine a7 hJ ?_
  simp[Ix,h,e]
 ·simp (disch:=omega) [wl,h]
  simp[Ix,h]
theorem Ip (L:cn) (x:Nd Ln) (r:cn) (i:Nat) (op:List Nat):(mj L (x::r) i op).map gk=mv L (ef x.up op)++([66,69,71,73,78,58]++x.n)::(x.l.map co++(mj L r (i+1) (i::b9 x.up op)).map gk):=by
 have e:gk∘Ev.lin=co:=rfl
 simp[mj,mv,KD,e]
structure PrX where
 i:Nat
 T:List Str
 w:Nat
 O:List Nat
 v:Nat
 op:List Nat
theorem jZ (l:cn) (fl:qp l):Fn G Tryz.prog dX [.slice (gL l)] (Ix l):=by
 refine ac hm Ac (by simp) ?_
 have hC:=iD l fl
 simp[ul,um]
 refine a7 hC ?_
 by_cases h:wi l=0
 ·obtain ⟨s1,s2,s3⟩:=BC h
  obtain ⟨hl40,q,hq⟩:=jX h
  obtain ⟨hl,fl⟩:=fl
  have hJ:=Kt ((CC l).map gk) (by rw[List.length_map];omega) (fun x hx=>by have:=s2 x hx;omega) s3
  obtain ⟨R,hR⟩:∃ R,(CC l).map gk=R:=⟨_,rfl⟩
  have e:fV l=cT R:=by unfold fV;rw[hR]
  have hRl:R.length≤1040:=by rw[←hR,List.length_map];exact s1
  rw[hR] at hJ
  unfold CC at hR
  have hnn:∀ x∈l,x.n.length < 100000:=fun x hx=>(fl x hx).n
  rw[h]
  simp (disch:=omega) [wl,ah]
  refine aA hm [8] (fun x:PrX=>[(22,.val (.int .i64 x.i))]) (fun x=>[(5,.box [.own 2 x.w]),(6,.box [.view 3 x.v 0 x.op.length]),(2,.arr x.w 1 (ts x.T)),(3,.arr x.v 1 (kR x.O))])
   (fun x=>x.i≤l.length∧x.T++(mj l (l.drop x.i) x.i x.op).map gk=R∧x.O.take x.op.length=x.op.reverse∧x.op.length≤x.O.length∧x.O.length≤x.i∧(∀ k∈x.op,k < x.i)) (fun x=>l.length-x.i) ⟨0,[],0,[],0,[]⟩ ⟨by simp,by simpa using hR,rfl,by simp,by simp,by simp⟩ ?_ ?_
  ·simp
   refine aS.trans (pY false (d:=5) (j:=0) 2 1 (by simp) (by simp) rfl rfl rfl) ?_
   refine aS.trans (pY false (d:=6) (j:=0) 3 1 (by simp[St.adoptC]) (by simp) rfl rfl rfl) ?_
   refine aS.trans (ip (d:=6) (j:=0) (id:=3) (ver:=0) (s:=1) (rows:=[]) rfl rfl rfl rfl) ?_
   exact an rfl rfl (by simp[St.adoptC,aR,ap,a8,put,ba,SV.erase,SV.noRef,SV.noRefs]) (by simp[St.adoptC,bM,a8,put,aE,Ob.erase,cc,jB,sY,SV.erase,SV.noRef,ts,kR]) (by simp[St.adoptC,bQ])
  rintro ⟨i,T,w,O,v,op⟩ ⟨h1,h2,h3,h4,h5,h6⟩
  simp only at h1 h2 h3 h4 h5 h6
  simp[ah]
  by_cases h:i < l.length
  ·obtain ⟨x,hx⟩:∃ x,l[i]=x:=⟨_,rfl⟩
   have hg:=bC h hx
   have fx:=fl x (hx▸List.getElem_mem h)
   have fxn:=fx.n
   have hx24:=(jY (by assumption) x (hx▸List.getElem_mem h))
   rw[List.drop_eq_getElem_cons h,hx,Ip] at h2
   have hTR:T.length+(mv l (ef x.up op)).length+1+x.l.length≤R.length:=by rw[←h2];simp;omega
   have hlt:∀ k∈op,k < l.length:=fun k hk=>by have:=h6 k hk;omega
   have hM:=EF l O op T v w op.length x.up hl (by omega) (by omega) h4 h3 hlt hnn
   obtain ⟨F,hF⟩:∃ F,mv l (ef x.up op)=F:=⟨_,rfl⟩
   obtain ⟨K,hK⟩:∃ K,b9 x.up op=K:=⟨_,rfl⟩
   obtain ⟨w1,hw1⟩:∃ w1,w+(ef x.up op).length=w1:=⟨_,rfl⟩
   have hKO:O.take K.length=K.reverse:=by
    have e1:op=ef x.up op++K:=by rw[←hK,dI]
    rw[e1,List.reverse_append] at h3
    have:=congrArg (List.take K.length) h3
    rw[List.take_take,List.take_append_of_le_length (by rw[List.length_reverse];omega),List.take_of_length_le (l:=K.reverse) (by rw[List.length_reverse];omega)] at this
    rw[←this,List.length_append,Nat.min_eq_left (by omega)]
   have hKl:K.length≤O.length:=by
    have:=congrArg List.length hKO
    rw[List.length_take,List.length_reverse] at this
    omega
   have hK6:∀ k∈K,k < i:=fun k hk=>h6 k (j0 (by rw[hK];exact hk))
   have hKt:(kR O).take K.length=kR K.reverse:=by rw[pJ,hKO]
   rw[hF,hK] at h2
   rw[hF] at hTR
   rw[hF,hK,hw1] at hM
   simp (disch:=omega) [wl,ah,hg]
   refine callM [(1000,6),(1001,5),(1002,1),(1003,3),(1004,2)] [] hM rfl rfl ⟨rfl,rfl,rfl,rfl,rfl,trivial⟩ ⟨[],[],rfl,⟨rfl,rfl,rfl,rfl⟩,rfl⟩ rfl ?_
   simp (disch:=omega) [wl,uF,bT,aB,hKt]
   refine ⟨by omega,by omega,by omega,?_⟩
   refine aA hm [12,13] (fun y:Nat×List Str×Nat=>[(44,.val (.int .i64 y.1))]) (fun y=>[(5,.box [.own 2 y.2.2]),(2,.arr y.2.2 1 (ts y.2.1)),(6,.box [.own 3 (v+2)]),(3,.arr (v+2) 1 (kR K.reverse++[[.int .i64 (i:Nat)]])),(9,.box [.val (.int .i64 x.up),.val (.str x.n),.val (.slice (ls x.l))])]) (fun y=>y.1≤x.l.length∧y.2.1=T++F++[[66,69,71,73,78,58]++x.n]++(x.l.take y.1).map co) (fun y=>x.l.length-y.1) (0,T++F++[[66,69,71,73,78,58]++x.n],w1+1) ⟨by simp,by simp⟩ ?_ ?_
   ·simp[ts,az]
    exact aQ
   rintro ⟨j,U,w'⟩ ⟨j1,j2⟩
   simp only at j1 j2
   have hUl:U.length≤R.length:=by rw[j2];simp;omega
   simp[az]
   by_cases hj:j < x.l.length
   ·obtain ⟨y,hy⟩:∃ y,x.l[j]=y:=⟨_,rfl⟩
    have hg':=jj hj hy
    have hP:=I4 y (fx.f y (hy▸List.getElem_mem hj))
    have hy0:=hx24.2 y (hy▸List.getElem_mem hj)
    simp only[Ln.iv,ld,hy0,if_true] at hP
    have hsn:=rO hj hy
    simp (disch:=omega) [wl,hg',az]
    refine a7 hP ?_
    simp (disch:=omega) [wl,aB]
    refine ⟨by omega,?_⟩
    refine ae (j+1,U++[co y],w'+1) ⟨by simp only;omega,by simp only[hsn,j2];simp⟩ (by simp only;omega) ?_
    simp[x9,az]
    exact aQ
   ·obtain rfl:j=x.l.length:=by omega
    rw[List.take_length] at j2
    simp (disch:=omega) [wl,az]
    refine ae ⟨i+1,U,w',K.reverse++[i],v+2,i::K⟩ ⟨by simp only;omega,by rw[←h2,j2];simp,by rw[List.take_of_length_le (by simp),List.reverse_cons],by simp,by simp only[List.length_append,List.length_reverse,List.length_singleton];omega,fun k hk=>by
     rcases List.mem_cons.1 hk with rfl | hk
     ·simp
     ·have:=hK6 k hk;simp only;omega⟩ (by simp only;omega) ?_
    simp
    refine aS.trans (ip (d:=6) (j:=0) (id:=3) (ver:=v+2) (s:=1) (rows:=kR K.reverse++[[.int .i64 (i:Nat)]]) rfl rfl rfl rfl) ?_
    simp[bT]
    exact an rfl rfl (by simp[aR,ap,a8]) (by simp[bM,a8,put,pI,bT]) (by simp[bQ])
  ·obtain rfl:i=l.length:=by omega
   rw[List.drop_length] at h2
   have hlt:∀ k∈op,k < l.length:=h6
   have hTR:T.length≤R.length:=by rw[←h2];simp
   have hM:=EF l O op T v w op.length (-1) hl (by omega) (by omega) h4 h3 hlt hnn
   rw[iz,I8] at hM
   have h2':T++mv l op=R:=by rw[←h2];simp[mj,mv]
   rw[h2'] at hM
   simp (disch:=omega) [wl,ah]
   refine callM [(1000,6),(1001,5),(1002,1),(1003,3),(1004,2)] [] hM rfl rfl ⟨rfl,rfl,rfl,rfl,rfl,trivial⟩ ⟨[],[],rfl,⟨rfl,rfl,rfl,rfl⟩,rfl⟩ rfl ?_
   simp (disch:=omega) [wl,uF]
   refine a7 hJ ?_
   simp[Ix,e, *]
 ·simp (disch:=omega) [wl,h]
  simp[Ix,h]
end Go.Vs.YtmaenhgipojmfaaGreatDoor
