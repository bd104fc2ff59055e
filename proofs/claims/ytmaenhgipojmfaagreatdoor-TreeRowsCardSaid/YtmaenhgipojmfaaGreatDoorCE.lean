/- The walk of the line statements' helpers. No conditions. -/
import Derived.Test.YtmaenhgipojmfaaGreatDoorCD
import Derived.Test.YtmaenhgipojmfaaGreatDoorBX
set_option linter.unusedVariables false
set_option linter.unusedSimpArgs false
namespace Go.Vs.U8
end Go.Vs.U8
namespace Go.Vs.Pa
end Go.Vs.Pa
namespace Go.Vs.YtmaenhgipojmfaaGreatDoor
set_option linter.unusedSimpArgs false
set_option linter.unusedVariables false
open Go.Proofs Go.Vs.U8 Go.Vs.Pa
set_option maxRecDepth 100000
set_option maxHeartbeats 8000000
theorem u9 {l:List Ln} {i:Nat} {x:Ln} (h:i < l.length) (hx:l[i]=x):ls (l.take (i+1))=ls (l.take i)++[[.str x.n,.slice (ps x.p),.str x.v]]:=by
 rw[List.take_succ_eq_append_getElem h,hx,qe]
theorem Kh (l:List Ln) (hl:l.length < 100000) (hf:A6 l):Fn G Tryz.prog nB [.slice (ls l)] (.slice (ls l)):=by
 refine ac hm A2 (by simp) ?_
 simp[tX,tY,az]
 refine aA hm [] (fun i:Nat=>[(4,.val (.int .i64 i)),(3,.own 3 i)]) (fun i=>[(3,.arr i 3 (ls (l.take i)))]) (fun i=>i≤l.length) (fun i=>l.length-i) 0 (by omega) ?_ ?_
 ·simp[ls]
  exact aS.trans (ce (k:=3) 3 3 (by simp) (by simp[ap,a8])) (an rfl rfl (by simp[St.adopt,aR,ap,a8,put,ba,SV.erase]) (by simp[St.adopt,bM,a8,put,aE,Ob.erase]) (by simp[St.adopt,bQ]))
 intro i hi
 simp[az]
 by_cases h:i < l.length
 ·obtain ⟨x,hx⟩:∃ x,l[i]=x:=⟨_,rfl⟩
  have hg:=jj h hx
  have ht:=u9 h hx
  have hB:=LX x.p (hf x (hx▸List.getElem_mem h)).p
  simp (disch:=omega) [wl,az,hg]
  refine a7 hB ?_
  simp (disch:=omega) [wl,az,hg]
  refine ⟨by omega,rfl,?_⟩
  refine ae (i+1) (by omega) (by omega) ?_
  simp[ht]
  exact aQ
 ·obtain rfl:i=l.length:=by omega
  simp (disch:=omega) [wl]
theorem LZ (l:List Ln) (hl:l.length < 100000) (hf:A6 l):Fn G Tryz.prog pi [.slice (ls l)] (.slice (ls l)):=by
 refine ac hm Cy (by simp) ?_
 simp[w6,w7,az]
 refine aA hm [] (fun i:Nat=>[(4,.val (.int .i64 i)),(3,.own 3 i)]) (fun i=>[(3,.arr i 3 (ls (l.take i)))]) (fun i=>i≤l.length) (fun i=>l.length-i) 0 (by omega) ?_ ?_
 ·simp[ls]
  exact aS.trans (ce (k:=3) 3 3 (by simp) (by simp[ap,a8])) (an rfl rfl (by simp[St.adopt,aR,ap,a8,put,ba,SV.erase]) (by simp[St.adopt,bM,a8,put,aE,Ob.erase]) (by simp[St.adopt,bQ]))
 intro i hi
 simp[az]
 by_cases h:i < l.length
 ·obtain ⟨x,hx⟩:∃ x,l[i]=x:=⟨_,rfl⟩
  have hg:=jj h hx
  have ht:=u9 h hx
  have fx:=hf x (hx▸List.getElem_mem h)
  have hB:=Nj x.p fx.p fx.f
  simp (disch:=omega) [wl,az,hg]
  refine a7 hB ?_
  simp (disch:=omega) [wl,az,hg]
  refine ⟨by omega,rfl,?_⟩
  refine ae (i+1) (by omega) (by omega) ?_
  simp[ht]
  exact aQ
 ·obtain rfl:i=l.length:=by omega
  simp (disch:=omega) [wl]
def I6 (x:Ln):Bool:=decide (x.n.length≤40)&&(decide (x.v.length≤250)&&pg x.p)
def nE (l:List Ln):Bool:=decide (l.length≤30)&&l.all I6
theorem FY {l:List Ln} (h:nE l=true):l.length≤30∧A6 l:=by
 simp only[nE,Bool.and_eq_true,decide_eq_true_eq,List.all_eq_true,I6,pg,Iw,Mt] at h
 refine ⟨h.1,fun x hx=>?_⟩
 obtain ⟨h1,h2,h3,h4⟩:=h.2 x hx
 exact ⟨by omega,by omega,⟨fun p hp=>by have:=(h4 p hp).1.1;omega,fun p hp=>by have:=(h4 p hp).1.2;omega,fun p hp s hs=>by have:=(h4 p hp).2 s hs;omega⟩,by omega⟩
theorem I7 (l:List Ln):Fn G Tryz.prog lK [.slice (ls l)] (.bool (nE l)):=by
 refine ac hm yI (by simp) ?_
 simp[rf,rg,az]
 by_cases h0:30 < l.length
 ·have:nE l=false:=by simp[nE];omega
  simp (disch:=omega) [wl,this,az]
 ·have hR:nE l=l.all I6:=by
   have:l.length≤30:=by omega
   simp[nE,this]
  rw[hR]
  simp (disch:=omega) [wl,az]
  refine aA hm [] (fun i:Nat=>[(3,.val (.int .i64 i))]) (fun i=>[]) (fun i=>i≤l.length∧(l.drop i).all I6=l.all I6) (fun i=>l.length-i) 0 ⟨by omega,by simp⟩ ?_ ?_
  ·simp
   exact aQ
  rintro i ⟨hi,hc⟩
  simp[az]
  by_cases h:i < l.length
  ·obtain ⟨x,hx⟩:∃ x,l[i]=x:=⟨_,rfl⟩
   have hg:=jj h hx
   have hS:=Kd x.p
   rw[FR h hx] at hc
   have bad:I6 x=false→l.all I6=false:=fun e=>by rw[←hc,e];rfl
   by_cases h1:40 < x.n.length
   ·have hb:=bad (by simp[I6];omega)
    simp (disch:=omega) [wl,az,hg,hb]
    try rfl
   ·by_cases h2:250 < x.v.length
    ·have hb:=bad (by simp[I6];omega)
     simp (disch:=omega) [wl,az,hg,hb]
     try rfl
    ·have a1:decide (x.n.length≤40)=true:=by simp;omega
     have a2:decide (x.v.length≤250)=true:=by simp;omega
     simp (disch:=omega) [wl,az,hg]
     refine a7 hS ?_
     cases h3:pg x.p with
     | false=>
      have hb:=bad (by simp only[I6,h3,Bool.and_false])
      simp (disch:=omega) [wl,hb]
      try rfl
     | true=>
      have:I6 x=true:=by simp only[I6,h3,a1,a2];rfl
      rw[this,Bool.true_and] at hc
      simp (disch:=omega) [wl,az,hg]
      try refine ⟨rfl,?_⟩
      refine ae (i+1) ⟨by omega,hc⟩ (by omega) ?_
      simp
      exact aQ
  ·obtain rfl:i=l.length:=by omega
   have:l.all I6=true:=by rw[←hc];simp
   simp (disch:=omega) [wl,this]
end Go.Vs.YtmaenhgipojmfaaGreatDoor
