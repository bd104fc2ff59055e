/- The walk of line, part 4: whether lines may be; their text. No conditions. -/
import Derived.Test.YtcjeehebikeghaaGreatDoorCB
set_option linter.unusedVariables false
set_option linter.unusedSimpArgs false
set_option maxRecDepth 100000
set_option maxHeartbeats 8000000
namespace Go.Vs.YtcjeehebikeghaaGreatDoor
open Go.Proofs Go.Vs.U8 Go.Vs.Pa
def gI(x:Ln):Int:=if oq x.n then (if gX x.p=0 then (if 200<x.v.length then 5 else if (BQ x.v).isSome then 10 else 0)else gX x.p)else 4
theorem JR(x:Ln)(fx:FitX x):Fn G Tryz.prog oO [x.iv] (.int .i64 (gI x)):=by
 refine ag hm HM (by simp) ?_;simp[Ap,Aq,Ln.iv];refine aa (QA x.n (by have:=fx.n;omega)) ?_;cases h1:oq x.n with
 |false=>simp(disch:=omega)[wl,gI,h1]
 |true=>
  simp(disch:=omega)[wl];refine aa (NG x.p fx.p fx.f) ?_;by_cases h2:gX x.p=0
  ·by_cases h3:200<x.v.length
   ·simp(disch:=omega)[wl,gI,h1,h2,h3]
   ·simp(disch:=omega)[wl,h2];refine aa (UL x.v (by have:=fx.v;omega)) ?_;cases h4:BQ x.v with
    |none=>simp[gI,h1,h2,h3,h4,Nt]
    |some k=>simp[gI,h1,h2,h3,h4,Nt]
  ·simp(disch:=omega)[wl,gI,h1,h2]
theorem PI(x:Ln):gI x=0↔oq x.n=true∧gX x.p=0∧x.v.length≤200∧BQ x.v=none:=by
 simp only[gI];constructor
 ·intro h;split at h
  ·next h1=>
   split at h
   ·next h2=>
    split at h
    ·cases h
    ·split at h
     ·cases h
     ·next h3 h4=>exact⟨h1,h2,by omega,by simpa using h4⟩
   ·next h2=>exact absurd h h2
  ·cases h
 ·rintro⟨h1,h2,h3,h4⟩;rw[if_pos h1,if_pos h2,if_neg (by omega),h4];rfl
def ln0:Ln:=⟨[],[],[]⟩
theorem Lg{l:List Ln}{i:Nat}{x:Ln}(h:i<l.length)(hx:l[i]=x):ls (l.take (i+1))=ls (l.take i)++[[.str x.n,.slice (ps x.p),.str x.v]]:=by
 rw[List.take_succ_eq_append_getElem h,hx,Ar]
theorem Lh(l:List Ln)(hl:l.length<100000)(hf:ew l):Fn G Tryz.prog nL [.slice (ls l)] (.slice (ls l)):=by
 refine ag hm Lc (by simp) ?_;simp[CY,CZ,be];refine bS hm [] (fun i:Nat=>[(4,.val (.int .i64 i)),(3,.own 3 i)]) (fun i=>[(3,.arr i 3 (ls (l.take i)))]) (fun i=>i≤l.length) (fun i=>l.length-i) 0 (by omega) ?_ ?_
 ·simp[ls];exact d5.trans (dR (k:=3) 3 3 (by simp) (by simp[aC,ac])) (ap rfl rfl (by simp[St.adopt,bv,aC,ac,put,dJ,SV.erase]) (by simp[St.adopt,cC,ac,put,cK,Ob.erase]) (by simp[St.adopt,ct]))
 intro i hi;simp[be];by_cases h:i<l.length
 ·obtain⟨x,hx⟩:∃x,l[i]=x:=⟨_,rfl⟩;have hg:=pK h hx;have ht:=Lg h hx;have fx:=hf x (hx▸List.getElem_mem h);have hB:=aai x.p fx.p fx.f;simp(disch:=omega)[wl,be,hg];refine aa hB ?_;simp(disch:=omega)[wl,be,hg];refine⟨by omega,rfl,?_⟩;refine aq (i+1) (by omega) (by omega) ?_;simp[ht];exact bT
 ·obtain rfl:i=l.length:=by omega
  simp(disch:=omega)[wl]
def QI(x:Ln):Bool:=decide (x.n.length≤40)&&(decide (x.v.length≤250)&&vz x.p)
def nY(l:List Ln):Bool:=decide (l.length≤30)&&l.all QI
theorem yT{l:List Ln}(h:nY l=true):l.length≤30∧ew l:=by
 simp only[nY,Bool.and_eq_true,decide_eq_true_eq,List.all_eq_true,QI,vz,Tb,YV]at h;refine⟨h.1,fun x hx=>?_⟩;obtain⟨h1,h2,h3,h4⟩:=h.2 x hx;exact⟨by omega,by omega,⟨fun p hp=>by have:=(h4 p hp).1.1;omega,fun p hp=>by have:=(h4 p hp).1.2;omega,fun p hp s hs=>by have:=(h4 p hp).2 s hs;omega⟩,by omega⟩
theorem C2(l:List Ln):Fn G Tryz.prog kw [.slice (ls l)] (.bool (nY l)):=by
 refine ag hm FH (by simp) ?_;simp[xE,xF,be];by_cases h0:30<l.length
 ·have:nY l=false:=by simp[nY];omega
  simp(disch:=omega)[wl,this,be]
 ·have hR:nY l=l.all QI:=by
   have:l.length≤30:=by omega
   simp[nY,this]
  rw[hR];simp(disch:=omega)[wl,be];refine bS hm [] (fun i:Nat=>[(3,.val (.int .i64 i))]) (fun i=>[]) (fun i=>i≤l.length∧(l.drop i).all QI=l.all QI) (fun i=>l.length-i) 0 ⟨by omega,by simp⟩ ?_ ?_
  ·simp;exact bT
  rintro i ⟨hi,hc⟩;simp[be];by_cases h:i<l.length
  ·obtain⟨x,hx⟩:∃x,l[i]=x:=⟨_,rfl⟩;have hg:=pK h hx;have hS:=V8 x.p;rw[PH h hx]at hc;have bad:QI x=false→l.all QI=false:=fun e=>by rw[←hc,e];rfl
   by_cases h1:40<x.n.length
   ·have hb:=bad (by simp[QI];omega);simp(disch:=omega)[wl,be,hg,hb]
    try rfl
   ·by_cases h2:250<x.v.length
    ·have hb:=bad (by simp[QI];omega);simp(disch:=omega)[wl,be,hg,hb]
     try rfl
    ·have a1:decide (x.n.length≤40)=true:=by simp;omega
     have a2:decide (x.v.length≤250)=true:=by simp;omega
     simp(disch:=omega)[wl,be,hg];refine aa hS ?_;cases h3:vz x.p with
     |false=>
      have hb:=bad (by simp only[QI,h3,Bool.and_false]);simp(disch:=omega)[wl,hb]
      try rfl
     |true=>
      have:QI x=true:=by simp only[QI,h3,a1,a2];rfl
      rw[this,Bool.true_and]at hc;simp(disch:=omega)[wl,be,hg]
      try refine⟨rfl,?_⟩
      refine aq (i+1) ⟨by omega,hc⟩ (by omega) ?_;simp;exact bT
  ·obtain rfl:i=l.length:=by omega
   have:l.all QI=true:=by rw[←hc];simp
   simp(disch:=omega)[wl,this]
end Go.Vs.YtcjeehebikeghaaGreatDoor
