/- A part of a proof. No conditions. -/
import Derived.Test.YtcjeehebikeghaaGreatDoorCB
set_option linter.unusedVariables false
set_option linter.unusedSimpArgs false
set_option maxRecDepth 100000
set_option maxHeartbeats 8000000
namespace Go.Vs.YtcjeehebikeghaaGreatDoor
open Go.Proofs Go.Vs.U8 Go.Vs.Pa
def fV(x:Ln):Int:=if mS x.n then (if jv x.p=0 then (if 200<x.v.length then 5 else if (zz x.v).isSome then 10 else 0)else jv x.p)else 4
theorem Gd(x:Ln)(fx:FitX x):Fn G T_ 40 [x.iv] (.int .i64 (fV x)):=by
 refine ag hm EO (by simp) ?_;simp[yb,Ln.iv];refine aa (Mj x.n (by have:=fx.n;omega)) ?_;cases h1:mS x.n with
 |false=>simp(disch:=omega)[wl,fV,h1]
 |true=>
  simp(disch:=omega)[wl];refine aa (Jz x.p fx.p fx.f) ?_;by_cases h2:jv x.p=0
  ·by_cases h3:200<x.v.length
   ·simp(disch:=omega)[wl,fV,h1,h2,h3]
   ·simp(disch:=omega)[wl,h2];refine aa (Ql x.v (by have:=fx.v;omega)) ?_;cases h4:zz x.v with
    |none=>simp[fV,h1,h2,h3,h4,Jn]
    |some k=>simp[fV,h1,h2,h3,h4,Jn]
  ·simp(disch:=omega)[wl,fV,h1,h2]
theorem Lp(x:Ln):fV x=0↔mS x.n=true/\jv x.p=0/\x.v.length<=200/\zz x.v=none:=by
 simp only[fV];constructor
 ·intro h;split at h
  ·next h1=>
   split at h
   ·next h2=>
    split at h
    ·cases h
    ·split at h
     ·cases h
     ·next h3 h4=>exact⟨h1,h2,by omega,by simpa using h4⟩
   ·next h2=>exact absurd h h2
  ·cases h
 ·rintro⟨h1,h2,h3,h4⟩;rw[if_pos h1,if_pos h2,if_neg (by omega),h4];rfl
theorem HA{l:List Ln}{i:Nat}{x:Ln}(h:i<l.length)(hx:l[i]=x):ls (l.take (i+1))=ls (l.take i)++[[.str x.n,.slice (ps x.p),.str x.v]]:=by
 rw[List.take_succ_eq_append_getElem h,hx,yd]
theorem Te(l:List Ln)(hl:l.length<100000)(hf:fU l):Fn G T_ 11 [.slice (ls l)] (.slice (ls l)):=by
 refine ag hm Hx (by simp) ?_;simp[AE,bt];refine ce hm [] (fun i:Nat=>[(4,.val (.int .i64 i)),(3,.own 3 i)]) (fun i=>[(3,.arr i 3 (ls (l.take i)))]) (fun i=>i<=l.length) (fun i=>l.length-i) 0 (by omega) ?_ ?_
 ·simp[ls];exact cR.trans (fS (k:=3) 3 3 (by simp) (by simp[aC,ac])) (ap rfl rfl (by simp[St.adopt,bp,aC,ac,put,dT,SV.erase]) (by simp[St.adopt,ch,ac,put,cC,Ob.erase]) (by simp[St.adopt,cg]))
 intro i hi;simp[bt];by_cases h:i<l.length
 ·obtain⟨x,hx⟩:∃x,l[i]=x:=⟨_,rfl⟩;have hg:=tz h hx;have ht:=HA h hx;have fx:=hf x (hx▸List.getElem_mem h);have hB:=Vu x.p fx.p fx.f;simp(disch:=omega)[wl,bt,hg];refine aa hB ?_;simp(disch:=omega)[wl,bt,hg];refine⟨by omega,rfl,?_⟩;refine au (i+1) (by omega) (by omega) ?_;simp[ht];exact bQ
 ·obtain rfl:i=l.length:=by omega
  simp(disch:=omega)[wl]
def Ms(x:Ln):Bool:=decide (x.n.length<=40)&&(decide (x.v.length<=250)&&tv x.p)
def pJ(l:List Ln):Bool:=decide (l.length<=30)&&l.all Ms
theorem Lq{l:List Ln}(h:pJ l=true):l.length<=30/\fU l:=by
 simp only[pJ,Bool.and_eq_true,decide_eq_true_eq,List.all_eq_true,Ms,tv,ON,Up]at h;refine⟨h.1,fun x hx=>?_⟩;obtain⟨h1,h2,h3,h4⟩:=h.2 x hx;exact⟨by omega,by omega,⟨fun p hp=>by have:=(h4 p hp).1.1;omega,fun p hp=>by have:=(h4 p hp).1.2;omega,fun p hp s hs=>by have:=(h4 p hp).2 s hs;omega⟩,by omega⟩
theorem O5(l:List Ln):Fn G T_ 8 [.slice (ls l)] (.bool (pJ l)):=by
 refine ag hm D5 (by simp) ?_;simp[vE,bt];by_cases h0:30<l.length
 ·have:pJ l=false:=by simp[pJ];omega
  simp(disch:=omega)[wl,this,bt]
 ·have hR:pJ l=l.all Ms:=by
   have:l.length<=30:=by omega
   simp[pJ,this]
  rw[hR];simp(disch:=omega)[wl,bt];refine ce hm [] (fun i:Nat=>[(3,.val (.int .i64 i))]) (fun i=>[]) (fun i=>i<=l.length/\(l.drop i).all Ms=l.all Ms) (fun i=>l.length-i) 0 ⟨by omega,by simp⟩ ?_ ?_
  ·simp;exact bQ
  rintro i ⟨hi,hc⟩;simp[bt];by_cases h:i<l.length
  ·obtain⟨x,hx⟩:∃x,l[i]=x:=⟨_,rfl⟩;have hg:=tz h hx;have hS:=QE x.p;rw[Lo h hx]at hc;have bad:Ms x=false->l.all Ms=false:=fun e=>by rw[<-hc,e];rfl
   by_cases h1:40<x.n.length
   ·have hb:=bad (by simp[Ms];omega);simp(disch:=omega)[wl,bt,hg,hb]
    try rfl
   ·by_cases h2:250<x.v.length
    ·have hb:=bad (by simp[Ms];omega);simp(disch:=omega)[wl,bt,hg,hb]
     try rfl
    ·have a1:decide (x.n.length<=40)=true:=by simp;omega
     have a2:decide (x.v.length<=250)=true:=by simp;omega
     simp(disch:=omega)[wl,bt,hg];refine aa hS ?_;cases h3:tv x.p with
     |false=>
      have hb:=bad (by simp only[Ms,h3,Bool.and_false]);simp(disch:=omega)[wl,hb]
      try rfl
     |true=>
      have:Ms x=true:=by simp only[Ms,h3,a1,a2];rfl
      rw[this,Bool.true_and]at hc;simp(disch:=omega)[wl,bt,hg]
      try refine⟨rfl,?_⟩
      refine au (i+1) ⟨by omega,hc⟩ (by omega) ?_;simp;exact bQ
  ·obtain rfl:i=l.length:=by omega
   have:l.all Ms=true:=by rw[<-hc];simp
   simp(disch:=omega)[wl,this]
end Go.Vs.YtcjeehebikeghaaGreatDoor
