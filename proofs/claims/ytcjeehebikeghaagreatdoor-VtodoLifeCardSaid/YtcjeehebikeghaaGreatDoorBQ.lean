/- The walk of param, part 11: whether parameters are the same. No conditions. -/
import Derived.Test.YtcjeehebikeghaaGreatDoorBK
set_option linter.unusedVariables false
set_option linter.unusedSimpArgs false
set_option maxRecDepth 100000
set_option maxHeartbeats 4000000
namespace Go.Vs.YtcjeehebikeghaaGreatDoor
open Go.Proofs Go.Vs.U8 Go.Vs.Pa
theorem tr{α:Type}{a b:List α}{i:Nat}(h1:i<a.length)(h2:i<b.length)(ht:a.take i=b.take i)(hx:a[i]=b[i]):a.take (i+1)=b.take (i+1):=by
 rw[List.take_succ_eq_append_getElem h1,List.take_succ_eq_append_getElem h2,ht,hx]
theorem V4(a b:List Str)(ha:a.length<1000000)(hb:b.length<1000000):Fn G Tryz.prog ja [.slice (ts a),.slice (ts b)] (.bool (decide (a=b))):=by
 refine ag hm tc (by simp) ?_;simp[mw,my,bI];by_cases hl:a.length=b.length
 ·simp(disch:=omega)[wl,bI,hl];refine bS hm [] (fun i:Nat=>[(13,.val (.int .i64 i))]) (fun i=>[]) (fun i=>i≤a.length∧a.take i=b.take i) (fun i=>a.length-i) 0 ⟨by omega,by simp⟩ ?_ ?_
  ·simp;exact bT
  rintro i ⟨hi,ht⟩;simp[bI];by_cases h:i<a.length
  ·have h':i<b.length:=by omega
   obtain⟨x,hx⟩:∃x,a[i]=x:=⟨_,rfl⟩;obtain⟨y,hy⟩:∃y,b[i]=y:=⟨_,rfl⟩;have g1:=pC h hx;have g2:=pC h' hy;by_cases e:x=y
   ·have hs:=tr h h' ht (by rw[hx,hy,e]);simp(disch:=omega)[wl,bI,g1,g2,e];refine aq (i+1) ⟨by omega,hs⟩ (by omega) ?_;simp;exact bT
   ·have hne:¬a=b:=fun hab=>e (by subst hab;rw[←hx,←hy])
    simp(disch:=omega)[wl,bI,g1,g2,e,hne]
  ·obtain rfl:i=a.length:=by omega
   have:a=b:=by rw[List.take_length,hl,List.take_length]at ht;exact ht
   simp(disch:=omega)[wl,this]
 ·have hne:¬a=b:=fun hab=>hl (by rw[hab])
  simp(disch:=omega)[wl,bI,hl,hne]
theorem abk(p q:Pm):p=q↔p.n=q.n∧p.v=q.v:=by cases p;cases q;simp
theorem V5(p q:Pm)(hp:p.v.length<1000000)(hq:q.v.length<1000000):Fn G Tryz.prog lQ [p.iv,q.iv] (.bool (decide (p=q))):=by
 refine ag hm Dv (by simp) ?_;have hE:=V4 p.v q.v hp hq;have hpq:=abk p q;simp[v6,v7,Pm.iv];by_cases h:p.n=q.n
 ·simp(disch:=omega)[wl,h];refine aa hE ?_;simp(disch:=omega)[wl,hpq,h]
 ·simp(disch:=omega)[wl,h,hpq]
theorem La(a b:List Pm)(ha:a.length<1000000)(hb:b.length<1000000)(fa:Fit a)(fb:Fit b):Fn G Tryz.prog gG [.slice (ps a),.slice (ps b),.fn lQ []] (.bool (decide (a=b))):=by
 refine ag hm qm (by simp) ?_;simp[kl,kn,bZ];by_cases hl:a.length=b.length
 ·simp(disch:=omega)[wl,bZ,hl];refine bS hm [] (fun i:Nat=>[(17,.val (.int .i64 i))]) (fun i=>[]) (fun i=>i≤a.length∧a.take i=b.take i) (fun i=>a.length-i) 0 ⟨by omega,by simp⟩ ?_ ?_
  ·simp;exact bT
  rintro i ⟨hi,ht⟩;simp[bZ];by_cases h:i<a.length
  ·have h':i<b.length:=by omega
   obtain⟨x,hx⟩:∃x,a[i]=x:=⟨_,rfl⟩;obtain⟨y,hy⟩:∃y,b[i]=y:=⟨_,rfl⟩;have g1:=tf h hx;have g2:=tf h' hy;have hS:=V5 x y (by have:=fa.v x (hx▸List.getElem_mem h);omega) (by have:=fb.v y (hy▸List.getElem_mem h');omega);simp only[Pm.iv]at hS;by_cases e:x=y
   ·have hs:=tr h h' ht (by rw[hx,hy,e]);rw[decide_eq_true e]at hS;simp(disch:=omega)[wl,bZ,g1,g2];refine aa hS ?_;simp(disch:=omega)[wl];refine aq (i+1) ⟨by omega,hs⟩ (by omega) ?_;simp;exact bT
   ·have hne:¬a=b:=fun hab=>e (by subst hab;rw[←hx,←hy])
    rw[decide_eq_false e]at hS;simp(disch:=omega)[wl,bZ,g1,g2,hne];refine aa hS ?_;simp[hne]
  ·obtain rfl:i=a.length:=by omega
   have:a=b:=by rw[List.take_length,hl,List.take_length]at ht;exact ht
   simp(disch:=omega)[wl,this]
 ·have hne:¬a=b:=fun hab=>hl (by rw[hab])
  simp(disch:=omega)[wl,bZ,hl,hne]
theorem XH(a b:List Pm)(ha:a.length<1000000)(hb:b.length<1000000)(fa:Fit a)(fb:Fit b):Fn G Tryz.prog sY [.slice (ps a),.slice (ps b)] (.bool (decide (a=b))):=by
 refine ag hm HG (by simp) ?_;simp[Ab,Ac];refine aa (La a b ha hb fa fb) ?_;simp
end Go.Vs.YtcjeehebikeghaaGreatDoor
