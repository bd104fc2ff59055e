/- The walk of line, part 1: lines compared, copied, found. No conditions. -/
import Derived.Test.YtmaenhgipojmfaaGreatDoorCA
set_option linter.unusedVariables false
set_option linter.unusedSimpArgs false
namespace Go.Vs.U8
end Go.Vs.U8
namespace Go.Vs.Pa
end Go.Vs.Pa
namespace Go.Vs.YtmaenhgipojmfaaGreatDoor
set_option linter.unusedSimpArgs false
set_option linter.unusedVariables false
open Go.Proofs Go.Vs.U8 Go.Vs.Pa
set_option maxRecDepth 100000
set_option maxHeartbeats 8000000
structure Ln where
 n:Str
 p:List Pm
 v:Str
 deriving DecidableEq
def Ln.iv (x:Ln):IV:=.agg [.str x.n,.slice (ps x.p),.str x.v]
def ls (l:List Ln):List (List IV):=l.map fun x=>[.str x.n,.slice (ps x.p),.str x.v]
theorem az (l:List Ln):(ls l).length=l.length:=by simp[ls]
theorem jj {d:List Ln} {i:Nat} {x:Ln} (h:i < d.length) (hx:d[i]=x):(ls d)[i]?=some [.str x.n,.slice (ps x.p),.str x.v]:=by simp[ls,h,hx]
theorem qe (l:List Ln) (x:Ln):ls (l++[x])=ls l++[[.str x.n,.slice (ps x.p),.str x.v]]:=by simp[ls]
structure FitX (x:Ln):Prop where
 n:x.n.length < 100000
 p:x.p.length < 100000
 f:Fit x.p
 v:x.v.length < 100000
def A6 (l:List Ln):Prop:=∀ x∈l,FitX x
theorem Ke (x y:Ln) (fx:FitX x) (fy:FitX y):Fn G Tryz.prog cq [x.iv,y.iv] (.bool (decide (x=y))):=by
 refine ac hm kQ (by simp) ?_
 have hS:=LR x.p y.p (by have:=fx.p;omega) (by have:=fy.p;omega) fx.f fy.f
 have hxy:x=y↔x.n=y.n∧x.v=y.v∧x.p=y.p:=by
  obtain ⟨a,b,c⟩:=x;obtain ⟨d,e,f⟩:=y
  simp only[Ln.mk.injEq]
  exact ⟨fun h=>⟨h.1,h.2.2,h.2.1⟩,fun h=>⟨h.1,h.2.2,h.2.1⟩⟩
 simp[fQ,fR,Ln.iv]
 by_cases h1:x.n=y.n
 ·by_cases h2:x.v=y.v
  ·simp (disch:=omega) [wl,h1,h2]
   refine a7 hS ?_
   simp[hxy,h1,h2]
  ·simp (disch:=omega) [wl,h1,h2,hxy]
 ·simp (disch:=omega) [wl,h1,hxy]
theorem A7 (a b:List Ln) (ha:a.length < 1000000) (hb:b.length < 1000000) (fa:A6 a) (fb:A6 b):Fn G Tryz.prog dG [.slice (ls a),.slice (ls b),.fn cq []] (.bool (decide (a=b))):=by
 refine ac hm lM (by simp) ?_
 simp[gz,gA,az]
 by_cases hl:a.length=b.length
 ·simp (disch:=omega) [wl,az,hl]
  refine aA hm [] (fun i:Nat=>[(17,.val (.int .i64 i))]) (fun i=>[]) (fun i=>i≤a.length∧a.take i=b.take i) (fun i=>a.length-i) 0 ⟨by omega,by simp⟩ ?_ ?_
  ·simp
   exact aQ
  rintro i ⟨hi,ht⟩
  simp[az]
  by_cases h:i < a.length
  ·have h':i < b.length:=by omega
   obtain ⟨x,hx⟩:∃ x,a[i]=x:=⟨_,rfl⟩
   obtain ⟨y,hy⟩:∃ y,b[i]=y:=⟨_,rfl⟩
   have g1:=jj h hx
   have g2:=jj h' hy
   have hS:=Ke x y (fa x (hx▸List.getElem_mem h)) (fb y (hy▸List.getElem_mem h'))
   simp only[Ln.iv] at hS
   by_cases e:x=y
   ·have hs:=dh h h' ht (by rw[hx,hy,e])
    rw[decide_eq_true e] at hS
    simp (disch:=omega) [wl,az,g1,g2]
    refine a7 hS ?_
    simp (disch:=omega) [wl]
    refine ae (i+1) ⟨by omega,hs⟩ (by omega) ?_
    simp
    exact aQ
   ·have hne:¬a=b:=fun hab=>e (by subst hab;rw[←hx,←hy])
    rw[decide_eq_false e] at hS
    simp (disch:=omega) [wl,az,g1,g2,hne]
    refine a7 hS ?_
    simp[hne]
  ·obtain rfl:i=a.length:=by omega
   have:a=b:=by rw[List.take_length,hl,List.take_length] at ht;exact ht
   simp (disch:=omega) [wl,this]
 ·have hne:¬a=b:=fun hab=>hl (by rw[hab])
  simp (disch:=omega) [wl,az,hl,hne]
theorem Kf (a b:List Ln) (ha:a.length < 1000000) (hb:b.length < 1000000) (fa:A6 a) (fb:A6 b):Fn G Tryz.prog pj [.slice (ls a),.slice (ls b)] (.bool (decide (a=b))):=by
 refine ac hm Cz (by simp) ?_
 simp[w8,w9]
 refine a7 (A7 a b ha hb fa fb) ?_
 simp
theorem I3 (a b:List Ln) (ha:a.length < 1000000) (hb:b.length < 1000000) (fa:A6 a) (fb:A6 b):Fn G Tryz.prog nA [.slice (ls a),.slice (ls b)] (.bool (decide (a=b))):=by
 refine ac hm A1 (by simp) ?_
 simp[tV,tW,az]
 by_cases hl:a.length=b.length
 ·simp (disch:=omega) [wl,az,hl]
  refine aA hm [] (fun i:Nat=>[(5,.val (.int .i64 i))]) (fun i=>[]) (fun i=>i≤a.length∧a.take i=b.take i) (fun i=>a.length-i) 0 ⟨by omega,by simp⟩ ?_ ?_
  ·simp
   exact aQ
  rintro i ⟨hi,ht⟩
  simp[az]
  by_cases h:i < a.length
  ·have h':i < b.length:=by omega
   obtain ⟨x,hx⟩:∃ x,a[i]=x:=⟨_,rfl⟩
   obtain ⟨y,hy⟩:∃ y,b[i]=y:=⟨_,rfl⟩
   have g1:=jj h hx
   have g2:=jj h' hy
   have fx:=fa x (hx▸List.getElem_mem h)
   have fy:=fb y (hy▸List.getElem_mem h')
   have hS:=K8 x.p y.p (by have:=fx.p;omega) (by have:=fy.p;omega) fx.f fy.f
   have hxy:x=y↔x.n=y.n∧x.v=y.v∧x.p=y.p:=by
    obtain ⟨a,b,c⟩:=x;obtain ⟨d,e,f⟩:=y
    simp only[Ln.mk.injEq]
    exact ⟨fun h=>⟨h.1,h.2.2,h.2.1⟩,fun h=>⟨h.1,h.2.2,h.2.1⟩⟩
   have ne:¬x=y→¬a=b:=fun e hab=>e (by subst hab;rw[←hx,←hy])
   by_cases h1:x.n=y.n
   ·by_cases h2:x.v=y.v
    ·by_cases h3:x.p=y.p
     ·have hs:=dh h h' ht (by rw[hx,hy];exact hxy.2 ⟨h1,h2,h3⟩)
      simp (disch:=omega) [wl,az,g1,g2,h1,h2]
      refine a7 hS ?_
      simp (disch:=omega) [wl,h3]
      refine ⟨rfl,?_⟩
      refine ae (i+1) ⟨by omega,hs⟩ (by omega) ?_
      simp
      exact aQ
     ·have hne:=ne (fun e=>h3 (hxy.1 e).2.2)
      simp (disch:=omega) [wl,az,g1,g2,h1,h2]
      refine a7 hS ?_
      simp (disch:=omega) [wl,h3,hne]
      try rfl
    ·have hne:=ne (fun e=>h2 (hxy.1 e).2.1)
     simp (disch:=omega) [wl,az,g1,g2,h1,h2,hne]
     try rfl
   ·have hne:=ne (fun e=>h1 (hxy.1 e).1)
    simp (disch:=omega) [wl,az,g1,g2,h1,hne]
    try rfl
  ·obtain rfl:i=a.length:=by omega
   have:a=b:=by rw[List.take_length,hl,List.take_length] at ht;exact ht
   simp (disch:=omega) [wl,this]
 ·have hne:¬a=b:=fun hab=>hl (by rw[hab])
  simp (disch:=omega) [wl,az,hl,hne]
end Go.Vs.YtmaenhgipojmfaaGreatDoor
