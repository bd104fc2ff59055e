/- The walk of param, part 11: whether parameters are the same. No conditions. -/
import Derived.Test.YtmaenhgipojmfaaGreatDoorBM
set_option linter.unusedVariables false
set_option linter.unusedSimpArgs false
namespace Go.Vs.U8
end Go.Vs.U8
namespace Go.Vs.Pa
end Go.Vs.Pa
namespace Go.Vs.YtmaenhgipojmfaaGreatDoor
set_option linter.unusedSimpArgs false
set_option linter.unusedVariables false
open Go.Proofs Go.Vs.U8 Go.Vs.Pa
set_option maxRecDepth 100000
set_option maxHeartbeats 4000000
theorem dh {α:Type} {a b:List α} {i:Nat} (h1:i < a.length) (h2:i < b.length) (ht:a.take i=b.take i) (hx:a[i]=b[i]):a.take (i+1)=b.take (i+1):=by
 rw[List.take_succ_eq_append_getElem h1,List.take_succ_eq_append_getElem h2,ht,hx]
theorem K6 (a b:List Str) (ha:a.length < 1000000) (hb:b.length < 1000000):Fn G Tryz.prog eu [.slice (ts a),.slice (ts b)] (.bool (decide (a=b))):=by
 refine ac hm nk (by simp) ?_
 simp[i5,i6,aB]
 by_cases hl:a.length=b.length
 ·simp (disch:=omega) [wl,aB,hl]
  refine aA hm [] (fun i:Nat=>[(13,.val (.int .i64 i))]) (fun i=>[]) (fun i=>i≤a.length∧a.take i=b.take i) (fun i=>a.length-i) 0 ⟨by omega,by simp⟩ ?_ ?_
  ·simp
   exact aQ
  rintro i ⟨hi,ht⟩
  simp[aB]
  by_cases h:i < a.length
  ·have h':i < b.length:=by omega
   obtain ⟨x,hx⟩:∃ x,a[i]=x:=⟨_,rfl⟩
   obtain ⟨y,hy⟩:∃ y,b[i]=y:=⟨_,rfl⟩
   have g1:=jg h hx
   have g2:=jg h' hy
   by_cases e:x=y
   ·have hs:=dh h h' ht (by rw[hx,hy,e])
    simp (disch:=omega) [wl,aB,g1,g2,e]
    refine ae (i+1) ⟨by omega,hs⟩ (by omega) ?_
    simp
    exact aQ
   ·have hne:¬a=b:=fun hab=>e (by subst hab;rw[←hx,←hy])
    simp (disch:=omega) [wl,aB,g1,g2,e,hne]
  ·obtain rfl:i=a.length:=by omega
   have:a=b:=by rw[List.take_length,hl,List.take_length] at ht;exact ht
   simp (disch:=omega) [wl,this]
 ·have hne:¬a=b:=fun hab=>hl (by rw[hab])
  simp (disch:=omega) [wl,aB,hl,hne]
theorem Ms (p q:Pm):p=q↔p.n=q.n∧p.v=q.v:=by cases p;cases q;simp
theorem K7 (p q:Pm) (hp:p.v.length < 1000000) (hq:q.v.length < 1000000):Fn G Tryz.prog gV [p.iv,q.iv] (.bool (decide (p=q))):=by
 refine ac hm wG (by simp) ?_
 have hE:=K6 p.v q.v hp hq
 have hpq:=Ms p q
 simp[oZ,p5,Pm.iv]
 by_cases h:p.n=q.n
 ·simp (disch:=omega) [wl,h]
  refine a7 hE ?_
  simp (disch:=omega) [wl,hpq,h]
 ·simp (disch:=omega) [wl,h,hpq]
theorem Ct (a b:List Pm) (ha:a.length < 1000000) (hb:b.length < 1000000) (fa:Fit a) (fb:Fit b):Fn G Tryz.prog dn [.slice (ps a),.slice (ps b),.fn gV []] (.bool (decide (a=b))):=by
 refine ac hm kO (by simp) ?_
 simp[fK,fL,aw]
 by_cases hl:a.length=b.length
 ·simp (disch:=omega) [wl,aw,hl]
  refine aA hm [] (fun i:Nat=>[(17,.val (.int .i64 i))]) (fun i=>[]) (fun i=>i≤a.length∧a.take i=b.take i) (fun i=>a.length-i) 0 ⟨by omega,by simp⟩ ?_ ?_
  ·simp
   exact aQ
  rintro i ⟨hi,ht⟩
  simp[aw]
  by_cases h:i < a.length
  ·have h':i < b.length:=by omega
   obtain ⟨x,hx⟩:∃ x,a[i]=x:=⟨_,rfl⟩
   obtain ⟨y,hy⟩:∃ y,b[i]=y:=⟨_,rfl⟩
   have g1:=gh h hx
   have g2:=gh h' hy
   have hS:=K7 x y (by have:=fa.v x (hx▸List.getElem_mem h);omega) (by have:=fb.v y (hy▸List.getElem_mem h');omega)
   simp only[Pm.iv] at hS
   by_cases e:x=y
   ·have hs:=dh h h' ht (by rw[hx,hy,e])
    rw[decide_eq_true e] at hS
    simp (disch:=omega) [wl,aw,g1,g2]
    refine a7 hS ?_
    simp (disch:=omega) [wl]
    refine ae (i+1) ⟨by omega,hs⟩ (by omega) ?_
    simp
    exact aQ
   ·have hne:¬a=b:=fun hab=>e (by subst hab;rw[←hx,←hy])
    rw[decide_eq_false e] at hS
    simp (disch:=omega) [wl,aw,g1,g2,hne]
    refine a7 hS ?_
    simp[hne]
  ·obtain rfl:i=a.length:=by omega
   have:a=b:=by rw[List.take_length,hl,List.take_length] at ht;exact ht
   simp (disch:=omega) [wl,this]
 ·have hne:¬a=b:=fun hab=>hl (by rw[hab])
  simp (disch:=omega) [wl,aw,hl,hne]
theorem LR (a b:List Pm) (ha:a.length < 1000000) (hb:b.length < 1000000) (fa:Fit a) (fb:Fit b):Fn G Tryz.prog ng [.slice (ps a),.slice (ps b)] (.bool (decide (a=b))):=by
 refine ac hm zV (by simp) ?_
 simp[tx,tz]
 refine a7 (Ct a b ha hb fa fb) ?_
 simp
theorem K8 (a b:List Pm) (ha:a.length < 1000000) (hb:b.length < 1000000) (fa:Fit a) (fb:Fit b):Fn G Tryz.prog nd [.slice (ps a),.slice (ps b)] (.bool (decide (a=b))):=by
 refine ac hm zT (by simp) ?_
 simp[tk,tn,aw]
 by_cases hl:a.length=b.length
 ·simp (disch:=omega) [wl,aw,hl]
  refine aA hm [] (fun i:Nat=>[(5,.val (.int .i64 i))]) (fun i=>[]) (fun i=>i≤a.length∧a.take i=b.take i) (fun i=>a.length-i) 0 ⟨by omega,by simp⟩ ?_ ?_
  ·simp
   exact aQ
  rintro i ⟨hi,ht⟩
  simp[aw]
  by_cases h:i < a.length
  ·have h':i < b.length:=by omega
   obtain ⟨x,hx⟩:∃ x,a[i]=x:=⟨_,rfl⟩
   obtain ⟨y,hy⟩:∃ y,b[i]=y:=⟨_,rfl⟩
   have g1:=gh h hx
   have g2:=gh h' hy
   have hvl:x.v.length < 1000000:=by have:=fa.v x (hx▸List.getElem_mem h);omega
   have bad:x≠y→¬a=b:=fun e hab=>e (by subst hab;rw[←hx,←hy])
   by_cases e1:x.n=y.n
   ·by_cases e2:x.v.length=y.v.length
    ·simp (disch:=omega) [wl,aw,aB,g1,g2,e1,e2]
     refine aA hm [] (fun i:Nat=>[(6,.val (.int .i64 i))]) (fun i=>[]) (fun k=>k≤x.v.length∧x.v.take k=y.v.take k) (fun k=>x.v.length-k) 0 ⟨by omega,by simp⟩ ?_ ?_
     ·simp
      exact aQ
     rintro k ⟨hk,htk⟩
     simp[aw]
     by_cases h2:k < x.v.length
     ·have h2':k < y.v.length:=by omega
      obtain ⟨u,hu⟩:∃ u,x.v[k]=u:=⟨_,rfl⟩
      obtain ⟨w,hw⟩:∃ w,y.v[k]=w:=⟨_,rfl⟩
      have g3:=jg h2 hu
      have g4:=jg h2' hw
      by_cases e:u=w
      ·have hs:=dh h2 h2' htk (by rw[hu,hw,e])
       simp (disch:=omega) [wl,aw,aB,g1,g2,g3,g4,e]
       refine ae (k+1) ⟨by omega,hs⟩ (by omega) ?_
       simp
       exact aQ
      ·have hne:¬a=b:=bad (fun hab=>e (by subst hab;rw[←hu,←hw]))
       simp (disch:=omega) [wl,aw,aB,g1,g2,g3,g4,e,hne]
     ·obtain rfl:k=x.v.length:=by omega
      have hv:x.v=y.v:=by rw[List.take_length,e2,List.take_length] at htk;exact htk
      have hs:=dh h h' ht (by rw[hx,hy];exact (Ms x y).2 ⟨e1,hv⟩)
      simp (disch:=omega) [wl,aw,aB,g1,g2]
      refine ae (i+1) ⟨by omega,hs⟩ (by omega) ?_
      simp
      exact aQ
    ·have hne:¬a=b:=bad (fun hab=>e2 (by rw[hab]))
     simp (disch:=omega) [wl,aw,aB,g1,g2,e1,e2,hne]
   ·have hne:¬a=b:=bad (fun hab=>e1 (by rw[hab]))
    simp (disch:=omega) [wl,aw,g1,g2,e1,hne]
  ·obtain rfl:i=a.length:=by omega
   have:a=b:=by rw[List.take_length,hl,List.take_length] at ht;exact ht
   simp (disch:=omega) [wl,this]
 ·have hne:¬a=b:=fun hab=>hl (by rw[hab])
  simp (disch:=omega) [wl,aw,hl,hne]
end Go.Vs.YtmaenhgipojmfaaGreatDoor
