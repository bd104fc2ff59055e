/- The walk of line, part 4: whether lines may be; their text. No conditions. -/
import Derived.Test.YtmaenhgipojmfaaGreatDoorCB
set_option linter.unusedVariables false
set_option linter.unusedSimpArgs false
namespace Go.Vs.U8
end Go.Vs.U8
namespace Go.Vs.Pa
end Go.Vs.Pa
namespace Go.Vs.YtmaenhgipojmfaaGreatDoor
set_option linter.unusedSimpArgs false
set_option linter.unusedVariables false
open Go.Proofs Go.Vs.U8 Go.Vs.Pa
set_option maxRecDepth 100000
set_option maxHeartbeats 8000000
def bv (x:Ln):Int:=if ax x.n then (if bx x.p=0 then (if 200 < x.v.length then 5 else if (fp x.v).isSome then 10 else 0) else bx x.p) else 4
def co (x:Ln):Str:=x.n++aq x.p++[58]++x.v
def ld (x:Ln):IV:=.tuple [.str (if bv x=0 then co x else []),.int .i64 (bv x)]
theorem Bf (x:Ln) (fx:FitX x):Fn G Tryz.prog jJ [x.iv] (.int .i64 (bv x)):=by
 refine ac hm A5 (by simp) ?_
 simp[u6,u7,Ln.iv]
 refine a7 (tI x.n (by have:=fx.n;omega)) ?_
 cases h1:ax x.n with
 | false=>simp (disch:=omega) [wl,bv,h1]
 | true=>
  simp (disch:=omega) [wl]
  refine a7 (vZ x.p fx.p fx.f) ?_
  by_cases h2:bx x.p=0
  ·by_cases h3:200 < x.v.length
   ·simp (disch:=omega) [wl,bv,h1,h2,h3]
   ·simp (disch:=omega) [wl,h2]
    refine a7 (Ci x.v (by have:=fx.v;omega)) ?_
    cases h4:fp x.v with
    | none=>simp[bv,h1,h2,h3,h4,eN]
    | some k=>simp[bv,h1,h2,h3,h4,eN]
  ·simp (disch:=omega) [wl,bv,h1,h2]
theorem si (x:Ln) (fx:FitX x):Fn G Tryz.prog iM [x.iv] (.int .i64 (bv x)):=by
 refine ac hm yJ (by simp) ?_
 simp[rh,ri,Ln.iv]
 refine a7 (p7 x.n (by have:=fx.n;omega)) ?_
 cases h1:ax x.n with
 | false=>simp (disch:=omega) [wl,bv,h1]
 | true=>
  simp (disch:=omega) [wl]
  refine a7 (tM x.p fx.p fx.f) ?_
  by_cases h2:bx x.p=0
  ·by_cases h3:200 < x.v.length
   ·simp (disch:=omega) [wl,bv,h1,h2,h3]
   ·simp (disch:=omega) [wl,h2]
    refine a7 (jE x.v (by have:=fx.v;omega)) ?_
    cases h4:fp x.v with
    | none=>simp[bv,h1,h2,h3,h4,eN]
    | some k=>
     have e:¬((k:Int) = -1):=by omega
     simp[bv,h1,h2,h3,h4,eN,e]
  ·simp (disch:=omega) [wl,bv,h1,h2]
theorem eR (x:Ln):bv x=0↔ax x.n=true∧bx x.p=0∧x.v.length≤200∧fp x.v=none:=by
 simp only[bv]
 constructor
 ·intro h
  split at h
  ·next h1=>
   split at h
   ·next h2=>
    split at h
    ·cases h
    ·split at h
     ·cases h
     ·next h3 h4=>exact ⟨h1,h2,by omega,by simpa using h4⟩
   ·next h2=>exact absurd h h2
  ·cases h
 ·rintro ⟨h1,h2,h3,h4⟩
  rw[if_pos h1,if_pos h2,if_neg (by omega),h4]
  rfl
theorem Bg {l:List Pm} (h:bx l=0):(aq l).length≤4584:=by
 obtain ⟨h1,h2⟩:=lc h
 have:=yz l h2
 omega
theorem I4 (x:Ln) (fx:FitX x):Fn G Tryz.prog nC [x.iv] (ld x):=by
 refine ac hm A3 (by simp) ?_
 have hC:=Bf x fx
 simp only[Ln.iv] at hC
 simp[tZ,u3,Ln.iv]
 refine a7 hC ?_
 by_cases h:bv x=0
 ·obtain ⟨h1,h2,h3,h4⟩:=(eR x).1 h
  have hpl:=Bg h2
  have hn:=fx.n
  simp (disch:=omega) [wl,h]
  refine a7 (E9 x.p fx.p fx.f) ?_
  simp[ge,h2]
  refine ⟨by omega,by omega,by omega,?_⟩
  simp[ld,h,co]
 ·simp (disch:=omega) [wl,h,ld]
theorem FW (x:Ln) (fx:FitX x):Fn G Tryz.prog lL [x.iv] (ld x):=by
 refine ac hm yK (by simp) ?_
 have hC:=si x fx
 simp only[Ln.iv] at hC
 simp[rj,rk,Ln.iv]
 refine a7 hC ?_
 by_cases h:bv x=0
 ·obtain ⟨h1,h2,h3,h4⟩:=(eR x).1 h
  have hpl:=Bg h2
  have hn:=fx.n
  simp (disch:=omega) [wl,h]
  refine a7 (Cs x.p fx.p fx.f) ?_
  simp[ge,h2]
  refine ⟨by omega,by omega,by omega,?_⟩
  simp[ld,h,co]
 ·simp (disch:=omega) [wl,h,ld]
end Go.Vs.YtmaenhgipojmfaaGreatDoor
