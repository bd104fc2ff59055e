/- The walk of the statement TreeBack. No conditions. -/
import Derived.Test.YtmaenhgipojmfaaGreatDoorTN
set_option linter.unusedVariables false
set_option linter.unusedSimpArgs false
namespace Go.Vs.YtmaenhgipojmfaaGreatDoor
open Go.Proofs Go.Vs.U8 Go.Vs.Pa Go.Vs.Fd Go.Vs.Tr
set_option maxRecDepth 100000
set_option maxHeartbeats 32000000
theorem EO (l:cn) (s:Str):Fn G Tryz.prog iE [.slice (gL l),.str s] (.bool true):=by
 refine ac hm uH (by simp) ?_
 have hA:=mG
 have hSm:=ql l
 have e7:gL []=[]:=rfl
 simp[mz,mA]
 refine a7 hSm ?_
 cases hs1:nR l with
 | false=>
  simp (disch:=omega) [wl]
  refine a7 hA ?_
  simp
 | true=>
  by_cases hs:3000 < s.length
  ·simp (disch:=omega) [wl]
   refine a7 hA ?_
   simp
  ·have fl:=nS hs1
   have hO:=xb l fl
   have hPr:=jZ l fl
   have hC:=iD l fl
   simp only[Ix] at hPr
   simp (disch:=omega) [wl]
   refine a7 hO ?_
   simp (disch:=omega) [wl]
   refine a7 hPr ?_
   simp (disch:=omega) [wl]
   refine a7 hC ?_
   have hQ:=fo s (by omega)
   by_cases h0:wi l=0
   ·rw[if_pos h0,h0]
    simp (disch:=omega) [wl]
    refine FD hm [8,9,35] [] (fun _:Unit=>[]) (fun _=>[]) (fun _=>True) ?_ ?_
    ·by_cases h6:(fV l).length≤6000
     ·have hP:=fo (fV l) (by omega)
      rw[sr h0 h6] at hP
      simp only[D2] at hP
      have hS:=mt l l fl fl
      rw[decide_eq_true rfl] at hS
      simp (disch:=omega) [wl]
      refine a7 hP ?_
      simp (disch:=omega) [wl]
      refine a7 hS ?_
      simp (disch:=omega) [wl]
      refine eA () trivial ?_
      simp
      exact aQ
     ·simp (disch:=omega) [wl]
      refine eA () trivial ?_
      simp
      exact aQ
    rintro ⟨⟩ -
    simp
    refine a7 hQ ?_
    cases hR:fU s with
    | no e ps=>
     obtain ⟨t1,v1,he1⟩:=aV e ps
     simp only[D2,he1]
     simp (disch:=omega) [wl]
     refine a7 hA ?_
     simp
    | ok N=>
     have hc:=x5 hR
     have fN:=uK hc
     have hc':wi N=0:=hc
     have hPN:=jZ N fN
     have hCN:=iD N fN
     simp only[Ix,hc',if_true] at hPN hCN
     simp only[D2]
     simp (disch:=omega) [wl]
     refine a7 hPN ?_
     simp (disch:=omega) [wl]
     refine a7 hCN ?_
     by_cases h7:(fV N).length≤6000
     ·have hP2:=fo (fV N) (by omega)
      rw[sr hc h7] at hP2
      simp only[D2] at hP2
      have hS2:=mt N N fN fN
      rw[decide_eq_true rfl] at hS2
      simp (disch:=omega) [wl]
      refine a7 hP2 ?_
      simp (disch:=omega) [wl]
      refine a7 hS2 ?_
      simp (disch:=omega) [wl]
      refine a7 hA ?_
      simp
     ·simp (disch:=omega) [wl]
      refine a7 hA ?_
      simp
   ·rw[if_neg h0]
    simp (disch:=omega) [wl,h0]
    refine FD hm [8,9,35] [] (fun _:Unit=>[]) (fun _=>[]) (fun _=>True) ?_ ?_
    ·simp (disch:=omega) [wl,h0]
     refine eA () trivial ?_
     simp
     exact aQ
    rintro ⟨⟩ -
    simp
    refine a7 hQ ?_
    cases hR:fU s with
    | no e ps=>
     obtain ⟨t1,v1,he1⟩:=aV e ps
     simp only[D2,he1]
     simp (disch:=omega) [wl]
     refine a7 hA ?_
     simp
    | ok N=>
     have hc:=x5 hR
     have fN:=uK hc
     have hc':wi N=0:=hc
     have hPN:=jZ N fN
     have hCN:=iD N fN
     simp only[Ix,hc',if_true] at hPN hCN
     simp only[D2]
     simp (disch:=omega) [wl]
     refine a7 hPN ?_
     simp (disch:=omega) [wl]
     refine a7 hCN ?_
     by_cases h7:(fV N).length≤6000
     ·have hP2:=fo (fV N) (by omega)
      rw[sr hc h7] at hP2
      simp only[D2] at hP2
      have hS2:=mt N N fN fN
      rw[decide_eq_true rfl] at hS2
      simp (disch:=omega) [wl]
      refine a7 hP2 ?_
      simp (disch:=omega) [wl]
      refine a7 hS2 ?_
      simp (disch:=omega) [wl]
      refine a7 hA ?_
      simp
     ·simp (disch:=omega) [wl]
      refine a7 hA ?_
      simp
theorem Ap (args:List IV) (h:DP [.slice Mz,.str] args):Fn G Tryz.prog iE args (.bool true):=by
 obtain ⟨v,b,rfl,⟨r0,hr0,_,h0⟩,w,c,rfl,⟨s,hs,_⟩,hd⟩:=h
 have hd:c=[]:=hd
 subst hd
 simp only[List.cons.injEq,and_true] at hr0 hs
 subst hr0 hs
 obtain ⟨l,rfl⟩:=pN h0
 exact EO l s
end Go.Vs.YtmaenhgipojmfaaGreatDoor
