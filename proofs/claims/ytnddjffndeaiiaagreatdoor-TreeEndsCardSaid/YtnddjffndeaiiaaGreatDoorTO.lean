/- The walk of the statements TreeParses and TreeEnds. No conditions. -/
import Derived.Test.YtnddjffndeaiiaaGreatDoorTN
import Derived.Test.YtnddjffndeaiiaaGreatDoorBD
set_option linter.unusedVariables false
set_option linter.unusedSimpArgs false
namespace Go.Vs.YtnddjffndeaiiaaGreatDoor
open Go.Proofs Go.Vs.U8 Go.Vs.Pa Go.Vs.Fd Go.Vs.Tr
set_option maxRecDepth 100000
set_option maxHeartbeats 16000000
theorem GT {B:Nat} {ps:List Int} (h:M4 B ps) (hB:B < 400000):(∀ p∈ps,-1000000 < p∧p < 1000000)∧ps.length < 1000:=by
 obtain ⟨_,_,h3,h4⟩:=h
 exact ⟨fun p hp=>by have:=h3 p hp;omega,by omega⟩
theorem wD {B:Nat} {e:Int} {ps:List Int} : ∀ (ls:List Lf) (N:cn) (op:List Nat),dJ B ls N op=.no e ps→∃ p r,ps=p::r
 | [],N,op,h=>by
  simp only[dJ] at h
  split at h
  ·cases h
  ·cases h;exact ⟨_,_,rfl⟩
 | x::ls,N,op,h=>by
  simp only[dJ] at h
  cases hl:c9 x.t with
  | no e' qs=>rw[hl] at h;cases h;exact ⟨_,_,rfl⟩
  | ok y=>
   rw[hl] at h
   simp only at h
   cases ht:mo N op y with
   | no c=>rw[ht] at h;cases h;exact ⟨_,_,rfl⟩
   | ok N1 op1=>rw[ht] at h;exact wD ls N1 op1 h
theorem Iu {s:Str} {e:Int} {ps:List Int} (h:fU s=.no e ps):∃ p r,ps=p::r:=by
 unfold fU at h
 cases hu:bP s with
 | no e' p=>rw[hu] at h;cases h;exact ⟨_,_,rfl⟩
 | ok ls=>rw[hu] at h;exact wD ls [] [] h
theorem An (s:Str):Fn G Tryz.prog gp [.str s] (.bool true):=by
 refine ac hm qr (by simp) ?_
 have hA:=mG
 simp[kK,kL]
 by_cases hs:6100 < s.length
 ·simp (disch:=omega) [wl]
  refine a7 hA ?_
  simp
 ·have hP:=fo s (by omega)
  have hQ:=Ge s (by omega)
  cases hR:fU s with
  | ok N=>
   rw[hR] at hP hQ
   have fN:=uK (x5 hR)
   have hB:=EL N fN
   have hS:=vu N N fN fN
   rw[decide_eq_true rfl] at hS
   have hC:=DW
   have hF:=Cj
   simp only[D2,EJ] at hP hQ
   simp (disch:=omega) [wl]
   refine a7 hP ?_
   simp (disch:=omega) [wl]
   refine a7 hQ ?_
   simp (disch:=omega) [wl]
   refine a7 hB ?_
   simp (disch:=omega) [wl]
   refine a7 hS ?_
   simp (disch:=omega) [wl]
   refine a7 hC ?_
   simp (disch:=omega) [wl]
   refine a7 hF ?_
   simp (disch:=omega) [wl]
   refine a7 hA ?_
   simp
  | no e ps=>
   rw[hR] at hP hQ
   obtain ⟨e0,pl⟩:=GI hR
   obtain ⟨b1,b2⟩:=GT pl (by omega)
   have hB:=EL [] uL
   have hS:=vu [] [] uL uL
   rw[decide_eq_true rfl] at hS
   have hC:=wW e ps
   have hF:=oW e ps b1 b2
   have e7:gL []=[]:=rfl
   obtain ⟨t1,v1,he1⟩:=aV e ps
   simp only[D2,EJ,e7,he1] at hP hQ hB hS hC hF
   simp (disch:=omega) [wl]
   refine a7 hP ?_
   simp (disch:=omega) [wl]
   refine a7 hQ ?_
   simp (disch:=omega) [wl]
   refine a7 hB ?_
   simp (disch:=omega) [wl]
   refine a7 hS ?_
   simp (disch:=omega) [wl]
   refine a7 hC ?_
   simp (disch:=omega) [wl]
   refine a7 hF ?_
   simp (disch:=omega) [wl,e0]
   refine a7 hA ?_
   simp
theorem EN (s:Str):Fn G Tryz.prog iF [.str s] (.bool true):=by
 refine ac hm uI (by simp) ?_
 have hA:=mG
 simp[mB,mC]
 by_cases hs:4000 < s.length
 ·simp (disch:=omega) [wl]
  refine a7 hA ?_
  simp
 ·have hP:=fo s (by omega)
  cases hR:fU s with
  | ok N=>
   rw[hR] at hP
   have hc:=x5 hR
   have hC:=iD N (uK hc)
   rw[show wi N=0 from hc] at hC
   simp only[D2] at hP
   simp (disch:=omega) [wl]
   refine a7 hP ?_
   simp (disch:=omega) [wl]
   refine a7 hC ?_
   simp (disch:=omega) [wl]
   refine a7 hA ?_
   simp
  | no e ps=>
   rw[hR] at hP
   obtain ⟨e0,pl⟩:=GI hR
   obtain ⟨b1,b2⟩:=GT pl (by omega)
   obtain ⟨p1,p2,p3,p4⟩:=pl
   have hC:=wW e ps
   have hF:=oW e ps b1 b2
   obtain ⟨p,r,rfl⟩:=Iu hR
   rw[List.sum_cons] at p1 p2
   have hAs:=uY .nilp [.int .i64 p,cl e r]
   have hpu:cl e (p::r)=.iface 54 (.ref [.int .i64 p,cl e r]):=rfl
   simp only[D2,hpu] at hP hC hF
   simp (disch:=omega) [wl]
   refine a7 hP ?_
   simp (disch:=omega) [wl]
   refine callM [(1000,5)] [] hAs rfl rfl ⟨rfl,trivial⟩ ⟨[],[],rfl,⟨rfl,rfl⟩,rfl⟩ rfl ?_
   simp (disch:=omega) [wl]
   refine a7 hF ?_
   simp (disch:=omega) [wl]
   refine a7 hC ?_
   simp (disch:=omega) [wl,e0]
   refine a7 hA ?_
   simp
theorem wL (args:List IV) (h:DP [.str] args):Fn G Tryz.prog gp args (.bool true):=by
 obtain ⟨v,b,rfl,⟨s,hs,_⟩,hd⟩:=h
 have hd:b=[]:=hd
 subst hd
 simp only[List.cons.injEq,and_true] at hs
 subst hs
 exact An s
theorem Ao (args:List IV) (h:DP [.str] args):Fn G Tryz.prog iF args (.bool true):=by
 obtain ⟨v,b,rfl,⟨s,hs,_⟩,hd⟩:=h
 have hd:b=[]:=hd
 subst hd
 simp only[List.cons.injEq,and_true] at hs
 subst hs
 exact EN s
end Go.Vs.YtnddjffndeaiiaaGreatDoor
