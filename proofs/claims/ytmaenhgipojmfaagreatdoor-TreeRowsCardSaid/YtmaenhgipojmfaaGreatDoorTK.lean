/- The walk of a growing list of nodes: where a line is taken. No conditions. -/
import Derived.Test.YtmaenhgipojmfaaGreatDoorTJ
set_option linter.unusedVariables false
set_option linter.unusedSimpArgs false
namespace Go.Vs.U8
end Go.Vs.U8
namespace Go.Vs.Pa
end Go.Vs.Pa
namespace Go.Vs.Fd
end Go.Vs.Fd
namespace Go.Vs.Tr
end Go.Vs.Tr
namespace Go.Vs.YtmaenhgipojmfaaGreatDoor
set_option linter.unusedSimpArgs false
set_option linter.unusedVariables false
open Go.Proofs Go.Vs.U8 Go.Vs.Pa Go.Vs.Fd Go.Vs.Tr
set_option maxRecDepth 100000
set_option maxHeartbeats 16000000
theorem Me (N:cn) (k:Nat) (y:Nd Ln):gL (N.set k y)=(gL N).set k [.int .i64 y.up,.str y.n,.slice (ls y.l)]:=by
 unfold gL
 rw[List.map_set];rfl
def lS (N:cn) (k:Nat) (x:Ln):cn:=match N[k]? with
 | some y=>N.set k ⟨y.up,y.n,y.l++[x]⟩
 | none=>N
def Am (N:cn):List Nat→Int
 | []=>9
 | k::_=>if (bn N k).length=24 then 20 else 0
theorem CU {N:cn} {a:Nat} {r:List Nat} (h:(bn N a).length=24):Am N (a::r)=20:=if_pos h
theorem KF {N:cn} {a:Nat} {r:List Nat} (h:¬(bn N a).length=24):Am N (a::r)=0:=if_neg h
def pK (N:cn) (op:List Nat) (x:Ln):Int:=if x.n=eE then jQ N op x else if x.n=fT then jm N op x else Am N op
def Ir:List Nat→List Nat
 | v::vs=>(v+1)::vs
 | []=>[]
def BF (N:cn) (op vs O:List Nat) (v w:Nat) (x:Ln):List (Nat×Ob):=if x.n=eE then BD N op vs O v w x else if x.n=fT then BE N op vs O v w x else if Am N op=0 then eh (lS N (op.headD 0) x) op (Ir vs) O v w [] else eh N op vs O v w []
theorem Is (N:cn) (k j:Nat) (x:Ln) (h:j≠k):bn (lS N k x) j=bn N j:=by
 unfold bn lS
 split
 ·rw[List.getElem?_set_ne (fun e=>h e.symm)]
 ·rfl
theorem kH (N:cn) (k:Nat) (x:Ln) (hk:k < N.length):bn (lS N k x) k=bn N k++[x]:=by
 unfold bn lS
 rw[List.getElem?_eq_getElem hk]
 simp only
 rw[List.getElem?_set_self hk]
 rfl
theorem uG (N:cn) (k:Nat) (x:Ln) {y:Nd Ln} (hk:k < N.length) (hy:N[k]=y):gL (lS N k x)=(gL N).set k [.int .i64 y.up,.str y.n,.slice (ls (y.l++[x]))]:=by
 unfold lS
 rw[List.getElem?_eq_getElem hk,hy]
 exact Me N k _
theorem kI {a:Nat} {r:List Nat} (h:(a::r).Nodup):∀ j∈r,¬j=a:=fun j hj e=>(List.nodup_cons.1 h).1 (e▸hj)
theorem my {a:Nat} {r:List Nat} (h:(a::r).Nodup):∀ j∈r,(j==a)=false:=fun j hj=>by simpa using kI h j hj
theorem pL (N:cn) (x:Ln) {a:Nat} {r:List Nat} (h:(a::r).Nodup):∀ j∈r,bn (lS N a x) j=bn N j:=fun j hj=>Is N a j x (kI h j hj)
theorem KG (N:cn) (op vs O:List Nat) (v w:Nat) (x:Ln) (hx:FitX x) (hN:N.length < 100000) (hl:vs.length=op.length) (h4:op.length≤4) (hO:O.take op.length=op.reverse) (hOl:op.length≤O.length) (ho:O.length < 100000) (hk:∀ k∈op,k < N.length) (hnd:op.Nodup) (hnl:∀ k,(bn N k).length < 100000) :
  zx G Tryz.prog cH
  {args:=[.loc 1000 0,.val x.iv],objs:=eh N op vs O v w [],ro:=kG op,res:=.val (.int .i64 (pK N op x)),objs':=BF N op vs O v w x,ro':=kG op }:=by
 have hOt:(kR O).take op.length=kR op.reverse:=by rw[pJ,hO]
 have hT:=Gd N op (by omega)
 have hB:=Iq N op vs O v w x hx hN hl h4 hO hOl ho
 have hE:=Md N op vs O v w x hx hN hl h4 hO hOl ho hk
 unfold BF pK
 by_cases e1:x.n=eE
 ·rw[if_pos e1,if_pos e1]
  unfold eE at e1
  simp only[Ln.iv,e1] at hB
  unfold BD at hB ⊢
  by_cases hz:jQ N op x=0
  ·have h3:op.length≤3:=by
    unfold jQ at hz
    split at hz
    ·cases hz
    ·split at hz
     ·cases hz
     ·omega
   rw[if_pos hz] at hB ⊢
   rw[hz] at hB ⊢
   rcases qj hl h3 with ⟨rfl,rfl⟩ | ⟨a,a',rfl,rfl⟩ | ⟨a,b,a',b',rfl,rfl⟩ | ⟨a,b,c,a',b',c',rfl,rfl⟩
   all_goals
    refine bA hm aW (by simp) rfl ?_
    simp[aL,aM,uO,eh,kM,kN,kG,Ln.iv,e1]
    refine callM [] [] hB rfl rfl (by first | exact ⟨rfl,rfl,rfl,trivial⟩ | exact ⟨rfl,rfl,rfl,rfl,trivial⟩ | exact ⟨rfl,rfl,rfl,rfl,rfl,trivial⟩ | exact ⟨rfl,rfl,rfl,rfl,rfl,rfl,trivial⟩ | exact ⟨rfl,rfl,rfl,rfl,rfl,rfl,rfl,trivial⟩) ⟨rfl,[],[],rfl,rfl,rfl⟩ rfl ?_
    simp
    refine cF [(4,.val (.int .i64 0))] ?_ rfl
    simp[zl,kM,kN,kG,s9,Vs.ren]
    exact aQ
  ·rw[if_neg hz] at hB ⊢
   obtain ⟨E,hEE⟩:∃ E,jQ N op x=E:=⟨_,rfl⟩
   rw[hEE] at hB ⊢
   rcases dL hl h4 with ⟨rfl,rfl⟩ | ⟨a,a',rfl,rfl⟩ | ⟨a,b,a',b',rfl,rfl⟩ | ⟨a,b,c,a',b',c',rfl,rfl⟩ | ⟨a,b,c,d,a',b',c',d',rfl,rfl⟩
   all_goals
    refine bA hm aW (by simp) rfl ?_
    simp[aL,aM,uO,eh,kM,kN,kG,Ln.iv,e1]
    refine callM [] [] hB rfl rfl (by first | exact ⟨rfl,rfl,rfl,trivial⟩ | exact ⟨rfl,rfl,rfl,rfl,trivial⟩ | exact ⟨rfl,rfl,rfl,rfl,rfl,trivial⟩ | exact ⟨rfl,rfl,rfl,rfl,rfl,rfl,trivial⟩ | exact ⟨rfl,rfl,rfl,rfl,rfl,rfl,rfl,trivial⟩) ⟨rfl,[],[],rfl,rfl,rfl⟩ rfl ?_
    simp
    refine cF [(4,.val (.int .i64 E))] ?_ rfl
    simp[eh,kM,kN,kG,s9,Vs.ren]
    exact aQ
 ·rw[if_neg e1,if_neg e1]
  unfold eE at e1
  by_cases e2:x.n=fT
  ·rw[if_pos e2,if_pos e2]
   unfold fT at e2
   simp only[Ln.iv,e2] at hE
   unfold BE at hE ⊢
   by_cases hz:jm N op x=0
   ·rw[if_pos hz] at hE ⊢
    rw[hz] at hE ⊢
    rcases dL hl h4 with ⟨rfl,rfl⟩ | ⟨a,a',rfl,rfl⟩ | ⟨a,b,a',b',rfl,rfl⟩ | ⟨a,b,c,a',b',c',rfl,rfl⟩ | ⟨a,b,c,d,a',b',c',d',rfl,rfl⟩
    ·unfold jm at hz
     split at hz <;> cases hz
    all_goals
     refine bA hm aW (by simp) rfl ?_
     simp[aL,aM,uO,eh,kM,kN,kG,Ln.iv,e2]
     refine callM [] [] hE rfl rfl (by first | exact ⟨rfl,rfl,rfl,trivial⟩ | exact ⟨rfl,rfl,rfl,rfl,trivial⟩ | exact ⟨rfl,rfl,rfl,rfl,rfl,trivial⟩ | exact ⟨rfl,rfl,rfl,rfl,rfl,rfl,trivial⟩ | exact ⟨rfl,rfl,rfl,rfl,rfl,rfl,rfl,trivial⟩) ⟨rfl,[],[],rfl,rfl,rfl⟩ rfl ?_
     simp
     refine cF [(4,.val (.int .i64 0))] ?_ rfl
     simp[zm,kM,kN,kG,s9,Vs.ren]
     exact aQ
   ·rw[if_neg hz] at hE ⊢
    obtain ⟨E,hEE⟩:∃ E,jm N op x=E:=⟨_,rfl⟩
    rw[hEE] at hE ⊢
    rcases dL hl h4 with ⟨rfl,rfl⟩ | ⟨a,a',rfl,rfl⟩ | ⟨a,b,a',b',rfl,rfl⟩ | ⟨a,b,c,a',b',c',rfl,rfl⟩ | ⟨a,b,c,d,a',b',c',d',rfl,rfl⟩
    all_goals
     refine bA hm aW (by simp) rfl ?_
     simp[aL,aM,uO,eh,kM,kN,kG,Ln.iv,e2]
     refine callM [] [] hE rfl rfl (by first | exact ⟨rfl,rfl,rfl,trivial⟩ | exact ⟨rfl,rfl,rfl,rfl,trivial⟩ | exact ⟨rfl,rfl,rfl,rfl,rfl,trivial⟩ | exact ⟨rfl,rfl,rfl,rfl,rfl,rfl,trivial⟩ | exact ⟨rfl,rfl,rfl,rfl,rfl,rfl,rfl,trivial⟩) ⟨rfl,[],[],rfl,rfl,rfl⟩ rfl ?_
     simp
     refine cF [(4,.val (.int .i64 E))] ?_ rfl
     simp[eh,kM,kN,kG,s9,Vs.ren]
     exact aQ
  ·rw[if_neg e2,if_neg e2]
   unfold fT at e2
   rcases dL hl h4 with ⟨rfl,rfl⟩ | ⟨a,a',rfl,rfl⟩ | ⟨a,b,a',b',rfl,rfl⟩ | ⟨a,b,c,a',b',c',rfl,rfl⟩ | ⟨a,b,c,d,a',b',c',d',rfl,rfl⟩
   ·simp only[List.length_nil] at hOt
    rw[show Am N []=9 from rfl,if_neg (by decide)]
    refine bA hm aW (by simp) rfl ?_
    simp[aL,aM,uO,eh,kM,kN,kG,Ln.iv,e1,e2,hOt]
    refine a7 hT ?_
    simp (disch:=omega) [wl,bw]
    refine cF [(4,.val (.int .i64 9))] ?_ rfl
    simp[eh,kM,kN,kG]
    exact aQ
   all_goals
    simp only[List.length_cons,List.length_nil,Nat.zero_add,Nat.reduceAdd] at hOt hOl
    have hak:=hk a (by simp)
    obtain ⟨y,hy⟩:∃ y,N[a]=y:=⟨_,rfl⟩
    have hg:=bC hak hy
    have hya:bn N a=y.l:=by unfold bn;rw[List.getElem?_eq_getElem hak,hy];rfl
    have hyl:=hnl a
    rw[hya] at hyl
    by_cases h24:y.l.length=24
    ·rw[CU (by rw[hya];exact h24),if_neg (by decide)]
     refine bA hm aW (by simp) rfl ?_
     simp[aL,aM,uO,eh,kM,kN,kG,Ln.iv,e1,e2,hOt]
     refine a7 hT ?_
     simp (disch:=omega) [wl,bw,hg,ah,az,hya,h24]
     refine ⟨by omega,?_⟩
     refine cF [(4,.val (.int .i64 20))] ?_ rfl
     simp[eh,kM,kN,kG,hya]
     exact aQ
    ·rw[KF (by rw[hya];exact h24),if_pos rfl]
     refine bA hm aW (by simp) rfl ?_
     simp[aL,aM,uO,eh,kM,kN,kG,Ln.iv,e1,e2,hOt]
     refine a7 hT ?_
     simp (disch:=omega) [wl,bw,hg,ah,az,hya,h24]
     have q':=kI hnd
     have q2:=my hnd
     have hna:=uG N a x hak hy
     have hla:=kH N a x hak
     have hlb:=pL N x hnd
     rw[hya] at hla
     refine ⟨by omega,by omega,by omega,rfl,?_⟩
     refine cF [(4,.val (.int .i64 0))] ?_ rfl
     simp[eh,kM,kN,kG,Ir,q',q2,hna,hla,hlb,qe]
     exact an rfl rfl (by simp[aR,ap,a8]) (by simp[bM,a8,q2]) (by simp[bQ])
end Go.Vs.YtmaenhgipojmfaaGreatDoor
