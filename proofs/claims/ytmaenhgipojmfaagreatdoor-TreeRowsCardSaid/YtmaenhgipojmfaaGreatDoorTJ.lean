/- The walk of a growing list of nodes: where a node ends. No conditions. -/
import Derived.Test.YtmaenhgipojmfaaGreatDoorTI
set_option linter.unusedVariables false
set_option linter.unusedSimpArgs false
namespace Go.Vs.U8
end Go.Vs.U8
namespace Go.Vs.Pa
end Go.Vs.Pa
namespace Go.Vs.Fd
end Go.Vs.Fd
namespace Go.Vs.Tr
end Go.Vs.Tr
namespace Go.Vs.YtmaenhgipojmfaaGreatDoor
set_option linter.unusedSimpArgs false
set_option linter.unusedVariables false
open Go.Proofs Go.Vs.U8 Go.Vs.Pa Go.Vs.Fd Go.Vs.Tr
set_option maxRecDepth 100000
set_option maxHeartbeats 16000000
def jm (N:cn) (op:List Nat) (x:Ln):Int:=if x.p≠[] then 4 else match op with
 | []=>4
 | k::_=>if (N[k]?).elim [] Nd.n=upper x.v then 0 else 4
theorem GP {N:cn} {a:Nat} {r:List Nat} {x:Ln} (p0:x.p=[]) (e:(N[a]?).elim [] Nd.n=upper x.v):jm N (a::r) x=0:=by
 unfold jm
 rw[if_neg (by simp[p0])]
 exact if_pos e
theorem CT {N:cn} {a:Nat} {r:List Nat} {x:Ln} (p0:x.p=[]) (e:¬(N[a]?).elim [] Nd.n=upper x.v):jm N (a::r) x=4:=by
 unfold jm
 rw[if_neg (by simp[p0])]
 exact if_neg e
def zm (N:cn) (op vs O:List Nat) (v w:Nat):List (Nat×Ob):=(1000,.box [.town 1001 v,.view 1002 w 0 (op.length-1)])::(1001,.tab v 3 (gL N) (kM op vs))::(1002,.arr w 1 (kR O))::kN N op vs
def BE (N:cn) (op vs O:List Nat) (v w:Nat) (x:Ln):List (Nat×Ob):=if jm N op x=0 then zm N op vs O v w else eh N op vs O v w []
theorem Md (N:cn) (op vs O:List Nat) (v w:Nat) (x:Ln) (hx:FitX x) (hN:N.length < 100000) (hl:vs.length=op.length) (h4:op.length≤4) (hO:O.take op.length=op.reverse) (hOl:op.length≤O.length) (ho:O.length < 100000) (hk:∀ k∈op,k < N.length) :
  zx G Tryz.prog cU
  {args:=[.loc 1000 0,.val x.iv],objs:=eh N op vs O v w [],ro:=kG op,res:=.val (.int .i64 (jm N op x)),objs':=BE N op vs O v w x,ro':=kG op }:=by
 have hOt:(kR O).take op.length=kR op.reverse:=by rw[pJ,hO]
 have hT:=Gd N op (by omega)
 have hU:=m5 x.v (by have:=hx.v;omega)
 have hpl:=aw x.p
 have hxp:=hx.p
 unfold BE
 by_cases p0:x.p=[]
 ·have pl:x.p.length=0:=by rw[p0];rfl
  rcases dL hl h4 with ⟨rfl,rfl⟩ | ⟨a,a',rfl,rfl⟩ | ⟨a,b,a',b',rfl,rfl⟩ | ⟨a,b,c,a',b',c',rfl,rfl⟩ | ⟨a,b,c,d,a',b',c',d',rfl,rfl⟩
  ·have hE:jm N [] x=4:=by unfold jm;rw[if_neg (by simp[p0])]
   rw[hE,if_neg (by decide)]
   simp only[List.length_cons,List.length_nil,Nat.zero_add,Nat.reduceAdd] at hOt hOl
   refine bA hm c7 (by simp) rfl ?_
   simp[bK,bL,uO,eh,kM,kN,kG,Ln.iv,hOt]
   refine a7 hT ?_
   simp (disch:=omega) [wl,hpl,pl,bw]
   refine ⟨rfl,?_⟩
   refine cF [(4,.val (.int .i64 4))] ?_ rfl
   simp
   exact aQ
  all_goals
   simp only[List.length_cons,List.length_nil,Nat.zero_add,Nat.reduceAdd] at hOt hOl
   have hak:=hk a (by simp)
   obtain ⟨y,hy⟩:∃ y,N[a]=y:=⟨_,rfl⟩
   have hg:=bC hak hy
   have hye:(N[a]?).elim [] Nd.n=y.n:=by rw[List.getElem?_eq_getElem hak,hy];rfl
   by_cases e:y.n=upper x.v
   ·rw[GP p0 (hye.trans e),if_pos rfl]
    refine bA hm c7 (by simp) rfl ?_
    simp[bK,bL,uO,eh,kM,kN,kG,Ln.iv,hOt]
    refine a7 hT ?_
    simp (disch:=omega) [wl,hpl,pl,bw,hg,ah]
    refine ⟨by omega,?_⟩
    refine a7 hU ?_
    simp (disch:=omega) [wl,e,bT]
    refine ⟨rfl,?_⟩
    try refine ⟨by omega,?_⟩
    refine cF [(4,.val (.int .i64 0))] ?_ rfl
    simp[zm,kM,kN]
    exact aQ
   ·rw[CT p0 (fun q=>e (hye.symm.trans q)),if_neg (by decide)]
    refine bA hm c7 (by simp) rfl ?_
    simp[bK,bL,uO,eh,kM,kN,kG,Ln.iv,hOt]
    refine a7 hT ?_
    simp (disch:=omega) [wl,hpl,pl,bw,hg,ah]
    refine ⟨by omega,?_⟩
    refine a7 hU ?_
    simp (disch:=omega) [wl,e]
    refine ⟨rfl,?_⟩
    refine cF [(4,.val (.int .i64 4))] ?_ rfl
    simp
    exact aQ
 ·have pl:0 < x.p.length:=List.length_pos_iff.2 p0
  have hE:jm N op x=4:=by unfold jm;rw[if_pos p0]
  rw[hE,if_neg (by decide)]
  rcases dL hl h4 with ⟨rfl,rfl⟩ | ⟨a,a',rfl,rfl⟩ | ⟨a,b,a',b',rfl,rfl⟩ | ⟨a,b,c,a',b',c',rfl,rfl⟩ | ⟨a,b,c,d,a',b',c',d',rfl,rfl⟩
  all_goals
   simp only[List.length_cons,List.length_nil,Nat.zero_add,Nat.reduceAdd] at hOt hOl
   refine bA hm c7 (by simp) rfl ?_
   simp[bK,bL,uO,eh,kM,kN,kG,Ln.iv,hOt]
   refine a7 hT ?_
   simp (disch:=omega) [wl,hpl,pl,bw]
   refine ⟨rfl,?_⟩
   refine cF [(4,.val (.int .i64 4))] ?_ rfl
   simp
   exact aQ
end Go.Vs.YtmaenhgipojmfaaGreatDoor
