/- The walk of a growing list of nodes: where a node begins and ends, and where a line is taken. No conditions. -/
import Derived.Test.YtmaenhgipojmfaaGreatDoorTH
set_option linter.unusedVariables false
set_option linter.unusedSimpArgs false
namespace Go.Vs.U8
end Go.Vs.U8
namespace Go.Vs.Pa
end Go.Vs.Pa
namespace Go.Vs.Fd
end Go.Vs.Fd
namespace Go.Vs.Tr
end Go.Vs.Tr
namespace Go.Vs.YtmaenhgipojmfaaGreatDoor
set_option linter.unusedSimpArgs false
set_option linter.unusedVariables false
open Go.Proofs Go.Vs.U8 Go.Vs.Pa Go.Vs.Fd Go.Vs.Tr
set_option maxRecDepth 100000
set_option maxHeartbeats 16000000
def bn (N:cn) (k:Nat):List Ln:=(N[k]?).elim [] Nd.l
def kM:List Nat→List Nat→List (Nat×Nat×SV)
 | k::r,v::vs=>(k,2,.own (2001+r.length) v)::kM r vs
 | _,_=>[]
def kN (N:cn):List Nat→List Nat→List (Nat×Ob)
 | k::r,v::vs=>(2001+r.length,.arr v 3 (ls (bn N k)))::kN N r vs
 | _,_=>[]
def kG:List Nat→List Nat
 | _::r=>(2001+r.length)::kG r
 | []=>[]
def eh (N:cn) (op vs O:List Nat) (v w:Nat) (more:List (Nat×Nat×SV)):List (Nat×Ob):=(1000,.box [.town 1001 v,.view 1002 w 0 op.length])::(1001,.tab v 3 (gL N) (kM op vs++more))::(1002,.arr w 1 (kR O))::kN N op vs
theorem Mc {k:Nat} {r:List Nat} : (kR (k::r).reverse)[r.length]?=some [.int .i64 (k:Nat)]:=by
 refine x8 (by simp) ?_
 rw[List.getElem_reverse]
 simp
theorem Gd (N:cn) (op:List Nat) (h:op.length < 100000):Fn G Tryz.prog bJ [.ref [.slice (gL N),.slice (kR op.reverse)]] (.int .i64 (bw op)):=by
 refine ac hm jP (by simp) ?_
 simp[eW,eX,bT]
 cases op with
 | nil=>simp (disch:=omega) [wl,bw]
 | cons k r=>
  have hg:=Mc (k:=k) (r:=r)
  rw[List.reverse_cons] at hg
  rw[List.length_cons] at h
  simp (disch:=omega) [wl,bw,bT,hg]
theorem cF {rs:List VRes} {c:MC} {σ:St} (env:List (Nat×SV)) (h1:aS σ ⟨env,c.objs',c.ro',σ.n,σ.gl⟩) (h2:IX ⟨env,c.objs',c.ro',σ.n,σ.gl⟩ rs=some (c.res,[])):pW rs c .ret σ:=⟨_,[],h1,rfl,h2,rfl⟩
theorem dL {op vs:List Nat} (hl:vs.length=op.length) (h:op.length≤4):(op=[]∧vs=[])∨(∃ a a',op=[a]∧vs=[a'])∨(∃ a b a' b',op=[a,b]∧vs=[a',b'])∨(∃ a b c a' b' c',op=[a,b,c]∧vs=[a',b',c'])∨∃ a b c d a' b' c' d',op=[a,b,c,d]∧vs=[a',b',c',d']:=by
 rcases op with _ | ⟨a,_ | ⟨b,_ | ⟨c,_ | ⟨d,_ | ⟨e,r⟩⟩⟩⟩⟩ <;> rcases vs with _ | ⟨a',_ | ⟨b',_ | ⟨c',_ | ⟨d',_ | ⟨e',r'⟩⟩⟩⟩⟩ <;> simp at hl h ⊢
theorem qj {op vs:List Nat} (hl:vs.length=op.length) (h:op.length≤3):(op=[]∧vs=[])∨(∃ a a',op=[a]∧vs=[a'])∨(∃ a b a' b',op=[a,b]∧vs=[a',b'])∨∃ a b c a' b' c',op=[a,b,c]∧vs=[a',b',c']:=by
 rcases dL hl (by omega) with h1 | h1 | h1 | h1 | ⟨a,b,c,d,a',b',c',d',rfl,rfl⟩
 ·exact .inl h1
 ·exact .inr (.inl h1)
 ·exact .inr (.inr (.inl h1))
 ·exact .inr (.inr (.inr h1))
 ·simp at h
def jQ (N:cn) (op:List Nat) (x:Ln):Int:=if x.p≠[]∨ax (upper x.v)=false then 4 else if op.length=4 then 15 else if N.length=40 then 20 else 0
def zl (N:cn) (op vs:List Nat) (v w:Nat) (u:Str):List (Nat×Ob):=(1000,.box [.town 1001 (v+1),.own 1002 (w+2)])::(1001,.tab (v+1) 3 (gL (N++[⟨bw op,u,[]⟩])) (kM op vs++[(N.length,2,.nils)]))::(1002,.arr (w+2) 1 (kR (op.reverse++[N.length])))::kN N op vs
def BD (N:cn) (op vs O:List Nat) (v w:Nat) (x:Ln):List (Nat×Ob):=if jQ N op x=0 then zl N op vs v w (upper x.v) else eh N op vs O v w []
theorem Iq (N:cn) (op vs O:List Nat) (v w:Nat) (x:Ln) (hx:FitX x) (hN:N.length < 100000) (hl:vs.length=op.length) (h4:op.length≤4) (hO:O.take op.length=op.reverse) (hOl:op.length≤O.length) (ho:O.length < 100000) :
  zx G Tryz.prog cD
  {args:=[.loc 1000 0,.val x.iv],objs:=eh N op vs O v w [],ro:=kG op,res:=.val (.int .i64 (jQ N op x)),objs':=BD N op vs O v w x,ro':=kG op }:=by
 have hOt:(kR O).take op.length=kR op.reverse:=by rw[pJ,hO]
 have hT:=Gd N op (by omega)
 have hU:=m5 x.v (by have:=hx.v;omega)
 have hNm:=tI (upper x.v) (by rw[gy];have:=hx.v;omega)
 have hNl:(gL N).length=N.length:=ah N
 have hpl:=aw x.p
 have hxp:=hx.p
 unfold BD
 by_cases p0:x.p=[]
 ·have pl:x.p.length=0:=by rw[p0];rfl
  by_cases nb:ax (upper x.v)=true
  ·have hE:jQ N op x=if op.length=4 then 15 else if N.length=40 then 20 else 0:=by
    unfold jQ;rw[if_neg (by rw[not_or];exact ⟨fun q=>q p0,by rw[nb];decide⟩)]
   rw[nb] at hNm
   by_cases h5:op.length=4
   ·rw[if_pos h5] at hE
    rw[hE,if_neg (by decide)]
    rcases dL hl h4 with ⟨rfl,rfl⟩ | ⟨a,a',rfl,rfl⟩ | ⟨a,b,a',b',rfl,rfl⟩ | ⟨a,b,c,a',b',c',rfl,rfl⟩ | ⟨a,b,c,d,a',b',c',d',rfl,rfl⟩
    ·cases h5
    ·cases h5
    ·cases h5
    ·cases h5
    ·refine bA hm bz (by simp) rfl ?_
     simp[bi,bj,uO,eh,kM,kN,kG,Ln.iv]
     refine a7 hU ?_
     simp (disch:=omega) [wl,hpl,pl]
     refine a7 hNm ?_
     simp (disch:=omega) [wl]
     refine cF [(4,.val (.int .i64 15))] ?_ rfl
     simp[eh,kM,kN,kG]
     exact aQ
   ·rw[if_neg h5] at hE
    have h3:op.length≤3:=by omega
    by_cases n40:N.length=40
    ·rw[if_pos n40] at hE
     rw[hE,if_neg (by decide)]
     rcases qj hl h3 with ⟨rfl,rfl⟩ | ⟨a,a',rfl,rfl⟩ | ⟨a,b,a',b',rfl,rfl⟩ | ⟨a,b,c,a',b',c',rfl,rfl⟩
     all_goals
      refine bA hm bz (by simp) rfl ?_
      simp[bi,bj,uO,eh,kM,kN,kG,Ln.iv]
      refine a7 hU ?_
      simp (disch:=omega) [wl,hpl,pl]
      refine a7 hNm ?_
      simp (disch:=omega) [wl,ah]
      refine cF [(4,.val (.int .i64 20))] ?_ rfl
      simp[eh,kM,kN,kG]
      exact aQ
    ·rw[if_neg n40] at hE
     rw[hE,if_pos rfl]
     rcases qj hl h3 with ⟨rfl,rfl⟩ | ⟨a,a',rfl,rfl⟩ | ⟨a,b,a',b',rfl,rfl⟩ | ⟨a,b,c,a',b',c',rfl,rfl⟩
     all_goals
      simp only[List.length_cons,List.length_nil,Nat.zero_add,Nat.reduceAdd] at hOt hOl
      refine bA hm bz (by simp) rfl ?_
      simp[bi,bj,uO,eh,kM,kN,kG,Ln.iv]
      refine a7 hU ?_
      simp (disch:=omega) [wl,hpl,pl]
      refine a7 hNm ?_
      simp (disch:=omega) [wl,ah,hOt]
      refine a7 hT ?_
      simp (disch:=omega) [wl,ah,hOt,bT]
      refine ⟨by omega,rfl,?_⟩
      try refine ⟨by omega,?_⟩
      refine ⟨rfl,?_⟩
      refine cF [(4,.val (.int .i64 0))] ?_ rfl
      simp[zl,kM,kN,mr,pI]
      exact an rfl rfl (by simp[aR,ap,a8]) (by simp[bM,a8];exact ⟨rfl,rfl⟩) (by simp[bQ])
  ·have nb':ax (upper x.v)=false:=by simpa using nb
   have hE:jQ N op x=4:=by unfold jQ;rw[if_pos (.inr nb')]
   rw[nb'] at hNm
   rw[hE,if_neg (by decide)]
   rcases dL hl h4 with ⟨rfl,rfl⟩ | ⟨a,a',rfl,rfl⟩ | ⟨a,b,a',b',rfl,rfl⟩ | ⟨a,b,c,a',b',c',rfl,rfl⟩ | ⟨a,b,c,d,a',b',c',d',rfl,rfl⟩
   all_goals
    refine bA hm bz (by simp) rfl ?_
    simp[bi,bj,uO,eh,kM,kN,kG,Ln.iv]
    refine a7 hU ?_
    simp (disch:=omega) [wl,hpl,pl]
    refine a7 hNm ?_
    simp (disch:=omega) [wl]
    refine cF [(4,.val (.int .i64 4))] ?_ rfl
    simp[eh,kM,kN,kG]
    exact aQ
 ·have pl:0 < x.p.length:=List.length_pos_iff.2 p0
  have hE:jQ N op x=4:=by unfold jQ;rw[if_pos (.inl p0)]
  rw[hE,if_neg (by decide)]
  rcases dL hl h4 with ⟨rfl,rfl⟩ | ⟨a,a',rfl,rfl⟩ | ⟨a,b,a',b',rfl,rfl⟩ | ⟨a,b,c,a',b',c',rfl,rfl⟩ | ⟨a,b,c,d,a',b',c',d',rfl,rfl⟩
  all_goals
   refine bA hm bz (by simp) rfl ?_
   simp[bi,bj,uO,eh,kM,kN,kG,Ln.iv]
   refine a7 hU ?_
   simp (disch:=omega) [wl,hpl,pl]
   refine cF [(4,.val (.int .i64 4))] ?_ rfl
   simp[eh,kM,kN,kG]
   exact aQ
end Go.Vs.YtmaenhgipojmfaaGreatDoor
