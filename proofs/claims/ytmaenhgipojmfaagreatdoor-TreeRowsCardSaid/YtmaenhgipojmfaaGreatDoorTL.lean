/- What a line does to nodes that grow, by its errors; pieces of folded lines are few. No conditions. -/
import Derived.Test.YtmaenhgipojmfaaGreatDoorTK
import Derived.Test.YtmaenhgipojmfaaGreatDoorBD
set_option linter.unusedVariables false
set_option linter.unusedSimpArgs false
namespace Go.Vs.YtmaenhgipojmfaaGreatDoor
open Go.Proofs Go.Vs.U8 Go.Vs.Pa Go.Vs.Fd Go.Vs.Tr
set_option maxRecDepth 100000
set_option maxHeartbeats 16000000
theorem GQ {B:Nat} : ∀ (f:Nat) (t:Str) (a:Nat) (D:List Lf) (cur:Option Lf) (l:List Lf),t.length≤f→a+t.length≤B→(∀ x∈D,x.ps.length≤B)→(∀ x,cur=some x→x.ps.length≤a)→D1 t a D cur=.ok l→∀ x∈l,x.ps.length≤B
 | f,t,a,D,cur,l,hf,hB,hD,hc,h=>by
  have hDc:∀ x∈D++cur.toList,x.ps.length≤B:=by
   intro x hx
   rcases List.mem_append.1 hx with hx | hx
   ·exact hD x hx
   ·cases cur with
    | none=>cases hx
    | some y=>
     simp only[Option.toList_some,List.mem_singleton] at hx
     subst hx
     have:=hc _ rfl
     omega
  by_cases ht:t=[]
  ·subst ht
   rw[nF] at h
   simp only[UfR.ok.injEq] at h
   subst h
   exact hDc
  ·rw[jL ht] at h
   split at h
   ·cases h
   ·cases hr:jk t with
    | bad n=>rw[hr] at h;cases h
    | ok n nx=>
     rw[hr] at h
     obtain ⟨r1,r2,r3,r4⟩:=jK hr ht
     have hB':a+nx+(t.drop nx).length≤B:=by rw[List.length_drop];omega
     have hnew:∀ x,some (⟨t.take n,[(0,a)]⟩:Lf)=some x→x.ps.length≤a+nx:=fun x hx=>by
      obtain rfl:=Option.some.inj hx
      show 1≤_
      omega
     cases f with
     | zero=>omega
     | succ f=>
      have hl:(t.drop nx).length≤f:=by rw[List.length_drop];omega
      simp only at h
      cases hg:eT t with
      | false=>rw[hg] at h;exact GQ f _ _ _ _ l hl hB' hDc hnew h
      | true=>
       rw[hg] at h
       cases hcur:cur with
       | none=>rw[hcur] at h hDc;exact GQ f _ _ _ _ l hl hB' hDc hnew h
       | some y=>
        rw[hcur] at h
        refine GQ f _ _ _ _ l hl hB' hD (fun x hx=>?_) h
        obtain rfl:=Option.some.inj hx
        have:=hc y hcur
        show (y.ps++[_]).length≤_
        rw[List.length_append,List.length_singleton]
        omega
theorem BG {s:Str} {l:List Lf} (h:bP s=.ok l):∀ x∈l,x.ps.length≤s.length:=by
 unfold bP at h
 split at h
 ·cases h
 ·exact GQ s.length s 0 [] none l (Nat.le_refl _) (by omega) (by simp) (by simp) h
theorem GR {B:Nat} : ∀ {r:List (Nat×Nat)} {n:Nat},Nz B r n→∀ p∈r,p.1≤n∧p.2≤B
 | [],_,_,p,hp=>by cases hp
 | q::r,n,⟨h1,h2,h3⟩,p,hp=>by
  rcases List.mem_cons.1 hp with rfl | hp
  ·omega
  ·have:=GR h3 p hp;omega
theorem KH {B:Nat} {x:Lf} (h:CG B x) (hB:B < 1000000) (hx:x.t.length < 1000000):M9 x:=fun p hp=>by
 have:=GR h p (by simpa using hp)
 omega
theorem zn {s:Str} {l:List Lf} (h:bP s=.ok l):s.length≤6000∧l.length≤6000:=by
 have h6:s.length≤6000:=by
  unfold bP at h
  split at h
  ·cases h
  ·omega
 refine ⟨h6,?_⟩
 have gen:∀ (f:Nat) (t:Str) (a:Nat) (D:List Lf) (cur:Option Lf) (l:List Lf),t.length≤f→D1 t a D cur=.ok l→l.length≤D.length+cur.toList.length+t.length:=by
  intro f
  induction f with
  | zero=>
   intro t a D cur l hf h
   have ht:t=[]:=List.length_eq_zero_iff.1 (by omega)
   subst ht
   rw[nF] at h
   simp only[UfR.ok.injEq] at h
   subst h
   simp
  | succ f ih=>
   intro t a D cur l hf h
   by_cases ht:t=[]
   ·subst ht
    rw[nF] at h
    simp only[UfR.ok.injEq] at h
    subst h
    simp
   ·rw[jL ht] at h
    split at h
    ·cases h
    ·cases hr:jk t with
     | bad n=>rw[hr] at h;cases h
     | ok n nx=>
      rw[hr] at h
      obtain ⟨r1,r2,r3,r4⟩:=jK hr ht
      have hl:(t.drop nx).length≤f:=by rw[List.length_drop];omega
      simp only at h
      have hlen:(t.drop nx).length=t.length-nx:=List.length_drop
      cases hg:eT t <;> cases cur <;> rw[hg] at h <;> simp only at h <;> have:=ih _ _ _ _ _ hl h <;> simp at this ⊢ <;> omega
 unfold bP at h
 rw[if_neg (by omega)] at h
 have:=gen s.length s 0 [] none l (Nat.le_refl _) h
 simp at this
 omega
theorem EI (N:cn) (op:List Nat) (x:Ln) (hk:∀ k∈op,k < N.length):mo N op x=if pK N op x=0 then (if x.n=eE then .ok (N++[⟨bw op,upper x.v,[]⟩]) (N.length::op) else if x.n=fT then .ok N op.tail else .ok (lS N (op.headD 0) x) op) else .no (pK N op x):=by
 unfold mo pK rl
 by_cases e1:x.n=eE
 ·simp only[if_pos e1]
  unfold jQ
  by_cases h1:x.p≠[]∨ax (upper x.v)=false
  ·simp only[if_pos h1]
   rw[if_neg (by decide)]
  ·simp only[if_neg h1,hG]
   by_cases h2:op.length=4
   ·simp only[if_pos h2]
    rw[if_neg (by decide)]
   ·simp only[if_neg h2]
    by_cases h3:N.length=40
    ·simp only[if_pos h3]
     rw[if_neg (by decide)]
    ·simp only[if_neg h3]
     rw[if_pos trivial]
 ·simp only[if_neg e1]
  by_cases e2:x.n=fT
  ·simp only[if_pos e2]
   unfold jm
   by_cases h1:x.p≠[]
   ·simp only[if_pos h1]
    rw[if_neg (by decide)]
   ·simp only[if_neg h1,hG]
    cases op with
    | nil=>rfl
    | cons k r=>
     simp only
     by_cases h2:(N[k]?).elim [] Nd.n=upper x.v
     ·simp only[if_pos h2,List.tail_cons]
      rw[if_pos trivial]
     ·simp only[if_neg h2]
      rw[if_neg (by decide)]
  ·simp only[if_neg e2,hG]
   unfold Am
   cases op with
   | nil=>rfl
   | cons k r=>
    have hkk:=hk k (by simp)
    simp only[bn,lS,List.headD_cons,List.getElem?_eq_getElem hkk,Option.elim_some]
    by_cases h2:N[k].l.length=24
    ·simp only[if_pos h2]
     rw[if_neg (by decide)]
    ·simp only[if_neg h2]
     rw[if_pos trivial]
def D2:TrR→IV
 | .no e ps=>.tuple [.slice [],cl e ps]
 | .ok N=>.tuple [.slice (gL N),.nili]
def EJ:TrR→IV
 | .no e ps=>.tuple [.slice [],.int .i64 e,.int .i64 ps.sum]
 | .ok N=>.tuple [.slice (gL N),.int .i64 0,.int .i64 0]
theorem zo {N:cn} {op:List Nat} (h:Go.Vs.Tr.Good jp ax N op):N.length≤40∧op.length≤4∧op.Nodup∧(∀ k∈op,k < N.length)∧∀ k,(bn N k).length≤24:=by
 have hc:=yP jp ax h
 obtain ⟨h1,q,s,h2,rfl,h4,h5,h6⟩:=h
 refine ⟨h1,by rw[List.length_append] at h6;omega,(List.nodup_append.1 h4).2.1,fun k hk=>h5 k (List.mem_append_right _ hk),fun k=>?_⟩
 unfold bn
 rcases Nat.lt_or_ge k N.length with hk | hk
 ·rw[List.getElem?_eq_getElem hk]
  exact (jY hc _ (List.getElem_mem hk)).1
 ·rw[List.getElem?_eq_none hk]
  exact Nat.zero_le _
end Go.Vs.YtmaenhgipojmfaaGreatDoor
namespace Go.Vs.YtmaenhgipojmfaaGreatDoor
open Go.Proofs Go.Vs.U8 Go.Vs.Pa Go.Vs.Fd Go.Vs.Tr
set_option maxRecDepth 100000
set_option maxHeartbeats 32000000
theorem pM:ls []=[]:=rfl
theorem Mf {N:cn} {op vs O:List Nat} {v w:Nat} {x:Ln} (h:¬pK N op x=0):BF N op vs O v w x=eh N op vs O v w []:=by
 unfold pK at h
 unfold BF
 by_cases e1:x.n=eE
 ·rw[if_pos e1] at h ⊢
  unfold BD
  rw[if_neg h]
 ·rw[if_neg e1] at h ⊢
  by_cases e2:x.n=fT
  ·rw[if_pos e2] at h ⊢
   unfold BE
   rw[if_neg h]
  ·rw[if_neg e2] at h ⊢
   rw[if_neg h]
theorem BH {N N':cn} {op op':List Nat} {y:Ln} (h:Go.Vs.Tr.Good jp ax N op) (hy:bv y=0) (ht:mo N op y=.ok N' op'):Go.Vs.Tr.Good jp ax N' op':=by
 unfold mo at ht
 cases he:rl y with
 | no=>rw[he] at ht;cases ht
 | ok e=>rw[he] at ht;exact Bo jp ax h (Ex hy he) ht
theorem wC {N:cn} (z:Nd Ln) {k:Nat} (h:k < N.length):bn (N++[z]) k=bn N k:=by
 unfold bn
 rw[List.getElem?_append_left h]
theorem gF (N:cn) (z:Nd Ln):bn (N++[z]) N.length=z.l:=by
 unfold bn
 rw[List.getElem?_append_right (Nat.le_refl _),Nat.sub_self]
 rfl
def eZ:List Nat→List Nat→List (Nat×Nat×SV)
 | k::r,v::vs=>(k,2,.own (53+r.length) v)::eZ r vs
 | _,_=>[]
def cM (N:cn):List Nat→List Nat→List (Nat×Ob)
 | k::r,v::vs=>(53+r.length,.arr v 3 (ls (bn N k)))::cM N r vs
 | _,_=>[]
structure TpX where
 i:Nat
 N:cn
 op:List Nat
 vs:List Nat
 O:List Nat
 v:Nat
 w:Nat
def dM (s:Str) (rows:List Lf) (x:TpX):St:=⟨[(7,.val (.int .i64 x.i)),(6,.loc 6 0),(4,.val (.slice (uE rows))),(0,.val (.str s))],(6,.box [.town 51 x.v,.view 52 x.w 0 x.op.length])::(51,.tab x.v 3 (gL x.N) (eZ x.op x.vs))::(52,.arr x.w 1 (kR x.O))::cM x.N x.op x.vs,[53,54,55,56],62,G⟩
def OD:List (Nat×Nat):=[(1000,6),(1001,51),(1002,52),(2001,53),(2002,54),(2003,55),(2004,56)]
theorem AV {P:Program} {σ:St} {dst:Option Nat} {fv:SV} {args:List Opd} {K:St→Prop} {k:FuncId} {vals:List SV} {c:MC} (h2:zx σ.gl P k c) (h7:@NS (σ.mapply dst [(1000,6),(1001,51),(1002,52),(2001,53),(2002,54),(2003,55),(2004,56)] c []) ⟨K⟩) (h1:Gl σ fv args=some (k,vals):=by rfl) (h3:Nx σ OD c=true:=by rfl)
  (h4:oK σ.objs OD c.objs:=by first | exact ⟨rfl,rfl,rfl,trivial⟩ | exact ⟨rfl,rfl,rfl,rfl,trivial⟩ | exact ⟨rfl,rfl,rfl,rfl,rfl,trivial⟩ | exact ⟨rfl,rfl,rfl,rfl,rfl,rfl,trivial⟩ | exact ⟨rfl,rfl,rfl,rfl,rfl,rfl,rfl,trivial⟩)
  (h5:sU σ.objs OD vals c.args []:=by exact ⟨rfl,[],[],rfl,rfl,rfl⟩) (h6:Nw OD [] c.objs=true:=by rfl):@Fs P σ dst fv args ⟨K⟩:=callM OD [] h2 h1 h3 h4 h5 h6 h7
theorem fo (s:Str) (hs:s.length < 100000):Fn G Tryz.prog ct [.str s] (D2 (fU s)):=by
 refine ac hm A9 (by simp) ?_
 have hU:=Bw s hs
 obtain ⟨R,hR⟩:∃ R,fU s=R:=⟨_,rfl⟩
 rw[hR]
 unfold fU at hR
 simp[uf,ug]
 cases hu:bP s with
 | no e p=>
  rw[hu] at hR hU
  simp only at hR
  subst hR
  obtain ⟨t,v,ht⟩:=aV e [(p:Int)]
  refine y3 hm 0 (fun _:Unit=>⟨[],[],[],62,G⟩) (fun _=>False) (fun _=>0) rfl (fun _=>rfl) ?_ (fun _ h=>h.elim)
  simp only[M7,ht] at hU
  simp (disch:=omega) [wl]
  refine a7 hU ?_
  simp (disch:=omega) [wl,D2,ht]
 | ok rows=>
  rw[hu] at hR hU
  simp only at hR
  simp only[M7] at hU
  obtain ⟨s6,r6⟩:=zn hu
  refine N2 hm 0 (fun x:TpX=>dM s rows x) (fun x=>x.i≤rows.length∧dJ s.length (rows.drop x.i) x.N x.op=R∧Go.Vs.Tr.Good jp ax x.N x.op∧x.vs.length=x.op.length∧x.O.take x.op.length=x.op.reverse∧x.op.length≤x.O.length∧x.O.length≤x.i) (fun x=>rows.length-x.i) rfl rfl (fun _=>rfl) ?_ ?_
  ·simp (disch:=omega) [wl]
   refine a7 hU ?_
   simp (disch:=omega) [wl]
   refine eA ⟨0,[],[],[],[],0,0⟩ ⟨by simp,by simpa using hR,yO jp ax,rfl,rfl,by simp,by simp⟩ ?_
   refine aS.trans (pY true (d:=6) (j:=0) 51 3 (by simp) (by simp) rfl rfl rfl) ?_
   refine aS.trans (pY false (d:=6) (j:=1) 52 1 (by simp[St.adoptC]) (by simp) rfl rfl rfl) ?_
   refine aS.trans (ip (d:=6) (j:=1) (id:=52) (ver:=0) (s:=1) (rows:=[]) rfl rfl rfl rfl) ?_
   exact an rfl rfl (by simp[dM,St.adoptC,aR,ap,a8,put,ba,SV.erase,SV.noRef,SV.noRefs]) (by simp[dM,St.adoptC,bM,a8,put,aE,Ob.erase,cc,bt,jB,sY,SV.erase,SV.noRef,ts,kR,gL,eZ,cM]) (by simp[dM,cM,St.adoptC,bQ])
  rintro ⟨i,N,op,vs,O,v,w⟩ ⟨h1,h2,h3,h4,h5,h6,h7⟩
  simp only at h1 h2 h3 h4 h5 h6 h7
  obtain ⟨g1,g2,g3,g4,g5⟩:=zo h3
  simp only[dM]
  by_cases h:i < rows.length
  ·obtain ⟨x,hx⟩:∃ x,rows[i]=x:=⟨_,rfl⟩
   have hg:=GJ h hx
   have hmem:x∈rows:=hx▸List.getElem_mem h
   have xl:=ss hu x hmem
   have xp:=BG hu x hmem
   have xo:=vp hu x hmem
   have xf:=KH xo (by omega) (by omega)
   have hP:=I5 x.t (by omega)
   have hFP:=By x 0 (by omega) (by omega) xf
   have hp0:=mn xo 0
   rw[List.drop_eq_getElem_cons h,hx] at h2
   simp only[dJ] at h2
   cases hL:c9 x.t with
   | no e ps=>
    rw[hL] at h2 hP
    simp only at h2
    subst h2
    obtain ⟨t',v',ht⟩:=aV e ps
    obtain ⟨n1,n2⟩:=G6 hL
    have hps:(∀ p∈ps,-1000000 < p∧p < 1000000)∧ps.length < 1000:=by
     rcases n2 with ⟨p,rfl,q1,q2⟩ | ⟨k,p,rfl,q1,q2,q3⟩
     ·exact ⟨fun y hy=>by simp only[List.mem_singleton] at hy;omega,by simp⟩
     ·exact ⟨fun y hy=>by simp only[List.mem_cons,List.not_mem_nil,or_false] at hy;omega,by simp⟩
    have hPl:=Ik e ps x (by omega) (by omega) xf hps.1 hps.2 (by have:=mn xo ps.sum;omega)
    simp only[pm,Ln.iv,A8] at hP
    simp only[Lf.iv] at hPl
    rw[ht] at hP hPl
    simp[eZ,cM]
    simp (disch:=omega) [wl,hg,aj]
    refine a7 hP ?_
    simp (disch:=omega) [wl,hg,aj]
    refine a7 hPl ?_
    simp[D2]
   | ok y=>
    rw[hL] at h2 hP
    simp only at h2
    have hyc:=pz hL
    have fy:=py hyc
    have hM:=KG N op vs O v w y fy (by omega) h4 g2 h5 h6 (by omega) g4 g3 (fun k=>by have:=g5 k;omega)
    have gd:=fun N' op' (q:mo N op y=.ok N' op')=>BH h3 hyc q
    rw[EI N op y g4] at h2 gd
    simp only[pm,Ln.iv] at hP hM
    unfold BF at hM
    by_cases hz:pK N op y=0
    ·rw[if_pos hz] at h2 gd
     rw[hz] at hM
     by_cases e1:y.n=eE
     ·rw[if_pos e1] at h2 hM gd
      have hz':jQ N op y=0:=by unfold pK at hz;rw[if_pos e1] at hz;exact hz
      have q3:op.length≤3:=by
       unfold jQ at hz'
       split at hz'
       ·cases hz'
       ·split at hz'
        ·cases hz'
        ·omega
      unfold BD at hM
      rw[if_pos hz'] at hM
      simp only at h2
      have hgd:=gd _ _ rfl
      have hne:=gF N ⟨bw op,upper y.v,[]⟩
      have hno:=fun k (hk:k∈op)=>wC ⟨bw op,upper y.v,[]⟩ (g4 k hk)
      rcases qj h4 q3 with ⟨rfl,rfl⟩ | ⟨a,a',rfl,rfl⟩ | ⟨a,b,a',b',rfl,rfl⟩ | ⟨a,b,c,a',b',c',rfl,rfl⟩
      ·simp[eZ,cM]
       simp (disch:=omega) [wl,hg,aj]
       refine a7 hP ?_
       simp (disch:=omega) [wl]
       refine AV hM ?_
       simp (disch:=omega) [wl,zl,kM,kN,kG]
       refine g8 ⟨i+1,N++[⟨bw [],upper y.v,[]⟩],N.length::[],0::[],([]:List Nat).reverse++[N.length],v+1,w+2⟩ ⟨by simp only;omega,h2,hgd,by simp,by simp,by simp,by simp only[List.length_append,List.length_reverse,List.length_cons,List.length_nil] at h6 ⊢;omega⟩ (by simp only;omega) ?_
       refine aS.trans (gw (t:=51) (n:=0) (j:=2) 53 3 (by simp) (by simp) rfl rfl rfl) ?_
       refine aS.trans (ip (d:=6) (j:=1) (id:=52) rfl rfl rfl rfl) ?_
       refine aS.trans (cV (id:=51) [(N.length,2,.own 53 0)] rfl rfl (by simp[bt,SV.erase,SV.noRef])) ?_
       exact an rfl rfl (by simp[dM,St.adoptL,aR,ap,a8,put,ba,SV.erase,SV.noRef,SV.noRefs]) (by simp[dM,St.adoptL,bM,a8,put,aE,Ob.erase,cc,bt,SV.erase,SV.noRef,eZ,cM,hne,hno,pM,bT]) (by simp[dM,St.adoptL,bQ,cM])
      ·simp[eZ,cM]
       simp (disch:=omega) [wl,hg,aj]
       refine a7 hP ?_
       simp (disch:=omega) [wl]
       refine AV hM ?_
       simp (disch:=omega) [wl,zl,kM,kN,kG]
       refine g8 ⟨i+1,N++[⟨bw [a],upper y.v,[]⟩],N.length::[a],0::[a'],([a]:List Nat).reverse++[N.length],v+1,w+2⟩ ⟨by simp only;omega,h2,hgd,by simp,by simp,by simp,by simp only[List.length_append,List.length_reverse,List.length_cons,List.length_nil] at h6 ⊢;omega⟩ (by simp only;omega) ?_
       refine aS.trans (gw (t:=51) (n:=1) (j:=2) 54 3 (by simp) (by simp) rfl rfl rfl) ?_
       refine aS.trans (ip (d:=6) (j:=1) (id:=52) rfl rfl rfl rfl) ?_
       refine aS.trans (cV (id:=51) [(N.length,2,.own 54 0),(a,2,.own 53 a')] rfl rfl (by simp[bt,SV.erase,SV.noRef])) ?_
       exact an rfl rfl (by simp[dM,St.adoptL,aR,ap,a8,put,ba,SV.erase,SV.noRef,SV.noRefs]) (by simp[dM,St.adoptL,bM,a8,put,aE,Ob.erase,cc,bt,SV.erase,SV.noRef,eZ,cM,hne,hno,pM,bT]) (by simp[dM,St.adoptL,bQ,cM])
      ·simp[eZ,cM]
       simp (disch:=omega) [wl,hg,aj]
       refine a7 hP ?_
       simp (disch:=omega) [wl]
       refine AV hM ?_
       simp (disch:=omega) [wl,zl,kM,kN,kG]
       refine g8 ⟨i+1,N++[⟨bw [a,b],upper y.v,[]⟩],N.length::[a,b],0::[a',b'],([a,b]:List Nat).reverse++[N.length],v+1,w+2⟩ ⟨by simp only;omega,h2,hgd,by simp,by simp,by simp,by simp only[List.length_append,List.length_reverse,List.length_cons,List.length_nil] at h6 ⊢;omega⟩ (by simp only;omega) ?_
       refine aS.trans (gw (t:=51) (n:=2) (j:=2) 55 3 (by simp) (by simp) rfl rfl rfl) ?_
       refine aS.trans (ip (d:=6) (j:=1) (id:=52) rfl rfl rfl rfl) ?_
       refine aS.trans (cV (id:=51) [(N.length,2,.own 55 0),(a,2,.own 54 a'),(b,2,.own 53 b')] rfl rfl (by simp[bt,SV.erase,SV.noRef])) ?_
       exact an rfl rfl (by simp[dM,St.adoptL,aR,ap,a8,put,ba,SV.erase,SV.noRef,SV.noRefs]) (by simp[dM,St.adoptL,bM,a8,put,aE,Ob.erase,cc,bt,SV.erase,SV.noRef,eZ,cM,hne,hno,pM,bT]) (by simp[dM,St.adoptL,bQ,cM])
      ·simp[eZ,cM]
       simp (disch:=omega) [wl,hg,aj]
       refine a7 hP ?_
       simp (disch:=omega) [wl]
       refine AV hM ?_
       simp (disch:=omega) [wl,zl,kM,kN,kG]
       refine g8 ⟨i+1,N++[⟨bw [a,b,c],upper y.v,[]⟩],N.length::[a,b,c],0::[a',b',c'],([a,b,c]:List Nat).reverse++[N.length],v+1,w+2⟩ ⟨by simp only;omega,h2,hgd,by simp,by simp,by simp,by simp only[List.length_append,List.length_reverse,List.length_cons,List.length_nil] at h6 ⊢;omega⟩ (by simp only;omega) ?_
       refine aS.trans (gw (t:=51) (n:=3) (j:=2) 56 3 (by simp) (by simp) rfl rfl rfl) ?_
       refine aS.trans (ip (d:=6) (j:=1) (id:=52) rfl rfl rfl rfl) ?_
       refine aS.trans (cV (id:=51) [(N.length,2,.own 56 0),(a,2,.own 55 a'),(b,2,.own 54 b'),(c,2,.own 53 c')] rfl rfl (by simp[bt,SV.erase,SV.noRef])) ?_
       exact an rfl rfl (by simp[dM,St.adoptL,aR,ap,a8,put,ba,SV.erase,SV.noRef,SV.noRefs]) (by simp[dM,St.adoptL,bM,a8,put,aE,Ob.erase,cc,bt,SV.erase,SV.noRef,eZ,cM,hne,hno,pM,bT]) (by simp[dM,St.adoptL,bQ,cM])
     ·rw[if_neg e1] at h2 hM gd
      by_cases e2:y.n=fT
      ·rw[if_pos e2] at h2 hM gd
       have hz':jm N op y=0:=by unfold pK at hz;rw[if_neg e1,if_pos e2] at hz;exact hz
       unfold BE at hM
       rw[if_pos hz'] at hM
       simp only at h2
       have hgd:=gd _ _ rfl
       rcases dL h4 g2 with ⟨rfl,rfl⟩ | ⟨a,a',rfl,rfl⟩ | ⟨a,b,a',b',rfl,rfl⟩ | ⟨a,b,c,a',b',c',rfl,rfl⟩ | ⟨a,b,c,d,a',b',c',d',rfl,rfl⟩
       ·exfalso
        unfold jm at hz'
        split at hz' <;> cases hz'
       ·simp[eZ,cM]
        simp (disch:=omega) [wl,hg,aj]
        refine a7 hP ?_
        simp (disch:=omega) [wl]
        refine AV hM ?_
        simp (disch:=omega) [wl,zm,kM,kN,kG]
        refine g8 ⟨i+1,N,[],[],O,v,w⟩ ⟨by simp only;omega,h2,hgd,by simp,(mw h5 h6).2.2,by simp only[List.length_cons,List.length_nil] at h6 ⊢;omega,by simp only;omega⟩ (by simp only;omega) ?_
        refine aS.trans (cV (id:=51) [] rfl rfl (by simp)) ?_
        exact an rfl rfl (by simp[dM,aR,ap,a8]) (by simp[dM,bM,a8,put,eZ,cM]) (by simp[dM,bQ,cM])
       ·simp[eZ,cM]
        simp (disch:=omega) [wl,hg,aj]
        refine a7 hP ?_
        simp (disch:=omega) [wl]
        refine AV hM ?_
        simp (disch:=omega) [wl,zm,kM,kN,kG]
        refine g8 ⟨i+1,N,[b],[b'],O,v,w⟩ ⟨by simp only;omega,h2,hgd,by simp,(mw h5 h6).2.2,by simp only[List.length_cons,List.length_nil] at h6 ⊢;omega,by simp only;omega⟩ (by simp only;omega) ?_
        refine aS.trans (cV (id:=51) [(b,2,.own 53 b')] rfl rfl (by simp)) ?_
        exact an rfl rfl (by simp[dM,aR,ap,a8]) (by simp[dM,bM,a8,put,eZ,cM]) (by simp[dM,bQ,cM])
       ·simp[eZ,cM]
        simp (disch:=omega) [wl,hg,aj]
        refine a7 hP ?_
        simp (disch:=omega) [wl]
        refine AV hM ?_
        simp (disch:=omega) [wl,zm,kM,kN,kG]
        refine g8 ⟨i+1,N,[b,c],[b',c'],O,v,w⟩ ⟨by simp only;omega,h2,hgd,by simp,(mw h5 h6).2.2,by simp only[List.length_cons,List.length_nil] at h6 ⊢;omega,by simp only;omega⟩ (by simp only;omega) ?_
        refine aS.trans (cV (id:=51) [(b,2,.own 54 b'),(c,2,.own 53 c')] rfl rfl (by simp)) ?_
        exact an rfl rfl (by simp[dM,aR,ap,a8]) (by simp[dM,bM,a8,put,eZ,cM]) (by simp[dM,bQ,cM])
       ·simp[eZ,cM]
        simp (disch:=omega) [wl,hg,aj]
        refine a7 hP ?_
        simp (disch:=omega) [wl]
        refine AV hM ?_
        simp (disch:=omega) [wl,zm,kM,kN,kG]
        refine g8 ⟨i+1,N,[b,c,d],[b',c',d'],O,v,w⟩ ⟨by simp only;omega,h2,hgd,by simp,(mw h5 h6).2.2,by simp only[List.length_cons,List.length_nil] at h6 ⊢;omega,by simp only;omega⟩ (by simp only;omega) ?_
        refine aS.trans (cV (id:=51) [(b,2,.own 55 b'),(c,2,.own 54 c'),(d,2,.own 53 d')] rfl rfl (by simp)) ?_
        exact an rfl rfl (by simp[dM,aR,ap,a8]) (by simp[dM,bM,a8,put,eZ,cM]) (by simp[dM,bQ,cM])
      ·rw[if_neg e2] at h2 hM gd
       have hz':Am N op=0:=by unfold pK at hz;rw[if_neg e1,if_neg e2] at hz;exact hz
       rw[if_pos hz'] at hM
       simp only at h2
       have hgd:=gd _ _ rfl
       rcases dL h4 g2 with ⟨rfl,rfl⟩ | ⟨a,a',rfl,rfl⟩ | ⟨a,b,a',b',rfl,rfl⟩ | ⟨a,b,c,a',b',c',rfl,rfl⟩ | ⟨a,b,c,d,a',b',c',d',rfl,rfl⟩
       ·cases hz'
       ·simp[eZ,cM]
        simp (disch:=omega) [wl,hg,aj]
        refine a7 hP ?_
        simp (disch:=omega) [wl]
        refine AV hM ?_
        simp (disch:=omega) [wl,eh,kM,kN,kG,Ir]
        refine g8 ⟨i+1,lS N a y,[a],[a'+1],O,v,w⟩ ⟨by simp only;omega,h2,hgd,by simp,h5,h6,by simp only;omega⟩ (by simp only;omega) ?_
        exact an rfl rfl (by simp[dM,aR,ap,a8]) (by simp[dM,bM,a8,put,eZ,cM]) (by simp[dM,bQ,cM])
       ·simp[eZ,cM]
        simp (disch:=omega) [wl,hg,aj]
        refine a7 hP ?_
        simp (disch:=omega) [wl]
        refine AV hM ?_
        simp (disch:=omega) [wl,eh,kM,kN,kG,Ir]
        refine g8 ⟨i+1,lS N a y,[a,b],[a'+1,b'],O,v,w⟩ ⟨by simp only;omega,h2,hgd,by simp,h5,h6,by simp only;omega⟩ (by simp only;omega) ?_
        exact an rfl rfl (by simp[dM,aR,ap,a8]) (by simp[dM,bM,a8,put,eZ,cM]) (by simp[dM,bQ,cM])
       ·simp[eZ,cM]
        simp (disch:=omega) [wl,hg,aj]
        refine a7 hP ?_
        simp (disch:=omega) [wl]
        refine AV hM ?_
        simp (disch:=omega) [wl,eh,kM,kN,kG,Ir]
        refine g8 ⟨i+1,lS N a y,[a,b,c],[a'+1,b',c'],O,v,w⟩ ⟨by simp only;omega,h2,hgd,by simp,h5,h6,by simp only;omega⟩ (by simp only;omega) ?_
        exact an rfl rfl (by simp[dM,aR,ap,a8]) (by simp[dM,bM,a8,put,eZ,cM]) (by simp[dM,bQ,cM])
       ·simp[eZ,cM]
        simp (disch:=omega) [wl,hg,aj]
        refine a7 hP ?_
        simp (disch:=omega) [wl]
        refine AV hM ?_
        simp (disch:=omega) [wl,eh,kM,kN,kG,Ir]
        refine g8 ⟨i+1,lS N a y,[a,b,c,d],[a'+1,b',c',d'],O,v,w⟩ ⟨by simp only;omega,h2,hgd,by simp,h5,h6,by simp only;omega⟩ (by simp only;omega) ?_
        exact an rfl rfl (by simp[dM,aR,ap,a8]) (by simp[dM,bM,a8,put,eZ,cM]) (by simp[dM,bQ,cM])
    ·rw[if_neg hz] at h2
     have hto:=Mf (vs:=vs) (O:=O) (v:=v) (w:=w) hz
     unfold BF at hto
     rw[hto] at hM
     obtain ⟨E,hEE⟩:∃ E,pK N op y=E:=⟨_,rfl⟩
     rw[hEE] at hM h2 hz
     simp only at h2
     subst h2
     have hN:=dF E ((iB x 0:Nat):Int)
     rw[if_neg hz] at hN
     simp only[Lf.iv] at hFP
     rcases dL h4 g2 with ⟨rfl,rfl⟩ | ⟨a,a',rfl,rfl⟩ | ⟨a,b,a',b',rfl,rfl⟩ | ⟨a,b,c,a',b',c',rfl,rfl⟩ | ⟨a,b,c,d,a',b',c',d',rfl,rfl⟩
     all_goals
      simp[eZ,cM]
      simp (disch:=omega) [wl,hg,aj]
      refine a7 hP ?_
      simp (disch:=omega) [wl]
      refine AV hM ?_
      simp (disch:=omega) [wl,eh,kM,kN,kG,hz,hg,aj]
      refine a7 hFP ?_
      simp (disch:=omega) [wl]
      refine a7 hN ?_
      simp[D2]
  ·obtain rfl:i=rows.length:=by omega
   rw[List.drop_length] at h2
   simp only[dJ] at h2
   have hN:=dF 3 ((s.length:Nat):Int)
   rw[if_neg (by decide)] at hN
   rcases dL h4 g2 with ⟨rfl,rfl⟩ | ⟨a,a',rfl,rfl⟩ | ⟨a,b,a',b',rfl,rfl⟩ | ⟨a,b,c,a',b',c',rfl,rfl⟩ | ⟨a,b,c,d,a',b',c',d',rfl,rfl⟩
   ·rw[if_pos rfl] at h2
    subst h2
    simp[eZ,cM]
    simp (disch:=omega) [wl,aj]
    simp[D2]
   all_goals
    rw[if_neg (by simp)] at h2
    subst h2
    simp[eZ,cM]
    simp (disch:=omega) [wl,aj]
    refine a7 hN ?_
    simp[D2]
end Go.Vs.YtmaenhgipojmfaaGreatDoor
