/- The walk of the document's nodes of a text. No conditions. -/
import Derived.Test.YtmaenhgipojmfaaGreatDoorTL
set_option linter.unusedVariables false
set_option linter.unusedSimpArgs false
namespace Go.Vs.YtmaenhgipojmfaaGreatDoor
open Go.Proofs Go.Vs.U8 Go.Vs.Pa Go.Vs.Fd Go.Vs.Tr
set_option maxRecDepth 100000
set_option maxHeartbeats 32000000
structure RdX where
 i:Nat
 N:cn
 op:List Nat
 vs:List Nat
 v:Nat
def dN (s:Str) (rows:List Lf) (x:RdX):St:=⟨[(10,.val (.int .i64 x.i)),(9,.val (.int .i64 (bw x.op))),(8,.town 8 x.v),(5,.val (.slice (uE rows))),(0,.val (.str s))],(8,.tab x.v 3 (gL x.N) (eZ x.op x.vs))::cM x.N x.op x.vs,[53,54,55,56],147,G⟩
theorem KI {N:cn} (z:Nd Ln) {k:Nat} (h:k < N.length):hX (N++[z]) k=hX N k:=by
 unfold hX
 rw[List.getElem?_append_left h]
theorem BI {N:cn} (z:Nd Ln):∀ {op:List Nat},fS N op→(∀ k∈op,k < N.length)→fS (N++[z]) op
 | [],_,_=>trivial
 | k::r,h,hk=>⟨by rw[KI z (hk k (by simp))];exact h.1,h.2.1,BI z h.2.2 (fun j hj=>hk j (by simp[hj]))⟩
theorem KJ (N:cn) (a k:Nat) (y:Ln):hX (lS N a y) k=hX N k:=by
 unfold hX lS
 cases ha:N[a]? with
 | none=>rfl
 | some z=>
  simp only
  rw[List.getElem?_set]
  split
  ·next e=>
   subst e
   obtain ⟨h1,h2⟩:=List.getElem?_eq_some_iff.1 ha
   rw[if_pos h1,ha]
   rfl
  ·rfl
theorem kJ {N:cn} (a:Nat) (y:Ln):∀ {op:List Nat},fS N op→fS (lS N a y) op
 | [],_=>trivial
 | k::r,h=>⟨by rw[KJ];exact h.1,h.2.1,kJ a y h.2.2⟩
theorem It {N:cn} {op:List Nat} (u:Str) (h:fS N op) (hk:∀ k∈op,k < N.length):fS (N++[⟨bw op,u,[]⟩]) (N.length::op):=by
 refine ⟨?_,hk,BI _ h hk⟩
 unfold hX
 rw[List.getElem?_append_right (Nat.le_refl _),Nat.sub_self]
 rfl
theorem qk {N:cn} {a:Nat} {r:List Nat} {x:Ln} (p0:x.p=[]) (h:jm N (a::r) x=0):(N[a]?).elim [] Nd.n=upper x.v:=by
 by_cases e:(N[a]?).elim [] Nd.n=upper x.v
 ·exact e
 ·rw[CT p0 e] at h;cases h
theorem xa {N:cn} {a:Nat} {r:List Nat} (h:Am N (a::r)=0):¬(bn N a).length=24:=fun e=>by rw[CU e] at h;cases h
theorem Mg {N:cn} {op:List Nat} {x:Ln} (h:jQ N op x=0) (h4:op.length≤4):x.p=[]∧ax (upper x.v)=true∧op.length≤3∧¬N.length=40:=by
 unfold jQ at h
 split at h
 ·cases h
 ·next h1=>
  rw[not_or] at h1
  split at h
  ·cases h
  ·split at h
   ·cases h
   ·next h2 h3=>exact ⟨by simpa using h1.1,by simpa using h1.2,by omega,h3⟩
theorem No {s:Str} {e:Int} {p:Nat} (h:bP s=.no e p):¬e=0:=by
 unfold bP at h
 split at h
 ·simp only[UfR.no.injEq] at h;omega
 ·exact (En (B:=s.length) s.length s 0 [] none e p (Nat.le_refl _) (by omega) h).1
theorem Np {N:cn} {a:Nat} {r:List Nat} (h:fS N (a::r)) (ha:a < N.length):nQ N (a:Nat)=r.length:=by
 unfold nQ
 rw[if_pos ⟨by omega,by omega⟩]
 exact iA h
theorem Ge (s:Str) (hs:s.length < 100000):Fn G Tryz.prog lO [.str s] (EJ (fU s)):=by
 refine ac hm yW (by simp) ?_
 have hU:=Ga s hs
 obtain ⟨R,hR⟩:∃ R,fU s=R:=⟨_,rfl⟩
 rw[hR]
 unfold fU at hR
 simp[rp,rq]
 cases hu:bP s with
 | no e p=>
  rw[hu] at hR hU
  simp only at hR
  subst hR
  have he:=No hu
  simp only[Mx] at hU
  refine a7 hU ?_
  simp (disch:=omega) [wl,EJ,he]
 | ok rows=>
  rw[hu] at hR hU
  simp only at hR
  simp only[Mx] at hU
  obtain ⟨s6,r6⟩:=zn hu
  refine a7 hU ?_
  simp (disch:=omega) [wl]
  refine bH hm ?_
  simp (disch:=omega) [wl]
  refine DO hm (fun x:RdX=>dN s rows x) (fun x=>x.i≤rows.length∧dJ s.length (rows.drop x.i) x.N x.op=R∧Go.Vs.Tr.Good jp ax x.N x.op∧x.vs.length=x.op.length∧fS x.N x.op) (fun x=>rows.length-x.i) ⟨0,[],[],[],0⟩ ⟨by simp,by simpa using hR,yO jp ax,rfl,trivial⟩ ?_ (fun _=>rfl) ?_
  ·exact aS.trans (oP (k:=8) 8 3 (by simp) (by simp[ap,a8])) (an rfl rfl (by simp[dN,St.adoptT,aR,ap,a8,put,ba,SV.erase,bw]) (by simp[dN,St.adoptT,bM,a8,put,aE,Ob.erase,gL,eZ,cM,bt]) (by simp[dN,St.adoptT,bQ,cM]))
  rintro ⟨i,N,op,vs,v⟩ ⟨h1,h2,h3,h4,hch⟩
  simp only at h1 h2 h3 h4 hch
  obtain ⟨g1,g2,g3,g4,g5⟩:=zo h3
  simp only[dN]
  by_cases h:i < rows.length
  ·obtain ⟨x,hx⟩:∃ x,rows[i]=x:=⟨_,rfl⟩
   have hg:=GJ h hx
   have hmem:x∈rows:=hx▸List.getElem_mem h
   have xl:=ss hu x hmem
   have xp:=BG hu x hmem
   have xo:=vp hu x hmem
   have xf:=KH xo (by omega) (by omega)
   have hP:=FX x.t (by omega)
   have hFP:=zj x 0 (by omega) (by omega) xf
   have hp0:=mn xo 0
   simp only[Lf.iv] at hFP
   rw[List.drop_eq_getElem_cons h,hx] at h2
   simp only[dJ] at h2
   cases hL:c9 x.t with
   | no e ps=>
    rw[hL] at h2 hP
    simp only at h2
    subst h2
    obtain ⟨n1,n2⟩:=G6 hL
    have hFP2:=zj x ps.sum (by omega) (by omega) xf
    simp only[Lf.iv] at hFP2
    simp only[pn,Ln.iv,A8] at hP
    have hsum:(qg x ps).sum=((iB x ps.sum:Nat):Int):=by unfold qg;rw[List.sum_cons];omega
    simp[eZ,cM]
    simp (disch:=omega) [wl,aj]
    refine bH hm ?_
    simp (disch:=omega) [wl,hg,aj]
    refine a7 hP ?_
    simp (disch:=omega) [wl,hg,aj,n1]
    refine a7 hFP2 ?_
    simp[EJ,hsum]
   | ok y=>
    rw[hL] at h2 hP
    simp only at h2
    have hyc:=pz hL
    have fy:=py hyc
    have gd:=fun N' op' (q:mo N op y=.ok N' op')=>BH h3 hyc q
    rw[EI N op y g4] at h2 gd
    simp only[pn,Ln.iv] at hP
    have hU:=m6 y.v (by have:=fy.v;omega)
    have hNm:=p7 (upper y.v) (by rw[gy];have:=fy.v;omega)
    have hpl:=aw y.p
    have hxp:=fy.p
    by_cases hz:pK N op y=0
    ·rw[if_pos hz] at h2 gd
     by_cases e1:y.n=eE
     ·rw[if_pos e1] at h2 gd
      have hz':jQ N op y=0:=by unfold pK at hz;rw[if_pos e1] at hz;exact hz
      obtain ⟨p0,nb,q3,n40⟩:=Mg hz' g2
      have pl:y.p.length=0:=by rw[p0];rfl
      rw[nb] at hNm
      unfold eE at e1
      simp only at h2
      have hgd:=gd _ _ rfl
      have hne:=gF N ⟨bw op,upper y.v,[]⟩
      have hno:=fun z k (hk:k∈op)=>wC z (g4 k hk)
      have hch':=It (upper y.v) hch g4
      rcases qj h4 q3 with ⟨rfl,rfl⟩ | ⟨a,a',rfl,rfl⟩ | ⟨a,b,a',b',rfl,rfl⟩ | ⟨a,b,c,a',b',c',rfl,rfl⟩
      ·simp[eZ,cM]
       simp (disch:=omega) [wl,aj]
       refine bH hm ?_
       simp (disch:=omega) [wl,hg,aj]
       refine a7 hP ?_
       simp (disch:=omega) [wl,hg,aj]
       refine a7 hFP ?_
       simp (disch:=omega) [wl]
       refine a7 hU ?_
       simp (disch:=omega) [wl,e1,hpl,pl]
       refine a7 hNm ?_
       simp (disch:=omega) [wl,bw,ah]
       refine ⟨by omega,?_⟩
       refine ae ⟨i+1,N++[⟨bw [],upper y.v,[]⟩],N.length::[],0::[],v+1⟩ ⟨by simp only;omega,h2,hgd,by simp,hch'⟩ (by simp only;omega) ?_
       refine aS.trans (gw (t:=8) (n:=0) (j:=2) 53 3 (by simp) (by simp) rfl rfl rfl) ?_
       refine aS.trans (cV (id:=8) [(N.length,2,.own 53 0)] rfl rfl (by simp[bt,SV.erase,SV.noRef])) ?_
       exact an rfl rfl (by simp[dN,St.adoptL,aR,ap,a8,put,ba,SV.erase,SV.noRef,SV.noRefs,bw]) (by simp[dN,St.adoptL,bM,a8,put,aE,Ob.erase,cc,bt,SV.erase,SV.noRef,eZ,cM,gF,hno,pM,mr,bw]) (by simp[dN,St.adoptL,bQ,cM])
      ·have hD:=iC N (a:Nat) (by omega)
       have hdd:nQ N (a:Nat)=0:=by
        unfold nQ
        rw[if_pos ⟨by omega,by have:=g4 a (by simp);omega⟩]
        exact iA hch
       rw[hdd] at hD
       simp[eZ,cM]
       simp (disch:=omega) [wl,aj]
       refine bH hm ?_
       simp (disch:=omega) [wl,hg,aj]
       refine a7 hP ?_
       simp (disch:=omega) [wl,hg,aj]
       refine a7 hFP ?_
       simp (disch:=omega) [wl]
       refine a7 hU ?_
       simp (disch:=omega) [wl,e1,hpl,pl]
       refine a7 hNm ?_
       simp (disch:=omega) [wl,bw,ah]
       refine a7 hD ?_
       simp (disch:=omega) [wl,ah]
       refine ⟨by omega,?_⟩
       refine ae ⟨i+1,N++[⟨bw [a],upper y.v,[]⟩],N.length::[a],0::[a'],v+1⟩ ⟨by simp only;omega,h2,hgd,by simp,hch'⟩ (by simp only;omega) ?_
       refine aS.trans (gw (t:=8) (n:=1) (j:=2) 54 3 (by simp) (by simp) rfl rfl rfl) ?_
       refine aS.trans (cV (id:=8) [(N.length,2,.own 54 0),(a,2,.own 53 a')] rfl rfl (by simp[bt,SV.erase,SV.noRef])) ?_
       exact an rfl rfl (by simp[dN,St.adoptL,aR,ap,a8,put,ba,SV.erase,SV.noRef,SV.noRefs,bw]) (by simp[dN,St.adoptL,bM,a8,put,aE,Ob.erase,cc,bt,SV.erase,SV.noRef,eZ,cM,gF,hno,pM,mr,bw]) (by simp[dN,St.adoptL,bQ,cM])
      ·have hD:=iC N (a:Nat) (by omega)
       have hdd:nQ N (a:Nat)=1:=by
        unfold nQ
        rw[if_pos ⟨by omega,by have:=g4 a (by simp);omega⟩]
        exact iA hch
       rw[hdd] at hD
       simp[eZ,cM]
       simp (disch:=omega) [wl,aj]
       refine bH hm ?_
       simp (disch:=omega) [wl,hg,aj]
       refine a7 hP ?_
       simp (disch:=omega) [wl,hg,aj]
       refine a7 hFP ?_
       simp (disch:=omega) [wl]
       refine a7 hU ?_
       simp (disch:=omega) [wl,e1,hpl,pl]
       refine a7 hNm ?_
       simp (disch:=omega) [wl,bw,ah]
       refine a7 hD ?_
       simp (disch:=omega) [wl,ah]
       refine ⟨by omega,?_⟩
       refine ae ⟨i+1,N++[⟨bw [a,b],upper y.v,[]⟩],N.length::[a,b],0::[a',b'],v+1⟩ ⟨by simp only;omega,h2,hgd,by simp,hch'⟩ (by simp only;omega) ?_
       refine aS.trans (gw (t:=8) (n:=2) (j:=2) 55 3 (by simp) (by simp) rfl rfl rfl) ?_
       refine aS.trans (cV (id:=8) [(N.length,2,.own 55 0),(a,2,.own 54 a'),(b,2,.own 53 b')] rfl rfl (by simp[bt,SV.erase,SV.noRef])) ?_
       exact an rfl rfl (by simp[dN,St.adoptL,aR,ap,a8,put,ba,SV.erase,SV.noRef,SV.noRefs,bw]) (by simp[dN,St.adoptL,bM,a8,put,aE,Ob.erase,cc,bt,SV.erase,SV.noRef,eZ,cM,gF,hno,pM,mr,bw]) (by simp[dN,St.adoptL,bQ,cM])
      ·have hD:=iC N (a:Nat) (by omega)
       have hdd:nQ N (a:Nat)=2:=by
        unfold nQ
        rw[if_pos ⟨by omega,by have:=g4 a (by simp);omega⟩]
        exact iA hch
       rw[hdd] at hD
       simp[eZ,cM]
       simp (disch:=omega) [wl,aj]
       refine bH hm ?_
       simp (disch:=omega) [wl,hg,aj]
       refine a7 hP ?_
       simp (disch:=omega) [wl,hg,aj]
       refine a7 hFP ?_
       simp (disch:=omega) [wl]
       refine a7 hU ?_
       simp (disch:=omega) [wl,e1,hpl,pl]
       refine a7 hNm ?_
       simp (disch:=omega) [wl,bw,ah]
       refine a7 hD ?_
       simp (disch:=omega) [wl,ah]
       refine ⟨by omega,?_⟩
       refine ae ⟨i+1,N++[⟨bw [a,b,c],upper y.v,[]⟩],N.length::[a,b,c],0::[a',b',c'],v+1⟩ ⟨by simp only;omega,h2,hgd,by simp,hch'⟩ (by simp only;omega) ?_
       refine aS.trans (gw (t:=8) (n:=3) (j:=2) 56 3 (by simp) (by simp) rfl rfl rfl) ?_
       refine aS.trans (cV (id:=8) [(N.length,2,.own 56 0),(a,2,.own 55 a'),(b,2,.own 54 b'),(c,2,.own 53 c')] rfl rfl (by simp[bt,SV.erase,SV.noRef])) ?_
       exact an rfl rfl (by simp[dN,St.adoptL,aR,ap,a8,put,ba,SV.erase,SV.noRef,SV.noRefs,bw]) (by simp[dN,St.adoptL,bM,a8,put,aE,Ob.erase,cc,bt,SV.erase,SV.noRef,eZ,cM,gF,hno,pM,mr,bw]) (by simp[dN,St.adoptL,bQ,cM])
     ·rw[if_neg e1] at h2 gd
      by_cases e2:y.n=fT
      ·rw[if_pos e2] at h2 gd
       have hz':jm N op y=0:=by unfold pK at hz;rw[if_neg e1,if_pos e2] at hz;exact hz
       unfold eE at e1
       have p0:y.p=[]:=by
        by_cases q:y.p=[]
        ·exact q
        ·unfold jm at hz';rw[if_pos q] at hz';cases hz'
       have pl:y.p.length=0:=by rw[p0];rfl
       unfold fT at e2
       simp only at h2
       have hgd:=gd _ _ rfl
       rcases dL h4 g2 with ⟨rfl,rfl⟩ | ⟨a,a',rfl,rfl⟩ | ⟨a,b,a',b',rfl,rfl⟩ | ⟨a,b,c,a',b',c',rfl,rfl⟩ | ⟨a,b,c,d,a',b',c',d',rfl,rfl⟩
       ·exfalso
        unfold jm at hz'
        split at hz' <;> cases hz'
       ·have hak:=g4 a (by simp)
        obtain ⟨z,hz2⟩:∃ z,N[a]=z:=⟨_,rfl⟩
        have hga:=bC hak hz2
        have hye:(N[a]?).elim [] Nd.n=z.n:=by rw[List.getElem?_eq_getElem hak,hz2];rfl
        have hup:z.up=bw []:=by rw[←rN hak hz2];exact hch.1
        have e3:z.n=upper y.v:=hye.symm.trans (qk p0 hz')
        simp[eZ,cM]
        simp (disch:=omega) [wl,aj]
        refine bH hm ?_
        simp (disch:=omega) [wl,hg,aj]
        refine a7 hP ?_
        simp (disch:=omega) [wl,hg,aj]
        refine a7 hFP ?_
        simp (disch:=omega) [wl]
        refine a7 hU ?_
        simp (disch:=omega) [wl,e1,e2,hpl,pl,bw,hga,ah,e3]
        refine ⟨by omega,?_⟩
        refine ae ⟨i+1,N,[],[],v⟩ ⟨by simp only;omega,h2,hgd,by simp,hch.2.2⟩ (by simp only;omega) ?_
        refine aS.trans (cV (id:=8) [] rfl rfl (by simp)) ?_
        rw[hup]
        exact an rfl rfl (by simp[dN,aR,ap,a8,bw]) (by simp[dN,bM,a8,put,eZ,cM]) (by simp[dN,bQ,cM])
       ·have hak:=g4 a (by simp)
        obtain ⟨z,hz2⟩:∃ z,N[a]=z:=⟨_,rfl⟩
        have hga:=bC hak hz2
        have hye:(N[a]?).elim [] Nd.n=z.n:=by rw[List.getElem?_eq_getElem hak,hz2];rfl
        have hup:z.up=bw [b]:=by rw[←rN hak hz2];exact hch.1
        have e3:z.n=upper y.v:=hye.symm.trans (qk p0 hz')
        simp[eZ,cM]
        simp (disch:=omega) [wl,aj]
        refine bH hm ?_
        simp (disch:=omega) [wl,hg,aj]
        refine a7 hP ?_
        simp (disch:=omega) [wl,hg,aj]
        refine a7 hFP ?_
        simp (disch:=omega) [wl]
        refine a7 hU ?_
        simp (disch:=omega) [wl,e1,e2,hpl,pl,bw,hga,ah,e3]
        refine ⟨by omega,?_⟩
        refine ae ⟨i+1,N,[b],[b'],v⟩ ⟨by simp only;omega,h2,hgd,by simp,hch.2.2⟩ (by simp only;omega) ?_
        refine aS.trans (cV (id:=8) [(b,2,.own 53 b')] rfl rfl (by simp)) ?_
        rw[hup]
        exact an rfl rfl (by simp[dN,aR,ap,a8,bw]) (by simp[dN,bM,a8,put,eZ,cM]) (by simp[dN,bQ,cM])
       ·have hak:=g4 a (by simp)
        obtain ⟨z,hz2⟩:∃ z,N[a]=z:=⟨_,rfl⟩
        have hga:=bC hak hz2
        have hye:(N[a]?).elim [] Nd.n=z.n:=by rw[List.getElem?_eq_getElem hak,hz2];rfl
        have hup:z.up=bw [b,c]:=by rw[←rN hak hz2];exact hch.1
        have e3:z.n=upper y.v:=hye.symm.trans (qk p0 hz')
        simp[eZ,cM]
        simp (disch:=omega) [wl,aj]
        refine bH hm ?_
        simp (disch:=omega) [wl,hg,aj]
        refine a7 hP ?_
        simp (disch:=omega) [wl,hg,aj]
        refine a7 hFP ?_
        simp (disch:=omega) [wl]
        refine a7 hU ?_
        simp (disch:=omega) [wl,e1,e2,hpl,pl,bw,hga,ah,e3]
        refine ⟨by omega,?_⟩
        refine ae ⟨i+1,N,[b,c],[b',c'],v⟩ ⟨by simp only;omega,h2,hgd,by simp,hch.2.2⟩ (by simp only;omega) ?_
        refine aS.trans (cV (id:=8) [(b,2,.own 54 b'),(c,2,.own 53 c')] rfl rfl (by simp)) ?_
        rw[hup]
        exact an rfl rfl (by simp[dN,aR,ap,a8,bw]) (by simp[dN,bM,a8,put,eZ,cM]) (by simp[dN,bQ,cM])
       ·have hak:=g4 a (by simp)
        obtain ⟨z,hz2⟩:∃ z,N[a]=z:=⟨_,rfl⟩
        have hga:=bC hak hz2
        have hye:(N[a]?).elim [] Nd.n=z.n:=by rw[List.getElem?_eq_getElem hak,hz2];rfl
        have hup:z.up=bw [b,c,d]:=by rw[←rN hak hz2];exact hch.1
        have e3:z.n=upper y.v:=hye.symm.trans (qk p0 hz')
        simp[eZ,cM]
        simp (disch:=omega) [wl,aj]
        refine bH hm ?_
        simp (disch:=omega) [wl,hg,aj]
        refine a7 hP ?_
        simp (disch:=omega) [wl,hg,aj]
        refine a7 hFP ?_
        simp (disch:=omega) [wl]
        refine a7 hU ?_
        simp (disch:=omega) [wl,e1,e2,hpl,pl,bw,hga,ah,e3]
        refine ⟨by omega,?_⟩
        refine ae ⟨i+1,N,[b,c,d],[b',c',d'],v⟩ ⟨by simp only;omega,h2,hgd,by simp,hch.2.2⟩ (by simp only;omega) ?_
        refine aS.trans (cV (id:=8) [(b,2,.own 55 b'),(c,2,.own 54 c'),(d,2,.own 53 d')] rfl rfl (by simp)) ?_
        rw[hup]
        exact an rfl rfl (by simp[dN,aR,ap,a8,bw]) (by simp[dN,bM,a8,put,eZ,cM]) (by simp[dN,bQ,cM])
      ·rw[if_neg e2] at h2 gd
       have hz':Am N op=0:=by unfold pK at hz;rw[if_neg e1,if_neg e2] at hz;exact hz
       unfold eE at e1
       unfold fT at e2
       simp only at h2
       have hgd:=gd _ _ rfl
       rcases dL h4 g2 with ⟨rfl,rfl⟩ | ⟨a,a',rfl,rfl⟩ | ⟨a,b,a',b',rfl,rfl⟩ | ⟨a,b,c,a',b',c',rfl,rfl⟩ | ⟨a,b,c,d,a',b',c',d',rfl,rfl⟩
       ·cases hz'
       ·have hak:=g4 a (by simp)
        obtain ⟨z,hz2⟩:∃ z,N[a]=z:=⟨_,rfl⟩
        have hga:=bC hak hz2
        have hya:bn N a=z.l:=by unfold bn;rw[List.getElem?_eq_getElem hak,hz2];rfl
        have h24:¬z.l.length=24:=by rw[←hya];exact xa hz'
        have hyl:=g5 a
        rw[hya] at hyl
        have q':=kI g3
        have q2:=my g3
        have hna:=uG N a y hak hz2
        have hla:=kH N a y hak
        have hlb:=pL N y g3
        rw[hya] at hla
        simp[eZ,cM]
        simp (disch:=omega) [wl,aj]
        refine bH hm ?_
        simp (disch:=omega) [wl,hg,aj]
        refine a7 hP ?_
        simp (disch:=omega) [wl,hg,aj]
        refine a7 hFP ?_
        simp (disch:=omega) [wl]
        refine a7 hU ?_
        simp (disch:=omega) [wl,e1,e2,bw,hga,ah,az,hya,h24]
        refine ⟨by omega,by omega,by omega,rfl,?_⟩
        refine ae ⟨i+1,lS N a y,[a],[a'+1],v⟩ ⟨by simp only;omega,h2,hgd,by simp,kJ a y hch⟩ (by simp only;omega) ?_
        exact an rfl rfl (by simp[dN,aR,ap,a8,bw]) (by simp[dN,bM,a8,put,eZ,cM,q',q2,hna,hla,hlb,qe]) (by simp[dN,bQ,cM])
       ·have hak:=g4 a (by simp)
        obtain ⟨z,hz2⟩:∃ z,N[a]=z:=⟨_,rfl⟩
        have hga:=bC hak hz2
        have hya:bn N a=z.l:=by unfold bn;rw[List.getElem?_eq_getElem hak,hz2];rfl
        have h24:¬z.l.length=24:=by rw[←hya];exact xa hz'
        have hyl:=g5 a
        rw[hya] at hyl
        have q':=kI g3
        have q2:=my g3
        have hna:=uG N a y hak hz2
        have hla:=kH N a y hak
        have hlb:=pL N y g3
        rw[hya] at hla
        simp[eZ,cM]
        simp (disch:=omega) [wl,aj]
        refine bH hm ?_
        simp (disch:=omega) [wl,hg,aj]
        refine a7 hP ?_
        simp (disch:=omega) [wl,hg,aj]
        refine a7 hFP ?_
        simp (disch:=omega) [wl]
        refine a7 hU ?_
        simp (disch:=omega) [wl,e1,e2,bw,hga,ah,az,hya,h24]
        refine ⟨by omega,by omega,by omega,rfl,?_⟩
        refine ae ⟨i+1,lS N a y,[a,b],[a'+1,b'],v⟩ ⟨by simp only;omega,h2,hgd,by simp,kJ a y hch⟩ (by simp only;omega) ?_
        exact an rfl rfl (by simp[dN,aR,ap,a8,bw]) (by simp[dN,bM,a8,put,eZ,cM,q',q2,hna,hla,hlb,qe]) (by simp[dN,bQ,cM])
       ·have hak:=g4 a (by simp)
        obtain ⟨z,hz2⟩:∃ z,N[a]=z:=⟨_,rfl⟩
        have hga:=bC hak hz2
        have hya:bn N a=z.l:=by unfold bn;rw[List.getElem?_eq_getElem hak,hz2];rfl
        have h24:¬z.l.length=24:=by rw[←hya];exact xa hz'
        have hyl:=g5 a
        rw[hya] at hyl
        have q':=kI g3
        have q2:=my g3
        have hna:=uG N a y hak hz2
        have hla:=kH N a y hak
        have hlb:=pL N y g3
        rw[hya] at hla
        simp[eZ,cM]
        simp (disch:=omega) [wl,aj]
        refine bH hm ?_
        simp (disch:=omega) [wl,hg,aj]
        refine a7 hP ?_
        simp (disch:=omega) [wl,hg,aj]
        refine a7 hFP ?_
        simp (disch:=omega) [wl]
        refine a7 hU ?_
        simp (disch:=omega) [wl,e1,e2,bw,hga,ah,az,hya,h24]
        refine ⟨by omega,by omega,by omega,rfl,?_⟩
        refine ae ⟨i+1,lS N a y,[a,b,c],[a'+1,b',c'],v⟩ ⟨by simp only;omega,h2,hgd,by simp,kJ a y hch⟩ (by simp only;omega) ?_
        exact an rfl rfl (by simp[dN,aR,ap,a8,bw]) (by simp[dN,bM,a8,put,eZ,cM,q',q2,hna,hla,hlb,qe]) (by simp[dN,bQ,cM])
       ·have hak:=g4 a (by simp)
        obtain ⟨z,hz2⟩:∃ z,N[a]=z:=⟨_,rfl⟩
        have hga:=bC hak hz2
        have hya:bn N a=z.l:=by unfold bn;rw[List.getElem?_eq_getElem hak,hz2];rfl
        have h24:¬z.l.length=24:=by rw[←hya];exact xa hz'
        have hyl:=g5 a
        rw[hya] at hyl
        have q':=kI g3
        have q2:=my g3
        have hna:=uG N a y hak hz2
        have hla:=kH N a y hak
        have hlb:=pL N y g3
        rw[hya] at hla
        simp[eZ,cM]
        simp (disch:=omega) [wl,aj]
        refine bH hm ?_
        simp (disch:=omega) [wl,hg,aj]
        refine a7 hP ?_
        simp (disch:=omega) [wl,hg,aj]
        refine a7 hFP ?_
        simp (disch:=omega) [wl]
        refine a7 hU ?_
        simp (disch:=omega) [wl,e1,e2,bw,hga,ah,az,hya,h24]
        refine ⟨by omega,by omega,by omega,rfl,?_⟩
        refine ae ⟨i+1,lS N a y,[a,b,c,d],[a'+1,b',c',d'],v⟩ ⟨by simp only;omega,h2,hgd,by simp,kJ a y hch⟩ (by simp only;omega) ?_
        exact an rfl rfl (by simp[dN,aR,ap,a8,bw]) (by simp[dN,bM,a8,put,eZ,cM,q',q2,hna,hla,hlb,qe]) (by simp[dN,bQ,cM])
    ·rw[if_neg hz] at h2
     simp only at h2
     have hz':=hz
     subst h2
     unfold pK at hz' ⊢
     by_cases e1:y.n=eE
     ·rw[if_pos e1] at hz' ⊢
      unfold eE at e1
      by_cases p0:y.p=[]
      ·have pl:y.p.length=0:=by rw[p0];rfl
       by_cases nb:ax (upper y.v)=true
       ·have hE:jQ N op y=if op.length=4 then 15 else if N.length=40 then 20 else 0:=by
         unfold jQ;rw[if_neg (by rw[not_or];exact ⟨fun q=>q p0,by rw[nb];decide⟩)]
        rw[nb] at hNm
        rw[hE] at hz' ⊢
        by_cases h5:op.length=4
        ·rw[if_pos h5]
         rcases dL h4 g2 with ⟨rfl,rfl⟩ | ⟨a,a',rfl,rfl⟩ | ⟨a,b,a',b',rfl,rfl⟩ | ⟨a,b,c,a',b',c',rfl,rfl⟩ | ⟨a,b,c,d,a',b',c',d',rfl,rfl⟩
         ·cases h5
         ·cases h5
         ·cases h5
         ·cases h5
         ·have hD:=iC N (a:Nat) (by omega)
          have hdd:nQ N (a:Nat)=3:=by
           unfold nQ
           rw[if_pos ⟨by omega,by have:=g4 a (by simp);omega⟩]
           exact iA hch
          rw[hdd] at hD
          simp[eZ,cM]
          simp (disch:=omega) [wl,aj]
          refine bH hm ?_
          simp (disch:=omega) [wl,hg,aj]
          refine a7 hP ?_
          simp (disch:=omega) [wl,hg,aj]
          refine a7 hFP ?_
          simp (disch:=omega) [wl]
          refine a7 hU ?_
          simp (disch:=omega) [wl,e1,hpl,pl]
          refine a7 hNm ?_
          simp (disch:=omega) [wl,bw]
          refine a7 hD ?_
          simp[EJ]
        ·rw[if_neg h5] at hz' ⊢
         have n40:N.length=40:=by
          by_cases q:N.length=40
          ·exact q
          ·rw[if_neg q] at hz';exact absurd rfl hz'
         rw[if_pos n40]
         have q3:op.length≤3:=by omega
         rcases qj h4 q3 with ⟨rfl,rfl⟩ | ⟨a,a',rfl,rfl⟩ | ⟨a,b,a',b',rfl,rfl⟩ | ⟨a,b,c,a',b',c',rfl,rfl⟩
         ·simp[eZ,cM]
          simp (disch:=omega) [wl,aj]
          refine bH hm ?_
          simp (disch:=omega) [wl,hg,aj]
          refine a7 hP ?_
          simp (disch:=omega) [wl,hg,aj]
          refine a7 hFP ?_
          simp (disch:=omega) [wl]
          refine a7 hU ?_
          simp (disch:=omega) [wl,e1,hpl,pl]
          refine a7 hNm ?_
          simp (disch:=omega) [wl,bw,ah]
          simp[EJ]
         all_goals
          have hD:=iC N (a:Nat) (by omega)
          have hdd:=Np hch (by have:=g4 a (by simp);exact this)
          rw[hdd] at hD
          simp only[List.length_cons,List.length_nil] at hD
          simp[eZ,cM]
          simp (disch:=omega) [wl,aj]
          refine bH hm ?_
          simp (disch:=omega) [wl,hg,aj]
          refine a7 hP ?_
          simp (disch:=omega) [wl,hg,aj]
          refine a7 hFP ?_
          simp (disch:=omega) [wl]
          refine a7 hU ?_
          simp (disch:=omega) [wl,e1,hpl,pl]
          refine a7 hNm ?_
          simp (disch:=omega) [wl,bw]
          refine a7 hD ?_
          simp (disch:=omega) [wl,ah]
          simp[EJ]
       ·have nb':ax (upper y.v)=false:=by simpa using nb
        have hE:jQ N op y=4:=by unfold jQ;rw[if_pos (.inr nb')]
        rw[nb'] at hNm
        rw[hE]
        simp[eZ,cM]
        simp (disch:=omega) [wl,aj]
        refine bH hm ?_
        simp (disch:=omega) [wl,hg,aj]
        refine a7 hP ?_
        simp (disch:=omega) [wl,hg,aj]
        refine a7 hFP ?_
        simp (disch:=omega) [wl]
        refine a7 hU ?_
        simp (disch:=omega) [wl,e1,hpl,pl]
        refine a7 hNm ?_
        simp[EJ]
      ·have pl:0 < y.p.length:=List.length_pos_iff.2 p0
       have hE:jQ N op y=4:=by unfold jQ;rw[if_pos (.inl p0)]
       rw[hE]
       simp[eZ,cM]
       simp (disch:=omega) [wl,aj]
       refine bH hm ?_
       simp (disch:=omega) [wl,hg,aj]
       refine a7 hP ?_
       simp (disch:=omega) [wl,hg,aj]
       refine a7 hFP ?_
       simp (disch:=omega) [wl]
       refine a7 hU ?_
       simp (disch:=omega) [wl,e1,hpl,pl]
       simp[EJ]
     ·rw[if_neg e1] at hz' ⊢
      unfold eE at e1
      by_cases e2:y.n=fT
      ·rw[if_pos e2] at hz' ⊢
       unfold fT at e2
       by_cases p0:y.p=[]
       ·have pl:y.p.length=0:=by rw[p0];rfl
        rcases dL h4 g2 with ⟨rfl,rfl⟩ | ⟨a,a',rfl,rfl⟩ | ⟨a,b,a',b',rfl,rfl⟩ | ⟨a,b,c,a',b',c',rfl,rfl⟩ | ⟨a,b,c,d,a',b',c',d',rfl,rfl⟩
        ·have hE:jm N [] y=4:=by unfold jm;rw[if_neg (by simp[p0])]
         rw[hE]
         simp[eZ,cM]
         simp (disch:=omega) [wl,aj]
         refine bH hm ?_
         simp (disch:=omega) [wl,hg,aj]
         refine a7 hP ?_
         simp (disch:=omega) [wl,hg,aj]
         refine a7 hFP ?_
         simp (disch:=omega) [wl]
         refine a7 hU ?_
         simp (disch:=omega) [wl,e1,e2,hpl,pl,bw]
         simp[EJ]
        all_goals
         have hak:=g4 a (by simp)
         obtain ⟨z,hz2⟩:∃ z,N[a]=z:=⟨_,rfl⟩
         have hga:=bC hak hz2
         have hye:(N[a]?).elim [] Nd.n=z.n:=by rw[List.getElem?_eq_getElem hak,hz2];rfl
         have e3:¬z.n=upper y.v:=fun q=>hz' (GP p0 (hye.trans q))
         have e4:¬upper y.v=z.n:=fun q=>e3 q.symm
         rw[CT p0 (fun q=>e3 (hye.symm.trans q))]
         simp[eZ,cM]
         simp (disch:=omega) [wl,aj]
         refine bH hm ?_
         simp (disch:=omega) [wl,hg,aj]
         refine a7 hP ?_
         simp (disch:=omega) [wl,hg,aj]
         refine a7 hFP ?_
         simp (disch:=omega) [wl]
         refine a7 hU ?_
         simp (disch:=omega) [wl,e1,e2,hpl,pl,bw,hga,ah,e4]
         simp[EJ]
         omega
       ·have pl:0 < y.p.length:=List.length_pos_iff.2 p0
        have hE:jm N op y=4:=by unfold jm;rw[if_pos p0]
        rw[hE]
        simp[eZ,cM]
        simp (disch:=omega) [wl,aj]
        refine bH hm ?_
        simp (disch:=omega) [wl,hg,aj]
        refine a7 hP ?_
        simp (disch:=omega) [wl,hg,aj]
        refine a7 hFP ?_
        simp (disch:=omega) [wl]
        refine a7 hU ?_
        simp (disch:=omega) [wl,e1,e2,hpl,pl]
        simp[EJ]
      ·rw[if_neg e2] at hz' ⊢
       unfold fT at e2
       rcases dL h4 g2 with ⟨rfl,rfl⟩ | ⟨a,a',rfl,rfl⟩ | ⟨a,b,a',b',rfl,rfl⟩ | ⟨a,b,c,a',b',c',rfl,rfl⟩ | ⟨a,b,c,d,a',b',c',d',rfl,rfl⟩
       ·simp[eZ,cM]
        simp (disch:=omega) [wl,aj]
        refine bH hm ?_
        simp (disch:=omega) [wl,hg,aj]
        refine a7 hP ?_
        simp (disch:=omega) [wl,hg,aj]
        refine a7 hFP ?_
        simp (disch:=omega) [wl]
        refine a7 hU ?_
        simp (disch:=omega) [wl,e1,e2,bw]
        simp[EJ,Am]
       all_goals
        have hak:=g4 a (by simp)
        obtain ⟨z,hz2⟩:∃ z,N[a]=z:=⟨_,rfl⟩
        have hga:=bC hak hz2
        have hya:bn N a=z.l:=by unfold bn;rw[List.getElem?_eq_getElem hak,hz2];rfl
        have h24:z.l.length=24:=by
         by_cases q:z.l.length=24
         ·exact q
         ·exact absurd (KF (by rw[hya];exact q)) hz'
        rw[CU (by rw[hya];exact h24)]
        simp[eZ,cM]
        simp (disch:=omega) [wl,aj]
        refine bH hm ?_
        simp (disch:=omega) [wl,hg,aj]
        refine a7 hP ?_
        simp (disch:=omega) [wl,hg,aj]
        refine a7 hFP ?_
        simp (disch:=omega) [wl]
        refine a7 hU ?_
        simp (disch:=omega) [wl,e1,e2,bw,hga,ah,az,hya,h24,EJ]
        first
         | omega
         | (refine ⟨by omega,?_⟩;simp)
  ·obtain rfl:i=rows.length:=by omega
   rw[List.drop_length] at h2
   simp only[dJ] at h2
   rcases dL h4 g2 with ⟨rfl,rfl⟩ | ⟨a,a',rfl,rfl⟩ | ⟨a,b,a',b',rfl,rfl⟩ | ⟨a,b,c,a',b',c',rfl,rfl⟩ | ⟨a,b,c,d,a',b',c',d',rfl,rfl⟩
   ·rw[if_pos rfl] at h2
    subst h2
    simp[eZ,cM]
    simp (disch:=omega) [wl,aj,bw]
    simp[EJ]
   all_goals
    rw[if_neg (by simp)] at h2
    subst h2
    simp[eZ,cM]
    simp (disch:=omega) [wl,aj,bw]
    simp[EJ]
end Go.Vs.YtmaenhgipojmfaaGreatDoor
