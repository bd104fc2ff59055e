/- The walk of param, part 14: one parameter read. No conditions. -/
import Derived.Test.YtmaenhgipojmfaaGreatDoorBV
import Derived.Test.YtmaenhgipojmfaaGreatDoorBQ
set_option linter.unusedVariables false
set_option linter.unusedSimpArgs false
namespace Go.Vs.U8
end Go.Vs.U8
namespace Go.Vs.Pa
end Go.Vs.Pa
namespace Go.Vs.YtmaenhgipojmfaaGreatDoor
set_option linter.unusedSimpArgs false
set_option linter.unusedVariables false
open Go.Proofs Go.Vs.U8 Go.Vs.Pa
set_option maxRecDepth 100000
set_option maxHeartbeats 8000000
inductive GotV where
 | no (e:Int) (p:Int)
 | ok (v:List Str) (n:Nat)
def cp (s:Str):Nat→Nat→List Str→GotV
 | 0,a,_=>.no 20 a
 | m+1,a,vs=>match bE s a with
  | .no e p=>.no e p
  | .ok v n=>if s[n]?=some 44 then cp s m (n+1) (vs++[v]) else .ok (vs++[v]) n
inductive GotP where
 | no (e:Int) (p:Int)
 | ok (p:Pm) (n:Nat)
def fm (s:Str) (a:Nat) (l:List Pm):GotP:=
 let k:=named (s.drop a)
 if k=0∨24 < k then .no 4 a
 else
  let n:=upper ((s.drop a).take k)
  if pc l n then .no 19 a
  else if s[a+k]?=some 61 then
   match cp s 6 (a+k+1) [] with
   | .no e p=>.no e p
   | .ok v j=>.ok ⟨n,v⟩ j
  else .no 4 (a+k:Nat)
def pe (g:GotP) (r:IV):Prop:=match g with
 | .no e p=>r=.tuple [(⟨[],[]⟩:Pm).iv,.int .i64 0,cl e [p]]
 | .ok p n=>r=.tuple [p.iv,.int .i64 n,.nili]
theorem mi {s:Str} {a:Nat} {v:Str} {n:Nat} (ha:a≤s.length) (h:bE s a=.ok v n):n≤s.length:=by
 simp only[bE] at h
 split at h
 ·have hl:=pd fP (s.drop (a+1))
  rw[List.length_drop] at hl
  next h0=>
  obtain ⟨hal,_⟩:=List.getElem?_eq_some_iff.1 h0
  split at h
  ·cases h
  ·next hne=>
   rw[List.length_drop] at hne
   split at h
   ·cases h
   ·split at h
    ·cases h;omega
    ·cases h
 ·have hl:=pd plain (s.drop a)
  rw[List.length_drop] at hl
  split at h
  ·cases h
  ·split at h
   ·cases h
   ·cases h;omega
def wI (s:Str) (x:Nat×List Str):GotV:=if x.2=[]∨s[x.1]?=some 44 then cp s (6-x.2.length) (x.1+1) x.2 else .ok x.2 x.1
theorem Cv {s:Str} {x:Nat×List Str} {m:Nat} {v:Str} {j:Nat} (h:x.2=[]∨s[x.1]?=some 44) (hl:x.2.length < 6) (hv:bE s (x.1+1)=.ok v j):wI s (j,x.2++[v])=wI s x:=by
 obtain ⟨m,hm⟩:∃ m,6-x.2.length=m+1:=⟨5-x.2.length,by omega⟩
 have e:wI s x=cp s (m+1) (x.1+1) x.2:=by rw[wI,if_pos h,hm]
 rw[e,cp,hv]
 simp only[wI]
 have:6-(x.2++[v]).length=m:=by simp;omega
 simp[this]
 rw[show 5-x.2.length=m by omega]
theorem Nh (s:Str) (a:Nat) (l:List Pm) (hs:s.length < 100000) (ha:a≤s.length) (hl:l.length < 1000000) (hf:Fit l):∃ r,Fn G Tryz.prog l8 [.str s,.int .i64 a,.slice (ps l)] r∧pe (fm s a l) r:=by
 obtain ⟨k,hk⟩:∃ k,named (s.drop a)=k:=⟨_,rfl⟩
 have hkl:=iY (s.drop a)
 rw[List.length_drop,hk] at hkl
 have hN:=DY (s.drop a) (by simp;omega)
 rw[hk] at hN
 by_cases h1:k=0∨24 < k
 ·have hR:fm s a l=.no 4 a:=by simp only[fm,hk,if_pos h1]
  have hE:=dF 4 (a:Int)
  rw[if_neg (by omega)] at hE
  refine ⟨_,?_,by rw[hR];rfl⟩
  refine ac hm jI (by simp) ?_
  simp[iV,iW]
  refine ⟨ha,?_⟩
  refine a7 hN ?_
  rcases h1 with h1 | h1
  ·simp (disch:=omega) [wl,h1]
   refine a7 hE ?_
   simp[Pm.iv]
   rfl
  ·simp (disch:=omega) [wl]
   refine a7 hE ?_
   simp[Pm.iv]
   rfl
 ·obtain ⟨n,hn⟩:∃ n,upper ((s.drop a).take k)=n:=⟨_,rfl⟩
  have hU:=m5 ((s.drop a).take k) (by simp;omega)
  rw[hn] at hU
  have hF:=Gw l n hl (fun p hp=>by have:=hf.v p hp;omega)
  have hhf:=E8 l n
  cases hh:mg l n with
  | some q=>
   rw[hh] at hhf hF
   have hR:fm s a l=.no 19 a:=by simp only[fm,hk,if_neg h1,hn,hhf];rfl
   have hE:=dF 19 (a:Int)
   rw[if_neg (by omega)] at hE
   refine ⟨_,?_,by rw[hR];rfl⟩
   refine ac hm jI (by simp) ?_
   simp[iV,iW]
   refine ⟨ha,?_⟩
   refine a7 hN ?_
   simp (disch:=omega) [wl]
   refine ⟨by omega,by omega,?_⟩
   refine a7 hU ?_
   simp (disch:=omega) [wl]
   refine a7 hF ?_
   simp[nr,Pm.iv]
   refine a7 hE ?_
   simp
   rfl
  | none=>
   rw[hh] at hhf hF
   by_cases h2:s[a+k]?=some 61
   ·obtain ⟨h3,h4⟩:=List.getElem?_eq_some_iff.1 h2
    have hR:fm s a l=match cp s 6 (a+k+1) [] with
     | .no e p=>.no e p
     | .ok v j=>.ok ⟨n,v⟩ j:=by
     simp only[fm,hk,if_neg h1,hn,hhf,if_pos h2]
     rfl
    have key:∀ r:IV,pe (fm s a l) r→Fn G Tryz.prog l8 [.str s,.int .i64 a,.slice (ps l)] r:=by
     intro r hr
     refine ac hm jI (by simp) ?_
     simp[iV,iW]
     refine ⟨ha,?_⟩
     refine a7 hN ?_
     simp (disch:=omega) [wl]
     refine ⟨by omega,by omega,?_⟩
     refine a7 hU ?_
     simp (disch:=omega) [wl]
     refine a7 hF ?_
     have hi0:(0:Int)≤(a:Int)+k:=by omega
     have e1:((a:Int)+k).toNat=a+k:=by omega
     simp (disch:=omega) [wl,nr,Pm.iv,hi0,e1,h4]
     refine aA hm [] (fun x:Nat×List Str=>[(1,.val (.int .i64 x.1)),(13,.val (.bool (decide (x.2=[]))))]) (fun x=>if x.2=[] then [(11,.box [.val (.str []),.val (.slice (ts []))]),(10,.box [.val (.str n),.nils])] else [(11,.box [.val (.str []),.val (.slice (ts []))]),(10,.box [.val (.str n),.own 101 (x.2.length-1)]),(101,.arr (x.2.length-1) 1 (ts x.2))]) (fun x=>x.1≤s.length∧(x.2=[]→x.1 < s.length)∧x.2.length≤6∧wI s x=cp s 6 (a+k+1) []) (fun x=>6-x.2.length) (a+k,[]) ⟨by simp;omega,by simp;omega,by simp,by simp[wI]⟩ ?_ ?_
     ·simp
      exact aQ
     rintro ⟨t,vs⟩ ⟨ht,ht0,hvl,hst⟩
     simp at ht ht0 hvl
     have ht1:(0:Int)≤(t:Int)+1:=by omega
     by_cases hv0:vs=[]
     ·subst hv0
      have htl:=ht0 rfl
      obtain ⟨w,hw1,hw2⟩:=Eb s (t+1) (by omega) hs
      rw[show ((t+1:Nat):Int)=(t:Int)+1 by omega] at hw1
      simp
      simp (disch:=omega) [wl]
      refine a7 hw1 ?_
      cases hg:bE s (t+1) with
      | no e p=>
       have hno:wI s (t,[])=.no e p:=by simp[wI,cp,hg]
       rw[hR,←hst,hno] at hr
       simp only[pe] at hr
       rw[hg] at hw2
       obtain ⟨q,rfl⟩:=hw2
       obtain ⟨et,ev,he⟩:=aV e [p]
       rw[he] at hr ⊢
       rw[hr]
       simp (disch:=omega) [wl,Pm.iv]
       rfl
      | ok v j=>
       have hgo:=Cv (m:=0) (x:=(t,[])) (.inl rfl) (by simp) hg
       rw[hg] at hw2
       simp only[B8] at hw2
       subst hw2
       simp (disch:=omega) [wl]
       refine ae (j,[v]) ⟨by have:=mi (by omega) hg;simpa using this,by simp,by simp,by simpa[hst] using hgo⟩ (by simp) ?_
       simp[ts]
       exact aQ
     ·obtain ⟨z,hz⟩:∃ z,vs.length=z+1:=⟨vs.length-1,by have:=List.length_pos_iff.2 hv0;omega⟩
      have hz1:vs.length-1=z:=by omega
      simp[hv0,hz1]
      by_cases hcc:s[t]?=some 44
      ·obtain ⟨htl,hce⟩:=List.getElem?_eq_some_iff.1 hcc
       by_cases h6:vs.length=6
       ·have hE:=dF 20 ((t:Int)+1)
        rw[if_neg (by omega)] at hE
        have hno:wI s (t,vs)=.no 20 (t+1:Nat):=by simp[wI,hcc,h6,cp]
        rw[hR,←hst,hno] at hr
        simp only[pe] at hr
        rw[hr]
        simp (disch:=omega) [wl,hce,aB,h6]
        refine a7 hE ?_
        simp[Pm.iv]
        rfl
       ·obtain ⟨w,hw1,hw2⟩:=Eb s (t+1) (by omega) hs
        rw[show ((t+1:Nat):Int)=(t:Int)+1 by omega] at hw1
        simp (disch:=omega) [wl,hce,aB]
        refine a7 hw1 ?_
        cases hg:bE s (t+1) with
        | no e p=>
         obtain ⟨m,hm6⟩:∃ m,6-vs.length=m+1:=⟨5-vs.length,by omega⟩
         have hno:wI s (t,vs)=.no e p:=by simp[wI,hcc,hm6,cp,hg]
         rw[hR,←hst,hno] at hr
         simp only[pe] at hr
         rw[hg] at hw2
         obtain ⟨q,rfl⟩:=hw2
         obtain ⟨et,ev,he⟩:=aV e [p]
         rw[he] at hr ⊢
         rw[hr]
         simp (disch:=omega) [wl,Pm.iv]
         rfl
        | ok v j=>
         have hgo:=Cv (m:=0) (x:=(t,vs)) (.inr hcc) (by simp;omega) hg
         rw[hg] at hw2
         simp only[B8] at hw2
         subst hw2
         simp (disch:=omega) [wl,aB]
         refine ⟨by omega,?_⟩
         have hsn:ts (vs++[v])=ts vs++[[IV.str v]]:=by simp[ts]
         refine ae (j,vs++[v]) ⟨by have:=mi (by omega) hg;simpa using this,by simp,by simp;omega,by rw[←hst];exact hgo⟩ (by simp;omega) ?_
         simp[hsn,hz]
         exact aQ
      ·have hok:wI s (t,vs)=.ok vs t:=by simp[wI,hcc,hv0]
       rw[hR,←hst,hok] at hr
       simp only[pe] at hr
       rw[hr]
       by_cases htl:t < s.length
       ·obtain ⟨c,hc⟩:∃ c,s[t]=c:=⟨_,rfl⟩
        have hcn:c.toNat≠44:=fun e=>hcc (by rw[List.getElem?_eq_getElem htl,hc,UInt8.toNat_inj.1 (show c.toNat=(44:UInt8).toNat from e)])
        simp (disch:=omega) [wl,hc,Pm.iv]
        try rfl
       ·simp (disch:=omega) [wl,Pm.iv]
        try rfl
    cases hvr:cp s 6 (a+k+1) [] with
    | no e p=>exact ⟨_,key _ (by rw[hR,hvr];rfl),by rw[hR,hvr];rfl⟩
    | ok v j=>exact ⟨_,key _ (by rw[hR,hvr];rfl),by rw[hR,hvr];rfl⟩
   ·have hR:fm s a l=.no 4 (a+k:Nat):=by simp only[fm,hk,if_neg h1,hn,hhf,if_neg h2];rfl
    have hE:=dF 4 ((a:Int)+k)
    rw[if_neg (by omega)] at hE
    refine ⟨.tuple [(⟨[],[]⟩:Pm).iv,.int .i64 0,cl 4 [(a:Int)+k]],?_,by rw[hR];rfl⟩
    refine ac hm jI (by simp) ?_
    simp[iV,iW]
    refine ⟨ha,?_⟩
    refine a7 hN ?_
    simp (disch:=omega) [wl]
    refine ⟨by omega,by omega,?_⟩
    refine a7 hU ?_
    simp (disch:=omega) [wl]
    refine a7 hF ?_
    have hi0:(0:Int)≤(a:Int)+k:=by omega
    have e1:((a:Int)+k).toNat=a+k:=by omega
    by_cases h5:a+k < s.length
    ·obtain ⟨c,hc⟩:∃ c,s[a+k]=c:=⟨_,rfl⟩
     have hcn:c.toNat≠61:=fun e=>h2 (by rw[List.getElem?_eq_getElem h5,hc,UInt8.toNat_inj.1 (show c.toNat=(61:UInt8).toNat from e)])
     simp (disch:=omega) [wl,nr,Pm.iv,hi0,e1,hc]
     refine a7 hE ?_
     simp
     rfl
    ·simp (disch:=omega) [wl,nr,Pm.iv,hi0,e1]
     refine a7 hE ?_
     simp
     rfl
end Go.Vs.YtmaenhgipojmfaaGreatDoor
