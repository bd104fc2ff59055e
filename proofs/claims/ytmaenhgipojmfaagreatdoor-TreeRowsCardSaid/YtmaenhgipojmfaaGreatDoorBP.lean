/- The walk of param, part 16: parameters read, the document's. No conditions. -/
import Derived.Test.YtmaenhgipojmfaaGreatDoorBW
set_option linter.unusedVariables false
set_option linter.unusedSimpArgs false
namespace Go.Vs.U8
end Go.Vs.U8
namespace Go.Vs.Pa
end Go.Vs.Pa
namespace Go.Vs.YtmaenhgipojmfaaGreatDoor
set_option linter.unusedSimpArgs false
set_option linter.unusedVariables false
open Go.Proofs Go.Vs.U8 Go.Vs.Pa
set_option maxRecDepth 100000
set_option maxHeartbeats 8000000
theorem yB {s:Str} {k:Nat} {c:UInt8} (h:k < s.length) (hc:s[k]=c):named (s.drop k)=if vd c then named (s.drop (k+1))+1 else 0:=by
 rw[List.drop_eq_getElem_cons h,hc];rfl
theorem qb {s:Str} {a:Nat} {v:Str} {n:Nat} (h:bE s a=.ok v n):a≤n:=by
 simp only[bE] at h
 split at h
 ·split at h
  ·cases h
  ·split at h
   ·cases h
   ·split at h
    ·cases h;omega
    ·cases h
 ·split at h
  ·cases h
  ·split at h
   ·cases h
   ·cases h;omega
theorem nv {raw:Str} {a f:Nat} {e p:Int} (h:checked raw a f=.no e p):e≠0∧(p=a∨∃ k:Nat,k < raw.length∧p=f+k):=by
 simp only[checked] at h
 split at h
 ·next k hk=>cases h;exact ⟨by omega,.inr ⟨k,ji _ raw (Nat.le_refl _) k hk,rfl⟩⟩
 ·split at h
  ·cases h;exact ⟨by omega,.inl rfl⟩
  ·cases h
theorem vl {s:Str} {a:Nat} {e p:Int} (ha:a≤s.length) (h:bE s a=.no e p):e≠0∧0≤p∧p≤s.length:=by
 simp only[bE] at h
 split at h
 ·next h0=>
  obtain ⟨hal,_⟩:=List.getElem?_eq_some_iff.1 h0
  have hl:=pd fP (s.drop (a+1))
  rw[List.length_drop] at hl
  split at h
  ·cases h;exact ⟨by omega,by omega,by omega⟩
  ·next hne=>
   rw[List.length_drop] at hne
   split at h
   ·next hc=>
    cases h
    obtain ⟨h1,h2 | ⟨k,h2,h3⟩⟩:=nv hc
    ·exact ⟨h1,by omega,by omega⟩
    ·rw[List.length_take,List.length_drop] at h2
     exact ⟨h1,by omega,by omega⟩
   ·split at h
    ·cases h
    ·cases h;exact ⟨by omega,by omega,by omega⟩
 ·have hl:=pd plain (s.drop a)
  rw[List.length_drop] at hl
  split at h
  ·cases h;exact ⟨by omega,by omega,by omega⟩
  ·split at h
   ·next hc=>
    cases h
    obtain ⟨h1,h2 | ⟨k,h2,h3⟩⟩:=nv hc
    ·exact ⟨h1,by omega,by omega⟩
    ·rw[List.length_take,List.length_drop] at h2
     exact ⟨h1,by omega,by omega⟩
   ·cases h
theorem Ed (s:Str):∀ (m a:Nat) (vs:List Str) (e p:Int),a≤s.length→cp s m a vs=.no e p→e≠0∧0≤p∧p≤s.length
 | 0,a,vs,e,p,ha,h=>by
  simp only[cp] at h
  cases h
  exact ⟨by omega,by omega,by omega⟩
 | m+1,a,vs,e,p,ha,h=>by
  simp only[cp] at h
  cases hg:bE s a with
  | no e' p'=>rw[hg] at h;cases h;exact vl ha hg
  | ok x j=>
   rw[hg] at h
   simp only at h
   split at h
   ·next h44=>
    obtain ⟨h1,_⟩:=List.getElem?_eq_some_iff.1 h44
    exact Ed s m (j+1) _ e p (by omega) h
   ·cases h
theorem LS {s:Str} {a:Nat} {l:List Pm} {e p:Int} (ha:a≤s.length) (h:fm s a l=.no e p):e≠0∧0≤p∧p≤s.length:=by
 have hn:=iY (s.drop a)
 rw[List.length_drop] at hn
 simp only[fm] at h
 split at h
 ·cases h;exact ⟨by omega,by omega,by omega⟩
 ·split at h
  ·cases h;exact ⟨by omega,by omega,by omega⟩
  ·split at h
   ·next h61=>
    obtain ⟨h1,_⟩:=List.getElem?_eq_some_iff.1 h61
    cases hv:cp s 6 (a+named (s.drop a)+1) [] with
    | no e' p'=>rw[hv] at h;cases h;exact Ed s 6 _ _ _ _ (by omega) hv
    | ok v j=>rw[hv] at h;cases h
   ·cases h;exact ⟨by omega,by omega,by omega⟩
theorem vm (s:Str):∀ (m a:Nat) (l:List Pm) (e p:Int),a≤s.length→br s m a l=.no e p→e≠0∧0≤p∧p≤s.length
 | 0,a,l,e,p,ha,h=>by
  simp only[br] at h
  split at h
  ·cases h;exact ⟨by omega,by omega,by omega⟩
  ·cases h
 | m+1,a,l,e,p,ha,h=>by
  simp only[br] at h
  split at h
  ·next h59=>
   obtain ⟨h1,_⟩:=List.getElem?_eq_some_iff.1 h59
   cases hv:fm s (a+1) l with
   | no e' p'=>rw[hv] at h;cases h;exact LS (by omega) hv
   | ok q n=>rw[hv] at h;exact vm s m n _ e p (tN hv).1 h
  ·cases h
theorem qc (s:Str):∀ (m a:Nat) (l l':List Pm) (n:Nat),a≤s.length→KO l→br s m a l=.ok l' n→n≤s.length∧KO l'∧l'.length≤l.length+m
 | 0,a,l,l',n,ha,hl,h=>by
  simp only[br] at h
  split at h
  ·cases h
  ·cases h;exact ⟨ha,hl,by omega⟩
 | m+1,a,l,l',n,ha,hl,h=>by
  simp only[br] at h
  split at h
  ·next h59=>
   cases hv:fm s (a+1) l with
   | no e' p'=>rw[hv] at h;cases h
   | ok q j=>
    rw[hv] at h
    have ho:=tN hv
    have:=qc s m j _ l' n ho.1 (hl.snoc ho.2) h
    simp at this
    exact ⟨this.1,this.2.1,by omega⟩
  ·cases h;exact ⟨ha,hl,by omega⟩
theorem I2 (s:Str) (hs:s.length < 100000):Fn G Tryz.prog lz [.str s] (eQ (br s 6 0 [])):=by
 obtain ⟨R,hRR⟩:∃ R,br s 6 0 []=R:=⟨_,rfl⟩
 rw[hRR]
 refine ac hm yg (by simp) ?_
 simp[qH,qI]
 refine bH hm ?_
 simp
 refine Cx hm [] [5] (fun x:Nat×List Pm=>[(6,.val (.int .i64 x.1)),(5,.own 5 x.2.length)]) (fun x=>[(5,.arr x.2.length 2 (ps x.2))]) (fun x=>x.1≤s.length∧x.2.length≤6∧KO x.2∧br s (6-x.2.length) x.1 x.2=R) (fun x=>6-x.2.length) (0,[]) ⟨by simp,by simp,by intro p hp;simp at hp,by simpa using hRR⟩ ?_ ?_
 ·simp[ps]
  exact aS.trans (ce (k:=5) 5 2 (by simp) (by simp[ap,a8])) (an rfl rfl (by simp[St.adopt,aR,ap,a8,put,ba,SV.erase]) (by simp[St.adopt,bM,a8,put,aE,Ob.erase]) (by simp[St.adopt,bQ]))
 rintro ⟨t,out⟩ ⟨ht,hol,hsm,hst⟩
 simp at ht hol hst
 simp[aw]
 by_cases h59:s[t]?=some 59
 ·obtain ⟨htl,hce⟩:=List.getElem?_eq_some_iff.1 h59
  by_cases h6:out.length=6
  ·have hno:br s (6-out.length) t out=.no 20 t:=by rw[h6];simp[br,h59]
   rw[←hst,hno]
   simp (disch:=omega) [wl,hce,aw,h6,eQ,ps]
  ·obtain ⟨m,hm6⟩:∃ m,6-out.length=m+1:=⟨5-out.length,by omega⟩
   rw[hm6,br,if_pos h59] at hst
   obtain ⟨kn,hkn⟩:∃ kn,named (s.drop (t+1))=kn:=⟨_,rfl⟩
   simp (disch:=omega) [wl,hce,aw]
   refine FD hm [] [5] (fun k:Nat=>[(7,.val (.int .i64 k)),(6,.val (.int .i64 (t+1)))]) (fun _=>[]) (fun k=>k≤s.length∧k=t+1+kn) ?_ ?_
   ·simp
    refine Cx hm [] [5] (fun k:Nat=>[(7,.val (.int .i64 k)),(6,.val (.int .i64 (t+1)))]) (fun _=>[]) (fun k=>t+1≤k∧k≤s.length∧k+named (s.drop k)=t+1+kn) (fun k=>s.length-k) (t+1) ⟨by omega,by omega,by omega⟩ ?_ ?_
    ·simp
     exact aQ
    rintro k ⟨hk1,hk2,hk3⟩
    simp
    by_cases h:k < s.length
    ·obtain ⟨c,hc⟩:∃ c,s[k]=c:=⟨_,rfl⟩
     have hU:=m6 [c] (by simp)
     have hS:=Gv (upB c)
     rw[show upB c=Pa.upB c from rfl,Cm] at hS
     rw[yB h hc] at hk3
     simp (disch:=omega) [wl,hc]
     try refine ⟨by omega,?_⟩
     rw[p8 h hc]
     refine a7 hU ?_
     simp[upper]
     rw[show upB c=Pa.upB c from rfl]
     refine a7 hS ?_
     cases hn:vd c with
     | true=>
      rw[hn] at hk3
      simp (disch:=omega) [wl]
      refine ae (k+1) ⟨by omega,by omega,by simp at hk3;omega⟩ (by omega) ?_
      simp
      exact aQ
     | false=>
      rw[hn] at hk3
      simp (disch:=omega) [wl]
      refine eA k ⟨by omega,by simpa using hk3⟩ ?_
      simp
      exact aQ
    ·have hd:s.drop k=[]:=List.drop_eq_nil_of_le (by omega)
     rw[hd] at hk3
     simp (disch:=omega) [wl]
     refine eA k ⟨by omega,by simpa[named] using hk3⟩ ?_
     simp
     exact aQ
   ·rintro k ⟨hkl,hk⟩
    simp
    by_cases h1:kn=0∨24 < kn
    ·have hR:fm s (t+1) out=.no 4 (t+1:Nat):=by simp only[fm,hkn,if_pos h1]
     rw[hR] at hst
     have hst':GotL.no 4 (t+1:Nat)=R:=hst
     rw[←hst']
     rcases h1 with h1 | h1
     ·simp (disch:=omega) [wl,h1,eQ,ps]
     ·simp (disch:=omega) [wl,eQ,ps]
    ·obtain ⟨n,hn⟩:∃ n,upper ((s.drop (t+1)).take kn)=n:=⟨_,rfl⟩
     have hU:=m6 ((s.drop (t+1)).take kn) (by simp;omega)
     rw[hn] at hU
     have hraw:List.drop (t+1) (List.take k s)=(s.drop (t+1)).take kn:=by rw[List.drop_take,hk,show t+1+kn-(t+1)=kn by omega]
     have hH:=K3 out n (by omega)
     have e0:(0:Int)≤(t:Int)+1:=by omega
     have e1:((t:Int)+1).toNat=t+1:=by omega
     simp (disch:=omega) [wl,e0,e1]
     try refine ⟨by omega,?_⟩
     rw[hraw]
     refine a7 hU ?_
     simp (disch:=omega) [wl]
     refine a7 hH ?_
     cases hh:pc out n with
     | true=>
      have hR:fm s (t+1) out=.no 19 (t+1:Nat):=by simp only[fm,hkn,if_neg h1,hn,hh];rfl
      rw[hR] at hst
      have hst':GotL.no 19 (t+1:Nat)=R:=hst
      rw[←hst']
      simp (disch:=omega) [wl,eQ,ps]
     | false=>
      by_cases h2:s[k]?=some 61
      ·obtain ⟨h3,h4⟩:=List.getElem?_eq_some_iff.1 h2
       rw[hk] at h2
       have hR:fm s (t+1) out=match cp s 6 (t+1+kn+1) [] with
        | .no e p=>.no e p
        | .ok v j=>.ok ⟨n,v⟩ j:=by
        simp only[fm,hkn,if_neg h1,hn,hh,if_pos h2]
        rfl
       rw[hR] at hst
       simp (disch:=omega) [wl,h4]
       refine FD hm [] [5] (fun x:Nat×List Str=>[(6,.val (.int .i64 x.1))]) (fun x=>[(8,.box [.val (.str n),.own 115 (x.2.length-1)]),(115,.arr (x.2.length-1) 1 (ts x.2))]) (fun x=>x.2≠[]∧cp s 6 (t+1+kn+1) []=.ok x.2 x.1) ?_ ?_
       ·simp
        refine Cx hm [] [5] (fun x:Nat×List Str=>[(6,.val (.int .i64 x.1))]) (fun x=>if x.2=[] then [(8,.box [.val (.str n),.nils])] else [(8,.box [.val (.str n),.own 115 (x.2.length-1)]),(115,.arr (x.2.length-1) 1 (ts x.2))]) (fun x=>x.1≤s.length∧(x.2=[]→x.1=k)∧(x.2≠[]→k < x.1)∧x.2.length≤6∧wI s x=cp s 6 (t+1+kn+1) []) (fun x=>6-x.2.length) (k,[]) ⟨by simp;omega,by simp,by simp,by simp,by simp[wI,hk]⟩ ?_ ?_
        ·simp
         exact aQ
        rintro ⟨u,vs⟩ ⟨hu,hu0,hu1,hvl,hsr⟩
        simp at hu hu0 hu1 hvl
        by_cases hv0:vs=[]
        ·subst hv0
         have hul:=hu0 rfl
         have hV:=B9 s (u+1) (by omega) hs
         rw[show ((u+1:Nat):Int)=(u:Int)+1 by omega] at hV
         simp
         simp (disch:=omega) [wl,hul]
         rw[hul] at hV
         refine a7 hV ?_
         rw[hul] at hsr
         cases hg:bE s (k+1) with
         | no e p=>
          have hno:wI s (k,[])=.no e p:=by simp[wI,cp,hg]
          rw[hno] at hsr
          rw[←hsr] at hst
          have hst':GotL.no e p=R:=hst
          rw[←hst']
          have hne:=(vl (by omega) hg).1
          simp (disch:=omega) [wl,cf,eQ,ps]
         | ok v j=>
          have hgo:=Cv (m:=0) (x:=(k,[])) (.inl rfl) (by simp) hg
          have hge:=qb hg
          simp (disch:=omega) [wl,cf]
          refine ae (j,[v]) ⟨by have:=mi (by omega) hg;simpa using this,by simp,by simp;omega,by simp,by simpa[hsr] using hgo⟩ (by simp) ?_
          simp[ts]
          exact aQ
        ·obtain ⟨z,hz⟩:∃ z,vs.length=z+1:=⟨vs.length-1,by have:=List.length_pos_iff.2 hv0;omega⟩
         have hz1:vs.length-1=z:=by omega
         have hku:=hu1 hv0
         simp[hv0,hz1]
         by_cases hcc:s[u]?=some 44
         ·obtain ⟨hul,hce'⟩:=List.getElem?_eq_some_iff.1 hcc
          by_cases h6:vs.length=6
          ·have hno:wI s (u,vs)=.no 20 (u+1:Nat):=by simp[wI,hcc,h6,cp]
           rw[hno] at hsr
           rw[←hsr] at hst
           have hst':GotL.no 20 (u+1:Nat)=R:=hst
           rw[←hst']
           simp (disch:=omega) [wl,hce',aB,h6,eQ,ps]
          ·have hV:=B9 s (u+1) (by omega) hs
           rw[show ((u+1:Nat):Int)=(u:Int)+1 by omega] at hV
           simp (disch:=omega) [wl,hce',aB]
           refine a7 hV ?_
           cases hg:bE s (u+1) with
           | no e p=>
            obtain ⟨m',hm6'⟩:∃ m,6-vs.length=m+1:=⟨5-vs.length,by omega⟩
            have hno:wI s (u,vs)=.no e p:=by simp[wI,hcc,hm6',cp,hg]
            rw[hno] at hsr
            rw[←hsr] at hst
            have hst':GotL.no e p=R:=hst
            rw[←hst']
            have hne:=(vl (by omega) hg).1
            simp (disch:=omega) [wl,cf,eQ,ps]
           | ok v j=>
            have hgo:=Cv (m:=0) (x:=(u,vs)) (.inr hcc) (by simp;omega) hg
            have hge:=qb hg
            simp (disch:=omega) [wl,cf,aB]
            refine ⟨by omega,?_⟩
            have hsn:ts (vs++[v])=ts vs++[[IV.str v]]:=by simp[ts]
            refine ae (j,vs++[v]) ⟨by have:=mi (by omega) hg;simpa using this,by simp,by simp;omega,by simp;omega,by rw[←hsr];exact hgo⟩ (by simp;omega) ?_
            simp[hsn,hz]
            exact aQ
         ·have hok:wI s (u,vs)=.ok vs u:=by simp[wI,hcc,hv0]
          rw[hok] at hsr
          by_cases hul:u < s.length
          ·obtain ⟨c,hc⟩:∃ c,s[u]=c:=⟨_,rfl⟩
           have hcn:c.toNat≠44:=fun e=>hcc (by rw[List.getElem?_eq_getElem hul,hc,UInt8.toNat_inj.1 (show c.toNat=(44:UInt8).toNat from e)])
           simp (disch:=omega) [wl,hc]
           refine eA (u,vs) ⟨hv0,hsr.symm⟩ ?_
           simp[hz1]
           exact aQ
          ·simp (disch:=omega) [wl]
           refine eA (u,vs) ⟨hv0,hsr.symm⟩ ?_
           simp[hz1]
           exact aQ
       ·rintro ⟨j,vs⟩ ⟨hv0,hvr⟩
        simp only at hv0 hvr
        rw[hvr] at hst hR
        have hst2:br s m j (out++[⟨n,vs⟩])=R:=hst
        have hok:=tN hR
        simp
        refine ⟨by rw[aw];omega,?_⟩
        refine ae (j,out++[⟨n,vs⟩]) ⟨hok.1,by simp;omega,hsm.snoc hok.2,by rw[show 6-(out++[(⟨n,vs⟩:Pm)]).length=m by simp;omega];exact hst2⟩ (by simp;omega) ?_
        simp[Cw]
        exact aQ
      ·have hR:fm s (t+1) out=.no 4 (k:Nat):=by
        rw[hk] at h2 ⊢
        simp only[fm,hkn,if_neg h1,hn,hh,if_neg h2];rfl
       rw[hR] at hst
       have hst':GotL.no 4 (k:Nat)=R:=hst
       rw[←hst']
       by_cases h5:k < s.length
       ·obtain ⟨c,hc⟩:∃ c,s[k]=c:=⟨_,rfl⟩
        have hcn:c.toNat≠61:=fun e=>h2 (by rw[List.getElem?_eq_getElem h5,hc,UInt8.toNat_inj.1 (show c.toNat=(61:UInt8).toNat from e)])
        simp (disch:=omega) [wl,hc,eQ,ps]
       ·simp (disch:=omega) [wl,eQ,ps]
 ·have hok:br s (6-out.length) t out=.ok out t:=by
   cases 6-out.length <;> simp[br,h59]
  rw[←hst,hok]
  by_cases htl:t < s.length
  ·obtain ⟨c,hc⟩:∃ c,s[t]=c:=⟨_,rfl⟩
   have hcn:c.toNat≠59:=fun e=>h59 (by rw[List.getElem?_eq_getElem htl,hc,UInt8.toNat_inj.1 (show c.toNat=(59:UInt8).toNat from e)])
   simp (disch:=omega) [wl,hc,eQ]
  ·simp (disch:=omega) [wl,eQ]
end Go.Vs.YtmaenhgipojmfaaGreatDoor
