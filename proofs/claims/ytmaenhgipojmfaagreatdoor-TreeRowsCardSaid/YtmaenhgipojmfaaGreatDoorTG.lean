/- The walk of the check of nodes, the program's and the document's. No conditions. -/
import Derived.Test.YtmaenhgipojmfaaGreatDoorTF
set_option linter.unusedVariables false
set_option linter.unusedSimpArgs false
namespace Go.Vs.U8
end Go.Vs.U8
namespace Go.Vs.Pa
end Go.Vs.Pa
namespace Go.Vs.Fd
end Go.Vs.Fd
namespace Go.Vs.Tr
end Go.Vs.Tr
namespace Go.Vs.YtmaenhgipojmfaaGreatDoor
set_option linter.unusedSimpArgs false
set_option linter.unusedVariables false
open Go.Proofs Go.Vs.U8 Go.Vs.Pa Go.Vs.Fd Go.Vs.Tr
set_option maxRecDepth 100000
set_option maxHeartbeats 16000000
theorem qi (y:Ln) (r:List Ln):kx jp (y::r)=if bv y≠0 then bv y else if y.n=eE∨y.n=fT then 11 else kx jp r:=by
 simp only[kx,jp]
 by_cases e0:bv y=0
 ·by_cases e1:y.n=eE∨y.n=fT
  ·simp[e0,e1]
  ·simp[e0,e1]
 ·simp[e0]
theorem KB (x:Nd Ln) (fx:FitNd x):Fn G Tryz.prog d4 [Nd.iv' x] (.int .i64 (gi jp x.l)):=by
 refine ac hm kF (by simp) ?_
 obtain ⟨R,hR⟩:∃ R,gi jp x.l=R:=⟨_,rfl⟩
 rw[hR]
 unfold gi at hR
 have fl:=fx.l
 simp[fq,fu,Nd.iv',az]
 by_cases h24:24 < x.l.length
 ·rw[if_pos h24] at hR
  subst hR
  simp (disch:=omega) [wl]
 ·rw[if_neg h24] at hR
  simp (disch:=omega) [wl,az]
  refine aA hm [] (fun i:Nat=>[(13,.val (.int .i64 i))]) (fun _=>[]) (fun i=>i≤x.l.length∧kx jp (x.l.drop i)=R) (fun i=>x.l.length-i) 0 ⟨by omega,by simpa using hR⟩ ?_ ?_
  ·simp
   exact aQ
  rintro i ⟨h1,h2⟩
  simp[az]
  by_cases h:i < x.l.length
  ·obtain ⟨y,hy⟩:∃ y,x.l[i]=y:=⟨_,rfl⟩
   have hg:=jj h hy
   have hC:=Bf y (fx.f y (hy▸List.getElem_mem h))
   rw[List.drop_eq_getElem_cons h,hy] at h2
   rw[qi] at h2
   simp only[Ln.iv] at hC
   by_cases e0:bv y=0
   ·rw[e0] at hC
    rw[if_neg (by simp[e0])] at h2
    by_cases e1:y.n=eE
    ·rw[if_pos (.inl e1)] at h2
     subst h2
     unfold eE at e1
     simp (disch:=omega) [wl,hg]
     refine a7 hC ?_
     simp (disch:=omega) [wl,e1]
    ·by_cases e2:y.n=fT
     ·rw[if_pos (.inr e2)] at h2
      subst h2
      unfold eE at e1
      unfold fT at e2
      simp (disch:=omega) [wl,hg]
      refine a7 hC ?_
      simp (disch:=omega) [wl,e1,e2]
     ·rw[if_neg (by rw[not_or];exact ⟨e1,e2⟩)] at h2
      unfold eE at e1
      unfold fT at e2
      simp (disch:=omega) [wl,hg]
      refine a7 hC ?_
      simp (disch:=omega) [wl,e1,e2]
      refine ae (i+1) ⟨by omega,h2⟩ (by omega) ?_
      simp
      exact aQ
   ·rw[if_pos e0] at h2
    subst h2
    simp (disch:=omega) [wl,hg]
    refine a7 hC ?_
    simp (disch:=omega) [wl,e0]
  ·obtain rfl:i=x.l.length:=by omega
   rw[List.drop_length] at h2
   simp only[kx] at h2
   subst h2
   simp (disch:=omega) [wl]
theorem wB {L:cn} : ∀ {op:List Nat},fS L op→op.Nodup
 | [],_=>List.nodup_nil
 | k::r,h=>List.nodup_cons.2 ⟨fun hk=>by have:=h.2.1 k hk;omega,wB h.2.2⟩
theorem GN (up:Int):∀ {op:List Nat},op.Nodup→(NB op.reverse up = -1∧b9 up op=[])∨∃ k:Nat,NB op.reverse up=(k:Nat)∧k < op.length∧(b9 up op).reverse=op.reverse.take (k+1)∧b9 up op≠[]
 | [],_=>.inl ⟨rfl,rfl⟩
 | j::r,h=>by
  obtain ⟨h1,h2⟩:=List.nodup_cons.1 h
  have ih:=GN up h2
  have hle:=List.findIdx_le_length (p:=fun k:Nat=>decide ((k:Int)=up)) (xs:=r.reverse)
  have hn:(j:Int)=up→r.reverse.findIdx (fun k:Nat=>decide ((k:Int)=up))=r.length:=by
   intro e
   rw[←List.length_reverse]
   refine List.findIdx_eq_length.2 fun k hk=>?_
   have:k≠j:=fun x=>h1 (by rw[←x];simpa using hk)
   simp only[decide_eq_false_iff_not]
   omega
  unfold NB at ih ⊢
  rw[List.reverse_cons,List.findIdx_append]
  simp only[List.length_append,List.length_reverse,List.length_cons,List.length_nil,List.findIdx_singleton,b9] at ih hle ⊢
  obtain ⟨F,hF⟩:∃ F,r.reverse.findIdx (fun k:Nat=>decide ((k:Int)=up))=F:=⟨_,rfl⟩
  rw[hF] at ih hn hle ⊢
  by_cases e:(j:Int)=up
  ·have:=hn e
   subst this
   rw[if_pos e,if_neg (Nat.lt_irrefl _)]
   simp only[e,decide_true,if_true,Nat.zero_add]
   rw[if_pos (by omega)]
   refine .inr ⟨r.length,rfl,by omega,?_,by simp⟩
   rw[List.take_of_length_le (by simp),List.reverse_cons]
  ·rw[if_neg e]
   simp only[e,decide_false,Bool.false_eq_true,if_false]
   by_cases hlt:F < r.length
   ·rw[if_pos hlt] at ih
    rw[if_pos hlt,if_pos (by omega)]
    rcases ih with ⟨i1,i2⟩ | ⟨k,i1,i2,i3,i4⟩
    ·exact absurd i1 (by omega)
    ·refine .inr ⟨k,i1,by omega,?_,i4⟩
     rw[i3,List.take_append_of_le_length (by rw[List.length_reverse];omega)]
   ·rw[if_neg hlt] at ih
    rw[if_neg hlt,if_neg (by omega)]
    rcases ih with ⟨i1,i2⟩ | ⟨k,i1,i2,i3,i4⟩
    ·exact .inl ⟨rfl,i2⟩
    ·exact absurd i1 (by omega)
theorem BB {L:cn} : ∀ {op:List Nat} {i:Nat},fS L op→(∀ k∈op,k < i)→op.length≤i
 | [],_,_,_=>Nat.zero_le _
 | k::r,i,h,ho=>by
  have:=BB h.2.2 h.2.1
  have:=ho k (by simp)
  rw[List.length_cons]
  omega
def dQ:ChR→Int
 | .no e=>e
 | .ok _=>0
theorem GO (l:cn):wi l=if 40 < l.length then 20 else dQ (lN jp ax l 0 []):=by
 unfold wi nG
 split
 ·rfl
 ·cases lN jp ax l 0 [] <;> rfl
theorem pJ (l:List Nat) (k:Nat):(kR l).take k=kR (l.take k):=by unfold kR;rw[List.map_take]
theorem iD (l:cn) (fl:qp l):Fn G Tryz.prog di [.slice (gL l)] (.int .i64 (wi l)):=by
 refine ac hm Ae (by simp) ?_
 obtain ⟨hl,fl⟩:=fl
 rw[GO]
 simp[ur,ut,ah]
 by_cases h40:40 < l.length
 ·rw[if_pos h40]
  simp (disch:=omega) [wl]
 ·rw[if_neg h40]
  obtain ⟨R,hR⟩:∃ R,dQ (lN jp ax l 0 [])=R:=⟨_,rfl⟩
  rw[hR]
  simp (disch:=omega) [wl,ah]
  refine aA hm [4,6,7] (fun x:Nat×Nat×List Nat=>[(13,.val (.int .i64 x.1)),(3,.own 3 x.2.1)]) (fun x=>[(3,.arr x.2.1 1 (kR x.2.2.reverse))]) (fun x=>x.1≤l.length∧dQ (lN jp ax (l.drop x.1) x.1 x.2.2)=R∧fS l x.2.2∧(∀ k∈x.2.2,k < x.1)) (fun x=>l.length-x.1) (0,0,[]) ⟨by simp,by simpa using hR,trivial,by simp⟩ ?_ ?_
  ·simp[kR]
   exact aS.trans (ce (k:=3) 3 1 (by simp) (by simp[ap,a8])) (an rfl rfl (by simp[St.adopt,aR,ap,a8,put,ba,SV.erase]) (by simp[St.adopt,bM,a8,put,aE,Ob.erase]) (by simp[St.adopt,bQ]))
  rintro ⟨i,v,op⟩ ⟨h1,h2,h3,h4⟩
  simp only at h1 h2 h3 h4
  simp[ah]
  by_cases h:i < l.length
  ·obtain ⟨x,hx⟩:∃ x,l[i]=x:=⟨_,rfl⟩
   have hg:=bC h hx
   have fx:=fl x (hx▸List.getElem_mem h)
   have hol:=BB h3 h4
   have hIx:=Il op.reverse x.up (by rw[List.length_reverse];omega)
   have hN:=tI x.n (by have:=fx.n;omega)
   have hLn:=KB x fx
   simp only[Nd.iv'] at hLn
   rw[List.drop_eq_getElem_cons h,hx] at h2
   simp only[lN] at h2
   simp (disch:=omega) [wl,ah,hg]
   refine a7 hIx ?_
   rcases GN x.up (wB h3) with ⟨k1,k2⟩ | ⟨k,k1,k2,k3,k4⟩
   ·rw[k1]
    rw[k2] at h2
    by_cases hu:x.up = -1
    ·rw[if_neg (by rintro ⟨q,_⟩;exact q hu),if_neg (by simp)] at h2
     have hch:fS l [i]:=⟨by rw[rN h hx,hu];rfl,by simp,trivial⟩
     have hlt:∀ k∈[i],k < i+1:=by simp
     rw[hu] at hLn
     by_cases hb:ax x.n=true
     ·rw[if_neg (by simp[hb])] at h2
      rw[hb] at hN
      obtain ⟨E,hE⟩:∃ E,gi jp x.l=E:=⟨_,rfl⟩
      rw[hE] at h2 hLn
      by_cases hE0:E=0
      ·rw[if_neg (by simp[hE0])] at h2
       subst hE0
       simp (disch:=omega) [wl,hu]
       refine a7 hN ?_
       simp (disch:=omega) [wl]
       refine a7 hLn ?_
       simp (disch:=omega) [wl]
       refine ae (i+1,v+2,i::[]) ⟨by simp only;omega,h2,hch,hlt⟩ (by simp only;omega) ?_
       simp[kR]
       exact aQ
      ·rw[if_pos hE0] at h2
       simp only[dQ] at h2
       subst h2
       simp (disch:=omega) [wl,hu]
       refine a7 hN ?_
       simp (disch:=omega) [wl]
       refine a7 hLn ?_
       simp (disch:=omega) [wl,hE0]
     ·have hb':ax x.n=false:=by simpa using hb
      rw[if_pos hb'] at h2
      rw[hb'] at hN
      simp only[dQ] at h2
      subst h2
      simp (disch:=omega) [wl,hu]
      refine a7 hN ?_
      simp (disch:=omega) [wl]
    ·rw[if_pos ⟨hu,rfl⟩] at h2
     simp only[dQ] at h2
     subst h2
     simp (disch:=omega) [wl,hu]
   ·rw[k1]
    obtain ⟨K,hK⟩:∃ K,b9 x.up op=K:=⟨_,rfl⟩
    have hch:¬(x.up≠-1∧b9 x.up op=[]):=fun q=>k4 q.2
    have hch:=yS (by rw[List.getElem?_eq_getElem h,hx]) h3 h4 hch
    have hlt:∀ k∈i::b9 x.up op,k < i+1:=fun k hk=>by
     rcases List.mem_cons.1 hk with rfl | hk
     ·omega
     ·have:=h4 k (j0 hk);omega
    have hkl:K.length=k+1:=by
     rw[←hK,←List.length_reverse,k3,List.length_take,List.length_reverse];omega
    have hu:¬(k:Int) < 0:=by omega
    rw[hK] at h2 k3 k4 hch hlt
    rw[if_neg (fun q=>k4 q.2)] at h2
    have htk:(kR op.reverse).take (k+1)=kR K.reverse:=by rw[pJ,k3]
    have hol':(kR op.reverse).length=op.length:=by rw[bT,List.length_reverse]
    by_cases h5:4 < (i::K).length
    ·rw[if_pos h5] at h2
     rw[List.length_cons] at h5
     simp only[dQ] at h2
     subst h2
     by_cases hu1:x.up = -1
     all_goals
      simp (disch:=omega) [wl,hu1,htk,bT,hol']
      omega
    ·rw[if_neg h5] at h2
     rw[List.length_cons] at h5
     by_cases hu1:x.up = -1
     ·exfalso
      rw[hu1,iz] at hK
      exact k4 hK.symm
     ·by_cases hb:ax x.n=true
      ·rw[if_neg (by simp[hb])] at h2
       rw[hb] at hN
       obtain ⟨E,hE⟩:∃ E,gi jp x.l=E:=⟨_,rfl⟩
       rw[hE] at h2 hLn
       by_cases hE0:E=0
       ·rw[if_neg (by simp[hE0])] at h2
        subst hE0
        simp (disch:=omega) [wl,hu1,htk,bT,hol']
        refine ⟨by omega,by omega,?_⟩
        refine a7 hN ?_
        simp (disch:=omega) [wl]
        refine a7 hLn ?_
        simp (disch:=omega) [wl]
        refine ae (i+1,v+2,i::K) ⟨by simp only;omega,h2,hch,hlt⟩ (by simp only;omega) ?_
        simp[pI]
        exact aQ
       ·rw[if_pos hE0] at h2
        simp only[dQ] at h2
        subst h2
        simp (disch:=omega) [wl,hu1,htk,bT,hol']
        refine ⟨by omega,by omega,?_⟩
        refine a7 hN ?_
        simp (disch:=omega) [wl]
        refine a7 hLn ?_
        simp (disch:=omega) [wl,hE0]
      ·have hb':ax x.n=false:=by simpa using hb
       rw[if_pos hb'] at h2
       rw[hb'] at hN
       simp only[dQ] at h2
       subst h2
       simp (disch:=omega) [wl,hu1,htk,bT,hol']
       refine ⟨by omega,by omega,?_⟩
       refine a7 hN ?_
       simp (disch:=omega) [wl]
  ·obtain rfl:i=l.length:=by omega
   rw[List.drop_length] at h2
   simp only[lN,dQ] at h2
   subst h2
   simp (disch:=omega) [wl]
theorem zk (l:cn) (fl:qp l):Fn G Tryz.prog iN [.slice (gL l)] (.int .i64 (wi l)):=by
 refine ac hm yZ (by simp) ?_
 obtain ⟨hl,fl⟩:=fl
 rw[GO]
 simp[rz,rA,ah]
 by_cases h40:40 < l.length
 ·rw[if_pos h40]
  simp (disch:=omega) [wl]
 ·rw[if_neg h40]
  obtain ⟨R,hR⟩:∃ R,dQ (lN jp ax l 0 [])=R:=⟨_,rfl⟩
  rw[hR]
  simp (disch:=omega) [wl,ah]
  refine aA hm [4,5] (fun x:Nat×List Nat=>[(3,.val (.int .i64 x.1))]) (fun _=>[]) (fun x=>x.1≤l.length∧dQ (lN jp ax (l.drop x.1) x.1 x.2)=R∧fS l x.2∧(∀ k∈x.2,k < x.1)∧bw x.2=(x.1:Int)-1) (fun x=>l.length-x.1) (0,[]) ⟨by simp,by simpa using hR,trivial,by simp,rfl⟩ ?_ ?_
  ·simp
   exact aQ
  rintro ⟨i,op⟩ ⟨h1,h2,h3,h4,h5⟩
  simp only at h1 h2 h3 h4 h5
  simp[ah]
  by_cases h:i < l.length
  ·obtain ⟨x,hx⟩:∃ x,l[i]=x:=⟨_,rfl⟩
   have hg:=bC h hx
   have fx:=fl x (hx▸List.getElem_mem h)
   have hO:=Ma l i x.up op hl (by omega) h3 h5 (fun k hk=>by have:=h4 k hk;omega)
   have hD:=iC l i hl
   have hN:=p7 x.n (by have:=fx.n;omega)
   have hd:nQ l i=El l i:=by unfold nQ;rw[if_pos (by omega)];rfl
   rw[hd] at hD
   rw[List.drop_eq_getElem_cons h,hx] at h2
   simp only[lN] at h2
   by_cases hu:x.up≠-1∧b9 x.up op=[]
   ·rw[if_pos hu] at h2
    simp only[dQ] at h2
    subst h2
    obtain ⟨hu1,hu2⟩:=hu
    rw[hu2] at hO
    simp (disch:=omega) [wl,ah,hg,hu1]
    refine a7 hO ?_
    simp (disch:=omega) [wl]
   ·rw[if_neg hu] at h2
    have hch:=yS (by rw[List.getElem?_eq_getElem h,hx]) h3 h4 hu
    have hdc:=iA hch
    rw[hdc] at hD
    have hlt:∀ k∈i::b9 x.up op,k < i+1:=fun k hk=>by
     rcases List.mem_cons.1 hk with rfl | hk
     ·omega
     ·have:=h4 k (j0 hk);omega
    have hue:x.up = -1∨(¬x.up = -1∧(b9 x.up op).isEmpty=false):=by
     by_cases q:x.up = -1
     ·exact .inl q
     ·refine .inr ⟨q,?_⟩
      cases hk:b9 x.up op with
      | nil=>exact absurd ⟨q,hk⟩ hu
      | cons a b=>rfl
    obtain ⟨K,hK⟩:∃ K,b9 x.up op=K:=⟨_,rfl⟩
    obtain ⟨kl,hkl⟩:∃ kl,K.length=kl:=⟨_,rfl⟩
    rw[hK] at h2 hO hD hch hlt hue
    rw[List.length_cons,hkl] at h2
    rw[hkl] at hD
    have fxl:=fx.l
    rcases hue with hue | ⟨hue1,hue2⟩
    ·simp (disch:=omega) [wl,ah,hg,hue]
     refine a7 hD ?_
     by_cases h6:4 < kl+1
     ·rw[if_pos h6] at h2
      simp only[dQ] at h2
      subst h2
      simp (disch:=omega) [wl]
     ·rw[if_neg h6] at h2
      simp (disch:=omega) [wl,hg]
      refine a7 hN ?_
      by_cases hb:ax x.n=false
      ·rw[if_pos hb] at h2
       simp only[dQ] at h2
       subst h2
       rw[hb]
       simp (disch:=omega) [wl]
      ·rw[if_neg hb] at h2
       have hb':ax x.n=true:=by simpa using hb
       rw[hb']
       unfold gi at h2
       by_cases h24:24 < x.l.length
       ·rw[if_pos h24,if_pos (by omega)] at h2
        simp only[dQ] at h2
        subst h2
        simp (disch:=omega) [wl,hg,az]
       ·rw[if_neg h24] at h2
        obtain ⟨B,hB⟩:∃ B,kx jp x.l=B:=⟨_,rfl⟩
        rw[hB] at h2
        simp (disch:=omega) [wl,hg,az]
        refine aA hm [5] (fun j:Nat=>[(4,.val (.int .i64 j))]) (fun _=>[]) (fun j=>j≤x.l.length∧kx jp (x.l.drop j)=B) (fun j=>x.l.length-j) 0 ⟨by omega,by simpa using hB⟩ ?_ ?_
        ·simp
         exact aQ
        rintro j ⟨j1,j2⟩
        simp[hg,az]
        by_cases hj:j < x.l.length
        ·obtain ⟨y,hy⟩:∃ y,x.l[j]=y:=⟨_,rfl⟩
         have hg':=jj hj hy
         have hC:=si y (fx.f y (hy▸List.getElem_mem hj))
         rw[List.drop_eq_getElem_cons hj,hy,qi] at j2
         simp only[Ln.iv] at hC
         by_cases e0:bv y=0
         ·rw[e0] at hC
          rw[if_neg (by simp[e0])] at j2
          by_cases e1:y.n=eE
          ·rw[if_pos (.inl e1)] at j2
           subst j2
           rw[if_pos (by omega)] at h2
           simp only[dQ] at h2
           subst h2
           unfold eE at e1
           simp (disch:=omega) [wl,hg,hg',az]
           refine a7 hC ?_
           simp (disch:=omega) [wl,hg,hg',e1]
          ·by_cases e2:y.n=fT
           ·rw[if_pos (.inr e2)] at j2
            subst j2
            rw[if_pos (by omega)] at h2
            simp only[dQ] at h2
            subst h2
            unfold eE at e1
            unfold fT at e2
            simp (disch:=omega) [wl,hg,hg',az]
            refine a7 hC ?_
            simp (disch:=omega) [wl,hg,hg',e1,e2]
           ·rw[if_neg (by rw[not_or];exact ⟨e1,e2⟩)] at j2
            unfold eE at e1
            unfold fT at e2
            simp (disch:=omega) [wl,hg,hg',az]
            refine a7 hC ?_
            simp (disch:=omega) [wl,hg,hg',e1,e2]
            refine ae (j+1) ⟨by omega,j2⟩ (by omega) ?_
            simp
            exact aQ
         ·rw[if_pos e0] at j2
          subst j2
          rw[if_pos e0] at h2
          simp only[dQ] at h2
          subst h2
          simp (disch:=omega) [wl,hg,hg',az]
          refine a7 hC ?_
          simp (disch:=omega) [wl,e0]
        ·obtain rfl:j=x.l.length:=by omega
         rw[List.drop_length] at j2
         simp only[kx] at j2
         subst j2
         rw[if_neg (by omega)] at h2
         simp (disch:=omega) [wl,hg,az]
         refine ae (i+1,i::K) ⟨by simp only;omega,h2,hch,hlt,by simp only[bw];omega⟩ (by simp only;omega) ?_
         simp
         exact aQ
    ·rw[hue2] at hO
     simp (disch:=omega) [wl,ah,hg,hue1]
     refine a7 hO ?_
     simp (disch:=omega) [wl]
     refine a7 hD ?_
     by_cases h6:4 < kl+1
     ·rw[if_pos h6] at h2
      simp only[dQ] at h2
      subst h2
      simp (disch:=omega) [wl]
     ·rw[if_neg h6] at h2
      simp (disch:=omega) [wl,hg]
      refine a7 hN ?_
      by_cases hb:ax x.n=false
      ·rw[if_pos hb] at h2
       simp only[dQ] at h2
       subst h2
       rw[hb]
       simp (disch:=omega) [wl]
      ·rw[if_neg hb] at h2
       have hb':ax x.n=true:=by simpa using hb
       rw[hb']
       unfold gi at h2
       by_cases h24:24 < x.l.length
       ·rw[if_pos h24,if_pos (by omega)] at h2
        simp only[dQ] at h2
        subst h2
        simp (disch:=omega) [wl,hg,az]
       ·rw[if_neg h24] at h2
        obtain ⟨B,hB⟩:∃ B,kx jp x.l=B:=⟨_,rfl⟩
        rw[hB] at h2
        simp (disch:=omega) [wl,hg,az]
        refine aA hm [5] (fun j:Nat=>[(4,.val (.int .i64 j))]) (fun _=>[]) (fun j=>j≤x.l.length∧kx jp (x.l.drop j)=B) (fun j=>x.l.length-j) 0 ⟨by omega,by simpa using hB⟩ ?_ ?_
        ·simp
         exact aQ
        rintro j ⟨j1,j2⟩
        simp[hg,az]
        by_cases hj:j < x.l.length
        ·obtain ⟨y,hy⟩:∃ y,x.l[j]=y:=⟨_,rfl⟩
         have hg':=jj hj hy
         have hC:=si y (fx.f y (hy▸List.getElem_mem hj))
         rw[List.drop_eq_getElem_cons hj,hy,qi] at j2
         simp only[Ln.iv] at hC
         by_cases e0:bv y=0
         ·rw[e0] at hC
          rw[if_neg (by simp[e0])] at j2
          by_cases e1:y.n=eE
          ·rw[if_pos (.inl e1)] at j2
           subst j2
           rw[if_pos (by omega)] at h2
           simp only[dQ] at h2
           subst h2
           unfold eE at e1
           simp (disch:=omega) [wl,hg,hg',az]
           refine a7 hC ?_
           simp (disch:=omega) [wl,hg,hg',e1]
          ·by_cases e2:y.n=fT
           ·rw[if_pos (.inr e2)] at j2
            subst j2
            rw[if_pos (by omega)] at h2
            simp only[dQ] at h2
            subst h2
            unfold eE at e1
            unfold fT at e2
            simp (disch:=omega) [wl,hg,hg',az]
            refine a7 hC ?_
            simp (disch:=omega) [wl,hg,hg',e1,e2]
           ·rw[if_neg (by rw[not_or];exact ⟨e1,e2⟩)] at j2
            unfold eE at e1
            unfold fT at e2
            simp (disch:=omega) [wl,hg,hg',az]
            refine a7 hC ?_
            simp (disch:=omega) [wl,hg,hg',e1,e2]
            refine ae (j+1) ⟨by omega,j2⟩ (by omega) ?_
            simp
            exact aQ
         ·rw[if_pos e0] at j2
          subst j2
          rw[if_pos e0] at h2
          simp only[dQ] at h2
          subst h2
          simp (disch:=omega) [wl,hg,hg',az]
          refine a7 hC ?_
          simp (disch:=omega) [wl,e0]
        ·obtain rfl:j=x.l.length:=by omega
         rw[List.drop_length] at j2
         simp only[kx] at j2
         subst j2
         rw[if_neg (by omega)] at h2
         simp (disch:=omega) [wl,hg,az]
         refine ae (i+1,i::K) ⟨by simp only;omega,h2,hch,hlt,by simp only[bw];omega⟩ (by simp only;omega) ?_
         simp
         exact aQ
  ·obtain rfl:i=l.length:=by omega
   rw[List.drop_length] at h2
   simp only[lN,dQ] at h2
   subst h2
   simp (disch:=omega) [wl,ah]
end Go.Vs.YtmaenhgipojmfaaGreatDoor
