/- The walk of the statement TreeRows. No conditions. -/
import Derived.Test.YtmaenhgipojmfaaGreatDoorTN
set_option linter.unusedVariables false
set_option linter.unusedSimpArgs false
namespace Go.Vs.YtmaenhgipojmfaaGreatDoor
open Go.Proofs Go.Vs.U8 Go.Vs.Pa Go.Vs.Fd Go.Vs.Tr
set_option maxRecDepth 100000
set_option maxHeartbeats 32000000
def pv (t:Str) (i:Nat):UInt8:=if i=0 then 0 else (t[i-1]?).getD 0
theorem Mj {t:Str} {i:Nat} {c:UInt8} (h:i < t.length) (hc:t[i]=c):pv t (i+1)=c:=by
 unfold pv
 rw[if_neg (by omega),Nat.add_sub_cancel,List.getElem?_eq_getElem h,hc]
 rfl
def KM (l:cn) (i:Nat):Nat:=((l.take i).map fun x=>x.l.length+2).sum
theorem EP (l:cn):KM l 0=0:=rfl
theorem KN {l:cn} {i:Nat} {x:Nd Ln} (h:i < l.length) (hx:l[i]=x):KM l (i+1)=KM l i+(x.l.length+2):=by
 unfold KM
 rw[List.take_succ_eq_append_getElem h,hx,List.map_append,List.sum_append]
 simp
theorem EQ (l:cn):Fn G Tryz.prog iG [.slice (gL l)] (.bool true):=by
 refine ac hm uJ (by simp) ?_
 have hA:=mG
 have hSm:=ql l
 simp[mD,mF]
 refine a7 hSm ?_
 cases hs1:nR l with
 | false=>
  simp (disch:=omega) [wl]
  refine a7 hA ?_
  simp
 | true=>
  have fl:=nS hs1
  have hO:=xb l fl
  have hPr:=jZ l fl
  have fl1:=fl.1
  simp only[Ix] at hPr
  simp (disch:=omega) [wl]
  refine a7 hO ?_
  simp (disch:=omega) [wl]
  refine a7 hPr ?_
  by_cases h0:wi l=0
  ·by_cases h6:(fV l).length≤6000
   ·have hsc:=If h0 0
    obtain ⟨rows,hr1,hr2⟩:=G7 h0 h6
    have hU:=Bw (fV l) (by omega)
    rw[hr1] at hU
    simp only[M7] at hU
    obtain ⟨_,r6⟩:=zn hr1
    rw[if_pos h0,h0]
    obtain ⟨t,ht⟩:∃ t,fV l=t:=⟨_,rfl⟩
    rw[ht] at hsc hU h6 ⊢
    simp (disch:=omega) [wl]
    refine aA hm [] (fun x:Nat×Nat=>[(7,.val (.int .i64 x.1)),(6,.val (.int .i64 x.2))]) (fun _=>[]) (fun x=>x.1≤t.length∧x.2≤x.1∧ky (t.drop x.1) (x.1-x.2) (pv t x.1)=true) (fun x=>t.length-x.1) (0,0) ⟨by simp,by simp,by simpa[pv] using hsc⟩ ?_ ?_
    ·simp
     exact aQ
    rintro ⟨i,a⟩ ⟨h1,h2,h3⟩
    simp only at h1 h2 h3
    simp
    by_cases h:i < t.length
    ·obtain ⟨c,hx⟩:∃ c,t[i]=c:=⟨_,rfl⟩
     have hpv:=Mj h hx
     rw[List.drop_eq_getElem_cons h,hx] at h3
     simp only[ky] at h3
     by_cases hc:c=10
     ·rw[if_pos hc] at h3
      simp only[Bool.and_eq_true,decide_eq_true_eq,beq_iff_eq] at h3
      obtain ⟨⟨k1,k2⟩,k3⟩:=h3
      have hc':c.toNat=10:=by rw[hc];rfl
      have i0:¬i=0:=by
       rintro rfl
       simp[pv] at k2
      have hp:(t[i-1]'(by omega))=13:=by
       unfold pv at k2
       rw[if_neg i0,List.getElem?_eq_getElem (by omega)] at k2
       exact k2
      have hti:((i:Int)-1).toNat=i-1:=by omega
      simp (disch:=omega) [wl,hx,hc',hti,hp]
      rw[if_pos (by omega)]
      simp (disch:=omega) [wl]
      refine ae (i+1,i+1) ⟨by simp only;omega,by simp,by simp only[Nat.sub_self,hpv];exact k3⟩ (by simp only;omega) ?_
      simp
      exact aQ
     ·rw[if_neg hc] at h3
      have hc':¬c.toNat=10:=fun e=>hc (UInt8.toNat_inj.1 e)
      simp (disch:=omega) [wl,hx,hc']
      refine ae (i+1,a) ⟨by simp only;omega,by simp only;omega,by simp only[hpv];rw[show i+1-a=i-a+1 by omega];exact h3⟩ (by simp only;omega) ?_
      simp
      exact aQ
    ·obtain rfl:i=t.length:=by omega
     rw[List.drop_length] at h3
     simp only[ky,decide_eq_true_eq] at h3
     obtain rfl:a=t.length:=by omega
     simp (disch:=omega) [wl]
     refine a7 hU ?_
     simp (disch:=omega) [wl]
     refine aA hm [] (fun i:Nat=>[(11,.val (.int .i64 i)),(10,.val (.int .i64 (KM l i:Nat)))]) (fun _=>[]) (fun i=>i≤l.length∧KM l i≤1000000) (fun i=>l.length-i) 0 ⟨by omega,by simp[EP]⟩ ?_ ?_
     ·simp[EP]
      exact aQ
     rintro i ⟨j1,j2⟩
     simp[ah]
     by_cases hi:i < l.length
     ·obtain ⟨x,hx⟩:∃ x,l[i]=x:=⟨_,rfl⟩
      have hg:=bC hi hx
      have hst:=KN hi hx
      have hle:KM l (i+1)≤1000000:=by
       have:=KE (l:=l.take (i+1)) (fun y hy=>(jY h0 y (List.mem_of_mem_take hy)).1)
       have hl40:=(jX h0).1
       rw[List.length_take] at this
       unfold KM
       omega
      obtain ⟨S,hS⟩:∃ S,KM l i=S:=⟨_,rfl⟩
      rw[hS] at hst j2
      simp (disch:=omega) [wl,ah,hg,az,hS]
      refine ae (i+1) ⟨by omega,hle⟩ (by omega) ?_
      simp[hst]
      exact an rfl rfl (by simp[aR,ap,a8];omega) (by simp[bM,a8]) (by simp[bQ])
     ·obtain rfl:i=l.length:=by omega
      have hcn:KM l l.length=rows.length:=by unfold KM;rw[List.take_length,hr2]
      rw[hcn]
      simp (disch:=omega) [wl,ah,aj]
      refine a7 hA ?_
      simp
   ·rw[if_pos h0,h0]
    simp (disch:=omega) [wl]
    refine a7 hA ?_
    simp
  ·rw[if_neg h0]
   simp (disch:=omega) [wl,h0]
   refine a7 hA ?_
   simp
theorem Aq (args:List IV) (h:DP [.slice Mz] args):Fn G Tryz.prog iG args (.bool true):=by
 obtain ⟨v,b,rfl,⟨r0,hr0,_,h0⟩,hd⟩:=h
 have hd:b=[]:=hd
 subst hd
 simp only[List.cons.injEq,and_true] at hr0
 subst hr0
 obtain ⟨l,rfl⟩:=pN h0
 exact EQ l
end Go.Vs.YtmaenhgipojmfaaGreatDoor
