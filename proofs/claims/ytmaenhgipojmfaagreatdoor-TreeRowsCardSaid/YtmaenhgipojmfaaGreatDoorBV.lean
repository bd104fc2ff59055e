/- The walk of param, part 13: one value read by the document's answer. No conditions. -/
import Derived.Test.YtmaenhgipojmfaaGreatDoorBN
set_option linter.unusedVariables false
set_option linter.unusedSimpArgs false
namespace Go.Vs.U8
end Go.Vs.U8
namespace Go.Vs.Pa
end Go.Vs.Pa
namespace Go.Vs.YtmaenhgipojmfaaGreatDoor
set_option linter.unusedSimpArgs false
set_option linter.unusedVariables false
open Go.Proofs Go.Vs.U8 Go.Vs.Pa
set_option maxRecDepth 100000
set_option maxHeartbeats 8000000
def cf:Got→IV
 | .no e p=>.tuple [.str [],.int .i64 p,.int .i64 e]
 | .ok v n=>.tuple [.str v,.int .i64 n,.int .i64 0]
theorem B9 (s:Str) (a:Nat) (ha:a≤s.length) (hs:s.length < 100000):Fn G Tryz.prog lB [.str s,.int .i64 a] (cf (bE s a)):=by
 refine ac hm yj (by simp) ?_
 simp[qN,qO]
 by_cases h0:s[a]?=some 34
 ·obtain ⟨hal,hae⟩:=List.getElem?_eq_some_iff.1 h0
  have hrl:=pd fP (s.drop (a+1))
  rw[List.length_drop] at hrl
  obtain ⟨t,ht⟩:∃ t,run fP (s.drop (a+1))=t:=⟨_,rfl⟩
  have hv:bE s a=if t=s.length-(a+1) then .no 3 s.length else match checked ((s.drop (a+1)).take t) a (a+1) with
   | .no e p=>.no e p
   | .ok v _=>if dr s (a+t+2) then .ok v (a+t+2) else .no 4 (a+t+2:Nat):=by
   simp only[bE,if_pos h0,ht,List.length_drop]
   rfl
  rw[ht] at hrl
  simp (disch:=omega) [wl,hae]
  refine aA hm [] (fun k:Nat=>[(7,.val (.int .i64 ((a:Int)+1))),(8,.val (.int .i64 k))]) (fun k=>[]) (fun k=>k≤s.length∧a+1≤k∧k+run fP (s.drop k)=a+1+t) (fun k=>s.length-k) (a+1) ⟨by omega,by omega,by omega⟩ ?_ ?_
  ·simp
   exact aQ
  rintro k ⟨hk,hak,hrk⟩
  simp
  by_cases h:k < s.length
  ·obtain ⟨c,hc⟩:∃ c,s[k]=c:=⟨_,rfl⟩
   rw[FP h hc] at hrk
   by_cases hq:c.toNat=34
   ·have hn:fP c=false:=by simp[fP,hq]
    rw[hn] at hrk
    have hkt:k=a+1+t:=by simpa using hrk
    rw[if_neg (by omega)] at hv
    have hraw:List.drop (a+1) (List.take k s)=(s.drop (a+1)).take t:=by rw[List.drop_take,hkt,show a+1+t-(a+1)=t by omega]
    obtain ⟨raw,hr⟩:∃ raw,(s.drop (a+1)).take t=raw:=⟨_,rfl⟩
    have hrawl:raw.length < 100000:=by rw[←hr];simp;omega
    rw[hr] at hv hraw
    have hO:=jE raw (by omega)
    have hM:=pZ raw (by omega)
    have hml:=fk _ raw (Nat.le_refl _)
    simp (disch:=omega) [wl,hc,hq]
    refine ⟨⟨by omega,by omega,by omega⟩,?_⟩
    rw[hraw]
    refine a7 hO ?_
    cases ho:fp raw with
    | some j=>
     have hcq:checked raw a (a+1)=.no 10 ((a+1:Nat)+j):=by simp[checked,ho]
     rw[hcq] at hv
     have hjl:=ji _ raw (Nat.le_refl _) j ho
     rw[hv]
     simp (disch:=omega) [wl,eN,cf]
     try omega
    | none=>
     simp (disch:=omega) [wl,eN]
     try refine ⟨⟨by omega,by omega,by omega⟩,?_⟩
     try rw[hraw]
     refine a7 hM ?_
     by_cases h6:60 < (aK raw).length
     ·have hcq:checked raw a (a+1)=.no 5 a:=by simp[checked,ho,h6]
      rw[hcq] at hv
      rw[hv]
      simp (disch:=omega) [wl,cf]
     ·have hcq:checked raw a (a+1)=.ok (aK raw) 0:=by simp[checked,ho,h6]
      rw[hcq] at hv
      simp only at hv
      rw[show a+t+2=k+1 by omega] at hv
      have hi0:(0:Int)≤(k:Int)+1:=by omega
      by_cases h7:k+1 < s.length
      ·obtain ⟨d,hd⟩:∃ d,s[k+1]=d:=⟨_,rfl⟩
       have hst:dr s (k+1)=ix d:=by simp[dr,List.getElem?_eq_getElem h7,hd]
       rw[hst] at hv
       rcases ve d with h8 | h8 | h8 | h8
       ·rw[h8.2,if_pos rfl] at hv
        rw[hv]
        simp (disch:=omega) [wl,cf,hd,hi0]
       ·rw[h8.2.2,if_pos rfl] at hv
        rw[hv]
        simp (disch:=omega) [wl,cf,hd,hi0]
       ·rw[h8.2.2.2,if_pos rfl] at hv
        rw[hv]
        simp (disch:=omega) [wl,cf,hd,hi0]
       ·rw[h8.2.2.2,if_neg (by simp)] at hv
        rw[hv]
        simp (disch:=omega) [wl,cf,hd,hi0]
      ·have hst:dr s (k+1)=true:=by simp[dr,List.getElem?_eq_none (show s.length≤k+1 by omega)]
       rw[hst,if_pos rfl] at hv
       rw[hv]
       simp (disch:=omega) [wl,cf,hi0]
   ·have hn:fP c=true:=by simp[fP,hq]
    rw[hn] at hrk
    simp (disch:=omega) [wl,hc,hq]
    refine ae (k+1) ⟨by omega,by omega,by simp at hrk;omega⟩ (by omega) ?_
    simp
    exact aQ
  ·obtain rfl:k=s.length:=by omega
   have hd:s.drop s.length=[]:=List.drop_length
   rw[hd] at hrk
   simp[run] at hrk
   rw[if_pos (by omega)] at hv
   rw[hv]
   simp (disch:=omega) [wl,cf]
 ·have hv:bE s a=if s[a+run plain (s.drop a)]?=some 34 then .no 4 (a+run plain (s.drop a):Nat) else match checked ((s.drop a).take (run plain (s.drop a))) a a with
   | .no e p=>.no e p
   | .ok v _=>.ok v (a+run plain (s.drop a)):=by
   simp only[bE,if_neg h0]
   rfl
  have hrl:=pd plain (s.drop a)
  rw[List.length_drop] at hrl
  obtain ⟨t,ht⟩:∃ t,run plain (s.drop a)=t:=⟨_,rfl⟩
  rw[ht] at hrl hv
  have first:∀ c,s[a]?=some c→c.toNat≠34:=by
   intro c hc e
   exact h0 (by rw[hc,UInt8.toNat_inj.1 (show c.toNat=(34:UInt8).toNat from e)])
  by_cases hal:a < s.length
  ·obtain ⟨c0,hc0⟩:∃ c,s[a]=c:=⟨_,rfl⟩
   have hc0':=first c0 (by rw[List.getElem?_eq_getElem hal,hc0])
   simp (disch:=omega) [wl,hc0]
   refine aA hm [] (fun k:Nat=>[(8,.val (.int .i64 k))]) (fun k=>[]) (fun k=>k≤s.length∧a≤k∧k+run plain (s.drop k)=a+t) (fun k=>s.length-k) a ⟨by omega,by omega,by omega⟩ ?_ ?_
   ·simp
    exact aQ
   rintro k ⟨hk,hak,hrk⟩
   simp
   by_cases h:k < s.length
   ·obtain ⟨c,hc⟩:∃ c,s[k]=c:=⟨_,rfl⟩
    have hc':s[k]?=some c:=by rw[List.getElem?_eq_getElem h,hc]
    rw[FP h hc] at hrk
    rcases ve c with h8 | h8 | h8 | h8
    ·have hp:plain c=false:=by simp[plain,h8.2]
     rw[hp] at hrk
     have hkt:k=a+t:=by simpa using hrk
     have hnn:¬s[a+t]?=some 34:=by
      rw[←hkt,hc']
      intro e
      have e2:c=34:=Option.some.inj e
      have e3:c.toNat=34:=by rw[e2];rfl
      omega
     rw[if_neg hnn] at hv
     have hraw:List.drop a (List.take k s)=(s.drop a).take t:=by rw[List.drop_take,hkt,show a+t-a=t by omega]
     obtain ⟨raw,hr⟩:∃ raw,(s.drop a).take t=raw:=⟨_,rfl⟩
     have hrawl:raw.length < 100000:=by rw[←hr];simp;omega
     rw[hr] at hv hraw
     have hO:=jE raw (by omega)
     have hM:=pZ raw (by omega)
     have hml:=fk _ raw (Nat.le_refl _)
     simp (disch:=omega) [wl,hc]
     try refine ⟨⟨by omega,by omega⟩,?_⟩
     rw[hraw]
     refine a7 hO ?_
     cases ho:fp raw with
     | some j=>
      have hcq:checked raw a a=.no 10 ((a:Nat)+j):=by simp[checked,ho]
      rw[hcq] at hv
      have hjl:=ji _ raw (Nat.le_refl _) j ho
      rw[hv]
      simp (disch:=omega) [wl,eN,cf]
     | none=>
      simp (disch:=omega) [wl,eN]
      try refine ⟨⟨by omega,by omega⟩,?_⟩
      try rw[hraw]
      refine a7 hM ?_
      by_cases h6:60 < (aK raw).length
      ·have hcq:checked raw a a=.no 5 a:=by simp[checked,ho,h6]
       rw[hcq] at hv
       rw[hv]
       simp (disch:=omega) [wl,cf]
      ·have hcq:checked raw a a=.ok (aK raw) 0:=by simp[checked,ho,h6]
       rw[hcq] at hv
       rw[hv]
       simp (disch:=omega) [wl,cf,hkt]
    ·have hp:plain c=false:=by simp[plain,h8.2.2]
     rw[hp] at hrk
     have hkt:k=a+t:=by simpa using hrk
     have hnn:¬s[a+t]?=some 34:=by
      rw[←hkt,hc']
      intro e
      have e2:c=34:=Option.some.inj e
      have e3:c.toNat=34:=by rw[e2];rfl
      omega
     rw[if_neg hnn] at hv
     have hraw:List.drop a (List.take k s)=(s.drop a).take t:=by rw[List.drop_take,hkt,show a+t-a=t by omega]
     obtain ⟨raw,hr⟩:∃ raw,(s.drop a).take t=raw:=⟨_,rfl⟩
     have hrawl:raw.length < 100000:=by rw[←hr];simp;omega
     rw[hr] at hv hraw
     have hO:=jE raw (by omega)
     have hM:=pZ raw (by omega)
     have hml:=fk _ raw (Nat.le_refl _)
     simp (disch:=omega) [wl,hc]
     try refine ⟨⟨by omega,by omega⟩,?_⟩
     rw[hraw]
     refine a7 hO ?_
     cases ho:fp raw with
     | some j=>
      have hcq:checked raw a a=.no 10 ((a:Nat)+j):=by simp[checked,ho]
      rw[hcq] at hv
      have hjl:=ji _ raw (Nat.le_refl _) j ho
      rw[hv]
      simp (disch:=omega) [wl,eN,cf]
     | none=>
      simp (disch:=omega) [wl,eN]
      try refine ⟨⟨by omega,by omega⟩,?_⟩
      try rw[hraw]
      refine a7 hM ?_
      by_cases h6:60 < (aK raw).length
      ·have hcq:checked raw a a=.no 5 a:=by simp[checked,ho,h6]
       rw[hcq] at hv
       rw[hv]
       simp (disch:=omega) [wl,cf]
      ·have hcq:checked raw a a=.ok (aK raw) 0:=by simp[checked,ho,h6]
       rw[hcq] at hv
       rw[hv]
       simp (disch:=omega) [wl,cf,hkt]
    ·have hp:plain c=false:=by simp[plain,h8.2.2.2]
     rw[hp] at hrk
     have hkt:k=a+t:=by simpa using hrk
     have hnn:¬s[a+t]?=some 34:=by
      rw[←hkt,hc']
      intro e
      have e2:c=34:=Option.some.inj e
      have e3:c.toNat=34:=by rw[e2];rfl
      omega
     rw[if_neg hnn] at hv
     have hraw:List.drop a (List.take k s)=(s.drop a).take t:=by rw[List.drop_take,hkt,show a+t-a=t by omega]
     obtain ⟨raw,hr⟩:∃ raw,(s.drop a).take t=raw:=⟨_,rfl⟩
     have hrawl:raw.length < 100000:=by rw[←hr];simp;omega
     rw[hr] at hv hraw
     have hO:=jE raw (by omega)
     have hM:=pZ raw (by omega)
     have hml:=fk _ raw (Nat.le_refl _)
     simp (disch:=omega) [wl,hc]
     try refine ⟨⟨by omega,by omega⟩,?_⟩
     rw[hraw]
     refine a7 hO ?_
     cases ho:fp raw with
     | some j=>
      have hcq:checked raw a a=.no 10 ((a:Nat)+j):=by simp[checked,ho]
      rw[hcq] at hv
      have hjl:=ji _ raw (Nat.le_refl _) j ho
      rw[hv]
      simp (disch:=omega) [wl,eN,cf]
     | none=>
      simp (disch:=omega) [wl,eN]
      try refine ⟨⟨by omega,by omega⟩,?_⟩
      try rw[hraw]
      refine a7 hM ?_
      by_cases h6:60 < (aK raw).length
      ·have hcq:checked raw a a=.no 5 a:=by simp[checked,ho,h6]
       rw[hcq] at hv
       rw[hv]
       simp (disch:=omega) [wl,cf]
      ·have hcq:checked raw a a=.ok (aK raw) 0:=by simp[checked,ho,h6]
       rw[hcq] at hv
       rw[hv]
       simp (disch:=omega) [wl,cf,hkt]
    ·by_cases hq:c.toNat=34
     ·have hp:plain c=false:=by simp[plain,fP,hq]
      rw[hp] at hrk
      have hkt:k=a+t:=by simpa using hrk
      rw[if_pos (by rw[←hkt,hc',UInt8.toNat_inj.1 (show c.toNat=(34:UInt8).toNat from hq)])] at hv
      rw[hv,←hkt]
      simp (disch:=omega) [wl,hc,cf]
     ·have hp:plain c=true:=by simp[plain,fP,hq,h8.2.2.2]
      rw[hp] at hrk
      simp (disch:=omega) [wl,hc]
      refine ae (k+1) ⟨by omega,by omega,by simp at hrk;omega⟩ (by omega) ?_
      simp
      exact aQ
   ·obtain ⟨n,hn⟩:∃ n,n=s.length:=⟨_,rfl⟩
    have hkl:k=s.length:=by omega
    have hd:s.drop k=[]:=List.drop_eq_nil_of_le (by omega)
    rw[hd] at hrk
    simp only[run] at hrk
    have hkt:k=a+t:=by simpa using hrk
    have hnn:¬s[a+t]?=some 34:=by
     rw[←hkt,List.getElem?_eq_none (by omega)]
     intro e
     cases e
    rw[if_neg hnn] at hv
    have hraw:List.drop a (List.take k s)=(s.drop a).take t:=by rw[List.drop_take,hkt,show a+t-a=t by omega]
    obtain ⟨raw,hr⟩:∃ raw,(s.drop a).take t=raw:=⟨_,rfl⟩
    have hrawl:raw.length < 100000:=by rw[←hr];simp;omega
    rw[hr] at hv hraw
    have hO:=jE raw (by omega)
    have hM:=pZ raw (by omega)
    have hml:=fk _ raw (Nat.le_refl _)
    simp (disch:=omega) [wl]
    try refine ⟨⟨by omega,by omega⟩,?_⟩
    rw[hraw]
    refine a7 hO ?_
    cases ho:fp raw with
    | some j=>
     have hcq:checked raw a a=.no 10 ((a:Nat)+j):=by simp[checked,ho]
     rw[hcq] at hv
     have hjl:=ji _ raw (Nat.le_refl _) j ho
     rw[hv]
     simp (disch:=omega) [wl,eN,cf]
    | none=>
     simp (disch:=omega) [wl,eN]
     try refine ⟨⟨by omega,by omega⟩,?_⟩
     try rw[hraw]
     refine a7 hM ?_
     by_cases h6:60 < (aK raw).length
     ·have hcq:checked raw a a=.no 5 a:=by simp[checked,ho,h6]
      rw[hcq] at hv
      rw[hv]
      simp (disch:=omega) [wl,cf]
     ·have hcq:checked raw a a=.ok (aK raw) 0:=by simp[checked,ho,h6]
      rw[hcq] at hv
      rw[hv]
      simp (disch:=omega) [wl,cf,hkt]
  ·simp (disch:=omega) [wl]
   refine aA hm [] (fun k:Nat=>[(8,.val (.int .i64 k))]) (fun k=>[]) (fun k=>k≤s.length∧a≤k∧k+run plain (s.drop k)=a+t) (fun k=>s.length-k) a ⟨by omega,by omega,by omega⟩ ?_ ?_
   ·simp
    exact aQ
   rintro k ⟨hk,hak,hrk⟩
   simp
   by_cases h:k < s.length
   ·exfalso
    omega
   ·obtain ⟨n,hn⟩:∃ n,n=s.length:=⟨_,rfl⟩
    have hkl:k=s.length:=by omega
    have hd:s.drop k=[]:=List.drop_eq_nil_of_le (by omega)
    rw[hd] at hrk
    simp only[run] at hrk
    have hkt:k=a+t:=by simpa using hrk
    have hnn:¬s[a+t]?=some 34:=by
     rw[←hkt,List.getElem?_eq_none (by omega)]
     intro e
     cases e
    rw[if_neg hnn] at hv
    have hraw:List.drop a (List.take k s)=(s.drop a).take t:=by rw[List.drop_take,hkt,show a+t-a=t by omega]
    obtain ⟨raw,hr⟩:∃ raw,(s.drop a).take t=raw:=⟨_,rfl⟩
    have hrawl:raw.length < 100000:=by rw[←hr];simp;omega
    rw[hr] at hv hraw
    have hO:=jE raw (by omega)
    have hM:=pZ raw (by omega)
    have hml:=fk _ raw (Nat.le_refl _)
    simp (disch:=omega) [wl]
    try refine ⟨⟨by omega,by omega⟩,?_⟩
    rw[hraw]
    refine a7 hO ?_
    cases ho:fp raw with
    | some j=>
     have hcq:checked raw a a=.no 10 ((a:Nat)+j):=by simp[checked,ho]
     rw[hcq] at hv
     have hjl:=ji _ raw (Nat.le_refl _) j ho
     rw[hv]
     simp (disch:=omega) [wl,eN,cf]
    | none=>
     simp (disch:=omega) [wl,eN]
     try refine ⟨⟨by omega,by omega⟩,?_⟩
     try rw[hraw]
     refine a7 hM ?_
     by_cases h6:60 < (aK raw).length
     ·have hcq:checked raw a a=.no 5 a:=by simp[checked,ho,h6]
      rw[hcq] at hv
      rw[hv]
      simp (disch:=omega) [wl,cf]
     ·have hcq:checked raw a a=.ok (aK raw) 0:=by simp[checked,ho,h6]
      rw[hcq] at hv
      rw[hv]
      simp (disch:=omega) [wl,cf,hkt]
end Go.Vs.YtmaenhgipojmfaaGreatDoor
