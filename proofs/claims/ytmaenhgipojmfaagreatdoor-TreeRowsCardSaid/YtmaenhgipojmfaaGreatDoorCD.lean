/- The walk of line, part 5: lines read. No conditions. -/
import Derived.Test.YtmaenhgipojmfaaGreatDoorCC
import Derived.Test.YtmaenhgipojmfaaGreatDoorBP
set_option linter.unusedVariables false
set_option linter.unusedSimpArgs false
namespace Go.Vs.U8
end Go.Vs.U8
namespace Go.Vs.Pa
end Go.Vs.Pa
namespace Go.Vs.YtmaenhgipojmfaaGreatDoor
set_option linter.unusedSimpArgs false
set_option linter.unusedVariables false
open Go.Proofs Go.Vs.U8 Go.Vs.Pa
set_option maxRecDepth 100000
set_option maxHeartbeats 8000000
theorem Bh (c:UInt8):ax (upper [c])=vd c:=by
 have h:=Cm c
 show (decide (1≤(upper [c]).length)&&decide ((upper [c]).length≤24)&&(upper [c]).all vX)=vd c
 have e:upper [c]=[Pa.upB c]:=rfl
 rw[e]
 simp[h]
theorem LY (s:Str) (hs:s.length < 1000000):Fn G Tryz.prog pk [.str s] (.int .i64 (named s)):=by
 refine ac hm CA (by simp) ?_
 simp[wa,wb]
 refine aA hm [] (fun k:Nat=>[(6,.val (.int .i64 k))]) (fun _=>[]) (fun k=>k≤s.length∧k+named (s.drop k)=named s) (fun k=>s.length-k) 0 ⟨by omega,by simp⟩ ?_ ?_
 ·simp
  exact aQ
 rintro k ⟨hk,hkn⟩
 simp
 by_cases h:k < s.length
 ·obtain ⟨c,hc⟩:∃ c,s[k]=c:=⟨_,rfl⟩
  have hU:=m5 [c] (by simp)
  have hN:=tI (upper [c]) (by simp[upper])
  rw[Bh] at hN
  rw[yB h hc] at hkn
  simp (disch:=omega) [wl]
  try refine ⟨by omega,?_⟩
  rw[p8 h hc]
  refine a7 hU ?_
  simp
  refine a7 hN ?_
  cases hn:vd c with
  | true=>
   rw[hn] at hkn
   simp (disch:=omega) [wl]
   refine ae (k+1) ⟨by omega,by simp at hkn;omega⟩ (by omega) ?_
   simp
   exact aQ
  | false=>
   rw[hn] at hkn
   have:named s=k:=by simp at hkn;omega
   rw[this]
   simp (disch:=omega) [wl]
 ·have hd:s.drop k=[]:=List.drop_eq_nil_of_le (by omega)
  rw[hd] at hkn
  have:named s=s.length:=by simp[named] at hkn;omega
  rw[this]
  simp (disch:=omega) [wl]
theorem Kg (e:Int) (p:Int) (ps:List Int) (a:Int):Fn G Tryz.prog nD [cl e (p::ps),.int .i64 a] (cl e (a::p::ps)):=by
 refine ac hm A4 (by simp) ?_
 have hA:=uY .nilp [.int .i64 p,cl e ps]
 have hI:=Mr e (p::ps) a
 obtain ⟨t,v,hv⟩:=aV e ps
 simp[u4,u5]
 simp only[cl] at hI ⊢
 refine callM [(1000,5)] [] hA rfl rfl ⟨rfl,trivial⟩ ⟨[],[],rfl,⟨rfl,rfl⟩,rfl⟩ rfl ?_
 simp (disch:=omega) [wl]
 refine a7 hI ?_
 simp (disch:=omega) [wl]
 rfl
inductive GotX where
 | no (e:Int) (ps:List Int)
 | ok (x:Ln)
def c9 (s:Str):GotX:=
 let k:=named s
 if k=0∨24 < k then .no 4 [0]
 else match br (s.drop k) 6 0 [] with
 | .no e p=>.no e [(k:Int),p]
 | .ok l n=>
  if s[k+n]?=some 58 then
   if 200 < (s.drop (k+n+1)).length then .no 5 [((k+n+1:Nat):Int)]
   else match fp (s.drop (k+n+1)) with
    | some i=>.no 10 [((k+n+1+i:Nat):Int)]
    | none=>.ok ⟨upper (s.take k),l,s.drop (k+n+1)⟩
  else .no 4 [((k+n:Nat):Int)]
def A8:Ln:=⟨[],[],[]⟩
def pm:GotX→IV
 | .no e ps=>.tuple [A8.iv,cl e ps]
 | .ok x=>.tuple [x.iv,.nili]
def pn:GotX→IV
 | .no e ps=>.tuple [A8.iv,.int .i64 e,.int .i64 ps.sum]
 | .ok x=>.tuple [x.iv,.int .i64 0,.int .i64 0]
theorem I5 (s:Str) (hs:s.length < 100000):Fn G Tryz.prog nz [.str s] (pm (c9 s)):=by
 refine ac hm A0 (by simp) ?_
 have hH:=LY s (by omega)
 obtain ⟨k,hk⟩:∃ k,named s=k:=⟨_,rfl⟩
 have hkl:=iY s
 rw[hk] at hkl hH
 simp[tT,tU]
 refine a7 hH ?_
 by_cases h1:k=0∨24 < k
 ·have hR:c9 s=.no 4 [0]:=by simp only[c9,hk,if_pos h1]
  have hE:=dF 4 0
  rw[if_neg (by omega)] at hE
  rw[hR]
  rcases h1 with h1 | h1
  ·simp (disch:=omega) [wl,h1]
   refine a7 hE ?_
   simp[pm,A8,Ln.iv,ps]
  ·simp (disch:=omega) [wl]
   refine a7 hE ?_
   simp[pm,A8,Ln.iv,ps]
 ·have hP:=Kb (s.drop k) (by simp;omega)
  simp (disch:=omega) [wl]
  try refine ⟨by omega,?_⟩
  refine a7 hP ?_
  cases hp:br (s.drop k) 6 0 [] with
  | no e p=>
   have hR:c9 s=.no e [(k:Int),p]:=by simp only[c9,hk,if_neg h1,hp]
   have hM:=Kg e p [] k
   rw[hR]
   obtain ⟨et,ev,he⟩:=aV e [p]
   rw[he] at hM
   simp[lI,he]
   refine a7 hM ?_
   simp[pm,A8,Ln.iv,ps]
  | ok l n=>
   obtain ⟨h2,h3,h4⟩:=qc (s.drop k) 6 0 [] l n (by omega) (by intro p hp;simp at hp) hp
   rw[List.length_drop] at h2
   have e0:(0:Int)≤(k:Int)+n:=by omega
   have e1:((k:Int)+n).toNat=k+n:=by omega
   have e2:((k:Int)+n+1).toNat=k+n+1:=by omega
   by_cases h5:s[k+n]?=some 58
   ·obtain ⟨h6,h7⟩:=List.getElem?_eq_some_iff.1 h5
    by_cases h8:200 < (s.drop (k+n+1)).length
    ·have hR:c9 s=.no 5 [((k+n+1:Nat):Int)]:=by simp only[c9,hk,if_neg h1,hp,if_pos h5,if_pos h8]
     have hE:=dF 5 ((k:Int)+n+1)
     rw[if_neg (by omega)] at hE
     rw[List.length_drop] at h8
     rw[hR]
     simp (disch:=omega) [wl,lI,e0,e1,e2,h7]
     try refine ⟨by omega,?_⟩
     try simp (disch:=omega) [wl]
     refine a7 hE ?_
     simp[pm,A8,Ln.iv,ps]
    ·have hO:=Ci (s.drop (k+n+1)) (by simp;omega)
     have h8':=h8
     rw[List.length_drop] at h8'
     simp (disch:=omega) [wl,lI,e0,e1,e2,h7]
     try refine ⟨by omega,?_⟩
     try simp (disch:=omega) [wl]
     refine a7 hO ?_
     cases ho:fp (s.drop (k+n+1)) with
     | some i=>
      have hil:=ji _ _ (Nat.le_refl _) i ho
      rw[List.length_drop] at hil
      have hR:c9 s=.no 10 [((k+n+1+i:Nat):Int)]:=by simp only[c9,hk,if_neg h1,hp,if_pos h5,if_neg h8,ho]
      have hE:=dF 10 ((k:Int)+n+1+i)
      rw[if_neg (by omega)] at hE
      rw[hR]
      simp (disch:=omega) [wl,eN]
      refine a7 hE ?_
      simp[pm,A8,Ln.iv,ps]
     | none=>
      have hR:c9 s=.ok ⟨upper (s.take k),l,s.drop (k+n+1)⟩:=by simp only[c9,hk,if_neg h1,hp,if_pos h5,if_neg h8,ho]
      have hU:=m5 (s.take k) (by simp;omega)
      rw[hR]
      simp (disch:=omega) [wl,eN]
      try refine ⟨by omega,?_⟩
      refine a7 hU ?_
      simp[pm,Ln.iv]
   ·have hR:c9 s=.no 4 [((k+n:Nat):Int)]:=by simp only[c9,hk,if_neg h1,hp,if_neg h5]
    have hE:=dF 4 ((k:Int)+n)
    rw[if_neg (by omega)] at hE
    rw[hR]
    by_cases h6:k+n < s.length
    ·obtain ⟨c,hc⟩:∃ c,s[k+n]=c:=⟨_,rfl⟩
     have hcn:c.toNat≠58:=fun e=>h5 (by rw[List.getElem?_eq_getElem h6,hc,UInt8.toNat_inj.1 (show c.toNat=(58:UInt8).toNat from e)])
     simp (disch:=omega) [wl,lI,e0,e1,hc]
     refine a7 hE ?_
     simp[pm,A8,Ln.iv,ps]
    ·simp (disch:=omega) [wl,lI]
     refine a7 hE ?_
     simp[pm,A8,Ln.iv,ps]
theorem FX (s:Str) (hs:s.length < 100000):Fn G Tryz.prog lJ [.str s] (pn (c9 s)):=by
 refine ac hm yH (by simp) ?_
 obtain ⟨k,hk⟩:∃ k,named s=k:=⟨_,rfl⟩
 have hkl:=iY s
 rw[hk] at hkl
 simp[rc,re]
 refine FD hm [] [] (fun i:Nat=>[(5,.val (.int .i64 i))]) (fun _=>[]) (fun i=>i=k) ?_ ?_
 ·simp
  refine aA hm [] (fun i:Nat=>[(5,.val (.int .i64 i))]) (fun _=>[]) (fun i=>i≤s.length∧i+named (s.drop i)=k) (fun i=>s.length-i) 0 ⟨by omega,by simp[hk]⟩ ?_ ?_
  ·simp
   exact aQ
  rintro i ⟨hi,hin⟩
  simp
  by_cases h:i < s.length
  ·obtain ⟨c,hc⟩:∃ c,s[i]=c:=⟨_,rfl⟩
   have hU:=m6 [c] (by simp)
   have hN:=p7 (upper [c]) (by simp[upper])
   rw[Bh] at hN
   rw[yB h hc] at hin
   simp (disch:=omega) [wl]
   try refine ⟨by omega,?_⟩
   rw[p8 h hc]
   refine a7 hU ?_
   simp
   refine a7 hN ?_
   cases hn:vd c with
   | true=>
    rw[hn] at hin
    simp (disch:=omega) [wl]
    refine ae (i+1) ⟨by omega,by simp at hin;omega⟩ (by omega) ?_
    simp
    exact aQ
   | false=>
    rw[hn] at hin
    simp (disch:=omega) [wl]
    refine eA i (by simp at hin;omega) ?_
    simp
    exact aQ
  ·have hd:s.drop i=[]:=List.drop_eq_nil_of_le (by omega)
   rw[hd] at hin
   simp (disch:=omega) [wl]
   refine eA i (by simp[named] at hin;omega) ?_
   simp
   exact aQ
 rintro i rfl
 simp
 by_cases h1:i=0∨24 < i
 ·have hR:c9 s=.no 4 [0]:=by simp only[c9,hk,if_pos h1]
  rw[hR]
  rcases h1 with h1 | h1
  ·simp (disch:=omega) [wl,h1]
   simp[pn,A8,Ln.iv,ps]
  ·simp (disch:=omega) [wl]
   simp[pn,A8,Ln.iv,ps]
 ·have hP:=I2 (s.drop i) (by simp;omega)
  simp (disch:=omega) [wl]
  try refine ⟨by omega,?_⟩
  refine a7 hP ?_
  cases hp:br (s.drop i) 6 0 [] with
  | no e p=>
   obtain ⟨q1,q2,q3⟩:=vm (s.drop i) 6 0 [] e p (by omega) hp
   rw[List.length_drop] at q3
   have hR:c9 s=.no e [(i:Int),p]:=by simp only[c9,hk,if_neg h1,hp]
   rw[hR]
   simp (disch:=omega) [wl,eQ,q1]
   simp[pn,A8,Ln.iv,ps]
  | ok l n=>
   obtain ⟨h2,h3,h4⟩:=qc (s.drop i) 6 0 [] l n (by omega) (by intro p hp;simp at hp) hp
   rw[List.length_drop] at h2
   have e0:(0:Int)≤(i:Int)+n:=by omega
   have e1:((i:Int)+n).toNat=i+n:=by omega
   have e2:((i:Int)+n+1).toNat=i+n+1:=by omega
   by_cases h5:s[i+n]?=some 58
   ·obtain ⟨h6,h7⟩:=List.getElem?_eq_some_iff.1 h5
    by_cases h8:200 < (s.drop (i+n+1)).length
    ·have hR:c9 s=.no 5 [((i+n+1:Nat):Int)]:=by simp only[c9,hk,if_neg h1,hp,if_pos h5,if_pos h8]
     rw[List.length_drop] at h8
     rw[hR]
     simp (disch:=omega) [wl,eQ,e0,e1,e2,h7]
     try refine ⟨by omega,?_⟩
     try simp (disch:=omega) [wl]
     simp[pn,A8,Ln.iv,ps]
    ·have hO:=jE (s.drop (i+n+1)) (by simp;omega)
     have h8':=h8
     rw[List.length_drop] at h8'
     simp (disch:=omega) [wl,eQ,e0,e1,e2,h7]
     try refine ⟨by omega,?_⟩
     try simp (disch:=omega) [wl]
     refine a7 hO ?_
     cases ho:fp (s.drop (i+n+1)) with
     | some j=>
      have hil:=ji _ _ (Nat.le_refl _) j ho
      rw[List.length_drop] at hil
      have hR:c9 s=.no 10 [((i+n+1+j:Nat):Int)]:=by simp only[c9,hk,if_neg h1,hp,if_pos h5,if_neg h8,ho]
      rw[hR]
      simp (disch:=omega) [wl,eN]
      simp[pn,A8,Ln.iv,ps]
     | none=>
      have hR:c9 s=.ok ⟨upper (s.take i),l,s.drop (i+n+1)⟩:=by simp only[c9,hk,if_neg h1,hp,if_pos h5,if_neg h8,ho]
      have hU:=m6 (s.take i) (by simp;omega)
      rw[hR]
      simp (disch:=omega) [wl,eN]
      try refine ⟨by omega,?_⟩
      refine a7 hU ?_
      simp[pn,Ln.iv]
   ·have hR:c9 s=.no 4 [((i+n:Nat):Int)]:=by simp only[c9,hk,if_neg h1,hp,if_neg h5]
    rw[hR]
    by_cases h6:i+n < s.length
    ·obtain ⟨c,hc⟩:∃ c,s[i+n]=c:=⟨_,rfl⟩
     have hcn:c.toNat≠58:=fun e=>h5 (by rw[List.getElem?_eq_getElem h6,hc,UInt8.toNat_inj.1 (show c.toNat=(58:UInt8).toNat from e)])
     simp (disch:=omega) [wl,eQ,e0,e1,hc]
     simp[pn,A8,Ln.iv,ps]
    ·simp (disch:=omega) [wl,eQ]
     simp[pn,A8,Ln.iv,ps]
end Go.Vs.YtmaenhgipojmfaaGreatDoor
