/- The walk of param, part 12: one value read. No conditions. -/
import Derived.Test.YtmaenhgipojmfaaGreatDoorBM
set_option linter.unusedVariables false
set_option linter.unusedSimpArgs false
namespace Go.Vs.U8
end Go.Vs.U8
namespace Go.Vs.Pa
end Go.Vs.Pa
namespace Go.Vs.YtmaenhgipojmfaaGreatDoor
set_option linter.unusedSimpArgs false
set_option linter.unusedVariables false
open Go.Proofs Go.Vs.U8 Go.Vs.Pa
set_option maxRecDepth 100000
set_option maxHeartbeats 4000000
def run (p:UInt8→Bool):Str→Nat
 | []=>0
 | c::r=>if p c then run p r+1 else 0
theorem pd (p:UInt8→Bool) (s:Str):run p s≤s.length:=by
 induction s with
 | nil=>simp[run]
 | cons c r ih=>simp only[run];split <;> simp <;> omega
theorem FP {p:UInt8→Bool} {s:Str} {k:Nat} {c:UInt8} (h:k < s.length) (hc:s[k]=c):run p (s.drop k)=if p c then run p (s.drop (k+1))+1 else 0:=by
 rw[List.drop_eq_getElem_cons h,hc];rfl
def fP (c:UInt8):Bool:=decide (c.toNat≠34)
def plain (c:UInt8):Bool:=!ix c&&fP c
theorem K9 (r:Str):(jb r 34 = -1∧run fP r=r.length)∨(jb r 34=run fP r∧run fP r < r.length):=by
 induction r with
 | nil=>left;exact ⟨rfl,rfl⟩
 | cons c r ih=>
  by_cases h:c.toNat=34
  ·have hc:c=34:=UInt8.toNat_inj.1 h
   right
   subst hc
   have:jb (34::r) 34=0:=sZ (i:=0) rfl (by simp)
   rw[this]
   simp[run,fP]
  ·have hn:fP c=true:=by simp[fP,h]
   have hc:c≠34:=fun e=>h (by rw[e];rfl)
   have hr:run fP (c::r)=run fP r+1:=by simp[run,hn]
   rw[hr]
   rcases kq r 34 with ⟨h1,h2⟩ | ⟨i,h1,h2,h3⟩
   ·have e:jb (c::r) 34 = -1:=ir (by simp[h2,Ne.symm hc])
    rw[h1] at ih
    rcases ih with ih | ih
    ·left;rw[e];exact ⟨rfl,by rw[ih.2];rfl⟩
    ·omega
   ·have e:jb (c::r) 34=((i+1:Nat):Int):=sZ (by simpa using h2) (by simp[Ne.symm hc,h3])
    rw[h1] at ih
    rcases ih with ih | ih
    ·omega
    ·right;rw[e];refine ⟨by omega,by simp;omega⟩
def dr (s:Str) (k:Nat):Bool:=match s[k]? with
 | none=>true
 | some c=>ix c
theorem Cu (s:Str) (k:Nat) (hk:k≤s.length) (hs:s.length < 1000000):Fn G Tryz.prog jH [.str s,.int .i64 k] (.bool (dr s k)):=by
 refine ac hm zZ (by simp) ?_
 simp[tG,tH]
 by_cases h:k < s.length
 ·obtain ⟨c,hc⟩:∃ c,s[k]=c:=⟨_,rfl⟩
  have hB:=dg [44,58,59] c
  have hq:=yu c
  have hne:¬(k:Int)=s.length:=by omega
  have hr:dr s k=ix c:=by simp[dr,List.getElem?_eq_getElem h,hc]
  rw[hr]
  have hd:decide (0≤jb [44,58,59] c)=ix c:=by rw[Bool.eq_iff_iff,decide_eq_true_iff,hq]
  simp (disch:=omega) [wl,hc]
  refine a7 hB ?_
  simp[hd]
 ·obtain rfl:k=s.length:=by omega
  have hr:dr s s.length=true:=by simp[dr]
  simp (disch:=omega) [wl,hr]
theorem ji:∀ (n:Nat) (l:Str),l.length≤n→∀ k,fp l=some k→k < l.length
 | _,[],_,k,h=>by simp at h
 | 0,c::r,hn,_,_=>by simp at hn
 | n+1,c::r,hn,k,h=>by
  rw[kp (by simp)] at h
  split at h
  ·cases h;simp
  ·next ho=>
   have h1:=ko (l:=c::r) (by simpa using ho) (by simp)
   have h2:=m4 (c::r)
   obtain ⟨j,hj,rfl⟩:=Option.map_eq_some_iff.1 h
   have:=ji n ((c::r).drop (bD (c::r))) (by rw[List.length_drop];omega) j hj
   rw[List.length_drop] at this
   omega
theorem fk:∀ (n:Nat) (s:Str),s.length≤n→(aK s).length≤s.length
 | _,[],_=>by simp[aK]
 | _,[c],_=>by simp[aK]
 | 0,c::d::r,h=>by simp at h
 | n+1,c::d::r,h=>by
  have h1:=fk n r (by simp at h;omega)
  have h2:=fk n (d::r) (by simp at h ⊢;omega)
  simp only[List.length_cons] at h2 ⊢
  simp only[aK]
  repeat' split
  all_goals simp only[List.length_cons];omega
inductive Got where
 | no (e:Int) (p:Int)
 | ok (v:Str) (n:Nat)
def checked (raw:Str) (a f:Nat):Got:=match fp raw with
 | some k=>.no 10 (f+k)
 | none=>if 60 < (aK raw).length then .no 5 a else .ok (aK raw) 0
def mh:Got→IV
 | .no e p=>.tuple [.str [],cl e [p]]
 | .ok v _=>.tuple [.str v,.nili]
theorem yA (raw:Str) (a f:Nat) (hr:raw.length < 1000000) (ha:a < 1000000) (hf:f < 1000000):Fn G Tryz.prog d6 [.str raw,.int .i64 a,.int .i64 f] (mh (checked raw a f)):=by
 refine ac hm v8 (by simp) ?_
 have hml:=fk _ raw (Nat.le_refl _)
 simp[nX,nY]
 refine a7 (Ci raw hr) ?_
 cases ho:fp raw with
 | some k=>
  have hR:checked raw a f=.no 10 (f+k):=by simp[checked,ho]
  have hkl:k < 1000000:=by have:=ji _ raw (Nat.le_refl _) k ho;omega
  have hN:=dF 10 ((f:Int)+k)
  rw[if_neg (by omega)] at hN
  rw[hR]
  simp (disch:=omega) [wl,eN]
  refine a7 hN ?_
  simp[mh]
 | none=>
  simp (disch:=omega) [wl,eN]
  refine a7 (JR raw hr) ?_
  by_cases h6:60 < (aK raw).length
  ·have hR:checked raw a f=.no 5 a:=by simp[checked,ho,h6]
   have hN:=dF 5 (a:Int)
   rw[if_neg (by omega)] at hN
   rw[hR]
   simp (disch:=omega) [wl]
   refine a7 hN ?_
   simp[mh]
  ·have hR:checked raw a f=.ok (aK raw) 0:=by simp[checked,ho,h6]
   rw[hR]
   simp (disch:=omega) [wl,mh]
def bE (s:Str) (a:Nat):Got:=
 if s[a]?=some 34 then
  let t:=run fP (s.drop (a+1))
  if t=(s.drop (a+1)).length then .no 3 s.length
  else match checked ((s.drop (a+1)).take t) a (a+1) with
   | .no e p=>.no e p
   | .ok v _=>if dr s (a+t+2) then .ok v (a+t+2) else .no 4 (a+t+2:Nat)
 else
  let t:=run plain (s.drop a)
  if s[a+t]?=some 34 then .no 4 (a+t:Nat)
  else match checked ((s.drop a).take t) a a with
   | .no e p=>.no e p
   | .ok v _=>.ok v (a+t)
def B8 (g:Got) (r:IV):Prop:=match g with
 | .no e p=>∃ q:Int,r=.tuple [.str [],.int .i64 q,cl e [p]]
 | .ok v n=>r=.tuple [.str v,.int .i64 n,.nili]
theorem I1 (s:Str) (a:Nat) (ha:s[a]?=some 34) (hs:s.length < 100000):∃ r,Fn G Tryz.prog kr [.str s,.int .i64 a] r∧B8 (bE s a) r:=by
 obtain ⟨hal,_⟩:=List.getElem?_eq_some_iff.1 ha
 have hi0:(0:Int)≤(a:Int)+1:=by omega
 have hI:=dg (s.drop (a+1)) 34
 have hrl:=pd fP (s.drop (a+1))
 rcases K9 (s.drop (a+1)) with ⟨h1,h2⟩ | ⟨h1,h2⟩
 ·refine ⟨.tuple [.str [],.int .i64 0,cl 3 [s.length]],?_,?_⟩
  ·refine ac hm gc (by simp) ?_
   have hN:=dF 3 (s.length:Int)
   rw[if_neg (by omega)] at hN
   rw[h1] at hI
   simp[eO,eP]
   simp (disch:=omega) [wl,hi0]
   refine ⟨by omega,?_⟩
   refine a7 hI ?_
   simp (disch:=omega) [wl]
   refine a7 hN ?_
   simp
  ·simp only[bE,if_pos ha,if_pos h2,B8]
   exact ⟨0,rfl⟩
 ·have hv:bE s a=match checked ((s.drop (a+1)).take (run fP (s.drop (a+1)))) a (a+1) with
   | .no e p=>.no e p
   | .ok v _=>if dr s (a+run fP (s.drop (a+1))+2) then .ok v (a+run fP (s.drop (a+1))+2) else .no 4 (a+run fP (s.drop (a+1))+2:Nat):=by
   simp only[bE,if_pos ha,if_neg (Nat.ne_of_lt h2)]
  rw[hv]
  rw[h1] at hI
  obtain ⟨t,ht⟩:∃ t,run fP (s.drop (a+1))=t:=⟨_,rfl⟩
  rw[ht] at hI h2 ⊢
  rw[List.length_drop] at h2
  have hC:=yA ((s.drop (a+1)).take t) a (a+1) (by simp;omega) (by omega) (by omega)
  rw[show ((a+1:Nat):Int)=(a:Int)+1 by omega] at hC
  have hS:=Cu s (a+t+2) (by omega) (by omega)
  rw[show ((a+t+2:Nat):Int)=(a:Int)+t+2 by omega] at hS
  have hbb:(t:Int)≤((s.drop (a+1)).length:Int):=by rw[List.length_drop];omega
  cases hc:checked ((s.drop (a+1)).take t) a (a+1) with
  | no e p=>
   rw[hc] at hC
   refine ⟨.tuple [.str [],.int .i64 0,cl e [p]],?_,0,rfl⟩
   refine ac hm gc (by simp) ?_
   obtain ⟨et,ev,he⟩:=aV e [p]
   simp only[mh,he] at hC
   rw[he]
   simp[eO,eP]
   simp (disch:=omega) [wl,hi0]
   refine ⟨by omega,?_⟩
   refine a7 hI ?_
   simp (disch:=omega) [wl]
   refine ⟨⟨by omega,by omega⟩,by omega,?_⟩
   refine a7 hC ?_
   simp (disch:=omega) [wl]
  | ok v _=>
   rw[hc] at hC
   simp only[mh] at hC
   have hN:=dF 4 ((a:Int)+t+2)
   rw[if_neg (by omega)] at hN
   cases hst:dr s (a+t+2) with
   | true=>
    rw[hst] at hS
    refine ⟨.tuple [.str v,.int .i64 (a+t+2:Nat),.nili],?_,rfl⟩
    refine ac hm gc (by simp) ?_
    simp[eO,eP]
    simp (disch:=omega) [wl,hi0]
    refine ⟨by omega,?_⟩
    refine a7 hI ?_
    simp (disch:=omega) [wl]
    refine ⟨⟨by omega,by omega⟩,by omega,?_⟩
    refine a7 hC ?_
    simp (disch:=omega) [wl]
    refine a7 hS ?_
    simp (disch:=omega) [wl]
   | false=>
    rw[hst] at hS
    refine ⟨.tuple [.str [],.int .i64 0,cl 4 [(a:Int)+t+2]],?_,0,by rw[show ((a+t+2:Nat):Int)=(a:Int)+t+2 by omega]⟩
    refine ac hm gc (by simp) ?_
    simp[eO,eP]
    simp (disch:=omega) [wl,hi0]
    refine ⟨by omega,?_⟩
    refine a7 hI ?_
    simp (disch:=omega) [wl]
    refine ⟨⟨by omega,by omega⟩,by omega,?_⟩
    refine a7 hC ?_
    simp (disch:=omega) [wl]
    refine a7 hS ?_
    simp (disch:=omega) [wl]
    refine a7 hN ?_
    simp (disch:=omega) [wl]
theorem Ea (c:UInt8):(ix c=true∧c.toNat≠34∧plain c=false)∨(ix c=false∧c.toNat=34∧plain c=false)∨(ix c=false∧c.toNat≠34∧plain c=true):=by
 by_cases h:c.toNat=34
 ·right;left
  have:ix c=false:=by simp[ix];omega
  simp[plain,this,fP,h]
 ·cases hs:ix c with
  | true=>left;simp[plain,hs,h]
  | false=>right;right;simp[plain,hs,h,fP]
theorem Eb (s:Str) (a:Nat) (ha:a≤s.length) (hs:s.length < 100000):∃ r,Fn G Tryz.prog iK [.str s,.int .i64 a] r∧B8 (bE s a) r:=by
 by_cases h0:s[a]?=some 34
 ·obtain ⟨r,hr1,hr2⟩:=I1 s a h0 hs
  obtain ⟨hal,hae⟩:=List.getElem?_eq_some_iff.1 h0
  refine ⟨r,?_,hr2⟩
  refine ac hm oY (by simp) ?_
  simp[lG,lH]
  cases hg:bE s a with
  | no e p=>
   rw[hg] at hr2
   obtain ⟨q,rfl⟩:=hr2
   obtain ⟨et,ev,he⟩:=aV e [p]
   rw[he] at hr1 ⊢
   simp (disch:=omega) [wl,hae]
   refine a7 hr1 ?_
   simp (disch:=omega) [wl]
  | ok v n=>
   rw[hg] at hr2
   simp only[B8] at hr2
   subst hr2
   simp (disch:=omega) [wl,hae]
   refine a7 hr1 ?_
   simp (disch:=omega) [wl]
 ·have hv:bE s a=if s[a+run plain (s.drop a)]?=some 34 then .no 4 (a+run plain (s.drop a):Nat) else match checked ((s.drop a).take (run plain (s.drop a))) a a with
   | .no e p=>.no e p
   | .ok v _=>.ok v (a+run plain (s.drop a)):=by
   simp only[bE,if_neg h0]
  have hrl:=pd plain (s.drop a)
  rw[List.length_drop] at hrl
  rw[hv]
  obtain ⟨t,ht⟩:∃ t,run plain (s.drop a)=t:=⟨_,rfl⟩
  rw[ht] at hrl ⊢
  have key:∀ r:IV,(s[a+t]?=some 34→r=.tuple [.str [],.int .i64 0,cl 4 [((a+t:Nat):Int)]])→
    (s[a+t]?≠some 34→∃ (x:Str) (y:IV),Fn G Tryz.prog d6 [.str ((s.drop a).take t),.int .i64 a,.int .i64 a] (.tuple [.str x,y])∧r=.tuple [.str x,.int .i64 ((a+t:Nat):Int),y])→
    Fn G Tryz.prog iK [.str s,.int .i64 a] r:=by
   intro r hr1 hr2
   refine ac hm oY (by simp) ?_
   simp[lG,lH]
   have tail:s[a+t]?≠some 34→∃ (x:Str) (y:IV),Fn G Tryz.prog d6 [.str (List.drop a (List.take (a+t) s)),.int .i64 a,.int .i64 a] (.tuple [.str x,y])∧r=.tuple [.str x,.int .i64 ((a+t:Nat):Int),y]:=by
    intro h
    obtain ⟨x,y,h1,h2⟩:=hr2 h
    refine ⟨x,y,?_,h2⟩
    rw[List.drop_take,show a+t-a=t by omega]
    exact h1
   have first:∀ c,s[a]?=some c→c.toNat≠34:=by
    intro c hc e
    exact h0 (by rw[hc,UInt8.toNat_inj.1 (show c.toNat=(34:UInt8).toNat from e)])
   by_cases hal:a < s.length
   ·obtain ⟨c0,hc0⟩:∃ c,s[a]=c:=⟨_,rfl⟩
    have hc0':=first c0 (by rw[List.getElem?_eq_getElem hal,hc0])
    simp (disch:=omega) [wl,hc0]
    refine aA hm [] (fun k:Nat=>[(7,.val (.int .i64 k))]) (fun k=>[]) (fun k=>k≤s.length∧a≤k∧k+run plain (s.drop k)=a+t) (fun k=>s.length-k) a ⟨by omega,by omega,by omega⟩ ?_ ?_
    ·simp
     exact aQ
    rintro k ⟨hk,hak,hrk⟩
    have hS:=Cu s k hk (by omega)
    simp
    refine a7 hS ?_
    by_cases h:k < s.length
    ·obtain ⟨c,hc⟩:∃ c,s[k]=c:=⟨_,rfl⟩
     have hc':s[k]?=some c:=by rw[List.getElem?_eq_getElem h,hc]
     have hst:dr s k=ix c:=by simp[dr,hc']
     rw[FP h hc] at hrk
     rcases Ea c with ⟨h1,h2,h3⟩ | ⟨h1,h2,h3⟩ | ⟨h1,h2,h3⟩
     ·rw[h3] at hrk
      have hkt:a+t=k:=by simpa using hrk.symm
      rw[hkt] at tail
      obtain ⟨x,y,hF,rfl⟩:=tail (by rw[hc'];intro e;cases e;exact h2 rfl)
      simp (disch:=omega) [wl,hst,h1]
      refine ⟨⟨by omega,by omega⟩,?_⟩
      refine a7 hF ?_
      simp (disch:=omega) [wl]
     ·rw[h3] at hrk
      have hkt:a+t=k:=by simpa using hrk.symm
      rw[hkt] at hr1
      have hr:=hr1 (by rw[hc',UInt8.toNat_inj.1 (show c.toNat=(34:UInt8).toNat from h2)])
      have hN:=dF 4 ((k:Nat):Int)
      rw[if_neg (by omega)] at hN
      rw[hr]
      simp (disch:=omega) [wl,hst,h1,hc]
      refine a7 hN ?_
      simp (disch:=omega) [wl]
     ·rw[h3] at hrk
      simp (disch:=omega) [wl,hst,h1,hc]
      refine ae (k+1) ⟨by omega,by omega,by simp at hrk;omega⟩ (by omega) ?_
      simp
      exact aQ
    ·obtain rfl:k=s.length:=by omega
     have hst:dr s s.length=true:=by simp[dr]
     have:s.drop s.length=[]:=List.drop_length
     rw[this] at hrk
     simp[run] at hrk
     rw[←hrk] at tail
     obtain ⟨x,y,hF,rfl⟩:=tail (by simp)
     rw[List.take_length] at hF
     simp (disch:=omega) [wl,hst]
     refine ⟨by omega,?_⟩
     refine a7 hF ?_
     simp (disch:=omega) [wl]
   ·simp (disch:=omega) [wl]
    refine aA hm [] (fun k:Nat=>[(7,.val (.int .i64 k))]) (fun k=>[]) (fun k=>k≤s.length∧a≤k∧k+run plain (s.drop k)=a+t) (fun k=>s.length-k) a ⟨by omega,by omega,by omega⟩ ?_ ?_
    ·simp
     exact aQ
    rintro k ⟨hk,hak,hrk⟩
    have hS:=Cu s k hk (by omega)
    simp
    refine a7 hS ?_
    by_cases h:k < s.length
    ·exfalso
     omega
    ·obtain rfl:k=s.length:=by omega
     have hst:dr s s.length=true:=by simp[dr]
     have:s.drop s.length=[]:=List.drop_length
     rw[this] at hrk
     simp[run] at hrk
     rw[←hrk] at tail
     obtain ⟨x,y,hF,rfl⟩:=tail (by simp)
     rw[List.take_length] at hF
     simp (disch:=omega) [wl,hst]
     refine ⟨by omega,?_⟩
     refine a7 hF ?_
     simp (disch:=omega) [wl]
  by_cases hq:s[a+t]?=some 34
  ·rw[if_pos hq]
   exact ⟨_,key _ (fun _=>rfl) (fun h=>absurd hq h),0,rfl⟩
  ·rw[if_neg hq]
   have hC:=yA ((s.drop a).take t) a a (by simp;omega) (by omega) (by omega)
   cases hc:checked ((s.drop a).take t) a a with
   | no e p=>
    rw[hc] at hC
    exact ⟨_,key _ (fun h=>absurd h hq) (fun _=>⟨[],cl e [p],hC,rfl⟩),_,rfl⟩
   | ok v n=>
    rw[hc] at hC
    exact ⟨_,key _ (fun h=>absurd h hq) (fun _=>⟨v,.nili,hC,rfl⟩),rfl⟩
end Go.Vs.YtmaenhgipojmfaaGreatDoor
