/- The walk of the functions of utf, part 2: the first fp byte. No conditions. -/
import Derived.Test.YtmaenhgipojmfaaGreatDoorBH
set_option linter.unusedVariables false
set_option linter.unusedSimpArgs false
namespace Go.Vs.U8
end Go.Vs.U8
namespace Go.Vs.YtmaenhgipojmfaaGreatDoor
set_option linter.unusedSimpArgs false
set_option linter.unusedVariables false
open Go.Proofs Go.Vs.U8
set_option maxRecDepth 100000
set_option maxHeartbeats 4000000
theorem Ch (s:Str) (at':Nat) (lo hi:Int) (hs:s.length < 1000000) (ha:at' < 2000000) (hlo:0≤lo) (hhi:0≤hi):Fn G Tryz.prog dd [.str s,.int .i64 at',.int .u8 lo,.int .u8 hi] (.bool (tl s at' lo.toNat hi.toNat)):=by
 refine ac hm zP (by simp) ?_
 simp[t6,t7]
 refine Iv (fun h=>?_) (fun h=>?_)
 ·obtain ⟨c,hc⟩:∃ c,c=s[at']:=⟨_,rfl⟩
  have hc':s[at']?=some c:=by rw[hc];exact List.getElem?_eq_getElem h
  simp[hc']
  refine Iv (fun h1=>?_) (fun h1=>?_)
  ·simp[hc',tl]
   rw[Bool.eq_iff_iff]
   simp
   omega
  ·simp[tl,hc']
   omega
 ·have hc':s[at']?=none:=List.getElem?_eq_none (by omega)
  simp[tl,hc']
theorem Gt (s:Str) (i:Nat) (hs:s.length < 1000000) (hi:i < s.length):Fn G Tryz.prog gU [.str s,.int .i64 i] (.int .i64 (bD (s.drop i))):=by
 refine ac hm zO (by simp) ?_
 obtain ⟨c,hc⟩:∃ c,s[i]=c:=⟨_,rfl⟩
 have hd:s.drop i=c::s.drop (i+1):=by rw[←hc];exact List.drop_eq_getElem_cons hi
 have hlt:=l7 c
 have t1:∀ k lo hi,tl (s.drop (i+1)) k lo hi=tl s (i+1+k) lo hi:=fun k lo hi=>by unfold tl;rw[List.getElem?_drop]
 have T1:=fun lo hi h1 h2=>Ch s (i+1) lo hi hs (by omega) h1 h2
 have T2:=Ch s (i+2) 128 191 hs (by omega) (by omega) (by omega)
 have T3:=Ch s (i+3) 128 191 hs (by omega) (by omega) (by omega)
 rw[hd]
 simp only[bD,t1,D0,zy,Nat.add_zero,Nat.add_assoc,Nat.reduceAdd]
 simp only[Int.cast_ofNat_Int,Int.natCast_add] at T1 T2 T3
 have hcase:c.toNat < 128∨(128≤c.toNat∧c.toNat < 194)∨(194≤c.toNat∧c.toNat≤223)∨c.toNat=224∨c.toNat=237∨(225≤c.toNat∧c.toNat≤239∧c.toNat≠237)∨c.toNat=240∨c.toNat=244∨(241≤c.toNat∧c.toNat≤243)∨245≤c.toNat:=by omega
 clear hd
 rcases hcase with h | h | h | h | h | h | h | h | h | h
 ·simp (disch:=omega) [aT,aU,hc,aI,bp,wrap_i64,if_pos,if_neg]
 ·simp (disch:=omega) [aT,aU,hc,aI,bp,wrap_i64,if_pos,if_neg]
 ·cases h1:tl s (i+1) 128 191
  all_goals
   simp (disch:=omega) [aT,aU,hc,aI,bp,wrap_i64,if_pos,if_neg]
   refine a7 (T1 128 191 (by omega) (by omega)) ?_
   simp (disch:=omega) [aI,bp,wrap_i64,if_pos,if_neg,h1]
 ·cases h1:tl s (i+1) 160 191
  ·simp (disch:=omega) [aT,aU,hc,aI,bp,wrap_i64,if_pos,if_neg]
   refine a7 (T1 160 191 (by omega) (by omega)) ?_
   simp (disch:=omega) [aI,bp,wrap_i64,if_pos,if_neg,h1]
  ·cases h2:tl s (i+2) 128 191
   all_goals
    simp (disch:=omega) [aT,aU,hc,aI,bp,wrap_i64,if_pos,if_neg]
    refine a7 (T1 160 191 (by omega) (by omega)) ?_
    simp (disch:=omega) [aI,bp,wrap_i64,if_pos,if_neg,h1]
    refine a7 T2 ?_
    simp (disch:=omega) [aI,bp,wrap_i64,if_pos,if_neg,h1,h2]
 ·cases h1:tl s (i+1) 128 159
  ·simp (disch:=omega) [aT,aU,hc,aI,bp,wrap_i64,if_pos,if_neg]
   refine a7 (T1 128 159 (by omega) (by omega)) ?_
   simp (disch:=omega) [aI,bp,wrap_i64,if_pos,if_neg,h1]
  ·cases h2:tl s (i+2) 128 191
   all_goals
    simp (disch:=omega) [aT,aU,hc,aI,bp,wrap_i64,if_pos,if_neg]
    refine a7 (T1 128 159 (by omega) (by omega)) ?_
    simp (disch:=omega) [aI,bp,wrap_i64,if_pos,if_neg,h1]
    refine a7 T2 ?_
    simp (disch:=omega) [aI,bp,wrap_i64,if_pos,if_neg,h1,h2]
 ·cases h1:tl s (i+1) 128 191
  ·simp (disch:=omega) [aT,aU,hc,aI,bp,wrap_i64,if_pos,if_neg]
   refine a7 (T1 128 191 (by omega) (by omega)) ?_
   simp (disch:=omega) [aI,bp,wrap_i64,if_pos,if_neg,h1]
  ·cases h2:tl s (i+2) 128 191
   all_goals
    simp (disch:=omega) [aT,aU,hc,aI,bp,wrap_i64,if_pos,if_neg]
    refine a7 (T1 128 191 (by omega) (by omega)) ?_
    simp (disch:=omega) [aI,bp,wrap_i64,if_pos,if_neg,h1]
    refine a7 T2 ?_
    simp (disch:=omega) [aI,bp,wrap_i64,if_pos,if_neg,h1,h2]
 ·cases h1:tl s (i+1) 144 191
  ·simp (disch:=omega) [aT,aU,hc,aI,bp,wrap_i64,if_pos,if_neg]
   refine a7 (T1 144 191 (by omega) (by omega)) ?_
   simp (disch:=omega) [aI,bp,wrap_i64,if_pos,if_neg,h1]
  ·cases h2:tl s (i+2) 128 191
   ·simp (disch:=omega) [aT,aU,hc,aI,bp,wrap_i64,if_pos,if_neg]
    refine a7 (T1 144 191 (by omega) (by omega)) ?_
    simp (disch:=omega) [aI,bp,wrap_i64,if_pos,if_neg,h1]
    refine a7 T2 ?_
    simp (disch:=omega) [aI,bp,wrap_i64,if_pos,if_neg,h1,h2]
   ·cases h3:tl s (i+3) 128 191
    all_goals
     simp (disch:=omega) [aT,aU,hc,aI,bp,wrap_i64,if_pos,if_neg]
     refine a7 (T1 144 191 (by omega) (by omega)) ?_
     simp (disch:=omega) [aI,bp,wrap_i64,if_pos,if_neg,h1]
     refine a7 T2 ?_
     simp (disch:=omega) [aI,bp,wrap_i64,if_pos,if_neg,h1,h2]
     refine a7 T3 ?_
     simp (disch:=omega) [aI,bp,wrap_i64,if_pos,if_neg,h1,h2,h3]
 ·cases h1:tl s (i+1) 128 143
  ·simp (disch:=omega) [aT,aU,hc,aI,bp,wrap_i64,if_pos,if_neg]
   refine a7 (T1 128 143 (by omega) (by omega)) ?_
   simp (disch:=omega) [aI,bp,wrap_i64,if_pos,if_neg,h1]
  ·cases h2:tl s (i+2) 128 191
   ·simp (disch:=omega) [aT,aU,hc,aI,bp,wrap_i64,if_pos,if_neg]
    refine a7 (T1 128 143 (by omega) (by omega)) ?_
    simp (disch:=omega) [aI,bp,wrap_i64,if_pos,if_neg,h1]
    refine a7 T2 ?_
    simp (disch:=omega) [aI,bp,wrap_i64,if_pos,if_neg,h1,h2]
   ·cases h3:tl s (i+3) 128 191
    all_goals
     simp (disch:=omega) [aT,aU,hc,aI,bp,wrap_i64,if_pos,if_neg]
     refine a7 (T1 128 143 (by omega) (by omega)) ?_
     simp (disch:=omega) [aI,bp,wrap_i64,if_pos,if_neg,h1]
     refine a7 T2 ?_
     simp (disch:=omega) [aI,bp,wrap_i64,if_pos,if_neg,h1,h2]
     refine a7 T3 ?_
     simp (disch:=omega) [aI,bp,wrap_i64,if_pos,if_neg,h1,h2,h3]
 ·cases h1:tl s (i+1) 128 191
  ·simp (disch:=omega) [aT,aU,hc,aI,bp,wrap_i64,if_pos,if_neg]
   refine a7 (T1 128 191 (by omega) (by omega)) ?_
   simp (disch:=omega) [aI,bp,wrap_i64,if_pos,if_neg,h1]
  ·cases h2:tl s (i+2) 128 191
   ·simp (disch:=omega) [aT,aU,hc,aI,bp,wrap_i64,if_pos,if_neg]
    refine a7 (T1 128 191 (by omega) (by omega)) ?_
    simp (disch:=omega) [aI,bp,wrap_i64,if_pos,if_neg,h1]
    refine a7 T2 ?_
    simp (disch:=omega) [aI,bp,wrap_i64,if_pos,if_neg,h1,h2]
   ·cases h3:tl s (i+3) 128 191
    all_goals
     simp (disch:=omega) [aT,aU,hc,aI,bp,wrap_i64,if_pos,if_neg]
     refine a7 (T1 128 191 (by omega) (by omega)) ?_
     simp (disch:=omega) [aI,bp,wrap_i64,if_pos,if_neg,h1]
     refine a7 T2 ?_
     simp (disch:=omega) [aI,bp,wrap_i64,if_pos,if_neg,h1,h2]
     refine a7 T3 ?_
     simp (disch:=omega) [aI,bp,wrap_i64,if_pos,if_neg,h1,h2,h3]
 ·simp (disch:=omega) [aT,aU,hc,aI,bp,wrap_i64,if_pos,if_neg]
end Go.Vs.YtmaenhgipojmfaaGreatDoor
namespace Go.Vs.YtmaenhgipojmfaaGreatDoor
set_option linter.unusedSimpArgs false
set_option linter.unusedVariables false
open Go.Proofs Go.Vs.U8
set_option maxRecDepth 100000
set_option maxHeartbeats 4000000
theorem oV (s:Str) (c:UInt8):Fn G Tryz.prog bm [.str s,.int .u8 c.toNat] (.int .i64 (jb s c)):=by
 refine ac hm gJ (by simp) ?_
 simp[de,df]
 refine a7 (sd s c) ?_
 simp
theorem dg (s:Str) (c:UInt8):Fn G Tryz.prog aZ [.str s,.int .u8 c.toNat] (.int .i64 (jb s c)):=by
 refine ac hm oU (by simp) ?_
 simp[jn,jo]
 refine a7 (oV s c) ?_
 simp
theorem ye (c:UInt8) (r:Str):eM (c::r)=(bD (c::r)==0||(decide (c.toNat < 32)&&!decide (c.toNat=9))||decide (c.toNat=127)):=rfl
theorem jE (s:Str) (hs:s.length < 1000000):Fn G Tryz.prog gx [.str s] (.int .i64 (eN (fp s))):=by
 refine ac hm Cg (by simp) ?_
 simp[vQ,vR]
 refine aA hm [] (fun i:Nat=>[(3,.val (.int .i64 i))]) (fun _=>[]) (fun i=>i≤s.length∧fp s=(fp (s.drop i)).map (· + i)) (fun i=>s.length-i) 0 ⟨by omega,by simp⟩ ?_ ?_
 ·simp
  exact aQ
 rintro i ⟨hi,ho⟩
 simp
 refine Iv (fun h=>?_) (fun h=>?_)
 ·have hS:=Gt s i hs h
  have hodd:=JL h ho
  obtain ⟨c,hc⟩:∃ c,s[i]=c:=⟨_,rfl⟩
  have hd:s.drop i=c::s.drop (i+1):=by rw[←hc];exact List.drop_eq_getElem_cons h
  have hle:=m4 (s.drop i)
  rw[List.length_drop] at hle
  obtain ⟨z,hz⟩:∃ z,bD (s.drop i)=z:=⟨_,rfl⟩
  have ha:=ye c (s.drop (i+1))
  rw[←hd,hz] at ha
  rw[hz] at hS hodd hle
  have hlt:=l7 c
  clear hd
  simp
  refine a7 hS ?_
  simp
  refine Iv (fun h0=>?_) (fun h0=>?_)
  ·have:eM (s.drop i)=true:=by rw[ha];simp;omega
   simp[hodd,this,eN]
  ·have go:¬((c.toNat < 32∧c.toNat≠9)∨c.toNat=127)→fp s=(fp (s.drop (i+z))).map (· + (i+z)):=by
    intro h1
    have:eM (s.drop i)=false:=by
     rw[ha];simp
     refine ⟨⟨by omega,by omega⟩,by omega⟩
    rw[if_neg (by simp[this])] at hodd
    exact hodd
   have ret:(c.toNat < 32∧c.toNat≠9)∨c.toNat=127→eN (fp s)=i:=by
    intro h1
    have:eM (s.drop i)=true:=by rw[ha];simp;omega
    simp[hodd,this,eN]
   clear hodd ho ha
   by_cases h1:(c.toNat < 32∧c.toNat≠9)∨c.toNat=127
   ·have hr:=ret h1
    have h1':(c.toNat < 32∧c.toNat≠9)∨(¬c.toNat < 32∧c.toNat=127):=by omega
    rcases h1' with h1 | h1 <;> simp (disch:=omega) [hc,bp,aI,hr]
   ·have hg:=go h1
    have h1':(c.toNat < 32∧c.toNat=9)∨(¬c.toNat < 32∧c.toNat≠127):=by omega
    rcases h1' with h1 | h1
    all_goals
     simp (disch:=omega) [hc,bp,aI]
     refine a7 hS ?_
     simp (disch:=omega) [wrap_i64]
     refine ae (i+z) ⟨by omega,hg⟩ (by omega) ?_
     simp
     exact aQ
 ·obtain rfl:i=s.length:=by omega
  simp[ho,eN]
theorem HT (s:Str) (a:Nat) (hs:s.length < 1000000) (ha:a < s.length):Fn G Tryz.prog mY [.str s,.int .i64 a,.int .i32 (AX (s.drop a)).1] (.bool (decide ((AX (s.drop a))=(65533,1)))):=by
 refine ac hm zN (by simp) ?_
 have hD:=zM (s.drop a) (by intro e;have:=congrArg List.length e;simp at this;omega)
 obtain ⟨⟨r,k⟩,hk⟩:∃ p,AX (s.drop a)=p:=⟨_,rfl⟩
 rw[hk] at hD ⊢
 by_cases h:r=65533
 ·subst h
  simp (disch:=omega) [n9,nc,aI,bp]
  refine ⟨by omega,?_⟩
  refine a7 hD ?_
  simp
  omega
 ·simp (disch:=omega) [n9,nc,aI,bp,h]
theorem Ci (s:Str) (hs:s.length < 1000000):Fn G Tryz.prog jV [.str s] (.int .i64 (eN (fp s))):=by
 refine ac hm FH (by simp) ?_
 simp[AZ,B0]
 refine aA hm [] (fun i:Nat=>[]) (fun i=>[(6,.iter s i)]) (fun i=>i≤s.length∧fp s=(fp (s.drop i)).map (· + i)) (fun i=>s.length-i) 0 ⟨by omega,by simp⟩ ?_ ?_
 ·simp
  exact aQ
 rintro i ⟨hi,ho⟩
 simp
 by_cases h:i < s.length
 ·have hodd:=JL h ho
  have hB:=HT s i hs h
  obtain ⟨c,hc⟩:∃ c,s[i]=c:=⟨_,rfl⟩
  have hd:s.drop i=c::s.drop (i+1):=by rw[←hc];exact List.drop_eq_getElem_cons h
  have hle:=m4 (s.drop i)
  rw[List.length_drop] at hle
  have hcase:=uZ c (s.drop (i+1))
  have ha:=ye c (s.drop (i+1))
  rw[←hd] at hcase ha
  have hlt:=l7 c
  have hdd:=oR s i (by omega)
  clear hd ho
  obtain ⟨z,hz⟩:∃ z,bD (s.drop i)=z:=⟨_,rfl⟩
  obtain ⟨⟨r,k⟩,hk⟩:∃ p,AX (s.drop i)=p:=⟨_,rfl⟩
  rw[hz] at hodd hle hcase ha
  rw[hk] at hcase hB hdd
  simp only[Prod.mk.injEq] at hcase hB
  have ret:eM (s.drop i)=true→eN (fp s)=i:=fun h1=>by simp[hodd,h1,eN]
  have go:eM (s.drop i)=false→fp s=(fp (s.drop (i+z))).map (· + (i+z)):=fun h1=>by
   rw[if_neg (by simp[h1])] at hodd
   exact hodd
  clear hodd
  rcases hcase with ⟨h1,⟨rfl,rfl⟩,rfl⟩ | ⟨h1,rfl,rfl,rfl⟩ | ⟨h1,h2,h3,rfl⟩
  ·have hnb:¬(c.toNat=65533∧1=1):=by omega
   rw[decide_eq_false hnb] at hB
   by_cases h2:(c.toNat < 32∧c.toNat≠9)∨c.toNat=127
   ·have hr:=ret (by rw[ha];simp;omega)
    have h2':(c.toNat < 32∧c.toNat≠9)∨(¬c.toNat < 32∧c.toNat=127):=by omega
    rcases h2' with h2 | h2
    all_goals
     simp[h,hdd]
     refine a7 hB ?_
     simp (disch:=omega) [bp,aI,hr]
   ·have hg:=go (by rw[ha];simp;omega)
    have h2':(c.toNat < 32∧c.toNat=9)∨(¬c.toNat < 32∧c.toNat≠127):=by omega
    rcases h2' with h2 | h2
    all_goals
     simp[h,hdd]
     refine a7 hB ?_
     simp (disch:=omega) [bp,aI]
     refine ae (i+1) ⟨by omega,hg⟩ (by omega) ?_
     simp
     exact aQ
  ·have hr:=ret (by rw[ha];simp)
   simp[h,hdd]
   refine a7 hB ?_
   simp[hr]
  ·have hg:=go (by rw[ha];simp;omega)
   have hnb:¬(r=65533∧k=1):=by omega
   rw[decide_eq_false hnb] at hB
   simp[h,hdd]
   refine a7 hB ?_
   simp (disch:=omega) [bp,aI]
   refine ae (i+k) ⟨by omega,hg⟩ (by omega) ?_
   simp
   exact aQ
 ·obtain rfl:i=s.length:=by omega
  have ho':fp s=none:=by rw[ho,List.drop_length];rfl
  simp[ho',eN]
theorem vS {ps:List Int} (h:∀ p∈ps,-1000000 < p∧p < 1000000):∀ k:Nat,-1000000*(k:Int)≤(ps.take k).sum∧(ps.take k).sum≤1000000*(k:Int):=by
 intro k
 induction k with
 | zero=>simp
 | succ k ih=>
  by_cases hk:k < ps.length
  ·rw[List.take_succ_eq_append_getElem hk,List.sum_append]
   have:=h _ (List.getElem_mem hk)
   simp
   omega
  ·rw[List.take_of_length_le (by omega)] at ih ⊢
   omega
theorem LM (n:Int) (ps:List Int) (hp:∀ p∈ps,-1000000 < p∧p < 1000000) (hl:ps.length < 1000):Fn G Tryz.prog jD [cl n ps] (.tuple [.int .i64 ps.sum,.int .i64 ps.length]):=by
 refine ac hm qE (by simp) ?_
 simp[n6,n7]
 refine aA hm [] (fun k:Nat=>[(0,.val (cl n (ps.drop k))),(4,.val (.int .i64 (ps.take k).sum)),(5,.val (.int .i64 k))]) (fun _=>[]) (fun k=>k≤ps.length) (fun k=>ps.length-k) 0 (by omega) ?_ ?_
 ·simp
  exact aQ
 intro k hk
 have hb:=vS hp k
 by_cases h:k < ps.length
 ·have hd:ps.drop k=ps[k]::ps.drop (k+1):=List.drop_eq_getElem_cons h
  have ht:(ps.take (k+1)).sum=(ps.take k).sum+ps[k]:=by rw[List.take_succ_eq_append_getElem h,List.sum_append];simp
  have hpk:=hp _ (List.getElem_mem h)
  obtain ⟨p,hpe⟩:∃ p,ps[k]=p:=⟨_,rfl⟩
  rw[hpe] at hd ht hpk
  obtain ⟨t,v,hv⟩:=aV n (ps.drop (k+1))
  have hA:=uY .nilp [.int .i64 p,cl n (ps.drop (k+1))]
  rw[hd]
  simp only[cl]
  simp
  refine callM [(1000,6)] [] hA rfl rfl ⟨rfl,trivial⟩ ⟨[],[],rfl,⟨rfl,rfl⟩,rfl⟩ rfl ?_
  simp (disch:=omega) [wl]
  refine ae (k+1) (by omega) (by omega) ?_
  simp[ht]
  exact aQ
 ·obtain rfl:k=ps.length:=by omega
  have hA:=HQ n .nilp
  simp[cl]
  refine callM [(1000,6)] [] hA rfl rfl ⟨rfl,trivial⟩ ⟨[],[],rfl,⟨rfl,rfl⟩,rfl⟩ rfl ?_
  simp
theorem Cj:Fn G Tryz.prog cK [.nili] (.int .i64 0):=by
 have hw:Fn G Tryz.prog jD [.nili] (.tuple [.int .i64 0,.int .i64 0]):=by
  refine ac hm qE (by simp) ?_
  simp[n6,n7]
  refine aA hm [] (fun k:Nat=>[]) (fun _=>[]) (fun k=>True) (fun k=>0) 0 trivial ?_ ?_
  ·simp
   exact aQ
  intro k _
  simp
 refine ac hm oT (by simp) ?_
 simp[lw,lx]
 refine a7 hw ?_
 simp
theorem oW (n:Int) (ps:List Int) (hp:∀ p∈ps,-1000000 < p∧p < 1000000) (hl:ps.length < 1000):Fn G Tryz.prog cK [cl n ps] (.int .i64 ps.sum):=by
 refine ac hm oT (by simp) ?_
 simp[lw,lx]
 refine a7 (LM n ps hp hl) ?_
 simp
end Go.Vs.YtmaenhgipojmfaaGreatDoor
