/- The walk of the library's search for any of some bytes, at the signs that end a value. No conditions. -/
import Derived.Test.YtmaenhgipojmfaaGreatDoorBK
import Derived.Test.YtmaenhgipojmfaaGreatDoorBJ
set_option linter.unusedVariables false
set_option linter.unusedSimpArgs false
namespace Go.Vs.U8
end Go.Vs.U8
namespace Go.Vs.Pa
end Go.Vs.Pa
namespace Go.Vs.YtmaenhgipojmfaaGreatDoor
set_option linter.unusedSimpArgs false
set_option linter.unusedVariables false
open Go.Proofs Go.Vs.U8 Go.Vs.Pa
set_option maxRecDepth 100000
set_option maxHeartbeats 4000000
theorem HX (r:Nat) (h:128≤r):(∃ x y:UInt8,(Utf8.encode r).data.toList=[x,y]∧128≤y.toNat)∨(∃ x y z:UInt8,(Utf8.encode r).data.toList=[x,y,z]∧128≤z.toNat)∨(∃ x y z t:UInt8,(Utf8.encode r).data.toList=[x,y,z,t]∧128≤t.toNat):=by
 unfold Utf8.encode
 generalize hc:(if Utf8.valid r=true then (r:Int).toNat else Utf8.runeError)=c
 have h1:128≤c:=by
  rw[←hc];split
  ·simpa using h
  ·simp[Utf8.runeError]
 have hb:∀ n:Nat,128≤(UInt8.ofNat (128+n % 64)).toNat:=by
  intro n
  have:=Nat.mod_lt n (show 0 < 64 by omega)
  simp;omega
 simp only
 rw[if_neg (by omega)]
 split
 ·exact .inl ⟨_,_,rfl,hb _⟩
 ·split
  ·exact .inr (.inl ⟨_,_,_,rfl,hb _⟩)
  ·exact .inr (.inr ⟨_,_,_,_,rfl,hb _⟩)
theorem Cn (r:Nat):Fn G Tryz.prog dp [.int .i32 r] (.bool (decide (r < 55296∨(57343 < r∧r≤1114111)))):=by
 refine ac hm kP (by simp) ?_
 simp[fM,fO]
 by_cases h1:r < 55296
 ·simp (disch:=omega) [wl,h1]
 ·by_cases h2:57343 < r
  ·by_cases h3:r≤1114111
   ·simp (disch:=omega) [wl,h1,h2,h3]
   ·simp (disch:=omega) [wl,h1,h2,h3]
  ·simp (disch:=omega) [wl,h1,h2]
theorem Co (c:UInt8) (h:128≤c.toNat) (l:Str) (hl:∀ x∈l,x.toNat < 128):jb l c = -1:=ir fun hc=>by have:=hl c hc;omega
theorem Cp (r:Nat):Fn G Tryz.prog dz [.str [44,58,59],.int .i32 r] (.int .i64 (if r < 128 then jb [44,58,59] (UInt8.ofNat r) else -1)):=by
 refine ac hm p6 (by simp) ?_
 by_cases h1:r < 128
 ·rw[if_pos h1]
  simp[fD,fE]
  have hB:=dg [44,58,59] (UInt8.ofNat r)
  have e:(UInt8.ofNat r).toNat=r:=by simp;omega
  rw[e] at hB
  simp (disch:=omega) [wl,h1]
  refine a7 hB ?_
  simp
 ·rw[if_neg h1]
  simp[fD,fE]
  by_cases h2:r=65533
  ·subst h2
   simp (disch:=omega) [wl]
   refine aA hm [] (fun i:Nat=>[]) (fun i=>[(175,.iter [44,58,59] i)]) (fun i=>i≤3) (fun i=>3-i) 0 (by omega) ?_ ?_
   ·simp
    exact aQ
   rintro i hi
   have hi':i=0∨i=1∨i=2∨i=3:=by omega
   rcases hi' with rfl | rfl | rfl | rfl
   ·simp[show Utf8.decode ⟨[44,58,59].toArray⟩ 0=(44,1) from rfl]
    try simp (disch:=omega) [wl]
    refine ae 1 (by omega) (by omega) ?_
    simp
    exact aQ
   ·simp[show Utf8.decode ⟨[44,58,59].toArray⟩ 1=(58,1) from rfl]
    try simp (disch:=omega) [wl]
    refine ae 2 (by omega) (by omega) ?_
    simp
    exact aQ
   ·simp[show Utf8.decode ⟨[44,58,59].toArray⟩ 2=(59,1) from rfl]
    try simp (disch:=omega) [wl]
    refine ae 3 (by omega) (by omega) ?_
    simp
    exact aQ
   ·simp
  ·have hV:=Cn r
   cases hv:decide (r < 55296∨(57343 < r∧r≤1114111)) with
   | false=>
    rw[hv] at hV
    simp (disch:=omega) [wl,h1,h2]
    refine a7 hV ?_
    simp (disch:=omega) [wl]
   | true=>
    rw[hv] at hV
    have hE:=HX r (by omega)
    obtain ⟨l,hl⟩:∃ l,(Utf8.encode r).data.toList=l:=⟨_,rfl⟩
    simp (disch:=omega) [wl,h1,h2]
    refine a7 hV ?_
    simp
    rw[hl] at hE
    refine y3 hm 1 (fun _:Unit=>⟨[],[],[],187,G⟩) (fun _=>False) (fun _=>0) rfl (fun _=>rfl) ?_ (fun _ h=>h.elim)
    rcases hE with ⟨x,y,rfl,hy⟩ | ⟨x,y,z,rfl,hy⟩ | ⟨x,y,z,t,rfl,hy⟩
    ·have hB:∀ l:Str,(∀ x∈l,x.toNat < 128)→Fn G Tryz.prog aZ [.str l,.int .u8 y.toNat] (.int .i64 (-1)):=fun l h=>by
      have:=dg l y
      rwa[Co y hy l h] at this
     simp (disch:=omega) [wl,hl]
     refine aA hm [] (fun _:Unit=>[]) (fun _=>[]) (fun _=>True) (fun _=>0) () trivial ?_ ?_
     ·simp
      exact aQ
     rintro _ _
     simp
     try simp (disch:=omega) [wl]
     refine y3 hm 0 (fun _:Unit=>⟨[],[],[],187,G⟩) (fun _=>False) (fun _=>0) rfl (fun _=>rfl) ?_ (fun _ h=>h.elim)
     simp
     try simp (disch:=omega) [wl]
     refine a7 (hB _ (by simp)) ?_
     simp
     rfl
    ·have hB:∀ l:Str,(∀ x∈l,x.toNat < 128)→Fn G Tryz.prog aZ [.str l,.int .u8 z.toNat] (.int .i64 (-1)):=fun l h=>by
      have:=dg l z
      rwa[Co z hy l h] at this
     simp (disch:=omega) [wl,hl]
     refine aA hm [] (fun _:Unit=>[]) (fun _=>[]) (fun _=>True) (fun _=>0) () trivial ?_ ?_
     ·simp
      exact aQ
     rintro _ _
     simp
     try simp (disch:=omega) [wl]
     refine y3 hm 0 (fun _:Unit=>⟨[],[],[],187,G⟩) (fun _=>False) (fun _=>0) rfl (fun _=>rfl) ?_ (fun _ h=>h.elim)
     simp
     try simp (disch:=omega) [wl]
     refine a7 (hB _ (by simp)) ?_
     simp
     rfl
    ·have hB:∀ l:Str,(∀ x∈l,x.toNat < 128)→Fn G Tryz.prog aZ [.str l,.int .u8 t.toNat] (.int .i64 (-1)):=fun l h=>by
      have:=dg l t
      rwa[Co t hy l h] at this
     simp (disch:=omega) [wl,hl]
     refine aA hm [] (fun _:Unit=>[]) (fun _=>[]) (fun _=>True) (fun _=>0) () trivial ?_ ?_
     ·simp
      exact aQ
     rintro _ _
     simp
     try simp (disch:=omega) [wl]
theorem JW {c:UInt8} {r:Str} (hc:¬c.toNat < 128):∀ (j:Nat) x,j < bD (c::r)→(c::r)[j]?=some x→128≤x.toNat:=by
 have ht:∀ {k lo hi:Nat} {x:UInt8},tl r k lo hi=true→128≤lo→r[k]?=some x→128≤x.toNat:=by
  intro k lo hi x h1 h2 h3
  obtain ⟨b,hb,h4,_⟩:=l6 h1
  rw[hb] at h3;cases h3;omega
 have hlo:∀ n,128≤D0 n:=by
  intro n
  unfold D0
  split
  ·omega
  ·split <;> omega
 intro j x hj hx
 simp only[bD,if_neg hc] at hj
 cases j with
 | zero=>simp at hx;subst hx;omega
 | succ j=>
  rw[List.getElem?_cons_succ] at hx
  split at hj
  ·next h=>
   simp only[Bool.and_eq_true] at h
   obtain rfl:j=0:=by omega
   exact ht h.2 (by omega) hx
  ·split at hj
   ·next h=>
    simp only[Bool.and_eq_true] at h
    have:j=0∨j=1:=by omega
    rcases this with rfl | rfl
    ·exact ht h.1.2 (hlo _) hx
    ·exact ht h.2 (by omega) hx
   ·split at hj
    ·next h=>
     simp only[Bool.and_eq_true] at h
     have:j=0∨j=1∨j=2:=by omega
     rcases this with rfl | rfl | rfl
     ·exact ht h.1.1.2 (hlo _) hx
     ·exact ht h.1.2 (by omega) hx
     ·exact ht h.2 (by omega) hx
    ·omega
theorem tL (c:UInt8):([44,58,59]:Str).contains c=ix c:=by
 have e1:c=44↔c.toNat=44:=by rw[←UInt8.toNat_inj];rfl
 have e2:c=58↔c.toNat=58:=by rw[←UInt8.toNat_inj];rfl
 have e3:c=59↔c.toNat=59:=by rw[←UInt8.toNat_inj];rfl
 rw[Bool.eq_iff_iff]
 simp[ix,e1,e2,e3]
theorem yu (c:UInt8):(0≤jb [44,58,59] c↔ix c=true):=by
 rw[←tL,List.contains_iff_mem]
 have:=JO [44,58,59] c
 constructor
 ·intro h;exact Decidable.byContradiction fun hn=>by have:=this.2 hn;omega
 ·intro h;exact Decidable.byContradiction fun hn=>(this.1 (by omega)) h
theorem wH (s:Str):Lib.containsAny s [44,58,59]=s.any ix:=by
 unfold Lib.containsAny
 induction s with
 | nil=>rfl
 | cons c r ih=>
  rw[List.any_cons,←ih]
  have hg:=Lib.indexAny_ge [44,58,59] r
  simp only[Lib.indexAny,tL]
  cases hc:ix c with
  | true=>simp
  | false=>
   simp only[Bool.false_eq_true,if_false,Bool.false_or]
   by_cases h:Lib.indexAny r [44,58,59] = -1
   ·simp[h]
   ·have h1:0≤Lib.indexAny r [44,58,59]:=by omega
    have h2:0≤Lib.indexAny r [44,58,59]+1:=by omega
    simp[h,h1,h2]
theorem vf (s:Str) (h8:8 < s.length) (hs:s.length < 1000000):Fn G Tryz.prog dW [.str s,.str [44,58,59]] (.int .i64 (Lib.indexAny s [44,58,59])):=by
 refine sX ⟨Tryz.f138,Tryz.func138,by decide⟩ ?_
 rintro w S vs hS k9 ⟨v1,_,rfl,h1,v2,_,rfl,h2,h3⟩
 have h1:v1=.string ⟨s.toArray⟩:=h1
 have h2:v2=.string ⟨[44,58,59].toArray⟩:=h2
 have h3:_=[]:=h3
 subst h1;subst h2;subst h3
 have hi:(Tryz.prog.info? (Tryz.lays150_ren.t 116)).map (fun i=>(i.zero,i.size))=some (some (.agg (Array.replicate 256 (.bool false))),256):=by kernel_rfl
 have hz:(⟨s.toArray⟩:ByteArray).size=s.length:=by simp[ByteArray.size]
 have:=Any.strings_IndexAny_long {Tryz.lays150 with } (zero_of_info hi).1 (zero_of_info hi).2 ⟨s.toArray⟩ ⟨[44,58,59].toArray⟩ w (by decide) (by omega) (by omega) (by decide) (by
  intro j b hb
  have hm:b∈([44,58,59]:Str):=List.mem_of_getElem? hb
  simp at hm
  rcases hm with rfl | rfl | rfl <;> decide)
 refine bS Tryz.func138 (by decide) (this.mono ?_)
 rintro e w' ⟨rfl,rfl⟩
 have hb:=fun o=>(Go.RowKit.Below.refl w.heap.size w).alloc (Nat.le_refl _) o
 exact ⟨_,rfl,(hb _).alloc (hb _).size _,rfl⟩
theorem Cq (n:Nat):Fn G Tryz.prog cG [.int .i64 n] (.bool (decide (8 < (n:Int)))):=by
 refine ac hm jf (by simp) ?_
 simp[eB,eC]
theorem LP {s:Str} {i:Nat} (h:i < s.length) (hp:ix s[i]=true) (hn:∀ j x,j < i→s[j]?=some x→ix x=false):s.findIdx? ix=some i:=by
 rw[List.findIdx?_eq_some_iff_getElem]
 refine ⟨h,hp,fun j hj=>?_⟩
 have:=hn j s[j] hj (List.getElem?_eq_getElem (by omega))
 simp[this]
theorem E3 (s:Str) (hs:s.length < 1000000):∃ q:Int,Fn G Tryz.prog dW [.str s,.str [44,58,59]] (.int .i64 q)∧(0≤q↔s.any ix=true):=by
 by_cases h8:8 < s.length
 ·refine ⟨_,vf s h8 hs,?_⟩
  rw[←wH]
  unfold Lib.containsAny
  simp
 ·refine ⟨match s.findIdx? ix with | some i=>i | none=>-1,?_,?_⟩
  ·refine ac hm qn (by simp) ?_
   simp[kv,kw]
   have h8':¬(8:Int) < s.length:=by omega
   have hS:=Cq s.length
   rw[decide_eq_false h8'] at hS
   refine a7 hS ?_
   simp
   refine aA hm [] (fun i:Nat=>[]) (fun i=>[(45,.iter s i)]) (fun i=>i≤s.length∧∀ j x,j < i→s[j]?=some x→ix x=false) (fun i=>s.length-i) 0 ⟨by omega,by simp⟩ ?_ ?_
   ·simp
    exact aQ
   rintro i ⟨hi,hn⟩
   simp
   by_cases h:i < s.length
   ·obtain ⟨c,hc⟩:∃ c,s[i]=c:=⟨_,rfl⟩
    have hd:s.drop i=c::s.drop (i+1):=by rw[←hc];exact List.drop_eq_getElem_cons h
    have hle:=m4 (s.drop i)
    rw[List.length_drop] at hle
    have hcase:=uZ c (s.drop (i+1))
    have hhi:=@JW c (s.drop (i+1))
    rw[←hd] at hcase hhi
    have hlt:=l7 c
    have hdd:=oR s i (by omega)
    clear hd
    obtain ⟨z,hz⟩:∃ z,bD (s.drop i)=z:=⟨_,rfl⟩
    obtain ⟨⟨r,k⟩,hk⟩:∃ p,AX (s.drop i)=p:=⟨_,rfl⟩
    rw[hz] at hle hcase hhi
    rw[hk] at hcase hdd
    simp only[Prod.mk.injEq] at hcase
    have hR:=Cp r
    have one:ix c=false→∀ j x,j < i+1→s[j]?=some x→ix x=false:=by
     intro h0 j x hj hx
     by_cases hji:j=i
     ·subst hji;rw[List.getElem?_eq_getElem h,hc] at hx;cases hx;exact h0
     ·exact hn j x (by omega) hx
    have nstp:128≤c.toNat→ix c=false:=fun h0=>by simp[ix];omega
    rcases hcase with ⟨h1,⟨rfl,rfl⟩,rfl⟩ | ⟨h1,rfl,rfl,rfl⟩ | ⟨h1,h2,h3,rfl⟩
    ·rw[if_pos h1] at hR
     have e:UInt8.ofNat c.toNat=c:=by simp
     rw[e] at hR
     have hq:=yu c
     simp[h,hdd]
     refine a7 hR ?_
     cases hs':ix c with
     | true=>
      have h0:=hq.2 hs'
      have hf:=LP h (by rw[hc];exact hs') hn
      simp (disch:=omega) [wl,hf]
     | false=>
      have h0:¬0≤jb [44,58,59] c:=fun h0=>by rw[hq.1 h0] at hs';cases hs'
      simp (disch:=omega) [wl]
      refine ae (i+1) ⟨by omega,one hs'⟩ (by omega) ?_
      simp
      exact aQ
    ·rw[if_neg (by omega)] at hR
     simp[h,hdd]
     refine a7 hR ?_
     try simp (disch:=omega) [wl]
     refine ae (i+1) ⟨by omega,one (nstp (by omega))⟩ (by omega) ?_
     simp
     exact aQ
    ·rw[if_neg (by omega)] at hR
     simp[h,hdd]
     refine a7 hR ?_
     try simp (disch:=omega) [wl]
     refine ae (i+k) ⟨by omega,?_⟩ (by omega) ?_
     ·intro j x hj hx
      by_cases hji:j < i
      ·exact hn j x hji hx
      ·have:=hhi (by omega) (j-i) x (by omega) (by rw[List.getElem?_drop,show i+(j-i)=j by omega];exact hx)
       simp[ix];omega
     ·simp
      exact aQ
   ·obtain rfl:i=s.length:=by omega
    have hf:s.findIdx? ix=none:=by
     rw[List.findIdx?_eq_none_iff]
     intro x hx
     obtain ⟨j,hj,rfl⟩:=List.mem_iff_getElem.1 hx
     exact hn j _ hj (List.getElem?_eq_getElem hj)
    simp[hf]
  ·cases h:s.findIdx? ix with
   | none=>
    rw[List.findIdx?_eq_none_iff] at h
    have:s.any ix=false:=by rw[List.any_eq_false];intro x hx;simp[h x hx]
    simp[this]
   | some i=>
    rw[List.findIdx?_eq_some_iff_getElem] at h
    obtain ⟨h1,h2,h3⟩:=h
    have:s.any ix=true:=by rw[List.any_eq_true];exact ⟨_,List.getElem_mem h1,h2⟩
    simp[this]
theorem yv (s:Str) (hs:s.length < 1000000):Fn G Tryz.prog cW [.str s,.str [44,58,59]] (.bool (s.any ix)):=by
 obtain ⟨q,h1,h2⟩:=E3 s hs
 refine ac hm nm (by simp) ?_
 simp[i9,ia]
 refine a7 h1 ?_
 have:decide (0≤q)=s.any ix:=by rw[Bool.eq_iff_iff,decide_eq_true_iff,h2]
 simp[this]
theorem E4 (s:Str) (hs:s.length < 100000):Fn G Tryz.prog ga [.str s] (.str (write s)):=FK s hs (yv s (by omega))
end Go.Vs.YtmaenhgipojmfaaGreatDoor
namespace Go.Vs.YtmaenhgipojmfaaGreatDoor
set_option linter.unusedSimpArgs false
set_option linter.unusedVariables false
open Go.Proofs Go.Vs.U8 Go.Vs.Pa
set_option maxRecDepth 100000
set_option maxHeartbeats 4000000
def parts (c:UInt8):Str→List Str
 | []=>[[]]
 | x::r=>if x=c then []::parts c r else match parts c r with
  | []=>[[x]]
  | p::ps=>(x::p)::ps
theorem p9 (c:UInt8) (s:Str):parts c s≠[]:=by
 cases s with
 | nil=>simp[parts]
 | cons x r=>simp only[parts];split;simp;split <;> simp
theorem vg (c:UInt8) (s:Str):(parts c s).length=s.count c+1:=by
 induction s with
 | nil=>rfl
 | cons x r ih=>
  simp only[parts]
  by_cases h:x=c
  ·subst h;simp[ih]
  ·have h1:(x::r).count c=r.count c:=by rw[List.count_cons];simp[h]
   rw[if_neg h,h1]
   split
   ·next hp=>exact absurd hp (p9 c r)
   ·next p ps hp=>rw[hp] at ih;simpa using ih
theorem FL {c:UInt8} {s:Str} (h:c∉s):parts c s=[s]:=by
 induction s with
 | nil=>rfl
 | cons x r ih=>
  simp only[List.mem_cons,not_or] at h
  simp[parts,Ne.symm h.1,ih h.2]
theorem JX {c:UInt8} {s:Str} {i:Nat} (h1:s[i]?=some c) (h2:c∉s.take i):parts c s=s.take i::parts c (s.drop (i+1)):=by
 induction s generalizing i with
 | nil=>simp at h1
 | cons x r ih=>
  cases i with
  | zero=>simp at h1;subst h1;simp[parts]
  | succ i=>
   simp only[List.take_succ_cons,List.mem_cons,not_or] at h2
   rw[List.getElem?_cons_succ] at h1
   simp only[parts,if_neg (Ne.symm h2.1),ih h1 h2.2,List.take_succ_cons,List.drop_succ_cons]
theorem yw (s:Str) (c:UInt8):Fn G Tryz.prog dC [.str s,.int .u8 c.toNat] (.int .i64 (s.count c)):=by
 refine AT ⟨Tryz.f149,Tryz.func149,by decide⟩ ?_
 rintro w S vs ⟨v1,_,rfl,h1,v2,_,rfl,h2,h3⟩
 have h1:v1=.string ⟨s.toArray⟩:=h1
 have h2:v2=.int .u8 c.toNat:=h2
 have h3:_=[]:=h3
 subst h1;subst h2;subst h3
 refine ⟨.int .i64 (s.count c),?_,rfl⟩
 have hr:=run_callFunc_extern (P:=Tryz.prog) Tryz.func149 (by kernel_rfl) (by kernel_rfl) (by kernel_rfl) (e:=Extern.BytealgCount.count) (by kernel_rfl) #[.string ⟨s.toArray⟩,.int .u8 c.toNat] w
 rw[Go.Lib.run_countString] at hr
 have e1:((c.toNat:Int)).toNat.toUInt8=c:=by simp
 rw[e1] at hr
 exact hr
theorem JY (s:Str) (c:UInt8):Fn G Tryz.prog jd [.str s,.str [c]] (.int .i64 (s.count c)):=by
 refine ac hm vb (by simp) ?_
 simp[o4,o5]
 refine a7 (yw s c) ?_
 simp
theorem FM (s:Str) (c:UInt8):Fn G Tryz.prog cC [.str s,.str [c]] (.int .i64 (jb s c)):=by
 refine ac hm iX (by simp) ?_
 simp[ed,ee]
 refine Iv (fun h=>?_) (fun h=>?_)
 ·subst h
  have:jb [c] c=0:=sZ (i:=0) rfl (by simp)
  simp[this]
 ·simp
  refine a7 (oV s c) ?_
  simp
theorem yx (d:List Str) (p:Str) (k:Nat):(ts d++List.replicate (k+1) [IV.str []]).set d.length [.str p]=ts (d++[p])++List.replicate k [IV.str []]:=by
 have:d.length=(ts d).length:=by simp[ts]
 rw[this,List.set_append_right _ _ (Nat.le_refl _)]
 simp[ts,List.replicate_succ]
theorem aB (d:List Str):(ts d).length=d.length:=by simp[ts]
theorem yy (d:List Str) (k:Nat):(ts d++List.replicate (k+1) [IV.str []])[d.length]?=some [.str []]:=by
 rw[List.getElem?_append_right (by rw[aB];omega),aB]
 simp[List.replicate_succ]
theorem JZ (s:Str) (c:UInt8):Fn G Tryz.prog gb [.str s,.str [c]] (.int .i64 (jb s c)):=by
 refine ac hm vc (by simp) ?_
 simp[o6,o7]
 refine a7 (FM s c) ?_
 simp
theorem E5 (s:Str) (c:UInt8) (hs:s.length < 1000000):Fn G Tryz.prog gg [.str s,.str [c],.int .i64 0,.int .i64 (-1)] (.slice (ts (parts c s))):=by
 refine ac hm qm (by simp) ?_
 simp[kt,ku]
 have hk:s.count c≤s.length:=List.count_le_length
 have hmin:min ((s.count c:Int)+1) (s.length+1)=s.count c+1:=by omega
 refine a7 (JY s c) ?_
 simp (disch:=omega) [wl,hmin]
 refine ⟨by omega,?_⟩
 refine aA hm [] (fun x:List Str×Str=>[(0,.val (.str x.2)),(3,.val (.int .i64 (s.count c))),(10,.val (.int .i64 x.1.length))]) (fun x=>[(31,.arr 0 1 (ts x.1++List.replicate (x.2.count c+1) [.str []]))]) (fun x=>x.2.length≤s.length∧x.1.length+x.2.count c=s.count c∧x.1++parts c x.2=parts c s) (fun x=>x.2.length) ([],s) ⟨by simp,by simp,by simp⟩ ?_ ?_
 ·simp[ts]
  exact aQ
 rintro ⟨d,t⟩ ⟨hl,hn,hp⟩
 simp at hl hn hp
 simp
 by_cases h:d.length < s.count c
 ·have hpos:0 < t.count c:=by omega
  have hmem:c∈t:=List.count_pos_iff.1 hpos
  rcases kq t c with ⟨_,h0⟩ | ⟨m,h1,h2,h3⟩
  ·exact absurd hmem h0
  ·have hI:=JZ t c
   rw[h1] at hI
   obtain ⟨hm1,_⟩:=List.getElem?_eq_some_iff.1 h2
   have hpa:=JX h2 h3
   have hsr:=yx d (t.take m) (t.count c)
   simp (disch:=omega) [wl,h]
   refine a7 hI ?_
   have hgr:=yy d (t.count c)
   have hcr:(t.drop (m+1)).count c+1=t.count c:=by
    have:=vg c t
    rw[hpa,List.length_cons,vg] at this
    omega
   simp (disch:=omega) [wl,aB,hgr,hsr]
   refine ⟨by omega,by omega,?_⟩
   refine ae (d++[t.take m],t.drop (m+1)) ⟨by simp;omega,by simp;omega,?_⟩ (by simp;omega) ?_
   ·rw[←hp,hpa];simp
   simp[hcr]
   exact aQ
 ·have h0:t.count c=0:=by omega
  have hnm:c∉t:=List.count_eq_zero.1 h0
  have hpa:=FL hnm
  have hsr:=yx d t 0
  have hgr:=yy d 0
  simp at hsr hgr
  simp (disch:=omega) [wl,h,h0,aB,hgr,hsr]
  refine ⟨by omega,?_⟩
  rw[←hp,hpa,List.take_of_length_le (by rw[aB];simp)]
theorem K0 (s:Str) (c:UInt8) (hs:s.length < 1000000):Fn G Tryz.prog jc [.str s,.str [c]] (.slice (ts (parts c s))):=by
 refine ac hm va (by simp) ?_
 simp[nZ,o0]
 refine a7 (E5 s c hs) ?_
 simp
end Go.Vs.YtmaenhgipojmfaaGreatDoor
namespace Go.Vs.YtmaenhgipojmfaaGreatDoor
set_option linter.unusedSimpArgs false
set_option linter.unusedVariables false
open Go.Proofs Go.Vs.U8 Go.Vs.Pa
set_option maxRecDepth 100000
set_option maxHeartbeats 4000000
theorem FN {c:UInt8} {r p:Str} {ps:List Str} (h:parts c r=p::ps):(∀ k,k < p.length→r[k]?=p[k]?∧r[k]?≠some c)∧(r[p.length]?=none∨r[p.length]?=some c):=by
 induction r generalizing p ps with
 | nil=>simp[parts] at h;obtain ⟨rfl,rfl⟩:=h;simp
 | cons x r ih=>
  simp only[parts] at h
  by_cases hx:x=c
  ·rw[if_pos hx] at h
   simp at h;obtain ⟨rfl,rfl⟩:=h
   simp[hx]
  ·rw[if_neg hx] at h
   split at h
   ·next hp=>exact absurd hp (p9 c r)
   ·next q qs hq=>
    simp at h;obtain ⟨rfl,rfl⟩:=h
    obtain ⟨h1,h2⟩:=ih hq
    refine ⟨fun k hk=>?_,by simpa using h2⟩
    cases k with
    | zero=>simp[hx]
    | succ k=>simpa using h1 k (by simpa using hk)
theorem B2 {c:UInt8} : ∀ {z:Nat} {r p:Str} {ps:List Str},parts c r=p::ps→z≤p.length→parts c (r.drop z)=p.drop z::ps
 | 0,r,p,ps,h,_=>h
 | z+1,[],p,ps,h,hz=>by simp[parts] at h;obtain ⟨rfl,rfl⟩:=h;simp at hz
 | z+1,x::r,p,ps,h,hz=>by
  simp only[parts] at h
  by_cases hx:x=c
  ·rw[if_pos hx] at h
   simp at h;obtain ⟨rfl,rfl⟩:=h
   simp at hz
  ·rw[if_neg hx] at h
   split at h
   ·next hp=>exact absurd hp (p9 c r)
   ·next q qs hq=>
    simp at h;obtain ⟨rfl,rfl⟩:=h
    show parts c (r.drop z)=q.drop z::qs
    exact B2 hq (by simpa using hz)
theorem Cr {r p:Str} {ps:List Str} (h:parts 10 r=p::ps) {k lo hi:Nat} (hlo:128≤lo) (hk:k≤p.length):tl p k lo hi=tl (r.map sp) k lo hi:=by
 obtain ⟨h1,h2⟩:=FN h
 unfold tl
 rw[List.getElem?_map]
 by_cases hkl:k < p.length
 ·obtain ⟨h3,h4⟩:=h1 k hkl
  rw[h3,List.getElem?_eq_getElem hkl]
  rw[h3,List.getElem?_eq_getElem hkl] at h4
  have:p[k].toNat≠10:=fun e=>h4 (by rw[←UInt8.toNat_inj.1 (show p[k].toNat=(10:UInt8).toNat from e)])
  simp[sp,this]
 ·obtain rfl:k=p.length:=by omega
  rw[List.getElem?_eq_none (Nat.le_refl _)]
  rcases h2 with h2 | h2
  ·rw[h2];rfl
  ·rw[h2];simp[sp];omega
theorem HY {r p:Str} {ps:List Str} (c:UInt8) (h:parts 10 r=p::ps):bD (c::p)=bD (c::r.map sp):=by
 have hlo:∀ n,128≤D0 n:=by
  intro n
  unfold D0
  split
  ·omega
  ·split <;> omega
 have t0:=fun lo hi (hl:128≤lo)=>Cr h (k:=0) (lo:=lo) (hi:=hi) hl (by omega)
 have e1:∀ lo hi,128≤lo→(tl p 0 lo hi&&tl p 1 128 191)=(tl (r.map sp) 0 lo hi&&tl (r.map sp) 1 128 191):=by
  intro lo hi hl
  by_cases hp:1≤p.length
  ·rw[t0 lo hi hl,Cr h (by omega) hp]
  ·have:tl p 0 lo hi=false:=by
    cases ht:tl p 0 lo hi with
    | false=>rfl
    | true=>have:=y9 ht;omega
   rw[←t0 lo hi hl,this];rfl
 have e2:∀ lo hi,128≤lo→(tl p 0 lo hi&&tl p 1 128 191&&tl p 2 128 191)=(tl (r.map sp) 0 lo hi&&tl (r.map sp) 1 128 191&&tl (r.map sp) 2 128 191):=by
  intro lo hi hl
  by_cases hp:2≤p.length
  ·rw[e1 lo hi hl,Cr h (by omega) hp]
  ·have:tl p 1 128 191=false:=by
    cases ht:tl p 1 128 191 with
    | false=>rfl
    | true=>have:=y9 ht;omega
   rw[←e1 lo hi hl,this];simp
 simp only[bD]
 rw[t0 128 191 (by omega)]
 have e1':=e1 (D0 c.toNat) (zy c.toNat) (hlo _)
 have e2':=e2 (D0 c.toNat) (zy c.toNat) (hlo _)
 simp only[Bool.and_assoc] at e1' e2' ⊢
 rw[e1',e2']
theorem vh:∀ (n:Nat) (v:Str),v.length≤n→(fp (v.map sp)=none↔∀ p∈parts 10 v,fp p=none)
 | _,[],_=>by simp[parts]
 | n+1,c::r,hn=>by
  rw[List.map_cons,kp (by simp)]
  by_cases hc:c=10
  ·subst hc
   have h1:eM (sp 10::r.map sp)=false:=by simp[eM,bD,sp]
   have h2:bD (sp 10::r.map sp)=1:=by simp[bD,sp]
   rw[h1,h2]
   simp only[Bool.false_eq_true,if_false,Option.map_eq_none_iff,List.drop_succ_cons,List.drop_zero]
   rw[vh n r (by simpa using hn)]
   simp[parts]
  ·have hcn:c.toNat≠10:=fun e=>hc (UInt8.toNat_inj.1 e)
   have hsp:sp c=c:=by simp[sp,hcn]
   obtain ⟨p,ps,hp⟩:=List.exists_cons_of_ne_nil (p9 10 r)
   have hv:parts 10 (c::r)=(c::p)::ps:=by simp[parts,hc,hp]
   have hz:=HY c hp
   rw[hv,hsp,List.forall_mem_cons,kp (l:=c::p) (by simp)]
   have ha:eM (c::p)=eM (c::r.map sp):=by simp only[eM,hz]
   rw[ha,←hz]
   cases ho:eM (c::r.map sp) with
   | true=>simp
   | false=>
    have h1:1≤bD (c::p):=ko (by rw[ha];exact ho) (by simp)
    have h2:=m4 (c::p)
    obtain ⟨z,hzz⟩:∃ z,bD (c::p)=z+1:=⟨bD (c::p)-1,by omega⟩
    rw[hzz] at h2 ⊢
    simp only[Bool.false_eq_true,if_false,Option.map_eq_none_iff,List.drop_succ_cons]
    have hd:=B2 hp (z:=z) (by simpa using h2)
    rw[←List.map_drop,vh n (r.drop z) (by simp at hn ⊢;omega),hd,List.forall_mem_cons]
theorem FO (v:Str):eD v=true↔∀ p∈parts 10 v,fp p=none:=by
 rw[←vh v.length v (Nat.le_refl _)]
 simp[eD]
theorem pa {c:UInt8} : ∀ {v p:Str},p∈parts c v→p.length≤v.length
 | [],p,h=>by simp[parts] at h;simp[h]
 | x::r,p,h=>by
  simp only[parts] at h
  split at h
  ·rcases List.mem_cons.1 h with rfl | h
   ·simp
   ·have:=pa h;simp;omega
  ·split at h
   ·next hp=>exact absurd hp (p9 c r)
   ·next q qs hq=>
    have hr:∀ p,p∈q::qs→p.length≤r.length:=fun p hm=>pa (by rw[hq];exact hm)
    rcases List.mem_cons.1 h with rfl | h
    ·have:=hr q (by simp);simp;omega
    ·have:=hr p (by simp[h]);simp;omega
theorem LQ (s:Str) (hs:s.length < 1000000):Fn G Tryz.prog ni [.str s] (.bool (eD s)):=by
 refine ac hm zY (by simp) ?_
 simp[tE,tF]
 refine aA hm [] (fun i:Nat=>[(4,.val (.int .i64 i)),(3,.own 3 i)]) (fun i=>[(3,.arr i 1 (av ((s.map sp).take i)))]) (fun i=>i≤s.length) (fun i=>s.length-i) 0 (by omega) ?_ ?_
 ·simp[av]
  exact aS.trans (ce (k:=3) 3 1 (by simp) (by simp[ap,a8])) (an rfl rfl (by simp[St.adopt,aR,ap,a8,put,ba,SV.erase]) (by simp[St.adopt,bM,a8,put,aE,Ob.erase]) (by simp[St.adopt,bQ]))
 intro i hi
 simp
 by_cases h:i < s.length
 ·obtain ⟨c,hc⟩:∃ c,s[i]=c:=⟨_,rfl⟩
  have ht:(s.map sp).take (i+1)=(s.map sp).take i++[sp c]:=by rw[List.take_succ_eq_append_getElem (by simpa using h),List.getElem_map,hc]
  have hlt:=l7 c
  have hb:(av ((s.map sp).take i)).length≤1000000:=by simp[av];omega
  have hb2:(av ((s.map sp).take i)).length+1≤281474976710656:=by omega
  by_cases h1:c.toNat=10
  ·have hsp:sp c=32:=by simp[sp,h1]
   rw[hsp] at ht
   simp (disch:=omega) [wl,hc,hb2]
   refine ⟨by omega,?_⟩
   refine ae (i+1) (by omega) (by omega) ?_
   simp[ht,cJ]
   exact aQ
  ·have hsp:sp c=c:=by simp[sp,h1]
   rw[hsp] at ht
   simp (disch:=omega) [wl,hc,hb2]
   refine ⟨by omega,?_⟩
   refine ae (i+1) (by omega) (by omega) ?_
   simp[ht,cJ]
   exact aQ
 ·obtain rfl:i=s.length:=by omega
  have hO:=jE (s.map sp) (by simpa using hs)
  have he:(s.map sp).take s.length=s.map sp:=List.take_of_length_le (by simp)
  simp (disch:=omega) [wl,t8,he]
  refine a7 hO ?_
  cases ho:fp (s.map sp) with
  | none=>simp[eD,ho,eN]
  | some k=>
   have:¬((k:Int) = -1):=by omega
   simp[eD,ho,eN,this]
end Go.Vs.YtmaenhgipojmfaaGreatDoor
namespace Go.Vs.YtmaenhgipojmfaaGreatDoor
set_option linter.unusedSimpArgs false
set_option linter.unusedVariables false
open Go.Proofs Go.Vs.U8 Go.Vs.Pa
set_option maxRecDepth 100000
set_option maxHeartbeats 4000000
structure Pm where
 n:Str
 v:List Str
 deriving DecidableEq
def Pm.iv (p:Pm):IV:=.agg [.str p.n,.slice (ts p.v)]
def ps (l:List Pm):List (List IV):=l.map fun p=>[.str p.n,.slice (ts p.v)]
theorem aw (l:List Pm):(ps l).length=l.length:=by simp[ps]
theorem jg {d:List Str} {i:Nat} {x:Str} (h:i < d.length) (hx:d[i]=x):(ts d)[i]?=some [.str x]:=by simp[ts,h,hx]
theorem gh {d:List Pm} {i:Nat} {x:Pm} (h:i < d.length) (hx:d[i]=x):(ps d)[i]?=some [.str x.n,.slice (ts x.v)]:=by simp[ps,h,hx]
def ex:List Str→Int
 | []=>0
 | x::r=>if 60 < x.length then 5 else if eD x then ex r else 10
def bu (p:Pm):Int:=if ax p.n then (if p.v.length=0∨6 < p.v.length then 20 else ex p.v) else 4
theorem B3 (p:Pm) (hn:p.n.length < 1000000):Fn G Tryz.prog iJ [p.iv] (.int .i64 (bu p)):=by
 refine ac hm yl (by simp) ?_
 simp[qR,qS,Pm.iv]
 refine a7 (p7 p.n hn) ?_
 obtain ⟨n,v⟩:=p
 simp only at *
 cases h1:ax n with
 | false=>simp[bu,h1]
 | true=>
  have hP:bu ⟨n,v⟩=if v.length=0∨6 < v.length then 20 else ex v:=by simp[bu,h1]
  simp[aB]
  by_cases h2:v.length < 1
  ·rw[if_pos (by omega)] at hP
   simp (disch:=omega) [wl,aB,hP]
  ·by_cases h3:6 < v.length
   ·rw[if_pos (by omega)] at hP
    simp (disch:=omega) [wl,aB,hP]
   ·rw[if_neg (by omega)] at hP
    rw[hP]
    simp (disch:=omega) [wl,aB]
    refine aA hm [] (fun i:Nat=>[(3,.val (.int .i64 i))]) (fun i=>[]) (fun i=>i≤v.length∧ex (v.drop i)=ex v) (fun i=>v.length-i) 0 ⟨by omega,by simp⟩ ?_ ?_
    ·simp
     exact aQ
    rintro i ⟨hi,hc⟩
    simp[aB]
    by_cases h:i < v.length
    ·obtain ⟨x,hx⟩:∃ x,v[i]=x:=⟨_,rfl⟩
     have hg:=jg h hx
     have hd:v.drop i=x::v.drop (i+1):=by rw[←hx];exact List.drop_eq_getElem_cons h
     rw[hd,ex] at hc
     by_cases h4:60 < x.length
     ·rw[if_pos h4] at hc
      simp (disch:=omega) [wl,aB,hg,←hc]
     ·rw[if_neg h4] at hc
      have hF:=LQ x (by omega)
      cases h5:eD x with
      | false=>
       rw[h5] at hc hF
       simp (disch:=omega) [wl,aB,hg]
       refine a7 hF ?_
       simp at hc
       simp[←hc]
      | true=>
       rw[h5] at hc hF
       simp (disch:=omega) [wl,aB,hg]
       refine a7 hF ?_
       simp at hc
       simp (disch:=omega) [wl]
       refine ae (i+1) ⟨by omega,hc⟩ (by omega) ?_
       simp
       exact aQ
    ·obtain rfl:i=v.length:=by omega
     simp[ex] at hc
     simp[←hc]
theorem E6 (p:Pm) (hn:p.n.length < 1000000):Fn G Tryz.prog iL [p.iv] (.int .i64 (bu p)):=by
 refine ac hm ym (by simp) ?_
 simp[qT,qU,Pm.iv]
 refine a7 (tI p.n hn) ?_
 obtain ⟨n,v⟩:=p
 simp only at *
 cases h1:ax n with
 | false=>simp[bu,h1]
 | true=>
  have hP:bu ⟨n,v⟩=if v.length=0∨6 < v.length then 20 else ex v:=by simp[bu,h1]
  simp[aB]
  by_cases h2:v.length=0
  ·rw[if_pos (by omega)] at hP
   obtain rfl:v=[]:=List.length_eq_zero_iff.1 h2
   simp (disch:=omega) [wl,aB,hP]
  ·have h2':¬v=[]:=fun e=>h2 (by rw[e];rfl)
   by_cases h3:6 < v.length
   ·rw[if_pos (by omega)] at hP
    simp (disch:=omega) [wl,aB,hP,h2']
   ·rw[if_neg (by omega)] at hP
    rw[hP]
    simp (disch:=omega) [wl,aB,h2']
    refine aA hm [] (fun i:Nat=>[(24,.val (.int .i64 i))]) (fun i=>[]) (fun i=>i≤v.length∧ex (v.drop i)=ex v) (fun i=>v.length-i) 0 ⟨by omega,by simp⟩ ?_ ?_
    ·simp
     exact aQ
    rintro i ⟨hi,hc⟩
    simp[aB]
    by_cases h:i < v.length
    ·obtain ⟨x,hx⟩:∃ x,v[i]=x:=⟨_,rfl⟩
     have hg:=jg h hx
     have hd:v.drop i=x::v.drop (i+1):=by rw[←hx];exact List.drop_eq_getElem_cons h
     rw[hd,ex] at hc
     by_cases h4:60 < x.length
     ·rw[if_pos h4] at hc
      simp (disch:=omega) [wl,aB,hg,←hc]
     ·rw[if_neg h4] at hc
      have hS:=K0 x 10 (by omega)
      have hfp:=FO x
      have hps:∀ p∈parts 10 x,p.length < 1000000:=fun p hp=>by have:=pa hp;omega
      have hpl:(parts 10 x).length≤100:=by
       rw[vg]
       have:x.count 10≤x.length:=List.count_le_length
       omega
      obtain ⟨P,hP'⟩:∃ P,parts 10 x=P:=⟨_,rfl⟩
      rw[hP'] at hS hfp hps hpl
      simp (disch:=omega) [wl,aB,hg]
      refine a7 hS ?_
      simp (disch:=omega) [wl,aB]
      refine aA hm [] (fun j:Nat=>[(34,.val (.int .i64 j))]) (fun i=>[]) (fun j=>j≤P.length∧∀ p∈P.take j,fp p=none) (fun j=>P.length-j) 0 ⟨by omega,by simp⟩ ?_ ?_
      ·simp
       exact aQ
      rintro j ⟨hj,ho⟩
      simp[aB]
      by_cases h6:j < P.length
      ·obtain ⟨y,hy⟩:∃ y,P[j]=y:=⟨_,rfl⟩
       have hg2:=jg h6 hy
       have hym:y∈P:=hy▸List.getElem_mem h6
       have hO:=Ci y (hps y hym)
       simp (disch:=omega) [wl,aB,hg2]
       refine a7 hO ?_
       cases h7:fp y with
       | some k=>
        have h5:eD x=false:=by
         cases hf:eD x with
         | false=>rfl
         | true=>have:=hfp.1 hf y hym;rw[h7] at this;cases this
        rw[h5] at hc
        simp at hc
        simp (disch:=omega) [wl,eN,←hc]
       | none=>
        simp (disch:=omega) [wl,eN]
        refine ae (j+1) ⟨by omega,?_⟩ (by omega) ?_
        ·intro p hp
         rw[List.take_succ_eq_append_getElem h6,List.mem_append] at hp
         rcases hp with hp | hp
         ·exact ho p hp
         ·rw[List.mem_singleton.1 hp,hy];exact h7
        ·simp
         exact aQ
      ·obtain rfl:j=P.length:=by omega
       have h5:eD x=true:=hfp.2 (by simpa using ho)
       rw[h5] at hc
       simp at hc
       simp (disch:=omega) [wl]
       refine ae (i+1) ⟨by omega,hc⟩ (by omega) ?_
       simp
       exact aQ
    ·obtain rfl:i=v.length:=by omega
     simp[ex] at hc
     simp[←hc]
end Go.Vs.YtmaenhgipojmfaaGreatDoor
