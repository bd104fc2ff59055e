/- The walk of utf's Cut, of fold's Fold and Join, and of the document's. No conditions. -/
import Derived.Test.YtmaenhgipojmfaaGreatDoorTC
import Derived.Test.YtmaenhgipojmfaaGreatDoorTA
import Derived.Test.YtmaenhgipojmfaaGreatDoorBI
import Derived.Test.YtmaenhgipojmfaaGreatDoorBD
set_option linter.unusedVariables false
set_option linter.unusedSimpArgs false
namespace Go.Vs.U8
end Go.Vs.U8
namespace Go.Vs.Fd
end Go.Vs.Fd
namespace Go.Vs.YtmaenhgipojmfaaGreatDoor
set_option linter.unusedSimpArgs false
set_option linter.unusedVariables false
open Go.Proofs Go.Vs.U8 Go.Vs.Fd
set_option maxRecDepth 100000
set_option maxHeartbeats 8000000
theorem M5 (s:Str) (n:Nat) (hs:s.length < 1000000) (hn:n < 1000000):Fn G Tryz.prog vq [.str s,.int .i64 n] (.int .i64 (bf s n)):=by
 refine ac hm G8 (by simp) ?_
 by_cases h0:s.length≤n
 ·have:=GA _ s n (Nat.le_refl _) h0
  simp (disch:=omega) [vr,vt,aI,this]
 simp (disch:=omega) [vr,vt,bp]
 refine aA hm [] (fun x:Nat×Nat=>[(5,.val (.int .i64 x.2))]) (fun x=>[(14,.iter s x.1)]) (fun x=>wg s n x.2∧x.1≤s.length∧((x.1=0∧x.2=0)∨(x.2 < s.length∧x.1=x.2+dH (s.drop x.2)))) (fun x=>s.length-x.1) (0,0) ⟨yT s n,by omega,.inl ⟨rfl,rfl⟩⟩ ?_ ?_
 ·simp
  exact aQ
 rintro ⟨p,L⟩ ⟨h1,h2,h3⟩
 simp only at h1 h2 h3
 simp
 by_cases h:p < s.length
 ·have hdd:=oR s p (by omega)
  have hst:=Ib (l:=s.drop p) (by intro e;have:=congrArg List.length e;rw[List.length_drop] at this;simp at this;omega)
  have hsl:=pq (l:=s.drop p) (by intro e;have:=congrArg List.length e;rw[List.length_drop] at this;simp at this;omega)
  have hpos:=iy (s.drop p)
  rw[List.length_drop] at hsl
  obtain ⟨⟨r,k⟩,hk⟩:∃ q,AX (s.drop p)=q:=⟨_,rfl⟩
  rw[hk] at hdd hst
  simp only at hst
  by_cases hpn:n < p
  ·have hR:bf s n=L:=by
    rcases h3 with ⟨rfl,rfl⟩ | ⟨h4,h5⟩
    ·omega
    ·exact (kz h1 h4).2.1 (by omega)
   simp[h,hdd]
   simp (disch:=omega) [wl,hR]
  ·have hA:wg s n p:=by
    rcases h3 with ⟨rfl,rfl⟩ | ⟨h4,h5⟩
    ·exact h1
    ·rw[h5];exact (kz h1 h4).1 (by omega)
   simp[h,hdd]
   simp (disch:=omega) [wl]
   refine ae (p+k,p) ⟨hA,by simp only;omega,.inr ⟨h,by simp only;rw[hst]⟩⟩ (by simp only;omega) ?_
   simp
   exact aQ
 ·have hR:bf s n=L:=by
   rcases h3 with ⟨rfl,rfl⟩ | ⟨h4,h5⟩
   ·omega
   ·exact (kz h1 h4).2.1 (by omega)
  simp[h,hR]
theorem Ey (s:Str) (n:Nat) (hs:s.length < 1000000) (hn:n < 1000000):Fn G Tryz.prog lg [.str s,.int .i64 n] (.int .i64 (bf s n)):=by
 refine ac hm CS (by simp) ?_
 simp[wz,wA]
 refine aA hm [] (fun x:Nat×Nat=>[(6,.val (.int .i64 x.1)),(5,.val (.int .i64 x.2))]) (fun x=>[]) (fun x=>x.1≤s.length∧((wg s n x.1∧x.2=x.1)∨(n < x.1∧bf s n=x.2))) (fun x=>s.length-x.1) (0,0) ⟨by omega,.inl ⟨yT s n,rfl⟩⟩ ?_ ?_
 ·simp
  exact aQ
 rintro ⟨i,L⟩ ⟨h2,h3⟩
 simp only at h2 h3
 simp
 by_cases h:i < s.length
 ·have hS:=Gt s i hs h
  have hsl:=pq (l:=s.drop i) (by intro e;have:=congrArg List.length e;rw[List.length_drop] at this;simp at this;omega)
  have hpos:=iy (s.drop i)
  rw[List.length_drop] at hsl
  have hmx:max (1:Int) ((bD (s.drop i):Nat):Int)=((dH (s.drop i):Nat):Int):=by unfold dH;omega
  obtain ⟨k,hk⟩:∃ k,dH (s.drop i)=k:=⟨_,rfl⟩
  rw[hk] at hmx hsl hpos
  simp (disch:=omega) [wl]
  refine a7 hS ?_
  by_cases hik:i+k≤n
  ·have hA:wg s n (i+k):=by
    rcases h3 with ⟨h4,h5⟩ | ⟨h4,h5⟩
    ·rw[←hk];exact (kz h4 h).1 (by omega)
    ·omega
   simp (disch:=omega) [wl,hmx]
   refine ae (i+k,i+k) ⟨by simp only;omega,.inl ⟨hA,rfl⟩⟩ (by simp only;omega) ?_
   simp
   exact aQ
  ·have hA:n < i+k∧bf s n=L:=by
    refine ⟨by omega,?_⟩
    rcases h3 with ⟨h4,h5⟩ | ⟨h4,h5⟩
    ·rw[h5];exact (kz h4 h).2.1 (by omega)
    ·exact h5
   simp (disch:=omega) [wl,hmx]
   refine ae (i+k,L) ⟨by simp only;omega,.inr hA⟩ (by simp only;omega) ?_
   simp
   exact aQ
 ·obtain rfl:i=s.length:=by omega
  have hR:bf s n=L:=by
   rcases h3 with ⟨h4,h5⟩ | ⟨h4,h5⟩
   ·rw[h5];exact Ic h4
   ·exact h5
  simp (disch:=omega) [wl,hR]
theorem zd:∀ (f:Nat) (l:Str) (n:Nat),l.length≤f→4≤n→(eS l n).length≤4*l.length+2
 | f,l,n,hf,hn=>by
  rw[gB l hn]
  have h1:=ub l n
  by_cases hd:l.drop (bf l n)=[]
  ·rw[if_pos hd]
   simp only[List.length_append,List.length_take,List.length_cons,List.length_nil]
   omega
  ·rw[if_neg hd]
   have hne:l≠[]:=fun e=>hd (by rw[e];rfl)
   have hp:=gY hne hn
   cases f with
   | zero=>exact absurd (List.length_eq_zero_iff.1 (by omega)) hne
   | succ f=>
    have:=zd f (l.drop (bf l n)) 74 (by rw[List.length_drop];omega) (by omega)
    rw[List.length_drop] at this
    simp only[List.length_append,List.length_take,List.length_cons]
    omega
theorem ze (l:Str):(gZ l).length≤4*l.length+2:=zd _ l 75 (Nat.le_refl _) (by omega)
theorem M6 (s:Str) (hs:s.length < 200000):Fn G Tryz.prog pC [.str s] (.str (gZ s)):=by
 refine ac hm CR (by simp) ?_
 have hfl:=ze s
 simp[wx,wy]
 refine aA hm [] (fun x:Nat×Str×Str×Nat=>[(0,.val (.str x.2.1)),(4,.val (.int .i64 x.2.2.2))]) (fun x=>[(3,.box [.selfN 3 151 false,.ownT 1 x.1 5]),(1,.arr x.1 1 (av x.2.2.1))]) (fun x=>x.2.1.length≤s.length∧4≤x.2.2.2∧x.2.2.2≤75∧gZ s=x.2.2.1++eS x.2.1 x.2.2.2) (fun x=>x.2.1.length) (0,s,[],75) ⟨Nat.le_refl _,by simp,by simp,rfl⟩ ?_ ?_
 ·exact aS.trans (m3 (k:=3) (d:=3) (t:=151) 1 5 (by simp) (by simp) (by simp[ap,a8]) (by simp[a8]) (by simp)) (an rfl rfl (by simp[St.bld,aR,ap,a8,put,ba,SV.erase]) (by simp[St.bld,bM,a8,put,aE,cc,Ob.erase,SV.erase,av]) (by simp[St.bld,bQ]))
 rintro ⟨v,t,o,n⟩ ⟨h1,h2,h3,h4⟩
 simp only at h1 h2 h3 h4
 have hC:=M5 t n (by omega) (by omega)
 have hcl:=ub t n
 have hcp:t≠[]→1≤bf t n:=fun e=>gY e h2
 rw[gB t h2] at h4
 have hlo:o.length+bf t n+2≤(gZ s).length:=by
  rw[h4]
  simp only[List.length_append,List.length_take,List.length_cons]
  omega
 obtain ⟨k,hk⟩:∃ k,bf t n=k:=⟨_,rfl⟩
 rw[hk] at hC hcl hcp h4 hlo
 have hW1:=g9 v o (t.take k) (by rw[List.length_take];omega)
 simp (disch:=omega) [wl]
 refine a7 hC ?_
 have hW2:=g9 (v+1) (o++t.take k) [13,10] (by rw[List.length_append,List.length_take];simp;omega)
 simp (disch:=omega) [wl]
 refine ⟨by omega,?_⟩
 refine callM [(1000,3),(1001,1)] [] hW1 rfl rfl ⟨rfl,rfl,trivial⟩ ⟨rfl,_,_,rfl,rfl,rfl⟩ rfl ?_
 simp[bb]
 refine callM [(1000,3),(1001,1)] [] hW2 rfl rfl ⟨rfl,rfl,trivial⟩ ⟨rfl,_,_,rfl,rfl,rfl⟩ rfl ?_
 simp (disch:=omega) [wl,bb]
 refine ⟨by omega,?_⟩
 by_cases hd:t.drop k=[]
 ·rw[if_pos hd] at h4
  have h4':gZ s=o++t.take k++[13,10]:=by rw[h4];simp
  have hS:=iq (v+1+1) (o++(t.take k++[13,10])) (by rw[←List.append_assoc,←h4'];omega)
  have hd':t.length≤k:=by simpa using hd
  simp (disch:=omega) [wl]
  refine callM [(1000,3),(1001,1)] [] hS rfl rfl ⟨rfl,rfl,trivial⟩ ⟨rfl,rfl⟩ rfl ?_
  simp[h4]
 ·rw[if_neg hd] at h4
  have hne:t≠[]:=fun e=>hd (by rw[e];simp)
  have:=hcp hne
  have hW3:=em (v+1+1) (o++(t.take k++[13,10])) 32 (by simp;omega)
  have hd':¬t.length≤k:=by simpa using hd
  simp (disch:=omega) [wl]
  refine callM [(1000,3),(1001,1)] [] hW3 rfl rfl ⟨rfl,rfl,trivial⟩ ⟨rfl,_,_,rfl,rfl,rfl⟩ rfl ?_
  simp (disch:=omega) [wl,bb]
  refine ae (v+1+1+1,t.drop k,o++(t.take k++[13,10])++[32],74) ⟨by simp only[List.length_drop];omega,by simp,by simp,by rw[h4];simp⟩ (by simp only[List.length_drop];omega) ?_
  simp
  exact aQ
theorem Ks (s:Str) (hs:s.length < 200000):Fn G Tryz.prog nP [.str s] (.str (gZ s)):=by
 refine ac hm Ak (by simp) ?_
 have hfl:=ze s
 have h4:gZ s=eS s 75:=rfl
 have hC:=Ey s 75 (by omega) (by omega)
 have hcl:=ub s 75
 have hcp:s≠[]→1≤bf s 75:=fun e=>gY e (by omega)
 rw[gB s (by omega)] at h4
 obtain ⟨k,hk⟩:∃ k,bf s 75=k:=⟨_,rfl⟩
 rw[hk] at hC hcl hcp h4
 simp[uC,uD]
 refine a7 hC ?_
 simp (disch:=omega) [wl]
 refine ⟨by omega,by omega,by omega,?_⟩
 refine aA hm [3] (fun x:Str×Str=>[(0,.val (.str x.1)),(4,.val (.str x.2))]) (fun _=>[]) (fun x=>x.1.length≤s.length∧gZ s=x.2++(if x.1=[] then [] else 32::eS x.1 74)) (fun x=>x.1.length) (s.drop k,s.take k++[13,10]) ⟨by simp,by rw[h4];simp⟩ ?_ ?_
 ·simp
  exact aQ
 rintro ⟨t,o⟩ ⟨h1,h2⟩
 simp only at h1 h2
 by_cases ht:t=[]
 ·subst ht
  rw[if_pos rfl,List.append_nil] at h2
  simp (disch:=omega) [wl,h2]
 ·rw[if_neg ht,gB t (by omega)] at h2
  have hC:=Ey t 74 (by omega) (by omega)
  have hcl:=ub t 74
  have hcp:1≤bf t 74:=gY ht (by omega)
  have htl:1≤t.length:=by omega
  have hlo:o.length+bf t 74+3≤(gZ s).length:=by
   rw[h2]
   simp only[List.length_append,List.length_take,List.length_cons]
   omega
  obtain ⟨k,hk⟩:∃ k,bf t 74=k:=⟨_,rfl⟩
  rw[hk] at hC hcl hcp h2 hlo
  simp (disch:=omega) [wl]
  refine a7 hC ?_
  simp (disch:=omega) [wl]
  refine ⟨by omega,by omega,by omega,by omega,by omega,?_⟩
  refine ae (t.drop k,o++(32::(t.take k++[13,10]))) ⟨by simp only[List.length_drop];omega,by rw[h2];simp⟩ (by simp only[List.length_drop];omega) ?_
  simp
  exact aQ
theorem zf {l:List Str} {i:Nat} (h:i < l.length):cT (l.take (i+1))=cT (l.take i)++gZ l[i]:=by
 unfold cT
 rw[List.take_succ_eq_append_getElem h,List.map_append,List.flatten_append]
 simp
theorem Ez (l:List Str) (i:Nat):(cT (l.take i)).length≤(cT l).length:=by
 have h:cT l=cT (l.take i)++cT (l.drop i):=by
  unfold cT
  rw[←List.flatten_append,←List.map_append,List.take_append_drop]
 rw[h,List.length_append]
 omega
theorem Kt (l:List Str) (hl:l.length < 100000) (hx:∀ x∈l,x.length < 200000) (hj:(cT l).length < 90000000):Fn G Tryz.prog pA [.slice (ts l)] (.str (cT l)):=by
 refine ac hm CP (by simp) ?_
 simp[wt,wu,aB]
 refine aA hm [] (fun i:Nat=>[(8,.val (.int .i64 i))]) (fun i=>[(3,.box [.selfN 3 151 false,.ownT 1 i 5]),(1,.arr i 1 (av (cT (l.take i))))]) (fun i=>i≤l.length) (fun i=>l.length-i) 0 (by omega) ?_ ?_
 ·simp[qf]
  exact aS.trans (m3 (k:=3) (d:=3) (t:=151) 1 5 (by simp) (by simp) (by simp[ap,a8]) (by simp[a8]) (by simp)) (an rfl rfl (by simp[St.bld,aR,ap,a8,put,ba,SV.erase]) (by simp[St.bld,bM,a8,put,aE,cc,Ob.erase,SV.erase,av]) (by simp[St.bld,bQ]))
 intro i hi
 simp
 by_cases h:i < l.length
 ·obtain ⟨x,hx'⟩:∃ x,l[i]=x:=⟨_,rfl⟩
  have hg:=jg h hx'
  have hxl:=hx x (hx'▸List.getElem_mem h)
  have hF:=M6 x hxl
  have hjt:=zf h
  rw[hx'] at hjt
  have hle:=Ez l (i+1)
  rw[hjt,List.length_append] at hle
  have hW:=g9 i (cT (l.take i)) (gZ x) (by omega)
  simp (disch:=omega) [wl,aB,hg]
  refine a7 hF ?_
  simp
  refine callM [(1000,3),(1001,1)] [] hW rfl rfl ⟨rfl,rfl,trivial⟩ ⟨rfl,_,_,rfl,rfl,rfl⟩ rfl ?_
  simp (disch:=omega) [wl,bb]
  refine ae (i+1) (by omega) (by omega) ?_
  simp[hjt]
  exact aQ
 ·obtain rfl:i=l.length:=by omega
  rw[List.take_length]
  have hS:=iq l.length (cT l) (by omega)
  simp (disch:=omega) [wl]
  refine callM [(1000,3),(1001,1)] [] hS rfl rfl (by simp[oK,bb,Vs.ren,a8,Ob.ren,SV.ren]) ⟨rfl,rfl⟩ rfl ?_
  simp
theorem Ig (l:List Str) (hl:l.length < 100000) (hx:∀ x∈l,x.length < 200000) (hj:(cT l).length < 90000000):Fn G Tryz.prog nN [.slice (ts l)] (.str (cT l)):=by
 refine ac hm Ai (by simp) ?_
 simp[uy,uz,aB]
 refine aA hm [] (fun i:Nat=>[(4,.val (.int .i64 i)),(3,.val (.str (cT (l.take i))))]) (fun i=>[]) (fun i=>i≤l.length) (fun i=>l.length-i) 0 (by omega) ?_ ?_
 ·simp[qf]
  exact aQ
 intro i hi
 simp
 by_cases h:i < l.length
 ·obtain ⟨x,hx'⟩:∃ x,l[i]=x:=⟨_,rfl⟩
  have hg:=jg h hx'
  have hxl:=hx x (hx'▸List.getElem_mem h)
  have hF:=Ks x hxl
  have hjt:=zf h
  rw[hx'] at hjt
  have hle:=Ez l (i+1)
  rw[hjt,List.length_append] at hle
  simp (disch:=omega) [wl,aB,hg]
  refine a7 hF ?_
  simp (disch:=omega) [wl]
  refine ⟨by omega,?_⟩
  refine ae (i+1) (by omega) (by omega) ?_
  simp[hjt]
  exact aQ
 ·obtain rfl:i=l.length:=by omega
  rw[List.take_length]
  simp (disch:=omega) [wl,aB]
end Go.Vs.YtmaenhgipojmfaaGreatDoor
namespace Go.Vs.YtmaenhgipojmfaaGreatDoor
set_option linter.unusedSimpArgs false
set_option linter.unusedVariables false
open Go.Proofs Go.Vs.U8 Go.Vs.Fd
set_option maxRecDepth 100000
set_option maxHeartbeats 8000000
def x6 (l:List (Nat×Nat)):List (List IV):=l.map fun p=>[.int .i64 p.1,.int .i64 p.2]
theorem x7 (l:List (Nat×Nat)):(x6 l).length=l.length:=by simp[x6]
theorem EA (l:List (Nat×Nat)) (p:Nat×Nat):x6 (l++[p])=x6 l++[[.int .i64 p.1,.int .i64 p.2]]:=by simp[x6]
def fB (x:Lf):List IV:=[.str x.t,.slice (x6 x.ps)]
def uE (l:List Lf):List (List IV):=l.map fB
theorem aj (l:List Lf):(uE l).length=l.length:=by simp[uE]
theorem EB (l:List Lf) (x:Lf):uE (l++[x])=uE l++[fB x]:=by simp[uE]
theorem GJ {l:List Lf} {i:Nat} {x:Lf} (h:i < l.length) (hx:l[i]=x):(uE l)[i]?=some [.str x.t,.slice (x6 x.ps)]:=by simp[uE,fB,h,hx]
theorem pH (D:List Lf) (r:List IV):(uE D++[r])[D.length]?=some r:=by
 rw[List.getElem?_append_right (by rw[aj];exact Nat.le_refl _),aj,Nat.sub_self];rfl
theorem zg (D:List Lf) (r r':List IV):(uE D++[r]).set D.length r'=uE D++[r']:=by
 rw[List.set_append_right _ _ (by rw[aj];exact Nat.le_refl _),aj,Nat.sub_self];rfl
theorem Ku (v w:Nat) (D:List Lf) (x:Lf) (row:Str) (a:Nat) (h1:x.t.length+row.length < 1000000) (h2:x.ps.length < 1000000):zx G Tryz.prog bU
  {args:=[.teloc 1000 v D.length 0,.val (.str row),.val (.int .i64 a)],objs:=[(1000,.tab v 2 (uE D++[fB x]) [(D.length,1,.own 1001 w)]),(1001,.arr w 2 (x6 x.ps))],ro:=[1001],res:=.val (.tuple []),
   objs':=[(1000,.tab v 2 (uE D++[fB ⟨x.t++row,x.ps++[(x.t.length,a)]⟩]) [(D.length,1,.own 1001 (w+1))]),(1001,.arr (w+1) 2 (x6 (x.ps++[(x.t.length,a)])))],ro':=[1001] }:=by
 refine bA hm fA (by simp) rfl ?_
 simp[du,dv,uO,fB,pH,x7]
 refine ⟨by omega,rfl,?_⟩
 simp[pH,zg]
 refine ⟨by omega,?_⟩
 refine ⟨⟨[],[(1000,.tab v 2 (uE D++[fB ⟨x.t++row,x.ps++[(x.t.length,a)]⟩]) [(D.length,1,.own 1001 (w+1))]),(1001,.arr (w+1) 2 (x6 (x.ps++[(x.t.length,a)])))],[1001],30,G⟩,[],?_,by simp[fB],rfl,rfl⟩
 simp[fB,EA]
 exact aQ
theorem Ih (v:Nat) (D:List Lf) (row:Str) (a:Nat) (h1:row.length < 1000000):zx G Tryz.prog bU
  {args:=[.teloc 1000 v D.length 0,.val (.str row),.val (.int .i64 a)],objs:=[(1000,.tab v 2 (uE D++[[.str [],.slice []]]) [(D.length,1,.nils)])],ro:=[],res:=.val (.tuple []),
   objs':=[(1000,.tab v 2 (uE D++[fB ⟨row,[(0,a)]⟩]) [(D.length,1,.own 19 0)]),(19,.arr 0 2 (x6 [(0,a)]))],ro':=[19] }:=by
 refine bA hm fA (by simp) rfl ?_
 simp[du,dv,uO,pH]
 refine ⟨rfl,?_⟩
 simp[pH,zg]
 refine ⟨by omega,?_⟩
 refine ⟨⟨[],[(1000,.tab v 2 (uE D++[fB ⟨row,[(0,a)]⟩]) [(D.length,1,.own 19 0)]),(19,.arr 0 2 (x6 [(0,a)]))],[19],30,G⟩,[],?_,rfl,rfl,rfl⟩
 simp[fB,x6]
 exact aQ
def Al (a:Nat):RowR→IV
 | .ok n nx=>.tuple [.int .i64 (a+n:Nat),.int .i64 (a+nx:Nat),.bool false]
 | .bad n=>.tuple [.int .i64 (a+n:Nat),.int .i64 (a+n:Nat),.bool true]
theorem Kv (c:UInt8):cX c=decide (c.toNat=10∨c.toNat=13):=by
 rw[Bool.eq_iff_iff]
 simp only[cX,Bool.or_eq_true,beq_iff_eq,decide_eq_true_eq,←UInt8.toNat_inj]
 exact Iff.rfl
theorem Kw {s:Str} {a k:Nat} : (s.drop a)[k]?=s[a+k]?:=List.getElem?_drop
theorem Nn (s:Str) (a:Nat) (hs:s.length < 1000000) (ha:a≤s.length):Fn G Tryz.prog pB [.str s,.int .i64 a] (Al a (jk (s.drop a))):=by
 refine ac hm CQ (by simp) ?_
 obtain ⟨R,hR⟩:∃ R,jk (s.drop a)=R:=⟨_,rfl⟩
 rw[hR]
 unfold jk at hR
 simp only[Kw,List.length_drop] at hR
 simp[wv,ww]
 refine aA hm [] (fun i:Nat=>[(7,.val (.int .i64 i))]) (fun _=>[]) (fun i=>a≤i∧i≤s.length∧(s.drop a).findIdx cX=(i-a)+(s.drop i).findIdx cX) (fun i=>s.length-i) a ⟨by omega,by omega,by simp⟩ ?_ ?_
 ·simp
  exact aQ
 rintro i ⟨h1,h2,h3⟩
 simp
 by_cases h:i < s.length
 ·obtain ⟨c,hx⟩:∃ c,s[i]=c:=⟨_,rfl⟩
  have hc':s[i]?=some c:=by rw[←hx];exact List.getElem?_eq_getElem h
  have hd:s.drop i=c::s.drop (i+1):=by rw[←hx];exact List.drop_eq_getElem_cons h
  rw[hd,List.findIdx_cons,Kv] at h3
  have hlt:=l7 c
  by_cases c10:c.toNat=10
  ·rw[decide_eq_true (by omega)] at h3
   simp only[cond_true,Nat.add_zero] at h3
   rw[h3,if_neg (by omega),show a+(i-a)=i by omega,hc',if_pos (by simp[←UInt8.toNat_inj,c10])] at hR
   subst hR
   simp (disch:=omega) [wl,hx,c10]
   simp[Al]
   omega
  ·by_cases c13:c.toNat=13
   ·rw[decide_eq_true (by omega)] at h3
    simp only[cond_true,Nat.add_zero] at h3
    rw[h3,if_neg (by omega),show a+(i-a)=i by omega,hc',if_neg (by simp[←UInt8.toNat_inj,c10]),show a+(i-a+1)=i+1 by omega] at hR
    by_cases h5:i+1 < s.length
    ·obtain ⟨d,hy⟩:∃ d,s[i+1]=d:=⟨_,rfl⟩
     have hd':s[i+1]?=some d:=by rw[←hy];exact List.getElem?_eq_getElem h5
     rw[hd'] at hR
     by_cases d10:d.toNat=10
     ·rw[if_pos (by simp[←UInt8.toNat_inj,d10])] at hR
      subst hR
      simp (disch:=omega) [wl,hx,c13,hy,d10,hd']
      rw[if_pos (by omega)]
      simp (disch:=omega) [wl,d10]
      simp[Al]
      omega
     ·rw[if_neg (by simp[←UInt8.toNat_inj,d10])] at hR
      subst hR
      simp (disch:=omega) [wl,hx,c13,hy,d10,hd']
      rw[if_pos (by omega)]
      simp (disch:=omega) [wl,d10]
      simp[Al]
      omega
    ·rw[List.getElem?_eq_none (by omega),if_neg (by simp)] at hR
     subst hR
     simp (disch:=omega) [wl,hx,c13]
     simp[Al]
     omega
   ·rw[decide_eq_false (by omega)] at h3
    simp only[cond_false] at h3
    simp (disch:=omega) [wl,hx,c10,c13]
    refine ae (i+1) ⟨by omega,by omega,by omega⟩ (by omega) ?_
    simp
    exact aQ
 ·obtain rfl:i=s.length:=by omega
  rw[List.drop_length,List.findIdx_nil,Nat.add_zero] at h3
  rw[h3,if_pos rfl] at hR
  subst hR
  simp (disch:=omega) [wl]
  simp[Al]
  omega
theorem qh {s:Str} {c:UInt8} (h:c∈s):jb s c=(s.idxOf c:Nat):=by
 obtain ⟨h1,h2⟩:=ml h
 exact sZ h1 h2
theorem Ii (s:Str) (c:UInt8) (hs:s.length < 1000000):Fn G Tryz.prog cg [.str s,.str [c]] (.bool (decide (s.getLast?=some c))):=by
 refine ac hm gK (by simp) ?_
 simp[dj,dk]
 by_cases h:1≤s.length
 ·have hd:s.drop (s.length-1)=[s[s.length-1]]:=by
   rw[List.drop_eq_getElem_cons (by omega),List.drop_of_length_le (by omega)]
  have hl:s.getLast?=some s[s.length-1]:=by rw[List.getLast?_eq_getElem?,List.getElem?_eq_getElem (by omega)]
  have e:((s.length:Int)-1).toNat=s.length-1:=by omega
  rw[hl]
  simp (disch:=omega) [wl,e,hd]
  omega
 ·have hn:s=[]:=List.length_eq_zero_iff.1 (by omega)
  subst hn
  simp (disch:=omega) [wl]
theorem G9 (s:Str) (hs:s.length < 1000000):Fn G Tryz.prog eV [.str s,.str [13]] (.str (le s)):=by
 have hI:Fn G Tryz.prog c8 [.str s,.str [13]] (.str (le s)):=by
  refine ac hm gn (by simp) ?_
  have hH:=Ii s 13 hs
  simp[cZ,d0]
  refine a7 hH ?_
  unfold le
  by_cases h:s.getLast?=some 13
  ·have h1:1≤s.length:=by
    cases s with
    | nil=>simp at h
    | cons a b=>simp
   have e:((s.length:Int)-1).toNat=s.length-1:=by omega
   rw[if_pos h,List.dropLast_eq_take]
   simp (disch:=omega) [wl,h,e]
   omega
  ·rw[if_neg h]
   simp (disch:=omega) [wl,h]
 refine ac hm od (by simp) ?_
 simp[j6,j7]
 refine a7 hI ?_
 simp
end Go.Vs.YtmaenhgipojmfaaGreatDoor
