/- The walk of places in folded texts; of nodes' texts compared, their parts, their depth. No conditions. -/
import Derived.Test.YtmaenhgipojmfaaGreatDoorTE
import Derived.Test.YtmaenhgipojmfaaGreatDoorTB
set_option linter.unusedVariables false
set_option linter.unusedSimpArgs false
namespace Go.Vs.U8
end Go.Vs.U8
namespace Go.Vs.Pa
end Go.Vs.Pa
namespace Go.Vs.Fd
end Go.Vs.Fd
namespace Go.Vs.Tr
end Go.Vs.Tr
namespace Go.Vs.YtmaenhgipojmfaaGreatDoor
set_option linter.unusedSimpArgs false
set_option linter.unusedVariables false
open Go.Proofs Go.Vs.U8 Go.Vs.Pa Go.Vs.Fd Go.Vs.Tr
set_option maxRecDepth 100000
set_option maxHeartbeats 16000000
def Lf.iv (x:Lf):IV:=.agg [.str x.t,.slice (x6 x.ps)]
def M9 (x:Lf):Prop:=∀ p∈x.ps,p.1 < 1000000∧p.2 < 1000000
theorem GL {d:List (Nat×Nat)} {i:Nat} {x:Nat×Nat} (h:i < d.length) (hx:d[i]=x):(x6 d)[i]?=some [.int .i64 x.1,.int .i64 x.2]:=by simp[x6,h,hx]
theorem EC {d:List (Nat×Nat)} {j:Nat} {x:Nat×Nat} (h:j < d.length) (hx:d[j]=x):(d.take (j+1)).reverse=x::(d.take j).reverse:=by
 rw[List.take_succ_eq_append_getElem h,List.reverse_append,hx];rfl
theorem ED (i:Int) (n:Nat):min (max i 0) (n:Int)=(nJ i n:Nat)∧max 0 (min (n:Int) i)=(nJ i n:Nat)∧nJ i n≤n:=by unfold nJ;omega
theorem By (x:Lf) (i:Int) (hx:x.t.length < 1000000) (hl:x.ps.length < 1000000) (hp:M9 x):Fn G Tryz.prog jO [Lf.iv x,.int .i64 i] (.int .i64 (iB x i:Nat)):=by
 refine ac hm Ah (by simp) ?_
 obtain ⟨c1,c2,c3⟩:=ED i x.t.length
 unfold iB
 obtain ⟨k,hk⟩:∃ k,nJ i x.t.length=k:=⟨_,rfl⟩
 rw[hk] at c1 c2 c3 ⊢
 obtain ⟨R,hR⟩:∃ R,jl x.ps.reverse k=R:=⟨_,rfl⟩
 rw[hR]
 simp[uw,ux,Lf.iv,x7,c1]
 rw[wrap_i64 (by omega) (by omega)]
 refine aA hm [] (fun j:Nat=>[(5,.val (.int .i64 ((j:Int)-1))),(1,.val (.int .i64 k))]) (fun _=>[]) (fun j=>j≤x.ps.length∧jl (x.ps.take j).reverse k=R) (fun j=>j) x.ps.length ⟨Nat.le_refl _,by rw[List.take_length];exact hR⟩ ?_ ?_
 ·simp
  exact aQ
 rintro j ⟨h1,h2⟩
 simp
 cases j with
 | zero=>
  simp only[List.take_zero,List.reverse_nil,jl] at h2
  subst h2
  simp (disch:=omega) [wl]
 | succ j=>
  obtain ⟨p,hpe⟩:∃ p,x.ps[j]=p:=⟨_,rfl⟩
  have hg:=GL (by omega) hpe
  obtain ⟨b1,b2⟩:=hp p (hpe▸List.getElem_mem _)
  rw[EC (by omega) hpe] at h2
  simp only[jl] at h2
  by_cases hc:p.1≤k
  ·rw[if_pos hc] at h2
   subst h2
   simp (disch:=omega) [wl,hg]
   omega
  ·rw[if_neg hc] at h2
   simp (disch:=omega) [wl,hg]
   refine ae j ⟨by omega,h2⟩ (by omega) ?_
   simp
   exact aQ
theorem zj (x:Lf) (i:Int) (hx:x.t.length < 1000000) (hl:x.ps.length < 1000000) (hp:M9 x):Fn G Tryz.prog iP [Lf.iv x,.int .i64 i] (.int .i64 (iB x i:Nat)):=by
 refine ac hm za (by simp) ?_
 obtain ⟨c1,c2,c3⟩:=ED i x.t.length
 unfold iB
 obtain ⟨k,hk⟩:∃ k,nJ i x.t.length=k:=⟨_,rfl⟩
 rw[hk] at c1 c2 c3 ⊢
 obtain ⟨R,hR⟩:∃ R,jl x.ps.reverse k=R:=⟨_,rfl⟩
 rw[hR]
 simp[rH,rI,Lf.iv,x7,c2]
 rw[wrap_i64 (by omega) (by omega)]
 refine aA hm [] (fun j:Nat=>[(5,.val (.int .i64 ((j:Int)-1))),(1,.val (.int .i64 k))]) (fun _=>[]) (fun j=>j≤x.ps.length∧jl (x.ps.take j).reverse k=R) (fun j=>j) x.ps.length ⟨Nat.le_refl _,by rw[List.take_length];exact hR⟩ ?_ ?_
 ·simp
  exact aQ
 rintro j ⟨h1,h2⟩
 simp
 cases j with
 | zero=>
  simp only[List.take_zero,List.reverse_nil,jl] at h2
  subst h2
  simp (disch:=omega) [wl]
 | succ j=>
  obtain ⟨p,hpe⟩:∃ p,x.ps[j]=p:=⟨_,rfl⟩
  have hg:=GL (by omega) hpe
  obtain ⟨b1,b2⟩:=hp p (hpe▸List.getElem_mem _)
  rw[EC (by omega) hpe] at h2
  simp only[jl] at h2
  by_cases hc:p.1≤k
  ·rw[if_pos hc] at h2
   subst h2
   simp (disch:=omega) [wl,hg]
   omega
  ·rw[if_neg hc] at h2
   simp (disch:=omega) [wl,hg]
   refine ae j ⟨by omega,h2⟩ (by omega) ?_
   simp
   exact aQ
theorem Ik (e:Int) (ps:List Int) (x:Lf) (hx:x.t.length < 1000000) (hl:x.ps.length < 1000000) (hp:M9 x) (hq:∀ p∈ps,-1000000 < p∧p < 1000000) (hn:ps.length < 1000) (hB:iB x ps.sum < 2000000):Fn G Tryz.prog lQ [cl e ps,Lf.iv x] (cl e (qg x ps)):=by
 refine ac hm z8 (by simp) ?_
 have h1:=oW e ps hq hn
 have h2:=By x ps.sum hx hl hp
 have hb:=vS hq ps.length
 rw[List.take_length] at hb
 obtain ⟨S,hS⟩:∃ S,ps.sum=S:=⟨_,rfl⟩
 unfold qg
 rw[hS] at h1 h2 hb hB ⊢
 have h3:=Mr e ps (((iB x S:Nat):Int)-S)
 obtain ⟨L,hL⟩:∃ L,iB x S=L:=⟨_,rfl⟩
 rw[hL] at h2 h3 hB ⊢
 simp only[Lf.iv] at h2 ⊢
 obtain ⟨t,v,h⟩:=aV e ps
 simp[rF,rG]
 refine a7 h1 ?_
 simp (disch:=omega) [wl]
 refine a7 h2 ?_
 simp (disch:=omega) [wl]
 refine a7 h3 ?_
 simp
end Go.Vs.YtmaenhgipojmfaaGreatDoor
namespace Go.Vs.YtmaenhgipojmfaaGreatDoor
set_option linter.unusedSimpArgs false
set_option linter.unusedVariables false
open Go.Proofs Go.Vs.U8 Go.Vs.Pa Go.Vs.Fd Go.Vs.Tr
set_option maxRecDepth 100000
set_option maxHeartbeats 16000000
def kR (l:List Nat):List (List IV):=l.map fun k=>[.int .i64 (k:Nat)]
theorem bT (l:List Nat):(kR l).length=l.length:=by simp[kR]
theorem x8 {l:List Nat} {i n:Nat} (h:i < l.length) (hx:l[i]=n):(kR l)[i]?=some [.int .i64 (n:Nat)]:=by simp[kR,h,hx]
theorem pI (l:List Nat) (n:Nat):kR (l++[n])=kR l++[[.int .i64 (n:Nat)]]:=by simp[kR]
def Ky (x:Nd Ln):List IV:=[.int .i64 x.up,.str x.n,.slice (ls x.l)]
def Nd.iv' (x:Nd Ln):IV:=.agg [.int .i64 x.up,.str x.n,.slice (ls x.l)]
def gL (l:cn):List (List IV):=l.map Ky
theorem ah (l:cn):(gL l).length=l.length:=by simp[gL]
theorem bC {l:cn} {i:Nat} {x:Nd Ln} (h:i < l.length) (hx:l[i]=x):(gL l)[i]?=some [.int .i64 x.up,.str x.n,.slice (ls x.l)]:=by simp[gL,Ky,h,hx]
theorem mr (l:cn) (x:Nd Ln):gL (l++[x])=gL l++[[.int .i64 x.up,.str x.n,.slice (ls x.l)]]:=by simp[gL,Ky]
structure FitNd (x:Nd Ln):Prop where
 n:x.n.length < 100000
 l:x.l.length < 100000
 f:A6 x.l
def qp (l:cn):Prop:=l.length < 100000∧∀ x∈l,FitNd x
theorem rN {L:cn} {i:Nat} {x:Nd Ln} (h:i < L.length) (hx:L[i]=x):hX L i=x.up:=by
 unfold hX
 rw[List.getElem?_eq_getElem h,hx];rfl
def NB (l:List Nat) (u:Int):Int:=if l.findIdx (fun k:Nat=>decide ((k:Int)=u)) < l.length then (l.findIdx (fun k:Nat=>decide ((k:Int)=u)):Nat) else -1
theorem Il (l:List Nat) (u:Int) (hl:l.length < 1000000):Fn G Tryz.prog gm [.slice (kR l),.int .i64 u] (.int .i64 (NB l u)):=by
 refine ac hm qo (by simp) ?_
 obtain ⟨R,hR⟩:∃ R,NB l u=R:=⟨_,rfl⟩
 rw[hR]
 unfold NB at hR
 simp[kD,kE,bT]
 refine aA hm [5] (fun i:Nat=>[(8,.val (.int .i64 i))]) (fun _=>[]) (fun i=>i≤l.length∧∀ k:Nat,k∈l.take i→¬(k:Int)=u) (fun i=>l.length-i) 0 ⟨by omega,by simp⟩ ?_ ?_
 ·simp
  exact aQ
 rintro i ⟨h1,h2⟩
 simp
 by_cases h:i < l.length
 ·obtain ⟨k,hk⟩:∃ k,l[i]=k:=⟨_,rfl⟩
  have hg:=x8 h hk
  by_cases e:(k:Int)=u
  ·have hf:l.findIdx (fun k:Nat=>decide ((k:Int)=u))=i:=by
    refine (List.findIdx_eq h).2 ⟨by rw[hk];simpa using e,fun j hj=>?_⟩
    have:=h2 (l[j]) (by rw[List.mem_take_iff_getElem];exact ⟨j,by omega,rfl⟩)
    simpa using this
   rw[hf,if_pos h] at hR
   subst hR
   have e':u=k:=e.symm
   simp (disch:=omega) [wl,bT,hg,e']
  ·have e':¬u=k:=fun x=>e x.symm
   simp (disch:=omega) [wl,bT,hg,e']
   refine ae (i+1) ⟨by omega,fun j hj=>?_⟩ (by omega) ?_
   ·rw[List.take_succ_eq_append_getElem h,List.mem_append,List.mem_singleton,hk] at hj
    rcases hj with hj | rfl
    ·exact h2 j hj
    ·exact e
   simp
   exact aQ
 ·obtain rfl:i=l.length:=by omega
  rw[List.take_length] at h2
  have hf:l.findIdx (fun k:Nat=>decide ((k:Int)=u))=l.length:=List.findIdx_eq_length.2 (fun k hk=>by simpa using h2 k hk)
  rw[hf,if_neg (by omega)] at hR
  subst hR
  simp (disch:=omega) [wl]
theorem Ma (L:cn) (a:Nat) (u:Int) (op:List Nat) (hL:L.length < 100000) (ha:a < 100000) (hc:fS L op) (ht:bw op=(a:Int)-1) (hlt:∀ k∈op,k < L.length):Fn G Tryz.prog nO [.slice (gL L),.int .i64 a,.int .i64 u] (.bool (!(b9 u op).isEmpty)):=by
 refine ac hm Aj (by simp) ?_
 obtain ⟨R,hR⟩:∃ R,(!(b9 u op).isEmpty)=R:=⟨_,rfl⟩
 rw[hR]
 simp[uA,uB]
 rw[wrap_i64 (by omega) (by omega)]
 refine aA hm [] (fun r:List Nat=>[(7,.val (.int .i64 (bw r)))]) (fun _=>[]) (fun r=>fS L r∧(!(b9 u r).isEmpty)=R∧∀ k∈r,k < L.length) (fun r=>r.length) op ⟨hc,hR,hlt⟩ ?_ ?_
 ·simp[ht]
  exact aQ
 rintro r ⟨h1,h2,h3⟩
 simp
 cases r with
 | nil=>
  simp only[bw,b9] at h2 ⊢
  subst h2
  simp (disch:=omega) [wl]
 | cons k r=>
  have hk:=h3 k (by simp)
  obtain ⟨x,hx⟩:∃ x,L[k]=x:=⟨_,rfl⟩
  have hg:=bC hk hx
  have hu:=rN hk hx
  rw[h1.1] at hu
  simp only[bw,b9] at h2 ⊢
  by_cases e:(k:Int)=u
  ·rw[if_pos e] at h2
   simp only[List.isEmpty_cons,Bool.not_false] at h2
   subst h2
   simp (disch:=omega) [wl,e,bw]
  ·rw[if_neg e] at h2
   simp (disch:=omega) [wl,e,hg,ah,bw]
   refine ae r ⟨h1.2.2,h2,fun j hj=>h3 j (by simp[hj])⟩ (by simp) ?_
   simp[←hu]
   exact aQ
def nQ (L:cn) (i:Int):Nat:=if 0≤i∧i < L.length then El L i.toNat else 0
theorem iC (L:cn) (i:Int) (hL:L.length < 100000):Fn G Tryz.prog fW [.slice (gL L),.int .i64 i] (.int .i64 (nQ L i:Nat)):=by
 refine ac hm z6 (by simp) ?_
 obtain ⟨R,hR⟩:∃ R,nQ L i=R:=⟨_,rfl⟩
 rw[hR]
 unfold nQ at hR
 simp[rB,rC,ah]
 by_cases h0:i < 0
 ·rw[if_neg (by omega)] at hR
  subst hR
  simp (disch:=omega) [wl,ah]
 by_cases h0':i < L.length
 ·rw[if_pos ⟨by omega,h0'⟩] at hR
  obtain ⟨a,ha⟩:∃ a:Nat,i=a:=⟨i.toNat,by omega⟩
  subst ha
  rw[show ((a:Nat):Int).toNat=a by omega] at hR
  simp (disch:=omega) [wl,ah]
  refine aA hm [] (fun x:Nat×Nat=>[(1,.val (.int .i64 x.1)),(5,.val (.int .i64 x.2))]) (fun _=>[]) (fun x=>x.1 < L.length∧x.2+El L x.1=R∧x.2+x.1≤a) (fun x=>x.1) (a,0) ⟨by simp only;omega,by simpa using hR,by simp⟩ ?_ ?_
  ·simp
   exact aQ
  rintro ⟨k,n⟩ ⟨h1,h2,h3⟩
  simp only at h1 h2 h3
  simp[ah]
  obtain ⟨x,hx⟩:∃ x,L[k]=x:=⟨_,rfl⟩
  have hg:=bC h1 hx
  have hu:=rN h1 hx
  rw[uc,hu] at h2
  obtain ⟨up,hup⟩:∃ up,x.up=up:=⟨_,rfl⟩
  rw[hup] at hg h2
  by_cases c1:0≤up
  ·by_cases c2:up < k
   ·rw[if_pos ⟨c1,c2⟩] at h2
    obtain ⟨b,hb⟩:∃ b:Nat,up=b:=⟨up.toNat,by omega⟩
    subst hb
    rw[show ((b:Nat):Int).toNat=b by omega] at h2
    simp (disch:=omega) [wl,hg,ah]
    refine ae (b,n+1) ⟨by simp only;omega,by simp only;omega,by simp only;omega⟩ (by simp only;omega) ?_
    simp
    exact aQ
   ·rw[if_neg (by omega)] at h2
    subst h2
    simp (disch:=omega) [wl,hg,ah]
  ·rw[if_neg (by omega)] at h2
   subst h2
   simp (disch:=omega) [wl,hg,ah]
 ·rw[if_neg (by omega)] at hR
  subst hR
  simp (disch:=omega) [wl,ah]
theorem Bz (L:cn) (i:Int) (hL:L.length < 100000):Fn G Tryz.prog jN [.slice (gL L),.int .i64 i] (.int .i64 (nQ L i:Nat)):=by
 refine ac hm Af (by simp) ?_
 obtain ⟨R,hR⟩:∃ R,nQ L i=R:=⟨_,rfl⟩
 rw[hR]
 unfold nQ at hR
 simp[uu,uv,ah]
 by_cases h0:i < 0
 ·rw[if_neg (by omega)] at hR
  subst hR
  simp (disch:=omega) [wl,ah]
 by_cases h0':i < L.length
 ·rw[if_pos ⟨by omega,h0'⟩] at hR
  obtain ⟨a,ha⟩:∃ a:Nat,i=a:=⟨i.toNat,by omega⟩
  subst ha
  rw[show ((a:Nat):Int).toNat=a by omega] at hR
  obtain ⟨y,hy⟩:∃ y,L[a]=y:=⟨_,rfl⟩
  have hg0:=bC (by omega) hy
  have hu0:=rN (by omega) hy
  simp (disch:=omega) [wl,ah,hg0]
  refine aA hm [] (fun x:Nat×Nat=>[(1,.val (.int .i64 x.1)),(5,.val (.int .i64 x.2)),(6,.val (.int .i64 (hX L x.1)))]) (fun _=>[]) (fun x=>x.1 < L.length∧x.2+El L x.1=R∧x.2+x.1≤a) (fun x=>x.1) (a,0) ⟨by simp only;omega,by simpa using hR,by simp⟩ ?_ ?_
  ·simp[hu0]
   exact aQ
  rintro ⟨k,n⟩ ⟨h1,h2,h3⟩
  simp only at h1 h2 h3
  simp[ah]
  rw[uc] at h2
  obtain ⟨up,hup⟩:∃ up,hX L k=up:=⟨_,rfl⟩
  rw[hup] at h2
  simp only[hup]
  by_cases c1:0≤up
  ·by_cases c2:up < k
   ·rw[if_pos ⟨c1,c2⟩] at h2
    obtain ⟨b,hb⟩:∃ b:Nat,up=b:=⟨up.toNat,by omega⟩
    subst hb
    rw[show ((b:Nat):Int).toNat=b by omega] at h2
    obtain ⟨x,hx⟩:∃ x,L[b]'(by omega)=x:=⟨_,rfl⟩
    have hg:=bC (by omega) hx
    have hu:=rN (by omega) hx
    simp (disch:=omega) [wl,hg,ah,hup]
    refine ae (b,n+1) ⟨by simp only;omega,by simp only;omega,by simp only;omega⟩ (by simp only;omega) ?_
    simp[hu]
    exact aQ
   ·rw[if_neg (by omega)] at h2
    subst h2
    simp (disch:=omega) [wl,hup]
  ·rw[if_neg (by omega)] at h2
   subst h2
   simp (disch:=omega) [wl,hup]
 ·rw[if_neg (by omega)] at hR
  subst hR
  simp (disch:=omega) [wl,ah]
theorem BA (L:cn) (u:Int) {i:Nat} {x:Nd Ln} (h:i < L.length) (hx:L[i]=x):((List.range (i+1)).filter fun k=>decide (hX L k=u))=((List.range i).filter fun k=>decide (hX L k=u))++(if x.up=u then [i] else []):=by
 rw[List.range_succ,List.filter_append,←rN h hx]
 congr 1
 by_cases e:hX L i=u
 ·simp[e]
 ·simp[e]
def qq (L:cn) (u:Int) (i:Nat):List Nat:=(List.range i).filter fun k=>decide (hX L k=u)
theorem EE (L:cn) (u:Int) (i:Nat):(qq L u i).length≤i:=by
 unfold qq
 have:=List.length_filter_le (fun k=>decide (hX L k=u)) (List.range i)
 rw[List.length_range] at this
 exact this
theorem Kz (L:cn) (u:Int) (hL:L.length < 100000):Fn G Tryz.prog nM [.slice (gL L),.int .i64 u] (.slice (kR (we L u))):=by
 refine ac hm Ad (by simp) ?_
 simp[uo,uq,ah]
 refine aA hm [] (fun i:Nat=>[(6,.val (.int .i64 i)),(5,.own 5 (qq L u i).length)]) (fun i=>[(5,.arr (qq L u i).length 1 (kR (qq L u i)))]) (fun i=>i≤L.length) (fun i=>L.length-i) 0 (by omega) ?_ ?_
 ·simp[qq,kR]
  exact aS.trans (ce (k:=5) 5 1 (by simp) (by simp[ap,a8])) (an rfl rfl (by simp[St.adopt,aR,ap,a8,put,ba,SV.erase]) (by simp[St.adopt,bM,a8,put,aE,Ob.erase]) (by simp[St.adopt,bQ]))
 intro i hi
 simp[ah]
 have hkl:=EE L u i
 by_cases h:i < L.length
 ·obtain ⟨x,hx⟩:∃ x,L[i]=x:=⟨_,rfl⟩
  have hg:=bC h hx
  have hk:qq L u (i+1)=qq L u i++(if x.up=u then [i] else []):=BA L u h hx
  by_cases e:x.up=u
  ·rw[if_pos e] at hk
   simp (disch:=omega) [wl,ah,hg,e,bT]
   refine ⟨by omega,?_⟩
   refine ae (i+1) (by omega) (by omega) ?_
   simp[hk,pI]
   exact aQ
  ·rw[if_neg e,List.append_nil] at hk
   simp (disch:=omega) [wl,ah,hg,e]
   refine ae (i+1) (by omega) (by omega) ?_
   simp[hk]
   exact aQ
 ·obtain rfl:i=L.length:=by omega
  have e:we L u=qq L u L.length:=rfl
  simp (disch:=omega) [wl,ah,e]
theorem GM (L:cn) (u:Int) (hL:L.length < 100000):Fn G Tryz.prog lf [.slice (gL L),.int .i64 u] (.slice (kR (we L u))):=by
 refine ac hm CN (by simp) ?_
 simp[wm,wn,ah]
 refine aA hm [6] (fun i:Nat=>[(10,.val (.int .i64 i)),(5,.own 5 (qq L u i).length)]) (fun i=>[(5,.arr (qq L u i).length 1 (kR (qq L u i)))]) (fun i=>i≤L.length) (fun i=>L.length-i) 0 (by omega) ?_ ?_
 ·simp[qq,kR]
  exact aS.trans (ce (k:=5) 5 1 (by simp) (by simp[ap,a8])) (an rfl rfl (by simp[St.adopt,aR,ap,a8,put,ba,SV.erase]) (by simp[St.adopt,bM,a8,put,aE,Ob.erase]) (by simp[St.adopt,bQ]))
 intro i hi
 simp[ah]
 have hkl:=EE L u i
 by_cases h:i < L.length
 ·obtain ⟨x,hx⟩:∃ x,L[i]=x:=⟨_,rfl⟩
  have hg:=bC h hx
  have hk:qq L u (i+1)=qq L u i++(if x.up=u then [i] else []):=BA L u h hx
  by_cases e:x.up=u
  ·rw[if_pos e] at hk
   simp (disch:=omega) [wl,ah,hg,e,bT]
   refine ⟨by omega,?_⟩
   refine ae (i+1) (by omega) (by omega) ?_
   simp[hk,pI]
   exact aQ
  ·rw[if_neg e,List.append_nil] at hk
   simp (disch:=omega) [wl,ah,hg,e]
   refine ae (i+1) (by omega) (by omega) ?_
   simp[hk]
   exact aQ
 ·obtain rfl:i=L.length:=by omega
  have e:we L u=qq L u L.length:=rfl
  simp (disch:=omega) [wl,ah,e]
theorem My (x y:Nd Ln):x=y↔x.up=y.up∧x.n=y.n∧x.l=y.l:=by
 obtain ⟨a,b,c⟩:=x;obtain ⟨d,e,f⟩:=y
 simp only[Nd.mk.injEq]
theorem KA (x y:Nd Ln) (fx:FitNd x) (fy:FitNd y):Fn G Tryz.prog iQ [Nd.iv' x,Nd.iv' y] (.bool (decide (x=y))):=by
 refine ac hm zc (by simp) ?_
 have hS:=Kf x.l y.l (by have:=fx.l;omega) (by have:=fy.l;omega) fx.f fy.f
 have hxy:=My x y
 simp[rL,rM,Nd.iv']
 by_cases h1:x.up=y.up
 ·by_cases h2:x.n=y.n
  ·simp (disch:=omega) [wl,h1,h2]
   refine a7 hS ?_
   simp[hxy,h1,h2]
  ·simp (disch:=omega) [wl,h1,h2,hxy]
 ·simp (disch:=omega) [wl,h1,hxy]
theorem Gb (a b:cn) (fa:qp a) (fb:qp b):Fn G Tryz.prog dK [.slice (gL a),.slice (gL b),.fn iQ []] (.bool (decide (a=b))):=by
 refine ac hm lR (by simp) ?_
 obtain ⟨ha,fa⟩:=fa
 obtain ⟨hb,fb⟩:=fb
 simp[gD,gE,ah]
 by_cases hl:a.length=b.length
 ·simp (disch:=omega) [wl,ah,hl]
  refine aA hm [] (fun i:Nat=>[(17,.val (.int .i64 i))]) (fun i=>[]) (fun i=>i≤a.length∧a.take i=b.take i) (fun i=>a.length-i) 0 ⟨by omega,by simp⟩ ?_ ?_
  ·simp
   exact aQ
  rintro i ⟨hi,ht⟩
  simp[ah]
  by_cases h:i < a.length
  ·have h':i < b.length:=by omega
   obtain ⟨x,hx⟩:∃ x,a[i]=x:=⟨_,rfl⟩
   obtain ⟨y,hy⟩:∃ y,b[i]=y:=⟨_,rfl⟩
   have g1:=bC h hx
   have g2:=bC h' hy
   have hS:=KA x y (fa x (hx▸List.getElem_mem h)) (fb y (hy▸List.getElem_mem h'))
   simp only[Nd.iv'] at hS
   by_cases e:x=y
   ·have hs:=dh h h' ht (by rw[hx,hy,e])
    rw[decide_eq_true e] at hS
    simp (disch:=omega) [wl,ah,g1,g2]
    refine a7 hS ?_
    simp (disch:=omega) [wl]
    refine ae (i+1) ⟨by omega,hs⟩ (by omega) ?_
    simp
    exact aQ
   ·have hne:¬a=b:=fun hab=>e (by subst hab;rw[←hx,←hy])
    rw[decide_eq_false e] at hS
    simp (disch:=omega) [wl,ah,g1,g2,hne]
    refine a7 hS ?_
    simp[hne]
  ·obtain rfl:i=a.length:=by omega
   have:a=b:=by rw[List.take_length,hl,List.take_length] at ht;exact ht
   simp (disch:=omega) [wl,this]
 ·have hne:¬a=b:=fun hab=>hl (by rw[hab])
  simp (disch:=omega) [wl,ah,hl,hne]
theorem mt (a b:cn) (fa:qp a) (fb:qp b):Fn G Tryz.prog eU [.slice (gL a),.slice (gL b)] (.bool (decide (a=b))):=by
 refine ac hm CO (by simp) ?_
 simp[wo,wq]
 refine a7 (Gb a b fa fb) ?_
 simp
theorem vu (a b:cn) (fa:qp a) (fb:qp b):Fn G Tryz.prog jM [.slice (gL a),.slice (gL b)] (.bool (decide (a=b))):=by
 refine ac hm Aa (by simp) ?_
 obtain ⟨ha,fa⟩:=fa
 obtain ⟨hb,fb⟩:=fb
 simp[uh,ui,ah]
 by_cases hl:a.length=b.length
 ·simp (disch:=omega) [wl,ah,hl]
  refine aA hm [] (fun i:Nat=>[(5,.val (.int .i64 i))]) (fun i=>[]) (fun i=>i≤a.length∧a.take i=b.take i) (fun i=>a.length-i) 0 ⟨by omega,by simp⟩ ?_ ?_
  ·simp
   exact aQ
  rintro i ⟨hi,ht⟩
  simp[ah]
  by_cases h:i < a.length
  ·have h':i < b.length:=by omega
   obtain ⟨x,hx⟩:∃ x,a[i]=x:=⟨_,rfl⟩
   obtain ⟨y,hy⟩:∃ y,b[i]=y:=⟨_,rfl⟩
   have g1:=bC h hx
   have g2:=bC h' hy
   have fx:=fa x (hx▸List.getElem_mem h)
   have fy:=fb y (hy▸List.getElem_mem h')
   have hS:=I3 x.l y.l (by have:=fx.l;omega) (by have:=fy.l;omega) fx.f fy.f
   have hxy:=My x y
   by_cases e:x=y
   ·have hs:=dh h h' ht (by rw[hx,hy,e])
    subst e
    rw[decide_eq_true rfl] at hS
    simp (disch:=omega) [wl,ah,g1,g2]
    refine a7 hS ?_
    simp (disch:=omega) [wl]
    refine ⟨rfl,?_⟩
    refine ae (i+1) ⟨by omega,hs⟩ (by omega) ?_
    simp
    exact aQ
   ·have hne:¬a=b:=fun hab=>e (by subst hab;rw[←hx,←hy])
    by_cases e1:x.up=y.up
    ·by_cases e2:x.n=y.n
     ·have e3:¬x.l=y.l:=fun e3=>e (hxy.2 ⟨e1,e2,e3⟩)
      rw[decide_eq_false e3] at hS
      simp (disch:=omega) [wl,ah,g1,g2,hne,e1,e2]
      refine a7 hS ?_
      simp (disch:=omega) [wl,hne]
      rfl
     ·simp (disch:=omega) [wl,ah,g1,g2,hne,e1,e2]
      rfl
    ·simp (disch:=omega) [wl,ah,g1,g2,hne,e1]
     rfl
  ·obtain rfl:i=a.length:=by omega
   have:a=b:=by rw[List.take_length,hl,List.take_length] at ht;exact ht
   simp (disch:=omega) [wl,this,ah,hl]
 ·have hne:¬a=b:=fun hab=>hl (by rw[hab])
  simp (disch:=omega) [wl,ah,hl,hne]
end Go.Vs.YtmaenhgipojmfaaGreatDoor
