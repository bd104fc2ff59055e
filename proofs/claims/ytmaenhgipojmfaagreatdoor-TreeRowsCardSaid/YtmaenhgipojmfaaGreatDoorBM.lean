/- The walk of param, part 9: copies, finding. No conditions. -/
import Derived.Test.YtmaenhgipojmfaaGreatDoorBL
set_option linter.unusedVariables false
set_option linter.unusedSimpArgs false
namespace Go.Vs.U8
end Go.Vs.U8
namespace Go.Vs.Pa
end Go.Vs.Pa
namespace Go.Vs.YtmaenhgipojmfaaGreatDoor
set_option linter.unusedSimpArgs false
set_option linter.unusedVariables false
open Go.Proofs Go.Vs.U8 Go.Vs.Pa
set_option maxRecDepth 100000
set_option maxHeartbeats 4000000
theorem K1 (v:List Str) (hv:v.length < 1000000):Fn G Tryz.prog ew [.slice (ts v)] (.slice (ts v)):=by
 refine ac hm nl (by simp) ?_
 simp[i7,i8]
 cases v with
 | nil=>
  simp[ts]
 | cons x r=>
  have hl:=aB (x::r)
  simp only[List.length_cons] at hl hv
  have:ts (x::r)=[.str x]::ts r:=rfl
  rw[this] at hl ⊢
  simp at hl
  simp (disch:=omega) [wl,hl]
  exact ⟨by omega,fun a ha=>by simp[ts] at ha;obtain ⟨y,_,rfl⟩:=ha;rfl⟩
def pc (l:List Pm) (n:Str):Bool:=l.any fun p=>decide (p.n=n)
def mg (l:List Pm) (n:Str):Option Pm:=l.find? fun p=>decide (p.n=n)
def nr:Option Pm→IV
 | some p=>.tuple [p.iv,.bool true]
 | none=>.tuple [(⟨[],[]⟩:Pm).iv,.bool false]
theorem Ng {l:List Pm} {i:Nat} {p:Pm} {n:Str} (h:i < l.length) (hp:l[i]=p):pc (l.drop i) n=(decide (p.n=n)||pc (l.drop (i+1)) n):=by
 rw[List.drop_eq_getElem_cons h,hp];rfl
theorem K2 {l:List Pm} {i:Nat} {p:Pm} {n:Str} (h:i < l.length) (hp:l[i]=p):mg (l.drop i) n=if p.n=n then some p else mg (l.drop (i+1)) n:=by
 rw[List.drop_eq_getElem_cons h,hp]
 by_cases e:p.n=n <;> simp[mg,e]
theorem K3 (l:List Pm) (n:Str) (hl:l.length < 1000000):Fn G Tryz.prog l9 [.slice (ps l),.str n] (.bool (pc l n)):=by
 refine ac hm Cl (by simp) ?_
 simp[vV,vW]
 refine aA hm [] (fun i:Nat=>[(5,.val (.int .i64 i))]) (fun i=>[]) (fun i=>i≤l.length∧pc (l.drop i) n=pc l n) (fun i=>l.length-i) 0 ⟨by omega,by simp⟩ ?_ ?_
 ·simp
  exact aQ
 rintro i ⟨hi,hc⟩
 simp[aw]
 by_cases h:i < l.length
 ·obtain ⟨p,hp⟩:∃ p,l[i]=p:=⟨_,rfl⟩
  have hg:=gh h hp
  rw[Ng h hp] at hc
  by_cases h1:p.n=n
  ·simp[h1] at hc
   simp (disch:=omega) [wl,aw,hg,h1,hc]
  ·simp[h1] at hc
   simp (disch:=omega) [wl,aw,hg,h1]
   refine ae (i+1) ⟨by omega,hc⟩ (by omega) ?_
   simp
   exact aQ
 ·obtain rfl:i=l.length:=by omega
  simp[pc] at hc
  simp (disch:=omega) [wl,pc]
  exact hc
theorem Gw (l:List Pm) (n:Str) (hl:l.length < 1000000) (hv:∀ p∈l,p.v.length < 1000000):Fn G Tryz.prog jG [.slice (ps l),.str n] (nr (mg l n)):=by
 refine ac hm zW (by simp) ?_
 simp[tA,tB,aw]
 refine aA hm [] (fun i:Nat=>[(10,.val (.int .i64 i))]) (fun i=>[]) (fun i=>i≤l.length∧mg (l.drop i) n=mg l n) (fun i=>l.length-i) 0 ⟨by omega,by simp⟩ ?_ ?_
 ·simp
  exact aQ
 rintro i ⟨hi,hc⟩
 simp[aw]
 by_cases h:i < l.length
 ·obtain ⟨p,hp⟩:∃ p,l[i]=p:=⟨_,rfl⟩
  have hg:=gh h hp
  rw[K2 h hp] at hc
  have hC:=K1 p.v (hv p (hp▸List.getElem_mem h))
  by_cases h1:p.n=n
  ·simp[h1] at hc
   simp (disch:=omega) [wl,aw,hg,h1]
   refine a7 hC ?_
   simp (disch:=omega) [wl]
   refine ⟨rfl,?_⟩
   rw[←hc]
   simp[nr,Pm.iv,h1]
  ·simp[h1] at hc
   simp (disch:=omega) [wl,aw,hg,h1]
   refine ae (i+1) ⟨by omega,hc⟩ (by omega) ?_
   simp
   exact aQ
 ·obtain rfl:i=l.length:=by omega
  have hr:mg l n=none:=by rw[←hc];simp[mg]
  simp (disch:=omega) [wl,hr,nr,Pm.iv]
  rfl
def bI:List Pm→Int
 | []=>0
 | p::r=>if bu p=0 then bI r else bu p
def dq:List Pm→List Pm→Bool
 | _,[]=>false
 | a,p::r=>pc a p.n||dq (a++[p]) r
def bx (l:List Pm):Int:=if 6 < l.length then 20 else if bI l=0 then (if dq [] l then 19 else 0) else bI l
theorem vY {l:List Pm} {i:Nat} {p:Pm} (h:i < l.length) (hp:l[i]=p):bI (l.drop i)=if bu p=0 then bI (l.drop (i+1)) else bu p:=by
 rw[List.drop_eq_getElem_cons h,hp];rfl
theorem E7 {l:List Pm} {i:Nat} {p:Pm} (h:i < l.length) (hp:l[i]=p):dq (l.take i) (l.drop i)=(pc (l.take i) p.n||dq (l.take (i+1)) (l.drop (i+1))):=by
 rw[List.drop_eq_getElem_cons h,hp,List.take_succ_eq_append_getElem h,hp];rfl
theorem E8 (l:List Pm) (n:Str):pc l n=(mg l n).isSome:=by
 induction l with
 | nil=>rfl
 | cons p r ih=>
  by_cases e:p.n=n
  ·simp[pc,mg,e]
  ·simp only[pc,mg,List.any_cons,List.find?_cons] at ih ⊢
   simp[e,ih]
theorem Gx (l:List Pm):∀ row,row∈ps l→row.length=2:=fun a ha=>by simp[ps] at ha;obtain ⟨y,_,rfl⟩:=ha;rfl
theorem Gy (l:List Pm) (i:Nat):(ps l).take i=ps (l.take i):=by simp[ps,List.map_take]
structure Fit (l:List Pm):Prop where
 n:∀ p∈l,p.n.length < 100000
 v:∀ p∈l,p.v.length < 100000
 t:∀ p∈l,∀ s∈p.v,s.length < 10000
theorem tM (l:List Pm) (hl:l.length < 100000) (hf:Fit l):Fn G Tryz.prog fi [.slice (ps l)] (.int .i64 (bx l)):=by
 refine ac hm tu (by simp) ?_
 simp[m9,ma,aw]
 by_cases h0:6 < l.length
 ·simp (disch:=omega) [wl,bx,h0,aw]
 ·have hA:bx l=if bI l=0 then (if dq [] l then 19 else 0) else bI l:=by rw[bx,if_neg h0]
  rw[hA]
  simp (disch:=omega) [wl,aw]
  refine aA hm [] (fun i:Nat=>[(3,.val (.int .i64 i))]) (fun i=>[]) (fun i=>i≤l.length∧bI (l.drop i)=bI l) (fun i=>l.length-i) 0 ⟨by omega,by simp⟩ ?_ ?_
  ·simp
   exact aQ
  rintro i ⟨hi,hc⟩
  simp[aw]
  by_cases h:i < l.length
  ·obtain ⟨p,hp⟩:∃ p,l[i]=p:=⟨_,rfl⟩
   have hm':p∈l:=hp▸List.getElem_mem h
   have hg:=gh h hp
   have hC:=B3 p (by have:=hf.n p hm';omega)
   rw[vY h hp] at hc
   simp (disch:=omega) [wl,aw,hg]
   refine a7 hC ?_
   by_cases h1:bu p=0
   ·rw[if_pos h1] at hc
    simp (disch:=omega) [wl,h1]
    refine ae (i+1) ⟨by omega,hc⟩ (by omega) ?_
    simp
    exact aQ
   ·rw[if_neg h1] at hc
    have:¬bI l=0:=by rw[←hc];exact h1
    rw[if_neg this,←hc]
    simp (disch:=omega) [wl,h1]
  ·obtain rfl:i=l.length:=by omega
   have hb:bI l=0:=by rw[←hc];simp[bI]
   rw[if_pos hb]
   simp (disch:=omega) [wl,aw]
   refine aA hm [] (fun i:Nat=>[(5,.val (.int .i64 i))]) (fun i=>[]) (fun i=>i≤l.length∧dq (l.take i) (l.drop i)=dq [] l) (fun i=>l.length-i) 0 ⟨by omega,by simp⟩ ?_ ?_
   ·simp
    exact aQ
   rintro j ⟨hj,ht⟩
   simp[aw]
   by_cases h:j < l.length
   ·obtain ⟨p,hp⟩:∃ p,l[j]=p:=⟨_,rfl⟩
    have hg:=gh h hp
    have hH:=K3 (l.take j) p.n (by simp;omega)
    rw[E7 h hp] at ht
    simp (disch:=omega) [wl,aw,hg,Gy]
    refine ⟨⟨by omega,Gx l⟩,?_⟩
    refine a7 hH ?_
    cases hh:pc (l.take j) p.n with
    | true=>
     rw[hh] at ht
     have hb:dq [] l=true:=by rw[←ht];rfl
     simp[hb]
     rfl
    | false=>
     rw[hh] at ht
     simp (disch:=omega) [wl]
     refine ⟨rfl,?_⟩
     refine ae (j+1) ⟨by omega,by simpa using ht⟩ (by omega) ?_
     simp
     exact aQ
   ·obtain rfl:j=l.length:=by omega
    have hb:dq [] l=false:=by rw[←ht];simp[dq]
    simp (disch:=omega) [wl,hb]
theorem vZ (l:List Pm) (hl:l.length < 100000) (hf:Fit l):Fn G Tryz.prog fj [.slice (ps l)] (.int .i64 (bx l)):=by
 refine ac hm tv (by simp) ?_
 simp[mb,md,aw]
 by_cases h0:6 < l.length
 ·simp (disch:=omega) [wl,bx,h0,aw]
 ·have hA:bx l=if bI l=0 then (if dq [] l then 19 else 0) else bI l:=by rw[bx,if_neg h0]
  rw[hA]
  simp (disch:=omega) [wl,aw]
  refine aA hm [] (fun i:Nat=>[(15,.val (.int .i64 i))]) (fun i=>[]) (fun i=>i≤l.length∧bI (l.drop i)=bI l) (fun i=>l.length-i) 0 ⟨by omega,by simp⟩ ?_ ?_
  ·simp
   exact aQ
  rintro i ⟨hi,hc⟩
  simp[aw]
  by_cases h:i < l.length
  ·obtain ⟨p,hp⟩:∃ p,l[i]=p:=⟨_,rfl⟩
   have hm':p∈l:=hp▸List.getElem_mem h
   have hg:=gh h hp
   have hC:=E6 p (by have:=hf.n p hm';omega)
   rw[vY h hp] at hc
   simp (disch:=omega) [wl,aw,hg]
   refine a7 hC ?_
   by_cases h1:bu p=0
   ·rw[if_pos h1] at hc
    simp (disch:=omega) [wl,h1]
    refine ae (i+1) ⟨by omega,hc⟩ (by omega) ?_
    simp
    exact aQ
   ·rw[if_neg h1] at hc
    have:¬bI l=0:=by rw[←hc];exact h1
    rw[if_neg this,←hc]
    simp (disch:=omega) [wl,h1]
  ·obtain rfl:i=l.length:=by omega
   have hb:bI l=0:=by rw[←hc];simp[bI]
   rw[if_pos hb]
   simp (disch:=omega) [wl,aw]
   refine aA hm [] (fun i:Nat=>[(27,.val (.int .i64 i))]) (fun i=>[]) (fun i=>i≤l.length∧dq (l.take i) (l.drop i)=dq [] l) (fun i=>l.length-i) 0 ⟨by omega,by simp⟩ ?_ ?_
   ·simp
    exact aQ
   rintro j ⟨hj,ht⟩
   simp[aw]
   by_cases h:j < l.length
   ·obtain ⟨p,hp⟩:∃ p,l[j]=p:=⟨_,rfl⟩
    have hg:=gh h hp
    have hH:=Gw (l.take j) p.n (by simp;omega) (fun q hq=>by have:=hf.v q (List.mem_of_mem_take hq);omega)
    have hhf:=E8 (l.take j) p.n
    rw[E7 h hp] at ht
    simp (disch:=omega) [wl,aw,hg,Gy]
    refine ⟨⟨by omega,Gx l⟩,?_⟩
    refine a7 hH ?_
    cases hh:mg (l.take j) p.n with
    | some q=>
     rw[hh] at hhf
     rw[hhf] at ht
     have hb:dq [] l=true:=by rw[←ht];rfl
     simp[hb,nr,Pm.iv]
     rfl
    | none=>
     rw[hh] at hhf
     rw[hhf] at ht
     simp (disch:=omega) [wl,nr,Pm.iv]
     refine ⟨rfl,?_⟩
     refine ae (j+1) ⟨by omega,by simpa using ht⟩ (by omega) ?_
     simp
     exact aQ
   ·obtain rfl:j=l.length:=by omega
    have hb:dq [] l=false:=by rw[←ht];simp[dq]
    simp (disch:=omega) [wl,hb]
end Go.Vs.YtmaenhgipojmfaaGreatDoor
namespace Go.Vs.YtmaenhgipojmfaaGreatDoor
set_option linter.unusedSimpArgs false
set_option linter.unusedVariables false
open Go.Proofs Go.Vs.U8 Go.Vs.Pa
set_option maxRecDepth 100000
set_option maxHeartbeats 4000000
def cS (p:Pm):Str:=59::(p.n++61::Go.Lib.join (p.v.map write) [44])
theorem HZ {l:List Str} (h:l≠[]) (x sep:Str):Go.Lib.join (l++[x]) sep=Go.Lib.join l sep++(sep++x):=by
 obtain ⟨y,r,rfl⟩:=List.exists_cons_of_ne_nil h
 rw[List.cons_append,Go.Lib.join_cons,Go.Lib.join_cons]
 simp[Go.Lib.joinTail]
theorem K4 (k:Nat):∀ l:List Str,(∀ x∈l,x.length≤k)→(Go.Lib.join l [44]).length≤l.length*(k+1):=by
 intro l h
 cases l with
 | nil=>simp[Go.Lib.join_nil]
 | cons y r=>
  have hy:=h y (by simp)
  have hr:∀ x∈r,x.length≤k:=fun x hx=>h x (by simp[hx])
  clear h
  rw[Go.Lib.join_cons,List.length_append,List.length_cons,Nat.succ_mul]
  have:(Go.Lib.joinTail [44] r).length≤r.length*(k+1):=by
   induction r with
   | nil=>simp[Go.Lib.joinTail]
   | cons z t ih=>
    have hz:=hr z (by simp)
    have:=ih (fun x hx=>hr x (by simp[hx]))
    simp only[Go.Lib.joinTail,List.map_cons,List.flatten_cons,List.length_append,List.length_cons,List.length_nil,Nat.succ_mul] at this ⊢
    omega
  omega
theorem B4:∀ {l:List Str},ex l=0→∀ x∈l,x.length≤60
 | [],_,x,h=>by simp at h
 | y::r,hc,x,h=>by
  rw[ex] at hc
  split at hc
  ·cases hc
  ·split at hc
   ·rcases List.mem_cons.1 h with rfl | h
    ·omega
    ·exact B4 hc x h
   ·cases hc
theorem qa {p:Pm} (h:bu p=0):p.n.length≤24∧1≤p.v.length∧p.v.length≤6∧(∀ x∈p.v,x.length≤60):=by
 unfold bu at h
 split at h
 ·next hn=>
  split at h
  ·cases h
  ·have:=B4 h
   simp[ax] at hn
   refine ⟨hn.1.2,by omega,by omega,this⟩
 ·cases h
theorem B5 (s:Str):(write s).length≤2*s.length+2:=by
 have:=tK s
 unfold write
 split <;> simp <;> omega
theorem B6 {v:List Str} (h:∀ x∈v,x.length≤60) (h6:v.length≤6) (i:Nat):(Go.Lib.join ((v.take i).map write) [44]).length≤738:=by
 have:=K4 122 ((v.take i).map write) (fun x hx=>by
  obtain ⟨y,hy,rfl⟩:=List.mem_map.1 hx
  have:=B5 y
  have:=h y (List.mem_of_mem_take hy)
  omega)
 have h2:((v.take i).map write).length≤6:=by simp;omega
 have:=Nat.mul_le_mul_right 123 h2
 omega
def jh (p:Pm):IV:=.tuple [.str (if bu p=0 then cS p else []),.int .i64 (bu p)]
theorem I0 (p:Pm) (hn:p.n.length < 1000000):Fn G Tryz.prog lD [p.iv] (jh p):=by
 refine ac hm yn (by simp) ?_
 have hC:=B3 p hn
 simp[qV,qW,Pm.iv] at hC ⊢
 refine a7 hC ?_
 by_cases h0:bu p=0
 ·obtain ⟨h1,h2,h3,h4⟩:=qa h0
  have hR:jh p=.tuple [.str (cS p),.int .i64 0]:=by simp[jh,h0]
  rw[hR]
  obtain ⟨n,v⟩:=p
  simp only at h1 h2 h3 h4
  simp (disch:=omega) [wl,h0]
  refine ⟨by omega,by omega,?_⟩
  refine aA hm [] (fun i:Nat=>[(6,.val (.int .i64 i)),(5,.val (.str (59::(n++61::Go.Lib.join ((v.take i).map write) [44]))))]) (fun i=>[]) (fun i=>i≤v.length) (fun i=>v.length-i) 0 (by omega) ?_ ?_
  ·simp[Go.Lib.join_nil]
   exact aQ
  rintro i hi
  have hJ:=B6 h4 h3 i
  simp only[List.map_take] at hJ
  simp[aB]
  by_cases h:i < v.length
  ·obtain ⟨x,hx⟩:∃ x,v[i]=x:=⟨_,rfl⟩
   have hg:=jg h hx
   have hxl:=h4 x (hx▸List.getElem_mem h)
   have hW:=JV x (by omega)
   have hwl:=B5 x
   have ht:(v.map write).take (i+1)=(v.map write).take i++[write x]:=by rw[List.take_succ_eq_append_getElem (by simpa using h),List.getElem_map,hx]
   by_cases hi0:i=0
   ·subst hi0
    simp (disch:=omega) [wl,aB,hg]
    refine a7 hW ?_
    have ht':(v.map write).take 1=[write x]:=by simpa using ht
    simp (disch:=omega) [wl,Go.Lib.join_nil]
    refine ⟨by omega,?_⟩
    refine ae 1 (by omega) (by omega) ?_
    simp[ht',Go.Lib.join_one]
    exact aQ
   ·have hne:(v.map write).take i≠[]:=by
     intro e
     have:((v.map write).take i).length=0:=by rw[e];rfl
     rw[List.length_take,List.length_map] at this
     omega
    have hj:=HZ hne (write x) [44]
    simp (disch:=omega) [wl,aB,hg]
    refine ⟨by omega,?_⟩
    refine a7 hW ?_
    simp (disch:=omega) [wl]
    refine ⟨by omega,?_⟩
    refine ae (i+1) (by omega) (by omega) ?_
    simp[ht,hj]
    exact aQ
  ·obtain rfl:i=v.length:=by omega
   have he:(v.map write).take v.length=v.map write:=List.take_of_length_le (by simp)
   simp (disch:=omega) [wl,cS,he]
 ·have hR:jh p=.tuple [.str [],.int .i64 (bu p)]:=by simp[jh,h0]
  rw[hR]
  simp (disch:=omega) [wl,h0]
theorem B7 {v:List Str} (h:∀ x∈v,x.length≤60) (h6:v.length≤6):(Go.Lib.join (v.map write) [44]).length≤738:=by
 have:=B6 h h6 v.length
 rwa[List.take_length] at this
theorem NR (v:List Str) (i:Nat) (h:i < v.length) (x:Str) (hx:v[i]=x):(ts ((v.take i).map write)++List.replicate (v.length-i) [IV.str []]).set i [.str (write x)]=ts ((v.take (i+1)).map write)++List.replicate (v.length-(i+1)) [IV.str []]:=by
 have hl:((v.take i).map write).length=i:=by simp;omega
 have hr:=yx ((v.take i).map write) (write x) (v.length-(i+1))
 rw[hl,show v.length-(i+1)+1=v.length-i by omega] at hr
 rw[hr,List.take_succ_eq_append_getElem h,hx,List.map_append]
 rfl
theorem NT (v:List Str) (i:Nat) (h:i < v.length):(ts ((v.take i).map write)++List.replicate (v.length-i) [IV.str []])[i]?=some [.str []]:=by
 have hl:((v.take i).map write).length=i:=by simp;omega
 have hr:=yy ((v.take i).map write) (v.length-(i+1))
 rwa[hl,show v.length-(i+1)+1=v.length-i by omega] at hr
theorem K5 (p:Pm) (hn:p.n.length < 1000000):Fn G Tryz.prog lC [p.iv] (jh p):=by
 refine ac hm yk (by simp) ?_
 have hC:=E6 p hn
 simp[qP,qQ,Pm.iv] at hC ⊢
 refine a7 hC ?_
 by_cases h0:bu p=0
 ·obtain ⟨h1,h2,h3,h4⟩:=qa h0
  have hR:jh p=.tuple [.str (cS p),.int .i64 0]:=by simp[jh,h0]
  rw[hR]
  obtain ⟨n,v⟩:=p
  simp only at h1 h2 h3 h4
  simp (disch:=omega) [wl,h0,aB]
  refine ⟨by omega,?_⟩
  refine aA hm [] (fun i:Nat=>[(20,.val (.int .i64 i))]) (fun i=>[(16,.arr 0 1 (ts ((v.take i).map write)++List.replicate (v.length-i) [.str []]))]) (fun i=>i≤v.length) (fun i=>v.length-i) 0 (by omega) ?_ ?_
  ·simp[ts]
   exact aQ
  rintro i hi
  have hset:=NR v i
  have hget:=NT v i
  obtain ⟨R,hR1⟩:∃ R,ts ((v.take i).map write)++List.replicate (v.length-i) [IV.str []]=R:=⟨_,rfl⟩
  have hRl:R.length=v.length:=by rw[←hR1];simp[ts];omega
  rw[hR1] at hset hget
  rw[hR1]
  simp[aB]
  by_cases h:i < v.length
  ·obtain ⟨x,hx⟩:∃ x,v[i]=x:=⟨_,rfl⟩
   have hg:=jg h hx
   have hxl:=h4 x (hx▸List.getElem_mem h)
   have hW:=E4 x (by omega)
   have hs:=hset h x hx
   have hgt:=hget h
   simp (disch:=omega) [wl,aB,hg]
   refine a7 hW ?_
   have hgt':R[i]'(by omega)=[.str []]:=by
    rw[List.getElem?_eq_getElem (by omega)] at hgt
    simpa using hgt
   simp (disch:=omega) [wl,hgt',hRl,hs]
   refine ⟨h,?_⟩
   refine ae (i+1) (by omega) (by omega) ?_
   simp[←List.map_take]
   exact aQ
  ·obtain rfl:i=v.length:=by omega
   have hR2:R=ts (v.map write):=by rw[←hR1];simp
   have hj:=B7 h4 h3
   have hJ:=LL (v.map write) [44] (by simp;omega) (by omega)
   rw[←hR2] at hJ
   simp (disch:=omega) [wl]
   refine ⟨by omega,by omega,?_⟩
   refine a7 hJ ?_
   simp[cS]
   exact ⟨by omega,rfl⟩
 ·have hR:jh p=.tuple [.str [],.int .i64 (bu p)]:=by simp[jh,h0]
  rw[hR]
  simp (disch:=omega) [wl,h0]
def aq (l:List Pm):Str:=(l.map cS).flatten
def ge (l:List Pm):IV:=.tuple [.str (if bx l=0 then aq l else []),.int .i64 (bx l)]
theorem nt:∀ {l:List Pm},bI l=0→∀ p∈l,bu p=0
 | [],_,p,h=>by simp at h
 | q::r,hc,p,h=>by
  rw[bI] at hc
  split at hc
  ·next hq=>
   rcases List.mem_cons.1 h with rfl | h
   ·exact hq
   ·exact nt hc p h
  ·next hq=>exact absurd hc hq
theorem lc {l:List Pm} (h:bx l=0):l.length≤6∧∀ p∈l,bu p=0:=by
 unfold bx at h
 split at h
 ·cases h
 ·split at h
  ·next hb=>exact ⟨by omega,nt hb⟩
  ·next hb=>exact absurd h hb
theorem nu {p:Pm} (h:bu p=0):(cS p).length≤764:=by
 obtain ⟨h1,h2,h3,h4⟩:=qa h
 have:=B7 h4 h3
 simp[cS];omega
theorem yz (l:List Pm) (h:∀ p∈l,bu p=0):(aq l).length≤l.length*764:=by
 induction l with
 | nil=>simp[aq]
 | cons p r ih=>
  have h1:=ih (fun q hq=>h q (by simp[hq]))
  have h2:=nu (h p (by simp))
  simp only[aq,List.map_cons,List.flatten_cons,List.length_append,List.length_cons,Nat.succ_mul] at h1 ⊢
  omega
theorem w2 {l:List Pm} {i:Nat} {p:Pm} (h:i < l.length) (hp:l[i]=p):aq (l.take (i+1))=aq (l.take i)++cS p:=by
 rw[List.take_succ_eq_append_getElem h,hp];simp[aq]
theorem o8 {l:List Pm} (h6:l.length≤6) (h:∀ p∈l,bu p=0) (i:Nat):(aq (l.take i)).length≤4584:=by
 have:=yz (l.take i) (fun p hp=>h p (List.mem_of_mem_take hp))
 have h2:(l.take i).length≤6:=by rw[List.length_take];omega
 have:=Nat.mul_le_mul_right 764 h2
 omega
theorem Cs (l:List Pm) (hl:l.length < 100000) (hf:Fit l):Fn G Tryz.prog iw [.slice (ps l)] (ge l):=by
 refine ac hm tw (by simp) ?_
 have hC:=tM l hl hf
 simp[me,mf]
 refine a7 hC ?_
 by_cases h0:bx l=0
 ·obtain ⟨h1,h2⟩:=lc h0
  have hR:ge l=.tuple [.str (aq l),.int .i64 0]:=by simp[ge,h0]
  rw[hR]
  simp (disch:=omega) [wl,h0]
  refine aA hm [] (fun i:Nat=>[(6,.val (.int .i64 i)),(5,.val (.str (aq (l.take i))))]) (fun i=>[]) (fun i=>i≤l.length) (fun i=>l.length-i) 0 (by omega) ?_ ?_
  ·simp[aq]
   exact aQ
  rintro i hi
  have hL:=o8 h1 h2 i
  simp[aw]
  by_cases h:i < l.length
  ·obtain ⟨p,hp⟩:∃ p,l[i]=p:=⟨_,rfl⟩
   have hm':p∈l:=hp▸List.getElem_mem h
   have hg:=gh h hp
   have hP:=I0 p (by have:=hf.n p hm';omega)
   have hc:=h2 p hm'
   have hpl:=nu hc
   have ht:=w2 h hp
   rw[jh,if_pos hc,hc] at hP
   simp (disch:=omega) [wl,aw,hg]
   refine a7 hP ?_
   simp (disch:=omega) [wl]
   refine ⟨by omega,?_⟩
   refine ae (i+1) (by omega) (by omega) ?_
   simp[ht]
   exact aQ
  ·obtain rfl:i=l.length:=by omega
   simp (disch:=omega) [wl]
 ·have hR:ge l=.tuple [.str [],.int .i64 (bx l)]:=by simp[ge,h0]
  rw[hR]
  simp (disch:=omega) [wl,h0]
theorem E9 (l:List Pm) (hl:l.length < 100000) (hf:Fit l):Fn G Tryz.prog iu [.slice (ps l)] (ge l):=by
 refine ac hm tr (by simp) ?_
 have hC:=vZ l hl hf
 simp[m7,m8,aw]
 refine a7 hC ?_
 by_cases h0:bx l=0
 ·obtain ⟨h1,h2⟩:=lc h0
  have hR:ge l=.tuple [.str (aq l),.int .i64 0]:=by simp[ge,h0]
  rw[hR]
  simp (disch:=omega) [wl,h0,aw]
  refine aA hm [] (fun i:Nat=>[(17,.val (.int .i64 i))]) (fun i=>[(5,.box [.selfN 5 151 false,.ownT 1 i 5]),(1,.arr i 1 (av (aq (l.take i))))]) (fun i=>i≤l.length) (fun i=>l.length-i) 0 (by omega) ?_ ?_
  ·simp[aq]
   exact aS.trans (m3 (k:=5) (d:=5) (t:=151) 1 5 (by simp) (by simp) (by simp[ap,a8]) (by simp[a8]) (by simp)) (an rfl rfl (by simp[St.bld,aR,ap,a8,put,ba,SV.erase]) (by simp[St.bld,bM,a8,put,aE,cc,Ob.erase,SV.erase,av]) (by simp[St.bld,bQ]))
  rintro i hi
  have hL:=o8 h1 h2 i
  simp[aw]
  by_cases h:i < l.length
  ·obtain ⟨p,hp⟩:∃ p,l[i]=p:=⟨_,rfl⟩
   have hm':p∈l:=hp▸List.getElem_mem h
   have hg:=gh h hp
   have hP:=K5 p (by have:=hf.n p hm';omega)
   have hc:=h2 p hm'
   have hpl:=nu hc
   have ht:=w2 h hp
   rw[jh,if_pos hc,hc] at hP
   simp (disch:=omega) [wl,aw,hg]
   refine a7 hP ?_
   simp (disch:=omega) [wl]
   refine callM [(1000,5),(1001,1)] [] (g9 i (aq (l.take i)) (cS p) (by omega)) rfl rfl ⟨rfl,rfl,trivial⟩ ⟨rfl,_,_,rfl,rfl,rfl⟩ rfl ?_
   simp[bb]
   simp (disch:=omega) [wl]
   refine ae (i+1) (by omega) (by omega) ?_
   simp[ht]
   exact aQ
  ·obtain rfl:i=l.length:=by omega
   have he:l.take l.length=l:=List.take_length
   simp (disch:=omega) [wl]
   refine callM [(1000,5),(1001,1)] [] (iq l.length (aq l) (by rw[he] at hL;omega)) rfl rfl (by simp[oK,bb,Vs.ren,a8,Ob.ren,SV.ren]) ⟨rfl,rfl⟩ rfl ?_
   simp
 ·have hR:ge l=.tuple [.str [],.int .i64 (bx l)]:=by simp[ge,h0]
  rw[hR]
  simp (disch:=omega) [wl,h0]
end Go.Vs.YtmaenhgipojmfaaGreatDoor
