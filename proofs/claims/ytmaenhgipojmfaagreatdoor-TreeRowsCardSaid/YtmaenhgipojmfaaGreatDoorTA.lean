/- Plain mathematics of folding: where a text may be cut, its rows, and the lines that rows make. No conditions. -/
import Derived.Test.YtmaenhgipojmfaaGreatDoorBH
set_option linter.unusedVariables false
set_option linter.unusedSimpArgs false
namespace Go.Vs.U8
end Go.Vs.U8
set_option linter.unusedVariables false
set_option linter.unusedSimpArgs false
namespace Go.Vs.Fd
open Go.Vs.U8
def dH (l:Str):Nat:=max 1 (bD l)
theorem FZ (l:Str):bD l≤4:=by
 cases l with
 | nil=>simp[bD]
 | cons c r=>
  simp only[bD]
  split
  ·omega
  ·split
   ·omega
   ·split
    ·omega
    ·split <;> omega
theorem iy (l:Str):1≤dH l:=by unfold dH;omega
theorem G0 (l:Str):dH l≤4:=by have:=FZ l;unfold dH;omega
theorem pq {l:Str} (h:l≠[]):dH l≤l.length:=by
 have:=m4 l
 have:1≤l.length:=by cases l with
  | nil=>exact absurd rfl h
  | cons c r=>simp
 unfold dH;omega
def Ei:Nat→Str→Nat→Nat
 | 0,_,_=>0
 | f+1,l,n=>if l=[] then 0 else if dH l≤n then dH l+Ei f (l.drop (dH l)) (n-dH l) else 0
def bf (l:Str) (n:Nat):Nat:=Ei l.length l n
theorem Bi:∀ (f g:Nat) (l:Str) (n:Nat),l.length≤f→l.length≤g→Ei f l n=Ei g l n
 | 0,0,_,_,_,_=>rfl
 | 0,g+1,l,n,hf,_=>by
  have:l=[]:=List.length_eq_zero_iff.1 (by omega)
  simp[Ei,this]
 | f+1,0,l,n,_,hg=>by
  have:l=[]:=List.length_eq_zero_iff.1 (by omega)
  simp[Ei,this]
 | f+1,g+1,l,n,hf,hg=>by
  simp only[Ei]
  by_cases h:l=[]
  ·rw[if_pos h,if_pos h]
  ·rw[if_neg h,if_neg h]
   have:=iy l
   rw[Bi f g _ _ (by rw[List.length_drop];omega) (by rw[List.length_drop];omega)]
theorem Gz (n:Nat):bf [] n=0:=rfl
theorem ua {l:Str} (h:l≠[]) (n:Nat):bf l n=if dH l≤n then dH l+bf (l.drop (dH l)) (n-dH l) else 0:=by
 unfold bf
 cases l with
 | nil=>exact absurd rfl h
 | cons c r=>
  have:=iy (c::r)
  rw[List.length_cons]
  simp only[Ei]
  rw[if_neg h,Bi r.length ((c::r).drop (dH (c::r))).length _ _ (by rw[List.length_drop,List.length_cons];omega) (Nat.le_refl _)]
theorem G1:∀ (f:Nat) (l:Str) (n:Nat),l.length≤f→bf l n≤n∧bf l n≤l.length
 | f,l,n,hf=>by
  by_cases h:l=[]
  ·subst h;simp[Gz]
  ·rw[ua h]
   have h1:=iy l
   have h2:=pq h
   cases f with
   | zero=>omega
   | succ f=>
    split
    ·have:=G1 f (l.drop (dH l)) (n-dH l) (by rw[List.length_drop];omega)
     rw[List.length_drop] at this
     omega
    ·omega
theorem Ki (l:Str) (n:Nat):bf l n≤n:=(G1 _ l n (Nat.le_refl _)).1
theorem ub (l:Str) (n:Nat):bf l n≤l.length:=(G1 _ l n (Nat.le_refl _)).2
theorem gY {l:Str} (h:l≠[]) {n:Nat} (hn:4≤n):1≤bf l n:=by
 have h1:=iy l
 have h2:=G0 l
 rw[ua h,if_pos (by omega)]
 omega
theorem GA:∀ (f:Nat) (l:Str) (n:Nat),l.length≤f→l.length≤n→bf l n=l.length
 | f,l,n,hf,hn=>by
  by_cases h:l=[]
  ·subst h;rfl
  ·have h1:=iy l
   have h2:=pq h
   cases f with
   | zero=>omega
   | succ f=>
    rw[ua h,if_pos (by omega),GA f _ _ (by rw[List.length_drop];omega) (by rw[List.length_drop];omega),List.length_drop]
    omega
def wc:Nat→Str→Nat→Str
 | 0,l,_=>l++[13,10]
 | f+1,l,n=>l.take (bf l n)++13::10::(if l.drop (bf l n)=[] then [] else 32::wc f (l.drop (bf l n)) 74)
def eS (l:Str) (n:Nat):Str:=wc l.length l n
def gZ (l:Str):Str:=eS l 75
theorem yL:∀ (f g:Nat) (l:Str) (n:Nat),4≤n→l.length≤f→l.length≤g→wc f l n=wc g l n
 | 0,0,_,_,_,_,_=>rfl
 | 0,g+1,l,n,_,hf,_=>by
  have:l=[]:=List.length_eq_zero_iff.1 (by omega)
  simp[wc,this]
 | f+1,0,l,n,_,_,hg=>by
  have:l=[]:=List.length_eq_zero_iff.1 (by omega)
  simp[wc,this]
 | f+1,g+1,l,n,hn,hf,hg=>by
  simp only[wc]
  by_cases h:l.drop (bf l n)=[]
  ·rw[if_pos h,if_pos h]
  ·have hl:l≠[]:=fun e=>h (by rw[e];rfl)
   have:=gY hl hn
   rw[yL f g _ 74 (by omega) (by rw[List.length_drop];omega) (by rw[List.length_drop];omega)]
theorem gB (l:Str) {n:Nat} (hn:4≤n):eS l n=l.take (bf l n)++13::10::(if l.drop (bf l n)=[] then [] else 32::eS (l.drop (bf l n)) 74):=by
 unfold eS
 cases l with
 | nil=>rfl
 | cons c r=>
  rw[List.length_cons]
  simp only[wc]
  have:=gY (l:=c::r) (by simp) hn
  rw[yL r.length _ _ 74 (by omega) (by rw[List.length_drop,List.length_cons];omega) (Nat.le_refl _)]
def cT (l:List Str):Str:=(l.map gZ).flatten
theorem qf:cT []=[]:=rfl
theorem sj (x:Str) (r:List Str):cT (x::r)=gZ x++cT r:=rfl

/- ROWS, AND THE LINES THAT THEY MAKE -/
def cX (c:UInt8):Bool:=c==10||c==13
def blank (c:UInt8):Bool:=c==32||c==9
inductive RowR where
 | bad (n:Nat)
 | ok (n nx:Nat)
def jk (t:Str):RowR:=
 if t.findIdx cX=t.length then .ok t.length t.length
 else if t[t.findIdx cX]?=some 10 then .ok (t.findIdx cX) (t.findIdx cX+1)
 else if t[t.findIdx cX+1]?=some 10 then .ok (t.findIdx cX) (t.findIdx cX+2)
 else .bad (t.findIdx cX)
structure Lf where
 t:Str
 ps:List (Nat×Nat)
inductive UfR where
 | no (e:Int) (p:Nat)
 | ok (l:List Lf)
def eT:Str→Bool
 | []=>false
 | c::_=>blank c
def CB:Nat→Str→Nat→List Lf→Option Lf→UfR
 | 0,_,_,D,cur=>.ok (D++cur.toList)
 | f+1,t,a,D,cur=>
  if t=[] then .ok (D++cur.toList)
  else if eT t=true∧cur.isNone=true then .no 4 0
  else match jk t with
   | .bad n=>.no 4 (a+n)
   | .ok n nx=>match eT t,cur with
    | true,some x=>CB f (t.drop nx) (a+nx) D (some ⟨x.t++(t.take n).drop 1,x.ps++[(x.t.length,a+1)]⟩)
    | _,_=>CB f (t.drop nx) (a+nx) (D++cur.toList) (some ⟨t.take n,[(0,a)]⟩)
def D1 (t:Str) (a:Nat) (D:List Lf) (cur:Option Lf):UfR:=CB t.length t a D cur
def bP (s:Str):UfR:=if 6000 < s.length then .no 5 6000 else D1 s 0 [] none
theorem jK {t:Str} {n nx:Nat} (h:jk t=.ok n nx) (ht:t≠[]):n≤t.length∧n≤nx∧1≤nx∧nx≤t.length:=by
 have hle:=List.findIdx_le_length (p:=cX) (xs:=t)
 have hp:1≤t.length:=by cases t with
  | nil=>exact absurd rfl ht
  | cons c r=>simp
 unfold jk at h
 split at h
 ·simp only[RowR.ok.injEq] at h;omega
 ·split at h
  ·simp only[RowR.ok.injEq] at h;omega
  ·split at h
   ·next h1=>
    have:=(List.getElem?_eq_some_iff.1 h1).1
    simp only[RowR.ok.injEq] at h;omega
   ·cases h
theorem Bj:∀ (f g:Nat) (t:Str) (a:Nat) (D:List Lf) (cur:Option Lf),t.length≤f→t.length≤g→CB f t a D cur=CB g t a D cur
 | 0,0,_,_,_,_,_,_=>rfl
 | 0,g+1,t,a,D,cur,hf,_=>by
  have:t=[]:=List.length_eq_zero_iff.1 (by omega)
  simp[CB,this]
 | f+1,0,t,a,D,cur,_,hg=>by
  have:t=[]:=List.length_eq_zero_iff.1 (by omega)
  simp[CB,this]
 | f+1,g+1,t,a,D,cur,hf,hg=>by
  simp only[CB]
  by_cases h:t=[]
  ·rw[if_pos h,if_pos h]
  ·rw[if_neg h,if_neg h]
   split
   ·rfl
   ·cases hr:jk t with
    | bad n=>rfl
    | ok n nx=>
     have hx:=jK hr h
     simp only
     have hl:(t.drop nx).length≤f∧(t.drop nx).length≤g:=by rw[List.length_drop];omega
     cases eT t <;> cases cur <;> exact Bj f g _ _ _ _ hl.1 hl.2
theorem nF (a:Nat) (D:List Lf) (cur:Option Lf):D1 [] a D cur=.ok (D++cur.toList):=rfl
theorem jL {t:Str} (h:t≠[]) (a:Nat) (D:List Lf) (cur:Option Lf):D1 t a D cur =
  if eT t=true∧cur.isNone=true then .no 4 0
  else match jk t with
   | .bad n=>.no 4 (a+n)
   | .ok n nx=>match eT t,cur with
    | true,some x=>D1 (t.drop nx) (a+nx) D (some ⟨x.t++(t.take n).drop 1,x.ps++[(x.t.length,a+1)]⟩)
    | _,_=>D1 (t.drop nx) (a+nx) (D++cur.toList) (some ⟨t.take n,[(0,a)]⟩):=by
 unfold D1
 cases t with
 | nil=>exact absurd rfl h
 | cons c r=>
  rw[List.length_cons]
  simp only[CB]
  rw[if_neg h]
  split
  ·rfl
  ·cases hr:jk (c::r) with
   | bad n=>rfl
   | ok n nx=>
    have hx:=jK hr h
    simp only
    have hl:((c::r).drop nx).length≤r.length:=by rw[List.length_drop,List.length_cons];omega
    cases eT (c::r) <;> cases cur <;> exact Bj _ _ _ _ _ _ hl (Nat.le_refl _)
theorem Bk {u:Str} (hu:∀ c∈u,cX c=false) (r:Str):jk (u++13::10::r)=.ok u.length (u.length+2):=by
 have hi:(u++13::10::r).findIdx cX=u.length:=by
  rw[List.findIdx_append]
  have h1:u.findIdx cX=u.length:=List.findIdx_eq_length.2 hu
  rw[h1,if_neg (by omega),List.findIdx_cons]
  simp[cX]
 unfold jk
 rw[hi]
 have h0:(u++13::10::r)[u.length]?=some 13:=by rw[List.getElem?_append_right (Nat.le_refl _),Nat.sub_self];rfl
 have h1:(u++13::10::r)[u.length+1]?=some 10:=by rw[List.getElem?_append_right (by omega),Nat.add_sub_cancel_left];rfl
 rw[if_neg (by simp),h0,if_neg (by decide),h1,if_pos rfl]
theorem Bl (c:UInt8) (h:blank c=true):cX c=false:=by
 simp only[blank,Bool.or_eq_true,beq_iff_eq] at h
 rcases h with rfl | rfl <;> rfl
theorem GB:∀ (f:Nat) (y:Str) (a:Nat) (D:List Lf) (x:Lf) (r:Str),y.length≤f→(∀ c∈y,cX c=false)→∃ a' ps',D1 (32::eS y 74++r) a D (some x)=D1 r a' D (some ⟨x.t++y,ps'⟩)
 | f,y,a,D,x,r,hf,hy=>by
  have e1:32::eS y 74++r=(32::y.take (bf y 74))++13::10::((if y.drop (bf y 74)=[] then [] else 32::eS (y.drop (bf y 74)) 74)++r):=by
   rw[gB y (by omega)];simp
  have hrow:=Bk (u:=32::y.take (bf y 74)) (by
   intro c hc
   rcases List.mem_cons.1 hc with rfl | hc
   ·rfl
   ·exact hy c (List.mem_of_mem_take hc)) ((if y.drop (bf y 74)=[] then [] else 32::eS (y.drop (bf y 74)) 74)++r)
  have hg:eT ((32::y.take (bf y 74))++13::10::((if y.drop (bf y 74)=[] then [] else 32::eS (y.drop (bf y 74)) 74)++r))=true:=rfl
  rw[e1,jL (by simp),if_neg (by simp),hrow]
  simp only[hg]
  rw[List.take_left,show (32::y.take (bf y 74)).length+2=((32::y.take (bf y 74))++[13,10]).length by simp,show (32::y.take (bf y 74))++13::10::((if y.drop (bf y 74)=[] then [] else 32::eS (y.drop (bf y 74)) 74)++r)=((32::y.take (bf y 74))++[13,10])++((if y.drop (bf y 74)=[] then [] else 32::eS (y.drop (bf y 74)) 74)++r) by simp,List.drop_left]
  simp only[List.drop_succ_cons,List.drop_zero]
  by_cases hd:y.drop (bf y 74)=[]
  ·rw[if_pos hd]
   have:y.take (bf y 74)=y:=by
    have:=List.take_append_drop (bf y 74) y
    rw[hd,List.append_nil] at this
    exact this
   rw[this]
   exact ⟨_,_,rfl⟩
  ·rw[if_neg hd]
   have hne:y≠[]:=fun e=>hd (by rw[e];rfl)
   have hp:=gY hne (n:=74) (by omega)
   cases f with
   | zero=>exact absurd (List.length_eq_zero_iff.1 (by omega)) hne
   | succ f=>
    obtain ⟨a',ps',h⟩:=GB f (y.drop (bf y 74)) (a+((32::y.take (bf y 74))++[13,10]).length) D ⟨x.t++y.take (bf y 74),x.ps++[(x.t.length,a+1)]⟩ r (by rw[List.length_drop];omega) (fun c hc=>hy c (List.mem_of_mem_drop hc))
    refine ⟨a',ps',?_⟩
    rw[h,List.append_assoc,List.take_append_drop]
def Clean (x:Str):Prop:=(∀ c∈x,cX c=false)∧eT x=false∧x≠[]
theorem M0 {x:Str} (hx:Clean x) (a:Nat) (D:List Lf) (cur:Option Lf) (r:Str):∃ a' ps',D1 (gZ x++r) a D cur=D1 r a' (D++cur.toList) (some ⟨x,ps'⟩):=by
 obtain ⟨h1,h2,h3⟩:=hx
 have hp:=gY h3 (n:=75) (by omega)
 have e1:gZ x++r=x.take (bf x 75)++13::10::((if x.drop (bf x 75)=[] then [] else 32::eS (x.drop (bf x 75)) 74)++r):=by
  unfold gZ
  rw[gB x (by omega)];simp
 have hrow:=Bk (u:=x.take (bf x 75)) (fun c hc=>h1 c (List.mem_of_mem_take hc)) ((if x.drop (bf x 75)=[] then [] else 32::eS (x.drop (bf x 75)) 74)++r)
 have hg:∀ z,eT (x.take (bf x 75)++z)=false:=by
  intro z
  cases x with
  | nil=>exact absurd rfl h3
  | cons c t=>
   obtain ⟨k,hk⟩:∃ k,bf (c::t) 75=k+1:=⟨bf (c::t) 75-1,by omega⟩
   rw[hk]
   exact h2
 rw[e1,jL (by simp),if_neg (by rw[hg];simp),hrow]
 simp only[hg]
 rw[List.take_left,show (x.take (bf x 75)).length+2=(x.take (bf x 75)++[13,10]).length by simp,show x.take (bf x 75)++13::10::((if x.drop (bf x 75)=[] then [] else 32::eS (x.drop (bf x 75)) 74)++r)=(x.take (bf x 75)++[13,10])++((if x.drop (bf x 75)=[] then [] else 32::eS (x.drop (bf x 75)) 74)++r) by simp,List.drop_left]
 by_cases hd:x.drop (bf x 75)=[]
 ·rw[if_pos hd]
  have:x.take (bf x 75)=x:=by
   have:=List.take_append_drop (bf x 75) x
   rw[hd,List.append_nil] at this
   exact this
  rw[this]
  exact ⟨_,_,rfl⟩
 ·rw[if_neg hd]
  obtain ⟨a',ps',h⟩:=GB _ (x.drop (bf x 75)) (a+(x.take (bf x 75)++[13,10]).length) (D++cur.toList) ⟨x.take (bf x 75),[(0,a)]⟩ r (Nat.le_refl _) (fun c hc=>h1 c (List.mem_of_mem_drop hc))
  exact ⟨a',ps',by rw[h,List.take_append_drop]⟩
theorem GC:∀ (L:List Str) (a:Nat) (D:List Lf) (cur:Option Lf),(∀ x∈L,Clean x)→∃ l,D1 (cT L) a D cur=.ok (D++cur.toList++l)∧l.map Lf.t=L
 | [],a,D,cur,_=>⟨[],by rw[qf,nF,List.append_nil],rfl⟩
 | x::r,a,D,cur,h=>by
  obtain ⟨a',ps',h1⟩:=M0 (h x (by simp)) a D cur (cT r)
  obtain ⟨l,h2,h3⟩:=GC r a' (D++cur.toList) (some ⟨x,ps'⟩) (fun y hy=>h y (by simp[hy]))
  refine ⟨⟨x,ps'⟩::l,?_,by simp[h3]⟩
  rw[sj,h1,h2]
  simp
theorem wd {L:List Str} (h:∀ x∈L,Clean x) (hl:(cT L).length≤6000):∃ l,bP (cT L)=.ok l∧l.map Lf.t=L:=by
 unfold bP
 rw[if_neg (by omega)]
 obtain ⟨l,h1,h2⟩:=GC L 0 [] none h
 exact ⟨l,by simpa using h1,h2⟩
end Go.Vs.Fd
set_option linter.unusedVariables false
set_option linter.unusedSimpArgs false
namespace Go.Vs.Tr
open Go.Vs.U8
structure Nd (X:Type) where
 up:Int
 n:Str
 l:List X
 deriving DecidableEq
inductive Ev (X:Type) where
 | beg (n:Str)
 | fin (n:Str)
 | lin (x:X)
section
variable {X:Type} (ck:X→Int) (nb:Str→Bool)
def kx:List X→Int
 | []=>0
 | x::r=>if ck x≠0 then ck x else kx r
def gi (l:List X):Int:=if 24 < l.length then 20 else kx ck l
inductive ChR where
 | no (e:Int)
 | ok (q:List Nat)
def b9 (up:Int):List Nat→List Nat
 | []=>[]
 | k::r=>if (k:Int)=up then k::r else b9 up r
def lN:List (Nd X)→Nat→List Nat→ChR
 | [],_,op=>.ok op
 | x::r,i,op=>
  if x.up≠-1∧b9 x.up op=[] then .no 9
  else if 4 < (i::b9 x.up op).length then .no 15
  else if nb x.n=false then .no 4
  else if gi ck x.l≠0 then .no (gi ck x.l)
  else lN r (i+1) (i::b9 x.up op)
def nG (l:List (Nd X)):Int:=if 40 < l.length then 20 else match lN ck nb l 0 [] with
 | .no e=>e
 | .ok _=>0
def ef (up:Int):List Nat→List Nat
 | []=>[]
 | k::r=>if (k:Int)=up then [] else k::ef up r
theorem dI (up:Int):∀ op:List Nat,ef up op++b9 up op=op
 | []=>rfl
 | k::r=>by
  simp only[ef,b9]
  by_cases h:(k:Int)=up
  ·rw[if_pos h,if_pos h];rfl
  ·rw[if_neg h,if_neg h,List.cons_append,dI up r]
theorem pr {up:Int} : ∀ {op:List Nat},b9 up op≠[]→∃ r,b9 up op=up.toNat::r∧up=(up.toNat:Int)
 | [],h=>absurd rfl h
 | k::r,h=>by
  simp only[b9] at h ⊢
  by_cases h1:(k:Int)=up
  ·rw[if_pos h1]
   exact ⟨r,by rw[←h1];rfl,by rw[←h1];rfl⟩
  ·rw[if_neg h1] at h ⊢
   exact pr h
theorem iz (op:List Nat):b9 (-1) op=[]:=by
 induction op with
 | nil=>rfl
 | cons k r ih=>simp only[b9];rw[if_neg (by omega),ih]
theorem I8 (op:List Nat):ef (-1) op=op:=by
 have:=dI (-1) op
 rw[iz,List.append_nil] at this
 exact this
def bw:List Nat→Int
 | []=>-1
 | k::_=>k
def mj (L:List (Nd X)):List (Nd X)→Nat→List Nat→List (Ev X)
 | [],_,op=>op.map fun k=>.fin ((L[k]?).elim [] Nd.n)
 | x::r,i,op=>((ef x.up op).map fun k=>.fin ((L[k]?).elim [] Nd.n))++.beg x.n::(x.l.map .lin++mj L r (i+1) (i::b9 x.up op))
def CC (l:List (Nd X)):List (Ev X):=mj l l 0 []
inductive StR (X:Type) where
 | no (e:Int)
 | ok (N:List (Nd X)) (op:List Nat)
def hG (N:List (Nd X)) (op:List Nat):Ev X→StR X
 | .beg n=>if op.length=4 then .no 15 else if N.length=40 then .no 20 else .ok (N++[⟨bw op,n,[]⟩]) (N.length::op)
 | .fin n=>match op with
  | []=>.no 4
  | k::r=>if (N[k]?).elim [] Nd.n=n then .ok N r else .no 4
 | .lin x=>match op with
  | []=>.no 9
  | k::_=>match N[k]? with
   | some y=>if y.l.length=24 then .no 20 else .ok (N.set k ⟨y.up,y.n,y.l++[x]⟩) op
   | none=>.no 9
def pt:List (Ev X)→List (Nd X)→List Nat→StR X
 | [],N,op=>.ok N op
 | e::r,N,op=>match hG N op e with
  | .no c=>.no c
  | .ok N' op'=>pt r N' op'
theorem run_app:∀ (a b:List (Ev X)) (N:List (Nd X)) (op:List Nat),pt (a++b) N op=match pt a N op with
  | .no c=>.no c
  | .ok N' op'=>pt b N' op'
 | [],b,N,op=>rfl
 | e::a,b,N,op=>by
  simp only[List.cons_append,pt]
  cases hG N op e with
  | no c=>rfl
  | ok N' op'=>exact run_app a b N' op'
theorem yM {N L:List (Nd X)} (q:List Nat):∀ (s:List Nat),(∀ k∈s,(N[k]?).elim [] Nd.n=(L[k]?).elim [] Nd.n)→pt (s.map fun k=>.fin ((L[k]?).elim [] Nd.n)) N (s++q)=.ok N q
 | [],_=>rfl
 | k::s,h=>by
  simp only[List.map_cons,List.cons_append,pt,hG]
  rw[if_pos (h k (by simp))]
  exact yM q s (fun j hj=>h j (by simp[hj]))
theorem Bm (A:List (Nd X)) (up:Int) (n:Str) (q:List Nat):∀ (xs ys:List X),ys.length+xs.length≤24→pt (xs.map .lin) (A++[⟨up,n,ys⟩]) (A.length::q)=.ok (A++[⟨up,n,ys++xs⟩]) (A.length::q)
 | [],ys,_=>by simp[pt]
 | x::xs,ys,h=>by
  simp only[List.length_cons] at h
  simp only[List.map_cons,pt,hG]
  rw[List.getElem?_append_right (Nat.le_refl _),Nat.sub_self]
  simp only[List.getElem?_cons_zero]
  rw[if_neg (by omega)]
  have e:(A++[(⟨up,n,ys⟩:Nd X)]).set A.length (⟨up,n,ys++[x]⟩:Nd X)=A++[⟨up,n,ys++[x]⟩]:=by
   rw[List.set_append_right _ _ (Nat.le_refl _),Nat.sub_self];rfl
  simp only[e]
  rw[Bm A up n q xs (ys++[x]) (by simp;omega)]
  simp
theorem nH {l:List X} (h:gi ck l=0):l.length≤24∧kx ck l=0:=by
 unfold gi at h
 split at h
 ·cases h
 ·exact ⟨by omega,h⟩
theorem Bn (L:List (Nd X)) (hL:L.length≤40):∀ (R A:List (Nd X)) (op q:List Nat),L=A++R→(∀ k∈op,k < A.length)→lN ck nb R A.length op=.ok q→pt (mj L R A.length op) A op=.ok L []
 | [],A,op,q,hA,ho,_=>by
  rw[List.append_nil] at hA
  subst hA
  have:=yM (N:=L) (L:=L) [] op (fun _ _=>rfl)
  rw[List.append_nil] at this
  exact this
 | x::R,A,op,q,hA,ho,hc=>by
  simp only[lN] at hc
  split at hc
  ·cases hc
  ·next h1=>
   split at hc
   ·cases hc
   ·next h2=>
    split at hc
    ·cases hc
    ·next h3=>
     split at hc
     ·cases hc
     ·next h4=>
      simp only[Decidable.not_not] at h4
      obtain ⟨h5,_⟩:=nH ck h4
      simp only[mj]
      have hsub:∀ k∈ef x.up op,k < A.length:=fun k hk=>ho k (by rw[←dI x.up op];exact List.mem_append_left _ hk)
      have hkeep:∀ k∈b9 x.up op,k < A.length:=fun k hk=>ho k (by rw[←dI x.up op];exact List.mem_append_right _ hk)
      have hf:=yM (N:=A) (L:=L) (b9 x.up op) (ef x.up op) (fun k hk=>by rw[hA,List.getElem?_append_left (hsub k hk)])
      rw[dI] at hf
      rw[run_app,hf]
      have htop:bw (b9 x.up op)=x.up:=by
       by_cases hu:x.up = -1
       ·rw[hu,iz];rfl
       ·have:b9 x.up op≠[]:=fun e=>h1 ⟨hu,e⟩
        obtain ⟨r,e1,e2⟩:=pr this
        rw[e1,e2];rfl
      have hlen:(A++x::R).length≤40:=by rw[←hA];exact hL
      simp only[List.length_append,List.length_cons] at hlen h2
      simp only[pt,hG]
      rw[if_neg (by omega),if_neg (by omega),htop]
      simp only
      rw[run_app,Bm A x.up x.n (b9 x.up op) x.l [] (by simpa using h5)]
      simp only[List.nil_append]
      have e:L=(A++[x])++R:=by rw[hA];simp
      have el:(A++[x]).length=A.length+1:=by simp
      rw[←el]
      rw[←el] at hc
      have:=Bn L hL R (A++[x]) (A.length::b9 x.up op) q e (by
       intro k hk
       rw[el]
       rcases List.mem_cons.1 hk with rfl | hk
       ·omega
       ·have:=hkeep k hk;omega) hc
      exact this
theorem I9 {l:List (Nd X)} (h:nG ck nb l=0) (h9:∀ e,lN ck nb l 0 []=.no e→e≠0):pt (CC l) [] []=.ok l []:=by
 unfold nG at h
 split at h
 ·cases h
 ·next hl=>
  cases hq:lN ck nb l 0 [] with
  | no e=>rw[hq] at h;exact absurd h (h9 e hq)
  | ok q=>exact Bn ck nb l (by omega) l [] [] q rfl (by simp) hq
end
end Go.Vs.Tr
set_option linter.unusedVariables false
set_option linter.unusedSimpArgs false
namespace Go.Vs.Tr
open Go.Vs.U8
section
variable {X:Type} (ck:X→Int) (nb:Str→Bool)
theorem GD:∀ (A R:List (Nd X)) (i:Nat) (op:List Nat),lN ck nb (A++R) i op=match lN ck nb A i op with
  | .no e=>.no e
  | .ok q=>lN ck nb R (i+A.length) q
 | [],R,i,op=>rfl
 | x::A,R,i,op=>by
  simp only[List.cons_append,lN,List.length_cons]
  split
  ·rfl
  ·split
   ·rfl
   ·split
    ·rfl
    ·split
     ·rfl
     ·rw[GD A R (i+1) _]
      rw[show i+1+A.length=i+(A.length+1) by omega]
theorem CD:∀ (A:List (Nd X)) (i:Nat) (op:List Nat) (e:Int),lN ck nb A i op=.no e→e≠0
 | [],i,op,e,h=>by simp[lN] at h
 | x::A,i,op,e,h=>by
  simp only[lN] at h
  split at h
  ·simp only[ChR.no.injEq] at h;omega
  ·split at h
   ·simp only[ChR.no.injEq] at h;omega
   ·split at h
    ·simp only[ChR.no.injEq] at h;omega
    ·split at h
     ·next h4=>simp only[ChR.no.injEq] at h;rw[←h];exact h4
     ·exact CD A _ _ e h
theorem GE:∀ (A:List (Nd X)) (i:Nat) (op q:List Nat) (k:Nat) (y:Nd X) (l:List X),lN ck nb A i op=.ok q→A[k]?=some y→gi ck l=0→lN ck nb (A.set k ⟨y.up,y.n,l⟩) i op=.ok q
 | [],i,op,q,k,y,l,h,hk,_=>by simp at hk
 | x::A,i,op,q,0,y,l,h,hk,hl=>by
  simp only[List.getElem?_cons_zero,Option.some.injEq] at hk
  subst hk
  simp only[List.set_cons_zero,lN] at h ⊢
  split at h
  ·cases h
  ·next h1=>
   split at h
   ·cases h
   ·next h2=>
    split at h
    ·cases h
    ·next h3=>
     split at h
     ·cases h
     ·rw[if_neg h1,if_neg h2,if_neg h3,if_neg (by simp[hl])]
      exact h
 | x::A,i,op,q,k+1,y,l,h,hk,hl=>by
  simp only[List.getElem?_cons_succ] at hk
  simp only[List.set_cons_succ,lN] at h ⊢
  split at h
  ·cases h
  ·next h1=>
   split at h
   ·cases h
   ·next h2=>
    split at h
    ·cases h
    ·next h3=>
     split at h
     ·cases h
     ·next h4=>
      rw[if_neg h1,if_neg h2,if_neg h3,if_neg h4]
      exact GE A _ _ q k y l h hk hl
theorem yN:∀ (A:List (Nd X)) (i:Nat) (op q:List Nat) (k:Nat) (y:Nd X),lN ck nb A i op=.ok q→A[k]?=some y→gi ck y.l=0
 | [],i,op,q,k,y,h,hk=>by simp at hk
 | x::A,i,op,q,k,y,h,hk=>by
  simp only[lN] at h
  split at h
  ·cases h
  ·split at h
   ·cases h
   ·split at h
    ·cases h
    ·split at h
     ·cases h
     ·next h4=>
      simp only[Decidable.not_not] at h4
      cases k with
      | zero=>
       simp only[List.getElem?_cons_zero,Option.some.injEq] at hk
       subst hk
       exact h4
      | succ k=>exact yN A _ _ q k y h (by simpa using hk)
theorem Kj (l:List X) (x:X) (h:kx ck l=0) (hx:ck x=0):kx ck (l++[x])=0:=by
 induction l with
 | nil=>simp[kx,hx]
 | cons y r ih=>
  simp only[kx] at h
  simp only[List.cons_append,kx]
  split at h
  ·next h1=>exact absurd h h1
  ·next h1=>rw[if_neg h1];exact ih h
theorem Kk {s r:List Nat} {k:Nat} (h:k∉s):b9 k (s++k::r)=k::r:=by
 induction s with
 | nil=>simp[b9]
 | cons j s ih=>
  simp only[List.mem_cons,not_or] at h
  simp only[List.cons_append,b9]
  rw[if_neg (by intro e;exact h.1 (by omega)),ih h.2]
def Good (N:List (Nd X)) (op:List Nat):Prop:=N.length≤40∧∃ q s,lN ck nb N 0 []=.ok q∧q=s++op∧q.Nodup∧(∀ k∈q,k < N.length)∧q.length≤4
theorem yO:Good ck nb ([]:List (Nd X)) []:=⟨by simp,[],[],rfl,rfl,by simp,by simp,by simp⟩
def Nk:Ev X→Prop
 | .beg n=>nb n=true
 | .fin _=>True
 | .lin x=>ck x=0
theorem Bo {N N':List (Nd X)} {op op':List Nat} {e:Ev X} (h:Good ck nb N op) (he:Nk ck nb e) (hs:hG N op e=.ok N' op'):Good ck nb N' op':=by
 obtain ⟨h1,q,s,h2,h3,h4,h5,h6⟩:=h
 cases e with
 | beg n=>
  simp only[hG] at hs
  split at hs
  ·cases hs
  ·next c1=>
   split at hs
   ·cases hs
   ·next c2=>
    simp only[StR.ok.injEq] at hs
    obtain ⟨rfl,rfl⟩:=hs
    have hk:b9 (bw op) q=op:=by
     cases op with
     | nil=>exact iz q
     | cons k r=>
      rw[h3]
      refine Kk ?_
      rw[h3] at h4
      intro hm
      have:=(List.nodup_append.1 h4).2.2 k hm k (by simp)
      exact this rfl
    have hol:op.length≤4:=by rw[h3,List.length_append] at h6;omega
    have hlt:∀ k∈op,k < N.length:=fun k hk=>h5 k (by rw[h3];exact List.mem_append_right _ hk)
    have hnd:op.Nodup:=by rw[h3] at h4;exact (List.nodup_append.1 h4).2.1
    refine ⟨by simp;omega,N.length::op,[],?_,rfl,?_,?_,?_⟩
    ·rw[GD,h2]
     simp only[lN,Nat.zero_add]
     rw[hk,if_neg,if_neg,if_neg,if_neg]
     ·simp[gi,kx]
     ·have:nb n=true:=he
      simp[this]
     ·simp only[List.length_cons];omega
     ·rintro ⟨c3,c4⟩
      exact c3 (by rw[c4];rfl)
    ·rw[List.nodup_cons]
     exact ⟨fun hm=>by have:=hlt _ hm;omega,hnd⟩
    ·intro k hk
     rw[List.length_append,List.length_cons,List.length_nil]
     rcases List.mem_cons.1 hk with rfl | hk
     ·omega
     ·have:=hlt k hk;omega
    ·simp only[List.length_cons];omega
 | fin n=>
  simp only[hG] at hs
  split at hs
  ·cases hs
  ·next k r=>
   split at hs
   ·simp only[StR.ok.injEq] at hs
    obtain ⟨rfl,rfl⟩:=hs
    exact ⟨h1,q,s++[k],h2,by rw[h3];simp,h4,h5,h6⟩
   ·cases hs
 | lin x=>
  simp only[hG] at hs
  split at hs
  ·cases hs
  ·next k r=>
   split at hs
   ·next y hy=>
    split at hs
    ·cases hs
    ·next c1=>
     simp only[StR.ok.injEq] at hs
     obtain ⟨rfl,rfl⟩:=hs
     have hl:=yN ck nb N 0 [] q k y h2 hy
     obtain ⟨l1,l2⟩:=nH ck hl
     refine ⟨by rw[List.length_set];exact h1,q,s,?_,h3,h4,by rw[List.length_set];exact h5,h6⟩
     refine GE ck nb N 0 [] q k y _ h2 hy ?_
     unfold gi
     rw[if_neg (by simp;omega)]
     exact Kj ck _ x l2 he
   ·cases hs
theorem yP {N:List (Nd X)} {op:List Nat} (h:Good ck nb N op):nG ck nb N=0:=by
 obtain ⟨h1,q,s,h2,_⟩:=h
 unfold nG
 rw[if_neg (by omega),h2]
theorem Kl {l:List (Nd X)} (h:nG ck nb l=0):pt (CC l) [] []=.ok l []:=I9 ck nb h (fun e he=>CD ck nb l 0 [] e he)
theorem G2 (L:List (Nd X)):∀ (R:List (Nd X)) (i:Nat) (op:List Nat),(mj L R i op).length=op.length+(R.map fun x=>x.l.length+2).sum
 | [],i,op=>by simp[mj]
 | x::R,i,op=>by
  have:=congrArg List.length (dI x.up op)
  rw[List.length_append] at this
  simp only[mj,List.length_append,List.length_map,List.length_cons,G2 L R (i+1),List.map_cons,List.sum_cons]
  omega
theorem Mv (L:List (Nd X)):∀ (R:List (Nd X)) (i:Nat) (op q:List Nat),lN ck nb R i op=.ok q→∀ e∈mj L R i op,Nk ck nb e
 | [],i,op,q,_,e,he=>by
  simp only[mj,List.mem_map] at he
  obtain ⟨k,_,rfl⟩:=he
  trivial
 | x::R,i,op,q,h,e,he=>by
  simp only[lN] at h
  split at h
  ·cases h
  ·split at h
   ·cases h
   ·split at h
    ·cases h
    ·next h3=>
     split at h
     ·cases h
     ·next h4=>
      simp only[Decidable.not_not] at h4
      obtain ⟨_,h5⟩:=nH ck h4
      simp only[mj,List.mem_append,List.mem_cons,List.mem_map] at he
      rcases he with ⟨k,_,rfl⟩ | rfl | ⟨y,hy,rfl⟩ | he
      ·trivial
      ·show nb x.n=true
       simpa using h3
      ·have:∀ l:List X,kx ck l=0→∀ y∈l,ck y=0:=by
        intro l
        induction l with
        | nil=>intro _ y hy;cases hy
        | cons z r ih=>
         intro hb y hy
         simp only[kx] at hb
         split at hb
         ·next h1=>exact absurd hb h1
         ·next h1=>
          rcases List.mem_cons.1 hy with rfl | hy
          ·simpa using h1
          ·exact ih hb y hy
       exact this x.l h5 y hy
      ·exact Mv L R (i+1) _ q h e he
end
end Go.Vs.Tr
set_option linter.unusedVariables false
set_option linter.unusedSimpArgs false
namespace Go.Vs.Tr
open Go.Vs.U8
section
variable {X:Type} (ck:X→Int) (nb:Str→Bool)
def NU:Nat→List (Nd X)→Int→Nat→List (Ev X)
 | 0,_,_,_=>[]
 | f+1,L,up,j=>match L[j]? with
  | none=>[]
  | some x=>if x.up=up then .beg x.n::(x.l.map .lin++(NU f L j (j+1)++.fin x.n::NU f L up (j+1))) else NU f L up (j+1)
def dt (L:List (Nd X)) (up:Int) (j:Nat):List (Ev X):=NU (L.length-j) L up j
theorem CE {L:List (Nd X)} {j:Nat} (up:Int) (h:L.length≤j):dt L up j=[]:=by
 unfold dt
 rw[show L.length-j=0 by omega]
 rfl
theorem nI {L:List (Nd X)} {j:Nat} {x:Nd X} (up:Int) (h:L[j]?=some x):dt L up j=if x.up=up then .beg x.n::(x.l.map .lin++(dt L j (j+1)++.fin x.n::dt L up (j+1))) else dt L up (j+1):=by
 obtain ⟨hj,_⟩:=List.getElem?_eq_some_iff.1 h
 unfold dt
 obtain ⟨f,hf⟩:∃ f,L.length-j=f+1:=⟨L.length-j-1,by omega⟩
 rw[hf,show L.length-(j+1)=f by omega]
 simp only[NU,h]
theorem j0 {up:Int} : ∀ {op:List Nat} {k:Nat},k∈b9 up op→k∈op
 | [],k,h=>by cases h
 | j::r,k,h=>by
  simp only[b9] at h
  split at h
  ·exact h
  ·exact List.mem_cons_of_mem _ (j0 h)
theorem Ej {up:Int} : ∀ {op:List Nat},b9 up op≠[]→∃ k∈op,(k:Int)=up
 | [],h=>absurd rfl h
 | j::r,h=>by
  simp only[b9] at h
  split at h
  ·next h1=>exact ⟨j,by simp,h1⟩
  ·obtain ⟨k,h2,h3⟩:=Ej h
   exact ⟨k,by simp[h2],h3⟩
theorem GF (L:List (Nd X)) (k:Nat):∀ (R A:List (Nd X)) (op q:List Nat),L=A++R→k < A.length→k∉op→lN ck nb R A.length op=.ok q→dt L k A.length=[]
 | [],A,op,q,hA,hk,_,_=>CE _ (by rw[hA];simp)
 | x::R,A,op,q,hA,hk,ho,hc=>by
  simp only[lN] at hc
  split at hc
  ·cases hc
  ·next h1=>
   split at hc
   ·cases hc
   ·split at hc
    ·cases hc
    ·split at hc
     ·cases hc
     ·have hx:L[A.length]?=some x:=by rw[hA,List.getElem?_append_right (Nat.le_refl _),Nat.sub_self];rfl
      have hup:¬x.up=(k:Int):=by
       intro e
       have:b9 x.up op≠[]:=fun e2=>h1 ⟨by omega,e2⟩
       obtain ⟨j,h2,h3⟩:=Ej this
       exact ho (by rw[show k=j by omega];exact h2)
      rw[nI _ hx,if_neg hup]
      have el:(A++[x]).length=A.length+1:=by simp
      rw[←el] at hc ⊢
      exact GF L k R (A++[x]) _ q (by rw[hA];simp) (by rw[el];omega) (by
       intro hm
       rcases List.mem_cons.1 hm with e | hm
       ·omega
       ·exact ho (j0 hm)) hc
def gj (L:List (Nd X)) (i:Nat):List Nat→List (Ev X)
 | []=>dt L (-1) i
 | k::r=>dt L k i++.fin ((L[k]?).elim [] Nd.n)::gj L i r
theorem yQ {L:List (Nd X)} {i:Nat} (q:List Nat):∀ s:List Nat,(∀ k∈s,dt L k i=[])→gj L i (s++q)=(s.map fun k=>.fin ((L[k]?).elim [] Nd.n))++gj L i q
 | [],_=>rfl
 | k::s,h=>by
  simp only[List.cons_append,gj,List.map_cons]
  rw[h k (by simp),yQ q s (fun j hj=>h j (by simp[hj]))]
  rfl
theorem Mw (L:List (Nd X)):∀ (R A:List (Nd X)) (op q:List Nat),L=A++R→(∀ k∈op,k < A.length)→op.Nodup→lN ck nb R A.length op=.ok q→mj L R A.length op=gj L A.length op
 | [],A,op,q,hA,_,_,_=>by
  rw[List.append_nil] at hA
  subst hA
  have:∀ op:List Nat,(op.map fun k=>(.fin ((L[k]?).elim [] Nd.n):Ev X))=gj L L.length op:=by
   intro op
   induction op with
   | nil=>simp only[List.map_nil,gj];rw[CE _ (Nat.le_refl _)]
   | cons k r ih=>simp only[List.map_cons,gj];rw[CE _ (Nat.le_refl _),ih];rfl
  exact this op
 | x::R,A,op,q,hA,ho,hnd,hc=>by
  have hx:L[A.length]?=some x:=by rw[hA,List.getElem?_append_right (Nat.le_refl _),Nat.sub_self];rfl
  have el:(A++[x]).length=A.length+1:=by simp
  have hA':L=(A++[x])++R:=by rw[hA];simp
  have hsub:∀ k∈ef x.up op,k < A.length:=fun k hk=>ho k (by rw[←dI x.up op];exact List.mem_append_left _ hk)
  have hkeep:∀ k∈b9 x.up op,k < A.length:=fun k hk=>ho k (j0 hk)
  have hnd2:=hnd
  rw[←dI x.up op,List.nodup_append] at hnd2
  obtain ⟨n1,n2,n3⟩:=hnd2
  simp only[mj]
  simp only[lN] at hc
  split at hc
  ·cases hc
  ·next h1=>
   split at hc
   ·cases hc
   ·split at hc
    ·cases hc
    ·split at hc
     ·cases hc
     ·rw[←el] at hc
      have ih:=Mw L R (A++[x]) (A.length::b9 x.up op) q hA' (by
       intro k hk
       rw[el]
       rcases List.mem_cons.1 hk with rfl | hk
       ·omega
       ·have:=hkeep k hk;omega) (by
       rw[List.nodup_cons]
       exact ⟨fun hm=>by have:=hkeep _ hm;omega,n2⟩) hc
      rw[el] at ih
      have hsh:∀ k∈ef x.up op,dt L k A.length=[]:=by
       intro k hk
       have hup:¬x.up=(k:Int):=by
        intro e
        have:b9 x.up op≠[]:=fun e2=>h1 ⟨by omega,e2⟩
        obtain ⟨r,e1,e2⟩:=pr this
        refine n3 k hk k ?_ rfl
        rw[e1,show k=x.up.toNat by omega]
        simp
       have:=GF ck nb L k R (A++[x]) (A.length::b9 x.up op) q hA' (by rw[el];have:=hsub k hk;omega) (by
        intro hm
        rcases List.mem_cons.1 hm with e | hm
        ·have:=hsub k hk;omega
        ·exact n3 k hk k hm rfl) hc
       rw[el] at this
       rw[nI _ hx,if_neg hup,this]
      have hcl:=yQ (L:=L) (i:=A.length) (b9 x.up op) (ef x.up op) hsh
      rw[dI] at hcl
      rw[hcl]
      congr 1
      have hend:(L[A.length]?).elim [] Nd.n=x.n:=by rw[hx];rfl
      have hskip:∀ s:List Nat,(∀ k∈s,¬x.up=(k:Int))→x.up≠-1→gj L A.length s=gj L (A.length+1) s:=by
       intro s
       induction s with
       | nil=>intro _ hu;simp only[gj];rw[nI _ hx,if_neg hu]
       | cons k r ih2=>
        intro hs hu
        simp only[gj]
        rw[nI (k:Int) hx,if_neg (hs k (by simp)),ih2 (fun j hj=>hs j (by simp[hj])) hu]
      rw[ih]
      simp only[gj]
      rw[hend]
      by_cases hu:x.up = -1
      ·rw[hu,iz]
       simp only[gj]
       rw[nI (-1) hx,if_pos hu]
      ·have hne:b9 x.up op≠[]:=fun e2=>h1 ⟨hu,e2⟩
       obtain ⟨r,e1,e2⟩:=pr hne
       rw[e1]
       rw[e1,List.nodup_cons] at n2
       simp only[gj]
       rw[nI ((x.up.toNat:Nat):Int) hx,if_pos e2,hskip r (fun k hk e=>n2.1 (by rw[show x.up.toNat=k by omega];exact hk)) hu]
       simp
theorem Nl {l:List (Nd X)} {q:List Nat} (h:lN ck nb l 0 []=.ok q):CC l=dt l (-1) 0:=Mw ck nb l l [] [] q rfl (by simp) (by simp) h
end
end Go.Vs.Tr
set_option linter.unusedVariables false
set_option linter.unusedSimpArgs false
namespace Go.Vs.Tr
open Go.Vs.U8
section
variable {X:Type} (ck:X→Int) (nb:Str→Bool)
def hX (L:List (Nd X)) (k:Nat):Int:=(L[k]?).elim (-1) Nd.up
def fS (L:List (Nd X)):List Nat→Prop
 | []=>True
 | k::r=>hX L k=bw r∧(∀ j∈r,j < k)∧fS L r
theorem yR {L:List (Nd X)} (up:Int):∀ {op:List Nat},fS L op→fS L (b9 up op)
 | [],h=>h
 | k::r,h=>by
  simp only[b9]
  split
  ·exact h
  ·exact yR up h.2.2
theorem Km {up:Int} {op:List Nat} (h:¬(up≠-1∧b9 up op=[])):bw (b9 up op)=up:=by
 by_cases hu:up = -1
 ·rw[hu,iz];rfl
 ·obtain ⟨r,e1,e2⟩:=pr (fun e=>h ⟨hu,e⟩)
  rw[e1,e2];rfl
theorem yS {L:List (Nd X)} {i:Nat} {op:List Nat} {x:Nd X} (hx:L[i]?=some x) (hc:fS L op) (ho:∀ k∈op,k < i) (h:¬(x.up≠-1∧b9 x.up op=[])):fS L (i::b9 x.up op):=by
 refine ⟨?_,fun j hj=>ho j (j0 hj),yR _ hc⟩
 rw[Km h]
 unfold hX
 rw[hx]
 rfl
def CF:Nat→List (Nd X)→Nat→Nat
 | 0,_,_=>0
 | f+1,L,i=>if 0≤hX L i∧hX L i < i then 1+CF f L (hX L i).toNat else 0
theorem Ek:∀ (f g:Nat) (L:List (Nd X)) (i:Nat),i≤f→i≤g→CF f L i=CF g L i
 | 0,0,_,_,_,_=>rfl
 | 0,g+1,L,i,hf,_=>by
  simp only[CF]
  rw[if_neg (by omega)]
 | f+1,0,L,i,_,hg=>by
  simp only[CF]
  rw[if_neg (by omega)]
 | f+1,g+1,L,i,hf,hg=>by
  simp only[CF]
  split
  ·next h=>rw[Ek f g L _ (by omega) (by omega)]
  ·rfl
def El (L:List (Nd X)) (i:Nat):Nat:=CF i L i
theorem uc (L:List (Nd X)) (i:Nat):El L i=if 0≤hX L i∧hX L i < i then 1+El L (hX L i).toNat else 0:=by
 unfold El
 cases i with
 | zero=>simp only[CF];rw[if_neg (by omega)]
 | succ i=>
  simp only[CF]
  split
  ·next h=>rw[Ek i (hX L (i+1)).toNat L _ (by omega) (Nat.le_refl _)]
  ·rfl
theorem iA {L:List (Nd X)} : ∀ {r:List Nat} {i:Nat},fS L (i::r)→El L i=r.length
 | [],i,h=>by
  have h1:hX L i = -1:=h.1
  rw[uc,if_neg (by omega)]
  rfl
 | k::r,i,h=>by
  have h1:hX L i=(k:Nat):=h.1
  have h2:=h.2.1 k (by simp)
  rw[uc,if_pos (by omega),h1,show ((k:Nat):Int).toNat=k by omega,iA h.2.2,List.length_cons]
  omega
def we (L:List (Nd X)) (i:Int):List Nat:=(List.range L.length).filter fun k=>decide (hX L k=i)
end
end Go.Vs.Tr
set_option linter.unusedVariables false
set_option linter.unusedSimpArgs false
namespace Go.Vs.Fd
open Go.Vs.U8
def le (u:Str):Str:=if u.getLast?=some 13 then u.dropLast else u
def eg (t:Str):Str:=if 10∈t then le (t.take (t.idxOf 10)) else t
def pu (t:Str):Nat:=if 10∈t then t.idxOf 10+1 else t.length
theorem sl {t:Str} {n:Nat} {c:UInt8} (hn:t[n]?=some c) (hc:cX c=true) (hb:∀ d∈t.take n,cX d=false):t.findIdx cX=n:=by
 obtain ⟨h1,h2⟩:=List.getElem?_eq_some_iff.1 hn
 have hle:t.findIdx cX≤n:=by
  rcases Nat.lt_or_ge n (t.findIdx cX) with h | h
  ·have:=List.not_of_lt_findIdx h
   rw[h2] at this
   rw[hc] at this
   cases this
  ·exact h
 rcases Nat.lt_or_ge (t.findIdx cX) n with h | h
 ·have h3:t.findIdx cX < t.length:=by omega
  have h4:=List.findIdx_getElem (p:=cX) (xs:=t) (w:=h3)
  have h5:t[t.findIdx cX]∈t.take n:=by
   rw[List.mem_take_iff_getElem]
   exact ⟨t.findIdx cX,by omega,rfl⟩
  rw[hb _ h5] at h4
  cases h4
 ·omega
theorem wX {t:Str} (h1:10∉t) (h2:13∉t):∀ c∈t,cX c=false:=by
 intro c hc
 simp only[cX,Bool.or_eq_false_iff,beq_eq_false_iff_ne]
 exact ⟨fun e=>h1 (e▸hc),fun e=>h2 (e▸hc)⟩
theorem ml {t:Str} {c:UInt8} (h:c∈t):t[t.idxOf c]?=some c∧c∉t.take (t.idxOf c):=by
 have hl:=List.idxOf_lt_length_iff.2 h
 refine ⟨by rw[List.getElem?_eq_getElem hl,List.getElem_idxOf],fun hm=>?_⟩
 rw[List.mem_take_iff_getElem] at hm
 obtain ⟨j,hj,e⟩:=hm
 have:=List.not_of_lt_findIdx (p:=(· == c)) (xs:=t) (i:=j) (show j < t.idxOf c by omega)
 simp[e] at this
theorem wY (t:Str):jk t=if 13∈eg t then .bad ((eg t).idxOf 13) else .ok (eg t).length (pu t):=by
 unfold eg pu
 by_cases h10:(10:UInt8)∈t
 ·rw[if_pos h10,if_pos h10]
  obtain ⟨g1,g2⟩:=ml h10
  obtain ⟨m,hm⟩:∃ m,t.idxOf 10=m:=⟨_,rfl⟩
  rw[hm] at g1 g2 ⊢
  obtain ⟨hml,_⟩:=List.getElem?_eq_some_iff.1 g1
  have hul:(t.take m).length=m:=by rw[List.length_take];omega
  by_cases h13:(13:UInt8)∈t.take m
  ·obtain ⟨k1,k2⟩:=ml h13
   obtain ⟨j,hj⟩:∃ j,(t.take m).idxOf 13=j:=⟨_,rfl⟩
   have hjm:j < m:=by have:=List.idxOf_lt_length_iff.2 h13;omega
   rw[hj] at k1 k2
   have htj:t[j]?=some 13:=by rw[List.getElem?_take_of_lt hjm] at k1;exact k1
   have htk:(t.take m).take j=t.take j:=by rw[List.take_take,Nat.min_eq_left (by omega)]
   rw[htk] at k2
   have hn:t.findIdx cX=j:=sl htj rfl (wX (fun hh=>g2 (by
    rw[←htk] at hh
    exact List.mem_of_mem_take hh)) k2)
   have hlast:(t.take m).getLast?=t[m-1]?:=by
    rw[List.getLast?_eq_getElem?,hul,List.getElem?_take_of_lt (by omega)]
   unfold jk
   rw[hn,if_neg (by omega),if_neg (by rw[htj];decide)]
   by_cases hjl:j=m-1
   ·rw[show j+1=m by omega,g1,if_pos rfl]
    have:le (t.take m)=t.take j:=by
     unfold le
     rw[hlast,←hjl,htj,if_pos rfl,List.dropLast_eq_take,hul,List.take_take]
     congr 1
     omega
    rw[this,if_neg k2,List.length_take]
    congr 1 <;> omega
   ·have hnext:¬t[j+1]?=some 10:=by
     intro e
     refine g2 ?_
     rw[List.mem_take_iff_getElem]
     obtain ⟨e1,e2⟩:=List.getElem?_eq_some_iff.1 e
     exact ⟨j+1,by omega,e2⟩
    rw[if_neg hnext]
    have htr:∃ z,le (t.take m)=t.take z∧j < z∧z≤m:=by
     unfold le
     split
     ·exact ⟨m-1,by rw[List.dropLast_eq_take,hul,List.take_take];congr 1;omega,by omega,by omega⟩
     ·exact ⟨m,rfl,hjm,Nat.le_refl _⟩
    obtain ⟨z,z1,z2,z3⟩:=htr
    have hzj:(t.take z)[j]?=some 13:=by rw[List.getElem?_take_of_lt z2];exact htj
    have hin:(13:UInt8)∈t.take z:=List.mem_of_getElem? hzj
    rw[z1,if_pos hin]
    obtain ⟨y1,y2⟩:=ml hin
    congr 1
    rcases Nat.lt_trichotomy j ((t.take z).idxOf 13) with h | h | h
    ·exfalso
     refine y2 ?_
     rw[List.mem_take_iff_getElem]
     obtain ⟨e1,e2⟩:=List.getElem?_eq_some_iff.1 hzj
     exact ⟨j,by omega,e2⟩
    ·exact h
    ·exfalso
     refine k2 ?_
     obtain ⟨e1,e2⟩:=List.getElem?_eq_some_iff.1 y1
     rw[List.mem_take_iff_getElem]
     rw[List.length_take] at e1
     refine ⟨(t.take z).idxOf 13,by omega,?_⟩
     rw[List.getElem_take] at e2
     exact e2
  ·have htr:le (t.take m)=t.take m:=by
    unfold le
    rw[if_neg]
    intro e
    exact h13 (List.mem_of_getLast? e)
   have hn:t.findIdx cX=m:=sl g1 rfl (wX g2 h13)
   rw[htr,if_neg h13,hul]
   unfold jk
   rw[hn,if_neg (by omega),g1,if_pos rfl]
 ·rw[if_neg h10,if_neg h10]
  by_cases h13:(13:UInt8)∈t
  ·rw[if_pos h13]
   obtain ⟨k1,k2⟩:=ml h13
   have hl:=List.idxOf_lt_length_iff.2 h13
   have hn:t.findIdx cX=t.idxOf 13:=sl k1 rfl (wX (fun hh=>h10 (List.mem_of_mem_take hh)) k2)
   unfold jk
   rw[hn,if_neg (by omega),if_neg (by rw[k1];decide),if_neg]
   intro e
   exact h10 (List.mem_of_getElem? e)
  ·rw[if_neg h13]
   have hn:t.findIdx cX=t.length:=List.findIdx_eq_length.2 (wX h10 h13)
   unfold jk
   rw[if_pos hn]
end Go.Vs.Fd
set_option linter.unusedVariables false
set_option linter.unusedSimpArgs false
namespace Go.Vs.Fd
open Go.Vs.U8
def nJ (i:Int) (n:Nat):Nat:=(min (max i 0) (n:Int)).toNat
def jl:List (Nat×Nat)→Nat→Nat
 | [],_=>0
 | p::r,j=>if p.1≤j then p.2+j-p.1 else jl r j
def iB (x:Lf) (i:Int):Nat:=jl x.ps.reverse (nJ i x.t.length)
def Nz (B:Nat):List (Nat×Nat)→Nat→Prop
 | [],n=>n=0
 | p::r,n=>p.1≤n∧p.2+(n-p.1)≤B∧Nz B r p.1
theorem Em {B:Nat} : ∀ {r:List (Nat×Nat)} {n j:Nat},Nz B r n→j≤n→jl r j≤B
 | [],n,j,_,_=>Nat.zero_le _
 | p::r,n,j,⟨h1,h2,h3⟩,hj=>by
  simp only[jl]
  split
  ·omega
  ·exact Em h3 (by omega)
theorem Kn (i:Int) (n:Nat):nJ i n≤n:=by unfold nJ;omega
def CG (B:Nat) (x:Lf):Prop:=Nz B x.ps.reverse x.t.length
theorem mn {B:Nat} {x:Lf} (h:CG B x) (i:Int):iB x i≤B:=Em h (Kn i _)
theorem GG {B:Nat} : ∀ (f:Nat) (t:Str) (a:Nat) (D:List Lf) (cur:Option Lf) (l:List Lf),t.length≤f→a+t.length≤B→(∀ x∈D,CG B x)→(∀ x,cur=some x→CG B x)→D1 t a D cur=.ok l→∀ x∈l,CG B x
 | f,t,a,D,cur,l,hf,hB,hD,hc,h=>by
  by_cases ht:t=[]
  ·subst ht
   rw[nF] at h
   simp only[UfR.ok.injEq] at h
   subst h
   intro x hx
   rcases List.mem_append.1 hx with hx | hx
   ·exact hD x hx
   ·cases cur with
    | none=>cases hx
    | some y=>
     simp only[Option.toList_some,List.mem_singleton] at hx
     subst hx
     exact hc _ rfl
  ·rw[jL ht] at h
   split at h
   ·cases h
   ·cases hr:jk t with
    | bad n=>rw[hr] at h;cases h
    | ok n nx=>
     rw[hr] at h
     obtain ⟨r1,r2,r3,r4⟩:=jK hr ht
     have hl:(t.drop nx).length≤f-1:=by rw[List.length_drop];omega
     have hB':a+nx+(t.drop nx).length≤B:=by rw[List.length_drop];omega
     have hp:1≤t.length:=by cases t with
      | nil=>exact absurd rfl ht
      | cons c r=>simp
     have hnew:CG B ⟨t.take n,[(0,a)]⟩:=by
      show Nz B [(0,a)] (t.take n).length
      refine ⟨Nat.zero_le _,?_,rfl⟩
      show a+((t.take n).length-0)≤B
      rw[List.length_take]
      omega
     have hD':∀ x∈D++cur.toList,CG B x:=by
      intro x hx
      rcases List.mem_append.1 hx with hx | hx
      ·exact hD x hx
      ·cases cur with
       | none=>cases hx
       | some y=>
        simp only[Option.toList_some,List.mem_singleton] at hx
        subst hx
        exact hc _ rfl
     cases f with
     | zero=>omega
     | succ f=>
      simp only at h
      cases hg:eT t with
      | false=>
       rw[hg] at h
       exact GG f _ _ _ _ l (by omega) hB' hD' (fun x hx=>by obtain rfl:=Option.some.inj hx;exact hnew) h
      | true=>
       rw[hg] at h
       cases hcur:cur with
       | none=>
        rw[hcur] at h
        refine GG f _ _ _ _ l (by omega) hB' (fun x hx=>?_) (fun x hx=>by obtain rfl:=Option.some.inj hx;exact hnew) h
        simp only[Option.toList_none,List.append_nil] at hx
        exact hD x hx
       | some y=>
        rw[hcur] at h
        refine GG f _ _ _ _ l (by omega) hB' hD (fun x hx=>?_) h
        obtain rfl:=Option.some.inj hx
        have hy:=hc y hcur
        show Nz B (y.ps++[(y.t.length,a+1)]).reverse (y.t++(t.take n).drop 1).length
        rw[List.reverse_append,List.length_append,List.length_drop,List.length_take]
        have hn0':n=0→False:=by
         intro hn0
         subst hn0
         cases t with
         | nil=>exact ht rfl
         | cons c r=>
          have hb:blank c=true:=hg
          have hcc:=Bl c hb
          unfold jk at hr
          rw[List.findIdx_cons,hcc] at hr
          simp only[cond_false] at hr
          split at hr
          ·simp only[RowR.ok.injEq,List.length_cons] at hr;omega
          ·split at hr
           ·simp only[RowR.ok.injEq] at hr;omega
           ·split at hr
            ·simp only[RowR.ok.injEq] at hr;omega
            ·cases hr
        refine ⟨?_,?_,hy⟩
        ·show y.t.length≤_;omega
        ·show a+1+(y.t.length+(min n t.length-1)-y.t.length)≤B
         have hn1:1≤n:=by
          rcases Nat.lt_or_ge n 1 with hh | hh
          ·exact (hn0' (by omega)).elim
          ·exact hh
         omega
theorem vp {s:Str} {l:List Lf} (h:bP s=.ok l):∀ x∈l,CG s.length x:=by
 unfold bP at h
 split at h
 ·cases h
 ·exact GG s.length s 0 [] none l (Nat.le_refl _) (by omega) (by simp) (by simp) h
theorem En {B:Nat} : ∀ (f:Nat) (t:Str) (a:Nat) (D:List Lf) (cur:Option Lf) (e:Int) (p:Nat),t.length≤f→a+t.length≤B→D1 t a D cur=.no e p→e≠0∧p≤B
 | f,t,a,D,cur,e,p,hf,hB,h=>by
  by_cases ht:t=[]
  ·subst ht
   rw[nF] at h
   cases h
  ·have hp:1≤t.length:=by cases t with
    | nil=>exact absurd rfl ht
    | cons c r=>simp
   rw[jL ht] at h
   split at h
   ·simp only[UfR.no.injEq] at h;omega
   ·cases hr:jk t with
    | bad n=>
     rw[hr] at h
     simp only[UfR.no.injEq] at h
     have hn:n≤t.length:=by
      have:=List.findIdx_le_length (p:=cX) (xs:=t)
      unfold jk at hr
      split at hr
      ·cases hr
      ·split at hr
       ·cases hr
       ·split at hr
        ·cases hr
        ·simp only[RowR.bad.injEq] at hr;omega
     omega
    | ok n nx=>
     rw[hr] at h
     obtain ⟨r1,r2,r3,r4⟩:=jK hr ht
     cases f with
     | zero=>omega
     | succ f=>
      have hl:(t.drop nx).length≤f:=by rw[List.length_drop];omega
      have hB':a+nx+(t.drop nx).length≤B:=by rw[List.length_drop];omega
      simp only at h
      cases hg:eT t with
      | false=>rw[hg] at h;exact En f _ _ _ _ e p hl hB' h
      | true=>
       rw[hg] at h
       cases hcur:cur with
       | none=>rw[hcur] at h;exact En f _ _ _ _ e p hl hB' h
       | some y=>rw[hcur] at h;exact En f _ _ _ _ e p hl hB' h
end Go.Vs.Fd
set_option linter.unusedVariables false
set_option linter.unusedSimpArgs false
namespace Go.Vs.Fd
open Go.Vs.U8
def ky:Str→Nat→UInt8→Bool
 | [],k,_=>decide (k=0)
 | c::r,k,p=>if c=10 then decide (k≤76)&&(p==13)&&ky r 0 c else ky r (k+1) c
theorem sm:∀ (u:Str) (r:Str) (k:Nat) (p:UInt8),(∀ c∈u,cX c=false)→k+u.length≤75→ky (u++13::10::r) k p=ky r 0 10
 | [],r,k,p,_,hk=>by
  simp only[List.nil_append,ky]
  have h76:decide (k+1≤76)=true:=decide_eq_true (by simp at hk;omega)
  rw[if_neg (by decide),if_pos trivial,h76]
  rfl
 | c::u,r,k,p,h,hk=>by
  have hc:=h c (by simp)
  simp only[List.length_cons] at hk
  simp only[List.cons_append,ky]
  rw[if_neg (by intro e;subst e;cases hc)]
  exact sm u r (k+1) c (fun d hd=>h d (by simp[hd])) (by omega)
theorem Bp:∀ (f:Nat) (y:Str) (r:Str) (p:UInt8),y.length≤f→(∀ c∈y,cX c=false)→ky (32::eS y 74++r) 0 p=ky r 0 10
 | f,y,r,p,hf,hy=>by
  have e1:32::eS y 74++r=(32::y.take (bf y 74))++13::10::((if y.drop (bf y 74)=[] then [] else 32::eS (y.drop (bf y 74)) 74)++r):=by
   rw[gB y (by omega)];simp
  have hn:=Ki y 74
  rw[e1,sm _ _ 0 p (by
   intro c hc
   rcases List.mem_cons.1 hc with rfl | hc
   ·rfl
   ·exact hy c (List.mem_of_mem_take hc)) (by rw[List.length_cons,List.length_take];omega)]
  by_cases hd:y.drop (bf y 74)=[]
  ·rw[if_pos hd];rfl
  ·rw[if_neg hd]
   have hne:y≠[]:=fun e=>hd (by rw[e];rfl)
   have hp:=gY hne (n:=74) (by omega)
   cases f with
   | zero=>exact absurd (List.length_eq_zero_iff.1 (by omega)) hne
   | succ f=>exact Bp f _ r 10 (by rw[List.length_drop];omega) (fun c hc=>hy c (List.mem_of_mem_drop hc))
theorem Ia {x:Str} (hx:∀ c∈x,cX c=false) (r:Str) (p:UInt8):ky (gZ x++r) 0 p=ky r 0 10:=by
 have e1:gZ x++r=x.take (bf x 75)++13::10::((if x.drop (bf x 75)=[] then [] else 32::eS (x.drop (bf x 75)) 74)++r):=by
  unfold gZ
  rw[gB x (by omega)];simp
 have hn:=Ki x 75
 rw[e1,sm _ _ 0 p (fun c hc=>hx c (List.mem_of_mem_take hc)) (by rw[List.length_take];omega)]
 by_cases hd:x.drop (bf x 75)=[]
 ·rw[if_pos hd];rfl
 ·rw[if_neg hd]
  exact Bp _ _ r 10 (Nat.le_refl _) (fun c hc=>hx c (List.mem_of_mem_drop hc))
theorem Bq:∀ (L:List Str) (p:UInt8),(∀ x∈L,∀ c∈x,cX c=false)→ky (cT L) 0 p=true
 | [],p,_=>rfl
 | x::r,p,h=>by
  rw[sj,Ia (h x (by simp))]
  exact Bq r 10 (fun y hy=>h y (by simp[hy]))
end Go.Vs.Fd
set_option linter.unusedVariables false
set_option linter.unusedSimpArgs false
namespace Go.Vs.Fd
open Go.Vs.U8
theorem Ib {l:Str} (h:l≠[]):(AX l).2=dH l:=by
 cases l with
 | nil=>exact absurd rfl h
 | cons c r=>
  unfold dH
  rcases uZ c r with ⟨_,h1,h2⟩ | ⟨_,h1,h2⟩ | ⟨_,h1,_,h2⟩
  ·rw[h1,h2];rfl
  ·rw[h1,h2];rfl
  ·rw[h2];omega
def wg (s:Str) (n i:Nat):Prop:=i≤n∧i≤s.length∧bf s n=i+bf (s.drop i) (n-i)
theorem yT (s:Str) (n:Nat):wg s n 0:=⟨Nat.zero_le _,Nat.zero_le _,by simp⟩
theorem kz {s:Str} {n i:Nat} (h:wg s n i) (hi:i < s.length):(i+dH (s.drop i)≤n→wg s n (i+dH (s.drop i)))∧(n < i+dH (s.drop i)→bf s n=i)∧i+dH (s.drop i)≤s.length:=by
 obtain ⟨h1,h2,h3⟩:=h
 have hne:s.drop i≠[]:=by
  intro e
  have:=congrArg List.length e
  rw[List.length_drop] at this
  simp at this
  omega
 have h4:=pq hne
 rw[List.length_drop] at h4
 rw[ua hne] at h3
 refine ⟨fun h=>⟨h,by omega,?_⟩,fun h=>?_,by omega⟩
 ·rw[if_pos (by omega)] at h3
  rw[h3,List.drop_drop,Nat.sub_sub]
  omega
 ·rw[if_neg (by omega)] at h3
  omega
theorem Ic {s:Str} {n:Nat} (h:wg s n s.length):bf s n=s.length:=by
 rw[h.2.2,List.drop_length,Gz]
 rfl
end Go.Vs.Fd
