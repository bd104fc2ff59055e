/- Plain mathematics of components: the texts of their lines, and the lines of their texts. No conditions. -/
import Derived.Test.YtmaenhgipojmfaaGreatDoorBT
import Derived.Test.YtmaenhgipojmfaaGreatDoorCD
import Derived.Test.YtmaenhgipojmfaaGreatDoorTA
set_option linter.unusedVariables false
set_option linter.unusedSimpArgs false
namespace Go.Vs.U8
end Go.Vs.U8
namespace Go.Vs.Pa
end Go.Vs.Pa
namespace Go.Vs.Fd
end Go.Vs.Fd
namespace Go.Vs.Tr
end Go.Vs.Tr
namespace Go.Vs.YtmaenhgipojmfaaGreatDoor
set_option linter.unusedSimpArgs false
set_option linter.unusedVariables false
open Go.Proofs Go.Vs.U8 Go.Vs.Pa Go.Vs.Fd Go.Vs.Tr
set_option maxRecDepth 100000
def GH (s:Str):Prop:=∀ c∈s,cX c=false
theorem nK {a b:Str} (h:GH a) (k:GH b):GH (a++b):=fun c hc=>by
 rcases List.mem_append.1 hc with hc | hc
 ·exact h c hc
 ·exact k c hc
theorem kA {c:UInt8} {b:Str} (h:cX c=false) (k:GH b):GH (c::b):=fun d hd=>by
 rcases List.mem_cons.1 hd with rfl | hd
 ·exact h
 ·exact k d hd
theorem wZ:GH []:=fun c hc=>by cases hc
theorem CH {c:UInt8} (h:c.toNat≠10∧c.toNat≠13):cX c=false:=by
 simp only[cX,Bool.or_eq_false_iff,beq_eq_false_iff_ne]
 exact ⟨fun e=>h.1 (by rw[e];rfl),fun e=>h.2 (by rw[e];rfl)⟩
theorem x4:∀ (f:Nat) (s:Str),s.length≤f→fp s=none→GH s
 | f,s,hf,h=>by
  rcases pf h with rfl | ⟨c,r,rfl,h1,h2⟩ | ⟨m,r,rfl,h1,h2⟩
  ·exact wZ
  ·cases f with
   | zero=>simp at hf
   | succ f=>
    refine kA (CH ?_) (x4 f r (by simp at hf;omega) h2)
    rcases h1 with h1 | h1 <;> omega
  ·have hm:1≤m.length:=by
    cases hm:m with
    | nil=>exact absurd hm h1.1
    | cons a b=>simp
   rw[List.length_append] at hf
   cases f with
   | zero=>omega
   | succ f=>
    refine nK (fun c hc=>CH ?_) (x4 f r (by omega) h2)
    have:=h1.2.1 c hc
    omega
theorem G3 {c:UInt8} (h:vX c=true):(48≤c.toNat∧c.toNat≤90)∨c.toNat=45:=by
 simp only[vX,decide_eq_true_eq] at h
 omega
theorem px {n:Str} (h:ax n=true):n.all vX=true∧1≤n.length∧n.length≤24:=by
 simp only[ax,Bool.and_eq_true,decide_eq_true_eq] at h
 exact ⟨h.2,h.1.1,h.1.2⟩
theorem Eo {n:Str} (h:ax n=true):GH n:=fun c hc=>CH (by
 have:=G3 (List.all_eq_true.1 (px h).1 c hc)
 omega)
theorem Ep:∀ {n:Str},n.all vX=true→fp n=none
 | [],_=>rfl
 | c::r,h=>by
  simp only[List.all_cons,Bool.and_eq_true] at h
  have:=G3 h.1
  exact (cA (c:=c) (r:=r) (.inl (by omega))).2 (Ep h.2)
theorem Id {v:Str} (h:eD v=true):GH (write v):=by
 have h1:fp (v.map sp)=none:=by
  unfold eD at h
  cases ho:fp (v.map sp) with
  | none=>rfl
  | some k=>rw[ho] at h;cases h
 have h2:=x4 _ _ (Nat.le_refl _) (qd _ v (Nat.le_refl _) h1)
 unfold write
 split
 ·exact kA rfl (nK h2 (kA rfl wZ))
 ·exact h2
theorem Ko:∀ {l:List Str},(∀ x∈l,GH x)→GH (Go.Lib.join l [44])
 | [],_=>by rw[Go.Lib.join_nil];exact wZ
 | x::r,h=>by
  rw[Go.Lib.join_cons]
  refine nK (h x (by simp)) ?_
  unfold Go.Lib.joinTail
  intro c hc
  simp only[List.mem_flatten,List.mem_map] at hc
  obtain ⟨y,⟨z,hz,rfl⟩,hc⟩:=hc
  exact kA rfl (h z (by simp[hz])) c hc
theorem G4 {p:Pm} (h:bu p=0):GH (cS p):=by
 obtain ⟨h1,_,_,h4⟩:=(sh p).1 h
 unfold cS
 refine kA rfl (nK (Eo h1) (kA rfl (Ko fun x hx=>?_)))
 obtain ⟨v,hv,rfl⟩:=List.mem_map.1 hx
 exact Id (h4 v hv).2
theorem Er {l:List Pm} (h:∀ p∈l,bu p=0):GH (aq l):=by
 unfold aq
 intro c hc
 simp only[List.mem_flatten,List.mem_map] at hc
 obtain ⟨y,⟨p,hp,rfl⟩,hc⟩:=hc
 exact G4 (h p hp) c hc
theorem Es {x:Ln} (h:bv x=0):Go.Vs.Fd.Clean (co x):=by
 obtain ⟨h1,h2,h3,h4⟩:=(eR x).1 h
 obtain ⟨_,_,h5⟩:=(gX x.p).1 h2
 obtain ⟨n1,n2,n3⟩:=px h1
 have hp:∀ p∈x.p,bu p=0:=by
  obtain ⟨k1,k2,k3⟩:=(gX x.p).1 h2
  first | exact k2 | exact k1 | exact k3
 refine ⟨?_,?_,?_⟩
 ·show GH (co x)
  unfold co
  exact nK (nK (nK (Eo h1) (Er hp)) (kA rfl wZ)) (x4 _ _ (Nat.le_refl _) h4)
 ·unfold co
  cases hn:x.n with
  | nil=>rw[hn] at n2;simp at n2
  | cons c r=>
   rw[hn] at n1
   simp only[List.all_cons,Bool.and_eq_true] at n1
   have:=G3 n1.1
   show Go.Vs.Fd.blank c=false
   simp only[Go.Vs.Fd.blank,Bool.or_eq_false_iff,beq_eq_false_iff_ne]
   exact ⟨fun e=>by rw[e] at this;revert this;decide,fun e=>by rw[e] at this;revert this;decide⟩
 ·unfold co
  cases hn:x.n with
  | nil=>rw[hn] at n2;simp at n2
  | cons c r=>simp
theorem NV {r v:Str} (h:r=[]∨∃ t,r=59::t):∀ c,(r++58::v)[0]?=some c→vd c=false:=by
 intro c hc
 rcases h with rfl | ⟨t,rfl⟩ <;> simp at hc <;> subst hc <;> rfl
theorem NW (l:List Pm):aq l=[]∨∃ t,aq l=59::t:=by
 cases l with
 | nil=>exact .inl rfl
 | cons p r=>exact .inr ⟨_,by simp[aq,cS];rfl⟩
theorem Et {x:Ln} (h:bv x=0):c9 (co x)=.ok x:=by
 obtain ⟨h1,h2,h3,h4⟩:=(eR x).1 h
 obtain ⟨n1,n2,n3,n4⟩:=nw h1
 obtain ⟨n,p,v⟩:=x
 simp only at *
 have htx:co ⟨n,p,v⟩=n++(aq p++58::v):=by simp[co]
 rw[htx]
 have hnm:named (n++(aq p++58::v))=n.length:=by
  rw[vn]
  exact run_app (fun c hc=>List.all_eq_true.1 n3 c hc) (NV (NW p))
 have hd:(n++(aq p++58::v)).drop n.length=aq p++58::v:=by simp
 have hp:=Eh h2 (rest:=58::v) (fun c hc=>by simp at hc;subst hc;rfl)
 have h58:(n++(aq p++58::v))[n.length+(aq p).length]?=some 58:=by
  rw[←List.append_assoc,show n.length+(aq p).length=(n++aq p).length by simp,List.getElem?_append_right (Nat.le_refl _),Nat.sub_self];rfl
 have hv:(n++(aq p++58::v)).drop (n.length+(aq p).length+1)=v:=by
  rw[show n++(aq p++58::v)=(n++aq p++[58])++v by simp,show n.length+(aq p).length+1=(n++aq p++[58]).length by simp;omega]
  simp
 simp only[c9,hnm,hd,hp,hv]
 rw[if_neg (by omega),if_pos h58,if_neg (by omega),h4]
 have:upper (List.take n.length (n++(aq p++58::v)))=n:=by rw[List.take_left];exact n4
 simp only[this]
theorem CI {s:Str} {a:Nat} {e p:Int} (ha:a≤s.length) (h:bE s a=.no e p):(a:Int)≤p:=by
 simp only[bE] at h
 split at h
 ·next h0=>
  obtain ⟨hal,_⟩:=List.getElem?_eq_some_iff.1 h0
  split at h
  ·cases h;omega
  ·split at h
   ·next hc=>
    cases h
    obtain ⟨h1,h2 | ⟨k,h2,h3⟩⟩:=nv hc <;> omega
   ·split at h
    ·cases h
    ·cases h;omega
 ·split at h
  ·cases h;omega
  ·split at h
   ·next hc=>
    cases h
    obtain ⟨h1,h2 | ⟨k,h2,h3⟩⟩:=nv hc <;> omega
   ·cases h
theorem wh (s:Str):∀ (m a:Nat) (vs:List Str) (e p:Int),a≤s.length→cp s m a vs=.no e p→(a:Int)≤p
 | 0,a,vs,e,p,ha,h=>by
  simp only[cp] at h
  cases h
  omega
 | m+1,a,vs,e,p,ha,h=>by
  simp only[cp] at h
  cases hg:bE s a with
  | no e' p'=>rw[hg] at h;cases h;exact CI ha hg
  | ok x j=>
   rw[hg] at h
   have hge:=qb hg
   simp only at h
   split at h
   ·next h44=>
    obtain ⟨h1,_⟩:=List.getElem?_eq_some_iff.1 h44
    have:=wh s m (j+1) _ e p (by omega) h
    omega
   ·cases h
theorem G5 {s:Str} {a:Nat} {l:List Pm} {e p:Int} (ha:a≤s.length) (h:fm s a l=.no e p):(a:Int)≤p:=by
 have hn:=iY (s.drop a)
 rw[List.length_drop] at hn
 simp only[fm] at h
 split at h
 ·cases h;omega
 ·split at h
  ·cases h;omega
  ·split at h
   ·next h61=>
    obtain ⟨h1,_⟩:=List.getElem?_eq_some_iff.1 h61
    cases hv:cp s 6 (a+named (s.drop a)+1) [] with
    | no e' p'=>
     rw[hv] at h
     cases h
     have:=wh s 6 _ _ _ _ (by omega) hv
     omega
    | ok v j=>rw[hv] at h;cases h
   ·cases h;omega
theorem ud (s:Str):∀ (m a:Nat) (l:List Pm) (e p:Int),a≤s.length→0 < m+a→br s m a l=.no e p→1≤p
 | 0,a,l,e,p,ha,h0,h=>by
  simp only[br] at h
  split at h
  ·cases h;omega
  ·cases h
 | m+1,a,l,e,p,ha,h0,h=>by
  simp only[br] at h
  split at h
  ·next h59=>
   obtain ⟨h1,_⟩:=List.getElem?_eq_some_iff.1 h59
   cases hv:fm s (a+1) l with
   | no e' p'=>
    rw[hv] at h
    cases h
    have:=G5 (by omega) hv
    omega
   | ok q n=>
    rw[hv] at h
    have h2:=(Be hv).2.2
    exact ud s m n _ e p (tN hv).1 (by omega) h
  ·cases h
theorem G6 {s:Str} {e:Int} {ps:List Int} (h:c9 s=.no e ps):e≠0∧((∃ p,ps=[p]∧0≤p∧p≤s.length)∨∃ k p,ps=[k,p]∧0≤k∧1≤p∧k+p≤s.length):=by
 have hkl:=iY s
 simp only[c9] at h
 split at h
 ·cases h;exact ⟨by omega,.inl ⟨0,rfl,by omega,by omega⟩⟩
 ·cases hp:br (s.drop (named s)) 6 0 [] with
  | no e' p=>
   rw[hp] at h
   cases h
   obtain ⟨q1,q2,q3⟩:=vm _ 6 0 [] _ p (by omega) hp
   have q4:=ud _ 6 0 [] _ p (by omega) (by omega) hp
   rw[List.length_drop] at q3
   exact ⟨q1,.inr ⟨_,p,rfl,by omega,q4,by omega⟩⟩
  | ok l n=>
   rw[hp] at h
   obtain ⟨h2,h3,h4⟩:=qc _ 6 0 [] l n (by omega) (by intro p hp;simp at hp) hp
   rw[List.length_drop] at h2
   simp only at h
   split at h
   ·next h5=>
    obtain ⟨h6,_⟩:=List.getElem?_eq_some_iff.1 h5
    split at h
    ·cases h;exact ⟨by omega,.inl ⟨_,rfl,by omega,by omega⟩⟩
    ·split at h
     ·next i ho=>
      have hil:=ji _ _ (Nat.le_refl _) i ho
      rw[List.length_drop] at hil
      cases h
      exact ⟨by omega,.inl ⟨_,rfl,by omega,by omega⟩⟩
     ·cases h
   ·cases h;exact ⟨by omega,.inl ⟨_,rfl,by omega,by omega⟩⟩
theorem Nm {s:Str} {x:Ln} (h:c9 s=.ok x):bv x=0:=by
 simp only[c9] at h
 split at h
 ·cases h
 ·next hk=>
  cases hp:br (s.drop (named s)) 6 0 [] with
  | no e' p=>rw[hp] at h;cases h
  | ok l n=>
   rw[hp] at h
   simp only at h
   split at h
   ·split at h
    ·cases h
    ·next h8=>
     split at h
     ·cases h
     ·next ho=>
      cases h
      refine (eR _).2 ⟨?_,Eg hp,by show (s.drop _).length≤200;omega,ho⟩
      have hkl:=iY s
      have hup:=gy (s.take (named s))
      rw[List.length_take] at hup
      have hall:(upper (s.take (named s))).all vX=true:=by
       have:=sf s
       rw[List.all_eq_true] at this ⊢
       intro c hc
       simp only[upper,List.mem_map] at hc
       obtain ⟨d,hd,rfl⟩:=hc
       show vX (Pa.upB d)=true
       rw[Cm]
       exact this d hd
      show ax (upper (s.take (named s)))=true
      simp only[ax,Bool.and_eq_true,decide_eq_true_eq]
      exact ⟨⟨by omega,by omega⟩,hall⟩
   ·cases h
theorem py {x:Ln} (h:bv x=0):FitX x:=by
 obtain ⟨h1,h2,h3,h4⟩:=(eR x).1 h
 obtain ⟨a,b⟩:=lc h2
 simp only[ax,Bool.and_eq_true,decide_eq_true_eq] at h1
 have hs:KO x.p:=fun p hp=>by obtain ⟨q,_,r,t⟩:=qa (b p hp);exact ⟨q,r,t⟩
 exact ⟨by omega,by omega,hs.fit,by omega⟩
def eE:Str:=[66,69,71,73,78]
def fT:Str:=[69,78,68]
def jp (x:Ln):Int:=if bv x≠0 then bv x else if x.n=eE∨x.n=fT then 11 else 0
theorem Eu {x:Ln} (h:jp x=0):bv x=0∧x.n≠eE∧x.n≠fT:=by
 unfold jp at h
 split at h
 ·next h1=>exact absurd h h1
 ·next h1=>
  split at h
  ·cases h
  ·next h2=>
   rw[not_or] at h2
   exact ⟨by simpa using h1,h2⟩
def CJ:Ev Ln→Ln
 | .beg n=>⟨eE,[],n⟩
 | .fin n=>⟨fT,[],n⟩
 | .lin x=>x
def gk (e:Ev Ln):Str:=co (CJ e)
inductive EvR where
 | no
 | ok (e:Ev Ln)
def rl (x:Ln):EvR:=
 if x.n=eE then (if x.p≠[]∨ax (upper x.v)=false then .no else .ok (.beg (upper x.v)))
 else if x.n=fT then (if x.p≠[] then .no else .ok (.fin (upper x.v)))
 else .ok (.lin x)
def NA:Ev Ln→Prop
 | .beg n=>ax n=true
 | .fin n=>ax n=true
 | .lin x=>jp x=0
theorem yU {m n:Str} (hm:ax m=true) (hn:ax n=true):bv ⟨m,[],n⟩=0:=by
 obtain ⟨n1,n2,n3⟩:=px hn
 refine (eR _).2 ⟨hm,rfl,?_,Ep n1⟩
 show n.length≤200
 omega
theorem sn {e:Ev Ln} (h:NA e):bv (CJ e)=0:=by
 cases e with
 | beg n=>exact yU rfl h
 | fin n=>exact yU rfl h
 | lin x=>exact (Eu h).1
theorem sq {e:Ev Ln} (h:NA e):Go.Vs.Fd.Clean (gk e):=Es (sn h)
theorem Ie {e:Ev Ln} (h:NA e):c9 (gk e)=.ok (CJ e):=Et (sn h)
theorem M3 {e:Ev Ln} (h:NA e):rl (CJ e)=.ok e:=by
 cases e with
 | beg n=>
  have h1:ax n=true:=h
  have h2:=(nw h1).2.2.2
  unfold rl CJ
  simp only[h2,h1]
  simp
 | fin n=>
  have h1:ax n=true:=h
  have h2:=(nw h1).2.2.2
  have h3:¬fT=eE:=by decide
  unfold rl CJ
  simp only[h2,h3]
  simp
 | lin x=>
  obtain ⟨_,h2,h3⟩:=Eu h
  unfold rl CJ
  simp only[h2,h3,if_false]
end Go.Vs.YtmaenhgipojmfaaGreatDoor
namespace Go.Vs.YtmaenhgipojmfaaGreatDoor
set_option linter.unusedSimpArgs false
set_option linter.unusedVariables false
open Go.Proofs Go.Vs.U8 Go.Vs.Pa Go.Vs.Fd Go.Vs.Tr
set_option maxRecDepth 100000
inductive TrR where
 | no (e:Int) (ps:List Int)
 | ok (N:List (Nd Ln))
def qg (x:Lf) (ps:List Int):List Int:=((iB x ps.sum:Nat)-ps.sum)::ps
def mo (N:List (Nd Ln)) (op:List Nat) (y:Ln):StR Ln:=match rl y with
 | .no=>.no 4
 | .ok e=>hG N op e
def dJ (len:Nat):List Lf→List (Nd Ln)→List Nat→TrR
 | [],N,op=>if op=[] then .ok N else .no 3 [(len:Int)]
 | x::r,N,op=>match c9 x.t with
  | .no e ps=>.no e (qg x ps)
  | .ok y=>match mo N op y with
   | .no e=>.no e [((iB x 0:Nat):Int)]
   | .ok N' op'=>dJ len r N' op'
def fU (s:Str):TrR:=match bP s with
 | .no e p=>.no e [(p:Int)]
 | .ok l=>dJ s.length l [] []
abbrev cn:=List (Nd Ln)
def wi (l:cn):Int:=nG jp ax l
def fV (l:cn):Str:=cT ((CC l).map gk)
theorem yV:∀ (A:cn) (i:Nat) (op q:List Nat) (k:Nat) (y:Nd Ln),lN jp ax A i op=.ok q→A[k]?=some y→ax y.n=true
 | [],i,op,q,k,y,h,hk=>by simp at hk
 | x::A,i,op,q,k,y,h,hk=>by
  simp only[lN] at h
  split at h
  ·cases h
  ·split at h
   ·cases h
   ·split at h
    ·cases h
    ·next h3=>
     split at h
     ·cases h
     ·cases k with
      | zero=>
       simp only[List.getElem?_cons_zero,Option.some.injEq] at hk
       subst hk
       simpa using h3
      | succ k=>exact yV A _ _ q k y h (by simpa using hk)
theorem Kp (L:cn) (hL:∀ (k:Nat) (y:Nd Ln),L[k]?=some y→ax y.n=true):∀ (R:cn) (i:Nat) (op:List Nat),i+R.length=L.length→(∀ k∈op,k < i)→∀ n,.fin n∈mj L R i op→ax n=true
 | [],i,op,hi,ho,n,h=>by
  simp only[mj,List.mem_map] at h
  obtain ⟨k,hk,e⟩:=h
  simp only[Ev.fin.injEq] at e
  have hlt:k < L.length:=by have:=ho k hk;simp at hi;omega
  rw[←e,List.getElem?_eq_getElem hlt]
  exact hL k _ (List.getElem?_eq_getElem hlt)
 | x::R,i,op,hi,ho,n,h=>by
  simp only[List.length_cons] at hi
  simp only[mj,List.mem_append,List.mem_cons,List.mem_map] at h
  rcases h with ⟨k,hk,e⟩ | h | ⟨y,_,e⟩ | h
  ·simp only[Ev.fin.injEq] at e
   have hk':k∈op:=by rw[←dI x.up op];exact List.mem_append_left _ hk
   have hlt:k < L.length:=by have:=ho k hk';omega
   rw[←e,List.getElem?_eq_getElem hlt]
   exact hL k _ (List.getElem?_eq_getElem hlt)
  ·cases h
  ·cases e
  ·refine Kp L hL R (i+1) _ (by omega) (fun k hk=>?_) n h
   rcases List.mem_cons.1 hk with rfl | hk
   ·omega
   ·have:=ho k (j0 hk);omega
theorem CK {l:cn} (h:wi l=0):∀ e∈CC l,NA e:=by
 unfold wi nG at h
 split at h
 ·cases h
 ·cases hq:lN jp ax l 0 [] with
  | no e=>rw[hq] at h;exact absurd h (CD jp ax l 0 [] e hq)
  | ok q=>
   intro e he
   have h1:=Mv jp ax l l 0 [] q hq e he
   cases e with
   | beg n=>exact h1
   | lin x=>exact h1
   | fin n=>exact Kp l (fun k y hk=>yV l 0 [] q k y hq hk) l 0 [] (by simp) (by simp) n he
theorem Ew (len:Nat):∀ (es:List (Ev Ln)) (ls:List Lf) (N N':cn) (op:List Nat),ls.map Lf.t=es.map gk→(∀ e∈es,NA e)→pt es N op=.ok N' []→dJ len ls N op=.ok N'
 | [],ls,N,N',op,hl,_,hr=>by
  have:ls=[]:=by simpa using hl
  subst this
  simp only[pt,StR.ok.injEq] at hr
  obtain ⟨rfl,rfl⟩:=hr
  simp[dJ]
 | e::es,ls,N,N',op,hl,he,hr=>by
  cases ls with
  | nil=>simp at hl
  | cons x ls=>
   simp only[List.map_cons,List.cons.injEq] at hl
   obtain ⟨h1,h2⟩:=hl
   have hx:=he e (by simp)
   simp only[pt] at hr
   simp only[dJ]
   rw[h1,Ie hx]
   simp only[mo,M3 hx]
   cases hs:hG N op e with
   | no c=>rw[hs] at hr;cases hr
   | ok N1 op1=>
    rw[hs] at hr
    exact Ew len es ls N1 N' op1 h2 (fun f hf=>he f (by simp[hf])) hr
theorem sr {l:cn} (h:wi l=0) (hlen:(fV l).length≤6000):fU (fV l)=.ok l:=by
 have hev:=CK h
 obtain ⟨ls,h1,h2⟩:=wd (L:=(CC l).map gk) (fun x hx=>by
  obtain ⟨e,he,rfl⟩:=List.mem_map.1 hx
  exact sq (hev e he)) hlen
 unfold fU
 rw[show fV l=cT ((CC l).map gk) from rfl,h1]
 exact Ew _ (CC l) ls [] l [] h2 hev (Kl jp ax h)
theorem If {l:cn} (h:wi l=0) (p:UInt8):ky (fV l) 0 p=true:=Bq _ p (fun x hx c hc=>by
 obtain ⟨e,he,rfl⟩:=List.mem_map.1 hx
 exact (sq (CK h e he)).1 c hc)
theorem G7 {l:cn} (h:wi l=0) (hlen:(fV l).length≤6000):∃ ls,bP (fV l)=.ok ls∧ls.length=(l.map fun x=>x.l.length+2).sum:=by
 have hev:=CK h
 obtain ⟨ls,h1,h2⟩:=wd (L:=(CC l).map gk) (fun x hx=>by
  obtain ⟨e,he,rfl⟩:=List.mem_map.1 hx
  exact sq (hev e he)) hlen
 refine ⟨ls,h1,?_⟩
 have:=congrArg List.length h2
 simp only[List.length_map] at this
 rw[this]
 have:=G2 l l 0 []
 simpa[CC] using this
theorem pz {t:Str} {y:Ln} (h:c9 t=.ok y):bv y=0:=Nm h
theorem Ex {y:Ln} {e:Ev Ln} (hy:bv y=0) (h:rl y=.ok e):Nk jp ax e:=by
 unfold rl at h
 split at h
 ·split at h
  ·cases h
  ·next h1=>
   simp only[EvR.ok.injEq] at h
   subst h
   rw[not_or] at h1
   show ax (upper y.v)=true
   simpa using h1.2
 ·next h1=>
  split at h
  ·split at h
   ·cases h
   ·simp only[EvR.ok.injEq] at h
    subst h
    trivial
  ·next h2=>
   simp only[EvR.ok.injEq] at h
   subst h
   show jp y=0
   unfold jp
   rw[if_neg (by simp[hy]),if_neg (by rw[not_or];exact ⟨h1,h2⟩)]
theorem Bs (len:Nat):∀ (ls:List Lf) (N N':cn) (op:List Nat),Go.Vs.Tr.Good jp ax N op→dJ len ls N op=.ok N'→wi N'=0
 | [],N,N',op,hg,h=>by
  simp only[dJ] at h
  split at h
  ·simp only[TrR.ok.injEq] at h
   subst h
   exact yP jp ax hg
  ·cases h
 | x::ls,N,N',op,hg,h=>by
  simp only[dJ] at h
  cases hl:c9 x.t with
  | no e ps=>rw[hl] at h;cases h
  | ok y=>
   rw[hl] at h
   simp only[mo] at h
   cases he:rl y with
   | no=>rw[he] at h;cases h
   | ok e=>
    rw[he] at h
    simp only at h
    cases hs:hG N op e with
    | no c=>rw[hs] at h;cases h
    | ok N1 op1=>
     rw[hs] at h
     exact Bs len ls N1 N' op1 (Bo jp ax hg (Ex (pz hl) he) hs) h
theorem x5 {s:Str} {l:cn} (h:fU s=.ok l):wi l=0:=by
 unfold fU at h
 cases hu:bP s with
 | no e p=>rw[hu] at h;cases h
 | ok ls=>rw[hu] at h;exact Bs s.length ls [] l [] (yO jp ax) h
end Go.Vs.YtmaenhgipojmfaaGreatDoor
namespace Go.Vs.YtmaenhgipojmfaaGreatDoor
set_option linter.unusedSimpArgs false
set_option linter.unusedVariables false
open Go.Proofs Go.Vs.U8 Go.Vs.Pa Go.Vs.Fd Go.Vs.Tr
set_option maxRecDepth 100000
theorem CL {B:Nat} : ∀ (f:Nat) (t:Str) (a:Nat) (D:List Lf) (cur:Option Lf) (l:List Lf),t.length≤f→a+t.length≤B→(∀ x∈D,x.t.length≤B)→(∀ x,cur=some x→x.t.length≤a)→D1 t a D cur=.ok l→∀ x∈l,x.t.length≤B
 | f,t,a,D,cur,l,hf,hB,hD,hc,h=>by
  have hDc:∀ x∈D++cur.toList,x.t.length≤B:=by
   intro x hx
   rcases List.mem_append.1 hx with hx | hx
   ·exact hD x hx
   ·cases cur with
    | none=>cases hx
    | some y=>
     simp only[Option.toList_some,List.mem_singleton] at hx
     subst hx
     have:=hc _ rfl
     omega
  by_cases ht:t=[]
  ·subst ht
   rw[nF] at h
   simp only[UfR.ok.injEq] at h
   subst h
   exact hDc
  ·rw[jL ht] at h
   split at h
   ·cases h
   ·cases hr:jk t with
    | bad n=>rw[hr] at h;cases h
    | ok n nx=>
     rw[hr] at h
     obtain ⟨r1,r2,r3,r4⟩:=jK hr ht
     have hp:1≤t.length:=by omega
     have hB':a+nx+(t.drop nx).length≤B:=by rw[List.length_drop];omega
     have hnew:∀ x,some (⟨t.take n,[(0,a)]⟩:Lf)=some x→x.t.length≤a+nx:=fun x hx=>by
      obtain rfl:=Option.some.inj hx
      show (t.take n).length≤_
      rw[List.length_take]
      omega
     cases f with
     | zero=>omega
     | succ f=>
      have hl:(t.drop nx).length≤f:=by rw[List.length_drop];omega
      simp only at h
      cases hg:eT t with
      | false=>rw[hg] at h;exact CL f _ _ _ _ l hl hB' hDc hnew h
      | true=>
       rw[hg] at h
       cases hcur:cur with
       | none=>rw[hcur] at h hDc;exact CL f _ _ _ _ l hl hB' hDc hnew h
       | some y=>
        rw[hcur] at h
        refine CL f _ _ _ _ l hl hB' hD (fun x hx=>?_) h
        obtain rfl:=Option.some.inj hx
        have:=hc y hcur
        show (y.t++(t.take n).drop 1).length≤_
        rw[List.length_append,List.length_drop,List.length_take]
        omega
theorem ss {s:Str} {l:List Lf} (h:bP s=.ok l):∀ x∈l,x.t.length≤s.length:=by
 unfold bP at h
 split at h
 ·cases h
 ·exact CL s.length s 0 [] none l (Nat.le_refl _) (by omega) (by simp) (by simp) h
theorem Kq {N:cn} {op:List Nat} {e:Ev Ln} {c:Int} (h:hG N op e=.no c):c≠0:=by
 cases e with
 | beg n=>
  simp only[hG] at h
  split at h
  ·simp only[StR.no.injEq] at h;omega
  ·split at h
   ·simp only[StR.no.injEq] at h;omega
   ·cases h
 | fin n=>
  simp only[hG] at h
  split at h
  ·simp only[StR.no.injEq] at h;omega
  ·split at h
   ·cases h
   ·simp only[StR.no.injEq] at h;omega
 | lin x=>
  simp only[hG] at h
  split at h
  ·simp only[StR.no.injEq] at h;omega
  ·split at h
   ·split at h
    ·simp only[StR.no.injEq] at h;omega
    ·cases h
   ·simp only[StR.no.injEq] at h;omega
theorem Kr {N:cn} {op:List Nat} {y:Ln} {c:Int} (h:mo N op y=.no c):c≠0:=by
 unfold mo at h
 split at h
 ·simp only[StR.no.injEq] at h;omega
 ·exact Kq h
def M4 (B:Nat) (ps:List Int):Prop:=0≤ps.sum∧ps.sum≤B∧(∀ p∈ps,-(2*B:Int)-1≤p∧p≤2*B+1)∧ps.length≤3
theorem ue {B p:Nat} (h:p≤B):M4 B [(p:Int)]:=by
 refine ⟨by simp,by simp;omega,?_,by simp⟩
 intro x hx
 simp only[List.mem_singleton] at hx
 omega
theorem Bt {B:Nat} : ∀ (ls:List Lf) (N:cn) (op:List Nat) (e:Int) (ps:List Int),(∀ x∈ls,CG B x∧x.t.length≤B)→dJ B ls N op=.no e ps→e≠0∧M4 B ps
 | [],N,op,e,ps,_,h=>by
  simp only[dJ] at h
  split at h
  ·cases h
  ·simp only[TrR.no.injEq] at h
   obtain ⟨rfl,rfl⟩:=h
   exact ⟨by omega,ue (Nat.le_refl _)⟩
 | x::ls,N,op,e,ps,hx,h=>by
  obtain ⟨x1,x2⟩:=hx x (by simp)
  simp only[dJ] at h
  cases hl:c9 x.t with
  | no e' qs=>
   rw[hl] at h
   simp only[TrR.no.injEq] at h
   obtain ⟨rfl,rfl⟩:=h
   obtain ⟨h1,h2⟩:=G6 hl
   refine ⟨h1,?_⟩
   have hp:=mn x1 qs.sum
   obtain ⟨P,hP⟩:∃ P,iB x qs.sum=P:=⟨_,rfl⟩
   unfold qg
   rw[hP] at hp ⊢
   rcases h2 with ⟨p,rfl,q1,q2⟩ | ⟨k,p,rfl,q1,q2,q3⟩
   ·refine ⟨by simp,by simp only[List.sum_cons,List.sum_nil];omega,?_,by simp⟩
    intro y hy
    simp only[List.sum_cons,List.sum_nil,List.mem_cons,List.not_mem_nil,or_false] at hy
    omega
   ·refine ⟨by simp only[List.sum_cons,List.sum_nil];omega,by simp only[List.sum_cons,List.sum_nil];omega,?_,by simp⟩
    intro y hy
    simp only[List.sum_cons,List.sum_nil,List.mem_cons,List.not_mem_nil,or_false] at hy
    omega
  | ok y=>
   rw[hl] at h
   simp only at h
   cases ht:mo N op y with
   | no c=>
    rw[ht] at h
    simp only[TrR.no.injEq] at h
    obtain ⟨rfl,rfl⟩:=h
    exact ⟨Kr ht,ue (mn x1 0)⟩
   | ok N1 op1=>
    rw[ht] at h
    exact Bt ls N1 op1 e ps (fun z hz=>hx z (by simp[hz])) h
theorem GI {s:Str} {e:Int} {ps:List Int} (h:fU s=.no e ps):e≠0∧M4 s.length ps:=by
 unfold fU at h
 cases hu:bP s with
 | no e' p=>
  rw[hu] at h
  simp only[TrR.no.injEq] at h
  obtain ⟨rfl,rfl⟩:=h
  unfold bP at hu
  split at hu
  ·simp only[UfR.no.injEq] at hu
   obtain ⟨rfl,rfl⟩:=hu
   exact ⟨by omega,ue (by omega)⟩
  ·obtain ⟨h1,h2⟩:=En (B:=s.length) s.length s 0 [] none e' p (Nat.le_refl _) (by omega) hu
   exact ⟨h1,ue h2⟩
 | ok ls=>
  rw[hu] at h
  exact Bt ls [] [] e ps (fun x hx=>⟨vp hu x hx,ss hu x hx⟩) h
end Go.Vs.YtmaenhgipojmfaaGreatDoor
