/- Plain mathematics of parameters, further: what is printed is parsed as it was; what is parsed may be; where parsing ends. No conditions. -/
import Derived.Test.YtmaenhgipojmfaaGreatDoorBP
import Derived.Test.YtmaenhgipojmfaaGreatDoorBM
import Derived.Test.YtmaenhgipojmfaaGreatDoorBX
set_option linter.unusedVariables false
set_option linter.unusedSimpArgs false
namespace Go.Vs.U8
end Go.Vs.U8
namespace Go.Vs.Pa
end Go.Vs.Pa
namespace Go.Vs.YtmaenhgipojmfaaGreatDoor
set_option linter.unusedSimpArgs false
set_option linter.unusedVariables false
open Go.Proofs Go.Vs.U8 Go.Vs.Pa
theorem Ee (p:UInt8→Bool):∀ x:Str,(∀ i,i < run p x→∃ c,x[i]?=some c∧p c=true)∧∀ c,x[run p x]?=some c→p c=false
 | []=>⟨fun i h=>by simp[run] at h,fun c h=>by simp at h⟩
 | d::r=>by
  obtain ⟨h1,h2⟩:=Ee p r
  simp only[run]
  split
  ·next hd=>
   refine ⟨fun i hi=>?_,fun c hc=>h2 c (by simpa using hc)⟩
   cases i with
   | zero=>exact ⟨d,rfl,hd⟩
   | succ i=>simpa using h1 i (by omega)
  ·next hd=>
   refine ⟨fun i hi=>by omega,fun c hc=>?_⟩
   simp at hc;subst hc;simpa using hd
theorem FS {p:UInt8→Bool} : ∀ {x:Str} {k:Nat},(∀ i,i < k→∃ c,x[i]?=some c∧p c=true)→(∀ c,x[k]?=some c→p c=false)→run p x=k
 | [],k,h1,_=>by
  cases k with
  | zero=>rfl
  | succ k=>obtain ⟨c,hc,_⟩:=h1 0 (by omega);simp at hc
 | d::r,0,_,h2=>by
  have:=h2 d rfl
  simp[run,this]
 | d::r,k+1,h1,h2=>by
  obtain ⟨c,hc,hp⟩:=h1 0 (by omega)
  simp at hc;subst hc
  have:=FS (x:=r) (k:=k) (fun i hi=>by simpa using h1 (i+1) (by omega)) (fun c hc=>h2 c (by simpa using hc))
  simp[run,hp,this]
theorem run_app {p:UInt8→Bool} {x y:Str} (h1:∀ c∈x,p c=true) (h2:∀ c,y[0]?=some c→p c=false):run p (x++y)=x.length:=by
 refine FS (fun i hi=>?_) (fun c hc=>?_)
 ·refine ⟨x[i],by rw[List.getElem?_append_left hi,List.getElem?_eq_getElem hi],h1 _ (List.getElem_mem hi)⟩
 ·rw[List.getElem?_append_right (Nat.le_refl _),Nat.sub_self] at hc
  exact h2 c hc
theorem vn:∀ s:Str,named s=run vd s
 | []=>rfl
 | c::r=>by simp only[named,run,vn r]
theorem ph (x y:Str):(x++y)[x.length]?=y[0]?:=by rw[List.getElem?_append_right (Nat.le_refl _),Nat.sub_self]
theorem yE (x y:Str):(x++y).drop x.length=y:=by simp
def Mu (r:Str):Prop:=∀ c,r[0]?=some c→ix c=true
theorem tQ {pre v rest:Str} (hv:v.length≤60) (hf:eD v=true) (hr:Mu rest):bE (pre++(write v++rest)) pre.length=.ok v (pre.length+(write v).length):=by
 have hcl:fp (eY v)=none:=qd _ v (Nat.le_refl _) (by simpa[eD] using hf)
 have hch:∀ a f,checked (eY v) a f=.ok v 0:=by
  intro a f
  have hme:=Pa.meant_esc v
  simp only[checked,hcl]
  rw[hme,if_neg (by omega)]
 cases hs:v.any ix with
 | true=>
  have hw:write v=34::(eY v++[34]):=by simp[write,hs]
  have h0:(pre++(write v++rest))[pre.length]?=some 34:=by rw[ph,hw];rfl
  have hd:(pre++(write v++rest)).drop (pre.length+1)=eY v++34::rest:=by
   rw[←List.drop_drop,yE,hw];simp
  have hrun:run fP (eY v++34::rest)=(eY v).length:=run_app (fun c hc=>by simp[fP,tO v c hc]) (fun c hc=>by simp at hc;subst hc;rfl)
  simp only[bE]
  rw[if_pos h0,hd,hrun,if_neg (by simp),List.take_left,hch]
  have hst:dr (pre++(write v++rest)) (pre.length+(eY v).length+2)=true:=by
   unfold dr
   have:(pre++(write v++rest))[pre.length+(eY v).length+2]?=rest[0]?:=by
    rw[hw,List.getElem?_append_right (by omega),show pre.length+(eY v).length+2-pre.length=((eY v).length+1)+1 by omega,List.cons_append,List.getElem?_cons_succ,List.append_assoc,
     List.getElem?_append_right (by omega),show (eY v).length+1-(eY v).length=0+1 by omega]
    simp
   rw[this]
   cases hc:rest[0]? with
   | none=>rfl
   | some c=>exact hr c hc
  simp only
  rw[if_pos hst,hw]
  simp
  omega
 | false=>
  have hw:write v=eY v:=by simp[write,hs]
  rw[hw]
  have h34:∀ c,(pre++(eY v++rest))[pre.length]?=some c→c.toNat≠34:=by
   intro c hc
   rw[ph] at hc
   cases he:eY v with
   | nil=>
    rw[he,List.nil_append] at hc
    have:=hr c hc
    intro e
    simp[ix] at this
    omega
   | cons d r=>
    rw[he] at hc
    simp at hc;subst hc
    exact tO v d (by rw[he];simp)
  have hrun:run plain (eY v++rest)=(eY v).length:=run_app (fun c hc=>by simp[plain,fP,tO v c hc,Bc v hs c hc]) (fun c hc=>by simp[plain,hr c hc])
  simp only[bE]
  rw[if_neg (fun e=>h34 34 e rfl),yE,hrun,if_neg,List.take_left,hch]
  intro e
  rw[List.getElem?_append_right (by omega),show pre.length+(eY v).length-pre.length=(eY v).length by omega,ph] at e
  have:=hr _ e
  exact absurd this (by decide)
def FT (r:Str):Prop:=∀ c,r[0]?=some c→ix c=true∧c.toNat≠44
theorem w3:∀ (r:List Str) (v:Str) (pre rest:Str) (m:Nat) (vs:List Str),(∀ x∈v::r,x.length≤60∧eD x=true)→FT rest→r.length+1≤m→
  cp (pre++(write v++(Go.Lib.joinTail [44] (r.map write)++rest))) m pre.length vs=.ok (vs++v::r) (pre.length+((write v).length+(Go.Lib.joinTail [44] (r.map write)).length))
 | r,v,pre,rest,0,vs,_,_,hm=>by omega
 | [],v,pre,rest,m+1,vs,hv,hr,hm=>by
  have h1:=hv v (by simp)
  have:=tQ (pre:=pre) (v:=v) (rest:=rest) h1.1 h1.2 (fun c hc=>(hr c hc).1)
  simp only[List.map_nil,Go.Lib.joinTail,List.flatten_nil,List.nil_append,cp,this,List.length_nil,Nat.add_zero]
  rw[if_neg]
  intro e
  rw[←List.append_assoc,show pre.length+(write v).length=(pre++write v).length by simp,ph] at e
  exact (hr _ e).2 rfl
 | w::r,v,pre,rest,m+1,vs,hv,hr,hm=>by
  have h1:=hv v (by simp)
  obtain ⟨tail,ht⟩:∃ tail,Go.Lib.joinTail [44] ((w::r).map write)++rest=tail:=⟨_,rfl⟩
  have htail:tail=44::(write w++(Go.Lib.joinTail [44] (r.map write)++rest)):=by rw[←ht];simp[Go.Lib.joinTail]
  have hends:Mu tail:=by rw[htail];intro c hc;simp at hc;subst hc;decide
  have:=tQ (pre:=pre) (v:=v) (rest:=tail) h1.1 h1.2 hends
  rw[ht]
  simp only[cp,this]
  have h44:(pre++(write v++tail))[pre.length+(write v).length]?=some 44:=by
   rw[←List.append_assoc,show pre.length+(write v).length=(pre++write v).length by simp,ph,htail];rfl
  rw[if_pos h44]
  have ih:=w3 r w (pre++write v++[44]) rest m (vs++[v]) (fun x hx=>hv x (by simp at hx ⊢;exact .inr hx)) hr (by simp at hm;omega)
  have e1:pre++write v++[44]++(write w++(Go.Lib.joinTail [44] (r.map write)++rest))=pre++(write v++tail):=by rw[htail];simp
  have e2:(pre++write v++[44]).length=pre.length+(write v).length+1:=by simp;omega
  rw[e1,e2] at ih
  rw[ih]
  have e3:(Go.Lib.joinTail [44] ((w::r).map write)).length=1+((write w).length+(Go.Lib.joinTail [44] (r.map write)).length):=by
   simp[Go.Lib.joinTail];omega
  rw[e3]
  simp
  omega
theorem yF:∀ {l:List Str},ex l=0→∀ x∈l,x.length≤60∧eD x=true
 | [],_,x,h=>by simp at h
 | v::r,hc,x,h=>by
  simp only[ex] at hc
  split at hc
  ·cases hc
  ·split at hc
   ·next h1 h2=>
    rcases List.mem_cons.1 h with rfl | h
    ·exact ⟨by omega,h2⟩
    ·exact yF hc x h
   ·cases hc
theorem Bd:∀ {l:List Str},(∀ x∈l,x.length≤60∧eD x=true)→ex l=0
 | [],_=>rfl
 | v::r,h=>by
  have h1:=h v (by simp)
  simp only[ex]
  rw[if_neg (by omega),if_pos h1.2]
  exact Bd (fun x hx=>h x (by simp[hx]))
theorem sh (p:Pm):bu p=0↔ax p.n=true∧1≤p.v.length∧p.v.length≤6∧∀ x∈p.v,x.length≤60∧eD x=true:=by
 simp only[bu]
 constructor
 ·intro h
  split at h
  ·next h1=>
   split at h
   ·cases h
   ·exact ⟨h1,by omega,by omega,yF h⟩
  ·cases h
 ·rintro ⟨h1,h2,h3,h4⟩
  rw[if_pos h1,if_neg (by omega),Bd h4]
theorem nw {n:Str} (h:ax n=true):1≤n.length∧n.length≤24∧n.all vd=true∧upper n=n:=by
 simp only[ax,Bool.and_eq_true,decide_eq_true_eq] at h
 obtain ⟨h1,h2⟩:=(Gu n).1 h.2
 exact ⟨h.1.1,h.1.2,h1,h2⟩
theorem FU {n:Str} (h:n.all vd=true) (rest:Str):named (n++61::rest)=n.length:=by
 rw[vn]
 exact run_app (fun c hc=>List.all_eq_true.1 h c hc) (fun c hc=>by simp at hc;subst hc;decide)
theorem FV {p:Pm} (hp:bu p=0) {pre rest:Str} {l:List Pm} (hh:pc l p.n=false) (hr:FT rest) :
  fm (pre++(p.n++61::(Go.Lib.join (p.v.map write) [44]++rest))) pre.length l=.ok p (pre.length+(p.n.length+1+(Go.Lib.join (p.v.map write) [44]).length)):=by
 obtain ⟨h1,h2,h3,h4⟩:=(sh p).1 hp
 obtain ⟨n1,n2,n3,n4⟩:=nw h1
 obtain ⟨n,v⟩:=p
 simp only at *
 obtain ⟨x,r,rfl⟩:=List.exists_cons_of_ne_nil (show v≠[] by intro e;rw[e] at h2;simp at h2)
 rw[List.map_cons,Go.Lib.join_cons]
 simp only[fm,yE,FU n3,List.take_left,n4,hh]
 rw[if_neg (by omega),if_neg (by simp)]
 have h61:(pre++(n++61::(write x++Go.Lib.joinTail [44] (r.map write)++rest)))[pre.length+n.length]?=some 61:=by
  rw[←List.append_assoc,show pre.length+n.length=(pre++n).length by simp,ph];rfl
 rw[if_pos h61]
 have:=w3 r x (pre++n++[61]) rest 6 [] h4 hr (by simp at h3;omega)
 have e1:pre++n++[61]++(write x++(Go.Lib.joinTail [44] (r.map write)++rest))=pre++(n++61::(write x++Go.Lib.joinTail [44] (r.map write)++rest)):=by simp
 have e2:(pre++n++[61]).length=pre.length+n.length+1:=by simp;omega
 rw[e1,e2] at this
 rw[this]
 simp
 omega
theorem tR:∀ (l:List Pm) (pre rest:Str) (m:Nat) (out:List Pm),(∀ p∈l,bu p=0)→dq out l=false→l.length≤m→(∀ c,rest[0]?=some c→c.toNat=58)→
  br (pre++(aq l++rest)) m pre.length out=.ok (out++l) (pre.length+(aq l).length)
 | [],pre,rest,m,out,_,_,_,hr=>by
  have h59:¬(pre++(aq []++rest))[pre.length]?=some 59:=by
   intro e
   rw[ph] at e
   simp only[aq,List.map_nil,List.flatten_nil,List.nil_append] at e
   exact absurd (hr _ e) (by decide)
  cases m <;> simp only[br,if_neg h59] <;> simp[aq]
 | p::r,pre,rest,0,out,_,_,hm,_=>by simp at hm
 | p::r,pre,rest,m+1,out,hc,ht,hm,hr=>by
  simp only[dq,Bool.or_eq_false_iff] at ht
  have hpp:aq (p::r)=cS p++aq r:=by simp[aq]
  obtain ⟨J,hJ⟩:∃ J,Go.Lib.join (p.v.map write) [44]=J:=⟨_,rfl⟩
  have htx:pre++(aq (p::r)++rest)=pre++[59]++(p.n++61::(J++(aq r++rest))):=by rw[hpp,cS,hJ];simp
  have h59:(pre++(aq (p::r)++rest))[pre.length]?=some 59:=by rw[ph,hpp];simp[cS]
  have hh:FT (aq r++rest):=by
   intro c hc
   cases r with
   | nil=>
    simp only[aq,List.map_nil,List.flatten_nil,List.nil_append] at hc
    have:=hr c hc
    refine ⟨by simp[ix,this],by omega⟩
   | cons q r'=>
    simp[aq,cS] at hc
    subst hc
    exact ⟨by decide,by decide⟩
  have ho:=FV (hc p (by simp)) (pre:=pre++[59]) ht.1 hh
  rw[hJ] at ho
  have e59:(pre++[(59:UInt8)]).length=pre.length+1:=by simp
  rw[←htx,e59] at ho
  simp only[br]
  rw[if_pos h59,ho]
  simp only
  have ih:=tR r (pre++cS p) rest m (out++[p]) (fun q hq=>hc q (by simp[hq])) ht.2 (by simp at hm;omega) hr
  have e1:pre++cS p++(aq r++rest)=pre++(aq (p::r)++rest):=by rw[hpp];simp
  have e2:(pre++cS p).length=pre.length+1+(p.n.length+1+J.length):=by simp[cS,hJ];omega
  rw[e1,e2] at ih
  rw[ih,hpp]
  simp[cS,hJ]
  omega
theorem tS {raw:Str} {a f:Nat} {v:Str} {n:Nat} (h:checked raw a f=.ok v n):v.length≤60∧eD v=true:=by
 have h1:=sg h
 refine ⟨h1,?_⟩
 simp only[checked] at h
 split at h
 ·cases h
 ·next ho=>
  split at h
  ·cases h
  ·cases h
   have:=iZ _ raw (Nat.le_refl _) ho
   simp[eD,this]
theorem Ef {s:Str} {a:Nat} {v:Str} {n:Nat} (h:bE s a=.ok v n):v.length≤60∧eD v=true:=by
 simp only[bE] at h
 split at h
 ·split at h
  ·cases h
  ·split at h
   ·cases h
   ·next hc=>
    split at h
    ·cases h;exact tS hc
    ·cases h
 ·split at h
  ·cases h
  ·split at h
   ·cases h
   ·next hc=>cases h;exact tS hc
theorem yG (s:Str):∀ (m a:Nat) (vs v:List Str) (n:Nat),(∀ x∈vs,x.length≤60∧eD x=true)→cp s m a vs=.ok v n→(∀ x∈v,x.length≤60∧eD x=true)∧vs.length+1≤v.length∧v.length≤vs.length+m∧a≤n
 | 0,a,vs,v,n,_,h=>by simp[cp] at h
 | m+1,a,vs,v,n,hvs,h=>by
  simp only[cp] at h
  cases hg:bE s a with
  | no e p=>rw[hg] at h;cases h
  | ok x j=>
   rw[hg] at h
   have hx:=Ef hg
   have hj:=qb hg
   have hvs':∀ y∈vs++[x],y.length≤60∧eD y=true:=by
    intro y hy
    rcases List.mem_append.1 hy with hy | hy
    ·exact hvs y hy
    ·rw[List.mem_singleton.1 hy];exact hx
   simp only at h
   split at h
   ·have:=yG s m (j+1) (vs++[x]) v n hvs' h
    simp at this
    exact ⟨this.1,by omega,by omega,by omega⟩
   ·cases h
    exact ⟨hvs',by simp,by simp,hj⟩
theorem Be {s:Str} {a:Nat} {l:List Pm} {p:Pm} {n:Nat} (h:fm s a l=.ok p n):bu p=0∧pc l p.n=false∧a < n:=by
 simp only[fm] at h
 split at h
 ·cases h
 ·next hk=>
  split at h
  ·cases h
  ·next hh=>
   split at h
   ·cases hv:cp s 6 (a+named (s.drop a)+1) [] with
    | no e p=>rw[hv] at h;cases h
    | ok v j=>
     rw[hv] at h
     cases h
     obtain ⟨h1,h2,h3,h4⟩:=yG s 6 _ [] v n (by simp) hv
     simp at h2 h3
     refine ⟨(sh _).2 ⟨?_,by simpa using h2,by simpa using h3,h1⟩,by simpa using hh,by omega⟩
     have hl:=iY (s.drop a)
     have hup:=gy ((s.drop a).take (named (s.drop a)))
     have hall:(upper ((s.drop a).take (named (s.drop a)))).all vX=true:=by
      have:=sf (s.drop a)
      rw[List.all_eq_true] at this ⊢
      intro c hc
      simp only[upper,List.mem_map] at hc
      obtain ⟨d,hd,rfl⟩:=hc
      show vX (Pa.upB d)=true
      rw[Cm]
      exact this d hd
     rw[List.length_take] at hup
     simp only[ax,Bool.and_eq_true,decide_eq_true_eq]
     exact ⟨⟨by omega,by omega⟩,hall⟩
   ·cases h
theorem w4 (s:Str):∀ (m a:Nat) (out l:List Pm) (n:Nat),br s m a out=.ok l n→∃ r,l=out++r∧(∀ p∈r,bu p=0)∧dq out r=false∧r.length≤m∧a≤n∧(r=[]→n=a)∧(r≠[]→a < n)
 | 0,a,out,l,n,h=>by
  simp only[br] at h
  split at h
  ·cases h
  ·cases h;exact ⟨[],by simp,by simp,rfl,by simp,by omega,by simp,by simp⟩
 | m+1,a,out,l,n,h=>by
  simp only[br] at h
  split at h
  ·cases ho:fm s (a+1) out with
   | no e p=>rw[ho] at h;cases h
   | ok p j=>
    rw[ho] at h
    obtain ⟨h1,h2,h3⟩:=Be ho
    obtain ⟨r,e1,e2,e3,e4,e5,e6,e7⟩:=w4 s m j (out++[p]) l n h
    refine ⟨p::r,by rw[e1];simp,?_,by simp[dq,h2,e3],by simp;omega,by omega,by simp,fun _=>by omega⟩
    intro q hq
    rcases List.mem_cons.1 hq with rfl | hq
    ·exact h1
    ·exact e2 q hq
  ·cases h;exact ⟨[],by simp,by simp,rfl,by simp,by omega,by simp,by simp⟩
theorem w5:∀ {l:List Pm},(∀ p∈l,bu p=0)→bI l=0
 | [],_=>rfl
 | p::r,h=>by rw[bI,if_pos (h p (by simp))];exact w5 (fun q hq=>h q (by simp[hq]))
theorem gX (l:List Pm):bx l=0↔l.length≤6∧(∀ p∈l,bu p=0)∧dq [] l=false:=by
 simp only[bx]
 constructor
 ·intro h
  split at h
  ·cases h
  ·split at h
   ·next h1 h2=>
    split at h
    ·cases h
    ·next h3=>exact ⟨by omega,nt h2,by simpa using h3⟩
   ·next h1 h2=>exact absurd h h2
 ·rintro ⟨h1,h2,h3⟩
  rw[if_neg (by omega),if_pos (w5 h2),h3]
  rfl
theorem Eg {s:Str} {l:List Pm} {n:Nat} (h:br s 6 0 []=.ok l n):bx l=0:=by
 obtain ⟨r,e1,e2,e3,e4,_⟩:=w4 s 6 0 [] l n h
 simp at e1
 subst e1
 exact (gX _).2 ⟨e4,e2,e3⟩
theorem Eh {l:List Pm} (h:bx l=0) {rest:Str} (hr:∀ c,rest[0]?=some c→c.toNat=58):br (aq l++rest) 6 0 []=.ok l (aq l).length:=by
 obtain ⟨h1,h2,h3⟩:=(gX l).1 h
 have:=tR l [] rest 6 [] h2 h3 h1 hr
 simpa using this
/- WHERE PARSING ENDS -/
structure Ag (n:Nat) (s t:Str):Prop where
 eq:∀ i,i < n→t[i]?=s[i]?
 ls:n≤s.length
 lt:n≤t.length
 es:s[n]?=none∨s[n]?=some 58
 et:t[n]?=none∨t[n]?=some 58
theorem Ag.of {n:Nat} {s t:Str} (h:Ag n s t) {k:Nat} (hk:k≤n) {c:UInt8} (hc:c.toNat≠58):t[k]?=some c↔s[k]?=some c:=by
 rcases Nat.lt_or_ge k n with h1 | h1
 ·rw[h.eq k h1]
 ·obtain rfl:k=n:=by omega
  constructor
  ·intro e
   rcases h.et with h2 | h2
   ·rw[h2] at e;cases e
   ·rw[h2] at e;cases e;exact absurd rfl hc
  ·intro e
   rcases h.es with h2 | h2
   ·rw[h2] at e;cases e
   ·rw[h2] at e;cases e;exact absurd rfl hc
theorem Ag.run {n:Nat} {s t:Str} (h:Ag n s t) {p:UInt8→Bool} (hp:p 58=false) {a k:Nat} (hr:run p (s.drop a)=k) (hk:a+k≤n):Vs.YtmaenhgipojmfaaGreatDoor.run p (t.drop a)=k:=by
 have:=Ee p (s.drop a)
 rw[hr] at this
 refine FS (fun i hi=>?_) (fun c hc=>?_)
 ·obtain ⟨c,h1,h2⟩:=this.1 i hi
  refine ⟨c,?_,h2⟩
  rw[List.getElem?_drop] at h1 ⊢
  rw[h.eq _ (by omega)];exact h1
 ·rw[List.getElem?_drop] at hc
  rcases Nat.lt_or_ge (a+k) n with h1 | h1
  ·rw[h.eq _ h1] at hc
   exact this.2 c (by rw[List.getElem?_drop];exact hc)
  ·obtain e:a+k=n:=by omega
   rw[e] at hc
   rcases h.et with h2 | h2
   ·rw[h2] at hc;cases hc
   ·rw[h2] at hc;cases hc;exact hp
theorem Ag.take {n:Nat} {s t:Str} (h:Ag n s t) {a k:Nat} (hk:a+k≤n):(t.drop a).take k=(s.drop a).take k:=by
 apply List.ext_getElem?
 intro i
 rw[List.getElem?_take,List.getElem?_take]
 split
 ·rw[List.getElem?_drop,List.getElem?_drop,h.eq _ (by omega)]
 ·rfl
end Go.Vs.YtmaenhgipojmfaaGreatDoor
