/- Plain mathematics of texts: characters that may be, what runs along. No conditions. -/
import Derived.Test.YtmaenhgipojmfaaGreatDoorBK
import Derived.Test.YtmaenhgipojmfaaGreatDoorBQ
import Derived.Test.YtmaenhgipojmfaaGreatDoorBW
set_option linter.unusedVariables false
set_option linter.unusedSimpArgs false
namespace Go.Vs.U8
end Go.Vs.U8
namespace Go.Vs.Pa
end Go.Vs.Pa
set_option linter.unusedVariables false
set_option linter.unusedSimpArgs false
namespace Go.Vs.Pa
open Go.Vs.U8
def FQ (c:UInt8):Prop:=(32≤c.toNat∧c.toNat < 127)∨c.toNat=9
def mul (m:Str):Prop:=m≠[]∧(∀ b∈m,128≤b.toNat)∧∀ r,eM (m++r)=false∧bD (m++r)=m.length
theorem LT {c:UInt8} (h:FQ c) (r:Str):fp (c::r)=(fp r).map (· + 1):=by
 have hs:bD (c::r)=1:=by
  simp only[bD]
  rw[if_pos (by unfold FQ at h;omega)]
 have ho:eM (c::r)=false:=by
  simp only[eM,hs]
  unfold FQ at h
  rcases h with h | h
  ·have h1:decide (c.toNat < 32)=false:=decide_eq_false (by omega)
   have h2:decide (c.toNat=127)=false:=decide_eq_false (by omega)
   rw[h1,h2];rfl
  ·rw[h];rfl
 rw[kp (by simp),ho,hs]
 rfl
theorem LU {m:Str} (h:mul m) (r:Str):fp (m++r)=(fp r).map (· + m.length):=by
 obtain ⟨h1,h2,h3⟩:=h
 obtain ⟨h4,h5⟩:=h3 r
 rw[kp (by simp[h1]),h4,h5]
 simp
theorem Kc (n:Nat):128≤D0 n:=by unfold D0;split <;> (try split) <;> omega
theorem pf {s:Str} (h:fp s=none):s=[]∨(∃ c r,s=c::r∧FQ c∧fp r=none)∨∃ m r,s=m++r∧mul m∧fp r=none:=by
 cases s with
 | nil=>exact .inl rfl
 | cons c r=>
  right
  rw[kp (by simp)] at h
  split at h
  ·cases h
  ·next ho=>
   have ho:eM (c::r)=false:=by simpa using ho
   have hd:fp ((c::r).drop (bD (c::r)))=none:=by simpa using h
   by_cases h1:c.toNat < 128
   ·left
    have hs:bD (c::r)=1:=by simp only[bD];rw[if_pos h1]
    rw[hs] at hd
    refine ⟨c,r,rfl,?_,by simpa using hd⟩
    simp only[eM,hs,Bool.or_eq_false_iff,Bool.and_eq_false_iff,decide_eq_false_iff_not,Bool.not_eq_false',decide_eq_true_eq] at ho
    unfold FQ
    omega
   ·right
    have pos:=ko ho (by simp)
    have mk:∀ (m r':Str),c::r=m++r'→(∀ x,bD (m++x)=m.length)→m≠[]→(∀ b∈m,128≤b.toNat)→∃ m r',c::r=m++r'∧mul m∧fp r'=none:=by
     intro m r' e hsz hne hb
     refine ⟨m,r',e,⟨hne,hb,fun x=>⟨?_,hsz x⟩⟩,?_⟩
     ·obtain ⟨d,m',rfl⟩:=List.exists_cons_of_ne_nil hne
      have hd1:=hb d (by simp)
      have hz:=hsz x
      simp only[List.cons_append,eM] at hz ⊢
      rw[hz]
      have h1:decide (d.toNat < 32)=false:=decide_eq_false (by omega)
      have h2:decide (d.toNat=127)=false:=decide_eq_false (by omega)
      rw[h1,h2]
      simp
     ·rw[e,hsz r',List.drop_left] at hd
      exact hd
    simp only[bD] at pos
    rw[if_neg h1] at pos
    split at pos
    ·next h2=>
     simp only[Bool.and_eq_true,decide_eq_true_eq] at h2
     obtain ⟨b,hb,hb1,_⟩:=l6 h2.2
     obtain ⟨hl,he⟩:=List.getElem?_eq_some_iff.1 hb
     obtain ⟨b',r1,rfl⟩:=List.exists_cons_of_ne_nil (show r≠[] by intro e;rw[e] at hl;simp at hl)
     simp at he;subst he
     refine mk [c,b'] r1 rfl (fun x=>?_) (by simp) (by simp;omega)
     have ht:tl (b'::x) 0 128 191=true:=by have:=h2.2;unfold tl at this ⊢;simpa using this
     simp only[bD,List.cons_append,List.nil_append]
     rw[if_neg h1,if_pos (by simp only[Bool.and_eq_true,decide_eq_true_eq];exact ⟨h2.1,ht⟩)]
     rfl
    ·next h2=>
     split at pos
     ·next h3=>
      simp only[Bool.and_eq_true,decide_eq_true_eq] at h3
      obtain ⟨b,hb,hb1,_⟩:=l6 h3.1.2
      obtain ⟨hl,he⟩:=List.getElem?_eq_some_iff.1 hb
      obtain ⟨b',r1,rfl⟩:=List.exists_cons_of_ne_nil (show r≠[] by intro e;rw[e] at hl;simp at hl)
      simp at he;subst he
      obtain ⟨d,hd',hd1,_⟩:=l6 h3.2
      obtain ⟨hl2,he2⟩:=List.getElem?_eq_some_iff.1 hd'
      obtain ⟨d',r2,rfl⟩:=List.exists_cons_of_ne_nil (show r1≠[] by intro e;rw[e] at hl2;simp at hl2)
      simp at he2;subst he2
      have hlo:=Kc c.toNat
      refine mk [c,b',d'] r2 rfl (fun x=>?_) (by simp) (by simp;omega)
      have t1:tl (b'::d'::x) 0 (D0 c.toNat) (zy c.toNat)=true:=by have:=h3.1.2;unfold tl at this ⊢;simpa using this
      have t2:tl (b'::d'::x) 1 128 191=true:=by have:=h3.2;unfold tl at this ⊢;simpa using this
      simp only[bD,List.cons_append,List.nil_append]
      rw[if_neg h1,if_neg (by simp only[Bool.and_eq_true,decide_eq_true_eq];omega),if_pos (by simp only[Bool.and_eq_true,decide_eq_true_eq];exact ⟨⟨h3.1.1,t1⟩,t2⟩)]
      rfl
     ·next h3=>
      split at pos
      ·next h4=>
       simp only[Bool.and_eq_true,decide_eq_true_eq] at h4
       obtain ⟨b,hb,hb1,_⟩:=l6 h4.1.1.2
       obtain ⟨hl,he⟩:=List.getElem?_eq_some_iff.1 hb
       obtain ⟨b',r1,rfl⟩:=List.exists_cons_of_ne_nil (show r≠[] by intro e;rw[e] at hl;simp at hl)
       simp at he;subst he
       obtain ⟨d,hd',hd1,_⟩:=l6 h4.1.2
       obtain ⟨hl2,he2⟩:=List.getElem?_eq_some_iff.1 hd'
       obtain ⟨d',r2,rfl⟩:=List.exists_cons_of_ne_nil (show r1≠[] by intro e;rw[e] at hl2;simp at hl2)
       simp at he2;subst he2
       obtain ⟨e,he3,he1,_⟩:=l6 h4.2
       obtain ⟨hl3,he4⟩:=List.getElem?_eq_some_iff.1 he3
       obtain ⟨e',r3,rfl⟩:=List.exists_cons_of_ne_nil (show r2≠[] by intro e;rw[e] at hl3;simp at hl3)
       simp at he4;subst he4
       have hlo:=Kc c.toNat
       refine mk [c,b',d',e'] r3 rfl (fun x=>?_) (by simp) (by simp;omega)
       have t1:tl (b'::d'::e'::x) 0 (D0 c.toNat) (zy c.toNat)=true:=by have:=h4.1.1.2;unfold tl at this ⊢;simpa using this
       have t2:tl (b'::d'::e'::x) 1 128 191=true:=by have:=h4.1.2;unfold tl at this ⊢;simpa using this
       have t3:tl (b'::d'::e'::x) 2 128 191=true:=by have:=h4.2;unfold tl at this ⊢;simpa using this
       simp only[bD,List.cons_append,List.nil_append]
       rw[if_neg h1,if_neg (by simp only[Bool.and_eq_true,decide_eq_true_eq];omega),if_neg (by simp only[Bool.and_eq_true,decide_eq_true_eq];omega),if_pos (by simp only[Bool.and_eq_true,decide_eq_true_eq];exact ⟨⟨⟨h4.1.1.1,t1⟩,t2⟩,t3⟩)]
       rfl
      ·omega
theorem cA {c:UInt8} {r:Str} (h:FQ c):fp (c::r)=none↔fp r=none:=by rw[LT h];simp
theorem Ba {m r:Str} (h:mul m):fp (m++r)=none↔fp r=none:=by rw[LU h];simp
theorem LV (a b:Str):eY (a++b)=eY a++eY b:=by
 induction a with
 | nil=>rfl
 | cons c r ih=>simp[eY,ih]
theorem LW {m:Str} (h:∀ b∈m,128≤b.toNat):eY m=m:=by
 induction m with
 | nil=>rfl
 | cons c r ih=>
  have h1:=h c (by simp)
  simp only[eY]
  rw[if_neg (by omega),if_neg (by omega),if_neg (by omega),ih (fun b hb=>h b (by simp[hb]))]
  rfl
theorem Ni {b:UInt8} (h:128≤(sp b).toNat):sp b=b:=by
 unfold sp at h ⊢
 split
 ·next e=>rw[if_pos e] at h;exact absurd h (by decide)
 ·rfl
theorem yC:∀ {v m:Str},v.map sp=m→(∀ b∈m,128≤b.toNat)→v=m
 | [],m,h,_=>by simpa using h
 | c::r,m,h,hb=>by
  subst h
  have h1:=hb (sp c) (by simp)
  have h2:=yC (v:=r) rfl (fun b hb'=>hb b (by simp only[List.map_cons,List.mem_cons];exact .inr hb'))
  rw[List.map_cons,Ni h1,←h2]
theorem qd:∀ (n:Nat) (v:Str),v.length≤n→fp (v.map sp)=none→fp (eY v)=none
 | n,[],_,_=>rfl
 | 0,c::r,hn,_=>by simp at hn
 | n+1,c::r,hn,h=>by
  rcases pf h with e | ⟨d,r',e,ha,hr⟩ | ⟨m,r',e,hm,hr⟩
  ·simp at e
  ·simp only[List.map_cons,List.cons.injEq] at e
   obtain ⟨e1,e2⟩:=e
   have ih:=qd n r (by simp at hn;omega) (by rw[e2];exact hr)
   simp only[eY]
   have a94:FQ 94:=.inl ⟨by decide,by decide⟩
   have a110:FQ 110:=.inl ⟨by decide,by decide⟩
   have a39:FQ 39:=.inl ⟨by decide,by decide⟩
   split
   ·simpa[cA a94] using ih
   ·split
    ·simpa[cA a94,cA a110] using ih
    ·split
     ·simpa[cA a94,cA a39] using ih
     ·next h1 h2 h3=>
      have:sp c=c:=by unfold sp;rw[if_neg h2]
      rw[this] at e1
      subst e1
      simpa[cA ha] using ih
  ·obtain ⟨hne,hb,_⟩:=id hm
   obtain ⟨v1,v2,hv,e1,e2⟩:=List.map_eq_append_iff.1 e
   have e3:=yC e1 hb
   have hl:v2.length≤n:=by
    have:1≤m.length:=by cases m with
     | nil=>exact absurd rfl hne
     | cons=>simp
    have h2:=congrArg List.length hv
    rw[e3,List.length_append] at h2
    simp at h2 hn
    omega
   have ih:=qd n v2 hl (by rw[e2];exact hr)
   rw[hv,LV,e3,LW hb,Ba hm]
   exact ih
theorem yD {c:UInt8} (h:c.toNat≠94):∀ r,aK (c::r)=c::aK r
 | []=>by simp[aK]
 | d::r=>by simp only[aK];rw[if_neg h]
theorem Bb:∀ {m:Str},(∀ b∈m,128≤b.toNat)→∀ r,aK (m++r)=m++aK r
 | [],_,r=>rfl
 | c::m,h,r=>by
  have h1:=h c (by simp)
  rw[List.cons_append,yD (by omega),Bb (fun b hb=>h b (by simp[hb])) r]
  rfl
theorem iZ:∀ (n:Nat) (s:Str),s.length≤n→fp s=none→fp ((aK s).map sp)=none
 | n,[],_,_=>rfl
 | 0,c::r,hn,_=>by simp at hn
 | n+1,c::r,hn,h=>by
  have a94:FQ 94:=.inl ⟨by decide,by decide⟩
  have a32:FQ 32:=.inl ⟨by decide,by decide⟩
  have a34:FQ 34:=.inl ⟨by decide,by decide⟩
  have spa:∀ {d:UInt8},FQ d→sp d=d:=by
   intro d hd
   unfold sp;rw[if_neg];unfold FQ at hd;omega
  rcases pf h with e | ⟨d,r',e,ha,hr⟩ | ⟨m,r',e,hm,hr⟩
  ·simp at e
  ·simp only[List.cons.injEq] at e
   obtain ⟨rfl,rfl⟩:=e
   by_cases hc:c.toNat=94
   ·have hc':c=94:=UInt8.toNat_inj.1 hc
    subst hc'
    cases r with
    | nil=>simp only[aK,List.map_cons,List.map_nil,spa a94];rw[cA a94];rfl
    | cons d r2=>
     have ihr:=iZ n (d::r2) (by simp at hn ⊢;omega) hr
     have two:FQ d→fp ((aK r2).map sp)=none:=by
      intro hd
      rw[cA hd] at hr
      exact iZ n r2 (by simp at hn;omega) hr
     simp only[aK]
     rw[if_pos hc]
     split
     ·next h1=>have:=two (.inl ⟨by omega,by omega⟩);simpa[spa a94,cA a94] using this
     ·split
      ·next h1=>
       have:=two (.inl ⟨by omega,by omega⟩)
       have e10:sp 10=32:=by decide
       simpa[e10,cA a32] using this
      ·split
       ·next h1=>have:=two (.inl ⟨by omega,by omega⟩);simpa[spa a34,cA a34] using this
       ·simpa[spa a94,cA a94] using ihr
   ·rw[yD hc,List.map_cons,spa ha,cA ha]
    exact iZ n r (by simp at hn;omega) hr
  ·obtain ⟨hne,hb,_⟩:=id hm
   have hl:r'.length≤n:=by
    have:1≤m.length:=by cases m with
     | nil=>exact absurd rfl hne
     | cons=>simp
    have h2:=congrArg List.length e
    rw[List.length_append] at h2
    simp at h2 hn
    omega
   have ih:=iZ n r' hl hr
   have hsp:m.map sp=m:=by
    have:∀ b∈m,sp b=b:=fun b hb'=>by
     have:=hb b hb'
     unfold sp;rw[if_neg (by omega)]
    exact (List.map_congr_left this).trans (List.map_id m)
   rw[e,Bb hb,List.map_append,hsp,Ba hm]
   exact ih
theorem meant_esc:∀ v:Str,aK (eY v)=v
 | []=>rfl
 | c::r=>by
  have ih:=meant_esc r
  simp only[eY]
  split
  ·next h=>simp[aK,ih];exact (UInt8.toNat_inj.1 h).symm
  ·split
   ·next h=>simp[aK,ih];exact (UInt8.toNat_inj.1 h).symm
   ·split
    ·next h=>simp[aK,ih];exact (UInt8.toNat_inj.1 h).symm
    ·next h1 h2 h3=>rw[List.cons_append,List.nil_append,yD h1,ih]
theorem tO:∀ (v:Str),∀ c∈eY v,c.toNat≠34
 | [],c,h=>by simp[eY] at h
 | d::r,c,h=>by
  simp only[eY,List.mem_append] at h
  rcases h with h | h
  ·split at h
   ·simp at h;subst h;decide
   ·split at h
    ·simp at h;rcases h with rfl | rfl <;> decide
    ·split at h
     ·simp at h;rcases h with rfl | rfl <;> decide
     ·next h3=>simp at h;subst h;exact h3
  ·exact tO r c h
theorem Bc:∀ (v:Str),v.any ix=false→∀ c∈eY v,ix c=false
 | [],_,c,h=>by simp[eY] at h
 | d::r,hv,c,h=>by
  simp only[List.any_cons,Bool.or_eq_false_iff] at hv
  simp only[eY,List.mem_append] at h
  rcases h with h | h
  ·split at h
   ·simp at h;subst h;decide
   ·split at h
    ·simp at h;rcases h with rfl | rfl <;> decide
    ·split at h
     ·simp at h;rcases h with rfl | rfl <;> decide
     ·simp at h;subst h;exact hv.1
  ·exact Bc r hv.2 c h
end Go.Vs.Pa
namespace Go.Vs.YtmaenhgipojmfaaGreatDoor
set_option linter.unusedSimpArgs false
set_option linter.unusedVariables false
open Go.Proofs Go.Vs.U8 Go.Vs.Pa
set_option maxRecDepth 100000
set_option maxHeartbeats 8000000
def Mt (v:List Str):Bool:=v.all fun x=>decide (x.length≤80)
def Iw (p:Pm):Bool:=decide (p.n.length≤40)&&decide (p.v.length≤10)&&Mt p.v
def pg (l:List Pm):Bool:=decide (l.length≤10)&&l.all Iw
theorem FR {α:Type} {f:α→Bool} {l:List α} {i:Nat} {x:α} (h:i < l.length) (hx:l[i]=x):(l.drop i).all f=(f x&&(l.drop (i+1)).all f):=by
 rw[List.drop_eq_getElem_cons h,hx];rfl
theorem Kd (l:List Pm):Fn G Tryz.prog lA [.slice (ps l)] (.bool (pg l)):=by
 refine ac hm yh (by simp) ?_
 simp[qJ,qK,aw]
 by_cases h0:10 < l.length
 ·have:pg l=false:=by simp[pg];omega
  simp (disch:=omega) [wl,this,aw]
 ·have hR:pg l=l.all Iw:=by
   have:l.length≤10:=by omega
   simp[pg,this]
  rw[hR]
  simp (disch:=omega) [wl,aw]
  refine aA hm [] (fun i:Nat=>[(3,.val (.int .i64 i))]) (fun i=>[]) (fun i=>i≤l.length∧(l.drop i).all Iw=l.all Iw) (fun i=>l.length-i) 0 ⟨by omega,by simp⟩ ?_ ?_
  ·simp
   exact aQ
  rintro i ⟨hi,hc⟩
  simp[aw]
  by_cases h:i < l.length
  ·obtain ⟨p,hp⟩:∃ p,l[i]=p:=⟨_,rfl⟩
   have hg:=gh h hp
   rw[FR h hp] at hc
   have bad:Iw p=false→l.all Iw=false:=fun e=>by rw[←hc,e];rfl
   by_cases h1:40 < p.n.length
   ·have hb:=bad (by simp[Iw];omega)
    simp (disch:=omega) [wl,aw,hg,hb]
   ·by_cases h2:10 < p.v.length
    ·have hb:=bad (by simp[Iw];omega)
     simp (disch:=omega) [wl,aw,aB,hg,hb]
    ·have hP:Iw p=Mt p.v:=by
      have a1:p.n.length≤40:=by omega
      have a2:p.v.length≤10:=by omega
      simp[Iw,a1,a2]
     rw[hP] at hc bad
     simp (disch:=omega) [wl,aw,aB,hg]
     refine aA hm [] (fun k:Nat=>[(4,.val (.int .i64 k))]) (fun k=>[]) (fun k=>k≤p.v.length∧Mt (p.v.drop k)=Mt p.v) (fun k=>p.v.length-k) 0 ⟨by omega,by simp⟩ ?_ ?_
     ·simp
      exact aQ
     rintro k ⟨hk,hv⟩
     simp[aw]
     by_cases h3:k < p.v.length
     ·obtain ⟨x,hx⟩:∃ x,p.v[k]=x:=⟨_,rfl⟩
      have hg2:=jg h3 hx
      rw[Mt,FR h3 hx] at hv
      by_cases h4:80 < x.length
      ·have:decide (x.length≤80)=false:=by simp;omega
       rw[this] at hv
       have hb:=bad (by rw[←hv];rfl)
       simp (disch:=omega) [wl,aw,aB,hg,hg2,hb]
      ·have:decide (x.length≤80)=true:=by simp;omega
       rw[this,Bool.true_and] at hv
       simp (disch:=omega) [wl,aw,aB,hg,hg2]
       refine ae (k+1) ⟨by omega,hv⟩ (by omega) ?_
       simp
       exact aQ
     ·obtain rfl:k=p.v.length:=by omega
      have:Mt p.v=true:=by rw[←hv];simp[Mt]
      rw[this,Bool.true_and] at hc
      simp (disch:=omega) [wl,aw,aB,hg]
      refine ae (i+1) ⟨by omega,hc⟩ (by omega) ?_
      simp
      exact aQ
  ·obtain rfl:i=l.length:=by omega
   have:l.all Iw=true:=by rw[←hc];simp
   simp (disch:=omega) [wl,this]
end Go.Vs.YtmaenhgipojmfaaGreatDoor
namespace Go.Vs.YtmaenhgipojmfaaGreatDoor
set_option linter.unusedSimpArgs false
set_option linter.unusedVariables false
open Go.Proofs Go.Vs.U8 Go.Vs.Pa
set_option maxRecDepth 100000
set_option maxHeartbeats 8000000
theorem tP {l:List Pm} {i:Nat} {p:Pm} (h:i < l.length) (hp:l[i]=p):ps (l.take (i+1))=ps (l.take i)++[[.str p.n,.slice (ts p.v)]]:=by
 rw[List.take_succ_eq_append_getElem h,hp,Cw]
theorem LX (l:List Pm) (hl:l.length < 100000):Fn G Tryz.prog nf [.slice (ps l)] (.slice (ps l)):=by
 refine ac hm zU (by simp) ?_
 simp[tp,tq,aw]
 refine aA hm [] (fun i:Nat=>[(4,.val (.int .i64 i)),(3,.own 3 i)]) (fun i=>[(3,.arr i 2 (ps (l.take i)))]) (fun i=>i≤l.length) (fun i=>l.length-i) 0 (by omega) ?_ ?_
 ·simp[ps]
  exact aS.trans (ce (k:=3) 3 2 (by simp) (by simp[ap,a8])) (an rfl rfl (by simp[St.adopt,aR,ap,a8,put,ba,SV.erase]) (by simp[St.adopt,bM,a8,put,aE,Ob.erase]) (by simp[St.adopt,bQ]))
 intro i hi
 simp[aw]
 by_cases h:i < l.length
 ·obtain ⟨p,hp⟩:∃ p,l[i]=p:=⟨_,rfl⟩
  have hg:=gh h hp
  have ht:=tP h hp
  have hlen:(ps (l.take i)).length≤100000:=by rw[aw,List.length_take];omega
  simp (disch:=omega) [wl,aw,hg]
  refine ⟨by omega,rfl,?_⟩
  refine ae (i+1) (by omega) (by omega) ?_
  simp[ht]
  exact aQ
 ·obtain rfl:i=l.length:=by omega
  simp (disch:=omega) [wl]
theorem Nj (l:List Pm) (hl:l.length < 100000) (hf:Fit l):Fn G Tryz.prog oX [.slice (ps l)] (.slice (ps l)):=by
 refine ac hm Ck (by simp) ?_
 simp[vT,vU,aw]
 refine aA hm [] (fun i:Nat=>[(4,.val (.int .i64 i)),(3,.own 3 i)]) (fun i=>[(3,.arr i 2 (ps (l.take i)))]) (fun i=>i≤l.length) (fun i=>l.length-i) 0 (by omega) ?_ ?_
 ·simp[ps]
  exact aS.trans (ce (k:=3) 3 2 (by simp) (by simp[ap,a8])) (an rfl rfl (by simp[St.adopt,aR,ap,a8,put,ba,SV.erase]) (by simp[St.adopt,bM,a8,put,aE,Ob.erase]) (by simp[St.adopt,bQ]))
 intro i hi
 simp[aw]
 by_cases h:i < l.length
 ·obtain ⟨p,hp⟩:∃ p,l[i]=p:=⟨_,rfl⟩
  have hg:=gh h hp
  have ht:=tP h hp
  have hm':p∈l:=hp▸List.getElem_mem h
  have hvl:=hf.v p hm'
  cases hv:p.v with
  | nil=>
   rw[hv] at hg ht
   have ht':ps (l.take (i+1))=ps (l.take i)++[[.str p.n,.slice []]]:=ht
   simp (disch:=omega) [wl,aw,hg,ts]
   refine ⟨rfl,by omega,?_⟩
   refine ae (i+1) (by omega) (by omega) ?_
   simp[ht']
   exact aQ
  | cons x r=>
   have htl:=aB (x::r)
   rw[hv] at hg ht hvl
   simp only[List.length_cons] at htl hvl
   have:ts (x::r)=[.str x]::ts r:=rfl
   rw[this] at htl hg ht
   simp at htl
   simp (disch:=omega) [wl,aw,hg,htl]
   refine ⟨⟨by omega,fun a ha=>by simp[ts] at ha;obtain ⟨y,_,rfl⟩:=ha;rfl⟩,rfl,by omega,?_⟩
   refine ae (i+1) (by omega) (by omega) ?_
   simp[ht]
   exact aQ
 ·obtain rfl:i=l.length:=by omega
  simp (disch:=omega) [wl]
end Go.Vs.YtmaenhgipojmfaaGreatDoor
