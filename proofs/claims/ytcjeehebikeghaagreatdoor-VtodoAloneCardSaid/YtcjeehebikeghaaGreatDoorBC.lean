/- A part of a proof. No conditions. -/
import Derived.Test.YtcjeehebikeghaaGreatDoorBB
import Derived.ScopeJumps
set_option linter.unusedVariables false
set_option linter.unusedSimpArgs false
set_option linter.unusedVariables false
set_option linter.unusedSimpArgs false
namespace Go.Vs

structure Eff where
 ids:List Nat
 dst:Option Nat
 u:Upd

structure St.Eq(σ σ':St):Prop where
 env:∀k,aC σ'.env k=aC σ.env k
 objs:∀k,ac σ'.objs k=ac σ.objs k
 ro:∀i,i∈σ'.ro↔i∈σ.ro
 n:σ'.n=σ.n
 gl:σ'.gl=σ.gl
theorem St.Eq.refl(σ:St):St.Eq σ σ:=⟨fun _=>rfl,fun _=>rfl,fun _=>Iff.rfl,rfl,rfl⟩
theorem St.Eq.trans{a b c:St}(h:St.Eq a b)(k:St.Eq b c):St.Eq a c:=
 ⟨fun i=>(k.env i).trans (h.env i),fun i=>(k.objs i).trans (h.objs i),fun i=>(k.ro i).trans (h.ro i),k.n.trans h.n,k.gl.trans h.gl⟩

def Ex(P:Program)(σ:St)(o:VOper)(e:Eff):Prop:=xu P σ o.dst e.u o.op/\e.ids=e9 σ o.op e.u/\e.dst=o.dst
def iG:SV->Option (Option Bool)
 |.val (.bool c)=>some (some c)
 |.val (.tuple [])=>some none
 |_=>none
abbrev gd:Upd:={v:=.val (.tuple []) }
def f3(P:Program)(σ:St)(o:VOper)(e:Eff):Prop:=
 match o.guard with
 |none=>Ex P σ o e
 |some (g,b)=>∃c,iG (aC σ.env g)=some c/\((c=some b/\Ex P σ o e)\/(c≠some b/\e=⟨[],o.dst,gd⟩))

def qg(dst:Option Nat)(u:Upd)(id:Nat):Option Ob:=
 match u.new,dst with
 |some o,some d=>if id=d then some (o.erase d)else none
 |_,_=>match u.wr with
  |some (i,o)=>if id=i then some o else none
  |none=>none
def jH(e:Eff)(d:Nat):Prop:=(∃o,e.u.new=some o)/\e.dst=some d

def ez(d:Nat)(σ:St):Prop:=(∀k,(aC σ.env k).noRef d=true)/\∀id o,ac σ.objs id=some o->o.noRef d=true
def sF(d:Nat)(u:Upd):Prop:=u.v.noRef d=true/\(∀i o,u.wr=some (i,o)->o.noRef d=true)/\∀o,u.new=some o->o.noRef d=true

theorem Ae{d:Nat}{v:SV}(h:v.noRef d=true):v.erase d=v:=by unfold SV.erase;rw[h];rfl
theorem xy{d:Nat} : ∀ {l:List SV},SV.noRefs d l=true->gN d l=l
 |[],_=>rfl
 |v::r,h=>by
  simp only[SV.noRefs,Bool.and_eq_true]at h;simp only[gN,Ae h.1,xy h.2]
theorem GO{d:Nat} : ∀ {o:Ob},o.noRef d=true->o.erase d=o
 |.box c,h=>by simp only[Ob.erase];rw[xy h]
 |.arr _ _ _,_=>rfl
 |.iter _ _,_=>rfl

section
variable {σ σ':St}

theorem iq{u:Upd}{o:Ob}{d:Nat}(h:u.new=some o):σ.apply (some d) u=⟨put (dT d σ.env) d u.v,cC d (put σ.objs d o),u.fz++σ.ro,σ.n,σ.gl⟩:=by
 unfold St.apply;rw[h]
theorem ir{u:Upd}{dst:Option Nat}(h:u.new=none\/dst=none):σ.apply dst u=⟨putD σ.env dst u.v,BN σ.objs u.wr,u.fz++σ.ro,σ.n,σ.gl⟩:=by
 unfold St.apply;rcases h with h|h
 ·rw[h]
 ·subst h;cases u.new<;>rfl
theorem qL(u:Upd)(dst:Option Nat):(∃o d,u.new=some o/\dst=some d)\/(u.new=none\/dst=none):=by
 cases u.new with
 |none=>exact .inr (.inl rfl)
 |some o=>cases dst with
  |none=>exact .inr (.inr rfl)
  |some d=>exact .inl ⟨o,d,rfl,rfl⟩
theorem FB{u:Upd}{o:Ob}{d:Nat}(h:u.new=some o)(k:Nat):qg (some d) u k=if k=d then some (o.erase d)else none:=by
 unfold qg;rw[h]
theorem uz{u:Upd}{dst:Option Nat}(h:u.new=none\/dst=none)(k:Nat):qg dst u k=match u.wr with
  |some (i,o)=>if k=i then some o else none
  |none=>none:=by
 unfold qg;rcases h with h|h
 ·rw[h]
 ·subst h;cases u.new<;>rfl

theorem nM{dst:Option Nat}{u:Upd}(h:∀d,(∃o,u.new=some o)->dst=some d->ez d σ)(k:Nat):aC (σ.apply dst u).env k=if dst=some k then u.v else aC σ.env k:=by
 rcases qL u dst with⟨o,d,hn,rfl⟩|ho
 ·rw[iq hn];simp only[ku,oS];by_cases hk:k=d
  ·subst hk;simp
  ·rw[if_neg hk,if_neg (by simpa using fun e=>hk e.symm),Ae ((h d ⟨o,hn⟩ rfl).1 k)]
 ·rw[ir ho];cases dst with
  |none=>simp[putD]
  |some d=>
   simp only[putD,ku];by_cases hk:k=d
   ·subst hk;simp
   ·rw[if_neg hk,if_neg (by simpa using fun e=>hk e.symm)]
theorem lB{dst:Option Nat}{u:Upd}(h:∀d,(∃o,u.new=some o)->dst=some d->ez d σ)(k:Nat):ac (σ.apply dst u).objs k=match qg dst u k with
  |some o=>some o
  |none=>ac σ.objs k:=by
 rcases qL u dst with⟨o,d,hn,rfl⟩|ho
 ·rw[iq hn,FB hn];simp only[bN,gV];by_cases hk:k=d
  ·subst hk;simp
  ·simp only[if_neg hk];cases hl:ac σ.objs k with
   |none=>rfl
   |some y=>
    simp only[Option.map_some];rw[GO ((h d ⟨o,hn⟩ rfl).2 k y hl)]
 ·rw[ir ho,uz ho];cases hw:u.wr with
  |none=>simp[BN]
  |some p=>
   obtain⟨i,o⟩:=p;simp only[BN,gV];by_cases hk:k=i
   ·simp[hk]
   ·simp[hk]
theorem sG{dst:Option Nat}{u:Upd}(i:Nat):i∈(σ.apply dst u).ro↔i∈u.fz\/i∈σ.ro:=by
 rcases qL u dst with⟨o,d,hn,rfl⟩|ho
 ·rw[iq hn];simp
 ·rw[ir ho];simp
theorem qM{dst:Option Nat}{u:Upd} : (σ.apply dst u).n=σ.n:=by
 rcases qL u dst with⟨o,d,hn,rfl⟩|ho
 ·rw[iq hn]
 ·rw[ir ho]

theorem sH{dst:Option Nat}{u:Upd} : (σ.apply dst u).gl=σ.gl:=by
 rcases qL u dst with⟨o,d,hn,rfl⟩|ho
 ·rw[iq hn]
 ·rw[ir ho]

theorem IA(h:St.Eq σ σ')(dst:Option Nat)(u:Upd):St.Eq (σ.apply dst u) (σ'.apply dst u):=by
 refine⟨fun k=>?_,fun k=>?_,fun i=>?_,by rw[qM,qM,h.n],by rw[sH,sH,h.gl]⟩
 ·rcases qL u dst with⟨o,d,hn,rfl⟩|ho
  ·rw[iq hn,iq hn];simp only[ku,oS,h.env]
  ·rw[ir ho,ir ho];cases dst<;>simp[putD,ku,h.env]
 ·rcases qL u dst with⟨o,d,hn,rfl⟩|ho
  ·rw[iq hn,iq hn];simp only[bN,gV,h.objs]
  ·rw[ir ho,ir ho];cases u.wr with
   |none=>simp[BN,h.objs]
   |some p=>simp[BN,gV,h.objs]
 ·rw[sG,sG,h.ro]

theorem ez.apply{d:Nat}(h:ez d σ){dst:Option Nat}{u:Upd}(hu:sF d u):ez d (σ.apply dst u):=by
 have er:∀(d':Nat) (v:SV),v.noRef d=true->(v.erase d').noRef d=true:=by
  intro d' v hv;unfold SV.erase;cases v.noRef d'
  ·rfl
  ·exact hv
 have erl:∀(d':Nat) (l:List SV),SV.noRefs d l=true->SV.noRefs d (gN d' l)=true:=by
  intro d' l
  induction l with
  |nil=>intro _;rfl
  |cons v r ih=>
   intro hl;simp only[SV.noRefs,Bool.and_eq_true]at hl;simp only[gN,SV.noRefs,Bool.and_eq_true];exact⟨er d' v hl.1,ih hl.2⟩
 have ero:∀(d':Nat) (o:Ob),o.noRef d=true->(o.erase d').noRef d=true:=by
  intro d' o ho;cases o with
  |box c=>exact erl d' c ho
  |arr=>rfl
  |iter=>rfl
 rcases qL u dst with⟨o',d',hn,rfl⟩|ho
 ·rw[iq hn];constructor
  ·intro k;simp only[ku,oS];split
   ·exact hu.1
   ·exact er _ _ (h.1 k)
  ·intro id o ho;simp only[bN,gV]at ho;split at ho
   ·simp only[Option.map_some,E_]at ho;subst ho;exact ero _ _ (hu.2.2 _ hn)
   ·cases hl:ac σ.objs id with
    |none=>rw[hl]at ho;simp at ho
    |some y=>
     rw[hl]at ho;simp only[Option.map_some,E_]at ho;subst ho;exact ero _ _ (h.2 _ _ hl)
 ·rw[ir ho];constructor
  ·intro k;cases dst with
   |none=>exact h.1 k
   |some d'=>
    simp only[putD,ku];split
    ·exact hu.1
    ·exact h.1 k
  ·intro id o ho;cases hw:u.wr with
   |none=>rw[hw]at ho;exact h.2 id o ho
   |some p=>
    obtain⟨i,x⟩:=p;rw[hw]at ho;simp only[BN,gV]at ho;split at ho
    ·obtain rfl:=O_ ho;exact hu.2.1 _ _ hw
    ·exact h.2 id o ho
end

def VOper.slots(o:VOper):List Nat:=(o.op.opds.filterMap fun|.tmp t=>some t|_=>none)++(match o.guard with|some (g,_)=>[g]|none=>[])
def LT(a b:VOper):Prop:=(∀d,a.dst=some d->d∉b.slots/\b.dst≠some d)/\∀d,b.dst=some d->d∉a.slots

def Af(x y:Eff):Prop:=(∀id,qg x.dst x.u id≠none->id∉y.ids/\qg y.dst y.u id=none)/\∀id o,y.u.wr=some (id,o)->id∉x.u.fz

section
variable {P:Program} {σ σ':St}

theorem N7{op:VOp}(hgl:σ'.gl=σ.gl)(h:∀t,t∈(op.opds.filterMap fun|.tmp t=>some t|_=>none)->aC σ'.env t=aC σ.env t):∀x∈op.opds,val σ' x=val σ x:=by
 intro x hx;cases x with
 |tmp t=>exact h t (List.mem_filterMap.2 ⟨.tmp t,hx,rfl⟩)
 |const v=>rfl
 |func f=>rfl
 |glob g=>simp only[val,hgl]

theorem C5{o:VOper}{e:Eff}(hgl:σ'.gl=σ.gl)(h:f3 P σ o e)(hs:∀t,t∈o.slots->aC σ'.env t=aC σ.env t)(hl:∀i,i∈e.ids->ac σ'.objs i=ac σ.objs i)(hro:∀id x,e.u.wr=some (id,x)->id∈σ'.ro->id∈σ.ro):f3 P σ' o e:=by
 have act:Ex P σ o e->Ex P σ' o e:=by
  rintro⟨h1,h2,h3⟩;have hv:=N7 (op:=o.op) (σ:=σ) (σ':=σ') hgl (fun t ht=>hs t (List.mem_append_left _ ht));obtain⟨k1,k2⟩:=N6 (σ':=σ') hgl h1 hv (fun i hi=>hl i (by rw[h2];exact hi)) hro;exact⟨k1,by rw[k2];exact h2,h3⟩
 unfold f3 at h |-;cases hg:o.guard with
 |none=>rw[hg]at h;exact act h
 |some p=>
  obtain⟨g,b⟩:=p;rw[hg]at h;obtain⟨c,h1,h2⟩:=h;refine⟨c,?_,h2.imp (fun h3=>⟨h3.1,act h3.2⟩) id⟩;rw[hs g (by simp[VOper.slots,hg])];exact h1
theorem KE{o:VOper}{e:Eff}(hq:St.Eq σ σ')(h:f3 P σ o e):f3 P σ' o e:=
 C5 hq.gl h (fun t _=>hq.env t) (fun i _=>hq.objs i) (fun _ _ _ hi=>(hq.ro _).1 hi)
theorem IB{o:VOper}{e:Eff}(h:f3 P σ o e):e.dst=o.dst:=by
 unfold f3 at h;split at h
 ·exact h.2.2
 ·obtain⟨c,_,h|h⟩:=h
  ·exact h.2.2.2
  ·rw[h.2]

theorem N8{a b:VOper}{x y:Eff}(ha:f3 P σ a x)(hb:f3 P (σ.apply x.dst x.u) b y)(hap:LT a b)(h1:Af x y)(h2:Af y x)
  (na:∀d,jH x d->ez d σ/\sF d y.u) (nb:∀d,jH y d->ez d σ/\sF d x.u) :
  f3 P σ b y/\f3 P (σ.apply y.dst y.u) a x/\St.Eq ((σ.apply x.dst x.u).apply y.dst y.u) ((σ.apply y.dst y.u).apply x.dst x.u):=by
 have da:=IB ha;have db:=IB hb;have ca:∀d,(∃o,x.u.new=some o)->x.dst=some d->ez d σ:=fun d h k=>(na d ⟨h,k⟩).1
 have cb:∀d,(∃o,y.u.new=some o)->y.dst=some d->ez d σ:=fun d h k=>(nb d ⟨h,k⟩).1
 have ca':∀d,(∃o,x.u.new=some o)->x.dst=some d->ez d (σ.apply y.dst y.u):=fun d h k=>(na d ⟨h,k⟩).1.apply (na d ⟨h,k⟩).2
 have cb':∀d,(∃o,y.u.new=some o)->y.dst=some d->ez d (σ.apply x.dst x.u):=fun d h k=>(nb d ⟨h,k⟩).1.apply (nb d ⟨h,k⟩).2
 refine⟨?_,?_,?_⟩
 ·refine C5 (by simp only[sH]) hb (fun t ht=>?_) (fun i hi=>?_) (fun id o _ hi=>(sG id).2 (.inr hi))
  ·rw[nM ca,if_neg];intro e;rw[da]at e;exact(hap.1 t e).1 ht
  ·rw[lB ca];cases hw:qg x.dst x.u i with
   |none=>rfl
   |some o=>exact absurd hi (h1.1 i (by rw[hw];simp)).1
 ·refine C5 (by simp only[sH]) ha (fun t ht=>?_) (fun i hi=>?_) (fun id o hw hi=>?_)
  ·rw[nM cb,if_neg];intro e;rw[db]at e;exact hap.2 t e ht
  ·rw[lB cb];cases hw:qg y.dst y.u i with
   |none=>rfl
   |some o=>exact absurd hi (h2.1 i (by rw[hw];simp)).1
  ·rcases(sG id).1 hi with h|h
   ·exact absurd h (h2.2 id o hw)
   ·exact h
 ·refine⟨fun k=>?_,fun k=>?_,fun i=>?_,by simp only[qM],by simp only[sH]⟩
  ·rw[nM ca',nM cb,nM cb',nM ca];by_cases e1:x.dst=some k<;>by_cases e2:y.dst=some k
   ·exfalso;rw[da]at e1;rw[db]at e2;exact(hap.1 k e1).2 e2
   ·simp[e1,e2]
   ·simp[e1,e2]
   ·simp[e1,e2]
  ·rw[lB ca',lB cb,lB cb',lB ca];cases hx:qg x.dst x.u k with
   |none=>cases hy:qg y.dst y.u k<;>rfl
   |some o=>rw[(h1.1 k (by rw[hx];simp)).2]
  ·simp only[sG];constructor
   ·rintro(h|h|h)
    ·exact .inr (.inl h)
    ·exact .inl h
    ·exact .inr (.inr h)
   ·rintro(h|h|h)
    ·exact .inr (.inl h)
    ·exact .inl h
    ·exact .inr (.inr h)
end

structure Item1 where
 i:Nat
 o:VOper
 e:Eff

def zm(P:Program):List Item1->St->St->Prop
 |[],σ,σf=>St.Eq σ σf
 |p::r,σ,σf=>f3 P σ p.o p.e/\zm P r (σ.apply p.e.dst p.e.u) σf

section
variable {P:Program}
theorem C6:∀ {l:List Item1} {σ σ' σf:St},St.Eq σ σ'->zm P l σ σf->zm P l σ' σf
 |[],_,_,_,hq,h=>⟨fun k=>(h.env k).trans (hq.env k).symm,fun k=>(h.objs k).trans (hq.objs k).symm,fun i=>(h.ro i).trans (hq.ro i).symm,h.n.trans hq.n.symm,h.gl.trans hq.gl.symm⟩
 |_::_,_,_,_,hq,h=>⟨KE hq h.1,C6 (IA hq _ _) h.2⟩

structure Free(x p:Item1):Prop where
 apart:LT p.o x.o
 one:Af p.e x.e
 two:Af x.e p.e

theorem FC{x:Item1}{B:List Item1} : ∀ {A:List Item1} {σ σf:St},zm P (A++x::B) σ σf->(∀p∈A,Free x p)->
  (∀p∈A++x::B,∀d,jH p.e d->ez d σ)->(∀p∈A,∀d,jH p.e d->sF d x.e.u)->
  (A.Pairwise fun p q=>∀d,jH q.e d->sF d p.e.u)->(∀p∈A,∀q∈x::B,∀d,jH q.e d->sF d p.e.u)->
  zm P (x::(A++B)) σ σf
 |[],_,_,h,_,_,_,_,_=>h
 |p::A,σ,σf,h,hf,hg,h1,h2,h3=>by
  obtain⟨hp,hr⟩:=h;have h2':=List.pairwise_cons.1 h2
  have ih:=FC (A:=A) hr (fun q hq=>hf q (List.mem_cons_of_mem _ hq)) (fun q hq d hc=>by
   refine(hg q (List.mem_cons_of_mem _ hq) d hc).apply ?_;rcases List.mem_append.1 hq with hq'|hq'
   ·exact h2'.1 q hq' d hc
   ·exact h3 p (by simp) q hq' d hc) (fun q hq=>h1 q (List.mem_cons_of_mem _ hq)) h2'.2 (fun q hq=>h3 q (List.mem_cons_of_mem _ hq))
  obtain⟨hx,hr'⟩:=ih;have hfp:=hf p (by simp)
  obtain⟨s1,s2,s3⟩:=N8 hp hx hfp.apart hfp.one hfp.two (fun d hc=>⟨hg p (by simp) d hc,h1 p (by simp) d hc⟩)
   (fun d hc=>⟨hg x (by simp) d hc,h3 p (by simp) x (by simp) d hc⟩)
  exact⟨s1,s2,C6 s3 hr'⟩
end
end Go.Vs
set_option linter.unusedVariables false
set_option linter.unusedSimpArgs false
namespace Go.Vs

theorem P8{P:Program}{σ:St}{dst:Option Nat}{op:VOp}{u:Upd}(hu:xu P σ dst u op):u.fz≠[]->op.acts=true:=by
 cases op
 case call=>exact fun _=>rfl
 case callV=>exact fun _=>rfl
 case store=>exact fun _=>rfl
 case subV=>exact fun _=>rfl
 case subA=>exact fun _=>rfl
 case buildSlice=>exact fun _=>rfl
 case append=>exact fun _=>rfl
 all_goals
  have hu:=hu.1;refine fun h=>?_
  exfalso;apply h;simp only[ev,pq,wC,MQ,MR]at hu
  first
   |(obtain rfl:=O_ hu;rfl)
   |((repeat' split at hu)<;>first|(simp at hu;done)|(obtain rfl:=O_ hu;rfl))

def Eff.wids(e:Eff):List Nat:=match e.u.new,e.dst with
 |some _,some d=>[d]
 |_,_=>match e.u.wr with
  |some (i,_)=>[i]
  |none=>[]
def Eff.newId(e:Eff):Option Nat:=match e.u.new,e.dst with
 |some _,some d=>some d
 |_,_=>none
def UN(a b:List Nat):Bool:=a.all fun i=>!b.contains i
def GP(x y:Eff):Bool:=UN x.wids y.ids&&UN x.wids y.wids&&(match y.u.wr with
 |some (i,_)=>!x.u.fz.contains i
 |none=>true)
def GQ(d:Nat)(u:Upd):Bool:=u.v.noRef d&&(match u.wr with
 |some (_,o)=>o.noRef d
 |none=>true)&&(match u.new with
 |some o=>o.noRef d
 |none=>true)

theorem C7{e:Eff}{id:Nat}(h:qg e.dst e.u id≠none):id∈e.wids:=by
 unfold Eff.wids;rcases qL e.u e.dst with⟨o,d,hn,hd⟩|ho
 ·rw[hd,FB hn]at h;rw[hn,hd];by_cases hi:id=d
  ·subst hi;simp
  ·rw[if_neg hi]at h;exact absurd rfl h
 ·rw[uz ho]at h
  have hw:id∈(match e.u.wr with|some (i,_)=>[i]|none=>([]:List Nat)):=by
   cases hw:e.u.wr with
   |none=>rw[hw]at h;exact absurd rfl h
   |some p=>
    obtain⟨i,x⟩:=p;rw[hw]at h;by_cases hi:id=i
    ·subst hi;simp
    ·simp[hi]at h
  split
  ·next h1 h2=>
   exfalso;rcases ho with ho|ho
   ·rw[ho]at h1;simp at h1
   ·rw[ho]at h2;simp at h2
  ·exact hw
theorem Ah{x y:Eff}(h:GP x y=true):Af x y:=by
 unfold GP UN at h;simp only[Bool.and_eq_true,List.all_eq_true]at h;obtain⟨⟨h1,h2⟩,h3⟩:=h;refine⟨fun id hw=>?_,fun id o hw hi=>?_⟩
 ·have hm:=C7 hw;refine⟨by simpa using h1 id hm,?_⟩;cases hy:qg y.dst y.u id with
  |none=>rfl
  |some o=>exact absurd (C7 (e:=y) (id:=id) (by rw[hy];simp)) (by simpa using h2 id hm)
 ·rw[hw]at h3;simp only[Bool.not_eq_true',List.contains_iff_mem,Bool.eq_false_iff,ne_eq]at h3;exact h3 hi
theorem GR{d:Nat}{u:Upd}(h:GQ d u=true):sF d u:=by
 unfold GQ at h;simp only[Bool.and_eq_true]at h;obtain⟨⟨h1,h2⟩,h3⟩:=h;refine⟨h1,fun i o ho=>?_,fun o ho=>?_⟩
 ·rw[ho]at h2;exact h2
 ·rw[ho]at h3;exact h3

def lC(P:Program)(K:List Eff->St->Prop):List VOper->St->List Eff->Prop
 |[],σ,es=>K es σ
 |o::r,σ,es=>match o.guard with
  |none=>cT P σ o.dst (fun u=>lC P K r (σ.apply o.dst u) (es++[⟨e9 σ o.op u,o.dst,u⟩])) o.op
  |some (g,b)=>match iG (aC σ.env g)with
   |some c=>(c=some b->cT P σ o.dst (fun u=>lC P K r (σ.apply o.dst u) (es++[⟨e9 σ o.op u,o.dst,u⟩])) o.op)/\
     (¬c=some b->lC P K r (σ.apply o.dst gd) (es++[⟨[],o.dst,gd⟩]))
   |none=>False

def jp(P:Program):List VOper->St->List Eff->St->Prop
 |[],σ,es,σf=>es=[]/\σf=σ
 |o::r,σ,es,σf=>∃e es',es=e::es'/\f3 P σ o e/\jp P r (σ.apply e.dst e.u) es' σf

theorem wJ{P:Program}{K:List Eff->St->Prop} : ∀ {l:List VOper} {σ:St} {es:List Eff},lC P K l σ es->∃es' σf,jp P l σ es' σf/\K (es++es') σf
 |[],σ,es,h=>⟨[],σ,⟨rfl,rfl⟩,by rw[List.append_nil];exact h⟩
 |o::r,σ,es,h=>by
  simp only[lC]at h
  have act:cT P σ o.dst (fun u=>lC P K r (σ.apply o.dst u) (es++[⟨e9 σ o.op u,o.dst,u⟩])) o.op->
    ∃e es' σf,Ex P σ o e/\jp P r (σ.apply e.dst e.u) es' σf/\K (es++e::es') σf:=by
   intro h1;obtain⟨u,hu,hr⟩:=Bs h1;obtain⟨es',σf,h2,h3⟩:=wJ hr;exact⟨⟨e9 σ o.op u,o.dst,u⟩,es',σf,⟨hu,rfl,rfl⟩,h2,by simpa using h3⟩
  split at h
  ·next hg=>
   obtain⟨e,es',σf,h1,h2,h3⟩:=act h;exact⟨e::es',σf,⟨e,es',rfl,by unfold f3;rw[hg];exact h1,h2⟩,h3⟩
  ·next g b hg=>
   split at h
   ·next c hc=>
    by_cases hcb:c=some b
    ·obtain⟨e,es',σf,h1,h2,h3⟩:=act (h.1 hcb);exact⟨e::es',σf,⟨e,es',rfl,by unfold f3;rw[hg];exact⟨c,hc,.inl ⟨hcb,h1⟩⟩,h2⟩,h3⟩
    ·obtain⟨es',σf,h2,h3⟩:=wJ (h.2 hcb);exact⟨⟨[],o.dst,gd⟩::es',σf,⟨_,es',rfl,by unfold f3;rw[hg];exact⟨c,hc,.inr ⟨hcb,rfl⟩⟩,h2⟩,by simpa using h3⟩
   ·exact h.elim

def sI(σ:St)(fJ makes:List (Nat×Nat))(es:List Eff):Bool:=
 fJ.all (fun p=>match es[p.1]?,es[p.2]? with
  |some x,some y=>GP x y&&GP y x
  |_,_=>false) &&
 makes.all (fun p=>match es[p.1]?,es[p.2]? with
  |some x,some y=>match y.newId with
   |some d=>GQ d x.u
   |none=>true
  |_,_=>false) &&
 es.all (fun e=>match e.newId with
  |some d=>zg d σ.env&&zh d σ.objs
  |none=>true)

section
variable {P:Program}

def iB:Nat->List VOper->List Eff->List Item1
 |_,[],_=>[]
 |_,_::_,[]=>[]
 |i,o::r,e::es=>⟨i,o,e⟩::iB (i+1) r es
theorem ge:∀ {l:List VOper} {σ σf:St} {es:List Eff} (i:Nat),jp P l σ es σf->zm P (iB i l es) σ σf/\(iB i l es).map (·.i)=List.range' i l.length/\es.length=l.length
 |[],σ,σf,es,i,⟨h1,h2⟩=>by subst h1;subst h2;exact⟨St.Eq.refl _,rfl,rfl⟩
 |o::r,σ,σf,es,i,⟨e,es',h1,h2,h3⟩=>by
  subst h1;obtain⟨k1,k2,k3⟩:=ge (i+1) h3;exact⟨⟨h2,k1⟩,by simp[iB,k2,List.range'_succ],by simp[k3]⟩
theorem zn:∀ {l:List VOper} {es:List Eff} {i:Nat} {p:Item1},es.length=l.length->p∈iB i l es->i<=p.i/\l[p.i-i]?=some p.o/\es[p.i-i]?=some p.e
 |[],_,_,_,_,h=>by simp[iB]at h
 |_::_,[],_,_,hl,_=>by simp at hl
 |o::r,e::es,i,p,hl,h=>by
  simp only[iB,List.mem_cons]at h;rcases h with rfl|h
  ·simp
  ·obtain⟨h1,h2,h3⟩:=zn (by simpa using hl) h;refine⟨by omega,?_,?_⟩
   ·rw[show p.i-i=(p.i-(i+1))+1 by omega];simpa using h2
   ·rw[show p.i-i=(p.i-(i+1))+1 by omega];simpa using h3

theorem C8(acc:Array Nat):∀(es:List Edge) (s:Nat) (b:Nat),(es.foldl (fun s e=>if Region.binds .any e then s ||| 2 ^ e.on ||| acc.getD e.on 0 else s) s).testBit b=true->
  s.testBit b=true\/∃e∈es,Region.binds .any e=true/\(b=e.on\/(acc.getD e.on 0).testBit b=true)
 |[],s,b,h=>.inl h
 |e::es,s,b,h=>by
  simp only[List.foldl_cons]at h;rcases C8 acc es _ b h with h|⟨e',he',h1,h2⟩
  ·split at h
   ·next hb=>
    simp only[Nat.testBit_or,Bool.or_eq_true,Nat.testBit_two_pow,decide_eq_true_eq]at h;rcases h with(h|h)|h
    ·exact .inl h
    ·exact .inr ⟨e,by simp,hb,.inl h.symm⟩
    ·exact .inr ⟨e,by simp,hb,.inr h⟩
   ·exact .inl h
  ·exact .inr ⟨e',List.mem_cons_of_mem _ he',h1,h2⟩

theorem Ai:∀(l:List Oper) (acc:Array Nat),
  (l.foldl (fun acc o=>acc.push (o.after.foldl (fun s e=>if Region.binds .any e then s ||| 2 ^ e.on ||| acc.getD e.on 0 else s) 0)) acc).size=acc.size+l.length/\
  (∀j,j<acc.size->(l.foldl (fun acc o=>acc.push (o.after.foldl (fun s e=>if Region.binds .any e then s ||| 2 ^ e.on ||| acc.getD e.on 0 else s) 0)) acc).getD j 0=acc.getD j 0)/\
  ∀j o,l[j]?=some o->∀b,((l.foldl (fun acc o=>acc.push (o.after.foldl (fun s e=>if Region.binds .any e then s ||| 2 ^ e.on ||| acc.getD e.on 0 else s) 0)) acc).getD (acc.size+j) 0).testBit b=true->
   ∃e∈o.after.toList,Region.binds .any e=true/\(b=e.on\/((l.foldl (fun acc o=>acc.push (o.after.foldl (fun s e=>if Region.binds .any e then s ||| 2 ^ e.on ||| acc.getD e.on 0 else s) 0)) acc).getD e.on 0).testBit b=true)
 |[],acc=>by simp
 |o::l,acc=>by
  simp only[List.foldl_cons];generalize hv:(o.after.foldl (fun s e=>if Region.binds .any e then s ||| 2 ^ e.on ||| acc.getD e.on 0 else s) 0)=v;obtain⟨h1,h2,h3⟩:=Ai l (acc.push v);refine⟨by rw[h1];simp;omega,fun j hj=>?_,fun j p hp b hb=>?_⟩
  ·rw[h2 j (by simp;omega)];simp[Array.getD,hj,Nat.lt_succ_of_lt hj,Array.getElem_push_lt hj]
  ·cases j with
   |zero=>
    simp only[List.getElem?_cons_zero,E_]at hp;subst hp;rw[Nat.add_zero,h2 acc.size (by simp)]at hb;have hv':(acc.push v).getD acc.size 0=v:=by simp[Array.getD]
    rw[hv',<-hv,<-Array.foldl_toList]at hb;rcases C8 acc _ _ _ hb with h|⟨e,he,hbd,h⟩
    ·simp at h
    ·refine⟨e,he,hbd,h.imp id (fun h=>?_)⟩
     have hlt:e.on<acc.size:=by
      rcases Nat.lt_or_ge e.on acc.size with hh|hh
      ·exact hh
      ·rw[Array.getD,dif_neg (by omega)]at h;simp at h
     rw[h2 e.on (by simp;omega)];have:(acc.push v).getD e.on 0=acc.getD e.on 0:=by simp[Array.getD,hlt,Nat.lt_succ_of_lt hlt,Array.getElem_push_lt hlt]
     rw[this];exact h
   |succ j=>
    have:=h3 j p (by simpa using hp) b (by
     rw[Array.size_push,show acc.size+1+j=acc.size+(j+1) by omega];exact hb)
    exact this

theorem Aj{ops:Array Oper}{j:Nat}{o:Oper}(ho:ops[j]?=some o){b:Nat}(hb:((Region.before ops).getD j 0).testBit b=true) :
  ∃e∈o.after.toList,Region.binds .any e=true/\(b=e.on\/((Region.before ops).getD e.on 0).testBit b=true):=by
 have:=(Ai ops.toList #[]).2.2 j o (by simpa using ho) b;unfold Region.before at hb |-;rw[<-Array.foldl_toList]at hb |-;simp only[Array.size_empty,Nat.zero_add]at this;exact this hb

theorem uV{ops:Array Oper}{listed:Array Bool}(hup:∀j o,ops[j]?=some o->∀e∈o.after.toList,Region.binds .any e=true->e.on<j)
  (hcl:∀j o,ops[j]?=some o->listed.getD j false=true->∀e∈o.after.toList,Region.binds .any e=true->listed.getD e.on false=true) :
  ∀(n j:Nat) (o:Oper),j<n->ops[j]?=some o->(∀e∈o.after.toList,Region.binds .any e=true->listed.getD e.on false=true)->∀b,((Region.before ops).getD j 0).testBit b=true->listed.getD b false=true:=by
 intro n
 induction n with
 |zero=>intro j o h;omega
 |succ n ih=>
  intro j o hj ho hl b hb;obtain⟨e,he,hbd,h⟩:=Aj ho hb;have h1:=hl e he hbd;rcases h with rfl|h
  ·exact h1
  ·have hlt:=hup j o ho e he hbd;cases hoe:ops[e.on]? with
   |none=>
    exfalso
    have:ops.size<=e.on:=by
     rcases Nat.lt_or_ge e.on ops.size with hh|hh
     ·simp[hh]at hoe
     ·exact hh
    have hjs:j<ops.size:=by
     rcases Nat.lt_or_ge j ops.size with hh|hh
     ·exact hh
     ·simp[Array.getElem?_eq_none hh]at ho
    omega
   |some o'=>exact ih e.on o' (by omega) hoe (fun e' he' hb'=>hcl e.on o' hoe h1 e' he' hb') b h
end
end Go.Vs
set_option linter.unusedVariables false
set_option linter.unusedSimpArgs false
namespace Go.Vs

section
variable {P:Program} {w0:World} {S0:aO} {M:Ctx}

theorem cE.congr{σ σ':St}{a:Act}{w:World}(hq:St.Eq σ σ')(h:cE w0 S0 M σ a w):cE w0 S0 M σ' a w:=by
 obtain⟨S,μ,β,h⟩:=h;exact⟨S,μ,β,h.drop hq.n hq.gl (fun i _ _ hi=>(hq.ro i).2 hi) (fun k=>.inr (hq.env k)) (fun id o ho=>by rw[<-hq.objs];exact ho)⟩

theorem cQ{ops:Array Oper} : ∀ {l:List Oper} {vs:List VOper},bO P ops l=some vs->vs.length=l.length/\∀(i:Nat) (o:Oper),l[i]?=some o->∃v,vs[i]?=some v/\gW P ops o=some v
 |[],vs,h=>by
  simp only[bO,E_]at h;subst h;exact⟨rfl,by simp⟩
 |o::r,vs,h=>by
  simp only[bO]at h;split at h
  ·next v vs' h1 h2=>
   obtain rfl:=O_ h;obtain⟨k1,k2⟩:=cQ h2;refine⟨by simp[k1],fun i o' ho=>?_⟩;cases i with
   |zero=>simp at ho;subst ho;exact⟨v,rfl,h1⟩
   |succ i=>simpa using k2 i o' (by simpa using ho)
  ·simp at h

theorem eE{ops:Array Oper}{o:Oper}{v:VOper}(h:gW P ops o=some v):v.dst=o.dst/\lr P o.op=some v.op/\gb ops o.guard=some v.guard:=by
 unfold gW at h;split at h
 ·next x g h1 h2=>
  obtain rfl:=O_ h;exact⟨rfl,h1,h2⟩
 ·simp at h

theorem qN{ops:Array Oper}{j d:Nat}(hd:(ops[j]?).bind (·.dst)=some d){σ:St}{a:Act}{w:World}(h:cE w0 S0 M σ a w){c:Option Bool}(hc:iG (aC σ.env d)=some c):yielded ops a.tmps j=c:=by
 obtain⟨S,μ,β,h'⟩:=h;have hrel:=h'.env d;unfold iG at hc;split at hc
 ·next c' he=>
  rw[he]at hrel;obtain rfl:=O_ hc;have hrel:a.tmps.getD d Go.undef=.bool c':=hrel
  have ht:a.tmps[d]?=some (.bool c'):=by
   rcases Nat.lt_or_ge d a.tmps.size with hh|hh
   ·simp[hh]at hrel |-;exact hrel
   ·rw[Array.getD,dif_neg (by omega)]at hrel;simp[Go.undef]at hrel
  unfold yielded;rw[hd,Option.bind_some,ht]
 ·next he=>
  rw[he]at hrel;obtain rfl:=O_ hc;have hrel:∃vs,a.tmps.getD d Go.undef=.tuple vs/\bc w S [] vs.toList:=hrel;obtain⟨vs,hrel,_⟩:=hrel;unfold yielded;rw[hd,Option.bind_some];rcases Nat.lt_or_ge d a.tmps.size with hh|hh
  ·have ht:a.tmps[d]?=some (.tuple vs):=by simp[hh]at hrel |-;exact hrel
   rw[ht]
  ·rw[Array.getElem?_eq_none hh]
 ·simp at hc

theorem KF{ops:Array Oper}{i:Nat}{o:Oper}{v:VOper}(ho:ops[i]?=some o)(hv:gW P ops o=some v){σ:St}{a:Act}{w:World}(h:cE w0 S0 M σ a w)(hd:∀d,v.dst=some d->d<σ.n){e:Eff}(hs:f3 P σ v e)
  {Q:Exit->Act->World->Prop} {K:Act->World->Prop} (hK:∀a' w',cE w0 S0 M (σ.apply e.dst e.u) a' w'->K a' w'):wpOp P ops Q i K a w:=by
 obtain⟨hdst,hop,hg⟩:=eE hv
 have run:Ex P σ v e->o.wp P a w K Q:=by
  rintro⟨h1,h2,h3⟩;refine Iy h (fun d hd'=>hd d (by rw[hdst];exact hd')) hop (u:=e.u) (by rw[<-hdst];exact h1) (fun val w' hs'=>hK _ _ ?_);rw[h3,hdst];exact hs'
 unfold wpOp;rw[ho];dsimp only;cases hgo:o.guard with
 |none=>
  have:v.guard=none:=by rw[hgo]at hg;simpa[gb]using hg.symm
  unfold f3 at hs;rw[this]at hs;have hw:Region.wanted o (yielded ops a.tmps)=true:=by simp[Region.wanted,hgo]
  rw[if_pos hw];exact .inl (run hs)
 |some p=>
  obtain⟨j,b⟩:=p;rw[hgo]at hg;simp only[gb]at hg;split at hg
  ·next d hd'=>
   have hvg:v.guard=some (d,b):=by simpa using hg.symm
   unfold f3 at hs;rw[hvg]at hs;obtain⟨c,hc,hcase⟩:=hs;have hy:yielded ops a.tmps j=c:=qN hd' h hc;have hw:Region.wanted o (yielded ops a.tmps)=(c==some b):=by simp[Region.wanted,hgo,hy]
   rw[hw];rcases hcase with⟨hcb,hact⟩|⟨hcb,he⟩
   ·rw[if_pos (by simpa using hcb)];exact .inl (run hact)
   ·rw[if_neg (by simpa using hcb)];subst he;refine hK _ _ ?_;obtain⟨S,μ,β,h'⟩:=h;rw[<-hdst];exact⟨S,μ,β,h'.putD (sv:=.val (.tuple [])) hd ⟨#[],rfl,rfl⟩⟩
  ·simp at hg

def sa:Opd->Option Nat
 |.tmp t=>some t
 |_=>none
def sb:Operand->Option Nat
 |.tmp t=>some t
 |_=>none
theorem nW{x:Operand}{y:Opd}(h:ai x=some y):sb x=sa y:=by
 cases x with
 |tmp t=>simp only[ai,E_]at h;subst h;rfl
 |const v=>simp only[ai,Option.map_eq_some_iff]at h;obtain⟨s,_,rfl⟩:=h;rfl
 |global g=>simp only[ai,E_]at h;subst h;rfl
 |func f=>simp only[ai,E_]at h;subst h;rfl
theorem xz:∀ {xs:List Operand} {ys:List Opd},cP xs=some ys->∀y∈ys,∃x∈xs,sb x=sa y
 |[],ys,h=>by simp only[cP,E_]at h;subst h;simp
 |x::r,ys,h=>by
  simp only[cP]at h;split at h
  ·next u us h1 h2=>
   obtain rfl:=O_ h;intro y hy;rcases List.mem_cons.1 hy with rfl|hy
   ·exact⟨x,by simp,nW h1⟩
   ·obtain⟨z,hz,he⟩:=xz h2 y hy;exact⟨z,List.mem_cons_of_mem _ hz,he⟩
  ·simp at h
theorem KG{x:Option Operand}{y:Option Opd}(h:bG x=some y):∀z∈y.toList,∃u∈x.toList,sb u=sa z:=by
 cases x with
 |none=>simp only[bG,E_]at h;subst h;simp
 |some x=>
  simp only[bG,Option.map_eq_some_iff]at h;obtain⟨z,h1,rfl⟩:=h;intro u hu;simp only[Option.toList_some,List.mem_singleton]at hu;subst hu;exact⟨x,by simp,nW h1⟩
theorem C9{place:Nat->Option (Nat×Nat)} : ∀ {xs:List (Nat×Operand)} {ys:List (Nat×Nat×Opd)},eu place xs=some ys->∀y∈ys.map (·.2.2),∃x∈xs.map (·.2),sb x=sa y
 |[],ys,h=>by simp only[eu,E_]at h;subst h;simp
 |(i,x)::r,ys,h=>by
  simp only[eu]at h;split at h
  ·next o s u us _ h1 h2=>
   obtain rfl:=O_ h;intro y hy;simp only[List.map_cons,List.mem_cons]at hy;rcases hy with rfl|hy
   ·exact⟨x,by simp,nW h1⟩
   ·obtain⟨z,hz,he⟩:=C9 h2 y hy;exact⟨z,by simp only[List.map_cons];exact List.mem_cons_of_mem _ hz,he⟩
  ·simp at h

theorem dR{x:Operand}{x':Opd}(h:ai x=some x'){l:List Operand}(hx:x∈l):∀y∈[x'],∃z∈l,sb z=sa y:=by
 intro y hy;simp only[List.mem_singleton]at hy;subst hy;exact⟨x,hx,nW h⟩
theorem jI{x z:Operand}{x' z':Opd}(h:ai x=some x')(k:ai z=some z'){l:List Operand}(hx:x∈l)(hz:z∈l):∀y∈[x',z'],∃z∈l,sb z=sa y:=by
 intro y hy;simp only[List.mem_cons,List.not_mem_nil,or_false]at hy;rcases hy with rfl|rfl
 ·exact⟨x,hx,nW h⟩
 ·exact⟨z,hz,nW k⟩

theorem Ey{c:Call}{vo:VOp}(h:kw P c=some vo):∀y∈vo.opds,∃x∈c.operands.toList,sb x=sa y:=by
 have hin:∀x,x∈c.args.toList->x∈c.operands.toList:=by
  intro x hx;simp only[Call.operands,Array.toList_append,List.mem_append];exact .inr hx
 unfold kw at h;split at h
 ·split at h
  ·split at h
   ·simp at h
   ·simp only[Option.map_eq_some_iff]at h;obtain⟨ys,hy,rfl⟩:=h;intro y hyy;obtain⟨x,hx,he⟩:=xz hy y hyy;exact⟨x,hin x hx,he⟩
  ·simp at h
 ·next f _ hf=>
  split at h
  ·next u vs hu hv=>
   obtain rfl:=O_ h;intro y hy;simp only[VOp.opds,List.mem_cons]at hy;rcases hy with rfl|hy
   ·exact⟨f,by simp[Call.operands,hf],nW hu⟩
   ·obtain⟨x,hx,he⟩:=xz hv y hy;exact⟨x,hin x hx,he⟩
  ·simp at h
 ·split at h
  ·next t x _ hal=>
   have hx0:=hin x (by rw[hal];simp)
   split at h<;>first
    |(simp at h;done)
    |(next hx=>obtain rfl:=O_ h;exact dR hx hx0)
  ·simp at h
 ·split at h
  ·next t x _ hal=>
   have hx0:=hin x (by rw[hal];simp)
   split at h<;>first
    |(simp at h;done)
    |(next hx=>obtain rfl:=O_ h;exact dR hx hx0)
  ·simp at h
 ·split at h
  ·next x y hal=>
   split at h
   ·next x' y' hx hy=>
    obtain rfl:=O_ h;exact jI hx hy (hin x (by rw[hal];simp)) (hin y (by rw[hal];simp))
   ·simp at h
  ·simp at h
 ·split at h
  ·next x y hal=>
   split at h
   ·next x' y' hx hy=>
    obtain rfl:=O_ h;exact jI hx hy (hin x (by rw[hal];simp)) (hin y (by rw[hal];simp))
   ·simp at h
  ·simp at h
 ·split at h
  ·next t t' x y _ _ hal=>
   split at h
   ·next e e' x' y' _ _ hx hy=>
    split at h
    ·split at h
     ·obtain rfl:=O_ h;exact jI hx hy (hin x (by rw[hal];simp)) (hin y (by rw[hal];simp))
     ·simp at h
    ·simp at h
   ·next e x' y' _ _ hx hy=>
    split at h
    ·split at h
     ·obtain rfl:=O_ h;exact jI hx hy (hin x (by rw[hal];simp)) (hin y (by rw[hal];simp))
     ·simp at h
    ·simp at h
   ·simp at h
  ·simp at h
 ·split at h
  ·next t x _ hal=>
   split at h
   ·next e x' _ hx=>
    simp only[Option.map_eq_some_iff]at h;obtain⟨_,_,rfl⟩:=h;exact dR hx (hin x (by rw[hal];simp))
   ·simp at h
  ·simp at h
 ·split at h
  ·next t t' x y _ _ hal=>
   split at h
   ·next e e' x' y' _ _ hx hy=>
    simp only[Option.map_eq_some_iff]at h;obtain⟨_,_,rfl⟩:=h;exact jI hx hy (hin x (by rw[hal];simp)) (hin y (by rw[hal];simp))
   ·simp at h
  ·simp at h
 ·simp at h

theorem GS{op:Op}{vo:VOp}(hc:aJ P op=some vo):∀y∈vo.opds,∃x∈op.operands.toList,sb x=sa y:=by
 cases op with
 |move x=>simp only[aJ,Option.map_eq_some_iff]at hc;obtain⟨y,hy,rfl⟩:=hc;exact dR hy (by simp[Op.operands])
 |assign x=>simp only[aJ,Option.map_eq_some_iff]at hc;obtain⟨y,hy,rfl⟩:=hc;exact dR hy (by simp[Op.operands])
 |pick c x y=>
  simp only[aJ]at hc;split at hc
  ·next c' x' y' h1 h2 h3=>
   obtain rfl:=O_ hc;intro z hz;simp only[VOp.opds,List.mem_cons,List.not_mem_nil,or_false]at hz;rcases hz with rfl|rfl|rfl
   ·exact⟨c,by simp[Op.operands],nW h1⟩
   ·exact⟨x,by simp[Op.operands],nW h2⟩
   ·exact⟨y,by simp[Op.operands],nW h3⟩
  ·simp at hc
 |alloc t=>
  simp only[aJ]at hc;split at hc
  ·obtain rfl:=O_ hc;simp[VOp.opds]
  ·simp only[Option.map_eq_some_iff]at hc;obtain⟨z,hz,rfl⟩:=hc;simp[VOp.opds]
 |box t x=>simp only[aJ,Option.map_eq_some_iff]at hc;obtain⟨y,hy,rfl⟩:=hc;exact dR hy (by simp[Op.operands])
 |build t parts=>
  have fin:∀ {place:Nat->Option (Nat×Nat)} {p:List (Nat×Nat×Opd)} {z:List SV},eu place parts.toList=some p->∀y∈(VOp.build z p).opds,∃x∈(Op.build t parts).operands.toList,sb x=sa y:=by
   intro place p z hp y hy;obtain⟨x,hx,he⟩:=C9 hp y hy;exact⟨x,by simp only[Op.operands];exact hx,he⟩
  simp only[aJ]at hc;split at hc
  ·split at hc
   ·simp only[Option.map_eq_some_iff]at hc;obtain⟨p,hp,rfl⟩:=hc;exact fin hp
   ·simp at hc
  ·split at hc
   ·simp only[Option.map_eq_some_iff]at hc;obtain⟨p,hp,rfl⟩:=hc;exact fin hp
   ·simp at hc
  ·simp at hc
 |buildSlice t n parts=>
  simp only[aJ]at hc;split at hc
  ·split at hc
   ·split at hc
    ·simp only[Option.map_eq_some_iff]at hc;obtain⟨p,hp,rfl⟩:=hc;intro y hy;obtain⟨x,hx,he⟩:=C9 hp y hy;exact⟨x,by simp only[Op.operands];exact hx,he⟩
    ·simp at hc
   ·simp at hc
  ·simp at hc
 |load t x=>
  simp only[aJ]at hc;split at hc
  ·next g x' hg hx=>obtain rfl:=O_ hc;exact dR hx (by simp[Op.operands])
  ·simp at hc
 |store t x y=>
  simp only[aJ]at hc;split at hc
  ·next n x' y' hn hx hy=>obtain rfl:=O_ hc;exact jI hx hy (by simp[Op.operands]) (by simp[Op.operands])
  ·simp at hc
 |nilCheck x=>simp only[aJ,Option.map_eq_some_iff]at hc;obtain⟨y,hy,rfl⟩:=hc;exact dR hy (by simp[Op.operands])
 |binOp op t x y t'=>
  simp only[aJ,xh]at hc;split at hc
  ·next x' y' hx hy=>
   have two:∀z∈[x',y'],∃u∈(Op.binOp op t x y t').operands.toList,sb u=sa z:=jI hx hy (by simp[Op.operands]) (by simp[Op.operands]);have one:∀z∈[x'],∃u∈(Op.binOp op t x y t').operands.toList,sb u=sa z:=dR hx (by simp[Op.operands])
   have eqc:∀ {neg o},wB P neg o t y x' y'=some vo->∀z∈vo.opds,∃u∈(Op.binOp op t x y t').operands.toList,sb u=sa z:=by
    intro neg o hc;unfold wB at hc;split at hc
    ·obtain rfl:=O_ hc;exact two
    ·obtain rfl:=O_ hc;exact two
    ·obtain rfl:=O_ hc;exact two
    ·split at hc
     ·obtain rfl:=O_ hc;exact one
     ·simp at hc
    ·split at hc
     ·obtain rfl:=O_ hc;exact one
     ·split at hc
      ·obtain rfl:=O_ hc;exact two
      ·simp at hc
    ·split at hc
     ·obtain rfl:=O_ hc;exact one
     ·simp at hc
    ·split at hc
     ·simp at hc
     ·simp only[Option.map_eq_some_iff]at hc;obtain⟨ks,_,rfl⟩:=hc;exact two
    ·simp at hc
   split at hc
   ·exact eqc hc
   ·exact eqc hc
   ·obtain rfl:=O_ hc;exact two
  ·simp at hc
 |unOp op t x=>simp only[aJ,Option.map_eq_some_iff]at hc;obtain⟨y,hy,rfl⟩:=hc;exact dR hy (by simp[Op.operands])
 |convert s t x=>
  simp only[aJ]at hc;split at hc
  ·next hx=>obtain rfl:=O_ hc;exact dR hx (by simp[Op.operands])
  ·next hx=>obtain rfl:=O_ hc;exact dR hx (by simp[Op.operands])
  ·next hx=>obtain rfl:=O_ hc;exact dR hx (by simp[Op.operands])
  ·next hx=>
   split at hc
   ·obtain rfl:=O_ hc;exact dR hx (by simp[Op.operands])
   ·simp at hc
  ·simp at hc
 |makeInterface t x=>
  simp only[aJ]at hc;split at hc
  ·simp at hc
  ·simp only[Option.map_eq_some_iff]at hc;obtain⟨y,hy,rfl⟩:=hc;exact dR hy (by simp[Op.operands])
  ·simp at hc
 |makeFunc fn first caps=>
  simp only[aJ,GG]at hc;split at hc
  ·split at hc
   ·simp only[Option.map_eq_some_iff]at hc;obtain⟨ys,hy,rfl⟩:=hc;intro y hyy;obtain⟨x,hx,he⟩:=xz hy y hyy;exact⟨x,by simp only[Op.operands,Array.toList_append,List.mem_append];exact .inr hx,he⟩
   ·split at hc
    ·simp only[Option.map_eq_some_iff]at hc;obtain⟨ys,hy,rfl⟩:=hc;intro y hyy;obtain⟨x,hx,he⟩:=xz hy y hyy;exact⟨x,by simp only[Op.operands,Array.toList_append,List.mem_append];exact .inl hx,he⟩
    ·simp at hc
  ·simp at hc
 |makeSlice t l c=>
  simp only[aJ]at hc;split at hc
  ·split at hc
   ·next hx hy=>
    split at hc
    ·obtain rfl:=O_ hc;exact jI hx hy (by simp[Op.operands]) (by simp[Op.operands])
    ·simp at hc
   ·simp at hc
  ·simp at hc
 |slice t x lo hi mx=>
  have fin:∀ {x' Bi mM} {l:List Opd},ai x=some x'->bG lo=some Bi->bG hi=some mM->(∀z∈l,∃u∈mx.toList,sb u=sa z)->∀z∈x'::(Bi.toList++mM.toList++l),∃u∈(Op.slice t x lo hi mx).operands.toList,sb u=sa z:=by
   intro x' Bi mM l hx hl hh hm z hz;simp only[List.mem_cons,List.mem_append]at hz;rcases hz with rfl|(hz|hz)|hz
   ·exact⟨x,by simp[Op.operands],nW hx⟩
   ·obtain⟨u,hu,he⟩:=KG hl z hz;exact⟨u,by simp[Op.operands]at hu |-;simp[hu],he⟩
   ·obtain⟨u,hu,he⟩:=KG hh z hz;exact⟨u,by simp[Op.operands]at hu |-;simp[hu],he⟩
   ·obtain⟨u,hu,he⟩:=hm z hz;exact⟨u,by simp[Op.operands]at hu |-;simp[hu],he⟩
  simp only[aJ]at hc;split at hc
  ·next x' l' h' ht hx hl hh hm=>
   obtain rfl:=O_ hc;have:=fin (l:=[]) hx hl hh (by simp);simpa[VOp.opds]using this
  ·next e x' l' h' m' ht hx hl hh hm=>
   simp only[Option.map_eq_some_iff]at hc;obtain⟨s,_,rfl⟩:=hc;exact fin hx hl hh (KG hm)
  ·next n e x' l' h' ht hx hl hh hm=>
   simp only[Option.map_eq_some_iff]at hc;obtain⟨s,_,rfl⟩:=hc;have:=fin (l:=[]) hx hl hh (by simp);simpa[VOp.opds]using this
  ·simp at hc
 |fieldAddr t x f=>
  simp only[aJ]at hc;split at hc
  ·split at hc
   ·next hx=>
    split at hc
    ·split at hc
     ·simp at hc
     ·obtain rfl:=O_ hc;exact dR hx (by simp[Op.operands])
    ·simp at hc
   ·simp at hc
  ·simp at hc
 |field t x f=>
  simp only[aJ]at hc;split at hc
  ·split at hc
   ·next hx=>
    simp only[Option.map_eq_some_iff]at hc;obtain⟨g,_,rfl⟩:=hc;exact dR hx (by simp[Op.operands])
   ·simp at hc
  ·simp at hc
 |indexAddr t x i=>
  simp only[aJ]at hc;split at hc
  ·split at hc
   ·next hx hi=>obtain rfl:=O_ hc;exact jI hx hi (by simp[Op.operands]) (by simp[Op.operands])
   ·simp at hc
  ·split at hc
   ·next hx hi=>obtain rfl:=O_ hc;exact jI hx hi (by simp[Op.operands]) (by simp[Op.operands])
   ·simp at hc
  ·simp at hc
 |index t x i=>
  simp only[aJ]at hc;split at hc
  ·split at hc
   ·next hx hi=>obtain rfl:=O_ hc;exact jI hx hi (by simp[Op.operands]) (by simp[Op.operands])
   ·simp at hc
  ·split at hc
   ·next hx hi=>obtain rfl:=O_ hc;exact jI hx hi (by simp[Op.operands]) (by simp[Op.operands])
   ·simp at hc
  ·simp at hc
 |extract x i=>simp only[aJ,Option.map_eq_some_iff]at hc;obtain⟨y,hy,rfl⟩:=hc;exact dR hy (by simp[Op.operands])
 |call c=>exact Ey hc
 |range t x=>
  simp only[aJ]at hc;split at hc
  ·next hx=>obtain rfl:=O_ hc;exact dR hx (by simp[Op.operands])
  ·simp at hc
 |next x b=>
  cases b with
  |false=>simp[aJ]at hc
  |true=>simp only[aJ,Option.map_eq_some_iff]at hc;obtain⟨y,hy,rfl⟩:=hc;exact dR hy (by simp[Op.operands])
 |_=>simp[aJ]at hc

theorem IC{op:Op}{vo:VOp}(hc:lr P op=some vo):∀y∈vo.opds,∃x∈op.operands.toList,sb x=sa y:=by
 rcases qG hc with hc|rfl
 ·exact GS hc
 ·simp[VOp.opds]

theorem ID{l:List Opd}{t:Nat} : t∈(l.filterMap fun|.tmp t=>some t|_=>none)↔∃y∈l,sa y=some t:=by
 simp only[List.mem_filterMap];constructor
 ·rintro⟨y,hy,h⟩;exact⟨y,hy,by cases y<;>simp_all [sa]⟩
 ·rintro⟨y,hy,h⟩;exact⟨y,hy,by cases y<;>simp_all [sa]⟩
theorem IE{l:List Operand}{t:Nat} : t∈(l.filterMap fun|.tmp t=>some t|_=>none)↔∃y∈l,sb y=some t:=by
 simp only[List.mem_filterMap];constructor
 ·rintro⟨y,hy,h⟩;exact⟨y,hy,by cases y<;>simp_all [sb]⟩
 ·rintro⟨y,hy,h⟩;exact⟨y,hy,by cases y<;>simp_all [sb]⟩

theorem P9{ops:Array Oper}{o:Oper}{v:VOper}(h:gW P ops o=some v):∀t,t∈v.slots->t∈o.looksAt ops:=by
 obtain⟨_,hop,hg⟩:=eE h;intro t ht;unfold VOper.slots at ht;unfold Oper.looksAt;rw[List.mem_append]at ht |-;rcases ht with ht|ht
 ·left;obtain⟨y,hy,he⟩:=ID.1 ht;obtain⟨x,hx,he'⟩:=IC hop y hy;exact IE.2 ⟨x,hx,he'.trans he⟩
 ·right;cases hgo:o.guard with
  |none=>
   rw[hgo]at hg;have:v.guard=none:=by simpa[gb]using hg.symm
   rw[this]at ht;simp at ht
  |some p=>
   obtain⟨j,b⟩:=p;rw[hgo]at hg;simp only[gb]at hg;split at hg
   ·next d hd=>
    have hvg:v.guard=some (d,b):=by simpa using hg.symm
    rw[hvg]at ht;simp only[List.mem_singleton]at ht;subst ht;simp[hd]
   ·simp at hg
end
end Go.Vs
set_option linter.unusedVariables false
set_option linter.unusedSimpArgs false
namespace Go.Vs

section
variable {P:Program} {w0:World} {S0:aO} {M:Ctx}

theorem wK{listed:Array Bool}{i:Nat}(h:listed.getD i true=false):listed.getD i false=false:=by
 rcases Nat.lt_or_ge i listed.size with h'|h'
 ·simp only[Array.getD,dif_pos h']at h |-;exact h
 ·simp[Array.getD,Nat.not_lt.2 h']at h
theorem Pb{listed:Array Bool}{i:Nat}(hi:i<listed.size)(h:listed.getD i false=false):listed.getD i true=false:=by
 simp only[Array.getD,dif_pos hi]at h |-;exact h
theorem Ca(m j:Nat):(Array.replicate m false).getD j false=false:=by
 rcases Nat.lt_or_ge j m with h|h
 ·simp[Array.getD,h]
 ·simp[Array.getD,Nat.not_lt.2 h]

theorem Pc{ops:Array Oper}{a b:Oper}{x y:VOper}(hx:gW P ops a=some x)(hy:gW P ops b=some y)(h:a.apart ops b=true):LT x y:=by
 obtain⟨h1,h2,h3⟩:=Oper.apart_spec h;obtain⟨dx,_,_⟩:=eE hx;obtain⟨dy,_,_⟩:=eE hy;refine⟨fun d hd=>⟨fun hs=>h1 d (by rw[<-dx];exact hd) (P9 hy d hs),by rw[dy];exact h2 d (by rw[<-dx];exact hd)⟩,fun d hd hs=>h3 d (by rw[<-dy];exact hd) (P9 hx d hs)⟩

theorem uA{σ:St}{o:VOper}{e:Eff}(h:f3 P σ o e):(e.u.wr≠none->o.op.writes=true)/\(e.u.new≠none->o.op.makes=true)/\(e.u.fz≠[]->o.op.acts=true)/\(e.ids≠[]->o.op.acts=true):=by
 have act:Ex P σ o e->_:=fun⟨h1,h2,h3⟩=>(⟨(C4 h1).1,(C4 h1).2,P8 h1,fun hn=>by
  rw[h2]at hn;unfold e9 at hn;cases ha:o.op.acts with
  |true=>rfl
  |false=>rw[ha]at hn;exact absurd rfl hn⟩:(e.u.wr≠none->o.op.writes=true)/\(e.u.new≠none->o.op.makes=true)/\(e.u.fz≠[]->o.op.acts=true)/\(e.ids≠[]->o.op.acts=true))
 unfold f3 at h;split at h
 ·exact act h
 ·obtain⟨c,_,h|h⟩:=h
  ·exact act h.2
  ·rw[h.2];exact⟨fun x=>absurd rfl x,fun x=>absurd rfl x,fun x=>absurd rfl x,fun x=>absurd rfl x⟩

theorem N9{σ σ':St}{a b:VOper}{x y:Eff}(ha:f3 P σ a x)(hb:f3 P σ' b y)(h:a.op.flagged b.op=false):Af x y/\Af y x:=by
 obtain⟨a1,a2,a3,a4⟩:=uA ha;obtain⟨b1,b2,b3,b4⟩:=uA hb;unfold VOp.flagged at h;simp only[Bool.or_eq_false_iff,Bool.and_eq_false_iff]at h;obtain⟨⟨⟨h1,h2⟩,h3⟩,h4⟩:=h
 have nx:x.u.new=none:=by
  cases hn:x.u.new with
  |none=>rfl
  |some o=>have:=a2 (by rw[hn];simp);rw[h3]at this;simp at this
 have ny:y.u.new=none:=by
  cases hn:y.u.new with
  |none=>rfl
  |some o=>have:=b2 (by rw[hn];simp);rw[h4]at this;simp at this
 have wact:∀op:VOp,op.writes=true->op.acts=true:=by intro op;cases op<;>simp[VOp.writes,VOp.acts]
 have gen:∀(p q:Eff) (o1 o2:VOp),p.u.new=none->q.u.new=none->(p.u.wr≠none->o1.writes=true)->(q.u.wr≠none->o2.writes=true)->(p.u.fz≠[]->o1.acts=true)->(q.ids≠[]->o2.acts=true)->
   (o1.writes=false\/o2.acts=false)->(o2.writes=false\/o1.acts=false)->Af p q:=by
  intro p q o1 o2 np nq p1 q1 p3 q4 c1 c2;refine⟨fun id hw=>?_,fun id o hw hi=>?_⟩
  ·rw[uz (.inl np)]at hw;have hpw:p.u.wr≠none:=by intro e;rw[e]at hw;exact hw rfl
   have hw1:=p1 hpw;have ha2:o2.acts=false:=c1.resolve_left (by rw[hw1];simp);refine⟨fun hi=>?_,?_⟩
   ·have:=q4 (by intro e;rw[e]at hi;simp at hi);rw[ha2]at this;simp at this
   ·rw[uz (.inl nq)];cases hq:q.u.wr with
    |none=>rfl
    |some r=>
     have:=wact _ (q1 (by rw[hq];simp));rw[ha2]at this;simp at this
  ·have hw2:=q1 (by rw[hw];simp);have ha1:o1.acts=false:=c2.resolve_left (by rw[hw2];simp);have:=p3 (by intro e;rw[e]at hi;simp at hi);rw[ha1]at this;simp at this
 exact⟨gen x y a.op b.op nx ny a1 b1 a3 b4 h1 h2,gen y x b.op a.op ny nx b1 a1 b3 a4 h2 h1⟩

theorem qh:∀ {l:List VOper} {σ σf:St} {es:List Eff} (i:Nat),jp P l σ es σf->∀p∈iB i l es,∃σ',f3 P σ' p.o p.e
 |[],_,_,_,_,_,_,h=>by simp[iB]at h
 |o::r,σ,σf,es,i,⟨e,es',h1,h2,h3⟩,p,h=>by
  subst h1;simp only[iB,List.mem_cons]at h;rcases h with rfl|h
  ·exact⟨σ,h2⟩
  ·exact qh (i+1) h3 p h

theorem pu{e:Eff}{d:Nat} : e.newId=some d↔jH e d:=by
 unfold Eff.newId jH;constructor
 ·intro h;split at h
  ·next o d' h1 h2=>
   obtain rfl:=O_ h;exact⟨⟨o,h1⟩,h2⟩
  ·simp at h
 ·rintro⟨⟨o,h1⟩,h2⟩;rw[h1,h2]

def sJ(f:Nat->Bool):Nat->Nat
 |0=>0
 |n+1=>sJ f n+(if f n then 0 else 1)
theorem Cb{f g:Nat->Bool}{i:Nat}(hi:f i=false)(hg:g i=true)(h:∀j,i≠j->g j=f j):∀n,(i<n->sJ g n+1=sJ f n)/\(n<=i->sJ g n=sJ f n)
 |0=>⟨fun h=>by omega,fun _=>rfl⟩
 |n+1=>by
  obtain⟨h1,h2⟩:=Cb hi hg h n;refine⟨fun hn=>?_,fun hn=>?_⟩
  ·rcases Nat.lt_or_ge i n with h3|h3
   ·simp only[sJ,h n (by omega)];have:=h1 h3;omega
   ·obtain rfl:i=n:=by omega
    simp[sJ,h2 (Nat.le_refl _),hi,hg]
  ·simp only[sJ,h n (by omega),h2 (by omega)]
theorem zo{f:Nat->Bool} : ∀ {n},sJ f n=0->∀j,j<n->f j=true
 |0,_,j,hj=>by omega
 |n+1,h,j,hj=>by
  simp only[sJ]at h;rcases Nat.lt_or_ge j n with h1|h1
  ·exact zo (by omega) j h1
  ·obtain rfl:j=n:=by omega
   cases hf:f j with
   |true=>rfl
   |false=>simp[hf]at h

def X0(ops:Array Oper):Prop:=∀j o,ops[j]?=some o->∀e∈o.after.toList,Region.binds .any e=true->e.on<j
theorem FD{ops:Array Oper}{listed:Array Bool}(hup:X0 ops)(hsz:listed.size=ops.size)(h:Region.ready .any ops listed=[]):∀j,j<ops.size->listed.getD j false=true:=by
 intro j
 induction j using Nat.strongRecOn with
 |_ j ih=>
  intro hj;cases hb:listed.getD j false with
  |true=>rfl
  |false=>
   have:j∈Region.ready .any ops listed:=mem_ready.2 ⟨Pb (by omega) hb,ops[j],by simp[hj],fun e he hbd=>by
    have:=hup j ops[j] (by simp[hj]) e (by simpa using he) hbd
    exact ih e.on this (by omega)⟩
   rw[h]at this;cases this
theorem Cc{ops:Array Oper}{listed:Array Bool}{Q:Exit->Act->World->Prop}{a:Act}{w:World}(h:∀j,j<ops.size->listed.getD j false=true)(hq:Q .normal a w):∀fuel,wpAny P .any ops Q fuel listed a w:=by
 have hr:Region.ready .any ops listed=[]:=by
  rw[List.eq_nil_iff_forall_not_mem];intro i hi;obtain⟨h1,oi,hoi,_⟩:=mem_ready.1 hi;have:=h i (Array.getElem?_eq_some_iff.1 hoi).1;rw[wK h1]at this;cases this
 intro fuel;cases fuel with
 |zero=>exact⟨hr,hq⟩
 |succ f=>exact⟨fun _=>hq,fun i hi=>by rw[hr]at hi;cases hi⟩

structure Ahead(P:Program)(ops:Array Oper)(I:List Item1):Prop where
 comp:∀p∈I,∃o,ops[p.i]?=some o/\gW P ops o=some p.o
 free:∀p∈I,∀x∈I,p.i<x.i->((Region.before ops).getD x.i 0).testBit p.i=false->Free x p
 nr:∀p∈I,∀k∈I,p.i≠k.i->((Region.before ops).getD p.i 0).testBit k.i=false->∀d,jH k.e d->sF d p.e.u
theorem sK{ops:Array Oper}{vs:List VOper}{fJ makes:List (Nat×Nat)}(hp:iA ops vs.toArray=some (fJ,makes)):X0 ops:=by
 unfold iA at hp;simp only at hp;split at hp
 ·next hcond=>
  simp only[Bool.and_eq_true,List.all_eq_true,List.mem_range]at hcond;intro j o ho e he hb;have:=hcond.1 j (Array.getElem?_eq_some_iff.1 ho).1;rw[ho]at this;simp only[List.all_eq_true,Bool.or_eq_true,Bool.not_eq_true',decide_eq_true_eq]at this;rcases this e he with h1|h1
  ·rw[hb]at h1;cases h1
  ·exact h1
 ·cases hp
theorem qO{ops:Array Oper}{vs:List VOper}(hc:bO P ops ops.toList=some vs){i:Nat}{v:VOper}(hv:vs[i]?=some v):∃o,ops[i]?=some o/\gW P ops o=some v/\i<ops.size:=by
 obtain⟨hlen,hget⟩:=cQ hc;have hi:=(List.getElem?_eq_some_iff.1 hv).1;have mM:i<ops.toList.length:=by omega
 obtain⟨v',hv1,hv2⟩:=hget i ops.toList[i] (List.getElem?_eq_getElem mM);obtain rfl:v'=v:=by rw[hv]at hv1;exact(O_ hv1).symm
 exact⟨ops.toList[i],by rw[<-Array.getElem?_toList];exact List.getElem?_eq_getElem mM,hv2,by simpa using mM⟩
theorem Ak{ops:Array Oper}{vs:List VOper}(hc:bO P ops ops.toList=some vs){fJ makes:List (Nat×Nat)}(hp:iA ops vs.toArray=some (fJ,makes)){i j:Nat}{x y:VOper}(hij:i<j)(hx:vs[i]?=some x)(hy:vs[j]?=some y)(hb:((Region.before ops).getD j 0).testBit i=false):LT x y:=by
 obtain⟨o1,a1,a2,a3⟩:=qO hc hx;obtain⟨o2,b1,b2,b3⟩:=qO hc hy;unfold iA at hp;simp only at hp;split at hp
 ·next hcond=>
  simp only[Bool.and_eq_true,List.all_eq_true,List.mem_range]at hcond;have hap:=hcond.2 j b3 i hij;rw[hb,a1,b1]at hap;simp only[Bool.false_or]at hap;exact Pc a2 b2 hap
 ·cases hp
theorem Cd{ops:Array Oper}{vs:List VOper}(hc:bO P ops ops.toList=some vs){fJ makes:List (Nat×Nat)}(hp:iA ops vs.toArray=some (fJ,makes)){i j:Nat}{x y:VOper}{d:Nat}(hij:i<j)(hx:vs[i]?=some x)(hy:vs[j]?=some y)(hd:x.dst=some d)(hs:d∈y.slots):((Region.before ops).getD j 0).testBit i=true:=by
 cases hb:((Region.before ops).getD j 0).testBit i with
 |true=>rfl
 |false=>exact absurd hs ((Ak hc hp hij hx hy hb).1 d hd).1
theorem GT{ops:Array Oper}{vs:List VOper}(hc:bO P ops ops.toList=some vs){fJ makes:List (Nat×Nat)}(hp:iA ops vs.toArray=some (fJ,makes)){I:List Item1}(hv:∀p∈I,vs[p.i]?=some p.o)(hall:∀p∈I,∃σ',f3 P σ' p.o p.e){σ:St}{es:List Eff}{sel:Nat×Nat->Bool}(hk:sI σ (fJ.filter sel) (makes.filter sel) es=true)(he:∀p∈I,es[p.i]?=some p.e)(hsel:∀p∈I,∀x∈I,sel (p.i,x.i)=true):Ahead P ops I/\∀p∈I,∀d,jH p.e d->ez d σ:=by
 have hp':=hp;unfold iA at hp;simp only at hp;split at hp
 ·simp only[E_,Prod.mk.injEq]at hp;obtain⟨hpairs,hmakes⟩:=hp;unfold sI at hk;simp only[Bool.and_eq_true,List.all_eq_true]at hk;obtain⟨⟨hk1,hk2⟩,hk3⟩:=hk;refine⟨⟨fun p hpI=>?_,fun p hpI x hx hlt hbit=>?_,fun p hpI k hkI hne hbit d hcr=>?_⟩,fun p hpI d hcr=>?_⟩
  ·obtain⟨o,h1,h2,_⟩:=qO hc (hv p hpI);exact⟨o,h1,h2⟩
  ·have hAp:=Ak hc hp' hlt (hv p hpI) (hv x hx) hbit;obtain⟨o2,b1,b2,b3⟩:=qO hc (hv x hx);cases hfl:p.o.op.flagged x.o.op with
   |false=>
    obtain⟨σ1,s1⟩:=hall p hpI;obtain⟨σ2,s2⟩:=hall x hx;obtain⟨i1,i2⟩:=N9 s1 s2 hfl;exact⟨hAp,i1,i2⟩
   |true=>
    have hm:(p.i,x.i)∈fJ:=by
     rw[<-hpairs];refine List.mem_flatMap.2 ⟨x.i,List.mem_range.2 b3,List.mem_filterMap.2 ⟨p.i,List.mem_range.2 hlt,?_⟩⟩;rw[hbit];simp only[Bool.false_eq_true,if_false,List.getElem?_toArray,hv p hpI,hv x hx,hfl,if_true]
    have:=hk1 _ (List.mem_filter.2 ⟨hm,hsel p hpI x hx⟩);simp only[he p hpI,he x hx,Bool.and_eq_true]at this;exact⟨hAp,Ah this.1,Ah this.2⟩
  ·obtain⟨o1,a1,a2,a3⟩:=qO hc (hv p hpI);obtain⟨o2,b1,b2,b3⟩:=qO hc (hv k hkI);obtain⟨σ2,s2⟩:=hall k hkI;have hmk:k.o.op.makes=true:=(uA s2).2.1 (by obtain⟨⟨o,ho⟩,_⟩:=hcr;rw[ho];simp)
   have hm:(p.i,k.i)∈makes:=by
    rw[<-hmakes];refine List.mem_flatMap.2 ⟨k.i,List.mem_range.2 b3,?_⟩;simp only[List.getElem?_toArray,hv k hkI,hmk,if_true];refine List.mem_filterMap.2 ⟨p.i,List.mem_range.2 a3,?_⟩;rw[if_neg hne,hbit];simp
   have:=hk2 _ (List.mem_filter.2 ⟨hm,hsel p hpI k hkI⟩);simp only[he p hpI,he k hkI,pu.2 hcr]at this;exact GR this
  ·have:=hk3 p.e (List.mem_of_getElem? (he p hpI));simp only[pu.2 hcr,Bool.and_eq_true]at this;exact⟨Ks this.1,fun id o ho=>Kt this.2 ho⟩
 ·cases hp

structure Lst(P:Program)(ops:Array Oper)(I:List Item1)(U late:Nat->Bool)(n:Nat)(σf σB:St)(listed:Array Bool)(L:List Item1)(σ1:St):Prop where
 sz:listed.size=ops.size
 pw:L.Pairwise fun p q=>p.i<q.i
 sub:∀p∈L,p∈I
 li:∀j,j<ops.size->U j=false->(listed.getD j false=false↔∃p∈L,p.i=j)
 un:∀j,j<ops.size->U j=true->listed.getD j false=false
 cl:∀j o,ops[j]?=some o->listed.getD j false=true->∀e∈o.after.toList,Region.binds .any e=true->listed.getD e.on false=true
 run:zm P L σ1 σf
 runB:(∀p∈I,late p.i=true->p∈L)->zm P (L.filter fun p=>!late p.i) σ1 σB
 nr:∀p∈L,∀d,jH p.e d->ez d σ1
 n:σ1.n=n

theorem GU{ops:Array Oper}(hup:X0 ops){I:List Item1}(hI:Ahead P ops I){U late:Nat->Bool}(hU:∀p∈I,U p.i=false){n:Nat}(hd:∀p∈I,∀d,p.o.dst=some d->d<n){σf σB:St}{Q:Exit->Act->World->Prop}
  (hQ:∀fuel listed L σ1 a w i,sJ (listed.getD · false) ops.size<=fuel+1->Lst P ops I U late n σf σB listed L σ1->U i=true->i<ops.size->(∀b,((Region.before ops).getD i 0).testBit b=true->listed.getD b false=true)->(∀o,ops[i]?=some o->∀e∈o.after.toList,Region.binds .any e=true->listed.getD e.on false=true)->cE w0 S0 M σ1 a w->wpOp P ops Q i (wpAny P .any ops Q fuel (listed.setIfInBounds i true)) a w)
  (hE:(∀j,j<ops.size->U j=false)->∀a w,cE w0 S0 M σf a w->Q .normal a w) :
  ∀(fuel:Nat) {listed:Array Bool} {L:List Item1} {σ1:St} {a:Act} {w:World},sJ (listed.getD · false) ops.size<=fuel->Lst P ops I U late n σf σB listed L σ1->cE w0 S0 M σ1 a w->wpAny P .any ops Q fuel listed a w:=by
 have bit_lt:∀(j k:Nat),j<=k->j<ops.size->((Region.before ops).getD j 0).testBit k=false:=by
  intro j
  induction j using Nat.strongRecOn with
  |_ j ih=>
   intro k hjk hj;cases hb:((Region.before ops).getD j 0).testBit k with
   |false=>rfl
   |true=>
    obtain⟨e,he,hbd,h⟩:=Aj (ops:=ops) (j:=j) (o:=ops[j]) (by simp[hj]) hb;have hlt:=hup j ops[j] (by simp[hj]) e he hbd;rcases h with h|h
    ·omega
    ·have:=ih e.on hlt k (by omega) (by omega);rw[this]at h;cases h
 have fin:∀ {listed:Array Bool} {L:List Item1} {σ1:St} {a:Act} {w:World},Lst P ops I U late n σf σB listed L σ1->(∀j,j<ops.size->listed.getD j false=true)->cE w0 S0 M σ1 a w->Q .normal a w:=by
  intro listed L σ1 a w hl hall hsim
  have hL:L=[]:=by
   cases L with
   |nil=>rfl
   |cons p L=>
    exfalso;obtain⟨o,ho,_⟩:=hI.comp p (hl.sub p (by simp));have hi:=(Array.getElem?_eq_some_iff.1 ho).1;have:=(hl.li p.i hi (hU p (hl.sub p (by simp)))).2 ⟨p,by simp,rfl⟩;rw[hall p.i hi]at this;cases this
  subst hL;refine hE (fun j hj=>?_) a w (hsim.congr hl.run);cases hu:U j with
  |false=>rfl
  |true=>have:=hl.un j hj hu;rw[hall j hj]at this;cases this
 intro fuel
 induction fuel with
 |zero=>
  intro listed L σ1 a w hf hl hsim;have hall:=zo (Nat.le_zero.1 hf);exact Cc hall (fin hl hall hsim) 0
 |succ fuel ih=>
  intro listed L σ1 a w hf hl hsim;refine⟨fun he=>fin hl (FD hup hl.sz he) hsim,fun i hi=>?_⟩;obtain⟨h1,oi,hoi,hready⟩:=mem_ready.1 hi;have hlt:i<ops.size:=(Array.getElem?_eq_some_iff.1 hoi).1;have hu:=wK h1
  have hbefore:∀b,((Region.before ops).getD i 0).testBit b=true->listed.getD b false=true:=
   uV hup hl.cl (i+1) i oi (by omega) hoi (fun e he hbd=>hready e (by simpa using he) hbd)
  have hready':∀o,ops[i]?=some o->∀e∈o.after.toList,Region.binds .any e=true->listed.getD e.on false=true:=by
   intro o ho e he hb;obtain rfl:oi=o:=O_ (hoi.symm.trans ho);exact hready e (by simpa using he) hb
  cases hUi:U i with
  |true=>exact hQ fuel listed L σ1 a w i hf hl hUi hlt hbefore (fun o ho e he hb=>hready' o ho e he hb) hsim
  |false=>
   obtain⟨x,hx,hxi⟩:=(hl.li i hlt hUi).1 hu;subst hxi;obtain⟨A,B,hAB⟩:=List.append_of_mem hx;subst hAB;obtain⟨o2,b1,b2⟩:=hI.comp x (hl.sub x hx);have hpw':=List.pairwise_append.1 hl.pw;have hAx:∀p∈A,p.i<x.i:=fun p hp=>hpw'.2.2 p hp x (by simp)
   have hxB:∀q∈B,x.i<q.i:=fun q hq=>(List.pairwise_cons.1 hpw'.2.1).1 q hq
   have inA:∀p∈A,p∈I:=fun p hp=>hl.sub p (List.mem_append_left _ hp)
   have inB:∀p∈B,p∈I:=fun p hp=>hl.sub p (List.mem_append_right _ (List.mem_cons_of_mem _ hp))
   have inx:x∈I:=hl.sub x hx
   have szI:∀p∈I,p.i<ops.size:=fun p hp=>by
    obtain⟨o,ho,_⟩:=hI.comp p hp;exact(Array.getElem?_eq_some_iff.1 ho).1
   have hAn:∀p∈A,((Region.before ops).getD x.i 0).testBit p.i=false:=by
    intro p hp;cases hb:((Region.before ops).getD x.i 0).testBit p.i with
    |false=>rfl
    |true=>
     have:=hbefore p.i hb;have hpn:listed.getD p.i false=false:=(hl.li p.i (szI p (inA p hp)) (hU p (inA p hp))).2 ⟨p,List.mem_append_left _ hp,rfl⟩;rw[hpn]at this;cases this
   have front:∀ {A' B':List Item1} {σ':St},(∀p∈A',p∈A)->(∀p∈B',p∈B)->(A'.Pairwise fun p q=>p.i<q.i)->zm P (A'++x::B') σ1 σ'->zm P (x::(A'++B')) σ1 σ':=by
    intro A' B' σ' hA' hB' hpA hr
    refine FC (P:=P) hr (fun p hp=>hI.free p (inA p (hA' p hp)) x inx (hAx p (hA' p hp)) (hAn p (hA' p hp))) (fun p hp=>hl.nr p ?_)
     (fun p hp d hcr=>hI.nr x inx p (inA p (hA' p hp)) (by have:=hAx p (hA' p hp);omega) (hAn p (hA' p hp)) d hcr)
     (by
       refine List.Pairwise.imp_of_mem ?_ hpA;intro p q hp hq hpq d hcr
       exact hI.nr p (inA p (hA' p hp)) q (inA q (hA' q hq)) (by omega) (bit_lt p.i q.i (by omega) (szI p (inA p (hA' p hp)))) d hcr)
     (fun p hp q hq d hcr=>by
       have h1:=hAx p (hA' p hp);rcases List.mem_cons.1 hq with rfl|hq'
       ·exact hI.nr p (inA p (hA' p hp)) q inx (by omega) (bit_lt p.i q.i (by omega) (szI p (inA p (hA' p hp)))) d hcr
       ·have h2:=hxB q (hB' q hq')
        exact hI.nr p (inA p (hA' p hp)) q (inB q (hB' q hq')) (by omega) (bit_lt p.i q.i (by omega) (szI p (inA p (hA' p hp)))) d hcr)
    rcases List.mem_append.1 hp with hp|hp
    ·exact List.mem_append_left _ (hA' p hp)
    ·rcases List.mem_cons.1 hp with rfl|hp
     ·exact hx
     ·exact List.mem_append_right _ (List.mem_cons_of_mem _ (hB' p hp))
   obtain⟨hstep,hrest⟩:=front (fun _ h=>h) (fun _ h=>h) hpw'.1 hl.run;refine KF b1 b2 hsim (fun d hdd=>by rw[hl.n];exact hd x inx d hdd) hstep (fun a' w' hs'=>?_)
   have hmemAB:∀p,p∈A++B->p∈A++x::B:=fun p hp=>by
    rcases List.mem_append.1 hp with hp|hp
    ·exact List.mem_append_left _ hp
    ·exact List.mem_append_right _ (List.mem_cons_of_mem _ hp)
   have hset:(listed.setIfInBounds x.i true).getD x.i false=true:=by simp[Array.getD,hl.sz,hlt]
   have hnx:x∉A++B:=fun h=>by
    rcases List.mem_append.1 h with h|h
    ·have:=hAx x h;omega
    ·have:=hxB x h;omega
   refine ih (listed:=listed.setIfInBounds x.i true) (L:=A++B) ?_ ⟨by simp[hl.sz],?_,fun p hp=>hl.sub p (hmemAB p hp),?_,?_,?_,hrest,?_,?_,by rw[qM];exact hl.n⟩ hs'
   ·have:=(Cb (f:=(listed.getD · false)) (g:=((listed.setIfInBounds x.i true).getD · false)) hu hset (fun j hj=>getD_set_ne false hj) ops.size).1 hlt;omega
   ·exact List.pairwise_append.2 ⟨hpw'.1,(List.pairwise_cons.1 hpw'.2.1).2,fun u hu v hv=>hpw'.2.2 u hu v (List.mem_cons_of_mem _ hv)⟩
   ·intro j hj hUj;by_cases hjx:x.i=j
    ·subst hjx;rw[hset];simp only[Bool.true_eq_false,false_iff,not_exists,not_and];intro p hp e;rcases List.mem_append.1 hp with hp|hp
     ·have:=hAx p hp;omega
     ·have:=hxB p hp;omega
    ·rw[getD_set_ne false hjx,hl.li j hj hUj];constructor
     ·rintro⟨p,hp,e⟩;refine⟨p,?_,e⟩;rcases List.mem_append.1 hp with hp|hp
      ·exact List.mem_append_left _ hp
      ·rcases List.mem_cons.1 hp with rfl|hp
       ·exact absurd e hjx
       ·exact List.mem_append_right _ hp
     ·rintro⟨p,hp,e⟩;exact⟨p,hmemAB p hp,e⟩
   ·intro j hj hUj;rw[getD_set_ne false (by rintro rfl;rw[hUi]at hUj;cases hUj)];exact hl.un j hj hUj
   ·intro j o hj hl' e he hb;by_cases hjx:x.i=j
    ·subst hjx;obtain rfl:oi=o:=by rw[hj]at hoi;exact(O_ hoi).symm
     exact getD_set_true (hready e (by simpa using he) hb)
    ·rw[getD_set_ne false hjx]at hl';exact getD_set_true (hl.cl j o hj hl' e he hb)
   ·intro hB;cases hlx:late x.i with
    |true=>exact absurd (hB x inx hlx) hnx
    |false=>
     have hr:=hl.runB (fun p hp h=>hmemAB p (hB p hp h));rw[List.filter_append,List.filter_cons,if_pos (by simp[hlx])]at hr;rw[List.filter_append];exact(front (fun p hp=>(List.mem_filter.1 hp).1) (fun p hp=>(List.mem_filter.1 hp).1) (hpw'.1.filter _) hr).2
   ·intro p hp d hcr;refine(hl.nr p (hmemAB p hp) d hcr).apply ?_;rcases List.mem_append.1 hp with hp'|hp'
    ·exact hI.nr x inx p (inA p hp') (by have:=hAx p hp';omega) (hAn p hp') d hcr
    ·exact hI.nr x inx p (inB p hp') (by have:=hxB p hp';omega) (bit_lt x.i p.i (by have:=hxB p hp';omega) hlt) d hcr

theorem zp{L:List Item1}{σ σf:St}(h:zm P L σ σf):zm P (L.filter fun p=>!false) σ σf:=by
 have e:L.filter (fun p=>!false)=L:=List.filter_eq_self.2 (fun _ _=>rfl);rw[e];exact h
theorem zq{ops:Array Oper}{vs rest:List VOper}(hc:bO P ops ops.toList=some (vs++rest)){σ σf:St}{es:List Eff}(hs:jp P vs σ es σf)(hg:∀p∈iB 0 vs es,∀d,jH p.e d->ez d σ){late:Nat->Bool}{σB:St}(hB:zm P ((iB 0 vs es).filter fun p=>!late p.i) σ σB):Lst P ops (iB 0 vs es) (fun i=>decide (vs.length<=i)) late σ.n σf σB (Array.replicate ops.size false) (iB 0 vs es) σ:=by
 obtain⟨hrun,hidx,hel⟩:=ge 0 hs;refine⟨by simp,?_,fun _ h=>h,fun j hj hU=>?_,fun j _ _=>Ca _ _,fun j o _ hl=>?_,hrun,fun _=>hB,hg,rfl⟩
 ·have:((iB 0 vs es).map (·.i)).Pairwise (· < ·):=by rw[hidx];exact List.pairwise_lt_range'
  exact List.pairwise_map.1 this
 ·rw[Ca];simp only[true_iff];have:j∈(iB 0 vs es).map (·.i):=by rw[hidx];simp at hU;simp;omega
  obtain⟨p,hp,e⟩:=List.mem_map.1 this;exact⟨p,hp,e⟩
 ·rw[Ca]at hl;cases hl
theorem Ce{vs rest:List VOper}{es:List Eff}(hel:es.length=vs.length){p:Item1}(hp:p∈iB 0 vs es):(vs++rest)[p.i]?=some p.o/\es[p.i]?=some p.e/\p.i<vs.length/\p.o∈vs:=by
 obtain⟨_,h1,h2⟩:=zn hel hp;simp only[Nat.sub_zero]at h1 h2;have hlt:=(List.getElem?_eq_some_iff.1 h1).1;exact⟨(List.getElem?_append_left hlt).trans h1,h2,hlt,List.mem_of_getElem? h1⟩
theorem Bt(f:Nat->Bool):∀n,sJ f n<=n
 |0=>Nat.le_refl _
 |n+1=>by have:=Bt f n;simp only[sJ];split<;>omega

theorem Cf{ops:Array Oper}{vs:List VOper}(hc:bO P ops ops.toList=some vs){fJ makes:List (Nat×Nat)}(hp:iA ops vs.toArray=some (fJ,makes)){σ:St}{a:Act}{w:World}(h:cE w0 S0 M σ a w)
  (hd:∀v∈vs,∀d,v.dst=some d->d<σ.n) {es:List Eff} {σf:St} (hs:jp P vs σ es σf) (hk:sI σ fJ makes es=true)
  {Q:Exit->Act->World->Prop} (hQ:∀a' w',cE w0 S0 M σf a' w'->Q .normal a' w'):wpAny P .any ops Q ops.size (Array.replicate ops.size false) a w:=by
 have hc':bO P ops ops.toList=some (vs++[]):=by rw[List.append_nil];exact hc
 have hel:=(ge 0 hs).2.2;have hat:=fun p (hp:p∈iB 0 vs es)=>Ce (rest:=[]) hel hp
 have hn:vs.length=ops.size:=by have:=(cQ hc).1;simpa using this
 obtain⟨hI,hg⟩:=GT (sel:=fun _=>true) (σ:=σ) hc hp (fun p h=>by have:=(hat p h).1;rwa[List.append_nil]at this) (qh 0 hs) (by rw[List.filter_eq_self.2 (fun _ _=>rfl),List.filter_eq_self.2 (fun _ _=>rfl)];exact hk) (fun p h=>(hat p h).2.1) (fun _ _ _ _=>rfl)
 exact GU (sK hp) hI (fun p hp=>by simp[(hat p hp).2.2.1]) (fun p hp=>hd p.o (hat p hp).2.2.2)
  (fun fuel listed L σ1 a w i _ _ hU hi=>by simp at hU;omega) (fun _=>hQ) ops.size (Bt _ _) (zq (late:=fun _=>false) (σB:=σf) hc' hs hg (zp (ge 0 hs).1)) h

def uW:List VOper->Bool
 |[]=>true
 |[_]=>true
 |x::r=>(match x.dst with
  |some d=>r.any fun y=>y.slots.contains d
  |none=>false)&&uW r
theorem wL:∀ {l:List VOper},uW l=true->∀i x,l[i]?=some x->i+1<l.length->∃j y d,i<j/\l[j]?=some y/\x.dst=some d/\d∈y.slots
 |[],_,i,x,hx,_=>by simp at hx
 |[_],_,i,x,_,hi=>by simp at hi
 |u::v::r,h,i,x,hx,hi=>by
  simp only[uW,Bool.and_eq_true]at h;cases i with
  |zero=>
   simp only[List.getElem?_cons_zero,E_]at hx;subst hx;have h1:=h.1;split at h1
   ·next d hd=>
    obtain⟨y,hy,hc⟩:=List.any_eq_true.1 h1;obtain⟨j,hj⟩:=List.getElem?_of_mem hy;exact⟨j+1,y,d,by omega,by simpa using hj,hd,by simpa using hc⟩
   ·simp at h1
  |succ i=>
   obtain⟨j,y,d,h1,h2,h3,h4⟩:=wL h.2 i x (by simpa using hx) (by simpa using hi);exact⟨j+1,y,d,by omega,by simpa using h2,h3,h4⟩

theorem IF{ops:Array Oper}{vs rest:List VOper}{last:VOper}(hc:bO P ops ops.toList=some (vs++last::rest)){fJ makes:List (Nat×Nat)}(hp:iA ops (vs++last::rest).toArray=some (fJ,makes))(hflow:uW (vs++[last])=true){listed:Array Bool}
  (hcl:∀j o,ops[j]?=some o->listed.getD j false=true->∀e∈o.after.toList,Region.binds .any e=true->listed.getD e.on false=true)
  (hl:∀b,((Region.before ops).getD vs.length 0).testBit b=true->listed.getD b false=true):∀(k p:Nat),p<vs.length->vs.length<=p+k->listed.getD p false=true:=by
 intro k
 induction k with
 |zero=>intro p h1 h2;omega
 |succ k ihk=>
  intro p hpv hk';have hx:(vs++[last])[p]?=some vs[p]:=by rw[List.getElem?_append_left hpv];simp[hpv]
  obtain⟨q,y,d,h1,h2,h3,h4⟩:=wL hflow p vs[p] hx (by simp;omega);have hq:=(List.getElem?_eq_some_iff.1 h2).1
  have hup:∀ {i:Nat} {y:VOper},(vs++[last])[i]?=some y->(vs++last::rest)[i]?=some y:=fun {i y} hi=>by
   rw[show vs++last::rest=(vs++[last])++rest by simp];exact(List.getElem?_append_left (List.getElem?_eq_some_iff.1 hi).1).trans hi
  have hbit:=Cd hc hp h1 (hup hx) (hup h2) h3 h4;simp at hq;rcases Nat.lt_or_ge q vs.length with hq'|hq'
  ·obtain⟨o,ho,_,_⟩:=qO hc (hup h2);exact uV (sK hp) hcl (q+1) q o (by omega) ho (hcl q o ho (ihk q hq' (by omega))) p hbit
  ·obtain rfl:q=vs.length:=by omega
   exact hl p hbit

theorem IG{ops:Array Oper}{vs:List VOper}{last:VOper}(hc:bO P ops ops.toList=some (vs++[last])){fJ makes:List (Nat×Nat)}(hp:iA ops (vs++[last]).toArray=some (fJ,makes))(hflow:uW (vs++[last])=true){σ:St}{a:Act}{w:World}(h:cE w0 S0 M σ a w)
  (hd:∀v∈vs,∀d,v.dst=some d->d<σ.n) {es:List Eff} {σf:St} (hs:jp P vs σ es σf) (hk:sI σ (fJ.filter fun p=>decide (p.1<vs.length)&&decide (p.2<vs.length)) (makes.filter fun p=>decide (p.1<vs.length)&&decide (p.2<vs.length)) es=true)
  {Q:Exit->Act->World->Prop} (hQ:∀(N:Act->World->Prop),(∀a' w',Q .normal a' w'->N a' w')->∀a' w',cE w0 S0 M σf a' w'->wpOp P ops Q vs.length N a' w'):wpAny P .any ops Q ops.size (Array.replicate ops.size false) a w:=by
 have hel:=(ge 0 hs).2.2;have hat:=fun p (hp:p∈iB 0 vs es)=>Ce (rest:=[last]) hel hp
 have hn:vs.length+1=ops.size:=by have:=(cQ hc).1;simpa using this
 obtain⟨hI,hg⟩:=GT hc hp (fun p h=>(hat p h).1) (qh 0 hs) hk (fun p h=>(hat p h).2.1) (fun p hp x hx=>by simp[(hat p hp).2.2.1,(hat x hx).2.2.1])
 refine GU (sK hp) hI (fun p hp=>by simp[(hat p hp).2.2.1]) (fun p hp=>hd p.o (hat p hp).2.2.2)
  (fun fuel listed L σ1 a w i _ hl hU hi hb _ hsim=>?_) (fun hE=>?_) ops.size (Bt _ _) (zq (late:=fun _=>false) (σB:=σf) hc hs hg (zp (ge 0 hs).1)) h
 ·obtain rfl:i=vs.length:=by simp at hU;omega
  have hall:=IF hc hp hflow hl.cl hb vs.length
  have hL:L=[]:=by
   cases L with
   |nil=>rfl
   |cons p L=>
    exfalso;have h3:=(hat p (hl.sub p (by simp))).2.2.1;have:=(hl.li p.i (by omega) (by simp[h3])).2 ⟨p,by simp,rfl⟩;rw[hall p.i h3 (by omega)]at this;cases this
  subst hL;refine hQ _ (fun a' w' hq=>Cc (fun j hj=>?_) hq fuel) a w (hsim.congr hl.run);by_cases hj':vs.length=j
  ·subst hj';have:=hl.sz;simp[Array.getD];omega
  ·rw[getD_set_ne false hj'];exact hall j (by omega) (by omega)
 ·exact absurd (hE vs.length (by omega)) (by simp)
end
end Go.Vs
set_option linter.unusedVariables false
set_option linter.unusedSimpArgs false
namespace Go.Vs

def ren(ρ:List (Nat×Nat))(i:Nat):Nat:=(ac ρ i).getD i
mutual
def SV.ren(ρ:List (Nat×Nat)):SV->SV
 |.undef=>.undef
 |.val v=>.val v
 |.nils=>.nils
 |.full rows=>.full rows
 |.own id ver=>.own (Vs.ren ρ id) ver
 |.loc id off=>.loc (Vs.ren ρ id) off
 |.eloc id ver i off=>.eloc (Vs.ren ρ id) ver i off
 |.view id ver lo hi=>.view (Vs.ren ρ id) ver lo hi
 |.agg cells=>.agg (qi ρ cells)
 |.clo f caps=>.clo f (qi ρ caps)
 |.tup caps=>.tup (qi ρ caps)
 |.ifc t v=>.ifc t (v.ren ρ)
 |.anyB=>.anyB
 |.selfN id t nn=>.selfN (Vs.ren ρ id) t nn
 |.ownT id v t=>.ownT (Vs.ren ρ id) v t
 |.itr id=>.itr (Vs.ren ρ id)
def qi(ρ:List (Nat×Nat)):List SV->List SV
 |[]=>[]
 |x::r=>x.ren ρ::qi ρ r
end
def Ob.ren(ρ:List (Nat×Nat)):Ob->Ob
 |.box cells=>.box (qi ρ cells)
 |.arr ver s rows=>.arr ver s rows
 |.iter s p=>.iter s p
def Wl(ρ:List (Nat×Nat)):List (Nat×Ob)->List (Nat×Ob)
 |[]=>[]
 |(i,o)::r=>(Vs.ren ρ i,o.ren ρ)::Wl ρ r

/- The rX that a value holds, all in a list of them. -/
mutual
def SV.inKeys{α:Type}(l:List (Nat×α)):SV->Bool
 |.own id _=>(ac l id).isSome
 |.loc id _=>(ac l id).isSome
 |.selfN id t nn=>(ac l id).isSome
 |.ownT id _ _=>(ac l id).isSome
 |.itr id=>(ac l id).isSome
 |.eloc id _ _ _=>(ac l id).isSome
 |.view id _ _ _=>(ac l id).isSome
 |.agg cells=>ng l cells
 |.clo _ caps=>ng l caps
 |.tup caps=>ng l caps
 |.ifc _ v=>v.inKeys l
 |_=>true
def ng{α:Type}(l:List (Nat×α)):List SV->Bool
 |[]=>true
 |x::r=>x.inKeys l&&ng l r
end
def Ob.inKeys{α:Type}(l:List (Nat×α)):Ob->Bool
 |.box cells=>ng l cells
 |.arr _ _ _=>true
 |.iter _ _=>true
def Bu{α:Type}(l:List (Nat×α)):List (Nat×Ob)->Bool
 |[]=>true
 |(_,o)::r=>o.inKeys l&&Bu l r

section
variable {w:World} {S:aO} {μ μ':Nat->Value} {objs objs':List (Nat×Ob)} {ρ:List (Nat×Nat)}

/- From the caller's rX to the callee's. -/
mutual
theorem ar.unren(hl:∀i o,ac objs' i=some o->ac objs (Vs.ren ρ i)=some (o.ren ρ))(hm:∀i o,ac objs' i=some o->μ' i=μ (Vs.ren ρ i)):∀(x:SV) (v:Value),ar w S μ objs (x.ren ρ) v->ar w S μ' objs' x v
 |.undef,_,h=>h
 |.val _,_,h=>h
 |.nils,_,h=>h
 |.full _,_,h=>h
 |.own id ver,v,h=>by
  intro cv s rows hc;have:=h cv s rows (hl _ _ hc);rw[hm _ _ hc];exact this
 |.ownT id ver t,v,⟨h,h'⟩=>by
  refine⟨?_,h'⟩;intro cv s rows hc;have:=h cv s rows (hl _ _ hc);rw[hm _ _ hc];exact this
 |.loc id off,v,h=>by
  intro cells hc;have:=h _ (hl _ _ hc);rw[hm _ _ hc];exact this
 |.eloc id ver i off,v,h=>by
  intro cv s rows hc;have:=h cv s rows (hl _ _ hc);rw[hm _ _ hc];exact this
 |.view id ver lo hi,v,h=>by
  intro cv s rows hc;have:=h cv s rows (hl _ _ hc);rw[hm _ _ hc];exact this
 |.agg cells,v,⟨vs,h1,h2⟩=>⟨vs,h1,aj.unren hl hm cells _ h2⟩
 |.clo f caps,v,⟨vs,h1,h2⟩=>⟨vs,h1,aQ.unren hl hm caps _ h2⟩
 |.tup caps,v,⟨vs,h1,h2⟩=>⟨vs,h1,aQ.unren hl hm caps _ h2⟩
 |.ifc t x,v,⟨u,h1,h2⟩=>⟨u,h1,ar.unren hl hm x u h2⟩
 |.anyB,v,h=>h
 |.selfN id t nn,v,h=>by
  intro cells hc;have:=h _ (hl _ _ hc);rw[hm _ _ hc];exact this
 |.itr id,v,h=>by
  intro s p hc;have:=h s p (hl _ _ hc);rw[hm _ _ hc];exact this
theorem aQ.unren(hl:∀i o,ac objs' i=some o->ac objs (Vs.ren ρ i)=some (o.ren ρ))(hm:∀i o,ac objs' i=some o->μ' i=μ (Vs.ren ρ i)):∀(x:List SV) (v:List Value),aQ w S μ objs (qi ρ x) v->aQ w S μ' objs' x v
 |[],_,h=>h
 |x::xs,v,⟨u,us,h1,h2,h3⟩=>⟨u,us,h1,ar.unren hl hm x u h2,aQ.unren hl hm xs us h3⟩
theorem aj.unren(hl:∀i o,ac objs' i=some o->ac objs (Vs.ren ρ i)=some (o.ren ρ))(hm:∀i o,ac objs' i=some o->μ' i=μ (Vs.ren ρ i)):∀(x:List SV) (v:List Value),aj w S μ objs (qi ρ x) v->aj w S μ' objs' x v
 |[],_,h=>h
 |x::xs,v,⟨u,us,h1,h0,h2,h3⟩=>⟨u,us,h1,h0,ar.unren hl hm x u h2,aj.unren hl hm xs us h3⟩
end

/- And back: the callee's are 'objs', the caller's 'objs''. -/
mutual
theorem ar.renamed(hl:∀i o,ac objs i=some o->ac objs' (Vs.ren ρ i)=some (o.ren ρ))(hm:∀i o,ac objs i=some o->μ' (Vs.ren ρ i)=μ i):∀(x:SV) (v:Value),x.inKeys objs=true->ar w S μ objs x v->ar w S μ' objs' (x.ren ρ) v
 |.undef,_,_,h=>h
 |.val _,_,_,h=>h
 |.nils,_,_,h=>h
 |.full _,_,_,h=>h
 |.own id ver,v,hk,h=>by
  obtain⟨o,ho⟩:=Option.isSome_iff_exists.1 hk;intro cv s rows hc;have h1:=hl _ _ ho;rw[hc]at h1;have h2:=hm _ _ ho;cases o with
  |box c=>simp[Ob.ren]at h1
  |iter=>simp[Ob.ren]at h1
  |arr a b c=>
   simp only[Ob.ren,E_,Ob.arr.injEq]at h1;obtain⟨rfl,rfl,rfl⟩:=h1;rw[h2];exact h _ _ _ ho
 |.ownT id ver t,v,hk,⟨h,h'⟩=>by
  refine⟨?_,h'⟩;obtain⟨o,ho⟩:=Option.isSome_iff_exists.1 hk;intro cv s rows hc;have h1:=hl _ _ ho;rw[hc]at h1;have h2:=hm _ _ ho;cases o with
  |box c=>simp[Ob.ren]at h1
  |iter=>simp[Ob.ren]at h1
  |arr a b c=>
   simp only[Ob.ren,E_,Ob.arr.injEq]at h1;obtain⟨rfl,rfl,rfl⟩:=h1;rw[h2];exact h _ _ _ ho
 |.loc id off,v,hk,h=>by
  obtain⟨o,ho⟩:=Option.isSome_iff_exists.1 hk;intro cells hc;have h1:=hl _ _ ho;rw[hc]at h1;have h2:=hm _ _ ho;cases o with
  |box c=>rw[h2];exact h _ ho
  |arr a b c=>simp[Ob.ren]at h1
  |iter=>simp[Ob.ren]at h1
 |.eloc id ver i off,v,hk,h=>by
  obtain⟨o,ho⟩:=Option.isSome_iff_exists.1 hk;intro cv s rows hc;have h1:=hl _ _ ho;rw[hc]at h1;have h2:=hm _ _ ho;cases o with
  |box c=>simp[Ob.ren]at h1
  |iter=>simp[Ob.ren]at h1
  |arr a b c=>
   simp only[Ob.ren,E_,Ob.arr.injEq]at h1;obtain⟨rfl,rfl,rfl⟩:=h1;rw[h2];exact h _ _ _ ho
 |.view id ver lo hi,v,hk,h=>by
  obtain⟨o,ho⟩:=Option.isSome_iff_exists.1 hk;intro cv s rows hc;have h1:=hl _ _ ho;rw[hc]at h1;have h2:=hm _ _ ho;cases o with
  |box c=>simp[Ob.ren]at h1
  |iter=>simp[Ob.ren]at h1
  |arr a b c=>
   simp only[Ob.ren,E_,Ob.arr.injEq]at h1;obtain⟨rfl,rfl,rfl⟩:=h1;rw[h2];exact h _ _ _ ho
 |.agg cells,v,hk,⟨vs,h1,h2⟩=>⟨vs,h1,aj.renamed hl hm cells _ hk h2⟩
 |.clo f caps,v,hk,⟨vs,h1,h2⟩=>⟨vs,h1,aQ.renamed hl hm caps _ hk h2⟩
 |.tup caps,v,hk,⟨vs,h1,h2⟩=>⟨vs,h1,aQ.renamed hl hm caps _ hk h2⟩
 |.ifc t x,v,hk,⟨u,h1,h2⟩=>⟨u,h1,ar.renamed hl hm x u hk h2⟩
 |.anyB,v,_,h=>h
 |.selfN id t nn,v,hk,h=>by
  obtain⟨o,ho⟩:=Option.isSome_iff_exists.1 hk;intro cells hc;have h1:=hl _ _ ho;rw[hc]at h1;have h2:=hm _ _ ho;cases o with
  |box c=>rw[h2];exact h _ ho
  |arr a b c=>simp[Ob.ren]at h1
  |iter=>simp[Ob.ren]at h1
 |.itr id,v,hk,h=>by
  obtain⟨o,ho⟩:=Option.isSome_iff_exists.1 hk;intro s p hc;have h1:=hl _ _ ho;rw[hc]at h1;have h2:=hm _ _ ho;cases o with
  |box c=>simp[Ob.ren]at h1
  |arr a b c=>simp[Ob.ren]at h1
  |iter a b=>rw[h2];exact h _ _ ho
theorem aQ.renamed(hl:∀i o,ac objs i=some o->ac objs' (Vs.ren ρ i)=some (o.ren ρ))(hm:∀i o,ac objs i=some o->μ' (Vs.ren ρ i)=μ i):∀(x:List SV) (v:List Value),ng objs x=true->aQ w S μ objs x v->aQ w S μ' objs' (qi ρ x) v
 |[],_,_,h=>h
 |x::xs,v,hk,⟨u,us,h1,h2,h3⟩=>by
  simp only[ng,Bool.and_eq_true]at hk;exact⟨u,us,h1,ar.renamed hl hm x u hk.1 h2,aQ.renamed hl hm xs us hk.2 h3⟩
theorem aj.renamed(hl:∀i o,ac objs i=some o->ac objs' (Vs.ren ρ i)=some (o.ren ρ))(hm:∀i o,ac objs i=some o->μ' (Vs.ren ρ i)=μ i):∀(x:List SV) (v:List Value),ng objs x=true->aj w S μ objs x v->aj w S μ' objs' (qi ρ x) v
 |[],_,_,h=>h
 |x::xs,v,hk,⟨u,us,h1,h0,h2,h3⟩=>by
  simp only[ng,Bool.and_eq_true]at hk;exact⟨u,us,h1,h0,ar.renamed hl hm x u hk.1 h2,aj.renamed hl hm xs us hk.2 h3⟩
end

/- What the caller holds itself: objects have turned as far as 'SVRel.same' lets them, and new rX have come. -/
mutual
def SV.clear(D:Nat->Bool):SV->Bool
 |.own id _=>!D id
 |.loc id _=>!D id
 |.selfN id t nn=>!D id
 |.ownT id _ _=>!D id
 |.itr id=>!D id
 |.eloc id _ _ _=>!D id
 |.view id _ _ _=>!D id
 |.agg cells=>nX D cells
 |.clo _ caps=>nX D caps
 |.tup caps=>nX D caps
 |.ifc _ v=>v.clear D
 |_=>true
def nX(D:Nat->Bool):List SV->Bool
 |[]=>true
 |x::r=>x.clear D&&nX D r
end
def GV(D:Nat->Bool):List (Nat×SV)->Bool
 |[]=>true
 |(_,x)::r=>x.clear D&&GV D r
def Ob.clear(D:Nat->Bool):Ob->Bool
 |.box cells=>nX D cells
 |.arr _ _ _=>true
 |.iter _ _=>true
def GW(D:Nat->Bool):List (Nat×Ob)->Bool
 |[]=>true
 |(_,x)::r=>x.clear D&&GW D r
theorem Cg{D:Nat->Bool} : ∀ {l:List (Nat×SV)},GV D l=true->∀k,(aC l k).clear D=true
 |[],_,_=>rfl
 |(j,x)::r,h,k=>by
  simp only[GV,Bool.and_eq_true]at h;simp only[aC,ac];cases j==k
  ·exact Cg h.2 k
  ·exact h.1
theorem Ch{D:Nat->Bool} : ∀ {l:List (Nat×Ob)},GW D l=true->∀k o,ac l k=some o->o.clear D=true
 |[],_,_,_,h=>by simp[ac]at h
 |(j,x)::r,h,k,o,hl=>by
  simp only[GW,Bool.and_eq_true]at h;simp only[ac]at hl;cases hj:j==k
  ·rw[hj]at hl;exact Ch h.2 k o hl
  ·rw[hj]at hl;simp at hl;subst hl;exact h.1
mutual
theorem ar.step{D:Nat->Bool}
  (hb:∀id cells,D id=false->ac objs' id=some (.box cells)->∃cells',ac objs id=some (.box cells')/\μ' id=μ id)
  (ha:∀id cv s rows,D id=false->ac objs' id=some (.arr cv s rows)->∃cv' rows',ac objs id=some (.arr cv' s rows')/\cv'<=cv/\(cv'=cv->rows'.length=rows.length/\μ' id=μ id))
  (hi:∀id s p,D id=false->ac objs' id=some (.iter s p)->∃s' p',ac objs id=some (.iter s' p')/\μ' id=μ id) :
  ∀(x:SV) (v:Value),x.clear D=true->ar w S μ objs x v->ar w S μ' objs' x v
 |.undef,v,_,h=>h
 |.val x,v,_,h=>h
 |.nils,v,_,h=>h
 |.full rows,v,_,h=>h
 |.own id ver,v,hd,h=>by
  have hd:D id=false:=by simpa[SV.clear]using hd
  intro cv s rows hl;obtain⟨cv',rows',h1,h2,h5⟩:=ha id cv s rows hd hl;obtain⟨h3,h4⟩:=h _ _ _ h1;exact⟨Nat.le_trans h3 h2,fun e=>by rw[(h5 (by omega)).2];exact h4 (by omega)⟩
 |.ownT id ver t,v,hd,⟨h,h'⟩=>by
  refine⟨?_,h'⟩;have hd:D id=false:=by simpa[SV.clear]using hd
  intro cv s rows hl;obtain⟨cv',rows',h1,h2,h5⟩:=ha id cv s rows hd hl;obtain⟨h3,h4⟩:=h _ _ _ h1;exact⟨Nat.le_trans h3 h2,fun e=>by rw[(h5 (by omega)).2];exact h4 (by omega)⟩
 |.loc id off,v,hd,h=>by
  have hd:D id=false:=by simpa[SV.clear]using hd
  intro cells hl;obtain⟨cells',h1,h2⟩:=hb id cells hd hl;rw[h2];exact h _ h1
 |.eloc id ver i off,v,hd,h=>by
  have hd:D id=false:=by simpa[SV.clear]using hd
  intro cv s rows hl;obtain⟨cv',rows',h1,h2,h5⟩:=ha id cv s rows hd hl;obtain⟨h3,h4⟩:=h _ _ _ h1;refine⟨Nat.le_trans h3 h2,fun e=>?_⟩;obtain⟨b,cap,h6,h7⟩:=h4 (by omega);obtain⟨h8,h9⟩:=h5 (by omega);exact⟨b,cap,by rw[h9,h6,h8],h7⟩
 |.view id ver lo hi,v,hd,h=>by
  have hd:D id=false:=by simpa[SV.clear]using hd
  intro cv s rows hl;obtain⟨cv',rows',h1,h2,h5⟩:=ha id cv s rows hd hl;obtain⟨h3,h4⟩:=h _ _ _ h1;refine⟨Nat.le_trans h3 h2,fun e=>?_⟩;obtain⟨g1,g2,x,cap,y,g3,g4⟩:=h4 (by omega);obtain⟨h8,h9⟩:=h5 (by omega);exact⟨g1,by omega,x,cap,y,by rw[h9,g3,h8],by rw[<-h8];exact g4⟩
 |.agg cells,v,hd,⟨vs,h1,h2⟩=>⟨vs,h1,aj.step hb ha hi cells _ hd h2⟩
 |.clo f caps,v,hd,⟨vs,h1,h2⟩=>⟨vs,h1,aQ.step hb ha hi caps _ hd h2⟩
 |.tup caps,v,hd,⟨vs,h1,h2⟩=>⟨vs,h1,aQ.step hb ha hi caps _ hd h2⟩
 |.ifc t x,v,hd,⟨u,h1,h2⟩=>⟨u,h1,ar.step hb ha hi x u hd h2⟩
 |.anyB,v,_,h=>h
 |.selfN id t nn,v,hd,h=>by
  have hd:D id=false:=by simpa[SV.clear]using hd
  intro cells hl;obtain⟨cells',h1,h2⟩:=hb id cells hd hl;rw[h2];exact h _ h1
 |.itr id,v,hd,h=>by
  have hd:D id=false:=by simpa[SV.clear]using hd
  intro s p hl;obtain⟨s',p',h1,h2⟩:=hi id s p hd hl;rw[h2];exact h _ _ h1
theorem aQ.step{D:Nat->Bool}
  (hb:∀id cells,D id=false->ac objs' id=some (.box cells)->∃cells',ac objs id=some (.box cells')/\μ' id=μ id)
  (ha:∀id cv s rows,D id=false->ac objs' id=some (.arr cv s rows)->∃cv' rows',ac objs id=some (.arr cv' s rows')/\cv'<=cv/\(cv'=cv->rows'.length=rows.length/\μ' id=μ id))
  (hi:∀id s p,D id=false->ac objs' id=some (.iter s p)->∃s' p',ac objs id=some (.iter s' p')/\μ' id=μ id) :
  ∀(x:List SV) (v:List Value),nX D x=true->aQ w S μ objs x v->aQ w S μ' objs' x v
 |[],v,_,h=>h
 |x::xs,v,hd,⟨u,us,h1,h2,h3⟩=>by
  simp only[nX,Bool.and_eq_true]at hd;exact⟨u,us,h1,ar.step hb ha hi x u hd.1 h2,aQ.step hb ha hi xs us hd.2 h3⟩
theorem aj.step{D:Nat->Bool}
  (hb:∀id cells,D id=false->ac objs' id=some (.box cells)->∃cells',ac objs id=some (.box cells')/\μ' id=μ id)
  (ha:∀id cv s rows,D id=false->ac objs' id=some (.arr cv s rows)->∃cv' rows',ac objs id=some (.arr cv' s rows')/\cv'<=cv/\(cv'=cv->rows'.length=rows.length/\μ' id=μ id))
  (hi:∀id s p,D id=false->ac objs' id=some (.iter s p)->∃s' p',ac objs id=some (.iter s' p')/\μ' id=μ id) :
  ∀(x:List SV) (v:List Value),nX D x=true->aj w S μ objs x v->aj w S μ' objs' x v
 |[],v,_,h=>h
 |x::xs,v,hd,⟨u,us,h1,h0,h2,h3⟩=>by
  simp only[nX,Bool.and_eq_true]at hd;exact⟨u,us,h1,h0,ar.step hb ha hi x u hd.1 h2,aj.step hb ha hi xs us hd.2 h3⟩
end
end

/- No memory behind a value, but objects that are named. -/
mutual
def SV.flat:SV->Bool
 |.val v=>v.flat
 |.full _=>false
 |.selfN _ _ _=>false
 |.ownT _ _ _=>false
 |.agg cells=>SV.flatL cells
 |.clo _ caps=>SV.flatL caps
 |.tup caps=>SV.flatL caps
 |.ifc _ v=>v.flat
 |_=>true
def SV.flatL:List SV->Bool
 |[]=>true
 |x::r=>x.flat&&SV.flatL r
end
def Ob.flat:Ob->Bool
 |.box cells=>SV.flatL cells
 |.arr _ _ rows=>nU rows
 |.iter _ _=>true
def IH:List (Nat×Ob)->Bool
 |[]=>true
 |(_,o)::r=>o.flat&&IH r
theorem FE:∀ {l:List (Nat×Ob)},IH l=true->∀k o,ac l k=some o->o.flat=true
 |[],_,_,_,h=>by simp[ac]at h
 |(j,x)::r,h,k,o,hl=>by
  simp only[IH,Bool.and_eq_true]at h;simp only[ac]at hl;cases hj:j==k
  ·rw[hj]at hl;exact FE h.2 k o hl
  ·rw[hj]at hl;simp at hl;subst hl;exact h.1
mutual
theorem SV.flat_rel{w w':World}{S S':aO}{μ:Nat->Value}{objs:List (Nat×Ob)} : ∀(x:SV) (v:Value),x.flat=true->ar w S μ objs x v->ar w' S' μ objs x v
 |.undef,_,_,h=>h
 |.val x,v,hf,h=>IV.flat_rep x v hf h
 |.nils,_,_,h=>h
 |.full rows,_,hf,_=>by simp[SV.flat]at hf
 |.own _ _,_,_,h=>h
 |.loc _ _,_,_,h=>h
 |.eloc _ _ _ _,_,_,h=>h
 |.view _ _ _ _,_,_,h=>h
 |.agg cells,v,hf,⟨vs,h1,h2⟩=>⟨vs,h1,SV.flat_ones cells _ hf h2⟩
 |.clo f caps,v,hf,⟨vs,h1,h2⟩=>⟨vs,h1,SV.flat_list caps _ hf h2⟩
 |.tup caps,v,hf,⟨vs,h1,h2⟩=>⟨vs,h1,SV.flat_list caps _ hf h2⟩
 |.ifc t x,v,hf,⟨u,h1,h2⟩=>⟨u,h1,SV.flat_rel x u hf h2⟩
 |.anyB,v,_,h=>h
 |.selfN _ _ _,v,hf,h=>by simp[SV.flat]at hf
 |.ownT _ _ _,v,hf,h=>by simp[SV.flat]at hf
 |.itr _,v,_,h=>h
theorem SV.flat_list{w w':World}{S S':aO}{μ:Nat->Value}{objs:List (Nat×Ob)} : ∀(x:List SV) (v:List Value),SV.flatL x=true->aQ w S μ objs x v->aQ w' S' μ objs x v
 |[],_,_,h=>h
 |x::xs,v,hf,⟨u,us,h1,h2,h3⟩=>by
  simp only[SV.flatL,Bool.and_eq_true]at hf;exact⟨u,us,h1,SV.flat_rel x u hf.1 h2,SV.flat_list xs us hf.2 h3⟩
theorem SV.flat_ones{w w':World}{S S':aO}{μ:Nat->Value}{objs:List (Nat×Ob)} : ∀(x:List SV) (v:List Value),SV.flatL x=true->aj w S μ objs x v->aj w' S' μ objs x v
 |[],_,_,h=>h
 |x::xs,v,hf,⟨u,us,h1,h0,h2,h3⟩=>by
  simp only[SV.flatL,Bool.and_eq_true]at hf;exact⟨u,us,h1,h0,SV.flat_rel x u hf.1 h2,SV.flat_ones xs us hf.2 h3⟩
end
theorem bA.flat{w':World}{S S':aO}{μ:Nat->Value}{objs:List (Nat×Ob)}{blk:Option Nat}{mu:Value} : ∀ {o:Ob},o.flat=true->bA w' S μ objs blk mu o->bA w' S' μ objs blk mu o
 |.box cells,hf,⟨b,vs,e,fr,h1,h2,h3,h4,h5⟩=>⟨b,vs,e,fr,h1,h2,h3,h4,SV.flat_ones cells _ hf h5⟩
 |.arr _ _ rows,_,.inl h=>.inl h
 |.arr _ _ rows,hf,.inr ⟨b,cap,vs,e,fr,k1,k2,k3,k4,k5,k6,k7,k8⟩=>.inr ⟨b,cap,vs,e,fr,k1,k2,k3,k4,k5,k6,k7,qK _ _ (lz hf) k8⟩
 |.iter _ _,_,h=>h

def KH(i:Nat):Ob->SV
 |.box _=>.loc i 0
 |.arr ver _ _=>.own i ver
 |.iter _ _=>.itr i

structure MC where
 args:List SV
 objs:List (Nat×Ob)
 res:SV
 objs':List (Nat×Ob)
 ro':List Nat
 ro:List Nat:=[]

def mP(gl:List (Nat×List IV))(P:Program)(k:FuncId)(c:MC):Prop:=
 qf P k/\∀(w:World) (S:aO) (μ:Nat->Value) (β:Nat->Option Nat) (vs:List Value),(∀b o,S b o->b<w.heap.size)->(∀p,p∈gl->gG w S p)->
  aQ w S μ c.objs c.args vs->(∀id o,ac c.objs id=some o->bA w S μ c.objs (β id) (μ id) o)->
  (∀id id' o o' b,ac c.objs id=some o->ac c.objs id'=some o'->β id=some b->β id'=some b->id=id')->
  (∀id o b off,ac c.objs id=some o->β id=some b->S b off->id∈c.ro/\∀ver s rows,o=.arr ver s rows->off<rows.length*s)->
  iJ P k vs.toArray w fun e w'=>∃(v:Value) (S':aO) (μ':Nat->Value) (β':Nat->Option Nat),e=.returned v/\ar w' S' μ' c.objs' c.res v/\
   (∀id o,ac c.objs' id=some o->bA w' S' μ' c.objs' (β' id) (μ' id) o)/\
   (∀id id' o o' b,ac c.objs' id=some o->ac c.objs' id'=some o'->β' id=some b->β' id'=some b->id=id')/\
   (∀id o b,ac c.objs' id=some o->β' id=some b->w.heap.size<=b\/∃i x,ac c.objs i=some x/\β i=some b)/\
   (∀id o b off,ac c.objs' id=some o->β' id=some b->S' b off->id∈c.ro'/\∀ver s rows,o=.arr ver s rows->off<rows.length*s)/\
   (∀b o,S' b o->b<w'.heap.size)/\(∀b o,S b o->S' b o)/\(∀b o,S' b o->S b o\/w.heap.size<=b\/∃i x,ac c.objs i=some x/\β i=some b)/\
   Kept (fun b=>∃i x,ac c.objs i=some x/\β i=some b) w w'/\
   (∀id o,ac c.objs id=some o->ar w' S' μ' c.objs' (KH id o) (μ id))/\
   (∀b o,S b o->w'.cell? ⟨b,o,none⟩=w.cell? ⟨b,o,none⟩)
end Go.Vs
set_option linter.unusedVariables false
set_option linter.unusedSimpArgs false
namespace Go.Vs

def uX(objs:List (Nat×Ob))(ρ:List (Nat×Nat)):List SV->List SV->List Nat->Prop
 |[],[],fz=>fz=[]
 |x::xs,.val iv::ys,fz=>∃f g,xi objs x=some (iv,f)/\uX objs ρ xs ys g/\fz=f++g
 |x::xs,y::ys,fz=>x=y.ren ρ/\uX objs ρ xs ys fz
 |_,_,_=>False
def uY(objs:List (Nat×Ob))(ρ:List (Nat×Nat)):List (Nat×Ob)->Prop
 |[]=>True
 |(i,o)::r=>ac objs (ren ρ i)=some (o.ren ρ)/\uY objs ρ r
theorem qj{objs:List (Nat×Ob)}{ρ:List (Nat×Nat)} : ∀ {l:List (Nat×Ob)},uY objs ρ l->∀i o,ac l i=some o->ac objs (ren ρ i)=some (o.ren ρ)
 |[],_,_,_,h=>by simp[ac]at h
 |(j,x)::r,hm,i,o,h=>by
  simp only[ac]at h;cases hj:j==i
  ·rw[hj]at h;exact qj hm.2 i o h
  ·rw[hj]at h;rw[beq_iff_eq]at hj;simp only[cond_true,E_]at h;subst h;subst hj;exact hm.1

def fy:Ob->Option Ob->Bool
 |.box _,some (.box _)=>true
 |.arr _ s _,some (.arr _ s' _)=>s==s'
 |_,_=>false
def jJ(ρ:List (Nat×Nat))(objs:List (Nat×Ob)):List (Nat×Ob)->Nat->Bool
 |[],_=>false
 |(i,_)::r,id=>((ac objs i).isNone&&ren ρ i==id)||jJ ρ objs r id
def S8(σ:St)(ρ:List (Nat×Nat))(ro:List Nat)(objs':List (Nat×Ob)):List (Nat×Ob)->Bool
 |[]=>true
 |(i,o)::r=>(!σ.ro.contains (ren ρ i)||ro.contains i)&&fy o (ac objs' i)&&S8 σ ρ ro objs' r
def LU(ρ:List (Nat×Nat))(id:Nat):List (Nat×Ob)->Bool
 |[]=>true
 |(j,_)::r=>!(ren ρ j==id)&&LU ρ id r
def Na(ρ:List (Nat×Nat)):List (Nat×Ob)->Bool
 |[]=>true
 |(i,_)::r=>LU ρ (ren ρ i) r&&Na ρ r
def S9(σ:St)(ρ:List (Nat×Nat))(objs:List (Nat×Ob)):List (Nat×Ob)->Bool
 |[]=>true
 |(i,_)::r=>((ac objs i).isSome||((ac σ.objs (ren ρ i)).isNone&&decide (ren ρ i<σ.n)))&&S9 σ ρ objs r
def Ud(ρ:List (Nat×Nat))(fz:List Nat):List (Nat×Ob)->Bool
 |[]=>true
 |(i,_)::r=>!fz.contains (ren ρ i)&&Ud ρ fz r
theorem LV{ρ:List (Nat×Nat)}{fz:List Nat} : ∀ {l:List (Nat×Ob)},Ud ρ fz l=true->∀i o,ac l i=some o->ren ρ i∉fz
 |[],_,_,_,h=>by simp[ac]at h
 |(j,x)::r,hn,i,o,h=>by
  simp only[Ud,Bool.and_eq_true,Bool.not_eq_true']at hn;simp only[ac]at h;cases hj:j==i
  ·rw[hj]at h;exact LV hn.2 i o h
  ·rw[beq_iff_eq]at hj;subst hj;simpa using hn.1
def Ue(σ:St)(ρ:List (Nat×Nat))(c:MC):Bool:=
 S8 σ ρ c.ro c.objs' c.objs&&Na ρ c.objs'&&S9 σ ρ c.objs c.objs'&&GV (jJ ρ c.objs c.objs') σ.env&&GW (jJ ρ c.objs c.objs') σ.objs&&c.res.inKeys c.objs'&&Bu c.objs' c.objs'

def Ez(objs:List (Nat×Ob))(ρ:List (Nat×Nat)):List (Nat×Ob)->List (Nat×Ob)
 |[]=>objs
 |(i,o)::r=>put (Ez objs ρ r) (ren ρ i) (o.ren ρ)
def FF(c:MC):Bool:=c.res.flat&&IH c.objs'
def St.mapply(σ:St)(dst:Option Nat)(ρ:List (Nat×Nat))(c:MC)(fz:List Nat):St:=
 ⟨putD σ.env dst (c.res.ren ρ),Ez σ.objs ρ c.objs',c.ro'.map (ren ρ)++((bif FF c then []else fz)++σ.ro),σ.n,σ.gl⟩

def back(ρ:List (Nat×Nat)):List (Nat×Ob)->Nat->Option Nat
 |[],_=>none
 |(i,_)::r,id=>bif ren ρ i==id then some i else back ρ r id
theorem gf{ρ:List (Nat×Nat)} : ∀ {l:List (Nat×Ob)} {id i:Nat},back ρ l id=some i->ren ρ i=id/\∃o,ac l i=some o
 |[],_,_,h=>by simp[back]at h
 |(j,x)::r,id,i,h=>by
  simp only[back]at h;cases hj:ren ρ j==id
  ·rw[hj]at h;obtain⟨h1,o,h2⟩:=gf h;refine⟨h1,?_⟩;simp only[ac];cases j==i
   ·exact⟨o,h2⟩
   ·exact⟨x,rfl⟩
  ·rw[hj]at h;rw[beq_iff_eq]at hj;simp only[cond_true,E_]at h;subst h;exact⟨hj,x,by simp[ac]⟩
theorem Ci{ρ:List (Nat×Nat)}{id:Nat} : ∀ {l:List (Nat×Ob)},LU ρ id l=true->∀i o,ac l i=some o->ren ρ i≠id
 |[],_,_,_,h=>by simp[ac]at h
 |(j,x)::r,hk,i,o,h=>by
  simp only[LU,Bool.and_eq_true,Bool.not_eq_true',beq_eq_false_iff_ne]at hk;simp only[ac]at h;cases hj:j==i
  ·rw[hj]at h;exact Ci hk.2 i o h
  ·rw[beq_iff_eq]at hj;subst hj;exact hk.1
theorem sL{ρ:List (Nat×Nat)} : ∀ {l:List (Nat×Ob)},Na ρ l=true->∀i o,ac l i=some o->back ρ l (ren ρ i)=some i
 |[],_,_,_,h=>by simp[ac]at h
 |(j,x)::r,hk,i,o,h=>by
  simp only[Na,Bool.and_eq_true]at hk;simp only[ac]at h;simp only[back];cases hj:j==i
  ·rw[hj]at h;have:ren ρ i≠ren ρ j:=Ci hk.1 i o h;have:(ren ρ j==ren ρ i)=false:=by simpa using this.symm
   rw[this];exact sL hk.2 i o h
  ·rw[beq_iff_eq]at hj;subst hj;simp
theorem qk{ρ:List (Nat×Nat)} : ∀ {l:List (Nat×Ob)} {id:Nat},back ρ l id=none->∀i o,ac l i=some o->ren ρ i≠id
 |[],_,_,_,_,h=>by simp[ac]at h
 |(j,x)::r,id,hb,i,o,h=>by
  simp only[back]at hb;cases hj:ren ρ j==id
  ·rw[hj]at hb;simp only[ac]at h;cases hji:j==i
   ·rw[hji]at h;exact qk hb i o h
   ·rw[beq_iff_eq]at hji;subst hji;simpa using hj
  ·rw[hj]at hb;simp at hb
theorem FG{objs:List (Nat×Ob)}{ρ:List (Nat×Nat)} : ∀ {l:List (Nat×Ob)},Na ρ l=true->∀id,ac (Ez objs ρ l) id=match back ρ l id with
  |some i=>(ac l i).map (Ob.ren ρ)
  |none=>ac objs id
 |[],_,_=>rfl
 |(j,x)::r,hk,id=>by
  simp only[Na,Bool.and_eq_true]at hk;simp only[Ez,back];rw[gV];by_cases hj:id=ren ρ j
  ·subst hj;simp[ac]
  ·rw[if_neg hj,FG hk.2];have:(ren ρ j==id)=false:=by simpa using (fun e=>hj e.symm)
   rw[this,cond_false];cases hb:back ρ r id with
   |none=>rfl
   |some i=>
    simp only[ac];obtain⟨h1,o,h2⟩:=gf hb;cases hji:j==i
    ·rfl
    ·exfalso;rw[beq_iff_eq]at hji;subst hji;exact hj h1.symm

theorem nh{ρ:List (Nat×Nat)}{objs:List (Nat×Ob)} : ∀ {l:List (Nat×Ob)} {i:Nat} {o:Ob},ac l i=some o->ac objs i=none->jJ ρ objs l (ren ρ i)=true
 |[],_,_,h,_=>by simp[ac]at h
 |(j,x)::r,i,o,h,hn=>by
  simp only[ac]at h;simp only[jJ,Bool.or_eq_true,Bool.and_eq_true];cases hj:j==i
  ·rw[hj]at h;exact .inr (nh h hn)
  ·rw[beq_iff_eq]at hj;subst hj;left;simp[hn]
theorem Cj{σ:St}{ρ:List (Nat×Nat)}{objs:List (Nat×Ob)} : ∀ {l:List (Nat×Ob)} {id:Nat},S9 σ ρ objs l=true->jJ ρ objs l id=true->id<σ.n
 |[],_,_,h=>by simp[jJ]at h
 |(j,x)::r,id,hn,h=>by
  simp only[S9,Bool.and_eq_true,Bool.or_eq_true,decide_eq_true_eq]at hn;simp only[jJ,Bool.or_eq_true,Bool.and_eq_true,beq_iff_eq]at h;rcases h with⟨h1,rfl⟩|h
  ·rcases hn.1 with h2|h2
   ·cases hl:ac objs j<;>simp[hl]at h1 h2
   ·exact h2.2
  ·exact Cj hn.2 h
theorem iL{σ:St}{ρ:List (Nat×Nat)}{ro:List Nat}{objs':List (Nat×Ob)} : ∀ {l:List (Nat×Ob)},S8 σ ρ ro objs' l=true->∀i o,ac l i=some o->(ren ρ i∈σ.ro->i∈ro)/\fy o (ac objs' i)=true
 |[],_,_,_,h=>by simp[ac]at h
 |(j,x)::r,hn,i,o,h=>by
  simp only[S8,Bool.and_eq_true]at hn;simp only[ac]at h;cases hj:j==i
  ·rw[hj]at h;exact iL hn.2 i o h
  ·rw[hj]at h;rw[beq_iff_eq]at hj;subst hj;simp only[cond_true,E_]at h;subst h;refine⟨fun hm=>?_,hn.1.2⟩;have h1:=hn.1.1;rw[show σ.ro.contains (ren ρ j)=true by simpa using hm]at h1;simpa using h1
theorem Al{l':List (Nat×Ob)} : ∀ {l:List (Nat×Ob)},Bu l' l=true->∀i o,ac l i=some o->o.inKeys l'=true
 |[],_,_,_,h=>by simp[ac]at h
 |(j,x)::r,hn,i,o,h=>by
  simp only[Bu,Bool.and_eq_true]at hn;simp only[ac]at h;cases hj:j==i
  ·rw[hj]at h;exact Al hn.2 i o h
  ·rw[hj]at h;simp only[cond_true,E_]at h;subst h;exact hn.1

mutual
theorem qP{D:Nat->Bool}{n:Nat}(hD:∀i,D i=true->i<n):∀x:SV,(∀d,d<n->x.noRef d=true)->x.clear D=true
 |.undef,_=>rfl
 |.val _,_=>rfl
 |.nils,_=>rfl
 |.full _,_=>rfl
 |.own id _,h=>by
  simp only[SV.clear,Bool.not_eq_true'];cases hd:D id with
  |false=>rfl
  |true=>have:=h id (hD id hd);simp[SV.noRef]at this
 |.loc id _,h=>by
  simp only[SV.clear,Bool.not_eq_true'];cases hd:D id with
  |false=>rfl
  |true=>have:=h id (hD id hd);simp[SV.noRef]at this
 |.eloc id _ _ _,h=>by
  simp only[SV.clear,Bool.not_eq_true'];cases hd:D id with
  |false=>rfl
  |true=>have:=h id (hD id hd);simp[SV.noRef]at this
 |.view id _ _ _,h=>by
  simp only[SV.clear,Bool.not_eq_true'];cases hd:D id with
  |false=>rfl
  |true=>have:=h id (hD id hd);simp[SV.noRef]at this
 |.agg cells,h=>lW hD cells h
 |.clo _ caps,h=>lW hD caps h
 |.tup caps,h=>lW hD caps h
 |.ifc _ v,h=>qP hD v h
 |.anyB,_=>rfl
 |.selfN id t nn,h=>by
  simp only[SV.clear,Bool.not_eq_true'];cases hd:D id with
  |false=>rfl
  |true=>have:=h id (hD id hd);simp[SV.noRef]at this
 |.ownT id ver t,h=>by
  simp only[SV.clear,Bool.not_eq_true'];cases hd:D id with
  |false=>rfl
  |true=>have:=h id (hD id hd);simp[SV.noRef]at this
 |.itr id,h=>by
  simp only[SV.clear,Bool.not_eq_true'];cases hd:D id with
  |false=>rfl
  |true=>have:=h id (hD id hd);simp[SV.noRef]at this
theorem lW{D:Nat->Bool}{n:Nat}(hD:∀i,D i=true->i<n):∀x:List SV,(∀d,d<n->SV.noRefs d x=true)->nX D x=true
 |[],_=>rfl
 |x::xs,h=>by
  simp only[nX,Bool.and_eq_true];have h':∀d,d<n->x.noRef d=true/\SV.noRefs d xs=true:=fun d hd=>by simpa[SV.noRefs]using h d hd
  exact⟨qP hD x (fun d hd=>(h' d hd).1),lW hD xs (fun d hd=>(h' d hd).2)⟩
end

section
variable {P:Program} {w0 w:World} {S0 S:aO} {M:Ctx} {σ:St} {a:Act} {μ:Nat->Value} {β:Nat->Option Nat} {o:Oper}

theorem II(h:SimG w0 S0 M σ a w S μ β){ρ:List (Nat×Nat)}{objs':List (Nat×Ob)}(hl:∀i o,ac objs' i=some o->ac σ.objs (ren ρ i)=some (o.ren ρ)):∀ {xs ys:List SV} {fz fz':List Nat} {vs:List Value},uX σ.objs ρ xs ys fz->(∀i,i∈fz->i∈fz')->
  aQ w S μ σ.objs xs vs->aQ w (cY S β σ.objs fz') (fun i=>μ (ren ρ i)) objs' ys vs:=by
 intro xs
 induction xs with
 |nil=>
  intro ys fz fz' vs hm hf hr;cases ys with
  |nil=>exact hr
  |cons y ys=>simp[uX]at hm
 |cons x xs ih=>
  intro ys fz fz' vs hm hf hr;obtain⟨u,us,h1,h2,h3⟩:=hr;cases ys with
  |nil=>simp[uX]at hm
  |cons y ys=>
   have named:x=y.ren ρ/\uX σ.objs ρ xs ys fz->aQ w (cY S β σ.objs fz') (fun i=>μ (ren ρ i)) objs' (y::ys) vs:=by
    rintro⟨rfl,hm2⟩;exact⟨u,us,h1,ar.unren hl (fun _ _ _=>rfl) y u (ar.mono (bv.refl _ _) (fun _ _ x=>.inl x) _ _ h2),ih hm2 hf h3⟩
   cases y with
   |val iv=>
    obtain⟨f,g,e1,e2,rfl⟩:=hm;exact⟨u,us,h1,jP h e1 (fun i hi=>hf i (List.mem_append_left _ hi)) h2,ih e2 (fun i hi=>hf i (List.mem_append_right _ hi)) h3⟩
   |_=>exact named hm

theorem IJ(h:SimG w0 S0 M σ a w S μ β){dst:Option Nat}(hd:∀d,dst=some d->d<σ.n){c:MC}{ρ:List (Nat×Nat)}{fz:List Nat}(hok:Ue σ ρ c=true)(hobjs:uY σ.objs ρ c.objs)
  {w':World} {v:Value} {S':aO} {μ':Nat->Value} {β':Nat->Option Nat}
  (r1:ar w' S' μ' c.objs' c.res v) (r2:∀id o,ac c.objs' id=some o->bA w' S' μ' c.objs' (β' id) (μ' id) o)
  (r3:∀id id' o o' b,ac c.objs' id=some o->ac c.objs' id'=some o'->β' id=some b->β' id'=some b->id=id')
  (r4:∀id o b,ac c.objs' id=some o->β' id=some b->w.heap.size<=b\/∃i x,ac c.objs i=some x/\β (ren ρ i)=some b)
  (r5:∀id o b off,ac c.objs' id=some o->β' id=some b->S' b off->id∈c.ro'/\∀ver s rows,o=.arr ver s rows->off<rows.length*s)
  (r6:∀b o,S' b o->b<w'.heap.size) (r7:∀b o,cY S β σ.objs fz b o->S' b o)
  (r8:∀b o,S' b o->cY S β σ.objs fz b o\/w.heap.size<=b\/∃i x,ac c.objs i=some x/\β (ren ρ i)=some b)
  (r9:Kept (fun b=>∃i x,ac c.objs i=some x/\β (ren ρ i)=some b) w w')
  (r10:∀id o,ac c.objs id=some o->ar w' S' μ' c.objs' (KH id o) (μ (ren ρ id)))
  (r11:∀b o,cY S β σ.objs fz b o->w'.cell? ⟨b,o,none⟩=w.cell? ⟨b,o,none⟩) :
  cE w0 S0 M (σ.mapply dst ρ c fz) (a.put dst v) w':=by
 simp only[Ue,Bool.and_eq_true]at hok;obtain⟨⟨⟨⟨⟨⟨k1,k2⟩,k3⟩,k4⟩,k5⟩,k6⟩,k7⟩:=hok;have hlook:=fun id=>FG (objs:=σ.objs) (l:=c.objs') k2 id
 have hfoot:∀ {b:Nat},(∃i x,ac c.objs i=some x/\β (ren ρ i)=some b)->∃i x,ac c.objs i=some x/\ac σ.objs (ren ρ i)=some (x.ren ρ)/\β (ren ρ i)=some b/\True:=by
  rintro b ⟨i,x,h1,h2⟩;exact⟨i,x,h1,qj hobjs i x h1,h2,trivial⟩
 have hlive:∀id x b,ac σ.objs id=some x->β id=some b->b<w.heap.size:=fun id x b hx hb=>bA.live hb (h.objs id x hx)
 have hblk:∀b,b<w.heap.size->¬(∃i x,ac c.objs i=some x/\β (ren ρ i)=some b)->w'.heap[b]?=w.heap[b]?:=fun b hb hn=>r9.block b hb hn
 have hkeeps:bv S w w':=⟨fun b off hS=>r11 b off (.inl hS),r9.shape⟩
 obtain⟨S'',s1,s2,s3,s4,s5,s6,s7⟩:∃S'':aO,(∀b off,S b off->S'' b off)/\(∀b off,S'' b off->b<w'.heap.size)/\
   (∀b off,S'' b off->S0 b off\/w0.heap.size<=b\/M.blocks b)/\
   ar w' S'' μ' c.objs' c.res v/\(∀id o,ac c.objs' id=some o->bA w' S'' μ' c.objs' (β' id) (μ' id) o)/\
   (∀id o b off,ac c.objs' id=some o->β' id=some b->S'' b off->id∈c.ro'/\∀ver s rows,o=.arr ver s rows->off<rows.length*s)/\
   (∀id o b off,ac σ.objs id=some o->β id=some b->back ρ c.objs' id=none->S'' b off->id∈(bif FF c then []else fz)++σ.ro/\∀ver s rows,o=.arr ver s rows->off<rows.length*s):=by
  cases hfl:FF c with
  |true=>
   simp only[FF,Bool.and_eq_true]at hfl;refine⟨S,fun _ _ x=>x,fun b off hS=>Nat.lt_of_lt_of_le (h.stab b off hS) r9.size,h.back,SV.flat_rel _ _ hfl.1 r1,fun id o hl=>bA.flat (FE hfl.2 id o hl) (r2 id o hl),?_,?_⟩
   ·intro id o b off hl hb hS;exact r5 id o b off hl hb (r7 b off (.inl hS))
   ·intro id o b off hl hb _ hS;exact h.unst id o b off hl hb hS
  |false=>
   refine⟨S',fun b off hS=>r7 b off (.inl hS),r6,?_,r1,r2,r5,?_⟩
   ·intro b off hS;rcases r8 b off hS with h1|h1|h1
    ·exact(h.freeze fz).back b off h1
    ·have:=h.kept.size;exact .inr (.inl (by omega))
    ·obtain⟨i,x,_,h2,h3,_⟩:=hfoot h1;exact .inr (h.own _ _ b h2 h3)
   ·intro id o b off hl hb hbk hS;rcases r8 b off hS with h1|h1|h1
    ·exact(h.freeze fz).unst id o b off hl hb h1
    ·have:=hlive id o b hl hb;omega
    ·exfalso;obtain⟨i,x,h2,h3,h4,_⟩:=hfoot h1;have hid:=h.inj id _ o _ b hl h3 hb h4;have hsk:=(iL k1 i x h2).2;cases hl':ac c.objs' i with
     |none=>rw[hl']at hsk;cases x<;>simp[fy]at hsk
     |some y=>exact qk hbk i y hl' hid.symm
 refine⟨S'',fun id=>match back ρ c.objs' id with|some i=>μ' i|none=>μ id,fun id=>match back ρ c.objs' id with|some i=>β' i|none=>β id,?_⟩;have hD:∀id,jJ ρ c.objs c.objs' id=true->id<σ.n:=fun id hn=>Cj k3 hn
 have hb:∀id cells,jJ ρ c.objs c.objs' id=false->ac (Ez σ.objs ρ c.objs') id=some (.box cells)->∃cells',ac σ.objs id=some (.box cells')/\(match back ρ c.objs' id with|some i=>μ' i|none=>μ id)=μ id:=by
  intro id cells hD hl;rw[hlook]at hl;cases hbk:back ρ c.objs' id with
  |none=>rw[hbk]at hl;exact⟨cells,hl,rfl⟩
  |some i=>
   rw[hbk]at hl;obtain⟨rfl,y,hy⟩:=gf hbk;cases hx:ac c.objs i with
   |none=>rw[nh hy hx]at hD;simp at hD
   |some x=>
    have hsk:=(iL k1 i x hx).2;simp only[hy,Option.map_some,E_]at hl;rw[hy]at hsk;cases y with
    |arr _ _ _=>simp[Ob.ren]at hl
    |iter _ _=>simp[Ob.ren]at hl
    |box cy=>
     cases x with
     |arr _ _ _=>simp[fy]at hsk
     |iter _ _=>simp[fy]at hsk
     |box cx=>
      obtain⟨b,e1,e2⟩:=r10 i _ hx _ hy;exact⟨_,qj hobjs i _ hx,by simp only;rw[e1,e2]⟩
 have ha:∀id cv s rows,jJ ρ c.objs c.objs' id=false->ac (Ez σ.objs ρ c.objs') id=some (.arr cv s rows)->∃cv' rows',ac σ.objs id=some (.arr cv' s rows')/\cv'<=cv/\(cv'=cv->rows'.length=rows.length/\(match back ρ c.objs' id with|some i=>μ' i|none=>μ id)=μ id):=by
  intro id cv s rows hD hl;rw[hlook]at hl;cases hbk:back ρ c.objs' id with
  |none=>rw[hbk]at hl;exact⟨cv,rows,hl,Nat.le_refl _,fun _=>⟨rfl,rfl⟩⟩
  |some i=>
   rw[hbk]at hl;obtain⟨rfl,y,hy⟩:=gf hbk;cases hx:ac c.objs i with
   |none=>rw[nh hy hx]at hD;simp at hD
   |some x=>
    have hsk:=(iL k1 i x hx).2;simp only[hy,Option.map_some,E_]at hl;rw[hy]at hsk;cases y with
    |box _=>simp[Ob.ren]at hl
    |iter _ _=>simp[Ob.ren]at hl
    |arr cv1 s1 rows1=>
     simp only[Ob.ren,Ob.arr.injEq]at hl;obtain⟨rfl,rfl,rfl⟩:=hl;cases x with
     |box cx=>simp[fy]at hsk
     |iter _ _=>simp[fy]at hsk
     |arr cv0 s0 rows0=>
      simp only[fy,beq_iff_eq]at hsk;subst hsk;have hσ:=qj hobjs i _ hx;obtain⟨e1,e2⟩:=r10 i _ hx _ _ _ hy;refine⟨cv0,rows0,hσ,e1,fun e=>?_⟩;have e3:=e2 e;refine⟨?_,e3.symm⟩;have o1:=h.objs _ _ hσ;have o2:=r2 i _ hy;rw[<-e3]at o2;rcases o1 with⟨z1,_,x1,z2⟩|⟨_,_,_,_,_,_,z2,_⟩<;>rcases o2 with⟨z3,_,x2,z4⟩|⟨_,_,_,_,_,_,z4,_⟩
      ·rw[z1,z3]
      ·rw[z2]at z4;simp only[Value.slice.injEq]at z4;rw[z1,<-z4.2.1];rfl
      ·rw[z2]at z4;simp only[Value.slice.injEq]at z4;rw[z3,z4.2.1];rfl
      ·rw[z2]at z4;simp only[Value.slice.injEq]at z4;exact z4.2.1
 have hi:∀id s p,jJ ρ c.objs c.objs' id=false->ac (Ez σ.objs ρ c.objs') id=some (.iter s p)->∃s' p',ac σ.objs id=some (.iter s' p')/\(match back ρ c.objs' id with|some i=>μ' i|none=>μ id)=μ id:=by
  intro id s p hD hl;rw[hlook]at hl;cases hbk:back ρ c.objs' id with
  |none=>rw[hbk]at hl;exact⟨s,p,hl,rfl⟩
  |some i=>
   rw[hbk]at hl;obtain⟨rfl,y,hy⟩:=gf hbk;cases hx:ac c.objs i with
   |none=>rw[nh hy hx]at hD;simp at hD
   |some x=>
    have hsk:=(iL k1 i x hx).2;simp only[hy,Option.map_some,E_]at hl;rw[hy]at hsk;cases y with
    |arr _ _ _=>simp[Ob.ren]at hl
    |box _=>simp[Ob.ren]at hl
    |iter _ _=>cases x<;>simp[fy]at hsk
 have hren:∀i o,ac c.objs' i=some o->ac (Ez σ.objs ρ c.objs') (ren ρ i)=some (o.ren ρ):=by
  intro i o hl;simp only[hlook,sL k2 i o hl,hl,Option.map_some]
 have hmu:∀i o,ac c.objs' i=some o->(match back ρ c.objs' (ren ρ i)with|some j=>μ' j|none=>μ (ren ρ i))=μ' i:=by
  intro i o hl;simp only[sL k2 i o hl]
 have base:SimG w0 S0 M {σ with objs:=Ez σ.objs ρ c.objs',ro:=c.ro'.map (ren ρ)++((bif FF c then []else fz)++σ.ro) } a w' S'' (fun id=>match back ρ c.objs' id with|some i=>μ' i|none=>μ id) (fun id=>match back ρ c.objs' id with|some i=>β' i|none=>β id):=by
  refine {defers:=h.defers,size:=h.size,env:=?_,objs:=?_,inj:=?_,own:=?_,unst:=?_,stab:=s2,ext:=fun b o hS=>s1 b o (h.ext b o hS),back:=s3,kept:=?_,stay:=fun b o hb=>(hkeeps.1 b o (h.ext b o hb)).trans (h.stay b o hb),hist:=?_,far:=h.far,glob:=?_ }
  ·intro k;exact ar.step hb ha hi _ _ (Cg k4 k) (ar.mono hkeeps s1 _ _ (h.env k))
  ·intro id o hl;have hl':=hl;rw[hlook]at hl;cases hbk:back ρ c.objs' id with
   |none=>
    rw[hbk]at hl;have ho:=h.objs id o hl
    have hnf:∀b,β id=some b->¬(∃i x,ac c.objs i=some x/\β (ren ρ i)=some b):=by
     intro b hbb hf;obtain⟨i,x,h2,h3,h4,_⟩:=hfoot hf;have hid:=h.inj id _ o _ b hl h3 hbb h4;have hsk:=(iL k1 i x h2).2;cases hl':ac c.objs' i with
     |none=>rw[hl']at hsk;cases x<;>simp[fy]at hsk
     |some y=>exact qk hbk i y hl' hid.symm
    have ho':=bA.move hkeeps s1 (fun b hbb=>hblk b (hlive id o b hl hbb) (hnf b hbb)) ho;have hcl:=Ch k5 id o hl;cases o with
    |arr v' s' r'=>exact ho'
    |iter _ _=>exact ho'
    |box cells=>
     obtain⟨b,vs,e,fr,q1,q2,q3,q4,q5⟩:=ho';exact⟨b,vs,e,fr,q1,q2,q3,q4,aj.step hb ha hi _ _ hcl q5⟩
   |some i=>
    rw[hbk]at hl;obtain⟨rfl,y,hy⟩:=gf hbk;simp only[hy,Option.map_some,E_]at hl;subst hl;have ho:=s5 i y hy;have hik:=Al k7 i y hy;cases y with
    |arr v' s' r'=>exact ho
    |iter _ _=>exact ho
    |box cells=>
     obtain⟨b,vs,e,fr,q1,q2,q3,q4,q5⟩:=ho;exact⟨b,vs,e,fr,q1,q2,q3,q4,aj.renamed hren hmu _ _ hik q5⟩
  ·intro id id' o o' b hl hl' hbb hbb';rw[hlook]at hl hl';cases hbk:back ρ c.objs' id with
   |none=>
    simp only[hbk]at hl hbb;cases hbk':back ρ c.objs' id' with
    |none=>
     simp only[hbk']at hl' hbb';exact h.inj id id' o o' b hl hl' hbb hbb'
    |some i=>
     exfalso;simp only[hbk']at hl' hbb';obtain⟨rfl,y,hy⟩:=gf hbk';rcases r4 i y b hy hbb' with h1|h1
     ·have:=hlive id o b hl hbb;omega
     ·obtain⟨j,x,h2,h3,h4,_⟩:=hfoot h1;have hid:=h.inj id _ o _ b hl h3 hbb h4;have hsk:=(iL k1 j x h2).2;cases hl':ac c.objs' j with
      |none=>rw[hl']at hsk;cases x<;>simp[fy]at hsk
      |some y=>exact qk hbk j y hl' hid.symm
   |some i=>
    simp only[hbk]at hl hbb;obtain⟨rfl,y,hy⟩:=gf hbk;cases hbk':back ρ c.objs' id' with
    |none=>
     exfalso;simp only[hbk']at hl' hbb';rcases r4 i y b hy hbb with h1|h1
     ·have:=hlive id' o' b hl' hbb';omega
     ·obtain⟨j,x,h2,h3,h4,_⟩:=hfoot h1;have hid:=h.inj id' _ o' _ b hl' h3 hbb' h4;have hsk:=(iL k1 j x h2).2;cases hl'':ac c.objs' j with
      |none=>rw[hl'']at hsk;cases x<;>simp[fy]at hsk
      |some y=>exact qk hbk' j y hl'' hid.symm
    |some i'=>
     simp only[hbk']at hl' hbb';obtain⟨rfl,y',hy'⟩:=gf hbk';rw[r3 i i' y y' b hy hy' hbb hbb']
  ·intro id o b hl hbb;rw[hlook]at hl;cases hbk:back ρ c.objs' id with
   |none=>simp only[hbk]at hl hbb;exact h.own id o b hl hbb
   |some i=>
    simp only[hbk]at hl hbb;obtain⟨rfl,y,hy⟩:=gf hbk;rcases r4 i y b hy hbb with h1|h1
    ·have:=h.kept.size;exact .inl (by omega)
    ·obtain⟨j,x,_,h3,h4,_⟩:=hfoot h1;exact h.own _ _ b h3 h4
  ·intro id o b off hl hbb hS;rw[hlook]at hl;cases hbk:back ρ c.objs' id with
   |none=>
    simp only[hbk]at hl hbb;obtain⟨q1,q2⟩:=s7 id o b off hl hbb hbk hS;exact⟨List.mem_append_right _ q1,q2⟩
   |some i=>
    simp only[hbk]at hl hbb;obtain⟨rfl,y,hy⟩:=gf hbk;obtain⟨q1,q2⟩:=s6 i y b off hy hbb hS;refine⟨List.mem_append_left _ (List.mem_map_of_mem q1),fun ver s rows e=>?_⟩;subst e;simp only[hy,Option.map_some,E_]at hl;cases y with
    |box _=>simp[Ob.ren]at hl
    |iter _ _=>simp[Ob.ren]at hl
    |arr v1 s1 r1=>
     simp only[Ob.ren,Ob.arr.injEq]at hl;obtain⟨_,rfl,rfl⟩:=hl;exact q2 _ _ _ rfl
  ·refine⟨r9.os.trans h.kept.os,r9.tape.trans h.kept.tape,r9.output.trans h.kept.output,Nat.le_trans h.kept.size r9.size,fun k hk hM=>?_,fun k x hx=>r9.shape _ _ (h.kept.shape _ _ hx)⟩;rw[<-h.kept.block k hk hM];refine hblk k (Nat.lt_of_lt_of_le hk h.kept.size) (fun hf=>?_);obtain⟨i,x,_,h3,h4,_⟩:=hfoot hf;rcases h.own _ _ k h3 h4 with h5|h5
   ·omega
   ·exact hM h5
  ·intro p hp;exact ar.step hb ha hi _ _ (qP hD _ (h.far p hp)) (ar.mono hkeeps s1 _ _ (h.hist p hp))
  ·intro p hp;exact gG.mono hkeeps s1 (h.glob p hp)
 exact base.putD hd (ar.renamed hren hmu _ _ k6 s4)

def IK(σ:St)(f:SV)(args:List Opd):Option (FuncId×List SV):=match f with
 |.val (.fn k caps)=>some (k,args.map (val σ)++caps.map .val)
 |.clo k caps=>some (k,args.map (val σ)++caps)
 |_=>none

theorem aQ.append{objs:List (Nat×Ob)} : ∀ {xs ys:List SV} {us vs:List Value},aQ w S μ objs xs us->aQ w S μ objs ys vs->aQ w S μ objs (xs++ys) (us++vs)
 |[],_,_,_,h,k=>by have h:_=_:=h;subst h;exact k
 |_::_,_,_,_,⟨u,us',h1,h2,h3⟩,k=>by subst h1;exact⟨u,us'++_,rfl,h2,aQ.append h3 k⟩
theorem aQ.ofRep{objs:List (Nat×Ob)} : ∀ {xs:List IV} {vs:List Value},bc w S xs vs->aQ w S μ objs (xs.map .val) vs
 |[],_,h=>h
 |_::_,_,⟨u,us,h1,h2,h3⟩=>⟨u,us,h1,h2,aQ.ofRep h3⟩

theorem Pd(h:SimG w0 S0 M σ a w S μ β)(hd:∀d,o.dst=some d->d<σ.n){c:Call}{f:Operand}(ho:o.op=.call c)(hcl:c.callee=.value f){fv:SV}(hfv:ar w S μ σ.objs fv (a.eval f)){args:List Opd}(hargs:cP c.args.toList=some args)
  {k:FuncId} {vals:List SV} (hca:IK σ fv args=some (k,vals)) {mc:MC} (hF:mP σ.gl P k mc) {ρ:List (Nat×Nat)} {fz:List Nat} (hok:Ue σ ρ mc=true) (hobjs:uY σ.objs ρ mc.objs) (hma:uX σ.objs ρ vals mc.args fz) (hfz:Ud ρ fz mc.objs=true) {next:Act->World->Prop} {Q:Exit->Act->World->Prop}
  (hn:∀v w',cE w0 S0 M (σ.mapply o.dst ρ mc fz) (a.put o.dst v) w'->next (a.put o.dst v) w'):o.wp P a w next Q:=by
 have har:=lv h hargs
 obtain⟨caps',hev,hvals⟩:∃caps':Array Value,a.eval f=.func (.func k) #[] caps'/\aQ w S μ σ.objs vals ((c.args.toList.map a.eval)++caps'.toList):=by
  unfold IK at hca;split at hca
  ·next k' caps=>
   simp only[E_,Prod.mk.injEq]at hca;obtain⟨rfl,rfl⟩:=hca;obtain⟨vs,h1,h2⟩:=hfv;exact⟨vs,h1,aQ.append har (aQ.ofRep h2)⟩
  ·next k' caps=>
   simp only[E_,Prod.mk.injEq]at hca;obtain⟨rfl,rfl⟩:=hca;obtain⟨vs,h1,h2⟩:=hfv;exact⟨vs,h1,aQ.append har h2⟩
  ·simp at hca
 obtain⟨⟨fn,hfn,hname⟩,hcalls⟩:=hF
 have hrun:(execOp a.eval o).run P w=(callFunc k (c.args.map a.eval++caps')).run P w:=by
  simp only[execOp,ho,resolve,hcl,hev,Deferred.ofValue,Sem.run_bind,Sem.run_pure,Result.andThen_ok,invoke,Array.empty_append]
 have hv:c.args.map a.eval++caps'=((c.args.toList.map a.eval)++caps'.toList).toArray:=by
  apply Array.toList_inj.1;simp
 rw[hv]at hrun;have hl:=fun i o hlo=>qj hobjs i o hlo
 have hok':=hok;simp only[Ue,Bool.and_eq_true]at hok';obtain⟨⟨⟨⟨⟨⟨k1,k2⟩,k3⟩,k4⟩,k5⟩,k6⟩,k7⟩:=hok';have hf:=h.freeze fz
 have hinjO:∀id id' o o',ac mc.objs id=some o->ac mc.objs id'=some o'->ren ρ id=ren ρ id'->id=id':=by
  intro id id' o o' h1 h2 he;have hs1:=(iL k1 id o h1).2;have hs2:=(iL k1 id' o' h2).2;cases hy1:ac mc.objs' id with
  |none=>rw[hy1]at hs1;cases o<;>simp[fy]at hs1
  |some y1=>
   cases hy2:ac mc.objs' id' with
   |none=>rw[hy2]at hs2;cases o'<;>simp[fy]at hs2
   |some y2=>
    have e1:=sL k2 id y1 hy1;have e2:=sL k2 id' y2 hy2;rw[he,e2]at e1;simpa using e1.symm
 refine sD hfn hname hrun (hcalls w (cY S β σ.objs fz) (fun i=>μ (ren ρ i)) (fun i=>β (ren ρ i)) _ hf.stab hf.glob (II h hl hma (fun _ x=>x) hvals) ?_ ?_ ?_) ?_
 ·intro id o hlo;have hob:=h.objs _ _ (hl id o hlo);cases o with
  |iter s p=>exact bA.move (o:=.iter s p) (bv.refl _ _) (fun _ _ x=>Or.inl x) (fun _ _=>rfl) hob
  |arr v s r=>exact bA.arr_any (bA.move (o:=.arr v s r) (bv.refl _ _) (fun _ _ x=>Or.inl x) (fun _ _=>rfl) hob)
  |box cells=>
   obtain⟨b,vs,e,fr,q1,q2,q3,q4,q5⟩:=hob;exact⟨b,vs,e,fr,q1,q2,q3,q4,aj.unren hl (fun _ _ _=>rfl) _ _ (aj.mono (bv.refl _ _) (fun _ _ x=>.inl x) _ _ q5)⟩
 ·intro id id' o o' b h1 h2 h3 h4;exact hinjO id id' o o' h1 h2 (h.inj _ _ _ _ b (hl _ _ h1) (hl _ _ h2) h3 h4)
 ·intro id o b off h1 h2 hS;have hro:=(iL k1 id o h1).1;rcases hS with hS|⟨i,x,e1,e2,e3,e4⟩
  ·obtain⟨u1,u2⟩:=h.unst _ _ b off (hl _ _ h1) h2 hS;refine⟨hro u1,fun ver s rows e=>?_⟩;subst e;exact u2 ver s rows rfl
  ·exfalso;have hid:=h.inj _ _ _ _ b (hl _ _ h1) e2 h2 e3;rw[<-hid]at e1;exact LV hfz id o h1 e1
 ·rintro e w' ⟨v,S',μ',β',rfl,r1,r2,r3,r4,r5,r6,r7,r8,r9,r10,r11⟩;exact⟨v,rfl,hn v w' (IJ h hd hok hobjs r1 r2 r3 r4 r5 r6 r7 r8 r9 r10 r11)⟩
end
end Go.Vs
