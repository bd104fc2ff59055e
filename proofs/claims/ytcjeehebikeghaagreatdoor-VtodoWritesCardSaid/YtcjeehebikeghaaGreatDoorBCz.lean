/- A part of a proof. No conditions. -/
import Derived.Test.YtcjeehebikeghaaGreatDoorBBz
import Derived.ScopeJumps
set_option linter.unusedVariables false
set_option linter.unusedSimpArgs false
namespace Go.Vs
structure Eff where
 ids:List Nat
 dst:Option Nat
 u:Upd
structure St.Eq(σ σ':St):Prop where
 env:∀k,ap σ'.env k=ap σ.env k
 objs:∀k,ac σ'.objs k=ac σ.objs k
 ro:∀i,i∈σ'.ro↔i∈σ.ro
 n:σ'.n=σ.n
 gl:σ'.gl=σ.gl
theorem St.Eq.refl(σ:St):St.Eq σ σ:=⟨fun _=>rfl,fun _=>rfl,fun _=>Iff.rfl,rfl,rfl⟩
theorem St.Eq.trans{a b c:St}(h:St.Eq a b)(k:St.Eq b c):St.Eq a c:=
 ⟨fun i=>(k.env i).trans (h.env i),fun i=>(k.objs i).trans (h.objs i),fun i=>(k.ro i).trans (h.ro i),k.n.trans h.n,k.gl.trans h.gl⟩
def Kb(P:Program)(σ:St)(o:VOper)(e:Eff):Prop:=BC P σ o.dst e.u o.op/\e.ids=eE σ o.op e.u/\e.dst=o.dst
def ja:SV->Option (Option Bool)
 |.val (.bool c)=>some (some c)
 |.val (.tuple [])=>some none
 |_=>none
abbrev gy:Upd:={v:=.val (.tuple []) }
def fi(P:Program)(σ:St)(o:VOper)(e:Eff):Prop:=
 match o.guard with
 |none=>Kb P σ o e
 |some (g,b)=>∃c,ja (ap σ.env g)=some c/\((c=some b/\Kb P σ o e)\/(c≠some b/\e=⟨[],o.dst,gy⟩))
def tc(b:Option Nat)(u:Upd)(id:Nat):Option Ob:=
 match u.new,b with
 |some o,some d=>if id=d then some (o.erase d)else none
 |_,_=>match u.wr with
  |some (i,o)=>if id=i then some o else none
  |none=>none
def kz(e:Eff)(d:Nat):Prop:=(∃o,e.u.new=some o)/\e.dst=some d
def fj(d:Nat)(σ:St):Prop:=(∀k,(ap σ.env k).noRef d=true)/\∀id o,ac σ.objs id=some o->o.noRef d=true
def wg(d:Nat)(u:Upd):Prop:=u.v.noRef d=true/\(∀i o,u.wr=some (i,o)->o.noRef d=true)/\∀o,u.new=some o->o.noRef d=true
theorem F6{d:Nat}{v:SV}(h:v.noRef d=true):v.erase d=v:=by unfold SV.erase;rw[h];rfl
theorem BF{d:Nat} : ∀ {l:List SV},SV.noRefs d l=true->fh d l=l
 |[],_=>rfl
 |v::r,h=>by
  simp only[SV.noRefs,Bool.and_eq_true]at h;simp only[fh,F6 h.1,BF h.2]
theorem Nc{d:Nat} : ∀ {o:Ob},o.noRef d=true->o.erase d=o
 |.box c,h=>by simp only[Ob.erase];rw[BF h]
 |.arr _ _ _,_=>rfl
 |.iter _ _,_=>rfl
section
variable {σ σ':St}
theorem iP{u:Upd}{o:Ob}{d:Nat}(h:u.new=some o):σ.apply (some d) u=⟨put (cS d σ.env) d u.v,ck d (put σ.objs d o),u.fz++σ.ro,σ.n,σ.gl⟩:=by
 unfold St.apply;rw[h]
theorem iQ{u:Upd}{b:Option Nat}(h:u.new=none\/b=none):σ.apply b u=⟨putD σ.env b u.v,Ha σ.objs u.wr,u.fz++σ.ro,σ.n,σ.gl⟩:=by
 unfold St.apply;rcases h with h|h
 ·rw[h]
 ·subst h;cases u.new<;>rfl
theorem ub(u:Upd)(b:Option Nat):(∃o d,u.new=some o/\b=some d)\/(u.new=none\/b=none):=by
 cases u.new with
 |none=>exact .inr (.inl rfl)
 |some o=>cases b with
  |none=>exact .inr (.inr rfl)
  |some d=>exact .inl ⟨o,d,rfl,rfl⟩
theorem LW{u:Upd}{o:Ob}{d:Nat}(h:u.new=some o)(k:Nat):tc (some d) u k=if k=d then some (o.erase d)else none:=by
 unfold tc;rw[h]
theorem y6{u:Upd}{b:Option Nat}(h:u.new=none\/b=none)(k:Nat):tc b u k=match u.wr with
  |some (i,o)=>if k=i then some o else none
  |none=>none:=by
 unfold tc;rcases h with h|h
 ·rw[h]
 ·subst h;cases u.new<;>rfl
theorem pG{b:Option Nat}{u:Upd}(h:∀d,(∃o,u.new=some o)->b=some d->fj d σ)(k:Nat):ap (σ.apply b u).env k=if b=some k then u.v else ap σ.env k:=by
 rcases ub u b with⟨o,d,f,rfl⟩|g
 ·rw[iP f];simp only[lv,qU];by_cases c:k=d
  ·subst c;simp
  ·rw[if_neg c,if_neg (by simpa using fun e=>c e.symm),F6 ((h d ⟨o,f⟩ rfl).1 k)]
 ·rw[iQ g];cases b with
  |none=>simp[putD]
  |some d=>
   simp only[putD,lv];by_cases c:k=d
   ·subst c;simp
   ·rw[if_neg c,if_neg (by simpa using fun e=>c e.symm)]
theorem mR{b:Option Nat}{u:Upd}(h:∀d,(∃o,u.new=some o)->b=some d->fj d σ)(k:Nat):ac (σ.apply b u).objs k=match tc b u k with
  |some o=>some o
  |none=>ac σ.objs k:=by
 rcases ub u b with⟨o,d,e,rfl⟩|f
 ·rw[iP e,LW e];simp only[cG,ir];by_cases c:k=d
  ·subst c;simp
  ·simp only[if_neg c];cases g:ac σ.objs k with
   |none=>rfl
   |some y=>
    simp only[Option.map_some];rw[Nc ((h d ⟨o,e⟩ rfl).2 k y g)]
 ·rw[iQ f,y6 f];cases j:u.wr with
  |none=>simp[Ha]
  |some p=>
   obtain⟨i,o⟩:=p;simp only[Ha,ir];by_cases c:k=i
   ·simp[c]
   ·simp[c]
theorem wh{b:Option Nat}{u:Upd}(i:Nat):i∈(σ.apply b u).ro↔i∈u.fz\/i∈σ.ro:=by
 rcases ub u b with⟨o,d,c,rfl⟩|e
 ·rw[iP c];simp
 ·rw[iQ e];simp
theorem uc{b:Option Nat}{u:Upd} : (σ.apply b u).n=σ.n:=by
 rcases ub u b with⟨o,d,c,rfl⟩|e
 ·rw[iP c]
 ·rw[iQ e]
theorem wi{b:Option Nat}{u:Upd} : (σ.apply b u).gl=σ.gl:=by
 rcases ub u b with⟨o,d,c,rfl⟩|e
 ·rw[iP c]
 ·rw[iQ e]
theorem Pu(h:St.Eq σ σ')(b:Option Nat)(u:Upd):St.Eq (σ.apply b u) (σ'.apply b u):=by
 refine⟨fun k=>?_,fun k=>?_,fun i=>?_,by rw[uc,uc,h.n],by rw[wi,wi,h.gl]⟩
 ·rcases ub u b with⟨o,d,c,rfl⟩|e
  ·rw[iP c,iP c];simp only[lv,qU,h.env]
  ·rw[iQ e,iQ e];cases b<;>simp[putD,lv,h.env]
 ·rcases ub u b with⟨o,d,c,rfl⟩|e
  ·rw[iP c,iP c];simp only[cG,ir,h.objs]
  ·rw[iQ e,iQ e];cases u.wr with
   |none=>simp[Ha,h.objs]
   |some p=>simp[Ha,ir,h.objs]
 ·rw[wh,wh,h.ro]
theorem fj.apply{d:Nat}(h:fj d σ){C:Option Nat}{u:Upd}(F:wg d u):fj d (σ.apply C u):=by
 have J:∀(B:Nat) (v:SV),v.noRef d=true->(v.erase B).noRef d=true:=by
  intro B v O;unfold SV.erase;cases v.noRef B
  ·rfl
  ·exact O
 have H:∀(B:Nat) (l:List SV),SV.noRefs d l=true->SV.noRefs d (fh B l)=true:=by
  intro B l
  induction l with
  |nil=>intro _;rfl
  |cons v r Q=>
   intro D;simp only[SV.noRefs,Bool.and_eq_true]at D;simp only[fh,SV.noRefs,Bool.and_eq_true];exact⟨J B v D.1,Q D.2⟩
 have E:∀(B:Nat) (o:Ob),o.noRef d=true->(o.erase B).noRef d=true:=by
  intro B o q;cases o with
  |box c=>exact H B c q
  |arr=>rfl
  |iter=>rfl
 rcases ub u C with⟨U,B,N,rfl⟩|q
 ·rw[iP N];constructor
  ·intro k;simp only[lv,qU];split
   ·exact F.1
   ·exact J _ _ (h.1 k)
  ·intro id o q;simp only[cG,ir]at q;split at q
   ·simp only[Option.map_some,E_]at q;subst q;exact E _ _ (F.2.2 _ N)
   ·cases D:ac σ.objs id with
    |none=>rw[D]at q;simp at q
    |some y=>
     rw[D]at q;simp only[Option.map_some,E_]at q;subst q;exact E _ _ (h.2 _ _ D)
 ·rw[iQ q];constructor
  ·intro k;cases C with
   |none=>exact h.1 k
   |some B=>
    simp only[putD,lv];split
    ·exact F.1
    ·exact h.1 k
  ·intro id o q;cases I:u.wr with
   |none=>rw[I]at q;exact h.2 id o q
   |some p=>
    obtain⟨i,x⟩:=p;rw[I]at q;simp only[Ha,ir]at q;split at q
    ·obtain rfl:=O_ q;exact F.2.1 _ _ I
    ·exact h.2 id o q
end
def VOper.slots(o:VOper):List Nat:=(o.op.opds.filterMap fun|.tmp t=>some t|_=>none)++(match o.guard with|some (g,_)=>[g]|none=>[])
def To(a b:VOper):Prop:=(∀d,a.dst=some d->d∉b.slots/\b.dst≠some d)/\∀d,b.dst=some d->d∉a.slots
def F7(x y:Eff):Prop:=(∀id,tc x.dst x.u id≠none->id∉y.ids/\tc y.dst y.u id=none)/\∀id o,y.u.wr=some (id,o)->id∉x.u.fz
section
variable {P:Program} {σ σ':St}
theorem UI{op:VOp}(b:σ'.gl=σ.gl)(h:∀t,t∈(op.opds.filterMap fun|.tmp t=>some t|_=>none)->ap σ'.env t=ap σ.env t):∀x∈op.opds,val σ' x=val σ x:=by
 intro x c;cases x with
 |tmp t=>exact h t (List.mem_filterMap.2 ⟨.tmp t,c,rfl⟩)
 |const v=>rfl
 |func f=>rfl
 |glob g=>simp only[val,b]
theorem Hs{o:VOper}{e:Eff}(d:σ'.gl=σ.gl)(h:fi P σ o e)(q:∀t,t∈o.slots->ap σ'.env t=ap σ.env t)(s:∀i,i∈e.ids->ac σ'.objs i=ac σ.objs i)(l:∀id x,e.u.wr=some (id,x)->id∈σ'.ro->id∈σ.ro):fi P σ' o e:=by
 have f:Kb P σ o e->Kb P σ' o e:=by
  rintro⟨m,j,k⟩;have u:=UI (op:=o.op) (σ:=σ) (σ':=σ') d (fun t v=>q t (List.mem_append_left _ v));obtain⟨y,z⟩:=UH (σ':=σ') d m u (fun i A=>s i (by rw[j];exact A)) l;exact⟨y,by rw[z];exact j,k⟩
 unfold fi at h |-;cases n:o.guard with
 |none=>rw[n]at h;exact f h
 |some p=>
  obtain⟨g,b⟩:=p;rw[n]at h;obtain⟨c,m,j⟩:=h;refine⟨c,?_,j.imp (fun k=>⟨k.1,f k.2⟩) id⟩;rw[q g (by simp[VOper.slots,n])];exact m
theorem RQ{o:VOper}{e:Eff}(b:St.Eq σ σ')(h:fi P σ o e):fi P σ' o e:=
 Hs b.gl h (fun t _=>b.env t) (fun i _=>b.objs i) (fun _ _ _ c=>(b.ro _).1 c)
theorem Pv{o:VOper}{e:Eff}(h:fi P σ o e):e.dst=o.dst:=by
 unfold fi at h;split at h
 ·exact h.2.2
 ·obtain⟨c,_,h|h⟩:=h
  ·exact h.2.2.2
  ·rw[h.2]
theorem UJ{a b:VOper}{x y:Eff}(s:fi P σ a x)(u:fi P (σ.apply x.dst x.u) b y)(c:To a b)(v:F7 x y)(z:F7 y x)
  (n:∀d,kz x d->fj d σ/\wg d y.u) (p:∀d,kz y d->fj d σ/\wg d x.u) :
  fi P σ b y/\fi P (σ.apply y.dst y.u) a x/\St.Eq ((σ.apply x.dst x.u).apply y.dst y.u) ((σ.apply y.dst y.u).apply x.dst x.u):=by
 have B:=Pv s;have C:=Pv u;have m:∀d,(∃o,x.u.new=some o)->x.dst=some d->fj d σ:=fun d h k=>(n d ⟨h,k⟩).1
 have cb:∀d,(∃o,y.u.new=some o)->y.dst=some d->fj d σ:=fun d h k=>(p d ⟨h,k⟩).1
 have g:∀d,(∃o,x.u.new=some o)->x.dst=some d->fj d (σ.apply y.dst y.u):=fun d h k=>(n d ⟨h,k⟩).1.apply (n d ⟨h,k⟩).2
 have j:∀d,(∃o,y.u.new=some o)->y.dst=some d->fj d (σ.apply x.dst x.u):=fun d h k=>(p d ⟨h,k⟩).1.apply (p d ⟨h,k⟩).2
 refine⟨?_,?_,?_⟩
 ·refine Hs (by simp only[wi]) u (fun t q=>?_) (fun i f=>?_) (fun id o _ f=>(wh id).2 (.inr f))
  ·rw[pG m,if_neg];intro e;rw[B]at e;exact(c.1 t e).1 q
  ·rw[mR m];cases l:tc x.dst x.u i with
   |none=>rfl
   |some o=>exact absurd f (v.1 i (by rw[l];simp)).1
 ·refine Hs (by simp only[wi]) s (fun t q=>?_) (fun i f=>?_) (fun id o l f=>?_)
  ·rw[pG cb,if_neg];intro e;rw[C]at e;exact c.2 t e q
  ·rw[mR cb];cases l:tc y.dst y.u i with
   |none=>rfl
   |some o=>exact absurd f (z.1 i (by rw[l];simp)).1
  ·rcases(wh id).1 f with h|h
   ·exact absurd h (z.2 id o l)
   ·exact h
 ·refine⟨fun k=>?_,fun k=>?_,fun i=>?_,by simp only[uc],by simp only[wi]⟩
  ·rw[pG g,pG cb,pG j,pG m];by_cases e1:x.dst=some k<;>by_cases e2:y.dst=some k
   ·exfalso;rw[B]at e1;rw[C]at e2;exact(c.1 k e1).2 e2
   ·simp[e1,e2]
   ·simp[e1,e2]
   ·simp[e1,e2]
  ·rw[mR g,mR cb,mR j,mR m];cases D:tc x.dst x.u k with
   |none=>cases E:tc y.dst y.u k<;>rfl
   |some o=>rw[(v.1 k (by rw[D];simp)).2]
  ·simp only[wh];constructor
   ·rintro(h|h|h)
    ·exact .inr (.inl h)
    ·exact .inl h
    ·exact .inr (.inr h)
   ·rintro(h|h|h)
    ·exact .inr (.inl h)
    ·exact .inl h
    ·exact .inr (.inr h)
end
structure Item1 where
 i:Nat
 o:VOper
 e:Eff
def yy(P:Program):List Item1->St->St->Prop
 |[],σ,b=>St.Eq σ b
 |p::r,σ,b=>fi P σ p.o p.e/\yy P r (σ.apply p.e.dst p.e.u) b
section
variable {P:Program}
theorem Ht:∀ {l:List Item1} {σ σ' c:St},St.Eq σ σ'->yy P l σ c->yy P l σ' c
 |[],_,_,_,b,h=>⟨fun k=>(h.env k).trans (b.env k).symm,fun k=>(h.objs k).trans (b.objs k).symm,fun i=>(h.ro i).trans (b.ro i).symm,h.n.trans b.n.symm,h.gl.trans b.gl.symm⟩
 |_::_,_,_,_,b,h=>⟨RQ b h.1,Ht (Pu b _ _) h.2⟩
structure Free(x p:Item1):Prop where
 apart:To p.o x.o
 one:F7 p.e x.e
 two:F7 x.e p.e
theorem LX{x:Item1}{B:List Item1} : ∀ {A:List Item1} {σ e:St},yy P (A++x::B) σ e->(∀p∈A,Free x p)->
  (∀p∈A++x::B,∀d,kz p.e d->fj d σ)->(∀p∈A,∀d,kz p.e d->wg d x.e.u)->
  (A.Pairwise fun p q=>∀d,kz q.e d->wg d p.e.u)->(∀p∈A,∀q∈x::B,∀d,kz q.e d->wg d p.e.u)->
  yy P (x::(A++B)) σ e
 |[],_,_,h,_,_,_,_,_=>h
 |p::A,σ,e,h,u,m,v,y,n=>by
  obtain⟨z,C⟩:=h;have l:=List.pairwise_cons.1 y
  have D:=LX (A:=A) C (fun q c=>u q (List.mem_cons_of_mem _ c)) (fun q c d b=>by
   refine(m q (List.mem_cons_of_mem _ c) d b).apply ?_;rcases List.mem_append.1 c with i|i
   ·exact l.1 q i d b
   ·exact n p (by simp) q i d b) (fun q c=>v q (List.mem_cons_of_mem _ c)) l.2 (fun q c=>n q (List.mem_cons_of_mem _ c))
  obtain⟨E,s⟩:=D;have k:=u p (by simp)
  obtain⟨F,H,I⟩:=UJ z E k.apart k.one k.two (fun d b=>⟨m p (by simp) d b,v p (by simp) d b⟩)
   (fun d b=>⟨m x (by simp) d b,n p (by simp) x (by simp) d b⟩)
  exact⟨F,H,Ht I s⟩
end
end Go.Vs
namespace Go.Vs
theorem WK{P:Program}{σ:St}{c:Option Nat}{d:VOp}{u:Upd}(b:BC P σ c u d):u.fz≠[]->d.acts=true:=by
 cases d
 case call=>exact fun _=>rfl
 case callV=>exact fun _=>rfl
 case store=>exact fun _=>rfl
 case subV=>exact fun _=>rfl
 case subA=>exact fun _=>rfl
 case buildSlice=>exact fun _=>rfl
 case append=>exact fun _=>rfl
 all_goals
  have b:=b.1;refine fun h=>?_
  exfalso;apply h;simp only[ev,rL,E7,Uv,Uw]at b
  first
   |(obtain rfl:=O_ b;rfl)
   |((repeat' split at b)<;>first|(simp at b;done)|(obtain rfl:=O_ b;rfl))
def Eff.wids(e:Eff):List Nat:=match e.u.new,e.dst with
 |some _,some d=>[d]
 |_,_=>match e.u.wr with
  |some (i,_)=>[i]
  |none=>[]
def Eff.newId(e:Eff):Option Nat:=match e.u.new,e.dst with
 |some _,some d=>some d
 |_,_=>none
def acn(a b:List Nat):Bool:=a.all fun i=>!b.contains i
def Nd(x y:Eff):Bool:=acn x.wids y.ids&&acn x.wids y.wids&&(match y.u.wr with
 |some (i,_)=>!x.u.fz.contains i
 |none=>true)
def Nf(d:Nat)(u:Upd):Bool:=u.v.noRef d&&(match u.wr with
 |some (_,o)=>o.noRef d
 |none=>true)&&(match u.new with
 |some o=>o.noRef d
 |none=>true)
theorem Hu{e:Eff}{id:Nat}(h:tc e.dst e.u id≠none):id∈e.wids:=by
 unfold Eff.wids;rcases ub e.u e.dst with⟨o,d,g,j⟩|b
 ·rw[j,LW g]at h;rw[g,j];by_cases c:id=d
  ·subst c;simp
  ·rw[if_neg c]at h;exact absurd rfl h
 ·rw[y6 b]at h
  have f:id∈(match e.u.wr with|some (i,_)=>[i]|none=>([]:List Nat)):=by
   cases f:e.u.wr with
   |none=>rw[f]at h;exact absurd rfl h
   |some p=>
    obtain⟨i,x⟩:=p;rw[f]at h;by_cases c:id=i
    ·subst c;simp
    ·simp[c]at h
  split
  ·next k l=>
   exfalso;rcases b with b|b
   ·rw[b]at k;simp at k
   ·rw[b]at l;simp at l
  ·exact f
theorem F8{x y:Eff}(h:Nd x y=true):F7 x y:=by
 unfold Nd acn at h;simp only[Bool.and_eq_true,List.all_eq_true]at h;obtain⟨⟨d,f⟩,b⟩:=h;refine⟨fun id c=>?_,fun id o c g=>?_⟩
 ·have hm:=Hu c;refine⟨by simpa using d id hm,?_⟩;cases i:tc y.dst y.u id with
  |none=>rfl
  |some o=>exact absurd (Hu (e:=y) (id:=id) (by rw[i];simp)) (by simpa using f id hm)
 ·rw[c]at b;simp only[Bool.not_eq_true',List.contains_iff_mem,Bool.eq_false_iff,ne_eq]at b;exact b g
theorem Ng{d:Nat}{u:Upd}(h:Nf d u=true):wg d u:=by
 unfold Nf at h;simp only[Bool.and_eq_true]at h;obtain⟨⟨f,c⟩,e⟩:=h;refine⟨f,fun i o b=>?_,fun o b=>?_⟩
 ·rw[b]at c;exact c
 ·rw[b]at e;exact e
def lh(P:Program)(K:List Eff->St->Prop):List VOper->St->List Eff->Prop
 |[],σ,d=>K d σ
 |o::r,σ,d=>match o.guard with
  |none=>dT P σ o.dst (fun u=>lh P K r (σ.apply o.dst u) (d++[⟨eE σ o.op u,o.dst,u⟩])) o.op
  |some (g,b)=>match ja (ap σ.env g)with
   |some c=>(c=some b->dT P σ o.dst (fun u=>lh P K r (σ.apply o.dst u) (d++[⟨eE σ o.op u,o.dst,u⟩])) o.op)/\
     (¬c=some b->lh P K r (σ.apply o.dst gy) (d++[⟨[],o.dst,gy⟩]))
   |none=>False
def fm(P:Program):List VOper->St->List Eff->St->Prop
 |[],σ,c,σf=>c=[]/\σf=σ
 |o::r,σ,c,σf=>∃e b,c=e::b/\fi P σ o e/\fm P r (σ.apply e.dst e.u) b σf
theorem mS{P:Program}{K:List Eff->St->Prop} : ∀ {l:List VOper} {σ:St} {m:List Eff},lh P K l σ m->∃d f,fm P l σ d f/\K (m++d) f
 |[],σ,m,h=>⟨[],σ,⟨rfl,rfl⟩,by rw[List.append_nil];exact h⟩
 |o::r,σ,m,h=>by
  simp only[lh]at h
  have n:dT P σ o.dst (fun u=>lh P K r (σ.apply o.dst u) (m++[⟨eE σ o.op u,o.dst,u⟩])) o.op->
    ∃e d f,Kb P σ o e/\fm P r (σ.apply e.dst e.u) d f/\K (m++e::d) f:=by
   intro p;obtain⟨u,v,x⟩:=GT p;obtain⟨d,f,j,k⟩:=mS x;exact⟨⟨eE σ o.op u,o.dst,u⟩,d,f,⟨v,rfl,rfl⟩,j,by simpa using k⟩
  split at h
  ·next q=>
   obtain⟨e,d,f,p,j,k⟩:=n h;exact⟨e::d,f,⟨e,d,rfl,by unfold fi;rw[q];exact p,j⟩,k⟩
  ·next g b q=>
   split at h
   ·next c s=>
    by_cases i:c=some b
    ·obtain⟨e,d,f,p,j,k⟩:=n (h.1 i);exact⟨e::d,f,⟨e,d,rfl,by unfold fi;rw[q];exact⟨c,s,.inl ⟨i,p⟩⟩,j⟩,k⟩
    ·obtain⟨d,f,j,k⟩:=mS (h.2 i);exact⟨⟨[],o.dst,gy⟩::d,f,⟨_,d,rfl,by unfold fi;rw[q];exact⟨c,s,.inr ⟨i,rfl⟩⟩,j⟩,by simpa using k⟩
   ·exact h.elim
def qM(σ:St)(dX makes:List (Nat×Nat))(b:List Eff):Bool:=
 dX.all (fun p=>match b[p.1]?,b[p.2]? with
  |some x,some y=>Nd x y&&Nd y x
  |_,_=>false) &&
 makes.all (fun p=>match b[p.1]?,b[p.2]? with
  |some x,some y=>match y.newId with
   |some d=>Nf d x.u
   |none=>true
  |_,_=>false) &&
 b.all (fun e=>match e.newId with
  |some d=>E5 d σ.env&&E6 d σ.objs
  |none=>true)
section
variable {P:Program}
def iW:Nat->List VOper->List Eff->List Item1
 |_,[],_=>[]
 |_,_::_,[]=>[]
 |i,o::r,e::b=>⟨i,o,e⟩::iW (i+1) r b
theorem gK:∀ {l:List VOper} {σ b:St} {c:List Eff} (i:Nat),fm P l σ c b->yy P (iW i l c) σ b/\(iW i l c).map (·.i)=List.range' i l.length/\c.length=l.length
 |[],σ,b,c,i,⟨d,f⟩=>by subst d;subst f;exact⟨St.Eq.refl _,rfl,rfl⟩
 |o::r,σ,b,c,i,⟨e,g,d,f,h⟩=>by
  subst d;obtain⟨j,k,n⟩:=gK (i+1) h;exact⟨⟨f,j⟩,by simp[iW,k,List.range'_succ],by simp[n]⟩
theorem Ec:∀ {l:List VOper} {b:List Eff} {i:Nat} {p:Item1},b.length=l.length->p∈iW i l b->i<=p.i/\l[p.i-i]?=some p.o/\b[p.i-i]?=some p.e
 |[],_,_,_,_,h=>by simp[iW]at h
 |_::_,[],_,_,c,_=>by simp at c
 |o::r,e::b,i,p,c,h=>by
  simp only[iW,List.mem_cons]at h;rcases h with rfl|h
  ·simp
  ·obtain⟨g,d,f⟩:=Ec (by simpa using c) h;refine⟨by omega,?_,?_⟩
   ·rw[show p.i-i=(p.i-(i+1))+1 by omega];simpa using d
   ·rw[show p.i-i=(p.i-(i+1))+1 by omega];simpa using f
theorem Hv(c:Array Nat):∀(d:List Edge) (s:Nat) (b:Nat),(d.foldl (fun s e=>if Region.binds .any e then s ||| 2 ^ e.on ||| c.getD e.on 0 else s) s).testBit b=true->
  s.testBit b=true\/∃e∈d,Region.binds .any e=true/\(b=e.on\/(c.getD e.on 0).testBit b=true)
 |[],s,b,h=>.inl h
 |e::d,s,b,h=>by
  simp only[List.foldl_cons]at h;rcases Hv c d _ b h with h|⟨i,f,j,k⟩
  ·split at h
   ·next g=>
    simp only[Nat.testBit_or,Bool.or_eq_true,Nat.testBit_two_pow,decide_eq_true_eq]at h;rcases h with(h|h)|h
    ·exact .inl h
    ·exact .inr ⟨e,by simp,g,.inl h.symm⟩
    ·exact .inr ⟨e,by simp,g,.inr h⟩
   ·exact .inl h
  ·exact .inr ⟨i,List.mem_cons_of_mem _ f,j,k⟩
theorem F9:∀(l:List Oper) (c:Array Nat),
  (l.foldl (fun c o=>c.push (o.after.foldl (fun s e=>if Region.binds .any e then s ||| 2 ^ e.on ||| c.getD e.on 0 else s) 0)) c).size=c.size+l.length/\
  (∀j,j<c.size->(l.foldl (fun c o=>c.push (o.after.foldl (fun s e=>if Region.binds .any e then s ||| 2 ^ e.on ||| c.getD e.on 0 else s) 0)) c).getD j 0=c.getD j 0)/\
  ∀j o,l[j]?=some o->∀b,((l.foldl (fun c o=>c.push (o.after.foldl (fun s e=>if Region.binds .any e then s ||| 2 ^ e.on ||| c.getD e.on 0 else s) 0)) c).getD (c.size+j) 0).testBit b=true->
   ∃e∈o.after.toList,Region.binds .any e=true/\(b=e.on\/((l.foldl (fun c o=>c.push (o.after.foldl (fun s e=>if Region.binds .any e then s ||| 2 ^ e.on ||| c.getD e.on 0 else s) 0)) c).getD e.on 0).testBit b=true)
 |[],c=>by simp
 |o::l,c=>by
  simp only[List.foldl_cons];generalize u:(o.after.foldl (fun s e=>if Region.binds .any e then s ||| 2 ^ e.on ||| c.getD e.on 0 else s) 0)=v;obtain⟨x,g,y⟩:=F9 l (c.push v);refine⟨by rw[x];simp;omega,fun j i=>?_,fun j p k b f=>?_⟩
  ·rw[g j (by simp;omega)];simp[Array.getD,i,Nat.lt_succ_of_lt i,Array.getElem_push_lt i]
  ·cases j with
   |zero=>
    simp only[List.getElem?_cons_zero,E_]at k;subst k;rw[Nat.add_zero,g c.size (by simp)]at f;have m:(c.push v).getD c.size 0=v:=by simp[Array.getD]
    rw[m,<-u,<-Array.foldl_toList]at f;rcases Hv c _ _ _ f with h|⟨e,z,n,h⟩
    ·simp at h
    ·refine⟨e,z,n,h.imp id (fun h=>?_)⟩
     have d:e.on<c.size:=by
      rcases Nat.lt_or_ge e.on c.size with q|q
      ·exact q
      ·rw[Array.getD,dif_neg (by omega)]at h;simp at h
     rw[g e.on (by simp;omega)];have:(c.push v).getD e.on 0=c.getD e.on 0:=by simp[Array.getD,d,Nat.lt_succ_of_lt d,Array.getElem_push_lt d]
     rw[this];exact h
   |succ j=>
    have:=y j p (by simpa using k) b (by
     rw[Array.size_push,show c.size+1+j=c.size+(j+1) by omega];exact f)
    exact this
theorem Fa{ops:Array Oper}{j:Nat}{o:Oper}(d:ops[j]?=some o){b:Nat}(c:((Region.before ops).getD j 0).testBit b=true) :
  ∃e∈o.after.toList,Region.binds .any e=true/\(b=e.on\/((Region.before ops).getD e.on 0).testBit b=true):=by
 have:=(F9 ops.toList #[]).2.2 j o (by simpa using d) b;unfold Region.before at c |-;rw[<-Array.foldl_toList]at c |-;simp only[Array.size_empty,Nat.zero_add]at this;exact this c
theorem rO{ops:Array Oper}{listed:Array Bool}(k:∀j o,ops[j]?=some o->∀e∈o.after.toList,Region.binds .any e=true->e.on<j)
  (l:∀j o,ops[j]?=some o->listed.getD j false=true->∀e∈o.after.toList,Region.binds .any e=true->listed.getD e.on false=true) :
  ∀(n j:Nat) (o:Oper),j<n->ops[j]?=some o->(∀e∈o.after.toList,Region.binds .any e=true->listed.getD e.on false=true)->∀b,((Region.before ops).getD j 0).testBit b=true->listed.getD b false=true:=by
 intro n
 induction n with
 |zero=>intro j o h;omega
 |succ n x=>
  intro j o D m y b z;obtain⟨e,s,i,h⟩:=Fa m z;have u:=y e s i;rcases h with rfl|h
  ·exact u
  ·have A:=k j o m e s i;cases c:ops[e.on]? with
   |none=>
    exfalso
    have:ops.size<=e.on:=by
     rcases Nat.lt_or_ge e.on ops.size with d|d
     ·simp[d]at c
     ·exact d
    have B:j<ops.size:=by
     rcases Nat.lt_or_ge j ops.size with d|d
     ·exact d
     ·simp[Array.getElem?_eq_none d]at m
    omega
   |some v=>exact x e.on v (by omega) c (fun C p q=>l e.on v c u C p q) b h
end
end Go.Vs
namespace Go.Vs
section
variable {P:Program} {w0:World} {S0:ba} {M:Ctx}
theorem fF.congr{σ σ':St}{a:Act}{w:World}(b:St.Eq σ σ')(h:fF w0 S0 M σ a w):fF w0 S0 M σ' a w:=by
 obtain⟨S,μ,β,h⟩:=h;exact⟨S,μ,β,h.drop b.n b.gl (fun i _ _ c=>(b.ro i).2 c) (fun k=>.inr (b.env k)) (fun id o l=>by rw[<-b.objs];exact l)⟩
theorem dg{b:Array Oper} : ∀ {l:List Oper} {c:List VOper},cw P b l=some c->c.length=l.length/\∀(i:Nat) (o:Oper),l[i]?=some o->∃v,c[i]?=some v/\iu P b o=some v
 |[],c,h=>by
  simp only[cw,E_]at h;subst h;exact⟨rfl,by simp⟩
 |o::r,c,h=>by
  simp only[cw]at h;split at h
  ·next v e f g=>
   obtain rfl:=O_ h;obtain⟨j,k⟩:=dg g;refine⟨by simp[j],fun i p d=>?_⟩;cases i with
   |zero=>simp at d;subst d;exact⟨v,rfl,f⟩
   |succ i=>simpa using k i p (by simpa using d)
  ·simp at h
theorem fo{b:Array Oper}{o:Oper}{v:VOper}(h:iu P b o=some v):v.dst=o.dst/\mM P o.op=some v.op/\gI b o.guard=some v.guard:=by
 unfold iu at h;split at h
 ·next x g c d=>
  obtain rfl:=O_ h;exact⟨rfl,c,d⟩
 ·simp at h
theorem ud{f:Array Oper}{j d:Nat}(m:(f[j]?).bind (·.dst)=some d){σ:St}{a:Act}{w:World}(h:fF w0 S0 M σ a w){c:Option Bool}(g:ja (ap σ.env d)=some c):yielded f a.tmps j=c:=by
 obtain⟨S,μ,β,q⟩:=h;have b:=q.env d;unfold ja at g;split at g
 ·next p k=>
  rw[k]at b;obtain rfl:=O_ g;have b:a.tmps.getD d Go.undef=.bool p:=b
  have l:a.tmps[d]?=some (.bool p):=by
   rcases Nat.lt_or_ge d a.tmps.size with e|e
   ·simp[e]at b |-;exact b
   ·rw[Array.getD,dif_neg (by omega)]at b;simp[Go.undef]at b
  unfold yielded;rw[m,Option.bind_some,l]
 ·next k=>
  rw[k]at b;obtain rfl:=O_ g;have b:∃i,a.tmps.getD d Go.undef=.tuple i/\bx w S [] i.toList:=b;obtain⟨i,b,_⟩:=b;unfold yielded;rw[m,Option.bind_some];rcases Nat.lt_or_ge d a.tmps.size with e|e
  ·have l:a.tmps[d]?=some (.tuple i):=by simp[e]at b |-;exact b
   rw[l]
  ·rw[Array.getElem?_eq_none e]
 ·simp at g
theorem RR{ops:Array Oper}{i:Nat}{o:Oper}{v:VOper}(I:ops[i]?=some o)(J:iu P ops o=some v){σ:St}{a:Act}{w:World}(h:fF w0 S0 M σ a w)(E:∀d,v.dst=some d->d<σ.n){e:Eff}(x:fi P σ v e)
  {Q:Exit->Act->World->Prop} {K:Act->World->Prop} (F:∀H z,fF w0 S0 M (σ.apply e.dst e.u) H z->K H z):wpOp P ops Q i K a w:=by
 obtain⟨k,A,m⟩:=fo J
 have run:Kb P σ v e->o.wp P a w K Q:=by
  rintro⟨N,X,O⟩;refine Ps h (fun d n=>E d (by rw[k];exact n)) A (u:=e.u) (by rw[<-k];exact N) (fun val z B=>F _ _ ?_);rw[O,k];exact B
 unfold wpOp;rw[I];dsimp only;cases l:o.guard with
 |none=>
  have:v.guard=none:=by rw[l]at m;simpa[gI]using m.symm
  unfold fi at x;rw[this]at x;have C:Region.wanted o (yielded ops a.tmps)=true:=by simp[Region.wanted,l]
  rw[if_pos C];exact .inl (run x)
 |some p=>
  obtain⟨j,b⟩:=p;rw[l]at m;simp only[gI]at m;split at m
  ·next d n=>
   have D:v.guard=some (d,b):=by simpa using m.symm
   unfold fi at x;rw[D]at x;obtain⟨c,R,q⟩:=x;have U:yielded ops a.tmps j=c:=ud n h R;have C:Region.wanted o (yielded ops a.tmps)=(c==some b):=by simp[Region.wanted,l,U]
   rw[C];rcases q with⟨s,y⟩|⟨s,V⟩
   ·rw[if_pos (by simpa using s)];exact .inl (run y)
   ·rw[if_neg (by simpa using s)];subst V;refine F _ _ ?_;obtain⟨S,μ,β,W⟩:=h;rw[<-k];exact⟨S,μ,β,W.putD (sv:=.val (.tuple [])) E ⟨#[],rfl,rfl⟩⟩
  ·simp at m
def vK:Opd->Option Nat
 |.tmp t=>some t
 |_=>none
def vL:Operand->Option Nat
 |.tmp t=>some t
 |_=>none
theorem pT{x:Operand}{y:Opd}(h:al x=some y):vL x=vK y:=by
 cases x with
 |tmp t=>simp only[al,E_]at h;subst h;rfl
 |const v=>simp only[al,Option.map_eq_some_iff]at h;obtain⟨s,_,rfl⟩:=h;rfl
 |global g=>simp only[al,E_]at h;subst h;rfl
 |func f=>simp only[al,E_]at h;subst h;rfl
theorem GU:∀ {d:List Operand} {b:List Opd},dF d=some b->∀y∈b,∃x∈d,vL x=vK y
 |[],b,h=>by simp only[dF,E_]at h;subst h;simp
 |x::r,b,h=>by
  simp only[dF]at h;split at h
  ·next u j e f=>
   obtain rfl:=O_ h;intro y c;rcases List.mem_cons.1 c with rfl|c
   ·exact⟨x,by simp,pT e⟩
   ·obtain⟨z,g,i⟩:=GU f y c;exact⟨z,List.mem_cons_of_mem _ g,i⟩
  ·simp at h
theorem RS{x:Option Operand}{y:Option Opd}(h:cq x=some y):∀z∈y.toList,∃u∈x.toList,vL u=vK z:=by
 cases x with
 |none=>simp only[cq,E_]at h;subst h;simp
 |some x=>
  simp only[cq,Option.map_eq_some_iff]at h;obtain⟨z,c,rfl⟩:=h;intro u b;simp only[Option.toList_some,List.mem_singleton]at b;subst b;exact⟨x,by simp,pT c⟩
theorem Hw{b:Nat->Option (Nat×Nat)} : ∀ {e:List (Nat×Operand)} {c:List (Nat×Nat×Opd)},ff b e=some c->∀y∈c.map (·.2.2),∃x∈e.map (·.2),vL x=vK y
 |[],c,h=>by simp only[ff,E_]at h;subst h;simp
 |(i,x)::r,c,h=>by
  simp only[ff]at h;split at h
  ·next o s u m _ f g=>
   obtain rfl:=O_ h;intro y d;simp only[List.map_cons,List.mem_cons]at d;rcases d with rfl|d
   ·exact⟨x,by simp,pT f⟩
   ·obtain⟨z,j,k⟩:=Hw g y d;exact⟨z,by simp only[List.map_cons];exact List.mem_cons_of_mem _ j,k⟩
  ·simp at h
theorem ie{x:Operand}{b:Opd}(h:al x=some b){l:List Operand}(d:x∈l):∀y∈[b],∃z∈l,vL z=vK y:=by
 intro y c;simp only[List.mem_singleton]at c;subst c;exact⟨x,d,pT h⟩
theorem lA{x z:Operand}{b c:Opd}(h:al x=some b)(k:al z=some c){l:List Operand}(e:x∈l)(f:z∈l):∀y∈[b,c],∃z∈l,vL z=vK y:=by
 intro y d;simp only[List.mem_cons,List.not_mem_nil,or_false]at d;rcases d with rfl|rfl
 ·exact⟨x,e,pT h⟩
 ·exact⟨z,f,pT k⟩
theorem Kc{c:Call}{q:VOp}(h:lx P c=some q):∀y∈q.opds,∃x∈c.operands.toList,vL x=vK y:=by
 have d:∀x,x∈c.args.toList->x∈c.operands.toList:=by
  intro x g;simp only[Call.operands,Array.toList_append,List.mem_append];exact .inr g
 unfold lx at h;split at h
 ·split at h
  ·split at h
   ·simp at h
   ·simp only[Option.map_eq_some_iff]at h;obtain⟨A,i,rfl⟩:=h;intro y j;obtain⟨x,g,k⟩:=GU i y j;exact⟨x,d x g,k⟩
  ·simp at h
 ·next f _ s=>
  split at h
  ·next u B v z=>
   obtain rfl:=O_ h;intro y i;simp only[VOp.opds,List.mem_cons]at i;rcases i with rfl|i
   ·exact⟨f,by simp[Call.operands,s],pT v⟩
   ·obtain⟨x,g,k⟩:=GU z y i;exact⟨x,d x g,k⟩
  ·simp at h
 ·split at h
  ·next t x _ b=>
   have m:=d x (by rw[b];simp)
   split at h<;>first
    |(simp at h;done)
    |(next g=>obtain rfl:=O_ h;exact ie g m)
  ·simp at h
 ·split at h
  ·next x y b=>
   split at h
   ·next n p g i=>
    obtain rfl:=O_ h;exact lA g i (d x (by rw[b];simp)) (d y (by rw[b];simp))
   ·simp at h
  ·simp at h
 ·split at h
  ·next x y b=>
   split at h
   ·next n p g i=>
    obtain rfl:=O_ h;exact lA g i (d x (by rw[b];simp)) (d y (by rw[b];simp))
   ·simp at h
  ·simp at h
 ·split at h
  ·next t C x y _ _ b=>
   split at h
   ·next e D n p _ _ g i=>
    split at h
    ·split at h
     ·obtain rfl:=O_ h;exact lA g i (d x (by rw[b];simp)) (d y (by rw[b];simp))
     ·simp at h
    ·simp at h
   ·next e n p _ _ g i=>
    split at h
    ·split at h
     ·obtain rfl:=O_ h;exact lA g i (d x (by rw[b];simp)) (d y (by rw[b];simp))
     ·simp at h
    ·simp at h
   ·simp at h
  ·simp at h
 ·simp at h
theorem Nh{C:Op}{K:VOp}(d:aZ P C=some K):∀y∈K.opds,∃x∈C.operands.toList,vL x=vK y:=by
 cases C with
 |move x=>simp only[aZ,Option.map_eq_some_iff]at d;obtain⟨y,j,rfl⟩:=d;exact ie j (by simp[Op.operands])
 |assign x=>simp only[aZ,Option.map_eq_some_iff]at d;obtain⟨y,j,rfl⟩:=d;exact ie j (by simp[Op.operands])
 |pick c x y=>
  simp only[aZ]at d;split at d
  ·next c' k L Y Z h3=>
   obtain rfl:=O_ d;intro z q;simp only[VOp.opds,List.mem_cons,List.not_mem_nil,or_false]at q;rcases q with rfl|rfl|rfl
   ·exact⟨c,by simp[Op.operands],pT Y⟩
   ·exact⟨x,by simp[Op.operands],pT Z⟩
   ·exact⟨y,by simp[Op.operands],pT h3⟩
  ·simp at d
 |alloc t=>
  simp only[aZ]at d;split at d
  ·obtain rfl:=O_ d;simp[VOp.opds]
  ·simp only[Option.map_eq_some_iff]at d;obtain⟨z,q,rfl⟩:=d;simp[VOp.opds]
 |box t x=>simp only[aZ,Option.map_eq_some_iff]at d;obtain⟨y,j,rfl⟩:=d;exact ie j (by simp[Op.operands])
 |build t parts=>
  have m:∀ {v:Nat->Option (Nat×Nat)} {p:List (Nat×Nat×Opd)} {z:List SV},ff v parts.toList=some p->∀y∈(VOp.build z p).opds,∃x∈(Op.build t parts).operands.toList,vL x=vK y:=by
   intro v p z E y j;obtain⟨x,h,A⟩:=Hw E y j;exact⟨x,by simp only[Op.operands];exact h,A⟩
  simp only[aZ]at d;split at d
  ·split at d
   ·simp only[Option.map_eq_some_iff]at d;obtain⟨p,E,rfl⟩:=d;exact m E
   ·simp at d
  ·split at d
   ·simp only[Option.map_eq_some_iff]at d;obtain⟨p,E,rfl⟩:=d;exact m E
   ·simp at d
  ·simp at d
 |buildSlice t n parts=>
  simp only[aZ]at d;split at d
  ·split at d
   ·split at d
    ·simp only[Option.map_eq_some_iff]at d;obtain⟨p,E,rfl⟩:=d;intro y j;obtain⟨x,h,A⟩:=Hw E y j;exact⟨x,by simp only[Op.operands];exact h,A⟩
    ·simp at d
   ·simp at d
  ·simp at d
 |load t x=>
  simp only[aZ]at d;split at d
  ·next g k hg h=>obtain rfl:=O_ d;exact ie h (by simp[Op.operands])
  ·simp at d
 |store t x y=>
  simp only[aZ]at d;split at d
  ·next n k L hn h j=>obtain rfl:=O_ d;exact lA h j (by simp[Op.operands]) (by simp[Op.operands])
  ·simp at d
 |nilCheck x=>simp only[aZ,Option.map_eq_some_iff]at d;obtain⟨y,j,rfl⟩:=d;exact ie j (by simp[Op.operands])
 |binOp C t x y N=>
  simp only[aZ,Bq]at d;split at d
  ·next k L h j=>
   have two:∀z∈[k,L],∃u∈(Op.binOp C t x y N).operands.toList,vL u=vK z:=lA h j (by simp[Op.operands]) (by simp[Op.operands]);have one:∀z∈[k],∃u∈(Op.binOp C t x y N).operands.toList,vL u=vK z:=ie h (by simp[Op.operands])
   have I:∀ {J o},AT P J o t y k L=some K->∀z∈K.opds,∃u∈(Op.binOp C t x y N).operands.toList,vL u=vK z:=by
    intro J o d;unfold AT at d;split at d
    ·obtain rfl:=O_ d;exact two
    ·obtain rfl:=O_ d;exact two
    ·obtain rfl:=O_ d;exact two
    ·split at d
     ·obtain rfl:=O_ d;exact one
     ·simp at d
    ·split at d
     ·obtain rfl:=O_ d;exact one
     ·simp at d
    ·split at d
     ·obtain rfl:=O_ d;exact one
     ·simp at d
    ·split at d
     ·simp at d
     ·simp only[Option.map_eq_some_iff]at d;obtain⟨ks,_,rfl⟩:=d;exact two
    ·simp at d
   split at d
   ·exact I d
   ·exact I d
   ·obtain rfl:=O_ d;exact two
  ·simp at d
 |unOp C t x=>simp only[aZ,Option.map_eq_some_iff]at d;obtain⟨y,j,rfl⟩:=d;exact ie j (by simp[Op.operands])
 |convert s t x=>
  simp only[aZ]at d;split at d
  ·next h=>obtain rfl:=O_ d;exact ie h (by simp[Op.operands])
  ·next h=>
   split at d
   ·obtain rfl:=O_ d;exact ie h (by simp[Op.operands])
   ·simp at d
  ·simp at d
 |makeInterface t x=>
  simp only[aZ]at d;split at d
  ·simp at d
  ·simp only[Option.map_eq_some_iff]at d;obtain⟨y,j,rfl⟩:=d;exact ie j (by simp[Op.operands])
  ·simp at d
 |makeFunc fn first Q=>
  simp only[aZ,N5]at d;split at d
  ·split at d
   ·simp only[Option.map_eq_some_iff]at d;obtain⟨ys,j,rfl⟩:=d;intro y O;obtain⟨x,h,A⟩:=GU j y O;exact⟨x,by simp only[Op.operands,Array.toList_append,List.mem_append];exact .inr h,A⟩
   ·simp at d
  ·simp at d
 |makeSlice t l c=>
  simp only[aZ]at d;split at d
  ·split at d
   ·next h j=>
    split at d
    ·obtain rfl:=O_ d;exact lA h j (by simp[Op.operands]) (by simp[Op.operands])
    ·simp at d
   ·simp at d
  ·simp at d
 |slice t x R B U=>
  have m:∀ {k G1 nB} {l:List Opd},al x=some k->cq R=some G1->cq B=some nB->(∀z∈l,∃u∈U.toList,vL u=vK z)->∀z∈k::(G1.toList++nB.toList++l),∃u∈(Op.slice t x R B U).operands.toList,vL u=vK z:=by
   intro k G1 nB l h F H hm z q;simp only[List.mem_cons,List.mem_append]at q;rcases q with rfl|(q|q)|q
   ·exact⟨x,by simp[Op.operands],pT h⟩
   ·obtain⟨u,D,A⟩:=RS F z q;exact⟨u,by simp[Op.operands]at D |-;simp[D],A⟩
   ·obtain⟨u,D,A⟩:=RS H z q;exact⟨u,by simp[Op.operands]at D |-;simp[D],A⟩
   ·obtain⟨u,D,A⟩:=hm z q;exact⟨u,by simp[Op.operands]at D |-;simp[D],A⟩
  simp only[aZ]at d;split at d
  ·next k V W X h F H hm=>
   obtain rfl:=O_ d;have:=m (l:=[]) h F H (by simp);simpa[VOp.opds]using this
  ·next e k V W m' X h F H hm=>
   simp only[Option.map_eq_some_iff]at d;obtain⟨s,_,rfl⟩:=d;exact m h F H (RS hm)
  ·next n e k V W X h F H hm=>
   simp only[Option.map_eq_some_iff]at d;obtain⟨s,_,rfl⟩:=d;have:=m (l:=[]) h F H (by simp);simpa[VOp.opds]using this
  ·simp at d
 |fieldAddr t x f=>
  simp only[aZ]at d;split at d
  ·split at d
   ·next h=>
    split at d
    ·split at d
     ·simp at d
     ·obtain rfl:=O_ d;exact ie h (by simp[Op.operands])
    ·simp at d
   ·simp at d
  ·simp at d
 |field t x f=>simp[aZ]at d
 |indexAddr t x i=>
  simp only[aZ]at d;split at d
  ·split at d
   ·next h B=>obtain rfl:=O_ d;exact lA h B (by simp[Op.operands]) (by simp[Op.operands])
   ·simp at d
  ·split at d
   ·next h B=>obtain rfl:=O_ d;exact lA h B (by simp[Op.operands]) (by simp[Op.operands])
   ·simp at d
  ·simp at d
 |index t x i=>
  simp only[aZ]at d;split at d
  ·split at d
   ·next h B=>obtain rfl:=O_ d;exact lA h B (by simp[Op.operands]) (by simp[Op.operands])
   ·simp at d
  ·split at d
   ·next h B=>obtain rfl:=O_ d;exact lA h B (by simp[Op.operands]) (by simp[Op.operands])
   ·simp at d
  ·simp at d
 |extract x i=>simp only[aZ,Option.map_eq_some_iff]at d;obtain⟨y,j,rfl⟩:=d;exact ie j (by simp[Op.operands])
 |call c=>exact Kc d
 |range t x=>
  simp only[aZ]at d;split at d
  ·next h=>obtain rfl:=O_ d;exact ie h (by simp[Op.operands])
  ·simp at d
 |next x b=>
  cases b with
  |false=>simp[aZ]at d
  |true=>simp only[aZ,Option.map_eq_some_iff]at d;obtain⟨y,j,rfl⟩:=d;exact ie j (by simp[Op.operands])
 |_=>simp[aZ]at d
theorem Pw{c:Op}{d:VOp}(b:mM P c=some d):∀y∈d.opds,∃x∈c.operands.toList,vL x=vK y:=by
 rcases tW b with b|rfl
 ·exact Nh b
 ·simp[VOp.opds]
theorem Px{l:List Opd}{t:Nat} : t∈(l.filterMap fun|.tmp t=>some t|_=>none)↔∃y∈l,vK y=some t:=by
 simp only[List.mem_filterMap];constructor
 ·rintro⟨y,b,h⟩;exact⟨y,b,by cases y<;>simp_all [vK]⟩
 ·rintro⟨y,b,h⟩;exact⟨y,b,by cases y<;>simp_all [vK]⟩
theorem Py{l:List Operand}{t:Nat} : t∈(l.filterMap fun|.tmp t=>some t|_=>none)↔∃y∈l,vL y=some t:=by
 simp only[List.mem_filterMap];constructor
 ·rintro⟨y,b,h⟩;exact⟨y,b,by cases y<;>simp_all [vL]⟩
 ·rintro⟨y,b,h⟩;exact⟨y,b,by cases y<;>simp_all [vL]⟩
theorem WL{f:Array Oper}{o:Oper}{v:VOper}(h:iu P f o=some v):∀t,t∈v.slots->t∈o.looksAt f:=by
 obtain⟨_,i,e⟩:=fo h;intro t c;unfold VOper.slots at c;unfold Oper.looksAt;rw[List.mem_append]at c |-;rcases c with c|c
 ·left;obtain⟨y,m,n⟩:=Px.1 c;obtain⟨x,q,k⟩:=Pw i y m;exact Py.2 ⟨x,q,k.trans n⟩
 ·right;cases g:o.guard with
  |none=>
   rw[g]at e;have:v.guard=none:=by simpa[gI]using e.symm
   rw[this]at c;simp at c
  |some p=>
   obtain⟨j,b⟩:=p;rw[g]at e;simp only[gI]at e;split at e
   ·next d s=>
    have l:v.guard=some (d,b):=by simpa using e.symm
    rw[l]at c;simp only[List.mem_singleton]at c;subst c;simp[s]
   ·simp at e
end
end Go.Vs
namespace Go.Vs
section
variable {P:Program} {w0:World} {S0:ba} {M:Ctx}
theorem B1{listed:Array Bool}{i:Nat}(h:listed.getD i true=false):listed.getD i false=false:=by
 rcases Nat.lt_or_ge i listed.size with b|b
 ·simp only[Array.getD,dif_pos b]at h |-;exact h
 ·simp[Array.getD,Nat.not_lt.2 b]at h
theorem WM{b:Array Bool}{i:Nat}(c:i<b.size)(h:b.getD i false=false):b.getD i true=false:=by
 simp only[Array.getD,dif_pos c]at h |-;exact h
theorem tf(m j:Nat):(Array.replicate m false).getD j false=false:=by
 rcases Nat.lt_or_ge j m with h|h
 ·simp[Array.getD,h]
 ·simp[Array.getD,Nat.not_lt.2 h]
theorem WN{c:Array Oper}{a b:Oper}{x y:VOper}(g:iu P c a=some x)(i:iu P c b=some y)(h:a.apart c b=true):To x y:=by
 obtain⟨l,m,n⟩:=Oper.apart_spec h;obtain⟨j,_,_⟩:=fo g;obtain⟨k,_,_⟩:=fo i;refine⟨fun d e=>⟨fun f=>l d (by rw[<-j];exact e) (WL i d f),by rw[k];exact m d (by rw[<-j];exact e)⟩,fun d e f=>n d (by rw[<-k];exact e) (WL g d f)⟩
theorem y7{σ:St}{o:VOper}{e:Eff}(h:fi P σ o e):(e.u.wr≠none->o.op.writes=true)/\(e.u.new≠none->o.op.makes=true)/\(e.u.fz≠[]->o.op.acts=true)/\(e.ids≠[]->o.op.acts=true):=by
 have b:Kb P σ o e->_:=fun⟨f,g,j⟩=>(⟨(Hr f).1,(Hr f).2,WK f,fun d=>by
  rw[g]at d;unfold eE at d;cases i:o.op.acts with
  |true=>rfl
  |false=>rw[i]at d;exact absurd rfl d⟩:(e.u.wr≠none->o.op.writes=true)/\(e.u.new≠none->o.op.makes=true)/\(e.u.fz≠[]->o.op.acts=true)/\(e.ids≠[]->o.op.acts=true))
 unfold fi at h;split at h
 ·exact b h
 ·obtain⟨c,_,h|h⟩:=h
  ·exact b h.2
  ·rw[h.2];exact⟨fun x=>absurd rfl x,fun x=>absurd rfl x,fun x=>absurd rfl x,fun x=>absurd rfl x⟩
theorem UK{σ σ':St}{a b:VOper}{x y:Eff}(E:fi P σ a x)(F:fi P σ' b y)(h:a.op.flagged b.op=false):F7 x y/\F7 y x:=by
 obtain⟨u,H,I,J⟩:=y7 E;obtain⟨v,K,L,N⟩:=y7 F;unfold VOp.flagged at h;simp only[Bool.or_eq_false_iff,Bool.and_eq_false_iff]at h;obtain⟨⟨⟨z,A⟩,O⟩,Q⟩:=h
 have B:x.u.new=none:=by
  cases k:x.u.new with
  |none=>rfl
  |some o=>have:=H (by rw[k];simp);rw[O]at this;simp at this
 have C:y.u.new=none:=by
  cases k:y.u.new with
  |none=>rfl
  |some o=>have:=K (by rw[k];simp);rw[Q]at this;simp at this
 have c:∀j:VOp,j.writes=true->j.acts=true:=by intro j;cases j<;>simp[VOp.writes,VOp.acts]
 have d:∀(p q:Eff) (o1 o2:VOp),p.u.new=none->q.u.new=none->(p.u.wr≠none->o1.writes=true)->(q.u.wr≠none->o2.writes=true)->(p.u.fz≠[]->o1.acts=true)->(q.ids≠[]->o2.acts=true)->
   (o1.writes=false\/o2.acts=false)->(o2.writes=false\/o1.acts=false)->F7 p q:=by
  intro p q o1 o2 R U V D W X Y Z;refine⟨fun id f=>?_,fun id o f g=>?_⟩
  ·rw[y6 (.inl R)]at f;have l:p.u.wr≠none:=by intro e;rw[e]at f;exact f rfl
   have m:=V l;have i:o2.acts=false:=Y.resolve_left (by rw[m];simp);refine⟨fun g=>?_,?_⟩
   ·have:=X (by intro e;rw[e]at g;simp at g);rw[i]at this;simp at this
   ·rw[y6 (.inl U)];cases hq:q.u.wr with
    |none=>rfl
    |some r=>
     have:=c _ (D (by rw[hq];simp));rw[i]at this;simp at this
  ·have n:=D (by rw[f];simp);have s:o1.acts=false:=Z.resolve_left (by rw[n];simp);have:=W (by intro e;rw[e]at g;simp at g);rw[s]at this;simp at this
 exact⟨d x y a.op b.op B C u v I N z A,d y x b.op a.op C B v u L J A z⟩
theorem th:∀ {l:List VOper} {σ b:St} {c:List Eff} (i:Nat),fm P l σ c b->∀p∈iW i l c,∃σ',fi P σ' p.o p.e
 |[],_,_,_,_,_,_,h=>by simp[iW]at h
 |o::r,σ,b,c,i,⟨e,d,f,g,j⟩,p,h=>by
  subst f;simp only[iW,List.mem_cons]at h;rcases h with rfl|h
  ·exact⟨σ,g⟩
  ·exact th (i+1) j p h
theorem rP{e:Eff}{d:Nat} : e.newId=some d↔kz e d:=by
 unfold Eff.newId kz;constructor
 ·intro h;split at h
  ·next o f b c=>
   obtain rfl:=O_ h;exact⟨⟨o,b⟩,c⟩
  ·simp at h
 ·rintro⟨⟨o,b⟩,c⟩;rw[b,c]
def vM(f:Nat->Bool):Nat->Nat
 |0=>0
 |n+1=>vM f n+(if f n then 0 else 1)
theorem Hx{f g:Nat->Bool}{i:Nat}(b:f i=false)(c:g i=true)(h:∀j,i≠j->g j=f j):∀n,(i<n->vM g n+1=vM f n)/\(n<=i->vM g n=vM f n)
 |0=>⟨fun h=>by omega,fun _=>rfl⟩
 |n+1=>by
  obtain⟨k,d⟩:=Hx b c h n;refine⟨fun l=>?_,fun l=>?_⟩
  ·rcases Nat.lt_or_ge i n with e|e
   ·simp only[vM,h n (by omega)];have:=k e;omega
   ·obtain rfl:i=n:=by omega
    simp[vM,d (Nat.le_refl _),b,c]
  ·simp only[vM,h n (by omega),d (by omega)]
theorem Ed{f:Nat->Bool} : ∀ {n},vM f n=0->∀j,j<n->f j=true
 |0,_,j,c=>by omega
 |n+1,h,j,c=>by
  simp only[vM]at h;rcases Nat.lt_or_ge j n with b|b
  ·exact Ed (by omega) j b
  ·obtain rfl:j=n:=by omega
   cases d:f j with
   |true=>rfl
   |false=>simp[d]at h
def UpE(ops:Array Oper):Prop:=∀j o,ops[j]?=some o->∀e∈o.after.toList,Region.binds .any e=true->e.on<j
theorem LY{ops:Array Oper}{listed:Array Bool}(b:UpE ops)(i:listed.size=ops.size)(h:Region.ready .any ops listed=[]):∀j,j<ops.size->listed.getD j false=true:=by
 intro j
 induction j using Nat.strongRecOn with
 |_ j k=>
  intro d;cases l:listed.getD j false with
  |true=>rfl
  |false=>
   have:j∈Region.ready .any ops listed:=mem_ready.2 ⟨WM (by omega) l,ops[j],by simp[d],fun e m c=>by
    have:=b j ops[j] (by simp[d]) e (by simpa using m) c
    exact k e.on this (by omega)⟩
   rw[h]at this;cases this
theorem Hy{ops:Array Oper}{listed:Array Bool}{Q:Exit->Act->World->Prop}{a:Act}{w:World}(h:∀j,j<ops.size->listed.getD j false=true)(e:Q .normal a w):∀b,wpAny P .any ops Q b listed a w:=by
 have k:Region.ready .any ops listed=[]:=by
  rw[List.eq_nil_iff_forall_not_mem];intro i c;obtain⟨l,m,d,_⟩:=mem_ready.1 c;have:=h i (Array.getElem?_eq_some_iff.1 d).1;rw[B1 l]at this;cases this
 intro b;cases b with
 |zero=>exact⟨k,e⟩
 |succ f=>exact⟨fun _=>e,fun i c=>by rw[k]at c;cases c⟩
structure Ahead(P:Program)(ops:Array Oper)(I:List Item1):Prop where
 comp:∀p∈I,∃o,ops[p.i]?=some o/\iu P ops o=some p.o
 free:∀p∈I,∀x∈I,p.i<x.i->((Region.before ops).getD x.i 0).testBit p.i=false->Free x p
 nr:∀p∈I,∀k∈I,p.i≠k.i->((Region.before ops).getD p.i 0).testBit k.i=false->∀d,kz k.e d->wg d p.e.u
theorem nM{c:Array Oper}{h:List VOper}{dX makes:List (Nat×Nat)}(d:gF c h.toArray=some (dX,makes)):UpE c:=by
 unfold gF at d;simp only at d;split at d
 ·next b=>
  simp only[Bool.and_eq_true,List.all_eq_true,List.mem_range]at b;intro j o g e i k;have:=b.1 j (Array.getElem?_eq_some_iff.1 g).1;rw[g]at this;simp only[List.all_eq_true,Bool.or_eq_true,Bool.not_eq_true',decide_eq_true_eq]at this;rcases this e i with f|f
  ·rw[k]at f;cases f
  ·exact f
 ·cases d
theorem oU{b:Array Oper}{f:List VOper}(j:cw P b b.toList=some f){i:Nat}{v:VOper}(g:f[i]?=some v):∃o,b[i]?=some o/\iu P b o=some v/\i<b.size:=by
 obtain⟨h,c⟩:=dg j;have m:=(List.getElem?_eq_some_iff.1 g).1;have nB:i<b.toList.length:=by omega
 obtain⟨k,d,e⟩:=c i b.toList[i] (List.getElem?_eq_getElem nB);obtain rfl:k=v:=by rw[g]at d;exact(O_ d).symm
 exact⟨b.toList[i],by rw[<-Array.getElem?_toList];exact List.getElem?_eq_getElem nB,e,by simpa using nB⟩
theorem Fb{c:Array Oper}{e:List VOper}(h:cw P c c.toList=some e){dX makes:List (Nat×Nat)}(f:gF c e.toArray=some (dX,makes)){i j:Nat}{x y:VOper}(g:i<j)(k:e[i]?=some x)(l:e[j]?=some y)(m:((Region.before c).getD j 0).testBit i=false):To x y:=by
 obtain⟨o1,n,p,v⟩:=oU h k;obtain⟨o2,q,s,u⟩:=oU h l;unfold gF at f;simp only at f;split at f
 ·next b=>
  simp only[Bool.and_eq_true,List.all_eq_true,List.mem_range]at b;have d:=b.2 j u i g;rw[m,n,q]at d;simp only[Bool.false_or]at d;exact WN p s d
 ·cases f
theorem pU{b:Array Oper}{c:List VOper}(f:cw P b b.toList=some c){dX makes:List (Nat×Nat)}(g:gF b c.toArray=some (dX,makes)){i j:Nat}{x y:VOper}{d:Nat}(e:i<j)(h:c[i]?=some x)(k:c[j]?=some y)(l:x.dst=some d)(p:d∈y.slots):((Region.before b).getD j 0).testBit i=true:=by
 cases q:((Region.before b).getD j 0).testBit i with
 |true=>rfl
 |false=>exact absurd p ((Fb f g e h k q).1 d l).1
theorem BG{g:Array Oper}{C:List VOper}(v:cw P g g.toList=some C){dX makes:List (Nat×Nat)}(s:gF g C.toArray=some (dX,makes)){I:List Item1}(h:∀p∈I,C[p.i]?=some p.o)(e:∀p∈I,∃σ',fi P σ' p.o p.e){σ:St}{V:List Eff}{sel:Nat×Nat->Bool}(D:qM σ (dX.filter sel) (makes.filter sel) V=true)(y:∀p∈I,V[p.i]?=some p.e)(q:∀p∈I,∀x∈I,sel (p.i,x.i)=true):Ahead P g I/\∀p∈I,∀d,kz p.e d->fj d σ:=by
 have E:=s;unfold gF at s;simp only at s;split at s
 ·simp only[E_,Prod.mk.injEq]at s;obtain⟨i,j⟩:=s;unfold qM at D;simp only[Bool.and_eq_true,List.all_eq_true]at D;obtain⟨⟨F,H⟩,J⟩:=D;refine⟨⟨fun p b=>?_,fun p b x u z c=>?_,fun p b k f K c d l=>?_⟩,fun p b d l=>?_⟩
  ·obtain⟨o,W,X,_⟩:=oU v (h p b);exact⟨o,W,X⟩
  ·have A:=Fb v E z (h p b) (h x u) c;obtain⟨o2,Y,Z,L⟩:=oU v (h x u);cases B:p.o.op.flagged x.o.op with
   |false=>
    obtain⟨a',s1⟩:=e p b;obtain⟨N,O⟩:=e x u;obtain⟨i1,i2⟩:=UK s1 O B;exact⟨A,i1,i2⟩
   |true=>
    have hm:(p.i,x.i)∈dX:=by
     rw[<-i];refine List.mem_flatMap.2 ⟨x.i,List.mem_range.2 L,List.mem_filterMap.2 ⟨p.i,List.mem_range.2 z,?_⟩⟩;rw[c];simp only[Bool.false_eq_true,if_false,List.getElem?_toArray,h p b,h x u,B,if_true]
    have:=F _ (List.mem_filter.2 ⟨hm,q p b x u⟩);simp only[y p b,y x u,Bool.and_eq_true]at this;exact⟨A,F8 this.1,F8 this.2⟩
  ·obtain⟨o1,a1,a2,a3⟩:=oU v (h p b);obtain⟨o2,Y,Z,L⟩:=oU v (h k f);obtain⟨N,O⟩:=e k f;have Q:k.o.op.makes=true:=(y7 O).2.1 (by obtain⟨⟨o,R⟩,_⟩:=l;rw[R];simp)
   have hm:(p.i,k.i)∈makes:=by
    rw[<-j];refine List.mem_flatMap.2 ⟨k.i,List.mem_range.2 L,?_⟩;simp only[List.getElem?_toArray,h k f,Q,if_true];refine List.mem_filterMap.2 ⟨p.i,List.mem_range.2 a3,?_⟩;rw[if_neg K,c];simp
   have:=H _ (List.mem_filter.2 ⟨hm,q p b k f⟩);simp only[y p b,y k f,rP.2 l]at this;exact Ng this
  ·have:=J p.e (List.mem_of_getElem? (y p b));simp only[rP.2 l,Bool.and_eq_true]at this;exact⟨RE this.1,fun id o R=>RF this.2 R⟩
 ·cases s
structure Lst(P:Program)(ops:Array Oper)(I:List Item1)(U late:Nat->Bool)(n:Nat)(σf σB:St)(listed:Array Bool)(L:List Item1)(σ1:St):Prop where
 sz:listed.size=ops.size
 pw:L.Pairwise fun p q=>p.i<q.i
 sub:∀p∈L,p∈I
 li:∀j,j<ops.size->U j=false->(listed.getD j false=false↔∃p∈L,p.i=j)
 un:∀j,j<ops.size->U j=true->listed.getD j false=false
 cl:∀j o,ops[j]?=some o->listed.getD j false=true->∀e∈o.after.toList,Region.binds .any e=true->listed.getD e.on false=true
 run:yy P L σ1 σf
 runB:(∀p∈I,late p.i=true->p∈L)->yy P (L.filter fun p=>!late p.i) σ1 σB
 nr:∀p∈L,∀d,kz p.e d->fj d σ1
 n:σ1.n=n
theorem BH{ops:Array Oper}(i':UpE ops){I:List Item1}(hI:Ahead P ops I){U late:Nat->Bool}(hU:∀p∈I,U p.i=false){n:Nat}(hd:∀p∈I,∀d,p.o.dst=some d->d<n){σf σB:St}{Q:Exit->Act->World->Prop}
  (hQ:∀y listed L z a w i,vM (listed.getD · false) ops.size<=y+1->Lst P ops I U late n σf σB listed L z->U i=true->i<ops.size->(∀b,((Region.before ops).getD i 0).testBit b=true->listed.getD b false=true)->(∀o,ops[i]?=some o->∀e∈o.after.toList,Region.binds .any e=true->listed.getD e.on false=true)->fF w0 S0 M z a w->wpOp P ops Q i (wpAny P .any ops Q y (listed.setIfInBounds i true)) a w)
  (hE:(∀j,j<ops.size->U j=false)->∀a w,fF w0 S0 M σf a w->Q .normal a w) :
  ∀(y:Nat) {listed:Array Bool} {L:List Item1} {z:St} {a:Act} {w:World},vM (listed.getD · false) ops.size<=y->Lst P ops I U late n σf σB listed L z->fF w0 S0 M z a w->wpAny P .any ops Q y listed a w:=by
 have D:∀(j k:Nat),j<=k->j<ops.size->((Region.before ops).getD j 0).testBit k=false:=by
  intro j
  induction j using Nat.strongRecOn with
  |_ j ih=>
   intro k E' X;cases hb:((Region.before ops).getD j 0).testBit k with
   |false=>rfl
   |true=>
    obtain⟨e,he,j',h⟩:=Fa (ops:=ops) (j:=j) (o:=ops[j]) (by simp[X]) hb;have R:=i' j ops[j] (by simp[X]) e he j';rcases h with h|h
    ·omega
    ·have:=ih e.on R k (by omega) (by omega);rw[this]at h;cases h
 have p':∀ {listed:Array Bool} {L:List Item1} {z:St} {a:Act} {w:World},Lst P ops I U late n σf σB listed L z->(∀j,j<ops.size->listed.getD j false=true)->fF w0 S0 M z a w->Q .normal a w:=by
  intro listed L z a w l N F
  have hL:L=[]:=by
   cases L with
   |nil=>rfl
   |cons p L=>
    exfalso;obtain⟨o,ho,_⟩:=hI.comp p (l.sub p (by simp));have hi:=(Array.getElem?_eq_some_iff.1 ho).1;have:=(l.li p.i hi (hU p (l.sub p (by simp)))).2 ⟨p,by simp,rfl⟩;rw[N p.i hi]at this;cases this
  subst hL;refine hE (fun j X=>?_) a w (F.congr l.run);cases hu:U j with
  |false=>rfl
  |true=>have:=l.un j X hu;rw[N j X]at this;cases this
 intro y
 induction y with
 |zero=>
  intro listed L z a w hf l F;have N:=Ed (Nat.le_zero.1 hf);exact Hy N (p' l N F) 0
 |succ y ih=>
  intro listed L z a w hf l F;refine⟨fun he=>p' l (LY i' l.sz he) F,fun i hi=>?_⟩;obtain⟨h1,oi,b',K⟩:=mem_ready.1 hi;have R:i<ops.size:=(Array.getElem?_eq_some_iff.1 b').1;have hu:=B1 h1
  have O:∀b,((Region.before ops).getD i 0).testBit b=true->listed.getD b false=true:=
   rO i' l.cl (i+1) i oi (by omega) b' (fun e he j'=>K e (by simpa using he) j')
  have c':∀o,ops[i]?=some o->∀e∈o.after.toList,Region.binds .any e=true->listed.getD e.on false=true:=by
   intro o ho e he hb;obtain rfl:oi=o:=O_ (b'.symm.trans ho);exact K e (by simpa using he) hb
  cases k':U i with
  |true=>exact hQ y listed L z a w i hf l k' R O (fun o ho e he hb=>c' o ho e he hb) F
  |false=>
   obtain⟨x,hx,u'⟩:=(l.li i R k').1 hu;subst u';obtain⟨A,B,v'⟩:=List.append_of_mem hx;subst v';obtain⟨o2,b1,b2⟩:=hI.comp x (l.sub x hx);have H:=List.pairwise_append.1 l.pw;have Y:∀p∈A,p.i<x.i:=fun p c=>H.2.2 p c x (by simp)
   have d':∀q∈B,x.i<q.i:=fun q hq=>(List.pairwise_cons.1 H.2.1).1 q hq
   have C:∀p∈A,p∈I:=fun p c=>l.sub p (List.mem_append_left _ c)
   have q':∀p∈B,p∈I:=fun p c=>l.sub p (List.mem_append_right _ (List.mem_cons_of_mem _ c))
   have V:x∈I:=l.sub x hx
   have g':∀p∈I,p.i<ops.size:=fun p c=>by
    obtain⟨o,ho,_⟩:=hI.comp p c;exact(Array.getElem?_eq_some_iff.1 ho).1
   have l':∀p∈A,((Region.before ops).getD x.i 0).testBit p.i=false:=by
    intro p c;cases hb:((Region.before ops).getD x.i 0).testBit p.i with
    |false=>rfl
    |true=>
     have:=O p.i hb;have x':listed.getD p.i false=false:=(l.li p.i (g' p (C p c)) (hU p (C p c))).2 ⟨p,List.mem_append_left _ c,rfl⟩;rw[x']at this;cases this
   have e':∀ {A' B':List Item1} {σ':St},(∀p∈A',p∈A)->(∀p∈B',p∈B)->(A'.Pairwise fun p q=>p.i<q.i)->yy P (A'++x::B') z σ'->yy P (x::(A'++B')) z σ':=by
    intro A' B' σ' s m' y' hr
    refine LX (P:=P) hr (fun p c=>hI.free p (C p (s p c)) x V (Y p (s p c)) (l' p (s p c))) (fun p c=>l.nr p ?_)
     (fun p c d J=>hI.nr x V p (C p (s p c)) (by have:=Y p (s p c);omega) (l' p (s p c)) d J)
     (by
       refine List.Pairwise.imp_of_mem ?_ y';intro p q c hq F' d J
       exact hI.nr p (C p (s p c)) q (C q (s q hq)) (by omega) (D p.i q.i (by omega) (g' p (C p (s p c)))) d J)
     (fun p c q hq d J=>by
       have h1:=Y p (s p c);rcases List.mem_cons.1 hq with rfl|r'
       ·exact hI.nr p (C p (s p c)) q V (by omega) (D p.i q.i (by omega) (g' p (C p (s p c)))) d J
       ·have h2:=d' q (m' q r')
        exact hI.nr p (C p (s p c)) q (q' q (m' q r')) (by omega) (D p.i q.i (by omega) (g' p (C p (s p c)))) d J)
    rcases List.mem_append.1 c with c|c
    ·exact List.mem_append_left _ (s p c)
    ·rcases List.mem_cons.1 c with rfl|c
     ·exact hx
     ·exact List.mem_append_right _ (List.mem_cons_of_mem _ (m' p c))
   obtain⟨n',o'⟩:=e' (fun _ h=>h) (fun _ h=>h) H.1 l.run;refine RR b1 b2 F (fun d z'=>by rw[l.n];exact hd x V d z') n' (fun a' w' C'=>?_)
   have E:∀p,p∈A++B->p∈A++x::B:=fun p c=>by
    rcases List.mem_append.1 c with c|c
    ·exact List.mem_append_left _ c
    ·exact List.mem_append_right _ (List.mem_cons_of_mem _ c)
   have h':(listed.setIfInBounds x.i true).getD x.i false=true:=by simp[Array.getD,l.sz,R]
   have D':x∉A++B:=fun h=>by
    rcases List.mem_append.1 h with h|h
    ·have:=Y x h;omega
    ·have:=d' x h;omega
   refine ih (listed:=listed.setIfInBounds x.i true) (L:=A++B) ?_ ⟨by simp[l.sz],?_,fun p c=>l.sub p (E p c),?_,?_,?_,o',?_,?_,by rw[uc];exact l.n⟩ C'
   ·have:=(Hx (f:=(listed.getD · false)) (g:=((listed.setIfInBounds x.i true).getD · false)) hu h' (fun j X=>getD_set_ne false X) ops.size).1 R;omega
   ·exact List.pairwise_append.2 ⟨H.1,(List.pairwise_cons.1 H.2.1).2,fun u hu v hv=>H.2.2 u hu v (List.mem_cons_of_mem _ hv)⟩
   ·intro j X f';by_cases Z:x.i=j
    ·subst Z;rw[h'];simp only[Bool.true_eq_false,false_iff,not_exists,not_and];intro p c e;rcases List.mem_append.1 c with c|c
     ·have:=Y p c;omega
     ·have:=d' p c;omega
    ·rw[getD_set_ne false Z,l.li j X f'];constructor
     ·rintro⟨p,c,e⟩;refine⟨p,?_,e⟩;rcases List.mem_append.1 c with c|c
      ·exact List.mem_append_left _ c
      ·rcases List.mem_cons.1 c with rfl|c
       ·exact absurd e Z
       ·exact List.mem_append_right _ c
     ·rintro⟨p,c,e⟩;exact⟨p,E p c,e⟩
   ·intro j X f';rw[getD_set_ne false (by rintro rfl;rw[k']at f';cases f')];exact l.un j X f'
   ·intro j o X s' e he hb;by_cases Z:x.i=j
    ·subst Z;obtain rfl:oi=o:=by rw[X]at b';exact(O_ b').symm
     exact getD_set_true (K e (by simpa using he) hb)
    ·rw[getD_set_ne false Z]at s';exact getD_set_true (l.cl j o X s' e he hb)
   ·intro hB;cases t':late x.i with
    |true=>exact absurd (hB x V t') D'
    |false=>
     have hr:=l.runB (fun p c h=>E p (hB p c h));rw[List.filter_append,List.filter_cons,if_pos (by simp[t'])]at hr;rw[List.filter_append];exact(e' (fun p c=>(List.mem_filter.1 c).1) (fun p c=>(List.mem_filter.1 c).1) (H.1.filter _) hr).2
   ·intro p c d J;refine(l.nr p (E p c) d J).apply ?_;rcases List.mem_append.1 c with W|W
    ·exact hI.nr x V p (C p W) (by have:=Y p W;omega) (l' p W) d J
    ·exact hI.nr x V p (q' p W) (by have:=d' p W;omega) (D x.i p.i (by have:=d' p W;omega) R) d J
theorem y8{L:List Item1}{σ b:St}(h:yy P L σ b):yy P (L.filter fun p=>!false) σ b:=by
 have e:L.filter (fun p=>!false)=L:=List.filter_eq_self.2 (fun _ _=>rfl);rw[e];exact h
theorem Ee{b:Array Oper}{c rest:List VOper}(z:cw P b b.toList=some (c++rest)){σ k:St}{g:List Eff}(q:fm P c σ g k)(s:∀p∈iW 0 c g,∀d,kz p.e d->fj d σ){late:Nat->Bool}{σB:St}(u:yy P ((iW 0 c g).filter fun p=>!late p.i) σ σB):Lst P b (iW 0 c g) (fun i=>decide (c.length<=i)) late σ.n k σB (Array.replicate b.size false) (iW 0 c g) σ:=by
 obtain⟨l,f,v⟩:=gK 0 q;refine⟨by simp,?_,fun _ h=>h,fun j A x=>?_,fun j _ _=>tf _ _,fun j o _ n=>?_,l,fun _=>u,s,rfl⟩
 ·have:((iW 0 c g).map (·.i)).Pairwise (· < ·):=by rw[f];exact List.pairwise_lt_range'
  exact List.pairwise_map.1 this
 ·rw[tf];simp only[true_iff];have:j∈(iW 0 c g).map (·.i):=by rw[f];simp at x;simp;omega
  obtain⟨p,y,e⟩:=List.mem_map.1 this;exact⟨p,y,e⟩
 ·rw[tf]at n;cases n
theorem Hz{b rest:List VOper}{e:List Eff}(f:e.length=b.length){p:Item1}(h:p∈iW 0 b e):(b++rest)[p.i]?=some p.o/\e[p.i]?=some p.e/\p.i<b.length/\p.o∈b:=by
 obtain⟨_,d,g⟩:=Ec f h;simp only[Nat.sub_zero]at d g;have c:=(List.getElem?_eq_some_iff.1 d).1;exact⟨(List.getElem?_append_left c).trans d,g,c,List.mem_of_getElem? d⟩
theorem BI(f:Nat->Bool):∀n,vM f n<=n
 |0=>Nat.le_refl _
 |n+1=>by have:=BI f n;simp only[vM];split<;>omega
theorem HA{b:Array Oper}{f:List VOper}(l:cw P b b.toList=some f){dX makes:List (Nat×Nat)}(e:gF b f.toArray=some (dX,makes)){σ:St}{a:Act}{w:World}(h:fF w0 S0 M σ a w)
  (x:∀v∈f,∀d,v.dst=some d->d<σ.n) {m:List Eff} {g:St} (j:fm P f σ m g) (y:qM σ dX makes m=true)
  {Q:Exit->Act->World->Prop} (z:∀s w',fF w0 S0 M g s w'->Q .normal s w'):wpAny P .any b Q b.size (Array.replicate b.size false) a w:=by
 have n:cw P b b.toList=some (f++[]):=by rw[List.append_nil];exact l
 have q:=(gK 0 j).2.2;have c:=fun p (e:p∈iW 0 f m)=>Hz (rest:=[]) q e
 have E:f.length=b.size:=by have:=(dg l).1;simpa using this
 obtain⟨A,B⟩:=BG (sel:=fun _=>true) (σ:=σ) l e (fun p h=>by have:=(c p h).1;rwa[List.append_nil]at this) (th 0 j) (by rw[List.filter_eq_self.2 (fun _ _=>rfl),List.filter_eq_self.2 (fun _ _=>rfl)];exact y) (fun p h=>(c p h).2.1) (fun _ _ _ _=>rfl)
 exact BH (nM e) A (fun p e=>by simp[(c p e).2.2.1]) (fun p e=>x p.o (c p e).2.2.2)
  (fun u k L C a w i _ _ D F=>by simp at D;omega) (fun _=>z) b.size (BI _ _) (Ee (late:=fun _=>false) (σB:=g) n j B (y8 (gK 0 j).1)) h
def yN:List VOper->Bool
 |[]=>true
 |[_]=>true
 |x::r=>(match x.dst with
  |some d=>r.any fun y=>y.slots.contains d
  |none=>false)&&yN r
theorem B2:∀ {l:List VOper},yN l=true->∀i x,l[i]?=some x->i+1<l.length->∃j y d,i<j/\l[j]?=some y/\x.dst=some d/\d∈y.slots
 |[],_,i,x,b,_=>by simp at b
 |[_],_,i,x,_,e=>by simp at e
 |u::v::r,h,i,x,b,e=>by
  simp only[yN,Bool.and_eq_true]at h;cases i with
  |zero=>
   simp only[List.getElem?_cons_zero,E_]at b;subst b;have c:=h.1;split at c
   ·next d f=>
    obtain⟨y,g,k⟩:=List.any_eq_true.1 c;obtain⟨j,n⟩:=List.getElem?_of_mem g;exact⟨j+1,y,d,by omega,by simpa using n,f,by simpa using k⟩
   ·simp at c
  |succ i=>
   obtain⟨j,y,d,c,p,q,s⟩:=B2 h.2 i x (by simpa using b) (by simpa using e);exact⟨j+1,y,d,by omega,by simpa using p,q,s⟩
theorem Pz{h:Array Oper}{g rest:List VOper}{c:VOper}(B:cw P h h.toList=some (g++c::rest)){dX makes:List (Nat×Nat)}(C:gF h (g++c::rest).toArray=some (dX,makes))(n:yN (g++[c])=true){f:Array Bool}
  (u:∀j o,h[j]?=some o->f.getD j false=true->∀e∈o.after.toList,Region.binds .any e=true->f.getD e.on false=true)
  (I:∀b,((Region.before h).getD g.length 0).testBit b=true->f.getD b false=true):∀(k p:Nat),p<g.length->g.length<=p+k->f.getD p false=true:=by
 intro k
 induction k with
 |zero=>intro p D z;omega
 |succ k A=>
  intro p v J;have E:(g++[c])[p]?=some g[p]:=by rw[List.getElem?_append_left v];simp[v]
  obtain⟨q,y,d,D,z,K,L⟩:=B2 n p g[p] E (by simp;omega);have N:=(List.getElem?_eq_some_iff.1 z).1
  have s:∀ {i:Nat} {y:VOper},(g++[c])[i]?=some y->(g++c::rest)[i]?=some y:=fun {i y} F=>by
   rw[show g++c::rest=(g++[c])++rest by simp];exact(List.getElem?_append_left (List.getElem?_eq_some_iff.1 F).1).trans F
  have l:=pU B C D (s E) (s z) K L;simp at N;rcases Nat.lt_or_ge q g.length with x|x
  ·obtain⟨o,H,_,_⟩:=oU B (s z);exact rO (nM C) u (q+1) q o (by omega) H (u q o H (A q x (by omega))) p l
  ·obtain rfl:q=g.length:=by omega
   exact I p l
theorem PA{b:Array Oper}{c:List VOper}{last:VOper}(y:cw P b b.toList=some (c++[last])){dX makes:List (Nat×Nat)}(f:gF b (c++[last]).toArray=some (dX,makes))(k:yN (c++[last])=true){σ:St}{a:Act}{w:World}(h:fF w0 S0 M σ a w)
  (E:∀v∈c,∀d,v.dst=some d->d<σ.n) {B:List Eff} {l:St} (z:fm P c σ B l) (F:qM σ (dX.filter fun p=>decide (p.1<c.length)&&decide (p.2<c.length)) (makes.filter fun p=>decide (p.1<c.length)&&decide (p.2<c.length)) B=true)
  {Q:Exit->Act->World->Prop} (H:∀(N:Act->World->Prop),(∀m w',Q .normal m w'->N m w')->∀m w',fF w0 S0 M l m w'->wpOp P b Q c.length N m w'):wpAny P .any b Q b.size (Array.replicate b.size false) a w:=by
 have C:=(gK 0 z).2.2;have e:=fun p (f:p∈iW 0 c B)=>Hz (rest:=[last]) C f
 have Y:c.length+1=b.size:=by have:=(dg y).1;simpa using this
 obtain⟨I,J⟩:=BG y f (fun p h=>(e p h).1) (th 0 z) F (fun p h=>(e p h).2.1) (fun p f x K=>by simp[(e p f).2.2.1,(e x K).2.2.1])
 refine BH (nM f) I (fun p f=>by simp[(e p f).2.2.1]) (fun p f=>E p.o (e p f).2.2.2)
  (fun n A L O a w i _ q R Z U _ s=>?_) (fun V=>?_) b.size (BI _ _) (Ee (late:=fun _=>false) (σB:=l) y z J (y8 (gK 0 z).1)) h
 ·obtain rfl:i=c.length:=by simp at R;omega
  have g:=Pz y f k q.cl U c.length
  have W:L=[]:=by
   cases L with
   |nil=>rfl
   |cons p L=>
    exfalso;have D:=(e p (q.sub p (by simp))).2.2.1;have:=(q.li p.i (by omega) (by simp[D])).2 ⟨p,by simp,rfl⟩;rw[g p.i D (by omega)]at this;cases this
  subst W;refine H _ (fun m w' X=>Hy (fun j hj=>?_) X n) a w (s.congr q.run);by_cases u:c.length=j
  ·subst u;have:=q.sz;simp[Array.getD];omega
  ·rw[getD_set_ne false u];exact g j (by omega) (by omega)
 ·exact absurd (V c.length (by omega)) (by simp)
end
end Go.Vs
namespace Go.Vs
def ren(ρ:List (Nat×Nat))(i:Nat):Nat:=(ac ρ i).getD i
mutual
def SV.ren(ρ:List (Nat×Nat)):SV->SV
 |.undef=>.undef
 |.val v=>.val v
 |.nils=>.nils
 |.full j=>.full j
 |.own id b=>.own (Vs.ren ρ id) b
 |.loc id g=>.loc (Vs.ren ρ id) g
 |.eloc id b i g=>.eloc (Vs.ren ρ id) b i g
 |.view id b m n=>.view (Vs.ren ρ id) b m n
 |.agg h=>.agg (rQ ρ h)
 |.clo f e=>.clo f (rQ ρ e)
 |.tup e=>.tup (rQ ρ e)
 |.ifc t v=>.ifc t (v.ren ρ)
 |.anyB=>.anyB
 |.selfN id t p=>.selfN (Vs.ren ρ id) t p
 |.ownT id v t=>.ownT (Vs.ren ρ id) v t
 |.itr id=>.itr (Vs.ren ρ id)
def rQ(ρ:List (Nat×Nat)):List SV->List SV
 |[]=>[]
 |x::r=>x.ren ρ::rQ ρ r
end
def Ob.ren(ρ:List (Nat×Nat)):Ob->Ob
 |.box b=>.box (rQ ρ b)
 |.arr f s e=>.arr f s e
 |.iter s p=>.iter s p
def adP(ρ:List (Nat×Nat)):List (Nat×Ob)->List (Nat×Ob)
 |[]=>[]
 |(i,o)::r=>(Vs.ren ρ i,o.ren ρ)::adP ρ r
mutual
def SV.inKeys{d:Type}(l:List (Nat×d)):SV->Bool
 |.own id _=>(ac l id).isSome
 |.loc id _=>(ac l id).isSome
 |.selfN id t e=>(ac l id).isSome
 |.ownT id _ _=>(ac l id).isSome
 |.itr id=>(ac l id).isSome
 |.eloc id _ _ _=>(ac l id).isSome
 |.view id _ _ _=>(ac l id).isSome
 |.agg c=>oV l c
 |.clo _ b=>oV l b
 |.tup b=>oV l b
 |.ifc _ v=>v.inKeys l
 |_=>true
def oV{d:Type}(l:List (Nat×d)):List SV->Bool
 |[]=>true
 |x::r=>x.inKeys l&&oV l r
end
def Ob.inKeys{c:Type}(l:List (Nat×c)):Ob->Bool
 |.box b=>oV l b
 |.arr _ _ _=>true
 |.iter _ _=>true
def GV{b:Type}(l:List (Nat×b)):List (Nat×Ob)->Bool
 |[]=>true
 |(_,o)::r=>o.inKeys l&&GV l r
section
variable {w:World} {S:ba} {μ μ':Nat->Value} {objs objs':List (Nat×Ob)} {ρ:List (Nat×Nat)}
mutual
theorem au.unren(d:∀i o,ac objs' i=some o->ac objs (Vs.ren ρ i)=some (o.ren ρ))(hm:∀i o,ac objs' i=some o->μ' i=μ (Vs.ren ρ i)):∀(x:SV) (v:Value),au w S μ objs (x.ren ρ) v->au w S μ' objs' x v
 |.undef,_,h=>h
 |.val _,_,h=>h
 |.nils,_,h=>h
 |.full _,_,h=>h
 |.own id l,v,h=>by
  intro m s b c;have:=h m s b (d _ _ c);rw[hm _ _ c];exact this
 |.ownT id l t,v,⟨h,B⟩=>by
  refine⟨?_,B⟩;intro m s b c;have:=h m s b (d _ _ c);rw[hm _ _ c];exact this
 |.loc id y,v,h=>by
  intro e c;have:=h _ (d _ _ c);rw[hm _ _ c];exact this
 |.eloc id l i y,v,h=>by
  intro m s b c;have:=h m s b (d _ _ c);rw[hm _ _ c];exact this
 |.view id l D E,v,h=>by
  intro m s b c;have:=h m s b (d _ _ c);rw[hm _ _ c];exact this
 |.agg e,v,⟨n,g,j⟩=>⟨n,g,ak.unren d hm e _ j⟩
 |.clo f k,v,⟨n,g,j⟩=>⟨n,g,bb.unren d hm k _ j⟩
 |.tup k,v,⟨n,g,j⟩=>⟨n,g,bb.unren d hm k _ j⟩
 |.ifc t x,v,⟨u,g,j⟩=>⟨u,g,au.unren d hm x u j⟩
 |.anyB,v,h=>h
 |.selfN id t F,v,h=>by
  intro e c;have:=h _ (d _ _ c);rw[hm _ _ c];exact this
 |.itr id,v,h=>by
  intro s p c;have:=h s p (d _ _ c);rw[hm _ _ c];exact this
theorem bb.unren(d:∀i o,ac objs' i=some o->ac objs (Vs.ren ρ i)=some (o.ren ρ))(hm:∀i o,ac objs' i=some o->μ' i=μ (Vs.ren ρ i)):∀(x:List SV) (v:List Value),bb w S μ objs (rQ ρ x) v->bb w S μ' objs' x v
 |[],_,h=>h
 |x::z,v,⟨u,q,g,j,A⟩=>⟨u,q,g,au.unren d hm x u j,bb.unren d hm z q A⟩
theorem ak.unren(d:∀i o,ac objs' i=some o->ac objs (Vs.ren ρ i)=some (o.ren ρ))(hm:∀i o,ac objs' i=some o->μ' i=μ (Vs.ren ρ i)):∀(x:List SV) (v:List Value),ak w S μ objs (rQ ρ x) v->ak w S μ' objs' x v
 |[],_,h=>h
 |x::z,v,⟨u,q,g,C,j,A⟩=>⟨u,q,g,C,au.unren d hm x u j,ak.unren d hm z q A⟩
end
mutual
theorem au.renamed(k:∀i o,ac objs i=some o->ac objs' (Vs.ren ρ i)=some (o.ren ρ))(hm:∀i o,ac objs i=some o->μ' (Vs.ren ρ i)=μ i):∀(x:SV) (v:Value),x.inKeys objs=true->au w S μ objs x v->au w S μ' objs' (x.ren ρ) v
 |.undef,_,_,h=>h
 |.val _,_,_,h=>h
 |.nils,_,_,h=>h
 |.full _,_,_,h=>h
 |.own id z,v,e,h=>by
  obtain⟨o,g⟩:=Option.isSome_iff_exists.1 e;intro C s q n;have d:=k _ _ g;rw[n]at d;have j:=hm _ _ g;cases o with
  |box c=>simp[Ob.ren]at d
  |iter=>simp[Ob.ren]at d
  |arr a b c=>
   simp only[Ob.ren,E_,Ob.arr.injEq]at d;obtain⟨rfl,rfl,rfl⟩:=d;rw[j];exact h _ _ _ g
 |.ownT id z t,v,e,⟨h,H⟩=>by
  refine⟨?_,H⟩;obtain⟨o,g⟩:=Option.isSome_iff_exists.1 e;intro C s q n;have d:=k _ _ g;rw[n]at d;have j:=hm _ _ g;cases o with
  |box c=>simp[Ob.ren]at d
  |iter=>simp[Ob.ren]at d
  |arr a b c=>
   simp only[Ob.ren,E_,Ob.arr.injEq]at d;obtain⟨rfl,rfl,rfl⟩:=d;rw[j];exact h _ _ _ g
 |.loc id D,v,e,h=>by
  obtain⟨o,g⟩:=Option.isSome_iff_exists.1 e;intro m n;have d:=k _ _ g;rw[n]at d;have j:=hm _ _ g;cases o with
  |box c=>rw[j];exact h _ g
  |arr a b c=>simp[Ob.ren]at d
  |iter=>simp[Ob.ren]at d
 |.eloc id z i D,v,e,h=>by
  obtain⟨o,g⟩:=Option.isSome_iff_exists.1 e;intro C s q n;have d:=k _ _ g;rw[n]at d;have j:=hm _ _ g;cases o with
  |box c=>simp[Ob.ren]at d
  |iter=>simp[Ob.ren]at d
  |arr a b c=>
   simp only[Ob.ren,E_,Ob.arr.injEq]at d;obtain⟨rfl,rfl,rfl⟩:=d;rw[j];exact h _ _ _ g
 |.view id z J K,v,e,h=>by
  obtain⟨o,g⟩:=Option.isSome_iff_exists.1 e;intro C s q n;have d:=k _ _ g;rw[n]at d;have j:=hm _ _ g;cases o with
  |box c=>simp[Ob.ren]at d
  |iter=>simp[Ob.ren]at d
  |arr a b c=>
   simp only[Ob.ren,E_,Ob.arr.injEq]at d;obtain⟨rfl,rfl,rfl⟩:=d;rw[j];exact h _ _ _ g
 |.agg m,v,e,⟨A,d,j⟩=>⟨A,d,ak.renamed k hm m _ e j⟩
 |.clo f y,v,e,⟨A,d,j⟩=>⟨A,d,bb.renamed k hm y _ e j⟩
 |.tup y,v,e,⟨A,d,j⟩=>⟨A,d,bb.renamed k hm y _ e j⟩
 |.ifc t x,v,e,⟨u,d,j⟩=>⟨u,d,au.renamed k hm x u e j⟩
 |.anyB,v,_,h=>h
 |.selfN id t L,v,e,h=>by
  obtain⟨o,g⟩:=Option.isSome_iff_exists.1 e;intro m n;have d:=k _ _ g;rw[n]at d;have j:=hm _ _ g;cases o with
  |box c=>rw[j];exact h _ g
  |arr a b c=>simp[Ob.ren]at d
  |iter=>simp[Ob.ren]at d
 |.itr id,v,e,h=>by
  obtain⟨o,g⟩:=Option.isSome_iff_exists.1 e;intro s p n;have d:=k _ _ g;rw[n]at d;have j:=hm _ _ g;cases o with
  |box c=>simp[Ob.ren]at d
  |arr a b c=>simp[Ob.ren]at d
  |iter a b=>rw[j];exact h _ _ g
theorem bb.renamed(k:∀i o,ac objs i=some o->ac objs' (Vs.ren ρ i)=some (o.ren ρ))(hm:∀i o,ac objs i=some o->μ' (Vs.ren ρ i)=μ i):∀(x:List SV) (v:List Value),oV objs x=true->bb w S μ objs x v->bb w S μ' objs' (rQ ρ x) v
 |[],_,_,h=>h
 |x::E,v,e,⟨u,B,d,j,F⟩=>by
  simp only[oV,Bool.and_eq_true]at e;exact⟨u,B,d,au.renamed k hm x u e.1 j,bb.renamed k hm E B e.2 F⟩
theorem ak.renamed(k:∀i o,ac objs i=some o->ac objs' (Vs.ren ρ i)=some (o.ren ρ))(hm:∀i o,ac objs i=some o->μ' (Vs.ren ρ i)=μ i):∀(x:List SV) (v:List Value),oV objs x=true->ak w S μ objs x v->ak w S μ' objs' (rQ ρ x) v
 |[],_,_,h=>h
 |x::E,v,e,⟨u,B,d,I,j,F⟩=>by
  simp only[oV,Bool.and_eq_true]at e;exact⟨u,B,d,I,au.renamed k hm x u e.1 j,ak.renamed k hm E B e.2 F⟩
end
mutual
def SV.clear(D:Nat->Bool):SV->Bool
 |.own id _=>!D id
 |.loc id _=>!D id
 |.selfN id t f=>!D id
 |.ownT id _ _=>!D id
 |.itr id=>!D id
 |.eloc id _ _ _=>!D id
 |.view id _ _ _=>!D id
 |.agg e=>pV D e
 |.clo _ b=>pV D b
 |.tup b=>pV D b
 |.ifc _ v=>v.clear D
 |_=>true
def pV(D:Nat->Bool):List SV->Bool
 |[]=>true
 |x::r=>x.clear D&&pV D r
end
def Ni(D:Nat->Bool):List (Nat×SV)->Bool
 |[]=>true
 |(_,x)::r=>x.clear D&&Ni D r
def Ob.clear(D:Nat->Bool):Ob->Bool
 |.box b=>pV D b
 |.arr _ _ _=>true
 |.iter _ _=>true
def Nj(D:Nat->Bool):List (Nat×Ob)->Bool
 |[]=>true
 |(_,x)::r=>x.clear D&&Nj D r
theorem HB{D:Nat->Bool} : ∀ {l:List (Nat×SV)},Ni D l=true->∀k,(ap l k).clear D=true
 |[],_,_=>rfl
 |(j,x)::r,h,k=>by
  simp only[Ni,Bool.and_eq_true]at h;simp only[ap,ac];cases j==k
  ·exact HB h.2 k
  ·exact h.1
theorem HD{D:Nat->Bool} : ∀ {l:List (Nat×Ob)},Nj D l=true->∀k o,ac l k=some o->o.clear D=true
 |[],_,_,_,h=>by simp[ac]at h
 |(j,x)::r,h,k,o,b=>by
  simp only[Nj,Bool.and_eq_true]at h;simp only[ac]at b;cases c:j==k
  ·rw[c]at b;exact HD h.2 k o b
  ·rw[c]at b;simp at b;subst b;exact h.1
mutual
theorem au.step{D:Nat->Bool}
  (H:∀id j,D id=false->ac objs' id=some (.box j)->∃m,ac objs id=some (.box m)/\μ' id=μ id)
  (C:∀id B s c,D id=false->ac objs' id=some (.arr B s c)->∃q g,ac objs id=some (.arr q s g)/\q<=B/\(q=B->g.length=c.length/\μ' id=μ id))
  (I:∀id s p,D id=false->ac objs' id=some (.iter s p)->∃R U,ac objs id=some (.iter R U)/\μ' id=μ id) :
  ∀(x:SV) (v:Value),x.clear D=true->au w S μ objs x v->au w S μ' objs' x v
 |.undef,v,_,h=>h
 |.val x,v,_,h=>h
 |.nils,v,_,h=>h
 |.full c,v,_,h=>h
 |.own id L,v,k,h=>by
  have k:D id=false:=by simpa[SV.clear]using k
  intro B s c E;obtain⟨q,g,z,A,N⟩:=C id B s c k E;obtain⟨J,O⟩:=h _ _ _ z;exact⟨Nat.le_trans J A,fun e=>by rw[(N (by omega)).2];exact O (by omega)⟩
 |.ownT id L t,v,k,⟨h,h'⟩=>by
  refine⟨?_,h'⟩;have k:D id=false:=by simpa[SV.clear]using k
  intro B s c E;obtain⟨q,g,z,A,N⟩:=C id B s c k E;obtain⟨J,O⟩:=h _ _ _ z;exact⟨Nat.le_trans J A,fun e=>by rw[(N (by omega)).2];exact O (by omega)⟩
 |.loc id Y,v,k,h=>by
  have k:D id=false:=by simpa[SV.clear]using k
  intro j E;obtain⟨m,z,A⟩:=H id j k E;rw[A];exact h _ z
 |.eloc id L i Y,v,k,h=>by
  have k:D id=false:=by simpa[SV.clear]using k
  intro B s c E;obtain⟨q,g,z,A,N⟩:=C id B s c k E;obtain⟨J,O⟩:=h _ _ _ z;refine⟨Nat.le_trans J A,fun e=>?_⟩;obtain⟨b,Q,h6,h7⟩:=O (by omega);obtain⟨X,Z⟩:=N (by omega);exact⟨b,Q,by rw[Z,h6,X],h7⟩
 |.view id L lo I,v,k,h=>by
  have k:D id=false:=by simpa[SV.clear]using k
  intro B s c E;obtain⟨q,g,z,A,N⟩:=C id B s c k E;obtain⟨J,O⟩:=h _ _ _ z;refine⟨Nat.le_trans J A,fun e=>?_⟩;obtain⟨g1,g2,x,Q,y,g3,g4⟩:=O (by omega);obtain⟨X,Z⟩:=N (by omega);exact⟨g1,by omega,x,Q,y,by rw[Z,g3,X],by rw[<-X];exact g4⟩
 |.agg j,v,k,⟨V,z,A⟩=>⟨V,z,ak.step H C I j _ k A⟩
 |.clo f K,v,k,⟨V,z,A⟩=>⟨V,z,bb.step H C I K _ k A⟩
 |.tup K,v,k,⟨V,z,A⟩=>⟨V,z,bb.step H C I K _ k A⟩
 |.ifc t x,v,k,⟨u,z,A⟩=>⟨u,z,au.step H C I x u k A⟩
 |.anyB,v,_,h=>h
 |.selfN id t nn,v,k,h=>by
  have k:D id=false:=by simpa[SV.clear]using k
  intro j E;obtain⟨m,z,A⟩:=H id j k E;rw[A];exact h _ z
 |.itr id,v,k,h=>by
  have k:D id=false:=by simpa[SV.clear]using k
  intro s p E;obtain⟨R,U,z,A⟩:=I id s p k E;rw[A];exact h _ _ z
theorem bb.step{D:Nat->Bool}
  (H:∀id j,D id=false->ac objs' id=some (.box j)->∃m,ac objs id=some (.box m)/\μ' id=μ id)
  (C:∀id B s c,D id=false->ac objs' id=some (.arr B s c)->∃q g,ac objs id=some (.arr q s g)/\q<=B/\(q=B->g.length=c.length/\μ' id=μ id))
  (I:∀id s p,D id=false->ac objs' id=some (.iter s p)->∃R U,ac objs id=some (.iter R U)/\μ' id=μ id) :
  ∀(x:List SV) (v:List Value),pV D x=true->bb w S μ objs x v->bb w S μ' objs' x v
 |[],v,_,h=>h
 |x::xs,v,k,⟨u,W,z,A,J⟩=>by
  simp only[pV,Bool.and_eq_true]at k;exact⟨u,W,z,au.step H C I x u k.1 A,bb.step H C I xs W k.2 J⟩
theorem ak.step{D:Nat->Bool}
  (H:∀id j,D id=false->ac objs' id=some (.box j)->∃m,ac objs id=some (.box m)/\μ' id=μ id)
  (C:∀id B s c,D id=false->ac objs' id=some (.arr B s c)->∃q g,ac objs id=some (.arr q s g)/\q<=B/\(q=B->g.length=c.length/\μ' id=μ id))
  (I:∀id s p,D id=false->ac objs' id=some (.iter s p)->∃R U,ac objs id=some (.iter R U)/\μ' id=μ id) :
  ∀(x:List SV) (v:List Value),pV D x=true->ak w S μ objs x v->ak w S μ' objs' x v
 |[],v,_,h=>h
 |x::xs,v,k,⟨u,W,z,h0,A,J⟩=>by
  simp only[pV,Bool.and_eq_true]at k;exact⟨u,W,z,h0,au.step H C I x u k.1 A,ak.step H C I xs W k.2 J⟩
end
end
mutual
def SV.flat:SV->Bool
 |.val v=>v.flat
 |.full _=>false
 |.selfN _ _ _=>false
 |.ownT _ _ _=>false
 |.agg c=>SV.flatL c
 |.clo _ b=>SV.flatL b
 |.tup b=>SV.flatL b
 |.ifc _ v=>v.flat
 |_=>true
def SV.flatL:List SV->Bool
 |[]=>true
 |x::r=>x.flat&&SV.flatL r
end
def Ob.flat:Ob->Bool
 |.box b=>SV.flatL b
 |.arr _ _ c=>pQ c
 |.iter _ _=>true
def PB:List (Nat×Ob)->Bool
 |[]=>true
 |(_,o)::r=>o.flat&&PB r
theorem LZ:∀ {l:List (Nat×Ob)},PB l=true->∀k o,ac l k=some o->o.flat=true
 |[],_,_,_,h=>by simp[ac]at h
 |(j,x)::r,h,k,o,b=>by
  simp only[PB,Bool.and_eq_true]at h;simp only[ac]at b;cases c:j==k
  ·rw[c]at b;exact LZ h.2 k o b
  ·rw[c]at b;simp at b;subst b;exact h.1
mutual
theorem SV.flat_rel{w i:World}{S j:ba}{μ:Nat->Value}{objs:List (Nat×Ob)} : ∀(x:SV) (v:Value),x.flat=true->au w S μ objs x v->au i j μ objs x v
 |.undef,_,_,h=>h
 |.val x,v,b,h=>IV.flat_rep x v b h
 |.nils,_,_,h=>h
 |.full q,_,b,_=>by simp[SV.flat]at b
 |.own _ _,_,_,h=>h
 |.loc _ _,_,_,h=>h
 |.eloc _ _ _ _,_,_,h=>h
 |.view _ _ _ _,_,_,h=>h
 |.agg g,v,b,⟨k,c,d⟩=>⟨k,c,SV.flat_ones g _ b d⟩
 |.clo f e,v,b,⟨k,c,d⟩=>⟨k,c,SV.flat_list e _ b d⟩
 |.tup e,v,b,⟨k,c,d⟩=>⟨k,c,SV.flat_list e _ b d⟩
 |.ifc t x,v,b,⟨u,c,d⟩=>⟨u,c,SV.flat_rel x u b d⟩
 |.anyB,v,_,h=>h
 |.selfN _ _ _,v,b,h=>by simp[SV.flat]at b
 |.ownT _ _ _,v,b,h=>by simp[SV.flat]at b
 |.itr _,v,_,h=>h
theorem SV.flat_list{w i:World}{S j:ba}{μ:Nat->Value}{objs:List (Nat×Ob)} : ∀(x:List SV) (v:List Value),SV.flatL x=true->bb w S μ objs x v->bb i j μ objs x v
 |[],_,_,h=>h
 |x::n,v,b,⟨u,m,c,d,p⟩=>by
  simp only[SV.flatL,Bool.and_eq_true]at b;exact⟨u,m,c,SV.flat_rel x u b.1 d,SV.flat_list n m b.2 p⟩
theorem SV.flat_ones{w i:World}{S j:ba}{μ:Nat->Value}{objs:List (Nat×Ob)} : ∀(x:List SV) (v:List Value),SV.flatL x=true->ak w S μ objs x v->ak i j μ objs x v
 |[],_,_,h=>h
 |x::n,v,b,⟨u,m,c,s,d,p⟩=>by
  simp only[SV.flatL,Bool.and_eq_true]at b;exact⟨u,m,c,s,SV.flat_rel x u b.1 d,SV.flat_ones n m b.2 p⟩
end
theorem bZ.flat{m:World}{S p:ba}{μ:Nat->Value}{objs:List (Nat×Ob)}{d:Option Nat}{n:Value} : ∀ {o:Ob},o.flat=true->bZ m S μ objs d n o->bZ m p μ objs d n o
 |.box c,g,⟨b,i,e,j,q,s,u,x,y⟩=>⟨b,i,e,j,q,s,u,x,SV.flat_ones c _ g y⟩
 |.arr _ _ f,_,.inl h=>.inl h
 |.arr _ _ f,g,.inr ⟨b,k,i,e,j,z,A,B,C,D,E,k7,k8⟩=>.inr ⟨b,k,i,e,j,z,A,B,C,D,E,k7,u9 _ _ (mQ g) k8⟩
 |.iter _ _,_,h=>h
def Ef(i:Nat):Ob->SV
 |.box _=>.loc i 0
 |.arr b _ _=>.own i b
 |.iter _ _=>.itr i
structure MC where
 args:List SV
 objs:List (Nat×Ob)
 res:SV
 objs':List (Nat×Ob)
 ro':List Nat
 ro:List Nat:=[]
def jL(y:List (Nat×List IV))(P:Program)(k:FuncId)(c:MC):Prop:=
 sZ P k/\∀(w:World) (S:ba) (μ:Nat->Value) (β:Nat->Option Nat) (vs:List Value),(∀b o,S b o->b<w.heap.size)->(∀p,p∈y->gX w S p)->
  bb w S μ c.objs c.args vs->(∀id o,ac c.objs id=some o->bZ w S μ c.objs (β id) (μ id) o)->
  (∀id h o q b,ac c.objs id=some o->ac c.objs h=some q->β id=some b->β h=some b->id=h)->
  (∀id o b off,ac c.objs id=some o->β id=some b->S b off->id∈c.ro/\∀l s g,o=.arr l s g->off<g.length*s)->
  jf P k vs.toArray w fun e n=>∃(v:Value) (m:ba) (μ':Nat->Value) (j:Nat->Option Nat),e=.returned v/\au n m μ' c.objs' c.res v/\
   (∀id o,ac c.objs' id=some o->bZ n m μ' c.objs' (j id) (μ' id) o)/\
   (∀id h o q b,ac c.objs' id=some o->ac c.objs' h=some q->j id=some b->j h=some b->id=h)/\
   (∀id o b,ac c.objs' id=some o->j id=some b->w.heap.size<=b\/∃i x,ac c.objs i=some x/\β i=some b)/\
   (∀id o b off,ac c.objs' id=some o->j id=some b->m b off->id∈c.ro'/\∀l s g,o=.arr l s g->off<g.length*s)/\
   (∀b o,m b o->b<n.heap.size)/\(∀b o,S b o->m b o)/\(∀b o,m b o->S b o\/w.heap.size<=b\/∃i x,ac c.objs i=some x/\β i=some b)/\
   Kept (fun b=>∃i x,ac c.objs i=some x/\β i=some b) w n/\
   (∀id o,ac c.objs id=some o->au n m μ' c.objs' (Ef id o) (μ id))/\
   (∀b o,S b o->n.cell? ⟨b,o,none⟩=w.cell? ⟨b,o,none⟩)
end Go.Vs
namespace Go.Vs
def yO(objs:List (Nat×Ob))(ρ:List (Nat×Nat)):List SV->List SV->List Nat->Prop
 |[],[],b=>b=[]
 |x::c,.val iv::d,b=>∃f g,Bs objs x=some (iv,f)/\yO objs ρ c d g/\b=f++g
 |x::c,y::d,b=>x=y.ren ρ/\yO objs ρ c d b
 |_,_,_=>False
def yP(objs:List (Nat×Ob))(ρ:List (Nat×Nat)):List (Nat×Ob)->Prop
 |[]=>True
 |(i,o)::r=>ac objs (ren ρ i)=some (o.ren ρ)/\yP objs ρ r
theorem ti{objs:List (Nat×Ob)}{ρ:List (Nat×Nat)} : ∀ {l:List (Nat×Ob)},yP objs ρ l->∀i o,ac l i=some o->ac objs (ren ρ i)=some (o.ren ρ)
 |[],_,_,_,h=>by simp[ac]at h
 |(j,x)::r,hm,i,o,h=>by
  simp only[ac]at h;cases b:j==i
  ·rw[b]at h;exact ti hm.2 i o h
  ·rw[b]at h;rw[beq_iff_eq]at b;simp only[cond_true,E_]at h;subst h;subst b;exact hm.1
def fX:Ob->Option Ob->Bool
 |.box _,some (.box _)=>true
 |.arr _ s _,some (.arr _ b _)=>s==b
 |_,_=>false
def kA(ρ:List (Nat×Nat))(objs:List (Nat×Ob)):List (Nat×Ob)->Nat->Bool
 |[],_=>false
 |(i,_)::r,id=>((ac objs i).isNone&&ren ρ i==id)||kA ρ objs r id
def ZH(σ:St)(ρ:List (Nat×Nat))(b:List Nat)(objs':List (Nat×Ob)):List (Nat×Ob)->Bool
 |[]=>true
 |(i,o)::r=>(!σ.ro.contains (ren ρ i)||b.contains i)&&fX o (ac objs' i)&&ZH σ ρ b objs' r
def Tp(ρ:List (Nat×Nat))(id:Nat):List (Nat×Ob)->Bool
 |[]=>true
 |(j,_)::r=>!(ren ρ j==id)&&Tp ρ id r
def UL(ρ:List (Nat×Nat)):List (Nat×Ob)->Bool
 |[]=>true
 |(i,_)::r=>Tp ρ (ren ρ i) r&&UL ρ r
def ZI(σ:St)(ρ:List (Nat×Nat))(objs:List (Nat×Ob)):List (Nat×Ob)->Bool
 |[]=>true
 |(i,_)::r=>((ac objs i).isSome||((ac σ.objs (ren ρ i)).isNone&&decide (ren ρ i<σ.n)))&&ZI σ ρ objs r
def mFz(ρ:List (Nat×Nat))(b:List Nat):List (Nat×Ob)->Bool
 |[]=>true
 |(i,_)::r=>!b.contains (ren ρ i)&&mFz ρ b r
theorem Tq{ρ:List (Nat×Nat)}{d:List Nat} : ∀ {l:List (Nat×Ob)},mFz ρ d l=true->∀i o,ac l i=some o->ren ρ i∉d
 |[],_,_,_,h=>by simp[ac]at h
 |(j,x)::r,b,i,o,h=>by
  simp only[mFz,Bool.and_eq_true,Bool.not_eq_true']at b;simp only[ac]at h;cases c:j==i
  ·rw[c]at h;exact Tq b.2 i o h
  ·rw[beq_iff_eq]at c;subst c;simpa using b.1
def mOk(σ:St)(ρ:List (Nat×Nat))(c:MC):Bool:=
 ZH σ ρ c.ro c.objs' c.objs&&UL ρ c.objs'&&ZI σ ρ c.objs c.objs'&&Ni (kA ρ c.objs c.objs') σ.env&&Nj (kA ρ c.objs c.objs') σ.objs&&c.res.inKeys c.objs'&&GV c.objs' c.objs'
def Kd(objs:List (Nat×Ob))(ρ:List (Nat×Nat)):List (Nat×Ob)->List (Nat×Ob)
 |[]=>objs
 |(i,o)::r=>put (Kd objs ρ r) (ren ρ i) (o.ren ρ)
def M0(c:MC):Bool:=c.res.flat&&PB c.objs'
def St.mapply(σ:St)(b:Option Nat)(ρ:List (Nat×Nat))(c:MC)(d:List Nat):St:=
 ⟨putD σ.env b (c.res.ren ρ),Kd σ.objs ρ c.objs',c.ro'.map (ren ρ)++((bif M0 c then []else d)++σ.ro),σ.n,σ.gl⟩
def back(ρ:List (Nat×Nat)):List (Nat×Ob)->Nat->Option Nat
 |[],_=>none
 |(i,_)::r,id=>bif ren ρ i==id then some i else back ρ r id
theorem gL{ρ:List (Nat×Nat)} : ∀ {l:List (Nat×Ob)} {id i:Nat},back ρ l id=some i->ren ρ i=id/\∃o,ac l i=some o
 |[],_,_,h=>by simp[back]at h
 |(j,x)::r,id,i,h=>by
  simp only[back]at h;cases b:ren ρ j==id
  ·rw[b]at h;obtain⟨c,o,d⟩:=gL h;refine⟨c,?_⟩;simp only[ac];cases j==i
   ·exact⟨o,d⟩
   ·exact⟨x,rfl⟩
  ·rw[b]at h;rw[beq_iff_eq]at b;simp only[cond_true,E_]at h;subst h;exact⟨b,x,by simp[ac]⟩
theorem HE{ρ:List (Nat×Nat)}{id:Nat} : ∀ {l:List (Nat×Ob)},Tp ρ id l=true->∀i o,ac l i=some o->ren ρ i≠id
 |[],_,_,_,h=>by simp[ac]at h
 |(j,x)::r,b,i,o,h=>by
  simp only[Tp,Bool.and_eq_true,Bool.not_eq_true',beq_eq_false_iff_ne]at b;simp only[ac]at h;cases c:j==i
  ·rw[c]at h;exact HE b.2 i o h
  ·rw[beq_iff_eq]at c;subst c;exact b.1
theorem wj{ρ:List (Nat×Nat)} : ∀ {l:List (Nat×Ob)},UL ρ l=true->∀i o,ac l i=some o->back ρ l (ren ρ i)=some i
 |[],_,_,_,h=>by simp[ac]at h
 |(j,x)::r,b,i,o,h=>by
  simp only[UL,Bool.and_eq_true]at b;simp only[ac]at h;simp only[back];cases c:j==i
  ·rw[c]at h;have:ren ρ i≠ren ρ j:=HE b.1 i o h;have:(ren ρ j==ren ρ i)=false:=by simpa using this.symm
   rw[this];exact wj b.2 i o h
  ·rw[beq_iff_eq]at c;subst c;simp
theorem tj{ρ:List (Nat×Nat)} : ∀ {l:List (Nat×Ob)} {id:Nat},back ρ l id=none->∀i o,ac l i=some o->ren ρ i≠id
 |[],_,_,_,_,h=>by simp[ac]at h
 |(j,x)::r,id,c,i,o,h=>by
  simp only[back]at c;cases d:ren ρ j==id
  ·rw[d]at c;simp only[ac]at h;cases b:j==i
   ·rw[b]at h;exact tj c i o h
   ·rw[beq_iff_eq]at b;subst b;simpa using d
  ·rw[d]at c;simp at c
theorem M3{objs:List (Nat×Ob)}{ρ:List (Nat×Nat)} : ∀ {l:List (Nat×Ob)},UL ρ l=true->∀id,ac (Kd objs ρ l) id=match back ρ l id with
  |some i=>(ac l i).map (Ob.ren ρ)
  |none=>ac objs id
 |[],_,_=>rfl
 |(j,x)::r,d,id=>by
  simp only[UL,Bool.and_eq_true]at d;simp only[Kd,back];rw[ir];by_cases c:id=ren ρ j
  ·subst c;simp[ac]
  ·rw[if_neg c,M3 d.2];have:(ren ρ j==id)=false:=by simpa using (fun e=>c e.symm)
   rw[this,cond_false];cases f:back ρ r id with
   |none=>rfl
   |some i=>
    simp only[ac];obtain⟨g,o,h⟩:=gL f;cases b:j==i
    ·rfl
    ·exfalso;rw[beq_iff_eq]at b;subst b;exact c g.symm
theorem oW{ρ:List (Nat×Nat)}{objs:List (Nat×Ob)} : ∀ {l:List (Nat×Ob)} {i:Nat} {o:Ob},ac l i=some o->ac objs i=none->kA ρ objs l (ren ρ i)=true
 |[],_,_,h,_=>by simp[ac]at h
 |(j,x)::r,i,o,h,c=>by
  simp only[ac]at h;simp only[kA,Bool.or_eq_true,Bool.and_eq_true];cases b:j==i
  ·rw[b]at h;exact .inr (oW h c)
  ·rw[beq_iff_eq]at b;subst b;left;simp[c]
theorem HF{σ:St}{ρ:List (Nat×Nat)}{objs:List (Nat×Ob)} : ∀ {l:List (Nat×Ob)} {id:Nat},ZI σ ρ objs l=true->kA ρ objs l id=true->id<σ.n
 |[],_,_,h=>by simp[kA]at h
 |(j,x)::r,id,b,h=>by
  simp only[ZI,Bool.and_eq_true,Bool.or_eq_true,decide_eq_true_eq]at b;simp only[kA,Bool.or_eq_true,Bool.and_eq_true,beq_iff_eq]at h;rcases h with⟨d,rfl⟩|h
  ·rcases b.1 with c|c
   ·cases e:ac objs j<;>simp[e]at d c
   ·exact c.2
  ·exact HF b.2 h
theorem jg{σ:St}{ρ:List (Nat×Nat)}{ro:List Nat}{objs':List (Nat×Ob)} : ∀ {l:List (Nat×Ob)},ZH σ ρ ro objs' l=true->∀i o,ac l i=some o->(ren ρ i∈σ.ro->i∈ro)/\fX o (ac objs' i)=true
 |[],_,_,_,h=>by simp[ac]at h
 |(j,x)::r,b,i,o,h=>by
  simp only[ZH,Bool.and_eq_true]at b;simp only[ac]at h;cases c:j==i
  ·rw[c]at h;exact jg b.2 i o h
  ·rw[c]at h;rw[beq_iff_eq]at c;subst c;simp only[cond_true,E_]at h;subst h;refine⟨fun hm=>?_,b.1.2⟩;have d:=b.1.1;rw[show σ.ro.contains (ren ρ j)=true by simpa using hm]at d;simpa using d
theorem Fd{c:List (Nat×Ob)} : ∀ {l:List (Nat×Ob)},GV c l=true->∀i o,ac l i=some o->o.inKeys c=true
 |[],_,_,_,h=>by simp[ac]at h
 |(j,x)::r,b,i,o,h=>by
  simp only[GV,Bool.and_eq_true]at b;simp only[ac]at h;cases d:j==i
  ·rw[d]at h;exact Fd b.2 i o h
  ·rw[d]at h;simp only[cond_true,E_]at h;subst h;exact b.1
mutual
theorem ue{D:Nat->Bool}{n:Nat}(c:∀i,D i=true->i<n):∀x:SV,(∀d,d<n->x.noRef d=true)->x.clear D=true
 |.undef,_=>rfl
 |.val _,_=>rfl
 |.nils,_=>rfl
 |.full _,_=>rfl
 |.own id _,h=>by
  simp only[SV.clear,Bool.not_eq_true'];cases b:D id with
  |false=>rfl
  |true=>have:=h id (c id b);simp[SV.noRef]at this
 |.loc id _,h=>by
  simp only[SV.clear,Bool.not_eq_true'];cases b:D id with
  |false=>rfl
  |true=>have:=h id (c id b);simp[SV.noRef]at this
 |.eloc id _ _ _,h=>by
  simp only[SV.clear,Bool.not_eq_true'];cases b:D id with
  |false=>rfl
  |true=>have:=h id (c id b);simp[SV.noRef]at this
 |.view id _ _ _,h=>by
  simp only[SV.clear,Bool.not_eq_true'];cases b:D id with
  |false=>rfl
  |true=>have:=h id (c id b);simp[SV.noRef]at this
 |.agg f,h=>nm c f h
 |.clo _ e,h=>nm c e h
 |.tup e,h=>nm c e h
 |.ifc _ v,h=>ue c v h
 |.anyB,_=>rfl
 |.selfN id t m,h=>by
  simp only[SV.clear,Bool.not_eq_true'];cases b:D id with
  |false=>rfl
  |true=>have:=h id (c id b);simp[SV.noRef]at this
 |.ownT id k t,h=>by
  simp only[SV.clear,Bool.not_eq_true'];cases b:D id with
  |false=>rfl
  |true=>have:=h id (c id b);simp[SV.noRef]at this
 |.itr id,h=>by
  simp only[SV.clear,Bool.not_eq_true'];cases b:D id with
  |false=>rfl
  |true=>have:=h id (c id b);simp[SV.noRef]at this
theorem nm{D:Nat->Bool}{n:Nat}(c:∀i,D i=true->i<n):∀x:List SV,(∀d,d<n->SV.noRefs d x=true)->pV D x=true
 |[],_=>rfl
 |x::g,h=>by
  simp only[pV,Bool.and_eq_true];have j:∀d,d<n->x.noRef d=true/\SV.noRefs d g=true:=fun d b=>by simpa[SV.noRefs]using h d b
  exact⟨ue c x (fun d b=>(j d b).1),nm c g (fun d b=>(j d b).2)⟩
end
section
variable {P:Program} {w0 w:World} {S0 S:ba} {M:Ctx} {σ:St} {a:Act} {μ:Nat->Value} {β:Nat->Option Nat} {o:Oper}
theorem PC(h:SimG w0 S0 M σ a w S μ β){ρ:List (Nat×Nat)}{objs':List (Nat×Ob)}(A:∀i o,ac objs' i=some o->ac σ.objs (ren ρ i)=some (o.ren ρ)):∀ {d c:List SV} {e b:List Nat} {j:List Value},yO σ.objs ρ d c e->(∀i,i∈e->i∈b)->
  bb w S μ σ.objs d j->bb w (dz S β σ.objs b) (fun i=>μ (ren ρ i)) objs' c j:=by
 intro d
 induction d with
 |nil=>
  intro c e b j hm k l;cases c with
  |nil=>exact l
  |cons y c=>simp[yO]at hm
 |cons x d p=>
  intro c e b j hm k l;obtain⟨u,q,s,v,z⟩:=l;cases c with
  |nil=>simp[yO]at hm
  |cons y c=>
   have named:x=y.ren ρ/\yO σ.objs ρ d c e->bb w (dz S β σ.objs b) (fun i=>μ (ren ρ i)) objs' (y::c) j:=by
    rintro⟨rfl,m⟩;exact⟨u,q,s,au.unren A (fun _ _ _=>rfl) y u (au.mono (bX.refl _ _) (fun _ _ x=>.inl x) _ _ v),p m k z⟩
   cases y with
   |val iv=>
    obtain⟨f,g,e1,e2,rfl⟩:=hm;exact⟨u,q,s,kI h e1 (fun i n=>k i (List.mem_append_left _ n)) v,p e2 (fun i n=>k i (List.mem_append_right _ n)) z⟩
   |_=>exact named hm
theorem PD(h:SimG w0 S0 M σ a w S μ β){f':Option Nat}(hd:∀d,f'=some d->d<σ.n){c:MC}{ρ:List (Nat×Nat)}{fz:List Nat}(l':mOk σ ρ c=true)(U:yP σ.objs ρ c.objs)
  {V:World} {v:Value} {S':ba} {μ':Nat->Value} {K:Nat->Option Nat}
  (r1:au V S' μ' c.objs' c.res v) (r2:∀id o,ac c.objs' id=some o->bZ V S' μ' c.objs' (K id) (μ' id) o)
  (r3:∀id L o o' b,ac c.objs' id=some o->ac c.objs' L=some o'->K id=some b->K L=some b->id=L)
  (r4:∀id o b,ac c.objs' id=some o->K id=some b->w.heap.size<=b\/∃i x,ac c.objs i=some x/\β (ren ρ i)=some b)
  (r5:∀id o b g,ac c.objs' id=some o->K id=some b->S' b g->id∈c.ro'/\∀W s u,o=.arr W s u->g<u.length*s)
  (r6:∀b o,S' b o->b<V.heap.size) (r7:∀b o,dz S β σ.objs fz b o->S' b o)
  (r8:∀b o,S' b o->dz S β σ.objs fz b o\/w.heap.size<=b\/∃i x,ac c.objs i=some x/\β (ren ρ i)=some b)
  (r9:Kept (fun b=>∃i x,ac c.objs i=some x/\β (ren ρ i)=some b) w V)
  (m':∀id o,ac c.objs id=some o->au V S' μ' c.objs' (Ef id o) (μ (ren ρ id)))
  (t':∀b o,dz S β σ.objs fz b o->V.cell? ⟨b,o,none⟩=w.cell? ⟨b,o,none⟩) :
  fF w0 S0 M (σ.mapply f' ρ c fz) (a.put f' v) V:=by
 simp only[mOk,Bool.and_eq_true]at l';obtain⟨⟨⟨⟨⟨⟨k1,k2⟩,k3⟩,k4⟩,k5⟩,k6⟩,k7⟩:=l';have A:=fun id=>M3 (objs:=σ.objs) (l:=c.objs') k2 id
 have B:∀ {b:Nat},(∃i x,ac c.objs i=some x/\β (ren ρ i)=some b)->∃i x,ac c.objs i=some x/\ac σ.objs (ren ρ i)=some (x.ren ρ)/\β (ren ρ i)=some b/\True:=by
  rintro b ⟨i,x,I,Y⟩;exact⟨i,x,I,ti U i x I,Y,trivial⟩
 have N:∀id x b,ac σ.objs id=some x->β id=some b->b<w.heap.size:=fun id x b R O=>bZ.live O (h.objs id x R)
 have c':∀b,b<w.heap.size->¬(∃i x,ac c.objs i=some x/\β (ren ρ i)=some b)->V.heap[b]?=w.heap[b]?:=fun b O hn=>r9.block b O hn
 have C:bX S w V:=⟨fun b g Q=>t' b g (.inl Q),r9.shape⟩
 obtain⟨J,s1,s2,s3,s4,s5,s6,s7⟩:∃J:ba,(∀b g,S b g->J b g)/\(∀b g,J b g->b<V.heap.size)/\
   (∀b g,J b g->S0 b g\/w0.heap.size<=b\/M.blocks b)/\
   au V J μ' c.objs' c.res v/\(∀id o,ac c.objs' id=some o->bZ V J μ' c.objs' (K id) (μ' id) o)/\
   (∀id o b g,ac c.objs' id=some o->K id=some b->J b g->id∈c.ro'/\∀W s u,o=.arr W s u->g<u.length*s)/\
   (∀id o b g,ac σ.objs id=some o->β id=some b->back ρ c.objs' id=none->J b g->id∈(bif M0 c then []else fz)++σ.ro/\∀W s u,o=.arr W s u->g<u.length*s):=by
  cases g':M0 c with
  |true=>
   simp only[M0,Bool.and_eq_true]at g';refine⟨S,fun _ _ x=>x,fun b g Q=>Nat.lt_of_lt_of_le (h.stab b g Q) r9.size,h.back,SV.flat_rel _ _ g'.1 r1,fun id o f=>bZ.flat (LZ g'.2 id o f) (r2 id o f),?_,?_⟩
   ·intro id o b g f O Q;exact r5 id o b g f O (r7 b g (.inl Q))
   ·intro id o b g f O _ Q;exact h.unst id o b g f O Q
  |false=>
   refine⟨S',fun b g Q=>r7 b g (.inl Q),r6,?_,r1,r2,r5,?_⟩
   ·intro b g Q;rcases r8 b g Q with I|I|I
    ·exact(h.freeze fz).back b g I
    ·have:=h.kept.size;exact .inr (.inl (by omega))
    ·obtain⟨i,x,_,Y,X,_⟩:=B I;exact .inr (h.own _ _ b Y X)
   ·intro id o b g f O m Q;rcases r8 b g Q with I|I|I
    ·exact(h.freeze fz).unst id o b g f O I
    ·have:=N id o b f O;omega
    ·exfalso;obtain⟨i,x,Y,X,Z,_⟩:=B I;have hid:=h.inj id _ o _ b f X O Z;have n:=(jg k1 i x Y).2;cases z:ac c.objs' i with
     |none=>rw[z]at n;cases x<;>simp[fX]at n
     |some y=>exact tj m i y z hid.symm
 refine⟨J,fun id=>match back ρ c.objs' id with|some i=>μ' i|none=>μ id,fun id=>match back ρ c.objs' id with|some i=>K i|none=>β id,?_⟩;have hD:∀id,kA ρ c.objs c.objs' id=true->id<σ.n:=fun id hn=>HF k3 hn
 have O:∀id H,kA ρ c.objs c.objs' id=false->ac (Kd σ.objs ρ c.objs') id=some (.box H)->∃b',ac σ.objs id=some (.box b')/\(match back ρ c.objs' id with|some i=>μ' i|none=>μ id)=μ id:=by
  intro id H hD f;rw[A]at f;cases m:back ρ c.objs' id with
  |none=>rw[m]at f;exact⟨H,f,rfl⟩
  |some i=>
   rw[m]at f;obtain⟨rfl,y,E⟩:=gL m;cases R:ac c.objs i with
   |none=>rw[oW E R]at hD;simp at hD
   |some x=>
    have n:=(jg k1 i x R).2;simp only[E,Option.map_some,E_]at f;rw[E]at n;cases y with
    |arr _ _ _=>simp[Ob.ren]at f
    |iter _ _=>simp[Ob.ren]at f
    |box cy=>
     cases x with
     |arr _ _ _=>simp[fX]at n
     |iter _ _=>simp[fX]at n
     |box cx=>
      obtain⟨b,e1,e2⟩:=m' i _ R _ E;exact⟨_,ti U i _ R,by simp only;rw[e1,e2]⟩
 have ha:∀id cv s u,kA ρ c.objs c.objs' id=false->ac (Kd σ.objs ρ c.objs') id=some (.arr cv s u)->∃h' a',ac σ.objs id=some (.arr h' s a')/\h'<=cv/\(h'=cv->a'.length=u.length/\(match back ρ c.objs' id with|some i=>μ' i|none=>μ id)=μ id):=by
  intro id cv s u hD f;rw[A]at f;cases m:back ρ c.objs' id with
  |none=>rw[m]at f;exact⟨cv,u,f,Nat.le_refl _,fun _=>⟨rfl,rfl⟩⟩
  |some i=>
   rw[m]at f;obtain⟨rfl,y,E⟩:=gL m;cases R:ac c.objs i with
   |none=>rw[oW E R]at hD;simp at hD
   |some x=>
    have n:=(jg k1 i x R).2;simp only[E,Option.map_some,E_]at f;rw[E]at n;cases y with
    |box _=>simp[Ob.ren]at f
    |iter _ _=>simp[Ob.ren]at f
    |arr D' s1 u'=>
     simp only[Ob.ren,Ob.arr.injEq]at f;obtain⟨rfl,rfl,rfl⟩:=f;cases x with
     |box cx=>simp[fX]at n
     |iter _ _=>simp[fX]at n
     |arr x' s0 j'=>
      simp only[fX,beq_iff_eq]at n;subst n;have n':=ti U i _ R;obtain⟨e1,e2⟩:=m' i _ R _ _ _ E;refine⟨x',j',n',e1,fun e=>?_⟩;have e3:=e2 e;refine⟨?_,e3.symm⟩;have o1:=h.objs _ _ n';have o2:=r2 i _ E;rw[<-e3]at o2;rcases o1 with⟨z1,_,x1,z2⟩|⟨_,_,_,_,_,_,z2,_⟩<;>rcases o2 with⟨z3,_,x2,z4⟩|⟨_,_,_,_,_,_,z4,_⟩
      ·rw[z1,z3]
      ·rw[z2]at z4;simp only[Value.slice.injEq]at z4;rw[z1,<-z4.2.1];rfl
      ·rw[z2]at z4;simp only[Value.slice.injEq]at z4;rw[z3,z4.2.1];rfl
      ·rw[z2]at z4;simp only[Value.slice.injEq]at z4;exact z4.2.1
 have hi:∀id s p,kA ρ c.objs c.objs' id=false->ac (Kd σ.objs ρ c.objs') id=some (.iter s p)->∃s' p',ac σ.objs id=some (.iter s' p')/\(match back ρ c.objs' id with|some i=>μ' i|none=>μ id)=μ id:=by
  intro id s p hD f;rw[A]at f;cases m:back ρ c.objs' id with
  |none=>rw[m]at f;exact⟨s,p,f,rfl⟩
  |some i=>
   rw[m]at f;obtain⟨rfl,y,E⟩:=gL m;cases R:ac c.objs i with
   |none=>rw[oW E R]at hD;simp at hD
   |some x=>
    have n:=(jg k1 i x R).2;simp only[E,Option.map_some,E_]at f;rw[E]at n;cases y with
    |arr _ _ _=>simp[Ob.ren]at f
    |box _=>simp[Ob.ren]at f
    |iter _ _=>cases x<;>simp[fX]at n
 have d':∀i o,ac c.objs' i=some o->ac (Kd σ.objs ρ c.objs') (ren ρ i)=some (o.ren ρ):=by
  intro i o f;simp only[A,wj k2 i o f,f,Option.map_some]
 have q':∀i o,ac c.objs' i=some o->(match back ρ c.objs' (ren ρ i)with|some j=>μ' j|none=>μ (ren ρ i))=μ' i:=by
  intro i o f;simp only[wj k2 i o f]
 have base:SimG w0 S0 M {σ with objs:=Kd σ.objs ρ c.objs',ro:=c.ro'.map (ren ρ)++((bif M0 c then []else fz)++σ.ro) } a V J (fun id=>match back ρ c.objs' id with|some i=>μ' i|none=>μ id) (fun id=>match back ρ c.objs' id with|some i=>K i|none=>β id):=by
  refine {defers:=h.defers,size:=h.size,env:=?_,objs:=?_,inj:=?_,own:=?_,unst:=?_,stab:=s2,ext:=fun b o Q=>s1 b o (h.ext b o Q),back:=s3,kept:=?_,stay:=fun b o O=>(C.1 b o (h.ext b o O)).trans (h.stay b o O),hist:=?_,far:=h.far,glob:=?_ }
  ·intro k;exact au.step O ha hi _ _ (HB k4 k) (au.mono C s1 _ _ (h.env k))
  ·intro id o f;have z:=f;rw[A]at f;cases m:back ρ c.objs' id with
   |none=>
    rw[m]at f;have ho:=h.objs id o f
    have z':∀b,β id=some b->¬(∃i x,ac c.objs i=some x/\β (ren ρ i)=some b):=by
     intro b q hf;obtain⟨i,x,Y,X,Z,_⟩:=B hf;have hid:=h.inj id _ o _ b f X q Z;have n:=(jg k1 i x Y).2;cases z:ac c.objs' i with
     |none=>rw[z]at n;cases x<;>simp[fX]at n
     |some y=>exact tj m i y z hid.symm
    have k':=bZ.move C s1 (fun b q=>c' b (N id o b f q) (z' b q)) ho;have A':=HD k5 id o f;cases o with
    |arr v' s' r'=>exact k'
    |iter _ _=>exact k'
    |box H=>
     obtain⟨b,vs,e,fr,q1,q2,q3,q4,q5⟩:=k';exact⟨b,vs,e,fr,q1,q2,q3,q4,ak.step O ha hi _ _ A' q5⟩
   |some i=>
    rw[m]at f;obtain⟨rfl,y,E⟩:=gL m;simp only[E,Option.map_some,E_]at f;subst f;have ho:=s5 i y E;have B':=Fd k7 i y E;cases y with
    |arr v' s' r'=>exact ho
    |iter _ _=>exact ho
    |box H=>
     obtain⟨b,vs,e,fr,q1,q2,q3,q4,q5⟩:=ho;exact⟨b,vs,e,fr,q1,q2,q3,q4,ak.renamed d' q' _ _ B' q5⟩
  ·intro id L o o' b f z q D;rw[A]at f z;cases m:back ρ c.objs' id with
   |none=>
    simp only[m]at f q;cases F:back ρ c.objs' L with
    |none=>
     simp only[F]at z D;exact h.inj id L o o' b f z q D
    |some i=>
     exfalso;simp only[F]at z D;obtain⟨rfl,y,E⟩:=gL F;rcases r4 i y b E D with I|I
     ·have:=N id o b f q;omega
     ·obtain⟨j,x,Y,X,Z,_⟩:=B I;have hid:=h.inj id _ o _ b f X q Z;have n:=(jg k1 j x Y).2;cases z:ac c.objs' j with
      |none=>rw[z]at n;cases x<;>simp[fX]at n
      |some y=>exact tj m j y z hid.symm
   |some i=>
    simp only[m]at f q;obtain⟨rfl,y,E⟩:=gL m;cases F:back ρ c.objs' L with
    |none=>
     exfalso;simp only[F]at z D;rcases r4 i y b E q with I|I
     ·have:=N L o' b z D;omega
     ·obtain⟨j,x,Y,X,Z,_⟩:=B I;have hid:=h.inj L _ o' _ b z X D Z;have n:=(jg k1 j x Y).2;cases e':ac c.objs' j with
      |none=>rw[e']at n;cases x<;>simp[fX]at n
      |some y=>exact tj F j y e' hid.symm
    |some i'=>
     simp only[F]at z D;obtain⟨rfl,y',C'⟩:=gL F;rw[r3 i i' y y' b E C' q D]
  ·intro id o b f q;rw[A]at f;cases m:back ρ c.objs' id with
   |none=>simp only[m]at f q;exact h.own id o b f q
   |some i=>
    simp only[m]at f q;obtain⟨rfl,y,E⟩:=gL m;rcases r4 i y b E q with I|I
    ·have:=h.kept.size;exact .inl (by omega)
    ·obtain⟨j,x,_,X,Z,_⟩:=B I;exact h.own _ _ b X Z
  ·intro id o b g f q Q;rw[A]at f;cases m:back ρ c.objs' id with
   |none=>
    simp only[m]at f q;obtain⟨q1,q2⟩:=s7 id o b g f q m Q;exact⟨List.mem_append_right _ q1,q2⟩
   |some i=>
    simp only[m]at f q;obtain⟨rfl,y,E⟩:=gL m;obtain⟨q1,q2⟩:=s6 i y b g E q Q;refine⟨List.mem_append_left _ (List.mem_map_of_mem q1),fun W s u e=>?_⟩;subst e;simp only[E,Option.map_some,E_]at f;cases y with
    |box _=>simp[Ob.ren]at f
    |iter _ _=>simp[Ob.ren]at f
    |arr v1 s1 r1=>
     simp only[Ob.ren,Ob.arr.injEq]at f;obtain⟨_,rfl,rfl⟩:=f;exact q2 _ _ _ rfl
  ·refine⟨r9.os.trans h.kept.os,r9.tape.trans h.kept.tape,r9.output.trans h.kept.output,Nat.le_trans h.kept.size r9.size,fun k hk hM=>?_,fun k x R=>r9.shape _ _ (h.kept.shape _ _ R)⟩;rw[<-h.kept.block k hk hM];refine c' k (Nat.lt_of_lt_of_le hk h.kept.size) (fun hf=>?_);obtain⟨i,x,_,X,Z,_⟩:=B hf;rcases h.own _ _ k X Z with h5|h5
   ·omega
   ·exact hM h5
  ·intro p hp;exact au.step O ha hi _ _ (ue hD _ (h.far p hp)) (au.mono C s1 _ _ (h.hist p hp))
  ·intro p hp;exact gX.mono C s1 (h.glob p hp)
 exact base.putD hd (au.renamed d' q' _ _ k6 s4)
def PE(σ:St)(f:SV)(c:List Opd):Option (FuncId×List SV):=match f with
 |.val (.fn k b)=>some (k,c.map (val σ)++b.map .val)
 |.clo k b=>some (k,c.map (val σ)++b)
 |_=>none
theorem bb.append{objs:List (Nat×Ob)} : ∀ {d f:List SV} {g j:List Value},bb w S μ objs d g->bb w S μ objs f j->bb w S μ objs (d++f) (g++j)
 |[],_,_,_,h,k=>by have h:_=_:=h;subst h;exact k
 |_::_,_,_,_,⟨u,c,l,m,p⟩,k=>by subst l;exact⟨u,c++_,rfl,m,bb.append p k⟩
theorem bb.ofRep{objs:List (Nat×Ob)} : ∀ {b:List IV} {c:List Value},bx w S b c->bb w S μ objs (b.map .val) c
 |[],_,h=>h
 |_::_,_,⟨u,d,e,f,g⟩=>⟨u,d,e,f,bb.ofRep g⟩
theorem WO(h:SimG w0 S0 M σ a w S μ β)(hd:ml o σ){c:Call}{f:Operand}(ho:o.op=.call c)(a':c.callee=.value f){fv:SV}(K:au w S μ σ.objs fv (a.eval f)){y:List Opd}(B:dF c.args.toList=some y)
  {k:FuncId} {vals:List SV} (j:PE σ fv y=some (k,vals)) {q:MC} (hF:jL σ.gl P k q) {ρ:List (Nat×Nat)} {L:List Nat} (N:mOk σ ρ q=true) (m:yP σ.objs ρ q.objs) (b':yO σ.objs ρ vals q.args L) (c':mFz ρ L q.objs=true) {next:Act->World->Prop} {Q:Exit->Act->World->Prop}
  (hn:∀v w',fF w0 S0 M (σ.mapply o.dst ρ q L) (a.put o.dst v) w'->next (a.put o.dst v) w'):o.wp P a w next Q:=by
 have O:=pN h B
 obtain⟨d,d',C⟩:∃d:Array Value,a.eval f=.func (.func k) #[] d/\bb w S μ σ.objs vals ((c.args.toList.map a.eval)++d.toList):=by
  unfold PE at j;split at j
  ·next k' R=>
   simp only[E_,Prod.mk.injEq]at j;obtain⟨rfl,rfl⟩:=j;obtain⟨U,l,n⟩:=K;exact⟨U,l,bb.append O (bb.ofRep n)⟩
  ·next k' R=>
   simp only[E_,Prod.mk.injEq]at j;obtain⟨rfl,rfl⟩:=j;obtain⟨U,l,n⟩:=K;exact⟨U,l,bb.append O n⟩
  ·simp at j
 obtain⟨⟨fn,e',D⟩,u⟩:=hF
 have z:(execOp a.eval o).run P w=(callFunc k (c.args.map a.eval++d)).run P w:=by
  simp only[execOp,ho,resolve,a',d',Deferred.ofValue,Sem.run_bind,Sem.run_pure,Result.andThen_ok,invoke,Array.empty_append]
 have hv:c.args.map a.eval++d=((c.args.toList.map a.eval)++d.toList).toArray:=by
  apply Array.toList_inj.1;simp
 rw[hv]at z;have E:=fun i o F=>ti m i o F
 have A:=N;simp only[mOk,Bool.and_eq_true]at A;obtain⟨⟨⟨⟨⟨⟨k1,k2⟩,k3⟩,k4⟩,k5⟩,k6⟩,k7⟩:=A;have hf:=h.freeze L
 have H:∀id g o J,ac q.objs id=some o->ac q.objs g=some J->ren ρ id=ren ρ g->id=g:=by
  intro id g o J l n he;have V:=(jg k1 id o l).2;have W:=(jg k1 g J n).2;cases X:ac q.objs' id with
  |none=>rw[X]at V;cases o<;>simp[fX]at V
  |some y1=>
   cases Y:ac q.objs' g with
   |none=>rw[Y]at W;cases J<;>simp[fX]at W
   |some y2=>
    have e1:=wj k2 id y1 X;have e2:=wj k2 g y2 Y;rw[he,e2]at e1;simpa using e1.symm
 refine wd e' D z (u w (dz S β σ.objs L) (fun i=>μ (ren ρ i)) (fun i=>β (ren ρ i)) _ hf.stab hf.glob (PC h E b' (fun _ x=>x) C) ?_ ?_ ?_) ?_
 ·intro id o F;have I:=h.objs _ _ (E id o F);cases o with
  |iter s p=>exact bZ.move (o:=.iter s p) (bX.refl _ _) (fun _ _ x=>Or.inl x) (fun _ _=>rfl) I
  |arr v s r=>exact bZ.arr_any (bZ.move (o:=.arr v s r) (bX.refl _ _) (fun _ _ x=>Or.inl x) (fun _ _=>rfl) I)
  |box f'=>
   obtain⟨b,U,e,fr,q1,q2,q3,q4,q5⟩:=I;exact⟨b,U,e,fr,q1,q2,q3,q4,ak.unren E (fun _ _ _=>rfl) _ _ (ak.mono (bX.refl _ _) (fun _ _ x=>.inl x) _ _ q5)⟩
 ·intro id g o J b l n h3 h4;exact H id g o J l n (h.inj _ _ _ _ b (E _ _ l) (E _ _ n) h3 h4)
 ·intro id o b g' l n hS;have h':=(jg k1 id o l).1;rcases hS with hS|⟨i,x,e1,e2,e3,e4⟩
  ·obtain⟨u1,u2⟩:=h.unst _ _ b g' (E _ _ l) n hS;refine⟨h' u1,fun i' s Z e=>?_⟩;subst e;exact u2 i' s Z rfl
  ·exfalso;have hid:=h.inj _ _ _ _ b (E _ _ l) e2 n e3;rw[<-hid]at e1;exact Tq c' id o l e1
 ·rintro e w' ⟨v,S',μ',m',rfl,r1,r2,r3,r4,r5,r6,r7,r8,r9,j',l'⟩;exact⟨v,rfl,hn v w' (PD h hd N m r1 r2 r3 r4 r5 r6 r7 r8 r9 j' l')⟩
end
end Go.Vs
