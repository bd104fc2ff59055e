/- Value semantics, part 15: operations of a region in whatever order its edges allow. No conditions. -/
import Derived.Test.YtcjeehebikeghaaGreatDoorBB
import Derived.ScopeJumps
set_option linter.unusedVariables false
set_option linter.unusedSimpArgs false
set_option linter.unusedVariables false
set_option linter.unusedSimpArgs false
namespace Go.Vs

structure Eff where
 ids:List Nat
 dst:Option Nat
 u:Upd

structure St.Eq(σ σ':St):Prop where
 env:∀k,aC σ'.env k=aC σ.env k
 objs:∀k,ac σ'.objs k=ac σ.objs k
 ro:∀i,i∈σ'.ro↔i∈σ.ro
 n:σ'.n=σ.n
 gl:σ'.gl=σ.gl
theorem St.Eq.refl(σ:St):St.Eq σ σ:=⟨fun _=>rfl,fun _=>rfl,fun _=>Iff.rfl,rfl,rfl⟩
theorem St.Eq.trans{a b c:St}(h:St.Eq a b)(k:St.Eq b c):St.Eq a c:=
 ⟨fun i=>(k.env i).trans (h.env i),fun i=>(k.objs i).trans (h.objs i),fun i=>(k.ro i).trans (h.ro i),k.n.trans h.n,k.gl.trans h.gl⟩

def Hr(P:Program)(σ:St)(o:VOper)(e:Eff):Prop:=zB P σ o.dst e.u o.op∧e.ids=eK σ o.op e.u∧e.dst=o.dst
def jl:SV→Option (Option Bool)
 |.val (.bool c)=>some (some c)
 |.val (.tuple [])=>some none
 |_=>none
abbrev gR:Upd:={v:=.val (.tuple []) }
def fM(P:Program)(σ:St)(o:VOper)(e:Eff):Prop:=
 match o.guard with
 |none=>Hr P σ o e
 |some (g,b)=>∃c,jl (aC σ.env g)=some c∧((c=some b∧Hr P σ o e)∨(c≠some b∧e=⟨[],o.dst,gR⟩))

def rP(dst:Option Nat)(u:Upd)(id:Nat):Option Ob:=
 match u.new,dst with
 |some o,some d=>if id=d then some (o.erase d)else none
 |_,_=>match u.wr with
  |some (i,o)=>if id=i then some o else none
  |none=>none
def kH(e:Eff)(d:Nat):Prop:=(∃o,e.u.new=some o)∧e.dst=some d

def fj(d:Nat)(σ:St):Prop:=(∀k,(aC σ.env k).noRef d=true)∧∀id o,ac σ.objs id=some o→o.noRef d=true
def uG(d:Nat)(u:Upd):Prop:=u.v.noRef d=true∧(∀i o,u.wr=some (i,o)→o.noRef d=true)∧∀o,u.new=some o→o.noRef d=true

theorem uH{d:Nat}{v:SV}(h:v.noRef d=true):v.erase d=v:=by unfold SV.erase;rw[h];rfl
theorem zE{d:Nat} : ∀ {l:List SV},SV.noRefs d l=true→iB d l=l
 |[],_=>rfl
 |v::r,h=>by
  simp only[SV.noRefs,Bool.and_eq_true]at h;simp only[iB,uH h.1,zE h.2]
theorem xa{d:Nat} : ∀ {l:List (Nat×Nat×SV)},jH d l=true→ni d l=l
 |[],_=>rfl
 |p::r,h=>by
  simp only[jH,Bool.and_eq_true]at h;simp only[ni,uH h.1,xa h.2]
theorem Ks{d:Nat} : ∀ {o:Ob},o.noRef d=true→o.erase d=o
 |.box c,h=>by simp only[Ob.erase];rw[zE h]
 |.arr _ _ _,_=>rfl
 |.iter _ _,_=>rfl
 |.tab _ _ _ ln,h=>by simp only[Ob.erase];rw[xa h]

section
variable {σ σ':St}

theorem j7{u:Upd}{o:Ob}{d:Nat}(h:u.new=some o):σ.apply (some d) u=⟨put (dJ d σ.env) d u.v,cK d (put σ.objs d o),u.fz++σ.ro,σ.n,σ.gl⟩:=by
 unfold St.apply;rw[h]
theorem j8{u:Upd}{dst:Option Nat}(h:u.new=none∨dst=none):σ.apply dst u=⟨putD σ.env dst u.v,El σ.objs u.wr,u.fz++σ.ro,σ.n,σ.gl⟩:=by
 unfold St.apply;rcases h with h|h
 ·rw[h]
 ·subst h;cases u.new<;>rfl
theorem sG(u:Upd)(dst:Option Nat):(∃o d,u.new=some o∧dst=some d)∨(u.new=none∨dst=none):=by
 cases u.new with
 |none=>exact .inr (.inl rfl)
 |some o=>cases dst with
  |none=>exact .inr (.inr rfl)
  |some d=>exact .inl ⟨o,d,rfl,rfl⟩
theorem Jg{u:Upd}{o:Ob}{d:Nat}(h:u.new=some o)(k:Nat):rP (some d) u k=if k=d then some (o.erase d)else none:=by
 unfold rP;rw[h]
theorem wE{u:Upd}{dst:Option Nat}(h:u.new=none∨dst=none)(k:Nat):rP dst u k=match u.wr with
  |some (i,o)=>if k=i then some o else none
  |none=>none:=by
 unfold rP;rcases h with h|h
 ·rw[h]
 ·subst h;cases u.new<;>rfl

theorem p9{dst:Option Nat}{u:Upd}(h:∀d,(∃o,u.new=some o)→dst=some d→fj d σ)(k:Nat):aC (σ.apply dst u).env k=if dst=some k then u.v else aC σ.env k:=by
 rcases sG u dst with⟨o,d,hn,rfl⟩|ho
 ·rw[j7 hn];simp only[lE,qr];by_cases hk:k=d
  ·subst hk;simp
  ·rw[if_neg hk,if_neg (by simpa using fun e=>hk e.symm),uH ((h d ⟨o,hn⟩ rfl).1 k)]
 ·rw[j8 ho];cases dst with
  |none=>simp[putD]
  |some d=>
   simp only[putD,lE];by_cases hk:k=d
   ·subst hk;simp
   ·rw[if_neg hk,if_neg (by simpa using fun e=>hk e.symm)]
theorem mU{dst:Option Nat}{u:Upd}(h:∀d,(∃o,u.new=some o)→dst=some d→fj d σ)(k:Nat):ac (σ.apply dst u).objs k=match rP dst u k with
  |some o=>some o
  |none=>ac σ.objs k:=by
 rcases sG u dst with⟨o,d,hn,rfl⟩|ho
 ·rw[j7 hn,Jg hn];simp only[bK,iK];by_cases hk:k=d
  ·subst hk;simp
  ·simp only[if_neg hk];cases hl:ac σ.objs k with
   |none=>rfl
   |some y=>
    simp only[Option.map_some];rw[Ks ((h d ⟨o,hn⟩ rfl).2 k y hl)]
 ·rw[j8 ho,wE ho];cases hw:u.wr with
  |none=>simp[El]
  |some p=>
   obtain⟨i,o⟩:=p;simp only[El,iK];by_cases hk:k=i
   ·simp[hk]
   ·simp[hk]
theorem uI{dst:Option Nat}{u:Upd}(i:Nat):i∈(σ.apply dst u).ro↔i∈u.fz∨i∈σ.ro:=by
 rcases sG u dst with⟨o,d,hn,rfl⟩|ho
 ·rw[j7 hn];simp
 ·rw[j8 ho];simp
theorem sH{dst:Option Nat}{u:Upd} : (σ.apply dst u).n=σ.n:=by
 rcases sG u dst with⟨o,d,hn,rfl⟩|ho
 ·rw[j7 hn]
 ·rw[j8 ho]

theorem uJ{dst:Option Nat}{u:Upd} : (σ.apply dst u).gl=σ.gl:=by
 rcases sG u dst with⟨o,d,hn,rfl⟩|ho
 ·rw[j7 hn]
 ·rw[j8 ho]

theorem MG(h:St.Eq σ σ')(dst:Option Nat)(u:Upd):St.Eq (σ.apply dst u) (σ'.apply dst u):=by
 refine⟨fun k=>?_,fun k=>?_,fun i=>?_,by rw[sH,sH,h.n],by rw[uJ,uJ,h.gl]⟩
 ·rcases sG u dst with⟨o,d,hn,rfl⟩|ho
  ·rw[j7 hn,j7 hn];simp only[lE,qr,h.env]
  ·rw[j8 ho,j8 ho];cases dst<;>simp[putD,lE,h.env]
 ·rcases sG u dst with⟨o,d,hn,rfl⟩|ho
  ·rw[j7 hn,j7 hn];simp only[bK,iK,h.objs]
  ·rw[j8 ho,j8 ho];cases u.wr with
   |none=>simp[El,h.objs]
   |some p=>simp[El,iK,h.objs]
 ·rw[uI,uI,h.ro]

theorem fj.apply{d:Nat}(h:fj d σ){dst:Option Nat}{u:Upd}(hu:uG d u):fj d (σ.apply dst u):=by
 have er:∀(d':Nat) (v:SV),v.noRef d=true→(v.erase d').noRef d=true:=by
  intro d' v hv;unfold SV.erase;cases v.noRef d'
  ·rfl
  ·exact hv
 have erl:∀(d':Nat) (l:List SV),SV.noRefs d l=true→SV.noRefs d (iB d' l)=true:=by
  intro d' l
  induction l with
  |nil=>intro _;rfl
  |cons v r ih=>
   intro hl;simp only[SV.noRefs,Bool.and_eq_true]at hl;simp only[iB,SV.noRefs,Bool.and_eq_true];exact⟨er d' v hl.1,ih hl.2⟩
 have ero:∀(d':Nat) (o:Ob),o.noRef d=true→(o.erase d').noRef d=true:=by
  intro d' o ho;cases o with
  |box c=>exact erl d' c ho
  |arr=>rfl
  |iter=>rfl
  |tab a b c ln=>
   have erln:∀l:List (Nat×Nat×SV),jH d l=true→jH d (ni d' l)=true:=by
    intro l
    induction l with
    |nil=>intro _;rfl
    |cons p r ih=>
     intro hl;simp only[jH,Bool.and_eq_true]at hl;simp only[ni,jH,Bool.and_eq_true];exact⟨er d' _ hl.1,ih hl.2⟩
   exact erln ln ho
 rcases sG u dst with⟨o',d',hn,rfl⟩|ho
 ·rw[j7 hn];constructor
  ·intro k;simp only[lE,qr];split
   ·exact hu.1
   ·exact er _ _ (h.1 k)
  ·intro id o ho;simp only[bK,iK]at ho;split at ho
   ·simp only[Option.map_some,E_]at ho;subst ho;exact ero _ _ (hu.2.2 _ hn)
   ·cases hl:ac σ.objs id with
    |none=>rw[hl]at ho;simp at ho
    |some y=>
     rw[hl]at ho;simp only[Option.map_some,E_]at ho;subst ho;exact ero _ _ (h.2 _ _ hl)
 ·rw[j8 ho];constructor
  ·intro k;cases dst with
   |none=>exact h.1 k
   |some d'=>
    simp only[putD,lE];split
    ·exact hu.1
    ·exact h.1 k
  ·intro id o ho;cases hw:u.wr with
   |none=>rw[hw]at ho;exact h.2 id o ho
   |some p=>
    obtain⟨i,x⟩:=p;rw[hw]at ho;simp only[El,iK]at ho;split at ho
    ·obtain rfl:=O_ ho;exact hu.2.1 _ _ hw
    ·exact h.2 id o ho
end

def VOper.slots(o:VOper):List Nat:=(o.op.opds.filterMap fun|.tmp t=>some t|_=>none)++(match o.guard with|some (g,_)=>[g]|none=>[])
def Qd(a b:VOper):Prop:=(∀d,a.dst=some d→d∉b.slots∧b.dst≠some d)∧∀d,b.dst=some d→d∉a.slots

def CA(x y:Eff):Prop:=(∀id,rP x.dst x.u id≠none→id∉y.ids∧rP y.dst y.u id=none)∧∀id o,y.u.wr=some (id,o)→id∉x.u.fz

section
variable {P:Program} {σ σ':St}

theorem Rq{op:VOp}(hgl:σ'.gl=σ.gl)(h:∀t,t∈(op.opds.filterMap fun|.tmp t=>some t|_=>none)→aC σ'.env t=aC σ.env t):∀x∈op.opds,val σ' x=val σ x:=by
 intro x hx;cases x with
 |tmp t=>exact h t (List.mem_filterMap.2 ⟨.tmp t,hx,rfl⟩)
 |const v=>rfl
 |func f=>rfl
 |glob g=>simp only[val,hgl]

theorem EE{o:VOper}{e:Eff}(hgl:σ'.gl=σ.gl)(h:fM P σ o e)(hs:∀t,t∈o.slots→aC σ'.env t=aC σ.env t)(hl:∀i,i∈e.ids→ac σ'.objs i=ac σ.objs i)(hro:∀id x,e.u.wr=some (id,x)→id∈σ'.ro→id∈σ.ro):fM P σ' o e:=by
 have act:Hr P σ o e→Hr P σ' o e:=by
  rintro⟨h1,h2,h3⟩;have hv:=Rq (op:=o.op) (σ:=σ) (σ':=σ') hgl (fun t ht=>hs t (List.mem_append_left _ ht));obtain⟨k1,k2⟩:=Rp (σ':=σ') hgl h1 hv (fun i hi=>hl i (by rw[h2];exact hi)) hro;exact⟨k1,by rw[k2];exact h2,h3⟩
 unfold fM at h ⊢;cases hg:o.guard with
 |none=>rw[hg]at h;exact act h
 |some p=>
  obtain⟨g,b⟩:=p;rw[hg]at h;obtain⟨c,h1,h2⟩:=h;refine⟨c,?_,h2.imp (fun h3=>⟨h3.1,act h3.2⟩) id⟩;rw[hs g (by simp[VOper.slots,hg])];exact h1
theorem OU{o:VOper}{e:Eff}(hq:St.Eq σ σ')(h:fM P σ o e):fM P σ' o e:=
 EE hq.gl h (fun t _=>hq.env t) (fun i _=>hq.objs i) (fun _ _ _ hi=>(hq.ro _).1 hi)
theorem MH{o:VOper}{e:Eff}(h:fM P σ o e):e.dst=o.dst:=by
 unfold fM at h;split at h
 ·exact h.2.2
 ·obtain⟨c,_,h|h⟩:=h
  ·exact h.2.2.2
  ·rw[h.2]

theorem Rr{a b:VOper}{x y:Eff}(ha:fM P σ a x)(hb:fM P (σ.apply x.dst x.u) b y)(hap:Qd a b)(h1:CA x y)(h2:CA y x)
  (na:∀d,kH x d→fj d σ∧uG d y.u) (nb:∀d,kH y d→fj d σ∧uG d x.u) :
  fM P σ b y∧fM P (σ.apply y.dst y.u) a x∧St.Eq ((σ.apply x.dst x.u).apply y.dst y.u) ((σ.apply y.dst y.u).apply x.dst x.u):=by
 have da:=MH ha;have db:=MH hb;have ca:∀d,(∃o,x.u.new=some o)→x.dst=some d→fj d σ:=fun d h k=>(na d ⟨h,k⟩).1
 have cb:∀d,(∃o,y.u.new=some o)→y.dst=some d→fj d σ:=fun d h k=>(nb d ⟨h,k⟩).1
 have ca':∀d,(∃o,x.u.new=some o)→x.dst=some d→fj d (σ.apply y.dst y.u):=fun d h k=>(na d ⟨h,k⟩).1.apply (na d ⟨h,k⟩).2
 have cb':∀d,(∃o,y.u.new=some o)→y.dst=some d→fj d (σ.apply x.dst x.u):=fun d h k=>(nb d ⟨h,k⟩).1.apply (nb d ⟨h,k⟩).2
 refine⟨?_,?_,?_⟩
 ·refine EE (by simp only[uJ]) hb (fun t ht=>?_) (fun i hi=>?_) (fun id o _ hi=>(uI id).2 (.inr hi))
  ·rw[p9 ca,if_neg];intro e;rw[da]at e;exact(hap.1 t e).1 ht
  ·rw[mU ca];cases hw:rP x.dst x.u i with
   |none=>rfl
   |some o=>exact absurd hi (h1.1 i (by rw[hw];simp)).1
 ·refine EE (by simp only[uJ]) ha (fun t ht=>?_) (fun i hi=>?_) (fun id o hw hi=>?_)
  ·rw[p9 cb,if_neg];intro e;rw[db]at e;exact hap.2 t e ht
  ·rw[mU cb];cases hw:rP y.dst y.u i with
   |none=>rfl
   |some o=>exact absurd hi (h2.1 i (by rw[hw];simp)).1
  ·rcases(uI id).1 hi with h|h
   ·exact absurd h (h2.2 id o hw)
   ·exact h
 ·refine⟨fun k=>?_,fun k=>?_,fun i=>?_,by simp only[sH],by simp only[uJ]⟩
  ·rw[p9 ca',p9 cb,p9 cb',p9 ca];by_cases e1:x.dst=some k<;>by_cases e2:y.dst=some k
   ·exfalso;rw[da]at e1;rw[db]at e2;exact(hap.1 k e1).2 e2
   ·simp[e1,e2]
   ·simp[e1,e2]
   ·simp[e1,e2]
  ·rw[mU ca',mU cb,mU cb',mU ca];cases hx:rP x.dst x.u k with
   |none=>cases hy:rP y.dst y.u k<;>rfl
   |some o=>rw[(h1.1 k (by rw[hx];simp)).2]
  ·simp only[uI];constructor
   ·rintro(h|h|h)
    ·exact .inr (.inl h)
    ·exact .inl h
    ·exact .inr (.inr h)
   ·rintro(h|h|h)
    ·exact .inr (.inl h)
    ·exact .inl h
    ·exact .inr (.inr h)
end

structure Item1 where
 i:Nat
 o:VOper
 e:Eff

def BF(P:Program):List Item1→St→St→Prop
 |[],σ,σf=>St.Eq σ σf
 |p::r,σ,σf=>fM P σ p.o p.e∧BF P r (σ.apply p.e.dst p.e.u) σf

section
variable {P:Program}
theorem EF:∀ {l:List Item1} {σ σ' σf:St},St.Eq σ σ'→BF P l σ σf→BF P l σ' σf
 |[],_,_,_,hq,h=>⟨fun k=>(h.env k).trans (hq.env k).symm,fun k=>(h.objs k).trans (hq.objs k).symm,fun i=>(h.ro i).trans (hq.ro i).symm,h.n.trans hq.n.symm,h.gl.trans hq.gl.symm⟩
 |_::_,_,_,_,hq,h=>⟨OU hq h.1,EF (MG hq _ _) h.2⟩

structure Free(x p:Item1):Prop where
 apart:Qd p.o x.o
 one:CA p.e x.e
 two:CA x.e p.e

theorem Jh{x:Item1}{B:List Item1} : ∀ {A:List Item1} {σ σf:St},BF P (A++x::B) σ σf→(∀p∈A,Free x p)→
  (∀p∈A++x::B,∀d,kH p.e d→fj d σ)→(∀p∈A,∀d,kH p.e d→uG d x.e.u)→
  (A.Pairwise fun p q=>∀d,kH q.e d→uG d p.e.u)→(∀p∈A,∀q∈x::B,∀d,kH q.e d→uG d p.e.u)→
  BF P (x::(A++B)) σ σf
 |[],_,_,h,_,_,_,_,_=>h
 |p::A,σ,σf,h,hf,hg,h1,h2,h3=>by
  obtain⟨hp,hr⟩:=h;have h2':=List.pairwise_cons.1 h2
  have ih:=Jh (A:=A) hr (fun q hq=>hf q (List.mem_cons_of_mem _ hq)) (fun q hq d hc=>by
   refine(hg q (List.mem_cons_of_mem _ hq) d hc).apply ?_;rcases List.mem_append.1 hq with hq'|hq'
   ·exact h2'.1 q hq' d hc
   ·exact h3 p (by simp) q hq' d hc) (fun q hq=>h1 q (List.mem_cons_of_mem _ hq)) h2'.2 (fun q hq=>h3 q (List.mem_cons_of_mem _ hq))
  obtain⟨hx,hr'⟩:=ih;have hfp:=hf p (by simp)
  obtain⟨s1,s2,s3⟩:=Rr hp hx hfp.apart hfp.one hfp.two (fun d hc=>⟨hg p (by simp) d hc,h1 p (by simp) d hc⟩)
   (fun d hc=>⟨hg x (by simp) d hc,h3 p (by simp) x (by simp) d hc⟩)
  exact⟨s1,s2,EF s3 hr'⟩
end
end Go.Vs
set_option linter.unusedVariables false
set_option linter.unusedSimpArgs false
namespace Go.Vs

theorem Tx{P:Program}{σ:St}{dst:Option Nat}{op:VOp}{u:Upd}(hu:zB P σ dst u op):u.fz≠[]→op.acts=true:=by
 cases op
 case call=>exact fun _=>rfl
 case callV=>exact fun _=>rfl
 case store=>exact fun _=>rfl
 case subV=>exact fun _=>rfl
 case subA=>exact fun _=>rfl
 case buildSlice=>exact fun _=>rfl
 case append=>exact fun _=>rfl
 all_goals
  have hu:=hu.1;refine fun h=>?_
  exfalso;apply h;simp only[ev,pk,yv,R7,R8]at hu
  first
   |(obtain rfl:=O_ hu;rfl)
   |((repeat' split at hu)<;>first|(simp at hu;done)|(obtain rfl:=O_ hu;rfl))

def Eff.wids(e:Eff):List Nat:=match e.u.new,e.dst with
 |some _,some d=>[d]
 |_,_=>match e.u.wr with
  |some (i,_)=>[i]
  |none=>[]
def Eff.newId(e:Eff):Option Nat:=match e.u.new,e.dst with
 |some _,some d=>some d
 |_,_=>none
def Zs(a b:List Nat):Bool:=a.all fun i=>!b.contains i
def Kt(x y:Eff):Bool:=Zs x.wids y.ids&&Zs x.wids y.wids&&(match y.u.wr with
 |some (i,_)=>!x.u.fz.contains i
 |none=>true)
def Ku(d:Nat)(u:Upd):Bool:=u.v.noRef d&&(match u.wr with
 |some (_,o)=>o.noRef d
 |none=>true)&&(match u.new with
 |some o=>o.noRef d
 |none=>true)

theorem EG{e:Eff}{id:Nat}(h:rP e.dst e.u id≠none):id∈e.wids:=by
 unfold Eff.wids;rcases sG e.u e.dst with⟨o,d,hn,hd⟩|ho
 ·rw[hd,Jg hn]at h;rw[hn,hd];by_cases hi:id=d
  ·subst hi;simp
  ·rw[if_neg hi]at h;exact absurd rfl h
 ·rw[wE ho]at h
  have hw:id∈(match e.u.wr with|some (i,_)=>[i]|none=>([]:List Nat)):=by
   cases hw:e.u.wr with
   |none=>rw[hw]at h;exact absurd rfl h
   |some p=>
    obtain⟨i,x⟩:=p;rw[hw]at h;by_cases hi:id=i
    ·subst hi;simp
    ·simp[hi]at h
  split
  ·next h1 h2=>
   exfalso;rcases ho with ho|ho
   ·rw[ho]at h1;simp at h1
   ·rw[ho]at h2;simp at h2
  ·exact hw
theorem CB{x y:Eff}(h:Kt x y=true):CA x y:=by
 unfold Kt Zs at h;simp only[Bool.and_eq_true,List.all_eq_true]at h;obtain⟨⟨h1,h2⟩,h3⟩:=h;refine⟨fun id hw=>?_,fun id o hw hi=>?_⟩
 ·have hm:=EG hw;refine⟨by simpa using h1 id hm,?_⟩;cases hy:rP y.dst y.u id with
  |none=>rfl
  |some o=>exact absurd (EG (e:=y) (id:=id) (by rw[hy];simp)) (by simpa using h2 id hm)
 ·rw[hw]at h3;simp only[Bool.not_eq_true',List.contains_iff_mem,Bool.eq_false_iff,ne_eq]at h3;exact h3 hi
theorem Kv{d:Nat}{u:Upd}(h:Ku d u=true):uG d u:=by
 unfold Ku at h;simp only[Bool.and_eq_true]at h;obtain⟨⟨h1,h2⟩,h3⟩:=h;refine⟨h1,fun i o ho=>?_,fun o ho=>?_⟩
 ·rw[ho]at h2;exact h2
 ·rw[ho]at h3;exact h3

def mV(P:Program)(K:List Eff→St→Prop):List VOper→St→List Eff→Prop
 |[],σ,es=>K es σ
 |o::r,σ,es=>match o.guard with
  |none=>dq P σ o.dst (fun u=>mV P K r (σ.apply o.dst u) (es++[⟨eK σ o.op u,o.dst,u⟩])) o.op
  |some (g,b)=>match jl (aC σ.env g)with
   |some c=>(c=some b→dq P σ o.dst (fun u=>mV P K r (σ.apply o.dst u) (es++[⟨eK σ o.op u,o.dst,u⟩])) o.op)∧
     (¬c=some b→mV P K r (σ.apply o.dst gR) (es++[⟨[],o.dst,gR⟩]))
   |none=>False

def kd(P:Program):List VOper→St→List Eff→St→Prop
 |[],σ,es,σf=>es=[]∧σf=σ
 |o::r,σ,es,σf=>∃e es',es=e::es'∧fM P σ o e∧kd P r (σ.apply e.dst e.u) es' σf

theorem yD{P:Program}{K:List Eff→St→Prop} : ∀ {l:List VOper} {σ:St} {es:List Eff},mV P K l σ es→∃es' σf,kd P l σ es' σf∧K (es++es') σf
 |[],σ,es,h=>⟨[],σ,⟨rfl,rfl⟩,by rw[List.append_nil];exact h⟩
 |o::r,σ,es,h=>by
  simp only[mV]at h
  have act:dq P σ o.dst (fun u=>mV P K r (σ.apply o.dst u) (es++[⟨eK σ o.op u,o.dst,u⟩])) o.op→
    ∃e es' σf,Hr P σ o e∧kd P r (σ.apply e.dst e.u) es' σf∧K (es++e::es') σf:=by
   intro h1;obtain⟨u,hu,hr⟩:=DS h1;obtain⟨es',σf,h2,h3⟩:=yD hr;exact⟨⟨eK σ o.op u,o.dst,u⟩,es',σf,⟨hu,rfl,rfl⟩,h2,by simpa using h3⟩
  split at h
  ·next hg=>
   obtain⟨e,es',σf,h1,h2,h3⟩:=act h;exact⟨e::es',σf,⟨e,es',rfl,by unfold fM;rw[hg];exact h1,h2⟩,h3⟩
  ·next g b hg=>
   split at h
   ·next c hc=>
    by_cases hcb:c=some b
    ·obtain⟨e,es',σf,h1,h2,h3⟩:=act (h.1 hcb);exact⟨e::es',σf,⟨e,es',rfl,by unfold fM;rw[hg];exact⟨c,hc,.inl ⟨hcb,h1⟩⟩,h2⟩,h3⟩
    ·obtain⟨es',σf,h2,h3⟩:=yD (h.2 hcb);exact⟨⟨[],o.dst,gR⟩::es',σf,⟨_,es',rfl,by unfold fM;rw[hg];exact⟨c,hc,.inr ⟨hcb,rfl⟩⟩,h2⟩,by simpa using h3⟩
   ·exact h.elim

def uK(σ:St)(gp makes:List (Nat×Nat))(es:List Eff):Bool:=
 gp.all (fun p=>match es[p.1]?,es[p.2]? with
  |some x,some y=>Kt x y&&Kt y x
  |_,_=>false) &&
 makes.all (fun p=>match es[p.1]?,es[p.2]? with
  |some x,some y=>match y.newId with
   |some d=>Ku d x.u
   |none=>true
  |_,_=>false) &&
 es.all (fun e=>match e.newId with
  |some d=>Bv d σ.env&&Bw d σ.objs
  |none=>true)

section
variable {P:Program}

def jf:Nat→List VOper→List Eff→List Item1
 |_,[],_=>[]
 |_,_::_,[]=>[]
 |i,o::r,e::es=>⟨i,o,e⟩::jf (i+1) r es
theorem gS:∀ {l:List VOper} {σ σf:St} {es:List Eff} (i:Nat),kd P l σ es σf→BF P (jf i l es) σ σf∧(jf i l es).map (·.i)=List.range' i l.length∧es.length=l.length
 |[],σ,σf,es,i,⟨h1,h2⟩=>by subst h1;subst h2;exact⟨St.Eq.refl _,rfl,rfl⟩
 |o::r,σ,σf,es,i,⟨e,es',h1,h2,h3⟩=>by
  subst h1;obtain⟨k1,k2,k3⟩:=gS (i+1) h3;exact⟨⟨h2,k1⟩,by simp[jf,k2,List.range'_succ],by simp[k3]⟩
theorem BG:∀ {l:List VOper} {es:List Eff} {i:Nat} {p:Item1},es.length=l.length→p∈jf i l es→i≤p.i∧l[p.i-i]?=some p.o∧es[p.i-i]?=some p.e
 |[],_,_,_,_,h=>by simp[jf]at h
 |_::_,[],_,_,hl,_=>by simp at hl
 |o::r,e::es,i,p,hl,h=>by
  simp only[jf,List.mem_cons]at h;rcases h with rfl|h
  ·simp
  ·obtain⟨h1,h2,h3⟩:=BG (by simpa using hl) h;refine⟨by omega,?_,?_⟩
   ·rw[show p.i-i=(p.i-(i+1))+1 by omega];simpa using h2
   ·rw[show p.i-i=(p.i-(i+1))+1 by omega];simpa using h3

theorem EH(acc:Array Nat):∀(es:List Edge) (s:Nat) (b:Nat),(es.foldl (fun s e=>if Region.binds .any e then s ||| 2 ^ e.on ||| acc.getD e.on 0 else s) s).testBit b=true→
  s.testBit b=true∨∃e∈es,Region.binds .any e=true∧(b=e.on∨(acc.getD e.on 0).testBit b=true)
 |[],s,b,h=>.inl h
 |e::es,s,b,h=>by
  simp only[List.foldl_cons]at h;rcases EH acc es _ b h with h|⟨e',he',h1,h2⟩
  ·split at h
   ·next hb=>
    simp only[Nat.testBit_or,Bool.or_eq_true,Nat.testBit_two_pow,decide_eq_true_eq]at h;rcases h with(h|h)|h
    ·exact .inl h
    ·exact .inr ⟨e,by simp,hb,.inl h.symm⟩
    ·exact .inr ⟨e,by simp,hb,.inr h⟩
   ·exact .inl h
  ·exact .inr ⟨e',List.mem_cons_of_mem _ he',h1,h2⟩

theorem CC:∀(l:List Oper) (acc:Array Nat),
  (l.foldl (fun acc o=>acc.push (o.after.foldl (fun s e=>if Region.binds .any e then s ||| 2 ^ e.on ||| acc.getD e.on 0 else s) 0)) acc).size=acc.size+l.length∧
  (∀j,j<acc.size→(l.foldl (fun acc o=>acc.push (o.after.foldl (fun s e=>if Region.binds .any e then s ||| 2 ^ e.on ||| acc.getD e.on 0 else s) 0)) acc).getD j 0=acc.getD j 0)∧
  ∀j o,l[j]?=some o→∀b,((l.foldl (fun acc o=>acc.push (o.after.foldl (fun s e=>if Region.binds .any e then s ||| 2 ^ e.on ||| acc.getD e.on 0 else s) 0)) acc).getD (acc.size+j) 0).testBit b=true→
   ∃e∈o.after.toList,Region.binds .any e=true∧(b=e.on∨((l.foldl (fun acc o=>acc.push (o.after.foldl (fun s e=>if Region.binds .any e then s ||| 2 ^ e.on ||| acc.getD e.on 0 else s) 0)) acc).getD e.on 0).testBit b=true)
 |[],acc=>by simp
 |o::l,acc=>by
  simp only[List.foldl_cons];generalize hv:(o.after.foldl (fun s e=>if Region.binds .any e then s ||| 2 ^ e.on ||| acc.getD e.on 0 else s) 0)=v;obtain⟨h1,h2,h3⟩:=CC l (acc.push v);refine⟨by rw[h1];simp;omega,fun j hj=>?_,fun j p hp b hb=>?_⟩
  ·rw[h2 j (by simp;omega)];simp[Array.getD,hj,Nat.lt_succ_of_lt hj,Array.getElem_push_lt hj]
  ·cases j with
   |zero=>
    simp only[List.getElem?_cons_zero,E_]at hp;subst hp;rw[Nat.add_zero,h2 acc.size (by simp)]at hb;have hv':(acc.push v).getD acc.size 0=v:=by simp[Array.getD]
    rw[hv',←hv,←Array.foldl_toList]at hb;rcases EH acc _ _ _ hb with h|⟨e,he,hbd,h⟩
    ·simp at h
    ·refine⟨e,he,hbd,h.imp id (fun h=>?_)⟩
     have hlt:e.on<acc.size:=by
      rcases Nat.lt_or_ge e.on acc.size with hh|hh
      ·exact hh
      ·rw[Array.getD,dif_neg (by omega)]at h;simp at h
     rw[h2 e.on (by simp;omega)];have:(acc.push v).getD e.on 0=acc.getD e.on 0:=by simp[Array.getD,hlt,Nat.lt_succ_of_lt hlt,Array.getElem_push_lt hlt]
     rw[this];exact h
   |succ j=>
    have:=h3 j p (by simpa using hp) b (by
     rw[Array.size_push,show acc.size+1+j=acc.size+(j+1) by omega];exact hb)
    exact this

theorem CD{ops:Array Oper}{j:Nat}{o:Oper}(ho:ops[j]?=some o){b:Nat}(hb:((Region.before ops).getD j 0).testBit b=true) :
  ∃e∈o.after.toList,Region.binds .any e=true∧(b=e.on∨((Region.before ops).getD e.on 0).testBit b=true):=by
 have:=(CC ops.toList #[]).2.2 j o (by simpa using ho) b;unfold Region.before at hb ⊢;rw[←Array.foldl_toList]at hb ⊢;simp only[Array.size_empty,Nat.zero_add]at this;exact this hb

theorem xb{ops:Array Oper}{listed:Array Bool}(hup:∀j o,ops[j]?=some o→∀e∈o.after.toList,Region.binds .any e=true→e.on<j)
  (hcl:∀j o,ops[j]?=some o→listed.getD j false=true→∀e∈o.after.toList,Region.binds .any e=true→listed.getD e.on false=true) :
  ∀(n j:Nat) (o:Oper),j<n→ops[j]?=some o→(∀e∈o.after.toList,Region.binds .any e=true→listed.getD e.on false=true)→∀b,((Region.before ops).getD j 0).testBit b=true→listed.getD b false=true:=by
 intro n
 induction n with
 |zero=>intro j o h;omega
 |succ n ih=>
  intro j o hj ho hl b hb;obtain⟨e,he,hbd,h⟩:=CD ho hb;have h1:=hl e he hbd;rcases h with rfl|h
  ·exact h1
  ·have hlt:=hup j o ho e he hbd;cases hoe:ops[e.on]? with
   |none=>
    exfalso
    have:ops.size≤e.on:=by
     rcases Nat.lt_or_ge e.on ops.size with hh|hh
     ·simp[hh]at hoe
     ·exact hh
    have hjs:j<ops.size:=by
     rcases Nat.lt_or_ge j ops.size with hh|hh
     ·exact hh
     ·simp[Array.getElem?_eq_none hh]at ho
    omega
   |some o'=>exact ih e.on o' (by omega) hoe (fun e' he' hb'=>hcl e.on o' hoe h1 e' he' hb') b h
end
end Go.Vs
set_option linter.unusedVariables false
set_option linter.unusedSimpArgs false
namespace Go.Vs

section
variable {P:Program} {w0:World} {S0:aK} {M:Ctx}

theorem cS.congr{σ σ':St}{a:Act}{w:World}(hq:St.Eq σ σ')(h:cS w0 S0 M σ a w):cS w0 S0 M σ' a w:=by
 obtain⟨S,μ,β,h⟩:=h;exact⟨S,μ,β,h.drop hq.n hq.gl (fun i _ _ hi=>(hq.ro i).2 hi) (fun k=>.inr (hq.env k)) (fun id o ho=>by rw[←hq.objs];exact ho)⟩

theorem dn{ops:Array Oper} : ∀ {l:List Oper} {vs:List VOper},ch P ops l=some vs→vs.length=l.length∧∀(i:Nat) (o:Oper),l[i]?=some o→∃v,vs[i]?=some v∧iL P ops o=some v
 |[],vs,h=>by
  simp only[ch,E_]at h;subst h;exact⟨rfl,by simp⟩
 |o::r,vs,h=>by
  simp only[ch]at h;split at h
  ·next v vs' h1 h2=>
   obtain rfl:=O_ h;obtain⟨k1,k2⟩:=dn h2;refine⟨by simp[k1],fun i o' ho=>?_⟩;cases i with
   |zero=>simp at ho;subst ho;exact⟨v,rfl,h1⟩
   |succ i=>simpa using k2 i o' (by simpa using ho)
  ·simp at h

theorem fm{ops:Array Oper}{o:Oper}{v:VOper}(h:iL P ops o=some v):v.dst=o.dst∧mJ P o.op=some v.op∧gN ops o.guard=some v.guard:=by
 unfold iL at h;split at h
 ·next x g h1 h2=>
  obtain rfl:=O_ h;exact⟨rfl,h1,h2⟩
 ·simp at h

theorem sI{ops:Array Oper}{j d:Nat}(hd:(ops[j]?).bind (·.dst)=some d){σ:St}{a:Act}{w:World}(h:cS w0 S0 M σ a w){c:Option Bool}(hc:jl (aC σ.env d)=some c):yielded ops a.tmps j=c:=by
 obtain⟨S,μ,β,h'⟩:=h;have hrel:=h'.env d;unfold jl at hc;split at hc
 ·next c' he=>
  rw[he]at hrel;obtain rfl:=O_ hc;have hrel:a.tmps.getD d Go.undef=.bool c':=hrel
  have ht:a.tmps[d]?=some (.bool c'):=by
   rcases Nat.lt_or_ge d a.tmps.size with hh|hh
   ·simp[hh]at hrel ⊢;exact hrel
   ·rw[Array.getD,dif_neg (by omega)]at hrel;simp[Go.undef]at hrel
  unfold yielded;rw[hd,Option.bind_some,ht]
 ·next he=>
  rw[he]at hrel;obtain rfl:=O_ hc;have hrel:∃vs,a.tmps.getD d Go.undef=.tuple vs∧bp w S [] vs.toList:=hrel;obtain⟨vs,hrel,_⟩:=hrel;unfold yielded;rw[hd,Option.bind_some];rcases Nat.lt_or_ge d a.tmps.size with hh|hh
  ·have ht:a.tmps[d]?=some (.tuple vs):=by simp[hh]at hrel ⊢;exact hrel
   rw[ht]
  ·rw[Array.getElem?_eq_none hh]
 ·simp at hc

theorem OV{ops:Array Oper}{i:Nat}{o:Oper}{v:VOper}(ho:ops[i]?=some o)(hv:iL P ops o=some v){σ:St}{a:Act}{w:World}(h:cS w0 S0 M σ a w)(hd:∀d,v.dst=some d→d<σ.n){e:Eff}(hs:fM P σ v e)
  {Q:Exit→Act→World→Prop} {K:Act→World→Prop} (hK:∀a' w',cS w0 S0 M (σ.apply e.dst e.u) a' w'→K a' w'):wpOp P ops Q i K a w:=by
 obtain⟨hdst,hop,hg⟩:=fm hv
 have run:Hr P σ v e→o.wp P a w K Q:=by
  rintro⟨h1,h2,h3⟩;refine ME h (fun d hd'=>hd d (by rw[hdst];exact hd')) hop (u:=e.u) (by rw[←hdst];exact h1) (fun val w' hs'=>hK _ _ ?_);rw[h3,hdst];exact hs'
 unfold wpOp;rw[ho];dsimp only;cases hgo:o.guard with
 |none=>
  have:v.guard=none:=by rw[hgo]at hg;simpa[gN]using hg.symm
  unfold fM at hs;rw[this]at hs;have hw:Region.wanted o (yielded ops a.tmps)=true:=by simp[Region.wanted,hgo]
  rw[if_pos hw];exact .inl (run hs)
 |some p=>
  obtain⟨j,b⟩:=p;rw[hgo]at hg;simp only[gN]at hg;split at hg
  ·next d hd'=>
   have hvg:v.guard=some (d,b):=by simpa using hg.symm
   unfold fM at hs;rw[hvg]at hs;obtain⟨c,hc,hcase⟩:=hs;have hy:yielded ops a.tmps j=c:=sI hd' h hc;have hw:Region.wanted o (yielded ops a.tmps)=(c==some b):=by simp[Region.wanted,hgo,hy]
   rw[hw];rcases hcase with⟨hcb,hact⟩|⟨hcb,he⟩
   ·rw[if_pos (by simpa using hcb)];exact .inl (run hact)
   ·rw[if_neg (by simpa using hcb)];subst he;refine hK _ _ ?_;obtain⟨S,μ,β,h'⟩:=h;rw[←hdst];exact⟨S,μ,β,h'.putD (sv:=.val (.tuple [])) hd ⟨#[],rfl,rfl⟩⟩
  ·simp at hg

def ug:Opd→Option Nat
 |.tmp t=>some t
 |_=>none
def uh:Operand→Option Nat
 |.tmp t=>some t
 |_=>none
theorem pt{x:Operand}{y:Opd}(h:ai x=some y):uh x=ug y:=by
 cases x with
 |tmp t=>simp only[ai,E_]at h;subst h;rfl
 |const v=>simp only[ai,Option.map_eq_some_iff]at h;obtain⟨s,_,rfl⟩:=h;rfl
 |global g=>simp only[ai,E_]at h;subst h;rfl
 |func f=>simp only[ai,E_]at h;subst h;rfl
theorem zF:∀ {xs:List Operand} {ys:List Opd},dm xs=some ys→∀y∈ys,∃x∈xs,uh x=ug y
 |[],ys,h=>by simp only[dm,E_]at h;subst h;simp
 |x::r,ys,h=>by
  simp only[dm]at h;split at h
  ·next u us h1 h2=>
   obtain rfl:=O_ h;intro y hy;rcases List.mem_cons.1 hy with rfl|hy
   ·exact⟨x,by simp,pt h1⟩
   ·obtain⟨z,hz,he⟩:=zF h2 y hy;exact⟨z,List.mem_cons_of_mem _ hz,he⟩
  ·simp at h
theorem OW{x:Option Operand}{y:Option Opd}(h:bV x=some y):∀z∈y.toList,∃u∈x.toList,uh u=ug z:=by
 cases x with
 |none=>simp only[bV,E_]at h;subst h;simp
 |some x=>
  simp only[bV,Option.map_eq_some_iff]at h;obtain⟨z,h1,rfl⟩:=h;intro u hu;simp only[Option.toList_some,List.mem_singleton]at hu;subst hu;exact⟨x,by simp,pt h1⟩
theorem EI{place:Nat→Option (Nat×Nat)} : ∀ {xs:List (Nat×Operand)} {ys:List (Nat×Nat×Opd)},fd place xs=some ys→∀y∈ys.map (·.2.2),∃x∈xs.map (·.2),uh x=ug y
 |[],ys,h=>by simp only[fd,E_]at h;subst h;simp
 |(i,x)::r,ys,h=>by
  simp only[fd]at h;split at h
  ·next o s u us _ h1 h2=>
   obtain rfl:=O_ h;intro y hy;simp only[List.map_cons,List.mem_cons]at hy;rcases hy with rfl|hy
   ·exact⟨x,by simp,pt h1⟩
   ·obtain⟨z,hz,he⟩:=EI h2 y hy;exact⟨z,by simp only[List.map_cons];exact List.mem_cons_of_mem _ hz,he⟩
  ·simp at h

theorem ey{x:Operand}{x':Opd}(h:ai x=some x'){l:List Operand}(hx:x∈l):∀y∈[x'],∃z∈l,uh z=ug y:=by
 intro y hy;simp only[List.mem_singleton]at hy;subst hy;exact⟨x,hx,pt h⟩
theorem kI{x z:Operand}{x' z':Opd}(h:ai x=some x')(k:ai z=some z'){l:List Operand}(hx:x∈l)(hz:z∈l):∀y∈[x',z'],∃z∈l,uh z=ug y:=by
 intro y hy;simp only[List.mem_cons,List.not_mem_nil,or_false]at hy;rcases hy with rfl|rfl
 ·exact⟨x,hx,pt h⟩
 ·exact⟨z,hz,pt k⟩

theorem Hs{c:Call}{vo:VOp}(h:lG P c=some vo):∀y∈vo.opds,∃x∈c.operands.toList,uh x=ug y:=by
 have hin:∀x,x∈c.args.toList→x∈c.operands.toList:=by
  intro x hx;simp only[Call.operands,Array.toList_append,List.mem_append];exact .inr hx
 unfold lG at h;split at h
 ·split at h
  ·split at h
   ·simp at h
   ·simp only[Option.map_eq_some_iff]at h;obtain⟨ys,hy,rfl⟩:=h;intro y hyy;obtain⟨x,hx,he⟩:=zF hy y hyy;exact⟨x,hin x hx,he⟩
  ·simp at h
 ·next f _ hf=>
  split at h
  ·next u vs hu hv=>
   obtain rfl:=O_ h;intro y hy;simp only[VOp.opds,List.mem_cons]at hy;rcases hy with rfl|hy
   ·exact⟨f,by simp[Call.operands,hf],pt hu⟩
   ·obtain⟨x,hx,he⟩:=zF hv y hy;exact⟨x,hin x hx,he⟩
  ·simp at h
 ·split at h
  ·next t x _ hal=>
   have hx0:=hin x (by rw[hal];simp)
   split at h<;>first
    |(simp at h;done)
    |(next hx=>obtain rfl:=O_ h;exact ey hx hx0)
  ·simp at h
 ·split at h
  ·next t x _ hal=>
   have hx0:=hin x (by rw[hal];simp)
   split at h<;>first
    |(simp at h;done)
    |(next hx=>obtain rfl:=O_ h;exact ey hx hx0)
  ·simp at h
 ·split at h
  ·next x y hal=>
   split at h
   ·next x' y' hx hy=>
    obtain rfl:=O_ h;exact kI hx hy (hin x (by rw[hal];simp)) (hin y (by rw[hal];simp))
   ·simp at h
  ·simp at h
 ·split at h
  ·next x y hal=>
   split at h
   ·next x' y' hx hy=>
    obtain rfl:=O_ h;exact kI hx hy (hin x (by rw[hal];simp)) (hin y (by rw[hal];simp))
   ·simp at h
  ·simp at h
 ·split at h
  ·next t t' x y _ _ hal=>
   split at h
   ·next e e' x' y' _ _ hx hy=>
    split at h
    ·split at h
     ·obtain rfl:=O_ h;exact kI hx hy (hin x (by rw[hal];simp)) (hin y (by rw[hal];simp))
     ·simp at h
    ·simp at h
   ·next e x' y' _ _ hx hy=>
    split at h
    ·split at h
     ·obtain rfl:=O_ h;exact kI hx hy (hin x (by rw[hal];simp)) (hin y (by rw[hal];simp))
     ·simp at h
    ·simp at h
   ·simp at h
  ·simp at h
 ·split at h
  ·next t x _ hal=>
   split at h
   ·next e x' _ hx=>
    simp only[Option.map_eq_some_iff]at h;obtain⟨_,_,rfl⟩:=h;exact ey hx (hin x (by rw[hal];simp))
   ·simp at h
  ·simp at h
 ·split at h
  ·next t t' x y _ _ hal=>
   split at h
   ·next e e' x' y' _ _ hx hy=>
    simp only[Option.map_eq_some_iff]at h;obtain⟨_,_,rfl⟩:=h;exact kI hx hy (hin x (by rw[hal];simp)) (hin y (by rw[hal];simp))
   ·simp at h
  ·simp at h
 ·simp at h

theorem Kw{op:Op}{vo:VOp}(hc:aV P op=some vo):∀y∈vo.opds,∃x∈op.operands.toList,uh x=ug y:=by
 cases op with
 |move x=>simp only[aV,Option.map_eq_some_iff]at hc;obtain⟨y,hy,rfl⟩:=hc;exact ey hy (by simp[Op.operands])
 |assign x=>simp only[aV,Option.map_eq_some_iff]at hc;obtain⟨y,hy,rfl⟩:=hc;exact ey hy (by simp[Op.operands])
 |pick c x y=>
  simp only[aV]at hc;split at hc
  ·next c' x' y' h1 h2 h3=>
   obtain rfl:=O_ hc;intro z hz;simp only[VOp.opds,List.mem_cons,List.not_mem_nil,or_false]at hz;rcases hz with rfl|rfl|rfl
   ·exact⟨c,by simp[Op.operands],pt h1⟩
   ·exact⟨x,by simp[Op.operands],pt h2⟩
   ·exact⟨y,by simp[Op.operands],pt h3⟩
  ·simp at hc
 |alloc t=>
  simp only[aV]at hc;split at hc
  ·obtain rfl:=O_ hc;simp[VOp.opds]
  ·simp only[Option.map_eq_some_iff]at hc;obtain⟨z,hz,rfl⟩:=hc;simp[VOp.opds]
 |box t x=>simp only[aV,Option.map_eq_some_iff]at hc;obtain⟨y,hy,rfl⟩:=hc;exact ey hy (by simp[Op.operands])
 |build t parts=>
  have fin:∀ {place:Nat→Option (Nat×Nat)} {p:List (Nat×Nat×Opd)} {z:List SV},fd place parts.toList=some p→∀y∈(VOp.build z p).opds,∃x∈(Op.build t parts).operands.toList,uh x=ug y:=by
   intro place p z hp y hy;obtain⟨x,hx,he⟩:=EI hp y hy;exact⟨x,by simp only[Op.operands];exact hx,he⟩
  simp only[aV]at hc;split at hc
  ·split at hc
   ·simp only[Option.map_eq_some_iff]at hc;obtain⟨p,hp,rfl⟩:=hc;exact fin hp
   ·simp at hc
  ·split at hc
   ·simp only[Option.map_eq_some_iff]at hc;obtain⟨p,hp,rfl⟩:=hc;exact fin hp
   ·simp at hc
  ·simp at hc
 |buildSlice t n parts=>
  simp only[aV]at hc;split at hc
  ·split at hc
   ·split at hc
    ·simp only[Option.map_eq_some_iff]at hc;obtain⟨p,hp,rfl⟩:=hc;intro y hy;obtain⟨x,hx,he⟩:=EI hp y hy;exact⟨x,by simp only[Op.operands];exact hx,he⟩
    ·simp at hc
   ·simp at hc
  ·simp at hc
 |load t x=>
  simp only[aV]at hc;split at hc
  ·next g x' hg hx=>obtain rfl:=O_ hc;exact ey hx (by simp[Op.operands])
  ·simp at hc
 |store t x y=>
  simp only[aV]at hc;split at hc
  ·next n x' y' hn hx hy=>obtain rfl:=O_ hc;exact kI hx hy (by simp[Op.operands]) (by simp[Op.operands])
  ·simp at hc
 |nilCheck x=>simp only[aV,Option.map_eq_some_iff]at hc;obtain⟨y,hy,rfl⟩:=hc;exact ey hy (by simp[Op.operands])
 |binOp op t x y t'=>
  simp only[aV,zl]at hc;split at hc
  ·next x' y' hx hy=>
   have two:∀z∈[x',y'],∃u∈(Op.binOp op t x y t').operands.toList,uh u=ug z:=kI hx hy (by simp[Op.operands]) (by simp[Op.operands]);have one:∀z∈[x'],∃u∈(Op.binOp op t x y t').operands.toList,uh u=ug z:=ey hx (by simp[Op.operands])
   have eqc:∀ {neg o},yu P neg o t y x' y'=some vo→∀z∈vo.opds,∃u∈(Op.binOp op t x y t').operands.toList,uh u=ug z:=by
    intro neg o hc;unfold yu at hc;split at hc
    ·obtain rfl:=O_ hc;exact two
    ·obtain rfl:=O_ hc;exact two
    ·obtain rfl:=O_ hc;exact two
    ·split at hc
     ·obtain rfl:=O_ hc;exact one
     ·simp at hc
    ·split at hc
     ·obtain rfl:=O_ hc;exact one
     ·split at hc
      ·obtain rfl:=O_ hc;exact two
      ·simp at hc
    ·split at hc
     ·obtain rfl:=O_ hc;exact one
     ·simp at hc
    ·split at hc
     ·simp at hc
     ·simp only[Option.map_eq_some_iff]at hc;obtain⟨ks,_,rfl⟩:=hc;exact two
    ·simp at hc
   split at hc
   ·exact eqc hc
   ·exact eqc hc
   ·obtain rfl:=O_ hc;exact two
  ·simp at hc
 |unOp op t x=>simp only[aV,Option.map_eq_some_iff]at hc;obtain⟨y,hy,rfl⟩:=hc;exact ey hy (by simp[Op.operands])
 |convert s t x=>
  simp only[aV]at hc;split at hc
  ·next hx=>obtain rfl:=O_ hc;exact ey hx (by simp[Op.operands])
  ·next hx=>obtain rfl:=O_ hc;exact ey hx (by simp[Op.operands])
  ·next hx=>obtain rfl:=O_ hc;exact ey hx (by simp[Op.operands])
  ·next hx=>
   split at hc
   ·obtain rfl:=O_ hc;exact ey hx (by simp[Op.operands])
   ·simp at hc
  ·simp at hc
 |makeInterface t x=>
  simp only[aV]at hc;split at hc
  ·simp at hc
  ·simp only[Option.map_eq_some_iff]at hc;obtain⟨y,hy,rfl⟩:=hc;exact ey hy (by simp[Op.operands])
  ·simp at hc
 |makeFunc fn first caps=>
  simp only[aV,Kl]at hc;split at hc
  ·split at hc
   ·simp only[Option.map_eq_some_iff]at hc;obtain⟨ys,hy,rfl⟩:=hc;intro y hyy;obtain⟨x,hx,he⟩:=zF hy y hyy;exact⟨x,by simp only[Op.operands,Array.toList_append,List.mem_append];exact .inr hx,he⟩
   ·split at hc
    ·simp only[Option.map_eq_some_iff]at hc;obtain⟨ys,hy,rfl⟩:=hc;intro y hyy;obtain⟨x,hx,he⟩:=zF hy y hyy;exact⟨x,by simp only[Op.operands,Array.toList_append,List.mem_append];exact .inl hx,he⟩
    ·simp at hc
  ·simp at hc
 |makeSlice t l c=>
  simp only[aV]at hc;split at hc
  ·split at hc
   ·next hx hy=>
    split at hc
    ·obtain rfl:=O_ hc;exact kI hx hy (by simp[Op.operands]) (by simp[Op.operands])
    ·simp at hc
   ·simp at hc
  ·simp at hc
 |slice t x lo hi mx=>
  have fin:∀ {x' DI nv} {l:List Opd},ai x=some x'→bV lo=some DI→bV hi=some nv→(∀z∈l,∃u∈mx.toList,uh u=ug z)→∀z∈x'::(DI.toList++nv.toList++l),∃u∈(Op.slice t x lo hi mx).operands.toList,uh u=ug z:=by
   intro x' DI nv l hx hl hh hm z hz;simp only[List.mem_cons,List.mem_append]at hz;rcases hz with rfl|(hz|hz)|hz
   ·exact⟨x,by simp[Op.operands],pt hx⟩
   ·obtain⟨u,hu,he⟩:=OW hl z hz;exact⟨u,by simp[Op.operands]at hu ⊢;simp[hu],he⟩
   ·obtain⟨u,hu,he⟩:=OW hh z hz;exact⟨u,by simp[Op.operands]at hu ⊢;simp[hu],he⟩
   ·obtain⟨u,hu,he⟩:=hm z hz;exact⟨u,by simp[Op.operands]at hu ⊢;simp[hu],he⟩
  simp only[aV]at hc;split at hc
  ·next x' l' h' ht hx hl hh hm=>
   obtain rfl:=O_ hc;have:=fin (l:=[]) hx hl hh (by simp);simpa[VOp.opds]using this
  ·next e x' l' h' m' ht hx hl hh hm=>
   simp only[Option.map_eq_some_iff]at hc;obtain⟨s,_,rfl⟩:=hc;exact fin hx hl hh (OW hm)
  ·next n e x' l' h' ht hx hl hh hm=>
   simp only[Option.map_eq_some_iff]at hc;obtain⟨s,_,rfl⟩:=hc;have:=fin (l:=[]) hx hl hh (by simp);simpa[VOp.opds]using this
  ·simp at hc
 |fieldAddr t x f=>
  simp only[aV]at hc;split at hc
  ·split at hc
   ·next hx=>
    split at hc
    ·split at hc
     ·simp at hc
     ·obtain rfl:=O_ hc;exact ey hx (by simp[Op.operands])
    ·simp at hc
   ·simp at hc
  ·simp at hc
 |field t x f=>
  simp only[aV]at hc;split at hc
  ·split at hc
   ·next hx=>
    simp only[Option.map_eq_some_iff]at hc;obtain⟨g,_,rfl⟩:=hc;exact ey hx (by simp[Op.operands])
   ·simp at hc
  ·simp at hc
 |indexAddr t x i=>
  simp only[aV]at hc;split at hc
  ·split at hc
   ·next hx hi=>obtain rfl:=O_ hc;exact kI hx hi (by simp[Op.operands]) (by simp[Op.operands])
   ·simp at hc
  ·split at hc
   ·next hx hi=>obtain rfl:=O_ hc;exact kI hx hi (by simp[Op.operands]) (by simp[Op.operands])
   ·simp at hc
  ·simp at hc
 |index t x i=>
  simp only[aV]at hc;split at hc
  ·split at hc
   ·next hx hi=>obtain rfl:=O_ hc;exact kI hx hi (by simp[Op.operands]) (by simp[Op.operands])
   ·simp at hc
  ·split at hc
   ·next hx hi=>obtain rfl:=O_ hc;exact kI hx hi (by simp[Op.operands]) (by simp[Op.operands])
   ·simp at hc
  ·simp at hc
 |extract x i=>simp only[aV,Option.map_eq_some_iff]at hc;obtain⟨y,hy,rfl⟩:=hc;exact ey hy (by simp[Op.operands])
 |call c=>exact Hs hc
 |range t x=>
  simp only[aV]at hc;split at hc
  ·next hx=>obtain rfl:=O_ hc;exact ey hx (by simp[Op.operands])
  ·simp at hc
 |next x b=>
  cases b with
  |false=>simp[aV]at hc
  |true=>simp only[aV,Option.map_eq_some_iff]at hc;obtain⟨y,hy,rfl⟩:=hc;exact ey hy (by simp[Op.operands])
 |_=>simp[aV]at hc

theorem MI{op:Op}{vo:VOp}(hc:mJ P op=some vo):∀y∈vo.opds,∃x∈op.operands.toList,uh x=ug y:=by
 rcases sB hc with hc|rfl
 ·exact Kw hc
 ·simp[VOp.opds]

theorem MJ{l:List Opd}{t:Nat} : t∈(l.filterMap fun|.tmp t=>some t|_=>none)↔∃y∈l,ug y=some t:=by
 simp only[List.mem_filterMap];constructor
 ·rintro⟨y,hy,h⟩;exact⟨y,hy,by cases y<;>simp_all [ug]⟩
 ·rintro⟨y,hy,h⟩;exact⟨y,hy,by cases y<;>simp_all [ug]⟩
theorem MK{l:List Operand}{t:Nat} : t∈(l.filterMap fun|.tmp t=>some t|_=>none)↔∃y∈l,uh y=some t:=by
 simp only[List.mem_filterMap];constructor
 ·rintro⟨y,hy,h⟩;exact⟨y,hy,by cases y<;>simp_all [uh]⟩
 ·rintro⟨y,hy,h⟩;exact⟨y,hy,by cases y<;>simp_all [uh]⟩

theorem Ty{ops:Array Oper}{o:Oper}{v:VOper}(h:iL P ops o=some v):∀t,t∈v.slots→t∈o.looksAt ops:=by
 obtain⟨_,hop,hg⟩:=fm h;intro t ht;unfold VOper.slots at ht;unfold Oper.looksAt;rw[List.mem_append]at ht ⊢;rcases ht with ht|ht
 ·left;obtain⟨y,hy,he⟩:=MJ.1 ht;obtain⟨x,hx,he'⟩:=MI hop y hy;exact MK.2 ⟨x,hx,he'.trans he⟩
 ·right;cases hgo:o.guard with
  |none=>
   rw[hgo]at hg;have:v.guard=none:=by simpa[gN]using hg.symm
   rw[this]at ht;simp at ht
  |some p=>
   obtain⟨j,b⟩:=p;rw[hgo]at hg;simp only[gN]at hg;split at hg
   ·next d hd=>
    have hvg:v.guard=some (d,b):=by simpa using hg.symm
    rw[hvg]at ht;simp only[List.mem_singleton]at ht;subst ht;simp[hd]
   ·simp at hg
end
end Go.Vs
set_option linter.unusedVariables false
set_option linter.unusedSimpArgs false
namespace Go.Vs

section
variable {P:Program} {w0:World} {S0:aK} {M:Ctx}

theorem yE{listed:Array Bool}{i:Nat}(h:listed.getD i true=false):listed.getD i false=false:=by
 rcases Nat.lt_or_ge i listed.size with h'|h'
 ·simp only[Array.getD,dif_pos h']at h ⊢;exact h
 ·simp[Array.getD,Nat.not_lt.2 h']at h
theorem Tz{listed:Array Bool}{i:Nat}(hi:i<listed.size)(h:listed.getD i false=false):listed.getD i true=false:=by
 simp only[Array.getD,dif_pos hi]at h ⊢;exact h
theorem EJ(m j:Nat):(Array.replicate m false).getD j false=false:=by
 rcases Nat.lt_or_ge j m with h|h
 ·simp[Array.getD,h]
 ·simp[Array.getD,Nat.not_lt.2 h]

theorem TA{ops:Array Oper}{a b:Oper}{x y:VOper}(hx:iL P ops a=some x)(hy:iL P ops b=some y)(h:a.apart ops b=true):Qd x y:=by
 obtain⟨h1,h2,h3⟩:=Oper.apart_spec h;obtain⟨dx,_,_⟩:=fm hx;obtain⟨dy,_,_⟩:=fm hy;refine⟨fun d hd=>⟨fun hs=>h1 d (by rw[←dx];exact hd) (Ty hy d hs),by rw[dy];exact h2 d (by rw[←dx];exact hd)⟩,fun d hd hs=>h3 d (by rw[←dy];exact hd) (Ty hx d hs)⟩

theorem wF{σ:St}{o:VOper}{e:Eff}(h:fM P σ o e):(e.u.wr≠none→o.op.writes=true)∧(e.u.new≠none→o.op.makes=true)∧(e.u.fz≠[]→o.op.acts=true)∧(e.ids≠[]→o.op.acts=true):=by
 have act:Hr P σ o e→_:=fun⟨h1,h2,h3⟩=>(⟨(ED h1).1,(ED h1).2,Tx h1,fun hn=>by
  rw[h2]at hn;unfold eK at hn;cases ha:o.op.acts with
  |true=>rfl
  |false=>rw[ha]at hn;exact absurd rfl hn⟩:(e.u.wr≠none→o.op.writes=true)∧(e.u.new≠none→o.op.makes=true)∧(e.u.fz≠[]→o.op.acts=true)∧(e.ids≠[]→o.op.acts=true))
 unfold fM at h;split at h
 ·exact act h
 ·obtain⟨c,_,h|h⟩:=h
  ·exact act h.2
  ·rw[h.2];exact⟨fun x=>absurd rfl x,fun x=>absurd rfl x,fun x=>absurd rfl x,fun x=>absurd rfl x⟩

theorem Rs{σ σ':St}{a b:VOper}{x y:Eff}(ha:fM P σ a x)(hb:fM P σ' b y)(h:a.op.flagged b.op=false):CA x y∧CA y x:=by
 obtain⟨a1,a2,a3,a4⟩:=wF ha;obtain⟨b1,b2,b3,b4⟩:=wF hb;unfold VOp.flagged at h;simp only[Bool.or_eq_false_iff,Bool.and_eq_false_iff]at h;obtain⟨⟨⟨h1,h2⟩,h3⟩,h4⟩:=h
 have nx:x.u.new=none:=by
  cases hn:x.u.new with
  |none=>rfl
  |some o=>have:=a2 (by rw[hn];simp);rw[h3]at this;simp at this
 have ny:y.u.new=none:=by
  cases hn:y.u.new with
  |none=>rfl
  |some o=>have:=b2 (by rw[hn];simp);rw[h4]at this;simp at this
 have wact:∀op:VOp,op.writes=true→op.acts=true:=by intro op;cases op<;>simp[VOp.writes,VOp.acts]
 have gen:∀(p q:Eff) (o1 o2:VOp),p.u.new=none→q.u.new=none→(p.u.wr≠none→o1.writes=true)→(q.u.wr≠none→o2.writes=true)→(p.u.fz≠[]→o1.acts=true)→(q.ids≠[]→o2.acts=true)→
   (o1.writes=false∨o2.acts=false)→(o2.writes=false∨o1.acts=false)→CA p q:=by
  intro p q o1 o2 np nq p1 q1 p3 q4 c1 c2;refine⟨fun id hw=>?_,fun id o hw hi=>?_⟩
  ·rw[wE (.inl np)]at hw;have hpw:p.u.wr≠none:=by intro e;rw[e]at hw;exact hw rfl
   have hw1:=p1 hpw;have ha2:o2.acts=false:=c1.resolve_left (by rw[hw1];simp);refine⟨fun hi=>?_,?_⟩
   ·have:=q4 (by intro e;rw[e]at hi;simp at hi);rw[ha2]at this;simp at this
   ·rw[wE (.inl nq)];cases hq:q.u.wr with
    |none=>rfl
    |some r=>
     have:=wact _ (q1 (by rw[hq];simp));rw[ha2]at this;simp at this
  ·have hw2:=q1 (by rw[hw];simp);have ha1:o1.acts=false:=c2.resolve_left (by rw[hw2];simp);have:=p3 (by intro e;rw[e]at hi;simp at hi);rw[ha1]at this;simp at this
 exact⟨gen x y a.op b.op nx ny a1 b1 a3 b4 h1 h2,gen y x b.op a.op ny nx b1 a1 b3 a4 h2 h1⟩

theorem rQ:∀ {l:List VOper} {σ σf:St} {es:List Eff} (i:Nat),kd P l σ es σf→∀p∈jf i l es,∃σ',fM P σ' p.o p.e
 |[],_,_,_,_,_,_,h=>by simp[jf]at h
 |o::r,σ,σf,es,i,⟨e,es',h1,h2,h3⟩,p,h=>by
  subst h1;simp only[jf,List.mem_cons]at h;rcases h with rfl|h
  ·exact⟨σ,h2⟩
  ·exact rQ (i+1) h3 p h

theorem qW{e:Eff}{d:Nat} : e.newId=some d↔kH e d:=by
 unfold Eff.newId kH;constructor
 ·intro h;split at h
  ·next o d' h1 h2=>
   obtain rfl:=O_ h;exact⟨⟨o,h1⟩,h2⟩
  ·simp at h
 ·rintro⟨⟨o,h1⟩,h2⟩;rw[h1,h2]

def uL(f:Nat→Bool):Nat→Nat
 |0=>0
 |n+1=>uL f n+(if f n then 0 else 1)
theorem EK{f g:Nat→Bool}{i:Nat}(hi:f i=false)(hg:g i=true)(h:∀j,i≠j→g j=f j):∀n,(i<n→uL g n+1=uL f n)∧(n≤i→uL g n=uL f n)
 |0=>⟨fun h=>by omega,fun _=>rfl⟩
 |n+1=>by
  obtain⟨h1,h2⟩:=EK hi hg h n;refine⟨fun hn=>?_,fun hn=>?_⟩
  ·rcases Nat.lt_or_ge i n with h3|h3
   ·simp only[uL,h n (by omega)];have:=h1 h3;omega
   ·obtain rfl:i=n:=by omega
    simp[uL,h2 (Nat.le_refl _),hi,hg]
  ·simp only[uL,h n (by omega),h2 (by omega)]
theorem BH{f:Nat→Bool} : ∀ {n},uL f n=0→∀j,j<n→f j=true
 |0,_,j,hj=>by omega
 |n+1,h,j,hj=>by
  simp only[uL]at h;rcases Nat.lt_or_ge j n with h1|h1
  ·exact BH (by omega) j h1
  ·obtain rfl:j=n:=by omega
   cases hf:f j with
   |true=>rfl
   |false=>simp[hf]at h

def UpE(ops:Array Oper):Prop:=∀j o,ops[j]?=some o→∀e∈o.after.toList,Region.binds .any e=true→e.on<j
theorem Ji{ops:Array Oper}{listed:Array Bool}(hup:UpE ops)(hsz:listed.size=ops.size)(h:Region.ready .any ops listed=[]):∀j,j<ops.size→listed.getD j false=true:=by
 intro j
 induction j using Nat.strongRecOn with
 |_ j ih=>
  intro hj;cases hb:listed.getD j false with
  |true=>rfl
  |false=>
   have:j∈Region.ready .any ops listed:=mem_ready.2 ⟨Tz (by omega) hb,ops[j],by simp[hj],fun e he hbd=>by
    have:=hup j ops[j] (by simp[hj]) e (by simpa using he) hbd
    exact ih e.on this (by omega)⟩
   rw[h]at this;cases this
theorem EL{ops:Array Oper}{listed:Array Bool}{Q:Exit→Act→World→Prop}{a:Act}{w:World}(h:∀j,j<ops.size→listed.getD j false=true)(hq:Q .normal a w):∀fuel,wpAny P .any ops Q fuel listed a w:=by
 have hr:Region.ready .any ops listed=[]:=by
  rw[List.eq_nil_iff_forall_not_mem];intro i hi;obtain⟨h1,oi,hoi,_⟩:=mem_ready.1 hi;have:=h i (Array.getElem?_eq_some_iff.1 hoi).1;rw[yE h1]at this;cases this
 intro fuel;cases fuel with
 |zero=>exact⟨hr,hq⟩
 |succ f=>exact⟨fun _=>hq,fun i hi=>by rw[hr]at hi;cases hi⟩

structure Ahead(P:Program)(ops:Array Oper)(I:List Item1):Prop where
 comp:∀p∈I,∃o,ops[p.i]?=some o∧iL P ops o=some p.o
 free:∀p∈I,∀x∈I,p.i<x.i→((Region.before ops).getD x.i 0).testBit p.i=false→Free x p
 nr:∀p∈I,∀k∈I,p.i≠k.i→((Region.before ops).getD p.i 0).testBit k.i=false→∀d,kH k.e d→uG d p.e.u
theorem uM{ops:Array Oper}{vs:List VOper}{gp makes:List (Nat×Nat)}(hp:je ops vs.toArray=some (gp,makes)):UpE ops:=by
 unfold je at hp;simp only at hp;split at hp
 ·next hcond=>
  simp only[Bool.and_eq_true,List.all_eq_true,List.mem_range]at hcond;intro j o ho e he hb;have:=hcond.1 j (Array.getElem?_eq_some_iff.1 ho).1;rw[ho]at this;simp only[List.all_eq_true,Bool.or_eq_true,Bool.not_eq_true',decide_eq_true_eq]at this;rcases this e he with h1|h1
  ·rw[hb]at h1;cases h1
  ·exact h1
 ·cases hp
theorem sJ{ops:Array Oper}{vs:List VOper}(hc:ch P ops ops.toList=some vs){i:Nat}{v:VOper}(hv:vs[i]?=some v):∃o,ops[i]?=some o∧iL P ops o=some v∧i<ops.size:=by
 obtain⟨hlen,hget⟩:=dn hc;have hi:=(List.getElem?_eq_some_iff.1 hv).1;have nv:i<ops.toList.length:=by omega
 obtain⟨v',hv1,hv2⟩:=hget i ops.toList[i] (List.getElem?_eq_getElem nv);obtain rfl:v'=v:=by rw[hv]at hv1;exact(O_ hv1).symm
 exact⟨ops.toList[i],by rw[←Array.getElem?_toList];exact List.getElem?_eq_getElem nv,hv2,by simpa using nv⟩
theorem CE{ops:Array Oper}{vs:List VOper}(hc:ch P ops ops.toList=some vs){gp makes:List (Nat×Nat)}(hp:je ops vs.toArray=some (gp,makes)){i j:Nat}{x y:VOper}(hij:i<j)(hx:vs[i]?=some x)(hy:vs[j]?=some y)(hb:((Region.before ops).getD j 0).testBit i=false):Qd x y:=by
 obtain⟨o1,a1,a2,a3⟩:=sJ hc hx;obtain⟨o2,b1,b2,b3⟩:=sJ hc hy;unfold je at hp;simp only at hp;split at hp
 ·next hcond=>
  simp only[Bool.and_eq_true,List.all_eq_true,List.mem_range]at hcond;have hap:=hcond.2 j b3 i hij;rw[hb,a1,b1]at hap;simp only[Bool.false_or]at hap;exact TA a2 b2 hap
 ·cases hp
theorem EM{ops:Array Oper}{vs:List VOper}(hc:ch P ops ops.toList=some vs){gp makes:List (Nat×Nat)}(hp:je ops vs.toArray=some (gp,makes)){i j:Nat}{x y:VOper}{d:Nat}(hij:i<j)(hx:vs[i]?=some x)(hy:vs[j]?=some y)(hd:x.dst=some d)(hs:d∈y.slots):((Region.before ops).getD j 0).testBit i=true:=by
 cases hb:((Region.before ops).getD j 0).testBit i with
 |true=>rfl
 |false=>exact absurd hs ((CE hc hp hij hx hy hb).1 d hd).1
theorem Kx{ops:Array Oper}{vs:List VOper}(hc:ch P ops ops.toList=some vs){gp makes:List (Nat×Nat)}(hp:je ops vs.toArray=some (gp,makes)){I:List Item1}(hv:∀p∈I,vs[p.i]?=some p.o)(hall:∀p∈I,∃σ',fM P σ' p.o p.e){σ:St}{es:List Eff}{sel:Nat×Nat→Bool}(hk:uK σ (gp.filter sel) (makes.filter sel) es=true)(he:∀p∈I,es[p.i]?=some p.e)(hsel:∀p∈I,∀x∈I,sel (p.i,x.i)=true):Ahead P ops I∧∀p∈I,∀d,kH p.e d→fj d σ:=by
 have hp':=hp;unfold je at hp;simp only at hp;split at hp
 ·simp only[E_,Prod.mk.injEq]at hp;obtain⟨hpairs,hmakes⟩:=hp;unfold uK at hk;simp only[Bool.and_eq_true,List.all_eq_true]at hk;obtain⟨⟨hk1,hk2⟩,hk3⟩:=hk;refine⟨⟨fun p hpI=>?_,fun p hpI x hx hlt hbit=>?_,fun p hpI k hkI hne hbit d hcr=>?_⟩,fun p hpI d hcr=>?_⟩
  ·obtain⟨o,h1,h2,_⟩:=sJ hc (hv p hpI);exact⟨o,h1,h2⟩
  ·have hAp:=CE hc hp' hlt (hv p hpI) (hv x hx) hbit;obtain⟨o2,b1,b2,b3⟩:=sJ hc (hv x hx);cases hfl:p.o.op.flagged x.o.op with
   |false=>
    obtain⟨σ1,s1⟩:=hall p hpI;obtain⟨σ2,s2⟩:=hall x hx;obtain⟨i1,i2⟩:=Rs s1 s2 hfl;exact⟨hAp,i1,i2⟩
   |true=>
    have hm:(p.i,x.i)∈gp:=by
     rw[←hpairs];refine List.mem_flatMap.2 ⟨x.i,List.mem_range.2 b3,List.mem_filterMap.2 ⟨p.i,List.mem_range.2 hlt,?_⟩⟩;rw[hbit];simp only[Bool.false_eq_true,if_false,List.getElem?_toArray,hv p hpI,hv x hx,hfl,if_true]
    have:=hk1 _ (List.mem_filter.2 ⟨hm,hsel p hpI x hx⟩);simp only[he p hpI,he x hx,Bool.and_eq_true]at this;exact⟨hAp,CB this.1,CB this.2⟩
  ·obtain⟨o1,a1,a2,a3⟩:=sJ hc (hv p hpI);obtain⟨o2,b1,b2,b3⟩:=sJ hc (hv k hkI);obtain⟨σ2,s2⟩:=hall k hkI;have hmk:k.o.op.makes=true:=(wF s2).2.1 (by obtain⟨⟨o,ho⟩,_⟩:=hcr;rw[ho];simp)
   have hm:(p.i,k.i)∈makes:=by
    rw[←hmakes];refine List.mem_flatMap.2 ⟨k.i,List.mem_range.2 b3,?_⟩;simp only[List.getElem?_toArray,hv k hkI,hmk,if_true];refine List.mem_filterMap.2 ⟨p.i,List.mem_range.2 a3,?_⟩;rw[if_neg hne,hbit];simp
   have:=hk2 _ (List.mem_filter.2 ⟨hm,hsel p hpI k hkI⟩);simp only[he p hpI,he k hkI,qW.2 hcr]at this;exact Kv this
  ·have:=hk3 p.e (List.mem_of_getElem? (he p hpI));simp only[qW.2 hcr,Bool.and_eq_true]at this;exact⟨OH this.1,fun id o ho=>OI this.2 ho⟩
 ·cases hp

structure Lst(P:Program)(ops:Array Oper)(I:List Item1)(U late:Nat→Bool)(n:Nat)(σf σB:St)(listed:Array Bool)(L:List Item1)(σ1:St):Prop where
 sz:listed.size=ops.size
 pw:L.Pairwise fun p q=>p.i<q.i
 sub:∀p∈L,p∈I
 li:∀j,j<ops.size→U j=false→(listed.getD j false=false↔∃p∈L,p.i=j)
 un:∀j,j<ops.size→U j=true→listed.getD j false=false
 cl:∀j o,ops[j]?=some o→listed.getD j false=true→∀e∈o.after.toList,Region.binds .any e=true→listed.getD e.on false=true
 run:BF P L σ1 σf
 runB:(∀p∈I,late p.i=true→p∈L)→BF P (L.filter fun p=>!late p.i) σ1 σB
 nr:∀p∈L,∀d,kH p.e d→fj d σ1
 n:σ1.n=n

theorem Ky{ops:Array Oper}(hup:UpE ops){I:List Item1}(hI:Ahead P ops I){U late:Nat→Bool}(hU:∀p∈I,U p.i=false){n:Nat}(hd:∀p∈I,∀d,p.o.dst=some d→d<n){σf σB:St}{Q:Exit→Act→World→Prop}
  (hQ:∀fuel listed L σ1 a w i,uL (listed.getD · false) ops.size≤fuel+1→Lst P ops I U late n σf σB listed L σ1→U i=true→i<ops.size→(∀b,((Region.before ops).getD i 0).testBit b=true→listed.getD b false=true)→(∀o,ops[i]?=some o→∀e∈o.after.toList,Region.binds .any e=true→listed.getD e.on false=true)→cS w0 S0 M σ1 a w→wpOp P ops Q i (wpAny P .any ops Q fuel (listed.setIfInBounds i true)) a w)
  (hE:(∀j,j<ops.size→U j=false)→∀a w,cS w0 S0 M σf a w→Q .normal a w) :
  ∀(fuel:Nat) {listed:Array Bool} {L:List Item1} {σ1:St} {a:Act} {w:World},uL (listed.getD · false) ops.size≤fuel→Lst P ops I U late n σf σB listed L σ1→cS w0 S0 M σ1 a w→wpAny P .any ops Q fuel listed a w:=by
 have bit_lt:∀(j k:Nat),j≤k→j<ops.size→((Region.before ops).getD j 0).testBit k=false:=by
  intro j
  induction j using Nat.strongRecOn with
  |_ j ih=>
   intro k hjk hj;cases hb:((Region.before ops).getD j 0).testBit k with
   |false=>rfl
   |true=>
    obtain⟨e,he,hbd,h⟩:=CD (ops:=ops) (j:=j) (o:=ops[j]) (by simp[hj]) hb;have hlt:=hup j ops[j] (by simp[hj]) e he hbd;rcases h with h|h
    ·omega
    ·have:=ih e.on hlt k (by omega) (by omega);rw[this]at h;cases h
 have fin:∀ {listed:Array Bool} {L:List Item1} {σ1:St} {a:Act} {w:World},Lst P ops I U late n σf σB listed L σ1→(∀j,j<ops.size→listed.getD j false=true)→cS w0 S0 M σ1 a w→Q .normal a w:=by
  intro listed L σ1 a w hl hall hsim
  have hL:L=[]:=by
   cases L with
   |nil=>rfl
   |cons p L=>
    exfalso;obtain⟨o,ho,_⟩:=hI.comp p (hl.sub p (by simp));have hi:=(Array.getElem?_eq_some_iff.1 ho).1;have:=(hl.li p.i hi (hU p (hl.sub p (by simp)))).2 ⟨p,by simp,rfl⟩;rw[hall p.i hi]at this;cases this
  subst hL;refine hE (fun j hj=>?_) a w (hsim.congr hl.run);cases hu:U j with
  |false=>rfl
  |true=>have:=hl.un j hj hu;rw[hall j hj]at this;cases this
 intro fuel
 induction fuel with
 |zero=>
  intro listed L σ1 a w hf hl hsim;have hall:=BH (Nat.le_zero.1 hf);exact EL hall (fin hl hall hsim) 0
 |succ fuel ih=>
  intro listed L σ1 a w hf hl hsim;refine⟨fun he=>fin hl (Ji hup hl.sz he) hsim,fun i hi=>?_⟩;obtain⟨h1,oi,hoi,hready⟩:=mem_ready.1 hi;have hlt:i<ops.size:=(Array.getElem?_eq_some_iff.1 hoi).1;have hu:=yE h1
  have hbefore:∀b,((Region.before ops).getD i 0).testBit b=true→listed.getD b false=true:=
   xb hup hl.cl (i+1) i oi (by omega) hoi (fun e he hbd=>hready e (by simpa using he) hbd)
  have hready':∀o,ops[i]?=some o→∀e∈o.after.toList,Region.binds .any e=true→listed.getD e.on false=true:=by
   intro o ho e he hb;obtain rfl:oi=o:=O_ (hoi.symm.trans ho);exact hready e (by simpa using he) hb
  cases hUi:U i with
  |true=>exact hQ fuel listed L σ1 a w i hf hl hUi hlt hbefore (fun o ho e he hb=>hready' o ho e he hb) hsim
  |false=>
   obtain⟨x,hx,hxi⟩:=(hl.li i hlt hUi).1 hu;subst hxi;obtain⟨A,B,hAB⟩:=List.append_of_mem hx;subst hAB;obtain⟨o2,b1,b2⟩:=hI.comp x (hl.sub x hx);have hpw':=List.pairwise_append.1 hl.pw;have hAx:∀p∈A,p.i<x.i:=fun p hp=>hpw'.2.2 p hp x (by simp)
   have hxB:∀q∈B,x.i<q.i:=fun q hq=>(List.pairwise_cons.1 hpw'.2.1).1 q hq
   have inA:∀p∈A,p∈I:=fun p hp=>hl.sub p (List.mem_append_left _ hp)
   have inB:∀p∈B,p∈I:=fun p hp=>hl.sub p (List.mem_append_right _ (List.mem_cons_of_mem _ hp))
   have inx:x∈I:=hl.sub x hx
   have szI:∀p∈I,p.i<ops.size:=fun p hp=>by
    obtain⟨o,ho,_⟩:=hI.comp p hp;exact(Array.getElem?_eq_some_iff.1 ho).1
   have hAn:∀p∈A,((Region.before ops).getD x.i 0).testBit p.i=false:=by
    intro p hp;cases hb:((Region.before ops).getD x.i 0).testBit p.i with
    |false=>rfl
    |true=>
     have:=hbefore p.i hb;have hpn:listed.getD p.i false=false:=(hl.li p.i (szI p (inA p hp)) (hU p (inA p hp))).2 ⟨p,List.mem_append_left _ hp,rfl⟩;rw[hpn]at this;cases this
   have front:∀ {A' B':List Item1} {σ':St},(∀p∈A',p∈A)→(∀p∈B',p∈B)→(A'.Pairwise fun p q=>p.i<q.i)→BF P (A'++x::B') σ1 σ'→BF P (x::(A'++B')) σ1 σ':=by
    intro A' B' σ' hA' hB' hpA hr
    refine Jh (P:=P) hr (fun p hp=>hI.free p (inA p (hA' p hp)) x inx (hAx p (hA' p hp)) (hAn p (hA' p hp))) (fun p hp=>hl.nr p ?_)
     (fun p hp d hcr=>hI.nr x inx p (inA p (hA' p hp)) (by have:=hAx p (hA' p hp);omega) (hAn p (hA' p hp)) d hcr)
     (by
       refine List.Pairwise.imp_of_mem ?_ hpA;intro p q hp hq hpq d hcr
       exact hI.nr p (inA p (hA' p hp)) q (inA q (hA' q hq)) (by omega) (bit_lt p.i q.i (by omega) (szI p (inA p (hA' p hp)))) d hcr)
     (fun p hp q hq d hcr=>by
       have h1:=hAx p (hA' p hp);rcases List.mem_cons.1 hq with rfl|hq'
       ·exact hI.nr p (inA p (hA' p hp)) q inx (by omega) (bit_lt p.i q.i (by omega) (szI p (inA p (hA' p hp)))) d hcr
       ·have h2:=hxB q (hB' q hq')
        exact hI.nr p (inA p (hA' p hp)) q (inB q (hB' q hq')) (by omega) (bit_lt p.i q.i (by omega) (szI p (inA p (hA' p hp)))) d hcr)
    rcases List.mem_append.1 hp with hp|hp
    ·exact List.mem_append_left _ (hA' p hp)
    ·rcases List.mem_cons.1 hp with rfl|hp
     ·exact hx
     ·exact List.mem_append_right _ (List.mem_cons_of_mem _ (hB' p hp))
   obtain⟨hstep,hrest⟩:=front (fun _ h=>h) (fun _ h=>h) hpw'.1 hl.run;refine OV b1 b2 hsim (fun d hdd=>by rw[hl.n];exact hd x inx d hdd) hstep (fun a' w' hs'=>?_)
   have hmemAB:∀p,p∈A++B→p∈A++x::B:=fun p hp=>by
    rcases List.mem_append.1 hp with hp|hp
    ·exact List.mem_append_left _ hp
    ·exact List.mem_append_right _ (List.mem_cons_of_mem _ hp)
   have hset:(listed.setIfInBounds x.i true).getD x.i false=true:=by simp[Array.getD,hl.sz,hlt]
   have hnx:x∉A++B:=fun h=>by
    rcases List.mem_append.1 h with h|h
    ·have:=hAx x h;omega
    ·have:=hxB x h;omega
   refine ih (listed:=listed.setIfInBounds x.i true) (L:=A++B) ?_ ⟨by simp[hl.sz],?_,fun p hp=>hl.sub p (hmemAB p hp),?_,?_,?_,hrest,?_,?_,by rw[sH];exact hl.n⟩ hs'
   ·have:=(EK (f:=(listed.getD · false)) (g:=((listed.setIfInBounds x.i true).getD · false)) hu hset (fun j hj=>getD_set_ne false hj) ops.size).1 hlt;omega
   ·exact List.pairwise_append.2 ⟨hpw'.1,(List.pairwise_cons.1 hpw'.2.1).2,fun u hu v hv=>hpw'.2.2 u hu v (List.mem_cons_of_mem _ hv)⟩
   ·intro j hj hUj;by_cases hjx:x.i=j
    ·subst hjx;rw[hset];simp only[Bool.true_eq_false,false_iff,not_exists,not_and];intro p hp e;rcases List.mem_append.1 hp with hp|hp
     ·have:=hAx p hp;omega
     ·have:=hxB p hp;omega
    ·rw[getD_set_ne false hjx,hl.li j hj hUj];constructor
     ·rintro⟨p,hp,e⟩;refine⟨p,?_,e⟩;rcases List.mem_append.1 hp with hp|hp
      ·exact List.mem_append_left _ hp
      ·rcases List.mem_cons.1 hp with rfl|hp
       ·exact absurd e hjx
       ·exact List.mem_append_right _ hp
     ·rintro⟨p,hp,e⟩;exact⟨p,hmemAB p hp,e⟩
   ·intro j hj hUj;rw[getD_set_ne false (by rintro rfl;rw[hUi]at hUj;cases hUj)];exact hl.un j hj hUj
   ·intro j o hj hl' e he hb;by_cases hjx:x.i=j
    ·subst hjx;obtain rfl:oi=o:=by rw[hj]at hoi;exact(O_ hoi).symm
     exact getD_set_true (hready e (by simpa using he) hb)
    ·rw[getD_set_ne false hjx]at hl';exact getD_set_true (hl.cl j o hj hl' e he hb)
   ·intro hB;cases hlx:late x.i with
    |true=>exact absurd (hB x inx hlx) hnx
    |false=>
     have hr:=hl.runB (fun p hp h=>hmemAB p (hB p hp h));rw[List.filter_append,List.filter_cons,if_pos (by simp[hlx])]at hr;rw[List.filter_append];exact(front (fun p hp=>(List.mem_filter.1 hp).1) (fun p hp=>(List.mem_filter.1 hp).1) (hpw'.1.filter _) hr).2
   ·intro p hp d hcr;refine(hl.nr p (hmemAB p hp) d hcr).apply ?_;rcases List.mem_append.1 hp with hp'|hp'
    ·exact hI.nr x inx p (inA p hp') (by have:=hAx p hp';omega) (hAn p hp') d hcr
    ·exact hI.nr x inx p (inB p hp') (by have:=hxB p hp';omega) (bit_lt x.i p.i (by have:=hxB p hp';omega) hlt) d hcr

theorem BI{L:List Item1}{σ σf:St}(h:BF P L σ σf):BF P (L.filter fun p=>!false) σ σf:=by
 have e:L.filter (fun p=>!false)=L:=List.filter_eq_self.2 (fun _ _=>rfl);rw[e];exact h
theorem BJ{ops:Array Oper}{vs rest:List VOper}(hc:ch P ops ops.toList=some (vs++rest)){σ σf:St}{es:List Eff}(hs:kd P vs σ es σf)(hg:∀p∈jf 0 vs es,∀d,kH p.e d→fj d σ){late:Nat→Bool}{σB:St}(hB:BF P ((jf 0 vs es).filter fun p=>!late p.i) σ σB):Lst P ops (jf 0 vs es) (fun i=>decide (vs.length≤i)) late σ.n σf σB (Array.replicate ops.size false) (jf 0 vs es) σ:=by
 obtain⟨hrun,hidx,hel⟩:=gS 0 hs;refine⟨by simp,?_,fun _ h=>h,fun j hj hU=>?_,fun j _ _=>EJ _ _,fun j o _ hl=>?_,hrun,fun _=>hB,hg,rfl⟩
 ·have:((jf 0 vs es).map (·.i)).Pairwise (· < ·):=by rw[hidx];exact List.pairwise_lt_range'
  exact List.pairwise_map.1 this
 ·rw[EJ];simp only[true_iff];have:j∈(jf 0 vs es).map (·.i):=by rw[hidx];simp at hU;simp;omega
  obtain⟨p,hp,e⟩:=List.mem_map.1 this;exact⟨p,hp,e⟩
 ·rw[EJ]at hl;cases hl
theorem EN{vs rest:List VOper}{es:List Eff}(hel:es.length=vs.length){p:Item1}(hp:p∈jf 0 vs es):(vs++rest)[p.i]?=some p.o∧es[p.i]?=some p.e∧p.i<vs.length∧p.o∈vs:=by
 obtain⟨_,h1,h2⟩:=BG hel hp;simp only[Nat.sub_zero]at h1 h2;have hlt:=(List.getElem?_eq_some_iff.1 h1).1;exact⟨(List.getElem?_append_left hlt).trans h1,h2,hlt,List.mem_of_getElem? h1⟩
theorem DT(f:Nat→Bool):∀n,uL f n≤n
 |0=>Nat.le_refl _
 |n+1=>by have:=DT f n;simp only[uL];split<;>omega

theorem EO{ops:Array Oper}{vs:List VOper}(hc:ch P ops ops.toList=some vs){gp makes:List (Nat×Nat)}(hp:je ops vs.toArray=some (gp,makes)){σ:St}{a:Act}{w:World}(h:cS w0 S0 M σ a w)
  (hd:∀v∈vs,∀d,v.dst=some d→d<σ.n) {es:List Eff} {σf:St} (hs:kd P vs σ es σf) (hk:uK σ gp makes es=true)
  {Q:Exit→Act→World→Prop} (hQ:∀a' w',cS w0 S0 M σf a' w'→Q .normal a' w'):wpAny P .any ops Q ops.size (Array.replicate ops.size false) a w:=by
 have hc':ch P ops ops.toList=some (vs++[]):=by rw[List.append_nil];exact hc
 have hel:=(gS 0 hs).2.2;have hat:=fun p (hp:p∈jf 0 vs es)=>EN (rest:=[]) hel hp
 have hn:vs.length=ops.size:=by have:=(dn hc).1;simpa using this
 obtain⟨hI,hg⟩:=Kx (sel:=fun _=>true) (σ:=σ) hc hp (fun p h=>by have:=(hat p h).1;rwa[List.append_nil]at this) (rQ 0 hs) (by rw[List.filter_eq_self.2 (fun _ _=>rfl),List.filter_eq_self.2 (fun _ _=>rfl)];exact hk) (fun p h=>(hat p h).2.1) (fun _ _ _ _=>rfl)
 exact Ky (uM hp) hI (fun p hp=>by simp[(hat p hp).2.2.1]) (fun p hp=>hd p.o (hat p hp).2.2.2)
  (fun fuel listed L σ1 a w i _ _ hU hi=>by simp at hU;omega) (fun _=>hQ) ops.size (DT _ _) (BJ (late:=fun _=>false) (σB:=σf) hc' hs hg (BI (gS 0 hs).1)) h

def xc:List VOper→Bool
 |[]=>true
 |[_]=>true
 |x::r=>(match x.dst with
  |some d=>r.any fun y=>y.slots.contains d
  |none=>false)&&xc r
theorem yF:∀ {l:List VOper},xc l=true→∀i x,l[i]?=some x→i+1<l.length→∃j y d,i<j∧l[j]?=some y∧x.dst=some d∧d∈y.slots
 |[],_,i,x,hx,_=>by simp at hx
 |[_],_,i,x,_,hi=>by simp at hi
 |u::v::r,h,i,x,hx,hi=>by
  simp only[xc,Bool.and_eq_true]at h;cases i with
  |zero=>
   simp only[List.getElem?_cons_zero,E_]at hx;subst hx;have h1:=h.1;split at h1
   ·next d hd=>
    obtain⟨y,hy,hc⟩:=List.any_eq_true.1 h1;obtain⟨j,hj⟩:=List.getElem?_of_mem hy;exact⟨j+1,y,d,by omega,by simpa using hj,hd,by simpa using hc⟩
   ·simp at h1
  |succ i=>
   obtain⟨j,y,d,h1,h2,h3,h4⟩:=yF h.2 i x (by simpa using hx) (by simpa using hi);exact⟨j+1,y,d,by omega,by simpa using h2,h3,h4⟩

theorem ML{ops:Array Oper}{vs rest:List VOper}{last:VOper}(hc:ch P ops ops.toList=some (vs++last::rest)){gp makes:List (Nat×Nat)}(hp:je ops (vs++last::rest).toArray=some (gp,makes))(hflow:xc (vs++[last])=true){listed:Array Bool}
  (hcl:∀j o,ops[j]?=some o→listed.getD j false=true→∀e∈o.after.toList,Region.binds .any e=true→listed.getD e.on false=true)
  (hl:∀b,((Region.before ops).getD vs.length 0).testBit b=true→listed.getD b false=true):∀(k p:Nat),p<vs.length→vs.length≤p+k→listed.getD p false=true:=by
 intro k
 induction k with
 |zero=>intro p h1 h2;omega
 |succ k ihk=>
  intro p hpv hk';have hx:(vs++[last])[p]?=some vs[p]:=by rw[List.getElem?_append_left hpv];simp[hpv]
  obtain⟨q,y,d,h1,h2,h3,h4⟩:=yF hflow p vs[p] hx (by simp;omega);have hq:=(List.getElem?_eq_some_iff.1 h2).1
  have hup:∀ {i:Nat} {y:VOper},(vs++[last])[i]?=some y→(vs++last::rest)[i]?=some y:=fun {i y} hi=>by
   rw[show vs++last::rest=(vs++[last])++rest by simp];exact(List.getElem?_append_left (List.getElem?_eq_some_iff.1 hi).1).trans hi
  have hbit:=EM hc hp h1 (hup hx) (hup h2) h3 h4;simp at hq;rcases Nat.lt_or_ge q vs.length with hq'|hq'
  ·obtain⟨o,ho,_,_⟩:=sJ hc (hup h2);exact xb (uM hp) hcl (q+1) q o (by omega) ho (hcl q o ho (ihk q hq' (by omega))) p hbit
  ·obtain rfl:q=vs.length:=by omega
   exact hl p hbit

theorem MM{ops:Array Oper}{vs:List VOper}{last:VOper}(hc:ch P ops ops.toList=some (vs++[last])){gp makes:List (Nat×Nat)}(hp:je ops (vs++[last]).toArray=some (gp,makes))(hflow:xc (vs++[last])=true){σ:St}{a:Act}{w:World}(h:cS w0 S0 M σ a w)
  (hd:∀v∈vs,∀d,v.dst=some d→d<σ.n) {es:List Eff} {σf:St} (hs:kd P vs σ es σf) (hk:uK σ (gp.filter fun p=>decide (p.1<vs.length)&&decide (p.2<vs.length)) (makes.filter fun p=>decide (p.1<vs.length)&&decide (p.2<vs.length)) es=true)
  {Q:Exit→Act→World→Prop} (hQ:∀(N:Act→World→Prop),(∀a' w',Q .normal a' w'→N a' w')→∀a' w',cS w0 S0 M σf a' w'→wpOp P ops Q vs.length N a' w'):wpAny P .any ops Q ops.size (Array.replicate ops.size false) a w:=by
 have hel:=(gS 0 hs).2.2;have hat:=fun p (hp:p∈jf 0 vs es)=>EN (rest:=[last]) hel hp
 have hn:vs.length+1=ops.size:=by have:=(dn hc).1;simpa using this
 obtain⟨hI,hg⟩:=Kx hc hp (fun p h=>(hat p h).1) (rQ 0 hs) hk (fun p h=>(hat p h).2.1) (fun p hp x hx=>by simp[(hat p hp).2.2.1,(hat x hx).2.2.1])
 refine Ky (uM hp) hI (fun p hp=>by simp[(hat p hp).2.2.1]) (fun p hp=>hd p.o (hat p hp).2.2.2)
  (fun fuel listed L σ1 a w i _ hl hU hi hb _ hsim=>?_) (fun hE=>?_) ops.size (DT _ _) (BJ (late:=fun _=>false) (σB:=σf) hc hs hg (BI (gS 0 hs).1)) h
 ·obtain rfl:i=vs.length:=by simp at hU;omega
  have hall:=ML hc hp hflow hl.cl hb vs.length
  have hL:L=[]:=by
   cases L with
   |nil=>rfl
   |cons p L=>
    exfalso;have h3:=(hat p (hl.sub p (by simp))).2.2.1;have:=(hl.li p.i (by omega) (by simp[h3])).2 ⟨p,by simp,rfl⟩;rw[hall p.i h3 (by omega)]at this;cases this
  subst hL;refine hQ _ (fun a' w' hq=>EL (fun j hj=>?_) hq fuel) a w (hsim.congr hl.run);by_cases hj':vs.length=j
  ·subst hj';have:=hl.sz;simp[Array.getD];omega
  ·rw[getD_set_ne false hj'];exact hall j (by omega) (by omega)
 ·exact absurd (hE vs.length (by omega)) (by simp)
end
end Go.Vs
set_option linter.unusedVariables false
set_option linter.unusedSimpArgs false
namespace Go.Vs

def ren(ρ:List (Nat×Nat))(i:Nat):Nat:=(ac ρ i).getD i
mutual
def SV.ren(ρ:List (Nat×Nat)):SV→SV
 |.undef=>.undef
 |.val v=>.val v
 |.nils=>.nils
 |.full rows=>.full rows
 |.own id ver=>.own (Vs.ren ρ id) ver
 |.loc id off=>.loc (Vs.ren ρ id) off
 |.eloc id ver i off=>.eloc (Vs.ren ρ id) ver i off
 |.view id ver lo hi=>.view (Vs.ren ρ id) ver lo hi
 |.agg cells=>.agg (rR ρ cells)
 |.clo f caps=>.clo f (rR ρ caps)
 |.tup caps=>.tup (rR ρ caps)
 |.ifc t v=>.ifc t (v.ren ρ)
 |.anyB=>.anyB
 |.selfN id t nn=>.selfN (Vs.ren ρ id) t nn
 |.ownT id v t=>.ownT (Vs.ren ρ id) v t
 |.itr id=>.itr (Vs.ren ρ id)
 |.town id ver=>.town (Vs.ren ρ id) ver
 |.teloc id ver i off=>.teloc (Vs.ren ρ id) ver i off
 |.nilT=>.nilT
def rR(ρ:List (Nat×Nat)):List SV→List SV
 |[]=>[]
 |x::r=>x.ren ρ::rR ρ r
end
def CF(ρ:List (Nat×Nat)):List (Nat×Nat×SV)→List (Nat×Nat×SV)
 |[]=>[]
 |p::r=>(p.1,p.2.1,p.2.2.ren ρ)::CF ρ r
def Ob.ren(ρ:List (Nat×Nat)):Ob→Ob
 |.box cells=>.box (rR ρ cells)
 |.arr ver s rows=>.arr ver s rows
 |.iter s p=>.iter s p
 |.tab ver s rows ln=>.tab ver s rows (CF ρ ln)
def aa1(ρ:List (Nat×Nat)):List (Nat×Ob)→List (Nat×Ob)
 |[]=>[]
 |(i,o)::r=>(Vs.ren ρ i,o.ren ρ)::aa1 ρ r

/- The ub that a value holds, all in a list of them. -/
mutual
def SV.inKeys{α:Type}(l:List (Nat×α)):SV→Bool
 |.own id _=>(ac l id).isSome
 |.loc id _=>(ac l id).isSome
 |.selfN id t nn=>(ac l id).isSome
 |.ownT id _ _=>(ac l id).isSome
 |.itr id=>(ac l id).isSome
 |.town id _=>(ac l id).isSome
 |.teloc id _ _ _=>(ac l id).isSome
 |.eloc id _ _ _=>(ac l id).isSome
 |.view id _ _ _=>(ac l id).isSome
 |.agg cells=>oJ l cells
 |.clo _ caps=>oJ l caps
 |.tup caps=>oJ l caps
 |.ifc _ v=>v.inKeys l
 |_=>true
def oJ{α:Type}(l:List (Nat×α)):List SV→Bool
 |[]=>true
 |x::r=>x.inKeys l&&oJ l r
end
def uN{α:Type}(l:List (Nat×α)):List (Nat×Nat×SV)→Bool
 |[]=>true
 |p::r=>p.2.2.inKeys l&&uN l r
def Ob.inKeys{α:Type}(l:List (Nat×α)):Ob→Bool
 |.box cells=>oJ l cells
 |.arr _ _ _=>true
 |.iter _ _=>true
 |.tab _ _ _ ln=>uN l ln
def DU{α:Type}(l:List (Nat×α)):List (Nat×Ob)→Bool
 |[]=>true
 |(_,o)::r=>o.inKeys l&&DU l r

section
variable {w:World} {S:aK} {μ μ':Nat→Value} {objs objs':List (Nat×Ob)} {ρ:List (Nat×Nat)}

/- From the caller's ub to the callee's. -/
mutual
theorem an.unren(hl:∀i o,ac objs' i=some o→ac objs (Vs.ren ρ i)=some (o.ren ρ))(hm:∀i o,ac objs' i=some o→μ' i=μ (Vs.ren ρ i)):∀(x:SV) (v:Value),an w S μ objs (x.ren ρ) v→an w S μ' objs' x v
 |.undef,_,h=>h
 |.val _,_,h=>h
 |.nils,_,h=>h
 |.full _,_,h=>h
 |.own id ver,v,h=>by
  intro cv s rows hc;have:=h cv s rows (hl _ _ hc);rw[hm _ _ hc];exact this
 |.ownT id ver t,v,⟨h,h'⟩=>by
  refine⟨?_,h'⟩;intro cv s rows hc;have:=h cv s rows (hl _ _ hc);rw[hm _ _ hc];exact this
 |.loc id off,v,h=>by
  intro cells hc;have:=h _ (hl _ _ hc);rw[hm _ _ hc];exact this
 |.eloc id ver i off,v,h=>by
  intro cv s rows hc;have:=h cv s rows (hl _ _ hc);rw[hm _ _ hc];exact this
 |.view id ver lo hi,v,h=>by
  intro cv s rows hc;have:=h cv s rows (hl _ _ hc);rw[hm _ _ hc];exact this
 |.agg cells,v,⟨vs,h1,h2⟩=>⟨vs,h1,aj.unren hl hm cells _ h2⟩
 |.clo f caps,v,⟨vs,h1,h2⟩=>⟨vs,h1,aZ.unren hl hm caps _ h2⟩
 |.tup caps,v,⟨vs,h1,h2⟩=>⟨vs,h1,aZ.unren hl hm caps _ h2⟩
 |.ifc t x,v,⟨u,h1,h2⟩=>⟨u,h1,an.unren hl hm x u h2⟩
 |.anyB,v,h=>h
 |.selfN id t nn,v,h=>by
  intro cells hc;have:=h _ (hl _ _ hc);rw[hm _ _ hc];exact this
 |.itr id,v,h=>by
  intro s p hc;have:=h s p (hl _ _ hc);rw[hm _ _ hc];exact this
 |.nilT,v,h=>h
 |.town id ver,v,h=>by
  intro cv s rows ln hc;have:=h _ _ _ _ (hl _ _ hc);rw[hm _ _ hc];exact this
 |.teloc id ver i off,v,h=>by
  intro cv s rows ln hc;have:=h _ _ _ _ (hl _ _ hc);rw[hm _ _ hc];exact this
theorem aZ.unren(hl:∀i o,ac objs' i=some o→ac objs (Vs.ren ρ i)=some (o.ren ρ))(hm:∀i o,ac objs' i=some o→μ' i=μ (Vs.ren ρ i)):∀(x:List SV) (v:List Value),aZ w S μ objs (rR ρ x) v→aZ w S μ' objs' x v
 |[],_,h=>h
 |x::xs,v,⟨u,us,h1,h2,h3⟩=>⟨u,us,h1,an.unren hl hm x u h2,aZ.unren hl hm xs us h3⟩
theorem aj.unren(hl:∀i o,ac objs' i=some o→ac objs (Vs.ren ρ i)=some (o.ren ρ))(hm:∀i o,ac objs' i=some o→μ' i=μ (Vs.ren ρ i)):∀(x:List SV) (v:List Value),aj w S μ objs (rR ρ x) v→aj w S μ' objs' x v
 |[],_,h=>h
 |x::xs,v,⟨u,us,h1,h0,h2,h3⟩=>⟨u,us,h1,h0,an.unren hl hm x u h2,aj.unren hl hm xs us h3⟩
end

/- And back: the callee's are 'objs', the caller's 'objs''. -/
mutual
theorem an.renamed(hl:∀i o,ac objs i=some o→ac objs' (Vs.ren ρ i)=some (o.ren ρ))(hm:∀i o,ac objs i=some o→μ' (Vs.ren ρ i)=μ i):∀(x:SV) (v:Value),x.inKeys objs=true→an w S μ objs x v→an w S μ' objs' (x.ren ρ) v
 |.undef,_,_,h=>h
 |.val _,_,_,h=>h
 |.nils,_,_,h=>h
 |.full _,_,_,h=>h
 |.own id ver,v,hk,h=>by
  obtain⟨o,ho⟩:=Option.isSome_iff_exists.1 hk;intro cv s rows hc;have h1:=hl _ _ ho;rw[hc]at h1;have h2:=hm _ _ ho;cases o with
  |box c=>simp[Ob.ren]at h1
  |iter=>simp[Ob.ren]at h1
  |tab=>simp[Ob.ren]at h1
  |arr a b c=>
   simp only[Ob.ren,E_,Ob.arr.injEq]at h1;obtain⟨rfl,rfl,rfl⟩:=h1;rw[h2];exact h _ _ _ ho
 |.ownT id ver t,v,hk,⟨h,h'⟩=>by
  refine⟨?_,h'⟩;obtain⟨o,ho⟩:=Option.isSome_iff_exists.1 hk;intro cv s rows hc;have h1:=hl _ _ ho;rw[hc]at h1;have h2:=hm _ _ ho;cases o with
  |box c=>simp[Ob.ren]at h1
  |iter=>simp[Ob.ren]at h1
  |tab=>simp[Ob.ren]at h1
  |arr a b c=>
   simp only[Ob.ren,E_,Ob.arr.injEq]at h1;obtain⟨rfl,rfl,rfl⟩:=h1;rw[h2];exact h _ _ _ ho
 |.loc id off,v,hk,h=>by
  obtain⟨o,ho⟩:=Option.isSome_iff_exists.1 hk;intro cells hc;have h1:=hl _ _ ho;rw[hc]at h1;have h2:=hm _ _ ho;cases o with
  |box c=>rw[h2];exact h _ ho
  |arr a b c=>simp[Ob.ren]at h1
  |iter=>simp[Ob.ren]at h1
  |tab=>simp[Ob.ren]at h1
 |.eloc id ver i off,v,hk,h=>by
  obtain⟨o,ho⟩:=Option.isSome_iff_exists.1 hk;intro cv s rows hc;have h1:=hl _ _ ho;rw[hc]at h1;have h2:=hm _ _ ho;cases o with
  |box c=>simp[Ob.ren]at h1
  |iter=>simp[Ob.ren]at h1
  |tab=>simp[Ob.ren]at h1
  |arr a b c=>
   simp only[Ob.ren,E_,Ob.arr.injEq]at h1;obtain⟨rfl,rfl,rfl⟩:=h1;rw[h2];exact h _ _ _ ho
 |.view id ver lo hi,v,hk,h=>by
  obtain⟨o,ho⟩:=Option.isSome_iff_exists.1 hk;intro cv s rows hc;have h1:=hl _ _ ho;rw[hc]at h1;have h2:=hm _ _ ho;cases o with
  |box c=>simp[Ob.ren]at h1
  |iter=>simp[Ob.ren]at h1
  |tab=>simp[Ob.ren]at h1
  |arr a b c=>
   simp only[Ob.ren,E_,Ob.arr.injEq]at h1;obtain⟨rfl,rfl,rfl⟩:=h1;rw[h2];exact h _ _ _ ho
 |.agg cells,v,hk,⟨vs,h1,h2⟩=>⟨vs,h1,aj.renamed hl hm cells _ hk h2⟩
 |.clo f caps,v,hk,⟨vs,h1,h2⟩=>⟨vs,h1,aZ.renamed hl hm caps _ hk h2⟩
 |.tup caps,v,hk,⟨vs,h1,h2⟩=>⟨vs,h1,aZ.renamed hl hm caps _ hk h2⟩
 |.ifc t x,v,hk,⟨u,h1,h2⟩=>⟨u,h1,an.renamed hl hm x u hk h2⟩
 |.anyB,v,_,h=>h
 |.selfN id t nn,v,hk,h=>by
  obtain⟨o,ho⟩:=Option.isSome_iff_exists.1 hk;intro cells hc;have h1:=hl _ _ ho;rw[hc]at h1;have h2:=hm _ _ ho;cases o with
  |box c=>rw[h2];exact h _ ho
  |arr a b c=>simp[Ob.ren]at h1
  |iter=>simp[Ob.ren]at h1
  |tab=>simp[Ob.ren]at h1
 |.itr id,v,hk,h=>by
  obtain⟨o,ho⟩:=Option.isSome_iff_exists.1 hk;intro s p hc;have h1:=hl _ _ ho;rw[hc]at h1;have h2:=hm _ _ ho;cases o with
  |box c=>simp[Ob.ren]at h1
  |arr a b c=>simp[Ob.ren]at h1
  |iter a b=>rw[h2];exact h _ _ ho
  |tab=>simp[Ob.ren]at h1
 |.nilT,_,_,h=>h
 |.town id ver,v,hk,h=>by
  obtain⟨o,ho⟩:=Option.isSome_iff_exists.1 hk;intro cv s rows ln hc;have h1:=hl _ _ ho;rw[hc]at h1;have h2:=hm _ _ ho;cases o with
  |box c=>simp[Ob.ren]at h1
  |iter=>simp[Ob.ren]at h1
  |arr=>simp[Ob.ren]at h1
  |tab a b c l=>
   simp only[Ob.ren,E_,Ob.tab.injEq]at h1;obtain⟨rfl,rfl,rfl,_⟩:=h1;rw[h2];exact h _ _ _ _ ho
 |.teloc id ver i off,v,hk,h=>by
  obtain⟨o,ho⟩:=Option.isSome_iff_exists.1 hk;intro cv s rows ln hc;have h1:=hl _ _ ho;rw[hc]at h1;have h2:=hm _ _ ho;cases o with
  |box c=>simp[Ob.ren]at h1
  |iter=>simp[Ob.ren]at h1
  |arr=>simp[Ob.ren]at h1
  |tab a b c l=>
   simp only[Ob.ren,E_,Ob.tab.injEq]at h1;obtain⟨rfl,rfl,rfl,_⟩:=h1;rw[h2];exact h _ _ _ _ ho
theorem aZ.renamed(hl:∀i o,ac objs i=some o→ac objs' (Vs.ren ρ i)=some (o.ren ρ))(hm:∀i o,ac objs i=some o→μ' (Vs.ren ρ i)=μ i):∀(x:List SV) (v:List Value),oJ objs x=true→aZ w S μ objs x v→aZ w S μ' objs' (rR ρ x) v
 |[],_,_,h=>h
 |x::xs,v,hk,⟨u,us,h1,h2,h3⟩=>by
  simp only[oJ,Bool.and_eq_true]at hk;exact⟨u,us,h1,an.renamed hl hm x u hk.1 h2,aZ.renamed hl hm xs us hk.2 h3⟩
theorem aj.renamed(hl:∀i o,ac objs i=some o→ac objs' (Vs.ren ρ i)=some (o.ren ρ))(hm:∀i o,ac objs i=some o→μ' (Vs.ren ρ i)=μ i):∀(x:List SV) (v:List Value),oJ objs x=true→aj w S μ objs x v→aj w S μ' objs' (rR ρ x) v
 |[],_,_,h=>h
 |x::xs,v,hk,⟨u,us,h1,h0,h2,h3⟩=>by
  simp only[oJ,Bool.and_eq_true]at hk;exact⟨u,us,h1,h0,an.renamed hl hm x u hk.1 h2,aj.renamed hl hm xs us hk.2 h3⟩
end

/- What the caller holds itself: objects have turned as far as 'SVRel.same' lets them, and new ub have come. -/
mutual
def SV.clear(D:Nat→Bool):SV→Bool
 |.own id _=>!D id
 |.loc id _=>!D id
 |.selfN id t nn=>!D id
 |.ownT id _ _=>!D id
 |.itr id=>!D id
 |.town id _=>!D id
 |.teloc id _ _ _=>!D id
 |.eloc id _ _ _=>!D id
 |.view id _ _ _=>!D id
 |.agg cells=>pu D cells
 |.clo _ caps=>pu D caps
 |.tup caps=>pu D caps
 |.ifc _ v=>v.clear D
 |_=>true
def pu(D:Nat→Bool):List SV→Bool
 |[]=>true
 |x::r=>x.clear D&&pu D r
end
def Kz(D:Nat→Bool):List (Nat×SV)→Bool
 |[]=>true
 |(_,x)::r=>x.clear D&&Kz D r
def zG(D:Nat→Bool):List (Nat×Nat×SV)→Bool
 |[]=>true
 |p::r=>p.2.2.clear D&&zG D r
def Ob.clear(D:Nat→Bool):Ob→Bool
 |.box cells=>pu D cells
 |.arr _ _ _=>true
 |.iter _ _=>true
 |.tab _ _ _ ln=>zG D ln
def KA(D:Nat→Bool):List (Nat×Ob)→Bool
 |[]=>true
 |(_,x)::r=>x.clear D&&KA D r
theorem EP{D:Nat→Bool} : ∀ {l:List (Nat×SV)},Kz D l=true→∀k,(aC l k).clear D=true
 |[],_,_=>rfl
 |(j,x)::r,h,k=>by
  simp only[Kz,Bool.and_eq_true]at h;simp only[aC,ac];cases j==k
  ·exact EP h.2 k
  ·exact h.1
theorem EQ{D:Nat→Bool} : ∀ {l:List (Nat×Ob)},KA D l=true→∀k o,ac l k=some o→o.clear D=true
 |[],_,_,_,h=>by simp[ac]at h
 |(j,x)::r,h,k,o,hl=>by
  simp only[KA,Bool.and_eq_true]at h;simp only[ac]at hl;cases hj:j==k
  ·rw[hj]at hl;exact EQ h.2 k o hl
  ·rw[hj]at hl;simp at hl;subst hl;exact h.1
mutual
theorem an.step{D:Nat→Bool}
  (hb:∀id cells,D id=false→ac objs' id=some (.box cells)→∃cells',ac objs id=some (.box cells')∧μ' id=μ id)
  (ha:∀id cv s rows,D id=false→ac objs' id=some (.arr cv s rows)→∃cv' rows',ac objs id=some (.arr cv' s rows')∧cv'≤cv∧(cv'=cv→rows'.length=rows.length∧μ' id=μ id))
  (hi:∀id s p,D id=false→ac objs' id=some (.iter s p)→∃s' p',ac objs id=some (.iter s' p')∧μ' id=μ id)
  (ht:∀id cv s rows ln,D id=false→ac objs' id=some (.tab cv s rows ln)→∃cv' rows' ln',ac objs id=some (.tab cv' s rows' ln')∧cv'≤cv∧(cv'=cv→rows'.length=rows.length∧μ' id=μ id)) :
  ∀(x:SV) (v:Value),x.clear D=true→an w S μ objs x v→an w S μ' objs' x v
 |.undef,v,_,h=>h
 |.val x,v,_,h=>h
 |.nils,v,_,h=>h
 |.full rows,v,_,h=>h
 |.own id ver,v,hd,h=>by
  have hd:D id=false:=by simpa[SV.clear]using hd
  intro cv s rows hl;obtain⟨cv',rows',h1,h2,h5⟩:=ha id cv s rows hd hl;obtain⟨h3,h4⟩:=h _ _ _ h1;exact⟨Nat.le_trans h3 h2,fun e=>by rw[(h5 (by omega)).2];exact h4 (by omega)⟩
 |.ownT id ver t,v,hd,⟨h,h'⟩=>by
  refine⟨?_,h'⟩;have hd:D id=false:=by simpa[SV.clear]using hd
  intro cv s rows hl;obtain⟨cv',rows',h1,h2,h5⟩:=ha id cv s rows hd hl;obtain⟨h3,h4⟩:=h _ _ _ h1;exact⟨Nat.le_trans h3 h2,fun e=>by rw[(h5 (by omega)).2];exact h4 (by omega)⟩
 |.loc id off,v,hd,h=>by
  have hd:D id=false:=by simpa[SV.clear]using hd
  intro cells hl;obtain⟨cells',h1,h2⟩:=hb id cells hd hl;rw[h2];exact h _ h1
 |.eloc id ver i off,v,hd,h=>by
  have hd:D id=false:=by simpa[SV.clear]using hd
  intro cv s rows hl;obtain⟨cv',rows',h1,h2,h5⟩:=ha id cv s rows hd hl;obtain⟨h3,h4⟩:=h _ _ _ h1;refine⟨Nat.le_trans h3 h2,fun e=>?_⟩;obtain⟨b,cap,h6,h7⟩:=h4 (by omega);obtain⟨h8,h9⟩:=h5 (by omega);exact⟨b,cap,by rw[h9,h6,h8],h7⟩
 |.view id ver lo hi,v,hd,h=>by
  have hd:D id=false:=by simpa[SV.clear]using hd
  intro cv s rows hl;obtain⟨cv',rows',h1,h2,h5⟩:=ha id cv s rows hd hl;obtain⟨h3,h4⟩:=h _ _ _ h1;refine⟨Nat.le_trans h3 h2,fun e=>?_⟩;obtain⟨g1,g2,x,cap,y,g3,g4⟩:=h4 (by omega);obtain⟨h8,h9⟩:=h5 (by omega);exact⟨g1,by omega,x,cap,y,by rw[h9,g3,h8],by rw[←h8];exact g4⟩
 |.agg cells,v,hd,⟨vs,h1,h2⟩=>⟨vs,h1,aj.step hb ha hi ht cells _ hd h2⟩
 |.clo f caps,v,hd,⟨vs,h1,h2⟩=>⟨vs,h1,aZ.step hb ha hi ht caps _ hd h2⟩
 |.tup caps,v,hd,⟨vs,h1,h2⟩=>⟨vs,h1,aZ.step hb ha hi ht caps _ hd h2⟩
 |.ifc t x,v,hd,⟨u,h1,h2⟩=>⟨u,h1,an.step hb ha hi ht x u hd h2⟩
 |.anyB,v,_,h=>h
 |.selfN id t nn,v,hd,h=>by
  have hd:D id=false:=by simpa[SV.clear]using hd
  intro cells hl;obtain⟨cells',h1,h2⟩:=hb id cells hd hl;rw[h2];exact h _ h1
 |.itr id,v,hd,h=>by
  have hd:D id=false:=by simpa[SV.clear]using hd
  intro s p hl;obtain⟨s',p',h1,h2⟩:=hi id s p hd hl;rw[h2];exact h _ _ h1
 |.nilT,v,_,h=>h
 |.town id ver,v,hd,h=>by
  have hd:D id=false:=by simpa[SV.clear]using hd
  intro cv s rows ln hl;obtain⟨cv',rows',ln',h1,h2,h5⟩:=ht id cv s rows ln hd hl;obtain⟨h3,h4⟩:=h _ _ _ _ h1;exact⟨Nat.le_trans h3 h2,fun e=>by rw[(h5 (by omega)).2];exact h4 (by omega)⟩
 |.teloc id ver i off,v,hd,h=>by
  have hd:D id=false:=by simpa[SV.clear]using hd
  intro cv s rows ln hl;obtain⟨cv',rows',ln',h1,h2,h5⟩:=ht id cv s rows ln hd hl;obtain⟨h3,h4⟩:=h _ _ _ _ h1;refine⟨Nat.le_trans h3 h2,fun e=>?_⟩;obtain⟨b,cap,h6,h7⟩:=h4 (by omega);obtain⟨h8,h9⟩:=h5 (by omega);exact⟨b,cap,by rw[h9,h6,h8],h7⟩
theorem aZ.step{D:Nat→Bool}
  (hb:∀id cells,D id=false→ac objs' id=some (.box cells)→∃cells',ac objs id=some (.box cells')∧μ' id=μ id)
  (ha:∀id cv s rows,D id=false→ac objs' id=some (.arr cv s rows)→∃cv' rows',ac objs id=some (.arr cv' s rows')∧cv'≤cv∧(cv'=cv→rows'.length=rows.length∧μ' id=μ id))
  (hi:∀id s p,D id=false→ac objs' id=some (.iter s p)→∃s' p',ac objs id=some (.iter s' p')∧μ' id=μ id)
  (ht:∀id cv s rows ln,D id=false→ac objs' id=some (.tab cv s rows ln)→∃cv' rows' ln',ac objs id=some (.tab cv' s rows' ln')∧cv'≤cv∧(cv'=cv→rows'.length=rows.length∧μ' id=μ id)) :
  ∀(x:List SV) (v:List Value),pu D x=true→aZ w S μ objs x v→aZ w S μ' objs' x v
 |[],v,_,h=>h
 |x::xs,v,hd,⟨u,us,h1,h2,h3⟩=>by
  simp only[pu,Bool.and_eq_true]at hd;exact⟨u,us,h1,an.step hb ha hi ht x u hd.1 h2,aZ.step hb ha hi ht xs us hd.2 h3⟩
theorem aj.step{D:Nat→Bool}
  (hb:∀id cells,D id=false→ac objs' id=some (.box cells)→∃cells',ac objs id=some (.box cells')∧μ' id=μ id)
  (ha:∀id cv s rows,D id=false→ac objs' id=some (.arr cv s rows)→∃cv' rows',ac objs id=some (.arr cv' s rows')∧cv'≤cv∧(cv'=cv→rows'.length=rows.length∧μ' id=μ id))
  (hi:∀id s p,D id=false→ac objs' id=some (.iter s p)→∃s' p',ac objs id=some (.iter s' p')∧μ' id=μ id)
  (ht:∀id cv s rows ln,D id=false→ac objs' id=some (.tab cv s rows ln)→∃cv' rows' ln',ac objs id=some (.tab cv' s rows' ln')∧cv'≤cv∧(cv'=cv→rows'.length=rows.length∧μ' id=μ id)) :
  ∀(x:List SV) (v:List Value),pu D x=true→aj w S μ objs x v→aj w S μ' objs' x v
 |[],v,_,h=>h
 |x::xs,v,hd,⟨u,us,h1,h0,h2,h3⟩=>by
  simp only[pu,Bool.and_eq_true]at hd;exact⟨u,us,h1,h0,an.step hb ha hi ht x u hd.1 h2,aj.step hb ha hi ht xs us hd.2 h3⟩
end
end

section
variable {w:World} {S:aK} {μ μ':Nat→Value} {objs objs':List (Nat×Ob)} {ρ:List (Nat×Nat)}
theorem bf.unren{s n:Nat}{vs:List Value}(hl:∀i o,ac objs' i=some o→ac objs (Vs.ren ρ i)=some (o.ren ρ))(hm:∀i o,ac objs' i=some o→μ' i=μ (Vs.ren ρ i)):∀ {l:List (Nat×Nat×SV)},bf w S μ objs s n vs (CF ρ l)→bf w S μ' objs' s n vs l
 |[],_=>trivial
 |_::_,⟨⟨h1,h2,v,h3,h4⟩,h5⟩=>⟨⟨h1,h2,v,h3,an.unren hl hm _ _ h4⟩,bf.unren hl hm h5⟩
theorem bf.renamed{s n:Nat}{vs:List Value}(hl:∀i o,ac objs i=some o→ac objs' (Vs.ren ρ i)=some (o.ren ρ))(hm:∀i o,ac objs i=some o→μ' (Vs.ren ρ i)=μ i):∀ {l:List (Nat×Nat×SV)},uN objs l=true→bf w S μ objs s n vs l→bf w S μ' objs' s n vs (CF ρ l)
 |[],_,_=>trivial
 |_::_,hk,⟨⟨h1,h2,v,h3,h4⟩,h5⟩=>by
  simp only[uN,Bool.and_eq_true]at hk;exact⟨⟨h1,h2,v,h3,an.renamed hl hm _ _ hk.1 h4⟩,bf.renamed hl hm hk.2 h5⟩
theorem bf.step{D:Nat→Bool}{s n:Nat}{vs:List Value}
  (hb:∀id cells,D id=false→ac objs' id=some (.box cells)→∃cells',ac objs id=some (.box cells')∧μ' id=μ id)
  (ha:∀id cv s rows,D id=false→ac objs' id=some (.arr cv s rows)→∃cv' rows',ac objs id=some (.arr cv' s rows')∧cv'≤cv∧(cv'=cv→rows'.length=rows.length∧μ' id=μ id))
  (hi:∀id s p,D id=false→ac objs' id=some (.iter s p)→∃s' p',ac objs id=some (.iter s' p')∧μ' id=μ id)
  (ht:∀id cv s rows ln,D id=false→ac objs' id=some (.tab cv s rows ln)→∃cv' rows' ln',ac objs id=some (.tab cv' s rows' ln')∧cv'≤cv∧(cv'=cv→rows'.length=rows.length∧μ' id=μ id)) :
  ∀ {l:List (Nat×Nat×SV)},zG D l=true→bf w S μ objs s n vs l→bf w S μ' objs' s n vs l
 |[],_,_=>trivial
 |_::_,hd,⟨⟨h1,h2,v,h3,h4⟩,h5⟩=>by
  simp only[zG,Bool.and_eq_true]at hd;exact⟨⟨h1,h2,v,h3,an.step hb ha hi ht _ _ hd.1 h4⟩,bf.step hb ha hi ht hd.2 h5⟩
end

/- No memory behind a value, but objects that are named. -/
mutual
def SV.flat:SV→Bool
 |.val v=>v.flat
 |.full _=>false
 |.selfN _ _ _=>false
 |.ownT _ _ _=>false
 |.agg cells=>SV.flatL cells
 |.clo _ caps=>SV.flatL caps
 |.tup caps=>SV.flatL caps
 |.ifc _ v=>v.flat
 |_=>true
def SV.flatL:List SV→Bool
 |[]=>true
 |x::r=>x.flat&&SV.flatL r
end
def Ob.flat:Ob→Bool
 |.box cells=>SV.flatL cells
 |.arr _ _ rows=>pq rows
 |.iter _ _=>true
 |.tab _ _ _ _=>false
def MN:List (Nat×Ob)→Bool
 |[]=>true
 |(_,o)::r=>o.flat&&MN r
theorem Jj:∀ {l:List (Nat×Ob)},MN l=true→∀k o,ac l k=some o→o.flat=true
 |[],_,_,_,h=>by simp[ac]at h
 |(j,x)::r,h,k,o,hl=>by
  simp only[MN,Bool.and_eq_true]at h;simp only[ac]at hl;cases hj:j==k
  ·rw[hj]at hl;exact Jj h.2 k o hl
  ·rw[hj]at hl;simp at hl;subst hl;exact h.1
mutual
theorem SV.flat_rel{w w':World}{S S':aK}{μ:Nat→Value}{objs:List (Nat×Ob)} : ∀(x:SV) (v:Value),x.flat=true→an w S μ objs x v→an w' S' μ objs x v
 |.undef,_,_,h=>h
 |.val x,v,hf,h=>IV.flat_rep x v hf h
 |.nils,_,_,h=>h
 |.full rows,_,hf,_=>by simp[SV.flat]at hf
 |.own _ _,_,_,h=>h
 |.loc _ _,_,_,h=>h
 |.eloc _ _ _ _,_,_,h=>h
 |.view _ _ _ _,_,_,h=>h
 |.agg cells,v,hf,⟨vs,h1,h2⟩=>⟨vs,h1,SV.flat_ones cells _ hf h2⟩
 |.clo f caps,v,hf,⟨vs,h1,h2⟩=>⟨vs,h1,SV.flat_list caps _ hf h2⟩
 |.tup caps,v,hf,⟨vs,h1,h2⟩=>⟨vs,h1,SV.flat_list caps _ hf h2⟩
 |.ifc t x,v,hf,⟨u,h1,h2⟩=>⟨u,h1,SV.flat_rel x u hf h2⟩
 |.anyB,v,_,h=>h
 |.selfN _ _ _,v,hf,h=>by simp[SV.flat]at hf
 |.ownT _ _ _,v,hf,h=>by simp[SV.flat]at hf
 |.itr _,v,_,h=>h
 |.nilT,_,_,h=>h
 |.town _ _,_,_,h=>h
 |.teloc _ _ _ _,_,_,h=>h
theorem SV.flat_list{w w':World}{S S':aK}{μ:Nat→Value}{objs:List (Nat×Ob)} : ∀(x:List SV) (v:List Value),SV.flatL x=true→aZ w S μ objs x v→aZ w' S' μ objs x v
 |[],_,_,h=>h
 |x::xs,v,hf,⟨u,us,h1,h2,h3⟩=>by
  simp only[SV.flatL,Bool.and_eq_true]at hf;exact⟨u,us,h1,SV.flat_rel x u hf.1 h2,SV.flat_list xs us hf.2 h3⟩
theorem SV.flat_ones{w w':World}{S S':aK}{μ:Nat→Value}{objs:List (Nat×Ob)} : ∀(x:List SV) (v:List Value),SV.flatL x=true→aj w S μ objs x v→aj w' S' μ objs x v
 |[],_,_,h=>h
 |x::xs,v,hf,⟨u,us,h1,h0,h2,h3⟩=>by
  simp only[SV.flatL,Bool.and_eq_true]at hf;exact⟨u,us,h1,h0,SV.flat_rel x u hf.1 h2,SV.flat_ones xs us hf.2 h3⟩
end
theorem bE.flat{w':World}{S S':aK}{μ:Nat→Value}{objs:List (Nat×Ob)}{blk:Option Nat}{mu:Value} : ∀ {o:Ob},o.flat=true→bE w' S μ objs blk mu o→bE w' S' μ objs blk mu o
 |.box cells,hf,⟨b,vs,e,fr,h1,h2,h3,h4,h5⟩=>⟨b,vs,e,fr,h1,h2,h3,h4,SV.flat_ones cells _ hf h5⟩
 |.arr _ _ rows,_,.inl h=>.inl h
 |.arr _ _ rows,hf,.inr ⟨b,cap,vs,e,fr,k1,k2,k3,k4,k5,k6,k7,k8⟩=>.inr ⟨b,cap,vs,e,fr,k1,k2,k3,k4,k5,k6,k7,sF _ _ (mQ hf) k8⟩
 |.iter _ _,_,h=>h
 |.tab _ _ _ _,hf,_=>by simp[Ob.flat]at hf

def OX(i:Nat):Ob→SV
 |.box _=>.loc i 0
 |.arr ver _ _=>.own i ver
 |.iter _ _=>.itr i
 |.tab ver _ _ _=>.town i ver

structure MC where
 args:List SV
 objs:List (Nat×Ob)
 res:SV
 objs':List (Nat×Ob)
 ro':List Nat
 ro:List Nat:=[]

def oe(gl:List (Nat×List IV))(P:Program)(k:FuncId)(c:MC):Prop:=
 rO P k∧∀(w:World) (S:aK) (μ:Nat→Value) (β:Nat→Option Nat) (vs:List Value),(∀b o,S b o→b<w.heap.size)→(∀p,p∈gl→io w S p)→
  aZ w S μ c.objs c.args vs→(∀id o,ac c.objs id=some o→bE w S μ c.objs (β id) (μ id) o)→
  (∀id id' o o' b,ac c.objs id=some o→ac c.objs id'=some o'→β id=some b→β id'=some b→id=id')→
  (∀id o b off,ac c.objs id=some o→β id=some b→S b off→id∈c.ro∧∀ver s rows,o=.arr ver s rows→off<rows.length*s)→
  jp P k vs.toArray w fun e w'=>∃(v:Value) (S':aK) (μ':Nat→Value) (β':Nat→Option Nat),e=.returned v∧an w' S' μ' c.objs' c.res v∧
   (∀id o,ac c.objs' id=some o→bE w' S' μ' c.objs' (β' id) (μ' id) o)∧
   (∀id id' o o' b,ac c.objs' id=some o→ac c.objs' id'=some o'→β' id=some b→β' id'=some b→id=id')∧
   (∀id o b,ac c.objs' id=some o→β' id=some b→w.heap.size≤b∨∃i x,ac c.objs i=some x∧β i=some b)∧
   (∀id o b off,ac c.objs' id=some o→β' id=some b→S' b off→id∈c.ro'∧∀ver s rows,o=.arr ver s rows→off<rows.length*s)∧
   (∀b o,S' b o→b<w'.heap.size)∧(∀b o,S b o→S' b o)∧(∀b o,S' b o→S b o∨w.heap.size≤b∨∃i x,ac c.objs i=some x∧β i=some b)∧
   Kept (fun b=>∃i x,ac c.objs i=some x∧β i=some b) w w'∧
   (∀id o,ac c.objs id=some o→an w' S' μ' c.objs' (OX id o) (μ id))∧
   (∀b o,S b o→w'.cell? ⟨b,o,none⟩=w.cell? ⟨b,o,none⟩)
end Go.Vs
set_option linter.unusedVariables false
set_option linter.unusedSimpArgs false
namespace Go.Vs

def xd(objs:List (Nat×Ob))(ρ:List (Nat×Nat)):List SV→List SV→List Nat→Prop
 |[],[],fz=>fz=[]
 |x::xs,.val iv::ys,fz=>∃f g,zn objs x=some (iv,f)∧xd objs ρ xs ys g∧fz=f++g
 |x::xs,y::ys,fz=>x=y.ren ρ∧xd objs ρ xs ys fz
 |_,_,_=>False
def xe(objs:List (Nat×Ob))(ρ:List (Nat×Nat)):List (Nat×Ob)→Prop
 |[]=>True
 |(i,o)::r=>ac objs (ren ρ i)=some (o.ren ρ)∧xe objs ρ r
theorem pc{objs:List (Nat×Ob)}{ρ:List (Nat×Nat)} : ∀ {l:List (Nat×Ob)},xe objs ρ l→∀i o,ac l i=some o→ac objs (ren ρ i)=some (o.ren ρ)
 |[],_,_,_,h=>by simp[ac]at h
 |(j,x)::r,hm,i,o,h=>by
  simp only[ac]at h;cases hj:j==i
  ·rw[hj]at h;exact pc hm.2 i o h
  ·rw[hj]at h;rw[beq_iff_eq]at hj;simp only[cond_true,E_]at h;subst h;subst hj;exact hm.1

def dw:Ob→Option Ob→Bool
 |.box _,some (.box _)=>true
 |.arr _ s _,some (.arr _ s' _)=>s==s'
 |.tab _ s _ _,some (.tab _ s' _ _)=>s==s'
 |_,_=>false
def jK(ρ:List (Nat×Nat))(objs:List (Nat×Ob)):List (Nat×Ob)→Nat→Bool
 |[],_=>false
 |(i,_)::r,id=>((ac objs i).isNone&&ren ρ i==id)||jK ρ objs r id
def WM(σ:St)(ρ:List (Nat×Nat))(ro:List Nat)(objs':List (Nat×Ob)):List (Nat×Ob)→Bool
 |[]=>true
 |(i,o)::r=>(!σ.ro.contains (ren ρ i)||ro.contains i)&&dw o (ac objs' i)&&WM σ ρ ro objs' r
def Qe(ρ:List (Nat×Nat))(id:Nat):List (Nat×Ob)→Bool
 |[]=>true
 |(j,_)::r=>!(ren ρ j==id)&&Qe ρ id r
def Rt(ρ:List (Nat×Nat)):List (Nat×Ob)→Bool
 |[]=>true
 |(i,_)::r=>Qe ρ (ren ρ i) r&&Rt ρ r
def WN(σ:St)(ρ:List (Nat×Nat))(objs:List (Nat×Ob)):List (Nat×Ob)→Bool
 |[]=>true
 |(i,_)::r=>((ac objs i).isSome||((ac σ.objs (ren ρ i)).isNone&&decide (ren ρ i<σ.n)))&&WN σ ρ objs r
def YJ(ρ:List (Nat×Nat))(fz:List Nat):List (Nat×Ob)→Bool
 |[]=>true
 |(i,_)::r=>!fz.contains (ren ρ i)&&YJ ρ fz r
theorem Qf{ρ:List (Nat×Nat)}{fz:List Nat} : ∀ {l:List (Nat×Ob)},YJ ρ fz l=true→∀i o,ac l i=some o→ren ρ i∉fz
 |[],_,_,_,h=>by simp[ac]at h
 |(j,x)::r,hn,i,o,h=>by
  simp only[YJ,Bool.and_eq_true,Bool.not_eq_true']at hn;simp only[ac]at h;cases hj:j==i
  ·rw[hj]at h;exact Qf hn.2 i o h
  ·rw[beq_iff_eq]at hj;subst hj;simpa using hn.1
def YK(σ:St)(ρ:List (Nat×Nat))(c:MC):Bool:=
 WM σ ρ c.ro c.objs' c.objs&&Rt ρ c.objs'&&WN σ ρ c.objs c.objs'&&Kz (jK ρ c.objs c.objs') σ.env&&KA (jK ρ c.objs c.objs') σ.objs&&c.res.inKeys c.objs'&&DU c.objs' c.objs'

def ER(objs:List (Nat×Ob))(ρ:List (Nat×Nat)):List (Nat×Ob)→List (Nat×Ob)
 |[]=>objs
 |(i,o)::r=>put (ER objs ρ r) (ren ρ i) (o.ren ρ)
def Jk(c:MC):Bool:=c.res.flat&&MN c.objs'
def St.mapply(σ:St)(dst:Option Nat)(ρ:List (Nat×Nat))(c:MC)(fz:List Nat):St:=
 ⟨putD σ.env dst (c.res.ren ρ),ER σ.objs ρ c.objs',c.ro'.map (ren ρ)++((bif Jk c then []else fz)++σ.ro),σ.n,σ.gl⟩

def back(ρ:List (Nat×Nat)):List (Nat×Ob)→Nat→Option Nat
 |[],_=>none
 |(i,_)::r,id=>bif ren ρ i==id then some i else back ρ r id
theorem fZ{ρ:List (Nat×Nat)} : ∀ {l:List (Nat×Ob)} {id i:Nat},back ρ l id=some i→ren ρ i=id∧∃o,ac l i=some o
 |[],_,_,h=>by simp[back]at h
 |(j,x)::r,id,i,h=>by
  simp only[back]at h;cases hj:ren ρ j==id
  ·rw[hj]at h;obtain⟨h1,o,h2⟩:=fZ h;refine⟨h1,?_⟩;simp only[ac];cases j==i
   ·exact⟨o,h2⟩
   ·exact⟨x,rfl⟩
  ·rw[hj]at h;rw[beq_iff_eq]at hj;simp only[cond_true,E_]at h;subst h;exact⟨hj,x,by simp[ac]⟩
theorem ES{ρ:List (Nat×Nat)}{id:Nat} : ∀ {l:List (Nat×Ob)},Qe ρ id l=true→∀i o,ac l i=some o→ren ρ i≠id
 |[],_,_,_,h=>by simp[ac]at h
 |(j,x)::r,hk,i,o,h=>by
  simp only[Qe,Bool.and_eq_true,Bool.not_eq_true',beq_eq_false_iff_ne]at hk;simp only[ac]at h;cases hj:j==i
  ·rw[hj]at h;exact ES hk.2 i o h
  ·rw[beq_iff_eq]at hj;subst hj;exact hk.1
theorem uO{ρ:List (Nat×Nat)} : ∀ {l:List (Nat×Ob)},Rt ρ l=true→∀i o,ac l i=some o→back ρ l (ren ρ i)=some i
 |[],_,_,_,h=>by simp[ac]at h
 |(j,x)::r,hk,i,o,h=>by
  simp only[Rt,Bool.and_eq_true]at hk;simp only[ac]at h;simp only[back];cases hj:j==i
  ·rw[hj]at h;have:ren ρ i≠ren ρ j:=ES hk.1 i o h;have:(ren ρ j==ren ρ i)=false:=by simpa using this.symm
   rw[this];exact uO hk.2 i o h
  ·rw[beq_iff_eq]at hj;subst hj;simp
theorem rS{ρ:List (Nat×Nat)} : ∀ {l:List (Nat×Ob)} {id:Nat},back ρ l id=none→∀i o,ac l i=some o→ren ρ i≠id
 |[],_,_,_,_,h=>by simp[ac]at h
 |(j,x)::r,id,hb,i,o,h=>by
  simp only[back]at hb;cases hj:ren ρ j==id
  ·rw[hj]at hb;simp only[ac]at h;cases hji:j==i
   ·rw[hji]at h;exact rS hb i o h
   ·rw[beq_iff_eq]at hji;subst hji;simpa using hj
  ·rw[hj]at hb;simp at hb
theorem Jl{objs:List (Nat×Ob)}{ρ:List (Nat×Nat)} : ∀ {l:List (Nat×Ob)},Rt ρ l=true→∀id,ac (ER objs ρ l) id=match back ρ l id with
  |some i=>(ac l i).map (Ob.ren ρ)
  |none=>ac objs id
 |[],_,_=>rfl
 |(j,x)::r,hk,id=>by
  simp only[Rt,Bool.and_eq_true]at hk;simp only[ER,back];rw[iK];by_cases hj:id=ren ρ j
  ·subst hj;simp[ac]
  ·rw[if_neg hj,Jl hk.2];have:(ren ρ j==id)=false:=by simpa using (fun e=>hj e.symm)
   rw[this,cond_false];cases hb:back ρ r id with
   |none=>rfl
   |some i=>
    simp only[ac];obtain⟨h1,o,h2⟩:=fZ hb;cases hji:j==i
    ·rfl
    ·exfalso;rw[beq_iff_eq]at hji;subst hji;exact hj h1.symm

theorem lH{ρ:List (Nat×Nat)}{objs:List (Nat×Ob)} : ∀ {l:List (Nat×Ob)} {i:Nat} {o:Ob},ac l i=some o→ac objs i=none→jK ρ objs l (ren ρ i)=true
 |[],_,_,h,_=>by simp[ac]at h
 |(j,x)::r,i,o,h,hn=>by
  simp only[ac]at h;simp only[jK,Bool.or_eq_true,Bool.and_eq_true];cases hj:j==i
  ·rw[hj]at h;exact .inr (lH h hn)
  ·rw[beq_iff_eq]at hj;subst hj;left;simp[hn]
theorem ET{σ:St}{ρ:List (Nat×Nat)}{objs:List (Nat×Ob)} : ∀ {l:List (Nat×Ob)} {id:Nat},WN σ ρ objs l=true→jK ρ objs l id=true→id<σ.n
 |[],_,_,h=>by simp[jK]at h
 |(j,x)::r,id,hn,h=>by
  simp only[WN,Bool.and_eq_true,Bool.or_eq_true,decide_eq_true_eq]at hn;simp only[jK,Bool.or_eq_true,Bool.and_eq_true,beq_iff_eq]at h;rcases h with⟨h1,rfl⟩|h
  ·rcases hn.1 with h2|h2
   ·cases hl:ac objs j<;>simp[hl]at h1 h2
   ·exact h2.2
  ·exact ET hn.2 h
theorem iM{σ:St}{ρ:List (Nat×Nat)}{ro:List Nat}{objs':List (Nat×Ob)} : ∀ {l:List (Nat×Ob)},WM σ ρ ro objs' l=true→∀i o,ac l i=some o→(ren ρ i∈σ.ro→i∈ro)∧dw o (ac objs' i)=true
 |[],_,_,_,h=>by simp[ac]at h
 |(j,x)::r,hn,i,o,h=>by
  simp only[WM,Bool.and_eq_true]at hn;simp only[ac]at h;cases hj:j==i
  ·rw[hj]at h;exact iM hn.2 i o h
  ·rw[hj]at h;rw[beq_iff_eq]at hj;subst hj;simp only[cond_true,E_]at h;subst h;refine⟨fun hm=>?_,hn.1.2⟩;have h1:=hn.1.1;rw[show σ.ro.contains (ren ρ j)=true by simpa using hm]at h1;simpa using h1
theorem CG{l':List (Nat×Ob)} : ∀ {l:List (Nat×Ob)},DU l' l=true→∀i o,ac l i=some o→o.inKeys l'=true
 |[],_,_,_,h=>by simp[ac]at h
 |(j,x)::r,hn,i,o,h=>by
  simp only[DU,Bool.and_eq_true]at hn;simp only[ac]at h;cases hj:j==i
  ·rw[hj]at h;exact CG hn.2 i o h
  ·rw[hj]at h;simp only[cond_true,E_]at h;subst h;exact hn.1

mutual
theorem sK{D:Nat→Bool}{n:Nat}(hD:∀i,D i=true→i<n):∀x:SV,(∀d,d<n→x.noRef d=true)→x.clear D=true
 |.undef,_=>rfl
 |.val _,_=>rfl
 |.nils,_=>rfl
 |.full _,_=>rfl
 |.own id _,h=>by
  simp only[SV.clear,Bool.not_eq_true'];cases hd:D id with
  |false=>rfl
  |true=>have:=h id (hD id hd);simp[SV.noRef]at this
 |.loc id _,h=>by
  simp only[SV.clear,Bool.not_eq_true'];cases hd:D id with
  |false=>rfl
  |true=>have:=h id (hD id hd);simp[SV.noRef]at this
 |.eloc id _ _ _,h=>by
  simp only[SV.clear,Bool.not_eq_true'];cases hd:D id with
  |false=>rfl
  |true=>have:=h id (hD id hd);simp[SV.noRef]at this
 |.view id _ _ _,h=>by
  simp only[SV.clear,Bool.not_eq_true'];cases hd:D id with
  |false=>rfl
  |true=>have:=h id (hD id hd);simp[SV.noRef]at this
 |.agg cells,h=>nl hD cells h
 |.clo _ caps,h=>nl hD caps h
 |.tup caps,h=>nl hD caps h
 |.ifc _ v,h=>sK hD v h
 |.anyB,_=>rfl
 |.selfN id t nn,h=>by
  simp only[SV.clear,Bool.not_eq_true'];cases hd:D id with
  |false=>rfl
  |true=>have:=h id (hD id hd);simp[SV.noRef]at this
 |.ownT id ver t,h=>by
  simp only[SV.clear,Bool.not_eq_true'];cases hd:D id with
  |false=>rfl
  |true=>have:=h id (hD id hd);simp[SV.noRef]at this
 |.itr id,h=>by
  simp only[SV.clear,Bool.not_eq_true'];cases hd:D id with
  |false=>rfl
  |true=>have:=h id (hD id hd);simp[SV.noRef]at this
 |.nilT,_=>rfl
 |.town id _,h=>by
  simp only[SV.clear,Bool.not_eq_true'];cases hd:D id with
  |false=>rfl
  |true=>have:=h id (hD id hd);simp[SV.noRef]at this
 |.teloc id _ _ _,h=>by
  simp only[SV.clear,Bool.not_eq_true'];cases hd:D id with
  |false=>rfl
  |true=>have:=h id (hD id hd);simp[SV.noRef]at this
theorem nl{D:Nat→Bool}{n:Nat}(hD:∀i,D i=true→i<n):∀x:List SV,(∀d,d<n→SV.noRefs d x=true)→pu D x=true
 |[],_=>rfl
 |x::xs,h=>by
  simp only[pu,Bool.and_eq_true];have h':∀d,d<n→x.noRef d=true∧SV.noRefs d xs=true:=fun d hd=>by simpa[SV.noRefs]using h d hd
  exact⟨sK hD x (fun d hd=>(h' d hd).1),nl hD xs (fun d hd=>(h' d hd).2)⟩
end

section
variable {P:Program} {w0 w:World} {S0 S:aK} {M:Ctx} {σ:St} {a:Act} {μ:Nat→Value} {β:Nat→Option Nat} {o:Oper}

theorem MO(h:SimG w0 S0 M σ a w S μ β){ρ:List (Nat×Nat)}{objs':List (Nat×Ob)}(hl:∀i o,ac objs' i=some o→ac σ.objs (ren ρ i)=some (o.ren ρ)):∀ {xs ys:List SV} {fz fz':List Nat} {vs:List Value},xd σ.objs ρ xs ys fz→(∀i,i∈fz→i∈fz')→
  aZ w S μ σ.objs xs vs→aZ w (cT S β σ.objs fz') (fun i=>μ (ren ρ i)) objs' ys vs:=by
 intro xs
 induction xs with
 |nil=>
  intro ys fz fz' vs hm hf hr;cases ys with
  |nil=>exact hr
  |cons y ys=>simp[xd]at hm
 |cons x xs ih=>
  intro ys fz fz' vs hm hf hr;obtain⟨u,us,h1,h2,h3⟩:=hr;cases ys with
  |nil=>simp[xd]at hm
  |cons y ys=>
   have named:x=y.ren ρ∧xd σ.objs ρ xs ys fz→aZ w (cT S β σ.objs fz') (fun i=>μ (ren ρ i)) objs' (y::ys) vs:=by
    rintro⟨rfl,hm2⟩;exact⟨u,us,h1,an.unren hl (fun _ _ _=>rfl) y u (an.mono (bq.refl _ _) (fun _ _ x=>.inl x) _ _ h2),ih hm2 hf h3⟩
   cases y with
   |val iv=>
    obtain⟨f,g,e1,e2,rfl⟩:=hm;exact⟨u,us,h1,kN h e1 (fun i hi=>hf i (List.mem_append_left _ hi)) h2,ih e2 (fun i hi=>hf i (List.mem_append_right _ hi)) h3⟩
   |_=>exact named hm

theorem MP(h:SimG w0 S0 M σ a w S μ β){dst:Option Nat}(hd:∀d,dst=some d→d<σ.n){c:MC}{ρ:List (Nat×Nat)}{fz:List Nat}(hok:YK σ ρ c=true)(hobjs:xe σ.objs ρ c.objs)
  {w':World} {v:Value} {S':aK} {μ':Nat→Value} {β':Nat→Option Nat}
  (r1:an w' S' μ' c.objs' c.res v) (r2:∀id o,ac c.objs' id=some o→bE w' S' μ' c.objs' (β' id) (μ' id) o)
  (r3:∀id id' o o' b,ac c.objs' id=some o→ac c.objs' id'=some o'→β' id=some b→β' id'=some b→id=id')
  (r4:∀id o b,ac c.objs' id=some o→β' id=some b→w.heap.size≤b∨∃i x,ac c.objs i=some x∧β (ren ρ i)=some b)
  (r5:∀id o b off,ac c.objs' id=some o→β' id=some b→S' b off→id∈c.ro'∧∀ver s rows,o=.arr ver s rows→off<rows.length*s)
  (r6:∀b o,S' b o→b<w'.heap.size) (r7:∀b o,cT S β σ.objs fz b o→S' b o)
  (r8:∀b o,S' b o→cT S β σ.objs fz b o∨w.heap.size≤b∨∃i x,ac c.objs i=some x∧β (ren ρ i)=some b)
  (r9:Kept (fun b=>∃i x,ac c.objs i=some x∧β (ren ρ i)=some b) w w')
  (r10:∀id o,ac c.objs id=some o→an w' S' μ' c.objs' (OX id o) (μ (ren ρ id)))
  (r11:∀b o,cT S β σ.objs fz b o→w'.cell? ⟨b,o,none⟩=w.cell? ⟨b,o,none⟩) :
  cS w0 S0 M (σ.mapply dst ρ c fz) (a.put dst v) w':=by
 simp only[YK,Bool.and_eq_true]at hok;obtain⟨⟨⟨⟨⟨⟨k1,k2⟩,k3⟩,k4⟩,k5⟩,k6⟩,k7⟩:=hok;have hlook:=fun id=>Jl (objs:=σ.objs) (l:=c.objs') k2 id
 have hfoot:∀ {b:Nat},(∃i x,ac c.objs i=some x∧β (ren ρ i)=some b)→∃i x,ac c.objs i=some x∧ac σ.objs (ren ρ i)=some (x.ren ρ)∧β (ren ρ i)=some b∧True:=by
  rintro b ⟨i,x,h1,h2⟩;exact⟨i,x,h1,pc hobjs i x h1,h2,trivial⟩
 have hlive:∀id x b,ac σ.objs id=some x→β id=some b→b<w.heap.size:=fun id x b hx hb=>bE.live hb (h.objs id x hx)
 have hblk:∀b,b<w.heap.size→¬(∃i x,ac c.objs i=some x∧β (ren ρ i)=some b)→w'.heap[b]?=w.heap[b]?:=fun b hb hn=>r9.block b hb hn
 have hkeeps:bq S w w':=⟨fun b off hS=>r11 b off (.inl hS),r9.shape⟩
 obtain⟨S'',s1,s2,s3,s4,s5,s6,s7⟩:∃S'':aK,(∀b off,S b off→S'' b off)∧(∀b off,S'' b off→b<w'.heap.size)∧
   (∀b off,S'' b off→S0 b off∨w0.heap.size≤b∨M.blocks b)∧
   an w' S'' μ' c.objs' c.res v∧(∀id o,ac c.objs' id=some o→bE w' S'' μ' c.objs' (β' id) (μ' id) o)∧
   (∀id o b off,ac c.objs' id=some o→β' id=some b→S'' b off→id∈c.ro'∧∀ver s rows,o=.arr ver s rows→off<rows.length*s)∧
   (∀id o b off,ac σ.objs id=some o→β id=some b→back ρ c.objs' id=none→S'' b off→id∈(bif Jk c then []else fz)++σ.ro∧∀ver s rows,o=.arr ver s rows→off<rows.length*s):=by
  cases hfl:Jk c with
  |true=>
   simp only[Jk,Bool.and_eq_true]at hfl;refine⟨S,fun _ _ x=>x,fun b off hS=>Nat.lt_of_lt_of_le (h.stab b off hS) r9.size,h.back,SV.flat_rel _ _ hfl.1 r1,fun id o hl=>bE.flat (Jj hfl.2 id o hl) (r2 id o hl),?_,?_⟩
   ·intro id o b off hl hb hS;exact r5 id o b off hl hb (r7 b off (.inl hS))
   ·intro id o b off hl hb _ hS;exact h.unst id o b off hl hb hS
  |false=>
   refine⟨S',fun b off hS=>r7 b off (.inl hS),r6,?_,r1,r2,r5,?_⟩
   ·intro b off hS;rcases r8 b off hS with h1|h1|h1
    ·exact(h.freeze fz).back b off h1
    ·have:=h.kept.size;exact .inr (.inl (by omega))
    ·obtain⟨i,x,_,h2,h3,_⟩:=hfoot h1;exact .inr (h.own _ _ b h2 h3)
   ·intro id o b off hl hb hbk hS;rcases r8 b off hS with h1|h1|h1
    ·exact(h.freeze fz).unst id o b off hl hb h1
    ·have:=hlive id o b hl hb;omega
    ·exfalso;obtain⟨i,x,h2,h3,h4,_⟩:=hfoot h1;have hid:=h.inj id _ o _ b hl h3 hb h4;have hsk:=(iM k1 i x h2).2;cases hl':ac c.objs' i with
     |none=>rw[hl']at hsk;cases x<;>simp[dw]at hsk
     |some y=>exact rS hbk i y hl' hid.symm
 refine⟨S'',fun id=>match back ρ c.objs' id with|some i=>μ' i|none=>μ id,fun id=>match back ρ c.objs' id with|some i=>β' i|none=>β id,?_⟩;have hD:∀id,jK ρ c.objs c.objs' id=true→id<σ.n:=fun id hn=>ET k3 hn
 have hb:∀id cells,jK ρ c.objs c.objs' id=false→ac (ER σ.objs ρ c.objs') id=some (.box cells)→∃cells',ac σ.objs id=some (.box cells')∧(match back ρ c.objs' id with|some i=>μ' i|none=>μ id)=μ id:=by
  intro id cells hD hl;rw[hlook]at hl;cases hbk:back ρ c.objs' id with
  |none=>rw[hbk]at hl;exact⟨cells,hl,rfl⟩
  |some i=>
   rw[hbk]at hl;obtain⟨rfl,y,hy⟩:=fZ hbk;cases hx:ac c.objs i with
   |none=>rw[lH hy hx]at hD;simp at hD
   |some x=>
    have hsk:=(iM k1 i x hx).2;simp only[hy,Option.map_some,E_]at hl;rw[hy]at hsk;cases y with
    |arr _ _ _=>simp[Ob.ren]at hl
    |iter _ _=>simp[Ob.ren]at hl
    |tab _ _ _ _=>simp[Ob.ren]at hl
    |box cy=>
     cases x with
     |arr _ _ _=>simp[dw]at hsk
     |iter _ _=>simp[dw]at hsk
     |tab _ _ _ _=>simp[dw]at hsk
     |box cx=>
      obtain⟨b,e1,e2⟩:=r10 i _ hx _ hy;exact⟨_,pc hobjs i _ hx,by simp only;rw[e1,e2]⟩
 have ha:∀id cv s rows,jK ρ c.objs c.objs' id=false→ac (ER σ.objs ρ c.objs') id=some (.arr cv s rows)→∃cv' rows',ac σ.objs id=some (.arr cv' s rows')∧cv'≤cv∧(cv'=cv→rows'.length=rows.length∧(match back ρ c.objs' id with|some i=>μ' i|none=>μ id)=μ id):=by
  intro id cv s rows hD hl;rw[hlook]at hl;cases hbk:back ρ c.objs' id with
  |none=>rw[hbk]at hl;exact⟨cv,rows,hl,Nat.le_refl _,fun _=>⟨rfl,rfl⟩⟩
  |some i=>
   rw[hbk]at hl;obtain⟨rfl,y,hy⟩:=fZ hbk;cases hx:ac c.objs i with
   |none=>rw[lH hy hx]at hD;simp at hD
   |some x=>
    have hsk:=(iM k1 i x hx).2;simp only[hy,Option.map_some,E_]at hl;rw[hy]at hsk;cases y with
    |box _=>simp[Ob.ren]at hl
    |iter _ _=>simp[Ob.ren]at hl
    |tab _ _ _ _=>simp[Ob.ren]at hl
    |arr cv1 s1 rows1=>
     simp only[Ob.ren,Ob.arr.injEq]at hl;obtain⟨rfl,rfl,rfl⟩:=hl;cases x with
     |box cx=>simp[dw]at hsk
     |iter _ _=>simp[dw]at hsk
     |tab _ _ _ _=>simp[dw]at hsk
     |arr cv0 s0 rows0=>
      simp only[dw,beq_iff_eq]at hsk;subst hsk;have hσ:=pc hobjs i _ hx;obtain⟨e1,e2⟩:=r10 i _ hx _ _ _ hy;refine⟨cv0,rows0,hσ,e1,fun e=>?_⟩;have e3:=e2 e;refine⟨?_,e3.symm⟩;have o1:=h.objs _ _ hσ;have o2:=r2 i _ hy;rw[←e3]at o2;rcases o1 with⟨z1,_,x1,z2⟩|⟨_,_,_,_,_,_,z2,_⟩<;>rcases o2 with⟨z3,_,x2,z4⟩|⟨_,_,_,_,_,_,z4,_⟩
      ·rw[z1,z3]
      ·rw[z2]at z4;simp only[Value.slice.injEq]at z4;rw[z1,←z4.2.1];rfl
      ·rw[z2]at z4;simp only[Value.slice.injEq]at z4;rw[z3,z4.2.1];rfl
      ·rw[z2]at z4;simp only[Value.slice.injEq]at z4;exact z4.2.1
 have hi:∀id s p,jK ρ c.objs c.objs' id=false→ac (ER σ.objs ρ c.objs') id=some (.iter s p)→∃s' p',ac σ.objs id=some (.iter s' p')∧(match back ρ c.objs' id with|some i=>μ' i|none=>μ id)=μ id:=by
  intro id s p hD hl;rw[hlook]at hl;cases hbk:back ρ c.objs' id with
  |none=>rw[hbk]at hl;exact⟨s,p,hl,rfl⟩
  |some i=>
   rw[hbk]at hl;obtain⟨rfl,y,hy⟩:=fZ hbk;cases hx:ac c.objs i with
   |none=>rw[lH hy hx]at hD;simp at hD
   |some x=>
    have hsk:=(iM k1 i x hx).2;simp only[hy,Option.map_some,E_]at hl;rw[hy]at hsk;cases y with
    |arr _ _ _=>simp[Ob.ren]at hl
    |box _=>simp[Ob.ren]at hl
    |tab _ _ _ _=>simp[Ob.ren]at hl
    |iter _ _=>cases x<;>simp[dw]at hsk
 have ht:∀id cv s rows ln,jK ρ c.objs c.objs' id=false→ac (ER σ.objs ρ c.objs') id=some (.tab cv s rows ln)→∃cv' rows' ln',ac σ.objs id=some (.tab cv' s rows' ln')∧cv'≤cv∧(cv'=cv→rows'.length=rows.length∧(match back ρ c.objs' id with|some i=>μ' i|none=>μ id)=μ id):=by
  intro id cv s rows ln hD hl;rw[hlook]at hl;cases hbk:back ρ c.objs' id with
  |none=>rw[hbk]at hl;exact⟨cv,rows,ln,hl,Nat.le_refl _,fun _=>⟨rfl,rfl⟩⟩
  |some i=>
   rw[hbk]at hl;obtain⟨rfl,y,hy⟩:=fZ hbk;cases hx:ac c.objs i with
   |none=>rw[lH hy hx]at hD;simp at hD
   |some x=>
    have hsk:=(iM k1 i x hx).2;simp only[hy,Option.map_some,E_]at hl;rw[hy]at hsk;cases y with
    |box _=>simp[Ob.ren]at hl
    |iter _ _=>simp[Ob.ren]at hl
    |arr _ _ _=>simp[Ob.ren]at hl
    |tab cv1 s1 rows1 ln1=>
     simp only[Ob.ren,Ob.tab.injEq]at hl;obtain⟨rfl,rfl,rfl,_⟩:=hl;cases x with
     |box cx=>simp[dw]at hsk
     |iter _ _=>simp[dw]at hsk
     |arr _ _ _=>simp[dw]at hsk
     |tab cv0 s0 rows0 ln0=>
      simp only[dw,beq_iff_eq]at hsk;subst hsk;have hσ:=pc hobjs i _ hx;obtain⟨e1,e2⟩:=r10 i _ hx _ _ _ _ hy;refine⟨cv0,rows0,_,hσ,e1,fun e=>?_⟩;have e3:=e2 e;refine⟨?_,e3.symm⟩;have o1:=h.objs _ _ hσ;have o2:=r2 i _ hy;rw[←e3]at o2;rcases o1 with⟨z1,_,_,x1,z2⟩|⟨_,_,_,_,_,_,z2,_⟩<;>rcases o2 with⟨z3,_,_,x2,z4⟩|⟨_,_,_,_,_,_,z4,_⟩
      ·rw[z1,z3]
      ·rw[z2]at z4;simp only[Value.slice.injEq]at z4;rw[z1,←z4.2.1];rfl
      ·rw[z2]at z4;simp only[Value.slice.injEq]at z4;rw[z3,z4.2.1];rfl
      ·rw[z2]at z4;simp only[Value.slice.injEq]at z4;exact z4.2.1
 have hren:∀i o,ac c.objs' i=some o→ac (ER σ.objs ρ c.objs') (ren ρ i)=some (o.ren ρ):=by
  intro i o hl;simp only[hlook,uO k2 i o hl,hl,Option.map_some]
 have hmu:∀i o,ac c.objs' i=some o→(match back ρ c.objs' (ren ρ i)with|some j=>μ' j|none=>μ (ren ρ i))=μ' i:=by
  intro i o hl;simp only[uO k2 i o hl]
 have base:SimG w0 S0 M {σ with objs:=ER σ.objs ρ c.objs',ro:=c.ro'.map (ren ρ)++((bif Jk c then []else fz)++σ.ro) } a w' S'' (fun id=>match back ρ c.objs' id with|some i=>μ' i|none=>μ id) (fun id=>match back ρ c.objs' id with|some i=>β' i|none=>β id):=by
  refine {defers:=h.defers,size:=h.size,env:=?_,objs:=?_,inj:=?_,own:=?_,unst:=?_,stab:=s2,ext:=fun b o hS=>s1 b o (h.ext b o hS),back:=s3,kept:=?_,stay:=fun b o hb=>(hkeeps.1 b o (h.ext b o hb)).trans (h.stay b o hb),hist:=?_,far:=h.far,glob:=?_ }
  ·intro k;exact an.step hb ha hi ht _ _ (EP k4 k) (an.mono hkeeps s1 _ _ (h.env k))
  ·intro id o hl;have hl':=hl;rw[hlook]at hl;cases hbk:back ρ c.objs' id with
   |none=>
    rw[hbk]at hl;have ho:=h.objs id o hl
    have hnf:∀b,β id=some b→¬(∃i x,ac c.objs i=some x∧β (ren ρ i)=some b):=by
     intro b hbb hf;obtain⟨i,x,h2,h3,h4,_⟩:=hfoot hf;have hid:=h.inj id _ o _ b hl h3 hbb h4;have hsk:=(iM k1 i x h2).2;cases hl':ac c.objs' i with
     |none=>rw[hl']at hsk;cases x<;>simp[dw]at hsk
     |some y=>exact rS hbk i y hl' hid.symm
    have ho':=bE.move hkeeps s1 (fun b hbb=>hblk b (hlive id o b hl hbb) (hnf b hbb)) ho;have hcl:=EQ k5 id o hl;cases o with
    |arr v' s' r'=>exact ho'
    |iter _ _=>exact ho'
    |tab v1 s1 r1 l1=>
     rcases ho' with ho'|⟨b,cap,vs,e,fr,q1,q2,q3,q4,q5,q6,q7,q8,q9⟩
     ·exact .inl ho'
     exact .inr ⟨b,cap,vs,e,fr,q1,q2,q3,q4,q5,q6,q7,q8,bf.step hb ha hi ht hcl q9⟩
    |box cells=>
     obtain⟨b,vs,e,fr,q1,q2,q3,q4,q5⟩:=ho';exact⟨b,vs,e,fr,q1,q2,q3,q4,aj.step hb ha hi ht _ _ hcl q5⟩
   |some i=>
    rw[hbk]at hl;obtain⟨rfl,y,hy⟩:=fZ hbk;simp only[hy,Option.map_some,E_]at hl;subst hl;have ho:=s5 i y hy;have hik:=CG k7 i y hy;cases y with
    |arr v' s' r'=>exact ho
    |iter _ _=>exact ho
    |tab v1 s1 r1 l1=>
     rcases ho with⟨q1,q2,q3⟩|⟨b,cap,vs,e,fr,q1,q2,q3,q4,q5,q6,q7,q8,q9⟩
     ·exact .inl ⟨q1,by rw[q2];rfl,q3⟩
     exact .inr ⟨b,cap,vs,e,fr,q1,q2,q3,q4,q5,q6,q7,q8,bf.renamed hren hmu hik q9⟩
    |box cells=>
     obtain⟨b,vs,e,fr,q1,q2,q3,q4,q5⟩:=ho;exact⟨b,vs,e,fr,q1,q2,q3,q4,aj.renamed hren hmu _ _ hik q5⟩
  ·intro id id' o o' b hl hl' hbb hbb';rw[hlook]at hl hl';cases hbk:back ρ c.objs' id with
   |none=>
    simp only[hbk]at hl hbb;cases hbk':back ρ c.objs' id' with
    |none=>
     simp only[hbk']at hl' hbb';exact h.inj id id' o o' b hl hl' hbb hbb'
    |some i=>
     exfalso;simp only[hbk']at hl' hbb';obtain⟨rfl,y,hy⟩:=fZ hbk';rcases r4 i y b hy hbb' with h1|h1
     ·have:=hlive id o b hl hbb;omega
     ·obtain⟨j,x,h2,h3,h4,_⟩:=hfoot h1;have hid:=h.inj id _ o _ b hl h3 hbb h4;have hsk:=(iM k1 j x h2).2;cases hl':ac c.objs' j with
      |none=>rw[hl']at hsk;cases x<;>simp[dw]at hsk
      |some y=>exact rS hbk j y hl' hid.symm
   |some i=>
    simp only[hbk]at hl hbb;obtain⟨rfl,y,hy⟩:=fZ hbk;cases hbk':back ρ c.objs' id' with
    |none=>
     exfalso;simp only[hbk']at hl' hbb';rcases r4 i y b hy hbb with h1|h1
     ·have:=hlive id' o' b hl' hbb';omega
     ·obtain⟨j,x,h2,h3,h4,_⟩:=hfoot h1;have hid:=h.inj id' _ o' _ b hl' h3 hbb' h4;have hsk:=(iM k1 j x h2).2;cases hl'':ac c.objs' j with
      |none=>rw[hl'']at hsk;cases x<;>simp[dw]at hsk
      |some y=>exact rS hbk' j y hl'' hid.symm
    |some i'=>
     simp only[hbk']at hl' hbb';obtain⟨rfl,y',hy'⟩:=fZ hbk';rw[r3 i i' y y' b hy hy' hbb hbb']
  ·intro id o b hl hbb;rw[hlook]at hl;cases hbk:back ρ c.objs' id with
   |none=>simp only[hbk]at hl hbb;exact h.own id o b hl hbb
   |some i=>
    simp only[hbk]at hl hbb;obtain⟨rfl,y,hy⟩:=fZ hbk;rcases r4 i y b hy hbb with h1|h1
    ·have:=h.kept.size;exact .inl (by omega)
    ·obtain⟨j,x,_,h3,h4,_⟩:=hfoot h1;exact h.own _ _ b h3 h4
  ·intro id o b off hl hbb hS;rw[hlook]at hl;cases hbk:back ρ c.objs' id with
   |none=>
    simp only[hbk]at hl hbb;obtain⟨q1,q2⟩:=s7 id o b off hl hbb hbk hS;exact⟨List.mem_append_right _ q1,q2⟩
   |some i=>
    simp only[hbk]at hl hbb;obtain⟨rfl,y,hy⟩:=fZ hbk;obtain⟨q1,q2⟩:=s6 i y b off hy hbb hS;refine⟨List.mem_append_left _ (List.mem_map_of_mem q1),fun ver s rows e=>?_⟩;subst e;simp only[hy,Option.map_some,E_]at hl;cases y with
    |box _=>simp[Ob.ren]at hl
    |iter _ _=>simp[Ob.ren]at hl
    |tab _ _ _ _=>simp[Ob.ren]at hl
    |arr v1 s1 r1=>
     simp only[Ob.ren,Ob.arr.injEq]at hl;obtain⟨_,rfl,rfl⟩:=hl;exact q2 _ _ _ rfl
  ·refine⟨r9.os.trans h.kept.os,r9.tape.trans h.kept.tape,r9.output.trans h.kept.output,Nat.le_trans h.kept.size r9.size,fun k hk hM=>?_,fun k x hx=>r9.shape _ _ (h.kept.shape _ _ hx)⟩;rw[←h.kept.block k hk hM];refine hblk k (Nat.lt_of_lt_of_le hk h.kept.size) (fun hf=>?_);obtain⟨i,x,_,h3,h4,_⟩:=hfoot hf;rcases h.own _ _ k h3 h4 with h5|h5
   ·omega
   ·exact hM h5
  ·intro p hp;exact an.step hb ha hi ht _ _ (sK hD _ (h.far p hp)) (an.mono hkeeps s1 _ _ (h.hist p hp))
  ·intro p hp;exact io.mono hkeeps s1 (h.glob p hp)
 exact base.putD hd (an.renamed hren hmu _ _ k6 s4)

def MQ(σ:St)(f:SV)(args:List Opd):Option (FuncId×List SV):=match f with
 |.val (.fn k caps)=>some (k,args.map (val σ)++caps.map .val)
 |.clo k caps=>some (k,args.map (val σ)++caps)
 |_=>none

theorem aZ.append{objs:List (Nat×Ob)} : ∀ {xs ys:List SV} {us vs:List Value},aZ w S μ objs xs us→aZ w S μ objs ys vs→aZ w S μ objs (xs++ys) (us++vs)
 |[],_,_,_,h,k=>by have h:_=_:=h;subst h;exact k
 |_::_,_,_,_,⟨u,us',h1,h2,h3⟩,k=>by subst h1;exact⟨u,us'++_,rfl,h2,aZ.append h3 k⟩
theorem aZ.ofRep{objs:List (Nat×Ob)} : ∀ {xs:List IV} {vs:List Value},bp w S xs vs→aZ w S μ objs (xs.map .val) vs
 |[],_,h=>h
 |_::_,_,⟨u,us,h1,h2,h3⟩=>⟨u,us,h1,h2,aZ.ofRep h3⟩

theorem TB(h:SimG w0 S0 M σ a w S μ β)(hd:∀d,o.dst=some d→d<σ.n){c:Call}{f:Operand}(ho:o.op=.call c)(hcl:c.callee=.value f){fv:SV}(hfv:an w S μ σ.objs fv (a.eval f)){args:List Opd}(hargs:dm c.args.toList=some args)
  {k:FuncId} {vals:List SV} (hca:MQ σ fv args=some (k,vals)) {mc:MC} (hF:oe σ.gl P k mc) {ρ:List (Nat×Nat)} {fz:List Nat} (hok:YK σ ρ mc=true) (hobjs:xe σ.objs ρ mc.objs) (hma:xd σ.objs ρ vals mc.args fz) (hfz:YJ ρ fz mc.objs=true) {next:Act→World→Prop} {Q:Exit→Act→World→Prop}
  (hn:∀v w',cS w0 S0 M (σ.mapply o.dst ρ mc fz) (a.put o.dst v) w'→next (a.put o.dst v) w'):o.wp P a w next Q:=by
 have har:=mM h hargs
 obtain⟨caps',hev,hvals⟩:∃caps':Array Value,a.eval f=.func (.func k) #[] caps'∧aZ w S μ σ.objs vals ((c.args.toList.map a.eval)++caps'.toList):=by
  unfold MQ at hca;split at hca
  ·next k' caps=>
   simp only[E_,Prod.mk.injEq]at hca;obtain⟨rfl,rfl⟩:=hca;obtain⟨vs,h1,h2⟩:=hfv;exact⟨vs,h1,aZ.append har (aZ.ofRep h2)⟩
  ·next k' caps=>
   simp only[E_,Prod.mk.injEq]at hca;obtain⟨rfl,rfl⟩:=hca;obtain⟨vs,h1,h2⟩:=hfv;exact⟨vs,h1,aZ.append har h2⟩
  ·simp at hca
 obtain⟨⟨fn,hfn,hname⟩,hcalls⟩:=hF
 have hrun:(execOp a.eval o).run P w=(callFunc k (c.args.map a.eval++caps')).run P w:=by
  simp only[execOp,ho,resolve,hcl,hev,Deferred.ofValue,Sem.run_bind,Sem.run_pure,Result.andThen_ok,invoke,Array.empty_append]
 have hv:c.args.map a.eval++caps'=((c.args.toList.map a.eval)++caps'.toList).toArray:=by
  apply Array.toList_inj.1;simp
 rw[hv]at hrun;have hl:=fun i o hlo=>pc hobjs i o hlo
 have hok':=hok;simp only[YK,Bool.and_eq_true]at hok';obtain⟨⟨⟨⟨⟨⟨k1,k2⟩,k3⟩,k4⟩,k5⟩,k6⟩,k7⟩:=hok';have hf:=h.freeze fz
 have hinjO:∀id id' o o',ac mc.objs id=some o→ac mc.objs id'=some o'→ren ρ id=ren ρ id'→id=id':=by
  intro id id' o o' h1 h2 he;have hs1:=(iM k1 id o h1).2;have hs2:=(iM k1 id' o' h2).2;cases hy1:ac mc.objs' id with
  |none=>rw[hy1]at hs1;cases o<;>simp[dw]at hs1
  |some y1=>
   cases hy2:ac mc.objs' id' with
   |none=>rw[hy2]at hs2;cases o'<;>simp[dw]at hs2
   |some y2=>
    have e1:=uO k2 id y1 hy1;have e2:=uO k2 id' y2 hy2;rw[he,e2]at e1;simpa using e1.symm
 refine uE hfn hname hrun (hcalls w (cT S β σ.objs fz) (fun i=>μ (ren ρ i)) (fun i=>β (ren ρ i)) _ hf.stab hf.glob (MO h hl hma (fun _ x=>x) hvals) ?_ ?_ ?_) ?_
 ·intro id o hlo;have hob:=h.objs _ _ (hl id o hlo);cases o with
  |iter s p=>exact bE.move (o:=.iter s p) (bq.refl _ _) (fun _ _ x=>Or.inl x) (fun _ _=>rfl) hob
  |tab v1 s1 r1 l1=>
   rcases hob with⟨q1,q2,q3⟩|⟨b,cap,vs,e,fr,q1,q2,q3,q4,q5,q6,q7,q8,q9⟩
   ·refine .inl ⟨q1,?_,q3⟩;cases l1 with
    |nil=>rfl
    |cons p r=>cases q2
   exact .inr ⟨b,cap,vs,e,fr,q1,q2,q3,q4,q5,q6,q7,ae.mono (bq.refl _ _) (fun _ _ x=>.inl x) _ _ q8,bf.unren hl (fun _ _ _=>rfl) (bf.mono (bq.refl _ _) (fun _ _ x=>.inl x) q9)⟩
  |arr v s r=>exact bE.arr_any (bE.move (o:=.arr v s r) (bq.refl _ _) (fun _ _ x=>Or.inl x) (fun _ _=>rfl) hob)
  |box cells=>
   obtain⟨b,vs,e,fr,q1,q2,q3,q4,q5⟩:=hob;exact⟨b,vs,e,fr,q1,q2,q3,q4,aj.unren hl (fun _ _ _=>rfl) _ _ (aj.mono (bq.refl _ _) (fun _ _ x=>.inl x) _ _ q5)⟩
 ·intro id id' o o' b h1 h2 h3 h4;exact hinjO id id' o o' h1 h2 (h.inj _ _ _ _ b (hl _ _ h1) (hl _ _ h2) h3 h4)
 ·intro id o b off h1 h2 hS;have hro:=(iM k1 id o h1).1;rcases hS with hS|⟨i,x,e1,e2,e3,e4⟩
  ·obtain⟨u1,u2⟩:=h.unst _ _ b off (hl _ _ h1) h2 hS;refine⟨hro u1,fun ver s rows e=>?_⟩;subst e;exact u2 ver s rows rfl
  ·exfalso;have hid:=h.inj _ _ _ _ b (hl _ _ h1) e2 h2 e3;rw[←hid]at e1;exact Qf hfz id o h1 e1
 ·rintro e w' ⟨v,S',μ',β',rfl,r1,r2,r3,r4,r5,r6,r7,r8,r9,r10,r11⟩;exact⟨v,rfl,hn v w' (MP h hd hok hobjs r1 r2 r3 r4 r5 r6 r7 r8 r9 r10 r11)⟩
end
end Go.Vs
