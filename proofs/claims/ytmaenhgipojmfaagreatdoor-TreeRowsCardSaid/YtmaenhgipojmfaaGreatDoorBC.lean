/- Value semantics, part 15: operations of a region in whatever order its edges allow. No conditions. -/
import Derived.Test.YtmaenhgipojmfaaGreatDoorBB
import Derived.ScopeJumps
set_option linter.unusedVariables false
set_option linter.unusedSimpArgs false
set_option linter.unusedVariables false
set_option linter.unusedSimpArgs false
namespace Go.Vs

structure Eff where
 ids:List Nat
 dst:Option Nat
 u:Upd

structure St.Eq (σ σ':St):Prop where
 env:∀ k,ap σ'.env k=ap σ.env k
 objs:∀ k,a8 σ'.objs k=a8 σ.objs k
 ro:∀ i,i∈σ'.ro↔i∈σ.ro
 n:σ'.n=σ.n
 gl:σ'.gl=σ.gl
theorem St.Eq.refl (σ:St):St.Eq σ σ:=⟨fun _=>rfl,fun _=>rfl,fun _=>Iff.rfl,rfl,rfl⟩
theorem St.Eq.trans {a b c:St} (h:St.Eq a b) (k:St.Eq b c):St.Eq a c:=
 ⟨fun i=>(k.env i).trans (h.env i),fun i=>(k.objs i).trans (h.objs i),fun i=>(k.ro i).trans (h.ro i),k.n.trans h.n,k.gl.trans h.gl⟩

def zC (P:Program) (σ:St) (o:VOper) (e:Eff):Prop:=sM P σ o.dst e.u o.op∧e.ids=dw σ o.op e.u∧e.dst=o.dst
def gG:SV→Option (Option Bool)
 | .val (.bool c)=>some (some c)
 | .val (.tuple [])=>some none
 | _=>none
abbrev eI:Upd:={v:=.val (.tuple []) }
def d9 (P:Program) (σ:St) (o:VOper) (e:Eff):Prop:=
 match o.guard with
 | none=>zC P σ o e
 | some (g,b)=>∃ c,gG (ap σ.env g)=some c∧((c=some b∧zC P σ o e)∨(c≠some b∧e=⟨[],o.dst,eI⟩))

def lV (dst:Option Nat) (u:Upd) (id:Nat):Option Ob:=
 match u.new,dst with
 | some o,some d=>if id=d then some (o.erase d) else none
 | _,_=>match u.wr with
  | some (i,o)=>if id=i then some o else none
  | none=>none
def ez (e:Eff) (d:Nat):Prop:=(∃ o,e.u.new=some o)∧e.dst=some d

def cE (d:Nat) (σ:St):Prop:=(∀ k,(ap σ.env k).noRef d=true)∧∀ id o,a8 σ.objs id=some o→o.noRef d=true
def mR (d:Nat) (u:Upd):Prop:=u.v.noRef d=true∧(∀ i o,u.wr=some (i,o)→o.noRef d=true)∧∀ o,u.new=some o→o.noRef d=true

theorem oE {d:Nat} {v:SV} (h:v.noRef d=true):v.erase d=v:=by unfold SV.erase;rw[h];rfl
theorem sP {d:Nat} : ∀ {l:List SV},SV.noRefs d l=true→cc d l=l
 | [],_=>rfl
 | v::r,h=>by
  simp only[SV.noRefs,Bool.and_eq_true] at h
  simp only[cc,oE h.1,sP h.2]
theorem qx {d:Nat} : ∀ {l:List (Nat×Nat×SV)},f0 d l=true→bt d l=l
 | [],_=>rfl
 | p::r,h=>by
  simp only[f0,Bool.and_eq_true] at h
  simp only[bt,oE h.1,qx h.2]
theorem BT {d:Nat} : ∀ {o:Ob},o.noRef d=true→o.erase d=o
 | .box c,h=>by simp only[Ob.erase];rw[sP h]
 | .arr _ _ _,_=>rfl
 | .iter _ _,_=>rfl
 | .tab _ _ _ ln,h=>by simp only[Ob.erase];rw[qx h]

section
variable {σ σ':St}

theorem ej {u:Upd} {o:Ob} {d:Nat} (h:u.new=some o):σ.apply (some d) u=⟨put (ba d σ.env) d u.v,aE d (put σ.objs d o),u.fz++σ.ro,σ.n,σ.gl⟩:=by
 unfold St.apply;rw[h]
theorem ek {u:Upd} {dst:Option Nat} (h:u.new=none∨dst=none):σ.apply dst u=⟨putD σ.env dst u.v,xk σ.objs u.wr,u.fz++σ.ro,σ.n,σ.gl⟩:=by
 unfold St.apply
 rcases h with h | h
 ·rw[h]
 ·subst h;cases u.new <;> rfl
theorem mS (u:Upd) (dst:Option Nat):(∃ o d,u.new=some o∧dst=some d)∨(u.new=none∨dst=none):=by
 cases u.new with
 | none=>exact .inr (.inl rfl)
 | some o=>cases dst with
  | none=>exact .inr (.inr rfl)
  | some d=>exact .inl ⟨o,d,rfl,rfl⟩
theorem AH {u:Upd} {o:Ob} {d:Nat} (h:u.new=some o) (k:Nat):lV (some d) u k=if k=d then some (o.erase d) else none:=by
 unfold lV;rw[h]
theorem pS {u:Upd} {dst:Option Nat} (h:u.new=none∨dst=none) (k:Nat):lV dst u k=match u.wr with
  | some (i,o)=>if k=i then some o else none
  | none=>none:=by
 unfold lV
 rcases h with h | h
 ·rw[h]
 ·subst h;cases u.new <;> rfl

theorem jS {dst:Option Nat} {u:Upd} (h:∀ d,(∃ o,u.new=some o)→dst=some d→cE d σ) (k:Nat):ap (σ.apply dst u).env k=if dst=some k then u.v else ap σ.env k:=by
 rcases mS u dst with ⟨o,d,hn,rfl⟩ | ho
 ·rw[ej hn]
  simp only[kb,kS]
  by_cases hk:k=d
  ·subst hk;simp
  ·rw[if_neg hk,if_neg (by simpa using fun e=>hk e.symm),oE ((h d ⟨o,hn⟩ rfl).1 k)]
 ·rw[ek ho]
  cases dst with
  | none=>simp[putD]
  | some d=>
   simp only[putD,kb]
   by_cases hk:k=d
   ·subst hk;simp
   ·rw[if_neg hk,if_neg (by simpa using fun e=>hk e.symm)]
theorem io {dst:Option Nat} {u:Upd} (h:∀ d,(∃ o,u.new=some o)→dst=some d→cE d σ) (k:Nat):a8 (σ.apply dst u).objs k=match lV dst u k with
  | some o=>some o
  | none=>a8 σ.objs k:=by
 rcases mS u dst with ⟨o,d,hn,rfl⟩ | ho
 ·rw[ej hn,AH hn]
  simp only[aF,dY]
  by_cases hk:k=d
  ·subst hk;simp
  ·simp only[if_neg hk]
   cases hl:a8 σ.objs k with
   | none=>rfl
   | some y=>
    simp only[Option.map_some]
    rw[BT ((h d ⟨o,hn⟩ rfl).2 k y hl)]
 ·rw[ek ho,pS ho]
  cases hw:u.wr with
  | none=>simp[xk]
  | some p=>
   obtain ⟨i,o⟩:=p
   simp only[xk,dY]
   by_cases hk:k=i
   ·simp[hk]
   ·simp[hk]
theorem oF {dst:Option Nat} {u:Upd} (i:Nat):i∈(σ.apply dst u).ro↔i∈u.fz∨i∈σ.ro:=by
 rcases mS u dst with ⟨o,d,hn,rfl⟩ | ho
 ·rw[ej hn];simp
 ·rw[ek ho];simp
theorem l0 {dst:Option Nat} {u:Upd} : (σ.apply dst u).n=σ.n:=by
 rcases mS u dst with ⟨o,d,hn,rfl⟩ | ho
 ·rw[ej hn]
 ·rw[ek ho]

theorem oG {dst:Option Nat} {u:Upd} : (σ.apply dst u).gl=σ.gl:=by
 rcases mS u dst with ⟨o,d,hn,rfl⟩ | ho
 ·rw[ej hn]
 ·rw[ek ho]

theorem Dk (h:St.Eq σ σ') (dst:Option Nat) (u:Upd):St.Eq (σ.apply dst u) (σ'.apply dst u):=by
 refine ⟨fun k=>?_,fun k=>?_,fun i=>?_,by rw[l0,l0,h.n],by rw[oG,oG,h.gl]⟩
 ·rcases mS u dst with ⟨o,d,hn,rfl⟩ | ho
  ·rw[ej hn,ej hn]
   simp only[kb,kS,h.env]
  ·rw[ek ho,ek ho]
   cases dst <;> simp[putD,kb,h.env]
 ·rcases mS u dst with ⟨o,d,hn,rfl⟩ | ho
  ·rw[ej hn,ej hn]
   simp only[aF,dY,h.objs]
  ·rw[ek ho,ek ho]
   cases u.wr with
   | none=>simp[xk,h.objs]
   | some p=>simp[xk,dY,h.objs]
 ·rw[oF,oF,h.ro]

theorem cE.apply {d:Nat} (h:cE d σ) {dst:Option Nat} {u:Upd} (hu:mR d u):cE d (σ.apply dst u):=by
 have er:∀ (d':Nat) (v:SV),v.noRef d=true→(v.erase d').noRef d=true:=by
  intro d' v hv
  unfold SV.erase
  cases v.noRef d'
  ·rfl
  ·exact hv
 have erl:∀ (d':Nat) (l:List SV),SV.noRefs d l=true→SV.noRefs d (cc d' l)=true:=by
  intro d' l
  induction l with
  | nil=>intro _;rfl
  | cons v r ih=>
   intro hl
   simp only[SV.noRefs,Bool.and_eq_true] at hl
   simp only[cc,SV.noRefs,Bool.and_eq_true]
   exact ⟨er d' v hl.1,ih hl.2⟩
 have ero:∀ (d':Nat) (o:Ob),o.noRef d=true→(o.erase d').noRef d=true:=by
  intro d' o ho
  cases o with
  | box c=>exact erl d' c ho
  | arr=>rfl
  | iter=>rfl
  | tab a b c ln=>
   have erln:∀ l:List (Nat×Nat×SV),f0 d l=true→f0 d (bt d' l)=true:=by
    intro l
    induction l with
    | nil=>intro _;rfl
    | cons p r ih=>
     intro hl
     simp only[f0,Bool.and_eq_true] at hl
     simp only[bt,f0,Bool.and_eq_true]
     exact ⟨er d' _ hl.1,ih hl.2⟩
   exact erln ln ho
 rcases mS u dst with ⟨o',d',hn,rfl⟩ | ho
 ·rw[ej hn]
  constructor
  ·intro k
   simp only[kb,kS]
   split
   ·exact hu.1
   ·exact er _ _ (h.1 k)
  ·intro id o ho
   simp only[aF,dY] at ho
   split at ho
   ·simp only[Option.map_some,Option.some.injEq] at ho
    subst ho
    exact ero _ _ (hu.2.2 _ hn)
   ·cases hl:a8 σ.objs id with
    | none=>rw[hl] at ho;simp at ho
    | some y=>
     rw[hl] at ho
     simp only[Option.map_some,Option.some.injEq] at ho
     subst ho
     exact ero _ _ (h.2 _ _ hl)
 ·rw[ek ho]
  constructor
  ·intro k
   cases dst with
   | none=>exact h.1 k
   | some d'=>
    simp only[putD,kb]
    split
    ·exact hu.1
    ·exact h.1 k
  ·intro id o ho
   cases hw:u.wr with
   | none=>rw[hw] at ho;exact h.2 id o ho
   | some p=>
    obtain ⟨i,x⟩:=p
    rw[hw] at ho
    simp only[xk,dY] at ho
    split at ho
    ·obtain rfl:=Option.some.inj ho
     exact hu.2.1 _ _ hw
    ·exact h.2 id o ho
end

def VOper.slots (o:VOper):List Nat:=(o.op.opds.filterMap fun | .tmp t=>some t | _=>none)++(match o.guard with | some (g,_)=>[g] | none=>[])
def IP (a b:VOper):Prop:=(∀ d,a.dst=some d→d∉b.slots∧b.dst≠some d)∧∀ d,b.dst=some d→d∉a.slots

def vF (x y:Eff):Prop:=(∀ id,lV x.dst x.u id≠none→id∉y.ids∧lV y.dst y.u id=none)∧∀ id o,y.u.wr=some (id,o)→id∉x.u.fz

section
variable {P:Program} {σ σ':St}

theorem Hc {op:VOp} (k9:σ'.gl=σ.gl) (h:∀ t,t∈(op.opds.filterMap fun | .tmp t=>some t | _=>none)→ap σ'.env t=ap σ.env t):∀ x∈op.opds,val σ' x=val σ x:=by
 intro x hx
 cases x with
 | tmp t=>exact h t (List.mem_filterMap.2 ⟨.tmp t,hx,rfl⟩)
 | const v=>rfl
 | func f=>rfl
 | glob g=>simp only[val,k9]

theorem xI {o:VOper} {e:Eff} (k9:σ'.gl=σ.gl) (h:d9 P σ o e) (hs:∀ t,t∈o.slots→ap σ'.env t=ap σ.env t) (hl:∀ i,i∈e.ids→a8 σ'.objs i=a8 σ.objs i) (hro:∀ id x,e.u.wr=some (id,x)→id∈σ'.ro→id∈σ.ro):d9 P σ' o e:=by
 have act:zC P σ o e→zC P σ' o e:=by
  rintro ⟨h1,h2,h3⟩
  have hv:=Hc (op:=o.op) (σ:=σ) (σ':=σ') k9 (fun t ht=>hs t (List.mem_append_left _ ht))
  obtain ⟨k1,k2⟩:=Hb (σ':=σ') k9 h1 hv (fun i hi=>hl i (by rw[h2];exact hi)) hro
  exact ⟨k1,by rw[k2];exact h2,h3⟩
 unfold d9 at h ⊢
 cases hg:o.guard with
 | none=>rw[hg] at h;exact act h
 | some p=>
  obtain ⟨g,b⟩:=p
  rw[hg] at h
  obtain ⟨c,h1,h2⟩:=h
  refine ⟨c,?_,h2.imp (fun h3=>⟨h3.1,act h3.2⟩) id⟩
  rw[hs g (by simp[VOper.slots,hg])]
  exact h1
theorem Fg {o:VOper} {e:Eff} (hq:St.Eq σ σ') (h:d9 P σ o e):d9 P σ' o e:=
 xI hq.gl h (fun t _=>hq.env t) (fun i _=>hq.objs i) (fun _ _ _ hi=>(hq.ro _).1 hi)
theorem Dl {o:VOper} {e:Eff} (h:d9 P σ o e):e.dst=o.dst:=by
 unfold d9 at h
 split at h
 ·exact h.2.2
 ·obtain ⟨c,_,h | h⟩:=h
  ·exact h.2.2.2
  ·rw[h.2]

theorem Hd {a b:VOper} {x y:Eff} (ha:d9 P σ a x) (hb:d9 P (σ.apply x.dst x.u) b y) (hap:IP a b) (h1:vF x y) (h2:vF y x)
  (na:∀ d,ez x d→cE d σ∧mR d y.u) (nb:∀ d,ez y d→cE d σ∧mR d x.u) :
  d9 P σ b y∧d9 P (σ.apply y.dst y.u) a x∧St.Eq ((σ.apply x.dst x.u).apply y.dst y.u) ((σ.apply y.dst y.u).apply x.dst x.u):=by
 have da:=Dl ha
 have db:=Dl hb
 have ca:∀ d,(∃ o,x.u.new=some o)→x.dst=some d→cE d σ:=fun d h k=>(na d ⟨h,k⟩).1
 have cb:∀ d,(∃ o,y.u.new=some o)→y.dst=some d→cE d σ:=fun d h k=>(nb d ⟨h,k⟩).1
 have ca':∀ d,(∃ o,x.u.new=some o)→x.dst=some d→cE d (σ.apply y.dst y.u):=fun d h k=>(na d ⟨h,k⟩).1.apply (na d ⟨h,k⟩).2
 have cb':∀ d,(∃ o,y.u.new=some o)→y.dst=some d→cE d (σ.apply x.dst x.u):=fun d h k=>(nb d ⟨h,k⟩).1.apply (nb d ⟨h,k⟩).2
 refine ⟨?_,?_,?_⟩
 ·refine xI (by simp only[oG]) hb (fun t ht=>?_) (fun i hi=>?_) (fun id o _ hi=>(oF id).2 (.inr hi))
  ·rw[jS ca,if_neg]
   intro e
   rw[da] at e
   exact (hap.1 t e).1 ht
  ·rw[io ca]
   cases hw:lV x.dst x.u i with
   | none=>rfl
   | some o=>exact absurd hi (h1.1 i (by rw[hw];simp)).1
 ·refine xI (by simp only[oG]) ha (fun t ht=>?_) (fun i hi=>?_) (fun id o hw hi=>?_)
  ·rw[jS cb,if_neg]
   intro e
   rw[db] at e
   exact hap.2 t e ht
  ·rw[io cb]
   cases hw:lV y.dst y.u i with
   | none=>rfl
   | some o=>exact absurd hi (h2.1 i (by rw[hw];simp)).1
  ·rcases (oF id).1 hi with h | h
   ·exact absurd h (h2.2 id o hw)
   ·exact h
 ·refine ⟨fun k=>?_,fun k=>?_,fun i=>?_,by simp only[l0],by simp only[oG]⟩
  ·rw[jS ca',jS cb,jS cb',jS ca]
   by_cases e1:x.dst=some k <;> by_cases e2:y.dst=some k
   ·exfalso
    rw[da] at e1
    rw[db] at e2
    exact (hap.1 k e1).2 e2
   ·simp[e1,e2]
   ·simp[e1,e2]
   ·simp[e1,e2]
  ·rw[io ca',io cb,io cb',io ca]
   cases hx:lV x.dst x.u k with
   | none=>cases hy:lV y.dst y.u k <;> rfl
   | some o=>rw[(h1.1 k (by rw[hx];simp)).2]
  ·simp only[oF]
   constructor
   ·rintro (h | h | h)
    ·exact .inr (.inl h)
    ·exact .inl h
    ·exact .inr (.inr h)
   ·rintro (h | h | h)
    ·exact .inr (.inl h)
    ·exact .inl h
    ·exact .inr (.inr h)
end

structure Item1 where
 i:Nat
 o:VOper
 e:Eff

def Dm (P:Program):List Item1→St→St→Prop
 | [],σ,σf=>St.Eq σ σf
 | p::r,σ,σf=>d9 P σ p.o p.e∧Dm P r (σ.apply p.e.dst p.e.u) σf

section
variable {P:Program}
theorem xJ:∀ {l:List Item1} {σ σ' σf:St},St.Eq σ σ'→Dm P l σ σf→Dm P l σ' σf
 | [],_,_,_,hq,h=>⟨fun k=>(h.env k).trans (hq.env k).symm,fun k=>(h.objs k).trans (hq.objs k).symm,fun i=>(h.ro i).trans (hq.ro i).symm,h.n.trans hq.n.symm,h.gl.trans hq.gl.symm⟩
 | _::_,_,_,_,hq,h=>⟨Fg hq h.1,xJ (Dk hq _ _) h.2⟩

structure Free (x p:Item1):Prop where
 apart:IP p.o x.o
 one:vF p.e x.e
 two:vF x.e p.e

theorem uX {x:Item1} {B:List Item1} : ∀ {A:List Item1} {σ σf:St},Dm P (A++x::B) σ σf→(∀ p∈A,Free x p)→
  (∀ p∈A++x::B,∀ d,ez p.e d→cE d σ)→(∀ p∈A,∀ d,ez p.e d→mR d x.e.u)→
  (A.Pairwise fun p q=>∀ d,ez q.e d→mR d p.e.u)→(∀ p∈A,∀ q∈x::B,∀ d,ez q.e d→mR d p.e.u)→
  Dm P (x::(A++B)) σ σf
 | [],_,_,h,_,_,_,_,_=>h
 | p::A,σ,σf,h,hf,hg,h1,h2,h3=>by
  obtain ⟨hp,hr⟩:=h
  have h2':=List.pairwise_cons.1 h2
  have ih:=uX (A:=A) hr (fun q hq=>hf q (List.mem_cons_of_mem _ hq)) (fun q hq d hc=>by
   refine (hg q (List.mem_cons_of_mem _ hq) d hc).apply ?_
   rcases List.mem_append.1 hq with hq' | hq'
   ·exact h2'.1 q hq' d hc
   ·exact h3 p (by simp) q hq' d hc) (fun q hq=>h1 q (List.mem_cons_of_mem _ hq)) h2'.2 (fun q hq=>h3 q (List.mem_cons_of_mem _ hq))
  obtain ⟨hx,hr'⟩:=ih
  have hfp:=hf p (by simp)
  obtain ⟨s1,s2,s3⟩:=Hd hp hx hfp.apart hfp.one hfp.two (fun d hc=>⟨hg p (by simp) d hc,h1 p (by simp) d hc⟩)
   (fun d hc=>⟨hg x (by simp) d hc,h3 p (by simp) x (by simp) d hc⟩)
  exact ⟨s1,s2,xJ s3 hr'⟩
end
end Go.Vs
set_option linter.unusedVariables false
set_option linter.unusedSimpArgs false
namespace Go.Vs

theorem IQ {P:Program} {σ:St} {dst:Option Nat} {op:VOp} {u:Upd} (hu:sM P σ dst u op):u.fz≠[]→op.acts=true:=by
 cases op
 case call=>exact fun _=>rfl
 case callV=>exact fun _=>rfl
 case store=>exact fun _=>rfl
 case subV=>exact fun _=>rfl
 case buildSlice=>exact fun _=>rfl
 case append=>exact fun _=>rfl
 all_goals
  have hu:=hu.1
  refine fun h=>?_
  exfalso;apply h
  simp only[ev,kf,rS,GU,GV] at hu
  first
   | (obtain rfl:=Option.some.inj hu;rfl)
   | ((repeat' split at hu) <;> first | (simp at hu;done) | (obtain rfl:=Option.some.inj hu;rfl))

def Eff.wids (e:Eff):List Nat:=match e.u.new,e.dst with
 | some _,some d=>[d]
 | _,_=>match e.u.wr with
  | some (i,_)=>[i]
  | none=>[]
def Eff.newId (e:Eff):Option Nat:=match e.u.new,e.dst with
 | some _,some d=>some d
 | _,_=>none
def MJ (a b:List Nat):Bool:=a.all fun i=>!b.contains i
def BU (x y:Eff):Bool:=MJ x.wids y.ids&&MJ x.wids y.wids&&(match y.u.wr with
 | some (i,_)=>!x.u.fz.contains i
 | none=>true)
def BV (d:Nat) (u:Upd):Bool:=u.v.noRef d&&(match u.wr with
 | some (_,o)=>o.noRef d
 | none=>true)&&(match u.new with
 | some o=>o.noRef d
 | none=>true)

theorem xK {e:Eff} {id:Nat} (h:lV e.dst e.u id≠none):id∈e.wids:=by
 unfold Eff.wids
 rcases mS e.u e.dst with ⟨o,d,hn,hd⟩ | ho
 ·rw[hd,AH hn] at h
  rw[hn,hd]
  by_cases hi:id=d
  ·subst hi;simp
  ·rw[if_neg hi] at h;exact absurd rfl h
 ·rw[pS ho] at h
  have hw:id∈(match e.u.wr with | some (i,_)=>[i] | none=>([]:List Nat)):=by
   cases hw:e.u.wr with
   | none=>rw[hw] at h;exact absurd rfl h
   | some p=>
    obtain ⟨i,x⟩:=p
    rw[hw] at h
    by_cases hi:id=i
    ·subst hi;simp
    ·simp[hi] at h
  split
  ·next h1 h2=>
   exfalso
   rcases ho with ho | ho
   ·rw[ho] at h1;simp at h1
   ·rw[ho] at h2;simp at h2
  ·exact hw
theorem l3 {x y:Eff} (h:BU x y=true):vF x y:=by
 unfold BU MJ at h
 simp only[Bool.and_eq_true,List.all_eq_true] at h
 obtain ⟨⟨h1,h2⟩,h3⟩:=h
 refine ⟨fun id hw=>?_,fun id o hw hi=>?_⟩
 ·have hm:=xK hw
  refine ⟨by simpa using h1 id hm,?_⟩
  cases hy:lV y.dst y.u id with
  | none=>rfl
  | some o=>exact absurd (xK (e:=y) (id:=id) (by rw[hy];simp)) (by simpa using h2 id hm)
 ·rw[hw] at h3
  simp only[Bool.not_eq_true',List.contains_iff_mem,Bool.eq_false_iff,ne_eq] at h3
  exact h3 hi
theorem sQ {d:Nat} {u:Upd} (h:BV d u=true):mR d u:=by
 unfold BV at h
 simp only[Bool.and_eq_true] at h
 obtain ⟨⟨h1,h2⟩,h3⟩:=h
 refine ⟨h1,fun i o ho=>?_,fun o ho=>?_⟩
 ·rw[ho] at h2;exact h2
 ·rw[ho] at h3;exact h3

def jw (P:Program) (K:List Eff→St→Prop):List VOper→St→List Eff→Prop
 | [],σ,es=>K es σ
 | o::r,σ,es=>match o.guard with
  | none=>bX P σ o.dst (fun u=>jw P K r (σ.apply o.dst u) (es++[⟨dw σ o.op u,o.dst,u⟩])) o.op
  | some (g,b)=>match gG (ap σ.env g) with
   | some c=>(c=some b→bX P σ o.dst (fun u=>jw P K r (σ.apply o.dst u) (es++[⟨dw σ o.op u,o.dst,u⟩])) o.op)∧
     (¬c=some b→jw P K r (σ.apply o.dst eI) (es++[⟨[],o.dst,eI⟩]))
   | none=>False

def gP (P:Program):List VOper→St→List Eff→St→Prop
 | [],σ,es,σf=>es=[]∧σf=σ
 | o::r,σ,es,σf=>∃ e es',es=e::es'∧d9 P σ o e∧gP P r (σ.apply e.dst e.u) es' σf

theorem s8 {P:Program} {K:List Eff→St→Prop} : ∀ {l:List VOper} {σ:St} {es:List Eff},jw P K l σ es→∃ es' σf,gP P l σ es' σf∧K (es++es') σf
 | [],σ,es,h=>⟨[],σ,⟨rfl,rfl⟩,by rw[List.append_nil];exact h⟩
 | o::r,σ,es,h=>by
  simp only[jw] at h
  have act:bX P σ o.dst (fun u=>jw P K r (σ.apply o.dst u) (es++[⟨dw σ o.op u,o.dst,u⟩])) o.op→
    ∃ e es' σf,zC P σ o e∧gP P r (σ.apply e.dst e.u) es' σf∧K (es++e::es') σf:=by
   intro h1
   obtain ⟨u,hu,hr⟩:=wR h1
   obtain ⟨es',σf,h2,h3⟩:=s8 hr
   exact ⟨⟨dw σ o.op u,o.dst,u⟩,es',σf,⟨hu,rfl,rfl⟩,h2,by simpa using h3⟩
  split at h
  ·next hg=>
   obtain ⟨e,es',σf,h1,h2,h3⟩:=act h
   exact ⟨e::es',σf,⟨e,es',rfl,by unfold d9;rw[hg];exact h1,h2⟩,h3⟩
  ·next g b hg=>
   split at h
   ·next c hc=>
    by_cases hcb:c=some b
    ·obtain ⟨e,es',σf,h1,h2,h3⟩:=act (h.1 hcb)
     exact ⟨e::es',σf,⟨e,es',rfl,by unfold d9;rw[hg];exact ⟨c,hc,.inl ⟨hcb,h1⟩⟩,h2⟩,h3⟩
    ·obtain ⟨es',σf,h2,h3⟩:=s8 (h.2 hcb)
     exact ⟨⟨[],o.dst,eI⟩::es',σf,⟨_,es',rfl,by unfold d9;rw[hg];exact ⟨c,hc,.inr ⟨hcb,rfl⟩⟩,h2⟩,by simpa using h3⟩
   ·exact h.elim

def zD (σ:St) (pairs makes:List (Nat×Nat)) (es:List Eff):Bool:=
 pairs.all (fun p=>match es[p.1]?,es[p.2]? with
  | some x,some y=>BU x y&&BU y x
  | _,_=>false) &&
 makes.all (fun p=>match es[p.1]?,es[p.2]? with
  | some x,some y=>match y.newId with
   | some d=>BV d x.u
   | none=>true
  | _,_=>false) &&
 es.all (fun e=>match e.newId with
  | some d=>xc d σ.env&&xd d σ.objs
  | none=>true)

section
variable {P:Program}

def cj:Nat→List VOper→List Eff→List Item1
 | _,[],_=>[]
 | _,_::_,[]=>[]
 | i,o::r,e::es=>⟨i,o,e⟩::cj (i+1) r es
theorem lW:∀ {l:List VOper} {σ σf:St} {es:List Eff} (i:Nat),gP P l σ es σf→Dm P (cj i l es) σ σf∧(cj i l es).map (·.i)=List.range' i l.length∧es.length=l.length
 | [],σ,σf,es,i,⟨h1,h2⟩=>by subst h1;subst h2;exact ⟨St.Eq.refl _,rfl,rfl⟩
 | o::r,σ,σf,es,i,⟨e,es',h1,h2,h3⟩=>by
  subst h1
  obtain ⟨k1,k2,k3⟩:=lW (i+1) h3
  exact ⟨⟨h2,k1⟩,by simp[cj,k2,List.range'_succ],by simp[k3]⟩
theorem pT:∀ {l:List VOper} {es:List Eff} {i:Nat} {p:Item1},es.length=l.length→p∈cj i l es→i≤p.i∧l[p.i-i]?=some p.o∧es[p.i-i]?=some p.e
 | [],_,_,_,_,h=>by simp[cj] at h
 | _::_,[],_,_,hl,_=>by simp at hl
 | o::r,e::es,i,p,hl,h=>by
  simp only[cj,List.mem_cons] at h
  rcases h with rfl | h
  ·simp
  ·obtain ⟨h1,h2,h3⟩:=pT (by simpa using hl) h
   refine ⟨by omega,?_,?_⟩
   ·rw[show p.i-i=(p.i-(i+1))+1 by omega];simpa using h2
   ·rw[show p.i-i=(p.i-(i+1))+1 by omega];simpa using h3

theorem xL (acc:Array Nat):∀ (es:List Edge) (s:Nat) (b:Nat),(es.foldl (fun s e=>if Region.binds .any e then s ||| 2 ^ e.on ||| acc.getD e.on 0 else s) s).testBit b=true→
  s.testBit b=true∨∃ e∈es,Region.binds .any e=true∧(b=e.on∨(acc.getD e.on 0).testBit b=true)
 | [],s,b,h=>.inl h
 | e::es,s,b,h=>by
  simp only[List.foldl_cons] at h
  rcases xL acc es _ b h with h | ⟨e',he',h1,h2⟩
  ·split at h
   ·next hb=>
    simp only[Nat.testBit_or,Bool.or_eq_true,Nat.testBit_two_pow,decide_eq_true_eq] at h
    rcases h with (h | h) | h
    ·exact .inl h
    ·exact .inr ⟨e,by simp,hb,.inl h.symm⟩
    ·exact .inr ⟨e,by simp,hb,.inr h⟩
   ·exact .inl h
  ·exact .inr ⟨e',List.mem_cons_of_mem _ he',h1,h2⟩

theorem vG:∀ (l:List Oper) (acc:Array Nat),
  (l.foldl (fun acc o=>acc.push (o.after.foldl (fun s e=>if Region.binds .any e then s ||| 2 ^ e.on ||| acc.getD e.on 0 else s) 0)) acc).size=acc.size+l.length∧
  (∀ j,j < acc.size→(l.foldl (fun acc o=>acc.push (o.after.foldl (fun s e=>if Region.binds .any e then s ||| 2 ^ e.on ||| acc.getD e.on 0 else s) 0)) acc).getD j 0=acc.getD j 0)∧
  ∀ j o,l[j]?=some o→∀ b,((l.foldl (fun acc o=>acc.push (o.after.foldl (fun s e=>if Region.binds .any e then s ||| 2 ^ e.on ||| acc.getD e.on 0 else s) 0)) acc).getD (acc.size+j) 0).testBit b=true→
   ∃ e∈o.after.toList,Region.binds .any e=true∧(b=e.on∨((l.foldl (fun acc o=>acc.push (o.after.foldl (fun s e=>if Region.binds .any e then s ||| 2 ^ e.on ||| acc.getD e.on 0 else s) 0)) acc).getD e.on 0).testBit b=true)
 | [],acc=>by simp
 | o::l,acc=>by
  simp only[List.foldl_cons]
  generalize hv:(o.after.foldl (fun s e=>if Region.binds .any e then s ||| 2 ^ e.on ||| acc.getD e.on 0 else s) 0)=v
  obtain ⟨h1,h2,h3⟩:=vG l (acc.push v)
  refine ⟨by rw[h1];simp;omega,fun j hj=>?_,fun j p hp b hb=>?_⟩
  ·rw[h2 j (by simp;omega)]
   simp[Array.getD,hj,Nat.lt_succ_of_lt hj,Array.getElem_push_lt hj]
  ·cases j with
   | zero=>
    simp only[List.getElem?_cons_zero,Option.some.injEq] at hp
    subst hp
    rw[Nat.add_zero,h2 acc.size (by simp)] at hb
    have hv':(acc.push v).getD acc.size 0=v:=by simp[Array.getD]
    rw[hv',←hv,←Array.foldl_toList] at hb
    rcases xL acc _ _ _ hb with h | ⟨e,he,hbd,h⟩
    ·simp at h
    ·refine ⟨e,he,hbd,h.imp id (fun h=>?_)⟩
     have hlt:e.on < acc.size:=by
      rcases Nat.lt_or_ge e.on acc.size with hh | hh
      ·exact hh
      ·rw[Array.getD,dif_neg (by omega)] at h
       simp at h
     rw[h2 e.on (by simp;omega)]
     have:(acc.push v).getD e.on 0=acc.getD e.on 0:=by simp[Array.getD,hlt,Nat.lt_succ_of_lt hlt,Array.getElem_push_lt hlt]
     rw[this]
     exact h
   | succ j=>
    have:=h3 j p (by simpa using hp) b (by
     rw[Array.size_push,show acc.size+1+j=acc.size+(j+1) by omega];exact hb)
    exact this

theorem oH {ops:Array Oper} {j:Nat} {o:Oper} (ho:ops[j]?=some o) {b:Nat} (hb:((Region.before ops).getD j 0).testBit b=true) :
  ∃ e∈o.after.toList,Region.binds .any e=true∧(b=e.on∨((Region.before ops).getD e.on 0).testBit b=true):=by
 have:=(vG ops.toList #[]).2.2 j o (by simpa using ho) b
 unfold Region.before at hb ⊢
 rw[←Array.foldl_toList] at hb ⊢
 simp only[Array.size_empty,Nat.zero_add] at this
 exact this hb

theorem lp {ops:Array Oper} {listed:Array Bool} (hup:∀ j o,ops[j]?=some o→∀ e∈o.after.toList,Region.binds .any e=true→e.on < j)
  (hcl:∀ j o,ops[j]?=some o→listed.getD j false=true→∀ e∈o.after.toList,Region.binds .any e=true→listed.getD e.on false=true) :
  ∀ (n j:Nat) (o:Oper),j < n→ops[j]?=some o→(∀ e∈o.after.toList,Region.binds .any e=true→listed.getD e.on false=true)→∀ b,((Region.before ops).getD j 0).testBit b=true→listed.getD b false=true:=by
 intro n
 induction n with
 | zero=>intro j o h;omega
 | succ n ih=>
  intro j o hj ho hl b hb
  obtain ⟨e,he,hbd,h⟩:=oH ho hb
  have h1:=hl e he hbd
  rcases h with rfl | h
  ·exact h1
  ·have hlt:=hup j o ho e he hbd
   cases hoe:ops[e.on]? with
   | none=>
    exfalso
    have:ops.size≤e.on:=by
     rcases Nat.lt_or_ge e.on ops.size with hh | hh
     ·simp[hh] at hoe
     ·exact hh
    have hjs:j < ops.size:=by
     rcases Nat.lt_or_ge j ops.size with hh | hh
     ·exact hh
     ·simp[Array.getElem?_eq_none hh] at ho
    omega
   | some o'=>exact ih e.on o' (by omega) hoe (fun e' he' hb'=>hcl e.on o' hoe h1 e' he' hb') b h
end
end Go.Vs
set_option linter.unusedVariables false
set_option linter.unusedSimpArgs false
namespace Go.Vs

section
variable {P:Program} {w0:World} {S0:aC} {M:Ctx}

theorem bN.congr {σ σ':St} {a:Act} {w:World} (hq:St.Eq σ σ') (h:bN w0 S0 M σ a w):bN w0 S0 M σ' a w:=by
 obtain ⟨S,μ,β,h⟩:=h
 exact ⟨S,μ,β,h.drop hq.n hq.gl (fun i _ _ hi=>(hq.ro i).2 hi) (fun k=>.inr (hq.env k)) (fun id o ho=>by rw[←hq.objs];exact ho)⟩

theorem fI {ops:Array Oper} : ∀ {l:List Oper} {vs:List VOper},fd P ops l=some vs→vs.length=l.length∧∀ (i:Nat) (o:Oper),l[i]?=some o→∃ v,vs[i]?=some v∧eF P ops o=some v
 | [],vs,h=>by
  simp only[fd,Option.some.injEq] at h
  subst h
  exact ⟨rfl,by simp⟩
 | o::r,vs,h=>by
  simp only[fd] at h
  split at h
  ·next v vs' h1 h2=>
   obtain rfl:=Option.some.inj h
   obtain ⟨k1,k2⟩:=fI h2
   refine ⟨by simp[k1],fun i o' ho=>?_⟩
   cases i with
   | zero=>simp at ho;subst ho;exact ⟨v,rfl,h1⟩
   | succ i=>simpa using k2 i o' (by simpa using ho)
  ·simp at h

theorem eJ {ops:Array Oper} {o:Oper} {v:VOper} (h:eF P ops o=some v):v.dst=o.dst∧kd P o.op=some v.op∧fc ops o.guard=some v.guard:=by
 unfold eF at h
 split at h
 ·next x g h1 h2=>
  obtain rfl:=Option.some.inj h
  exact ⟨rfl,h1,h2⟩
 ·simp at h

theorem sR {ops:Array Oper} {j d:Nat} (hd:(ops[j]?).bind (·.dst)=some d) {σ:St} {a:Act} {w:World} (h:bN w0 S0 M σ a w) {c:Option Bool} (hc:gG (ap σ.env d)=some c):yielded ops a.tmps j=c:=by
 obtain ⟨S,μ,β,h'⟩:=h
 have hrel:=h'.env d
 unfold gG at hc
 split at hc
 ·next c' he=>
  rw[he] at hrel
  obtain rfl:=Option.some.inj hc
  have hrel:a.tmps.getD d Go.undef=.bool c':=hrel
  have ht:a.tmps[d]?=some (.bool c'):=by
   rcases Nat.lt_or_ge d a.tmps.size with hh | hh
   ·simp[hh] at hrel ⊢;exact hrel
   ·rw[Array.getD,dif_neg (by omega)] at hrel
    simp[Go.undef] at hrel
  unfold yielded
  rw[hd,Option.bind_some,ht]
 ·next he=>
  rw[he] at hrel
  obtain rfl:=Option.some.inj hc
  have hrel:∃ vs,a.tmps.getD d Go.undef=.tuple vs∧aO w S [] vs.toList:=hrel
  obtain ⟨vs,hrel,_⟩:=hrel
  unfold yielded
  rw[hd,Option.bind_some]
  rcases Nat.lt_or_ge d a.tmps.size with hh | hh
  ·have ht:a.tmps[d]?=some (.tuple vs):=by simp[hh] at hrel ⊢;exact hrel
   rw[ht]
  ·rw[Array.getElem?_eq_none hh]
 ·simp at hc

theorem xM {ops:Array Oper} {i:Nat} {o:Oper} {v:VOper} (ho:ops[i]?=some o) (hv:eF P ops o=some v) {σ:St} {a:Act} {w:World} (h:bN w0 S0 M σ a w) (hd:∀ d,v.dst=some d→d < σ.n) {e:Eff} (hs:d9 P σ v e)
  {Q:Exit→Act→World→Prop} {K:Act→World→Prop} (hK:∀ a' w',bN w0 S0 M (σ.apply e.dst e.u) a' w'→K a' w'):wpOp P ops Q i K a w:=by
 obtain ⟨hdst,hop,hg⟩:=eJ hv
 have run:zC P σ v e→o.wp P a w K Q:=by
  rintro ⟨h1,h2,h3⟩
  refine Di h (fun d hd'=>hd d (by rw[hdst];exact hd')) hop (u:=e.u) (by rw[←hdst];exact h1) (fun val w' hs'=>hK _ _ ?_)
  rw[h3,hdst]
  exact hs'
 unfold wpOp
 rw[ho]
 dsimp only
 cases hgo:o.guard with
 | none=>
  have:v.guard=none:=by rw[hgo] at hg;simpa[fc] using hg.symm
  unfold d9 at hs
  rw[this] at hs
  have hw:Region.wanted o (yielded ops a.tmps)=true:=by simp[Region.wanted,hgo]
  rw[if_pos hw]
  exact .inl (run hs)
 | some p=>
  obtain ⟨j,b⟩:=p
  rw[hgo] at hg
  simp only[fc] at hg
  split at hg
  ·next d hd'=>
   have hvg:v.guard=some (d,b):=by simpa using hg.symm
   unfold d9 at hs
   rw[hvg] at hs
   obtain ⟨c,hc,hcase⟩:=hs
   have hy:yielded ops a.tmps j=c:=sR hd' h hc
   have hw:Region.wanted o (yielded ops a.tmps)=(c==some b):=by simp[Region.wanted,hgo,hy]
   rw[hw]
   rcases hcase with ⟨hcb,hact⟩ | ⟨hcb,he⟩
   ·rw[if_pos (by simpa using hcb)]
    exact .inl (run hact)
   ·rw[if_neg (by simpa using hcb)]
    subst he
    refine hK _ _ ?_
    obtain ⟨S,μ,β,h'⟩:=h
    rw[←hdst]
    exact ⟨S,μ,β,h'.putD (sv:=.val (.tuple [])) hd ⟨#[],rfl,rfl⟩⟩
  ·simp at hg

def o9:Opd→Option Nat
 | .tmp t=>some t
 | _=>none
def oa:Operand→Option Nat
 | .tmp t=>some t
 | _=>none
theorem kj {x:Operand} {y:Opd} (h:af x=some y):oa x=o9 y:=by
 cases x with
 | tmp t=>simp only[af,Option.some.injEq] at h;subst h;rfl
 | const v=>simp only[af,Option.map_eq_some_iff] at h;obtain ⟨s,_,rfl⟩:=h;rfl
 | global g=>simp only[af,Option.some.injEq] at h;subst h;rfl
 | func f=>simp only[af,Option.some.injEq] at h;subst h;rfl
theorem sS:∀ {xs:List Operand} {ys:List Opd},cm xs=some ys→∀ y∈ys,∃ x∈xs,oa x=o9 y
 | [],ys,h=>by simp only[cm,Option.some.injEq] at h;subst h;simp
 | x::r,ys,h=>by
  simp only[cm] at h
  split at h
  ·next u us h1 h2=>
   obtain rfl:=Option.some.inj h
   intro y hy
   rcases List.mem_cons.1 hy with rfl | hy
   ·exact ⟨x,by simp,kj h1⟩
   ·obtain ⟨z,hz,he⟩:=sS h2 y hy
    exact ⟨z,List.mem_cons_of_mem _ hz,he⟩
  ·simp at h
theorem Fh {x:Option Operand} {y:Option Opd} (h:bq x=some y):∀ z∈y.toList,∃ u∈x.toList,oa u=o9 z:=by
 cases x with
 | none=>simp only[bq,Option.some.injEq] at h;subst h;simp
 | some x=>
  simp only[bq,Option.map_eq_some_iff] at h
  obtain ⟨z,h1,rfl⟩:=h
  intro u hu
  simp only[Option.toList_some,List.mem_singleton] at hu
  subst hu
  exact ⟨x,by simp,kj h1⟩
theorem xN {place:Nat→Option (Nat×Nat)} : ∀ {xs:List (Nat×Operand)} {ys:List (Nat×Nat×Opd)},cL place xs=some ys→∀ y∈ys.map (·.2.2),∃ x∈xs.map (·.2),oa x=o9 y
 | [],ys,h=>by simp only[cL,Option.some.injEq] at h;subst h;simp
 | (i,x)::r,ys,h=>by
  simp only[cL] at h
  split at h
  ·next o s u us _ h1 h2=>
   obtain rfl:=Option.some.inj h
   intro y hy
   simp only[List.map_cons,List.mem_cons] at hy
   rcases hy with rfl | hy
   ·exact ⟨x,by simp,kj h1⟩
   ·obtain ⟨z,hz,he⟩:=xN h2 y hy
    exact ⟨z,by simp only[List.map_cons];exact List.mem_cons_of_mem _ hz,he⟩
  ·simp at h

theorem cz {x:Operand} {x':Opd} (h:af x=some x') {l:List Operand} (hx:x∈l):∀ y∈[x'],∃ z∈l,oa z=o9 y:=by
 intro y hy
 simp only[List.mem_singleton] at hy
 subst hy
 exact ⟨x,hx,kj h⟩
theorem g7 {x z:Operand} {x' z':Opd} (h:af x=some x') (k:af z=some z') {l:List Operand} (hx:x∈l) (hz:z∈l):∀ y∈[x',z'],∃ z∈l,oa z=o9 y:=by
 intro y hy
 simp only[List.mem_cons,List.not_mem_nil,or_false] at hy
 rcases hy with rfl | rfl
 ·exact ⟨x,hx,kj h⟩
 ·exact ⟨z,hz,kj k⟩

theorem zE {c:Call} {vo:VOp} (h:gN P c=some vo):∀ y∈vo.opds,∃ x∈c.operands.toList,oa x=o9 y:=by
 have hin:∀ x,x∈c.args.toList→x∈c.operands.toList:=by
  intro x hx
  simp only[Call.operands,Array.toList_append,List.mem_append]
  exact .inr hx
 unfold gN at h
 split at h
 ·split at h
  ·split at h
   ·simp at h
   ·simp only[Option.map_eq_some_iff] at h
    obtain ⟨ys,hy,rfl⟩:=h
    intro y hyy
    obtain ⟨x,hx,he⟩:=sS hy y hyy
    exact ⟨x,hin x hx,he⟩
  ·simp at h
 ·next f _ hf=>
  split at h
  ·next u vs hu hv=>
   obtain rfl:=Option.some.inj h
   intro y hy
   simp only[VOp.opds,List.mem_cons] at hy
   rcases hy with rfl | hy
   ·exact ⟨f,by simp[Call.operands,hf],kj hu⟩
   ·obtain ⟨x,hx,he⟩:=sS hv y hy
    exact ⟨x,hin x hx,he⟩
  ·simp at h
 ·split at h
  ·next t x _ hal=>
   have hx0:=hin x (by rw[hal];simp)
   split at h <;> first
    | (simp at h;done)
    | (next hx=>obtain rfl:=Option.some.inj h;exact cz hx hx0)
  ·simp at h
 ·split at h
  ·next t x _ hal=>
   have hx0:=hin x (by rw[hal];simp)
   split at h <;> first
    | (simp at h;done)
    | (next hx=>obtain rfl:=Option.some.inj h;exact cz hx hx0)
  ·simp at h
 ·split at h
  ·next x y hal=>
   split at h
   ·next x' y' hx hy=>
    obtain rfl:=Option.some.inj h
    exact g7 hx hy (hin x (by rw[hal];simp)) (hin y (by rw[hal];simp))
   ·simp at h
  ·simp at h
 ·split at h
  ·next x y hal=>
   split at h
   ·next x' y' hx hy=>
    obtain rfl:=Option.some.inj h
    exact g7 hx hy (hin x (by rw[hal];simp)) (hin y (by rw[hal];simp))
   ·simp at h
  ·simp at h
 ·split at h
  ·next t t' x y _ _ hal=>
   split at h
   ·next e e' x' y' _ _ hx hy=>
    split at h
    ·split at h
     ·obtain rfl:=Option.some.inj h
      exact g7 hx hy (hin x (by rw[hal];simp)) (hin y (by rw[hal];simp))
     ·simp at h
    ·simp at h
   ·next e x' y' _ _ hx hy=>
    split at h
    ·split at h
     ·obtain rfl:=Option.some.inj h
      exact g7 hx hy (hin x (by rw[hal];simp)) (hin y (by rw[hal];simp))
     ·simp at h
    ·simp at h
   ·simp at h
  ·simp at h
 ·split at h
  ·next t x _ hal=>
   split at h
   ·next e x' _ hx=>
    simp only[Option.map_eq_some_iff] at h
    obtain ⟨_,_,rfl⟩:=h
    exact cz hx (hin x (by rw[hal];simp))
   ·simp at h
  ·simp at h
 ·split at h
  ·next t t' x y _ _ hal=>
   split at h
   ·next e e' x' y' _ _ hx hy=>
    simp only[Option.map_eq_some_iff] at h
    obtain ⟨_,_,rfl⟩:=h
    exact g7 hx hy (hin x (by rw[hal];simp)) (hin y (by rw[hal];simp))
   ·simp at h
  ·simp at h
 ·simp at h

theorem BW {op:Op} {vo:VOp} (hc:au P op=some vo):∀ y∈vo.opds,∃ x∈op.operands.toList,oa x=o9 y:=by
 cases op with
 | move x=>simp only[au,Option.map_eq_some_iff] at hc;obtain ⟨y,hy,rfl⟩:=hc;exact cz hy (by simp[Op.operands])
 | assign x=>simp only[au,Option.map_eq_some_iff] at hc;obtain ⟨y,hy,rfl⟩:=hc;exact cz hy (by simp[Op.operands])
 | pick c x y=>
  simp only[au] at hc
  split at hc
  ·next c' x' y' h1 h2 h3=>
   obtain rfl:=Option.some.inj hc
   intro z hz
   simp only[VOp.opds,List.mem_cons,List.not_mem_nil,or_false] at hz
   rcases hz with rfl | rfl | rfl
   ·exact ⟨c,by simp[Op.operands],kj h1⟩
   ·exact ⟨x,by simp[Op.operands],kj h2⟩
   ·exact ⟨y,by simp[Op.operands],kj h3⟩
  ·simp at hc
 | alloc t=>
  simp only[au] at hc
  split at hc
  ·obtain rfl:=Option.some.inj hc;simp[VOp.opds]
  ·simp only[Option.map_eq_some_iff] at hc;obtain ⟨z,hz,rfl⟩:=hc;simp[VOp.opds]
 | box t x=>simp only[au,Option.map_eq_some_iff] at hc;obtain ⟨y,hy,rfl⟩:=hc;exact cz hy (by simp[Op.operands])
 | build t parts=>
  have fin:∀ {place:Nat→Option (Nat×Nat)} {p:List (Nat×Nat×Opd)} {z:List SV},cL place parts.toList=some p→∀ y∈(VOp.build z p).opds,∃ x∈(Op.build t parts).operands.toList,oa x=o9 y:=by
   intro place p z hp y hy
   obtain ⟨x,hx,he⟩:=xN hp y hy
   exact ⟨x,by simp only[Op.operands];exact hx,he⟩
  simp only[au] at hc
  split at hc
  ·split at hc
   ·simp only[Option.map_eq_some_iff] at hc;obtain ⟨p,hp,rfl⟩:=hc;exact fin hp
   ·simp at hc
  ·split at hc
   ·simp only[Option.map_eq_some_iff] at hc;obtain ⟨p,hp,rfl⟩:=hc;exact fin hp
   ·simp at hc
  ·simp at hc
 | buildSlice t n parts=>
  simp only[au] at hc
  split at hc
  ·split at hc
   ·split at hc
    ·simp only[Option.map_eq_some_iff] at hc
     obtain ⟨p,hp,rfl⟩:=hc
     intro y hy
     obtain ⟨x,hx,he⟩:=xN hp y hy
     exact ⟨x,by simp only[Op.operands];exact hx,he⟩
    ·simp at hc
   ·simp at hc
  ·simp at hc
 | load t x=>
  simp only[au] at hc
  split at hc
  ·next g x' hg hx=>obtain rfl:=Option.some.inj hc;exact cz hx (by simp[Op.operands])
  ·simp at hc
 | store t x y=>
  simp only[au] at hc
  split at hc
  ·next n x' y' hn hx hy=>obtain rfl:=Option.some.inj hc;exact g7 hx hy (by simp[Op.operands]) (by simp[Op.operands])
  ·simp at hc
 | nilCheck x=>simp only[au,Option.map_eq_some_iff] at hc;obtain ⟨y,hy,rfl⟩:=hc;exact cz hy (by simp[Op.operands])
 | binOp op t x y t'=>
  simp only[au,sx] at hc
  split at hc
  ·next x' y' hx hy=>
   have two:∀ z∈[x',y'],∃ u∈(Op.binOp op t x y t').operands.toList,oa u=o9 z:=g7 hx hy (by simp[Op.operands]) (by simp[Op.operands])
   have one:∀ z∈[x'],∃ u∈(Op.binOp op t x y t').operands.toList,oa u=o9 z:=cz hx (by simp[Op.operands])
   have eqc:∀ {neg o},rR P neg o t y x' y'=some vo→∀ z∈vo.opds,∃ u∈(Op.binOp op t x y t').operands.toList,oa u=o9 z:=by
    intro neg o hc
    unfold rR at hc
    split at hc
    ·obtain rfl:=Option.some.inj hc;exact two
    ·obtain rfl:=Option.some.inj hc;exact two
    ·obtain rfl:=Option.some.inj hc;exact two
    ·split at hc
     ·obtain rfl:=Option.some.inj hc;exact one
     ·simp at hc
    ·split at hc
     ·obtain rfl:=Option.some.inj hc;exact one
     ·split at hc
      ·obtain rfl:=Option.some.inj hc;exact two
      ·simp at hc
    ·split at hc
     ·obtain rfl:=Option.some.inj hc;exact one
     ·simp at hc
    ·split at hc
     ·simp at hc
     ·simp only[Option.map_eq_some_iff] at hc;obtain ⟨ks,_,rfl⟩:=hc;exact two
    ·simp at hc
   split at hc
   ·exact eqc hc
   ·exact eqc hc
   ·obtain rfl:=Option.some.inj hc;exact two
  ·simp at hc
 | unOp op t x=>simp only[au,Option.map_eq_some_iff] at hc;obtain ⟨y,hy,rfl⟩:=hc;exact cz hy (by simp[Op.operands])
 | convert s t x=>
  simp only[au] at hc
  split at hc
  ·next hx=>obtain rfl:=Option.some.inj hc;exact cz hx (by simp[Op.operands])
  ·next hx=>obtain rfl:=Option.some.inj hc;exact cz hx (by simp[Op.operands])
  ·next hx=>obtain rfl:=Option.some.inj hc;exact cz hx (by simp[Op.operands])
  ·next hx=>
   split at hc
   ·obtain rfl:=Option.some.inj hc;exact cz hx (by simp[Op.operands])
   ·simp at hc
  ·simp at hc
 | makeInterface t x=>
  simp only[au] at hc
  split at hc
  ·simp at hc
  ·simp only[Option.map_eq_some_iff] at hc;obtain ⟨y,hy,rfl⟩:=hc;exact cz hy (by simp[Op.operands])
  ·simp at hc
 | makeFunc fn first caps=>
  simp only[au,BL] at hc
  split at hc
  ·split at hc
   ·simp only[Option.map_eq_some_iff] at hc
    obtain ⟨ys,hy,rfl⟩:=hc
    intro y hyy
    obtain ⟨x,hx,he⟩:=sS hy y hyy
    exact ⟨x,by simp only[Op.operands,Array.toList_append,List.mem_append];exact .inr hx,he⟩
   ·split at hc
    ·simp only[Option.map_eq_some_iff] at hc
     obtain ⟨ys,hy,rfl⟩:=hc
     intro y hyy
     obtain ⟨x,hx,he⟩:=sS hy y hyy
     exact ⟨x,by simp only[Op.operands,Array.toList_append,List.mem_append];exact .inl hx,he⟩
    ·simp at hc
  ·simp at hc
 | makeSlice t l c=>
  simp only[au] at hc
  split at hc
  ·split at hc
   ·next hx hy=>
    split at hc
    ·obtain rfl:=Option.some.inj hc;exact g7 hx hy (by simp[Op.operands]) (by simp[Op.operands])
    ·simp at hc
   ·simp at hc
  ·simp at hc
 | slice t x lo hi mx=>
  have fin:∀ {x' lo' hi'} {l:List Opd},af x=some x'→bq lo=some lo'→bq hi=some hi'→(∀ z∈l,∃ u∈mx.toList,oa u=o9 z)→∀ z∈x'::(lo'.toList++hi'.toList++l),∃ u∈(Op.slice t x lo hi mx).operands.toList,oa u=o9 z:=by
   intro x' lo' hi' l hx hl hh hm z hz
   simp only[List.mem_cons,List.mem_append] at hz
   rcases hz with rfl | (hz | hz) | hz
   ·exact ⟨x,by simp[Op.operands],kj hx⟩
   ·obtain ⟨u,hu,he⟩:=Fh hl z hz
    exact ⟨u,by simp[Op.operands] at hu ⊢;simp[hu],he⟩
   ·obtain ⟨u,hu,he⟩:=Fh hh z hz
    exact ⟨u,by simp[Op.operands] at hu ⊢;simp[hu],he⟩
   ·obtain ⟨u,hu,he⟩:=hm z hz
    exact ⟨u,by simp[Op.operands] at hu ⊢;simp[hu],he⟩
  simp only[au] at hc
  split at hc
  ·next x' l' h' ht hx hl hh hm=>
   obtain rfl:=Option.some.inj hc
   have:=fin (l:=[]) hx hl hh (by simp)
   simpa[VOp.opds] using this
  ·next e x' l' h' m' ht hx hl hh hm=>
   simp only[Option.map_eq_some_iff] at hc
   obtain ⟨s,_,rfl⟩:=hc
   exact fin hx hl hh (Fh hm)
  ·simp at hc
 | fieldAddr t x f=>
  simp only[au] at hc
  split at hc
  ·split at hc
   ·next hx=>
    split at hc
    ·split at hc
     ·simp at hc
     ·obtain rfl:=Option.some.inj hc;exact cz hx (by simp[Op.operands])
    ·simp at hc
   ·simp at hc
  ·simp at hc
 | field t x f=>
  simp only[au] at hc
  split at hc
  ·split at hc
   ·next hx=>
    simp only[Option.map_eq_some_iff] at hc
    obtain ⟨g,_,rfl⟩:=hc
    exact cz hx (by simp[Op.operands])
   ·simp at hc
  ·simp at hc
 | indexAddr t x i=>
  simp only[au] at hc
  split at hc
  ·split at hc
   ·next hx hi=>obtain rfl:=Option.some.inj hc;exact g7 hx hi (by simp[Op.operands]) (by simp[Op.operands])
   ·simp at hc
  ·split at hc
   ·next hx hi=>obtain rfl:=Option.some.inj hc;exact g7 hx hi (by simp[Op.operands]) (by simp[Op.operands])
   ·simp at hc
  ·simp at hc
 | index t x i=>
  simp only[au] at hc
  split at hc
  ·split at hc
   ·next hx hi=>obtain rfl:=Option.some.inj hc;exact g7 hx hi (by simp[Op.operands]) (by simp[Op.operands])
   ·simp at hc
  ·split at hc
   ·next hx hi=>obtain rfl:=Option.some.inj hc;exact g7 hx hi (by simp[Op.operands]) (by simp[Op.operands])
   ·simp at hc
  ·simp at hc
 | extract x i=>simp only[au,Option.map_eq_some_iff] at hc;obtain ⟨y,hy,rfl⟩:=hc;exact cz hy (by simp[Op.operands])
 | call c=>exact zE hc
 | range t x=>
  simp only[au] at hc
  split at hc
  ·next hx=>obtain rfl:=Option.some.inj hc;exact cz hx (by simp[Op.operands])
  ·simp at hc
 | next x b=>
  cases b with
  | false=>simp[au] at hc
  | true=>simp only[au,Option.map_eq_some_iff] at hc;obtain ⟨y,hy,rfl⟩:=hc;exact cz hy (by simp[Op.operands])
 | _=>simp[au] at hc

theorem Dn {op:Op} {vo:VOp} (hc:kd P op=some vo):∀ y∈vo.opds,∃ x∈op.operands.toList,oa x=o9 y:=by
 rcases mH hc with hc | rfl
 ·exact BW hc
 ·simp[VOp.opds]

theorem Do {l:List Opd} {t:Nat} : t∈(l.filterMap fun | .tmp t=>some t | _=>none)↔∃ y∈l,o9 y=some t:=by
 simp only[List.mem_filterMap]
 constructor
 ·rintro ⟨y,hy,h⟩
  exact ⟨y,hy,by cases y <;> simp_all [o9]⟩
 ·rintro ⟨y,hy,h⟩
  exact ⟨y,hy,by cases y <;> simp_all [o9]⟩
theorem Dp {l:List Operand} {t:Nat} : t∈(l.filterMap fun | .tmp t=>some t | _=>none)↔∃ y∈l,oa y=some t:=by
 simp only[List.mem_filterMap]
 constructor
 ·rintro ⟨y,hy,h⟩
  exact ⟨y,hy,by cases y <;> simp_all [oa]⟩
 ·rintro ⟨y,hy,h⟩
  exact ⟨y,hy,by cases y <;> simp_all [oa]⟩

theorem IR {ops:Array Oper} {o:Oper} {v:VOper} (h:eF P ops o=some v):∀ t,t∈v.slots→t∈o.looksAt ops:=by
 obtain ⟨_,hop,hg⟩:=eJ h
 intro t ht
 unfold VOper.slots at ht
 unfold Oper.looksAt
 rw[List.mem_append] at ht ⊢
 rcases ht with ht | ht
 ·left
  obtain ⟨y,hy,he⟩:=Do.1 ht
  obtain ⟨x,hx,he'⟩:=Dn hop y hy
  exact Dp.2 ⟨x,hx,he'.trans he⟩
 ·right
  cases hgo:o.guard with
  | none=>
   rw[hgo] at hg
   have:v.guard=none:=by simpa[fc] using hg.symm
   rw[this] at ht
   simp at ht
  | some p=>
   obtain ⟨j,b⟩:=p
   rw[hgo] at hg
   simp only[fc] at hg
   split at hg
   ·next d hd=>
    have hvg:v.guard=some (d,b):=by simpa using hg.symm
    rw[hvg] at ht
    simp only[List.mem_singleton] at ht
    subst ht
    simp[hd]
   ·simp at hg
end
end Go.Vs
set_option linter.unusedVariables false
set_option linter.unusedSimpArgs false
namespace Go.Vs

section
variable {P:Program} {w0:World} {S0:aC} {M:Ctx}

theorem mT {listed:Array Bool} {i:Nat} (h:listed.getD i true=false):listed.getD i false=false:=by
 rcases Nat.lt_or_ge i listed.size with h' | h'
 ·simp only[Array.getD,dif_pos h'] at h ⊢;exact h
 ·simp[Array.getD,Nat.not_lt.2 h'] at h
theorem xO {listed:Array Bool} {i:Nat} (hi:i < listed.size) (h:listed.getD i false=false):listed.getD i true=false:=by
 simp only[Array.getD,dif_pos hi] at h ⊢;exact h
theorem oI (m j:Nat):(Array.replicate m false).getD j false=false:=by
 rcases Nat.lt_or_ge j m with h | h
 ·simp[Array.getD,h]
 ·simp[Array.getD,Nat.not_lt.2 h]

theorem xP {ops:Array Oper} {a b:Oper} {x y:VOper} (hx:eF P ops a=some x) (hy:eF P ops b=some y) (h:a.apart ops b=true):IP x y:=by
 obtain ⟨h1,h2,h3⟩:=Oper.apart_spec h
 obtain ⟨dx,_,_⟩:=eJ hx
 obtain ⟨dy,_,_⟩:=eJ hy
 refine ⟨fun d hd=>⟨fun hs=>h1 d (by rw[←dx];exact hd) (IR hy d hs),by rw[dy];exact h2 d (by rw[←dx];exact hd)⟩,fun d hd hs=>h3 d (by rw[←dy];exact hd) (IR hx d hs)⟩

theorem lX {σ:St} {o:VOper} {e:Eff} (h:d9 P σ o e):(e.u.wr≠none→o.op.writes=true)∧(e.u.new≠none→o.op.makes=true)∧(e.u.fz≠[]→o.op.acts=true)∧(e.ids≠[]→o.op.acts=true):=by
 have act:zC P σ o e→_:=fun ⟨h1,h2,h3⟩=>(⟨(xH h1).1,(xH h1).2,IQ h1,fun hn=>by
  rw[h2] at hn
  unfold dw at hn
  cases ha:o.op.acts with
  | true=>rfl
  | false=>rw[ha] at hn;exact absurd rfl hn⟩:(e.u.wr≠none→o.op.writes=true)∧(e.u.new≠none→o.op.makes=true)∧(e.u.fz≠[]→o.op.acts=true)∧(e.ids≠[]→o.op.acts=true))
 unfold d9 at h
 split at h
 ·exact act h
 ·obtain ⟨c,_,h | h⟩:=h
  ·exact act h.2
  ·rw[h.2]
   exact ⟨fun x=>absurd rfl x,fun x=>absurd rfl x,fun x=>absurd rfl x,fun x=>absurd rfl x⟩

theorem AI {σ σ':St} {a b:VOper} {x y:Eff} (ha:d9 P σ a x) (hb:d9 P σ' b y) (h:a.op.flagged b.op=false):vF x y∧vF y x:=by
 obtain ⟨a1,a2,a3,a4⟩:=lX ha
 obtain ⟨b1,b2,b3,b4⟩:=lX hb
 unfold VOp.flagged at h
 simp only[Bool.or_eq_false_iff,Bool.and_eq_false_iff] at h
 obtain ⟨⟨⟨h1,h2⟩,h3⟩,h4⟩:=h
 have nx:x.u.new=none:=by
  cases hn:x.u.new with
  | none=>rfl
  | some o=>have:=a2 (by rw[hn];simp);rw[h3] at this;simp at this
 have ny:y.u.new=none:=by
  cases hn:y.u.new with
  | none=>rfl
  | some o=>have:=b2 (by rw[hn];simp);rw[h4] at this;simp at this
 have wact:∀ op:VOp,op.writes=true→op.acts=true:=by intro op;cases op <;> simp[VOp.writes,VOp.acts]
 have gen:∀ (p q:Eff) (o1 o2:VOp),p.u.new=none→q.u.new=none→(p.u.wr≠none→o1.writes=true)→(q.u.wr≠none→o2.writes=true)→(p.u.fz≠[]→o1.acts=true)→(q.ids≠[]→o2.acts=true)→
   (o1.writes=false∨o2.acts=false)→(o2.writes=false∨o1.acts=false)→vF p q:=by
  intro p q o1 o2 np nq p1 q1 p3 q4 c1 c2
  refine ⟨fun id hw=>?_,fun id o hw hi=>?_⟩
  ·rw[pS (.inl np)] at hw
   have hpw:p.u.wr≠none:=by intro e;rw[e] at hw;exact hw rfl
   have hw1:=p1 hpw
   have ha2:o2.acts=false:=c1.resolve_left (by rw[hw1];simp)
   refine ⟨fun hi=>?_,?_⟩
   ·have:=q4 (by intro e;rw[e] at hi;simp at hi)
    rw[ha2] at this;simp at this
   ·rw[pS (.inl nq)]
    cases hq:q.u.wr with
    | none=>rfl
    | some r=>
     have:=wact _ (q1 (by rw[hq];simp))
     rw[ha2] at this;simp at this
  ·have hw2:=q1 (by rw[hw];simp)
   have ha1:o1.acts=false:=c2.resolve_left (by rw[hw2];simp)
   have:=p3 (by intro e;rw[e] at hi;simp at hi)
   rw[ha1] at this;simp at this
 exact ⟨gen x y a.op b.op nx ny a1 b1 a3 b4 h1 h2,gen y x b.op a.op ny nx b1 a1 b3 a4 h2 h1⟩

theorem pU:∀ {l:List VOper} {σ σf:St} {es:List Eff} (i:Nat),gP P l σ es σf→∀ p∈cj i l es,∃ σ',d9 P σ' p.o p.e
 | [],_,_,_,_,_,_,h=>by simp[cj] at h
 | o::r,σ,σf,es,i,⟨e,es',h1,h2,h3⟩,p,h=>by
  subst h1
  simp only[cj,List.mem_cons] at h
  rcases h with rfl | h
  ·exact ⟨σ,h2⟩
  ·exact pU (i+1) h3 p h

theorem fJ {e:Eff} {d:Nat} : e.newId=some d↔ez e d:=by
 unfold Eff.newId ez
 constructor
 ·intro h
  split at h
  ·next o d' h1 h2=>
   obtain rfl:=Option.some.inj h
   exact ⟨⟨o,h1⟩,h2⟩
  ·simp at h
 ·rintro ⟨⟨o,h1⟩,h2⟩
  rw[h1,h2]

theorem xQ {ops:Array Oper} {vs:List VOper} (hc:fd P ops ops.toList=some vs) {pairs makes:List (Nat×Nat)} (hp:mJ ops vs.toArray=some (pairs,makes)) {σ:St} {a:Act} {w:World} (h:bN w0 S0 M σ a w)
  (hd:∀ v∈vs,∀ d,v.dst=some d→d < σ.n) {es:List Eff} {σf:St} (hs:gP P vs σ es σf) (hk:zD σ pairs makes es=true)
  {Q:Exit→Act→World→Prop} (hQ:∀ a' w',bN w0 S0 M σf a' w'→Q .normal a' w'):wpAny P .any ops Q ops.size (Array.replicate ops.size false) a w:=by
 obtain ⟨hlen,hget⟩:=fI hc
 obtain ⟨hrun,hidx,hel⟩:=lW 0 hs
 have hall:=pU 0 hs
 have hn:vs.length=ops.size:=by rw[hlen];simp
 unfold mJ at hp
 simp only at hp
 split at hp
 ·next hcond=>
  simp only[Option.some.injEq,Prod.mk.injEq] at hp
  obtain ⟨hpairs,hmakes⟩:=hp
  simp only[Bool.and_eq_true,List.all_eq_true,List.mem_range] at hcond
  obtain ⟨hup0,hap0⟩:=hcond
  have hup:∀ j o,ops[j]?=some o→∀ e∈o.after.toList,Region.binds .any e=true→e.on < j:=by
   intro j o ho e he hb
   have hj:j < ops.size:=by
    rcases Nat.lt_or_ge j ops.size with hh | hh
    ·exact hh
    ·simp[Array.getElem?_eq_none hh] at ho
   have:=hup0 j hj
   rw[ho] at this
   simp only[List.all_eq_true,Bool.or_eq_true,Bool.not_eq_true',decide_eq_true_eq] at this
   rcases this e he with h1 | h1
   ·rw[hb] at h1;simp at h1
   ·exact h1
  unfold zD at hk
  simp only[Bool.and_eq_true,List.all_eq_true] at hk
  obtain ⟨⟨hk1,hk2⟩,hk3⟩:=hk
  have hcomp:∀ p∈cj 0 vs es,∃ o,ops[p.i]?=some o∧eF P ops o=some p.o∧vs[p.i]?=some p.o∧es[p.i]?=some p.e∧p.i < ops.size:=by
   intro p hp
   obtain ⟨_,h1,h2⟩:=pT hel hp
   simp only[Nat.sub_zero] at h1 h2
   have hlt:p.i < vs.length:=by
    rcases Nat.lt_or_ge p.i vs.length with hh | hh
    ·exact hh
    ·simp[List.getElem?_eq_none hh] at h1
   have hlt':p.i < ops.toList.length:=by omega
   obtain ⟨v,hv1,hv2⟩:=hget p.i ops.toList[p.i] (List.getElem?_eq_getElem hlt')
   obtain rfl:v=p.o:=by rw[h1] at hv1;exact (Option.some.inj hv1).symm
   exact ⟨ops.toList[p.i],by rw[←Array.getElem?_toList];exact List.getElem?_eq_getElem hlt',hv2,h1,h2,by omega⟩
  have hfree:∀ p∈cj 0 vs es,∀ x∈cj 0 vs es,p.i < x.i→((Region.before ops).getD x.i 0).testBit p.i=false→Free x p:=by
   intro p hp x hx hlt hbit
   obtain ⟨o1,a1,a2,a3,a4,a5⟩:=hcomp p hp
   obtain ⟨o2,b1,b2,b3,b4,b5⟩:=hcomp x hx
   have hap:=hap0 x.i b5 p.i hlt
   rw[hbit,a1,b1] at hap
   simp only[Bool.false_or] at hap
   have hAp:=xP a2 b2 hap
   cases hfl:p.o.op.flagged x.o.op with
   | false=>
    obtain ⟨σ1,s1⟩:=hall p hp
    obtain ⟨σ2,s2⟩:=hall x hx
    obtain ⟨i1,i2⟩:=AI s1 s2 hfl
    exact ⟨hAp,i1,i2⟩
   | true=>
    have hm:(p.i,x.i)∈pairs:=by
     rw[←hpairs]
     refine List.mem_flatMap.2 ⟨x.i,List.mem_range.2 b5,List.mem_filterMap.2 ⟨p.i,List.mem_range.2 hlt,?_⟩⟩
     rw[hbit]
     simp only[Bool.false_eq_true,if_false,List.getElem?_toArray,a3,b3,hfl,if_true]
    have:=hk1 _ hm
    simp only[a4,b4,Bool.and_eq_true] at this
    exact ⟨hAp,l3 this.1,l3 this.2⟩
  have hnr:∀ p∈cj 0 vs es,∀ k∈cj 0 vs es,p.i≠k.i→((Region.before ops).getD p.i 0).testBit k.i=false→∀ d,ez k.e d→mR d p.e.u:=by
   intro p hp k hk' hne hbit d hcr
   obtain ⟨o1,a1,a2,a3,a4,a5⟩:=hcomp p hp
   obtain ⟨o2,b1,b2,b3,b4,b5⟩:=hcomp k hk'
   obtain ⟨σ2,s2⟩:=hall k hk'
   have hmk:k.o.op.makes=true:=(lX s2).2.1 (by obtain ⟨⟨o,ho⟩,_⟩:=hcr;rw[ho];simp)
   have hm:(p.i,k.i)∈makes:=by
    rw[←hmakes]
    refine List.mem_flatMap.2 ⟨k.i,List.mem_range.2 b5,?_⟩
    simp only[List.getElem?_toArray,b3,hmk,if_true]
    refine List.mem_filterMap.2 ⟨p.i,List.mem_range.2 a5,?_⟩
    rw[if_neg hne,hbit]
    simp
   have:=hk2 _ hm
   simp only[a4,b4,fJ.2 hcr] at this
   exact sQ this
  have hgood:∀ p∈cj 0 vs es,∀ d,ez p.e d→cE d σ:=by
   intro p hp d hcr
   obtain ⟨o1,a1,a2,a3,a4,a5⟩:=hcomp p hp
   have:=hk3 p.e (List.mem_of_getElem? a4)
   simp only[fJ.2 hcr,Bool.and_eq_true] at this
   exact ⟨xe this.1,fun id o ho=>xg this.2 ho⟩
  have hbit_lt:∀ (j k:Nat),j≤k→j < ops.size→((Region.before ops).getD j 0).testBit k=false:=by
   intro j
   induction j using Nat.strongRecOn with
   | _ j ih=>
    intro k hjk hj
    cases hb:((Region.before ops).getD j 0).testBit k with
    | false=>rfl
    | true=>
     obtain ⟨e,he,hbd,h⟩:=oH (ops:=ops) (j:=j) (o:=ops[j]) (by simp[hj]) hb
     have hlt:=hup j ops[j] (by simp[hj]) e he hbd
     rcases h with h | h
     ·omega
     ·have:=ih e.on hlt k (by omega) (by omega)
      rw[this] at h;simp at h
  have main:∀ (fuel:Nat) (listed:Array Bool) (L:List Item1) (σ1:St) (a:Act) (w:World),L.length≤fuel→listed.size=ops.size→(L.map (·.i)).Pairwise (· < ·)→(∀ p∈L,p∈cj 0 vs es)→
    (∀ j,j < ops.size→(listed.getD j false=false↔∃ p∈L,p.i=j))→
    (∀ j o,ops[j]?=some o→listed.getD j false=true→∀ e∈o.after.toList,Region.binds .any e=true→listed.getD e.on false=true)→
    Dm P L σ1 σf→(∀ p∈L,∀ d,ez p.e d→cE d σ1)→σ1.n=σ.n→bN w0 S0 M σ1 a w→wpAny P .any ops Q fuel listed a w:=by
   intro fuel
   induction fuel with
   | zero=>
    intro listed L σ1 a w hf hsz _ _ hli _ hr _ _ hsim
    have hL:L=[]:=List.length_eq_zero_iff.1 (by omega)
    subst hL
    refine ⟨?_,hQ a w (hsim.congr hr)⟩
    rw[List.eq_nil_iff_forall_not_mem]
    intro i hi
    obtain ⟨h1,oi,hoi,_⟩:=mem_ready.1 hi
    have hlt:i < ops.size:=by
     rcases Nat.lt_or_ge i ops.size with hh | hh
     ·exact hh
     ·simp[Array.getElem?_eq_none hh] at hoi
    have:listed.getD i false=false:=mT h1
    obtain ⟨p,hp,_⟩:=(hli i hlt).1 this
    simp at hp
   | succ fuel ih=>
    intro listed L σ1 a w hf hsz hpw hin hli hcl hr hg hn1 hsim
    refine ⟨fun hempty=>?_,fun i hi=>?_⟩
    ·cases L with
     | nil=>exact hQ a w (hsim.congr hr)
     | cons p L=>
      exfalso
      obtain ⟨o1,a1,a2,a3,a4,a5⟩:=hcomp p (hin p (by simp))
      have hpl:listed.getD p.i false=false:=(hli p.i a5).2 ⟨p,by simp,rfl⟩
      have:p.i∈Region.ready .any ops listed:=by
       refine mem_ready.2 ⟨xO (by omega) hpl,o1,a1,fun e he hb=>?_⟩
       have hlt:=hup p.i o1 a1 e (by simpa using he) hb
       cases hel':listed.getD e.on false with
       | true=>rfl
       | false=>
        obtain ⟨q,hq,hqi⟩:=(hli e.on (by omega)).1 hel'
        rcases List.mem_cons.1 hq with rfl | hq
        ·omega
        ·have:p.i < q.i:=(List.pairwise_cons.1 hpw).1 q.i (List.mem_map_of_mem hq)
         omega
      rw[hempty] at this
      simp at this
    ·obtain ⟨h1,oi,hoi,hready⟩:=mem_ready.1 hi
     have hlt:i < ops.size:=by
      rcases Nat.lt_or_ge i ops.size with hh | hh
      ·exact hh
      ·simp[Array.getElem?_eq_none hh] at hoi
     obtain ⟨x,hx,hxi⟩:=(hli i hlt).1 (mT h1)
     obtain ⟨A,B,hAB⟩:=List.append_of_mem hx
     subst hAB
     obtain ⟨o2,b1,b2,b3,b4,b5⟩:=hcomp x (hin x hx)
     have hbefore:∀ b,((Region.before ops).getD x.i 0).testBit b=true→listed.getD b false=true:=by
      intro b hb
      refine lp hup hcl (x.i+1) x.i o2 (by omega) b1 (fun e he hbd=>?_) b hb
      have:oi=o2:=by rw[hxi] at b1;rw[b1] at hoi;exact (Option.some.inj hoi).symm
      subst this
      exact hready e (by simpa using he) hbd
     have hpw':=List.pairwise_append.1 (by simpa using hpw:(A.map (·.i)++(x.i::B.map (·.i))).Pairwise (· < ·))
     have hAx:∀ p∈A,p.i < x.i:=fun p hp=>hpw'.2.2 p.i (List.mem_map_of_mem hp) x.i (by simp)
     have hxB:∀ q∈B,x.i < q.i:=fun q hq=>(List.pairwise_cons.1 hpw'.2.1).1 q.i (List.mem_map_of_mem hq)
     have hAn:∀ p∈A,((Region.before ops).getD x.i 0).testBit p.i=false:=by
      intro p hp
      cases hb:((Region.before ops).getD x.i 0).testBit p.i with
      | false=>rfl
      | true=>
       have:=hbefore p.i hb
       have hpn:listed.getD p.i false=false:=(hli p.i (by have:=hAx p hp;omega)).2 ⟨p,List.mem_append_left _ hp,rfl⟩
       rw[hpn] at this;simp at this
     have inA:∀ p∈A,p∈cj 0 vs es:=fun p hp=>hin p (List.mem_append_left _ hp)
     have inx:x∈cj 0 vs es:=hin x hx
     have szA:∀ p∈A,p.i < ops.size:=fun p hp=>by have:=hAx p hp;omega
     have hfront:=uX (P:=P) hr (fun p hp=>hfree p (inA p hp) x inx (hAx p hp) (hAn p hp)) hg
      (fun p hp d hcr=>hnr x inx p (inA p hp) (by have:=hAx p hp;omega) (hAn p hp) d hcr)
      (by
        have hA:=hpw'.1
        refine List.Pairwise.imp_of_mem ?_ (List.pairwise_map.1 hA)
        intro p q hp hq hpq d hcr
        exact hnr p (inA p hp) q (inA q hq) (by omega) (hbit_lt p.i q.i (by omega) (szA p hp)) d hcr)
      (fun p hp q hq d hcr=>by
        rcases List.mem_cons.1 hq with rfl | hq'
        ·exact hnr p (inA p hp) q inx (by have:=hAx p hp;omega) (hbit_lt p.i q.i (by have:=hAx p hp;omega) (szA p hp)) d hcr
        ·have h1:=hAx p hp
         have h2:=hxB q hq'
         exact hnr p (inA p hp) q (hin q (List.mem_append_right _ (List.mem_cons_of_mem _ hq'))) (by omega) (hbit_lt p.i q.i (by omega) (szA p hp)) d hcr)
     obtain ⟨hstep,hrest⟩:=hfront
     subst hxi
     refine xM b1 b2 hsim (fun d hdd=>by rw[hn1];exact hd x.o (List.mem_of_getElem? b3) d hdd) hstep (fun a' w' hs'=>?_)
     have hmemAB:∀ p,p∈A++B→p∈A++x::B:=fun p hp=>by
      rcases List.mem_append.1 hp with hp | hp
      ·exact List.mem_append_left _ hp
      ·exact List.mem_append_right _ (List.mem_cons_of_mem _ hp)
     refine ih (listed.setIfInBounds x.i true) (A++B) _ a' w' (by simp at hf ⊢;omega) (by simp[hsz]) ?_ (fun p hp=>hin p (hmemAB p hp)) ?_ ?_ hrest ?_ (by rw[l0];exact hn1) hs'
     ·rw[List.map_append]
      refine List.pairwise_append.2 ⟨hpw'.1,(List.pairwise_cons.1 hpw'.2.1).2,fun u hu v hv=>hpw'.2.2 u hu v (List.mem_cons_of_mem _ hv)⟩
     ·intro j hj
      by_cases hjx:x.i=j
      ·subst hjx
       have hset:(listed.setIfInBounds x.i true).getD x.i false=true:=by simp[Array.getD,hsz,hj]
       rw[hset]
       simp only[Bool.true_eq_false,false_iff,not_exists,not_and]
       intro p hp e
       rcases List.mem_append.1 hp with hp | hp
       ·have:=hAx p hp;omega
       ·have:=hxB p hp;omega
      ·rw[getD_set_ne false hjx,hli j hj]
       constructor
       ·rintro ⟨p,hp,e⟩
        refine ⟨p,?_,e⟩
        rcases List.mem_append.1 hp with hp | hp
        ·exact List.mem_append_left _ hp
        ·rcases List.mem_cons.1 hp with rfl | hp
         ·exact absurd e hjx
         ·exact List.mem_append_right _ hp
       ·rintro ⟨p,hp,e⟩
        exact ⟨p,hmemAB p hp,e⟩
     ·intro j o hj hl e he hb
      by_cases hjx:x.i=j
      ·subst hjx
       have:oi=o:=by rw[hj] at hoi;exact (Option.some.inj hoi).symm
       subst this
       exact getD_set_true (hready e (by simpa using he) hb)
      ·rw[getD_set_ne false hjx] at hl
       exact getD_set_true (hcl j o hj hl e he hb)
     ·intro p hp d hcr
      refine (hg p (hmemAB p hp) d hcr).apply ?_
      rcases List.mem_append.1 hp with hp' | hp'
      ·exact hnr x inx p (inA p hp') (by have:=hAx p hp';omega) (hAn p hp') d hcr
      ·exact hnr x inx p (hin p (hmemAB p hp)) (by have:=hxB p hp';omega) (hbit_lt x.i p.i (by have:=hxB p hp';omega) b5) d hcr
  refine main ops.size _ (cj 0 vs es) σ a w ?_ (by simp) ?_ (fun _ hp=>hp) ?_ ?_ hrun hgood rfl h
  ·have:=congrArg List.length hidx
   simp only[List.length_map,List.length_range'] at this
   omega
  ·rw[hidx]
   exact List.pairwise_lt_range'
  ·intro j hj
   rw[oI]
   simp only[true_iff]
   have:j∈(cj 0 vs es).map (·.i):=by rw[hidx];simp;omega
   obtain ⟨p,hp,e⟩:=List.mem_map.1 this
   exact ⟨p,hp,e⟩
  ·intro j o _ hl
   rw[oI] at hl
   simp at hl
 ·simp at hp

def Dq:List VOper→Bool
 | []=>true
 | [_]=>true
 | x::r=>(match x.dst with
  | some d=>r.any fun y=>y.slots.contains d
  | none=>false)&&Dq r
theorem xR:∀ {l:List VOper},Dq l=true→∀ i x,l[i]?=some x→i+1 < l.length→∃ j y d,i < j∧l[j]?=some y∧x.dst=some d∧d∈y.slots
 | [],_,i,x,hx,_=>by simp at hx
 | [_],_,i,x,_,hi=>by simp at hi
 | u::v::r,h,i,x,hx,hi=>by
  simp only[Dq,Bool.and_eq_true] at h
  cases i with
  | zero=>
   simp only[List.getElem?_cons_zero,Option.some.injEq] at hx
   subst hx
   have h1:=h.1
   split at h1
   ·next d hd=>
    obtain ⟨y,hy,hc⟩:=List.any_eq_true.1 h1
    obtain ⟨j,hj⟩:=List.getElem?_of_mem hy
    exact ⟨j+1,y,d,by omega,by simpa using hj,hd,by simpa using hc⟩
   ·simp at h1
  | succ i=>
   obtain ⟨j,y,d,h1,h2,h3,h4⟩:=xR h.2 i x (by simpa using hx) (by simpa using hi)
   exact ⟨j+1,y,d,by omega,by simpa using h2,h3,h4⟩

theorem Dr {ops:Array Oper} {vs:List VOper} {last:VOper} (hc:fd P ops ops.toList=some (vs++[last])) {pairs makes:List (Nat×Nat)} (hp:mJ ops (vs++[last]).toArray=some (pairs,makes)) (hflow:Dq (vs++[last])=true) {σ:St} {a:Act} {w:World} (h:bN w0 S0 M σ a w)
  (hd:∀ v∈vs,∀ d,v.dst=some d→d < σ.n) {es:List Eff} {σf:St} (hs:gP P vs σ es σf) (hk:zD σ (pairs.filter fun p=>decide (p.1 < vs.length)&&decide (p.2 < vs.length)) (makes.filter fun p=>decide (p.1 < vs.length)&&decide (p.2 < vs.length)) es=true)
  {Q:Exit→Act→World→Prop} (hQ:∀ (N:Act→World→Prop),(∀ a' w',Q .normal a' w'→N a' w')→∀ a' w',bN w0 S0 M σf a' w'→wpOp P ops Q vs.length N a' w'):wpAny P .any ops Q ops.size (Array.replicate ops.size false) a w:=by
 obtain ⟨hlen,hget⟩:=fI hc
 obtain ⟨hrun,hidx,hel⟩:=lW 0 hs
 have hall:=pU 0 hs
 have hn:vs.length+1=ops.size:=by have:(vs++[last]).length=ops.size:=by rw[hlen];simp
                                  simpa using this
 have hvg:∀ {i:Nat},i < vs.length→(vs++[last])[i]?=vs[i]?:=fun hi=>List.getElem?_append_left hi
 unfold mJ at hp
 simp only at hp
 split at hp
 ·next hcond=>
  simp only[Option.some.injEq,Prod.mk.injEq] at hp
  obtain ⟨hpairs,hmakes⟩:=hp
  simp only[Bool.and_eq_true,List.all_eq_true,List.mem_range] at hcond
  obtain ⟨hup0,hap0⟩:=hcond
  have hup:∀ j o,ops[j]?=some o→∀ e∈o.after.toList,Region.binds .any e=true→e.on < j:=by
   intro j o ho e he hb
   have hj:j < ops.size:=by
    rcases Nat.lt_or_ge j ops.size with hh | hh
    ·exact hh
    ·simp[Array.getElem?_eq_none hh] at ho
   have:=hup0 j hj
   rw[ho] at this
   simp only[List.all_eq_true,Bool.or_eq_true,Bool.not_eq_true',decide_eq_true_eq] at this
   rcases this e he with h1 | h1
   ·rw[hb] at h1;simp at h1
   ·exact h1
  unfold zD at hk
  simp only[Bool.and_eq_true,List.all_eq_true] at hk
  obtain ⟨⟨hk1,hk2⟩,hk3⟩:=hk
  have hcomp:∀ p∈cj 0 vs es,∃ o,ops[p.i]?=some o∧eF P ops o=some p.o∧vs[p.i]?=some p.o∧es[p.i]?=some p.e∧p.i < ops.size∧p.i < vs.length:=by
   intro p hp
   obtain ⟨_,h1,h2⟩:=pT hel hp
   simp only[Nat.sub_zero] at h1 h2
   have hlt:p.i < vs.length:=by
    rcases Nat.lt_or_ge p.i vs.length with hh | hh
    ·exact hh
    ·simp[List.getElem?_eq_none hh] at h1
   have hlt':p.i < ops.toList.length:=by simp;omega
   obtain ⟨v,hv1,hv2⟩:=hget p.i ops.toList[p.i] (List.getElem?_eq_getElem hlt')
   rw[hvg hlt] at hv1
   obtain rfl:v=p.o:=by rw[h1] at hv1;exact (Option.some.inj hv1).symm
   exact ⟨ops.toList[p.i],by rw[←Array.getElem?_toList];exact List.getElem?_eq_getElem hlt',hv2,h1,h2,by omega,hlt⟩
  have hfree:∀ p∈cj 0 vs es,∀ x∈cj 0 vs es,p.i < x.i→((Region.before ops).getD x.i 0).testBit p.i=false→Free x p:=by
   intro p hp x hx hlt hbit
   obtain ⟨o1,a1,a2,a3,a4,a5,a6⟩:=hcomp p hp
   obtain ⟨o2,b1,b2,b3,b4,b5,b6⟩:=hcomp x hx
   have hap:=hap0 x.i b5 p.i hlt
   rw[hbit,a1,b1] at hap
   simp only[Bool.false_or] at hap
   have hAp:=xP a2 b2 hap
   cases hfl:p.o.op.flagged x.o.op with
   | false=>
    obtain ⟨σ1,s1⟩:=hall p hp
    obtain ⟨σ2,s2⟩:=hall x hx
    obtain ⟨i1,i2⟩:=AI s1 s2 hfl
    exact ⟨hAp,i1,i2⟩
   | true=>
    have hm:(p.i,x.i)∈pairs:=by
     rw[←hpairs]
     refine List.mem_flatMap.2 ⟨x.i,List.mem_range.2 b5,List.mem_filterMap.2 ⟨p.i,List.mem_range.2 hlt,?_⟩⟩
     rw[hbit]
     simp only[Bool.false_eq_true,if_false,List.getElem?_toArray,hvg a6,hvg b6,a3,b3,hfl,if_true]
    have:=hk1 _ (List.mem_filter.2 ⟨hm,by simp[a6,b6]⟩)
    simp only[a4,b4,Bool.and_eq_true] at this
    exact ⟨hAp,l3 this.1,l3 this.2⟩
  have hnr:∀ p∈cj 0 vs es,∀ k∈cj 0 vs es,p.i≠k.i→((Region.before ops).getD p.i 0).testBit k.i=false→∀ d,ez k.e d→mR d p.e.u:=by
   intro p hp k hk' hne hbit d hcr
   obtain ⟨o1,a1,a2,a3,a4,a5,a6⟩:=hcomp p hp
   obtain ⟨o2,b1,b2,b3,b4,b5,b6⟩:=hcomp k hk'
   obtain ⟨σ2,s2⟩:=hall k hk'
   have hmk:k.o.op.makes=true:=(lX s2).2.1 (by obtain ⟨⟨o,ho⟩,_⟩:=hcr;rw[ho];simp)
   have hm:(p.i,k.i)∈makes:=by
    rw[←hmakes]
    refine List.mem_flatMap.2 ⟨k.i,List.mem_range.2 b5,?_⟩
    simp only[List.getElem?_toArray,hvg b6,b3,hmk,if_true]
    refine List.mem_filterMap.2 ⟨p.i,List.mem_range.2 a5,?_⟩
    rw[if_neg hne,hbit]
    simp
   have:=hk2 _ (List.mem_filter.2 ⟨hm,by simp[a6,b6]⟩)
   simp only[a4,b4,fJ.2 hcr] at this
   exact sQ this
  have hgood:∀ p∈cj 0 vs es,∀ d,ez p.e d→cE d σ:=by
   intro p hp d hcr
   obtain ⟨o1,a1,a2,a3,a4,a5,a6⟩:=hcomp p hp
   have:=hk3 p.e (List.mem_of_getElem? a4)
   simp only[fJ.2 hcr,Bool.and_eq_true] at this
   exact ⟨xe this.1,fun id o ho=>xg this.2 ho⟩
  have hbit_lt:∀ (j k:Nat),j≤k→j < ops.size→((Region.before ops).getD j 0).testBit k=false:=by
   intro j
   induction j using Nat.strongRecOn with
   | _ j ih=>
    intro k hjk hj
    cases hb:((Region.before ops).getD j 0).testBit k with
    | false=>rfl
    | true=>
     obtain ⟨e,he,hbd,h⟩:=oH (ops:=ops) (j:=j) (o:=ops[j]) (by simp[hj]) hb
     have hlt:=hup j ops[j] (by simp[hj]) e he hbd
     rcases h with h | h
     ·omega
     ·have:=ih e.on hlt k (by omega) (by omega)
      rw[this] at h;simp at h
  have hflow':∀ p,p < vs.length→∃ q,p < q∧q≤vs.length∧((Region.before ops).getD q 0).testBit p=true:=by
   intro p hp
   have hx:(vs++[last])[p]?=some vs[p]:=by rw[hvg hp];simp[hp]
   obtain ⟨j,y,d,h1,h2,h3,h4⟩:=xR hflow p vs[p] hx (by simp;omega)
   have hj:j < (vs++[last]).length:=by
    rcases Nat.lt_or_ge j (vs++[last]).length with hh | hh
    ·exact hh
    ·rw[List.getElem?_eq_none hh] at h2;simp at h2
   have hj':j < ops.size:=by simp at hj;omega
   refine ⟨j,h1,by simp at hj;omega,?_⟩
   have hap:=hap0 j hj' p h1
   cases hb:((Region.before ops).getD j 0).testBit p with
   | true=>rfl
   | false=>
    exfalso
    obtain ⟨x',hx',hcx⟩:=hget p ops.toList[p] (List.getElem?_eq_getElem (by simp;omega))
    obtain ⟨y',hy',hcy⟩:=hget j ops.toList[j] (List.getElem?_eq_getElem (by simpa using hj'))
    rw[hx] at hx'
    obtain rfl:=Option.some.inj hx'
    rw[h2] at hy'
    obtain rfl:=Option.some.inj hy'
    have ox:ops[p]?=some ops.toList[p]:=by rw[←Array.getElem?_toList];exact List.getElem?_eq_getElem (by simp;omega)
    have oy:ops[j]?=some ops.toList[j]:=by rw[←Array.getElem?_toList];exact List.getElem?_eq_getElem (by simpa using hj')
    rw[hb,ox,oy] at hap
    simp only[Bool.false_or] at hap
    exact ((xP hcx hcy hap).1 d h3).1 h4
  have main:∀ (fuel:Nat) (listed:Array Bool) (L:List Item1) (σ1:St) (a:Act) (w:World),L.length+1≤fuel→listed.size=ops.size→(L.map (·.i)).Pairwise (· < ·)→(∀ p∈L,p∈cj 0 vs es)→
    (∀ j,j < vs.length→(listed.getD j false=false↔∃ p∈L,p.i=j))→listed.getD vs.length false=false→
    (∀ j o,ops[j]?=some o→listed.getD j false=true→∀ e∈o.after.toList,Region.binds .any e=true→listed.getD e.on false=true)→
    Dm P L σ1 σf→(∀ p∈L,∀ d,ez p.e d→cE d σ1)→σ1.n=σ.n→bN w0 S0 M σ1 a w→wpAny P .any ops Q fuel listed a w:=by
   intro fuel
   induction fuel with
   | zero=>
    intro listed L σ1 a w hf
    omega
   | succ fuel ih=>
    intro listed L σ1 a w hf hsz hpw hin hli hll hcl hr hg hn1 hsim
    refine ⟨fun hempty=>?_,fun i hi=>?_⟩
    ·cases L with
     | nil=>
      exfalso
      have hln:vs.length < ops.size:=by omega
      have:vs.length∈Region.ready .any ops listed:=by
       refine mem_ready.2 ⟨xO (by omega) hll,ops[vs.length],by simp[hln],fun e he hb=>?_⟩
       have hlt:=hup vs.length ops[vs.length] (by simp[hln]) e (by simpa using he) hb
       cases hel':listed.getD e.on false with
       | true=>rfl
       | false=>
        obtain ⟨q,hq,_⟩:=(hli e.on hlt).1 hel'
        simp at hq
      rw[hempty] at this
      simp at this
     | cons p L=>
      exfalso
      obtain ⟨o1,a1,a2,a3,a4,a5,a6⟩:=hcomp p (hin p (by simp))
      have hpl:listed.getD p.i false=false:=(hli p.i a6).2 ⟨p,by simp,rfl⟩
      have:p.i∈Region.ready .any ops listed:=by
       refine mem_ready.2 ⟨xO (by omega) hpl,o1,a1,fun e he hb=>?_⟩
       have hlt:=hup p.i o1 a1 e (by simpa using he) hb
       cases hel':listed.getD e.on false with
       | true=>rfl
       | false=>
        obtain ⟨q,hq,hqi⟩:=(hli e.on (by omega)).1 hel'
        rcases List.mem_cons.1 hq with rfl | hq
        ·omega
        ·have:p.i < q.i:=(List.pairwise_cons.1 hpw).1 q.i (List.mem_map_of_mem hq)
         omega
      rw[hempty] at this
      simp at this
    ·obtain ⟨h1,oi,hoi,hready⟩:=mem_ready.1 hi
     have hlt:i < ops.size:=by
      rcases Nat.lt_or_ge i ops.size with hh | hh
      ·exact hh
      ·simp[Array.getElem?_eq_none hh] at hoi
     rcases (Nat.lt_or_ge i vs.length).symm with hge | hlt
     ·obtain rfl:i=vs.length:=by omega
      have hall':∀ (k p:Nat),p < vs.length→vs.length≤p+k→listed.getD p false=true:=by
       intro k
       induction k with
       | zero=>intro p h1 h2;omega
       | succ k ihk=>
        intro p hp hk'
        obtain ⟨q,hpq,hqn,hbit⟩:=hflow' p hp
        have hqs:q < ops.size:=by omega
        refine lp hup hcl (q+1) q ops[q] (by omega) (by simp[hqs]) ?_ p hbit
        rcases Nat.lt_or_ge q vs.length with hq | hq
        ·exact fun e he hb=>hcl q ops[q] (by simp[hqs]) (ihk q hq (by omega)) e he hb
        ·obtain rfl:q=vs.length:=by omega
         have:oi=ops[vs.length]:=by rw[show ops[vs.length]?=some ops[vs.length] by simp[hqs]] at hoi;exact (Option.some.inj hoi).symm
         subst this
         exact fun e he hb=>hready e (by simpa using he) hb
      cases L with
      | cons p L=>
       exfalso
       obtain ⟨o1,a1,a2,a3,a4,a5,a6⟩:=hcomp p (hin p (by simp))
       have h1:=(hli p.i a6).2 ⟨p,by simp,rfl⟩
       rw[hall' vs.length p.i a6 (by omega)] at h1
       simp at h1
      | nil=>
       refine hQ _ (fun a' w' hq=>?_) a w (hsim.congr hr)
       have hempty:Region.ready .any ops (listed.setIfInBounds vs.length true)=[]:=by
        rw[List.eq_nil_iff_forall_not_mem]
        intro j hj
        obtain ⟨g1,oj,hoj,_⟩:=mem_ready.1 hj
        have hjs:j < ops.size:=by
         rcases Nat.lt_or_ge j ops.size with hh | hh
         ·exact hh
         ·simp[Array.getElem?_eq_none hh] at hoj
        have g2:=mT g1
        by_cases hjm:vs.length=j
        ·subst hjm
         have:(listed.setIfInBounds vs.length true).getD vs.length false=true:=by simp[Array.getD,hsz,hjs]
         rw[this] at g2
         simp at g2
        ·rw[getD_set_ne false hjm,hall' vs.length j (by omega) (by omega)] at g2
         simp at g2
       cases fuel with
       | zero=>exact ⟨hempty,hq⟩
       | succ f=>exact ⟨fun _=>hq,fun i hi=>by rw[hempty] at hi;simp at hi⟩
     obtain ⟨x,hx,hxi⟩:=(hli i hlt).1 (mT h1)
     obtain ⟨A,B,hAB⟩:=List.append_of_mem hx
     subst hAB
     obtain ⟨o2,b1,b2,b3,b4,b5,b6⟩:=hcomp x (hin x hx)
     have hbefore:∀ b,((Region.before ops).getD x.i 0).testBit b=true→listed.getD b false=true:=by
      intro b hb
      refine lp hup hcl (x.i+1) x.i o2 (by omega) b1 (fun e he hbd=>?_) b hb
      have:oi=o2:=by rw[hxi] at b1;rw[b1] at hoi;exact (Option.some.inj hoi).symm
      subst this
      exact hready e (by simpa using he) hbd
     have hpw':=List.pairwise_append.1 (by simpa using hpw:(A.map (·.i)++(x.i::B.map (·.i))).Pairwise (· < ·))
     have hAx:∀ p∈A,p.i < x.i:=fun p hp=>hpw'.2.2 p.i (List.mem_map_of_mem hp) x.i (by simp)
     have hxB:∀ q∈B,x.i < q.i:=fun q hq=>(List.pairwise_cons.1 hpw'.2.1).1 q.i (List.mem_map_of_mem hq)
     have hAn:∀ p∈A,((Region.before ops).getD x.i 0).testBit p.i=false:=by
      intro p hp
      cases hb:((Region.before ops).getD x.i 0).testBit p.i with
      | false=>rfl
      | true=>
       have:=hbefore p.i hb
       have hpn:listed.getD p.i false=false:=(hli p.i (by have:=hAx p hp;omega)).2 ⟨p,List.mem_append_left _ hp,rfl⟩
       rw[hpn] at this;simp at this
     have inA:∀ p∈A,p∈cj 0 vs es:=fun p hp=>hin p (List.mem_append_left _ hp)
     have inx:x∈cj 0 vs es:=hin x hx
     have szA:∀ p∈A,p.i < ops.size:=fun p hp=>by have:=hAx p hp;omega
     have hfront:=uX (P:=P) hr (fun p hp=>hfree p (inA p hp) x inx (hAx p hp) (hAn p hp)) hg
      (fun p hp d hcr=>hnr x inx p (inA p hp) (by have:=hAx p hp;omega) (hAn p hp) d hcr)
      (by
        have hA:=hpw'.1
        refine List.Pairwise.imp_of_mem ?_ (List.pairwise_map.1 hA)
        intro p q hp hq hpq d hcr
        exact hnr p (inA p hp) q (inA q hq) (by omega) (hbit_lt p.i q.i (by omega) (szA p hp)) d hcr)
      (fun p hp q hq d hcr=>by
        rcases List.mem_cons.1 hq with rfl | hq'
        ·exact hnr p (inA p hp) q inx (by have:=hAx p hp;omega) (hbit_lt p.i q.i (by have:=hAx p hp;omega) (szA p hp)) d hcr
        ·have h1:=hAx p hp
         have h2:=hxB q hq'
         exact hnr p (inA p hp) q (hin q (List.mem_append_right _ (List.mem_cons_of_mem _ hq'))) (by omega) (hbit_lt p.i q.i (by omega) (szA p hp)) d hcr)
     obtain ⟨hstep,hrest⟩:=hfront
     subst hxi
     refine xM b1 b2 hsim (fun d hdd=>by rw[hn1];exact hd x.o (List.mem_of_getElem? b3) d hdd) hstep (fun a' w' hs'=>?_)
     have hmemAB:∀ p,p∈A++B→p∈A++x::B:=fun p hp=>by
      rcases List.mem_append.1 hp with hp | hp
      ·exact List.mem_append_left _ hp
      ·exact List.mem_append_right _ (List.mem_cons_of_mem _ hp)
     refine ih (listed.setIfInBounds x.i true) (A++B) _ a' w' (by simp at hf ⊢;omega) (by simp[hsz]) ?_ (fun p hp=>hin p (hmemAB p hp)) ?_ ?_ ?_ hrest ?_ (by rw[l0];exact hn1) hs'
     ·rw[List.map_append]
      refine List.pairwise_append.2 ⟨hpw'.1,(List.pairwise_cons.1 hpw'.2.1).2,fun u hu v hv=>hpw'.2.2 u hu v (List.mem_cons_of_mem _ hv)⟩
     ·intro j hj'
      have hj:j < ops.size:=by omega
      by_cases hjx:x.i=j
      ·subst hjx
       have hset:(listed.setIfInBounds x.i true).getD x.i false=true:=by simp[Array.getD,hsz,hj]
       rw[hset]
       simp only[Bool.true_eq_false,false_iff,not_exists,not_and]
       intro p hp e
       rcases List.mem_append.1 hp with hp | hp
       ·have:=hAx p hp;omega
       ·have:=hxB p hp;omega
      ·rw[getD_set_ne false hjx,hli j hj']
       constructor
       ·rintro ⟨p,hp,e⟩
        refine ⟨p,?_,e⟩
        rcases List.mem_append.1 hp with hp | hp
        ·exact List.mem_append_left _ hp
        ·rcases List.mem_cons.1 hp with rfl | hp
         ·exact absurd e hjx
         ·exact List.mem_append_right _ hp
       ·rintro ⟨p,hp,e⟩
        exact ⟨p,hmemAB p hp,e⟩
     ·rw[getD_set_ne false (by omega)]
      exact hll
     ·intro j o hj hl e he hb
      by_cases hjx:x.i=j
      ·subst hjx
       have:oi=o:=by rw[hj] at hoi;exact (Option.some.inj hoi).symm
       subst this
       exact getD_set_true (hready e (by simpa using he) hb)
      ·rw[getD_set_ne false hjx] at hl
       exact getD_set_true (hcl j o hj hl e he hb)
     ·intro p hp d hcr
      refine (hg p (hmemAB p hp) d hcr).apply ?_
      rcases List.mem_append.1 hp with hp' | hp'
      ·exact hnr x inx p (inA p hp') (by have:=hAx p hp';omega) (hAn p hp') d hcr
      ·exact hnr x inx p (hin p (hmemAB p hp)) (by have:=hxB p hp';omega) (hbit_lt x.i p.i (by have:=hxB p hp';omega) b5) d hcr
  refine main ops.size _ (cj 0 vs es) σ a w ?_ (by simp) ?_ (fun _ hp=>hp) ?_ (oI _ _) ?_ hrun hgood rfl h
  ·have:=congrArg List.length hidx
   simp only[List.length_map,List.length_range'] at this
   omega
  ·rw[hidx]
   exact List.pairwise_lt_range'
  ·intro j hj
   rw[oI]
   simp only[true_iff]
   have:j∈(cj 0 vs es).map (·.i):=by rw[hidx];simp;omega
   obtain ⟨p,hp,e⟩:=List.mem_map.1 this
   exact ⟨p,hp,e⟩
  ·intro j o _ hl
   rw[oI] at hl
   simp at hl
 ·simp at hp

end
end Go.Vs
set_option linter.unusedVariables false
set_option linter.unusedSimpArgs false
namespace Go.Vs

def ren (ρ:List (Nat×Nat)) (i:Nat):Nat:=(a8 ρ i).getD i
mutual
def SV.ren (ρ:List (Nat×Nat)):SV→SV
 | .undef=>.undef
 | .val v=>.val v
 | .nils=>.nils
 | .full rows=>.full rows
 | .own id ver=>.own (Vs.ren ρ id) ver
 | .loc id off=>.loc (Vs.ren ρ id) off
 | .eloc id ver i off=>.eloc (Vs.ren ρ id) ver i off
 | .view id ver lo hi=>.view (Vs.ren ρ id) ver lo hi
 | .agg cells=>.agg (BX ρ cells)
 | .clo f caps=>.clo f (BX ρ caps)
 | .ifc t v=>.ifc t (v.ren ρ)
 | .anyB=>.anyB
 | .selfN id t nn=>.selfN (Vs.ren ρ id) t nn
 | .ownT id v t=>.ownT (Vs.ren ρ id) v t
 | .itr id=>.itr (Vs.ren ρ id)
 | .town id ver=>.town (Vs.ren ρ id) ver
 | .teloc id ver i off=>.teloc (Vs.ren ρ id) ver i off
 | .nilT=>.nilT
def BX (ρ:List (Nat×Nat)):List SV→List SV
 | []=>[]
 | x::r=>x.ren ρ::BX ρ r
end
def Ds (ρ:List (Nat×Nat)):List (Nat×Nat×SV)→List (Nat×Nat×SV)
 | []=>[]
 | p::r=>(p.1,p.2.1,p.2.2.ren ρ)::Ds ρ r
def Ob.ren (ρ:List (Nat×Nat)):Ob→Ob
 | .box cells=>.box (BX ρ cells)
 | .arr ver s rows=>.arr ver s rows
 | .iter s p=>.iter s p
 | .tab ver s rows ln=>.tab ver s rows (Ds ρ ln)
def NC (ρ:List (Nat×Nat)):List (Nat×Ob)→List (Nat×Ob)
 | []=>[]
 | (i,o)::r=>(Vs.ren ρ i,o.ren ρ)::NC ρ r

/- The names that a value holds, all in a list of them. -/
mutual
def SV.inKeys {α:Type} (l:List (Nat×α)):SV→Bool
 | .own id _=>(a8 l id).isSome
 | .loc id _=>(a8 l id).isSome
 | .selfN id t nn=>(a8 l id).isSome
 | .ownT id _ _=>(a8 l id).isSome
 | .itr id=>(a8 l id).isSome
 | .town id _=>(a8 l id).isSome
 | .teloc id _ _ _=>(a8 l id).isSome
 | .eloc id _ _ _=>(a8 l id).isSome
 | .view id _ _ _=>(a8 l id).isSome
 | .agg cells=>l4 l cells
 | .clo _ caps=>l4 l caps
 | .ifc _ v=>v.inKeys l
 | _=>true
def l4 {α:Type} (l:List (Nat×α)):List SV→Bool
 | []=>true
 | x::r=>x.inKeys l&&l4 l r
end
def oJ {α:Type} (l:List (Nat×α)):List (Nat×Nat×SV)→Bool
 | []=>true
 | p::r=>p.2.2.inKeys l&&oJ l r
def Ob.inKeys {α:Type} (l:List (Nat×α)):Ob→Bool
 | .box cells=>l4 l cells
 | .arr _ _ _=>true
 | .iter _ _=>true
 | .tab _ _ _ ln=>oJ l ln
def wS {α:Type} (l:List (Nat×α)):List (Nat×Ob)→Bool
 | []=>true
 | (_,o)::r=>o.inKeys l&&wS l r

section
variable {w:World} {S:aC} {μ μ':Nat→Value} {objs objs':List (Nat×Ob)} {ρ:List (Nat×Nat)}

/- From the caller's names to the callee's. -/
mutual
theorem ak.unren (hl:∀ i o,a8 objs' i=some o→a8 objs (Vs.ren ρ i)=some (o.ren ρ)) (hm:∀ i o,a8 objs' i=some o→μ' i=μ (Vs.ren ρ i)):∀ (x:SV) (v:Value),ak w S μ objs (x.ren ρ) v→ak w S μ' objs' x v
 | .undef,_,h=>h
 | .val _,_,h=>h
 | .nils,_,h=>h
 | .full _,_,h=>h
 | .own id ver,v,h=>by
  intro cv s rows hc
  have:=h cv s rows (hl _ _ hc)
  rw[hm _ _ hc]
  exact this
 | .ownT id ver t,v,⟨h,h'⟩=>by
  refine ⟨?_,h'⟩
  intro cv s rows hc
  have:=h cv s rows (hl _ _ hc)
  rw[hm _ _ hc]
  exact this
 | .loc id off,v,h=>by
  intro cells hc
  have:=h _ (hl _ _ hc)
  rw[hm _ _ hc]
  exact this
 | .eloc id ver i off,v,h=>by
  intro cv s rows hc
  have:=h cv s rows (hl _ _ hc)
  rw[hm _ _ hc]
  exact this
 | .view id ver lo hi,v,h=>by
  intro cv s rows hc
  have:=h cv s rows (hl _ _ hc)
  rw[hm _ _ hc]
  exact this
 | .agg cells,v,⟨vs,h1,h2⟩=>⟨vs,h1,ag.unren hl hm cells _ h2⟩
 | .clo f caps,v,⟨vs,h1,h2⟩=>⟨vs,h1,aD.unren hl hm caps _ h2⟩
 | .ifc t x,v,⟨u,h1,h2⟩=>⟨u,h1,ak.unren hl hm x u h2⟩
 | .anyB,v,h=>h
 | .selfN id t nn,v,h=>by
  intro cells hc
  have:=h _ (hl _ _ hc)
  rw[hm _ _ hc]
  exact this
 | .itr id,v,h=>by
  intro s p hc
  have:=h s p (hl _ _ hc)
  rw[hm _ _ hc]
  exact this
 | .nilT,v,h=>h
 | .town id ver,v,h=>by
  intro cv s rows ln hc
  have:=h _ _ _ _ (hl _ _ hc)
  rw[hm _ _ hc]
  exact this
 | .teloc id ver i off,v,h=>by
  intro cv s rows ln hc
  have:=h _ _ _ _ (hl _ _ hc)
  rw[hm _ _ hc]
  exact this
theorem aD.unren (hl:∀ i o,a8 objs' i=some o→a8 objs (Vs.ren ρ i)=some (o.ren ρ)) (hm:∀ i o,a8 objs' i=some o→μ' i=μ (Vs.ren ρ i)):∀ (x:List SV) (v:List Value),aD w S μ objs (BX ρ x) v→aD w S μ' objs' x v
 | [],_,h=>h
 | x::xs,v,⟨u,us,h1,h2,h3⟩=>⟨u,us,h1,ak.unren hl hm x u h2,aD.unren hl hm xs us h3⟩
theorem ag.unren (hl:∀ i o,a8 objs' i=some o→a8 objs (Vs.ren ρ i)=some (o.ren ρ)) (hm:∀ i o,a8 objs' i=some o→μ' i=μ (Vs.ren ρ i)):∀ (x:List SV) (v:List Value),ag w S μ objs (BX ρ x) v→ag w S μ' objs' x v
 | [],_,h=>h
 | x::xs,v,⟨u,us,h1,h0,h2,h3⟩=>⟨u,us,h1,h0,ak.unren hl hm x u h2,ag.unren hl hm xs us h3⟩
end

/- And back: the callee's are 'objs', the caller's 'objs''. -/
mutual
theorem ak.renamed (hl:∀ i o,a8 objs i=some o→a8 objs' (Vs.ren ρ i)=some (o.ren ρ)) (hm:∀ i o,a8 objs i=some o→μ' (Vs.ren ρ i)=μ i):∀ (x:SV) (v:Value),x.inKeys objs=true→ak w S μ objs x v→ak w S μ' objs' (x.ren ρ) v
 | .undef,_,_,h=>h
 | .val _,_,_,h=>h
 | .nils,_,_,h=>h
 | .full _,_,_,h=>h
 | .own id ver,v,hk,h=>by
  obtain ⟨o,ho⟩:=Option.isSome_iff_exists.1 hk
  intro cv s rows hc
  have h1:=hl _ _ ho
  rw[hc] at h1
  have h2:=hm _ _ ho
  cases o with
  | box c=>simp[Ob.ren] at h1
  | iter=>simp[Ob.ren] at h1
  | tab=>simp[Ob.ren] at h1
  | arr a b c=>
   simp only[Ob.ren,Option.some.injEq,Ob.arr.injEq] at h1
   obtain ⟨rfl,rfl,rfl⟩:=h1
   rw[h2]
   exact h _ _ _ ho
 | .ownT id ver t,v,hk,⟨h,h'⟩=>by
  refine ⟨?_,h'⟩
  obtain ⟨o,ho⟩:=Option.isSome_iff_exists.1 hk
  intro cv s rows hc
  have h1:=hl _ _ ho
  rw[hc] at h1
  have h2:=hm _ _ ho
  cases o with
  | box c=>simp[Ob.ren] at h1
  | iter=>simp[Ob.ren] at h1
  | tab=>simp[Ob.ren] at h1
  | arr a b c=>
   simp only[Ob.ren,Option.some.injEq,Ob.arr.injEq] at h1
   obtain ⟨rfl,rfl,rfl⟩:=h1
   rw[h2]
   exact h _ _ _ ho
 | .loc id off,v,hk,h=>by
  obtain ⟨o,ho⟩:=Option.isSome_iff_exists.1 hk
  intro cells hc
  have h1:=hl _ _ ho
  rw[hc] at h1
  have h2:=hm _ _ ho
  cases o with
  | box c=>rw[h2];exact h _ ho
  | arr a b c=>simp[Ob.ren] at h1
  | iter=>simp[Ob.ren] at h1
  | tab=>simp[Ob.ren] at h1
 | .eloc id ver i off,v,hk,h=>by
  obtain ⟨o,ho⟩:=Option.isSome_iff_exists.1 hk
  intro cv s rows hc
  have h1:=hl _ _ ho
  rw[hc] at h1
  have h2:=hm _ _ ho
  cases o with
  | box c=>simp[Ob.ren] at h1
  | iter=>simp[Ob.ren] at h1
  | tab=>simp[Ob.ren] at h1
  | arr a b c=>
   simp only[Ob.ren,Option.some.injEq,Ob.arr.injEq] at h1
   obtain ⟨rfl,rfl,rfl⟩:=h1
   rw[h2]
   exact h _ _ _ ho
 | .view id ver lo hi,v,hk,h=>by
  obtain ⟨o,ho⟩:=Option.isSome_iff_exists.1 hk
  intro cv s rows hc
  have h1:=hl _ _ ho
  rw[hc] at h1
  have h2:=hm _ _ ho
  cases o with
  | box c=>simp[Ob.ren] at h1
  | iter=>simp[Ob.ren] at h1
  | tab=>simp[Ob.ren] at h1
  | arr a b c=>
   simp only[Ob.ren,Option.some.injEq,Ob.arr.injEq] at h1
   obtain ⟨rfl,rfl,rfl⟩:=h1
   rw[h2]
   exact h _ _ _ ho
 | .agg cells,v,hk,⟨vs,h1,h2⟩=>⟨vs,h1,ag.renamed hl hm cells _ hk h2⟩
 | .clo f caps,v,hk,⟨vs,h1,h2⟩=>⟨vs,h1,aD.renamed hl hm caps _ hk h2⟩
 | .ifc t x,v,hk,⟨u,h1,h2⟩=>⟨u,h1,ak.renamed hl hm x u hk h2⟩
 | .anyB,v,_,h=>h
 | .selfN id t nn,v,hk,h=>by
  obtain ⟨o,ho⟩:=Option.isSome_iff_exists.1 hk
  intro cells hc
  have h1:=hl _ _ ho
  rw[hc] at h1
  have h2:=hm _ _ ho
  cases o with
  | box c=>rw[h2];exact h _ ho
  | arr a b c=>simp[Ob.ren] at h1
  | iter=>simp[Ob.ren] at h1
  | tab=>simp[Ob.ren] at h1
 | .itr id,v,hk,h=>by
  obtain ⟨o,ho⟩:=Option.isSome_iff_exists.1 hk
  intro s p hc
  have h1:=hl _ _ ho
  rw[hc] at h1
  have h2:=hm _ _ ho
  cases o with
  | box c=>simp[Ob.ren] at h1
  | arr a b c=>simp[Ob.ren] at h1
  | iter a b=>rw[h2];exact h _ _ ho
  | tab=>simp[Ob.ren] at h1
 | .nilT,_,_,h=>h
 | .town id ver,v,hk,h=>by
  obtain ⟨o,ho⟩:=Option.isSome_iff_exists.1 hk
  intro cv s rows ln hc
  have h1:=hl _ _ ho
  rw[hc] at h1
  have h2:=hm _ _ ho
  cases o with
  | box c=>simp[Ob.ren] at h1
  | iter=>simp[Ob.ren] at h1
  | arr=>simp[Ob.ren] at h1
  | tab a b c l=>
   simp only[Ob.ren,Option.some.injEq,Ob.tab.injEq] at h1
   obtain ⟨rfl,rfl,rfl,_⟩:=h1
   rw[h2]
   exact h _ _ _ _ ho
 | .teloc id ver i off,v,hk,h=>by
  obtain ⟨o,ho⟩:=Option.isSome_iff_exists.1 hk
  intro cv s rows ln hc
  have h1:=hl _ _ ho
  rw[hc] at h1
  have h2:=hm _ _ ho
  cases o with
  | box c=>simp[Ob.ren] at h1
  | iter=>simp[Ob.ren] at h1
  | arr=>simp[Ob.ren] at h1
  | tab a b c l=>
   simp only[Ob.ren,Option.some.injEq,Ob.tab.injEq] at h1
   obtain ⟨rfl,rfl,rfl,_⟩:=h1
   rw[h2]
   exact h _ _ _ _ ho
theorem aD.renamed (hl:∀ i o,a8 objs i=some o→a8 objs' (Vs.ren ρ i)=some (o.ren ρ)) (hm:∀ i o,a8 objs i=some o→μ' (Vs.ren ρ i)=μ i):∀ (x:List SV) (v:List Value),l4 objs x=true→aD w S μ objs x v→aD w S μ' objs' (BX ρ x) v
 | [],_,_,h=>h
 | x::xs,v,hk,⟨u,us,h1,h2,h3⟩=>by
  simp only[l4,Bool.and_eq_true] at hk
  exact ⟨u,us,h1,ak.renamed hl hm x u hk.1 h2,aD.renamed hl hm xs us hk.2 h3⟩
theorem ag.renamed (hl:∀ i o,a8 objs i=some o→a8 objs' (Vs.ren ρ i)=some (o.ren ρ)) (hm:∀ i o,a8 objs i=some o→μ' (Vs.ren ρ i)=μ i):∀ (x:List SV) (v:List Value),l4 objs x=true→ag w S μ objs x v→ag w S μ' objs' (BX ρ x) v
 | [],_,_,h=>h
 | x::xs,v,hk,⟨u,us,h1,h0,h2,h3⟩=>by
  simp only[l4,Bool.and_eq_true] at hk
  exact ⟨u,us,h1,h0,ak.renamed hl hm x u hk.1 h2,ag.renamed hl hm xs us hk.2 h3⟩
end

/- What the caller holds itself: objects have turned as far as 'SVRel.same' lets them, and new names have come. -/
mutual
def SV.clear (D:Nat→Bool):SV→Bool
 | .own id _=>!D id
 | .loc id _=>!D id
 | .selfN id t nn=>!D id
 | .ownT id _ _=>!D id
 | .itr id=>!D id
 | .town id _=>!D id
 | .teloc id _ _ _=>!D id
 | .eloc id _ _ _=>!D id
 | .view id _ _ _=>!D id
 | .agg cells=>lq D cells
 | .clo _ caps=>lq D caps
 | .ifc _ v=>v.clear D
 | _=>true
def lq (D:Nat→Bool):List SV→Bool
 | []=>true
 | x::r=>x.clear D&&lq D r
end
def BY (D:Nat→Bool):List (Nat×SV)→Bool
 | []=>true
 | (_,x)::r=>x.clear D&&BY D r
def sT (D:Nat→Bool):List (Nat×Nat×SV)→Bool
 | []=>true
 | p::r=>p.2.2.clear D&&sT D r
def Ob.clear (D:Nat→Bool):Ob→Bool
 | .box cells=>lq D cells
 | .arr _ _ _=>true
 | .iter _ _=>true
 | .tab _ _ _ ln=>sT D ln
def BZ (D:Nat→Bool):List (Nat×Ob)→Bool
 | []=>true
 | (_,x)::r=>x.clear D&&BZ D r
theorem xS {D:Nat→Bool} : ∀ {l:List (Nat×SV)},BY D l=true→∀ k,(ap l k).clear D=true
 | [],_,_=>rfl
 | (j,x)::r,h,k=>by
  simp only[BY,Bool.and_eq_true] at h
  simp only[ap,a8]
  cases j==k
  ·exact xS h.2 k
  ·exact h.1
theorem xU {D:Nat→Bool} : ∀ {l:List (Nat×Ob)},BZ D l=true→∀ k o,a8 l k=some o→o.clear D=true
 | [],_,_,_,h=>by simp[a8] at h
 | (j,x)::r,h,k,o,hl=>by
  simp only[BZ,Bool.and_eq_true] at h
  simp only[a8] at hl
  cases hj:j==k
  ·rw[hj] at hl;exact xU h.2 k o hl
  ·rw[hj] at hl;simp at hl;subst hl;exact h.1
mutual
theorem ak.step {D:Nat→Bool}
  (hb:∀ id cells,D id=false→a8 objs' id=some (.box cells)→∃ cells',a8 objs id=some (.box cells')∧μ' id=μ id)
  (ha:∀ id cv s rows,D id=false→a8 objs' id=some (.arr cv s rows)→∃ cv' rows',a8 objs id=some (.arr cv' s rows')∧cv'≤cv∧(cv'=cv→rows'.length=rows.length∧μ' id=μ id))
  (hi:∀ id s p,D id=false→a8 objs' id=some (.iter s p)→∃ s' p',a8 objs id=some (.iter s' p')∧μ' id=μ id)
  (ht:∀ id cv s rows ln,D id=false→a8 objs' id=some (.tab cv s rows ln)→∃ cv' rows' ln',a8 objs id=some (.tab cv' s rows' ln')∧cv'≤cv∧(cv'=cv→rows'.length=rows.length∧μ' id=μ id)) :
  ∀ (x:SV) (v:Value),x.clear D=true→ak w S μ objs x v→ak w S μ' objs' x v
 | .undef,v,_,h=>h
 | .val x,v,_,h=>h
 | .nils,v,_,h=>h
 | .full rows,v,_,h=>h
 | .own id ver,v,hd,h=>by
  have hd:D id=false:=by simpa[SV.clear] using hd
  intro cv s rows hl
  obtain ⟨cv',rows',h1,h2,h5⟩:=ha id cv s rows hd hl
  obtain ⟨h3,h4⟩:=h _ _ _ h1
  exact ⟨Nat.le_trans h3 h2,fun e=>by rw[(h5 (by omega)).2];exact h4 (by omega)⟩
 | .ownT id ver t,v,hd,⟨h,h'⟩=>by
  refine ⟨?_,h'⟩
  have hd:D id=false:=by simpa[SV.clear] using hd
  intro cv s rows hl
  obtain ⟨cv',rows',h1,h2,h5⟩:=ha id cv s rows hd hl
  obtain ⟨h3,h4⟩:=h _ _ _ h1
  exact ⟨Nat.le_trans h3 h2,fun e=>by rw[(h5 (by omega)).2];exact h4 (by omega)⟩
 | .loc id off,v,hd,h=>by
  have hd:D id=false:=by simpa[SV.clear] using hd
  intro cells hl
  obtain ⟨cells',h1,h2⟩:=hb id cells hd hl
  rw[h2]
  exact h _ h1
 | .eloc id ver i off,v,hd,h=>by
  have hd:D id=false:=by simpa[SV.clear] using hd
  intro cv s rows hl
  obtain ⟨cv',rows',h1,h2,h5⟩:=ha id cv s rows hd hl
  obtain ⟨h3,h4⟩:=h _ _ _ h1
  refine ⟨Nat.le_trans h3 h2,fun e=>?_⟩
  obtain ⟨b,cap,h6,h7⟩:=h4 (by omega)
  obtain ⟨h8,h9⟩:=h5 (by omega)
  exact ⟨b,cap,by rw[h9,h6,h8],h7⟩
 | .view id ver lo hi,v,hd,h=>by
  have hd:D id=false:=by simpa[SV.clear] using hd
  intro cv s rows hl
  obtain ⟨cv',rows',h1,h2,h5⟩:=ha id cv s rows hd hl
  obtain ⟨h3,h4⟩:=h _ _ _ h1
  refine ⟨Nat.le_trans h3 h2,fun e=>?_⟩
  obtain ⟨g1,g2,x,cap,y,g3,g4⟩:=h4 (by omega)
  obtain ⟨h8,h9⟩:=h5 (by omega)
  exact ⟨g1,by omega,x,cap,y,by rw[h9,g3,h8],by rw[←h8];exact g4⟩
 | .agg cells,v,hd,⟨vs,h1,h2⟩=>⟨vs,h1,ag.step hb ha hi ht cells _ hd h2⟩
 | .clo f caps,v,hd,⟨vs,h1,h2⟩=>⟨vs,h1,aD.step hb ha hi ht caps _ hd h2⟩
 | .ifc t x,v,hd,⟨u,h1,h2⟩=>⟨u,h1,ak.step hb ha hi ht x u hd h2⟩
 | .anyB,v,_,h=>h
 | .selfN id t nn,v,hd,h=>by
  have hd:D id=false:=by simpa[SV.clear] using hd
  intro cells hl
  obtain ⟨cells',h1,h2⟩:=hb id cells hd hl
  rw[h2]
  exact h _ h1
 | .itr id,v,hd,h=>by
  have hd:D id=false:=by simpa[SV.clear] using hd
  intro s p hl
  obtain ⟨s',p',h1,h2⟩:=hi id s p hd hl
  rw[h2]
  exact h _ _ h1
 | .nilT,v,_,h=>h
 | .town id ver,v,hd,h=>by
  have hd:D id=false:=by simpa[SV.clear] using hd
  intro cv s rows ln hl
  obtain ⟨cv',rows',ln',h1,h2,h5⟩:=ht id cv s rows ln hd hl
  obtain ⟨h3,h4⟩:=h _ _ _ _ h1
  exact ⟨Nat.le_trans h3 h2,fun e=>by rw[(h5 (by omega)).2];exact h4 (by omega)⟩
 | .teloc id ver i off,v,hd,h=>by
  have hd:D id=false:=by simpa[SV.clear] using hd
  intro cv s rows ln hl
  obtain ⟨cv',rows',ln',h1,h2,h5⟩:=ht id cv s rows ln hd hl
  obtain ⟨h3,h4⟩:=h _ _ _ _ h1
  refine ⟨Nat.le_trans h3 h2,fun e=>?_⟩
  obtain ⟨b,cap,h6,h7⟩:=h4 (by omega)
  obtain ⟨h8,h9⟩:=h5 (by omega)
  exact ⟨b,cap,by rw[h9,h6,h8],h7⟩
theorem aD.step {D:Nat→Bool}
  (hb:∀ id cells,D id=false→a8 objs' id=some (.box cells)→∃ cells',a8 objs id=some (.box cells')∧μ' id=μ id)
  (ha:∀ id cv s rows,D id=false→a8 objs' id=some (.arr cv s rows)→∃ cv' rows',a8 objs id=some (.arr cv' s rows')∧cv'≤cv∧(cv'=cv→rows'.length=rows.length∧μ' id=μ id))
  (hi:∀ id s p,D id=false→a8 objs' id=some (.iter s p)→∃ s' p',a8 objs id=some (.iter s' p')∧μ' id=μ id)
  (ht:∀ id cv s rows ln,D id=false→a8 objs' id=some (.tab cv s rows ln)→∃ cv' rows' ln',a8 objs id=some (.tab cv' s rows' ln')∧cv'≤cv∧(cv'=cv→rows'.length=rows.length∧μ' id=μ id)) :
  ∀ (x:List SV) (v:List Value),lq D x=true→aD w S μ objs x v→aD w S μ' objs' x v
 | [],v,_,h=>h
 | x::xs,v,hd,⟨u,us,h1,h2,h3⟩=>by
  simp only[lq,Bool.and_eq_true] at hd
  exact ⟨u,us,h1,ak.step hb ha hi ht x u hd.1 h2,aD.step hb ha hi ht xs us hd.2 h3⟩
theorem ag.step {D:Nat→Bool}
  (hb:∀ id cells,D id=false→a8 objs' id=some (.box cells)→∃ cells',a8 objs id=some (.box cells')∧μ' id=μ id)
  (ha:∀ id cv s rows,D id=false→a8 objs' id=some (.arr cv s rows)→∃ cv' rows',a8 objs id=some (.arr cv' s rows')∧cv'≤cv∧(cv'=cv→rows'.length=rows.length∧μ' id=μ id))
  (hi:∀ id s p,D id=false→a8 objs' id=some (.iter s p)→∃ s' p',a8 objs id=some (.iter s' p')∧μ' id=μ id)
  (ht:∀ id cv s rows ln,D id=false→a8 objs' id=some (.tab cv s rows ln)→∃ cv' rows' ln',a8 objs id=some (.tab cv' s rows' ln')∧cv'≤cv∧(cv'=cv→rows'.length=rows.length∧μ' id=μ id)) :
  ∀ (x:List SV) (v:List Value),lq D x=true→ag w S μ objs x v→ag w S μ' objs' x v
 | [],v,_,h=>h
 | x::xs,v,hd,⟨u,us,h1,h0,h2,h3⟩=>by
  simp only[lq,Bool.and_eq_true] at hd
  exact ⟨u,us,h1,h0,ak.step hb ha hi ht x u hd.1 h2,ag.step hb ha hi ht xs us hd.2 h3⟩
end
end

section
variable {w:World} {S:aC} {μ μ':Nat→Value} {objs objs':List (Nat×Ob)} {ρ:List (Nat×Nat)}
theorem ay.unren {s n:Nat} {vs:List Value} (hl:∀ i o,a8 objs' i=some o→a8 objs (Vs.ren ρ i)=some (o.ren ρ)) (hm:∀ i o,a8 objs' i=some o→μ' i=μ (Vs.ren ρ i)):∀ {l:List (Nat×Nat×SV)},ay w S μ objs s n vs (Ds ρ l)→ay w S μ' objs' s n vs l
 | [],_=>trivial
 | _::_,⟨⟨h1,h2,v,h3,h4⟩,h5⟩=>⟨⟨h1,h2,v,h3,ak.unren hl hm _ _ h4⟩,ay.unren hl hm h5⟩
theorem ay.renamed {s n:Nat} {vs:List Value} (hl:∀ i o,a8 objs i=some o→a8 objs' (Vs.ren ρ i)=some (o.ren ρ)) (hm:∀ i o,a8 objs i=some o→μ' (Vs.ren ρ i)=μ i):∀ {l:List (Nat×Nat×SV)},oJ objs l=true→ay w S μ objs s n vs l→ay w S μ' objs' s n vs (Ds ρ l)
 | [],_,_=>trivial
 | _::_,hk,⟨⟨h1,h2,v,h3,h4⟩,h5⟩=>by
  simp only[oJ,Bool.and_eq_true] at hk
  exact ⟨⟨h1,h2,v,h3,ak.renamed hl hm _ _ hk.1 h4⟩,ay.renamed hl hm hk.2 h5⟩
theorem ay.step {D:Nat→Bool} {s n:Nat} {vs:List Value}
  (hb:∀ id cells,D id=false→a8 objs' id=some (.box cells)→∃ cells',a8 objs id=some (.box cells')∧μ' id=μ id)
  (ha:∀ id cv s rows,D id=false→a8 objs' id=some (.arr cv s rows)→∃ cv' rows',a8 objs id=some (.arr cv' s rows')∧cv'≤cv∧(cv'=cv→rows'.length=rows.length∧μ' id=μ id))
  (hi:∀ id s p,D id=false→a8 objs' id=some (.iter s p)→∃ s' p',a8 objs id=some (.iter s' p')∧μ' id=μ id)
  (ht:∀ id cv s rows ln,D id=false→a8 objs' id=some (.tab cv s rows ln)→∃ cv' rows' ln',a8 objs id=some (.tab cv' s rows' ln')∧cv'≤cv∧(cv'=cv→rows'.length=rows.length∧μ' id=μ id)) :
  ∀ {l:List (Nat×Nat×SV)},sT D l=true→ay w S μ objs s n vs l→ay w S μ' objs' s n vs l
 | [],_,_=>trivial
 | _::_,hd,⟨⟨h1,h2,v,h3,h4⟩,h5⟩=>by
  simp only[sT,Bool.and_eq_true] at hd
  exact ⟨⟨h1,h2,v,h3,ak.step hb ha hi ht _ _ hd.1 h4⟩,ay.step hb ha hi ht hd.2 h5⟩
end

/- No memory behind a value, but objects that are named. -/
mutual
def SV.flat:SV→Bool
 | .val v=>v.flat
 | .full _=>false
 | .selfN _ _ _=>false
 | .ownT _ _ _=>false
 | .agg cells=>SV.flatL cells
 | .clo _ caps=>SV.flatL caps
 | .ifc _ v=>v.flat
 | _=>true
def SV.flatL:List SV→Bool
 | []=>true
 | x::r=>x.flat&&SV.flatL r
end
def Ob.flat:Ob→Bool
 | .box cells=>SV.flatL cells
 | .arr _ _ rows=>ki rows
 | .iter _ _=>true
 | .tab _ _ _ _=>false
def Dt:List (Nat×Ob)→Bool
 | []=>true
 | (_,o)::r=>o.flat&&Dt r
theorem AJ:∀ {l:List (Nat×Ob)},Dt l=true→∀ k o,a8 l k=some o→o.flat=true
 | [],_,_,_,h=>by simp[a8] at h
 | (j,x)::r,h,k,o,hl=>by
  simp only[Dt,Bool.and_eq_true] at h
  simp only[a8] at hl
  cases hj:j==k
  ·rw[hj] at hl;exact AJ h.2 k o hl
  ·rw[hj] at hl;simp at hl;subst hl;exact h.1
mutual
theorem SV.flat_rel {w w':World} {S S':aC} {μ:Nat→Value} {objs:List (Nat×Ob)} : ∀ (x:SV) (v:Value),x.flat=true→ak w S μ objs x v→ak w' S' μ objs x v
 | .undef,_,_,h=>h
 | .val x,v,hf,h=>IV.flat_rep x v hf h
 | .nils,_,_,h=>h
 | .full rows,_,hf,_=>by simp[SV.flat] at hf
 | .own _ _,_,_,h=>h
 | .loc _ _,_,_,h=>h
 | .eloc _ _ _ _,_,_,h=>h
 | .view _ _ _ _,_,_,h=>h
 | .agg cells,v,hf,⟨vs,h1,h2⟩=>⟨vs,h1,SV.flat_ones cells _ hf h2⟩
 | .clo f caps,v,hf,⟨vs,h1,h2⟩=>⟨vs,h1,SV.flat_list caps _ hf h2⟩
 | .ifc t x,v,hf,⟨u,h1,h2⟩=>⟨u,h1,SV.flat_rel x u hf h2⟩
 | .anyB,v,_,h=>h
 | .selfN _ _ _,v,hf,h=>by simp[SV.flat] at hf
 | .ownT _ _ _,v,hf,h=>by simp[SV.flat] at hf
 | .itr _,v,_,h=>h
 | .nilT,_,_,h=>h
 | .town _ _,_,_,h=>h
 | .teloc _ _ _ _,_,_,h=>h
theorem SV.flat_list {w w':World} {S S':aC} {μ:Nat→Value} {objs:List (Nat×Ob)} : ∀ (x:List SV) (v:List Value),SV.flatL x=true→aD w S μ objs x v→aD w' S' μ objs x v
 | [],_,_,h=>h
 | x::xs,v,hf,⟨u,us,h1,h2,h3⟩=>by
  simp only[SV.flatL,Bool.and_eq_true] at hf
  exact ⟨u,us,h1,SV.flat_rel x u hf.1 h2,SV.flat_list xs us hf.2 h3⟩
theorem SV.flat_ones {w w':World} {S S':aC} {μ:Nat→Value} {objs:List (Nat×Ob)} : ∀ (x:List SV) (v:List Value),SV.flatL x=true→ag w S μ objs x v→ag w' S' μ objs x v
 | [],_,_,h=>h
 | x::xs,v,hf,⟨u,us,h1,h0,h2,h3⟩=>by
  simp only[SV.flatL,Bool.and_eq_true] at hf
  exact ⟨u,us,h1,h0,SV.flat_rel x u hf.1 h2,SV.flat_ones xs us hf.2 h3⟩
end
theorem aP.flat {w':World} {S S':aC} {μ:Nat→Value} {objs:List (Nat×Ob)} {blk:Option Nat} {mu:Value} : ∀ {o:Ob},o.flat=true→aP w' S μ objs blk mu o→aP w' S' μ objs blk mu o
 | .box cells,hf,⟨b,vs,e,fr,h1,h2,h3,h4,h5⟩=>⟨b,vs,e,fr,h1,h2,h3,h4,SV.flat_ones cells _ hf h5⟩
 | .arr _ _ rows,_,.inl h=>.inl h
 | .arr _ _ rows,hf,.inr ⟨b,cap,vs,e,fr,k1,k2,k3,k4,k5,k6,k7,k8⟩=>.inr ⟨b,cap,vs,e,fr,k1,k2,k3,k4,k5,k6,k7,mQ _ _ (ik hf) k8⟩
 | .iter _ _,_,h=>h
 | .tab _ _ _ _,hf,_=>by simp[Ob.flat] at hf

def He (i:Nat):Ob→SV
 | .box _=>.loc i 0
 | .arr ver _ _=>.own i ver
 | .iter _ _=>.itr i
 | .tab ver _ _ _=>.town i ver

structure MC where
 args:List SV
 objs:List (Nat×Ob)
 res:SV
 objs':List (Nat×Ob)
 ro':List Nat
 ro:List Nat:=[]

def zx (gl:List (Nat×List IV)) (P:Program) (k:FuncId) (c:MC):Prop:=
 lU P k∧∀ (w:World) (S:aC) (μ:Nat→Value) (β:Nat→Option Nat) (vs:List Value),(∀ b o,S b o→b < w.heap.size)→(∀ p,p∈gl→fG w S p)→
  aD w S μ c.objs c.args vs→(∀ id o,a8 c.objs id=some o→aP w S μ c.objs (β id) (μ id) o)→
  (∀ id id' o o' b,a8 c.objs id=some o→a8 c.objs id'=some o'→β id=some b→β id'=some b→id=id')→
  (∀ id o b off,a8 c.objs id=some o→β id=some b→S b off→id∈c.ro∧∀ ver s rows,o=.arr ver s rows→off < rows.length*s)→
  eH P k vs.toArray w fun e w'=>∃ (v:Value) (S':aC) (μ':Nat→Value) (β':Nat→Option Nat),e=.returned v∧ak w' S' μ' c.objs' c.res v∧
   (∀ id o,a8 c.objs' id=some o→aP w' S' μ' c.objs' (β' id) (μ' id) o)∧
   (∀ id id' o o' b,a8 c.objs' id=some o→a8 c.objs' id'=some o'→β' id=some b→β' id'=some b→id=id')∧
   (∀ id o b,a8 c.objs' id=some o→β' id=some b→w.heap.size≤b∨∃ i x,a8 c.objs i=some x∧β i=some b)∧
   (∀ id o b off,a8 c.objs' id=some o→β' id=some b→S' b off→id∈c.ro'∧∀ ver s rows,o=.arr ver s rows→off < rows.length*s)∧
   (∀ b o,S' b o→b < w'.heap.size)∧(∀ b o,S b o→S' b o)∧(∀ b o,S' b o→S b o∨w.heap.size≤b∨∃ i x,a8 c.objs i=some x∧β i=some b)∧
   Kept (fun b=>∃ i x,a8 c.objs i=some x∧β i=some b) w w'∧
   (∀ id o,a8 c.objs id=some o→ak w' S' μ' c.objs' (He id o) (μ id))∧
   (∀ b o,S b o→w'.cell? ⟨b,o,none⟩=w.cell? ⟨b,o,none⟩)
end Go.Vs
set_option linter.unusedVariables false
set_option linter.unusedSimpArgs false
namespace Go.Vs

def sU (objs:List (Nat×Ob)) (ρ:List (Nat×Nat)):List SV→List SV→List Nat→Prop
 | [],[],fz=>fz=[]
 | x::xs,.val iv::ys,fz=>∃ f g,sA objs x=some (iv,f)∧sU objs ρ xs ys g∧fz=f++g
 | x::xs,y::ys,fz=>x=y.ren ρ∧sU objs ρ xs ys fz
 | _,_,_=>False
def oK (objs:List (Nat×Ob)) (ρ:List (Nat×Nat)):List (Nat×Ob)→Prop
 | []=>True
 | (i,o)::r=>a8 objs (ren ρ i)=some (o.ren ρ)∧oK objs ρ r
theorem jT {objs:List (Nat×Ob)} {ρ:List (Nat×Nat)} : ∀ {l:List (Nat×Ob)},oK objs ρ l→∀ i o,a8 l i=some o→a8 objs (ren ρ i)=some (o.ren ρ)
 | [],_,_,_,h=>by simp[a8] at h
 | (j,x)::r,hm,i,o,h=>by
  simp only[a8] at h
  cases hj:j==i
  ·rw[hj] at h;exact jT hm.2 i o h
  ·rw[hj] at h
   rw[beq_iff_eq] at hj
   simp only[cond_true,Option.some.injEq] at h
   subst h;subst hj
   exact hm.1

def bZ:Ob→Option Ob→Bool
 | .box _,some (.box _)=>true
 | .arr _ s _,some (.arr _ s' _)=>s==s'
 | .tab _ s _ _,some (.tab _ s' _ _)=>s==s'
 | _,_=>false
def fh (ρ:List (Nat×Nat)) (objs:List (Nat×Ob)):List (Nat×Ob)→Nat→Bool
 | [],_=>false
 | (i,_)::r,id=>((a8 objs i).isNone&&ren ρ i==id)||fh ρ objs r id
def L2 (σ:St) (ρ:List (Nat×Nat)) (ro:List Nat) (objs':List (Nat×Ob)):List (Nat×Ob)→Bool
 | []=>true
 | (i,o)::r=>(!σ.ro.contains (ren ρ i)||ro.contains i)&&bZ o (a8 objs' i)&&L2 σ ρ ro objs' r
def Gj (ρ:List (Nat×Nat)) (id:Nat):List (Nat×Ob)→Bool
 | []=>true
 | (j,_)::r=>!(ren ρ j==id)&&Gj ρ id r
def Hf (ρ:List (Nat×Nat)):List (Nat×Ob)→Bool
 | []=>true
 | (i,_)::r=>Gj ρ (ren ρ i) r&&Hf ρ r
def L3 (σ:St) (ρ:List (Nat×Nat)) (objs:List (Nat×Ob)):List (Nat×Ob)→Bool
 | []=>true
 | (i,_)::r=>((a8 objs i).isSome||((a8 σ.objs (ren ρ i)).isNone&&decide (ren ρ i < σ.n)))&&L3 σ ρ objs r
def Nw (ρ:List (Nat×Nat)) (fz:List Nat):List (Nat×Ob)→Bool
 | []=>true
 | (i,_)::r=>!fz.contains (ren ρ i)&&Nw ρ fz r
theorem Gk {ρ:List (Nat×Nat)} {fz:List Nat} : ∀ {l:List (Nat×Ob)},Nw ρ fz l=true→∀ i o,a8 l i=some o→ren ρ i∉fz
 | [],_,_,_,h=>by simp[a8] at h
 | (j,x)::r,hn,i,o,h=>by
  simp only[Nw,Bool.and_eq_true,Bool.not_eq_true'] at hn
  simp only[a8] at h
  cases hj:j==i
  ·rw[hj] at h;exact Gk hn.2 i o h
  ·rw[beq_iff_eq] at hj;subst hj;simpa using hn.1
def Nx (σ:St) (ρ:List (Nat×Nat)) (c:MC):Bool:=
 L2 σ ρ c.ro c.objs' c.objs&&Hf ρ c.objs'&&L3 σ ρ c.objs c.objs'&&BY (fh ρ c.objs c.objs') σ.env&&BZ (fh ρ c.objs c.objs') σ.objs&&c.res.inKeys c.objs'&&wS c.objs' c.objs'

def s9 (objs:List (Nat×Ob)) (ρ:List (Nat×Nat)):List (Nat×Ob)→List (Nat×Ob)
 | []=>objs
 | (i,o)::r=>put (s9 objs ρ r) (ren ρ i) (o.ren ρ)
def AK (c:MC):Bool:=c.res.flat&&Dt c.objs'
def St.mapply (σ:St) (dst:Option Nat) (ρ:List (Nat×Nat)) (c:MC) (fz:List Nat):St:=
 ⟨putD σ.env dst (c.res.ren ρ),s9 σ.objs ρ c.objs',c.ro'.map (ren ρ)++((bif AK c then [] else fz)++σ.ro),σ.n,σ.gl⟩

def back (ρ:List (Nat×Nat)):List (Nat×Ob)→Nat→Option Nat
 | [],_=>none
 | (i,_)::r,id=>bif ren ρ i==id then some i else back ρ r id
theorem d5 {ρ:List (Nat×Nat)} : ∀ {l:List (Nat×Ob)} {id i:Nat},back ρ l id=some i→ren ρ i=id∧∃ o,a8 l i=some o
 | [],_,_,h=>by simp[back] at h
 | (j,x)::r,id,i,h=>by
  simp only[back] at h
  cases hj:ren ρ j==id
  ·rw[hj] at h
   obtain ⟨h1,o,h2⟩:=d5 h
   refine ⟨h1,?_⟩
   simp only[a8]
   cases j==i
   ·exact ⟨o,h2⟩
   ·exact ⟨x,rfl⟩
  ·rw[hj] at h
   rw[beq_iff_eq] at hj
   simp only[cond_true,Option.some.injEq] at h
   subst h
   exact ⟨hj,x,by simp[a8]⟩
theorem xV {ρ:List (Nat×Nat)} {id:Nat} : ∀ {l:List (Nat×Ob)},Gj ρ id l=true→∀ i o,a8 l i=some o→ren ρ i≠id
 | [],_,_,_,h=>by simp[a8] at h
 | (j,x)::r,hk,i,o,h=>by
  simp only[Gj,Bool.and_eq_true,Bool.not_eq_true',beq_eq_false_iff_ne] at hk
  simp only[a8] at h
  cases hj:j==i
  ·rw[hj] at h;exact xV hk.2 i o h
  ·rw[beq_iff_eq] at hj;subst hj;exact hk.1
theorem oL {ρ:List (Nat×Nat)} : ∀ {l:List (Nat×Ob)},Hf ρ l=true→∀ i o,a8 l i=some o→back ρ l (ren ρ i)=some i
 | [],_,_,_,h=>by simp[a8] at h
 | (j,x)::r,hk,i,o,h=>by
  simp only[Hf,Bool.and_eq_true] at hk
  simp only[a8] at h
  simp only[back]
  cases hj:j==i
  ·rw[hj] at h
   have:ren ρ i≠ren ρ j:=xV hk.1 i o h
   have:(ren ρ j==ren ρ i)=false:=by simpa using this.symm
   rw[this]
   exact oL hk.2 i o h
  ·rw[beq_iff_eq] at hj;subst hj;simp
theorem lY {ρ:List (Nat×Nat)} : ∀ {l:List (Nat×Ob)} {id:Nat},back ρ l id=none→∀ i o,a8 l i=some o→ren ρ i≠id
 | [],_,_,_,_,h=>by simp[a8] at h
 | (j,x)::r,id,hb,i,o,h=>by
  simp only[back] at hb
  cases hj:ren ρ j==id
  ·rw[hj] at hb
   simp only[a8] at h
   cases hji:j==i
   ·rw[hji] at h;exact lY hb i o h
   ·rw[beq_iff_eq] at hji;subst hji;simpa using hj
  ·rw[hj] at hb;simp at hb
theorem AL {objs:List (Nat×Ob)} {ρ:List (Nat×Nat)} : ∀ {l:List (Nat×Ob)},Hf ρ l=true→∀ id,a8 (s9 objs ρ l) id=match back ρ l id with
  | some i=>(a8 l i).map (Ob.ren ρ)
  | none=>a8 objs id
 | [],_,_=>rfl
 | (j,x)::r,hk,id=>by
  simp only[Hf,Bool.and_eq_true] at hk
  simp only[s9,back]
  rw[dY]
  by_cases hj:id=ren ρ j
  ·subst hj
   simp[a8]
  ·rw[if_neg hj,AL hk.2]
   have:(ren ρ j==id)=false:=by simpa using (fun e=>hj e.symm)
   rw[this,cond_false]
   cases hb:back ρ r id with
   | none=>rfl
   | some i=>
    simp only[a8]
    obtain ⟨h1,o,h2⟩:=d5 hb
    cases hji:j==i
    ·rfl
    ·exfalso
     rw[beq_iff_eq] at hji
     subst hji
     exact hj h1.symm

theorem gQ {ρ:List (Nat×Nat)} {objs:List (Nat×Ob)} : ∀ {l:List (Nat×Ob)} {i:Nat} {o:Ob},a8 l i=some o→a8 objs i=none→fh ρ objs l (ren ρ i)=true
 | [],_,_,h,_=>by simp[a8] at h
 | (j,x)::r,i,o,h,hn=>by
  simp only[a8] at h
  simp only[fh,Bool.or_eq_true,Bool.and_eq_true]
  cases hj:j==i
  ·rw[hj] at h;exact .inr (gQ h hn)
  ·rw[beq_iff_eq] at hj;subst hj;left;simp[hn]
theorem xW {σ:St} {ρ:List (Nat×Nat)} {objs:List (Nat×Ob)} : ∀ {l:List (Nat×Ob)} {id:Nat},L3 σ ρ objs l=true→fh ρ objs l id=true→id < σ.n
 | [],_,_,h=>by simp[fh] at h
 | (j,x)::r,id,hn,h=>by
  simp only[L3,Bool.and_eq_true,Bool.or_eq_true,decide_eq_true_eq] at hn
  simp only[fh,Bool.or_eq_true,Bool.and_eq_true,beq_iff_eq] at h
  rcases h with ⟨h1,rfl⟩ | h
  ·rcases hn.1 with h2 | h2
   ·cases hl:a8 objs j <;> simp[hl] at h1 h2
   ·exact h2.2
  ·exact xW hn.2 h
theorem e9 {σ:St} {ρ:List (Nat×Nat)} {ro:List Nat} {objs':List (Nat×Ob)} : ∀ {l:List (Nat×Ob)},L2 σ ρ ro objs' l=true→∀ i o,a8 l i=some o→(ren ρ i∈σ.ro→i∈ro)∧bZ o (a8 objs' i)=true
 | [],_,_,_,h=>by simp[a8] at h
 | (j,x)::r,hn,i,o,h=>by
  simp only[L2,Bool.and_eq_true] at hn
  simp only[a8] at h
  cases hj:j==i
  ·rw[hj] at h;exact e9 hn.2 i o h
  ·rw[hj] at h
   rw[beq_iff_eq] at hj;subst hj
   simp only[cond_true,Option.some.injEq] at h
   subst h
   refine ⟨fun hm=>?_,hn.1.2⟩
   have h1:=hn.1.1
   rw[show σ.ro.contains (ren ρ j)=true by simpa using hm] at h1
   simpa using h1
theorem vH {l':List (Nat×Ob)} : ∀ {l:List (Nat×Ob)},wS l' l=true→∀ i o,a8 l i=some o→o.inKeys l'=true
 | [],_,_,_,h=>by simp[a8] at h
 | (j,x)::r,hn,i,o,h=>by
  simp only[wS,Bool.and_eq_true] at hn
  simp only[a8] at h
  cases hj:j==i
  ·rw[hj] at h;exact vH hn.2 i o h
  ·rw[hj] at h;simp only[cond_true,Option.some.injEq] at h;subst h;exact hn.1

mutual
theorem mU {D:Nat→Bool} {n:Nat} (hD:∀ i,D i=true→i < n):∀ x:SV,(∀ d,d < n→x.noRef d=true)→x.clear D=true
 | .undef,_=>rfl
 | .val _,_=>rfl
 | .nils,_=>rfl
 | .full _,_=>rfl
 | .own id _,h=>by
  simp only[SV.clear,Bool.not_eq_true']
  cases hd:D id with
  | false=>rfl
  | true=>have:=h id (hD id hd);simp[SV.noRef] at this
 | .loc id _,h=>by
  simp only[SV.clear,Bool.not_eq_true']
  cases hd:D id with
  | false=>rfl
  | true=>have:=h id (hD id hd);simp[SV.noRef] at this
 | .eloc id _ _ _,h=>by
  simp only[SV.clear,Bool.not_eq_true']
  cases hd:D id with
  | false=>rfl
  | true=>have:=h id (hD id hd);simp[SV.noRef] at this
 | .view id _ _ _,h=>by
  simp only[SV.clear,Bool.not_eq_true']
  cases hd:D id with
  | false=>rfl
  | true=>have:=h id (hD id hd);simp[SV.noRef] at this
 | .agg cells,h=>lr hD cells h
 | .clo _ caps,h=>lr hD caps h
 | .ifc _ v,h=>mU hD v h
 | .anyB,_=>rfl
 | .selfN id t nn,h=>by
  simp only[SV.clear,Bool.not_eq_true']
  cases hd:D id with
  | false=>rfl
  | true=>have:=h id (hD id hd);simp[SV.noRef] at this
 | .ownT id ver t,h=>by
  simp only[SV.clear,Bool.not_eq_true']
  cases hd:D id with
  | false=>rfl
  | true=>have:=h id (hD id hd);simp[SV.noRef] at this
 | .itr id,h=>by
  simp only[SV.clear,Bool.not_eq_true']
  cases hd:D id with
  | false=>rfl
  | true=>have:=h id (hD id hd);simp[SV.noRef] at this
 | .nilT,_=>rfl
 | .town id _,h=>by
  simp only[SV.clear,Bool.not_eq_true']
  cases hd:D id with
  | false=>rfl
  | true=>have:=h id (hD id hd);simp[SV.noRef] at this
 | .teloc id _ _ _,h=>by
  simp only[SV.clear,Bool.not_eq_true']
  cases hd:D id with
  | false=>rfl
  | true=>have:=h id (hD id hd);simp[SV.noRef] at this
theorem lr {D:Nat→Bool} {n:Nat} (hD:∀ i,D i=true→i < n):∀ x:List SV,(∀ d,d < n→SV.noRefs d x=true)→lq D x=true
 | [],_=>rfl
 | x::xs,h=>by
  simp only[lq,Bool.and_eq_true]
  have h':∀ d,d < n→x.noRef d=true∧SV.noRefs d xs=true:=fun d hd=>by simpa[SV.noRefs] using h d hd
  exact ⟨mU hD x (fun d hd=>(h' d hd).1),lr hD xs (fun d hd=>(h' d hd).2)⟩
end

section
variable {P:Program} {w0 w:World} {S0 S:aC} {M:Ctx} {σ:St} {a:Act} {μ:Nat→Value} {β:Nat→Option Nat} {o:Oper}

theorem Du (h:SimG w0 S0 M σ a w S μ β) {ρ:List (Nat×Nat)} {objs':List (Nat×Ob)} (hl:∀ i o,a8 objs' i=some o→a8 σ.objs (ren ρ i)=some (o.ren ρ)):∀ {xs ys:List SV} {fz fz':List Nat} {vs:List Value},sU σ.objs ρ xs ys fz→(∀ i,i∈fz→i∈fz')→
  aD w S μ σ.objs xs vs→aD w (bO S β σ.objs fz') (fun i=>μ (ren ρ i)) objs' ys vs:=by
 intro xs
 induction xs with
 | nil=>
  intro ys fz fz' vs hm hf hr
  cases ys with
  | nil=>exact hr
  | cons y ys=>simp[sU] at hm
 | cons x xs ih=>
  intro ys fz fz' vs hm hf hr
  obtain ⟨u,us,h1,h2,h3⟩:=hr
  cases ys with
  | nil=>simp[sU] at hm
  | cons y ys=>
   have named:x=y.ren ρ∧sU σ.objs ρ xs ys fz→aD w (bO S β σ.objs fz') (fun i=>μ (ren ρ i)) objs' (y::ys) vs:=by
    rintro ⟨rfl,hm2⟩
    exact ⟨u,us,h1,ak.unren hl (fun _ _ _=>rfl) y u (ak.mono (b7.refl _ _) (fun _ _ x=>.inl x) _ _ h2),ih hm2 hf h3⟩
   cases y with
   | val iv=>
    obtain ⟨f,g,e1,e2,rfl⟩:=hm
    exact ⟨u,us,h1,gf h e1 (fun i hi=>hf i (List.mem_append_left _ hi)) h2,ih e2 (fun i hi=>hf i (List.mem_append_right _ hi)) h3⟩
   | _=>exact named hm

theorem Dv (h:SimG w0 S0 M σ a w S μ β) {dst:Option Nat} (hd:∀ d,dst=some d→d < σ.n) {c:MC} {ρ:List (Nat×Nat)} {fz:List Nat} (hok:Nx σ ρ c=true) (hobjs:oK σ.objs ρ c.objs)
  {w':World} {v:Value} {S':aC} {μ':Nat→Value} {β':Nat→Option Nat}
  (r1:ak w' S' μ' c.objs' c.res v) (r2:∀ id o,a8 c.objs' id=some o→aP w' S' μ' c.objs' (β' id) (μ' id) o)
  (r3:∀ id id' o o' b,a8 c.objs' id=some o→a8 c.objs' id'=some o'→β' id=some b→β' id'=some b→id=id')
  (r4:∀ id o b,a8 c.objs' id=some o→β' id=some b→w.heap.size≤b∨∃ i x,a8 c.objs i=some x∧β (ren ρ i)=some b)
  (r5:∀ id o b off,a8 c.objs' id=some o→β' id=some b→S' b off→id∈c.ro'∧∀ ver s rows,o=.arr ver s rows→off < rows.length*s)
  (r6:∀ b o,S' b o→b < w'.heap.size) (r7:∀ b o,bO S β σ.objs fz b o→S' b o)
  (r8:∀ b o,S' b o→bO S β σ.objs fz b o∨w.heap.size≤b∨∃ i x,a8 c.objs i=some x∧β (ren ρ i)=some b)
  (r9:Kept (fun b=>∃ i x,a8 c.objs i=some x∧β (ren ρ i)=some b) w w')
  (r10:∀ id o,a8 c.objs id=some o→ak w' S' μ' c.objs' (He id o) (μ (ren ρ id)))
  (r11:∀ b o,bO S β σ.objs fz b o→w'.cell? ⟨b,o,none⟩=w.cell? ⟨b,o,none⟩) :
  bN w0 S0 M (σ.mapply dst ρ c fz) (a.put dst v) w':=by
 simp only[Nx,Bool.and_eq_true] at hok
 obtain ⟨⟨⟨⟨⟨⟨k1,k2⟩,k3⟩,k4⟩,k5⟩,k6⟩,k7⟩:=hok
 have hlook:=fun id=>AL (objs:=σ.objs) (l:=c.objs') k2 id
 have hfoot:∀ {b:Nat},(∃ i x,a8 c.objs i=some x∧β (ren ρ i)=some b)→∃ i x,a8 c.objs i=some x∧a8 σ.objs (ren ρ i)=some (x.ren ρ)∧β (ren ρ i)=some b∧True:=by
  rintro b ⟨i,x,h1,h2⟩
  exact ⟨i,x,h1,jT hobjs i x h1,h2,trivial⟩
 have hlive:∀ id x b,a8 σ.objs id=some x→β id=some b→b < w.heap.size:=fun id x b hx hb=>aP.live hb (h.objs id x hx)
 have hblk:∀ b,b < w.heap.size→¬(∃ i x,a8 c.objs i=some x∧β (ren ρ i)=some b)→w'.heap[b]?=w.heap[b]?:=fun b hb hn=>r9.block b hb hn
 have hkeeps:b7 S w w':=⟨fun b off hS=>r11 b off (.inl hS),r9.shape⟩
 obtain ⟨S'',s1,s2,s3,s4,s5,s6,s7⟩:∃ S'':aC,(∀ b off,S b off→S'' b off)∧(∀ b off,S'' b off→b < w'.heap.size)∧
   (∀ b off,S'' b off→S0 b off∨w0.heap.size≤b∨M.blocks b)∧
   ak w' S'' μ' c.objs' c.res v∧(∀ id o,a8 c.objs' id=some o→aP w' S'' μ' c.objs' (β' id) (μ' id) o)∧
   (∀ id o b off,a8 c.objs' id=some o→β' id=some b→S'' b off→id∈c.ro'∧∀ ver s rows,o=.arr ver s rows→off < rows.length*s)∧
   (∀ id o b off,a8 σ.objs id=some o→β id=some b→back ρ c.objs' id=none→S'' b off→id∈(bif AK c then [] else fz)++σ.ro∧∀ ver s rows,o=.arr ver s rows→off < rows.length*s):=by
  cases hfl:AK c with
  | true=>
   simp only[AK,Bool.and_eq_true] at hfl
   refine ⟨S,fun _ _ x=>x,fun b off hS=>Nat.lt_of_lt_of_le (h.stab b off hS) r9.size,h.back,SV.flat_rel _ _ hfl.1 r1,fun id o hl=>aP.flat (AJ hfl.2 id o hl) (r2 id o hl),?_,?_⟩
   ·intro id o b off hl hb hS
    exact r5 id o b off hl hb (r7 b off (.inl hS))
   ·intro id o b off hl hb _ hS
    exact h.unst id o b off hl hb hS
  | false=>
   refine ⟨S',fun b off hS=>r7 b off (.inl hS),r6,?_,r1,r2,r5,?_⟩
   ·intro b off hS
    rcases r8 b off hS with h1 | h1 | h1
    ·exact (h.freeze fz).back b off h1
    ·have:=h.kept.size;exact .inr (.inl (by omega))
    ·obtain ⟨i,x,_,h2,h3,_⟩:=hfoot h1
     exact .inr (h.own _ _ b h2 h3)
   ·intro id o b off hl hb hbk hS
    rcases r8 b off hS with h1 | h1 | h1
    ·exact (h.freeze fz).unst id o b off hl hb h1
    ·have:=hlive id o b hl hb;omega
    ·exfalso
     obtain ⟨i,x,h2,h3,h4,_⟩:=hfoot h1
     have hid:=h.inj id _ o _ b hl h3 hb h4
     have hsk:=(e9 k1 i x h2).2
     cases hl':a8 c.objs' i with
     | none=>rw[hl'] at hsk;cases x <;> simp[bZ] at hsk
     | some y=>exact lY hbk i y hl' hid.symm
 refine ⟨S'',fun id=>match back ρ c.objs' id with | some i=>μ' i | none=>μ id,fun id=>match back ρ c.objs' id with | some i=>β' i | none=>β id,?_⟩
 have hD:∀ id,fh ρ c.objs c.objs' id=true→id < σ.n:=fun id hn=>xW k3 hn
 have hb:∀ id cells,fh ρ c.objs c.objs' id=false→a8 (s9 σ.objs ρ c.objs') id=some (.box cells)→∃ cells',a8 σ.objs id=some (.box cells')∧(match back ρ c.objs' id with | some i=>μ' i | none=>μ id)=μ id:=by
  intro id cells hD hl
  rw[hlook] at hl
  cases hbk:back ρ c.objs' id with
  | none=>rw[hbk] at hl;exact ⟨cells,hl,rfl⟩
  | some i=>
   rw[hbk] at hl
   obtain ⟨rfl,y,hy⟩:=d5 hbk
   cases hx:a8 c.objs i with
   | none=>rw[gQ hy hx] at hD;simp at hD
   | some x=>
    have hsk:=(e9 k1 i x hx).2
    simp only[hy,Option.map_some,Option.some.injEq] at hl
    rw[hy] at hsk
    cases y with
    | arr _ _ _=>simp[Ob.ren] at hl
    | iter _ _=>simp[Ob.ren] at hl
    | tab _ _ _ _=>simp[Ob.ren] at hl
    | box cy=>
     cases x with
     | arr _ _ _=>simp[bZ] at hsk
     | iter _ _=>simp[bZ] at hsk
     | tab _ _ _ _=>simp[bZ] at hsk
     | box cx=>
      obtain ⟨b,e1,e2⟩:=r10 i _ hx _ hy
      exact ⟨_,jT hobjs i _ hx,by simp only;rw[e1,e2]⟩
 have ha:∀ id cv s rows,fh ρ c.objs c.objs' id=false→a8 (s9 σ.objs ρ c.objs') id=some (.arr cv s rows)→∃ cv' rows',a8 σ.objs id=some (.arr cv' s rows')∧cv'≤cv∧(cv'=cv→rows'.length=rows.length∧(match back ρ c.objs' id with | some i=>μ' i | none=>μ id)=μ id):=by
  intro id cv s rows hD hl
  rw[hlook] at hl
  cases hbk:back ρ c.objs' id with
  | none=>rw[hbk] at hl;exact ⟨cv,rows,hl,Nat.le_refl _,fun _=>⟨rfl,rfl⟩⟩
  | some i=>
   rw[hbk] at hl
   obtain ⟨rfl,y,hy⟩:=d5 hbk
   cases hx:a8 c.objs i with
   | none=>rw[gQ hy hx] at hD;simp at hD
   | some x=>
    have hsk:=(e9 k1 i x hx).2
    simp only[hy,Option.map_some,Option.some.injEq] at hl
    rw[hy] at hsk
    cases y with
    | box _=>simp[Ob.ren] at hl
    | iter _ _=>simp[Ob.ren] at hl
    | tab _ _ _ _=>simp[Ob.ren] at hl
    | arr cv1 s1 rows1=>
     simp only[Ob.ren,Ob.arr.injEq] at hl
     obtain ⟨rfl,rfl,rfl⟩:=hl
     cases x with
     | box cx=>simp[bZ] at hsk
     | iter _ _=>simp[bZ] at hsk
     | tab _ _ _ _=>simp[bZ] at hsk
     | arr cv0 s0 rows0=>
      simp only[bZ,beq_iff_eq] at hsk
      subst hsk
      have hσ:=jT hobjs i _ hx
      obtain ⟨e1,e2⟩:=r10 i _ hx _ _ _ hy
      refine ⟨cv0,rows0,hσ,e1,fun e=>?_⟩
      have e3:=e2 e
      refine ⟨?_,e3.symm⟩
      have o1:=h.objs _ _ hσ
      have o2:=r2 i _ hy
      rw[←e3] at o2
      rcases o1 with ⟨z1,_,x1,z2⟩ | ⟨_,_,_,_,_,_,z2,_⟩ <;> rcases o2 with ⟨z3,_,x2,z4⟩ | ⟨_,_,_,_,_,_,z4,_⟩
      ·rw[z1,z3]
      ·rw[z2] at z4;simp only[Value.slice.injEq] at z4;rw[z1,←z4.2.1];rfl
      ·rw[z2] at z4;simp only[Value.slice.injEq] at z4;rw[z3,z4.2.1];rfl
      ·rw[z2] at z4;simp only[Value.slice.injEq] at z4;exact z4.2.1
 have hi:∀ id s p,fh ρ c.objs c.objs' id=false→a8 (s9 σ.objs ρ c.objs') id=some (.iter s p)→∃ s' p',a8 σ.objs id=some (.iter s' p')∧(match back ρ c.objs' id with | some i=>μ' i | none=>μ id)=μ id:=by
  intro id s p hD hl
  rw[hlook] at hl
  cases hbk:back ρ c.objs' id with
  | none=>rw[hbk] at hl;exact ⟨s,p,hl,rfl⟩
  | some i=>
   rw[hbk] at hl
   obtain ⟨rfl,y,hy⟩:=d5 hbk
   cases hx:a8 c.objs i with
   | none=>rw[gQ hy hx] at hD;simp at hD
   | some x=>
    have hsk:=(e9 k1 i x hx).2
    simp only[hy,Option.map_some,Option.some.injEq] at hl
    rw[hy] at hsk
    cases y with
    | arr _ _ _=>simp[Ob.ren] at hl
    | box _=>simp[Ob.ren] at hl
    | tab _ _ _ _=>simp[Ob.ren] at hl
    | iter _ _=>cases x <;> simp[bZ] at hsk
 have ht:∀ id cv s rows ln,fh ρ c.objs c.objs' id=false→a8 (s9 σ.objs ρ c.objs') id=some (.tab cv s rows ln)→∃ cv' rows' ln',a8 σ.objs id=some (.tab cv' s rows' ln')∧cv'≤cv∧(cv'=cv→rows'.length=rows.length∧(match back ρ c.objs' id with | some i=>μ' i | none=>μ id)=μ id):=by
  intro id cv s rows ln hD hl
  rw[hlook] at hl
  cases hbk:back ρ c.objs' id with
  | none=>rw[hbk] at hl;exact ⟨cv,rows,ln,hl,Nat.le_refl _,fun _=>⟨rfl,rfl⟩⟩
  | some i=>
   rw[hbk] at hl
   obtain ⟨rfl,y,hy⟩:=d5 hbk
   cases hx:a8 c.objs i with
   | none=>rw[gQ hy hx] at hD;simp at hD
   | some x=>
    have hsk:=(e9 k1 i x hx).2
    simp only[hy,Option.map_some,Option.some.injEq] at hl
    rw[hy] at hsk
    cases y with
    | box _=>simp[Ob.ren] at hl
    | iter _ _=>simp[Ob.ren] at hl
    | arr _ _ _=>simp[Ob.ren] at hl
    | tab cv1 s1 rows1 ln1=>
     simp only[Ob.ren,Ob.tab.injEq] at hl
     obtain ⟨rfl,rfl,rfl,_⟩:=hl
     cases x with
     | box cx=>simp[bZ] at hsk
     | iter _ _=>simp[bZ] at hsk
     | arr _ _ _=>simp[bZ] at hsk
     | tab cv0 s0 rows0 A8=>
      simp only[bZ,beq_iff_eq] at hsk
      subst hsk
      have hσ:=jT hobjs i _ hx
      obtain ⟨e1,e2⟩:=r10 i _ hx _ _ _ _ hy
      refine ⟨cv0,rows0,_,hσ,e1,fun e=>?_⟩
      have e3:=e2 e
      refine ⟨?_,e3.symm⟩
      have o1:=h.objs _ _ hσ
      have o2:=r2 i _ hy
      rw[←e3] at o2
      rcases o1 with ⟨z1,_,_,x1,z2⟩ | ⟨_,_,_,_,_,_,z2,_⟩ <;> rcases o2 with ⟨z3,_,_,x2,z4⟩ | ⟨_,_,_,_,_,_,z4,_⟩
      ·rw[z1,z3]
      ·rw[z2] at z4;simp only[Value.slice.injEq] at z4;rw[z1,←z4.2.1];rfl
      ·rw[z2] at z4;simp only[Value.slice.injEq] at z4;rw[z3,z4.2.1];rfl
      ·rw[z2] at z4;simp only[Value.slice.injEq] at z4;exact z4.2.1
 have hren:∀ i o,a8 c.objs' i=some o→a8 (s9 σ.objs ρ c.objs') (ren ρ i)=some (o.ren ρ):=by
  intro i o hl
  simp only[hlook,oL k2 i o hl,hl,Option.map_some]
 have hmu:∀ i o,a8 c.objs' i=some o→(match back ρ c.objs' (ren ρ i) with | some j=>μ' j | none=>μ (ren ρ i))=μ' i:=by
  intro i o hl
  simp only[oL k2 i o hl]
 have base:SimG w0 S0 M {σ with objs:=s9 σ.objs ρ c.objs',ro:=c.ro'.map (ren ρ)++((bif AK c then [] else fz)++σ.ro) } a w' S'' (fun id=>match back ρ c.objs' id with | some i=>μ' i | none=>μ id) (fun id=>match back ρ c.objs' id with | some i=>β' i | none=>β id):=by
  refine {defers:=h.defers,size:=h.size,env:=?_,objs:=?_,inj:=?_,own:=?_,unst:=?_,stab:=s2,ext:=fun b o hS=>s1 b o (h.ext b o hS),back:=s3,kept:=?_,stay:=fun b o hb=>(hkeeps.1 b o (h.ext b o hb)).trans (h.stay b o hb),hist:=?_,far:=h.far,glob:=?_ }
  ·intro k
   exact ak.step hb ha hi ht _ _ (xS k4 k) (ak.mono hkeeps s1 _ _ (h.env k))
  ·intro id o hl
   have hl':=hl
   rw[hlook] at hl
   cases hbk:back ρ c.objs' id with
   | none=>
    rw[hbk] at hl
    have ho:=h.objs id o hl
    have hnf:∀ b,β id=some b→¬(∃ i x,a8 c.objs i=some x∧β (ren ρ i)=some b):=by
     intro b hbb hf
     obtain ⟨i,x,h2,h3,h4,_⟩:=hfoot hf
     have hid:=h.inj id _ o _ b hl h3 hbb h4
     have hsk:=(e9 k1 i x h2).2
     cases hl':a8 c.objs' i with
     | none=>rw[hl'] at hsk;cases x <;> simp[bZ] at hsk
     | some y=>exact lY hbk i y hl' hid.symm
    have ho':=aP.move hkeeps s1 (fun b hbb=>hblk b (hlive id o b hl hbb) (hnf b hbb)) ho
    have hcl:=xU k5 id o hl
    cases o with
    | arr v' s' r'=>exact ho'
    | iter _ _=>exact ho'
    | tab v1 s1 r1 l1=>
     rcases ho' with ho' | ⟨b,cap,vs,e,fr,q1,q2,q3,q4,q5,q6,q7,q8,q9⟩
     ·exact .inl ho'
     exact .inr ⟨b,cap,vs,e,fr,q1,q2,q3,q4,q5,q6,q7,q8,ay.step hb ha hi ht hcl q9⟩
    | box cells=>
     obtain ⟨b,vs,e,fr,q1,q2,q3,q4,q5⟩:=ho'
     exact ⟨b,vs,e,fr,q1,q2,q3,q4,ag.step hb ha hi ht _ _ hcl q5⟩
   | some i=>
    rw[hbk] at hl
    obtain ⟨rfl,y,hy⟩:=d5 hbk
    simp only[hy,Option.map_some,Option.some.injEq] at hl
    subst hl
    have ho:=s5 i y hy
    have hik:=vH k7 i y hy
    cases y with
    | arr v' s' r'=>exact ho
    | iter _ _=>exact ho
    | tab v1 s1 r1 l1=>
     rcases ho with ⟨q1,q2,q3⟩ | ⟨b,cap,vs,e,fr,q1,q2,q3,q4,q5,q6,q7,q8,q9⟩
     ·exact .inl ⟨q1,by rw[q2];rfl,q3⟩
     exact .inr ⟨b,cap,vs,e,fr,q1,q2,q3,q4,q5,q6,q7,q8,ay.renamed hren hmu hik q9⟩
    | box cells=>
     obtain ⟨b,vs,e,fr,q1,q2,q3,q4,q5⟩:=ho
     exact ⟨b,vs,e,fr,q1,q2,q3,q4,ag.renamed hren hmu _ _ hik q5⟩
  ·intro id id' o o' b hl hl' hbb hbb'
   rw[hlook] at hl hl'
   cases hbk:back ρ c.objs' id with
   | none=>
    simp only[hbk] at hl hbb
    cases hbk':back ρ c.objs' id' with
    | none=>
     simp only[hbk'] at hl' hbb'
     exact h.inj id id' o o' b hl hl' hbb hbb'
    | some i=>
     exfalso
     simp only[hbk'] at hl' hbb'
     obtain ⟨rfl,y,hy⟩:=d5 hbk'
     rcases r4 i y b hy hbb' with h1 | h1
     ·have:=hlive id o b hl hbb;omega
     ·obtain ⟨j,x,h2,h3,h4,_⟩:=hfoot h1
      have hid:=h.inj id _ o _ b hl h3 hbb h4
      have hsk:=(e9 k1 j x h2).2
      cases hl':a8 c.objs' j with
      | none=>rw[hl'] at hsk;cases x <;> simp[bZ] at hsk
      | some y=>exact lY hbk j y hl' hid.symm
   | some i=>
    simp only[hbk] at hl hbb
    obtain ⟨rfl,y,hy⟩:=d5 hbk
    cases hbk':back ρ c.objs' id' with
    | none=>
     exfalso
     simp only[hbk'] at hl' hbb'
     rcases r4 i y b hy hbb with h1 | h1
     ·have:=hlive id' o' b hl' hbb';omega
     ·obtain ⟨j,x,h2,h3,h4,_⟩:=hfoot h1
      have hid:=h.inj id' _ o' _ b hl' h3 hbb' h4
      have hsk:=(e9 k1 j x h2).2
      cases hl'':a8 c.objs' j with
      | none=>rw[hl''] at hsk;cases x <;> simp[bZ] at hsk
      | some y=>exact lY hbk' j y hl'' hid.symm
    | some i'=>
     simp only[hbk'] at hl' hbb'
     obtain ⟨rfl,y',hy'⟩:=d5 hbk'
     rw[r3 i i' y y' b hy hy' hbb hbb']
  ·intro id o b hl hbb
   rw[hlook] at hl
   cases hbk:back ρ c.objs' id with
   | none=>simp only[hbk] at hl hbb;exact h.own id o b hl hbb
   | some i=>
    simp only[hbk] at hl hbb
    obtain ⟨rfl,y,hy⟩:=d5 hbk
    rcases r4 i y b hy hbb with h1 | h1
    ·have:=h.kept.size;exact .inl (by omega)
    ·obtain ⟨j,x,_,h3,h4,_⟩:=hfoot h1
     exact h.own _ _ b h3 h4
  ·intro id o b off hl hbb hS
   rw[hlook] at hl
   cases hbk:back ρ c.objs' id with
   | none=>
    simp only[hbk] at hl hbb
    obtain ⟨q1,q2⟩:=s7 id o b off hl hbb hbk hS
    exact ⟨List.mem_append_right _ q1,q2⟩
   | some i=>
    simp only[hbk] at hl hbb
    obtain ⟨rfl,y,hy⟩:=d5 hbk
    obtain ⟨q1,q2⟩:=s6 i y b off hy hbb hS
    refine ⟨List.mem_append_left _ (List.mem_map_of_mem q1),fun ver s rows e=>?_⟩
    subst e
    simp only[hy,Option.map_some,Option.some.injEq] at hl
    cases y with
    | box _=>simp[Ob.ren] at hl
    | iter _ _=>simp[Ob.ren] at hl
    | tab _ _ _ _=>simp[Ob.ren] at hl
    | arr v1 s1 r1=>
     simp only[Ob.ren,Ob.arr.injEq] at hl
     obtain ⟨_,rfl,rfl⟩:=hl
     exact q2 _ _ _ rfl
  ·refine ⟨r9.os.trans h.kept.os,r9.tape.trans h.kept.tape,r9.output.trans h.kept.output,Nat.le_trans h.kept.size r9.size,fun k hk hM=>?_,fun k x hx=>r9.shape _ _ (h.kept.shape _ _ hx)⟩
   rw[←h.kept.block k hk hM]
   refine hblk k (Nat.lt_of_lt_of_le hk h.kept.size) (fun hf=>?_)
   obtain ⟨i,x,_,h3,h4,_⟩:=hfoot hf
   rcases h.own _ _ k h3 h4 with h5 | h5
   ·omega
   ·exact hM h5
  ·intro p hp
   exact ak.step hb ha hi ht _ _ (mU hD _ (h.far p hp)) (ak.mono hkeeps s1 _ _ (h.hist p hp))
  ·intro p hp
   exact fG.mono hkeeps s1 (h.glob p hp)
 exact base.putD hd (ak.renamed hren hmu _ _ k6 s4)

def Gl (σ:St) (f:SV) (args:List Opd):Option (FuncId×List SV):=match f with
 | .val (.fn k caps)=>some (k,args.map (val σ)++caps.map .val)
 | .clo k caps=>some (k,args.map (val σ)++caps)
 | _=>none

theorem aD.append {objs:List (Nat×Ob)} : ∀ {xs ys:List SV} {us vs:List Value},aD w S μ objs xs us→aD w S μ objs ys vs→aD w S μ objs (xs++ys) (us++vs)
 | [],_,_,_,h,k=>by have h:_=_:=h;subst h;exact k
 | _::_,_,_,_,⟨u,us',h1,h2,h3⟩,k=>by subst h1;exact ⟨u,us'++_,rfl,h2,aD.append h3 k⟩
theorem aD.ofRep {objs:List (Nat×Ob)} : ∀ {xs:List IV} {vs:List Value},aO w S xs vs→aD w S μ objs (xs.map .val) vs
 | [],_,h=>h
 | _::_,_,⟨u,us,h1,h2,h3⟩=>⟨u,us,h1,h2,aD.ofRep h3⟩

theorem IS (h:SimG w0 S0 M σ a w S μ β) (hd:∀ d,o.dst=some d→d < σ.n) {c:Call} {f:Operand} (ho:o.op=.call c) (hcl:c.callee=.value f) {fv:SV} (hfv:ak w S μ σ.objs fv (a.eval f)) {args:List Opd} (hargs:cm c.args.toList=some args)
  {k:FuncId} {vals:List SV} (hca:Gl σ fv args=some (k,vals)) {mc:MC} (hF:zx σ.gl P k mc) {ρ:List (Nat×Nat)} {fz:List Nat} (hok:Nx σ ρ mc=true) (hobjs:oK σ.objs ρ mc.objs) (hma:sU σ.objs ρ vals mc.args fz) (hfz:Nw ρ fz mc.objs=true) {next:Act→World→Prop} {Q:Exit→Act→World→Prop}
  (hn:∀ v w',bN w0 S0 M (σ.mapply o.dst ρ mc fz) (a.put o.dst v) w'→next (a.put o.dst v) w'):o.wp P a w next Q:=by
 have har:=ic h hargs
 obtain ⟨caps',hev,hvals⟩:∃ caps':Array Value,a.eval f=.func (.func k) #[] caps'∧aD w S μ σ.objs vals ((c.args.toList.map a.eval)++caps'.toList):=by
  unfold Gl at hca
  split at hca
  ·next k' caps=>
   simp only[Option.some.injEq,Prod.mk.injEq] at hca
   obtain ⟨rfl,rfl⟩:=hca
   obtain ⟨vs,h1,h2⟩:=hfv
   exact ⟨vs,h1,aD.append har (aD.ofRep h2)⟩
  ·next k' caps=>
   simp only[Option.some.injEq,Prod.mk.injEq] at hca
   obtain ⟨rfl,rfl⟩:=hca
   obtain ⟨vs,h1,h2⟩:=hfv
   exact ⟨vs,h1,aD.append har h2⟩
  ·simp at hca
 obtain ⟨⟨fn,hfn,hname⟩,hcalls⟩:=hF
 have hrun:(execOp a.eval o).run P w=(callFunc k (c.args.map a.eval++caps')).run P w:=by
  simp only[execOp,ho,resolve,hcl,hev,Deferred.ofValue,Sem.run_bind,Sem.run_pure,Result.andThen_ok,invoke,Array.empty_append]
 have hv:c.args.map a.eval++caps'=((c.args.toList.map a.eval)++caps'.toList).toArray:=by
  apply Array.toList_inj.1;simp
 rw[hv] at hrun
 have hl:=fun i o hlo=>jT hobjs i o hlo
 have hok':=hok
 simp only[Nx,Bool.and_eq_true] at hok'
 obtain ⟨⟨⟨⟨⟨⟨k1,k2⟩,k3⟩,k4⟩,k5⟩,k6⟩,k7⟩:=hok'
 have hf:=h.freeze fz
 have hinjO:∀ id id' o o',a8 mc.objs id=some o→a8 mc.objs id'=some o'→ren ρ id=ren ρ id'→id=id':=by
  intro id id' o o' h1 h2 he
  have hs1:=(e9 k1 id o h1).2
  have hs2:=(e9 k1 id' o' h2).2
  cases hy1:a8 mc.objs' id with
  | none=>rw[hy1] at hs1;cases o <;> simp[bZ] at hs1
  | some y1=>
   cases hy2:a8 mc.objs' id' with
   | none=>rw[hy2] at hs2;cases o' <;> simp[bZ] at hs2
   | some y2=>
    have e1:=oL k2 id y1 hy1
    have e2:=oL k2 id' y2 hy2
    rw[he,e2] at e1
    simpa using e1.symm
 refine oC hfn hname hrun (hcalls w (bO S β σ.objs fz) (fun i=>μ (ren ρ i)) (fun i=>β (ren ρ i)) _ hf.stab hf.glob (Du h hl hma (fun _ x=>x) hvals) ?_ ?_ ?_) ?_
 ·intro id o hlo
  have hob:=h.objs _ _ (hl id o hlo)
  cases o with
  | iter s p=>exact aP.move (o:=.iter s p) (b7.refl _ _) (fun _ _ x=>Or.inl x) (fun _ _=>rfl) hob
  | tab v1 s1 r1 l1=>
   rcases hob with ⟨q1,q2,q3⟩ | ⟨b,cap,vs,e,fr,q1,q2,q3,q4,q5,q6,q7,q8,q9⟩
   ·refine .inl ⟨q1,?_,q3⟩
    cases l1 with
    | nil=>rfl
    | cons p r=>cases q2
   exact .inr ⟨b,cap,vs,e,fr,q1,q2,q3,q4,q5,q6,q7,aa.mono (b7.refl _ _) (fun _ _ x=>.inl x) _ _ q8,ay.unren hl (fun _ _ _=>rfl) (ay.mono (b7.refl _ _) (fun _ _ x=>.inl x) q9)⟩
  | arr v s r=>exact aP.arr_any (aP.move (o:=.arr v s r) (b7.refl _ _) (fun _ _ x=>Or.inl x) (fun _ _=>rfl) hob)
  | box cells=>
   obtain ⟨b,vs,e,fr,q1,q2,q3,q4,q5⟩:=hob
   exact ⟨b,vs,e,fr,q1,q2,q3,q4,ag.unren hl (fun _ _ _=>rfl) _ _ (ag.mono (b7.refl _ _) (fun _ _ x=>.inl x) _ _ q5)⟩
 ·intro id id' o o' b h1 h2 h3 h4
  exact hinjO id id' o o' h1 h2 (h.inj _ _ _ _ b (hl _ _ h1) (hl _ _ h2) h3 h4)
 ·intro id o b off h1 h2 hS
  have hro:=(e9 k1 id o h1).1
  rcases hS with hS | ⟨i,x,e1,e2,e3,e4⟩
  ·obtain ⟨u1,u2⟩:=h.unst _ _ b off (hl _ _ h1) h2 hS
   refine ⟨hro u1,fun ver s rows e=>?_⟩
   subst e
   exact u2 ver s rows rfl
  ·exfalso
   have hid:=h.inj _ _ _ _ b (hl _ _ h1) e2 h2 e3
   rw[←hid] at e1
   exact Gk hfz id o h1 e1
 ·rintro e w' ⟨v,S',μ',β',rfl,r1,r2,r3,r4,r5,r6,r7,r8,r9,r10,r11⟩
  exact ⟨v,rfl,hn v w' (Dv h hd hok hobjs r1 r2 r3 r4 r5 r6 r7 r8 r9 r10 r11)⟩
end
end Go.Vs
