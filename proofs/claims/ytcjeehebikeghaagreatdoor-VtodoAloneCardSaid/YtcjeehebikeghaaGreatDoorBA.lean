/- A part of a proof. No conditions. -/
import Derived.WalkKit
set_option linter.unusedVariables false
set_option linter.unusedSimpArgs false
set_option linter.unusedVariables false
set_option linter.unusedSimpArgs false
namespace Go.Vs
theorem O_{α:Type _}{a b:α}(h:some a=some b):a=b:=Option.some.inj h
theorem E_{α:Type _}(a b:α):(some a=some b)=(a=b):=Option.some.injEq a b

inductive IV where
 |int (k:IntKind) (n:Int)
 |bool (b:Bool)
 |str (s:List UInt8)
 |nilp
 |ref (cells:List IV)
 |slice (rows:List (List IV))
 |nilf
 |yld (l:Nat)
 |fn (f:Nat) (caps:List IV)
 |bnd (f:Nat) (first:List IV)
 |nili
 |handle (t b o:Nat)
 |nilS
 |iface (t:Nat) (v:IV)
 |agg (cells:List IV)
 |tuple (vs:List IV)
 deriving Inhabited,Repr

def IV.one:IV->Bool
 |.agg _=>false
 |.tuple _=>false
 |_=>true

abbrev aO:=Nat->Nat->Prop

mutual
def nJ(w:World)(S:aO):IV->Value->Prop
 |.int k n,v=>v=.int k n
 |.bool b,v=>v=.bool b
 |.str s,v=>v=.string ⟨s.toArray⟩
 |.nilp,v=>v=.pointer none
 |.ref cells,v=>∃blk off,v=.pointer (some ⟨blk,off,none⟩)/\aH w S cells blk off
 |.slice rows,v=>∃a cap,v=.slice a rows.length cap/\rows.length<=cap/\
   (rows≠[]->∃blk off s,a=some ⟨blk,off,none⟩/\bq w S rows s blk off)
 |.nilf,v=>v=.nilFunc
 |.yld l,v=>v=.func (.yield l) #[] #[]
 |.fn f caps,v=>∃vs,v=.func (.func f) #[] vs/\bc w S caps vs.toList
 |.bnd f first,v=>∃vs,v=.func (.func f) vs #[]/\bc w S first vs.toList
 |.nili,v=>v=.nilIface
 |.nilS,v=>v=.slice none 0 0
 |.handle t b o,v=>v=.iface t (.agg #[.pointer (some ⟨b,o,none⟩)])
 |.iface t x,v=>∃u,v=.iface t u/\nJ w S x u
 |.agg cells,v=>∃vs,v=.agg vs/\ae w S cells vs.toList
 |.tuple xs,v=>∃vs,v=.tuple vs/\bc w S xs vs.toList
def bc(w:World)(S:aO):List IV->List Value->Prop
 |[],vs=>vs=[]
 |x::xs,vs=>∃v vs',vs=v::vs'/\nJ w S x v/\bc w S xs vs'
def ae(w:World)(S:aO):List IV->List Value->Prop
 |[],vs=>vs=[]
 |x::xs,vs=>∃v vs',vs=v::vs'/\x.one=true/\nJ w S x v/\ae w S xs vs'
def aH(w:World)(S:aO):List IV->Nat->Nat->Prop
 |[],_,_=>True
 |x::xs,blk,off=>S blk off/\x.one=true/\(∃v,w.cell? ⟨blk,off,none⟩=some v/\nJ w S x v)/\aH w S xs blk (off+1)
def bq(w:World)(S:aO):List (List IV)->Nat->Nat->Nat->Prop
 |[],_,_,_=>True
 |r::rs,s,blk,off=>r.length=s/\aH w S r blk off/\bq w S rs s blk (off+s)
end

inductive SV where
 |undef
 |val (v:IV)
 |nils
 |full (rows:List (List IV))
 |own (id ver:Nat)
 |loc (id off:Nat)
 |eloc (id ver i off:Nat)
 |view (id ver lo hi:Nat)
 |agg (cells:List SV)
 |clo (f:Nat) (caps:List SV)
 |tup (caps:List SV)
 |ifc (t:Nat) (v:SV)
 |anyB
 |selfN (id t:Nat) (nn:Bool)
 |ownT (id ver t:Nat)
 |itr (id:Nat)
 deriving Inhabited,Repr

inductive Ob where
 |box (cells:List SV)
 |arr (ver s:Nat) (rows:List (List IV))
 |iter (s:List UInt8) (pos:Nat)
 deriving Inhabited,Repr

def ac{α:Type} : List (Nat×α)->Nat->Option α
 |[],_=>none
 |(j,v)::r,k=>bif j==k then some v else ac r k

def put{α:Type}(l:List (Nat×α))(k:Nat)(v:α):List (Nat×α):=(k,v)::l

structure St where
 env:List (Nat×SV)
 objs:List (Nat×Ob)
 ro:List Nat
 n:Nat
 gl:List (Nat×List IV)

def aC(env:List (Nat×SV))(k:Nat):SV:=(ac env k).getD .undef

def SV.one:SV->Bool
 |.undef=>false
 |.val v=>v.one
 |.agg _=>false
 |.tup _=>false
 |_=>true

mutual
def ar(w:World)(S:aO)(μ:Nat->Value)(objs:List (Nat×Ob)):SV->Value->Prop
 |.undef,_=>True
 |.val iv,v=>nJ w S iv v
 |.nils,v=>∃a,v=.slice a 0 0
 |.full rows,v=>nJ w S (.slice rows) v/\∃a,v=.slice a rows.length rows.length
 |.own id ver,v=>∀cv s rows,ac objs id=some (.arr cv s rows)->ver<=cv/\(ver=cv->v=μ id)
 |.loc id off,v=>∀cells,ac objs id=some (.box cells)->∃b,μ id=.pointer (some ⟨b,0,none⟩)/\v=.pointer (some ⟨b,off,none⟩)
 |.eloc id ver i off,v=>∀cv s rows,ac objs id=some (.arr cv s rows)->ver<=cv/\
   (ver=cv->∃b cap,μ id=.slice (some ⟨b,0,none⟩) rows.length cap/\v=.pointer (some ⟨b,i*s+off,none⟩))
 |.view id ver lo hi,v=>∀cv s rows,ac objs id=some (.arr cv s rows)->ver<=cv/\
   (ver=cv->lo<=hi/\hi<=rows.length/\∃a cap a',μ id=.slice a rows.length cap/\v=.slice a' (hi-lo) (cap-lo)/\(lo=0->a'=a)/\(lo<rows.length->∃b,a=some ⟨b,0,none⟩/\a'=some ⟨b,lo*s,none⟩))
 |.agg cells,v=>∃vs,v=.agg vs/\aj w S μ objs cells vs.toList
 |.clo f caps,v=>∃vs,v=.func (.func f) #[] vs/\aQ w S μ objs caps vs.toList
 |.tup caps,v=>∃vs,v=.tuple vs/\aQ w S μ objs caps vs.toList
 |.ifc t x,v=>∃u,v=.iface t u/\ar w S μ objs x u
 |.anyB,v=>∃b,v=.bool b
 |.ownT id ver t,v=>(∀cv s rows,ac objs id=some (.arr cv s rows)->ver<=cv/\(ver=cv->v=μ id))/\∀a n c,v=.slice (some a) n c->∃m,w.shape? a.block=some (t,m)
 |.selfN id t nn,v=>∀cells,ac objs id=some (.box cells)->∃b,μ id=.pointer (some ⟨b,0,none⟩)/\w.shape? b=some (t,2)/\((nn=false/\v=.pointer none)\/v=.pointer (some ⟨b,0,none⟩))
 |.itr id,v=>∀s p,ac objs id=some (.iter s p)->v=μ id
def aQ(w:World)(S:aO)(μ:Nat->Value)(objs:List (Nat×Ob)):List SV->List Value->Prop
 |[],vs=>vs=[]
 |x::xs,vs=>∃v vs',vs=v::vs'/\ar w S μ objs x v/\aQ w S μ objs xs vs'
def aj(w:World)(S:aO)(μ:Nat->Value)(objs:List (Nat×Ob)):List SV->List Value->Prop
 |[],vs=>vs=[]
 |x::xs,vs=>∃v vs',vs=v::vs'/\v.oneCell'=true/\ar w S μ objs x v/\aj w S μ objs xs vs'
end

def m5(fr:Nat×Nat)(n:Nat):Prop:=fr=(0,0)
theorem m5.zero(n:Nat):m5 (0,0) n:=rfl

def bA(w:World)(S:aO)(μ:Nat->Value)(objs:List (Nat×Ob))(blk:Option Nat)(mu:Value):Ob->Prop
 |.box cells=>∃b vs e fr,blk=some b/\mu=.pointer (some ⟨b,0,none⟩)/\w.heap[b]?=some (.cells vs e fr)/\m5 fr vs.size/\aj w S μ objs cells vs.toList
 |.arr _ s rows=>(rows=[]/\blk=none/\∃a,mu=.slice a 0 0)\/
   (∃b cap vs e fr,blk=some b/\mu=.slice (some ⟨b,0,none⟩) rows.length cap/\w.heap[b]?=some (.cells vs e fr)/\m5 fr vs.size/\vs.size=cap*s/\rows.length<=cap/\
     (∀r∈rows,r.length=s)/\ae w S rows.flatten (vs.toList.take (rows.length*s)))
 |.iter s pos=>∃b,blk=some b/\mu=.pointer (some ⟨b,0,none⟩)/\w.heap[b]?=some (.stringIter ⟨s.toArray⟩ pos)

structure Kept(M:Nat->Prop)(w w':World):Prop where
 os:w'.os=w.os
 tape:w'.tape=w.tape
 output:w'.output=w.output
 size:w.heap.size<=w'.heap.size
 block:∀k,k<w.heap.size->¬M k->w'.heap[k]?=w.heap[k]?
 shape:∀k x,w.shape? k=some x->w'.shape? k=some x

/- No handle on an object. -/
mutual
def SV.noRef(d:Nat):SV->Bool
 |.undef=>true
 |.val _=>true
 |.nils=>true
 |.full _=>true
 |.own id _=>!(id==d)
 |.loc id _=>!(id==d)
 |.eloc id _ _ _=>!(id==d)
 |.view id _ _ _=>!(id==d)
 |.agg cells=>SV.noRefs d cells
 |.clo _ caps=>SV.noRefs d caps
 |.tup caps=>SV.noRefs d caps
 |.ifc _ v=>SV.noRef d v
 |.anyB=>true
 |.selfN id t nn=>!(id==d)
 |.ownT id _ _=>!(id==d)
 |.itr id=>!(id==d)
def SV.noRefs(d:Nat):List SV->Bool
 |[]=>true
 |x::xs=>SV.noRef d x&&SV.noRefs d xs
end
structure Ctx where
 blocks:Nat->Prop
 keep:List (Nat×SV)
 at':Nat->Value
 df:List Deferred

def gG(w:World)(S:aO)(p:Nat×List IV):Prop:=aH w S p.2 p.1 0/\∃t,w.shape? p.1=some (t,p.2.length)

structure SimG(w0:World)(S0:aO)(M:Ctx)(σ:St)(a:Act)(w:World)(S:aO)(μ:Nat->Value)(β:Nat->Option Nat):Prop where
 defers:a.defers=M.df
 size:a.tmps.size=σ.n
 env:∀k,ar w S μ σ.objs (aC σ.env k) (a.tmps.getD k Go.undef)
 objs:∀id o,ac σ.objs id=some o->bA w S μ σ.objs (β id) (μ id) o
 inj:∀id id' o o' b,ac σ.objs id=some o->ac σ.objs id'=some o'->β id=some b->β id'=some b->id=id'
 own:∀id o b,ac σ.objs id=some o->β id=some b->w0.heap.size<=b\/M.blocks b
 unst:∀id o b off,ac σ.objs id=some o->β id=some b->S b off->id∈σ.ro/\∀ver s rows,o=.arr ver s rows->off<rows.length*s
 stab:∀b o,S b o->b<w.heap.size
 ext:∀b o,S0 b o->S b o
 back:∀b o,S b o->S0 b o\/w0.heap.size<=b\/M.blocks b
 kept:Kept M.blocks w0 w
 stay:∀b o,S0 b o->w.cell? ⟨b,o,none⟩=w0.cell? ⟨b,o,none⟩
 hist:∀p,p∈M.keep->ar w S μ σ.objs p.2 (M.at' p.1)
 far:∀p,p∈M.keep->∀d,d<σ.n->p.2.noRef d=true
 glob:∀p,p∈σ.gl->gG w S p

def cE(w0:World)(S0:aO)(M:Ctx)(σ:St)(a:Act)(w:World):Prop:=
 ∃S μ β,SimG w0 S0 M σ a w S μ β

def bv(S:aO)(w w':World):Prop:=(∀b o,S b o->w'.cell? ⟨b,o,none⟩=w.cell? ⟨b,o,none⟩)/\∀k x,w.shape? k=some x->w'.shape? k=some x

theorem bv.refl(S:aO)(w:World):bv S w w:=⟨fun _ _ _=>rfl,fun _ _ h=>h⟩
theorem cN{w w':World}{k:Nat}(h:w'.heap[k]?=w.heap[k]?):w'.shape? k=w.shape? k:=by simp only[World.shape?,h]
theorem nO{w:World}{k:Nat}{x:TypeId×Nat}(h:w.shape? k=some x):k<w.heap.size:=by
 rcases Nat.lt_or_ge k w.heap.size with h1|h1
 ·exact h1
 ·simp[World.shape?,Array.getElem?_eq_none h1]at h

mutual
theorem nJ.mono{w w':World}{S S':aO}(hk:bv S w w')(hs:∀b o,S b o->S' b o):∀(x:IV) (v:Value),nJ w S x v->nJ w' S' x v
 |.int k n,v,h=>h
 |.bool b,v,h=>h
 |.str s,v,h=>h
 |.nilp,v,h=>h
 |.ref cells,v,⟨blk,off,h1,h2⟩=>⟨blk,off,h1,aH.mono hk hs cells blk off h2⟩
 |.slice rows,v,⟨a,cap,h1,h2,h3⟩=>⟨a,cap,h1,h2,fun hn=>let ⟨blk,off,s,h4,h5⟩:=h3 hn;⟨blk,off,s,h4,bq.mono hk hs rows s blk off h5⟩⟩
 |.nilf,v,h=>h
 |.yld _,v,h=>h
 |.fn f caps,v,⟨vs,h1,h2⟩=>⟨vs,h1,bc.mono hk hs caps _ h2⟩
 |.bnd f first,v,⟨vs,h1,h2⟩=>⟨vs,h1,bc.mono hk hs first _ h2⟩
 |.nili,v,h=>h
 |.handle _ _ _,v,h=>h
 |.nilS,v,h=>h
 |.iface t x,v,⟨u,h1,h2⟩=>⟨u,h1,nJ.mono hk hs x u h2⟩
 |.agg cells,v,⟨vs,h1,h2⟩=>⟨vs,h1,ae.mono hk hs cells _ h2⟩
 |.tuple xs,v,⟨vs,h1,h2⟩=>⟨vs,h1,bc.mono hk hs xs _ h2⟩
theorem bc.mono{w w':World}{S S':aO}(hk:bv S w w')(hs:∀b o,S b o->S' b o):∀(x:List IV) (v:List Value),bc w S x v->bc w' S' x v
 |[],v,h=>h
 |x::xs,v,⟨u,us,h1,h2,h3⟩=>⟨u,us,h1,nJ.mono hk hs x u h2,bc.mono hk hs xs us h3⟩
theorem ae.mono{w w':World}{S S':aO}(hk:bv S w w')(hs:∀b o,S b o->S' b o):∀(x:List IV) (v:List Value),ae w S x v->ae w' S' x v
 |[],v,h=>h
 |x::xs,v,⟨u,us,h1,h0,h2,h3⟩=>⟨u,us,h1,h0,nJ.mono hk hs x u h2,ae.mono hk hs xs us h3⟩
theorem aH.mono{w w':World}{S S':aO}(hk:bv S w w')(hs:∀b o,S b o->S' b o):∀(x:List IV) (blk off:Nat),aH w S x blk off->aH w' S' x blk off
 |[],_,_,_=>trivial
 |x::xs,blk,off,⟨h1,h2,⟨v,h3,h4⟩,h5⟩=>⟨hs _ _ h1,h2,⟨v,(hk.1 _ _ h1).trans h3,nJ.mono hk hs x v h4⟩,aH.mono hk hs xs blk (off+1) h5⟩
theorem bq.mono{w w':World}{S S':aO}(hk:bv S w w')(hs:∀b o,S b o->S' b o):∀(x:List (List IV)) (s blk off:Nat),bq w S x s blk off->bq w' S' x s blk off
 |[],_,_,_,_=>trivial
 |r::rs,s,blk,off,⟨h1,h2,h3⟩=>⟨h1,aH.mono hk hs r blk off h2,bq.mono hk hs rs s blk (off+s) h3⟩
end
theorem gG.mono{w w':World}{S S':aO}(hk:bv S w w')(hs:∀b o,S b o->S' b o){p:Nat×List IV}(h:gG w S p):gG w' S' p:=⟨aH.mono hk hs _ _ _ h.1,h.2.imp fun _ ht=>hk.2 _ _ ht⟩
mutual
theorem ar.mono{w w':World}{S S':aO}(hk:bv S w w')(hs:∀b o,S b o->S' b o){μ:Nat->Value}{objs:List (Nat×Ob)} : ∀(x:SV) (v:Value),ar w S μ objs x v->ar w' S' μ objs x v
 |.undef,v,h=>h
 |.val x,v,h=>nJ.mono hk hs x v h
 |.nils,v,h=>h
 |.full rows,v,h=>⟨nJ.mono hk hs _ v h.1,h.2⟩
 |.own id ver,v,h=>h
 |.loc id off,v,h=>h
 |.eloc id ver i off,v,h=>h
 |.view id ver lo hi,v,h=>h
 |.agg cells,v,⟨vs,h1,h2⟩=>⟨vs,h1,aj.mono hk hs cells _ h2⟩
 |.clo f caps,v,⟨vs,h1,h2⟩=>⟨vs,h1,aQ.mono hk hs caps _ h2⟩
 |.tup caps,v,⟨vs,h1,h2⟩=>⟨vs,h1,aQ.mono hk hs caps _ h2⟩
 |.ifc t x,v,⟨u,h1,h2⟩=>⟨u,h1,ar.mono hk hs x u h2⟩
 |.anyB,v,h=>h
 |.ownT id ver t,v,⟨h,h'⟩=>⟨h,fun a n c e=>let ⟨m,hm⟩:=h' a n c e;⟨m,hk.2 _ _ hm⟩⟩
 |.selfN id t nn,v,h=>fun cells hl=>let ⟨b,h1,h2,h3⟩:=h cells hl;⟨b,h1,hk.2 _ _ h2,h3⟩
 |.itr id,v,h=>h
theorem aQ.mono{w w':World}{S S':aO}(hk:bv S w w')(hs:∀b o,S b o->S' b o){μ:Nat->Value}{objs:List (Nat×Ob)} : ∀(x:List SV) (v:List Value),aQ w S μ objs x v->aQ w' S' μ objs x v
 |[],v,h=>h
 |x::xs,v,⟨u,us,h1,h2,h3⟩=>⟨u,us,h1,ar.mono hk hs x u h2,aQ.mono hk hs xs us h3⟩
theorem aj.mono{w w':World}{S S':aO}(hk:bv S w w')(hs:∀b o,S b o->S' b o){μ:Nat->Value}{objs:List (Nat×Ob)} : ∀(x:List SV) (v:List Value),aj w S μ objs x v->aj w' S' μ objs x v
 |[],v,h=>h
 |x::xs,v,⟨u,us,h1,h0,h2,h3⟩=>⟨u,us,h1,h0,ar.mono hk hs x u h2,aj.mono hk hs xs us h3⟩
end

def Ob.noRef(d:Nat):Ob->Bool
 |.box cells=>SV.noRefs d cells
 |.arr _ _ _=>true
 |.iter _ _=>true
def zg(d:Nat):List (Nat×SV)->Bool
 |[]=>true
 |(_,v)::r=>v.noRef d&&zg d r
def zh(d:Nat):List (Nat×Ob)->Bool
 |[]=>true
 |(_,v)::r=>v.noRef d&&zh d r

section
variable {α:Type}
theorem de(l:List (Nat×α))(k:Nat)(v:α):ac (put l k v) k=some v:=by simp[put,ac]
theorem sl(l:List (Nat×α)){k j:Nat}(v:α)(h:j≠k):ac (put l k v) j=ac l j:=by
 have:(k==j)=false:=by simpa using (fun e=>h e.symm)
 simp[put,ac,this]
theorem gV(l:List (Nat×α))(k j:Nat)(v:α):ac (put l k v) j=if j=k then some v else ac l j:=by
 split
 ·next h=>subst h;exact de _ _ _
 ·next h=>exact sl _ _ h
end
theorem ku(l:List (Nat×SV))(k j:Nat)(v:SV):aC (put l k v) j=if j=k then v else aC l j:=by
 unfold aC;rw[gV];split<;>rfl

def SV.erase(d:Nat)(v:SV):SV:=bif v.noRef d then v else .undef
def gN(d:Nat):List SV->List SV
 |[]=>[]
 |v::r=>v.erase d::gN d r
def Ob.erase(d:Nat):Ob->Ob
 |.box cells=>.box (gN d cells)
 |.arr ver s rows=>.arr ver s rows
 |.iter s p=>.iter s p
def dT(d:Nat):List (Nat×SV)->List (Nat×SV)
 |[]=>[]
 |(k,v)::r=>(k,v.erase d)::dT d r
def cC(d:Nat):List (Nat×Ob)->List (Nat×Ob)
 |[]=>[]
 |(k,v)::r=>(k,v.erase d)::cC d r

theorem SV.noRef_erase(d:Nat)(v:SV):(v.erase d).noRef d=true:=by
 unfold SV.erase;cases h:v.noRef d
 ·rfl
 ·exact h
theorem uS(d:Nat):∀l:List SV,SV.noRefs d (gN d l)=true
 |[]=>rfl
 |v::r=>by simp[gN,SV.noRefs,SV.noRef_erase,uS d r]
theorem oS(d:Nat)(env:List (Nat×SV))(k:Nat):aC (dT d env) k=(aC env k).erase d:=by
 induction env with
 |nil=>rfl
 |cons p r ih=>
  obtain⟨i,v⟩:=p;unfold aC at ih |-;simp only[dT,ac];cases i==k
  ·exact ih
  ·rfl
theorem bN(d:Nat)(objs:List (Nat×Ob))(k:Nat):ac (cC d objs) k=(ac objs k).map (Ob.erase d):=by
 induction objs with
 |nil=>rfl
 |cons p r ih=>
  obtain⟨i,v⟩:=p;simp only[cC,ac];cases i==k
  ·exact ih
  ·rfl
theorem ar.erase{w:World}{S:aO}{μ:Nat->Value}{objs:List (Nat×Ob)}{x:SV}{v:Value}(d:Nat)(h:ar w S μ objs x v):ar w S μ objs (x.erase d) v:=by
 unfold SV.erase;cases x.noRef d
 ·trivial
 ·exact h
theorem aj.erase{w:World}{S:aO}{μ:Nat->Value}{objs:List (Nat×Ob)}(d:Nat):∀ {x:List SV} {vs:List Value},aj w S μ objs x vs->aj w S μ objs (gN d x) vs
 |[],_,h=>h
 |_::_,_,⟨u,us,h1,h0,h2,h3⟩=>⟨u,us,h1,h0,ar.erase d h2,aj.erase d h3⟩

theorem Ks{d:Nat}{env:List (Nat×SV)}(h:zg d env=true)(k:Nat):(aC env k).noRef d=true:=by
 induction env with
 |nil=>rfl
 |cons p r ih=>
  obtain⟨i,v⟩:=p;simp only[zg,Bool.and_eq_true]at h;unfold aC;simp only[ac];cases hik:i==k
  ·exact ih h.2
  ·exact h.1
theorem Kt{d:Nat}{objs:List (Nat×Ob)}(h:zh d objs=true){k:Nat}{o:Ob}(hk:ac objs k=some o):o.noRef d=true:=by
 induction objs with
 |nil=>simp[ac]at hk
 |cons p r ih=>
  obtain⟨i,v⟩:=p;simp only[zh,Bool.and_eq_true]at h;simp only[ac]at hk;cases hik:i==k
  ·rw[hik]at hk;exact ih h.2 hk
  ·rw[hik]at hk;simp at hk;subst hk;exact h.1
/- A change of the objects and their places that a handle does not ac at. -/
mutual
theorem ar.other{w:World}{S:aO}{μ μ':Nat->Value}{objs objs':List (Nat×Ob)}{d:Nat}(hμ:∀id,id≠d->μ' id=μ id)(ho:∀id,id≠d->ac objs' id=ac objs id):∀(x:SV) (v:Value),x.noRef d=true->ar w S μ objs x v->ar w S μ' objs' x v
 |.undef,v,_,h=>h
 |.val x,v,_,h=>h
 |.nils,v,_,h=>h
 |.full rows,v,_,h=>h
 |.own id ver,v,hn,h=>by
  have hid:id≠d:=by simpa[SV.noRef]using hn
  simpa only [ar,ho id hid,hμ id hid]using h
 |.loc id off,v,hn,h=>by
  have hid:id≠d:=by simpa[SV.noRef]using hn
  simpa only [ar,ho id hid,hμ id hid]using h
 |.eloc id ver i off,v,hn,h=>by
  have hid:id≠d:=by simpa[SV.noRef]using hn
  simpa only [ar,ho id hid,hμ id hid]using h
 |.view id ver lo hi,v,hn,h=>by
  have hid:id≠d:=by simpa[SV.noRef]using hn
  simpa only [ar,ho id hid,hμ id hid]using h
 |.agg cells,v,hn,⟨vs,h1,h2⟩=>⟨vs,h1,aj.other hμ ho cells _ (by simpa[SV.noRef]using hn) h2⟩
 |.clo f caps,v,hn,⟨vs,h1,h2⟩=>⟨vs,h1,aQ.other hμ ho caps _ (by simpa[SV.noRef]using hn) h2⟩
 |.tup caps,v,hn,⟨vs,h1,h2⟩=>⟨vs,h1,aQ.other hμ ho caps _ (by simpa[SV.noRef]using hn) h2⟩
 |.ifc t x,v,hn,⟨u,h1,h2⟩=>⟨u,h1,ar.other hμ ho x u (by simpa[SV.noRef]using hn) h2⟩
 |.anyB,v,_,h=>h
 |.selfN id t nn,v,hn,h=>by
  have hid:id≠d:=by simpa[SV.noRef]using hn
  simpa only [ar,ho id hid,hμ id hid]using h
 |.ownT id ver t,v,hn,h=>by
  have hid:id≠d:=by simpa[SV.noRef]using hn
  simpa only [ar,ho id hid,hμ id hid]using h
 |.itr id,v,hn,h=>by
  have hid:id≠d:=by simpa[SV.noRef]using hn
  simpa only [ar,ho id hid,hμ id hid]using h
theorem aQ.other{w:World}{S:aO}{μ μ':Nat->Value}{objs objs':List (Nat×Ob)}{d:Nat}(hμ:∀id,id≠d->μ' id=μ id)(ho:∀id,id≠d->ac objs' id=ac objs id):∀(x:List SV) (v:List Value),SV.noRefs d x=true->aQ w S μ objs x v->aQ w S μ' objs' x v
 |[],v,_,h=>h
 |x::xs,v,hn,⟨u,us,h1,h2,h3⟩=>by
  simp only[SV.noRefs,Bool.and_eq_true]at hn;exact⟨u,us,h1,ar.other hμ ho x u hn.1 h2,aQ.other hμ ho xs us hn.2 h3⟩
theorem aj.other{w:World}{S:aO}{μ μ':Nat->Value}{objs objs':List (Nat×Ob)}{d:Nat}(hμ:∀id,id≠d->μ' id=μ id)(ho:∀id,id≠d->ac objs' id=ac objs id):∀(x:List SV) (v:List Value),SV.noRefs d x=true->aj w S μ objs x v->aj w S μ' objs' x v
 |[],v,_,h=>h
 |x::xs,v,hn,⟨u,us,h1,h0,h2,h3⟩=>by
  simp only[SV.noRefs,Bool.and_eq_true]at hn;exact⟨u,us,h1,h0,ar.other hμ ho x u hn.1 h2,aj.other hμ ho xs us hn.2 h3⟩
end

/- The objects' contents have turned, their JJ have not; where an array's version has not gone up, its place and length have not turned. -/
mutual
theorem ar.same{w:World}{S:aO}{μ μ':Nat->Value}{objs objs':List (Nat×Ob)}
  (hb:∀id cells,ac objs' id=some (.box cells)->∃cells',ac objs id=some (.box cells')/\μ' id=μ id)
  (ha:∀id cv s rows,ac objs' id=some (.arr cv s rows)->∃cv' rows',ac objs id=some (.arr cv' s rows')/\cv'<=cv/\(cv'=cv->rows'.length=rows.length/\μ' id=μ id))
  (hi:∀id s p,ac objs' id=some (.iter s p)->∃s' p',ac objs id=some (.iter s' p')/\μ' id=μ id) :
  ∀(x:SV) (v:Value),ar w S μ objs x v->ar w S μ' objs' x v
 |.undef,v,h=>h
 |.val x,v,h=>h
 |.nils,v,h=>h
 |.full rows,v,h=>h
 |.own id ver,v,h=>by
  intro cv s rows hl;obtain⟨cv',rows',h1,h2,h5⟩:=ha id cv s rows hl;obtain⟨h3,h4⟩:=h _ _ _ h1;exact⟨Nat.le_trans h3 h2,fun e=>by rw[(h5 (by omega)).2];exact h4 (by omega)⟩
 |.loc id off,v,h=>by
  intro cells hl;obtain⟨cells',h1,h2⟩:=hb id cells hl;rw[h2];exact h _ h1
 |.eloc id ver i off,v,h=>by
  intro cv s rows hl;obtain⟨cv',rows',h1,h2,h5⟩:=ha id cv s rows hl;obtain⟨h3,h4⟩:=h _ _ _ h1;refine⟨Nat.le_trans h3 h2,fun e=>?_⟩;obtain⟨b,cap,h6,h7⟩:=h4 (by omega);obtain⟨h8,h9⟩:=h5 (by omega);exact⟨b,cap,by rw[h9,h6,h8],h7⟩
 |.view id ver lo hi,v,h=>by
  intro cv s rows hl;obtain⟨cv',rows',h1,h2,h5⟩:=ha id cv s rows hl;obtain⟨h3,h4⟩:=h _ _ _ h1;refine⟨Nat.le_trans h3 h2,fun e=>?_⟩;obtain⟨g1,g2,x,cap,y,g3,g4⟩:=h4 (by omega);obtain⟨h8,h9⟩:=h5 (by omega);exact⟨g1,by omega,x,cap,y,by rw[h9,g3,h8],by rw[<-h8];exact g4⟩
 |.agg cells,v,⟨vs,h1,h2⟩=>⟨vs,h1,aj.same hb ha hi cells _ h2⟩
 |.clo f caps,v,⟨vs,h1,h2⟩=>⟨vs,h1,aQ.same hb ha hi caps _ h2⟩
 |.tup caps,v,⟨vs,h1,h2⟩=>⟨vs,h1,aQ.same hb ha hi caps _ h2⟩
 |.ifc t x,v,⟨u,h1,h2⟩=>⟨u,h1,ar.same hb ha hi x u h2⟩
 |.anyB,v,h=>h
 |.selfN id t nn,v,h=>by
  intro cells hl;obtain⟨cells',h1,h2⟩:=hb id cells hl;rw[h2];exact h _ h1
 |.ownT id ver t,v,⟨h,h'⟩=>by
  refine⟨?_,h'⟩;intro cv s rows hl;obtain⟨cv',rows',h1,h2,h5⟩:=ha id cv s rows hl;obtain⟨h3,h4⟩:=h _ _ _ h1;exact⟨Nat.le_trans h3 h2,fun e=>by rw[(h5 (by omega)).2];exact h4 (by omega)⟩
 |.itr id,v,h=>by
  intro s p hl;obtain⟨s',p',h1,h2⟩:=hi id s p hl;rw[h2];exact h _ _ h1
theorem aQ.same{w:World}{S:aO}{μ μ':Nat->Value}{objs objs':List (Nat×Ob)}
  (hb:∀id cells,ac objs' id=some (.box cells)->∃cells',ac objs id=some (.box cells')/\μ' id=μ id)
  (ha:∀id cv s rows,ac objs' id=some (.arr cv s rows)->∃cv' rows',ac objs id=some (.arr cv' s rows')/\cv'<=cv/\(cv'=cv->rows'.length=rows.length/\μ' id=μ id))
  (hi:∀id s p,ac objs' id=some (.iter s p)->∃s' p',ac objs id=some (.iter s' p')/\μ' id=μ id) :
  ∀(x:List SV) (v:List Value),aQ w S μ objs x v->aQ w S μ' objs' x v
 |[],v,h=>h
 |x::xs,v,⟨u,us,h1,h2,h3⟩=>⟨u,us,h1,ar.same hb ha hi x u h2,aQ.same hb ha hi xs us h3⟩
theorem aj.same{w:World}{S:aO}{μ μ':Nat->Value}{objs objs':List (Nat×Ob)}
  (hb:∀id cells,ac objs' id=some (.box cells)->∃cells',ac objs id=some (.box cells')/\μ' id=μ id)
  (ha:∀id cv s rows,ac objs' id=some (.arr cv s rows)->∃cv' rows',ac objs id=some (.arr cv' s rows')/\cv'<=cv/\(cv'=cv->rows'.length=rows.length/\μ' id=μ id))
  (hi:∀id s p,ac objs' id=some (.iter s p)->∃s' p',ac objs id=some (.iter s' p')/\μ' id=μ id) :
  ∀(x:List SV) (v:List Value),aj w S μ objs x v->aj w S μ' objs' x v
 |[],v,h=>h
 |x::xs,v,⟨u,us,h1,h0,h2,h3⟩=>⟨u,us,h1,h0,ar.same hb ha hi x u h2,aj.same hb ha hi xs us h3⟩
end

end Go.Vs
set_option linter.unusedVariables false
set_option linter.unusedSimpArgs false
namespace Go.Vs

theorem IV.one_oneCell{w:World}{S:aO} : ∀ {x:IV} {v:Value},x.one=true->nJ w S x v->v.oneCell'=true
 |.int _ _,_,_,h=>by subst h;rfl
 |.bool _,_,_,h=>by subst h;rfl
 |.str _,_,_,h=>by subst h;rfl
 |.nilp,_,_,h=>by subst h;rfl
 |.ref _,_,_,⟨_,_,h,_⟩=>by subst h;rfl
 |.slice _,_,_,⟨_,_,h,_⟩=>by subst h;rfl
 |.nilf,_,_,h=>by subst h;rfl
 |.yld _,_,_,h=>by subst h;rfl
 |.fn _ _,_,_,⟨_,h,_⟩=>by subst h;rfl
 |.bnd _ _,_,_,⟨_,h,_⟩=>by subst h;rfl
 |.nili,_,_,h=>by subst h;rfl
 |.handle _ _ _,_,_,h=>by have h:_=_:=h;subst h;rfl
 |.nilS,_,_,h=>by have h:_=_:=h;subst h;rfl
 |.iface _ _,_,_,⟨_,h,_⟩=>by subst h;rfl
 |.agg _,_,h,_=>by simp[IV.one]at h
 |.tuple _,_,h,_=>by simp[IV.one]at h

theorem IV.oneCell_one{w:World}{S:aO} : ∀ {x:IV} {v:Value},v.oneCell'=true->nJ w S x v->x.one=true
 |.int _ _,_,_,_=>rfl
 |.bool _,_,_,_=>rfl
 |.str _,_,_,_=>rfl
 |.nilp,_,_,_=>rfl
 |.ref _,_,_,_=>rfl
 |.slice _,_,_,_=>rfl
 |.nilf,_,_,_=>rfl
 |.yld _,_,_,_=>rfl
 |.fn _ _,_,_,_=>rfl
 |.bnd _ _,_,_,_=>rfl
 |.nili,_,_,_=>rfl
 |.handle _ _ _,_,_,_=>rfl
 |.nilS,_,_,_=>rfl
 |.iface _ _,_,_,_=>rfl
 |.agg _,_,h,⟨_,h1,_⟩=>by subst h1;simp[Value.oneCell']at h
 |.tuple _,_,h,⟨_,h1,_⟩=>by subst h1;simp[Value.oneCell']at h

section lists
variable {w:World} {S:aO}

theorem ae.length:∀ {xs:List IV} {vs:List Value},ae w S xs vs->vs.length=xs.length
 |[],_,h=>by have h:_=_:=h;subst h;rfl
 |_::_,_,⟨_,_,h1,_,_,h3⟩=>by subst h1;simp[ae.length h3]
theorem ae.append:∀ {xs ys:List IV} {us vs:List Value},ae w S xs us->ae w S ys vs->ae w S (xs++ys) (us++vs)
 |[],_,_,_,h,k=>by have h:_=_:=h;subst h;exact k
 |_::_,_,_,_,⟨u,us',h1,h0,h2,h3⟩,k=>by subst h1;exact⟨u,us'++_,rfl,h0,h2,ae.append h3 k⟩
theorem ae.drop:∀(n:Nat) {xs:List IV} {vs:List Value},ae w S xs vs->ae w S (xs.drop n) (vs.drop n)
 |0,_,_,h=>h
 |_+1,[],_,h=>by have h:_=_:=h;subst h;rfl
 |n+1,_::_,_,⟨_,_,h1,_,_,h3⟩=>by subst h1;exact ae.drop n h3
theorem ae.take:∀(n:Nat) {xs:List IV} {vs:List Value},ae w S xs vs->ae w S (xs.take n) (vs.take n)
 |0,_,_,_=>rfl
 |_+1,[],_,h=>by have h:_=_:=h;subst h;rfl
 |n+1,_::_,_,⟨u,_,h1,h0,h2,h3⟩=>by subst h1;exact⟨u,_,rfl,h0,h2,ae.take n h3⟩
theorem ae.get:∀ {xs:List IV} {vs:List Value} {j:Nat} {x:IV},ae w S xs vs->xs[j]?=some x->∃v,vs[j]?=some v/\x.one=true/\nJ w S x v
 |[],_,_,_,_,k=>by simp at k
 |y::_,_,0,x,⟨u,us,h1,h0,h2,_⟩,k=>by
  subst h1;have:y=x:=by simpa using k
  subst this;exact⟨u,rfl,h0,h2⟩
 |_::_,_,j+1,_,⟨_,us,h1,_,_,h3⟩,k=>by
  subst h1;obtain⟨v,h4,h5⟩:=ae.get (j:=j) h3 (by simpa using k);exact⟨v,by simpa using h4,h5⟩
theorem ae.set:∀ {xs:List IV} {vs:List Value} (j:Nat) {x:IV} {v:Value},ae w S xs vs->x.one=true->nJ w S x v->ae w S (xs.set j x) (vs.set j v)
 |[],_,_,_,_,h,_,_=>by have h:_=_:=h;subst h;rfl
 |_::_,_,0,_,v,⟨_,us,h1,_,_,h3⟩,k0,k=>by subst h1;exact⟨v,us,rfl,k0,k,h3⟩
 |_::_,_,j+1,_,_,⟨u,us,h1,h0,h2,h3⟩,k0,k=>by subst h1;exact⟨u,_,rfl,h0,h2,ae.set j h3 k0 k⟩
theorem ae.oneCells:∀ {xs:List IV} {vs:List Value},ae w S xs vs->∀v∈vs,v.oneCell'=true
 |[],_,h=>by have h:_=_:=h;subst h;simp
 |_::_,_,⟨u,us,h1,h0,h2,h3⟩=>by
  subst h1;intro v hv;rcases List.mem_cons.1 hv with rfl|hv
  ·exact IV.one_oneCell h0 h2
  ·exact ae.oneCells h3 v hv
theorem bc.length:∀ {xs:List IV} {vs:List Value},bc w S xs vs->vs.length=xs.length
 |[],_,h=>by have h:_=_:=h;subst h;rfl
 |_::_,_,⟨_,_,h1,_,h3⟩=>by subst h1;simp[bc.length h3]
theorem bc.get:∀ {xs:List IV} {vs:List Value} {j:Nat} {x:IV},bc w S xs vs->xs[j]?=some x->∃v,vs[j]?=some v/\nJ w S x v
 |[],_,_,_,_,k=>by simp at k
 |y::_,_,0,x,⟨u,us,h1,h2,_⟩,k=>by
  subst h1;have:y=x:=by simpa using k
  subst this;exact⟨u,rfl,h2⟩
 |_::_,_,j+1,_,⟨_,us,h1,_,h3⟩,k=>by
  subst h1;obtain⟨v,h4,h5⟩:=bc.get (j:=j) h3 (by simpa using k);exact⟨v,by simpa using h4,h5⟩

theorem aQ.get{μ:Nat->Value}{objs:List (Nat×Ob)} : ∀ {xs:List SV} {vs:List Value} {j:Nat} {x:SV},aQ w S μ objs xs vs->xs[j]?=some x->∃v,vs[j]?=some v/\ar w S μ objs x v
 |[],_,_,_,_,hx=>by simp at hx
 |_::_,_,0,_,⟨v,vs',h1,h2,_⟩,hx=>by
  subst h1;obtain rfl:=O_ hx;exact⟨v,rfl,h2⟩
 |_::xs,_,j+1,x,⟨v,vs',h1,_,h3⟩,hx=>by
  subst h1;obtain⟨u,h4,h5⟩:=aQ.get (xs:=xs) (j:=j) h3 hx;exact⟨u,h4,h5⟩

theorem aH.vals:∀ {xs:List IV} {blk off:Nat},aH w S xs blk off->∃vs,ae w S xs vs/\∀j v,vs[j]?=some v->w.cell? ⟨blk,off+j,none⟩=some v
 |[],_,_,_=>⟨[],rfl,by simp⟩
 |x::xs,blk,off,⟨_,h2,⟨v,h3,h4⟩,h5⟩=>by
  obtain⟨vs,h6,h7⟩:=aH.vals h5;refine⟨v::vs,⟨v,vs,rfl,h2,h4,h6⟩,?_⟩;intro j u hj;cases j with
  |zero=>simp at hj;subst hj;exact h3
  |succ j=>have:=h7 j u (by simpa using hj);rwa[show off+1+j=off+(j+1) by omega]at this
theorem aH.intro:∀ {xs:List IV} {vs:List Value} {blk off:Nat},ae w S xs vs->(∀j,j<xs.length->S blk (off+j))->
  (∀j v,vs[j]?=some v->w.cell? ⟨blk,off+j,none⟩=some v)->aH w S xs blk off
 |[],_,_,_,_,_,_=>trivial
 |x::xs,_,blk,off,⟨v,vs,h1,h0,h2,h3⟩,hS,hc=>by
  subst h1;refine⟨hS 0 (by simp),h0,⟨v,hc 0 v rfl,h2⟩,aH.intro h3 (fun j hj=>?_) (fun j u hj=>?_)⟩
  ·have:=hS (j+1) (by simp;omega);rwa[show off+(j+1)=off+1+j by omega]at this
  ·have:=hc (j+1) u (by simpa using hj);rwa[show off+(j+1)=off+1+j by omega]at this
theorem aH.drop:∀(n:Nat) {xs:List IV} {blk off:Nat},aH w S xs blk off->aH w S (xs.drop n) blk (off+n)
 |0,_,_,_,h=>h
 |_+1,[],_,_,_=>trivial
 |n+1,_::_,_,off,⟨_,_,_,h⟩=>by
  have:=aH.drop n h
  rwa[show off+1+n=off+(n+1) by omega]at this
theorem aH.take:∀(n:Nat) {xs:List IV} {blk off:Nat},aH w S xs blk off->aH w S (xs.take n) blk off
 |0,_,_,_,_=>trivial
 |_+1,[],_,_,_=>trivial
 |n+1,_::_,_,_,⟨h1,h2,h3,h4⟩=>⟨h1,h2,h3,aH.take n h4⟩
theorem aH.append:∀ {xs ys:List IV} {blk off:Nat},aH w S xs blk off->aH w S ys blk (off+xs.length)->aH w S (xs++ys) blk off
 |[],_,_,_,_,k=>k
 |_::xs,_,blk,off,⟨h1,h2,h3,h4⟩,k=>⟨h1,h2,h3,aH.append h4 (by rw[show off+1+xs.length=off+(xs.length+1) by omega];exact k)⟩

theorem bq.get:∀ {rows:List (List IV)} {s blk off i:Nat} {r:List IV},bq w S rows s blk off->rows[i]?=some r->r.length=s/\aH w S r blk (off+i*s)
 |[],_,_,_,_,_,_,k=>by simp at k
 |r'::rs,s,blk,off,0,r,⟨h1,h2,_⟩,k=>by
  have:r'=r:=by simpa using k
  subst this;exact⟨h1,by simpa using h2⟩
 |_::rs,s,blk,off,i+1,r,⟨_,_,h3⟩,k=>by
  have:=bq.get (i:=i) h3 (by simpa using k)
  rwa[show off+s+i*s=off+(i+1)*s by rw[Nat.add_mul];omega]at this
theorem bq.lens:∀ {rows:List (List IV)} {s blk off:Nat},bq w S rows s blk off->∀r∈rows,r.length=s
 |[],_,_,_,_=>by simp
 |_::_,_,_,_,⟨h1,_,h3⟩=>by
  intro r hr;rcases List.mem_cons.1 hr with rfl|hr
  ·exact h1
  ·exact bq.lens h3 r hr
theorem bq.drop:∀(n:Nat) {rows:List (List IV)} {s blk off:Nat},bq w S rows s blk off->bq w S (rows.drop n) s blk (off+n*s)
 |0,_,_,_,_,h=>by simpa using h
 |_+1,[],_,_,_,_=>trivial
 |n+1,_::_,s,_,off,⟨_,_,h⟩=>by
  have:=bq.drop n h
  rwa[show off+s+n*s=off+(n+1)*s by rw[Nat.add_mul];omega]at this
theorem bq.take:∀(n:Nat) {rows:List (List IV)} {s blk off:Nat},bq w S rows s blk off->bq w S (rows.take n) s blk off
 |0,_,_,_,_,_=>trivial
 |_+1,[],_,_,_,_=>trivial
 |n+1,_::_,_,_,_,⟨h1,h2,h3⟩=>⟨h1,h2,bq.take n h3⟩
theorem bq.flat:∀ {rows:List (List IV)} {s blk off:Nat},bq w S rows s blk off->aH w S rows.flatten blk off
 |[],_,_,_,_=>trivial
 |r::rs,s,blk,off,⟨h1,h2,h3⟩=>by
  simp only[List.flatten_cons];exact aH.append h2 (by rw[h1];exact bq.flat h3)
theorem bq.ofFlat:∀ {rows:List (List IV)} {s blk off:Nat},(∀r∈rows,r.length=s)->aH w S rows.flatten blk off->bq w S rows s blk off
 |[],_,_,_,_,_=>trivial
 |r::rs,s,blk,off,hl,h=>by
  have h1:=hl r (by simp);simp only[List.flatten_cons]at h;refine⟨h1,?_,bq.ofFlat (fun x hx=>hl x (List.mem_cons_of_mem _ hx)) ?_⟩
  ·have:=aH.take r.length h;simpa using this
  ·have:=aH.drop r.length h;simpa[h1]using this
theorem cO{α:Type} : ∀ {rows:List (List α)} {s:Nat},(∀r∈rows,r.length=s)->rows.flatten.length=rows.length*s
 |[],_,_=>by simp
 |r::rs,s,h=>by
  have h1:=h r (by simp);have h2:=cO (rows:=rs) (s:=s) (fun x hx=>h x (List.mem_cons_of_mem _ hx));simp only[List.flatten_cons,List.length_append,h1,h2,List.length_cons,Nat.add_mul];omega

variable {μ:Nat->Value} {objs:List (Nat×Ob)}
theorem aj.length:∀ {xs:List SV} {vs:List Value},aj w S μ objs xs vs->vs.length=xs.length
 |[],_,h=>by have h:_=_:=h;subst h;rfl
 |_::_,_,⟨_,_,h1,_,_,h3⟩=>by subst h1;simp[aj.length h3]
theorem aj.append:∀ {xs ys:List SV} {us vs:List Value},aj w S μ objs xs us->aj w S μ objs ys vs->aj w S μ objs (xs++ys) (us++vs)
 |[],_,_,_,h,k=>by have h:_=_:=h;subst h;exact k
 |_::_,_,_,_,⟨u,us',h1,h0,h2,h3⟩,k=>by subst h1;exact⟨u,us'++_,rfl,h0,h2,aj.append h3 k⟩
theorem aj.drop:∀(n:Nat) {xs:List SV} {vs:List Value},aj w S μ objs xs vs->aj w S μ objs (xs.drop n) (vs.drop n)
 |0,_,_,h=>h
 |_+1,[],_,h=>by have h:_=_:=h;subst h;rfl
 |n+1,_::_,_,⟨_,_,h1,_,_,h3⟩=>by subst h1;exact aj.drop n h3
theorem aj.take:∀(n:Nat) {xs:List SV} {vs:List Value},aj w S μ objs xs vs->aj w S μ objs (xs.take n) (vs.take n)
 |0,_,_,_=>rfl
 |_+1,[],_,h=>by have h:_=_:=h;subst h;rfl
 |n+1,_::_,_,⟨u,_,h1,h0,h2,h3⟩=>by subst h1;exact⟨u,_,rfl,h0,h2,aj.take n h3⟩
theorem aj.get:∀ {xs:List SV} {vs:List Value} {j:Nat} {x:SV},aj w S μ objs xs vs->xs[j]?=some x->∃v,vs[j]?=some v/\v.oneCell'=true/\ar w S μ objs x v
 |[],_,_,_,_,k=>by simp at k
 |y::_,_,0,x,⟨u,us,h1,h0,h2,_⟩,k=>by
  subst h1;have:y=x:=by simpa using k
  subst this;exact⟨u,rfl,h0,h2⟩
 |_::_,_,j+1,_,⟨_,us,h1,_,_,h3⟩,k=>by
  subst h1;obtain⟨v,h4,h5⟩:=aj.get (j:=j) h3 (by simpa using k);exact⟨v,by simpa using h4,h5⟩
theorem aj.set:∀ {xs:List SV} {vs:List Value} (j:Nat) {x:SV} {v:Value},aj w S μ objs xs vs->v.oneCell'=true->ar w S μ objs x v->aj w S μ objs (xs.set j x) (vs.set j v)
 |[],_,_,_,_,h,_,_=>by have h:_=_:=h;subst h;rfl
 |_::_,_,0,_,v,⟨_,us,h1,_,_,h3⟩,k0,k=>by subst h1;exact⟨v,us,rfl,k0,k,h3⟩
 |_::_,_,j+1,_,_,⟨u,us,h1,h0,h2,h3⟩,k0,k=>by subst h1;exact⟨u,_,rfl,h0,h2,aj.set j h3 k0 k⟩
theorem aj.oneCells:∀ {xs:List SV} {vs:List Value},aj w S μ objs xs vs->∀v∈vs,v.oneCell'=true
 |[],_,h=>by have h:_=_:=h;subst h;simp
 |_::_,_,⟨u,us,h1,h0,_,h3⟩=>by
  subst h1;intro v hv;rcases List.mem_cons.1 hv with rfl|hv
  ·exact h0
  ·exact aj.oneCells h3 v hv
theorem aj.ofRep:∀ {xs:List IV} {vs:List Value},ae w S xs vs->aj w S μ objs (xs.map .val) vs
 |[],_,h=>h
 |_::_,_,⟨u,us,h1,h0,h2,h3⟩=>⟨u,us,h1,IV.one_oneCell h0 h2,h2,aj.ofRep h3⟩
end lists

def dB:List SV->Option (List IV)
 |[]=>some []
 |.val v::r=>match dB r with
  |some vs=>some (v::vs)
  |none=>none
 |_::_=>none
theorem oT:∀ {xs:List SV} {ys:List IV},dB xs=some ys->xs=ys.map .val
 |[],ys,h=>by simp[dB]at h;subst h;rfl
 |.val v::r,ys,h=>by
  simp only[dB]at h;split at h
  ·next vs hv=>simp at h;subst h;simp[oT hv]
  ·simp at h
 |.undef::_,_,h=>by simp[dB]at h
 |.nils::_,_,h=>by simp[dB]at h
 |.full _::_,_,h=>by simp[dB]at h
 |.own _ _::_,_,h=>by simp[dB]at h
 |.loc _ _::_,_,h=>by simp[dB]at h
 |.eloc _ _ _ _::_,_,h=>by simp[dB]at h
 |.agg _::_,_,h=>by simp[dB]at h
 |.clo _ _::_,_,h=>by simp[dB]at h
 |.tup _::_,_,h=>by simp[dB]at h
 |.ifc _ _::_,_,h=>by simp[dB]at h
theorem aj.toRep{w:World}{S:aO}{μ:Nat->Value}{objs:List (Nat×Ob)} : ∀ {xs:List IV} {vs:List Value},aj w S μ objs (xs.map .val) vs->ae w S xs vs
 |[],_,h=>h
 |_::_,_,⟨u,us,h1,h0,h2,h3⟩=>⟨u,us,h1,IV.oneCell_one h0 h2,h2,aj.toRep h3⟩

end Go.Vs
set_option linter.unusedVariables false
set_option linter.unusedSimpArgs false
namespace Go.Vs

theorem bA.move{w w':World}{S S':aO}(hk:bv S w w')(hs:∀b o,S b o->S' b o){μ:Nat->Value}{objs:List (Nat×Ob)}{blk:Option Nat}{mu:Value}
  (hb:∀b,blk=some b->w'.heap[b]?=w.heap[b]?):∀ {o:Ob},bA w S μ objs blk mu o->bA w' S' μ objs blk mu o
 |.box _,⟨b,vs,e,fr,h1,h2,h3,h0,h4⟩=>⟨b,vs,e,fr,h1,h2,(hb b h1).trans h3,h0,aj.mono hk hs _ _ h4⟩
 |.arr _ _ _,.inl h=>.inl h
 |.arr _ _ _,.inr ⟨b,cap,vs,e,fr,h1,h2,h3,h0,h4,h5,h6,h7⟩=>.inr ⟨b,cap,vs,e,fr,h1,h2,(hb b h1).trans h3,h0,h4,h5,h6,ae.mono hk hs _ _ h7⟩
 |.iter _ _,⟨b,h1,h2,h3⟩=>⟨b,h1,h2,(hb b h1).trans h3⟩
theorem bA.other{w:World}{S:aO}{μ μ':Nat->Value}{objs objs':List (Nat×Ob)}{d:Nat}(hμ:∀id,id≠d->μ' id=μ id)(ho:∀id,id≠d->ac objs' id=ac objs id)
  {blk:Option Nat} {mu:Value} : ∀ {o:Ob},o.noRef d=true->bA w S μ objs blk mu o->bA w S μ' objs' blk mu o
 |.box _,hn,⟨b,vs,e,fr,h1,h2,h3,h0,h4⟩=>⟨b,vs,e,fr,h1,h2,h3,h0,aj.other hμ ho _ _ hn h4⟩
 |.arr _ _ _,_,h=>h
 |.iter _ _,_,h=>h
theorem bA.erase{w:World}{S:aO}{μ:Nat->Value}{objs:List (Nat×Ob)}{blk:Option Nat}{mu:Value}(d:Nat):∀ {o:Ob},bA w S μ objs blk mu o->bA w S μ objs blk mu (o.erase d)
 |.box _,⟨b,vs,e,fr,h1,h2,h3,h0,h4⟩=>⟨b,vs,e,fr,h1,h2,h3,h0,aj.erase d h4⟩
 |.arr _ _ _,h=>h
 |.iter _ _,h=>h
theorem bA.same{w:World}{S:aO}{μ μ':Nat->Value}{objs objs':List (Nat×Ob)}
  (hb:∀id cells,ac objs' id=some (.box cells)->∃cells',ac objs id=some (.box cells')/\μ' id=μ id)
  (ha:∀id cv s rows,ac objs' id=some (.arr cv s rows)->∃cv' rows',ac objs id=some (.arr cv' s rows')/\cv'<=cv/\(cv'=cv->rows'.length=rows.length/\μ' id=μ id))
  (hi:∀id s p,ac objs' id=some (.iter s p)->∃s' p',ac objs id=some (.iter s' p')/\μ' id=μ id)
  {blk:Option Nat} {mu:Value} : ∀ {o:Ob},bA w S μ objs blk mu o->bA w S μ' objs' blk mu o
 |.box _,⟨b,vs,e,fr,h1,h2,h3,h0,h4⟩=>⟨b,vs,e,fr,h1,h2,h3,h0,aj.same hb ha hi _ _ h4⟩
 |.arr _ _ _,h=>h
 |.iter _ _,h=>h
theorem Ob.noRef_erase(d:Nat):∀o:Ob,(o.erase d).noRef d=true
 |.box c=>uS d c
 |.arr _ _ _=>rfl
 |.iter _ _=>rfl

theorem Kept.refl(M:Nat->Prop)(w:World):Kept M w w:=⟨rfl,rfl,rfl,Nat.le_refl _,fun _ _ _=>rfl,fun _ _ h=>h⟩
theorem Kept.trans{M:Nat->Prop}{a b c:World}(h:Kept M a b)(k:Kept M b c):Kept M a c:=
 ⟨k.os.trans h.os,k.tape.trans h.tape,k.output.trans h.output,Nat.le_trans h.size k.size,fun i hi hm=>(k.block i (Nat.lt_of_lt_of_le hi h.size) hm).trans (h.block i hi hm),fun i x hx=>k.shape _ _ (h.shape _ _ hx)⟩
theorem Kept.none{M:Nat->Prop}{a b:World}(h:Kept (fun _=>False) a b):Kept M a b:=
 ⟨h.os,h.tape,h.output,h.size,fun i hi _=>h.block i hi (fun x=>x),h.shape⟩
theorem ek{w:World}{o:Go.Obj}{k:Nat}(h:k<w.heap.size):(w.alloc o).heap[k]?=w.heap[k]?:=by
 show(w.heap.push o)[k]?=_;rw[Array.getElem?_push,if_neg (by omega)]
theorem ct(w:World)(o:Go.Obj):(w.alloc o).heap[w.heap.size]?=some o:=by
 show(w.heap.push o)[w.heap.size]?=_;rw[Array.getElem?_push,if_pos rfl]
theorem bF{w w':World}{b:Nat}(h:w'.heap[b]?=w.heap[b]?)(o:Nat):w'.cell? ⟨b,o,none⟩=w.cell? ⟨b,o,none⟩:=by
 simp only[World.cell?,h]
theorem dI{w:World}{b:Nat}{vs:Array Value}{e:TypeId}{fr:Nat×Nat}(h:w.heap[b]?=some (.cells vs e fr))(o:Nat):w.cell? ⟨b,o,none⟩=vs[o]?:=by
 simp[World.cell?,h]

section sim
variable {w0 w:World} {S0 S:aO} {M:Ctx} {σ:St} {a:Act} {μ:Nat->Value} {β:Nat->Option Nat}

theorem bA.live{blk:Option Nat}{mu:Value}{objs:List (Nat×Ob)}{o:Ob}{b:Nat}(hb:blk=some b)(h:bA w S μ objs blk mu o):b<w.heap.size:=by
 have lt:∀ {x:Go.Obj},w.heap[b]?=some x->b<w.heap.size:=fun hx=>by
  rcases Nat.lt_or_ge b w.heap.size with h|h
  ·exact h
  ·simp[Array.getElem?_eq_none h]at hx
 cases o with
 |box c=>
  obtain⟨b',vs,e,fr,h1,_,h3,_⟩:=h;obtain rfl:b'=b:=by rw[hb]at h1;exact(O_ h1).symm
  exact lt h3
 |arr v s rows=>
  rcases h with⟨_,h1,_⟩|⟨b',cap,vs,e,fr,h1,_,h3,_⟩
  ·rw[hb]at h1;simp at h1
  ·obtain rfl:b'=b:=by rw[hb]at h1;exact(O_ h1).symm
   exact lt h3
 |iter s p=>
  obtain⟨b',h1,_,h3⟩:=h;obtain rfl:b'=b:=by rw[hb]at h1;exact(O_ h1).symm
  exact lt h3

theorem SimG.put(h:SimG w0 S0 M σ a w S μ β){d:Nat}{sv:SV}{v:Value}(hd:d<σ.n)(hv:ar w S μ σ.objs sv v) :
  SimG w0 S0 M {σ with env:=put σ.env d sv } (a.put (some d) v) w S μ β:=
 {h with
  defers:=h.defers
  size:=by simpa[Act.put]using h.size
  env:=fun k=>by
   show ar w S μ σ.objs (aC (Vs.put σ.env d sv) k) ((a.tmps.setIfInBounds d v).getD k Go.undef);rw[ku];by_cases hk:k=d
   ·subst hk;have:k<a.tmps.size:=by rw[h.size];exact hd
    simpa[this]using hv
   ·have:=h.env k;rw[if_neg hk];have hne:d≠k:=fun e=>hk e.symm
    simpa[Array.getElem?_setIfInBounds_ne hne]using this }

theorem SimG.world(h:SimG w0 S0 M σ a w S μ β){w':World}{S':aO}(hk:bv S w w')(hs:∀b o,S b o->S' b o)
  (hblk:∀id o b,ac σ.objs id=some o->β id=some b->w'.heap[b]?=w.heap[b]?)
  (hun:∀id o b off,ac σ.objs id=some o->β id=some b->S' b off->S b off)
  (hst:∀b o,S' b o->b<w'.heap.size) (hback:∀b o,S' b o->S b o\/w0.heap.size<=b\/M.blocks b) (hkept:Kept M.blocks w0 w') :
  SimG w0 S0 M σ a w' S' μ β where
 stay:=fun b o hb=>(hk.1 b o (h.ext b o hb)).trans (h.stay b o hb)
 defers:=h.defers
 size:=h.size
 env:=fun k=>ar.mono hk hs _ _ (h.env k)
 objs:=fun id o ho=>bA.move hk hs (fun b hb=>hblk id o b ho hb) (h.objs id o ho)
 inj:=h.inj
 own:=h.own
 unst:=fun id o b off ho hb hS=>h.unst id o b off ho hb (hun id o b off ho hb hS)
 stab:=hst
 ext:=fun b o hb=>hs b o (h.ext b o hb)
 back:=fun b o hb=>(hback b o hb).elim (h.back b o) .inr
 kept:=hkept
 hist:=fun p hp=>ar.mono hk hs _ _ (h.hist p hp)
 far:=h.far
 glob:=fun p hp=>gG.mono hk hs (h.glob p hp)

theorem SimG.create'(h:SimG w0 S0 M σ a w S μ β)(d:Nat)(hdn:d<σ.n)(o:Ob)(blk:Option Nat)(mu:Value){w':World}
  (hw:Kept (fun _=>False) w w') (hblk:∀b,blk=some b->w0.heap.size<=b/\(∀off,¬S b off)/\∀id o,ac σ.objs id=some o->β id≠some b)
  (hob:bA w' S μ σ.objs blk mu o) :
  SimG w0 S0 M {σ with env:=dT d σ.env,objs:=cC d (Vs.put σ.objs d o) } a w' S (fun id=>if id=d then mu else μ id) (fun id=>if id=d then blk else β id):=by
 have hheap:∀k,k<w.heap.size->w'.heap[k]?=w.heap[k]?:=fun k hk=>hw.block k hk (fun x=>x)
 have hsize:w.heap.size<=w'.heap.size:=hw.size;have hkeeps:bv S w w':=⟨fun b off hS=>bF (hheap b (h.stab b off hS)) off,hw.shape⟩;have hkept:Kept M.blocks w w':=hw.none;have hμ:∀id,id≠d->(fun id=>if id=d then mu else μ id) id=μ id:=fun id hid=>if_neg hid
 have hlook:∀id,ac (cC d (Vs.put σ.objs d o)) id=if id=d then some (o.erase d)else (ac σ.objs id).map (Ob.erase d):=by
  intro id;rw[bN,gV];split<;>rfl
 have hbk:∀id x b,ac σ.objs id=some x->β id=some b->b<w.heap.size:=fun id x b hx hb=>bA.live hb (h.objs id x hx)
 have hbx:∀(ob:List (Nat×Ob)) id cells,(ac ob id).map (Ob.erase d)=some (.box cells)->∃cells',ac ob id=some (.box cells'):=by
  intro ob id cells hc;cases hl:ac ob id with
  |none=>rw[hl]at hc;simp at hc
  |some y=>
   rw[hl]at hc;cases y with
   |box c=>exact⟨c,rfl⟩
   |arr=>simp[Ob.erase]at hc
   |iter=>simp[Ob.erase]at hc
 have har:∀(ob:List (Nat×Ob)) id cv s rows,(ac ob id).map (Ob.erase d)=some (.arr cv s rows)->ac ob id=some (.arr cv s rows):=by
  intro ob id cv s rows hc;cases hl:ac ob id with
  |none=>rw[hl]at hc;simp at hc
  |some y=>
   rw[hl]at hc;cases y with
   |box c=>simp[Ob.erase]at hc
   |arr=>simpa[Ob.erase]using hc
   |iter=>simp[Ob.erase]at hc
 have hir:∀(ob:List (Nat×Ob)) id s p,(ac ob id).map (Ob.erase d)=some (.iter s p)->ac ob id=some (.iter s p):=by
  intro ob id s p hc;cases hl:ac ob id with
  |none=>rw[hl]at hc;simp at hc
  |some y=>
   rw[hl]at hc;cases y with
   |box c=>simp[Ob.erase]at hc
   |arr=>simp[Ob.erase]at hc
   |iter=>simpa[Ob.erase]using hc
 have s1:∀x v,ar w' S μ σ.objs x v->ar w' S μ (cC d σ.objs) x v:=ar.same
  (fun id cells hc=>by rw[bN]at hc;obtain⟨c,h1⟩:=hbx _ _ _ hc;exact⟨c,h1,rfl⟩)
  (fun id cv s rows hc=>by rw[bN]at hc;exact⟨cv,rows,har _ _ _ _ _ hc,Nat.le_refl _,fun _=>⟨rfl,rfl⟩⟩)
  (fun id s p hc=>by rw[bN]at hc;exact⟨s,p,hir _ _ _ _ hc,rfl⟩)
 have so:∀ {bk m x},bA w' S μ σ.objs bk m x->bA w' S μ (cC d σ.objs) bk m x:=bA.same
  (fun id cells hc=>by rw[bN]at hc;obtain⟨c,h1⟩:=hbx _ _ _ hc;exact⟨c,h1,rfl⟩)
  (fun id cv s rows hc=>by rw[bN]at hc;exact⟨cv,rows,har _ _ _ _ _ hc,Nat.le_refl _,fun _=>⟨rfl,rfl⟩⟩)
  (fun id s p hc=>by rw[bN]at hc;exact⟨s,p,hir _ _ _ _ hc,rfl⟩)
 have hoth:∀id,id≠d->ac (cC d (Vs.put σ.objs d o)) id=ac (cC d σ.objs) id:=by
  intro id hid;rw[hlook,if_neg hid,bN]
 refine {defers:=h.defers,size:=h.size,env:=?_,objs:=?_,inj:=?_,own:=?_,unst:=?_,stab:=?_,ext:=h.ext,back:=h.back,kept:=h.kept.trans hkept,stay:=fun b o hb=>(hkeeps.1 b o (h.ext b o hb)).trans (h.stay b o hb),hist:=?_,far:=h.far,glob:=fun p hp=>gG.mono hkeeps (fun _ _ x=>x) (h.glob p hp) }
 rotate_right 1
 ·intro p hp;exact ar.other hμ hoth _ _ (h.far p hp d hdn) (s1 _ _ (ar.mono hkeeps (fun _ _ x=>x) _ _ (h.hist p hp)))
 ·intro k;show ar _ _ _ _ (aC (dT d σ.env) k) _;rw[oS];exact ar.other hμ hoth _ _ (SV.noRef_erase d _) (s1 _ _ (ar.erase d (ar.mono hkeeps (fun _ _ x=>x) _ _ (h.env k))))
 ·intro id x hx;rw[hlook]at hx;by_cases hid:id=d
  ·subst hid;rw[if_pos rfl]at hx;obtain rfl:=O_ hx;simp only[if_pos];exact bA.other hμ hoth (Ob.noRef_erase _ _) (bA.erase _ (so hob))
  ·rw[if_neg hid]at hx;cases hl:ac σ.objs id with
   |none=>rw[hl]at hx;simp at hx
   |some y=>
    rw[hl]at hx;obtain rfl:=O_ hx;simp only[if_neg hid];have h0:=h.objs id y hl;exact bA.other hμ hoth (Ob.noRef_erase _ _) (bA.erase _ (so (bA.move hkeeps (fun _ _ x=>x) (fun b hb=>hheap b (hbk id y b hl hb)) h0)))
 ·intro id id' x x' b hx hx' hb hb';rw[hlook]at hx hx';by_cases hid:id=d<;>by_cases hid':id'=d
  ·rw[hid,hid']
  ·exfalso;simp only[if_pos hid,if_neg hid']at hb hb' hx';cases hl:ac σ.objs id' with
   |none=>rw[hl]at hx';simp at hx'
   |some y=>exact(hblk b hb).2.2 id' y hl hb'
  ·exfalso;simp only[if_neg hid,if_pos hid']at hb hb' hx;cases hl:ac σ.objs id with
   |none=>rw[hl]at hx;simp at hx
   |some y=>exact(hblk b hb').2.2 id y hl hb
  ·simp only[if_neg hid,if_neg hid']at hb hb' hx hx';cases hl:ac σ.objs id with
   |none=>rw[hl]at hx;simp at hx
   |some y=>
    cases hl':ac σ.objs id' with
    |none=>rw[hl']at hx';simp at hx'
    |some y'=>exact h.inj id id' y y' b hl hl' hb hb'
 ·intro id x b hx hb;rw[hlook]at hx;by_cases hid:id=d
  ·simp only[if_pos hid]at hb;exact .inl (hblk b hb).1
  ·simp only[if_neg hid]at hb hx;cases hl:ac σ.objs id with
   |none=>rw[hl]at hx;simp at hx
   |some y=>exact h.own id y b hl hb
 ·intro id x b off hx hb hS;rw[hlook]at hx;by_cases hid:id=d
  ·exfalso;simp only[if_pos hid]at hb;exact(hblk b hb).2.1 off hS
  ·simp only[if_neg hid]at hb hx;cases hl:ac σ.objs id with
   |none=>rw[hl]at hx;simp at hx
   |some y=>
    rw[hl]at hx;obtain rfl:=O_ hx;obtain⟨h1,h2⟩:=h.unst id y b off hl hb hS;refine⟨h1,fun ver s rows hr=>?_⟩;cases y with
    |box c=>simp[Ob.erase]at hr
    |arr v s' r=>exact h2 ver s rows (by simpa[Ob.erase]using hr)
    |iter=>simp[Ob.erase]at hr
 ·intro b off hS;exact Nat.lt_of_lt_of_le (h.stab b off hS) hsize

theorem SimG.create(h:SimG w0 S0 M σ a w S μ β)(d:Nat)(hdn:d<σ.n)(o:Ob)(blk:Option Nat)(mu:Value){w':World}
  (hw:Kept (fun _=>False) w w') (hblk:∀b,blk=some b->b=w.heap.size)
  (hob:bA w' S μ σ.objs blk mu o) :
  SimG w0 S0 M {σ with env:=dT d σ.env,objs:=cC d (Vs.put σ.objs d o) } a w' S (fun id=>if id=d then mu else μ id) (fun id=>if id=d then blk else β id):=
 h.create' d hdn o blk mu hw (fun b hb=>by
  have hbb:=hblk b hb;subst hbb
  exact⟨h.kept.size,fun off hS=>Nat.lt_irrefl _ (h.stab _ off hS),fun id o hl hb'=>Nat.lt_irrefl _ (bA.live hb' (h.objs id o hl))⟩) hob

theorem SimG.turn(h:SimG w0 S0 M σ a w S μ β){id:Nat}{o o':Ob}(hl:ac σ.objs id=some o)(blk:Option Nat)(mu:Value){w':World}
  (hkeeps:bv S w w') (hkept:Kept M.blocks w0 w') (hsize:w.heap.size<=w'.heap.size)
  (hblk:∀id' x b,id'≠id->ac σ.objs id'=some x->β id'=some b->w'.heap[b]?=w.heap[b]?)
  (hkind:(∃c c',o=.box c/\o'=.box c'/\mu=μ id)\/
    (∃cv s rows cv' rows',o=.arr cv s rows/\o'=.arr cv' s rows'/\cv<=cv'/\(cv=cv'->rows.length=rows'.length/\mu=μ id))\/
    (∃s p s' p',o=.iter s p/\o'=.iter s' p'/\mu=μ id))
  (hob:bA w' S μ σ.objs blk mu o')
  (hb:∀b,blk=some b->(β id=some b\/w.heap.size<=b))
  (hun:∀b off,blk=some b->S b off->id∈σ.ro/\∀ver s rows,o'=.arr ver s rows->off<rows.length*s) :
  SimG w0 S0 M {σ with objs:=Vs.put σ.objs id o' } a w' S (fun i=>if i=id then mu else μ i) (fun i=>if i=id then blk else β i):=by
 have hlook:∀i,ac (Vs.put σ.objs id o') i=if i=id then some o' else ac σ.objs i:=fun i=>gV _ _ _ _
 have hbk:∀i x b,ac σ.objs i=some x->β i=some b->b<w.heap.size:=fun i x b hx hb=>bA.live hb (h.objs i x hx)
 have hbx:∀i cells,ac (Vs.put σ.objs id o') i=some (.box cells)->∃cells',ac σ.objs i=some (.box cells')/\(fun i=>if i=id then mu else μ i) i=μ i:=by
  intro i cells hc;rw[hlook]at hc;by_cases hi:i=id
  ·subst hi;rw[if_pos rfl]at hc;obtain rfl:=O_ hc;rcases hkind with⟨c,c',rfl,_,hm⟩|⟨_,_,_,_,_,_,h2,_⟩|⟨_,_,_,_,_,h2,_⟩
   ·exact⟨c,hl,by simp[hm]⟩
   ·simp at h2
   ·simp at h2
  ·rw[if_neg hi]at hc;exact⟨cells,hc,by simp[hi]⟩
 have har:∀i cv s rows,ac (Vs.put σ.objs id o') i=some (.arr cv s rows)->∃cv' rows',ac σ.objs i=some (.arr cv' s rows')/\cv'<=cv/\(cv'=cv->rows'.length=rows.length/\(fun i=>if i=id then mu else μ i) i=μ i):=by
  intro i cv s rows hc;rw[hlook]at hc;by_cases hi:i=id
  ·subst hi;rw[if_pos rfl]at hc;obtain rfl:=O_ hc;rcases hkind with⟨c,c',_,h2,_⟩|⟨cv0,s0,rows0,cv1,rows1,rfl,h2,h3,h4⟩|⟨_,_,_,_,_,h2,_⟩
   ·simp at h2
   ·simp only[Ob.arr.injEq]at h2;obtain⟨rfl,rfl,rfl⟩:=h2;exact⟨cv0,rows0,hl,h3,fun e=>by obtain⟨h5,h6⟩:=h4 e;exact⟨h5,by simp[h6]⟩⟩
   ·simp at h2
  ·rw[if_neg hi]at hc;exact⟨cv,rows,hc,Nat.le_refl _,fun _=>⟨rfl,by simp[hi]⟩⟩
 have hir:∀i s p,ac (Vs.put σ.objs id o') i=some (.iter s p)->∃s' p',ac σ.objs i=some (.iter s' p')/\(fun i=>if i=id then mu else μ i) i=μ i:=by
  intro i s p hc;rw[hlook]at hc;by_cases hi:i=id
  ·subst hi;rw[if_pos rfl]at hc;obtain rfl:=O_ hc;rcases hkind with⟨c,c',_,h2,_⟩|⟨_,_,_,_,_,_,h2,_⟩|⟨s0,p0,s1,p1,rfl,h2,hm⟩
   ·simp at h2
   ·simp at h2
   ·exact⟨s0,p0,hl,by simp[hm]⟩
  ·rw[if_neg hi]at hc;exact⟨s,p,hc,by simp[hi]⟩
 refine {defers:=h.defers,size:=h.size,env:=?_,objs:=?_,inj:=?_,own:=?_,unst:=?_,stab:=?_,ext:=h.ext,back:=h.back,kept:=hkept,stay:=fun b o hb=>(hkeeps.1 b o (h.ext b o hb)).trans (h.stay b o hb),hist:=fun p hp=>ar.same hbx har hir _ _ (ar.mono hkeeps (fun _ _ x=>x) _ _ (h.hist p hp)),far:=h.far,glob:=fun p hp=>gG.mono hkeeps (fun _ _ x=>x) (h.glob p hp) }
 ·intro k;exact ar.same hbx har hir _ _ (ar.mono hkeeps (fun _ _ x=>x) _ _ (h.env k))
 ·intro i x hx;rw[hlook]at hx;by_cases hi:i=id
  ·subst hi;rw[if_pos rfl]at hx;obtain rfl:=O_ hx;simp only[if_pos];exact bA.same hbx har hir hob
  ·rw[if_neg hi]at hx;simp only[if_neg hi];exact bA.same hbx har hir (bA.move hkeeps (fun _ _ x=>x) (fun b hb=>hblk i x b hi hx hb) (h.objs i x hx))
 ·intro i i' x x' b hx hx' hbi hbi';rw[hlook]at hx hx';by_cases hi:i=id<;>by_cases mM:i'=id
  ·rw[hi,mM]
  ·simp only[if_pos hi,if_neg mM]at hbi hbi' hx';rcases hb b hbi with h1|h1
   ·rw[hi];exact h.inj id i' o x' b hl hx' h1 hbi'
   ·exfalso;have:=hbk i' x' b hx' hbi';omega
  ·simp only[if_neg hi,if_pos mM]at hbi hbi' hx;rcases hb b hbi' with h1|h1
   ·rw[mM];exact h.inj i id x o b hx hl hbi h1
   ·exfalso;have:=hbk i x b hx hbi;omega
  ·simp only[if_neg hi,if_neg mM]at hbi hbi' hx hx';exact h.inj i i' x x' b hx hx' hbi hbi'
 ·intro i x b hx hbi;rw[hlook]at hx;by_cases hi:i=id
  ·simp only[if_pos hi]at hbi;rcases hb b hbi with h1|h1
   ·exact h.own id o b hl h1
   ·left;have:=h.kept.size;omega
  ·simp only[if_neg hi]at hbi hx;exact h.own i x b hx hbi
 ·intro i x b off hx hbi hS;rw[hlook]at hx;by_cases hi:i=id
  ·subst hi;simp only[if_pos]at hbi;rw[if_pos rfl]at hx;obtain rfl:=O_ hx;exact hun b off hbi hS
  ·simp only[if_neg hi]at hbi hx;exact h.unst i x b off hx hbi hS
 ·intro b off hS;exact Nat.lt_of_lt_of_le (h.stab b off hS) hsize

def BM(β:Nat->Option Nat)(objs:List (Nat×Ob))(fz:List Nat)(b off:Nat):Prop:=
 ∃id o,id∈fz/\ac objs id=some o/\β id=some b/\(∀ver s rows,o=.arr ver s rows->off<rows.length*s)

theorem SimG.freeze(h:SimG w0 S0 M σ a w S μ β)(fz:List Nat) :
  SimG w0 S0 M {σ with ro:=fz++σ.ro } a w (fun b off=>S b off\/BM β σ.objs fz b off) μ β where
 stay:=h.stay
 defers:=h.defers
 size:=h.size
 env:=fun k=>ar.mono (bv.refl _ _) (fun _ _ x=>.inl x) _ _ (h.env k)
 objs:=fun id o ho=>bA.move (bv.refl _ _) (fun _ _ x=>.inl x) (fun _ _=>rfl) (h.objs id o ho)
 inj:=h.inj
 own:=h.own
 unst:=fun id o b off ho hb hS=>by
  rcases hS with hS|⟨id',o',hf,ho',hb',hr⟩
  ·obtain⟨h1,h2⟩:=h.unst id o b off ho hb hS;exact⟨List.mem_append_right _ h1,h2⟩
  ·have:=h.inj id id' o o' b ho ho' hb hb';subst this;obtain rfl:o=o':=by rw[ho]at ho';exact O_ ho'
   exact⟨List.mem_append_left _ hf,hr⟩
 stab:=fun b off hS=>by
  rcases hS with hS|⟨id',o',hf,ho',hb',hr⟩
  ·exact h.stab b off hS
  ·exact bA.live hb' (h.objs id' o' ho')
 ext:=fun b o hb=>.inl (h.ext b o hb)
 back:=fun b off hS=>by
  rcases hS with hS|⟨id',o',hf,ho',hb',hr⟩
  ·exact h.back b off hS
  ·exact .inr (h.own id' o' b ho' hb')
 kept:=h.kept
 hist:=fun p hp=>ar.mono (bv.refl _ _) (fun _ _ x=>.inl x) _ _ (h.hist p hp)
 far:=h.far
 glob:=fun p hp=>gG.mono (bv.refl _ _) (fun _ _ x=>.inl x) (h.glob p hp)

theorem SimG.drop(h:SimG w0 S0 M σ a w S μ β){σ':St}(hn:σ'.n=σ.n)(hgl:σ'.gl=σ.gl)(hro:∀i o,ac σ'.objs i=some o->i∈σ.ro->i∈σ'.ro)
  (he:∀k,aC σ'.env k=.undef\/aC σ'.env k=aC σ.env k)
  (ho:∀id o,ac σ'.objs id=some o->ac σ.objs id=some o) :
  SimG w0 S0 M σ' a w S μ β where
 stay:=h.stay
 defers:=h.defers
 size:=by rw[hn];exact h.size
 env:=fun k=>by
  rcases he k with hk|hk
  ·rw[hk];trivial
  ·rw[hk];exact ar.same (fun id cells hc=>⟨cells,ho _ _ hc,rfl⟩) (fun id cv s rows hc=>⟨cv,rows,ho _ _ hc,Nat.le_refl _,fun _=>⟨rfl,rfl⟩⟩) (fun id s p hc=>⟨s,p,ho _ _ hc,rfl⟩) _ _ (h.env k)
 objs:=fun id o hl=>bA.same (fun id cells hc=>⟨cells,ho _ _ hc,rfl⟩) (fun id cv s rows hc=>⟨cv,rows,ho _ _ hc,Nat.le_refl _,fun _=>⟨rfl,rfl⟩⟩) (fun id s p hc=>⟨s,p,ho _ _ hc,rfl⟩) (h.objs id o (ho _ _ hl))
 inj:=fun id id' o o' b h1 h2=>h.inj id id' o o' b (ho _ _ h1) (ho _ _ h2)
 own:=fun id o b h1=>h.own id o b (ho _ _ h1)
 unst:=fun id o b off h1 h2 h3=>let ⟨h4,h5⟩:=h.unst id o b off (ho _ _ h1) h2 h3;⟨hro _ _ h1 h4,h5⟩
 stab:=h.stab
 ext:=h.ext
 back:=h.back
 kept:=h.kept
 hist:=fun p hp=>ar.same (fun id cells hc=>⟨cells,ho _ _ hc,rfl⟩) (fun id cv s rows hc=>⟨cv,rows,ho _ _ hc,Nat.le_refl _,fun _=>⟨rfl,rfl⟩⟩) (fun id s p hc=>⟨s,p,ho _ _ hc,rfl⟩) _ _ (h.hist p hp)
 far:=fun p hp d hd=>h.far p hp d (by rw[<-hn];exact hd)
 glob:=fun p hp=>h.glob p (by rw[<-hgl];exact hp)
end sim
end Go.Vs
set_option linter.unusedVariables false
set_option linter.unusedSimpArgs false
namespace Go.Vs

inductive Opd where
 |tmp (t:Nat)
 |const (v:SV)
 |func (f:Nat)
 |glob (g:Nat)
 deriving Inhabited,Repr

inductive LK where
 |b|i|s
 deriving Inhabited,Repr,DecidableEq

inductive VOp where
 |move (x:Opd)
 |pick (c a b:Opd)
 |alloc (zero:List SV)
 |box (x:Opd)
 |build (zero:List SV) (parts:List (Nat×Nat×Opd))
 |buildSlice (s n:Nat) (zero:List SV) (parts:List (Nat×Nat×Opd))
 |load (agg:Option Nat) (x:Opd)
 |store (n:Nat) (a x:Opd)
 |nilCheck (x:Opd)
 |bin (op:BinOp) (x y:Opd)
 |eqB (neg:Bool) (x y:Opd)
 |eqN (neg:Bool) (x:Opd)
 |eqP (neg:Bool) (x:Opd)
 |eqS (neg:Bool) (x:Opd)
 |eqA (neg:Bool) (ks:List LK) (x y:Opd)
 |un (op:UnOp) (x:Opd)
 |convI (k:IntKind) (x:Opd)
 |convS (x:Opd)
 |mkIface (t:Nat) (x:Opd)
 |mkFunc (f:Nat) (caps:List Opd)
 |mkBound (f:Nat) (first:List Opd)
 |mkSlice (s bytes:Nat) (zero:List SV) (len cap:Opd)
 |subS (x:Opd) (lo hi:Option Opd)
 |subV (s:Nat) (x:Opd) (lo hi mx:Option Opd)
 |subA (s n:Nat) (x:Opd) (lo hi:Option Opd)
 |fieldAddr (off:Nat) (x:Opd)
 |field (off:Nat) (agg:Option Nat) (x:Opd)
 |indexAddr (s:Nat) (x i:Opd)
 |indexArr (len s:Nat) (x i:Opd)
 |indexS (x i:Opd)
 |indexA (len s:Nat) (agg:Option Nat) (x i:Opd)
 |extract (x:Opd) (i:Nat)
 |lenS (x:Opd)
 |lenV (x:Opd)
 |lenC (n:Nat) (x:Opd)
 |maxI (x y:Opd)
 |minI (x y:Opd)
 |append (e s bytes:Nat) (x y:Opd)
 |clear (zero:List SV) (x:Opd)
 |copy (s:Nat) (x y:Opd)
 |call (f:Nat) (args:List Opd)
 |callV (f:Opd) (args:List Opd)
 |callM (f:Nat) (args:List Opd)
 |callMV (f:Opd) (args:List Opd)
 |rangeS (x:Opd)
 |nextS (x:Opd)
 |convB (x:Opd)
 |appendS (e bytes:Nat) (x y:Opd)
 |eqL (neg:Bool) (x y:Opd)
 |convR (x:Opd)
 |capV (x:Opd)
 |allocB (t:Nat)
 |bad
 deriving Inhabited,Repr

structure VOper where
 dst:Option Nat
 op:VOp
 guard:Option (Nat×Bool)
 deriving Inhabited,Repr

inductive RMode where
 |text
 |calm
 |drawn (fJ makes:List (Nat×Nat))
 |drawnM (fJ makes:List (Nat×Nat))
 deriving Inhabited,Repr

inductive VCode where
 |skip
 |region (ops:List VOper) (mode:RMode) (dead:List Nat)
 |seq (a b:VCode)
 |cond (c:Opd) (thn els:VCode)
 |block (id:Nat) (body:VCode)
 |loop (body:VCode)
 |exit (id:Nat)
 |scope (body:VCode)
 |label (l:Nat)
 |goto (l:Nat)
 |ret
 |refuse
 |cut (body:VCode)
 deriving Inhabited,Repr

def VOp.strip:VOp->VOp
 |.callM f args=>.call f args
 |.callMV f args=>.callV f args
 |op=>op
def VOper.strip(o:VOper):VOper:={o with op:=o.op.strip }
def aI:List VOper->List VOper
 |[]=>[]
 |o::r=>o.strip::aI r
def RMode.strip:RMode->RMode
 |.drawnM a b=>.drawn a b
 |m=>m
def VCode.strip:VCode->VCode
 |.region ops mode _=>.region (aI ops) mode.strip []
 |.seq a b=>.seq a.strip b.strip
 |.cond c a b=>.cond c a.strip b.strip
 |.block id a=>.block id a.strip
 |.loop a=>.loop a.strip
 |.scope a=>.scope a.strip
 |.cut a=>a.strip
 |c=>c

/- HOW THE MODEL'S CODE BECOMES IT -/
def sn:Value->Option SV
 |.bool b=>some (.val (.bool b))
 |.int k n=>some (.val (.int k n))
 |.string s=>some (.val (.str s.data.toList))
 |.pointer none=>some (.val .nilp)
 |.slice none 0 0=>some .nils
 |.nilFunc=>some (.val .nilf)
 |.nilIface=>some (.val .nili)
 |_=>none
def nP:List Value->Option (List SV)
 |[]=>some []
 |v::r=>match sn v,nP r with
  |some x,some xs=>some (x::xs)
  |_,_=>none
def xg(cells:List SV):SV:=match dB cells with
 |some vs=>.val (.agg vs)
 |none=>.agg cells
def GF:Value->Option SV
 |.agg cs=>match nP cs.toList with
  |some xs=>some (.agg xs)
  |none=>none
 |v=>sn v

def ai:Operand->Option Opd
 |.tmp t=>some (.tmp t)
 |.const v=>(GF v).map .const
 |.global g=>some (.glob g)
 |.func f=>some (.func f)
def cP:List Operand->Option (List Opd)
 |[]=>some []
 |x::r=>match ai x,cP r with
  |some y,some ys=>some (y::ys)
  |_,_=>none
def bG:Option Operand->Option (Option Opd)
 |none=>some none
 |some x=>(ai x).map some

def sq:TypeDesc->Bool
 |.struct _=>true
 |.array _ _=>true
 |_=>false
def oU(P:Program)(t:TypeId):Option (Option Nat):=
 match P.underlying t,P.info? t with
 |some (.struct _),some i=>some (some i.size)
 |some (.array _ _),some i=>some (some i.size)
 |some _,some i=>if i.size=1 then some none else none
 |_,_=>none
def dd(P:Program)(t:TypeId):Option Nat:=(P.info? t).map (·.size)
def rL(P:Program)(t:TypeId):Option (List SV):=match (P.info? t).bind (·.zero)with
 |some z=>nP z.cells.toList
 |none=>none

def kv(leaf:TypeId->Option (List LK))(off:Nat):List Field->Option (List LK)
 |[]=>some []
 |f::r=>if f.name = "_" then none else if f.offset≠off then none else
  match leaf f.type with
  |some ks=>match kv leaf (off+ks.length) r with
   |some rs=>some (ks++rs)
   |none=>none
  |none=>none
def pn(P:Program):Nat->TypeId->Option (List LK)
 |0,_=>none
 |d+1,t=>match P.underlying t with
  |some .bool=>if dd P t=some 1 then some [.b]else none
  |some (.int _)=>if dd P t=some 1 then some [.i]else none
  |some .string=>if dd P t=some 1 then some [.s]else none
  |some (.struct fs)=>if P.stoodInHeld t then none else
   match kv (pn P d) 0 fs.toList with
   |some ks=>if dd P t=some ks.length then some ks else none
   |none=>none
  |_=>none

def UF:Operand->Bool
 |.const .nilIface=>true
 |_=>false
def UG:Operand->Bool
 |.const (.pointer none)=>true
 |_=>false
theorem RS{x:Operand}(h:UF x=true):x=.const .nilIface:=by
 unfold UF at h;split at h
 ·rfl
 ·simp at h
theorem RT{x:Operand}(h:UG x=true):x=.const (.pointer none):=by
 unfold UG at h;split at h
 ·rfl
 ·simp at h

def nilS:Operand->Bool
 |.const (.slice none 0 0)=>true
 |_=>false
theorem RU{x:Operand}(h:nilS x=true):x=.const (.slice none 0 0):=by
 unfold nilS at h;split at h
 ·rfl
 ·simp at h

def wB(P:Program)(neg:Bool)(op:BinOp)(t:TypeId)(y:Operand)(u v:Opd):Option VOp:=
 match P.underlying t with
 |some .bool=>some (.eqB neg u v)
 |some (.int _)=>some (.bin op u v)
 |some .string=>some (.bin op u v)
 |some (.interface _)=>if UF y then some (.eqN neg u)else none
 |some (.pointer e)=>if UG y then some (.eqP neg u)else if (P.info? e).isSome then some (.eqL neg u v)else none
 |some (.slice _)=>if nilS y then some (.eqS neg u)else none
 |some (.struct _)=>if P.eqGuardType P.depth t then none else (pn P 10 t).map (.eqA neg · u v)
 |_=>none
def xh(P:Program)(op:BinOp)(t:TypeId)(x y:Operand):Option VOp:=
 match ai x,ai y with
 |some u,some v=>
  match op with
  |.eql=>wB P false .eql t y u v
  |.neq=>wB P true .neq t y u v
  |_=>some (.bin op u v)
 |_,_=>none

def GG(fn:Fn)(first caps:Array Operand):Option VOp:=
 match fn with
 |.func f=>if first.size=0 then (cP caps.toList).map (.mkFunc f)else if caps.size=0 then (cP first.toList).map (.mkBound f)else none
 |_=>none

def eu(place:Nat->Option (Nat×Nat)):List (Nat×Operand)->Option (List (Nat×Nat×Opd))
 |[]=>some []
 |(i,x)::r=>match place i,ai x,eu place r with
  |some (o,s),some y,some ys=>some ((o,s,y)::ys)
  |_,_,_=>none

def Bp(P:Program)(fs:Array Field)(i:Nat):Option (Nat×Nat):=match fs[i]? with
 |some f=>(dd P f.type).map (f.offset,·)
 |none=>none

def kw(P:Program)(c:Call):Option VOp:=
 match c.callee with
 |.value (.func f)=>match P.funcs[f]? with
  |some fn=>if fn.name = "runtime.NumGoroutine" then none else (cP c.args.toList).map (.call f)
  |none=>none
 |.value f=>match ai f,cP c.args.toList with
  |some u,some vs=>some (.callV u vs)
  |_,_=>none
 |.builtin .len=>match c.argTypes[0]?,c.args.toList with
  |some t,[x]=>match P.underlying t,ai x with
   |some .string,some u=>some (.lenS u)
   |some (.slice _),some u=>some (.lenV u)
   |some (.array n _),some u=>some (.lenC n u)
   |_,_=>none
  |_,_=>none
 |.builtin .cap=>match c.argTypes[0]?,c.args.toList with
  |some t,[x]=>match P.underlying t,ai x with
   |some (.slice _),some u=>some (.capV u)
   |_,_=>none
  |_,_=>none
 |.builtin .max=>match c.args.toList with
  |[x,y]=>match ai x,ai y with
   |some u,some v=>some (.maxI u v)
   |_,_=>none
  |_=>none
 |.builtin .min=>match c.args.toList with
  |[x,y]=>match ai x,ai y with
   |some u,some v=>some (.minI u v)
   |_,_=>none
  |_=>none
 |.builtin .append=>match c.argTypes[0]?,c.argTypes[1]?,c.args.toList with
  |some t,some t',[x,y]=>match P.underlying t,P.underlying t',ai x,ai y with
   |some (.slice e),some (.slice _),some u,some v=>match P.info? e with
    |some i=>if 0<i.size/\0<i.bytes/\i.zero.any (fun z=>z.cells.size==i.size)then some (.append e i.size i.bytes u v)else none
    |none=>none
   |some (.slice e),some .string,some u,some v=>match P.info? e with
    |some i=>if i.size=1/\0<i.bytes/\i.zero.any (fun z=>z.cells.size==i.size)then some (.appendS e i.bytes u v)else none
    |none=>none
   |_,_,_,_=>none
  |_,_,_=>none
 |.builtin .clear=>match c.argTypes[0]?,c.args.toList with
  |some t,[x]=>match P.underlying t,ai x with
   |some (.slice e),some u=>(rL P e).map (.clear · u)
   |_,_=>none
  |_,_=>none
 |.builtin .copy=>match c.argTypes[0]?,c.argTypes[1]?,c.args.toList with
  |some t,some t',[x,y]=>match P.underlying t,P.underlying t',ai x,ai y with
   |some (.slice e),some (.slice _),some u,some v=>(dd P e).map (.copy · u v)
   |_,_,_,_=>none
  |_,_,_=>none
 |_=>none

def WZ(P:Program)(t:TypeId):Bool:=match P.typeName? 3 t,(P.info? t).bind (·.zero)with
 |some n,some z=>n == "strings.Builder" && (match z.cells.toList with|[.pointer none,.slice none 0 0]=>true|_=>false)
 |_,_=>false
def aJ(P:Program):Op->Option VOp
 |.move x=>(ai x).map .move
 |.assign x=>(ai x).map .move
 |.pick c a b=>match ai c,ai a,ai b with
  |some c,some a,some b=>some (.pick c a b)
  |_,_,_=>none
 |.alloc t=>if WZ P t then some (.allocB t)else (rL P t).map .alloc
 |.box _ x=>(ai x).map .box
 |.build t parts=>match P.underlying t,rL P t with
  |some (.struct fs),some z=>if fs.toList.all (fun f=>(dd P f.type).isSome)then (eu (Bp P fs) parts.toList).map (.build z)else none
  |some (.array _ e),some z=>match dd P e with
   |some s=>(eu (fun i=>some (i*s,s)) parts.toList).map (.build z)
   |none=>none
  |_,_=>none
 |.buildSlice t n parts=>match P.underlying t with
  |some (.slice e)=>match dd P e,rL P e with
   |some s,some z=>if 0<s/\z.length=s/\n*s<=16777216 then (eu (fun i=>some (i*s,s)) parts.toList).map (.buildSlice s n z)else none
   |_,_=>none
  |_=>none
 |.load t x=>match oU P t,ai x with
  |some g,some u=>some (.load g u)
  |_,_=>none
 |.store t x y=>match dd P t,ai x,ai y with
  |some n,some u,some v=>some (.store n u v)
  |_,_,_=>none
 |.nilCheck x=>(ai x).map .nilCheck
 |.binOp op t x y _=>xh P op t x y
 |.unOp op _ x=>(ai x).map (.un op)
 |.convert s d x=>match P.underlying s,P.underlying d,ai x with
  |some (.int _),some (.int k),some u=>some (.convI k u)
  |some .string,some .string,some u=>some (.convS u)
  |some (.int _),some .string,some u=>some (.convR u)
  |some (.slice e),some .string,some u=>match P.underlying e with
   |some (.int .u8)=>some (.convB u)
   |_=>none
  |_,_,_=>none
 |.range t x=>match P.underlying t,ai x with
  |some .string,some u=>some (.rangeS u)
  |_,_=>none
 |.next x true=>(ai x).map .nextS
 |.makeInterface t x=>match P.underlying t with
  |some (.interface _)=>none
  |some _=>(ai x).map (.mkIface t)
  |none=>none
 |.makeFunc fn first caps=>GG fn first caps
 |.makeSlice t l c=>match P.underlying t with
  |some (.slice e)=>match P.info? e,rL P e,ai l,ai c with
   |some i,some z,some u,some v=>if 0<i.size/\z.length=i.size then some (.mkSlice i.size i.bytes z u v)else none
   |_,_,_,_=>none
  |_=>none
 |.slice t x lo hi mx=>match P.underlying t,ai x,bG lo,bG hi,bG mx with
  |some .string,some u,some l,some h,some none=>some (.subS u l h)
  |some (.slice e),some u,some l,some h,some m=>(dd P e).map (.subV · u l h m)
  |some (.array n e),some u,some l,some h,some none=>(dd P e).map (.subA · n u l h)
  |_,_,_,_,_=>none
 |.fieldAddr t x f=>match P.underlying t with
  |some (.struct fs)=>match fs[f]?,ai x with
   |some g,some u=>match dd P g.type with
    |some n=>if n=0 then none else some (.fieldAddr g.offset u)
    |none=>none
   |_,_=>none
  |_=>none
 |.field t x f=>match P.underlying t with
  |some (.struct fs)=>match fs[f]?,ai x with
   |some g,some u=>(oU P g.type).map (.field g.offset · u)
   |_,_=>none
  |_=>none
 |.indexAddr t x i=>match P.underlying t with
  |some (.slice e)=>match dd P e,ai x,ai i with
   |some s,some u,some v=>some (.indexAddr s u v)
   |_,_,_=>none
  |some (.array n e)=>match dd P e,ai x,ai i with
   |some s,some u,some v=>some (.indexArr n s u v)
   |_,_,_=>none
  |_=>none
 |.index t x i=>match P.underlying t with
  |some .string=>match ai x,ai i with
   |some u,some v=>some (.indexS u v)
   |_,_=>none
  |some (.array n e)=>match oU P e,dd P e,ai x,ai i with
   |some g,some s,some u,some v=>some (.indexA n s g u v)
   |_,_,_,_=>none
  |_=>none
 |.extract x i=>(ai x).map (.extract · i)
 |.call c=>kw P c
 |_=>none

def lr(P:Program)(op:Op):Option VOp:=some ((aJ P op).getD .bad)
theorem qG{P:Program}{op:Op}{vo:VOp}(h:lr P op=some vo):aJ P op=some vo\/vo=.bad:=by
 unfold lr at h;obtain rfl:=O_ h;cases h0:aJ P op with
 |some v=>exact .inl rfl
 |none=>exact .inr rfl
def gb(ops:Array Oper):Option (Nat×Bool)->Option (Option (Nat×Bool))
 |none=>some none
 |some (j,b)=>match (ops[j]?).bind (·.dst)with
  |some d=>some (some (d,b))
  |none=>none
def gW(P:Program)(ops:Array Oper)(o:Oper):Option VOper:=
 match lr P o.op,gb ops o.guard with
 |some v,some g=>some ⟨o.dst,v,g⟩
 |_,_=>none
def bO(P:Program)(ops:Array Oper):List Oper->Option (List VOper)
 |[]=>some []
 |o::r=>match gW P ops o,bO P ops r with
  |some v,some vs=>some (v::vs)
  |_,_=>none

def VOp.acts:VOp->Bool
 |.box _|.buildSlice _ _ _ _|.load _ _|.store _ _ _|.append _ _ _ _ _|.clear _ _|.copy _ _ _|.call _ _|.callV _ _|.lenV _|.subV _ _ _ _ _|.subA _ _ _ _ _|.indexAddr _ _ _
 |.build _ _|.nilCheck _|.eqP _ _|.eqS _ _|.indexArr _ _ _ _|.fieldAddr _ _=>true
 |.nextS _|.convB _|.appendS _ _ _ _|.eqL _ _ _=>true
 |_=>false
def VOp.writes:VOp->Bool
 |.store _ _ _|.append _ _ _ _ _|.clear _ _|.copy _ _ _|.nextS _|.appendS _ _ _ _=>true
 |_=>false
def VOp.makes:VOp->Bool
 |.alloc _|.allocB _|.box _|.buildSlice _ _ _ _|.mkSlice _ _ _ _ _|.append _ _ _ _ _|.call _ _|.callV _ _|.rangeS _=>true
 |_=>false
def VOp.flagged(x y:VOp):Bool:=(x.writes&&y.acts)||(y.writes&&x.acts)||x.makes||y.makes

def iA(ops:Array Oper)(vs:Array VOper):Option (List (Nat×Nat)×List (Nat×Nat)):=
 let before:=Region.before ops
 if (List.range ops.size).all (fun j=>match ops[j]? with
     |some o=>o.after.toList.all fun e=>!Region.binds .any e||decide (e.on<j)
     |none=>false) &&
  (List.range ops.size).all (fun j=>(List.range j).all fun i=>(before.getD j 0).testBit i ||
    match ops[i]?,ops[j]? with
    |some oi,some oj=>oi.apart ops oj
    |_,_=>false)
 then some (
  (List.range ops.size).flatMap (fun j=>(List.range j).filterMap fun i=>if (before.getD j 0).testBit i then none else
    match vs[i]?,vs[j]? with
    |some vi,some vj=>if vi.op.flagged vj.op then some (i,j)else none
    |_,_=>none),
  (List.range ops.size).flatMap (fun k=>match vs[k]? with
    |some vk=>if vk.op.makes then (List.range ops.size).filterMap (fun j=>if j=k then none else if (before.getD j 0).testBit k then none else some (j,k))else []
    |none=>[]))
 else none

def comp(P:Program):Code->Option VCode
 |.skip=>some .skip
 |.region _ ops draw=>match bO P ops ops.toList with
  |some vs=>if draw then match iA ops vs.toArray with
    |some (ps,ms)=>if ps.isEmpty&&vs.all (fun v=>!v.op.makes)then some (.region vs .calm [])else some (.region vs (.drawn ps ms) [])
    |none=>none
   else some (.region vs .text [])
  |none=>none
 |.seq a b=>match comp P a,comp P b with
  |some x,some y=>some (.seq x y)
  |_,_=>none
 |.cond c a b=>match ai c,comp P a,comp P b with
  |some u,some x,some y=>some (.cond u x y)
  |_,_,_=>none
 |.block id a=>(comp P a).map (.block id)
 |.loop a=>(comp P a).map .loop
 |.exit id=>some (.exit id)
 |.scope a=>(comp P a).map .scope
 |.label l=>some (.label l)
 |.goto l=>some (.goto l)
 |.ret=>some .ret
 |.refuse _=>some .refuse
 |_=>none

/- THE EVALUATOR -/
def val(σ:St):Opd->SV
 |.tmp t=>aC σ.env t
 |.const v=>v
 |.func f=>.val (.fn f [])
 |.glob g=>match ac σ.gl g with
  |some cells=>.val (.ref cells)
  |none=>.undef

structure Upd where
 v:SV:=.undef
 side:Prop:=True
 new:Option Ob:=none
 wr:Option (Nat×Ob):=none
 fz:List Nat:=[]
 dec:Decidable side:=by infer_instance

def putD(env:List (Nat×SV)):Option Nat->SV->List (Nat×SV)
 |some d,v=>put env d v
 |none,_=>env
def BN(objs:List (Nat×Ob)):Option (Nat×Ob)->List (Nat×Ob)
 |some (id,o)=>put objs id o
 |none=>objs
def St.apply(σ:St)(dst:Option Nat)(u:Upd):St:=
 match u.new,dst with
 |some o,some d=>⟨put (dT d σ.env) d u.v,cC d (put σ.objs d o),u.fz++σ.ro,σ.n,σ.gl⟩
 |_,_=>⟨putD σ.env dst u.v,BN σ.objs u.wr,u.fz++σ.ro,σ.n,σ.gl⟩

def iw(objs:List (Nat×Ob)):SV->Bool
 |.val v=>v.one
 |.nils=>true
 |.full _=>true
 |.own id ver=>match ac objs id with
  |some (.arr cv _ _)=>ver==cv
  |_=>false
 |.ownT id ver _=>match ac objs id with
  |some (.arr cv _ _)=>ver==cv
  |_=>false
 |.view id ver _ _=>match ac objs id with
  |some (.arr cv _ _)=>ver==cv
  |_=>false
 |.loc id _=>match ac objs id with
  |some (.box _)=>true
  |_=>false
 |.selfN id t nn=>match ac objs id with
  |some (.box _)=>true
  |_=>false
 |.clo _ _=>true
 |.ifc _ _=>true
 |_=>false
def LQ(objs:List (Nat×Ob)):List SV->Bool
 |[]=>true
 |x::r=>iw objs x&&LQ objs r
def cellsOf(objs:List (Nat×Ob)):SV->Option (List SV)
 |.val (.agg cs)=>some (cs.map .val)
 |.agg cells=>some cells
 |v=>if iw objs v then some [v]else none

def iH(objs:List (Nat×Ob)):SV->Option (IV×List Nat)
 |.val v=>some (v,[])
 |.nils=>some (.slice [],[])
 |.full rows=>some (.slice rows,[])
 |.own id ver=>match ac objs id with
  |some (.arr cv _ rows)=>if ver==cv then some (.slice rows,[id])else none
  |_=>none
 |.view id ver lo hi=>match ac objs id with
  |some (.arr cv _ rows)=>if ver==cv then some (.slice ((rows.take hi).drop lo),[id])else none
  |_=>none
 |_=>none
def mA(objs:List (Nat×Ob)):List SV->Option (List IV×List Nat)
 |[]=>some ([],[])
 |x::r=>match iH objs x,mA objs r with
  |some (v,f),some (vs,fs)=>some (v::vs,f++fs)
  |_,_=>none
def uT(objs:List (Nat×Ob)):SV->Option (IV×List Nat)
 |.loc id off=>match ac objs id with
  |some (.box cells)=>match mA objs cells with
   |some (vs,fs)=>some (.ref (vs.drop off),id::fs)
   |none=>none
  |_=>none
 |x=>iH objs x
def jO(objs:List (Nat×Ob)):List SV->Option (List IV×List Nat)
 |[]=>some ([],[])
 |x::r=>match uT objs x,jO objs r with
  |some (v,f),some (vs,fs)=>some (v::vs,f++fs)
  |_,_=>none
def xi(objs:List (Nat×Ob)):SV->Option (IV×List Nat)
 |.ifc t x=>match uT objs x with
  |some (v,f)=>some (.iface t v,f)
  |none=>none
 |.agg cells=>match jO objs cells with
  |some (vs,fs)=>some (.agg vs,fs)
  |none=>none
 |.clo f caps=>match jO objs caps with
  |some (vs,fs)=>some (.fn f vs,fs)
  |none=>none
 |x=>uT objs x
def xj(objs:List (Nat×Ob)):List SV->Option (List IV×List Nat)
 |[]=>some ([],[])
 |x::r=>match xi objs x,xj objs r with
  |some (v,f),some (vs,fs)=>some (v::vs,f++fs)
  |_,_=>none

def IV.flat:IV->Bool
 |.int _ _|.bool _|.str _|.nilp|.nilf|.yld _|.nili|.nilS|.handle _ _ _=>true
 |.agg cs=>flats cs
 |.tuple vs=>flats vs
 |.iface _ v=>v.flat
 |_=>false
where flats:List IV->Bool
 |[]=>true
 |x::xs=>x.flat&&flats xs

def MQ(op:BinOp)(k:IntKind)(a b:Int):Option Upd:=
 match op with
 |.add=>some {v:=.val (.int k (k.wrap (a+b))) }
 |.sub=>some {v:=.val (.int k (k.wrap (a-b))) }
 |.mul=>some {v:=.val (.int k (k.wrap (a*b))) }
 |.quo=>some {v:=.val (.int k (k.wrap (a.tdiv b))),side:=b≠0 }
 |.rem=>some {v:=.val (.int k (a.tmod b)),side:=b≠0 }
 |.eql=>some {v:=.val (.bool (decide (a=b))) }
 |.neq=>some {v:=.val (.bool (!decide (a=b))) }
 |.lss=>some {v:=.val (.bool (decide (a<b))) }
 |.leq=>some {v:=.val (.bool (decide (a<=b))) }
 |.gtr=>some {v:=.val (.bool (decide (a>b))) }
 |.geq=>some {v:=.val (.bool (decide (a≥b))) }
 |.shl=>some {v:=.val (.int k (k.wrap (a*2 ^ (min b.toNat k.bits)))),side:=0<=b }
 |.shr=>some {v:=.val (.int k (a.fdiv (2 ^ (min b.toNat k.bits)))),side:=0<=b }
 |_=>none
def MR(op:BinOp)(a b:List UInt8):Option Upd:=
 match op with
 |.add=>some {v:=.val (.str (a++b)),side:=a.length+b.length<=9223372036854775807 }
 |.eql=>some {v:=.val (.bool (decide (a=b))) }
 |.neq=>some {v:=.val (.bool (!decide (a=b))) }
 |.lss=>some {v:=.val (.bool (Op.bytesLess a b)) }
 |.leq=>some {v:=.val (.bool (Op.bytesLess a b||decide (a=b))) }
 |.gtr=>some {v:=.val (.bool (!(Op.bytesLess a b||decide (a=b)))) }
 |.geq=>some {v:=.val (.bool (!Op.bytesLess a b)) }
 |_=>none
def W8:LK->IV->IV->Option Bool
 |.b,.bool a,.bool b=>some (decide (a=b))
 |.i,.int k a,.int k' b=>if k=k' then some (decide (a=b))else none
 |.s,.str a,.str b=>some (decide (a=b))
 |_,_,_=>none
def eqL:List LK->List IV->List IV->Option Bool
 |[],[],[]=>some true
 |k::ks,x::xs,y::ys=>match W8 k x y,eqL ks xs ys with
  |some a,some b=>some (a&&b)
  |_,_=>none
 |_,_,_=>none

def lu(objs:List (Nat×Ob))(σ:St)(cells:List SV):List (Nat×Nat×Opd)->Option (List SV)
 |[]=>some cells
 |(off,size,x)::r=>match cellsOf objs (val σ x)with
  |some cs=>if cs.length=size/\off+size<=cells.length then lu objs σ (cells.take off++cs++cells.drop (off+size)) r else none
  |none=>none
def nQ{α:Type}(s:Nat):Nat->List α->List (List α)
 |0,_=>[]
 |n+1,l=>l.take s::nQ s n (l.drop s)
def cH{α:Type}(l:List α):Nat->List α
 |0=>[]
 |n+1=>l++cH l n

def ix(objs:List (Nat×Ob)):SV->Option (List (List IV)×List Nat)
 |.nils=>some ([],[])
 |.full rows=>some (rows,[])
 |.val (.slice rows)=>some (rows,[])
 |.own id ver=>match ac objs id with
  |some (.arr cv _ rows)=>if ver==cv then some (rows,[id])else none
  |_=>none
 |.view id ver lo hi=>match ac objs id with
  |some (.arr cv _ rows)=>if ver==cv then some ((rows.take hi).drop lo,[id])else none
  |_=>none
 |_=>none

def Fs:SV->Option Int
 |.val (.int _ n)=>some n
 |_=>none
def f0(σ:St)(dflt:Nat):Option Opd->Option Int
 |none=>some dflt
 |some x=>Fs (val σ x)

def pq(σ:St)(g:Option Nat):SV->Option Upd
 |.val (.ref cells)=>match g with
  |some n=>some {v:=.val (.agg (cells.take n)),side:=n<=cells.length }
  |none=>match cells with
   |c::_=>some {v:=.val c }
   |[]=>none
 |.loc id off=>match ac σ.objs id with
  |some (.box cells)=>match g with
   |some n=>some {v:=xg ((cells.drop off).take n),side:=off+n<=cells.length }
   |none=>match cells[off]? with
    |some c=>some {v:=c }
    |none=>none
  |_=>none
 |.eloc id ver i off=>match ac σ.objs id with
  |some (.arr cv _ rows)=>if ver==cv then match rows[i]? with
   |some row=>match g with
    |some n=>some {v:=.val (.agg ((row.drop off).take n)),side:=off+n<=row.length }
    |none=>match row[off]? with
     |some c=>some {v:=.val c }
     |none=>none
   |none=>none else none
  |_=>none
 |_=>none
def oV(σ:St)(n:Nat)(a x:SV):Option Upd:=
 match cellsOf σ.objs x with
 |none=>none
 |some cs=>match a with
  |.loc id off=>match ac σ.objs id with
   |some (.box cells)=>if σ.ro.contains id then none else
     some {side:=cs.length=n/\off+n<=cells.length,wr:=some (id,.box (cells.take off++cs++cells.drop (off+n))) }
   |_=>none
  |.eloc id ver i off=>match ac σ.objs id,jO σ.objs cs with
   |some (.arr cv s rows),some (vs,fz)=>if σ.ro.contains id||fz.contains id then none else if ver==cv then match rows[i]? with
    |some row=>some {side:=cs.length=n/\off+n<=row.length,wr:=some (id,.arr cv s (rows.set i (row.take off++vs++row.drop (off+n)))),fz:=fz }
    |none=>none else none
   |_,_=>none
  |_=>none

def wC(off:Nat)(g:Option Nat):SV->Option Upd
 |.val (.agg cells)=>match g with
  |some n=>some {v:=.val (.agg ((cells.drop off).take n)),side:=off+n<=cells.length }
  |none=>match cells[off]? with
   |some c=>some {v:=.val c }
   |none=>none
 |.agg cells=>match g with
  |some n=>some {v:=xg ((cells.drop off).take n),side:=off+n<=cells.length }
  |none=>match cells[off]? with
   |some c=>some {v:=c }
   |none=>none
 |_=>none

def xk(σ:St)(s id ver s' lo0 hi0 len:Nat)(lo hi mx:Option Opd):Option Upd:=
 match f0 σ 0 lo,f0 σ (hi0-lo0) hi with
 |some l,some h=>match mx with
  |none=>some {v:=.view id ver (lo0+l.toNat) (lo0+h.toNat),side:=(0<=l/\l<=h/\h<=(len-lo0:Nat))/\s'=s }
  |some m=>match Fs (val σ m)with
   |some m=>some {v:=.undef,side:=0<=l/\l<=h/\h<=m/\m<=(hi0-lo0:Nat)/\hi.isSome=true }
   |none=>none
 |_,_=>none

def lU:List (List IV)->Option (List UInt8)
 |[]=>some []
 |[.int .u8 n]::r=>(lU r).map (UInt8.ofNat n.toNat::·)
 |_=>none
def ay(s:List UInt8):List (List IV):=s.map fun b=>[.int .u8 b.toNat]
def ev(σ:St)(dst:Option Nat):VOp->Option Upd
 |.move x=>some {v:=val σ x }
 |.pick c a b=>match val σ c with
  |.val (.bool t)=>some {v:=bif t then val σ a else val σ b }
  |_=>none
 |.alloc zero=>match dst with
  |some d=>some {v:=.loc d 0,new:=some (.box zero) }
  |none=>none
 |.box x=>match dst,cellsOf σ.objs (val σ x)with
  |some d,some cs=>some {v:=.loc d 0,new:=some (.box cs) }
  |_,_=>none
 |.build zero parts=>match lu σ.objs σ zero parts with
  |some cells=>some {v:=xg cells }
  |none=>none
 |.buildSlice s n zero parts=>match dst,lu σ.objs σ (cH zero n) parts with
  |some d,some cells=>match jO σ.objs cells with
   |some (vs,fz)=>some {v:=.own d 0,new:=some (.arr 0 s (nQ s n vs)),fz:=fz }
   |none=>none
  |_,_=>none
 |.load g x=>pq σ g (val σ x)
 |.store n a x=>oV σ n (val σ a) (val σ x)
 |.nilCheck x=>match val σ x with
  |.val (.ref cs)=>some {v:=.val (.ref cs) }
  |.loc id off=>match ac σ.objs id with
   |some (.box _)=>some {v:=.loc id off }
   |_=>none
  |.val (.fn f cs)=>some {v:=.val (.fn f cs) }
  |.clo f cs=>some {v:=.clo f cs }
  |.selfN id _ true=>match ac σ.objs id with
   |some (.box _)=>some {v:=.loc id 0 }
   |_=>none
  |_=>none
 |.bin op x y=>match val σ x,val σ y with
  |.val (.int k a),.val (.int k' b)=>if k=k' then MQ op k a b else none
  |.val (.str a),.val (.str b)=>MR op a b
  |_,_=>none
 |.eqB neg x y=>match val σ x,val σ y with
  |.val (.bool a),.val (.bool b)=>some {v:=.val (.bool (neg ^^ (a==b))) }
  |_,_=>none
 |.eqN neg x=>match val σ x with
  |.val .nili=>some {v:=.val (.bool (!neg)) }
  |.val (.iface _ _)=>some {v:=.val (.bool neg) }
  |.ifc _ _=>some {v:=.val (.bool neg) }
  |_=>none
 |.eqP neg x=>match val σ x with
  |.val .nilp=>some {v:=.val (.bool (!neg)) }
  |.val (.ref _)=>some {v:=.val (.bool neg) }
  |.loc id _=>match ac σ.objs id with
   |some (.box _)=>some {v:=.val (.bool neg) }
   |_=>none
  |_=>none
 |.eqS neg x=>match ix σ.objs (val σ x)with
  |some ([],_)=>some {v:=.anyB }
  |some (_::_,_)=>some {v:=.val (.bool neg) }
  |none=>none
 |.eqA neg ks x y=>match val σ x,val σ y with
  |.val (.agg xs),.val (.agg ys)=>match eqL ks xs ys with
   |some b=>some {v:=.val (.bool (neg ^^ b)) }
   |none=>none
  |_,_=>none
 |.un op x=>match op,val σ x with
  |.neg,.val (.int k n)=>some {v:=.val (.int k (k.wrap (0-n))) }
  |.not,.val (.bool b)=>some {v:=.val (.bool (!b)) }
  |_,_=>none
 |.convI k x=>match val σ x with
  |.val (.int _ n)=>some {v:=.val (.int k (k.wrap n)) }
  |_=>none
 |.convS x=>match val σ x with
  |.val (.str s)=>some {v:=.val (.str s) }
  |_=>none
 |.mkIface t x=>match val σ x with
  |.val v=>some {v:=.val (.iface t v) }
  |.loc id off=>some {v:=.ifc t (.loc id off) }
  |_=>none
 |.mkFunc f caps=>match caps with
  |[]=>some {v:=.val (.fn f []) }
  |_=>some {v:=.clo f (caps.map (val σ)) }
 |.mkBound f first=>match dB (first.map (val σ))with
  |some vs=>some {v:=.val (.bnd f vs) }
  |none=>none
 |.mkSlice s bytes zero len cap=>match dst,val σ len,val σ cap,dB zero with
  |some d,.val (.int .i64 l),.val (.int .i64 c),some z=>
   some {v:=.own d 0,new:=some (.arr 0 s (List.replicate l.toNat z)),side:=0<=l/\l<=c/\c*bytes<=281474976710656/\c<=9223372036854775807 }
  |_,_,_,_=>none
 |.subS x lo hi=>match val σ x with
  |.val (.str s)=>match f0 σ 0 lo,f0 σ s.length hi with
   |some l,some h=>some {v:=.val (.str ((s.take h.toNat).drop l.toNat)),side:=0<=l/\l<=h/\h<=s.length }
   |_,_=>none
  |_=>none
 |.subV s x lo hi mx=>match val σ x with
  |.own id ver=>match ac σ.objs id with
   |some (.arr cv s' rows)=>if ver==cv then xk σ s id ver s' 0 rows.length rows.length lo hi mx else none
   |_=>none
  |.view id ver lo0 hi0=>match ac σ.objs id with
   |some (.arr cv s' rows)=>if ver==cv then xk σ s id ver s' lo0 hi0 rows.length lo hi mx else none
   |_=>none
  |_=>match ix σ.objs (val σ x)with
  |some (rows,rd)=>match f0 σ 0 lo,f0 σ rows.length hi with
   |some l,some h=>match mx with
    |none=>some {v:=.val (.slice ((rows.take h.toNat).drop l.toNat)),side:=(0<=l/\l<=h/\h<=rows.length)/\∀row∈rows,row.length=s,fz:=rd }
    |some m=>match Fs (val σ m)with
     |some m=>if m=0 then some {v:=.nils,side:=l=0/\h=0/\hi.isSome=true } else some {v:=.full ((rows.take h.toNat).drop l.toNat),side:=(0<=l/\l<=h/\h=m/\h<=rows.length/\hi.isSome=true)/\∀row∈rows,row.length=s,fz:=rd }
     |none=>none
   |_,_=>none
  |_=>none
 |.subA s n x lo hi=>match uT σ.objs (val σ x)with
  |some (.ref cells,fz)=>match f0 σ 0 lo,f0 σ n hi with
   |some l,some r=>some {v:=.val (.slice (nQ s (r.toNat-l.toNat) ((cells.drop (l.toNat*s)).take ((r.toNat-l.toNat)*s)))),side:=0<=l/\l<=r/\r<=n/\n*s<=cells.length,fz:=fz }
   |_,_=>none
  |_=>none
 |.fieldAddr off x=>match val σ x with
  |.val (.ref cells)=>some {v:=.val (.ref (cells.drop off))  }
  |.loc id o=>match ac σ.objs id with
   |some (.box _)=>some {v:=.loc id (o+off) }
   |_=>none
  |.eloc id ver i o=>match ac σ.objs id with
   |some (.arr cv _ _)=>if ver==cv then some {v:=.eloc id ver i (o+off) } else none
   |_=>none
  |_=>none
 |.field off g x=>wC off g (val σ x)
 |.indexAddr s x i=>match val σ i with
  |.val (.int _ i)=>if 0<=i then match val σ x with
   |.val (.slice rows)=>match rows[i.toNat]? with
    |some row=>some {v:=.val (.ref row),side:=row.length=s }
    |none=>none
   |.own id ver=>match ac σ.objs id with
    |some (.arr cv s' rows)=>if ver==cv then some {v:=.eloc id ver i.toNat 0,side:=i.toNat<rows.length/\s'=s } else none
    |_=>none
   |.view id ver lo hi=>match ac σ.objs id with
    |some (.arr cv s' rows)=>if ver==cv then some {v:=.eloc id ver (lo+i.toNat) 0,side:=i.toNat<hi-lo/\s'=s } else none
    |_=>none
   |_=>none else none
  |_=>none
 |.indexArr len s x i=>match val σ x,val σ i with
  |.loc id o,.val (.int _ i)=>match ac σ.objs id with
   |some (.box _)=>some {v:=.loc id (o+i.toNat*s),side:=0<=i/\i<len }
   |_=>none
  |.val (.ref cells),.val (.int _ i)=>some {v:=.val (.ref (cells.drop (i.toNat*s))),side:=0<=i/\i<len }
  |_,_=>none
 |.indexS x i=>match val σ x,val σ i with
  |.val (.str s),.val (.int _ i)=>if 0<=i then match s[i.toNat]? with
   |some b=>some {v:=.val (.int .u8 b.toNat) }
   |none=>none else none
  |_,_=>none
 |.indexA len s g x i=>match val σ i with
  |.val (.int _ i)=>if 0<=i/\i<len then wC (i.toNat*s) g (val σ x)else none
  |_=>none
 |.extract x i=>match val σ x with
  |.val (.tuple vs)=>match vs[i]? with
   |some v=>some {v:=.val v }
   |none=>none
  |.tup vs=>match vs[i]? with
   |some v=>some {v:=v }
   |none=>none
  |_=>none
 |.lenS x=>match val σ x with
  |.val (.str s)=>some {v:=.val (.int .i64 s.length) }
  |_=>none
 |.lenV x=>match val σ x with
  |.view id ver lo hi=>match ac σ.objs id with
   |some (.arr cv _ rows)=>if ver==cv then some {v:=.val (.int .i64 (hi-lo:Nat)) } else none
   |_=>none
  |_=>match ix σ.objs (val σ x)with
  |some (rows,rd)=>some {v:=.val (.int .i64 rows.length) }
  |none=>none
 |.lenC n _=>some {v:=.val (.int .i64 n) }
 |.maxI x y=>match val σ x,val σ y with
  |.val (.int k a),.val (.int k' b)=>if k=k' then some {v:=.val (.int k (max a b)) } else none
  |_,_=>none
 |.minI x y=>match val σ x,val σ y with
  |.val (.int k a),.val (.int k' b)=>if k=k' then some {v:=.val (.int k (min a b)) } else none
  |_,_=>none
 |.rangeS x=>match dst,val σ x with
  |some d,.val (.str s)=>some {v:=.itr d,new:=some (.iter s 0) }
  |_,_=>none
 |.nextS x=>match val σ x with
  |.itr id=>match ac σ.objs id with
   |some (.iter s p)=>if p<s.length then some {v:=.val (.tuple [.bool true,.int .i64 p,.int .i32 ((Utf8.decode ⟨s.toArray⟩ p).1:Nat)]),wr:=some (id,.iter s (p+(Utf8.decode ⟨s.toArray⟩ p).2)) }
    else some {v:=.val (.tuple [.bool false]) }
   |_=>none
  |_=>none
 |.convB x=>match ix σ.objs (val σ x)with
  |some (rows,_)=>match lU rows with
   |some bs=>some {v:=.val (.str bs) }
   |none=>none
  |none=>none
 |.appendS e bytes x y=>match val σ y with
  |.val (.str bs)=>match val σ x with
   |.own id ver=>match ac σ.objs id with
    |some (.arr cv s' rows)=>if ver==cv then
      some {v:=.own id (cv+1),wr:=some (id,.arr (cv+1) 1 (rows++ay bs)),side:=s'=1/\(rows.length+bs.length)*bytes<=35184372088832 } else none
    |_=>none
   |.ownT id ver t=>match ac σ.objs id with
    |some (.arr cv s' rows)=>if ver==cv&&t==e then
      some {v:=.ownT id (cv+1) t,wr:=some (id,.arr (cv+1) 1 (rows++ay bs)),side:=s'=1/\(rows.length+bs.length)*bytes<=35184372088832 } else none
    |_=>none
   |_=>none
  |_=>none
 |.eqL neg x y=>match val σ x,val σ y with
  |.loc id off,.loc id' off'=>match ac σ.objs id with
   |some (.box _)=>if id==id'&&off==off' then some {v:=.val (.bool (!neg)) } else none
   |_=>none
  |_,_=>none
 |.convR x=>match val σ x with
  |.val (.int _ n)=>some {v:=.val (.str (Utf8.encode n).data.toList) }
  |_=>none
 |.allocB t=>match dst with
  |some d=>some {v:=.selfN d t true,new:=some (.box [.val .nilp,.val .nilS]) }
  |none=>none
 |.capV x=>match val σ x with
  |.nils=>some {v:=.val (.int .i64 0) }
  |_=>none
 |.bad=>none
 |.append e s bytes x y=>match ix σ.objs (val σ y)with
  |none=>none
  |some (new,rd)=>match val σ x with
   |.nils=>match dst with
    |some d=>some {v:=.own d 0,new:=some (.arr 0 s new),side:=new.length*bytes<=35184372088832/\∀r∈new,r.length=s }
    |none=>none
   |.full rows=>match dst with
    |some d=>some {v:=.own d 0,new:=some (.arr 0 s (rows++new)),side:=new≠[]/\(rows.length+new.length)*bytes<=35184372088832/\(∀r∈rows,r.length=s)/\∀r∈new,r.length=s }
    |none=>none
   |.own id ver=>match ac σ.objs id with
    |some (.arr cv s' rows)=>if ver==cv&&!rd.contains id then
      some {v:=.own id (cv+1),wr:=some (id,.arr (cv+1) s (rows++new)),side:=s'=s/\(rows.length+new.length)*bytes<=35184372088832/\∀r∈new,r.length=s } else none
    |_=>none
   |.ownT id ver t=>match ac σ.objs id with
    |some (.arr cv s' rows)=>if ver==cv&&!rd.contains id&&t==e then
      some {v:=.ownT id (cv+1) t,wr:=some (id,.arr (cv+1) s (rows++new)),side:=s'=s/\(rows.length+new.length)*bytes<=35184372088832/\∀r∈new,r.length=s } else none
    |_=>none
   |.view id ver lo hi=>match ac σ.objs id with
    |some (.arr cv s' rows)=>if ver==cv&&lo==0&&!σ.ro.contains id then
      if rd.contains id then match val σ y with
       |.view id2 _ lo2 hi2=>if id2==id then some {v:=.view id cv 0 (hi+(hi2-lo2)),wr:=some (id,.arr cv s (rows.take hi++((rows.take hi2).drop lo2++rows.drop (hi+(hi2-lo2))))),side:=s'=s/\hi<=lo2/\lo2<=hi2 } else none
       |_=>none
      else some {v:=.own id (cv+2),wr:=some (id,.arr (cv+2) s (rows.take hi++new)),side:=s'=s/\(hi+new.length)*bytes<=35184372088832/\∀r∈new,r.length=s }
     else none
    |_=>none
   |_=>none
 |.clear zero x=>match dB zero with
  |none=>none
  |some z=>match val σ x with
   |.nils=>some {v:=.val (.tuple []) }
   |.own id ver=>match ac σ.objs id with
    |some (.arr cv s rows)=>if ver==cv&&!σ.ro.contains id then some {v:=.val (.tuple []),wr:=some (id,.arr cv s (List.replicate rows.length z)),side:=z.length=s/\0<s } else none
    |_=>none
   |.view id ver lo hi=>match ac σ.objs id with
    |some (.arr cv s rows)=>if ver==cv&&!σ.ro.contains id then some {v:=.val (.tuple []),wr:=some (id,.arr cv s (rows.take lo++(List.replicate (hi-lo) z++rows.drop hi))),side:=z.length=s/\0<s } else none
    |_=>none
   |_=>none
 |.copy s x y=>match ix σ.objs (val σ y)with
  |none=>none
  |some (new,_)=>match val σ x with
   |.nils=>some {v:=.val (.int .i64 0) }
   |.own id ver=>match ac σ.objs id with
    |some (.arr cv s' rows)=>if ver==cv&&!σ.ro.contains id then some {v:=.val (.int .i64 (min new.length rows.length:Nat)),wr:=some (id,.arr cv s (new.take rows.length++rows.drop (min new.length rows.length))),side:=s'=s/\(∀r∈new,r.length=s)/\0<s } else none
    |_=>none
   |.view id ver lo hi=>match ac σ.objs id with
    |some (.arr cv s' rows)=>if ver==cv&&!σ.ro.contains id then some {v:=.val (.int .i64 (min new.length (hi-lo):Nat)),wr:=some (id,.arr cv s (rows.take lo++(new.take (hi-lo)++rows.drop (lo+min new.length (hi-lo))))),side:=s'=s/\(∀r∈new,r.length=s)/\0<s } else none
    |_=>none
   |_=>none
 |_=>none

end Go.Vs
set_option linter.unusedVariables false
set_option linter.unusedSimpArgs false
namespace Go.Vs

section
variable {w0 w:World} {S0 S:aO} {M:Ctx} {σ:St} {a:Act} {μ:Nat->Value} {β:Nat->Option Nat}

theorem sr{objs:List (Nat×Ob)}{v:Value}{x:SV}(h:sn v=some x):ar w S μ objs x v:=by
 unfold sn at h;split at h<;>(try (simp at h;done))<;>(obtain rfl:=O_ h)
 all_goals (first|rfl|exact⟨none,rfl⟩|skip)
theorem ey{objs:List (Nat×Ob)} : ∀ {vs:List Value} {xs:List SV},nP vs=some xs->aj w S μ objs xs vs
 |[],xs,h=>by
  simp only[nP,E_]at h;subst h;rfl
 |v::r,xs,h=>by
  simp only[nP]at h;split at h
  ·next x ys h1 h2=>
   obtain rfl:=O_ h;refine⟨v,r,rfl,?_,sr h1,ey h2⟩;unfold sn at h1;split at h1<;>first|(simp at h1;done)|rfl
  ·simp at h
theorem k9{objs:List (Nat×Ob)}{cells:List SV}{vs:List Value}(h:aj w S μ objs cells vs) :
  ar w S μ objs (xg cells) (.agg vs.toArray):=by
 unfold xg;split
 ·next ys hy=>
  have:=oT hy;subst this;exact⟨vs.toArray,rfl,by simpa using aj.toRep h⟩
 ·exact⟨vs.toArray,rfl,by simpa using h⟩
theorem Eu{objs:List (Nat×Ob)}{v:Value}{x:SV}(h:GF v=some x):ar w S μ objs x v:=by
 unfold GF at h;split at h
 ·next cs=>
  split at h
  ·next xs hx=>
   obtain rfl:=O_ h;exact⟨cs,rfl,ey hx⟩
  ·simp at h
 ·exact sr h

theorem Il{α:Type} : ∀ {l:List (Nat×α)} {k:Nat} {v:α},ac l k=some v->(k,v)∈l
 |[],_,_,h=>by simp[ac]at h
 |(j,u)::r,k,v,h=>by
  simp only[ac]at h;cases hj:j==k with
  |true=>
   rw[hj]at h;rw[beq_iff_eq]at hj;subst hj;simp only[cond_true,E_]at h;subst h;exact List.mem_cons_self
  |false=>
   rw[hj]at h;exact List.mem_cons_of_mem _ (Il h)
theorem ak(h:SimG w0 S0 M σ a w S μ β){x:Operand}{y:Opd}(hc:ai x=some y):ar w S μ σ.objs (val σ y) (a.eval x):=by
 cases x with
 |tmp t=>simp only[ai,E_]at hc;subst hc;exact h.env t
 |const v=>
  simp only[ai,Option.map_eq_some_iff]at hc;obtain⟨s,h1,rfl⟩:=hc;exact Eu h1
 |global g=>
  simp only[ai,E_]at hc;subst hc;simp only[val];split
  ·next cells hl=>exact⟨g,0,rfl,(h.glob (g,cells) (Il hl)).1⟩
  ·trivial
 |func f=>simp only[ai,E_]at hc;subst hc;exact⟨#[],rfl,rfl⟩
theorem lv(h:SimG w0 S0 M σ a w S μ β):∀ {x:List Operand} {y:List Opd},cP x=some y->aQ w S μ σ.objs (y.map (val σ)) (x.map a.eval)
 |[],y,hc=>by
  simp only[cP,E_]at hc;subst hc;rfl
 |x::r,y,hc=>by
  simp only[cP]at hc;split at hc
  ·next u us h1 h2=>
   obtain rfl:=O_ hc;exact⟨_,_,rfl,ak h h1,lv h h2⟩
  ·simp at hc

theorem GH(h:SimG w0 S0 M σ a w S μ β){x:SV}{v:Value}(ho:iw σ.objs x=true)(hr:ar w S μ σ.objs x v):v.oneCell'=true:=by
 cases x with
 |undef=>simp[iw]at ho
 |val x=>exact IV.one_oneCell ho hr
 |nils=>obtain⟨a,rfl⟩:=hr;rfl
 |full rows=>obtain⟨_,a,rfl⟩:=hr;rfl
 |own id ver=>
  simp only[iw]at ho;split at ho
  ·next cv s rows hl=>
   have hver:ver=cv:=by simpa using ho
   obtain rfl:=(hr _ _ _ hl).2 hver;rcases h.objs id _ hl with⟨_,_,a,h1⟩|⟨_,_,_,_,_,_,h1,_⟩<;>(rw[h1];rfl)
  ·simp at ho
 |loc id off=>
  simp only[iw]at ho;split at ho
  ·next cells hl=>
   obtain⟨b,_,rfl⟩:=hr _ hl;rfl
  ·simp at ho
 |eloc=>simp[iw]at ho
 |view id ver lo hi=>
  simp only[iw]at ho;split at ho
  ·next cv s rows hl=>
   have hver:ver=cv:=by simpa using ho
   obtain⟨_,_,a,cap,a',_,h2,_⟩:=(hr _ _ _ hl).2 hver;rw[h2];rfl
  ·simp at ho
 |agg=>simp[iw]at ho
 |tup=>simp[iw]at ho
 |clo f caps=>obtain⟨vs,rfl,_⟩:=hr;rfl
 |ifc t x=>obtain⟨u,rfl,_⟩:=hr;rfl
 |anyB=>simp[iw]at ho
 |ownT id ver ty=>
  simp only[iw]at ho;split at ho
  ·next cv s rows hl=>
   have hver:ver=cv:=by simpa using ho
   obtain rfl:=(hr.1 _ _ _ hl).2 hver;rcases h.objs id _ hl with⟨_,_,a,h1⟩|⟨_,_,_,_,_,_,h1,_⟩<;>(rw[h1];rfl)
  ·simp at ho
 |selfN id t nn=>
  simp only[iw]at ho;split at ho
  ·next cells hl=>
   obtain⟨b,_,_,⟨_,rfl⟩|rfl⟩:=hr _ hl<;>rfl
  ·simp at ho
 |itr=>simp[iw]at ho

theorem pt(h:SimG w0 S0 M σ a w S μ β){x:SV}{v:Value}{cs:List SV}(hr:ar w S μ σ.objs x v)(hc:cellsOf σ.objs x=some cs) :
  aj w S μ σ.objs cs v.cells.toList:=by
 unfold cellsOf at hc;split at hc
 ·next xs=>
  obtain rfl:=O_ hc;obtain⟨vs,rfl,h2⟩:=hr;exact aj.ofRep h2
 ·next cells=>
  obtain rfl:=O_ hc;obtain⟨vs,rfl,h2⟩:=hr;exact h2
 ·split at hc
  ·next ho=>
   obtain rfl:=O_ hc;have h1:=GH h ho hr;have:v.cells = #[v]:=by cases v<;>first|rfl|simp[Value.oneCell']at h1
   rw[this];exact⟨v,[],rfl,h1,hr,rfl⟩
  ·simp at hc

def cY(S:aO)(β:Nat->Option Nat)(objs:List (Nat×Ob))(fz:List Nat):aO:=fun b off=>S b off\/BM β objs fz b off

theorem Bq(h:SimG w0 S0 M σ a w S μ β){id cv s:Nat}{rows:List (List IV)}(hl:ac σ.objs id=some (.arr cv s rows)){fz:List Nat}(hf:id∈fz) :
  nJ w (cY S β σ.objs fz) (.slice rows) (μ id):=by
 rcases h.objs id _ hl with⟨rfl,_,x,hx⟩|⟨b,cap,vs,e,fr,hb,hm,hh,_,hsz,hle,hlen,hrep⟩
 ·exact⟨x,0,by simpa using hx,Nat.le_refl _,fun hn=>absurd rfl hn⟩
 ·refine⟨_,cap,hm,hle,fun _=>⟨b,0,s,rfl,bq.ofFlat hlen ?_⟩⟩;have hfl:=cO hlen;refine aH.intro (ae.mono (bv.refl _ _) (fun _ _ x=>.inl x) _ _ hrep) (fun j hj=>.inr ⟨id,_,hf,hl,hb,?_⟩) (fun j v hj=>?_)
  ·intro ver s' rows' e;simp only[Ob.arr.injEq]at e;obtain⟨_,rfl,rfl⟩:=e;omega
  ·rw[dI hh];have hj':=List.getElem?_take (l:=vs.toList) (i:=rows.length*s) (j:=j);rw[hj]at hj';split at hj'
   ·rw[Array.getElem?_toList]at hj';simpa using hj'.symm
   ·simp at hj'

theorem Im(h:SimG w0 S0 M σ a w S μ β){id cv s lo hi:Nat}{rows:List (List IV)}(hl:ac σ.objs id=some (.arr cv s rows)){fz:List Nat}(hf:id∈fz){v:Value}(hr:ar w S μ σ.objs (.view id cv lo hi) v) :
  nJ w (cY S β σ.objs fz) (.slice ((rows.take hi).drop lo)) v:=by
 obtain⟨g1,g2,x,cap,y,g3,rfl,g5,g6⟩:=(hr _ _ _ hl).2 rfl;obtain⟨x',cap',e1,e2,e3⟩:=Bq h hl hf;rw[g3]at e1;simp only[Value.slice.injEq]at e1;obtain⟨rfl,_,rfl⟩:=e1;have hlen:((rows.take hi).drop lo).length=hi-lo:=by rw[List.length_drop,List.length_take];omega
 refine⟨y,cap-lo,by rw[hlen],by rw[hlen];omega,fun hne=>?_⟩
 have hlt:lo<hi:=by
  rcases Nat.lt_or_ge lo hi with hh|hh
  ·exact hh
  ·exfalso;exact hne (List.length_eq_zero_iff.1 (by rw[hlen];omega))
 have hrne:rows≠[]:=by intro e;subst e;simp at g2;omega
 obtain⟨b,off,s',q1,q2⟩:=e3 hrne;obtain⟨b',k1,k2⟩:=g6 (by omega);rw[k1]at q1;simp only[E_,Addr.mk.injEq,and_true]at q1;obtain⟨rfl,rfl⟩:=q1
 have hss:s'=s:=by
  obtain⟨row,hrow⟩:=List.exists_mem_of_ne_nil rows hrne;have l1:=bq.lens q2 row hrow;rcases h.objs id _ hl with⟨z,_⟩|⟨_,_,_,_,_,_,_,_,_,_,_,l2,_⟩
  ·exact absurd z hrne
  ·rw[<-l1,l2 row hrow]
 subst hss;refine⟨b',lo*s',s',k2,?_⟩;simpa using bq.drop lo (bq.take hi q2)

theorem m6(h:SimG w0 S0 M σ a w S μ β){x:SV}{v:Value}{iv:IV}{fz fz':List Nat}(hc:iH σ.objs x=some (iv,fz))(hf:∀i,i∈fz->i∈fz')
  (hr:ar w S μ σ.objs x v):nJ w (cY S β σ.objs fz') iv v:=by
 cases x with
 |undef=>simp[iH]at hc
 |val x=>
  simp only[iH,E_,Prod.mk.injEq]at hc;obtain⟨rfl,rfl⟩:=hc;exact nJ.mono (bv.refl _ _) (fun _ _ x=>.inl x) _ _ hr
 |nils=>
  simp only[iH,E_,Prod.mk.injEq]at hc;obtain⟨rfl,rfl⟩:=hc;obtain⟨x,rfl⟩:=hr;exact⟨x,0,rfl,Nat.le_refl _,fun hn=>absurd rfl hn⟩
 |full rows=>
  simp only[iH,E_,Prod.mk.injEq]at hc;obtain⟨rfl,rfl⟩:=hc;exact nJ.mono (bv.refl _ _) (fun _ _ x=>.inl x) _ _ hr.1
 |own id ver=>
  simp only[iH]at hc;split at hc
  ·next cv s rows hl=>
   split at hc
   ·next hv=>
    simp only[E_,Prod.mk.injEq]at hc;obtain⟨rfl,rfl⟩:=hc;have hver:ver=cv:=by simpa using hv
    obtain rfl:=(hr _ _ _ hl).2 hver;exact Bq h hl (hf _ (by simp))
   ·simp at hc
  ·simp at hc
 |view id ver lo hi=>
  simp only[iH]at hc;split at hc
  ·next cv s rows hl=>
   split at hc
   ·next hv=>
    simp only[E_,Prod.mk.injEq]at hc;obtain⟨rfl,rfl⟩:=hc;obtain rfl:ver=cv:=by simpa using hv
    exact Im h hl (hf _ (by simp)) hr
   ·simp at hc
  ·simp at hc
 |loc=>simp[iH]at hc
 |eloc=>simp[iH]at hc
 |agg=>simp[iH]at hc
 |tup=>simp[iH]at hc
 |clo=>simp[iH]at hc
 |ifc=>simp[iH]at hc
 |anyB=>simp[iH]at hc
 |selfN=>simp[iH]at hc
 |ownT=>simp[iH]at hc
 |itr=>simp[iH]at hc

theorem xl(h:SimG w0 S0 M σ a w S μ β):∀ {xs:List SV} {vs:List Value} {ivs:List IV} {fz fz':List Nat},mA σ.objs xs=some (ivs,fz)->(∀i,i∈fz->i∈fz')->
  aj w S μ σ.objs xs vs->ae w (cY S β σ.objs fz') ivs vs
 |[],vs,ivs,fz,fz',hc,hf,hr=>by
  simp only[mA,E_,Prod.mk.injEq]at hc;obtain⟨rfl,rfl⟩:=hc;exact hr
 |x::xs,vs,ivs,fz,fz',hc,hf,⟨u,us,h1,h0,h2,h3⟩=>by
  simp only[mA]at hc;split at hc
  ·next y f ys fs e1 e2=>
   simp only[E_,Prod.mk.injEq]at hc;obtain⟨rfl,rfl⟩:=hc;subst h1;have h4:=m6 h e1 (fun i hi=>hf i (List.mem_append_left _ hi)) h2;exact⟨u,us,rfl,IV.oneCell_one h0 h4,h4,xl h e2 (fun i hi=>hf i (List.mem_append_right _ hi)) h3⟩
  ·simp at hc

theorem m7(h:SimG w0 S0 M σ a w S μ β){x:SV}{v:Value}{iv:IV}{fz fz':List Nat}(hc:uT σ.objs x=some (iv,fz))(hf:∀i,i∈fz->i∈fz')
  (hr:ar w S μ σ.objs x v):nJ w (cY S β σ.objs fz') iv v:=by
 unfold uT at hc;split at hc
 ·next id off=>
  split at hc
  ·next cells hl=>
   split at hc
   ·next vs fs hv=>
    ·simp only[E_,Prod.mk.injEq]at hc;obtain⟨rfl,rfl⟩:=hc;obtain⟨b,hm,rfl⟩:=hr _ hl;obtain⟨b',us,e,fr,hb,hm',hh,_,hs⟩:=h.objs id _ hl;obtain rfl:b'=b:=by rw[hm]at hm';simpa using hm'.symm
     refine⟨b',off,rfl,?_⟩;have hrep:=xl h hv (fun i hi=>hf i (List.mem_cons_of_mem _ hi)) hs
     have hcells:aH w (cY S β σ.objs fz') vs b' 0:=aH.intro hrep (fun j hj=>.inr ⟨id,_,hf _ (by simp),hl,hb,fun _ _ _ hx=>by simp at hx⟩)
      (fun j u hj=>by rw[dI hh];rw[Array.getElem?_toList]at hj;simpa using hj)
     simpa using aH.drop off hcells
   ·simp at hc
  ·simp at hc
 ·exact m6 h hc hf hr

theorem j6(h:SimG w0 S0 M σ a w S μ β):∀ {xs:List SV} {vs:List Value} {ivs:List IV} {fz fz':List Nat},jO σ.objs xs=some (ivs,fz)->(∀i,i∈fz->i∈fz')->
  aj w S μ σ.objs xs vs->ae w (cY S β σ.objs fz') ivs vs
 |[],vs,ivs,fz,fz',hc,hf,hr=>by
  simp only[jO,E_,Prod.mk.injEq]at hc;obtain⟨rfl,rfl⟩:=hc;exact hr
 |x::xs,vs,ivs,fz,fz',hc,hf,⟨u,us,h1,h0,h2,h3⟩=>by
  simp only[jO]at hc;split at hc
  ·next y f ys fs e1 e2=>
   simp only[E_,Prod.mk.injEq]at hc;obtain⟨rfl,rfl⟩:=hc;subst h1;have h4:=m7 h e1 (fun i hi=>hf i (List.mem_append_left _ hi)) h2;exact⟨u,us,rfl,IV.oneCell_one h0 h4,h4,j6 h e2 (fun i hi=>hf i (List.mem_append_right _ hi)) h3⟩
  ·simp at hc
theorem xm(h:SimG w0 S0 M σ a w S μ β):∀ {xs:List SV} {vs:List Value} {ivs:List IV} {fz fz':List Nat},jO σ.objs xs=some (ivs,fz)->(∀i,i∈fz->i∈fz')->
  aQ w S μ σ.objs xs vs->bc w (cY S β σ.objs fz') ivs vs
 |[],vs,ivs,fz,fz',hc,hf,hr=>by
  simp only[jO,E_,Prod.mk.injEq]at hc;obtain⟨rfl,rfl⟩:=hc;exact hr
 |x::xs,vs,ivs,fz,fz',hc,hf,⟨u,us,h1,h2,h3⟩=>by
  simp only[jO]at hc;split at hc
  ·next y f ys fs e1 e2=>
   simp only[E_,Prod.mk.injEq]at hc;obtain⟨rfl,rfl⟩:=hc;subst h1;exact⟨u,us,rfl,m7 h e1 (fun i hi=>hf i (List.mem_append_left _ hi)) h2,xm h e2 (fun i hi=>hf i (List.mem_append_right _ hi)) h3⟩
  ·simp at hc

theorem jP(h:SimG w0 S0 M σ a w S μ β){x:SV}{v:Value}{iv:IV}{fz fz':List Nat}(hc:xi σ.objs x=some (iv,fz))(hf:∀i,i∈fz->i∈fz')
  (hr:ar w S μ σ.objs x v):nJ w (cY S β σ.objs fz') iv v:=by
 unfold xi at hc;split at hc
 ·next t x=>
  split at hc
  ·next y f hy=>
   simp only[E_,Prod.mk.injEq]at hc;obtain⟨rfl,rfl⟩:=hc;obtain⟨u,rfl,h2⟩:=hr;exact⟨u,rfl,m7 h hy hf h2⟩
  ·simp at hc
 ·next cells=>
  split at hc
  ·next vs fs hv=>
   simp only[E_,Prod.mk.injEq]at hc;obtain⟨rfl,rfl⟩:=hc;obtain⟨us,rfl,h2⟩:=hr;exact⟨us,rfl,j6 h hv hf h2⟩
  ·simp at hc
 ·next f caps=>
  split at hc
  ·next vs fs hv=>
   simp only[E_,Prod.mk.injEq]at hc;obtain⟨rfl,rfl⟩:=hc;obtain⟨us,rfl,h2⟩:=hr;exact⟨us,rfl,xm h hv hf h2⟩
  ·simp at hc
 ·exact m7 h hc hf hr
theorem ss(h:SimG w0 S0 M σ a w S μ β):∀ {xs:List SV} {vs:List Value} {ivs:List IV} {fz fz':List Nat},xj σ.objs xs=some (ivs,fz)->(∀i,i∈fz->i∈fz')->
  aQ w S μ σ.objs xs vs->bc w (cY S β σ.objs fz') ivs vs
 |[],vs,ivs,fz,fz',hc,hf,hr=>by
  simp only[xj,E_,Prod.mk.injEq]at hc;obtain⟨rfl,rfl⟩:=hc;exact hr
 |x::xs,vs,ivs,fz,fz',hc,hf,⟨u,us,h1,h2,h3⟩=>by
  simp only[xj]at hc;split at hc
  ·next y f ys fs e1 e2=>
   simp only[E_,Prod.mk.injEq]at hc;obtain⟨rfl,rfl⟩:=hc;subst h1;exact⟨u,us,rfl,jP h e1 (fun i hi=>hf i (List.mem_append_left _ hi)) h2,ss h e2 (fun i hi=>hf i (List.mem_append_right _ hi)) h3⟩
  ·simp at hc

theorem n7(h:SimG w0 S0 M σ a w S μ β){x:SV}{v:Value}{rows:List (List IV)}{fz:List Nat}(hc:ix σ.objs x=some (rows,fz))
  (hr:ar w S μ σ.objs x v):nJ w (cY S β σ.objs fz) (.slice rows) v:=by
 unfold ix at hc;split at hc
 ·simp only[E_,Prod.mk.injEq]at hc;obtain⟨rfl,rfl⟩:=hc;exact m6 (x:=.nils) h (iv:=.slice []) rfl (fun _ x=>x) hr
 ·next r=>
  simp only[E_,Prod.mk.injEq]at hc;obtain⟨rfl,rfl⟩:=hc;exact m6 (x:=.full r) h (iv:=.slice r) rfl (fun _ x=>x) hr
 ·next r=>
  simp only[E_,Prod.mk.injEq]at hc;obtain⟨rfl,rfl⟩:=hc;exact m6 (x:=.val (.slice r)) h (iv:=.slice r) rfl (fun _ x=>x) hr
 ·next id ver=>
  split at hc
  ·next cv s rows' hl=>
   split at hc
   ·next hv=>
    simp only[E_,Prod.mk.injEq]at hc;obtain⟨rfl,rfl⟩:=hc;have hver:ver=cv:=by simpa using hv
    obtain rfl:=(hr _ _ _ hl).2 hver;exact Bq h hl (by simp)
   ·simp at hc
  ·simp at hc
 ·next id ver lo hi=>
  split at hc
  ·next cv s rows' hl=>
   split at hc
   ·next hv=>
    simp only[E_,Prod.mk.injEq]at hc;obtain⟨rfl,rfl⟩:=hc;obtain rfl:ver=cv:=by simpa using hv
    exact Im h hl (by simp) hr
   ·simp at hc
  ·simp at hc
 ·simp at hc

end
end Go.Vs
set_option linter.unusedVariables false
set_option linter.unusedSimpArgs false
namespace Go.Vs

def cp(P:Program)(o:Oper)(a:Act)(w:World)(G:Value->World->Prop):Prop:=
 ∃n v w',(execOp a.eval o).run P w=.ok n w'/\(n=.value v\/n=.skip/\v=Go.undef)/\G v w'

section
variable {P:Program} {w0 w:World} {S0 S:aO} {M:Ctx} {σ:St} {a:Act} {μ:Nat->Value} {β:Nat->Option Nat} {o:Oper}

theorem cY.nil{objs:List (Nat×Ob)} : ∀b off,S b off->cY S β objs [] b off:=fun _ _ x=>.inl x

theorem SimG.putD(h:SimG w0 S0 M σ a w S μ β){dst:Option Nat}{sv:SV}{v:Value}(hd:∀d,dst=some d->d<σ.n)(hv:ar w S μ σ.objs sv v) :
  SimG w0 S0 M {σ with env:=Vs.putD σ.env dst sv } (a.put dst v) w S μ β:=by
 cases dst with
 |none=>exact h
 |some d=>exact h.put (hd d rfl) hv

theorem ux(h:SimG w0 S0 M σ a w S μ β)(hd:∀d,o.dst=some d->d<σ.n){sv:SV}{v:Value}{fz:List Nat}{side:Prop} [Decidable side]
  (hrun:(execOp a.eval o).run P w=.ok (.value v) w) (hv:ar w (cY S β σ.objs fz) μ σ.objs sv v) :
  cp P o a w (fun v w'=>cE w0 S0 M (σ.apply o.dst {v:=sv,side:=side,fz:=fz }) (a.put o.dst v) w'):=by
 refine⟨_,v,w,hrun,.inl rfl,cY S β σ.objs fz,μ,β,?_⟩;exact(h.freeze fz).putD (σ:={σ with ro:=fz++σ.ro }) hd hv

theorem aq(h:SimG w0 S0 M σ a w S μ β)(hd:∀d,o.dst=some d->d<σ.n){sv:SV}{v:Value}{side:Prop} [Decidable side]
  (hrun:(execOp a.eval o).run P w=.ok (.value v) w) (hv:ar w S μ σ.objs sv v) :
  cp P o a w (fun v w'=>cE w0 S0 M (σ.apply o.dst {v:=sv,side:=side }) (a.put o.dst v) w'):=
 ux (fz:=[]) h hd hrun (ar.mono (bv.refl _ _) cY.nil _ _ hv)

theorem zi(l:List UInt8):(⟨l.toArray⟩:ByteArray).toList=l:=by rw[ByteArray.toList_eq]
theorem xn(l:List UInt8):(⟨l.toArray⟩:ByteArray).size=l.length:=by simp[ByteArray.size]
theorem MS(l k:List UInt8):(⟨l.toArray⟩:ByteArray)++⟨k.toArray⟩=⟨(l++k).toArray⟩:=by
 apply ByteArray.ext;simp[ByteArray.data_append]
theorem Ku(l:List UInt8)(i j:Nat):(⟨l.toArray⟩:ByteArray).extract i j=⟨((l.take j).drop i).toArray⟩:=by
 apply ByteArray.ext;simp[ByteArray.data_extract,List.extract_eq_take_drop,List.drop_take]
theorem UH(l:List UInt8)(i:Nat):(⟨l.toArray⟩:ByteArray)[i]?=l[i]?:=by
 by_cases h:i<l.length
 ·have h':i<(⟨l.toArray⟩:ByteArray).size:=by rw[xn];exact h
  rw[getElem?_pos (c:=(⟨l.toArray⟩:ByteArray)) (i:=i) h',getElem?_pos (c:=l) (i:=i) h];rfl
 ·have h':¬i<(⟨l.toArray⟩:ByteArray).size:=by rw[xn];exact h
  rw[getElem?_neg (c:=(⟨l.toArray⟩:ByteArray)) (i:=i) h',getElem?_neg (c:=l) (i:=i) h]

theorem In(h:SimG w0 S0 M σ a w S μ β)(hd:∀d,o.dst=some d->d<σ.n){x:Operand}{y:Opd}(ho:o.op=.move x\/o.op=.assign x)(hc:ai x=some y) :
  cp P o a w (fun v w'=>cE w0 S0 M (σ.apply o.dst {v:=val σ y }) (a.put o.dst v) w'):=by
 refine aq h hd (v:=a.eval x) ?_ (ak h hc);rcases ho with ho|ho<;>simp[execOp,ho]

theorem OP(h:SimG w0 S0 M σ a w S μ β)(hd:∀d,o.dst=some d->d<σ.n){c x y:Operand}{c' x' y':Opd}(ho:o.op=.pick c x y)
  (hc:ai c=some c') (hx:ai x=some x') (hy:ai y=some y') {t:Bool} (hv:val σ c'=.val (.bool t)) :
  cp P o a w (fun v w'=>cE w0 S0 M (σ.apply o.dst {v:=bif t then val σ x' else val σ y' }) (a.put o.dst v) w'):=by
 have h1:a.eval c=.bool t:=by have:=ak h hc;rw[hv]at this;exact this
 refine aq h hd (v:=if t then a.eval x else a.eval y) (by simp[execOp,ho,h1,asBool]) ?_;cases t
 ·exact ak h hy
 ·exact ak h hx

theorem gH{op:BinOp}{t:TypeId}{x y:Operand}{u v:Value}(h1:∀cs,u≠.agg cs)(h2:u≠.nilIface):(eqGuard op t x y u v).run P w=.ok () w:=by
 unfold eqGuard;cases op<;>(try rfl)<;>cases u<;>first|(exact absurd rfl (h1 _))|(exact absurd rfl h2)|rfl

theorem OQ(h:SimG w0 S0 M σ a w S μ β)(hd:∀d,o.dst=some d->d<σ.n){op:BinOp}{t t':TypeId}{x y:Operand}{x' y':Opd}(ho:o.op=.binOp op t x y t')
  (hx:ai x=some x') (hy:ai y=some y') {k:IntKind} {m n:Int} (hv:val σ x'=.val (.int k m)) (hw:val σ y'=.val (.int k n)) {u:Upd} (hu:MQ op k m n=some u) (hs:u.side) :
  cp P o a w (fun v w'=>cE w0 S0 M (σ.apply o.dst u) (a.put o.dst v) w'):=by
 have h1:a.eval x=.int k m:=by have:=ak h hx;rw[hv]at this;exact this
 have h2:a.eval y=.int k n:=by have:=ak h hy;rw[hw]at this;exact this
 have hg:(eqGuard op t x y (.int k m) (.int k n)).run P w=.ok () w:=gH (by simp) (by simp);cases op<;>simp only[MQ,E_,reduceCtorEq]at hu<;>subst hu
 case quo=>
  refine aq h hd ?_ rfl;have hs:n≠0:=hs;simp only[execOp,ho,h1,h2,Sem.run_bind,hg,Result.andThen_ok];simp[binOp,Op.intDiv,hs]
 case rem=>
  refine aq h hd ?_ rfl;have hs:n≠0:=hs;simp only[execOp,ho,h1,h2,Sem.run_bind,hg,Result.andThen_ok];simp[binOp,Op.intDiv,hs]
 case shl=>
  refine aq h hd ?_ rfl;have hs:0<=n:=hs;simp only[execOp,ho,h1,h2,Sem.run_bind,hg,Result.andThen_ok];simp only[binOp,Op.shift];rw[if_neg (by omega)];simp
 case shr=>
  refine aq h hd ?_ rfl;have hs:0<=n:=hs;simp only[execOp,ho,h1,h2,Sem.run_bind,hg,Result.andThen_ok];simp only[binOp,Op.shift];rw[if_neg (by omega)];simp
 all_goals
  refine aq h hd ?_ rfl;simp only[execOp,ho,h1,h2,Sem.run_bind,hg,Result.andThen_ok]
  first
   |(simp[binOp,Op.intArith,Op.intCmp];done)
   |(simp[binOp,Op.intArith,Op.intCmp];rfl)

theorem OR(h:SimG w0 S0 M σ a w S μ β)(hd:∀d,o.dst=some d->d<σ.n){op:BinOp}{t t':TypeId}{x y:Operand}{x' y':Opd}(ho:o.op=.binOp op t x y t')
  (hx:ai x=some x') (hy:ai y=some y') {m n:List UInt8} (hv:val σ x'=.val (.str m)) (hw:val σ y'=.val (.str n)) {u:Upd} (hu:MR op m n=some u) (hs:u.side) :
  cp P o a w (fun v w'=>cE w0 S0 M (σ.apply o.dst u) (a.put o.dst v) w'):=by
 have h1:a.eval x=.string ⟨m.toArray⟩:=by have:=ak h hx;rw[hv]at this;exact this
 have h2:a.eval y=.string ⟨n.toArray⟩:=by have:=ak h hy;rw[hw]at this;exact this
 have hg:(eqGuard op t x y (.string ⟨m.toArray⟩) (.string ⟨n.toArray⟩)).run P w=.ok () w:=gH (by simp) (by simp);have hb:(m==n)=decide (m=n):=by by_cases e:m=n<;>simp[e]
 cases op<;>simp only[MR,E_,reduceCtorEq]at hu<;>subst hu
 case add=>
  have hs:m.length+n.length<=9223372036854775807:=hs;refine aq h hd (v:=.string ⟨(m++n).toArray⟩) ?_ rfl;simp only[execOp,ho,h1,h2,Sem.run_bind,hg,Result.andThen_ok];simp only[binOp,Op.stringOp,xn,MS];rw[if_neg]
  ·simp
  ·have:IntKind.i64.max=9223372036854775807:=by decide
   omega
 all_goals
  refine aq h hd ?_ rfl;simp only[execOp,ho,h1,h2,Sem.run_bind,hg,Result.andThen_ok];simp[binOp,Op.stringOp,zi,hb]

theorem OS{t:TypeId}{u v:Value}{b:Bool}(he:(Op.equalIn 10000 t u v).run P w=.ok b w):∀op,op=.eql\/op=.neq->
  (binOp .eql t u v=do pure (.bool (<-Op.equal t u v)))->(binOp .neq t u v=do pure (.bool (!(<-Op.equal t u v))))->
  (binOp op t u v).run P w=.ok (.bool ((op == .neq) ^^ b)) w:=by
 intro op hop h1 h2;rcases hop with rfl|rfl
 ·rw[h1];simp only[Sem.run_bind,Op.equal,Op.maxDepth,he,Result.andThen_ok,Sem.run_pure];cases b<;>rfl
 ·rw[h2];simp only[Sem.run_bind,Op.equal,Op.maxDepth,he,Result.andThen_ok,Sem.run_pure];cases b<;>rfl

theorem oW(h:SimG w0 S0 M σ a w S μ β)(hd:∀d,o.dst=some d->d<σ.n){op:BinOp}{t t':TypeId}{x y:Operand}(ho:o.op=.binOp op t x y t')(hop:op=.eql\/op=.neq)
  {u v:Value} (hu:a.eval x=u) (hv:a.eval y=v) (hg:(eqGuard op t x y u v).run P w=.ok () w) {b:Bool} (he:(Op.equalIn 10000 t u v).run P w=.ok b w)
  (h1:binOp .eql t u v=do pure (.bool (<-Op.equal t u v))) (h2:binOp .neq t u v=do pure (.bool (!(<-Op.equal t u v)))) :
  cp P o a w (fun v w'=>cE w0 S0 M (σ.apply o.dst {v:=.val (.bool ((op == .neq) ^^ b)) }) (a.put o.dst v) w'):=by
 refine aq h hd (v:=.bool ((op == .neq) ^^ b)) ?_ rfl;simp only[execOp,ho,hu,hv,Sem.run_bind,hg,Result.andThen_ok,OS he op hop h1 h2,Sem.run_pure]

theorem RV(h:SimG w0 S0 M σ a w S μ β)(hd:∀d,o.dst=some d->d<σ.n){op:BinOp}{t t':TypeId}{x y:Operand}{x' y':Opd}(ho:o.op=.binOp op t x y t')(hop:op=.eql\/op=.neq)
  (ht:P.underlying t=some .bool) (hx:ai x=some x') (hy:ai y=some y') {m n:Bool} (hv:val σ x'=.val (.bool m)) (hw:val σ y'=.val (.bool n)) :
  cp P o a w (fun v w'=>cE w0 S0 M (σ.apply o.dst {v:=.val (.bool ((op == .neq) ^^ (m==n))) }) (a.put o.dst v) w'):=by
 have h1:a.eval x=.bool m:=by have:=ak h hx;rw[hv]at this;exact this
 have h2:a.eval y=.bool n:=by have:=ak h hy;rw[hw]at this;exact this
 exact oW h hd ho hop h1 h2 (gH (by simp) (by simp)) (run_equalIn_bool' w 9999 t m n ht) rfl rfl

theorem OT(h:SimG w0 S0 M σ a w S μ β)(hd:∀d,o.dst=some d->d<σ.n){t:TypeId}{x:Operand}{x':Opd}(hx:ai x=some x') :
  (∀ {k n},o.op=.unOp .neg t x->val σ x'=.val (.int k n)->cp P o a w (fun v w'=>cE w0 S0 M (σ.apply o.dst {v:=.val (.int k (k.wrap (0-n))) }) (a.put o.dst v) w'))/\
  (∀ {b},o.op=.unOp .not t x->val σ x'=.val (.bool b)->cp P o a w (fun v w'=>cE w0 S0 M (σ.apply o.dst {v:=.val (.bool (!b)) }) (a.put o.dst v) w')):=by
 refine⟨fun {k n} ho hv=>?_,fun {b} ho hv=>?_⟩
 ·have h1:a.eval x=.int k n:=by have:=ak h hx;rw[hv]at this;exact this
  exact aq h hd (v:=.int k (k.wrap (0-n))) (by simp only[execOp,ho,h1,Op.unary,Op.intArith];rfl) rfl
 ·have h1:a.eval x=.bool b:=by have:=ak h hx;rw[hv]at this;exact this
  exact aq h hd (v:=.bool (!b)) (by simp only[execOp,ho,h1,Op.unary];rfl) rfl

theorem Io(h:SimG w0 S0 M σ a w S μ β)(hd:∀d,o.dst=some d->d<σ.n){s t:TypeId}{x:Operand}{x':Opd}(ho:o.op=.convert s t x)(hx:ai x=some x') :
  (∀ {sk k k' n},P.underlying s=some (.int sk)->P.underlying t=some (.int k)->val σ x'=.val (.int k' n)->cp P o a w (fun v w'=>cE w0 S0 M (σ.apply o.dst {v:=.val (.int k (k.wrap n)) }) (a.put o.dst v) w'))/\
  (∀ {b},P.underlying s=some .string->P.underlying t=some .string->val σ x'=.val (.str b)->cp P o a w (fun v w'=>cE w0 S0 M (σ.apply o.dst {v:=.val (.str b) }) (a.put o.dst v) w')):=by
 refine⟨fun {sk k k' n} hs ht hv=>?_,fun {b} hs ht hv=>?_⟩
 ·have h1:a.eval x=.int k' n:=by have:=ak h hx;rw[hv]at this;exact this
  exact aq h hd (v:=.int k (k.wrap n)) (by simp[execOp,ho,h1,convert,run_underlying hs,run_underlying ht,Conv.intToInt]) rfl
 ·have h1:a.eval x=.string ⟨b.toArray⟩:=by have:=ak h hx;rw[hv]at this;exact this
  exact aq h hd (v:=.string ⟨b.toArray⟩) (by simp[execOp,ho,h1,convert,run_underlying hs,run_underlying ht]) rfl

theorem MT(d:Nat){t:TypeId}{ms:Array (String×TypeId)}(ht:P.underlying t=some (.interface ms))(ty:TypeId)(u:Value):(Op.equalIn (d+1) t (.iface ty u) .nilIface).run P w=.ok false w:=by
 simp[Op.equalIn,run_underlying ht]
theorem MU(d:Nat){t:TypeId}{ms:Array (String×TypeId)}(ht:P.underlying t=some (.interface ms)):(Op.equalIn (d+1) t .nilIface .nilIface).run P w=.ok true w:=by
 simp[Op.equalIn,run_underlying ht]
theorem MV(d:Nat){t e:TypeId}(ht:P.underlying t=some (.pointer e))(p:Addr):(Op.equalIn (d+1) t (.pointer (some p)) (.pointer none)).run P w=.ok false w:=by
 simp[Op.equalIn,run_underlying ht]
theorem MW(d:Nat){t e:TypeId}(ht:P.underlying t=some (.pointer e)):(Op.equalIn (d+1) t (.pointer none) (.pointer none)).run P w=.ok true w:=by
 simp[Op.equalIn,run_underlying ht]

theorem BO(h:SimG w0 S0 M σ a w S μ β)(hd:∀d,o.dst=some d->d<σ.n){op:BinOp}{t t':TypeId}{x:Operand}(ho:o.op=.binOp op t x (.const .nilIface) t')(hop:op=.eql\/op=.neq)
  {ms:Array (String×TypeId)} (ht:P.underlying t=some (.interface ms)) {b:Bool} (hv:(∃ty u,a.eval x=.iface ty u/\b=false)\/(a.eval x=.nilIface/\b=true)) :
  cp P o a w (fun v w'=>cE w0 S0 M (σ.apply o.dst {v:=.val (.bool ((op == .neq) ^^ b)) }) (a.put o.dst v) w'):=by
 rcases hv with⟨ty,u,h1,rfl⟩|⟨h1,rfl⟩
 ·refine oW h hd ho hop h1 rfl (gH (by simp) (by simp)) ?_ rfl rfl;exact MT 9999 ht ty u
 ·refine oW h hd ho hop h1 rfl ?_ ?_ rfl rfl
  ·rcases hop with rfl|rfl<;>simp[eqGuard,Act.eval]
  ·exact MU 9999 ht

theorem BP(h:SimG w0 S0 M σ a w S μ β)(hd:∀d,o.dst=some d->d<σ.n){op:BinOp}{t t':TypeId}{x:Operand}(ho:o.op=.binOp op t x (.const (.pointer none)) t')(hop:op=.eql\/op=.neq)
  {e:TypeId} (ht:P.underlying t=some (.pointer e)) {b:Bool} (hv:(∃p,a.eval x=.pointer (some p)/\b=false)\/(a.eval x=.pointer none/\b=true)) :
  cp P o a w (fun v w'=>cE w0 S0 M (σ.apply o.dst {v:=.val (.bool ((op == .neq) ^^ b)) }) (a.put o.dst v) w'):=by
 rcases hv with⟨p,h1,rfl⟩|⟨h1,rfl⟩
 ·refine oW h hd ho hop h1 rfl (gH (by simp) (by simp)) ?_ rfl rfl;exact MV 9999 ht p
 ·refine oW h hd ho hop h1 rfl (gH (by simp) (by simp)) ?_ rfl rfl;exact MW 9999 ht

theorem Ip(d:Nat){t e:TypeId}(ht:P.underlying t=some (.slice e))(p:Option Addr)(n c:Nat):(Op.equalIn (d+1) t (.slice p n c) (.slice none 0 0)).run P w=.ok p.isNone w:=by
 cases p<;>simp[Op.equalIn,run_underlying ht]
theorem Iq(h:SimG w0 S0 M σ a w S μ β)(hd:∀d,o.dst=some d->d<σ.n){op:BinOp}{t t':TypeId}{x:Operand}(ho:o.op=.binOp op t x (.const (.slice none 0 0)) t')(hop:op=.eql\/op=.neq)
  {e:TypeId} (ht:P.underlying t=some (.slice e)) {p:Option Addr} {n c:Nat} (hv:a.eval x=.slice p n c) :
  cp P o a w (fun v w'=>cE w0 S0 M (σ.apply o.dst {v:=.val (.bool ((op == .neq) ^^ p.isNone)) }) (a.put o.dst v) w')/\
  cp P o a w (fun v w'=>cE w0 S0 M (σ.apply o.dst {v:=.anyB }) (a.put o.dst v) w'):=by
 have hg:(eqGuard op t x (.const (.slice none 0 0)) (.slice p n c) (.slice none 0 0)).run P w=.ok () w:=gH (by simp) (by simp);refine⟨oW h hd ho hop hv rfl hg (Ip 9999 ht p n c) rfl rfl,aq h hd (v:=.bool ((op == .neq) ^^ p.isNone)) ?_ ⟨_,rfl⟩⟩;have e2:a.eval (.const (.slice none 0 0))=.slice none 0 0:=rfl;simp only[execOp,ho,hv,e2,Sem.run_bind,hg,Result.andThen_ok,OS (Ip 9999 ht p n c) op hop rfl rfl,Sem.run_pure]

/- A struct that is compared cell by cell. -/
theorem wD{t:TypeId}{n:Nat}(h:oU P t=some (some n)):∃d i,P.underlying t=some d/\P.info? t=some i/\i.size=n/\sq d=true:=by
 unfold oU at h;split at h
 ·next fs i h1 h2=>exact⟨_,i,h1,h2,by simpa using h,rfl⟩
 ·next m e i h1 h2=>exact⟨_,i,h1,h2,by simpa using h,rfl⟩
 ·next d i h1 h2 _ _=>split at h<;>simp at h
 ·simp at h
theorem wE{t:TypeId}(h:oU P t=some none):∃d i,P.underlying t=some d/\P.info? t=some i/\i.size=1/\sq d=false:=by
 unfold oU at h;split at h
 ·simp at h
 ·simp at h
 ·next d i h3 h4 h1 h2=>
  split at h
  ·next h5=>
   refine⟨d,i,h1,h2,h5,?_⟩;cases d<;>first|rfl|(exact absurd rfl (h3 _))|(exact absurd rfl (h4 _ _))
  ·simp at h
 ·simp at h
theorem uy{t:TypeId}{d:TypeDesc}(h:P.underlying t=some d)(w:World):(isAgg t).run P w=.ok (sq d) w:=by
 unfold isAgg;rw[Sem.run_bind,run_underlying h];cases d<;>rfl
theorem cK{t:TypeId}{n:Nat}(h:dd P t=some n)(w:World):(sizeOf t).run P w=.ok n w:=by
 unfold dd at h;cases hi:P.info? t with
 |none=>rw[hi]at h;simp at h
 |some i=>rw[hi]at h;simp at h;simp[sizeOf,typeInfo,hi,h]
theorem Ft{t:TypeId}{i:TypeInfo}(h:P.info? t=some i)(w:World):(sizeOf t).run P w=.ok i.size w:=by
 simp[sizeOf,typeInfo,h]

end
end Go.Vs
set_option linter.unusedVariables false
set_option linter.unusedSimpArgs false
namespace Go.Vs

theorem BQ:∀ {ks rs:List LK} {xs ys:List IV} {b:Bool},eqL (ks++rs) xs ys=some b->
  ∃b1 b2,eqL ks (xs.take ks.length) (ys.take ks.length)=some b1/\eqL rs (xs.drop ks.length) (ys.drop ks.length)=some b2/\b=(b1&&b2)
 |[],rs,xs,ys,b,h=>⟨true,b,by simp[eqL],by simpa using h,by simp⟩
 |k::ks,rs,[],ys,b,h=>by simp[eqL]at h
 |k::ks,rs,x::xs,[],b,h=>by simp[eqL]at h
 |k::ks,rs,x::xs,y::ys,b,h=>by
  simp only[List.cons_append,eqL]at h;split at h
  ·next c d h1 h2=>
   simp only[E_]at h;subst h;obtain⟨b1,b2,h3,h4,rfl⟩:=BQ h2;refine⟨c&&b1,b2,?_,?_,?_⟩
   ·simp only[List.length_cons,List.take_succ_cons,eqL,h1,h3]
   ·simpa using h4
   ·rw[Bool.and_assoc]
  ·simp at h
theorem BR:∀ {ks:List LK} {xs ys:List IV} {b:Bool},eqL ks xs ys=some b->xs.length=ks.length/\ys.length=ks.length
 |[],[],[],_,_=>⟨rfl,rfl⟩
 |[],[],_::_,_,h=>by simp[eqL]at h
 |[],_::_,_,_,h=>by simp[eqL]at h
 |_::_,[],_,_,h=>by simp[eqL]at h
 |_::_,_::_,[],_,h=>by simp[eqL]at h
 |k::ks,x::xs,y::ys,b,h=>by
  simp only[eqL]at h;split at h
  ·next c d h1 h2=>
   have:=BR h2;simp[this]
  ·simp at h

section
variable {P:Program} {w:World} {S:aO}

theorem n9{t:TypeId}{n:Nat}{d:TypeDesc}(hu:P.underlying t=some d)(hd:sq d=true)(hs:dd P t=some n)(cs:Array Value)(off:Nat) :
  (part t cs off).run P w=.ok (.agg (cs.extract off (off+n))) w:=by
 unfold part;simp only[Sem.run_bind,uy hu,hd,Result.andThen_ok,if_true,cK hs,Sem.run_pure]
theorem nc{t:TypeId}{d:TypeDesc}(hu:P.underlying t=some d)(hd:sq d=false)(cs:Array Value)(off:Nat){v:Value}(hv:cs[off]?=some v) :
  (part t cs off).run P w=.ok v w:=by
 unfold part;simp only[Sem.run_bind,uy hu,hd,Result.andThen_ok,Bool.false_eq_true,if_false,hv,Sem.run_pure]

theorem ae.extract{xs:List IV}{us:Array Value}(h:ae w S xs us.toList)(off n:Nat):ae w S ((xs.drop off).take n) (us.extract off (off+n)).toList:=by
 have:=ae.take n (ae.drop off h);rw[Array.toList_extract,List.extract_eq_take_drop,Nat.add_sub_cancel_left];exact this

def OU(P:Program)(w:World)(S:aO)(d:Nat)(t:TypeId)(ks:List LK):Prop:=
 ∀(e:Nat) (xs ys:List IV) (us vs:Array Value) (off:Nat) (b:Bool),ae w S xs us.toList->ae w S ys vs.toList->
  eqL ks ((xs.drop off).take ks.length) ((ys.drop off).take ks.length)=some b->
  ∃u v,(part t us off).run P w=.ok u w/\(part t vs off).run P w=.ok v w/\(Op.equalIn (d+e) t u v).run P w=.ok b w

theorem qH{d:Nat}(hd:∀t ks,pn P d t=some ks->OU P w S d t ks):∀(fs:List Field) (off:Nat) (ks:List LK),kv (pn P d) off fs=some ks->
  ∀(e:Nat) (xs ys:List IV) (us vs:Array Value) (b:Bool),ae w S xs us.toList->ae w S ys vs.toList->eqL ks (xs.drop off) (ys.drop off)=some b->
  (Op.eqFields (d+e) us vs fs).run P w=.ok b w
 |[],off,ks,hk,e,xs,ys,us,vs,b,_,_,hb=>by
  simp only[kv,E_]at hk;subst hk
  have:b=true:=by
   unfold eqL at hb;split at hb<;>simp_all
  subst this;simp[Op.eqFields]
 |f::fs,off,ks,hk,e,xs,ys,us,vs,b,hx,hy,hb=>by
  simp only[kv]at hk;split at hk
  ·simp at hk
  ·next hn=>
   split at hk
   ·simp at hk
   ·next ho=>
    have ho:f.offset=off:=by simpa using ho
    split at hk
    ·next k1 h1=>
     split at hk
     ·next k2 h2=>
      simp only[E_]at hk;subst hk;obtain⟨b1,b2,e1,e2,rfl⟩:=BQ hb;obtain⟨u,v,r1,r2,r3⟩:=hd _ _ h1 e xs ys us vs off b1 hx hy e1;have ih:=qH hd fs (off+k1.length) k2 h2 e xs ys us vs b2 hx hy (by simpa[List.drop_drop]using e2);simp only[Op.eqFields,ne_eq,hn,not_false_eq_true,if_true,Sem.run_bind,ho,r1,r2,Result.andThen_ok,r3,Sem.run_ite];cases b1
      ·simp
      ·simpa using ih
     ·simp at hk
    ·simp at hk

theorem OV(p q:List UInt8):(p==q)=decide (p=q):=by by_cases h:p=q<;>simp[h]
theorem zj{d:TypeDesc}{t:TypeId}{k:LK}(hu:P.underlying t=some d)(hd:sq d=false){xs ys:List IV}{us vs:Array Value}{off:Nat}{b:Bool}
  (hx:ae w S xs us.toList) (hy:ae w S ys vs.toList) (hb:eqL [k] ((xs.drop off).take 1) ((ys.drop off).take 1)=some b) :
  ∃x y u v,W8 k x y=some b/\nJ w S x u/\nJ w S y v/\(part t us off).run P w=.ok u w/\(part t vs off).run P w=.ok v w:=by
 have hl:=BR hb;cases hxs:xs.drop off with
 |nil=>rw[hxs]at hl;simp at hl
 |cons x xr=>
  cases hys:ys.drop off with
  |nil=>rw[hys]at hl;simp at hl
  |cons y yr=>
   have h1:xs[off]?=some x:=by have:=congrArg (·[0]?) hxs;simpa using this
   have h2:ys[off]?=some y:=by have:=congrArg (·[0]?) hys;simpa using this
   obtain⟨u,hu1,_,hu2⟩:=ae.get hx h1;obtain⟨v,hv1,_,hv2⟩:=ae.get hy h2;refine⟨x,y,u,v,?_,hu2,hv2,nc hu hd us off (by simpa using hu1),nc hu hd vs off (by simpa using hv1)⟩;rw[hxs,hys]at hb;simp only[List.take_succ_cons,List.take_zero,eqL]at hb;split at hb
   ·next c d h3 h4=>
    simp only[E_]at h4 hb;subst h4;subst hb;simpa using h3
   ·simp at hb

theorem xo:∀(d:Nat) (t:TypeId) (ks:List LK),pn P d t=some ks->OU P w S d t ks
 |0,t,ks,h=>by simp[pn]at h
 |d+1,t,ks,h=>by
  intro e xs ys us vs off b hx hy hb;simp only[pn]at h;split at h
  ·next hu=>
   split at h
   ·simp only[E_]at h;subst h;obtain⟨x,y,u,v,h1,h2,h3,h4,h5⟩:=zj hu rfl hx hy hb;refine⟨u,v,h4,h5,?_⟩;unfold W8 at h1;split at h1<;>(try (simp at h1;done))<;>(try (rename_i hk;simp at hk;done));simp only[E_]at h1;subst h1;obtain rfl:u=_:=h2;obtain rfl:v=_:=h3;rw[show d+1+e=(d+e)+1 by omega,run_equalIn_bool' w _ t _ _ hu];congr 1
   ·simp at h
  ·next k0 hu=>
   split at h
   ·simp only[E_]at h;subst h;obtain⟨x,y,u,v,h1,h2,h3,h4,h5⟩:=zj hu rfl hx hy hb;refine⟨u,v,h4,h5,?_⟩;unfold W8 at h1;split at h1<;>(try (simp at h1;done))<;>(try (rename_i hk;simp at hk;done));split at h1
    ·next hkk=>
     subst hkk;simp only[E_]at h1;subst h1;obtain rfl:u=_:=h2;obtain rfl:v=_:=h3;rw[show d+1+e=(d+e)+1 by omega,run_equalIn_int w _ t _ k0 _ _ hu];congr 1
    ·simp at h1
   ·simp at h
  ·next hu=>
   split at h
   ·simp only[E_]at h;subst h;obtain⟨x,y,u,v,h1,h2,h3,h4,h5⟩:=zj hu rfl hx hy hb;refine⟨u,v,h4,h5,?_⟩;unfold W8 at h1;split at h1<;>(try (simp at h1;done))<;>(try (rename_i hk;simp at hk;done));simp only[E_]at h1;subst h1;obtain rfl:u=_:=h2;obtain rfl:v=_:=h3;rw[show d+1+e=(d+e)+1 by omega,run_equalIn_string w _ t _ _ hu,zi,zi,OV]
   ·simp at h
  ·next fs hu=>
   split at h
   ·simp at h
   ·next hst=>
    split at h
    ·next k1 hk=>
     split at h
     ·next hsz=>
      simp only[E_]at h;subst h;refine⟨_,_,n9 hu rfl hsz us off,n9 hu rfl hsz vs off,?_⟩;have hf:P.underlying t=some (.struct (P.fieldsOf t)):=by simp[Program.fieldsOf,hu]
      have hfs:P.fieldsOf t=fs:=by simp[Program.fieldsOf,hu]
      rw[show d+1+e=(d+e)+1 by omega,run_equalIn_struct w _ t _ _ hf (by simpa using hst),hfs];exact qH (xo d) fs.toList 0 k1 hk e _ _ _ _ b (hx.extract off _) (hy.extract off _) (by simpa using hb)
     ·simp at h
    ·simp at h
  ·simp at h

end
end Go.Vs
set_option linter.unusedVariables false
set_option linter.unusedSimpArgs false
namespace Go.Vs

theorem gc(b o n:Nat):(⟨b,o,none⟩:Addr).add n=⟨b,o+n,none⟩:=by
 unfold Addr.add;split
 ·next h=>subst h;rfl
 ·rfl

section
variable {P:Program} {w0 w:World} {S0 S:aO} {M:Ctx} {σ:St} {a:Act} {μ:Nat->Value} {β:Nat->Option Nat} {o:Oper}

theorem ka{t:TypeId}{n:Nat}(h:oU P t=some (some n)){b off:Nat}{vs:List Value}(hl:vs.length=n)(hc:∀j v,vs[j]?=some v->w.cell? ⟨b,off+j,none⟩=some v) :
  (loadVar t ⟨b,off,none⟩).run P w=.ok (.agg vs.toArray) w:=by
 obtain⟨d,i,h1,h2,h3,h4⟩:=wD h;have:=run_loadCells_list (P:=P) w ⟨b,off,none⟩ vs (fun j v hj=>by rw[gc];exact hc j v hj);unfold loadVar;rw[hl]at this;subst h3;simp only[Sem.run_bind,uy h1,h4,Result.andThen_ok,if_true,Ft h2,this,Sem.run_pure]
theorem m8{t:TypeId}(h:oU P t=some none){ad:Addr}{v:Value}(hc:w.cell? ad=some v):(loadVar t ad).run P w=.ok v w:=by
 obtain⟨d,i,h1,h2,h3,h4⟩:=wE h;unfold loadVar;simp only[Sem.run_bind,uy h1,h4,Result.andThen_ok,Bool.false_eq_true,if_false,run_load,hc]

theorem Fu(h:SimG w0 S0 M σ a w S μ β){id cv s:Nat}{rows:List (List IV)}(hl:ac σ.objs id=some (.arr cv s rows)){b cap:Nat}(hm:μ id=.slice (some ⟨b,0,none⟩) rows.length cap)(hpos:rows≠[]\/0<cap) :
  ∃vs e fr,β id=some b/\w.heap[b]?=some (.cells vs e fr)/\m5 fr vs.size/\vs.size=cap*s/\rows.length<=cap/\(∀r∈rows,r.length=s)/\ae w S rows.flatten (vs.toList.take (rows.length*s)):=by
 rcases h.objs id _ hl with⟨hr,_,x,hx⟩|⟨b',cap',vs,e,fr,h1,h2,h3,h4,h5,h6,h7,h8⟩
 ·exfalso;rw[hm]at hx;simp only[Value.slice.injEq]at hx;rcases hpos with hp|hp
  ·exact hp hr
  ·omega
 ·rw[hm]at h2;simp only[Value.slice.injEq,E_,Addr.mk.injEq,and_true]at h2;obtain⟨rfl,_,rfl⟩:=h2;exact⟨vs,e,fr,h1,h3,h4,h5,h6,h7,h8⟩

theorem su:∀ {rows:List (List IV)} {s i:Nat} {r:List IV},(∀r∈rows,r.length=s)->rows[i]?=some r->(rows.flatten.drop (i*s)).take s=r
 |[],_,_,_,_,h=>by simp at h
 |r0::rs,s,0,r,hl,h=>by
  have:r0=r:=by simpa using h
  subst this;have h1:=hl r0 (by simp);simp only[List.flatten_cons,Nat.zero_mul,List.drop_zero];rw[<-h1,List.take_left'];rfl
 |r0::rs,s,i+1,r,hl,h=>by
  have h1:=hl r0 (by simp);have ih:=su (rows:=rs) (s:=s) (i:=i) (r:=r) (fun x hx=>hl x (List.mem_cons_of_mem _ hx)) (by simpa using h);simp only[List.flatten_cons];rw[show(i+1)*s=r0.length+i*s by rw[h1,Nat.add_mul];omega,List.drop_append,List.drop_eq_nil_of_le (by omega)];simpa using ih

theorem RW(h:SimG w0 S0 M σ a w S μ β){id cv s i:Nat}{rows:List (List IV)}{row:List IV}(hl:ac σ.objs id=some (.arr cv s rows)){b cap:Nat}(hm:μ id=.slice (some ⟨b,0,none⟩) rows.length cap)(hr:rows[i]?=some row) :
  ∃us:List Value,ae w S row us/\row.length=s/\∀j v,us[j]?=some v->w.cell? ⟨b,i*s+j,none⟩=some v:=by
 have hi:i<rows.length:=by
  rcases Nat.lt_or_ge i rows.length with hh|hh
  ·exact hh
  ·simp[List.getElem?_eq_none hh]at hr
 obtain⟨vs,e,fr,_,h3,_,h5,h6,h7,h8⟩:=Fu h hl hm (.inl (by intro e;subst e;simp at hi));have hrow:row.length=s:=h7 row (List.mem_of_getElem? hr);have hx:=ae.take s (ae.drop (i*s) h8);rw[su h7 hr]at hx;refine⟨_,hx,hrow,fun j v hj=>?_⟩;rw[dI h3]
 have hlt:i*s+j<rows.length*s:=by
  have h9:=ae.length hx
  have hj':j<s:=by
   rcases Nat.lt_or_ge j s with hh|hh
   ·exact hh
   ·rw[List.getElem?_take,if_neg (by omega)]at hj;simp at hj
  have:(i+1)*s<=rows.length*s:=Nat.mul_le_mul_right _ hi;rw[Nat.add_mul]at this;omega
 rw[List.getElem?_take]at hj;split at hj
 ·rw[List.getElem?_drop,List.getElem?_take,if_pos hlt,Array.getElem?_toList]at hj;simpa using hj
 ·simp at hj

theorem j7(h:SimG w0 S0 M σ a w S μ β){id off:Nat}{cells:List SV}(hl:ac σ.objs id=some (.box cells)){v:Value}(hr:ar w S μ σ.objs (.loc id off) v) :
  ∃b vs e fr,β id=some b/\μ id=.pointer (some ⟨b,0,none⟩)/\v=.pointer (some ⟨b,off,none⟩)/\w.heap[b]?=some (.cells vs e fr)/\m5 fr vs.size/\aj w S μ σ.objs cells vs.toList:=by
 obtain⟨b,hm,rfl⟩:=hr _ hl;obtain⟨b',us,e,fr,hb,hm',hh,hf,hs⟩:=h.objs id _ hl;obtain rfl:b'=b:=by rw[hm]at hm';simpa using hm'.symm
 exact⟨b',us,e,fr,hb,hm,rfl,hh,hf,hs⟩

theorem OW(h:SimG w0 S0 M σ a w S μ β)(hd:∀d,o.dst=some d->d<σ.n){t:TypeId}{x:Operand}{x':Opd}{g:Option Nat}(ho:o.op=.load t x)(hx:ai x=some x')(hg:oU P t=some g)
  {u:Upd} (hu:pq σ g (val σ x')=some u) (hs:u.side):cp P o a w (fun v w'=>cE w0 S0 M (σ.apply o.dst u) (a.put o.dst v) w'):=by
 have hrel:=ak h hx;unfold pq at hu;split at hu
 ·next cells heq=>
  rw[heq]at hrel;obtain⟨b,off,hv,hcells⟩:=hrel;obtain⟨vs,hr,hc⟩:=aH.vals hcells;split at hu
  ·next n=>
   obtain rfl:=O_ hu;have hs:n<=cells.length:=hs;refine aq h hd (v:=.agg (vs.take n).toArray) ?_ ⟨(vs.take n).toArray,rfl,by simpa using ae.take n hr⟩;have hlen:(vs.take n).length=n:=by rw[List.length_take,ae.length hr];omega
   simp only[execOp,ho,hv,Instr.loadAt,Instr.sureAddr,Sem.run_bind,Sem.run_pure,Result.andThen_ok]
   rw[ka hg hlen (fun j v hj=>hc j v (by
    rw[List.getElem?_take]at hj;split at hj
    ·exact hj
    ·simp at hj))]
   rfl
  ·split at hu
   ·next c cs=>
    obtain rfl:=O_ hu;obtain⟨v,h1,_,h2⟩:=ae.get (j:=0) hr rfl;refine aq h hd (v:=v) ?_ h2;simp only[execOp,ho,hv,Instr.loadAt,Instr.sureAddr,Sem.run_bind,Sem.run_pure,Result.andThen_ok];rw[m8 hg (v:=v) (by simpa using hc 0 v h1)];rfl
   ·simp at hu
 ·next id off heq=>
  rw[heq]at hrel;split at hu
  ·next cells hl=>
   obtain⟨b,vs,e,fr,_,_,hv,hh,_,hr⟩:=j7 h hl hrel;split at hu
   ·next n=>
    obtain rfl:=O_ hu;have hs:off+n<=cells.length:=hs;have hr':=aj.take n (aj.drop off hr);refine aq h hd (v:=.agg ((vs.toList.drop off).take n).toArray) ?_ (k9 hr')
    have hlen:((vs.toList.drop off).take n).length=n:=by
     have:=aj.length hr;rw[List.length_take,List.length_drop];omega
    simp only[execOp,ho,hv,Instr.loadAt,Instr.sureAddr,Sem.run_bind,Sem.run_pure,Result.andThen_ok]
    rw[ka hg hlen (fun j v hj=>by
     rw[List.getElem?_take]at hj;split at hj
     ·rw[List.getElem?_drop,Array.getElem?_toList]at hj;rw[dI hh];exact hj
     ·simp at hj)]
    rfl
   ·split at hu
    ·next c hc=>
     obtain rfl:=O_ hu;obtain⟨v,h1,_,h2⟩:=aj.get hr hc;refine aq h hd (v:=v) ?_ h2;simp only[execOp,ho,hv,Instr.loadAt,Instr.sureAddr,Sem.run_bind,Sem.run_pure,Result.andThen_ok];rw[m8 hg (v:=v) (by rw[dI hh];rw[Array.getElem?_toList]at h1;exact h1)];rfl
    ·simp at hu
  ·simp at hu
 ·next id ver i off heq=>
  rw[heq]at hrel;split at hu
  ·next cv s rows hl=>
   split at hu
   ·next hver=>
    have hver:ver=cv:=by simpa using hver
    obtain⟨_,hr0⟩:=hrel _ _ _ hl;obtain⟨b,cap,hm,hv⟩:=hr0 hver;split at hu
    ·next row hrow=>
     obtain⟨us,hr,hlen,hc⟩:=RW h hl hm hrow;split at hu
     ·next n=>
      obtain rfl:=O_ hu;have hs:off+n<=row.length:=hs;refine aq h hd (v:=.agg ((us.drop off).take n).toArray) ?_ ⟨_,rfl,by simpa using ae.take n (ae.drop off hr)⟩
      have hl2:((us.drop off).take n).length=n:=by
       have:=ae.length hr;rw[List.length_take,List.length_drop];omega
      simp only[execOp,ho,hv,Instr.loadAt,Instr.sureAddr,Sem.run_bind,Sem.run_pure,Result.andThen_ok]
      rw[ka hg hl2 (fun j v hj=>by
       rw[List.getElem?_take]at hj;split at hj
       ·rw[List.getElem?_drop]at hj;have:=hc _ _ hj
        rwa[<-Nat.add_assoc]at this
       ·simp at hj)]
      rfl
     ·split at hu
      ·next c hcc=>
       obtain rfl:=O_ hu;obtain⟨v,h1,_,h2⟩:=ae.get hr hcc;refine aq h hd (v:=v) ?_ h2;simp only[execOp,ho,hv,Instr.loadAt,Instr.sureAddr,Sem.run_bind,Sem.run_pure,Result.andThen_ok];rw[m8 hg (v:=v) (hc _ _ h1)];rfl
      ·simp at hu
    ·simp at hu
   ·simp at hu
  ·simp at hu
 ·simp at hu

theorem BS{b off:Nat}{f:Field}{n:Nat}(hs:dd P f.type=some n)(hn:n≠0):(fieldPlace ⟨b,off,none⟩ f).run P w=.ok ⟨b,off+f.offset,none⟩ w:=by
 unfold fieldPlace;simp only[Sem.run_bind,cK hs,Result.andThen_ok,hn,if_false,Sem.run_pure,gc]

theorem Ev(h:SimG w0 S0 M σ a w S μ β)(hd:∀d,o.dst=some d->d<σ.n){t:TypeId}{fs:Array Field}{f:Nat}{g:Field}{n:Nat}{x:Operand}{x':Opd}(ho:o.op=.fieldAddr t x f)
  (ht:P.underlying t=some (.struct fs)) (hf:fs[f]?=some g) (hsz:dd P g.type=some n) (hn:n≠0) (hx:ai x=some x') {u:Upd} (hu:ev σ o.dst (.fieldAddr g.offset x')=some u) :
  cp P o a w (fun v w'=>cE w0 S0 M (σ.apply o.dst u) (a.put o.dst v) w'):=by
 have hrel:=ak h hx
 have hrun:∀ {b off:Nat},a.eval x=.pointer (some ⟨b,off,none⟩)->(execOp a.eval o).run P w=.ok (.value (.pointer (some ⟨b,off+g.offset,none⟩))) w:=by
  intro b off hv;simp only[execOp,ho,hv,Instr.fieldAt,Sem.run_bind,run_underlying ht,Result.andThen_ok,hf,Instr.sureAddr,Sem.run_pure,BS hsz hn]
 simp only[ev]at hu;split at hu
 ·next cells heq=>
  rw[heq]at hrel;obtain⟨b,off,hv,hcells⟩:=hrel;obtain rfl:=O_ hu;exact aq h hd (hrun hv) ⟨b,off+g.offset,rfl,aH.drop _ hcells⟩
 ·next id off heq=>
  rw[heq]at hrel;split at hu
  ·next cells hl=>
   obtain rfl:=O_ hu;obtain⟨b,vs,e,fr,_,hm,hv,_,_,_⟩:=j7 h hl hrel;exact aq h hd (hrun hv) (fun cells' hl'=>⟨b,hm,rfl⟩)
  ·simp at hu
 ·next id ver i off heq=>
  rw[heq]at hrel;split at hu
  ·next cv s rows hl=>
   split at hu
   ·next hver=>
    have hver:ver=cv:=by simpa using hver
    obtain⟨hle,hr0⟩:=hrel _ _ _ hl;obtain⟨b,cap,hm,hv⟩:=hr0 hver;obtain rfl:=O_ hu;refine aq h hd (hrun hv) (fun cv' s' rows' hl'=>?_);rw[hl]at hl';simp only[E_,Ob.arr.injEq]at hl';obtain⟨rfl,rfl,rfl⟩:=hl';exact⟨hle,fun _=>⟨b,cap,hm,by rw[Nat.add_assoc]⟩⟩
   ·simp at hu
  ·simp at hu
 ·simp at hu

theorem Ir(h:SimG w0 S0 M σ a w S μ β)(hd:∀d,o.dst=some d->d<σ.n){ft:TypeId}{g:Option Nat}(hg:oU P ft=some g){off:Nat}{sv:SV}{v:Value}(hrel:ar w S μ σ.objs sv v)
  (hrun:∀vs u,v=.agg vs->(part ft vs off).run P w=.ok u w->(execOp a.eval o).run P w=.ok (.value u) w) {u:Upd}
  (hu:wC off g sv=some u) :
  cp P o a w (fun v w'=>cE w0 S0 M (σ.apply o.dst u) (a.put o.dst v) w'):=by
 unfold wC at hu;split at hu
 ·next cells=>
  obtain⟨vs,rfl,hr⟩:=hrel;split at hu
  ·next n=>
   obtain rfl:=O_ hu;obtain⟨d,i,h1,h2,h3,h4⟩:=wD hg;have hsz:dd P ft=some n:=by simp[dd,h2,h3]
   exact aq h hd (hrun vs _ rfl (n9 h1 h4 hsz vs off)) ⟨_,rfl,hr.extract off n⟩
  ·split at hu
   ·next c hc=>
    obtain rfl:=O_ hu;obtain⟨v,h5,_,h6⟩:=ae.get hr hc;obtain⟨d,i,h1,h2,h3,h4⟩:=wE hg;exact aq h hd (hrun vs _ rfl (nc h1 h4 vs off (by simpa using h5))) h6
   ·simp at hu
 ·next cells=>
  obtain⟨vs,rfl,hr⟩:=hrel;split at hu
  ·next n=>
   obtain rfl:=O_ hu;obtain⟨d,i,h1,h2,h3,h4⟩:=wD hg;have hsz:dd P ft=some n:=by simp[dd,h2,h3]
   refine aq h hd (hrun vs _ rfl (n9 h1 h4 hsz vs off)) ?_;have:=k9 (aj.take n (aj.drop off hr))
   have he:((vs.toList.drop off).take n).toArray=vs.extract off (off+n):=by
    apply Array.toList_inj.1;rw[Array.toList_extract,List.extract_eq_take_drop,Nat.add_sub_cancel_left]
   rw[he]at this;exact this
  ·split at hu
   ·next c hc=>
    obtain rfl:=O_ hu;obtain⟨v,h5,_,h6⟩:=aj.get hr hc;obtain⟨d,i,h1,h2,h3,h4⟩:=wE hg;exact aq h hd (hrun vs _ rfl (nc h1 h4 vs off (by simpa using h5))) h6
   ·simp at hu
 ·simp at hu

theorem MX(h:SimG w0 S0 M σ a w S μ β)(hd:∀d,o.dst=some d->d<σ.n){t:TypeId}{fs:Array Field}{f:Nat}{fg:Field}{g:Option Nat}{x:Operand}{x':Opd}(ho:o.op=.field t x f)
  (ht:P.underlying t=some (.struct fs)) (hf:fs[f]?=some fg) (hg:oU P fg.type=some g) (hx:ai x=some x') {u:Upd} (hu:ev σ o.dst (.field fg.offset g x')=some u) :
  cp P o a w (fun v w'=>cE w0 S0 M (σ.apply o.dst u) (a.put o.dst v) w'):=by
 refine Ir h hd hg (ak h hx) ?_ hu;intro vs u hv hrun;simp only[execOp,ho,hv,Instr.field,Sem.run_bind,run_underlying ht,Result.andThen_ok,hf,asAgg,Sem.run_pure,hrun]

theorem Is(h:SimG w0 S0 M σ a w S μ β)(hd:∀d,o.dst=some d->d<σ.n){x:Operand}{x':Opd}{i:Nat}(ho:o.op=.extract x i)(hx:ai x=some x'){u:Upd}(hu:ev σ o.dst (.extract x' i)=some u) :
  cp P o a w (fun v w'=>cE w0 S0 M (σ.apply o.dst u) (a.put o.dst v) w'):=by
 have hrel:=ak h hx;simp only[ev]at hu;split at hu
 ·next vs heq=>
  rw[heq]at hrel;obtain⟨us,hv,hr⟩:=hrel;split at hu
  ·next v hc=>
   obtain rfl:=O_ hu;obtain⟨v',h1,h2⟩:=bc.get hr hc;refine aq h hd (v:=v') ?_ h2;have h1':us[i]?=some v':=by simpa using h1
   simp only[execOp,ho,hv,Instr.extract,h1',Sem.run_bind,Sem.run_pure,Result.andThen_ok]
  ·simp at hu
 ·next vs heq=>
  rw[heq]at hrel;obtain⟨us,hv,hr⟩:=hrel;split at hu
  ·next v hc=>
   obtain rfl:=O_ hu;obtain⟨v',h1,h2⟩:=aQ.get hr hc;refine aq h hd (v:=v') ?_ h2;have h1':us[i]?=some v':=by simpa using h1
   simp only[execOp,ho,hv,Instr.extract,h1',Sem.run_bind,Sem.run_pure,Result.andThen_ok]
  ·simp at hu
 ·simp at hu

theorem It(h:SimG w0 S0 M σ a w S μ β)(hd:∀d,o.dst=some d->d<σ.n){t:TypeId}{d:TypeDesc}{x:Operand}{x':Opd}(ho:o.op=.makeInterface t x)(ht:P.underlying t=some d)(hi:∀ms,d≠.interface ms)
  (hx:ai x=some x') {u:Upd} (hu:ev σ o.dst (.mkIface t x')=some u):cp P o a w (fun v w'=>cE w0 S0 M (σ.apply o.dst u) (a.put o.dst v) w'):=by
 have hrel:=ak h hx
 have hrun:(execOp a.eval o).run P w=.ok (.value (.iface t (a.eval x))) w:=by
  simp only[execOp,ho,Instr.makeInterface,Sem.run_bind,run_underlying ht,Result.andThen_ok];cases d<;>first|rfl|exact absurd rfl (hi _)
 simp only[ev]at hu;split at hu
 ·next v heq=>
  rw[heq]at hrel;obtain rfl:=O_ hu;exact aq h hd hrun ⟨_,rfl,hrel⟩
 ·next id off heq=>
  rw[heq]at hrel;obtain rfl:=O_ hu;exact aq h hd hrun ⟨_,rfl,hrel⟩
 ·simp at hu

theorem Kv(h:SimG w0 S0 M σ a w S μ β)(hd:∀d,o.dst=some d->d<σ.n){f:FuncId}{caps:Array Operand}{caps':List Opd}(ho:o.op=.makeFunc (.func f) #[] caps)(hc:cP caps.toList=some caps')
  {u:Upd} (hu:ev σ o.dst (.mkFunc f caps')=some u):cp P o a w (fun v w'=>cE w0 S0 M (σ.apply o.dst u) (a.put o.dst v) w'):=by
 have hrun:(execOp a.eval o).run P w=.ok (.value (.func (.func f) #[] (caps.map a.eval))) w:=by
  simp[execOp,ho,Instr.makeFunc]
 have hrel:=lv h hc;simp only[ev]at hu;split at hu
 ·obtain rfl:=O_ hu;refine aq h hd hrun ⟨_,rfl,?_⟩;simpa[bc,aQ]using hrel
 ·obtain rfl:=O_ hu;exact aq h hd hrun ⟨_,rfl,by simpa using hrel⟩

theorem A6{w:World}{S:aO}{μ:Nat->Value}{objs:List (Nat×Ob)} : ∀ {xs:List SV} {vs:List IV} {ws:List Value},dB xs=some vs->aQ w S μ objs xs ws->bc w S vs ws
 |[],vs,ws,h,hr=>by
  simp only[dB,E_]at h;subst h;exact hr
 |x::r,vs,ws,h,⟨v,vs',e,h1,h2⟩=>by
  cases x with
  |val iv=>
   simp only[dB]at h;cases hr:dB r with
   |none=>rw[hr]at h;simp at h
   |some us=>
    rw[hr]at h;simp only[E_]at h;subst h;exact⟨v,vs',e,h1,A6 hr h2⟩
  |_=>simp[dB]at h
theorem Iu(h:SimG w0 S0 M σ a w S μ β)(hd:∀d,o.dst=some d->d<σ.n){f:FuncId}{first:Array Operand}{first':List Opd}(ho:o.op=.makeFunc (.func f) first #[])(hc:cP first.toList=some first')
  {u:Upd} (hu:ev σ o.dst (.mkBound f first')=some u):cp P o a w (fun v w'=>cE w0 S0 M (σ.apply o.dst u) (a.put o.dst v) w'):=by
 have hrun:(execOp a.eval o).run P w=.ok (.value (.func (.func f) (first.map a.eval) #[])) w:=by
  simp[execOp,ho,Instr.makeFunc]
 have hrel:=lv h hc;simp only[ev]at hu;split at hu
 ·next vs hv=>
  obtain rfl:=O_ hu;exact aq h hd hrun ⟨_,rfl,by simpa using A6 hv hrel⟩
 ·simp at hu

theorem GI(h:SimG w0 S0 M σ a w S μ β)(hd:∀d,o.dst=some d->d<σ.n){x:Operand}{x':Opd}(ho:o.op=.nilCheck x)(hx:ai x=some x'){u:Upd}(hu:ev σ o.dst (.nilCheck x')=some u) :
  cp P o a w (fun v w'=>cE w0 S0 M (σ.apply o.dst u) (a.put o.dst v) w'):=by
 have hrel:=ak h hx;simp only[ev]at hu;split at hu
 ·next cs heq=>
  rw[heq]at hrel;obtain rfl:=O_ hu;obtain⟨b,off,hv,hcells⟩:=hrel;exact aq h hd (v:=.pointer (some ⟨b,off,none⟩)) (by simp only[execOp,ho,hv];rfl) ⟨b,off,rfl,hcells⟩
 ·next id off heq=>
  rw[heq]at hrel;split at hu
  ·next cells hl=>
   obtain rfl:=O_ hu;obtain⟨b,vs,e,fr,_,hm,hv,_,_,_⟩:=j7 h hl hrel;exact aq h hd (v:=.pointer (some ⟨b,off,none⟩)) (by simp only[execOp,ho,hv];rfl) (fun cells' hl'=>⟨b,hm,rfl⟩)
  ·simp at hu
 ·next f cs heq=>
  rw[heq]at hrel;obtain rfl:=O_ hu;obtain⟨vs,hv,hcells⟩:=hrel;exact aq h hd (v:=.func (.func f) #[] vs) (by simp only[execOp,ho,hv];rfl) ⟨vs,rfl,hcells⟩
 ·next f cs heq=>
  rw[heq]at hrel;obtain rfl:=O_ hu;obtain⟨vs,hv,hcells⟩:=hrel;exact aq h hd (v:=.func (.func f) #[] vs) (by simp only[execOp,ho,hv];rfl) ⟨vs,rfl,hcells⟩
 ·next id t heq=>
  rw[heq]at hrel;split at hu
  ·next cells hl=>
   obtain rfl:=O_ hu;obtain⟨b,hm,_,⟨h0,_⟩|hv⟩:=hrel _ hl
   ·cases h0
   ·exact aq h hd (v:=.pointer (some ⟨b,0,none⟩)) (by simp only[execOp,ho,hv];rfl) (fun cells' hl'=>⟨b,hm,rfl⟩)
  ·simp at hu
 ·simp at hu

theorem sw{x:SV}{v:Value}{n:Int}{objs:List (Nat×Ob)}(hr:ar w S μ objs x v)(h:Fs x=some n):∃k,v=.int k n:=by
 unfold Fs at h;split at h
 ·next k m=>
  obtain rfl:=O_ h;exact⟨k,hr⟩
 ·simp at h

theorem Ew(h:SimG w0 S0 M σ a w S μ β)(hd:∀d,o.dst=some d->d<σ.n){t e:TypeId}{s:Nat}{x i:Operand}{x' i':Opd}(ho:o.op=.indexAddr t x i)(ht:P.underlying t=some (.slice e))(hsz:dd P e=some s)
  (hx:ai x=some x') (hi:ai i=some i') {u:Upd} (hu:ev σ o.dst (.indexAddr s x' i')=some u) (hs:u.side):cp P o a w (fun v w'=>cE w0 S0 M (σ.apply o.dst u) (a.put o.dst v) w'):=by
 have hrel:=ak h hx;have hreli:=ak h hi;simp only[ev]at hu;split at hu
 ·next k n heqi=>
  rw[heqi]at hreli;have hiv:a.eval i=.int k n:=hreli
  have hrun:∀ {b off len cap:Nat},a.eval x=.slice (some ⟨b,off,none⟩) len cap->0<=n->n.toNat<len->(execOp a.eval o).run P w=.ok (.value (.pointer (some ⟨b,off+n.toNat*s,none⟩))) w:=by
   intro b off len cap hv h0 hlt;simp only[execOp,ho,hv,hiv,Instr.indexAt,asIntOf,Sem.run_bind,Sem.run_pure,Result.andThen_ok,run_underlying ht];rw[if_pos ⟨h0,by omega⟩];simp only[Sem.run_bind,cK hsz,Result.andThen_ok,Sem.run_pure,gc]
  split at hu
  ·next h0=>
   split at hu
   ·next rows heq=>
    rw[heq]at hrel;split at hu
    ·next row hrow=>
     obtain rfl:=O_ hu;have hs:row.length=s:=hs;obtain⟨ad,cap,hv,hle,hc⟩:=hrel
     have hlt:n.toNat<rows.length:=by
      rcases Nat.lt_or_ge n.toNat rows.length with hh|hh
      ·exact hh
      ·simp[List.getElem?_eq_none hh]at hrow
     obtain⟨b,off,s',rfl,hrows⟩:=hc (by intro e;subst e;simp at hlt);obtain⟨h1,h2⟩:=bq.get hrows hrow;have hss:s'=s:=h1.symm.trans hs;subst hss;exact aq h hd (hrun hv h0 hlt) ⟨b,_,rfl,h2⟩
    ·simp at hu
   ·next id ver heq=>
    rw[heq]at hrel;split at hu
    ·next cv s' rows hl=>
     split at hu
     ·next hver=>
      have hver:ver=cv:=by simpa using hver
      obtain rfl:=O_ hu;obtain⟨hlt,hss⟩:n.toNat<rows.length/\s'=s:=hs;subst hss;obtain⟨hle,hv0⟩:=hrel _ _ _ hl;have hv:=hv0 hver;rcases h.objs id _ hl with⟨hr,_,_⟩|⟨b,cap,vs,e',fr,h1,h2,_⟩
      ·subst hr;simp at hlt
      ·rw[h2]at hv;refine aq h hd (hrun hv h0 hlt) (fun cv' s'' rows' hl'=>?_);rw[hl]at hl';simp only[E_,Ob.arr.injEq]at hl';obtain⟨rfl,rfl,rfl⟩:=hl';exact⟨hle,fun _=>⟨b,cap,h2,by simp⟩⟩
     ·simp at hu
    ·simp at hu
   ·next id ver lo hi heq=>
    rw[heq]at hrel;split at hu
    ·next cv s' rows hl=>
     split at hu
     ·next hver=>
      obtain rfl:ver=cv:=by simpa using hver
      obtain rfl:=O_ hu;obtain⟨hlt,hss⟩:n.toNat<hi-lo/\s'=s:=hs;subst hss;obtain⟨hle,hv0⟩:=hrel _ _ _ hl;obtain⟨g1,g2,x1,cap,y1,g3,g4,g5,g6⟩:=hv0 rfl;obtain⟨b,k1,k2⟩:=g6 (by omega);rw[k2]at g4;refine aq h hd (hrun g4 h0 (by omega)) (fun cv' s'' rows' hl'=>?_);rw[hl]at hl';simp only[E_,Ob.arr.injEq]at hl';obtain⟨rfl,rfl,rfl⟩:=hl';exact⟨hle,fun _=>⟨b,cap,by rw[g3,k1],by simp[Nat.add_mul]⟩⟩
     ·simp at hu
    ·simp at hu
   ·simp at hu
  ·simp at hu
 ·simp at hu

theorem GJ(h:SimG w0 S0 M σ a w S μ β)(hd:∀d,o.dst=some d->d<σ.n){t e:TypeId}{len s:Nat}{x i:Operand}{x' i':Opd}(ho:o.op=.indexAddr t x i)(ht:P.underlying t=some (.array len e))(hsz:dd P e=some s)
  (hx:ai x=some x') (hi:ai i=some i') {u:Upd} (hu:ev σ o.dst (.indexArr len s x' i')=some u) (hs:u.side):cp P o a w (fun v w'=>cE w0 S0 M (σ.apply o.dst u) (a.put o.dst v) w'):=by
 have hrel:=ak h hx;have hreli:=ak h hi
 have hrun:∀ {b off:Nat} {k:IntKind} {n:Int},a.eval x=.pointer (some ⟨b,off,none⟩)->a.eval i=.int k n->0<=n->n<len->(execOp a.eval o).run P w=.ok (.value (.pointer (some ⟨b,off+n.toNat*s,none⟩))) w:=by
  intro b off k n hv hiv h0 hlt;simp only[execOp,ho,hv,hiv,Instr.indexAt,asIntOf,Sem.run_bind,Sem.run_pure,Result.andThen_ok,run_underlying ht,Instr.sureAddr];rw[if_pos ⟨h0,hlt⟩];simp only[Sem.run_bind,cK hsz,Result.andThen_ok,Sem.run_pure,gc]
 simp only[ev]at hu;split at hu
 ·next id off k n heq heqi=>
  rw[heq]at hrel;rw[heqi]at hreli;split at hu
  ·next cells hl=>
   obtain rfl:=O_ hu;obtain⟨h0,hlt⟩:0<=n/\n<len:=hs;obtain⟨b,vs,e',fr,_,hm,hv,_,_,_⟩:=j7 h hl hrel;exact aq h hd (hrun hv hreli h0 hlt) (fun cells' hl'=>⟨b,hm,rfl⟩)
  ·simp at hu
 ·next cells k n heq heqi=>
  rw[heq]at hrel;rw[heqi]at hreli;obtain rfl:=O_ hu;obtain⟨h0,hlt⟩:0<=n/\n<len:=hs;obtain⟨b,off,hv,hcells⟩:=hrel;exact aq h hd (hrun hv hreli h0 hlt) ⟨b,_,rfl,aH.drop _ hcells⟩
 ·simp at hu

theorem Kw(h:SimG w0 S0 M σ a w S μ β)(hd:∀d,o.dst=some d->d<σ.n){t:TypeId}{x i:Operand}{x' i':Opd}(ho:o.op=.index t x i)(ht:P.underlying t=some .string)
  (hx:ai x=some x') (hi:ai i=some i') {u:Upd} (hu:ev σ o.dst (.indexS x' i')=some u):cp P o a w (fun v w'=>cE w0 S0 M (σ.apply o.dst u) (a.put o.dst v) w'):=by
 have hrel:=ak h hx;have hreli:=ak h hi;simp only[ev]at hu;split at hu
 ·next s k n heq heqi=>
  rw[heq]at hrel;rw[heqi]at hreli;split at hu
  ·next h0=>
   split at hu
   ·next b hb=>
    obtain rfl:=O_ hu;refine aq h hd (v:=.int .u8 b.toNat) ?_ rfl;have hv:a.eval x=.string ⟨s.toArray⟩:=hrel;have hiv:a.eval i=.int k n:=hreli;simp only[execOp,ho,hv,hiv,Instr.index,asIntOf,Sem.run_bind,Sem.run_pure,Result.andThen_ok,run_underlying ht,h0,if_true,UH,hb]
   ·simp at hu
  ·simp at hu
 ·simp at hu

theorem Kx(h:SimG w0 S0 M σ a w S μ β)(hd:∀d,o.dst=some d->d<σ.n){t e:TypeId}{len s:Nat}{g:Option Nat}{x i:Operand}{x' i':Opd}(ho:o.op=.index t x i)(ht:P.underlying t=some (.array len e))(hg:oU P e=some g)(hsz:dd P e=some s)
  (hx:ai x=some x') (hi:ai i=some i') {u:Upd} (hu:ev σ o.dst (.indexA len s g x' i')=some u):cp P o a w (fun v w'=>cE w0 S0 M (σ.apply o.dst u) (a.put o.dst v) w'):=by
 have hrel:=ak h hx;have hreli:=ak h hi;simp only[ev]at hu;split at hu
 ·next k n heqi=>
  rw[heqi]at hreli;have hiv:a.eval i=.int k n:=hreli;split at hu
  ·next hb=>
   refine Ir (off:=n.toNat*s) h hd hg hrel (fun vs u hv hp=>?_) hu;simp only[execOp,ho,hv,hiv,Instr.index,asIntOf,Sem.run_bind,Sem.run_pure,Result.andThen_ok,run_underlying ht];rw[if_pos hb];simp only[Sem.run_bind,cK hsz,Result.andThen_ok,hp]
  ·simp at hu
 ·simp at hu

end
end Go.Vs
set_option linter.unusedVariables false
set_option linter.unusedSimpArgs false
namespace Go.Vs

section
variable {P:Program} {w0 w:World} {S0 S:aO} {M:Ctx} {σ:St} {a:Act} {μ:Nat->Value} {β:Nat->Option Nat} {o:Oper}

theorem fw{c:Call}{b:Builtin}(ho:o.op=.call c)(hb:c.callee=.builtin b) :
  ∃consts,execOp a.eval o=builtin b c.argTypes o.type consts (c.args.map a.eval):=by
 refine⟨c.args.map fun x=>match x with|.const _=>true|_=>false,?_⟩;simp only[execOp,ho,resolve,hb];rfl

theorem qI{α:Type}{x:α}{l:Array α}(h:l.toList=[x]):l = #[x]:=by
 apply Array.toList_inj.1;simpa using h
theorem qJ{α:Type}{x y:α}{l:Array α}(h:l.toList=[x,y]):l = #[x,y]:=by
 apply Array.toList_inj.1;simpa using h

theorem GK(h:SimG w0 S0 M σ a w S μ β)(hd:∀d,o.dst=some d->d<σ.n){c:Call}{t:TypeId}{d:TypeDesc}{x:Operand}{x':Opd}(ho:o.op=.call c)(hb:c.callee=.builtin .len)(hat:c.argTypes[0]?=some t)
  (hal:c.args.toList=[x]) (ht:P.underlying t=some d) (hx:ai x=some x') :
  (d=.string->∀u,ev σ o.dst (.lenS x')=some u->cp P o a w (fun v w'=>cE w0 S0 M (σ.apply o.dst u) (a.put o.dst v) w'))/\
  (∀e,d=.slice e->∀u,ev σ o.dst (.lenV x')=some u->cp P o a w (fun v w'=>cE w0 S0 M (σ.apply o.dst u) (a.put o.dst v) w'))/\
  (∀n e,d=.array n e->∀u,ev σ o.dst (.lenC n x')=some u->cp P o a w (fun v w'=>cE w0 S0 M (σ.apply o.dst u) (a.put o.dst v) w')):=by
 have hrel:=ak h hx;obtain⟨consts,hex⟩:=fw (a:=a) ho hb;have hargs:=qI hal;refine⟨?_,?_,?_⟩
 ·rintro rfl u hu;simp only[ev]at hu;split at hu
  ·next s heq=>
   rw[heq]at hrel;obtain rfl:=O_ hu;have hv:a.eval x=.string ⟨s.toArray⟩:=hrel;refine aq h hd (v:=.int .i64 s.length) ?_ rfl;rw[hex,hargs];simp[builtin,Builtin.len_,hat,hv,run_underlying ht,xn,goInt]
  ·simp at hu
 ·rintro e rfl u hu;simp only[ev]at hu;split at hu
  ·next id ver lo hi heq=>
   rw[heq]at hrel;split at hu
   ·next cv s rows hl=>
    split at hu
    ·next hver=>
     obtain rfl:ver=cv:=by simpa using hver
     obtain rfl:=O_ hu;obtain⟨g1,g2,x1,cap,y1,g3,g4,g5,g6⟩:=(hrel _ _ _ hl).2 rfl;refine aq h hd (v:=.int .i64 (hi-lo:Nat)) ?_ rfl;rw[hex,hargs];simp[builtin,Builtin.len_,hat,g4,run_underlying ht,goInt]
    ·simp at hu
   ·simp at hu
  ·split at hu
   ·next rows fz heq=>
    obtain rfl:=O_ hu;obtain⟨ad,cap,hv,_,_⟩:=n7 h heq hrel;refine aq h hd (v:=.int .i64 rows.length) ?_ rfl;rw[hex,hargs];simp[builtin,Builtin.len_,hat,hv,run_underlying ht,goInt]
   ·simp at hu
 ·rintro n e rfl u hu;simp only[ev]at hu;obtain rfl:=O_ hu;refine aq h hd (v:=.int .i64 n) ?_ rfl;rw[hex,hargs];simp[builtin,Builtin.len_,hat,run_underlying ht,goInt]

theorem RX(h:SimG w0 S0 M σ a w S μ β)(hd:∀d,o.dst=some d->d<σ.n){c:Call}{t e:TypeId}{x:Operand}{x':Opd}(ho:o.op=.call c)(hb:c.callee=.builtin .cap)(hat:c.argTypes[0]?=some t)
  (hal:c.args.toList=[x]) (ht:P.underlying t=some (.slice e)) (hx:ai x=some x') :
  ∀u,ev σ o.dst (.capV x')=some u->cp P o a w (fun v w'=>cE w0 S0 M (σ.apply o.dst u) (a.put o.dst v) w'):=by
 have hrel:=ak h hx;obtain⟨consts,hex⟩:=fw (a:=a) ho hb;have hargs:=qI hal;intro u hu;simp only[ev]at hu;split at hu
 ·next heq=>
  rw[heq]at hrel;obtain rfl:=O_ hu;obtain⟨ad,hv⟩:=hrel;refine aq h hd (v:=.int .i64 0) ?_ rfl;rw[hex,hargs];simp[builtin,Builtin.cap_,hat,hv,run_underlying ht,goInt]
 ·simp at hu

theorem LR(h:SimG w0 S0 M σ a w S μ β)(hd:∀d,o.dst=some d->d<σ.n){c:Call}{x y:Operand}{x' y':Opd}(ho:o.op=.call c) 
  (hal:c.args.toList=[x,y]) (hx:ai x=some x') (hy:ai y=some y') :
  (c.callee=.builtin .max->∀u,ev σ o.dst (.maxI x' y')=some u->cp P o a w (fun v w'=>cE w0 S0 M (σ.apply o.dst u) (a.put o.dst v) w'))/\
  (c.callee=.builtin .min->∀u,ev σ o.dst (.minI x' y')=some u->cp P o a w (fun v w'=>cE w0 S0 M (σ.apply o.dst u) (a.put o.dst v) w')):=by
 have hrel:=ak h hx;have hrel2:=ak h hy;have hargs:=qJ hal;refine⟨fun hb u hu=>?_,fun hb u hu=>?_⟩
 ·obtain⟨consts,hex⟩:=fw (a:=a) ho hb;simp only[ev]at hu;split at hu
  ·next k m k' n h1 h2=>
   rw[h1]at hrel;rw[h2]at hrel2;split at hu
   ·next hk=>
    subst hk;obtain rfl:=O_ hu;have hv1:a.eval x=.int k m:=hrel;have hv2:a.eval y=.int k n:=hrel2;refine aq h hd (v:=.int k (max m n)) ?_ rfl;rw[hex,hargs];have:(if n>m then n else m)=max m n:=by split<;>omega
    simp[builtin,Builtin.max_,Builtin.max2,hv1,hv2,this]
   ·simp at hu
  ·simp at hu
 ·obtain⟨consts,hex⟩:=fw (a:=a) ho hb;simp only[ev]at hu;split at hu
  ·next k m k' n h1 h2=>
   rw[h1]at hrel;rw[h2]at hrel2;split at hu
   ·next hk=>
    subst hk;obtain rfl:=O_ hu;have hv1:a.eval x=.int k m:=hrel;have hv2:a.eval y=.int k n:=hrel2;refine aq h hd (v:=.int k (min m n)) ?_ rfl;rw[hex,hargs];have:(if n<m then n else m)=min m n:=by split<;>omega
    simp[builtin,Builtin.min_,Builtin.min2,hv1,hv2,this]
   ·simp at hu
  ·simp at hu

theorem oX(h:SimG w0 S0 M σ a w S μ β){dflt:Nat}{x:Option Operand}{x':Option Opd}(hx:bG x=some x'){n:Int}(hb:f0 σ dflt x'=some n) :
  (x=none/\n=dflt)\/(∃y k,x=some y/\a.eval y=.int k n):=by
 cases x with
 |none=>
  simp only[bG,E_]at hx;subst hx;simp only[f0,E_]at hb;exact .inl ⟨rfl,hb.symm⟩
 |some y=>
  simp only[bG,Option.map_eq_some_iff]at hx;obtain⟨z,h1,rfl⟩:=hx;obtain⟨k,h2⟩:=sw (ak h h1) hb;exact .inr ⟨y,k,rfl,h2⟩

theorem dJ{k:IntKind}{n:Int}{y:Nat}{code:BoundsCode}(h0:0<=n)(h1:n<=y):(Instr.sliceBound (.int k n) y code).run P w=.ok n.toNat w:=by
 simp[Instr.sliceBound,asIntOf,h0,h1]

theorem jG(h:SimG w0 S0 M σ a w S μ β){lo hi:Option Operand}{Bi mM:Option Opd}(hl:bG lo=some Bi)(hh:bG hi=some mM){len cap:Nat}{l r:Int}
  (bl:f0 σ 0 Bi=some l) (bh:f0 σ len mM=some r) (h0:0<=l) (h1:l<=r) (h2:r<=cap) (isS:Bool) :
  (Instr.sliceBounds isS len cap (lo.map a.eval) (hi.map a.eval) none).run P w=.ok (l.toNat,r.toNat,cap) w:=by
 rcases oX h hl bl with⟨rfl,rfl⟩|⟨y,k,rfl,hy⟩<;>rcases oX h hh bh with⟨rfl,rfl⟩|⟨z,k',rfl,hz⟩
 ·simp[Instr.sliceBounds]
 ·have:=dJ (P:=P) (w:=w) (k:=k') (n:=r) (y:=cap) (code:=if isS then .sliceAcap else .sliceAlen) (by omega) h2;simp[Instr.sliceBounds,hz,this]
 ·have:=dJ (P:=P) (w:=w) (k:=k) (n:=l) (y:=len) (code:=.sliceB) h0 h1;simp[Instr.sliceBounds,hy,this]
 ·have g1:=dJ (P:=P) (w:=w) (k:=k') (n:=r) (y:=cap) (code:=if isS then .sliceAcap else .sliceAlen) (by omega) h2;have g2:=dJ (P:=P) (w:=w) (k:=k) (n:=l) (y:=r.toNat) (code:=.sliceB) h0 (by omega);simp[Instr.sliceBounds,hy,hz,g1,g2]

theorem lw(h:SimG w0 S0 M σ a w S μ β){lo hi:Option Operand}{Bi mM:Option Opd}(hl:bG lo=some Bi)(hh:bG hi=some mM){len cap:Nat}{l r m:Int}{y:Value}{k0:IntKind}(hy0:y=.int k0 m)
  (bl:f0 σ 0 Bi=some l) (bh:f0 σ len mM=some r) (h0:0<=l) (h1:l<=r) (h2:r<=m) (h3:m<=cap) (hsome:hi≠none) (isS:Bool) :
  (Instr.sliceBounds isS len cap (lo.map a.eval) (hi.map a.eval) (some y)).run P w=.ok (l.toNat,r.toNat,m.toNat) w:=by
 subst hy0;have g0:=dJ (P:=P) (w:=w) (k:=k0) (n:=m) (y:=cap) (code:=if isS then .slice3Acap else .slice3Alen) (by omega) h3;rcases oX h hl bl with⟨rfl,rfl⟩|⟨y,k,rfl,hy⟩<;>rcases oX h hh bh with⟨rfl,rfl⟩|⟨z,k',rfl,hz⟩
 ·exact absurd rfl hsome
 ·have:=dJ (P:=P) (w:=w) (k:=k') (n:=r) (y:=m.toNat) (code:=.slice3B) (by omega) (by omega);simp[Instr.sliceBounds,hz,this,g0]
 ·exact absurd rfl hsome
 ·have g1:=dJ (P:=P) (w:=w) (k:=k') (n:=r) (y:=m.toNat) (code:=.slice3B) (by omega) (by omega);have g2:=dJ (P:=P) (w:=w) (k:=k) (n:=l) (y:=r.toNat) (code:=.slice3C) h0 (by omega);simp[Instr.sliceBounds,hy,hz,g0,g1,g2]

theorem lx{t:TypeId}{x:Operand}{lo hi mx:Option Operand}(ho:o.op=.slice t x lo hi mx){d:TypeDesc}(ht:P.underlying t=some d)(hn:sq d=false) :
  (execOp a.eval o).run P w=((Instr.slice t (a.eval x) (lo.map a.eval) (hi.map a.eval) (mx.map a.eval)).run P w).andThen fun v w'=>.ok (.value v) w':=by
 simp only[execOp,ho,Instr.sliceAt,Sem.run_bind,run_underlying ht,Result.andThen_ok];cases d<;>first|rfl|(simp[sq]at hn)

theorem OX(h:SimG w0 S0 M σ a w S μ β)(hd:∀d,o.dst=some d->d<σ.n){t:TypeId}{x:Operand}{lo hi:Option Operand}{x':Opd}{Bi mM:Option Opd}(ho:o.op=.slice t x lo hi none)(ht:P.underlying t=some .string)
  (hx:ai x=some x') (hl:bG lo=some Bi) (hh:bG hi=some mM) {u:Upd} (hu:ev σ o.dst (.subS x' Bi mM)=some u) (hs:u.side) :
  cp P o a w (fun v w'=>cE w0 S0 M (σ.apply o.dst u) (a.put o.dst v) w'):=by
 have hrel:=ak h hx;simp only[ev]at hu;split at hu
 ·next s heq=>
  rw[heq]at hrel;split at hu
  ·next l r bl bh=>
   obtain rfl:=O_ hu;obtain⟨h0,h1,h2⟩:0<=l/\l<=r/\r<=s.length:=hs;have hv:a.eval x=.string ⟨s.toArray⟩:=hrel;refine aq h hd (v:=.string ⟨((s.take r.toNat).drop l.toNat).toArray⟩) ?_ rfl;rw[lx ho ht rfl];have:=jG (P:=P) (w:=w) (len:=s.length) (cap:=s.length) h hl hh bl bh h0 h1 h2 false;simp only[Instr.slice,hv,Sem.run_bind,run_underlying ht,Result.andThen_ok,Option.map_none,Option.isSome_none,Bool.false_eq_true,if_false,xn,this,Sem.run_pure,Ku]
  ·simp at hu
 ·simp at hu

theorem sx(h:SimG w0 S0 M σ a w S μ β){id cv s:Nat}{rows:List (List IV)}(hl:ac σ.objs id=some (.arr cv s rows)){v:Value}(hr:ar w S μ σ.objs (.own id cv) v):ar w S μ σ.objs (.view id cv 0 rows.length) v:=by
 intro cv' s' rows' hl';rw[hl]at hl';simp only[E_,Ob.arr.injEq]at hl';obtain⟨rfl,rfl,rfl⟩:=hl';have hv:=(hr _ _ _ hl).2 rfl;refine⟨Nat.le_refl _,fun _=>⟨Nat.zero_le _,Nat.le_refl _,?_⟩⟩;rcases h.objs id _ hl with⟨z1,_,x,z2⟩|⟨b,cap,_,_,_,_,z2,_⟩
 ·subst z1;exact⟨x,0,x,z2,by rw[hv,z2];rfl,fun _=>rfl,fun hh=>absurd hh (Nat.lt_irrefl _)⟩
 ·exact⟨_,cap,_,z2,by rw[hv,z2];rfl,fun _=>rfl,fun _=>⟨b,rfl,by simp⟩⟩

theorem Fv(h:SimG w0 S0 M σ a w S μ β)(hd:∀d,o.dst=some d->d<σ.n){t e:TypeId}{s:Nat}{x:Operand}{lo hi mx:Option Operand}{Bi mM mx':Option Opd}(ho:o.op=.slice t x lo hi mx)(ht:P.underlying t=some (.slice e))(hsz:dd P e=some s)
  (hl:bG lo=some Bi) (hh:bG hi=some mM) (hm:bG mx=some mx') {id cv s' lo0 hi0:Nat} {rows:List (List IV)} (hlk:ac σ.objs id=some (.arr cv s' rows)) (hrel:ar w S μ σ.objs (.view id cv lo0 hi0) (a.eval x))
  {u:Upd} (hu:xk σ s id cv s' lo0 hi0 rows.length Bi mM mx'=some u) (hs:u.side) :
  cp P o a w (fun v w'=>cE w0 S0 M (σ.apply o.dst u) (a.put o.dst v) w'):=by
 obtain⟨g1,g2,x1,cap,y1,g3,g4,g5,g6⟩:=(hrel _ _ _ hlk).2 rfl
 have hcap:rows.length<=cap:=by
  rcases h.objs id _ hlk with⟨z1,_,x,z2⟩|⟨b,cap',_,_,_,_,z2,_,_,_,z3,_⟩
  ·rw[z2]at g3;simp only[Value.slice.injEq]at g3;omega
  ·rw[z2]at g3;simp only[Value.slice.injEq]at g3;omega
 unfold xk at hu;split at hu
 ·next l r bl bh=>
  split at hu
  ·obtain rfl:=O_ hu;obtain⟨⟨h0,h1,h2⟩,hst⟩:(0<=l/\l<=r/\r<=(rows.length-lo0:Nat))/\s'=s:=hs;subst hst
   have hmx:mx=none:=by
    cases mx with
    |none=>rfl
    |some y=>simp[bG]at hm
   subst hmx;refine aq h hd (v:=.slice (if cap-lo0=l.toNat then y1 else y1.map (·.add (l.toNat*s'))) (r.toNat-l.toNat) (cap-lo0-l.toNat)) ?_ ?_
   ·rw[lx ho ht rfl];have:=jG (P:=P) (w:=w) (len:=hi0-lo0) (cap:=cap-lo0) h hl hh bl bh h0 h1 (by omega) true;simp only[Instr.slice,g4,Sem.run_bind,run_underlying ht,Result.andThen_ok,Option.map_none,this,cK hsz,Sem.run_pure]
   ·intro cv' s'' rows' hl';rw[hlk]at hl';simp only[E_,Ob.arr.injEq]at hl';obtain⟨rfl,rfl,rfl⟩:=hl';refine⟨Nat.le_refl _,fun _=>⟨by omega,by omega,x1,cap,(if cap-lo0=l.toNat then y1 else y1.map (·.add (l.toNat*s'))),g3,?_,fun hz=>?_,fun hlt=>?_⟩⟩
    ·congr 1<;>omega
    ·have:l.toNat=0:=by omega
     have hz0:lo0=0:=by omega
     rw[this];split
     ·exact g5 hz0
     ·rw[g5 hz0];cases x1 with
      |none=>rfl
      |some ad=>simp[Addr.add]
    ·obtain⟨b,k1,k2⟩:=g6 (by omega);refine⟨b,k1,?_⟩;rw[if_neg (by omega),k2];simp[gc,Nat.add_mul]
  ·next m=>
   split at hu
   ·next n hn=>
    obtain⟨y,rfl⟩:∃y,mx=some y:=by
     cases mx with
     |none=>simp[bG]at hm
     |some y=>exact⟨y,rfl⟩
    simp only[bG,Option.map_eq_some_iff,E_]at hm;obtain⟨z,hz,rfl⟩:=hm;obtain⟨k,hyv⟩:=sw (ak h hz) hn;obtain rfl:=O_ hu;obtain⟨h0,h1,h2,h3,hsome⟩:0<=l/\l<=r/\r<=n/\n<=(hi0-lo0:Nat)/\mM.isSome=true:=hs
    have hhi:hi≠none:=by
     rintro rfl;simp only[bG,E_]at hh;subst hh;simp at hsome
    refine aq h hd (v:=.slice (if n.toNat=l.toNat then y1 else y1.map (·.add (l.toNat*s))) (r.toNat-l.toNat) (n.toNat-l.toNat)) ?_ trivial;rw[lx ho ht rfl];have:=lw (P:=P) (w:=w) (len:=hi0-lo0) (cap:=cap-lo0) h hl hh hyv bl bh h0 h1 h2 (by omega) hhi true;simp only[Option.map_some];simp only[Instr.slice,g4,Sem.run_bind,run_underlying ht,Result.andThen_ok,this,cK hsz,Sem.run_pure]
   ·simp at hu
 ·simp at hu

theorem OY(h:SimG w0 S0 M σ a w S μ β)(hd:∀d,o.dst=some d->d<σ.n){t e:TypeId}{s:Nat}{x:Operand}{lo hi mx:Option Operand}{x':Opd}{Bi mM mx':Option Opd}(ho:o.op=.slice t x lo hi mx)(ht:P.underlying t=some (.slice e))(hsz:dd P e=some s)
  (hx:ai x=some x') (hl:bG lo=some Bi) (hh:bG hi=some mM) (hm:bG mx=some mx') {u:Upd} (hu:ev σ o.dst (.subV s x' Bi mM mx')=some u) (hs:u.side) :
  cp P o a w (fun v w'=>cE w0 S0 M (σ.apply o.dst u) (a.put o.dst v) w'):=by
 have hrel:=ak h hx;simp only[ev]at hu;split at hu
 ·next id ver heq=>
  rw[heq]at hrel;split at hu
  ·next cv s' rows hlk=>
   split at hu
   ·next hver=>
    obtain rfl:ver=cv:=by simpa using hver
    exact Fv h hd ho ht hsz hl hh hm hlk (sx h hlk hrel) hu hs
   ·simp at hu
  ·simp at hu
 ·next id ver lo0 hi0 heq=>
  rw[heq]at hrel;split at hu
  ·next cv s' rows hlk=>
   split at hu
   ·next hver=>
    obtain rfl:ver=cv:=by simpa using hver
    exact Fv h hd ho ht hsz hl hh hm hlk hrel hu hs
   ·simp at hu
  ·simp at hu
 split at hu
 ·next rows rd heq=>
  obtain⟨ad,cap,hv,hle,hc⟩:=n7 h heq hrel;split at hu
  ·next l r bl bh=>
   have piece:∀(c':Nat),0<=l->l<=r->r<=rows.length->c'≥(r-l).toNat->(∀z,z=l.toNat*s->∃ad',(if c'=cap/\l.toNat=0 then ad else ad.map (·.add z))=ad')->
     ∀ad',((rows.take r.toNat).drop l.toNat≠[]->∃b off s',ad=some ⟨b,off,none⟩/\bq w (cY S β σ.objs rd) rows s' b off/\ad'=some ⟨b,off+l.toNat*s',none⟩)->
     nJ w (cY S β σ.objs rd) (.slice ((rows.take r.toNat).drop l.toNat)) (.slice ad' (r.toNat-l.toNat) c'):=by
    intro c' h0 h1 h2 hc' _ ad' hne
    have hlen:((rows.take r.toNat).drop l.toNat).length=r.toNat-l.toNat:=by
     rw[List.length_drop,List.length_take];omega
    refine⟨ad',c',by rw[hlen],by rw[hlen];omega,fun hn=>?_⟩;obtain⟨b,off,s',_,hrows,rfl⟩:=hne hn;exact⟨b,_,s',rfl,bq.drop _ (bq.take _ hrows)⟩
   have addr:∀(ne:(rows.take r.toNat).drop l.toNat≠[]) (c:Prop) [Decidable c],(c->l.toNat=0)->s≠0\/True->
     (∀row∈rows,row.length=s)->∃b off s',ad=some ⟨b,off,none⟩/\bq w (cY S β σ.objs rd) rows s' b off/\(if c then ad else ad.map (·.add (l.toNat*s)))=some ⟨b,off+l.toNat*s',none⟩:=by
    intro ne c _ hc0 _ hst;have hrne:rows≠[]:=by intro e;subst e;simp at ne
    obtain⟨b,off,s',rfl,hrows⟩:=hc hrne;refine⟨b,off,s',rfl,hrows,?_⟩;obtain⟨row,hrow⟩:=List.exists_mem_of_ne_nil rows hrne;have:s'=s:=(bq.lens hrows row hrow).symm.trans (hst row hrow);subst this;by_cases hcc:c
    ·rw[if_pos hcc,hc0 hcc];simp
    ·rw[if_neg hcc];simp[gc]
   split at hu
   ·obtain rfl:=O_ hu;obtain⟨⟨h0,h1,h2⟩,hst⟩:(0<=l/\l<=r/\r<=rows.length)/\∀row∈rows,row.length=s:=hs
    have hmx:mx=none:=by
     cases mx with
     |none=>rfl
     |some y=>simp[bG]at hm
    subst hmx;refine ux h hd (v:=.slice (if cap=l.toNat then ad else ad.map (·.add (l.toNat*s))) (r.toNat-l.toNat) (cap-l.toNat)) ?_ ?_
    ·rw[lx ho ht rfl];have:=jG (P:=P) (w:=w) (len:=rows.length) (cap:=cap) h hl hh bl bh h0 h1 (by omega) true;simp only[Instr.slice,hv,Sem.run_bind,run_underlying ht,Result.andThen_ok,Option.map_none,this,cK hsz,Sem.run_pure]
    ·refine piece _ h0 h1 h2 (by omega) (fun z _=>⟨_,rfl⟩) _ (fun ne=>?_);by_cases hcl:cap=l.toNat
     ·exfalso;have:((rows.take r.toNat).drop l.toNat).length=0:=by rw[List.length_drop,List.length_take];omega
      exact ne (List.length_eq_zero_iff.1 this)
     ·rw[if_neg hcl];have:=addr ne False (fun x=>x.elim) (.inr trivial) hst;simpa using this
   ·next m=>
    split at hu
    ·next n hn=>
     obtain⟨y,rfl⟩:∃y,mx=some y:=by
      cases mx with
      |none=>simp[bG]at hm
      |some y=>exact⟨y,rfl⟩
     simp only[bG,Option.map_eq_some_iff,E_]at hm;obtain⟨z,hz,rfl⟩:=hm;obtain⟨k,hyv⟩:=sw (ak h hz) hn;split at hu
     ·next hn0=>
      obtain rfl:=O_ hu;obtain⟨h0,h1,hsome⟩:l=0/\r=0/\mM.isSome=true:=hs;subst hn0
      have hhi:hi≠none:=by
       rintro rfl;simp only[bG,E_]at hh;subst hh;simp at hsome
      refine aq h hd (v:=.slice ad 0 0) ?_ ⟨ad,rfl⟩;rw[lx ho ht rfl];have:=lw (P:=P) (w:=w) (len:=rows.length) (cap:=cap) h hl hh hyv bl bh (by omega) (by omega) (by omega) (by omega) hhi true;simp only[Option.map_some];simp only[Instr.slice,hv,Sem.run_bind,run_underlying ht,Result.andThen_ok,this,cK hsz,Sem.run_pure];subst h0;subst h1;simp
     ·next hn0=>
      obtain rfl:=O_ hu;obtain⟨⟨h0,h1,h2,h3,hsome⟩,hst⟩:(0<=l/\l<=r/\r=n/\r<=rows.length/\mM.isSome=true)/\∀row∈rows,row.length=s:=hs
      have hhi:hi≠none:=by
       rintro rfl;simp only[bG,E_]at hh;subst hh;simp at hsome
      refine ux h hd (v:=.slice (if n.toNat=l.toNat then ad else ad.map (·.add (l.toNat*s))) (r.toNat-l.toNat) (n.toNat-l.toNat)) ?_ ⟨?_,?_⟩
      ·rw[lx ho ht rfl];have:=lw (P:=P) (w:=w) (len:=rows.length) (cap:=cap) h hl hh hyv bl bh h0 h1 (by omega) (by omega) hhi true;simp only[Option.map_some];simp only[Instr.slice,hv,Sem.run_bind,run_underlying ht,Result.andThen_ok,this,cK hsz,Sem.run_pure]
      ·refine piece _ h0 h1 h3 (by omega) (fun z _=>⟨_,rfl⟩) _ (fun ne=>?_);by_cases hcl:n.toNat=l.toNat
       ·exfalso;have:((rows.take r.toNat).drop l.toNat).length=0:=by rw[List.length_drop,List.length_take];omega
        exact ne (List.length_eq_zero_iff.1 this)
       ·rw[if_neg hcl];have:=addr ne False (fun x=>x.elim) (.inr trivial) hst;simpa using this
      ·refine⟨if n.toNat=l.toNat then ad else ad.map (·.add (l.toNat*s)),?_⟩
       have hlen:((rows.take r.toNat).drop l.toNat).length=r.toNat-l.toNat:=by
        rw[List.length_drop,List.length_take];omega
       rw[hlen,h2]
    ·simp at hu
  ·simp at hu
 ·simp at hu

theorem nR(h:SimG w0 S0 M σ a w S μ β){d:Nat}(hdst:o.dst=some d)(hd:d<σ.n){ob:Ob}{sv:SV}{fz:List Nat}{side:Prop} [Decidable side]{blk:Option Nat}{mu v:Value}{w':World}
  (hrun:(execOp a.eval o).run P w=.ok (.value v) w') (hw:Kept (fun _=>False) w w') (hblk:∀b,blk=some b->b=w.heap.size)
  (hob:bA w' (cY S β σ.objs fz) μ σ.objs blk mu ob)
  (hv:(∃cells,ob=.box cells)/\sv=.loc d 0/\v=mu/\(∃b,mu=.pointer (some ⟨b,0,none⟩))\/(∃s rows,ob=.arr 0 s rows)/\sv=.own d 0/\v=mu) :
  cp P o a w (fun v w'=>cE w0 S0 M (σ.apply o.dst {v:=sv,side:=side,new:=some ob,fz:=fz }) (a.put o.dst v) w'):=by
 refine⟨_,v,w',hrun,.inl rfl,cY S β σ.objs fz,(fun id=>if id=d then mu else μ id),(fun id=>if id=d then blk else β id),?_⟩;rw[hdst];have h1:=(h.freeze fz).create d hd ob blk mu hw hblk hob;refine h1.put hd ?_;rcases hv with⟨⟨cells,rfl⟩,rfl,rfl,b,rfl⟩|⟨⟨s,rows,rfl⟩,rfl,rfl⟩
 ·intro cells' _;exact⟨b,by simp,rfl⟩
 ·intro cv s' rows' hl;rw[bN,de]at hl;simp only[Option.map_some,Ob.erase,E_,Ob.arr.injEq]at hl;obtain⟨rfl,_,_⟩:=hl;exact⟨Nat.le_refl _,fun _=>by simp⟩

theorem jQ(w:World)(x:Go.Obj):Kept (fun _=>False) w (w.alloc x):=
 ⟨rfl,rfl,rfl,by simp,fun _ hk _=>ek hk,fun k x hx=>(cN (ek (nO hx))).trans hx⟩
theorem sy(h:SimG w0 S0 M σ a w S μ β)(x:Go.Obj):bv S w (w.alloc x):=⟨fun b o hS=>bF (ek (h.stab b o hS)) o,(jQ w x).shape⟩

theorem nS{t:TypeId}{z:List SV}(h:rL P t=some z):∃i v,P.info? t=some i/\i.zero=some v/\nP v.cells.toList=some z:=by
 unfold rL at h;split at h
 ·next v hv=>
  cases hi:P.info? t with
  |none=>rw[hi]at hv;simp at hv
  |some i=>rw[hi]at hv;exact⟨i,v,rfl,by simpa using hv,h⟩
 ·simp at h
theorem UI{t:TypeId}{i:TypeInfo}(h:P.info? t=some i)(w:World):(typeInfo t).run P w=.ok i w:=by simp[typeInfo,h]
theorem fR{t:TypeId}{i:TypeInfo}{v:Value}(h:P.info? t=some i)(hz:i.zero=some v)(w:World):(zeroValue t).run P w=.ok v w:=by
 simp[zeroValue,typeInfo,h,hz]

theorem MY(h:SimG w0 S0 M σ a w S μ β)(hd:∀d,o.dst=some d->d<σ.n){t:TypeId}{z:List SV}(ho:o.op=.alloc t)(hz:rL P t=some z){u:Upd}(hu:ev σ o.dst (.alloc z)=some u) :
  cp P o a w (fun v w'=>cE w0 S0 M (σ.apply o.dst u) (a.put o.dst v) w'):=by
 obtain⟨i,v,h1,h2,h3⟩:=nS hz;simp only[ev]at hu;split at hu
 ·next d hdst=>
  obtain rfl:=O_ hu

  refine nR h hdst (hd d hdst) (blk:=some w.heap.size) (mu:=.pointer (some ⟨w.heap.size,0,none⟩)) (v:=.pointer (some ⟨w.heap.size,0,none⟩)) (w':=w.alloc (.cells v.cells t)) ?_ (jQ _ _) (fun b hb=>(O_ hb).symm) ?_ (.inl ⟨⟨_,rfl⟩,rfl,rfl,_,rfl⟩)
  ·simp[execOp,ho,Instr.alloc,fR h1 h2,newVar,newRow]
  ·exact⟨_,v.cells,t,(0,0),rfl,rfl,ct _ _,m5.zero _,ey h3⟩
 ·simp at hu

theorem OZ{t:TypeId}(h:WZ P t=true):∃i v,P.info? t=some i/\i.zero=some v/\v.cells.toList=[.pointer none,.slice none 0 0]:=by
 unfold WZ at h;split at h
 ·next n z hn hz=>
  simp only[Bool.and_eq_true]at h;cases hi:P.info? t with
  |none=>rw[hi]at hz;simp at hz
  |some i=>
   rw[hi]at hz;refine⟨i,z,rfl,by simpa using hz,?_⟩;have:=h.2;split at this
   ·next h'=>exact h'
   ·simp at this
 ·simp at h
theorem Ky(h:SimG w0 S0 M σ a w S μ β)(hd:∀d,o.dst=some d->d<σ.n){t:TypeId}(ho:o.op=.alloc t)(hb:WZ P t=true){u:Upd}(hu:ev σ o.dst (.allocB t)=some u) :
  cp P o a w (fun v w'=>cE w0 S0 M (σ.apply o.dst u) (a.put o.dst v) w'):=by
 obtain⟨i,v,h1,h2,h3⟩:=OZ hb;simp only[ev]at hu;split at hu
 ·next d hdst=>
  obtain rfl:=O_ hu
  have hrun:(execOp a.eval o).run P w=.ok (.value (.pointer (some ⟨w.heap.size,0,none⟩))) (w.alloc (.cells v.cells t)):=by
   simp[execOp,ho,Instr.alloc,fR h1 h2,newVar,newRow]
  refine⟨_,_,_,hrun,.inl rfl,cY S β σ.objs [],(fun id=>if id=d then .pointer (some ⟨w.heap.size,0,none⟩)else μ id),(fun id=>if id=d then some w.heap.size else β id),?_⟩;rw[hdst]
  have hob:bA (w.alloc (.cells v.cells t)) (cY S β σ.objs []) μ σ.objs (some w.heap.size) (.pointer (some ⟨w.heap.size,0,none⟩)) (.box [.val .nilp,.val .nilS]):=
   ⟨_,v.cells,t,(0,0),rfl,rfl,ct _ _,m5.zero _,by rw[h3];exact⟨_,_,rfl,rfl,rfl,_,_,rfl,rfl,rfl,rfl⟩⟩
  have h4:=(h.freeze []).create d (hd d hdst) (.box [.val .nilp,.val .nilS]) (some w.heap.size) (.pointer (some ⟨w.heap.size,0,none⟩)) (jQ _ _) (fun b hb=>(O_ hb).symm) hob;refine h4.put (hd d hdst) ?_;intro cells' _;refine⟨w.heap.size,by simp,?_,.inr rfl⟩;have hs:v.cells.size=2:=by rw[<-Array.length_toList,h3];rfl
  simp only[World.shape?];rw[ct];simp[hs]
 ·simp at hu

theorem RY(h:SimG w0 S0 M σ a w S μ β)(hd:∀d,o.dst=some d->d<σ.n){t:TypeId}{x:Operand}{x':Opd}(ho:o.op=.box t x)(hx:ai x=some x'){u:Upd}(hu:ev σ o.dst (.box x')=some u) :
  cp P o a w (fun v w'=>cE w0 S0 M (σ.apply o.dst u) (a.put o.dst v) w'):=by
 have hrel:=ak h hx;simp only[ev]at hu;split at hu
 ·next d cs hdst hcs=>
  obtain rfl:=O_ hu

  refine nR h hdst (hd d hdst) (blk:=some w.heap.size) (mu:=.pointer (some ⟨w.heap.size,0,none⟩)) (v:=.pointer (some ⟨w.heap.size,0,none⟩)) (w':=w.alloc (.cells (a.eval x).cells t)) ?_ (jQ _ _) (fun b hb=>(O_ hb).symm) ?_ (.inl ⟨⟨_,rfl⟩,rfl,rfl,_,rfl⟩)
  ·simp[execOp,ho,Instr.box,newVar,newRow]
  ·exact⟨_,(a.eval x).cells,t,(0,0),rfl,rfl,ct _ _,m5.zero _,aj.mono (sy h _) cY.nil _ _ (pt h hrel hcs)⟩
 ·simp at hu

/- The parts of a literal. -/
theorem Fw:∀(vs:List Value) (k off:Nat) (cells:Array Value),off+k+vs.length<=cells.size->
  ((vs.zipIdx k).foldl (fun cs (p:Value×Nat)=>cs.setIfInBounds (off+p.2) p.1) cells).toList=cells.toList.take (off+k)++vs++cells.toList.drop (off+k+vs.length)
 |[],k,off,cells,_=>by simp
 |v::vs,k,off,cells,h=>by
  simp only[List.length_cons]at h;simp only[List.zipIdx_cons,List.foldl_cons];rw[Fw vs (k+1) off _ (by simp;omega)];have hlt:off+k<cells.toList.length:=by simp;omega
  simp only[Array.toList_setIfInBounds,List.length_cons]
  have e1:(cells.toList.set (off+k) v).take (off+(k+1))=cells.toList.take (off+k)++[v]:=by
   rw[show off+(k+1)=(off+k)+1 by omega,List.take_succ_eq_append_getElem (by simpa using hlt),List.take_set_of_le (Nat.le_refl _)];simp
  have e2:(cells.toList.set (off+k) v).drop (off+(k+1)+vs.length)=cells.toList.drop (off+k+(vs.length+1)):=by
   rw[List.drop_set_of_lt (by omega)];congr 1;omega
  rw[e1,e2];simp

theorem wF(h:SimG w0 S0 M σ a w S μ β){place:Nat->Option (Nat×Nat)} : ∀ {parts:List (Nat×Operand)} {parts':List (Nat×Nat×Opd)} {cells cells':List SV} {vs:Array Value},
  eu place parts=some parts'->aj w S μ σ.objs cells vs.toList->lu σ.objs σ cells parts'=some cells'->
  ∃vs',Instr.fill place vs (parts.map fun(i,x)=>(i,a.eval x))=some vs'/\aj w S μ σ.objs cells' vs'.toList
 |[],parts',cells,cells',vs,hc,hr,hf=>by
  simp only[eu,E_]at hc;subst hc;simp only[lu,E_]at hf;subst hf;exact⟨vs,rfl,hr⟩
 |(i,x)::r,parts',cells,cells',vs,hc,hr,hf=>by
  simp only[eu]at hc;split at hc
  ·next off s y ys hp hx hys=>
   simp only[E_]at hc;subst hc;simp only[lu]at hf;split at hf
   ·next cs hcs=>
    split at hf
    ·next hcond=>
     obtain⟨hl,hle⟩:=hcond;have hcr:=pt h (ak h hx) hcs;have hlen:=aj.length hcr;have hlen':=aj.length hr;simp only[Array.length_toList]at hlen hlen'
     have hnew:aj w S μ σ.objs (cells.take off++cs++cells.drop (off+s)) (((a.eval x).cells.toList.zipIdx 0).foldl (fun cs (p:Value×Nat)=>cs.setIfInBounds (off+p.2) p.1) vs).toList:=by
      rw[Fw _ 0 off vs (by simp;omega)];simp only[Nat.add_zero,Array.length_toList];rw[show off+(a.eval x).cells.size=off+s by omega];exact aj.append (aj.append (aj.take off hr) hcr) (aj.drop _ hr)
     obtain⟨vs',h1,h2⟩:=wF h hys hnew hf;refine⟨vs',?_,h2⟩;simp only[List.map_cons,Instr.fill,hp];rw[if_neg (by simp;omega)];rw[<-h1];congr 1;rw[<-Array.foldl_toList,Array.toList_zipIdx]
    ·simp at hf
   ·simp at hf
  ·simp at hc

theorem Kz{fs:List Field}(hf:fs.all (fun f=>(dd P f.type).isSome)=true):∀w:World,
  (fs.mapM (m:=Sem) fun f=>do pure (f.offset,<-sizeOf f.type)).run P w=.ok (fs.map fun f=>(f.offset,(dd P f.type).getD 0)) w:=by
 induction fs with
 |nil=>intro w;simp
 |cons f r ih=>
  intro w;simp only[List.all_cons,Bool.and_eq_true]at hf;obtain⟨n,hn⟩:=Option.isSome_iff_exists.1 hf.1;simp only[List.mapM_cons,Sem.run_bind,cK hn,Result.andThen_ok,Sem.run_pure,ih hf.2,List.map_cons,hn,Option.getD_some]

theorem Fx(h:SimG w0 S0 M σ a w S μ β)(hd:∀d,o.dst=some d->d<σ.n){t:TypeId}{parts:Array (Nat×Operand)}{z:List SV}{place:Nat->Option (Nat×Nat)}{parts':List (Nat×Nat×Opd)}(ho:o.op=.build t parts)(hz:rL P t=some z)
  (hpl:(∃fs,P.underlying t=some (.struct fs)/\place=Bp P fs/\fs.toList.all (fun f=>(dd P f.type).isSome)=true)\/(∃n e s,P.underlying t=some (.array n e)/\dd P e=some s/\place=fun i=>some (i*s,s)))
  (hp:eu place parts.toList=some parts') {u:Upd} (hu:ev σ o.dst (.build z parts')=some u) :
  cp P o a w (fun v w'=>cE w0 S0 M (σ.apply o.dst u) (a.put o.dst v) w'):=by
 obtain⟨i,zv,h1,h2,h3⟩:=nS hz;simp only[ev]at hu;split at hu
 ·next cells hf=>
  obtain rfl:=O_ hu;obtain⟨vs,h4,h5⟩:=wF h hp (ey (objs:=σ.objs) h3) hf;refine aq h hd (v:=.agg vs) ?_ (by have:=k9 h5;simpa using this);have hmap:(parts.map fun(p:Nat×Operand)=>(p.1,a.eval p.2)).toList=parts.toList.map fun(p:Nat×Operand)=>(p.1,a.eval p.2):=by simp
  rcases hpl with⟨fs,ht,rfl,hall⟩|⟨n,e,s,ht,hs,rfl⟩
  ·have hplaces:(fs.mapM (m:=Sem) fun f=>do pure (f.offset,<-sizeOf f.type)).run P w=.ok (fs.map fun f=>(f.offset,(dd P f.type).getD 0)) w:=by
    rw[Array.mapM_eq_mapM_toList];simp only[Sem.run_map,Kz hall,Result.andThen_ok];congr 1;apply Array.toList_inj.1;simp
   have hpe:(fun i=>(fs.map fun f=>(f.offset,(dd P f.type).getD 0))[i]?)=Bp P fs:=by
    funext i;simp only[Array.getElem?_map,Bp];cases hfi:fs[i]? with
    |none=>rfl
    |some f=>
     have hmem:f∈fs.toList:=List.mem_of_getElem? (by simpa using hfi);have:=List.all_eq_true.1 hall f hmem;obtain⟨n,hn⟩:=Option.isSome_iff_exists.1 this;simp[hn]
   simp only[execOp,ho,Instr.build,Sem.run_bind,fR h1 h2,Result.andThen_ok,run_underlying ht,hplaces,hpe,hmap];rw[h4];simp
  ·simp only[execOp,ho,Instr.build,Sem.run_bind,fR h1 h2,Result.andThen_ok,run_underlying ht,cK hs,hmap];rw[h4];simp
 ·simp at hu

theorem ly(zero:Array Value)(s:Nat)(hs:zero.size=s)(hpos:0<s):∀n,((Array.range (n*s)).map (fun i=>zero[i%zero.size]!)).toList=cH zero.toList n:=by
 intro n
 induction n with
 |zero=>simp[cH]
 |succ n ih=>
  have ih':(List.range (n*s)).map (fun i=>zero[i%zero.size]!)=cH zero.toList n:=by simpa using ih
  have:(List.range ((n+1)*s)).map (fun i=>zero[i%zero.size]!)=cH zero.toList (n+1):=by
   rw[show(n+1)*s=s+n*s by rw[Nat.add_mul];omega,List.range_add,List.map_append,List.map_map];simp only[cH];congr 1
   ·apply List.ext_getElem
    ·simp[hs]
    ·intro i h1 h2;simp only[List.length_map,List.length_range]at h1;simp only[List.getElem_map,List.getElem_range,Array.getElem_toList];rw[Nat.mod_eq_of_lt (by omega)];rw[getElem!_pos zero i (by omega)]
   ·rw[<-ih'];apply List.map_congr_left;intro i _;simp only[Function.comp];rw[<-hs,Nat.add_mod_left]
  simpa using this
theorem aj.repeat{objs:List (Nat×Ob)}{z:List SV}{vs:List Value}(h:aj w S μ objs z vs):∀n,aj w S μ objs (cH z n) (cH vs n)
 |0=>rfl
 |n+1=>aj.append h (aj.repeat h n)
theorem nT{α:Type}{s:Nat} : ∀ {n:Nat} {l:List α},l.length=n*s->(nQ s n l).flatten=l/\(nQ s n l).length=n/\∀r∈nQ s n l,r.length=s
 |0,l,h=>by
  have:l=[]:=List.length_eq_zero_iff.1 (by simpa using h);subst this;simp[nQ]
 |n+1,l,h=>by
  rw[Nat.add_mul]at h;obtain⟨h1,h2,h3⟩:=nT (s:=s) (n:=n) (l:=l.drop s) (by rw[List.length_drop];omega);refine⟨?_,by simp[nQ,h2],?_⟩
  ·simp only[nQ,List.flatten_cons,h1,List.take_append_drop]
  ·intro r hr;simp only[nQ,List.mem_cons]at hr;rcases hr with rfl|hr
   ·rw[List.length_take];omega
   ·exact h3 r hr
theorem P0(h:SimG w0 S0 M σ a w S μ β)(hd:∀d,o.dst=some d->d<σ.n){t e:TypeId}{s n:Nat}{x:Operand}{lo hi:Option Operand}{x':Opd}{Bi mM:Option Opd}(ho:o.op=.slice t x lo hi none)(ht:P.underlying t=some (.array n e))(hsz:dd P e=some s)
  (hx:ai x=some x') (hl:bG lo=some Bi) (hh:bG hi=some mM) {u:Upd} (hu:ev σ o.dst (.subA s n x' Bi mM)=some u) (hs:u.side) :
  cp P o a w (fun v w'=>cE w0 S0 M (σ.apply o.dst u) (a.put o.dst v) w'):=by
 have hrel:=ak h hx;simp only[ev]at hu;split at hu
 ·next cells fz hc=>
  have hrep:=m7 h hc (fun _ x=>x) hrel;split at hu
  ·next l r bl bh=>
   obtain rfl:=O_ hu;obtain⟨h0,h1,h2,h3⟩:0<=l/\l<=r/\r<=n/\n*s<=cells.length:=hs;obtain⟨blk,off,hv,hcells⟩:=hrep
   have hb:l.toNat*s+(r.toNat-l.toNat)*s<=cells.length:=by
    rw[<-Nat.add_mul];exact Nat.le_trans (Nat.mul_le_mul_right _ (by omega)) h3
   obtain⟨c1,c2,c3⟩:=nT (s:=s) (n:=r.toNat-l.toNat) (l:=(cells.drop (l.toNat*s)).take ((r.toNat-l.toNat)*s)) (by rw[List.length_take,List.length_drop];omega);refine ux h hd (v:=.slice (some (if n=l.toNat then ⟨blk,off,none⟩else (⟨blk,off,none⟩:Addr).add (l.toNat*s))) (r.toNat-l.toNat) (n-l.toNat)) ?_ ?_
   ·have:=jG (P:=P) (w:=w) (len:=n) (cap:=n) h hl hh bl bh h0 h1 h2 false;simp only[execOp,ho,Instr.sliceAt,hv,Sem.run_bind,run_underlying ht,Result.andThen_ok,Option.map_none,this,cK hsz,Sem.run_pure,Instr.sureAddr]
   ·refine⟨_,_,by rw[c2],by rw[c2];omega,fun hne=>?_⟩;have hlr:r.toNat-l.toNat≠0:=fun e0=>hne (List.length_eq_zero_iff.1 (by rw[c2,e0]))
    rw[if_neg (by omega)];refine⟨blk,off+l.toNat*s,s,by simp[Addr.add],bq.ofFlat c3 ?_⟩;rw[c1];exact aH.take _ (aH.drop _ hcells)
  ·simp at hu
 ·simp at hu

theorem sA{α:Type}(l:List α):∀n,(cH l n).length=n*l.length
 |0=>by simp[cH]
 |n+1=>by simp only[cH,List.length_append,sA l n,Nat.add_mul];omega

theorem uU{objs:List (Nat×Ob)} : ∀ {parts:List (Nat×Nat×Opd)} {cells cells':List SV},lu objs σ cells parts=some cells'->cells'.length=cells.length
 |[],cells,cells',h=>by simp only[lu,E_]at h;rw[h]
 |(off,s,x)::r,cells,cells',h=>by
  simp only[lu]at h;split at h
  ·next cs hcs=>
   split at h
   ·next hc=>
    have:=uU h;rw[this];simp only[List.length_append,List.length_take,List.length_drop];omega
   ·simp at h
  ·simp at h

theorem BT(h:SimG w0 S0 M σ a w S μ β)(hd:∀d,o.dst=some d->d<σ.n){t e:TypeId}{n s:Nat}{parts:Array (Nat×Operand)}{z:List SV}{parts':List (Nat×Nat×Opd)}(ho:o.op=.buildSlice t n parts)(ht:P.underlying t=some (.slice e))
  (hs:dd P e=some s) (hz:rL P e=some z) (hok:0<s/\z.length=s/\n*s<=16777216) (hp:eu (fun i=>some (i*s,s)) parts.toList=some parts') {u:Upd} (hu:ev σ o.dst (.buildSlice s n z parts')=some u) :
  cp P o a w (fun v w'=>cE w0 S0 M (σ.apply o.dst u) (a.put o.dst v) w'):=by
 obtain⟨i,zv,h1,h2,h3⟩:=nS hz;obtain⟨hpos,hzl,hbig⟩:=hok;simp only[ev]at hu;split at hu
 ·next d cells hdst hf=>
  split at hu
  ·next vs fz hiv=>
   have hzr:=ey (w:=w) (S:=S) (μ:=μ) (objs:=σ.objs) h3;have hzs:zv.cells.size=s:=by have:=aj.length hzr;simp at this;omega
   have hinit:aj w S μ σ.objs (cH z n) ((Array.range (n*s)).map (fun i=>zv.cells[i%zv.cells.size]!)).toList:=by
    rw[ly zv.cells s hzs hpos];exact aj.repeat hzr n
   obtain⟨vals,h4,h5⟩:=wF h hp hinit hf;have hrep:=j6 h hiv (fun _ x=>x) h5
   have hlen:vs.length=n*s:=by
    have e1:=ae.length hrep;have e2:=aj.length h5;have e3:=uU hf;rw[sA]at e3;rw[hzl]at e3;omega
   have hvl:vals.size=n*s:=by have e1:=ae.length hrep;simp at e1;omega
   obtain⟨c1,c2,c3⟩:=nT hlen
   have hrun:(execOp a.eval o).run P w=.ok (.value (.slice (some ⟨w.heap.size,0,none⟩) n n)) (w.alloc (.cells vals e)):=by
    have hmap:(parts.map fun(p:Nat×Operand)=>(p.1,a.eval p.2)).toList=parts.toList.map fun(p:Nat×Operand)=>(p.1,a.eval p.2):=by simp
    simp only[execOp,ho,Instr.buildSlice,Sem.run_bind,run_underlying ht,Result.andThen_ok,cK hs];rw[if_neg (by omega)];by_cases hnz:n*s=0
    ·rw[if_pos hnz];simp only[Sem.run_bind,Result.andThen_ok,Sem.run_pure,hmap];rw[hnz]at h4 |-;rw[show(Array.range 0).map (fun i=>(#[]:Array Value)[i%(#[]:Array Value).size]!)=(Array.range 0).map (fun i=>zv.cells[i%zv.cells.size]!)from by simp,h4];simp[newRow]
    ·rw[if_neg hnz];simp only[Sem.run_bind,fR h1 h2,Result.andThen_ok,Sem.run_pure,hmap];rw[h4];simp[newRow]
   obtain rfl:=O_ hu;refine nR h hdst (hd d hdst) (blk:=some w.heap.size) (mu:=.slice (some ⟨w.heap.size,0,none⟩) n n) (v:=.slice (some ⟨w.heap.size,0,none⟩) n n) (w':=w.alloc (.cells vals e)) hrun (jQ _ _) (fun b hb=>(O_ hb).symm) ?_ (.inr ⟨⟨_,_,rfl⟩,rfl,rfl⟩);refine .inr ⟨_,n,vals,e,(0,0),rfl,?_,ct _ _,m5.zero _,hvl,?_,c3,?_⟩
   ·rw[c2]
   ·rw[c2];exact Nat.le_refl _
   ·rw[c1,c2,List.take_of_length_le (by simp;omega)];refine ae.mono ?_ (fun _ _ x=>x) _ _ hrep;exact sy (h.freeze fz) _
  ·simp at hu
 ·simp at hu

theorem Iv(h:SimG w0 S0 M σ a w S μ β)(hd:∀d,o.dst=some d->d<σ.n){t e:TypeId}{i:TypeInfo}{x y:Operand}{x' y':Opd}{z:List SV}(ho:o.op=.makeSlice t x y)(ht:P.underlying t=some (.slice e))
  (hi:P.info? e=some i) (hz:rL P e=some z) (hok:0<i.size/\z.length=i.size) (hx:ai x=some x') (hy:ai y=some y') {u:Upd} (hu:ev σ o.dst (.mkSlice i.size i.bytes z x' y')=some u) (hs:u.side) :
  cp P o a w (fun v w'=>cE w0 S0 M (σ.apply o.dst u) (a.put o.dst v) w'):=by
 obtain⟨i',zv,h1,h2,h3⟩:=nS hz;obtain rfl:i'=i:=by rw[hi]at h1;exact(O_ h1).symm
 obtain⟨hpos,hzl⟩:=hok;have hrelx:=ak h hx;have hrely:=ak h hy;simp only[ev]at hu;split at hu
 ·next d l c zs hdst hl hc hav=>
  obtain rfl:=O_ hu;obtain⟨h0,hlc,hby,hmax⟩:0<=l/\l<=c/\c*i'.bytes<=281474976710656/\c<=9223372036854775807:=hs

  rw[hl]at hrelx;rw[hc]at hrely;have hv1:a.eval x=.int .i64 l:=hrelx;have hv2:a.eval y=.int .i64 c:=hrely;have hzr:=ey (w:=w) (S:=S) (μ:=μ) (objs:=σ.objs) h3;have hzs:zv.cells.size=i'.size:=by have:=aj.length hzr;simp at this;omega
  have hwl:IntKind.i64.wrap l=l:=IntWalk.i64_in l (by omega);have hwc:IntKind.i64.wrap c=c:=IntWalk.i64_in c (by omega);have hzz:=oT hav;subst hzz;have hrz:ae w S zs zv.cells.toList:=aj.toRep hzr
  let row:Array Value:=(Array.range (c.toNat*i'.size)).map (fun j=>zv.cells[j%zv.cells.size]!)
  have hrow:row.toList=cH zv.cells.toList c.toNat:=ly zv.cells i'.size hzs hpos c.toNat;have hrsz:row.size=c.toNat*i'.size:=by simp[row]
  refine nR (fz:=[]) h hdst (hd d hdst) (blk:=some w.heap.size) (mu:=.slice (some ⟨w.heap.size,0,none⟩) l.toNat c.toNat) (v:=.slice (some ⟨w.heap.size,0,none⟩) l.toNat c.toNat) (w':=w.alloc (.cells row e)) ?_ (jQ _ _) (fun b hb=>(O_ hb).symm) ?_ (.inr ⟨⟨_,_,rfl⟩,rfl,rfl⟩)
  ·simp only[execOp,ho,Instr.makeSlice,Sem.run_bind,run_underlying ht,Result.andThen_ok,hv1,hv2,asInt,asIntOf,Sem.run_pure,UI hi,hwl,hwc]
   have t1:(decide (c<0)||decide ((i'.bytes:Int)*c>2 ^ 48))=false:=by
    rw[Int.mul_comm];simp only[Bool.or_eq_false_iff,decide_eq_false_iff_not];constructor
    ·omega
    ·have:(2:Int) ^ 48=281474976710656:=by decide
     omega
   simp only[t1,Bool.false_or];rw[if_neg (by simp;omega)];simp only[Sem.run_bind,run_askRoom,Result.andThen_ok,Ft hi];by_cases hz0:c.toNat*i'.size=0
   ·rw[if_pos hz0];simp only[Sem.run_pure,Result.andThen_ok,newRow,Sem.run_bind,run_newObj];have:row = #[]:=by apply Array.eq_empty_of_size_eq_zero;omega
    rw[this,hz0];have hr0:∀f:Nat->Value,(Array.range 0).map f = #[]:=fun f=>by apply Array.toList_inj.1;simp
    rw[hr0];rfl
   ·rw[if_neg hz0];simp only[Sem.run_bind,fR h1 h2,Result.andThen_ok,Sem.run_pure,newRow,run_newObj];rfl
  ·have hlen2:(List.replicate l.toNat zs).length=l.toNat:=by simp
   refine .inr ⟨_,c.toNat,row,e,(0,0),rfl,by rw[hlen2],ct _ _,m5.zero _,hrsz,by rw[hlen2];omega,?_,?_⟩
   ·intro r hr;have:=List.eq_of_mem_replicate hr;subst this;simpa using hzl
   ·rw[hlen2,hrow]
    have hflat:∀n,(List.replicate n zs).flatten=cH zs n:=by
     intro n
     induction n with
     |zero=>rfl
     |succ n ih=>simp[List.replicate_succ,cH,ih]
    have htake:∀(n m:Nat),n<=m->(cH zv.cells.toList m).take (n*i'.size)=cH zv.cells.toList n:=by
     intro n
     induction n with
     |zero=>intro m _;simp[cH]
     |succ n ih=>
      intro m hm;cases m with
      |zero=>omega
      |succ m=>
       simp only[cH];rw[show(n+1)*i'.size=zv.cells.toList.length+n*i'.size by simp[hzs,Nat.add_mul];omega,List.take_length_add_append,ih m (by omega)]
    rw[hflat,htake _ _ (by omega)]
    have hrepR:∀n,ae w S (cH zs n) (cH zv.cells.toList n):=by
     intro n
     induction n with
     |zero=>rfl
     |succ n ih=>exact ae.append hrz ih
    exact ae.mono (sy h _) cY.nil _ _ (hrepR _)
 ·simp at hu

end
end Go.Vs
set_option linter.unusedVariables false
set_option linter.unusedSimpArgs false
namespace Go.Vs

structure Wrote(w w':World)(b:Nat)(vs:Array Value)(e:TypeId)(fr:Nat×Nat):Prop where
 os:w'.os=w.os
 tape:w'.tape=w.tape
 output:w'.output=w.output
 size:w'.heap.size=w.heap.size
 other:∀k,k≠b->w'.heap[k]?=w.heap[k]?
 here:w'.heap[b]?=some (.cells vs e fr)
 shape:∀k x,w.shape? k=some x->w'.shape? k=some x

theorem lV{w:World}{b off:Nat}{vs:Array Value}{e:TypeId}{fr:Nat×Nat}(h:w.heap[b]?=some (.cells vs e fr))(v:Value) :
  Wrote w (w.setCell ⟨b,off,none⟩ v) b (vs.setIfInBounds off v) e fr:=by
 refine⟨rfl,rfl,rfl,by simp[World.setCell],fun k hk=>?_,?_,fun k x hx=>?_⟩
 ·simp only[World.setCell,Array.getElem?_modify];rw[if_neg (by omega)]
 ·simp only[World.setCell,Array.getElem?_modify,if_true,h];simp
 ·simp only[World.shape?,World.setCell,Array.getElem?_modify]at hx |-;by_cases hk:b=k
  ·subst hk;rw[h]at hx;simpa[h]using hx
  ·rw[if_neg hk];exact hx

theorem BU{w:World}{b off:Nat}{vs:Array Value}{e:TypeId}{fr:Nat×Nat}(h:w.heap[b]?=some (.cells vs e fr))(hf:m5 fr vs.size)(ho:off<vs.size):w.frozen? ⟨b,off,none⟩=false:=by
 have hf:fr=(0,0):=hf;subst hf;simp only[World.frozen?,h];simp only[Bool.and_eq_false_iff,decide_eq_false_iff_not];omega

theorem iI(P:Program){b off:Nat}{e:TypeId}{fr:Nat×Nat} : ∀(us:List Value) (i:Nat) (vs:Array Value) (w:World),w.heap[b]?=some (.cells vs e fr)->m5 fr vs.size->off+i+us.length<=vs.size->
  (∀u∈us,u.oneCell'=true)->∃w' vs',(storeCells ⟨b,off,none⟩ us i).run P w=.ok () w'/\Wrote w w' b vs' e fr/\vs'.toList=vs.toList.take (off+i)++us++vs.toList.drop (off+i+us.length)
 |[],i,vs,w,h,_,hle,_=>⟨w,vs,rfl,⟨rfl,rfl,rfl,rfl,fun _ _=>rfl,h,fun _ _ h=>h⟩,by simp⟩
 |u::us,i,vs,w,h,hf,hle,h1=>by
  simp only[List.length_cons]at hle;have hlt:off+i<vs.size:=by omega
  have hw:=lV (off:=off+i) h u;obtain⟨w',vs',r1,r2,r3⟩:=iI (off:=off) P us (i+1) (vs.setIfInBounds (off+i) u) (w.setCell ⟨b,off+i,none⟩ u) hw.here (by simpa using hf) (by simp;omega) (fun x hx=>h1 x (List.mem_cons_of_mem _ hx));refine⟨w',vs',?_,⟨r2.os.trans hw.os,r2.tape.trans hw.tape,r2.output.trans hw.output,r2.size.trans hw.size,fun k hk=>(r2.other k hk).trans (hw.other k hk),r2.here,fun k x hx=>r2.shape _ _ (hw.shape _ _ hx)⟩,?_⟩
  ·have hc:w.cell? ⟨b,off+i,none⟩=some vs[off+i]:=by rw[dI h];simp[hlt]
   simp only[storeCells,Sem.run_bind,gc,run_store P w _ u .plain (h1 u (by simp)),hc,BU h hf hlt,Bool.false_eq_true,if_false,Result.andThen_ok];exact r1
  ·rw[r3];have hl:off+i<vs.toList.length:=by simpa using hlt
   simp only[Array.toList_setIfInBounds,List.length_cons]
   have e1:(vs.toList.set (off+i) u).take (off+(i+1))=vs.toList.take (off+i)++[u]:=by
    rw[show off+(i+1)=(off+i)+1 by omega,List.take_succ_eq_append_getElem (by simpa using hl),List.take_set_of_le (Nat.le_refl _)];simp
   have e2:(vs.toList.set (off+i) u).drop (off+(i+1)+us.length)=vs.toList.drop (off+i+(us.length+1)):=by
    rw[List.drop_set_of_lt (by omega)];congr 1;omega
   rw[e1,e2];simp

theorem A7{α:Type}{A Y:List α}{X s R off n:Nat}(h1:X+s<=R)(h2:R<=A.length)(h3:Y.length=n)(h4:off+n<=s) :
  (A.take (X+off)++Y++A.drop (X+(off+n))).take R =
    (A.take R).take X++((((A.take R).drop X).take s).take off++Y++(((A.take R).drop X).take s).drop (off+n))++(A.take R).drop (X+s):=by
 apply List.ext_getElem?;intro j;simp only[List.getElem?_take,List.getElem?_append,List.getElem?_drop,List.length_take,List.length_append,List.length_drop];by_cases c1:j<X
 ·simp only[show j<min (X+off) A.length by omega,show j<R by omega,show j<min X (min R A.length) by omega,show j<X+off by omega,show j<min (X+off) A.length+Y.length by omega,c1,
   show j<min X (min R A.length)+(min off (min s (min R A.length-X))+Y.length+(min s (min R A.length-X)-(off+n))) by omega,if_true]
 ·by_cases c2:j<X+off
  ·simp only[show j<min (X+off) A.length by omega,show j<R by omega,show ¬j<min X (min R A.length) by omega,c2,show j<min (X+off) A.length+Y.length by omega,
    show j<min X (min R A.length)+(min off (min s (min R A.length-X))+Y.length+(min s (min R A.length-X)-(off+n))) by omega,if_true,if_false,
    show j-min X (min R A.length)<min off (min s (min R A.length-X))+Y.length by omega,show j-min X (min R A.length)<min off (min s (min R A.length-X)) by omega,
    show j-min X (min R A.length)<off by omega,show j-min X (min R A.length)<s by omega,show X+(j-min X (min R A.length))<R by omega]
   congr 1;omega
  ·by_cases c3:j<X+off+n
   ·simp only[show ¬j<min (X+off) A.length by omega,show j<R by omega,show ¬j<min X (min R A.length) by omega,show j<min (X+off) A.length+Y.length by omega,
     show j<min X (min R A.length)+(min off (min s (min R A.length-X))+Y.length+(min s (min R A.length-X)-(off+n))) by omega,if_true,if_false,
     show j-min X (min R A.length)<min off (min s (min R A.length-X))+Y.length by omega,show ¬j-min X (min R A.length)<min off (min s (min R A.length-X)) by omega]
    congr 1;omega
   ·by_cases c4:j<X+s
    ·simp only[show j<R by omega,show ¬j<min X (min R A.length) by omega,show ¬j<min (X+off) A.length+Y.length by omega,
      show j<min X (min R A.length)+(min off (min s (min R A.length-X))+Y.length+(min s (min R A.length-X)-(off+n))) by omega,if_true,if_false,
      show ¬j-min X (min R A.length)<min off (min s (min R A.length-X))+Y.length by omega]
     rw[if_pos (by omega),if_pos (by omega)];congr 1;omega
    ·simp only[show ¬j<min (X+off) A.length+Y.length by omega,
      show ¬j<min X (min R A.length)+(min off (min s (min R A.length-X))+Y.length+(min s (min R A.length-X)-(off+n))) by omega,if_false]
     by_cases c5:j<R
     ·rw[if_pos c5,if_pos (by omega)];congr 1;omega
     ·rw[if_neg c5,if_neg (by omega)]

section
variable {P:Program} {w0 w:World} {S0 S:aO} {M:Ctx} {σ:St} {a:Act} {μ:Nat->Value} {β:Nat->Option Nat} {o:Oper}

theorem BV(h:SimG w0 S0 M σ a w S μ β){id:Nat}{x:Ob}{b:Nat}(hl:ac σ.objs id=some x)(hb:β id=some b){w':World}{vs:Array Value}{e:TypeId}{fr:Nat×Nat}(hw:Wrote w w' b vs e fr):Kept M.blocks w0 w':=by
 refine⟨hw.os.trans h.kept.os,hw.tape.trans h.kept.tape,hw.output.trans h.kept.output,by rw[hw.size];exact h.kept.size,fun k hk hm=>?_,fun k x hx=>hw.shape _ _ (h.kept.shape _ _ hx)⟩
 have:k≠b:=by
  rintro rfl;rcases h.own id x k hl hb with h1|h1
  ·omega
  ·exact hm h1
 exact(hw.other k this).trans (h.kept.block k hk hm)

theorem SimG.write(h:SimG w0 S0 M σ a w S μ β){id:Nat}{x x':Ob}{b:Nat}(hl:ac σ.objs id=some x)(hb:β id=some b){w':World}{vs:Array Value}{e:TypeId}{fr:Nat×Nat}(hw:Wrote w w' b vs e fr)(hro:id∉σ.ro)
  (hkind:(∃c c',x=.box c/\x'=.box c')\/(∃cv s rows rows',x=.arr cv s rows/\x'=.arr cv s rows'/\rows.length=rows'.length))
  (hob:bA w' S μ σ.objs (some b) (μ id) x'):SimG w0 S0 M {σ with objs:=Vs.put σ.objs id x' } a w' S μ β:=by
 have hS:∀b' off,S b' off->b'≠b:=by
  rintro b' off hS rfl;exact hro (h.unst id x b' off hl hb hS).1
 have:=h.turn hl (some b) (μ id) (w':=w') (⟨fun b' off hS'=>bF (hw.other b' (hS b' off hS')) off,hw.shape⟩) (BV h hl hb hw) (by rw[hw.size];exact Nat.le_refl _)
  (fun id' y b' hid hl' hb'=>hw.other b' (fun e=>hid (h.inj id' id y x b' hl' hl hb' (e▸hb)))) ?_ hob (fun b' hb'=>.inl (by rw[hb];exact hb')) (fun b' off hb' hS'=>absurd (O_ hb').symm (hS b' off hS'))
 ·have e1:(fun i=>if i=id then μ id else μ i)=μ:=by funext i;split<;>simp_all
  have e2:(fun i=>if i=id then some b else β i)=β:=by funext i;split<;>simp_all
  rw[e1,e2]at this;exact this
 ·rcases hkind with⟨c,c',h1,h2⟩|⟨cv,s,r,r',h1,h2,h3⟩
  ·exact .inl ⟨c,c',h1,h2,rfl⟩
  ·exact .inr (.inl ⟨cv,s,r,cv,r',h1,h2,Nat.le_refl _,fun _=>⟨h3,rfl⟩⟩)

theorem A8:∀ {rows:List (List IV)} {s i:Nat} {row row':List IV},(∀r∈rows,r.length=s)->rows[i]?=some row->row'.length=s->
  (rows.set i row').flatten=rows.flatten.take (i*s)++row'++rows.flatten.drop ((i+1)*s)
 |[],_,_,_,_,_,h,_=>by simp at h
 |r0::rs,s,0,row,row',hl,h,hl'=>by
  have h1:=hl r0 (by simp);simp only[List.set_cons_zero,List.flatten_cons,Nat.zero_mul,List.take_zero,List.nil_append,Nat.zero_add,Nat.one_mul];rw[<-h1,List.drop_left'];rfl
 |r0::rs,s,i+1,row,row',hl,h,hl'=>by
  have h1:=hl r0 (by simp);have ih:=A8 (rows:=rs) (s:=s) (i:=i) (row:=row) (row':=row') (fun x hx=>hl x (List.mem_cons_of_mem _ hx)) (by simpa using h) hl';simp only[List.set_cons_succ,List.flatten_cons,ih]
  have e1:(r0++rs.flatten).take ((i+1)*s)=r0++rs.flatten.take (i*s):=by
   rw[show(i+1)*s=r0.length+i*s by rw[h1,Nat.add_mul];omega,List.take_length_add_append]
  have e2:(r0++rs.flatten).drop ((i+1+1)*s)=rs.flatten.drop ((i+1)*s):=by
   rw[show(i+1+1)*s=r0.length+(i+1)*s by rw[h1,Nat.add_mul (i+1)];omega,List.drop_length_add_append]
  rw[e1,e2];simp

theorem MZ(h:SimG w0 S0 M σ a w S μ β)(hd:∀d,o.dst=some d->d<σ.n){t:TypeId}{n:Nat}{x y:Operand}{x' y':Opd}(ho:o.op=.store t x y)(hn:dd P t=some n)(hx:ai x=some x')(hy:ai y=some y')
  {u:Upd} (hu:oV σ n (val σ x') (val σ y')=some u) (hs:u.side):cp P o a w (fun v w'=>cE w0 S0 M (σ.apply o.dst u) (a.put o.dst v) w'):=by
 have hrelx:=ak h hx;have hrely:=ak h hy
 have hrun:∀ {b off:Nat} {w':World},a.eval x=.pointer (some ⟨b,off,none⟩)->(a.eval y).cells.size=n->(storeCells ⟨b,off,none⟩ (a.eval y).cells.toList 0).run P w=.ok () w'->(execOp a.eval o).run P w=.ok .skip w':=by
  intro b off w' hv hsz hst;simp only[execOp,ho,hv,Instr.storeAt,Instr.sureAddr,Sem.run_bind,Sem.run_pure,Result.andThen_ok,storeVar,cK hn];rw[if_neg (by simp[hsz])];simp only[hst,Result.andThen_ok,Sem.run_bind,Sem.run_pure]
 unfold oV at hu;split at hu
 ·simp at hu
 ·next cs hcs=>
  have hcr:=pt h hrely hcs;have hlenc:=aj.length hcr;simp only[Array.length_toList]at hlenc;split at hu
  ·next id off heq=>
   rw[heq]at hrelx;split at hu
   ·next cells hl=>
    split at hu
    ·simp at hu
    ·next hro=>
     have hro:id∉σ.ro:=by simpa using hro
     obtain rfl:=O_ hu;obtain⟨hcl,hle⟩:cs.length=n/\off+n<=cells.length:=hs;obtain⟨b,vs,e,fr,hb,hm,hv,hh,hf,hr⟩:=j7 h hl hrelx;have hlv:=aj.length hr;simp only[Array.length_toList]at hlv;obtain⟨w',vs',r1,r2,r3⟩:=iI P (off:=off) (a.eval y).cells.toList 0 vs w hh hf (by simp;omega) (aj.oneCells hcr);refine⟨_,Go.undef,w',hrun hv (by omega) r1,.inr ⟨rfl,rfl⟩,S,μ,β,?_⟩
     have hkeeps:bv S w w':=by
      refine⟨?_,r2.shape⟩;intro b' off' hS
      have:b'≠b:=by
       rintro rfl;exact hro (h.unst id _ b' off' hl hb hS).1
      exact bF (r2.other b' this) off'
     have h2:=h.write hl hb r2 hro (.inl ⟨_,_,rfl,rfl⟩) (x':=.box (cells.take off++cs++cells.drop (off+n))) (by
      refine⟨b,vs',e,fr,rfl,hm,r2.here,?_,?_⟩
      ·have:vs'.size=vs.size:=by
        have:=congrArg List.length r3;simp only[Array.length_toList,List.length_append,List.length_take,List.length_drop]at this;omega
       rw[this];exact hf
      ·rw[r3];simp only[Nat.add_zero,Array.length_toList];rw[show off+(a.eval y).cells.size=off+n by omega]
       exact aj.mono hkeeps (fun _ _ x=>x) _ _ (aj.append (aj.append (aj.take off hr) hcr) (aj.drop _ hr)))
     exact h2.putD (sv:=.undef) hd trivial
   ·simp at hu
  ·next id ver i off heq=>
   rw[heq]at hrelx;split at hu
   ·next cv s rows vs fz hl hiv=>
    split at hu
    ·simp at hu
    ·next hro=>
     simp only[Bool.or_eq_true,List.contains_iff_mem,not_or]at hro;split at hu
     ·next hver=>
      have hver:ver=cv:=by simpa using hver
      split at hu
      ·next row hrow=>
       obtain rfl:=O_ hu;obtain⟨hcl,hle⟩:cs.length=n/\off+n<=row.length:=hs;obtain⟨_,hv0⟩:=hrelx _ _ _ hl;obtain⟨b,cap,hm,hv⟩:=hv0 hver
       have hi:i<rows.length:=by
        rcases Nat.lt_or_ge i rows.length with hh|hh
        ·exact hh
        ·simp[List.getElem?_eq_none hh]at hrow
       obtain⟨us,e,fr,hb,hh,hf,hsz,hle2,hlens,hrep⟩:=Fu h hl hm (.inl (by intro e;subst e;simp at hi));have hrl:row.length=s:=hlens row (List.mem_of_getElem? hrow);have hroom:(i+1)*s<=rows.length*s:=Nat.mul_le_mul_right _ hi;have hroom2:rows.length*s<=cap*s:=Nat.mul_le_mul_right _ hle2;rw[Nat.add_mul]at hroom;obtain⟨w',vs',r1,r2,r3⟩:=iI P (off:=i*s+off) (a.eval y).cells.toList 0 us w hh hf (by simp;omega) (aj.oneCells hcr);have h0:=h.freeze fz;have hiv2:=j6 h hiv (fun _ x=>x) hcr;have hvl:=ae.length hiv2;simp only[Array.length_toList]at hvl;refine⟨_,Go.undef,w',hrun hv (by omega) r1,.inr ⟨rfl,rfl⟩,cY S β σ.objs fz,μ,β,?_⟩
       have hro':id∉fz++σ.ro:=by
        rw[List.mem_append,not_or];exact⟨hro.2,hro.1⟩
       have hkeeps:bv (cY S β σ.objs fz) w w':=by
        refine⟨?_,r2.shape⟩;intro b' off' hS
        have:b'≠b:=by
         rintro rfl;exact hro' (h0.unst id _ b' off' hl hb hS).1
        exact bF (r2.other b' this) off'
       have hnl:(row.take off++vs++row.drop (off+n)).length=s:=by
        simp only[List.length_append,List.length_take,List.length_drop];omega
       have h2:=h0.write hl hb r2 hro' (.inr ⟨cv,s,rows,_,rfl,rfl,by simp⟩) (x':=.arr cv s (rows.set i (row.take off++vs++row.drop (off+n)))) (by
        have hss:vs'.size=us.size:=by
         have:=congrArg List.length r3;simp only[Array.length_toList,List.length_append,List.length_take,List.length_drop]at this;omega
        refine .inr ⟨b,cap,vs',e,fr,rfl,?_,r2.here,?_,?_,?_,?_,?_⟩
        ·rw[List.length_set];exact hm
        ·rw[hss];exact hf
        ·rw[hss];exact hsz
        ·rw[List.length_set];exact hle2
        ·intro r hr;rcases List.mem_or_eq_of_mem_set hr with hr|rfl
         ·exact hlens r hr
         ·exact hnl
        ·rw[List.length_set,A8 hlens hrow hnl,r3];simp only[Nat.add_zero,Array.length_toList];rw[show i*s+off+(a.eval y).cells.size=i*s+(off+n) by omega];have hrow':=su hlens hrow;have p1:=ae.take (i*s) hrep;have p2:=ae.drop ((i+1)*s) hrep;have p3:=ae.take s (ae.drop (i*s) hrep);rw[hrow']at p3;have q:=ae.append (ae.append (ae.mono (bv.refl _ _) (fun _ _ x=>.inl x) _ _ p1) (ae.append (ae.append (ae.mono (bv.refl _ _) (fun _ _ x=>.inl x) _ _ (ae.take off p3)) hiv2) (ae.mono (bv.refl _ _) (fun _ _ x=>.inl x) _ _ (ae.drop (off+n) p3)))) (ae.mono (bv.refl _ _) (fun _ _ x=>.inl x) _ _ p2);have q':=ae.mono hkeeps (fun _ _ x=>x) _ _ q;have huse:us.toList.length=cap*s:=by simpa using hsz
         have e2:=A7 (A:=us.toList) (Y:=(a.eval y).cells.toList) (X:=i*s) (s:=s) (R:=rows.length*s) (off:=off) (n:=n) (by omega) (by omega) (by simp;omega) (by omega);rw[show i*s+s=(i+1)*s by rw[Nat.add_mul];omega]at e2;rw[e2]
         exact q')
       exact h2.putD (sv:=.undef) hd trivial
      ·simp at hu
     ·simp at hu
   ·simp at hu
  ·simp at hu

end
end Go.Vs
