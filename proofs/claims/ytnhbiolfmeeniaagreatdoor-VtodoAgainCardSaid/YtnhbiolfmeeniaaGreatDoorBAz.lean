/- A part of a proof. No conditions. -/
import Derived.WalkKit
set_option linter.all false
namespace Go.Vs
theorem A_{α:Sort _}(t:α):∃x,t=x:=⟨_,rfl⟩
theorem B_{α:Sort _}(t:α):∃x,x=t:=⟨_,rfl⟩
theorem O_{α:Type _}{a b:α}(h:some a=some b):a=b:=Option.some.inj h
theorem E_{α:Type _}(a b:α):(some a=some b)=(a=b):=Option.some.injEq a b
inductive IV where
 |int (k:IntKind) (n:Int)
 |bool (b:Bool)
 |str (s:List UInt8)
 |nilp
 |ref (cells:List IV)
 |slice (rows:List (List IV))
 |nilf
 |yld (l:Nat)
 |fn (f:Nat) (caps:List IV)
 |bnd (f:Nat) (first:List IV)
 |nili
 |handle (t b o:Nat)
 |nilS
 |iface (t:Nat) (v:IV)
 |agg (cells:List IV)
 |tuple (vs:List IV)
 deriving Inhabited,Repr
def IV.one:IV->Bool
 |.agg _=>false
 |.tuple _=>false
 |_=>true
abbrev bb:=Nat->Nat->Prop
mutual
def sI(w:World)(S:bb):IV->Value->Prop
 |.int k n,v=>v=.int k n
 |.bool b,v=>v=.bool b
 |.str s,v=>v=.string ⟨s.toArray⟩
 |.nilp,v=>v=.pointer none
 |.ref c,v=>∃blk off,v=.pointer (some ⟨blk,off,none⟩)/\aQ w S c blk off
 |.slice g,v=>∃a cap,v=.slice a g.length cap/\g.length<=cap/\
   (g≠[]->∃blk off s,a=some ⟨blk,off,none⟩/\bB w S g s blk off)
 |.nilf,v=>v=.nilFunc
 |.yld l,v=>v=.func (.yield l) #[] #[]
 |.fn f B,v=>∃vs,v=.func (.func f) #[] vs/\br w S B vs.toList
 |.bnd f first,v=>∃vs,v=.func (.func f) vs #[]/\br w S first vs.toList
 |.nili,v=>v=.nilIface
 |.nilS,v=>v=.slice none 0 0
 |.handle t b o,v=>v=.iface t (.agg #[.pointer (some ⟨b,o,none⟩)])
 |.iface t x,v=>∃u,v=.iface t u/\sI w S x u
 |.agg c,v=>∃vs,v=.agg vs/\ag w S c vs.toList
 |.tuple y,v=>∃vs,v=.tuple vs/\br w S y vs.toList
def br(w:World)(S:bb):List IV->List Value->Prop
 |[],vs=>vs=[]
 |x::y,vs=>∃v h,vs=v::h/\sI w S x v/\br w S y h
def ag(w:World)(S:bb):List IV->List Value->Prop
 |[],vs=>vs=[]
 |x::y,vs=>∃v h,vs=v::h/\x.one=true/\sI w S x v/\ag w S y h
def aQ(w:World)(S:bb):List IV->Nat->Nat->Prop
 |[],_,_=>True
 |x::y,blk,off=>S blk off/\x.one=true/\(∃v,w.cell? ⟨blk,off,none⟩=some v/\sI w S x v)/\aQ w S y blk (off+1)
def bB(w:World)(S:bb):List (List IV)->Nat->Nat->Nat->Prop
 |[],_,_,_=>True
 |r::C,s,blk,off=>r.length=s/\aQ w S r blk off/\bB w S C s blk (off+s)
end
inductive SV where
 |undef
 |val (v:IV)
 |nils
 |full (rows:List (List IV))
 |own (id ver:Nat)
 |loc (id off:Nat)
 |eloc (id ver i off:Nat)
 |view (id ver lo hi:Nat)
 |agg (cells:List SV)
 |clo (f:Nat) (caps:List SV)
 |tup (caps:List SV)
 |ifc (t:Nat) (v:SV)
 |anyB
 |selfN (id t:Nat) (nn:Bool)
 |ownT (id ver t:Nat)
 |itr (id:Nat)
 deriving Inhabited,Repr
inductive Ob where
 |box (cells:List SV)
 |arr (ver s:Nat) (rows:List (List IV))
 |iter (s:List UInt8) (pos:Nat)
 deriving Inhabited,Repr
def ac{α:Type} : List (Nat×α)->Nat->Option α
 |[],_=>none
 |(j,v)::r,k=>bif j==k then some v else ac r k
def put{α:Type}(l:List (Nat×α))(k:Nat)(v:α):List (Nat×α):=(k,v)::l
structure St where
 env:List (Nat×SV)
 objs:List (Nat×Ob)
 ro:List Nat
 n:Nat
 gl:List (Nat×List IV)
def aE(env:List (Nat×SV))(k:Nat):SV:=(ac env k).getD .undef
def SV.one:SV->Bool
 |.undef=>false
 |.val v=>v.one
 |.agg _=>false
 |.tup _=>false
 |_=>true
mutual
def au(w:World)(S:bb)(μ:Nat->Value)(objs:List (Nat×Ob)):SV->Value->Prop
 |.undef,_=>True
 |.val iv,v=>sI w S iv v
 |.nils,v=>∃a,v=.slice a 0 0
 |.full g,v=>sI w S (.slice g) v/\∃a,v=.slice a g.length g.length
 |.own id h,v=>∀q s g,ac objs id=some (.arr q s g)->h<=q/\(h=q->v=μ id)
 |.loc id off,v=>∀k,ac objs id=some (.box k)->∃b,μ id=.pointer (some ⟨b,0,none⟩)/\v=.pointer (some ⟨b,off,none⟩)
 |.eloc id h i off,v=>∀q s g,ac objs id=some (.arr q s g)->h<=q/\
   (h=q->∃b cap,μ id=.slice (some ⟨b,0,none⟩) g.length cap/\v=.pointer (some ⟨b,i*s+off,none⟩))
 |.view id h B C,v=>∀q s g,ac objs id=some (.arr q s g)->h<=q/\
   (h=q->B<=C/\C<=g.length/\∃a cap D,μ id=.slice a g.length cap/\v=.slice D (C-B) (cap-B)/\(B=0->D=a)/\(B<g.length->∃b,a=some ⟨b,0,none⟩/\D=some ⟨b,B*s,none⟩))
 |.agg k,v=>∃vs,v=.agg vs/\al w S μ objs k vs.toList
 |.clo f y,v=>∃vs,v=.func (.func f) #[] vs/\bc w S μ objs y vs.toList
 |.tup y,v=>∃vs,v=.tuple vs/\bc w S μ objs y vs.toList
 |.ifc t x,v=>∃u,v=.iface t u/\au w S μ objs x u
 |.anyB,v=>∃b,v=.bool b
 |.ownT id h t,v=>(∀q s g,ac objs id=some (.arr q s g)->h<=q/\(h=q->v=μ id))/\∀a n c,v=.slice (some a) n c->∃m,w.shape? a.block=some (t,m)
 |.selfN id t E,v=>∀k,ac objs id=some (.box k)->∃b,μ id=.pointer (some ⟨b,0,none⟩)/\w.shape? b=some (t,2)/\((E=false/\v=.pointer none)\/v=.pointer (some ⟨b,0,none⟩))
 |.itr id,v=>∀s p,ac objs id=some (.iter s p)->v=μ id
def bc(w:World)(S:bb)(μ:Nat->Value)(objs:List (Nat×Ob)):List SV->List Value->Prop
 |[],vs=>vs=[]
 |x::xs,vs=>∃v z,vs=v::z/\au w S μ objs x v/\bc w S μ objs xs z
def al(w:World)(S:bb)(μ:Nat->Value)(objs:List (Nat×Ob)):List SV->List Value->Prop
 |[],vs=>vs=[]
 |x::xs,vs=>∃v z,vs=v::z/\v.oneCell'=true/\au w S μ objs x v/\al w S μ objs xs z
end
def qo(b:Nat×Nat)(n:Nat):Prop:=b=(0,0)
theorem qo.zero(n:Nat):qo (0,0) n:=rfl
def bI(w:World)(S:bb)(μ:Nat->Value)(objs:List (Nat×Ob))(blk:Option Nat)(mu:Value):Ob->Prop
 |.box d=>∃b vs e fr,blk=some b/\mu=.pointer (some ⟨b,0,none⟩)/\w.heap[b]?=some (.cells vs e fr)/\qo fr vs.size/\al w S μ objs d vs.toList
 |.arr _ s c=>(c=[]/\blk=none/\∃a,mu=.slice a 0 0)\/
   (∃b cap vs e fr,blk=some b/\mu=.slice (some ⟨b,0,none⟩) c.length cap/\w.heap[b]?=some (.cells vs e fr)/\qo fr vs.size/\vs.size=cap*s/\c.length<=cap/\
     (∀r∈c,r.length=s)/\ag w S c.flatten (vs.toList.take (c.length*s)))
 |.iter s f=>∃b,blk=some b/\mu=.pointer (some ⟨b,0,none⟩)/\w.heap[b]?=some (.stringIter ⟨s.toArray⟩ f)
structure Kept(M:Nat->Prop)(w w':World):Prop where
 os:w'.os=w.os
 tape:w'.tape=w.tape
 output:w'.output=w.output
 size:w.heap.size<=w'.heap.size
 block:∀k,k<w.heap.size->¬M k->w'.heap[k]?=w.heap[k]?
 shape:∀k x,w.shape? k=some x->w'.shape? k=some x
mutual
def SV.noRef(d:Nat):SV->Bool
 |.undef=>true
 |.val _=>true
 |.nils=>true
 |.full _=>true
 |.own id _=>!(id==d)
 |.loc id _=>!(id==d)
 |.eloc id _ _ _=>!(id==d)
 |.view id _ _ _=>!(id==d)
 |.agg c=>SV.noRefs d c
 |.clo _ b=>SV.noRefs d b
 |.tup b=>SV.noRefs d b
 |.ifc _ v=>SV.noRef d v
 |.anyB=>true
 |.selfN id t f=>!(id==d)
 |.ownT id _ _=>!(id==d)
 |.itr id=>!(id==d)
def SV.noRefs(d:Nat):List SV->Bool
 |[]=>true
 |x::e=>SV.noRef d x&&SV.noRefs d e
end
structure Ctx where
 blocks:Nat->Prop
 keep:List (Nat×SV)
 at':Nat->Value
 df:List Deferred
def jt(w:World)(S:bb)(p:Nat×List IV):Prop:=aQ w S p.2 p.1 0/\∃t,w.shape? p.1=some (t,p.2.length)
structure SimG(w0:World)(S0:bb)(M:Ctx)(σ:St)(a:Act)(w:World)(S:bb)(μ:Nat->Value)(β:Nat->Option Nat):Prop where
 defers:a.defers=M.df
 size:a.tmps.size=σ.n
 env:∀k,au w S μ σ.objs (aE σ.env k) (a.tmps.getD k Go.undef)
 objs:∀id o,ac σ.objs id=some o->bI w S μ σ.objs (β id) (μ id) o
 inj:∀id id' o o' b,ac σ.objs id=some o->ac σ.objs id'=some o'->β id=some b->β id'=some b->id=id'
 own:∀id o b,ac σ.objs id=some o->β id=some b->w0.heap.size<=b\/M.blocks b
 unst:∀id o b off,ac σ.objs id=some o->β id=some b->S b off->id∈σ.ro/\∀ver s rows,o=.arr ver s rows->off<rows.length*s
 stab:∀b o,S b o->b<w.heap.size
 ext:∀b o,S0 b o->S b o
 back:∀b o,S b o->S0 b o\/w0.heap.size<=b\/M.blocks b
 kept:Kept M.blocks w0 w
 stay:∀b o,S0 b o->w.cell? ⟨b,o,none⟩=w0.cell? ⟨b,o,none⟩
 hist:∀p,p∈M.keep->au w S μ σ.objs p.2 (M.at' p.1)
 far:∀p,p∈M.keep->∀d,d<σ.n->p.2.noRef d=true
 glob:∀p,p∈σ.gl->jt w S p
def gc(w0:World)(S0:bb)(M:Ctx)(σ:St)(a:Act)(w:World):Prop:=
 ∃S μ β,SimG w0 S0 M σ a w S μ β
def bM(S:bb)(w w':World):Prop:=(∀b o,S b o->w'.cell? ⟨b,o,none⟩=w.cell? ⟨b,o,none⟩)/\∀k x,w.shape? k=some x->w'.shape? k=some x
theorem bM.refl(S:bb)(w:World):bM S w w:=⟨fun _ _ _=>rfl,fun _ _ h=>h⟩
theorem dA{w w':World}{k:Nat}(h:w'.heap[k]?=w.heap[k]?):w'.shape? k=w.shape? k:=by simp only[World.shape?,h]
theorem sJ{w:World}{k:Nat}{x:TypeId×Nat}(h:w.shape? k=some x):k<w.heap.size:=by
 rcases Nat.lt_or_ge k w.heap.size with b|b
 .exact b
 simp[World.shape?,Array.getElem?_eq_none b]at h
mutual
theorem sI.mono{w w':World}{S D:bb}(B:bM S w w')(C:∀b o,S b o->D b o):∀(x:IV) (v:Value),sI w S x v->sI w' D x v
 |.int k n,v,h=>h
 |.bool b,v,h=>h
 |.str s,v,h=>h
 |.nilp,v,h=>h
 |.ref cells,v,⟨blk,off,d,y⟩=>⟨blk,off,d,aQ.mono B C cells blk off y⟩
 |.slice I,v,⟨a,cap,d,y,E⟩=>⟨a,cap,d,y,fun Q=>let ⟨blk,off,s,L,O⟩:=E Q;⟨blk,off,s,L,bB.mono B C I s blk off O⟩⟩
 |.nilf,v,h=>h
 |.yld _,v,h=>h
 |.fn f K,v,⟨vs,d,y⟩=>⟨vs,d,br.mono B C K _ y⟩
 |.bnd f first,v,⟨vs,d,y⟩=>⟨vs,d,br.mono B C first _ y⟩
 |.nili,v,h=>h
 |.handle _ _ _,v,h=>h
 |.nilS,v,h=>h
 |.iface t x,v,⟨u,d,y⟩=>⟨u,d,sI.mono B C x u y⟩
 |.agg cells,v,⟨vs,d,y⟩=>⟨vs,d,ag.mono B C cells _ y⟩
 |.tuple H,v,⟨vs,d,y⟩=>⟨vs,d,br.mono B C H _ y⟩
theorem br.mono{w w':World}{S D:bb}(B:bM S w w')(C:∀b o,S b o->D b o):∀(x:List IV) (v:List Value),br w S x v->br w' D x v
 |[],v,h=>h
 |x::H,v,⟨u,us,d,y,E⟩=>⟨u,us,d,sI.mono B C x u y,br.mono B C H us E⟩
theorem ag.mono{w w':World}{S D:bb}(B:bM S w w')(C:∀b o,S b o->D b o):∀(x:List IV) (v:List Value),ag w S x v->ag w' D x v
 |[],v,h=>h
 |x::H,v,⟨u,us,d,U,y,E⟩=>⟨u,us,d,U,sI.mono B C x u y,ag.mono B C H us E⟩
theorem aQ.mono{w w':World}{S D:bb}(B:bM S w w')(C:∀b o,S b o->D b o):∀(x:List IV) (blk off:Nat),aQ w S x blk off->aQ w' D x blk off
 |[],_,_,_=>trivial
 |x::H,blk,off,⟨d,y,⟨v,E,L⟩,O⟩=>⟨C _ _ d,y,⟨v,(B.1 _ _ d).trans E,sI.mono B C x v L⟩,aQ.mono B C H blk (off+1) O⟩
theorem bB.mono{w w':World}{S D:bb}(B:bM S w w')(C:∀b o,S b o->D b o):∀(x:List (List IV)) (s blk off:Nat),bB w S x s blk off->bB w' D x s blk off
 |[],_,_,_,_=>trivial
 |r::V,s,blk,off,⟨d,y,E⟩=>⟨d,aQ.mono B C r blk off y,bB.mono B C V s blk (off+s) E⟩
end
theorem jt.mono{w w':World}{S d:bb}(f:bM S w w')(k:∀b o,S b o->d b o){p:Nat×List IV}(h:jt w S p):jt w' d p:=⟨aQ.mono f k _ _ _ h.1,h.2.imp fun _ u=>f.2 _ _ u⟩
mutual
theorem au.mono{w w':World}{S D:bb}(d:bM S w w')(B:∀b o,S b o->D b o){μ:Nat->Value}{objs:List (Nat×Ob)} : ∀(x:SV) (v:Value),au w S μ objs x v->au w' D μ objs x v
 |.undef,v,h=>h
 |.val x,v,h=>sI.mono d B x v h
 |.nils,v,h=>h
 |.full I,v,h=>⟨sI.mono d B _ v h.1,h.2⟩
 |.own id ver,v,h=>h
 |.loc id off,v,h=>h
 |.eloc id ver i off,v,h=>h
 |.view id ver Q U,v,h=>h
 |.agg cells,v,⟨vs,k,y⟩=>⟨vs,k,al.mono d B cells _ y⟩
 |.clo f C,v,⟨vs,k,y⟩=>⟨vs,k,bc.mono d B C _ y⟩
 |.tup C,v,⟨vs,k,y⟩=>⟨vs,k,bc.mono d B C _ y⟩
 |.ifc t x,v,⟨u,k,y⟩=>⟨u,k,au.mono d B x u y⟩
 |.anyB,v,h=>h
 |.ownT id ver t,v,⟨h,K⟩=>⟨h,fun a n c e=>let ⟨m,hm⟩:=K a n c e;⟨m,d.2 _ _ hm⟩⟩
 |.selfN id t V,v,h=>fun cells L=>let ⟨b,k,y,E⟩:=h cells L;⟨b,k,d.2 _ _ y,E⟩
 |.itr id,v,h=>h
theorem bc.mono{w w':World}{S D:bb}(d:bM S w w')(B:∀b o,S b o->D b o){μ:Nat->Value}{objs:List (Nat×Ob)} : ∀(x:List SV) (v:List Value),bc w S μ objs x v->bc w' D μ objs x v
 |[],v,h=>h
 |x::H,v,⟨u,us,k,y,E⟩=>⟨u,us,k,au.mono d B x u y,bc.mono d B H us E⟩
theorem al.mono{w w':World}{S D:bb}(d:bM S w w')(B:∀b o,S b o->D b o){μ:Nat->Value}{objs:List (Nat×Ob)} : ∀(x:List SV) (v:List Value),al w S μ objs x v->al w' D μ objs x v
 |[],v,h=>h
 |x::H,v,⟨u,us,k,O,y,E⟩=>⟨u,us,k,O,au.mono d B x u y,al.mono d B H us E⟩
end
def Ob.noRef(d:Nat):Ob->Bool
 |.box b=>SV.noRefs d b
 |.arr _ _ _=>true
 |.iter _ _=>true
def G6(d:Nat):List (Nat×SV)->Bool
 |[]=>true
 |(_,v)::r=>v.noRef d&&G6 d r
def G7(d:Nat):List (Nat×Ob)->Bool
 |[]=>true
 |(_,v)::r=>v.noRef d&&G7 d r
section
variable {α:Type}
theorem dP(l:List (Nat×α))(k:Nat)(v:α):ac (put l k v) k=some v:=by simp[put,ac]
theorem yG(l:List (Nat×α)){k j:Nat}(v:α)(h:j≠k):ac (put l k v) j=ac l j:=by
 have:(k==j)=false:=by simpa using (fun e=>h e.symm)
 simp[put,ac,this]
theorem jL(l:List (Nat×α))(k j:Nat)(v:α):ac (put l k v) j=if j=k then some v else ac l j:=by
 split
 .next h=>subst h;exact dP _ _ _
 next h=>exact yG _ _ h
end
theorem od(l:List (Nat×SV))(k j:Nat)(v:SV):aE (put l k v) j=if j=k then v else aE l j:=by
 unfold aE;rw[jL];split<;>rfl
def SV.erase(d:Nat)(v:SV):SV:=bif v.noRef d then v else .undef
def fJ(d:Nat):List SV->List SV
 |[]=>[]
 |v::r=>v.erase d::fJ d r
def Ob.erase(d:Nat):Ob->Ob
 |.box g=>.box (fJ d g)
 |.arr m s h=>.arr m s h
 |.iter s p=>.iter s p
def dB(d:Nat):List (Nat×SV)->List (Nat×SV)
 |[]=>[]
 |(k,v)::r=>(k,v.erase d)::dB d r
def cp(d:Nat):List (Nat×Ob)->List (Nat×Ob)
 |[]=>[]
 |(k,v)::r=>(k,v.erase d)::cp d r
theorem SV.noRef_erase(d:Nat)(v:SV):(v.erase d).noRef d=true:=by
 unfold SV.erase;cases h:v.noRef d
 .rfl
 exact h
theorem Bd(d:Nat):∀l:List SV,SV.noRefs d (fJ d l)=true
 |[]=>rfl
 |v::r=>by simp[fJ,SV.noRefs,SV.noRef_erase,Bd d r]
theorem uy(d:Nat)(env:List (Nat×SV))(k:Nat):aE (dB d env) k=(aE env k).erase d:=by
 induction env with
 |nil=>rfl
 |cons p r b=>
  obtain⟨i,v⟩:=p;unfold aE at b |-;simp only[dB,ac];cases i==k
  .exact b
  rfl
theorem cn(d:Nat)(objs:List (Nat×Ob))(k:Nat):ac (cp d objs) k=(ac objs k).map (Ob.erase d):=by
 induction objs with
 |nil=>rfl
 |cons p r b=>
  obtain⟨i,v⟩:=p;simp only[cp,ac];cases i==k
  .exact b
  rfl
theorem au.erase{w:World}{S:bb}{μ:Nat->Value}{objs:List (Nat×Ob)}{x:SV}{v:Value}(d:Nat)(h:au w S μ objs x v):au w S μ objs (x.erase d) v:=by
 unfold SV.erase;cases x.noRef d
 .trivial
 exact h
theorem al.erase{w:World}{S:bb}{μ:Nat->Value}{objs:List (Nat×Ob)}(d:Nat):∀ {x:List SV} {vs:List Value},al w S μ objs x vs->al w S μ objs (fJ d x) vs
 |[],_,h=>h
 |_::_,_,⟨u,g,m,p,q,y⟩=>⟨u,g,m,p,au.erase d q,al.erase d y⟩
theorem UU{d:Nat}{b:List (Nat×SV)}(h:G6 d b=true)(k:Nat):(aE b k).noRef d=true:=by
 induction b with
 |nil=>rfl
 |cons p r c=>
  obtain⟨i,v⟩:=p;simp only[G6,Bool.and_eq_true]at h;unfold aE;simp only[ac];cases e:i==k
  .exact c h.2
  exact h.1
theorem UV{d:Nat}{objs:List (Nat×Ob)}(h:G7 d objs=true){k:Nat}{o:Ob}(b:ac objs k=some o):o.noRef d=true:=by
 induction objs with
 |nil=>simp[ac]at b
 |cons p r e=>
  obtain⟨i,v⟩:=p;simp only[G7,Bool.and_eq_true]at h;simp only[ac]at b;cases c:i==k
  .rw[c]at b;exact e h.2 b
  rw[c]at b;simp at b;subst b;exact h.1
mutual
theorem au.other{w:World}{S:bb}{μ j:Nat->Value}{objs objs':List (Nat×Ob)}{d:Nat}(c:∀id,id≠d->j id=μ id)(k:∀id,id≠d->ac objs' id=ac objs id):∀(x:SV) (v:Value),x.noRef d=true->au w S μ objs x v->au w S j objs' x v
 |.undef,v,_,h=>h
 |.val x,v,_,h=>h
 |.nils,v,_,h=>h
 |.full H,v,_,h=>h
 |.own id ver,v,g,h=>by
  have hid:id≠d:=by simpa[SV.noRef]using g
  simpa only [au,k id hid,c id hid]using h
 |.loc id off,v,g,h=>by
  have hid:id≠d:=by simpa[SV.noRef]using g
  simpa only [au,k id hid,c id hid]using h
 |.eloc id ver i off,v,g,h=>by
  have hid:id≠d:=by simpa[SV.noRef]using g
  simpa only [au,k id hid,c id hid]using h
 |.view id ver J K,v,g,h=>by
  have hid:id≠d:=by simpa[SV.noRef]using g
  simpa only [au,k id hid,c id hid]using h
 |.agg y,v,g,⟨B,l,m⟩=>⟨B,l,al.other c k y _ (by simpa[SV.noRef]using g) m⟩
 |.clo f q,v,g,⟨B,l,m⟩=>⟨B,l,bc.other c k q _ (by simpa[SV.noRef]using g) m⟩
 |.tup q,v,g,⟨B,l,m⟩=>⟨B,l,bc.other c k q _ (by simpa[SV.noRef]using g) m⟩
 |.ifc t x,v,g,⟨u,l,m⟩=>⟨u,l,au.other c k x u (by simpa[SV.noRef]using g) m⟩
 |.anyB,v,_,h=>h
 |.selfN id t L,v,g,h=>by
  have hid:id≠d:=by simpa[SV.noRef]using g
  simpa only [au,k id hid,c id hid]using h
 |.ownT id ver t,v,g,h=>by
  have hid:id≠d:=by simpa[SV.noRef]using g
  simpa only [au,k id hid,c id hid]using h
 |.itr id,v,g,h=>by
  have hid:id≠d:=by simpa[SV.noRef]using g
  simpa only [au,k id hid,c id hid]using h
theorem bc.other{w:World}{S:bb}{μ j:Nat->Value}{objs objs':List (Nat×Ob)}{d:Nat}(c:∀id,id≠d->j id=μ id)(k:∀id,id≠d->ac objs' id=ac objs id):∀(x:List SV) (v:List Value),SV.noRefs d x=true->bc w S μ objs x v->bc w S j objs' x v
 |[],v,_,h=>h
 |x::D,v,g,⟨u,C,l,m,E⟩=>by
  simp only[SV.noRefs,Bool.and_eq_true]at g;exact⟨u,C,l,au.other c k x u g.1 m,bc.other c k D C g.2 E⟩
theorem al.other{w:World}{S:bb}{μ j:Nat->Value}{objs objs':List (Nat×Ob)}{d:Nat}(c:∀id,id≠d->j id=μ id)(k:∀id,id≠d->ac objs' id=ac objs id):∀(x:List SV) (v:List Value),SV.noRefs d x=true->al w S μ objs x v->al w S j objs' x v
 |[],v,_,h=>h
 |x::D,v,g,⟨u,C,l,I,m,E⟩=>by
  simp only[SV.noRefs,Bool.and_eq_true]at g;exact⟨u,C,l,I,au.other c k x u g.1 m,al.other c k D C g.2 E⟩
end
mutual
theorem au.same{w:World}{S:bb}{μ m:Nat->Value}{objs objs':List (Nat×Ob)}
  (C:∀id g,ac objs' id=some (.box g)->∃j,ac objs id=some (.box j)/\m id=μ id)
  (A:∀id z s c,ac objs' id=some (.arr z s c)->∃l d,ac objs id=some (.arr l s d)/\l<=z/\(l=z->d.length=c.length/\m id=μ id))
  (D:∀id s p,ac objs' id=some (.iter s p)->∃L N,ac objs id=some (.iter L N)/\m id=μ id) :
  ∀(x:SV) (v:Value),au w S μ objs x v->au w S m objs' x v
 |.undef,v,h=>h
 |.val x,v,h=>h
 |.nils,v,h=>h
 |.full c,v,h=>h
 |.own id H,v,h=>by
  intro z s c B;obtain⟨l,d,n,q,I⟩:=A id z s c B;obtain⟨E,J⟩:=h _ _ _ n;exact⟨Nat.le_trans E q,fun e=>by rw[(I (by omega)).2];exact J (by omega)⟩
 |.loc id U,v,h=>by
  intro g B;obtain⟨j,n,q⟩:=C id g B;rw[q];exact h _ n
 |.eloc id H i U,v,h=>by
  intro z s c B;obtain⟨l,d,n,q,I⟩:=A id z s c B;obtain⟨E,J⟩:=h _ _ _ n;refine⟨Nat.le_trans E q,fun e=>?_⟩;obtain⟨b,K,Y,Z⟩:=J (by omega);obtain⟨R,V⟩:=I (by omega);exact⟨b,K,by rw[V,Y,R],Z⟩
 |.view id H lo D,v,h=>by
  intro z s c B;obtain⟨l,d,n,q,I⟩:=A id z s c B;obtain⟨E,J⟩:=h _ _ _ n;refine⟨Nat.le_trans E q,fun e=>?_⟩;obtain⟨g1,g2,x,K,y,g3,g4⟩:=J (by omega);obtain⟨R,V⟩:=I (by omega);exact⟨g1,by omega,x,K,y,by rw[V,g3,R],by rw[<-R];exact g4⟩
 |.agg g,v,⟨O,n,q⟩=>⟨O,n,al.same C A D g _ q⟩
 |.clo f F,v,⟨O,n,q⟩=>⟨O,n,bc.same C A D F _ q⟩
 |.tup F,v,⟨O,n,q⟩=>⟨O,n,bc.same C A D F _ q⟩
 |.ifc t x,v,⟨u,n,q⟩=>⟨u,n,au.same C A D x u q⟩
 |.anyB,v,h=>h
 |.selfN id t nn,v,h=>by
  intro g B;obtain⟨j,n,q⟩:=C id g B;rw[q];exact h _ n
 |.ownT id H t,v,⟨h,h'⟩=>by
  refine⟨?_,h'⟩;intro z s c B;obtain⟨l,d,n,q,I⟩:=A id z s c B;obtain⟨E,J⟩:=h _ _ _ n;exact⟨Nat.le_trans E q,fun e=>by rw[(I (by omega)).2];exact J (by omega)⟩
 |.itr id,v,h=>by
  intro s p B;obtain⟨L,N,n,q⟩:=D id s p B;rw[q];exact h _ _ n
theorem bc.same{w:World}{S:bb}{μ m:Nat->Value}{objs objs':List (Nat×Ob)}
  (C:∀id g,ac objs' id=some (.box g)->∃j,ac objs id=some (.box j)/\m id=μ id)
  (A:∀id z s c,ac objs' id=some (.arr z s c)->∃l d,ac objs id=some (.arr l s d)/\l<=z/\(l=z->d.length=c.length/\m id=μ id))
  (D:∀id s p,ac objs' id=some (.iter s p)->∃L N,ac objs id=some (.iter L N)/\m id=μ id) :
  ∀(x:List SV) (v:List Value),bc w S μ objs x v->bc w S m objs' x v
 |[],v,h=>h
 |x::W,v,⟨u,Q,n,q,E⟩=>⟨u,Q,n,au.same C A D x u q,bc.same C A D W Q E⟩
theorem al.same{w:World}{S:bb}{μ m:Nat->Value}{objs objs':List (Nat×Ob)}
  (C:∀id g,ac objs' id=some (.box g)->∃j,ac objs id=some (.box j)/\m id=μ id)
  (A:∀id z s c,ac objs' id=some (.arr z s c)->∃l d,ac objs id=some (.arr l s d)/\l<=z/\(l=z->d.length=c.length/\m id=μ id))
  (D:∀id s p,ac objs' id=some (.iter s p)->∃L N,ac objs id=some (.iter L N)/\m id=μ id) :
  ∀(x:List SV) (v:List Value),al w S μ objs x v->al w S m objs' x v
 |[],v,h=>h
 |x::W,v,⟨u,Q,n,h0,q,E⟩=>⟨u,Q,n,h0,au.same C A D x u q,al.same C A D W Q E⟩
end
end Go.Vs
namespace Go.Vs
theorem IV.one_oneCell{w:World}{S:bb} : ∀ {x:IV} {v:Value},x.one=true->sI w S x v->v.oneCell'=true
 |.int _ _,_,_,h=>by subst h;rfl
 |.bool _,_,_,h=>by subst h;rfl
 |.str _,_,_,h=>by subst h;rfl
 |.nilp,_,_,h=>by subst h;rfl
 |.ref _,_,_,⟨_,_,h,_⟩=>by subst h;rfl
 |.slice _,_,_,⟨_,_,h,_⟩=>by subst h;rfl
 |.nilf,_,_,h=>by subst h;rfl
 |.yld _,_,_,h=>by subst h;rfl
 |.fn _ _,_,_,⟨_,h,_⟩=>by subst h;rfl
 |.bnd _ _,_,_,⟨_,h,_⟩=>by subst h;rfl
 |.nili,_,_,h=>by subst h;rfl
 |.handle _ _ _,_,_,h=>by have h:_=_:=h;subst h;rfl
 |.nilS,_,_,h=>by have h:_=_:=h;subst h;rfl
 |.iface _ _,_,_,⟨_,h,_⟩=>by subst h;rfl
 |.agg _,_,h,_=>by simp[IV.one]at h
 |.tuple _,_,h,_=>by simp[IV.one]at h
theorem IV.oneCell_one{w:World}{S:bb} : ∀ {x:IV} {v:Value},v.oneCell'=true->sI w S x v->x.one=true
 |.int _ _,_,_,_=>rfl
 |.bool _,_,_,_=>rfl
 |.str _,_,_,_=>rfl
 |.nilp,_,_,_=>rfl
 |.ref _,_,_,_=>rfl
 |.slice _,_,_,_=>rfl
 |.nilf,_,_,_=>rfl
 |.yld _,_,_,_=>rfl
 |.fn _ _,_,_,_=>rfl
 |.bnd _ _,_,_,_=>rfl
 |.nili,_,_,_=>rfl
 |.handle _ _ _,_,_,_=>rfl
 |.nilS,_,_,_=>rfl
 |.iface _ _,_,_,_=>rfl
 |.agg _,_,h,⟨_,b,_⟩=>by subst b;simp[Value.oneCell']at h
 |.tuple _,_,h,⟨_,b,_⟩=>by subst b;simp[Value.oneCell']at h
section lists
variable {w:World} {S:bb}
theorem ag.length:∀ {xs:List IV} {vs:List Value},ag w S xs vs->vs.length=xs.length
 |[],_,h=>by have h:_=_:=h;subst h;rfl
 |_::_,_,⟨_,_,y,_,_,B⟩=>by subst y;simp[ag.length B]
theorem ag.append:∀ {d f:List IV} {g j:List Value},ag w S d g->ag w S f j->ag w S (d++f) (g++j)
 |[],_,_,_,h,k=>by have h:_=_:=h;subst h;exact k
 |_::_,_,_,_,⟨u,c,l,m,p,q⟩,k=>by subst l;exact⟨u,c++_,rfl,m,p,ag.append q k⟩
theorem ag.drop:∀(n:Nat) {xs:List IV} {g:List Value},ag w S xs g->ag w S (xs.drop n) (g.drop n)
 |0,_,_,h=>h
 |_+1,[],_,h=>by have h:_=_:=h;subst h;rfl
 |n+1,_::_,_,⟨_,_,q,_,_,u⟩=>by subst q;exact ag.drop n u
theorem ag.take:∀(n:Nat) {xs:List IV} {g:List Value},ag w S xs g->ag w S (xs.take n) (g.take n)
 |0,_,_,_=>rfl
 |_+1,[],_,h=>by have h:_=_:=h;subst h;rfl
 |n+1,_::_,_,⟨u,_,q,y,B,C⟩=>by subst q;exact⟨u,_,rfl,y,B,ag.take n C⟩
theorem ag.get:∀ {xs:List IV} {vs:List Value} {j:Nat} {x:IV},ag w S xs vs->xs[j]?=some x->∃v,vs[j]?=some v/\x.one=true/\sI w S x v
 |[],_,_,_,_,k=>by simp at k
 |y::_,_,0,x,⟨u,us,b,c,d,_⟩,k=>by
  subst b;have:y=x:=by simpa using k
  subst this;exact⟨u,rfl,c,d⟩
 |_::_,_,j+1,_,⟨_,us,b,_,_,f⟩,k=>by
  subst b;obtain⟨v,g,h⟩:=ag.get (j:=j) f (by simpa using k);exact⟨v,by simpa using g,h⟩
theorem ag.set:∀ {m:List IV} {vs:List Value} (j:Nat) {x:IV} {v:Value},ag w S m vs->x.one=true->sI w S x v->ag w S (m.set j x) (vs.set j v)
 |[],_,_,_,_,h,_,_=>by have h:_=_:=h;subst h;rfl
 |_::_,_,0,_,v,⟨_,p,b,_,_,d⟩,g,k=>by subst b;exact⟨v,p,rfl,g,k,d⟩
 |_::_,_,j+1,_,_,⟨u,p,b,q,y,d⟩,g,k=>by subst b;exact⟨u,_,rfl,q,y,ag.set j d g k⟩
theorem ag.oneCells:∀ {f:List IV} {d:List Value},ag w S f d->∀v∈d,v.oneCell'=true
 |[],_,h=>by have h:_=_:=h;subst h;simp
 |_::_,_,⟨u,m,g,j,k,l⟩=>by
  subst g;intro v c;rcases List.mem_cons.1 c with rfl|c
  .exact IV.one_oneCell j k
  exact ag.oneCells l v c
theorem br.length:∀ {xs:List IV} {vs:List Value},br w S xs vs->vs.length=xs.length
 |[],_,h=>by have h:_=_:=h;subst h;rfl
 |_::_,_,⟨_,_,y,_,B⟩=>by subst y;simp[br.length B]
theorem br.get:∀ {xs:List IV} {vs:List Value} {j:Nat} {x:IV},br w S xs vs->xs[j]?=some x->∃v,vs[j]?=some v/\sI w S x v
 |[],_,_,_,_,k=>by simp at k
 |y::_,_,0,x,⟨u,us,b,c,_⟩,k=>by
  subst b;have:y=x:=by simpa using k
  subst this;exact⟨u,rfl,c⟩
 |_::_,_,j+1,_,⟨_,us,b,_,d⟩,k=>by
  subst b;obtain⟨v,f,g⟩:=br.get (j:=j) d (by simpa using k);exact⟨v,by simpa using f,g⟩
theorem bc.get{μ:Nat->Value}{objs:List (Nat×Ob)} : ∀ {xs:List SV} {vs:List Value} {j:Nat} {x:SV},bc w S μ objs xs vs->xs[j]?=some x->∃v,vs[j]?=some v/\au w S μ objs x v
 |[],_,_,_,_,b=>by simp at b
 |_::_,_,0,_,⟨v,c,d,f,_⟩,b=>by
  subst d;obtain rfl:=O_ b;exact⟨v,rfl,f⟩
 |_::xs,_,j+1,x,⟨v,c,d,_,g⟩,b=>by
  subst d;obtain⟨u,h,k⟩:=bc.get (xs:=xs) (j:=j) g b;exact⟨u,h,k⟩
theorem aQ.vals:∀ {d:List IV} {blk b:Nat},aQ w S d blk b->∃c,ag w S d c/\∀j v,c[j]?=some v->w.cell? ⟨blk,b+j,none⟩=some v
 |[],_,_,_=>⟨[],rfl,by simp⟩
 |x::d,blk,b,⟨_,g,⟨v,h,i⟩,k⟩=>by
  obtain⟨c,l,m⟩:=aQ.vals k;refine⟨v::c,⟨v,c,rfl,g,i,l⟩,?_⟩;intro j u e;cases j with
  |zero=>simp at e;subst e;exact h
  |succ j=>have:=m j u (by simpa using e);rwa[show b+1+j=b+(j+1) by omega]at this
theorem aQ.intro:∀ {xs:List IV} {vs:List Value} {blk off:Nat},ag w S xs vs->(∀j,j<xs.length->S blk (off+j))->
  (∀j v,vs[j]?=some v->w.cell? ⟨blk,off+j,none⟩=some v)->aQ w S xs blk off
 |[],_,_,_,_,_,_=>trivial
 |x::xs,_,blk,off,⟨v,vs,E,H,I,O⟩,h,B=>by
  subst E;refine⟨h 0 (by simp),H,⟨v,B 0 v rfl,I⟩,aQ.intro O (fun j C=>?_) (fun j u C=>?_)⟩
  .have:=h (j+1) (by simp;omega);rwa[show off+(j+1)=off+1+j by omega]at this
  have:=B (j+1) u (by simpa using C);rwa[show off+(j+1)=off+1+j by omega]at this
theorem aQ.drop:∀(n:Nat) {xs:List IV} {blk off:Nat},aQ w S xs blk off->aQ w S (xs.drop n) blk (off+n)
 |0,_,_,_,h=>h
 |_+1,[],_,_,_=>trivial
 |n+1,_::_,_,off,⟨_,_,_,h⟩=>by
  have:=aQ.drop n h
  rwa[show off+1+n=off+(n+1) by omega]at this
theorem aQ.take:∀(n:Nat) {xs:List IV} {blk off:Nat},aQ w S xs blk off->aQ w S (xs.take n) blk off
 |0,_,_,_,_=>trivial
 |_+1,[],_,_,_=>trivial
 |n+1,_::_,_,_,⟨g,h,q,u⟩=>⟨g,h,q,aQ.take n u⟩
theorem aQ.append:∀ {c d:List IV} {blk off:Nat},aQ w S c blk off->aQ w S d blk (off+c.length)->aQ w S (c++d) blk off
 |[],_,_,_,_,k=>k
 |_::c,_,blk,off,⟨f,g,h,j⟩,k=>⟨f,g,h,aQ.append j (by rw[show off+1+c.length=off+(c.length+1) by omega];exact k)⟩
theorem bB.get:∀ {d:List (List IV)} {s c b i:Nat} {r:List IV},bB w S d s c b->d[i]?=some r->r.length=s/\aQ w S r c (b+i*s)
 |[],_,_,_,_,_,_,k=>by simp at k
 |f::g,s,c,b,0,r,⟨h,l,_⟩,k=>by
  have:f=r:=by simpa using k
  subst this;exact⟨h,by simpa using l⟩
 |_::g,s,c,b,i+1,r,⟨_,_,m⟩,k=>by
  have:=bB.get (i:=i) m (by simpa using k)
  rwa[show b+s+i*s=b+(i+1)*s by rw[Nat.add_mul];omega]at this
theorem bB.lens:∀ {b:List (List IV)} {s c d:Nat},bB w S b s c d->∀r∈b,r.length=s
 |[],_,_,_,_=>by simp
 |_::_,_,_,_,⟨f,_,g⟩=>by
  intro r e;rcases List.mem_cons.1 e with rfl|e
  .exact f
  exact bB.lens g r e
theorem bB.drop:∀(n:Nat) {rows:List (List IV)} {s blk off:Nat},bB w S rows s blk off->bB w S (rows.drop n) s blk (off+n*s)
 |0,_,_,_,_,h=>by simpa using h
 |_+1,[],_,_,_,_=>trivial
 |n+1,_::_,s,_,off,⟨_,_,h⟩=>by
  have:=bB.drop n h
  rwa[show off+s+n*s=off+(n+1)*s by rw[Nat.add_mul];omega]at this
theorem bB.take:∀(n:Nat) {rows:List (List IV)} {s blk off:Nat},bB w S rows s blk off->bB w S (rows.take n) s blk off
 |0,_,_,_,_,_=>trivial
 |_+1,[],_,_,_,_=>trivial
 |n+1,_::_,_,_,_,⟨g,h,q⟩=>⟨g,h,bB.take n q⟩
theorem bB.flat:∀ {b:List (List IV)} {s c d:Nat},bB w S b s c d->aQ w S b.flatten c d
 |[],_,_,_,_=>trivial
 |r::h,s,c,d,⟨e,f,g⟩=>by
  simp only[List.flatten_cons];exact aQ.append f (by rw[e];exact bB.flat g)
theorem bB.ofFlat:∀ {b:List (List IV)} {s c d:Nat},(∀r∈b,r.length=s)->aQ w S b.flatten c d->bB w S b s c d
 |[],_,_,_,_,_=>trivial
 |r::k,s,c,d,e,h=>by
  have f:=e r (by simp);simp only[List.flatten_cons]at h;refine⟨f,?_,bB.ofFlat (fun x g=>e x (List.mem_cons_of_mem _ g)) ?_⟩
  .have:=aQ.take r.length h;simpa using this
  have:=aQ.drop r.length h;simpa[f]using this
theorem dR{α:Type} : ∀ {rows:List (List α)} {s:Nat},(∀r∈rows,r.length=s)->rows.flatten.length=rows.length*s
 |[],_,_=>by simp
 |r::c,s,h=>by
  have d:=h r (by simp);have f:=dR (rows:=c) (s:=s) (fun x g=>h x (List.mem_cons_of_mem _ g));simp only[List.flatten_cons,List.length_append,d,f,List.length_cons,Nat.add_mul];omega
variable {μ:Nat->Value} {objs:List (Nat×Ob)}
theorem al.length:∀ {xs:List SV} {vs:List Value},al w S μ objs xs vs->vs.length=xs.length
 |[],_,h=>by have h:_=_:=h;subst h;rfl
 |_::_,_,⟨_,_,y,_,_,B⟩=>by subst y;simp[al.length B]
theorem al.append:∀ {d f:List SV} {g j:List Value},al w S μ objs d g->al w S μ objs f j->al w S μ objs (d++f) (g++j)
 |[],_,_,_,h,k=>by have h:_=_:=h;subst h;exact k
 |_::_,_,_,_,⟨u,c,l,m,p,q⟩,k=>by subst l;exact⟨u,c++_,rfl,m,p,al.append q k⟩
theorem al.drop:∀(n:Nat) {xs:List SV} {g:List Value},al w S μ objs xs g->al w S μ objs (xs.drop n) (g.drop n)
 |0,_,_,h=>h
 |_+1,[],_,h=>by have h:_=_:=h;subst h;rfl
 |n+1,_::_,_,⟨_,_,q,_,_,u⟩=>by subst q;exact al.drop n u
theorem al.take:∀(n:Nat) {xs:List SV} {g:List Value},al w S μ objs xs g->al w S μ objs (xs.take n) (g.take n)
 |0,_,_,_=>rfl
 |_+1,[],_,h=>by have h:_=_:=h;subst h;rfl
 |n+1,_::_,_,⟨u,_,q,y,B,C⟩=>by subst q;exact⟨u,_,rfl,y,B,al.take n C⟩
theorem al.get:∀ {xs:List SV} {vs:List Value} {j:Nat} {x:SV},al w S μ objs xs vs->xs[j]?=some x->∃v,vs[j]?=some v/\v.oneCell'=true/\au w S μ objs x v
 |[],_,_,_,_,k=>by simp at k
 |y::_,_,0,x,⟨u,us,b,c,d,_⟩,k=>by
  subst b;have:y=x:=by simpa using k
  subst this;exact⟨u,rfl,c,d⟩
 |_::_,_,j+1,_,⟨_,us,b,_,_,f⟩,k=>by
  subst b;obtain⟨v,g,h⟩:=al.get (j:=j) f (by simpa using k);exact⟨v,by simpa using g,h⟩
theorem al.set:∀ {m:List SV} {vs:List Value} (j:Nat) {x:SV} {v:Value},al w S μ objs m vs->v.oneCell'=true->au w S μ objs x v->al w S μ objs (m.set j x) (vs.set j v)
 |[],_,_,_,_,h,_,_=>by have h:_=_:=h;subst h;rfl
 |_::_,_,0,_,v,⟨_,p,b,_,_,d⟩,g,k=>by subst b;exact⟨v,p,rfl,g,k,d⟩
 |_::_,_,j+1,_,_,⟨u,p,b,q,y,d⟩,g,k=>by subst b;exact⟨u,_,rfl,q,y,al.set j d g k⟩
theorem al.oneCells:∀ {f:List SV} {d:List Value},al w S μ objs f d->∀v∈d,v.oneCell'=true
 |[],_,h=>by have h:_=_:=h;subst h;simp
 |_::_,_,⟨u,l,g,j,_,k⟩=>by
  subst g;intro v c;rcases List.mem_cons.1 c with rfl|c
  .exact j
  exact al.oneCells k v c
theorem al.ofRep:∀ {b:List IV} {c:List Value},ag w S b c->al w S μ objs (b.map .val) c
 |[],_,h=>h
 |_::_,_,⟨u,e,f,g,d,i⟩=>⟨u,e,f,IV.one_oneCell g d,d,al.ofRep i⟩
end lists
def iJ:List SV->Option (List IV)
 |[]=>some []
 |.val v::r=>match iJ r with
  |some b=>some (v::b)
  |none=>none
 |_::_=>none
theorem uz:∀ {c:List SV} {b:List IV},iJ c=some b->c=b.map .val
 |[],b,h=>by simp[iJ]at h;subst h;rfl
 |.val v::r,b,h=>by
  simp only[iJ]at h;split at h
  .next e d=>simp at h;subst h;simp[uz d]
  simp at h
 |.undef::_,_,h=>by simp[iJ]at h
 |.nils::_,_,h=>by simp[iJ]at h
 |.full _::_,_,h=>by simp[iJ]at h
 |.own _ _::_,_,h=>by simp[iJ]at h
 |.loc _ _::_,_,h=>by simp[iJ]at h
 |.eloc _ _ _ _::_,_,h=>by simp[iJ]at h
 |.agg _::_,_,h=>by simp[iJ]at h
 |.clo _ _::_,_,h=>by simp[iJ]at h
 |.tup _::_,_,h=>by simp[iJ]at h
 |.ifc _ _::_,_,h=>by simp[iJ]at h
theorem al.toRep{w:World}{S:bb}{μ:Nat->Value}{objs:List (Nat×Ob)} : ∀ {b:List IV} {vs:List Value},al w S μ objs (b.map .val) vs->ag w S b vs
 |[],_,h=>h
 |_::_,_,⟨u,d,e,f,c,g⟩=>⟨u,d,e,IV.oneCell_one f c,c,al.toRep g⟩
end Go.Vs
namespace Go.Vs
theorem bI.move{w i:World}{S y:bb}(z:bM S w i)(A:∀b o,S b o->y b o){μ:Nat->Value}{objs:List (Nat×Ob)}{d:Option Nat}{B:Value}
  (j:∀b,d=some b->i.heap[b]?=w.heap[b]?):∀ {o:Ob},bI w S μ objs d B o->bI i y μ objs d B o
 |.box _,⟨b,k,e,m,c,f,g,s,u⟩=>⟨b,k,e,m,c,f,(j b c).trans g,s,al.mono z A _ _ u⟩
 |.arr _ _ _,.inl h=>.inl h
 |.arr _ _ _,.inr ⟨b,x,k,e,m,c,f,g,s,u,C,D,E⟩=>.inr ⟨b,x,k,e,m,c,f,(j b c).trans g,s,u,C,D,ag.mono z A _ _ E⟩
 |.iter _ _,⟨b,c,f,g⟩=>⟨b,c,f,(j b c).trans g⟩
theorem bI.other{w:World}{S:bb}{μ c:Nat->Value}{objs objs':List (Nat×Ob)}{d:Nat}(f:∀id,id≠d->c id=μ id)(g:∀id,id≠d->ac objs' id=ac objs id)
  {blk:Option Nat} {mu:Value} : ∀ {o:Ob},o.noRef d=true->bI w S μ objs blk mu o->bI w S c objs' blk mu o
 |.box _,j,⟨b,k,e,l,m,q,u,x,y⟩=>⟨b,k,e,l,m,q,u,x,al.other f g _ _ j y⟩
 |.arr _ _ _,_,h=>h
 |.iter _ _,_,h=>h
theorem bI.erase{w:World}{S:bb}{μ:Nat->Value}{objs:List (Nat×Ob)}{g:Option Nat}{m:Value}(d:Nat):∀ {o:Ob},bI w S μ objs g m o->bI w S μ objs g m (o.erase d)
 |.box _,⟨b,vs,e,fr,p,q,u,y,z⟩=>⟨b,vs,e,fr,p,q,u,y,al.erase d z⟩
 |.arr _ _ _,h=>h
 |.iter _ _,h=>h
theorem bI.same{w:World}{S:bb}{μ d:Nat->Value}{objs objs':List (Nat×Ob)}
  (q:∀id i,ac objs' id=some (.box i)->∃f,ac objs id=some (.box f)/\d id=μ id)
  (u:∀id m s g,ac objs' id=some (.arr m s g)->∃j c,ac objs id=some (.arr j s c)/\j<=m/\(j=m->c.length=g.length/\d id=μ id))
  (v:∀id s p,ac objs' id=some (.iter s p)->∃x y,ac objs id=some (.iter x y)/\d id=μ id)
  {l:Option Nat} {n:Value} : ∀ {o:Ob},bI w S μ objs l n o->bI w S d objs' l n o
 |.box _,⟨b,z,e,A,B,C,D,E,F⟩=>⟨b,z,e,A,B,C,D,E,al.same q u v _ _ F⟩
 |.arr _ _ _,h=>h
 |.iter _ _,h=>h
theorem Ob.noRef_erase(d:Nat):∀o:Ob,(o.erase d).noRef d=true
 |.box c=>Bd d c
 |.arr _ _ _=>rfl
 |.iter _ _=>rfl
theorem Kept.refl(M:Nat->Prop)(w:World):Kept M w w:=⟨rfl,rfl,rfl,Nat.le_refl _,fun _ _ _=>rfl,fun _ _ h=>h⟩
theorem Kept.trans{M:Nat->Prop}{a b c:World}(h:Kept M a b)(k:Kept M b c):Kept M a c:=
 ⟨k.os.trans h.os,k.tape.trans h.tape,k.output.trans h.output,Nat.le_trans h.size k.size,fun i q hm=>(k.block i (Nat.lt_of_lt_of_le q h.size) hm).trans (h.block i q hm),fun i x u=>k.shape _ _ (h.shape _ _ u)⟩
theorem Kept.none{M:Nat->Prop}{a b:World}(h:Kept (fun _=>False) a b):Kept M a b:=
 ⟨h.os,h.tape,h.output,h.size,fun i B _=>h.block i B (fun x=>x),h.shape⟩
theorem fX{w:World}{o:Go.Obj}{k:Nat}(h:k<w.heap.size):(w.alloc o).heap[k]?=w.heap[k]?:=by
 show(w.heap.push o)[k]?=_;rw[Array.getElem?_push,if_neg (by omega)]
theorem cY(w:World)(o:Go.Obj):(w.alloc o).heap[w.heap.size]?=some o:=by
 show(w.heap.push o)[w.heap.size]?=_;rw[Array.getElem?_push,if_pos rfl]
theorem bT{w w':World}{b:Nat}(h:w'.heap[b]?=w.heap[b]?)(o:Nat):w'.cell? ⟨b,o,none⟩=w.cell? ⟨b,o,none⟩:=by
 simp only[World.cell?,h]
theorem fE{w:World}{b:Nat}{vs:Array Value}{e:TypeId}{c:Nat×Nat}(h:w.heap[b]?=some (.cells vs e c))(o:Nat):w.cell? ⟨b,o,none⟩=vs[o]?:=by
 simp[World.cell?,h]
section sim
variable {w0 w:World} {S0 S:bb} {M:Ctx} {σ:St} {a:Act} {μ:Nat->Value} {β:Nat->Option Nat}
theorem bI.live{blk:Option Nat}{mu:Value}{objs:List (Nat×Ob)}{o:Ob}{b:Nat}(j:blk=some b)(h:bI w S μ objs blk mu o):b<w.heap.size:=by
 have lt:∀ {x:Go.Obj},w.heap[b]?=some x->b<w.heap.size:=fun m=>by
  rcases Nat.lt_or_ge b w.heap.size with h|h
  .exact h
  simp[Array.getElem?_eq_none h]at m
 cases o with
 |box c=>
  obtain⟨f,n,e,q,d,_,g,_⟩:=h;obtain rfl:f=b:=by rw[j]at d;exact(O_ d).symm
  exact lt g
 |arr v s k=>
  rcases h with⟨_,d,_⟩|⟨f,cap,n,e,q,d,_,g,_⟩
  .rw[j]at d;simp at d
  obtain rfl:f=b:=by rw[j]at d;exact(O_ d).symm
  exact lt g
 |iter s p=>
  obtain⟨f,d,_,g⟩:=h;obtain rfl:f=b:=by rw[j]at d;exact(O_ d).symm
  exact lt g
theorem SimG.put(h:SimG w0 S0 M σ a w S μ β){d:Nat}{sv:SV}{v:Value}(q:d<σ.n)(u:au w S μ σ.objs sv v) :
  SimG w0 S0 M {σ with env:=put σ.env d sv } (a.put (some d) v) w S μ β:=
 {h with
  defers:=h.defers
  size:=by simpa[Act.put]using h.size
  env:=fun k=>by
   show au w S μ σ.objs (aE (Vs.put σ.env d sv) k) ((a.tmps.setIfInBounds d v).getD k Go.undef);rw[od];by_cases g:k=d
   .subst g;have:k<a.tmps.size:=by rw[h.size];exact q
    simpa[this]using u
   have:=h.env k;rw[if_neg g];have m:d≠k:=fun e=>g e.symm
   simpa[Array.getElem?_setIfInBounds_ne m]using this }
theorem SimG.world(h:SimG w0 S0 M σ a w S μ β){w':World}{g:bb}(i:bM S w w')(j:∀b o,S b o->g b o)
  (l:∀id o b,ac σ.objs id=some o->β id=some b->w'.heap[b]?=w.heap[b]?)
  (n:∀id o b c,ac σ.objs id=some o->β id=some b->g b c->S b c)
  (q:∀b o,g b o->b<w'.heap.size) (e:∀b o,g b o->S b o\/w0.heap.size<=b\/M.blocks b) (f:Kept M.blocks w0 w') :
  SimG w0 S0 M σ a w' g μ β where
 stay:=fun b o d=>(i.1 b o (h.ext b o d)).trans (h.stay b o d)
 defers:=h.defers
 size:=h.size
 env:=fun k=>au.mono i j _ _ (h.env k)
 objs:=fun id o m=>bI.move i j (fun b d=>l id o b m d) (h.objs id o m)
 inj:=h.inj
 own:=h.own
 unst:=fun id o b c m d u=>h.unst id o b c m d (n id o b c m d u)
 stab:=q
 ext:=fun b o d=>j b o (h.ext b o d)
 back:=fun b o d=>(e b o d).elim (h.back b o) .inr
 kept:=f
 hist:=fun p s=>au.mono i j _ _ (h.hist p s)
 far:=h.far
 glob:=fun p s=>jt.mono i j (h.glob p s)
theorem SimG.create'(h:SimG w0 S0 M σ a w S μ β)(d:Nat)(a':d<σ.n)(o:Ob)(L:Option Nat)(mu:Value){F:World}
  (Z:Kept (fun _=>False) w F) (A:∀b,L=some b->w0.heap.size<=b/\(∀q,¬S b q)/\∀id o,ac σ.objs id=some o->β id≠some b)
  (b':bI F S μ σ.objs L mu o) :
  SimG w0 S0 M {σ with env:=dB d σ.env,objs:=cp d (Vs.put σ.objs d o) } a F S (fun id=>if id=d then mu else μ id) (fun id=>if id=d then L else β id):=by
 have H:∀k,k<w.heap.size->F.heap[k]?=w.heap[k]?:=fun k hk=>Z.block k hk (fun x=>x)
 have N:w.heap.size<=F.heap.size:=Z.size;have g:bM S w F:=⟨fun b q R=>bT (H b (h.stab b q R)) q,Z.shape⟩;have O:Kept M.blocks w F:=Z.none;have J:∀id,id≠d->(fun id=>if id=d then mu else μ id) id=μ id:=fun id hid=>if_neg hid
 have l:∀id,ac (cp d (Vs.put σ.objs d o)) id=if id=d then some (o.erase d)else (ac σ.objs id).map (Ob.erase d):=by
  intro id;rw[cn,jL];split<;>rfl
 have c':∀id x b,ac σ.objs id=some x->β id=some b->b<w.heap.size:=fun id x b f n=>bI.live n (h.objs id x f)
 have U:∀(B:List (Nat×Ob)) id u,(ac B id).map (Ob.erase d)=some (.box u)->∃K,ac B id=some (.box K):=by
  intro B id u e;cases i:ac B id with
  |none=>rw[i]at e;simp at e
  |some y=>
   rw[i]at e;cases y with
   |box c=>exact⟨c,rfl⟩
   |arr=>simp[Ob.erase]at e
   |iter=>simp[Ob.erase]at e
 have V:∀(B:List (Nat×Ob)) id Q s j,(ac B id).map (Ob.erase d)=some (.arr Q s j)->ac B id=some (.arr Q s j):=by
  intro B id Q s j e;cases i:ac B id with
  |none=>rw[i]at e;simp at e
  |some y=>
   rw[i]at e;cases y with
   |box c=>simp[Ob.erase]at e
   |arr=>simpa[Ob.erase]using e
   |iter=>simp[Ob.erase]at e
 have W:∀(B:List (Nat×Ob)) id s p,(ac B id).map (Ob.erase d)=some (.iter s p)->ac B id=some (.iter s p):=by
  intro B id s p e;cases i:ac B id with
  |none=>rw[i]at e;simp at e
  |some y=>
   rw[i]at e;cases y with
   |box c=>simp[Ob.erase]at e
   |arr=>simp[Ob.erase]at e
   |iter=>simpa[Ob.erase]using e
 have s1:∀x v,au F S μ σ.objs x v->au F S μ (cp d σ.objs) x v:=au.same
  (fun id u e=>by rw[cn]at e;obtain⟨c,X⟩:=U _ _ _ e;exact⟨c,X,rfl⟩)
  (fun id Q s j e=>by rw[cn]at e;exact⟨Q,j,V _ _ _ _ _ e,Nat.le_refl _,fun _=>⟨rfl,rfl⟩⟩)
  (fun id s p e=>by rw[cn]at e;exact⟨s,p,W _ _ _ _ e,rfl⟩)
 have so:∀ {bk m x},bI F S μ σ.objs bk m x->bI F S μ (cp d σ.objs) bk m x:=bI.same
  (fun id u e=>by rw[cn]at e;obtain⟨c,X⟩:=U _ _ _ e;exact⟨c,X,rfl⟩)
  (fun id Q s j e=>by rw[cn]at e;exact⟨Q,j,V _ _ _ _ _ e,Nat.le_refl _,fun _=>⟨rfl,rfl⟩⟩)
  (fun id s p e=>by rw[cn]at e;exact⟨s,p,W _ _ _ _ e,rfl⟩)
 have C:∀id,id≠d->ac (cp d (Vs.put σ.objs d o)) id=ac (cp d σ.objs) id:=by
  intro id hid;rw[l,if_neg hid,cn]
 refine {defers:=h.defers,size:=h.size,env:=?_,objs:=?_,inj:=?_,own:=?_,unst:=?_,stab:=?_,ext:=h.ext,back:=h.back,kept:=h.kept.trans O,stay:=fun b o n=>(g.1 b o (h.ext b o n)).trans (h.stay b o n),hist:=?_,far:=h.far,glob:=fun p hp=>jt.mono g (fun _ _ x=>x) (h.glob p hp) }
 rotate_right 1
 .intro p hp;exact au.other J C _ _ (h.far p hp d a') (s1 _ _ (au.mono g (fun _ _ x=>x) _ _ (h.hist p hp)))
 .intro k;show au _ _ _ _ (aE (dB d σ.env) k) _;rw[uy];exact au.other J C _ _ (SV.noRef_erase d _) (s1 _ _ (au.erase d (au.mono g (fun _ _ x=>x) _ _ (h.env k))))
 .intro id x f;rw[l]at f;by_cases hid:id=d
  .subst hid;rw[if_pos rfl]at f;obtain rfl:=O_ f;simp only[if_pos];exact bI.other J C (Ob.noRef_erase _ _) (bI.erase _ (so b'))
  rw[if_neg hid]at f;cases i:ac σ.objs id with
  |none=>rw[i]at f;simp at f
  |some y=>
   rw[i]at f;obtain rfl:=O_ f;simp only[if_neg hid];have h0:=h.objs id y i;exact bI.other J C (Ob.noRef_erase _ _) (bI.erase _ (so (bI.move g (fun _ _ x=>x) (fun b n=>H b (c' id y b i n)) h0)))
 .intro id I x x' b f z n E;rw[l]at f z;by_cases hid:id=d<;>by_cases D:I=d
  .rw[hid,D]
  .exfalso;simp only[if_pos hid,if_neg D]at n E z;cases i:ac σ.objs I with
   |none=>rw[i]at z;simp at z
   |some y=>exact(A b n).2.2 I y i E
  .exfalso;simp only[if_neg hid,if_pos D]at n E f;cases i:ac σ.objs id with
   |none=>rw[i]at f;simp at f
   |some y=>exact(A b E).2.2 id y i n
  simp only[if_neg hid,if_neg D]at n E f z;cases i:ac σ.objs id with
  |none=>rw[i]at f;simp at f
  |some y=>
   cases Y:ac σ.objs I with
   |none=>rw[Y]at z;simp at z
   |some y'=>exact h.inj id I y y' b i Y n E
 .intro id x b f n;rw[l]at f;by_cases hid:id=d
  .simp only[if_pos hid]at n;exact .inl (A b n).1
  simp only[if_neg hid]at n f;cases i:ac σ.objs id with
  |none=>rw[i]at f;simp at f
  |some y=>exact h.own id y b i n
 .intro id x b q f n R;rw[l]at f;by_cases hid:id=d
  .exfalso;simp only[if_pos hid]at n;exact(A b n).2.1 q R
  simp only[if_neg hid]at n f;cases i:ac σ.objs id with
  |none=>rw[i]at f;simp at f
  |some y=>
   rw[i]at f;obtain rfl:=O_ f;obtain⟨X,h2⟩:=h.unst id y b q i n R;refine⟨X,fun d' s j hr=>?_⟩;cases y with
   |box c=>simp[Ob.erase]at hr
   |arr v s' r=>exact h2 d' s j (by simpa[Ob.erase]using hr)
   |iter=>simp[Ob.erase]at hr
 intro b q R;exact Nat.lt_of_lt_of_le (h.stab b q R) N
theorem SimG.create(h:SimG w0 S0 M σ a w S μ β)(d:Nat)(g:d<σ.n)(o:Ob)(c:Option Nat)(i:Value){w':World}
  (n:Kept (fun _=>False) w w') (f:∀b,c=some b->b=w.heap.size)
  (j:bI w' S μ σ.objs c i o) :
  SimG w0 S0 M {σ with env:=dB d σ.env,objs:=cp d (Vs.put σ.objs d o) } a w' S (fun id=>if id=d then i else μ id) (fun id=>if id=d then c else β id):=
 h.create' d g o c i n (fun b p=>by
  have k:=f b p;subst k
  exact⟨h.kept.size,fun l q=>Nat.lt_irrefl _ (h.stab _ l q),fun id o s m=>Nat.lt_irrefl _ (bI.live m (h.objs id o s))⟩) j
theorem SimG.turn(h:SimG w0 S0 M σ a w S μ β){id:Nat}{o o':Ob}(U:ac σ.objs id=some o)(blk:Option Nat)(mu:Value){w':World}
  (j:bM S w w') (N:Kept M.blocks w0 w') (O:w.heap.size<=w'.heap.size)
  (V:∀Q x b,Q≠id->ac σ.objs Q=some x->β Q=some b->w'.heap[b]?=w.heap[b]?)
  (y:(∃c X,o=.box c/\o'=.box X/\mu=μ id)\/
    (∃F s f A n,o=.arr F s f/\o'=.arr A s n/\F<=A/\(F=A->f.length=n.length/\mu=μ id))\/
    (∃s p s' p',o=.iter s p/\o'=.iter s' p'/\mu=μ id))
  (a':bI w' S μ σ.objs blk mu o')
  (E:∀b,blk=some b->(β id=some b\/w.heap.size<=b))
  (b':∀b off,blk=some b->S b off->id∈σ.ro/\∀ver s f,o'=.arr ver s f->off<f.length*s) :
  SimG w0 S0 M {σ with objs:=Vs.put σ.objs id o' } a w' S (fun i=>if i=id then mu else μ i) (fun i=>if i=id then blk else β i):=by
 have g:∀i,ac (Vs.put σ.objs id o') i=if i=id then some o' else ac σ.objs i:=fun i=>jL _ _ _ _
 have W:∀i x b,ac σ.objs i=some x->β i=some b->b<w.heap.size:=fun i x b m E=>bI.live E (h.objs i x m)
 have H:∀i B,ac (Vs.put σ.objs id o') i=some (.box B)->∃I,ac σ.objs i=some (.box I)/\(fun i=>if i=id then mu else μ i) i=μ i:=by
  intro i B u;rw[g]at u;by_cases l:i=id
  .subst l;rw[if_pos rfl]at u;obtain rfl:=O_ u;rcases y with⟨c,X,rfl,_,hm⟩|⟨_,_,_,_,_,_,C,_⟩|⟨_,_,_,_,_,C,_⟩
   .exact⟨c,U,by simp[hm]⟩
   .simp at C
   simp at C
  rw[if_neg l]at u;exact⟨B,u,by simp[l]⟩
 have J:∀i F s f,ac (Vs.put σ.objs id o') i=some (.arr F s f)->∃A n,ac σ.objs i=some (.arr A s n)/\A<=F/\(A=F->n.length=f.length/\(fun i=>if i=id then mu else μ i) i=μ i):=by
  intro i F s f u;rw[g]at u;by_cases l:i=id
  .subst l;rw[if_pos rfl]at u;obtain rfl:=O_ u;rcases y with⟨c,X,_,C,_⟩|⟨d',s0,R,f',e',rfl,C,h3,h4⟩|⟨_,_,_,_,_,C,_⟩
   .simp at C
   .simp only[Ob.arr.injEq]at C;obtain⟨rfl,rfl,rfl⟩:=C;exact⟨d',R,U,h3,fun e=>by obtain⟨h5,h6⟩:=h4 e;exact⟨h5,by simp[h6]⟩⟩
   simp at C
  rw[if_neg l]at u;exact⟨F,f,u,Nat.le_refl _,fun _=>⟨rfl,by simp[l]⟩⟩
 have K:∀i s p,ac (Vs.put σ.objs id o') i=some (.iter s p)->∃s' p',ac σ.objs i=some (.iter s' p')/\(fun i=>if i=id then mu else μ i) i=μ i:=by
  intro i s p u;rw[g]at u;by_cases l:i=id
  .subst l;rw[if_pos rfl]at u;obtain rfl:=O_ u;rcases y with⟨c,X,_,C,_⟩|⟨_,_,_,_,_,_,C,_⟩|⟨s0,p0,s1,p1,rfl,C,hm⟩
   .simp at C
   .simp at C
   exact⟨s0,p0,U,by simp[hm]⟩
  rw[if_neg l]at u;exact⟨s,p,u,by simp[l]⟩
 refine {defers:=h.defers,size:=h.size,env:=?_,objs:=?_,inj:=?_,own:=?_,unst:=?_,stab:=?_,ext:=h.ext,back:=h.back,kept:=N,stay:=fun b o E=>(j.1 b o (h.ext b o E)).trans (h.stay b o E),hist:=fun p hp=>au.same H J K _ _ (au.mono j (fun _ _ x=>x) _ _ (h.hist p hp)),far:=h.far,glob:=fun p hp=>jt.mono j (fun _ _ x=>x) (h.glob p hp) }
 .intro k;exact au.same H J K _ _ (au.mono j (fun _ _ x=>x) _ _ (h.env k))
 .intro i x m;rw[g]at m;by_cases l:i=id
  .subst l;rw[if_pos rfl]at m;obtain rfl:=O_ m;simp only[if_pos];exact bI.same H J K a'
  rw[if_neg l]at m;simp only[if_neg l];exact bI.same H J K (bI.move j (fun _ _ x=>x) (fun b E=>V i x b l m E) (h.objs i x m))
 .intro i Y x x' b m D d q;rw[g]at m D;by_cases l:i=id<;>by_cases rh:Y=id
  .rw[l,rh]
  .simp only[if_pos l,if_neg rh]at d q D;rcases E b d with L|L
   .rw[l];exact h.inj id Y o x' b U D L q
   exfalso;have:=W Y x' b D q;omega
  .simp only[if_neg l,if_pos rh]at d q m;rcases E b q with L|L
   .rw[rh];exact h.inj i id x o b m U d L
   exfalso;have:=W i x b m d;omega
  simp only[if_neg l,if_neg rh]at d q m D;exact h.inj i Y x x' b m D d q
 .intro i x b m d;rw[g]at m;by_cases l:i=id
  .simp only[if_pos l]at d;rcases E b d with L|L
   .exact h.own id o b U L
   left;have:=h.kept.size;omega
  simp only[if_neg l]at d m;exact h.own i x b m d
 .intro i x b off m d Z;rw[g]at m;by_cases l:i=id
  .subst l;simp only[if_pos]at d;rw[if_pos rfl]at m;obtain rfl:=O_ m;exact b' b off d Z
  simp only[if_neg l]at d m;exact h.unst i x b off m d Z
 intro b off Z;exact Nat.lt_of_lt_of_le (h.stab b off Z) O
def Jy(β:Nat->Option Nat)(objs:List (Nat×Ob))(fz:List Nat)(b d:Nat):Prop:=
 ∃id o,id∈fz/\ac objs id=some o/\β id=some b/\(∀f s c,o=.arr f s c->d<c.length*s)
theorem SimG.freeze(h:SimG w0 S0 M σ a w S μ β)(fz:List Nat) :
  SimG w0 S0 M {σ with ro:=fz++σ.ro } a w (fun b off=>S b off\/Jy β σ.objs fz b off) μ β where
 stay:=h.stay
 defers:=h.defers
 size:=h.size
 env:=fun k=>au.mono (bM.refl _ _) (fun _ _ x=>.inl x) _ _ (h.env k)
 objs:=fun id o j=>bI.move (bM.refl _ _) (fun _ _ x=>.inl x) (fun _ _=>rfl) (h.objs id o j)
 inj:=h.inj
 own:=h.own
 unst:=fun id o b off j q d=>by
  rcases d with d|⟨f,o',u,c,g,y⟩
  .obtain⟨C,D⟩:=h.unst id o b off j q d;exact⟨List.mem_append_right _ C,D⟩
  have:=h.inj id f o o' b j c q g;subst this;obtain rfl:o=o':=by rw[j]at c;exact O_ c
  exact⟨List.mem_append_left _ u,y⟩
 stab:=fun b off d=>by
  rcases d with d|⟨f,o',u,c,g,y⟩
  .exact h.stab b off d
  exact bI.live g (h.objs f o' c)
 ext:=fun b o q=>.inl (h.ext b o q)
 back:=fun b off d=>by
  rcases d with d|⟨f,o',u,c,g,y⟩
  .exact h.back b off d
  exact .inr (h.own f o' b c g)
 kept:=h.kept
 hist:=fun p B=>au.mono (bM.refl _ _) (fun _ _ x=>.inl x) _ _ (h.hist p B)
 far:=h.far
 glob:=fun p B=>jt.mono (bM.refl _ _) (fun _ _ x=>.inl x) (h.glob p B)
theorem SimG.drop(h:SimG w0 S0 M σ a w S μ β){q:St}(J:q.n=σ.n)(D:q.gl=σ.gl)(E:∀i o,ac q.objs i=some o->i∈σ.ro->i∈q.ro)
  (L:∀k,aE q.env k=.undef\/aE q.env k=aE σ.env k)
  (x:∀id o,ac q.objs id=some o->ac σ.objs id=some o) :
  SimG w0 S0 M q a w S μ β where
 stay:=h.stay
 defers:=h.defers
 size:=by rw[J];exact h.size
 env:=fun k=>by
  rcases L k with F|F
  .rw[F];trivial
  rw[F];exact au.same (fun id g u=>⟨g,x _ _ u,rfl⟩) (fun id B s rows u=>⟨B,rows,x _ _ u,Nat.le_refl _,fun _=>⟨rfl,rfl⟩⟩) (fun id s p u=>⟨s,p,x _ _ u,rfl⟩) _ _ (h.env k)
 objs:=fun id o N=>bI.same (fun id g u=>⟨g,x _ _ u,rfl⟩) (fun id B s rows u=>⟨B,rows,x _ _ u,Nat.le_refl _,fun _=>⟨rfl,rfl⟩⟩) (fun id s p u=>⟨s,p,x _ _ u,rfl⟩) (h.objs id o (x _ _ N))
 inj:=fun id H o O b y I=>h.inj id H o O b (x _ _ y) (x _ _ I)
 own:=fun id o b y=>h.own id o b (x _ _ y)
 unst:=fun id o b off y I U=>let ⟨V,W⟩:=h.unst id o b off (x _ _ y) I U;⟨E _ _ y V,W⟩
 stab:=h.stab
 ext:=h.ext
 back:=h.back
 kept:=h.kept
 hist:=fun p C=>au.same (fun id g u=>⟨g,x _ _ u,rfl⟩) (fun id B s rows u=>⟨B,rows,x _ _ u,Nat.le_refl _,fun _=>⟨rfl,rfl⟩⟩) (fun id s p u=>⟨s,p,x _ _ u,rfl⟩) _ _ (h.hist p C)
 far:=fun p C d Z=>h.far p C d (by rw[<-J];exact Z)
 glob:=fun p C=>h.glob p (by rw[<-D];exact C)
end sim
end Go.Vs
namespace Go.Vs
inductive Opd where
 |tmp (t:Nat)
 |const (v:SV)
 |func (f:Nat)
 |glob (g:Nat)
 deriving Inhabited,Repr
inductive LK where
 |b|i|s
 deriving Inhabited,Repr,DecidableEq
inductive VOp where
 |move (x:Opd)
 |pick (c a b:Opd)
 |alloc (zero:List SV)
 |box (x:Opd)
 |build (zero:List SV) (parts:List (Nat×Nat×Opd))
 |buildSlice (s n:Nat) (zero:List SV) (parts:List (Nat×Nat×Opd))
 |load (agg:Option Nat) (x:Opd)
 |store (n:Nat) (a x:Opd)
 |nilCheck (x:Opd)
 |bin (op:BinOp) (x y:Opd)
 |eqB (neg:Bool) (x y:Opd)
 |eqN (neg:Bool) (x:Opd)
 |eqP (neg:Bool) (x:Opd)
 |eqS (neg:Bool) (x:Opd)
 |eqA (neg:Bool) (ks:List LK) (x y:Opd)
 |un (op:UnOp) (x:Opd)
 |convI (k:IntKind) (x:Opd)
 |mkIface (t:Nat) (x:Opd)
 |mkFunc (f:Nat) (caps:List Opd)
 |mkSlice (s bytes:Nat) (zero:List SV) (len cap:Opd)
 |subS (x:Opd) (lo hi:Option Opd)
 |subV (s:Nat) (x:Opd) (lo hi mx:Option Opd)
 |subA (s n:Nat) (x:Opd) (lo hi:Option Opd)
 |fieldAddr (off:Nat) (x:Opd)
 |indexAddr (s:Nat) (x i:Opd)
 |indexArr (len s:Nat) (x i:Opd)
 |indexS (x i:Opd)
 |indexA (len s:Nat) (agg:Option Nat) (x i:Opd)
 |extract (x:Opd) (i:Nat)
 |lenS (x:Opd)
 |lenV (x:Opd)
 |maxI (x y:Opd)
 |minI (x y:Opd)
 |append (e s bytes:Nat) (x y:Opd)
 |call (f:Nat) (args:List Opd)
 |callV (f:Opd) (args:List Opd)
 |callM (f:Nat) (args:List Opd)
 |callMV (f:Opd) (args:List Opd)
 |clear (zero:List SV) (x:Opd)
 |rangeS (x:Opd)
 |nextS (x:Opd)
 |convB (x:Opd)
 |appendS (e bytes:Nat) (x y:Opd)
 |allocB (t:Nat)
 |bad
 deriving Inhabited,Repr
structure VOper where
 dst:Option Nat
 op:VOp
 guard:Option (Nat×Bool)
 deriving Inhabited,Repr
inductive RMode where
 |text
 |calm
 |drawn (cU makes:List (Nat×Nat))
 |drawnM (cU makes:List (Nat×Nat))
 deriving Inhabited,Repr
inductive VCode where
 |skip
 |region (ops:List VOper) (mode:RMode) (dead:List Nat)
 |seq (a b:VCode)
 |cond (c:Opd) (thn els:VCode)
 |block (id:Nat) (body:VCode)
 |loop (body:VCode)
 |exit (id:Nat)
 |scope (body:VCode)
 |label (l:Nat)
 |goto (l:Nat)
 |ret
 |refuse
 |cut (body:VCode)
 deriving Inhabited,Repr
def VOp.strip:VOp->VOp
 |.callM f b=>.call f b
 |.callMV f b=>.callV f b
 |op=>op
def VOper.strip(o:VOper):VOper:={o with op:=o.op.strip }
def aV:List VOper->List VOper
 |[]=>[]
 |o::r=>o.strip::aV r
def RMode.strip:RMode->RMode
 |.drawnM a b=>.drawn a b
 |m=>m
def VCode.strip:VCode->VCode
 |.region ops mode _=>.region (aV ops) mode.strip []
 |.seq a b=>.seq a.strip b.strip
 |.cond c a b=>.cond c a.strip b.strip
 |.block id a=>.block id a.strip
 |.loop a=>.loop a.strip
 |.scope a=>.scope a.strip
 |.cut a=>a.strip
 |c=>c
def yH:Value->Option SV
 |.bool b=>some (.val (.bool b))
 |.int k n=>some (.val (.int k n))
 |.string s=>some (.val (.str s.data.toList))
 |.pointer none=>some (.val .nilp)
 |.slice none 0 0=>some .nils
 |.nilFunc=>some (.val .nilf)
 |.nilIface=>some (.val .nili)
 |_=>none
def sK:List Value->Option (List SV)
 |[]=>some []
 |v::r=>match yH v,sK r with
  |some x,some b=>some (x::b)
  |_,_=>none
def DI(b:List SV):SV:=match iJ b with
 |some c=>.val (.agg c)
 |none=>.agg b
def Q0:Value->Option SV
 |.agg cs=>match sK cs.toList with
  |some b=>some (.agg b)
  |none=>none
 |v=>yH v
def ap:Operand->Option Opd
 |.tmp t=>some (.tmp t)
 |.const v=>(Q0 v).map .const
 |.global g=>some (.glob g)
 |.func f=>some (.func f)
def dS:List Operand->Option (List Opd)
 |[]=>some []
 |x::r=>match ap x,dS r with
  |some y,some b=>some (y::b)
  |_,_=>none
def bQ:Option Operand->Option (Option Opd)
 |none=>some none
 |some x=>(ap x).map some
def yI:TypeDesc->Bool
 |.struct _=>true
 |.array _ _=>true
 |_=>false
def y4(P:Program)(t:TypeId):Option (Option Nat):=
 match P.underlying t,P.info? t with
 |some (.struct _),some i=>some (some i.size)
 |some (.array _ _),some i=>some (some i.size)
 |some _,some i=>if i.size=1 then some none else none
 |_,_=>none
def eh(P:Program)(t:TypeId):Option Nat:=(P.info? t).map (·.size)
def y5(P:Program)(t:TypeId):Option (List SV):=match (P.info? t).bind (·.zero)with
 |some z=>sK z.cells.toList
 |none=>none
def oe(b:TypeId->Option (List LK))(c:Nat):List Field->Option (List LK)
 |[]=>some []
 |f::r=>if f.name = "_" then none else if f.offset≠c then none else
  match b f.type with
  |some d=>match oe b (c+d.length) r with
   |some e=>some (d++e)
   |none=>none
  |none=>none
def uZ(P:Program):Nat->TypeId->Option (List LK)
 |0,_=>none
 |d+1,t=>match P.underlying t with
  |some .bool=>if eh P t=some 1 then some [.b]else none
  |some (.int _)=>if eh P t=some 1 then some [.i]else none
  |some .string=>if eh P t=some 1 then some [.s]else none
  |some (.struct c)=>if P.stoodInHeld t then none else
   match oe (uZ P d) 0 c.toList with
   |some b=>if eh P t=some b.length then some b else none
   |none=>none
  |_=>none
def ahh:Operand->Bool
 |.const .nilIface=>true
 |_=>false
def ahi:Operand->Bool
 |.const (.pointer none)=>true
 |_=>false
theorem aeg{x:Operand}(h:ahh x=true):x=.const .nilIface:=by
 unfold ahh at h;split at h
 .rfl
 simp at h
theorem aeh{x:Operand}(h:ahi x=true):x=.const (.pointer none):=by
 unfold ahi at h;split at h
 .rfl
 simp at h
def nilS:Operand->Bool
 |.const (.slice none 0 0)=>true
 |_=>false
theorem aei{x:Operand}(h:nilS x=true):x=.const (.slice none 0 0):=by
 unfold nilS at h;split at h
 .rfl
 simp at h
def CO(P:Program)(b:Bool)(c:BinOp)(t:TypeId)(y:Operand)(u v:Opd):Option VOp:=
 match P.underlying t with
 |some .bool=>some (.eqB b u v)
 |some (.int _)=>some (.bin c u v)
 |some .string=>some (.bin c u v)
 |some (.interface _)=>if ahh y then some (.eqN b u)else none
 |some (.pointer e)=>if ahi y then some (.eqP b u)else none
 |some (.slice _)=>if nilS y then some (.eqS b u)else none
 |some (.struct _)=>if P.eqGuardType P.depth t then none else (uZ P 10 t).map (.eqA b · u v)
 |_=>none
def DJ(P:Program)(b:BinOp)(t:TypeId)(x y:Operand):Option VOp:=
 match ap x,ap y with
 |some u,some v=>
  match b with
  |.eql=>CO P false .eql t y u v
  |.neq=>CO P true .neq t y u v
  |_=>some (.bin b u v)
 |_,_=>none
def Q1(c:Fn)(first b:Array Operand):Option VOp:=
 match c with
 |.func f=>if first.size=0 then (dS b.toList).map (.mkFunc f)else none
 |_=>none
def fY(b:Nat->Option (Nat×Nat)):List (Nat×Operand)->Option (List (Nat×Nat×Opd))
 |[]=>some []
 |(i,x)::r=>match b i,ap x,fY b r with
  |some (o,s),some y,some c=>some ((o,s,y)::c)
  |_,_,_=>none
def IZ(P:Program)(b:Array Field)(i:Nat):Option (Nat×Nat):=match b[i]? with
 |some f=>(eh P f.type).map (f.offset,·)
 |none=>none
def og(P:Program)(c:Call):Option VOp:=
 match c.callee with
 |.value (.func f)=>match P.funcs[f]? with
  |some b=>if b.name = "runtime.NumGoroutine" then none else (dS c.args.toList).map (.call f)
  |none=>none
 |.value f=>match ap f,dS c.args.toList with
  |some u,some d=>some (.callV u d)
  |_,_=>none
 |.builtin .len=>match c.argTypes[0]?,c.args.toList with
  |some t,[x]=>match P.underlying t,ap x with
   |some .string,some u=>some (.lenS u)
   |some (.slice _),some u=>some (.lenV u)
   |_,_=>none
  |_,_=>none
 |.builtin .max=>match c.args.toList with
  |[x,y]=>match ap x,ap y with
   |some u,some v=>some (.maxI u v)
   |_,_=>none
  |_=>none
 |.builtin .min=>match c.args.toList with
  |[x,y]=>match ap x,ap y with
   |some u,some v=>some (.minI u v)
   |_,_=>none
  |_=>none
 |.builtin .append=>match c.argTypes[0]?,c.argTypes[1]?,c.args.toList with
  |some t,some g,[x,y]=>match P.underlying t,P.underlying g,ap x,ap y with
   |some (.slice e),some (.slice _),some u,some v=>match P.info? e with
    |some i=>if 0<i.size/\0<i.bytes/\i.zero.any (fun z=>z.cells.size==i.size)then some (.append e i.size i.bytes u v)else none
    |none=>none
   |some (.slice e),some .string,some u,some v=>match P.info? e with
    |some i=>if i.size=1/\0<i.bytes/\i.zero.any (fun z=>z.cells.size==i.size)then some (.appendS e i.bytes u v)else none
    |none=>none
   |_,_,_,_=>none
  |_,_,_=>none
 |.builtin .clear=>match c.argTypes[0]?,c.args.toList with
  |some t,[x]=>match P.underlying t,ap x with
   |some (.slice e),some u=>(y5 P e).map (.clear · u)
   |_,_=>none
  |_,_=>none
 |_=>none
def isB(P:Program)(t:TypeId):Bool:=match P.typeName? 3 t,(P.info? t).bind (·.zero)with
 |some n,some z=>n == "strings.Builder" && (match z.cells.toList with|[.pointer none,.slice none 0 0]=>true|_=>false)
 |_,_=>false
def aZ(P:Program):Op->Option VOp
 |.move x=>(ap x).map .move
 |.assign x=>(ap x).map .move
 |.pick c a b=>match ap c,ap a,ap b with
  |some c,some a,some b=>some (.pick c a b)
  |_,_,_=>none
 |.alloc t=>if isB P t then some (.allocB t)else (y5 P t).map .alloc
 |.box _ x=>(ap x).map .box
 |.build t parts=>match P.underlying t,y5 P t with
  |some (.struct p),some z=>if p.toList.all (fun f=>(eh P f.type).isSome)then (fY (IZ P p) parts.toList).map (.build z)else none
  |some (.array _ e),some z=>match eh P e with
   |some s=>(fY (fun i=>some (i*s,s)) parts.toList).map (.build z)
   |none=>none
  |_,_=>none
 |.buildSlice t n parts=>match P.underlying t with
  |some (.slice e)=>match eh P e,y5 P e with
   |some s,some z=>if 0<s/\z.length=s/\n*s<=16777216 then (fY (fun i=>some (i*s,s)) parts.toList).map (.buildSlice s n z)else none
   |_,_=>none
  |_=>none
 |.load t x=>match y4 P t,ap x with
  |some g,some u=>some (.load g u)
  |_,_=>none
 |.store t x y=>match eh P t,ap x,ap y with
  |some n,some u,some v=>some (.store n u v)
  |_,_,_=>none
 |.nilCheck x=>(ap x).map .nilCheck
 |.binOp q t x y _=>DJ P q t x y
 |.unOp q _ x=>(ap x).map (.un q)
 |.convert s d x=>match P.underlying s,P.underlying d,ap x with
  |some (.int _),some (.int k),some u=>some (.convI k u)
  |some (.slice e),some .string,some u=>match P.underlying e with
   |some (.int .u8)=>some (.convB u)
   |_=>none
  |_,_,_=>none
 |.range t x=>match P.underlying t,ap x with
  |some .string,some u=>some (.rangeS u)
  |_,_=>none
 |.next x true=>(ap x).map .nextS
 |.makeInterface t x=>match P.underlying t with
  |some (.interface _)=>none
  |some _=>(ap x).map (.mkIface t)
  |none=>none
 |.makeFunc A first j=>Q1 A first j
 |.makeSlice t l c=>match P.underlying t with
  |some (.slice e)=>match P.info? e,y5 P e,ap l,ap c with
   |some i,some z,some u,some v=>if 0<i.size/\z.length=i.size then some (.mkSlice i.size i.bytes z u v)else none
   |_,_,_,_=>none
  |_=>none
 |.slice t x B C D=>match P.underlying t,ap x,bQ B,bQ C,bQ D with
  |some .string,some u,some l,some h,some none=>some (.subS u l h)
  |some (.slice e),some u,some l,some h,some m=>(eh P e).map (.subV · u l h m)
  |some (.array n e),some u,some l,some h,some none=>(eh P e).map (.subA · n u l h)
  |_,_,_,_,_=>none
 |.fieldAddr t x f=>match P.underlying t with
  |some (.struct p)=>match p[f]?,ap x with
   |some g,some u=>match eh P g.type with
    |some n=>if n=0 then none else some (.fieldAddr g.offset u)
    |none=>none
   |_,_=>none
  |_=>none
 |.indexAddr t x i=>match P.underlying t with
  |some (.slice e)=>match eh P e,ap x,ap i with
   |some s,some u,some v=>some (.indexAddr s u v)
   |_,_,_=>none
  |some (.array n e)=>match eh P e,ap x,ap i with
   |some s,some u,some v=>some (.indexArr n s u v)
   |_,_,_=>none
  |_=>none
 |.index t x i=>match P.underlying t with
  |some .string=>match ap x,ap i with
   |some u,some v=>some (.indexS u v)
   |_,_=>none
  |some (.array n e)=>match y4 P e,eh P e,ap x,ap i with
   |some g,some s,some u,some v=>some (.indexA n s g u v)
   |_,_,_,_=>none
  |_=>none
 |.extract x i=>(ap x).map (.extract · i)
 |.call c=>og P c
 |_=>none
def pz(P:Program)(b:Op):Option VOp:=some ((aZ P b).getD .bad)
theorem wW{P:Program}{b:Op}{c:VOp}(h:pz P b=some c):aZ P b=some c\/c=.bad:=by
 unfold pz at h;obtain rfl:=O_ h;cases d:aZ P b with
 |some v=>exact .inl rfl
 |none=>exact .inr rfl
def j0(c:Array Oper):Option (Nat×Bool)->Option (Option (Nat×Bool))
 |none=>some none
 |some (j,b)=>match (c[j]?).bind (·.dst)with
  |some d=>some (some (d,b))
  |none=>none
def jM(P:Program)(b:Array Oper)(o:Oper):Option VOper:=
 match pz P o.op,j0 b o.guard with
 |some v,some g=>some ⟨o.dst,v,g⟩
 |_,_=>none
def cq(P:Program)(ops:Array Oper):List Oper->Option (List VOper)
 |[]=>some []
 |o::r=>match jM P ops o,cq P ops r with
  |some v,some b=>some (v::b)
  |_,_=>none
def VOp.acts:VOp->Bool
 |.box _|.buildSlice _ _ _ _|.load _ _|.store _ _ _|.append _ _ _ _ _|.clear _ _|.call _ _|.callV _ _|.lenV _|.subV _ _ _ _ _|.subA _ _ _ _ _|.indexAddr _ _ _
 |.build _ _|.nilCheck _|.eqP _ _|.eqS _ _|.indexArr _ _ _ _|.fieldAddr _ _=>true
 |.nextS _|.convB _|.appendS _ _ _ _=>true
 |_=>false
def VOp.writes:VOp->Bool
 |.store _ _ _|.append _ _ _ _ _|.clear _ _|.nextS _|.appendS _ _ _ _=>true
 |_=>false
def VOp.makes:VOp->Bool
 |.alloc _|.allocB _|.box _|.buildSlice _ _ _ _|.mkSlice _ _ _ _ _|.append _ _ _ _ _|.call _ _|.callV _ _|.rangeS _=>true
 |_=>false
def VOp.flagged(x y:VOp):Bool:=(x.writes&&y.acts)||(y.writes&&x.acts)||x.makes||y.makes
def kk(b:Array Oper)(c:Array VOper):Option (List (Nat×Nat)×List (Nat×Nat)):=
 let before:=Region.before b
 if (List.range b.size).all (fun j=>match b[j]? with
     |some o=>o.after.toList.all fun e=>!Region.binds .any e||decide (e.on<j)
     |none=>false) &&
  (List.range b.size).all (fun j=>(List.range j).all fun i=>(before.getD j 0).testBit i ||
    match b[i]?,b[j]? with
    |some d,some f=>d.apart b f
    |_,_=>false)
 then some (
  (List.range b.size).flatMap (fun j=>(List.range j).filterMap fun i=>if (before.getD j 0).testBit i then none else
    match c[i]?,c[j]? with
    |some g,some h=>if g.op.flagged h.op then some (i,j)else none
    |_,_=>none),
  (List.range b.size).flatMap (fun k=>match c[k]? with
    |some l=>if l.op.makes then (List.range b.size).filterMap (fun j=>if j=k then none else if (before.getD j 0).testBit k then none else some (j,k))else []
    |none=>[]))
 else none
def comp(P:Program):Code->Option VCode
 |.skip=>some .skip
 |.region _ ops d=>match cq P ops ops.toList with
  |some e=>if d then match kk ops e.toArray with
    |some (ps,ms)=>if ps.isEmpty&&e.all (fun v=>!v.op.makes)then some (.region e .calm [])else some (.region e (.drawn ps ms) [])
    |none=>none
   else some (.region e .text [])
  |none=>none
 |.seq a b=>match comp P a,comp P b with
  |some x,some y=>some (.seq x y)
  |_,_=>none
 |.cond c a b=>match ap c,comp P a,comp P b with
  |some u,some x,some y=>some (.cond u x y)
  |_,_,_=>none
 |.block id a=>(comp P a).map (.block id)
 |.loop a=>(comp P a).map .loop
 |.exit id=>some (.exit id)
 |.scope a=>(comp P a).map .scope
 |.label l=>some (.label l)
 |.goto l=>some (.goto l)
 |.ret=>some .ret
 |.refuse _=>some .refuse
 |_=>none
def val(σ:St):Opd->SV
 |.tmp t=>aE σ.env t
 |.const v=>v
 |.func f=>.val (.fn f [])
 |.glob g=>match ac σ.gl g with
  |some cells=>.val (.ref cells)
  |none=>.undef
structure Upd where
 v:SV:=.undef
 side:Prop:=True
 new:Option Ob:=none
 wr:Option (Nat×Ob):=none
 fz:List Nat:=[]
 dec:Decidable side:=by infer_instance
def putD(env:List (Nat×SV)):Option Nat->SV->List (Nat×SV)
 |some d,v=>put env d v
 |none,_=>env
def Jz(objs:List (Nat×Ob)):Option (Nat×Ob)->List (Nat×Ob)
 |some (id,o)=>put objs id o
 |none=>objs
def St.apply(σ:St)(h:Option Nat)(u:Upd):St:=
 match u.new,h with
 |some o,some d=>⟨put (dB d σ.env) d u.v,cp d (put σ.objs d o),u.fz++σ.ro,σ.n,σ.gl⟩
 |_,_=>⟨putD σ.env h u.v,Jz σ.objs u.wr,u.fz++σ.ro,σ.n,σ.gl⟩
def kf(objs:List (Nat×Ob)):SV->Bool
 |.val v=>v.one
 |.nils=>true
 |.full _=>true
 |.own id b=>match ac objs id with
  |some (.arr c _ _)=>b==c
  |_=>false
 |.ownT id b _=>match ac objs id with
  |some (.arr c _ _)=>b==c
  |_=>false
 |.view id b _ _=>match ac objs id with
  |some (.arr c _ _)=>b==c
  |_=>false
 |.loc id _=>match ac objs id with
  |some (.box _)=>true
  |_=>false
 |.selfN id t d=>match ac objs id with
  |some (.box _)=>true
  |_=>false
 |.clo _ _=>true
 |.ifc _ _=>true
 |_=>false
def WY(objs:List (Nat×Ob)):List SV->Bool
 |[]=>true
 |x::r=>kf objs x&&WY objs r
def cellsOf(objs:List (Nat×Ob)):SV->Option (List SV)
 |.val (.agg cs)=>some (cs.map .val)
 |.agg b=>some b
 |v=>if kf objs v then some [v]else none
def kD(objs:List (Nat×Ob)):SV->Option (IV×List Nat)
 |.val v=>some (v,[])
 |.nils=>some (.slice [],[])
 |.full b=>some (.slice b,[])
 |.own id c=>match ac objs id with
  |some (.arr d _ b)=>if c==d then some (.slice b,[id])else none
  |_=>none
 |.view id c e f=>match ac objs id with
  |some (.arr d _ b)=>if c==d then some (.slice ((b.take f).drop e),[id])else none
  |_=>none
 |_=>none
def qS(objs:List (Nat×Ob)):List SV->Option (List IV×List Nat)
 |[]=>some ([],[])
 |x::r=>match kD objs x,qS objs r with
  |some (v,f),some (b,c)=>some (v::b,f++c)
  |_,_=>none
def Be(objs:List (Nat×Ob)):SV->Option (IV×List Nat)
 |.loc id c=>match ac objs id with
  |some (.box b)=>match qS objs b with
   |some (d,e)=>some (.ref (d.drop c),id::e)
   |none=>none
  |_=>none
 |x=>kD objs x
def nj(objs:List (Nat×Ob)):List SV->Option (List IV×List Nat)
 |[]=>some ([],[])
 |x::r=>match Be objs x,nj objs r with
  |some (v,f),some (b,c)=>some (v::b,f++c)
  |_,_=>none
def DK(objs:List (Nat×Ob)):SV->Option (IV×List Nat)
 |.ifc t x=>match Be objs x with
  |some (v,f)=>some (.iface t v,f)
  |none=>none
 |.agg b=>match nj objs b with
  |some (d,e)=>some (.agg d,e)
  |none=>none
 |.clo f c=>match nj objs c with
  |some (d,e)=>some (.fn f d,e)
  |none=>none
 |x=>Be objs x
def DL(objs:List (Nat×Ob)):List SV->Option (List IV×List Nat)
 |[]=>some ([],[])
 |x::r=>match DK objs x,DL objs r with
  |some (v,f),some (b,c)=>some (v::b,f++c)
  |_,_=>none
def IV.flat:IV->Bool
 |.int _ _|.bool _|.str _|.nilp|.nilf|.yld _|.nili|.nilS|.handle _ _ _=>true
 |.agg cs=>flats cs
 |.tuple b=>flats b
 |.iface _ v=>v.flat
 |_=>false
where flats:List IV->Bool
 |[]=>true
 |x::c=>x.flat&&flats c
def Yf(c:BinOp)(k:IntKind)(a b:Int):Option Upd:=
 match c with
 |.add=>some {v:=.val (.int k (k.wrap (a+b))) }
 |.sub=>some {v:=.val (.int k (k.wrap (a-b))) }
 |.mul=>some {v:=.val (.int k (k.wrap (a*b))) }
 |.quo=>some {v:=.val (.int k (k.wrap (a.tdiv b))),side:=b≠0 }
 |.rem=>some {v:=.val (.int k (a.tmod b)),side:=b≠0 }
 |.eql=>some {v:=.val (.bool (decide (a=b))) }
 |.neq=>some {v:=.val (.bool (!decide (a=b))) }
 |.lss=>some {v:=.val (.bool (decide (a<b))) }
 |.leq=>some {v:=.val (.bool (decide (a<=b))) }
 |.gtr=>some {v:=.val (.bool (decide (a>b))) }
 |.geq=>some {v:=.val (.bool (decide (a≥b))) }
 |.shl=>some {v:=.val (.int k (k.wrap (a*2 ^ (min b.toNat k.bits)))),side:=0<=b }
 |.shr=>some {v:=.val (.int k (a.fdiv (2 ^ (min b.toNat k.bits)))),side:=0<=b }
 |_=>none
def Yg(c:BinOp)(a b:List UInt8):Option Upd:=
 match c with
 |.add=>some {v:=.val (.str (a++b)),side:=a.length+b.length<=9223372036854775807 }
 |.eql=>some {v:=.val (.bool (decide (a=b))) }
 |.neq=>some {v:=.val (.bool (!decide (a=b))) }
 |.lss=>some {v:=.val (.bool (Op.bytesLess a b)) }
 |.leq=>some {v:=.val (.bool (Op.bytesLess a b||decide (a=b))) }
 |.gtr=>some {v:=.val (.bool (!(Op.bytesLess a b||decide (a=b)))) }
 |.geq=>some {v:=.val (.bool (!Op.bytesLess a b)) }
 |_=>none
def eqC:LK->IV->IV->Option Bool
 |.b,.bool a,.bool b=>some (decide (a=b))
 |.i,.int k a,.int c b=>if k=c then some (decide (a=b))else none
 |.s,.str a,.str b=>some (decide (a=b))
 |_,_,_=>none
def MW:List LK->List IV->List IV->Option Bool
 |[],[],[]=>some true
 |k::c,x::d,y::e=>match eqC k x y,MW c d e with
  |some a,some b=>some (a&&b)
  |_,_=>none
 |_,_,_=>none
def pA(objs:List (Nat×Ob))(σ:St)(b:List SV):List (Nat×Nat×Opd)->Option (List SV)
 |[]=>some b
 |(c,size,x)::r=>match cellsOf objs (val σ x)with
  |some cs=>if cs.length=size/\c+size<=b.length then pA objs σ (b.take c++cs++b.drop (c+size)) r else none
  |none=>none
def sL{α:Type}(s:Nat):Nat->List α->List (List α)
 |0,_=>[]
 |n+1,l=>l.take s::sL s n (l.drop s)
def dp{α:Type}(l:List α):Nat->List α
 |0=>[]
 |n+1=>l++dp l n
def nk(objs:List (Nat×Ob)):SV->Option (List (List IV)×List Nat)
 |.nils=>some ([],[])
 |.full c=>some (c,[])
 |.val (.slice c)=>some (c,[])
 |.own id ver=>match ac objs id with
  |some (.arr d _ c)=>if ver==d then some (c,[id])else none
  |_=>none
 |.view id ver f g=>match ac objs id with
  |some (.arr d _ c)=>if ver==d then some ((c.take g).drop f,[id])else none
  |_=>none
 |_=>none
def On:SV->Option Int
 |.val (.int _ n)=>some n
 |_=>none
def gG(σ:St)(b:Nat):Option Opd->Option Int
 |none=>some b
 |some x=>On (val σ x)
def v6(σ:St)(g:Option Nat):SV->Option Upd
 |.val (.ref b)=>match g with
  |some n=>some {v:=.val (.agg (b.take n)),side:=n<=b.length }
  |none=>match b with
   |c::_=>some {v:=.val c }
   |[]=>none
 |.loc id d=>match ac σ.objs id with
  |some (.box b)=>match g with
   |some n=>some {v:=DI ((b.drop d).take n),side:=d+n<=b.length }
   |none=>match b[d]? with
    |some c=>some {v:=c }
    |none=>none
  |_=>none
 |.eloc id h i d=>match ac σ.objs id with
  |some (.arr k _ f)=>if h==k then match f[i]? with
   |some e=>match g with
    |some n=>some {v:=.val (.agg ((e.drop d).take n)),side:=d+n<=e.length }
    |none=>match e[d]? with
     |some c=>some {v:=.val c }
     |none=>none
   |none=>none else none
  |_=>none
 |_=>none
def uA(σ:St)(n:Nat)(a x:SV):Option Upd:=
 match cellsOf σ.objs x with
 |none=>none
 |some cs=>match a with
  |.loc id off=>match ac σ.objs id with
   |some (.box b)=>if σ.ro.contains id then none else
     some {side:=cs.length=n/\off+n<=b.length,wr:=some (id,.box (b.take off++cs++b.drop (off+n))) }
   |_=>none
  |.eloc id e i off=>match ac σ.objs id,nj σ.objs cs with
   |some (.arr f s c),some (g,fz)=>if σ.ro.contains id||fz.contains id then none else if e==f then match c[i]? with
    |some d=>some {side:=cs.length=n/\off+n<=d.length,wr:=some (id,.arr f s (c.set i (d.take off++g++d.drop (off+n)))),fz:=fz }
    |none=>none else none
   |_,_=>none
  |_=>none
def G8(d:Nat)(g:Option Nat):SV->Option Upd
 |.val (.agg b)=>match g with
  |some n=>some {v:=.val (.agg ((b.drop d).take n)),side:=d+n<=b.length }
  |none=>match b[d]? with
   |some c=>some {v:=.val c }
   |none=>none
 |.agg b=>match g with
  |some n=>some {v:=DI ((b.drop d).take n),side:=d+n<=b.length }
  |none=>match b[d]? with
   |some c=>some {v:=c }
   |none=>none
 |_=>none
def DM(σ:St)(s id d f b c len:Nat)(g e i:Option Opd):Option Upd:=
 match gG σ 0 g,gG σ (c-b) e with
 |some l,some h=>match i with
  |none=>some {v:=.view id d (b+l.toNat) (b+h.toNat),side:=(0<=l/\l<=h/\h<=(len-b:Nat))/\f=s }
  |some m=>match On (val σ m)with
   |some m=>some {v:=.undef,side:=0<=l/\l<=h/\h<=m/\m<=(c-b:Nat)/\e.isSome=true }
   |none=>none
 |_,_=>none
def pZ:List (List IV)->Option (List UInt8)
 |[]=>some []
 |[.int .u8 n]::r=>(pZ r).map (UInt8.ofNat n.toNat::·)
 |_=>none
def av(s:List UInt8):List (List IV):=s.map fun b=>[.int .u8 b.toNat]
def ev(σ:St)(C:Option Nat):VOp->Option Upd
 |.move x=>some {v:=val σ x }
 |.pick c a b=>match val σ c with
  |.val (.bool t)=>some {v:=bif t then val σ a else val σ b }
  |_=>none
 |.alloc zero=>match C with
  |some d=>some {v:=.loc d 0,new:=some (.box zero) }
  |none=>none
 |.box x=>match C,cellsOf σ.objs (val σ x)with
  |some d,some cs=>some {v:=.loc d 0,new:=some (.box cs) }
  |_,_=>none
 |.build zero parts=>match pA σ.objs σ zero parts with
  |some cells=>some {v:=DI cells }
  |none=>none
 |.buildSlice s n zero parts=>match C,pA σ.objs σ (dp zero n) parts with
  |some d,some cells=>match nj σ.objs cells with
   |some (L,fz)=>some {v:=.own d 0,new:=some (.arr 0 s (sL s n L)),fz:=fz }
   |none=>none
  |_,_=>none
 |.load g x=>v6 σ g (val σ x)
 |.store n a x=>uA σ n (val σ a) (val σ x)
 |.nilCheck x=>match val σ x with
  |.val (.ref cs)=>some {v:=.val (.ref cs) }
  |.loc id off=>match ac σ.objs id with
   |some (.box _)=>some {v:=.loc id off }
   |_=>none
  |.val (.fn f cs)=>some {v:=.val (.fn f cs) }
  |.clo f cs=>some {v:=.clo f cs }
  |.selfN id _ true=>match ac σ.objs id with
   |some (.box _)=>some {v:=.loc id 0 }
   |_=>none
  |_=>none
 |.bin O x y=>match val σ x,val σ y with
  |.val (.int k a),.val (.int N b)=>if k=N then Yf O k a b else none
  |.val (.str a),.val (.str b)=>Yg O a b
  |_,_=>none
 |.eqB u x y=>match val σ x,val σ y with
  |.val (.bool a),.val (.bool b)=>some {v:=.val (.bool (u ^^ (a==b))) }
  |_,_=>none
 |.eqN u x=>match val σ x with
  |.val .nili=>some {v:=.val (.bool (!u)) }
  |.val (.iface _ _)=>some {v:=.val (.bool u) }
  |.ifc _ _=>some {v:=.val (.bool u) }
  |_=>none
 |.eqP u x=>match val σ x with
  |.val .nilp=>some {v:=.val (.bool (!u)) }
  |.val (.ref _)=>some {v:=.val (.bool u) }
  |.loc id _=>match ac σ.objs id with
   |some (.box _)=>some {v:=.val (.bool u) }
   |_=>none
  |_=>none
 |.eqS u x=>match nk σ.objs (val σ x)with
  |some ([],_)=>some {v:=.anyB }
  |some (_::_,_)=>some {v:=.val (.bool u) }
  |none=>none
 |.eqA u W x y=>match val σ x,val σ y with
  |.val (.agg X),.val (.agg Y)=>match MW W X Y with
   |some b=>some {v:=.val (.bool (u ^^ b)) }
   |none=>none
  |_,_=>none
 |.un O x=>match O,val σ x with
  |.neg,.val (.int k n)=>some {v:=.val (.int k (k.wrap (0-n))) }
  |.not,.val (.bool b)=>some {v:=.val (.bool (!b)) }
  |_,_=>none
 |.convI k x=>match val σ x with
  |.val (.int _ n)=>some {v:=.val (.int k (k.wrap n)) }
  |_=>none
 |.mkIface t x=>match val σ x with
  |.val v=>some {v:=.val (.iface t v) }
  |.loc id off=>some {v:=.ifc t (.loc id off) }
  |_=>none
 |.mkFunc f I=>match I with
  |[]=>some {v:=.val (.fn f []) }
  |_=>some {v:=.clo f (I.map (val σ)) }
 |.mkSlice s bytes zero len cap=>match C,val σ len,val σ cap,iJ zero with
  |some d,.val (.int .i64 l),.val (.int .i64 c),some z=>
   some {v:=.own d 0,new:=some (.arr 0 s (List.replicate l.toNat z)),side:=0<=l/\l<=c/\c*bytes<=281474976710656/\c<=9223372036854775807 }
  |_,_,_,_=>none
 |.subS x D A=>match val σ x with
  |.val (.str s)=>match gG σ 0 D,gG σ s.length A with
   |some l,some h=>some {v:=.val (.str ((s.take h.toNat).drop l.toNat)),side:=0<=l/\l<=h/\h<=s.length }
   |_,_=>none
  |_=>none
 |.subV s x D A Q=>match val σ x with
  |.own id ver=>match ac σ.objs id with
   |some (.arr q B j)=>if ver==q then DM σ s id ver B 0 j.length j.length D A Q else none
   |_=>none
  |.view id ver R U=>match ac σ.objs id with
   |some (.arr q B j)=>if ver==q then DM σ s id ver B R U j.length D A Q else none
   |_=>none
  |_=>match nk σ.objs (val σ x)with
  |some (j,J)=>match gG σ 0 D,gG σ j.length A with
   |some l,some h=>match Q with
    |none=>some {v:=.val (.slice ((j.take h.toNat).drop l.toNat)),side:=(0<=l/\l<=h/\h<=j.length)/\∀E∈j,E.length=s,fz:=J }
    |some m=>match On (val σ m)with
     |some m=>if m=0 then some {v:=.nils,side:=l=0/\h=0/\A.isSome=true } else some {v:=.full ((j.take h.toNat).drop l.toNat),side:=(0<=l/\l<=h/\h=m/\h<=j.length/\A.isSome=true)/\∀E∈j,E.length=s,fz:=J }
     |none=>none
   |_,_=>none
  |_=>none
 |.subA s n x D A=>match Be σ.objs (val σ x)with
  |some (.ref cells,fz)=>match gG σ 0 D,gG σ n A with
   |some l,some r=>some {v:=.val (.slice (sL s (r.toNat-l.toNat) ((cells.drop (l.toNat*s)).take ((r.toNat-l.toNat)*s)))),side:=0<=l/\l<=r/\r<=n/\n*s<=cells.length,fz:=fz }
   |_,_=>none
  |_=>none
 |.fieldAddr off x=>match val σ x with
  |.val (.ref cells)=>some {v:=.val (.ref (cells.drop off))  }
  |.loc id o=>match ac σ.objs id with
   |some (.box _)=>some {v:=.loc id (o+off) }
   |_=>none
  |.eloc id ver i o=>match ac σ.objs id with
   |some (.arr q _ _)=>if ver==q then some {v:=.eloc id ver i (o+off) } else none
   |_=>none
  |_=>none
 |.indexAddr s x i=>match val σ i with
  |.val (.int _ i)=>if 0<=i then match val σ x with
   |.val (.slice j)=>match j[i.toNat]? with
    |some E=>some {v:=.val (.ref E),side:=E.length=s }
    |none=>none
   |.own id ver=>match ac σ.objs id with
    |some (.arr q B j)=>if ver==q then some {v:=.eloc id ver i.toNat 0,side:=i.toNat<j.length/\B=s } else none
    |_=>none
   |.view id ver D A=>match ac σ.objs id with
    |some (.arr q B j)=>if ver==q then some {v:=.eloc id ver (D+i.toNat) 0,side:=i.toNat<A-D/\B=s } else none
    |_=>none
   |_=>none else none
  |_=>none
 |.indexArr len s x i=>match val σ x,val σ i with
  |.loc id o,.val (.int _ i)=>match ac σ.objs id with
   |some (.box _)=>some {v:=.loc id (o+i.toNat*s),side:=0<=i/\i<len }
   |_=>none
  |.val (.ref cells),.val (.int _ i)=>some {v:=.val (.ref (cells.drop (i.toNat*s))),side:=0<=i/\i<len }
  |_,_=>none
 |.indexS x i=>match val σ x,val σ i with
  |.val (.str s),.val (.int _ i)=>if 0<=i then match s[i.toNat]? with
   |some b=>some {v:=.val (.int .u8 b.toNat) }
   |none=>none else none
  |_,_=>none
 |.indexA len s g x i=>match val σ i with
  |.val (.int _ i)=>if 0<=i/\i<len then G8 (i.toNat*s) g (val σ x)else none
  |_=>none
 |.extract x i=>match val σ x with
  |.val (.tuple L)=>match L[i]? with
   |some v=>some {v:=.val v }
   |none=>none
  |.tup L=>match L[i]? with
   |some v=>some {v:=v }
   |none=>none
  |_=>none
 |.lenS x=>match val σ x with
  |.val (.str s)=>some {v:=.val (.int .i64 s.length) }
  |_=>none
 |.lenV x=>match val σ x with
  |.view id ver D A=>match ac σ.objs id with
   |some (.arr q _ j)=>if ver==q then some {v:=.val (.int .i64 (A-D:Nat)) } else none
   |_=>none
  |_=>match nk σ.objs (val σ x)with
  |some (j,J)=>some {v:=.val (.int .i64 j.length) }
  |none=>none
 |.maxI x y=>match val σ x,val σ y with
  |.val (.int k a),.val (.int N b)=>if k=N then some {v:=.val (.int k (max a b)) } else none
  |_,_=>none
 |.minI x y=>match val σ x,val σ y with
  |.val (.int k a),.val (.int N b)=>if k=N then some {v:=.val (.int k (min a b)) } else none
  |_,_=>none
 |.rangeS x=>match C,val σ x with
  |some d,.val (.str s)=>some {v:=.itr d,new:=some (.iter s 0) }
  |_,_=>none
 |.nextS x=>match val σ x with
  |.itr id=>match ac σ.objs id with
   |some (.iter s p)=>if p<s.length then some {v:=.val (.tuple [.bool true,.int .i64 p,.int .i32 ((Utf8.decode ⟨s.toArray⟩ p).1:Nat)]),wr:=some (id,.iter s (p+(Utf8.decode ⟨s.toArray⟩ p).2)) }
    else some {v:=.val (.tuple [.bool false]) }
   |_=>none
  |_=>none
 |.convB x=>match nk σ.objs (val σ x)with
  |some (j,_)=>match pZ j with
   |some K=>some {v:=.val (.str K) }
   |none=>none
  |none=>none
 |.clear zero x=>match iJ zero with
  |none=>none
  |some z=>match val σ x with
   |.nils=>some {v:=.val (.tuple []) }
   |.own id ver=>match ac σ.objs id with
    |some (.arr q s j)=>if ver==q&&!σ.ro.contains id then some {v:=.val (.tuple []),wr:=some (id,.arr q s (List.replicate j.length z)),side:=z.length=s/\0<s } else none
    |_=>none
   |.view id ver D A=>match ac σ.objs id with
    |some (.arr q s j)=>if ver==q&&!σ.ro.contains id then some {v:=.val (.tuple []),wr:=some (id,.arr q s (j.take D++(List.replicate (A-D) z++j.drop A))),side:=z.length=s/\0<s } else none
    |_=>none
   |_=>none
 |.appendS e bytes x y=>match val σ y with
  |.val (.str K)=>match val σ x with
   |.own id ver=>match ac σ.objs id with
    |some (.arr q B j)=>if ver==q then
      some {v:=.own id (q+1),wr:=some (id,.arr (q+1) 1 (j++av K)),side:=B=1/\(j.length+K.length)*bytes<=35184372088832 } else none
    |_=>none
   |.ownT id ver t=>match ac σ.objs id with
    |some (.arr q B j)=>if ver==q&&t==e then
      some {v:=.ownT id (q+1) t,wr:=some (id,.arr (q+1) 1 (j++av K)),side:=B=1/\(j.length+K.length)*bytes<=35184372088832 } else none
    |_=>none
   |_=>none
  |_=>none
 |.allocB t=>match C with
  |some d=>some {v:=.selfN d t true,new:=some (.box [.val .nilp,.val .nilS]) }
  |none=>none
 |.bad=>none
 |.append e s bytes x y=>match nk σ.objs (val σ y)with
  |none=>none
  |some (new,J)=>match val σ x with
   |.nils=>match C with
    |some d=>some {v:=.own d 0,new:=some (.arr 0 s new),side:=new.length*bytes<=35184372088832/\∀r∈new,r.length=s }
    |none=>none
   |.full j=>match C with
    |some d=>some {v:=.own d 0,new:=some (.arr 0 s (j++new)),side:=new≠[]/\(j.length+new.length)*bytes<=35184372088832/\(∀r∈j,r.length=s)/\∀r∈new,r.length=s }
    |none=>none
   |.own id ver=>match ac σ.objs id with
    |some (.arr q B j)=>if ver==q&&!J.contains id then
      some {v:=.own id (q+1),wr:=some (id,.arr (q+1) s (j++new)),side:=B=s/\(j.length+new.length)*bytes<=35184372088832/\∀r∈new,r.length=s } else none
    |_=>none
   |.ownT id ver t=>match ac σ.objs id with
    |some (.arr q B j)=>if ver==q&&!J.contains id&&t==e then
      some {v:=.ownT id (q+1) t,wr:=some (id,.arr (q+1) s (j++new)),side:=B=s/\(j.length+new.length)*bytes<=35184372088832/\∀r∈new,r.length=s } else none
    |_=>none
   |.view id ver D A=>match ac σ.objs id with
    |some (.arr q B j)=>if ver==q&&D==0&&!σ.ro.contains id then
      if J.contains id then match val σ y with
       |.view V _ F H=>if V==id then some {v:=.view id q 0 (A+(H-F)),wr:=some (id,.arr q s (j.take A++((j.take H).drop F++j.drop (A+(H-F))))),side:=B=s/\A<=F/\F<=H } else none
       |_=>none
      else some {v:=.own id (q+2),wr:=some (id,.arr (q+2) s (j.take A++new)),side:=B=s/\(A+new.length)*bytes<=35184372088832/\∀r∈new,r.length=s }
     else none
    |_=>none
   |_=>none
 |_=>none
end Go.Vs
namespace Go.Vs
section
variable {w0 w:World} {S0 S:bb} {M:Ctx} {σ:St} {a:Act} {μ:Nat->Value} {β:Nat->Option Nat}
theorem yJ{objs:List (Nat×Ob)}{v:Value}{x:SV}(h:yH v=some x):au w S μ objs x v:=by
 unfold yH at h;split at h<;>(try (simp at h;done))<;>(obtain rfl:=O_ h)
 all_goals (first|rfl|exact⟨none,rfl⟩|skip)
theorem gd{objs:List (Nat×Ob)} : ∀ {d:List Value} {b:List SV},sK d=some b->al w S μ objs b d
 |[],b,h=>by
  simp only[sK,E_]at h;subst h;rfl
 |v::r,b,h=>by
  simp only[sK]at h;split at h
  .next x f c e=>
   obtain rfl:=O_ h;refine⟨v,r,rfl,?_,yJ c,gd e⟩;unfold yH at c;split at c<;>first|(simp at c;done)|rfl
  simp at h
theorem nG{objs:List (Nat×Ob)}{b:List SV}{c:List Value}(h:al w S μ objs b c) :
  au w S μ objs (DI b) (.agg c.toArray):=by
 unfold DI;split
 .next e d=>
  have:=uz d;subst this;exact⟨c.toArray,rfl,by simpa using al.toRep h⟩
 exact⟨c.toArray,rfl,by simpa using h⟩
theorem MZ{objs:List (Nat×Ob)}{v:Value}{x:SV}(h:Q0 v=some x):au w S μ objs x v:=by
 unfold Q0 at h;split at h
 .next cs=>
  split at h
  .next c b=>
   obtain rfl:=O_ h;exact⟨cs,rfl,gd b⟩
  simp at h
 exact yJ h
theorem Sa{α:Type} : ∀ {l:List (Nat×α)} {k:Nat} {v:α},ac l k=some v->(k,v)∈l
 |[],_,_,h=>by simp[ac]at h
 |(j,u)::r,k,v,h=>by
  simp only[ac]at h;cases b:j==k with
  |true=>
   rw[b]at h;rw[beq_iff_eq]at b;subst b;simp only[cond_true,E_]at h;subst h;exact List.mem_cons_self
  |false=>
   rw[b]at h;exact List.mem_cons_of_mem _ (Sa h)
theorem ax(h:SimG w0 S0 M σ a w S μ β){x:Operand}{y:Opd}(c:ap x=some y):au w S μ σ.objs (val σ y) (a.eval x):=by
 cases x with
 |tmp t=>simp only[ap,E_]at c;subst c;exact h.env t
 |const v=>
  simp only[ap,Option.map_eq_some_iff]at c;obtain⟨s,k,rfl⟩:=c;exact MZ k
 |global g=>
  simp only[ap,E_]at c;subst c;simp only[val];split
  .next i m=>exact⟨g,0,rfl,(h.glob (g,i) (Sa m)).1⟩
  trivial
 |func f=>simp only[ap,E_]at c;subst c;exact⟨#[],rfl,rfl⟩
theorem sM(h:SimG w0 S0 M σ a w S μ β):∀ {x:List Operand} {y:List Opd},dS x=some y->bc w S μ σ.objs (y.map (val σ)) (x.map a.eval)
 |[],y,b=>by
  simp only[dS,E_]at b;subst b;rfl
 |x::r,y,b=>by
  simp only[dS]at b;split at b
  .next u e c d=>
   obtain rfl:=O_ b;exact⟨_,_,rfl,ax h c,sM h d⟩
  simp at b
theorem Q2(h:SimG w0 S0 M σ a w S μ β){x:SV}{v:Value}(c:kf σ.objs x=true)(j:au w S μ σ.objs x v):v.oneCell'=true:=by
 cases x with
 |undef=>simp[kf]at c
 |val x=>exact IV.one_oneCell c j
 |nils=>obtain⟨a,rfl⟩:=j;rfl
 |full e=>obtain⟨_,a,rfl⟩:=j;rfl
 |own id g=>
  simp only[kf]at c;split at c
  .next l s e i=>
   have d:g=l:=by simpa using c
   obtain rfl:=(j _ _ _ i).2 d;rcases h.objs id _ i with⟨_,_,a,m⟩|⟨_,_,_,_,_,_,m,_⟩<;>(rw[m];rfl)
  simp at c
 |loc id p=>
  simp only[kf]at c;split at c
  .next k i=>
   obtain⟨b,_,rfl⟩:=j _ i;rfl
  simp at c
 |eloc=>simp[kf]at c
 |view id g z A=>
  simp only[kf]at c;split at c
  .next l s e i=>
   have d:g=l:=by simpa using c
   obtain⟨_,_,a,q,B,_,y,_⟩:=(j _ _ _ i).2 d;rw[y];rfl
  simp at c
 |agg=>simp[kf]at c
 |tup=>simp[kf]at c
 |clo f n=>obtain⟨C,rfl,_⟩:=j;rfl
 |ifc t x=>obtain⟨u,rfl,_⟩:=j;rfl
 |anyB=>simp[kf]at c
 |ownT id g D=>
  simp only[kf]at c;split at c
  .next l s e i=>
   have d:g=l:=by simpa using c
   obtain rfl:=(j.1 _ _ _ i).2 d;rcases h.objs id _ i with⟨_,_,a,m⟩|⟨_,_,_,_,_,_,m,_⟩<;>(rw[m];rfl)
  simp at c
 |selfN id t E=>
  simp only[kf]at c;split at c
  .next k i=>
   obtain⟨b,_,_,⟨_,rfl⟩|rfl⟩:=j _ i<;>rfl
  simp at c
 |itr=>simp[kf]at c
theorem v7(h:SimG w0 S0 M σ a w S μ β){x:SV}{v:Value}{cs:List SV}(c:au w S μ σ.objs x v)(b:cellsOf σ.objs x=some cs) :
  al w S μ σ.objs cs v.cells.toList:=by
 unfold cellsOf at b;split at b
 .next j=>
  obtain rfl:=O_ b;obtain⟨g,rfl,d⟩:=c;exact al.ofRep d
 .next e=>
  obtain rfl:=O_ b;obtain⟨g,rfl,d⟩:=c;exact d
 split at b
 .next i=>
  obtain rfl:=O_ b;have f:=Q2 h i c;have:v.cells = #[v]:=by cases v<;>first|rfl|simp[Value.oneCell']at f
  rw[this];exact⟨v,[],rfl,f,c,rfl⟩
 simp at b
def dH(S:bb)(β:Nat->Option Nat)(objs:List (Nat×Ob))(fz:List Nat):bb:=fun b off=>S b off\/Jy β objs fz b off
theorem J0(h:SimG w0 S0 M σ a w S μ β){id u s:Nat}{c:List (List IV)}(p:ac σ.objs id=some (.arr u s c)){fz:List Nat}(y:id∈fz) :
  sI w (dH S β σ.objs fz) (.slice c) (μ id):=by
 rcases h.objs id _ p with⟨rfl,_,x,z⟩|⟨b,k,vs,e,fr,A,hm,B,_,C,m,f,g⟩
 .exact⟨x,0,by simpa using z,Nat.le_refl _,fun D=>absurd rfl D⟩
 refine⟨_,k,hm,m,fun _=>⟨b,0,s,rfl,bB.ofFlat f ?_⟩⟩;have E:=dR f;refine aQ.intro (ag.mono (bM.refl _ _) (fun _ _ x=>.inl x) _ _ g) (fun j q=>.inr ⟨id,_,y,p,A,?_⟩) (fun j v q=>?_)
 .intro F H n e;simp only[Ob.arr.injEq]at e;obtain⟨_,rfl,rfl⟩:=e;omega
 rw[fE B];have d:=List.getElem?_take (l:=vs.toList) (i:=c.length*s) (j:=j);rw[q]at d;split at d
 .rw[Array.getElem?_toList]at d;simpa using d.symm
 simp at d
theorem Sb(h:SimG w0 S0 M σ a w S μ β){id A s g j:Nat}{c:List (List IV)}(l:ac σ.objs id=some (.arr A s c)){B:List Nat}(F:id∈B){v:Value}(H:au w S μ σ.objs (.view id A g j) v) :
  sI w (dH S β σ.objs B) (.slice ((c.take j).drop g)) v:=by
 obtain⟨X,I,x,m,y,J,rfl,Y,K⟩:=(H _ _ _ l).2 rfl;obtain⟨Z,C,e1,e2,L⟩:=J0 h l F;rw[J]at e1;simp only[Value.slice.injEq]at e1;obtain⟨rfl,_,rfl⟩:=e1;have d:((c.take j).drop g).length=j-g:=by rw[List.length_drop,List.length_take];omega
 refine⟨y,m-g,by rw[d],by rw[d];omega,fun n=>?_⟩
 have N:g<j:=by
  rcases Nat.lt_or_ge g j with D|D
  .exact D
  exfalso;exact n (List.length_eq_zero_iff.1 (by rw[d];omega))
 have f:c≠[]:=by intro e;subst e;simp at I;omega
 obtain⟨b,O,p,q,E⟩:=L f;obtain⟨Q,R,U⟩:=K (by omega);rw[R]at q;simp only[E_,Addr.mk.injEq,and_true]at q;obtain⟨rfl,rfl⟩:=q
 have u:p=s:=by
  obtain⟨k,i⟩:=List.exists_mem_of_ne_nil c f;have V:=bB.lens E k i;rcases h.objs id _ l with⟨z,_⟩|⟨_,_,_,_,_,_,_,_,_,_,_,W,_⟩
  .exact absurd z f
  rw[<-V,W k i]
 subst u;refine⟨Q,g*p,p,U,?_⟩;simpa using bB.drop g (bB.take j E)
theorem qp(h:SimG w0 S0 M σ a w S μ β){x:SV}{v:Value}{iv:IV}{m e:List Nat}(b:kD σ.objs x=some (iv,m))(n:∀i,i∈m->i∈e)
  (f:au w S μ σ.objs x v):sI w (dH S β σ.objs e) iv v:=by
 cases x with
 |undef=>simp[kD]at b
 |val x=>
  simp only[kD,E_,Prod.mk.injEq]at b;obtain⟨rfl,rfl⟩:=b;exact sI.mono (bM.refl _ _) (fun _ _ x=>.inl x) _ _ f
 |nils=>
  simp only[kD,E_,Prod.mk.injEq]at b;obtain⟨rfl,rfl⟩:=b;obtain⟨x,rfl⟩:=f;exact⟨x,0,rfl,Nat.le_refl _,fun p=>absurd rfl p⟩
 |full c=>
  simp only[kD,E_,Prod.mk.injEq]at b;obtain⟨rfl,rfl⟩:=b;exact sI.mono (bM.refl _ _) (fun _ _ x=>.inl x) _ _ f.1
 |own id d=>
  simp only[kD]at b;split at b
  .next k s c j=>
   split at b
   .next l=>
    simp only[E_,Prod.mk.injEq]at b;obtain⟨rfl,rfl⟩:=b;have g:d=k:=by simpa using l
    obtain rfl:=(f _ _ _ j).2 g;exact J0 h j (n _ (by simp))
   simp at b
  simp at b
 |view id d q u=>
  simp only[kD]at b;split at b
  .next k s c j=>
   split at b
   .next l=>
    simp only[E_,Prod.mk.injEq]at b;obtain⟨rfl,rfl⟩:=b;obtain rfl:d=k:=by simpa using l
    exact Sb h j (n _ (by simp)) f
   simp at b
  simp at b
 |loc=>simp[kD]at b
 |eloc=>simp[kD]at b
 |agg=>simp[kD]at b
 |tup=>simp[kD]at b
 |clo=>simp[kD]at b
 |ifc=>simp[kD]at b
 |anyB=>simp[kD]at b
 |selfN=>simp[kD]at b
 |ownT=>simp[kD]at b
 |itr=>simp[kD]at b
theorem DN(h:SimG w0 S0 M σ a w S μ β):∀ {j:List SV} {e:List Value} {b:List IV} {g c:List Nat},qS σ.objs j=some (b,g)->(∀i,i∈g->i∈c)->
  al w S μ σ.objs j e->ag w (dH S β σ.objs c) b e
 |[],e,b,g,c,d,k,n=>by
  simp only[qS,E_,Prod.mk.injEq]at d;obtain⟨rfl,rfl⟩:=d;exact n
 |x::j,e,b,g,c,d,k,⟨u,p,q,s,v,z⟩=>by
  simp only[qS]at d;split at d
  .next y f A B e1 e2=>
   simp only[E_,Prod.mk.injEq]at d;obtain⟨rfl,rfl⟩:=d;subst q;have m:=qp h e1 (fun i l=>k i (List.mem_append_left _ l)) v;exact⟨u,p,rfl,IV.oneCell_one s m,m,DN h e2 (fun i l=>k i (List.mem_append_right _ l)) z⟩
  simp at d
theorem qq(h:SimG w0 S0 M σ a w S μ β){x:SV}{v:Value}{iv:IV}{B f:List Nat}(c:Be σ.objs x=some (iv,B))(p:∀i,i∈B->i∈f)
  (C:au w S μ σ.objs x v):sI w (dH S β σ.objs f) iv v:=by
 unfold Be at c;split at c
 .next id g=>
  split at c
  .next q y=>
   split at c
   .next D L E=>
    simp only[E_,Prod.mk.injEq]at c;obtain⟨rfl,rfl⟩:=c;obtain⟨b,hm,rfl⟩:=C _ y;obtain⟨z,N,e,O,F,k,H,_,I⟩:=h.objs id _ y;obtain rfl:z=b:=by rw[hm]at k;simpa using k.symm
    refine⟨z,g,rfl,?_⟩;have m:=DN h E (fun i J=>p i (List.mem_cons_of_mem _ J)) I
    have d:aQ w (dH S β σ.objs f) D z 0:=aQ.intro m (fun j A=>.inr ⟨id,_,p _ (by simp),y,F,fun _ _ _ K=>by simp at K⟩)
     (fun j u A=>by rw[fE H];rw[Array.getElem?_toList]at A;simpa using A)
    simpa using aQ.drop g d
   simp at c
  simp at c
 exact qp h c p C
theorem ly(h:SimG w0 S0 M σ a w S μ β):∀ {j:List SV} {e:List Value} {b:List IV} {g c:List Nat},nj σ.objs j=some (b,g)->(∀i,i∈g->i∈c)->
  al w S μ σ.objs j e->ag w (dH S β σ.objs c) b e
 |[],e,b,g,c,d,k,p=>by
  simp only[nj,E_,Prod.mk.injEq]at d;obtain⟨rfl,rfl⟩:=d;exact p
 |x::j,e,b,g,c,d,k,⟨u,q,z,B,C,D⟩=>by
  simp only[nj]at d;split at d
  .next y f E F e1 e2=>
   simp only[E_,Prod.mk.injEq]at d;obtain⟨rfl,rfl⟩:=d;subst z;have m:=qq h e1 (fun i l=>k i (List.mem_append_left _ l)) C;exact⟨u,q,rfl,IV.oneCell_one B m,m,ly h e2 (fun i l=>k i (List.mem_append_right _ l)) D⟩
  simp at d
theorem DO(h:SimG w0 S0 M σ a w S μ β):∀ {j:List SV} {e:List Value} {b:List IV} {g c:List Nat},nj σ.objs j=some (b,g)->(∀i,i∈g->i∈c)->
  bc w S μ σ.objs j e->br w (dH S β σ.objs c) b e
 |[],e,b,g,c,d,k,m=>by
  simp only[nj,E_,Prod.mk.injEq]at d;obtain⟨rfl,rfl⟩:=d;exact m
 |x::j,e,b,g,c,d,k,⟨u,n,p,q,s⟩=>by
  simp only[nj]at d;split at d
  .next y f v z e1 e2=>
   simp only[E_,Prod.mk.injEq]at d;obtain⟨rfl,rfl⟩:=d;subst p;exact⟨u,n,rfl,qq h e1 (fun i l=>k i (List.mem_append_left _ l)) q,DO h e2 (fun i l=>k i (List.mem_append_right _ l)) s⟩
  simp at d
theorem nl(h:SimG w0 S0 M σ a w S μ β){x:SV}{v:Value}{iv:IV}{l fz':List Nat}(b:DK σ.objs x=some (iv,l))(d:∀i,i∈l->i∈fz')
  (e:au w S μ σ.objs x v):sI w (dH S β σ.objs fz') iv v:=by
 unfold DK at b;split at b
 .next t x=>
  split at b
  .next y f n=>
   simp only[E_,Prod.mk.injEq]at b;obtain⟨rfl,rfl⟩:=b;obtain⟨u,rfl,c⟩:=e;exact⟨u,rfl,qq h n d c⟩
  simp at b
 .next g=>
  split at b
  .next p q j=>
   simp only[E_,Prod.mk.injEq]at b;obtain⟨rfl,rfl⟩:=b;obtain⟨k,rfl,c⟩:=e;exact⟨k,rfl,ly h j d c⟩
  simp at b
 .next f m=>
  split at b
  .next p q j=>
   simp only[E_,Prod.mk.injEq]at b;obtain⟨rfl,rfl⟩:=b;obtain⟨k,rfl,c⟩:=e;exact⟨k,rfl,DO h j d c⟩
  simp at b
 exact qq h b d e
theorem yK(h:SimG w0 S0 M σ a w S μ β):∀ {g:List SV} {d:List Value} {b:List IV} {e fz':List Nat},DL σ.objs g=some (b,e)->(∀i,i∈e->i∈fz')->
  bc w S μ σ.objs g d->br w (dH S β σ.objs fz') b d
 |[],d,b,e,fz',c,j,l=>by
  simp only[DL,E_,Prod.mk.injEq]at c;obtain⟨rfl,rfl⟩:=c;exact l
 |x::g,d,b,e,fz',c,j,⟨u,m,n,p,q⟩=>by
  simp only[DL]at c;split at c
  .next y f s v e1 e2=>
   simp only[E_,Prod.mk.injEq]at c;obtain⟨rfl,rfl⟩:=c;subst n;exact⟨u,m,rfl,nl h e1 (fun i k=>j i (List.mem_append_left _ k)) p,yK h e2 (fun i k=>j i (List.mem_append_right _ k)) q⟩
  simp at c
theorem rL(h:SimG w0 S0 M σ a w S μ β){x:SV}{v:Value}{c:List (List IV)}{l:List Nat}(b:nk σ.objs x=some (c,l))
  (f:au w S μ σ.objs x v):sI w (dH S β σ.objs l) (.slice c) v:=by
 unfold nk at b;split at b
 .simp only[E_,Prod.mk.injEq]at b;obtain⟨rfl,rfl⟩:=b;exact qp (x:=.nils) h (iv:=.slice []) rfl (fun _ x=>x) f
 .next r=>
  simp only[E_,Prod.mk.injEq]at b;obtain⟨rfl,rfl⟩:=b;exact qp (x:=.full r) h (iv:=.slice r) rfl (fun _ x=>x) f
 .next r=>
  simp only[E_,Prod.mk.injEq]at b;obtain⟨rfl,rfl⟩:=b;exact qp (x:=.val (.slice r)) h (iv:=.slice r) rfl (fun _ x=>x) f
 .next id d=>
  split at b
  .next j s e i=>
   split at b
   .next k=>
    simp only[E_,Prod.mk.injEq]at b;obtain⟨rfl,rfl⟩:=b;have g:d=j:=by simpa using k
    obtain rfl:=(f _ _ _ i).2 g;exact J0 h i (by simp)
   simp at b
  simp at b
 .next id d m n=>
  split at b
  .next j s e i=>
   split at b
   .next k=>
    simp only[E_,Prod.mk.injEq]at b;obtain⟨rfl,rfl⟩:=b;obtain rfl:d=j:=by simpa using k
    exact Sb h i (by simp) f
   simp at b
  simp at b
 simp at b
end
end Go.Vs
namespace Go.Vs
def we(P:Program)(o:Oper)(a:Act)(w:World)(G:Value->World->Prop):Prop:=
 ∃n v w',(execOp a.eval o).run P w=.ok n w'/\(n=.value v\/n=.skip/\v=Go.undef)/\G v w'
abbrev oh(o:Oper)(σ:St):Prop:=∀d,o.dst=some d->d<σ.n
abbrev uB(P:Program)(o:Oper)(w0:World)(S0:bb)(M:Ctx)(σ:St)(a:Act)(w:World)(u:Upd):Prop:=we P o a w (fun v w'=>gc w0 S0 M (σ.apply o.dst u) (a.put o.dst v) w')
section
variable {P:Program} {w0 w:World} {S0 S:bb} {M:Ctx} {σ:St} {a:Act} {μ:Nat->Value} {β:Nat->Option Nat} {o:Oper}
theorem dH.nil{objs:List (Nat×Ob)} : ∀b c,S b c->dH S β objs [] b c:=fun _ _ x=>.inl x
theorem SimG.putD(h:SimG w0 S0 M σ a w S μ β){c:Option Nat}{sv:SV}{v:Value}(f:∀d,c=some d->d<σ.n)(g:au w S μ σ.objs sv v) :
  SimG w0 S0 M {σ with env:=Vs.putD σ.env c sv } (a.put c v) w S μ β:=by
 cases c with
 |none=>exact h
 |some d=>exact h.put (f d rfl) g
theorem AF(h:SimG w0 S0 M σ a w S μ β)(d:oh o σ){c:SV}{v:Value}{fz:List Nat}{side:Prop} [Decidable side]
  (b:(execOp a.eval o).run P w=.ok (.value v) w) (e:au w (dH S β σ.objs fz) μ σ.objs c v) :
  we P o a w (fun v f=>gc w0 S0 M (σ.apply o.dst {v:=c,side:=side,fz:=fz }) (a.put o.dst v) f):=by
 refine⟨_,v,w,b,.inl rfl,dH S β σ.objs fz,μ,β,?_⟩;exact(h.freeze fz).putD (σ:={σ with ro:=fz++σ.ro }) d e
theorem aw(h:SimG w0 S0 M σ a w S μ β)(d:oh o σ){c:SV}{v:Value}{side:Prop} [Decidable side]
  (b:(execOp a.eval o).run P w=.ok (.value v) w) (e:au w S μ σ.objs c v) :
  we P o a w (fun v f=>gc w0 S0 M (σ.apply o.dst {v:=c,side:=side }) (a.put o.dst v) f):=
 AF (fz:=[]) h d b (au.mono (bM.refl _ _) dH.nil _ _ e)
theorem G9(l:List UInt8):(⟨l.toArray⟩:ByteArray).toList=l:=by rw[ByteArray.toList_eq]
theorem DP(l:List UInt8):(⟨l.toArray⟩:ByteArray).size=l.length:=by simp[ByteArray.size]
theorem Yh(l k:List UInt8):(⟨l.toArray⟩:ByteArray)++⟨k.toArray⟩=⟨(l++k).toArray⟩:=by
 apply ByteArray.ext;simp[ByteArray.data_append]
theorem UW(l:List UInt8)(i j:Nat):(⟨l.toArray⟩:ByteArray).extract i j=⟨((l.take j).drop i).toArray⟩:=by
 apply ByteArray.ext;simp[ByteArray.data_extract,List.extract_eq_take_drop,List.drop_take]
theorem ahj(l:List UInt8)(i:Nat):(⟨l.toArray⟩:ByteArray)[i]?=l[i]?:=by
 by_cases h:i<l.length
 .have b:i<(⟨l.toArray⟩:ByteArray).size:=by rw[DP];exact h
  rw[getElem?_pos (c:=(⟨l.toArray⟩:ByteArray)) (i:=i) b,getElem?_pos (c:=l) (i:=i) h];rfl
 have b:¬i<(⟨l.toArray⟩:ByteArray).size:=by rw[DP];exact h
 rw[getElem?_neg (c:=(⟨l.toArray⟩:ByteArray)) (i:=i) b,getElem?_neg (c:=l) (i:=i) h]
theorem Sd(h:SimG w0 S0 M σ a w S μ β)(c:oh o σ){x:Operand}{y:Opd}(b:o.op=.move x\/o.op=.assign x)(d:ap x=some y) :
  we P o a w (fun v e=>gc w0 S0 M (σ.apply o.dst {v:=val σ y }) (a.put o.dst v) e):=by
 refine aw h c (v:=a.eval x) ?_ (ax h d);rcases b with b|b<;>simp[execOp,b]
theorem aaE(h:SimG w0 S0 M σ a w S μ β)(f:oh o σ){c x y:Operand}{b d e:Opd}(g:o.op=.pick c x y)
  (i:ap c=some b) (j:ap x=some d) (k:ap y=some e) {t:Bool} (l:val σ b=.val (.bool t)) :
  we P o a w (fun v m=>gc w0 S0 M (σ.apply o.dst {v:=bif t then val σ d else val σ e }) (a.put o.dst v) m):=by
 have n:a.eval c=.bool t:=by have:=ax h i;rw[l]at this;exact this
 refine aw h f (v:=if t then a.eval x else a.eval y) (by simp[execOp,g,n,asBool]) ?_;cases t
 .exact ax h k
 exact ax h j
theorem kE{b:BinOp}{t:TypeId}{x y:Operand}{u v:Value}(c:∀cs,u≠.agg cs)(d:u≠.nilIface):(eqGuard b t x y u v).run P w=.ok () w:=by
 unfold eqGuard;cases b<;>(try rfl)<;>cases u<;>first|(exact absurd rfl (c _))|(exact absurd rfl d)|rfl
theorem aaF(h:SimG w0 S0 M σ a w S μ β)(c:oh o σ){i:BinOp}{t q:TypeId}{x y:Operand}{j l:Opd}(d:o.op=.binOp i t x y q)
  (s:ap x=some j) (v:ap y=some l) {k:IntKind} {m n:Int} (z:val σ j=.val (.int k m)) (A:val σ l=.val (.int k n)) {u:Upd} (p:Yf i k m n=some u) (b:u.side) :
  uB P o w0 S0 M σ a w u:=by
 have e:a.eval x=.int k m:=by have:=ax h s;rw[z]at this;exact this
 have f:a.eval y=.int k n:=by have:=ax h v;rw[A]at this;exact this
 have g:(eqGuard i t x y (.int k m) (.int k n)).run P w=.ok () w:=kE (by simp) (by simp);cases i<;>simp only[Yf,E_,reduceCtorEq]at p<;>subst p
 case quo=>
  refine aw h c ?_ rfl;have b:n≠0:=b;simp only[execOp,d,e,f,Sem.run_bind,g,Result.andThen_ok];simp[binOp,Op.intDiv,b]
 case rem=>
  refine aw h c ?_ rfl;have b:n≠0:=b;simp only[execOp,d,e,f,Sem.run_bind,g,Result.andThen_ok];simp[binOp,Op.intDiv,b]
 case shl=>
  refine aw h c ?_ rfl;have b:0<=n:=b;simp only[execOp,d,e,f,Sem.run_bind,g,Result.andThen_ok];simp only[binOp,Op.shift];rw[if_neg (by omega)];simp
 case shr=>
  refine aw h c ?_ rfl;have b:0<=n:=b;simp only[execOp,d,e,f,Sem.run_bind,g,Result.andThen_ok];simp only[binOp,Op.shift];rw[if_neg (by omega)];simp
 all_goals
  refine aw h c ?_ rfl;simp only[execOp,d,e,f,Sem.run_bind,g,Result.andThen_ok]
  first
   |(simp[binOp,Op.intArith,Op.intCmp];done)
   |(simp[binOp,Op.intArith,Op.intCmp];rfl)
theorem aaG(h:SimG w0 S0 M σ a w S μ β)(c:oh o σ){b:BinOp}{t q:TypeId}{x y:Operand}{d f:Opd}(g:o.op=.binOp b t x y q)
  (s:ap x=some d) (z:ap y=some f) {m n:List UInt8} (A:val σ d=.val (.str m)) (B:val σ f=.val (.str n)) {u:Upd} (i:Yg b m n=some u) (j:u.side) :
  uB P o w0 S0 M σ a w u:=by
 have k:a.eval x=.string ⟨m.toArray⟩:=by have:=ax h s;rw[A]at this;exact this
 have l:a.eval y=.string ⟨n.toArray⟩:=by have:=ax h z;rw[B]at this;exact this
 have p:(eqGuard b t x y (.string ⟨m.toArray⟩) (.string ⟨n.toArray⟩)).run P w=.ok () w:=kE (by simp) (by simp);have C:(m==n)=decide (m=n):=by by_cases e:m=n<;>simp[e]
 cases b<;>simp only[Yg,E_,reduceCtorEq]at i<;>subst i
 case add=>
  have j:m.length+n.length<=9223372036854775807:=j;refine aw h c (v:=.string ⟨(m++n).toArray⟩) ?_ rfl;simp only[execOp,g,k,l,Sem.run_bind,p,Result.andThen_ok];simp only[binOp,Op.stringOp,DP,Yh];rw[if_neg]
  .simp
  have:IntKind.i64.max=9223372036854775807:=by decide
  omega
 all_goals
  refine aw h c ?_ rfl;simp only[execOp,g,k,l,Sem.run_bind,p,Result.andThen_ok];simp[binOp,Op.stringOp,G9,C]
theorem aaH{t:TypeId}{u v:Value}{b:Bool}(e:(Op.equalIn 10000 t u v).run P w=.ok b w):∀c,c=.eql\/c=.neq->
  (binOp .eql t u v=do pure (.bool (<-Op.equal t u v)))->(binOp .neq t u v=do pure (.bool (!(<-Op.equal t u v))))->
  (binOp c t u v).run P w=.ok (.bool ((c == .neq) ^^ b)) w:=by
 intro c d f g;rcases d with rfl|rfl
 .rw[f];simp only[Sem.run_bind,Op.equal,Op.maxDepth,e,Result.andThen_ok,Sem.run_pure];cases b<;>rfl
 rw[g];simp only[Sem.run_bind,Op.equal,Op.maxDepth,e,Result.andThen_ok,Sem.run_pure];cases b<;>rfl
theorem wX(h:SimG w0 S0 M σ a w S μ β)(f:oh o σ){c:BinOp}{t g:TypeId}{x y:Operand}(i:o.op=.binOp c t x y g)(e:c=.eql\/c=.neq)
  {u v:Value} (j:a.eval x=u) (k:a.eval y=v) (l:(eqGuard c t x y u v).run P w=.ok () w) {b:Bool} (m:(Op.equalIn 10000 t u v).run P w=.ok b w)
  (n:binOp .eql t u v=do pure (.bool (<-Op.equal t u v))) (p:binOp .neq t u v=do pure (.bool (!(<-Op.equal t u v)))) :
  we P o a w (fun v q=>gc w0 S0 M (σ.apply o.dst {v:=.val (.bool ((c == .neq) ^^ b)) }) (a.put o.dst v) q):=by
 refine aw h f (v:=.bool ((c == .neq) ^^ b)) ?_ rfl;simp only[execOp,i,j,k,Sem.run_bind,l,Result.andThen_ok,aaH m c e n p,Sem.run_pure]
theorem aej(h:SimG w0 S0 M σ a w S μ β)(f:oh o σ){b:BinOp}{t g:TypeId}{x y:Operand}{d e:Opd}(i:o.op=.binOp b t x y g)(c:b=.eql\/b=.neq)
  (j:P.underlying t=some .bool) (k:ap x=some d) (l:ap y=some e) {m n:Bool} (p:val σ d=.val (.bool m)) (q:val σ e=.val (.bool n)) :
  we P o a w (fun v s=>gc w0 S0 M (σ.apply o.dst {v:=.val (.bool ((b == .neq) ^^ (m==n))) }) (a.put o.dst v) s):=by
 have u:a.eval x=.bool m:=by have:=ax h k;rw[p]at this;exact this
 have z:a.eval y=.bool n:=by have:=ax h l;rw[q]at this;exact this
 exact wX h f i c u z (kE (by simp) (by simp)) (run_equalIn_bool' w 9999 t m n j) rfl rfl
theorem aaI(h:SimG w0 S0 M σ a w S μ β)(i:oh o σ){t:TypeId}{x:Operand}{c:Opd}(j:ap x=some c) :
  (∀ {k n},o.op=.unOp .neg t x->val σ c=.val (.int k n)->we P o a w (fun v d=>gc w0 S0 M (σ.apply o.dst {v:=.val (.int k (k.wrap (0-n))) }) (a.put o.dst v) d))/\
  (∀ {b},o.op=.unOp .not t x->val σ c=.val (.bool b)->we P o a w (fun v d=>gc w0 S0 M (σ.apply o.dst {v:=.val (.bool (!b)) }) (a.put o.dst v) d)):=by
 refine⟨fun {k n} e f=>?_,fun {b} e f=>?_⟩
 .have g:a.eval x=.int k n:=by have:=ax h j;rw[f]at this;exact this
  exact aw h i (v:=.int k (k.wrap (0-n))) (by simp only[execOp,e,g,Op.unary,Op.intArith];rfl) rfl
 have g:a.eval x=.bool b:=by have:=ax h j;rw[f]at this;exact this
 exact aw h i (v:=.bool (!b)) (by simp only[execOp,e,g,Op.unary];rfl) rfl
theorem aaJ(h:SimG w0 S0 M σ a w S μ β)(l:oh o σ){s t:TypeId}{x:Operand}{c:Opd}(m:o.op=.convert s t x)(p:ap x=some c) :
  (∀ {q k d n},P.underlying s=some (.int q)->P.underlying t=some (.int k)->val σ c=.val (.int d n)->we P o a w (fun v e=>gc w0 S0 M (σ.apply o.dst {v:=.val (.int k (k.wrap n)) }) (a.put o.dst v) e))/\
  (∀ {b},P.underlying s=some .string->P.underlying t=some .string->val σ c=.val (.str b)->we P o a w (fun v e=>gc w0 S0 M (σ.apply o.dst {v:=.val (.str b) }) (a.put o.dst v) e)):=by
 refine⟨fun {q k d n} f g i=>?_,fun {b} f g i=>?_⟩
 .have j:a.eval x=.int d n:=by have:=ax h p;rw[i]at this;exact this
  exact aw h l (v:=.int k (k.wrap n)) (by simp[execOp,m,j,convert,run_underlying f,run_underlying g,Conv.intToInt]) rfl
 have j:a.eval x=.string ⟨b.toArray⟩:=by have:=ax h p;rw[i]at this;exact this
 exact aw h l (v:=.string ⟨b.toArray⟩) (by simp[execOp,m,j,convert,run_underlying f,run_underlying g]) rfl
theorem Yi(d:Nat){t:TypeId}{ms:Array (String×TypeId)}(b:P.underlying t=some (.interface ms))(c:TypeId)(u:Value):(Op.equalIn (d+1) t (.iface c u) .nilIface).run P w=.ok false w:=by
 simp[Op.equalIn,run_underlying b]
theorem Yj(d:Nat){t:TypeId}{ms:Array (String×TypeId)}(b:P.underlying t=some (.interface ms)):(Op.equalIn (d+1) t .nilIface .nilIface).run P w=.ok true w:=by
 simp[Op.equalIn,run_underlying b]
theorem Yk(d:Nat){t e:TypeId}(b:P.underlying t=some (.pointer e))(p:Addr):(Op.equalIn (d+1) t (.pointer (some p)) (.pointer none)).run P w=.ok false w:=by
 simp[Op.equalIn,run_underlying b]
theorem Yl(d:Nat){t e:TypeId}(b:P.underlying t=some (.pointer e)):(Op.equalIn (d+1) t (.pointer none) (.pointer none)).run P w=.ok true w:=by
 simp[Op.equalIn,run_underlying b]
theorem JA(h:SimG w0 S0 M σ a w S μ β)(g:oh o σ){d:BinOp}{t k:TypeId}{x:Operand}(i:o.op=.binOp d t x (.const .nilIface) k)(c:d=.eql\/d=.neq)
  {ms:Array (String×TypeId)} (j:P.underlying t=some (.interface ms)) {b:Bool} (l:(∃e u,a.eval x=.iface e u/\b=false)\/(a.eval x=.nilIface/\b=true)) :
  we P o a w (fun v m=>gc w0 S0 M (σ.apply o.dst {v:=.val (.bool ((d == .neq) ^^ b)) }) (a.put o.dst v) m):=by
 rcases l with⟨e,u,f,rfl⟩|⟨f,rfl⟩
 .refine wX h g i c f rfl (kE (by simp) (by simp)) ?_ rfl rfl;exact Yi 9999 j e u
 refine wX h g i c f rfl ?_ ?_ rfl rfl
 .rcases c with rfl|rfl<;>simp[eqGuard,Act.eval]
 exact Yj 9999 j
theorem JB(h:SimG w0 S0 M σ a w S μ β)(g:oh o σ){d:BinOp}{t k:TypeId}{x:Operand}(i:o.op=.binOp d t x (.const (.pointer none)) k)(c:d=.eql\/d=.neq)
  {e:TypeId} (j:P.underlying t=some (.pointer e)) {b:Bool} (l:(∃p,a.eval x=.pointer (some p)/\b=false)\/(a.eval x=.pointer none/\b=true)) :
  we P o a w (fun v m=>gc w0 S0 M (σ.apply o.dst {v:=.val (.bool ((d == .neq) ^^ b)) }) (a.put o.dst v) m):=by
 rcases l with⟨p,f,rfl⟩|⟨f,rfl⟩
 .refine wX h g i c f rfl (kE (by simp) (by simp)) ?_ rfl rfl;exact Yk 9999 j p
 refine wX h g i c f rfl (kE (by simp) (by simp)) ?_ rfl rfl;exact Yl 9999 j
theorem Se(d:Nat){t e:TypeId}(b:P.underlying t=some (.slice e))(p:Option Addr)(n c:Nat):(Op.equalIn (d+1) t (.slice p n c) (.slice none 0 0)).run P w=.ok p.isNone w:=by
 cases p<;>simp[Op.equalIn,run_underlying b]
theorem Sf(h:SimG w0 S0 M σ a w S μ β)(g:oh o σ){b:BinOp}{t m:TypeId}{x:Operand}(i:o.op=.binOp b t x (.const (.slice none 0 0)) m)(d:b=.eql\/b=.neq)
  {e:TypeId} (j:P.underlying t=some (.slice e)) {p:Option Addr} {n c:Nat} (k:a.eval x=.slice p n c) :
  we P o a w (fun v f=>gc w0 S0 M (σ.apply o.dst {v:=.val (.bool ((b == .neq) ^^ p.isNone)) }) (a.put o.dst v) f)/\
  we P o a w (fun v f=>gc w0 S0 M (σ.apply o.dst {v:=.anyB }) (a.put o.dst v) f):=by
 have l:(eqGuard b t x (.const (.slice none 0 0)) (.slice p n c) (.slice none 0 0)).run P w=.ok () w:=kE (by simp) (by simp);refine⟨wX h g i d k rfl l (Se 9999 j p n c) rfl rfl,aw h g (v:=.bool ((b == .neq) ^^ p.isNone)) ?_ ⟨_,rfl⟩⟩;have e2:a.eval (.const (.slice none 0 0))=.slice none 0 0:=rfl;simp only[execOp,i,k,e2,Sem.run_bind,l,Result.andThen_ok,aaH (Se 9999 j p n c) b d rfl rfl,Sem.run_pure]
theorem CP{t:TypeId}{n:Nat}(h:y4 P t=some (some n)):∃d i,P.underlying t=some d/\P.info? t=some i/\i.size=n/\yI d=true:=by
 unfold y4 at h;split at h
 .next f i b c=>exact⟨_,i,b,c,by simpa using h,rfl⟩
 .next m e i b c=>exact⟨_,i,b,c,by simpa using h,rfl⟩
 .next d i b c _ _=>split at h<;>simp at h
 simp at h
theorem CQ{t:TypeId}(h:y4 P t=some none):∃d i,P.underlying t=some d/\P.info? t=some i/\i.size=1/\yI d=false:=by
 unfold y4 at h;split at h
 .simp at h
 .simp at h
 .next d i b c e f=>
  split at h
  .next g=>
   refine⟨d,i,e,f,g,?_⟩;cases d<;>first|rfl|(exact absurd rfl (b _))|(exact absurd rfl (c _ _))
  simp at h
 simp at h
theorem AG{t:TypeId}{d:TypeDesc}(h:P.underlying t=some d)(w:World):(isAgg t).run P w=.ok (yI d) w:=by
 unfold isAgg;rw[Sem.run_bind,run_underlying h];cases d<;>rfl
theorem eQ{t:TypeId}{n:Nat}(h:eh P t=some n)(w:World):(sizeOf t).run P w=.ok n w:=by
 unfold eh at h;cases b:P.info? t with
 |none=>rw[b]at h;simp at h
 |some i=>rw[b]at h;simp at h;simp[sizeOf,typeInfo,b,h]
theorem Oo{t:TypeId}{i:TypeInfo}(h:P.info? t=some i)(w:World):(sizeOf t).run P w=.ok i.size w:=by
 simp[sizeOf,typeInfo,h]
end
end Go.Vs
namespace Go.Vs
theorem JC:∀ {e f:List LK} {g i:List IV} {b:Bool},MW (e++f) g i=some b->
  ∃j l,MW e (g.take e.length) (i.take e.length)=some j/\MW f (g.drop e.length) (i.drop e.length)=some l/\b=(j&&l)
 |[],f,g,i,b,h=>⟨true,b,by simp[MW],by simpa using h,by simp⟩
 |k::e,f,[],i,b,h=>by simp[MW]at h
 |k::e,f,x::g,[],b,h=>by simp[MW]at h
 |k::e,f,x::g,y::i,b,h=>by
  simp only[List.cons_append,MW]at h;split at h
  .next c d m n=>
   simp only[E_]at h;subst h;obtain⟨j,l,p,q,rfl⟩:=JC n;refine⟨c&&j,l,?_,?_,?_⟩
   .simp only[List.length_cons,List.take_succ_cons,MW,m,p]
   .simpa using q
   rw[Bool.and_assoc]
  simp at h
theorem JD:∀ {e:List LK} {f g:List IV} {b:Bool},MW e f g=some b->f.length=e.length/\g.length=e.length
 |[],[],[],_,_=>⟨rfl,rfl⟩
 |[],[],_::_,_,h=>by simp[MW]at h
 |[],_::_,_,_,h=>by simp[MW]at h
 |_::_,[],_,_,h=>by simp[MW]at h
 |_::_,_::_,[],_,h=>by simp[MW]at h
 |k::e,x::f,y::g,b,h=>by
  simp only[MW]at h;split at h
  .next c d j i=>
   have:=JD i;simp[this]
  simp at h
section
variable {P:Program} {w:World} {S:bb}
theorem rM{t:TypeId}{n:Nat}{d:TypeDesc}(c:P.underlying t=some d)(e:yI d=true)(f:eh P t=some n)(cs:Array Value)(b:Nat) :
  (part t cs b).run P w=.ok (.agg (cs.extract b (b+n))) w:=by
 unfold part;simp only[Sem.run_bind,AG c,e,Result.andThen_ok,if_true,eQ f,Sem.run_pure]
theorem rN{t:TypeId}{d:TypeDesc}(c:P.underlying t=some d)(e:yI d=false)(cs:Array Value)(b:Nat){v:Value}(f:cs[b]?=some v) :
  (part t cs b).run P w=.ok v w:=by
 unfold part;simp only[Sem.run_bind,AG c,e,Result.andThen_ok,Bool.false_eq_true,if_false,f,Sem.run_pure]
theorem ag.extract{c:List IV}{d:Array Value}(h:ag w S c d.toList)(b n:Nat):ag w S ((c.drop b).take n) (d.extract b (b+n)).toList:=by
 have:=ag.take n (ag.drop b h);rw[Array.toList_extract,List.extract_eq_take_drop,Nat.add_sub_cancel_left];exact this
def aaK(P:Program)(w:World)(S:bb)(d:Nat)(t:TypeId)(f:List LK):Prop:=
 ∀(e:Nat) (g h:List IV) (i j:Array Value) (c:Nat) (b:Bool),ag w S g i.toList->ag w S h j.toList->
  MW f ((g.drop c).take f.length) ((h.drop c).take f.length)=some b->
  ∃u v,(part t i c).run P w=.ok u w/\(part t j c).run P w=.ok v w/\(Op.equalIn (d+e) t u v).run P w=.ok b w
theorem wY{d:Nat}(q:∀t h,uZ P d t=some h->aaK P w S d t h):∀(m:List Field) (c:Nat) (h:List LK),oe (uZ P d) c m=some h->
  ∀(e:Nat) (i j:List IV) (k l:Array Value) (b:Bool),ag w S i k.toList->ag w S j l.toList->MW h (i.drop c) (j.drop c)=some b->
  (Op.eqFields (d+e) k l m).run P w=.ok b w
 |[],c,h,g,e,i,j,k,l,b,_,_,n=>by
  simp only[oe,E_]at g;subst g
  have:b=true:=by
   unfold MW at n;split at n<;>simp_all
  subst this;simp[Op.eqFields]
 |f::m,c,h,g,e,i,j,k,l,b,s,x,n=>by
  simp only[oe]at g;split at g
  .simp at g
  next z=>
  split at g
  .simp at g
  next p=>
  have p:f.offset=c:=by simpa using p
  split at g
  .next A B=>
   split at g
   .next C D=>
    simp only[E_]at g;subst g;obtain⟨y,E,e1,e2,rfl⟩:=JC n;obtain⟨u,v,F,H,I⟩:=q _ _ B e i j k l c y s x e1;have J:=wY q m (c+A.length) C D e i j k l E s x (by simpa[List.drop_drop]using e2);simp only[Op.eqFields,ne_eq,z,not_false_eq_true,if_true,Sem.run_bind,p,F,H,Result.andThen_ok,I,Sem.run_ite];cases y
    .simp
    simpa using J
   simp at g
  simp at g
theorem aaL(p q:List UInt8):(p==q)=decide (p=q):=by by_cases h:p=q<;>simp[h]
theorem Ga{d:TypeDesc}{t:TypeId}{k:LK}(A:P.underlying t=some d)(B:yI d=false){i j:List IV}{m n:Array Value}{e:Nat}{b:Bool}
  (D:ag w S i m.toList) (E:ag w S j n.toList) (f:MW [k] ((i.drop e).take 1) ((j.drop e).take 1)=some b) :
  ∃x y u v,eqC k x y=some b/\sI w S x u/\sI w S y v/\(part t m e).run P w=.ok u w/\(part t n e).run P w=.ok v w:=by
 have l:=JD f;cases g:i.drop e with
 |nil=>rw[g]at l;simp at l
 |cons x J=>
  cases h:j.drop e with
  |nil=>rw[h]at l;simp at l
  |cons y yr=>
   have F:i[e]?=some x:=by have:=congrArg (·[0]?) g;simpa using this
   have H:j[e]?=some y:=by have:=congrArg (·[0]?) h;simpa using this
   obtain⟨u,p,_,q⟩:=ag.get D F;obtain⟨v,s,_,z⟩:=ag.get E H;refine⟨x,y,u,v,?_,q,z,rN A B m e (by simpa using p),rN A B n e (by simpa using s)⟩;rw[g,h]at f;simp only[List.take_succ_cons,List.take_zero,MW]at f;split at f
   .next c d I C=>
    simp only[E_]at C f;subst C;subst f;simpa using I
   simp at f
theorem DQ:∀(d:Nat) (t:TypeId) (p:List LK),uZ P d t=some p->aaK P w S d t p
 |0,t,p,h=>by simp[uZ]at h
 |d+1,t,p,h=>by
  intro e K L E F g b q s z;simp only[uZ]at h;split at h
  .next f=>
   split at h
   .simp only[E_]at h;subst h;obtain⟨x,y,u,v,c,j,k,l,m⟩:=Ga f rfl q s z;refine⟨u,v,l,m,?_⟩;unfold eqC at c;split at c<;>(try (simp at c;done))<;>(try (rename_i i;simp at i;done));simp only[E_]at c;subst c;obtain rfl:u=_:=j;obtain rfl:v=_:=k;rw[show d+1+e=(d+e)+1 by omega,run_equalIn_bool' w _ t _ _ f];congr 1
   simp at h
  .next H f=>
   split at h
   .simp only[E_]at h;subst h;obtain⟨x,y,u,v,c,j,k,l,m⟩:=Ga f rfl q s z;refine⟨u,v,l,m,?_⟩;unfold eqC at c;split at c<;>(try (simp at c;done))<;>(try (rename_i i;simp at i;done));split at c
    .next A=>
     subst A;simp only[E_]at c;subst c;obtain rfl:u=_:=j;obtain rfl:v=_:=k;rw[show d+1+e=(d+e)+1 by omega,run_equalIn_int w _ t _ H _ _ f];congr 1
    simp at c
   simp at h
  .next f=>
   split at h
   .simp only[E_]at h;subst h;obtain⟨x,y,u,v,c,j,k,l,m⟩:=Ga f rfl q s z;refine⟨u,v,l,m,?_⟩;unfold eqC at c;split at c<;>(try (simp at c;done))<;>(try (rename_i i;simp at i;done));simp only[E_]at c;subst c;obtain rfl:u=_:=j;obtain rfl:v=_:=k;rw[show d+1+e=(d+e)+1 by omega,run_equalIn_string w _ t _ _ f,G9,G9,aaL]
   simp at h
  .next D f=>
   split at h
   .simp at h
   next B=>
   split at h
   .next I i=>
    split at h
    .next n=>
     simp only[E_]at h;subst h;refine⟨_,_,rM f rfl n E g,rM f rfl n F g,?_⟩;have J:P.underlying t=some (.struct (P.fieldsOf t)):=by simp[Program.fieldsOf,f]
     have C:P.fieldsOf t=D:=by simp[Program.fieldsOf,f]
     rw[show d+1+e=(d+e)+1 by omega,run_equalIn_struct w _ t _ _ J (by simpa using B),C];exact wY (DQ d) D.toList 0 I i e _ _ _ _ b (q.extract g _) (s.extract g _) (by simpa using z)
    simp at h
   simp at h
  simp at h
end
end Go.Vs
namespace Go.Vs
theorem jN(b o n:Nat):(⟨b,o,none⟩:Addr).add n=⟨b,o+n,none⟩:=by
 unfold Addr.add;split
 .next h=>subst h;rfl
 rfl
section
variable {P:Program} {w0 w:World} {S0 S:bb} {M:Ctx} {σ:St} {a:Act} {μ:Nat->Value} {β:Nat->Option Nat} {o:Oper}
theorem nH{t:TypeId}{n:Nat}(h:y4 P t=some (some n)){b c:Nat}{e:List Value}(f:e.length=n)(g:∀j v,e[j]?=some v->w.cell? ⟨b,c+j,none⟩=some v) :
  (loadVar t ⟨b,c,none⟩).run P w=.ok (.agg e.toArray) w:=by
 obtain⟨d,i,k,l,p,q⟩:=CP h;have:=run_loadCells_list (P:=P) w ⟨b,c,none⟩ e (fun j v s=>by rw[jN];exact g j v s);unfold loadVar;rw[f]at this;subst p;simp only[Sem.run_bind,AG k,q,Result.andThen_ok,if_true,Oo l,this,Sem.run_pure]
theorem qr{t:TypeId}(h:y4 P t=some none){b:Addr}{v:Value}(c:w.cell? b=some v):(loadVar t b).run P w=.ok v w:=by
 obtain⟨d,i,e,g,k,f⟩:=CQ h;unfold loadVar;simp only[Sem.run_bind,AG e,f,Result.andThen_ok,Bool.false_eq_true,if_false,run_load,c]
theorem Oq(h:SimG w0 S0 M σ a w S μ β){id p s:Nat}{c:List (List IV)}(q:ac σ.objs id=some (.arr p s c)){b d:Nat}(hm:μ id=.slice (some ⟨b,0,none⟩) c.length d)(g:c≠[]\/0<d) :
  ∃f e i,β id=some b/\w.heap[b]?=some (.cells f e i)/\qo i f.size/\f.size=d*s/\c.length<=d/\(∀r∈c,r.length=s)/\ag w S c.flatten (f.toList.take (c.length*s)):=by
 rcases h.objs id _ q with⟨u,_,x,k⟩|⟨F,l,f,e,i,v,j,y,z,B,C,D,E⟩
 .exfalso;rw[hm]at k;simp only[Value.slice.injEq]at k;rcases g with m|m
  .exact m u
  omega
 rw[hm]at j;simp only[Value.slice.injEq,E_,Addr.mk.injEq,and_true]at j;obtain⟨rfl,_,rfl⟩:=j;exact⟨f,e,i,v,y,z,B,C,D,E⟩
theorem yL:∀ {rows:List (List IV)} {s i:Nat} {r:List IV},(∀r∈rows,r.length=s)->rows[i]?=some r->(rows.flatten.drop (i*s)).take s=r
 |[],_,_,_,_,h=>by simp at h
 |b::e,s,0,r,c,h=>by
  have:b=r:=by simpa using h
  subst this;have d:=c b (by simp);simp only[List.flatten_cons,Nat.zero_mul,List.drop_zero];rw[<-d,List.take_left'];rfl
 |b::e,s,i+1,r,c,h=>by
  have d:=c b (by simp);have f:=yL (rows:=e) (s:=s) (i:=i) (r:=r) (fun x g=>c x (List.mem_cons_of_mem _ g)) (by simpa using h);simp only[List.flatten_cons];rw[show(i+1)*s=b.length+i*s by rw[d,Nat.add_mul];omega,List.drop_append,List.drop_eq_nil_of_le (by omega)];simpa using f
theorem aek(h:SimG w0 S0 M σ a w S μ β){id y s i:Nat}{c:List (List IV)}{d:List IV}(z:ac σ.objs id=some (.arr y s c)){b l:Nat}(hm:μ id=.slice (some ⟨b,0,none⟩) c.length l)(m:c[i]?=some d) :
  ∃q:List Value,ag w S d q/\d.length=s/\∀j v,q[j]?=some v->w.cell? ⟨b,i*s+j,none⟩=some v:=by
 have u:i<c.length:=by
  rcases Nat.lt_or_ge i c.length with g|g
  .exact g
  simp[List.getElem?_eq_none g]at m
 obtain⟨D,e,E,_,A,_,F,H,x,B⟩:=Oq h z hm (.inl (by intro e;subst e;simp at u));have k:d.length=s:=x d (List.mem_of_getElem? m);have n:=ag.take s (ag.drop (i*s) B);rw[yL x m]at n;refine⟨_,n,k,fun j v f=>?_⟩;rw[fE A]
 have p:i*s+j<c.length*s:=by
  have I:=ag.length n
  have C:j<s:=by
   rcases Nat.lt_or_ge j s with g|g
   .exact g
   rw[List.getElem?_take,if_neg (by omega)]at f;simp at f
  have:(i+1)*s<=c.length*s:=Nat.mul_le_mul_right _ u;rw[Nat.add_mul]at this;omega
 rw[List.getElem?_take]at f;split at f
 .rw[List.getElem?_drop,List.getElem?_take,if_pos p,Array.getElem?_toList]at f;simpa using f
 simp at f
theorem lz(h:SimG w0 S0 M σ a w S μ β){id off:Nat}{c:List SV}(g:ac σ.objs id=some (.box c)){v:Value}(k:au w S μ σ.objs (.loc id off) v) :
  ∃b vs e f,β id=some b/\μ id=.pointer (some ⟨b,0,none⟩)/\v=.pointer (some ⟨b,off,none⟩)/\w.heap[b]?=some (.cells vs e f)/\qo f vs.size/\al w S μ σ.objs c vs.toList:=by
 obtain⟨b,hm,rfl⟩:=k _ g;obtain⟨i,us,e,f,l,d,p,q,u⟩:=h.objs id _ g;obtain rfl:i=b:=by rw[hm]at d;simpa using d.symm
 exact⟨i,us,e,f,l,hm,rfl,p,q,u⟩
theorem aaM(h:SimG w0 S0 M σ a w S μ β)(D:oh o σ){t:TypeId}{x:Operand}{X:Opd}{g:Option Nat}(E:o.op=.load t x)(hx:ap x=some X)(F:y4 P t=some g)
  {u:Upd} (d:v6 σ g (val σ X)=some u) (H:u.side):uB P o w0 S0 M σ a w u:=by
 have k:=ax h hx;unfold v6 at d;split at d
 .next m q=>
  rw[q]at k;obtain⟨b,f,B,A⟩:=k;obtain⟨I,y,C⟩:=aQ.vals A;split at d
  .next n=>
   obtain rfl:=O_ d;have H:n<=m.length:=H;refine aw h D (v:=.agg (I.take n).toArray) ?_ ⟨(I.take n).toArray,rfl,by simpa using ag.take n y⟩;have p:(I.take n).length=n:=by rw[List.length_take,ag.length y];omega
   simp only[execOp,E,B,Instr.loadAt,Instr.sureAddr,Sem.run_bind,Sem.run_pure,Result.andThen_ok]
   rw[nH F p (fun j v l=>C j v (by
    rw[List.getElem?_take]at l;split at l
    .exact l
    simp at l))]
   rfl
  split at d
  .next c cs=>
   obtain rfl:=O_ d;obtain⟨v,J,_,K⟩:=ag.get (j:=0) y rfl;refine aw h D (v:=v) ?_ K;simp only[execOp,E,B,Instr.loadAt,Instr.sureAddr,Sem.run_bind,Sem.run_pure,Result.andThen_ok];rw[qr F (v:=v) (by simpa using C 0 v J)];rfl
  simp at d
 .next id f q=>
  rw[q]at k;split at d
  .next m N=>
   obtain⟨b,I,e,fr,_,_,B,Y,_,y⟩:=lz h N k;split at d
   .next n=>
    obtain rfl:=O_ d;have H:f+n<=m.length:=H;have O:=al.take n (al.drop f y);refine aw h D (v:=.agg ((I.toList.drop f).take n).toArray) ?_ (nG O)
    have p:((I.toList.drop f).take n).length=n:=by
     have:=al.length y;rw[List.length_take,List.length_drop];omega
    simp only[execOp,E,B,Instr.loadAt,Instr.sureAddr,Sem.run_bind,Sem.run_pure,Result.andThen_ok]
    rw[nH F p (fun j v l=>by
     rw[List.getElem?_take]at l;split at l
     .rw[List.getElem?_drop,Array.getElem?_toList]at l;rw[fE Y];exact l
     simp at l)]
    rfl
   split at d
   .next c C=>
    obtain rfl:=O_ d;obtain⟨v,J,_,K⟩:=al.get y C;refine aw h D (v:=v) ?_ K;simp only[execOp,E,B,Instr.loadAt,Instr.sureAddr,Sem.run_bind,Sem.run_pure,Result.andThen_ok];rw[qr F (v:=v) (by rw[fE Y];rw[Array.getElem?_toList]at J;exact J)];rfl
   simp at d
  simp at d
 .next id Q i f q=>
  rw[q]at k;split at d
  .next cv s Z N=>
   split at d
   .next z=>
    have z:Q=cv:=by simpa using z
    obtain⟨_,R⟩:=k _ _ _ N;obtain⟨b,a',hm,B⟩:=R z;split at d
    .next U L=>
     obtain⟨us,y,p,C⟩:=aek h N hm L;split at d
     .next n=>
      obtain rfl:=O_ d;have H:f+n<=U.length:=H;refine aw h D (v:=.agg ((us.drop f).take n).toArray) ?_ ⟨_,rfl,by simpa using ag.take n (ag.drop f y)⟩
      have V:((us.drop f).take n).length=n:=by
       have:=ag.length y;rw[List.length_take,List.length_drop];omega
      simp only[execOp,E,B,Instr.loadAt,Instr.sureAddr,Sem.run_bind,Sem.run_pure,Result.andThen_ok]
      rw[nH F V (fun j v l=>by
       rw[List.getElem?_take]at l;split at l
       .rw[List.getElem?_drop]at l;have:=C _ _ l
        rwa[<-Nat.add_assoc]at this
       simp at l)]
      rfl
     split at d
     .next c W=>
      obtain rfl:=O_ d;obtain⟨v,J,_,K⟩:=ag.get y W;refine aw h D (v:=v) ?_ K;simp only[execOp,E,B,Instr.loadAt,Instr.sureAddr,Sem.run_bind,Sem.run_pure,Result.andThen_ok];rw[qr F (v:=v) (C _ _ J)];rfl
     simp at d
    simp at d
   simp at d
  simp at d
 simp at d
theorem JE{b c:Nat}{f:Field}{n:Nat}(d:eh P f.type=some n)(e:n≠0):(fieldPlace ⟨b,c,none⟩ f).run P w=.ok ⟨b,c+f.offset,none⟩ w:=by
 unfold fieldPlace;simp only[Sem.run_bind,eQ d,Result.andThen_ok,e,if_false,Sem.run_pure,jN]
theorem N0(h:SimG w0 S0 M σ a w S μ β)(B:oh o σ){t:TypeId}{J:Array Field}{f:Nat}{g:Field}{n:Nat}{x:Operand}{K:Opd}(N:o.op=.fieldAddr t x f)
  (O:P.underlying t=some (.struct J)) (Q:J[f]?=some g) (C:eh P g.type=some n) (R:n≠0) (U:ap x=some K) {u:Upd} (j:ev σ o.dst (.fieldAddr g.offset K)=some u) :
  uB P o w0 S0 M σ a w u:=by
 have c:=ax h U
 have k:∀ {b d:Nat},a.eval x=.pointer (some ⟨b,d,none⟩)->(execOp a.eval o).run P w=.ok (.value (.pointer (some ⟨b,d+g.offset,none⟩))) w:=by
  intro b d v;simp only[execOp,N,v,Instr.fieldAt,Sem.run_bind,run_underlying O,Result.andThen_ok,Q,Instr.sureAddr,Sem.run_pure,JE C R]
 simp only[ev]at j;split at j
 .next y l=>
  rw[l]at c;obtain⟨b,d,v,p⟩:=c;obtain rfl:=O_ j;exact aw h B (k v) ⟨b,d+g.offset,rfl,aQ.drop _ p⟩
 .next id d l=>
  rw[l]at c;split at j
  .next y z=>
   obtain rfl:=O_ j;obtain⟨b,X,e,Y,_,hm,v,_,_,_⟩:=lz h z c;exact aw h B (k v) (fun A q=>⟨b,hm,rfl⟩)
  simp at j
 .next id D i d l=>
  rw[l]at c;split at j
  .next V s L z=>
   split at j
   .next m=>
    have m:D=V:=by simpa using m
    obtain⟨E,F⟩:=c _ _ _ z;obtain⟨b,H,hm,v⟩:=F m;obtain rfl:=O_ j;refine aw h B (k v) (fun W Z I q=>?_);rw[z]at q;simp only[E_,Ob.arr.injEq]at q;obtain⟨rfl,rfl,rfl⟩:=q;exact⟨E,fun _=>⟨b,H,hm,by rw[Nat.add_assoc]⟩⟩
   simp at j
  simp at j
 simp at j
theorem aaN(h:SimG w0 S0 M σ a w S μ β)(y:oh o σ){z:TypeId}{g:Option Nat}(A:y4 P z=some g){off:Nat}{E:SV}{v:Value}(j:au w S μ σ.objs E v)
  (b:∀e u,v=.agg e->(part z e off).run P w=.ok u w->(execOp a.eval o).run P w=.ok (.value u) w) {u:Upd}
  (f:G8 off g E=some u) :
  uB P o w0 S0 M σ a w u:=by
 unfold G8 at f;split at f
 .next k=>
  obtain⟨e,rfl,q⟩:=j;split at f
  .next n=>
   obtain rfl:=O_ f;obtain⟨d,i,l,s,x,m⟩:=CP A;have p:eh P z=some n:=by simp[eh,s,x]
   exact aw h y (b e _ rfl (rM l m p e off)) ⟨_,rfl,q.extract off n⟩
  split at f
  .next c B=>
   obtain rfl:=O_ f;obtain⟨v,C,_,D⟩:=ag.get q B;obtain⟨d,i,l,s,x,m⟩:=CQ A;exact aw h y (b e _ rfl (rN l m e off (by simpa using C))) D
  simp at f
 .next k=>
  obtain⟨e,rfl,q⟩:=j;split at f
  .next n=>
   obtain rfl:=O_ f;obtain⟨d,i,l,s,x,m⟩:=CP A;have p:eh P z=some n:=by simp[eh,s,x]
   refine aw h y (b e _ rfl (rM l m p e off)) ?_;have:=nG (al.take n (al.drop off q))
   have F:((e.toList.drop off).take n).toArray=e.extract off (off+n):=by
    apply Array.toList_inj.1;rw[Array.toList_extract,List.extract_eq_take_drop,Nat.add_sub_cancel_left]
   rw[F]at this;exact this
  split at f
  .next c B=>
   obtain rfl:=O_ f;obtain⟨v,C,_,D⟩:=al.get q B;obtain⟨d,i,l,s,x,m⟩:=CQ A;exact aw h y (b e _ rfl (rN l m e off (by simpa using C))) D
  simp at f
 simp at f
theorem Sg(h:SimG w0 S0 M σ a w S μ β)(p:oh o σ){x:Operand}{q:Opd}{i:Nat}(s:o.op=.extract x i)(y:ap x=some q){u:Upd}(c:ev σ o.dst (.extract q i)=some u) :
  uB P o w0 S0 M σ a w u:=by
 have b:=ax h y;simp only[ev]at c;split at c
 .next z d=>
  rw[d]at b;obtain⟨g,j,k⟩:=b;split at c
  .next v l=>
   obtain rfl:=O_ c;obtain⟨f,m,n⟩:=br.get k l;refine aw h p (v:=f) ?_ n;have e:g[i]?=some f:=by simpa using m
   simp only[execOp,s,j,Instr.extract,e,Sem.run_bind,Sem.run_pure,Result.andThen_ok]
  simp at c
 .next z d=>
  rw[d]at b;obtain⟨g,j,k⟩:=b;split at c
  .next v l=>
   obtain rfl:=O_ c;obtain⟨f,m,n⟩:=bc.get k l;refine aw h p (v:=f) ?_ n;have e:g[i]?=some f:=by simpa using m
   simp only[execOp,s,j,Instr.extract,e,Sem.run_bind,Sem.run_pure,Result.andThen_ok]
  simp at c
 simp at c
theorem Si(h:SimG w0 S0 M σ a w S μ β)(g:oh o σ){t:TypeId}{d:TypeDesc}{x:Operand}{i:Opd}(j:o.op=.makeInterface t x)(k:P.underlying t=some d)(l:∀ms,d≠.interface ms)
  (m:ap x=some i) {u:Upd} (f:ev σ o.dst (.mkIface t i)=some u):uB P o w0 S0 M σ a w u:=by
 have b:=ax h m
 have c:(execOp a.eval o).run P w=.ok (.value (.iface t (a.eval x))) w:=by
  simp only[execOp,j,Instr.makeInterface,Sem.run_bind,run_underlying k,Result.andThen_ok];cases d<;>first|rfl|exact absurd rfl (l _)
 simp only[ev]at f;split at f
 .next v e=>
  rw[e]at b;obtain rfl:=O_ f;exact aw h g c ⟨_,rfl,b⟩
 .next id n e=>
  rw[e]at b;obtain rfl:=O_ f;exact aw h g c ⟨_,rfl,b⟩
 simp at f
theorem UX(h:SimG w0 S0 M σ a w S μ β)(i:oh o σ){f:FuncId}{b:Array Operand}{c:List Opd}(j:o.op=.makeFunc (.func f) #[] b)(k:dS b.toList=some c)
  {u:Upd} (g:ev σ o.dst (.mkFunc f c)=some u):uB P o w0 S0 M σ a w u:=by
 have d:(execOp a.eval o).run P w=.ok (.value (.func (.func f) #[] (b.map a.eval))) w:=by
  simp[execOp,j,Instr.makeFunc]
 have e:=sM h k;simp only[ev]at g;split at g
 .obtain rfl:=O_ g;refine aw h i d ⟨_,rfl,?_⟩;simpa[br,bc]using e
 obtain rfl:=O_ g;exact aw h i d ⟨_,rfl,by simpa using e⟩
theorem Q3(h:SimG w0 S0 M σ a w S μ β)(p:oh o σ){x:Operand}{z:Opd}(q:o.op=.nilCheck x)(A:ap x=some z){u:Upd}(i:ev σ o.dst (.nilCheck z)=some u) :
  uB P o w0 S0 M σ a w u:=by
 have c:=ax h A;simp only[ev]at i;split at i
 .next cs g=>
  rw[g]at c;obtain rfl:=O_ i;obtain⟨b,j,k,d⟩:=c;exact aw h p (v:=.pointer (some ⟨b,j,none⟩)) (by simp only[execOp,q,k];rfl) ⟨b,j,rfl,d⟩
 .next id j g=>
  rw[g]at c;split at i
  .next m s=>
   obtain rfl:=O_ i;obtain⟨b,n,e,C,_,hm,k,_,_,_⟩:=lz h s c;exact aw h p (v:=.pointer (some ⟨b,j,none⟩)) (by simp only[execOp,q,k];rfl) (fun l y=>⟨b,hm,rfl⟩)
  simp at i
 .next f cs g=>
  rw[g]at c;obtain rfl:=O_ i;obtain⟨n,k,d⟩:=c;exact aw h p (v:=.func (.func f) #[] n) (by simp only[execOp,q,k];rfl) ⟨n,rfl,d⟩
 .next f cs g=>
  rw[g]at c;obtain rfl:=O_ i;obtain⟨n,k,d⟩:=c;exact aw h p (v:=.func (.func f) #[] n) (by simp only[execOp,q,k];rfl) ⟨n,rfl,d⟩
 .next id t g=>
  rw[g]at c;split at i
  .next m s=>
   obtain rfl:=O_ i;obtain⟨b,hm,_,⟨B,_⟩|k⟩:=c _ s
   .cases B
   exact aw h p (v:=.pointer (some ⟨b,0,none⟩)) (by simp only[execOp,q,k];rfl) (fun l y=>⟨b,hm,rfl⟩)
  simp at i
 simp at i
theorem yM{x:SV}{v:Value}{n:Int}{objs:List (Nat×Ob)}(b:au w S μ objs x v)(h:On x=some n):∃k,v=.int k n:=by
 unfold On at h;split at h
 .next k m=>
  obtain rfl:=O_ h;exact⟨k,b⟩
 simp at h
theorem N4(h:SimG w0 S0 M σ a w S μ β)(R:oh o σ){t e:TypeId}{s:Nat}{x i:Operand}{x' i':Opd}(ho:o.op=.indexAddr t x i)(ht:P.underlying t=some (.slice e))(U:eh P e=some s)
  (hx:ap x=some x') (V:ap i=some i') {u:Upd} (c:ev σ o.dst (.indexAddr s x' i')=some u) (K:u.side):uB P o w0 S0 M σ a w u:=by
 have d:=ax h hx;have p:=ax h V;simp only[ev]at c;split at c
 .next k n L=>
  rw[L]at p;have W:a.eval i=.int k n:=p
  have q:∀ {b z C j:Nat},a.eval x=.slice (some ⟨b,z,none⟩) C j->0<=n->n.toNat<C->(execOp a.eval o).run P w=.ok (.value (.pointer (some ⟨b,z+n.toNat*s,none⟩))) w:=by
   intro b z C j I N l;simp only[execOp,ho,I,W,Instr.indexAt,asIntOf,Sem.run_bind,Sem.run_pure,Result.andThen_ok,run_underlying ht];rw[if_pos ⟨N,by omega⟩];simp only[Sem.run_bind,eQ U,Result.andThen_ok,Sem.run_pure,jN]
  split at c
  .next N=>
   split at c
   .next f v=>
    rw[v]at d;split at c
    .next X B=>
     obtain rfl:=O_ c;have K:X.length=s:=K;obtain⟨ad,j,I,A,hc⟩:=d
     have l:n.toNat<f.length:=by
      rcases Nat.lt_or_ge n.toNat f.length with Y|Y
      .exact Y
      simp[List.getElem?_eq_none Y]at B
     obtain⟨b,z,O,rfl,D⟩:=hc (by intro e;subst e;simp at l);obtain⟨h1,Q⟩:=bB.get D B;have y:O=s:=h1.symm.trans K;subst y;exact aw h R (q I N l) ⟨b,_,rfl,Q⟩
    simp at c
   .next id E v=>
    rw[v]at d;split at c
    .next Z O f J=>
     split at c
     .next g=>
      have g:E=Z:=by simpa using g
      obtain rfl:=O_ c;obtain⟨l,y⟩:n.toNat<f.length/\O=s:=K;subst y;obtain⟨A,F⟩:=d _ _ _ J;have I:=F g;rcases h.objs id _ J with⟨hr,_,_⟩|⟨b,j,vs,e',fr,h1,Q,_⟩
      .subst hr;simp at l
      rw[Q]at I;refine aw h R (q I N l) (fun a' b' H m=>?_);rw[J]at m;simp only[E_,Ob.arr.injEq]at m;obtain⟨rfl,rfl,rfl⟩:=m;exact⟨A,fun _=>⟨b,j,Q,by simp⟩⟩
     simp at c
    simp at c
   .next id E lo V v=>
    rw[v]at d;split at c
    .next Z O f J=>
     split at c
     .next g=>
      obtain rfl:E=Z:=by simpa using g
      obtain rfl:=O_ c;obtain⟨l,y⟩:n.toNat<V-lo/\O=s:=K;subst y;obtain⟨A,F⟩:=d _ _ _ J;obtain⟨g1,g2,x1,j,y1,g3,g4,g5,g6⟩:=F rfl;obtain⟨b,k1,k2⟩:=g6 (by omega);rw[k2]at g4;refine aw h R (q g4 N (by omega)) (fun a' b' H m=>?_);rw[J]at m;simp only[E_,Ob.arr.injEq]at m;obtain⟨rfl,rfl,rfl⟩:=m;exact⟨A,fun _=>⟨b,j,by rw[g3,k1],by simp[Nat.add_mul]⟩⟩
     simp at c
    simp at c
   simp at c
  simp at c
 simp at c
theorem Q4(h:SimG w0 S0 M σ a w S μ β)(E:oh o σ){t e:TypeId}{f s:Nat}{x i:Operand}{F H:Opd}(J:o.op=.indexAddr t x i)(K:P.underlying t=some (.array f e))(C:eh P e=some s)
  (L:ap x=some F) (N:ap i=some H) {u:Upd} (q:ev σ o.dst (.indexArr f s F H)=some u) (I:u.side):uB P o w0 S0 M σ a w u:=by
 have d:=ax h L;have c:=ax h N
 have p:∀ {b g:Nat} {k:IntKind} {n:Int},a.eval x=.pointer (some ⟨b,g,none⟩)->a.eval i=.int k n->0<=n->n<f->(execOp a.eval o).run P w=.ok (.value (.pointer (some ⟨b,g+n.toNat*s,none⟩))) w:=by
  intro b g k n z D A j;simp only[execOp,J,z,D,Instr.indexAt,asIntOf,Sem.run_bind,Sem.run_pure,Result.andThen_ok,run_underlying K,Instr.sureAddr];rw[if_pos ⟨A,j⟩];simp only[Sem.run_bind,eQ C,Result.andThen_ok,Sem.run_pure,jN]
 simp only[ev]at q;split at q
 .next id g k n v l=>
  rw[v]at d;rw[l]at c;split at q
  .next y O=>
   obtain rfl:=O_ q;obtain⟨A,j⟩:0<=n/\n<f:=I;obtain⟨b,R,U,V,_,hm,z,_,_,_⟩:=lz h O d;exact aw h E (p z c A j) (fun B Q=>⟨b,hm,rfl⟩)
  simp at q
 .next y k n v l=>
  rw[v]at d;rw[l]at c;obtain rfl:=O_ q;obtain⟨A,j⟩:0<=n/\n<f:=I;obtain⟨b,g,z,m⟩:=d;exact aw h E (p z c A j) ⟨b,_,rfl,aQ.drop _ m⟩
 simp at q
theorem UY(h:SimG w0 S0 M σ a w S μ β)(p:oh o σ){t:TypeId}{x i:Operand}{l m:Opd}(q:o.op=.index t x i)(y:P.underlying t=some .string)
  (z:ap x=some l) (A:ap i=some m) {u:Upd} (d:ev σ o.dst (.indexS l m)=some u):uB P o w0 S0 M σ a w u:=by
 have e:=ax h z;have c:=ax h A;simp only[ev]at d;split at d
 .next s k n g f=>
  rw[g]at e;rw[f]at c;split at d
  .next B=>
   split at d
   .next b C=>
    obtain rfl:=O_ d;refine aw h p (v:=.int .u8 b.toNat) ?_ rfl;have D:a.eval x=.string ⟨s.toArray⟩:=e;have j:a.eval i=.int k n:=c;simp only[execOp,q,D,j,Instr.index,asIntOf,Sem.run_bind,Sem.run_pure,Result.andThen_ok,run_underlying y,B,if_true,ahj,C]
   simp at d
  simp at d
 simp at d
theorem UZ(h:SimG w0 S0 M σ a w S μ β)(v:oh o σ){t e:TypeId}{d s:Nat}{g:Option Nat}{x i:Operand}{p q:Opd}(y:o.op=.index t x i)(z:P.underlying t=some (.array d e))(A:y4 P e=some g)(l:eh P e=some s)
  (B:ap x=some p) (C:ap i=some q) {u:Upd} (c:ev σ o.dst (.indexA d s g p q)=some u):uB P o w0 S0 M σ a w u:=by
 have f:=ax h B;have b:=ax h C;simp only[ev]at c;split at c
 .next k n j=>
  rw[j]at b;have m:a.eval i=.int k n:=b;split at c
  .next D=>
   refine aaN (off:=n.toNat*s) h v A f (fun H u E F=>?_) c;simp only[execOp,y,E,m,Instr.index,asIntOf,Sem.run_bind,Sem.run_pure,Result.andThen_ok,run_underlying z];rw[if_pos D];simp only[Sem.run_bind,eQ l,Result.andThen_ok,F]
  simp at c
 simp at c
end
end Go.Vs
namespace Go.Vs
section
variable {P:Program} {w0 w:World} {S0 S:bb} {M:Ctx} {σ:St} {a:Act} {μ:Nat->Value} {β:Nat->Option Nat} {o:Oper}
theorem lA{c:Call}{b:Builtin}(f:o.op=.call c)(g:c.callee=.builtin b) :
  ∃d,execOp a.eval o=builtin b c.argTypes o.type d (c.args.map a.eval):=by
 refine⟨c.args.map fun x=>match x with|.const _=>true|_=>false,?_⟩;simp only[execOp,f,resolve,g];rfl
theorem CR{α:Type}{x:α}{l:Array α}(h:l.toList=[x]):l = #[x]:=by
 apply Array.toList_inj.1;simpa using h
theorem CS{α:Type}{x y:α}{l:Array α}(h:l.toList=[x,y]):l = #[x,y]:=by
 apply Array.toList_inj.1;simpa using h
theorem WZ(h:SimG w0 S0 M σ a w S μ β)(n:oh o σ){c:Call}{t:TypeId}{d:TypeDesc}{x:Operand}{p:Opd}(C:o.op=.call c)(D:c.callee=.builtin .len)(k:c.argTypes[0]?=some t)
  (q:c.args.toList=[x]) (y:P.underlying t=some d) (E:ap x=some p) :
  (d=.string->∀u,ev σ o.dst (.lenS p)=some u->uB P o w0 S0 M σ a w u)/\
  (∀e,d=.slice e->∀u,ev σ o.dst (.lenV p)=some u->uB P o w0 S0 M σ a w u):=by
 have b:=ax h E;obtain⟨m,hex⟩:=lA (a:=a) C D;have f:=CR q;refine⟨?_,?_⟩
 .rintro rfl u g;simp only[ev]at g;split at g
  .next s i=>
   rw[i]at b;obtain rfl:=O_ g;have z:a.eval x=.string ⟨s.toArray⟩:=b;refine aw h n (v:=.int .i64 s.length) ?_ rfl;rw[hex,f];simp[builtin,Builtin.len_,k,z,run_underlying y,DP,goInt]
  simp at g
 rintro e rfl u g;simp only[ev]at g;split at g
 .next id A F H i=>
  rw[i]at b;split at g
  .next I s j J=>
   split at g
   .next l=>
    obtain rfl:A=I:=by simpa using l
    obtain rfl:=O_ g;obtain⟨L,N,O,B,Q,R,K,U,V⟩:=(b _ _ _ J).2 rfl;refine aw h n (v:=.int .i64 (H-F:Nat)) ?_ rfl;rw[hex,f];simp[builtin,Builtin.len_,k,K,run_underlying y,goInt]
   simp at g
  simp at g
 split at g
 .next j W i=>
  obtain rfl:=O_ g;obtain⟨X,B,z,_,_⟩:=rL h i b;refine aw h n (v:=.int .i64 j.length) ?_ rfl;rw[hex,f];simp[builtin,Builtin.len_,k,z,run_underlying y,goInt]
 simp at g
theorem X0(h:SimG w0 S0 M σ a w S μ β)(C:oh o σ){c:Call}{x y:Operand}{l p:Opd}(D:o.op=.call c) 
  (q:c.args.toList=[x,y]) (E:ap x=some l) (F:ap y=some p) :
  (c.callee=.builtin .max->∀u,ev σ o.dst (.maxI l p)=some u->uB P o w0 S0 M σ a w u)/\
  (c.callee=.builtin .min->∀u,ev σ o.dst (.minI l p)=some u->uB P o w0 S0 M σ a w u):=by
 have d:=ax h E;have b:=ax h F;have f:=CS q;refine⟨fun s u e=>?_,fun s u e=>?_⟩
 .obtain⟨g,hex⟩:=lA (a:=a) D s;simp only[ev]at e;split at e
  .next k m H n z A=>
   rw[z]at d;rw[A]at b;split at e
   .next B=>
    subst B;obtain rfl:=O_ e;have i:a.eval x=.int k m:=d;have j:a.eval y=.int k n:=b;refine aw h C (v:=.int k (max m n)) ?_ rfl;rw[hex,f];have:(if n>m then n else m)=max m n:=by split<;>omega
    simp[builtin,Builtin.max_,Builtin.max2,i,j,this]
   simp at e
  simp at e
 obtain⟨g,hex⟩:=lA (a:=a) D s;simp only[ev]at e;split at e
 .next k m H n z A=>
  rw[z]at d;rw[A]at b;split at e
  .next B=>
   subst B;obtain rfl:=O_ e;have i:a.eval x=.int k m:=d;have j:a.eval y=.int k n:=b;refine aw h C (v:=.int k (min m n)) ?_ rfl;rw[hex,f];have:(if n<m then n else m)=min m n:=by split<;>omega
   simp[builtin,Builtin.min_,Builtin.min2,i,j,this]
  simp at e
 simp at e
theorem uC(h:SimG w0 S0 M σ a w S μ β){b:Nat}{x:Option Operand}{e:Option Opd}(c:bQ x=some e){n:Int}(d:gG σ b e=some n) :
  (x=none/\n=b)\/(∃y k,x=some y/\a.eval y=.int k n):=by
 cases x with
 |none=>
  simp only[bQ,E_]at c;subst c;simp only[gG,E_]at d;exact .inl ⟨rfl,d.symm⟩
 |some y=>
  simp only[bQ,Option.map_eq_some_iff]at c;obtain⟨z,f,rfl⟩:=c;obtain⟨k,g⟩:=yM (ax h f) d;exact .inr ⟨y,k,rfl,g⟩
theorem f0{k:IntKind}{n:Int}{y:Nat}{code:BoundsCode}(b:0<=n)(c:n<=y):(Instr.sliceBound (.int k n) y code).run P w=.ok n.toNat w:=by
 simp[Instr.sliceBound,asIntOf,b,c]
theorem mY(h:SimG w0 S0 M σ a w S μ β){c d:Option Operand}{IH rh:Option Opd}(m:bQ c=some IH)(p:bQ d=some rh){len cap:Nat}{l r:Int}
  (q:gG σ 0 IH=some l) (u:gG σ len rh=some r) (e:0<=l) (x:l<=r) (f:r<=cap) (b:Bool) :
  (Instr.sliceBounds b len cap (c.map a.eval) (d.map a.eval) none).run P w=.ok (l.toNat,r.toNat,cap) w:=by
 rcases uC h m q with⟨rfl,rfl⟩|⟨y,k,rfl,g⟩<;>rcases uC h p u with⟨rfl,rfl⟩|⟨z,i,rfl,j⟩
 .simp[Instr.sliceBounds]
 .have:=f0 (P:=P) (w:=w) (k:=i) (n:=r) (y:=cap) (code:=if b then .sliceAcap else .sliceAlen) (by omega) f;simp[Instr.sliceBounds,j,this]
 .have:=f0 (P:=P) (w:=w) (k:=k) (n:=l) (y:=len) (code:=.sliceB) e x;simp[Instr.sliceBounds,g,this]
 have A:=f0 (P:=P) (w:=w) (k:=i) (n:=r) (y:=cap) (code:=if b then .sliceAcap else .sliceAlen) (by omega) f;have B:=f0 (P:=P) (w:=w) (k:=k) (n:=l) (y:=r.toNat) (code:=.sliceB) e (by omega);simp[Instr.sliceBounds,g,j,A,B]
theorem pB(h:SimG w0 S0 M σ a w S μ β){f d:Option Operand}{IH rh:Option Opd}(q:bQ f=some IH)(s:bQ d=some rh){len cap:Nat}{l r m:Int}{y:Value}{g:IntKind}(e:y=.int g m)
  (u:gG σ 0 IH=some l) (x:gG σ len rh=some r) (A:0<=l) (F:l<=r) (H:r<=m) (B:m<=cap) (b:d≠none) (c:Bool) :
  (Instr.sliceBounds c len cap (f.map a.eval) (d.map a.eval) (some y)).run P w=.ok (l.toNat,r.toNat,m.toNat) w:=by
 subst e;have i:=f0 (P:=P) (w:=w) (k:=g) (n:=m) (y:=cap) (code:=if c then .slice3Acap else .slice3Alen) (by omega) B;rcases uC h q u with⟨rfl,rfl⟩|⟨y,k,rfl,C⟩<;>rcases uC h s x with⟨rfl,rfl⟩|⟨z,j,rfl,p⟩
 .exact absurd rfl b
 .have:=f0 (P:=P) (w:=w) (k:=j) (n:=r) (y:=m.toNat) (code:=.slice3B) (by omega) (by omega);simp[Instr.sliceBounds,p,this,i]
 .exact absurd rfl b
 have D:=f0 (P:=P) (w:=w) (k:=j) (n:=r) (y:=m.toNat) (code:=.slice3B) (by omega) (by omega);have E:=f0 (P:=P) (w:=w) (k:=k) (n:=l) (y:=r.toNat) (code:=.slice3C) A (by omega);simp[Instr.sliceBounds,C,p,i,D,E]
theorem pC{t:TypeId}{x:Operand}{b c e:Option Operand}(f:o.op=.slice t x b c e){d:TypeDesc}(g:P.underlying t=some d)(h:yI d=false) :
  (execOp a.eval o).run P w=((Instr.slice t (a.eval x) (b.map a.eval) (c.map a.eval) (e.map a.eval)).run P w).andThen fun v i=>.ok (.value v) i:=by
 simp only[execOp,f,Instr.sliceAt,Sem.run_bind,run_underlying g,Result.andThen_ok];cases d<;>first|rfl|(simp[yI]at h)
theorem aaO(h:SimG w0 S0 M σ a w S μ β)(j:oh o σ){t:TypeId}{x:Operand}{e f:Option Operand}{g:Opd}{IH rh:Option Opd}(k:o.op=.slice t x e f none)(i:P.underlying t=some .string)
  (m:ap x=some g) (n:bQ e=some IH) (p:bQ f=some rh) {u:Upd} (c:ev σ o.dst (.subS g IH rh)=some u) (q:u.side) :
  uB P o w0 S0 M σ a w u:=by
 have b:=ax h m;simp only[ev]at c;split at c
 .next s d=>
  rw[d]at b;split at c
  .next l r y z=>
   obtain rfl:=O_ c;obtain⟨A,B,C⟩:0<=l/\l<=r/\r<=s.length:=q;have D:a.eval x=.string ⟨s.toArray⟩:=b;refine aw h j (v:=.string ⟨((s.take r.toNat).drop l.toNat).toArray⟩) ?_ rfl;rw[pC k i rfl];have:=mY (P:=P) (w:=w) (len:=s.length) (cap:=s.length) h n p y z A B C false;simp only[Instr.slice,D,Sem.run_bind,run_underlying i,Result.andThen_ok,Option.map_none,Option.isSome_none,Bool.false_eq_true,if_false,DP,this,Sem.run_pure,UW]
  simp at c
 simp at c
theorem JF(h:SimG w0 S0 M σ a w S μ β){id f s:Nat}{c:List (List IV)}(g:ac σ.objs id=some (.arr f s c)){v:Value}(k:au w S μ σ.objs (.own id f) v):au w S μ σ.objs (.view id f 0 c.length) v:=by
 intro l p i d;rw[g]at d;simp only[E_,Ob.arr.injEq]at d;obtain⟨rfl,rfl,rfl⟩:=d;have j:=(k _ _ _ g).2 rfl;refine⟨Nat.le_refl _,fun _=>⟨Nat.zero_le _,Nat.le_refl _,?_⟩⟩;rcases h.objs id _ g with⟨m,_,x,e⟩|⟨b,cap,_,_,_,_,e,_⟩
 .subst m;exact⟨x,0,x,e,by rw[j,e];rfl,fun _=>rfl,fun n=>absurd n (Nat.lt_irrefl _)⟩
 exact⟨_,cap,_,e,by rw[j,e];rfl,fun _=>rfl,fun _=>⟨b,rfl,by simp⟩⟩
theorem Ot(h:SimG w0 S0 M σ a w S μ β)(Y:oh o σ){t e:TypeId}{s:Nat}{x:Operand}{Z K q:Option Operand}{IH rh B:Option Opd}(ho:o.op=.slice t x Z K q)(I:P.underlying t=some (.slice e))(C:eh P e=some s)
  (hl:bQ Z=some IH) (J:bQ K=some rh) (hm:bQ q=some B) {id L D c f:Nat} {d:List (List IV)} (i:ac σ.objs id=some (.arr L D d)) (E:au w S μ σ.objs (.view id L c f) (a.eval x))
  {u:Upd} (g:DM σ s id L D c f d.length IH rh B=some u) (hs:u.side) :
  uB P o w0 S0 M σ a w u:=by
 obtain⟨g1,g2,x1,cap,A,F,g4,g5,g6⟩:=(E _ _ _ i).2 rfl
 have a':d.length<=cap:=by
  rcases h.objs id _ i with⟨z1,_,x,N⟩|⟨b,b',_,_,_,_,N,_,_,_,z3,_⟩
  .rw[N]at F;simp only[Value.slice.injEq]at F;omega
  rw[N]at F;simp only[Value.slice.injEq]at F;omega
 unfold DM at g;split at g
 .next l r bl bh=>
  split at g
  .obtain rfl:=O_ g;obtain⟨⟨O,Q,h2⟩,R⟩:(0<=l/\l<=r/\r<=(d.length-c:Nat))/\D=s:=hs;subst R
   have U:q=none:=by
    cases q with
    |none=>rfl
    |some y=>simp[bQ]at hm
   subst U;refine aw h Y (v:=.slice (if cap-c=l.toNat then A else A.map (·.add (l.toNat*D))) (r.toNat-l.toNat) (cap-c-l.toNat)) ?_ ?_
   .rw[pC ho I rfl];have:=mY (P:=P) (w:=w) (len:=f-c) (cap:=cap-c) h hl J bl bh O Q (by omega) true;simp only[Instr.slice,g4,Sem.run_bind,run_underlying I,Result.andThen_ok,Option.map_none,this,eQ C,Sem.run_pure]
   intro c' d' V j;rw[i]at j;simp only[E_,Ob.arr.injEq]at j;obtain⟨rfl,rfl,rfl⟩:=j;refine⟨Nat.le_refl _,fun _=>⟨by omega,by omega,x1,cap,(if cap-c=l.toNat then A else A.map (·.add (l.toNat*D))),F,?_,fun hz=>?_,fun e'=>?_⟩⟩
   .congr 1<;>omega
   .have:l.toNat=0:=by omega
    have H:c=0:=by omega
    rw[this];split
    .exact g5 H
    rw[g5 H];cases x1 with
    |none=>rfl
    |some ad=>simp[Addr.add]
   obtain⟨b,k1,k2⟩:=g6 (by omega);refine⟨b,k1,?_⟩;rw[if_neg (by omega),k2];simp[jN,Nat.add_mul]
  next m=>
  split at g
  .next n hn=>
   obtain⟨y,rfl⟩:∃y,q=some y:=by
    cases q with
    |none=>simp[bQ]at hm
    |some y=>exact⟨y,rfl⟩
   simp only[bQ,Option.map_eq_some_iff,E_]at hm;obtain⟨z,hz,rfl⟩:=hm;obtain⟨k,W⟩:=yM (ax h hz) hn;obtain rfl:=O_ g;obtain⟨O,Q,h2,h3,p⟩:0<=l/\l<=r/\r<=n/\n<=(f-c:Nat)/\rh.isSome=true:=hs
   have X:K≠none:=by
    rintro rfl;simp only[bQ,E_]at J;subst J;simp at p
   refine aw h Y (v:=.slice (if n.toNat=l.toNat then A else A.map (·.add (l.toNat*s))) (r.toNat-l.toNat) (n.toNat-l.toNat)) ?_ trivial;rw[pC ho I rfl];have:=pB (P:=P) (w:=w) (len:=f-c) (cap:=cap-c) h hl J W bl bh O Q h2 (by omega) X true;simp only[Option.map_some];simp only[Instr.slice,g4,Sem.run_bind,run_underlying I,Result.andThen_ok,this,eQ C,Sem.run_pure]
  simp at g
 simp at g
theorem aaP(h:SimG w0 S0 M σ a w S μ β)(hd:oh o σ){t e:TypeId}{s:Nat}{x:Operand}{lo hi Z:Option Operand}{x':Opd}{IH rh a':Option Opd}(ho:o.op=.slice t x lo hi Z)(L:P.underlying t=some (.slice e))(E:eh P e=some s)
  (hx:ap x=some x') (hl:bQ lo=some IH) (J:bQ hi=some rh) (hm:bQ Z=some a') {u:Upd} (f:ev σ o.dst (.subV s x' IH rh a')=some u) (hs:u.side) :
  uB P o w0 S0 M σ a w u:=by
 have j:=ax h hx;simp only[ev]at f;split at f
 .next id V F=>
  rw[F]at j;split at f
  .next cv D d K=>
   split at f
   .next H=>
    obtain rfl:V=cv:=by simpa using H
    exact Ot h hd ho L E hl J hm K (JF h K j) f hs
   simp at f
  simp at f
 .next id V h' i' F=>
  rw[F]at j;split at f
  .next cv D d K=>
   split at f
   .next H=>
    obtain rfl:V=cv:=by simpa using H
    exact Ot h hd ho L E hl J hm K j f hs
   simp at f
  simp at f
 split at f
 .next d rd F=>
  obtain⟨A,cap,hv,j',hc⟩:=rL h F j;split at f
  .next l r bl bh=>
   have piece:∀(c':Nat),0<=l->l<=r->r<=d.length->c'≥(r-l).toNat->(∀z,z=l.toNat*s->∃C,(if c'=cap/\l.toNat=0 then A else A.map (·.add z))=C)->
     ∀C,((d.take r.toNat).drop l.toNat≠[]->∃b g D,A=some ⟨b,g,none⟩/\bB w (dH S β σ.objs rd) d D b g/\C=some ⟨b,g+l.toNat*D,none⟩)->
     sI w (dH S β σ.objs rd) (.slice ((d.take r.toNat).drop l.toNat)) (.slice C (r.toNat-l.toNat) c'):=by
    intro c' N O h2 k' _ C e'
    have B:((d.take r.toNat).drop l.toNat).length=r.toNat-l.toNat:=by
     rw[List.length_drop,List.length_take];omega
    refine⟨C,c',by rw[B],by rw[B];omega,fun hn=>?_⟩;obtain⟨b,g,D,_,i,rfl⟩:=e' hn;exact⟨b,_,D,rfl,bB.drop _ (bB.take _ i)⟩
   have Q:∀(ne:(d.take r.toNat).drop l.toNat≠[]) (c:Prop) [Decidable c],(c->l.toNat=0)->s≠0\/True->
     (∀p∈d,p.length=s)->∃b g D,A=some ⟨b,g,none⟩/\bB w (dH S β σ.objs rd) d D b g/\(if c then A else A.map (·.add (l.toNat*s)))=some ⟨b,g+l.toNat*D,none⟩:=by
    intro ne c _ f' _ I;have R:d≠[]:=by intro e;subst e;simp at ne
    obtain⟨b,g,D,rfl,i⟩:=hc R;refine⟨b,g,D,rfl,i,?_⟩;obtain⟨p,U⟩:=List.exists_mem_of_ne_nil d R;have:D=s:=(bB.lens i p U).symm.trans (I p U);subst this;by_cases W:c
    .rw[if_pos W,f' W];simp
    rw[if_neg W];simp[jN]
   split at f
   .obtain rfl:=O_ f;obtain⟨⟨N,O,h2⟩,I⟩:(0<=l/\l<=r/\r<=d.length)/\∀p∈d,p.length=s:=hs
    have g':Z=none:=by
     cases Z with
     |none=>rfl
     |some y=>simp[bQ]at hm
    subst g';refine AF h hd (v:=.slice (if cap=l.toNat then A else A.map (·.add (l.toNat*s))) (r.toNat-l.toNat) (cap-l.toNat)) ?_ ?_
    .rw[pC ho L rfl];have:=mY (P:=P) (w:=w) (len:=d.length) (cap:=cap) h hl J bl bh N O (by omega) true;simp only[Instr.slice,hv,Sem.run_bind,run_underlying L,Result.andThen_ok,Option.map_none,this,eQ E,Sem.run_pure]
    refine piece _ N O h2 (by omega) (fun z _=>⟨_,rfl⟩) _ (fun ne=>?_);by_cases X:cap=l.toNat
    .exfalso;have:((d.take r.toNat).drop l.toNat).length=0:=by rw[List.length_drop,List.length_take];omega
     exact ne (List.length_eq_zero_iff.1 this)
    rw[if_neg X];have:=Q ne False (fun x=>x.elim) (.inr trivial) I;simpa using this
   next m=>
   split at f
   .next n hn=>
    obtain⟨y,rfl⟩:∃y,Z=some y:=by
     cases Z with
     |none=>simp[bQ]at hm
     |some y=>exact⟨y,rfl⟩
    simp only[bQ,Option.map_eq_some_iff,E_]at hm;obtain⟨z,hz,rfl⟩:=hm;obtain⟨k,b'⟩:=yM (ax h hz) hn;split at f
    .next d'=>
     obtain rfl:=O_ f;obtain⟨N,O,q⟩:l=0/\r=0/\rh.isSome=true:=hs;subst d'
     have Y:hi≠none:=by
      rintro rfl;simp only[bQ,E_]at J;subst J;simp at q
     refine aw h hd (v:=.slice A 0 0) ?_ ⟨A,rfl⟩;rw[pC ho L rfl];have:=pB (P:=P) (w:=w) (len:=d.length) (cap:=cap) h hl J b' bl bh (by omega) (by omega) (by omega) (by omega) Y true;simp only[Option.map_some];simp only[Instr.slice,hv,Sem.run_bind,run_underlying L,Result.andThen_ok,this,eQ E,Sem.run_pure];subst N;subst O;simp
    next d'=>
    obtain rfl:=O_ f;obtain⟨⟨N,O,h2,h3,q⟩,I⟩:(0<=l/\l<=r/\r=n/\r<=d.length/\rh.isSome=true)/\∀p∈d,p.length=s:=hs
    have Y:hi≠none:=by
     rintro rfl;simp only[bQ,E_]at J;subst J;simp at q
    refine AF h hd (v:=.slice (if n.toNat=l.toNat then A else A.map (·.add (l.toNat*s))) (r.toNat-l.toNat) (n.toNat-l.toNat)) ?_ ⟨?_,?_⟩
    .rw[pC ho L rfl];have:=pB (P:=P) (w:=w) (len:=d.length) (cap:=cap) h hl J b' bl bh N O (by omega) (by omega) Y true;simp only[Option.map_some];simp only[Instr.slice,hv,Sem.run_bind,run_underlying L,Result.andThen_ok,this,eQ E,Sem.run_pure]
    .refine piece _ N O h3 (by omega) (fun z _=>⟨_,rfl⟩) _ (fun ne=>?_);by_cases X:n.toNat=l.toNat
     .exfalso;have:((d.take r.toNat).drop l.toNat).length=0:=by rw[List.length_drop,List.length_take];omega
      exact ne (List.length_eq_zero_iff.1 this)
     rw[if_neg X];have:=Q ne False (fun x=>x.elim) (.inr trivial) I;simpa using this
    refine⟨if n.toNat=l.toNat then A else A.map (·.add (l.toNat*s)),?_⟩
    have B:((d.take r.toNat).drop l.toNat).length=r.toNat-l.toNat:=by
     rw[List.length_drop,List.length_take];omega
    rw[B,h2]
   simp at f
  simp at f
 simp at f
theorem sN(h:SimG w0 S0 M σ a w S μ β){d:Nat}(g:o.dst=some d)(u:d<σ.n){i:Ob}{m:SV}{fz:List Nat}{side:Prop} [Decidable side]{blk:Option Nat}{mu v:Value}{w':World}
  (j:(execOp a.eval o).run P w=.ok (.value v) w') (x:Kept (fun _=>False) w w') (k:∀b,blk=some b->b=w.heap.size)
  (n:bI w' (dH S β σ.objs fz) μ σ.objs blk mu i)
  (y:(∃c,i=.box c)/\m=.loc d 0/\v=mu/\(∃b,mu=.pointer (some ⟨b,0,none⟩))\/(∃s f,i=.arr 0 s f)/\m=.own d 0/\v=mu) :
  we P o a w (fun v w'=>gc w0 S0 M (σ.apply o.dst {v:=m,side:=side,new:=some i,fz:=fz }) (a.put o.dst v) w'):=by
 refine⟨_,v,w',j,.inl rfl,dH S β σ.objs fz,(fun id=>if id=d then mu else μ id),(fun id=>if id=d then blk else β id),?_⟩;rw[g];have A:=(h.freeze fz).create d u i blk mu x k n;refine A.put u ?_;rcases y with⟨⟨c,rfl⟩,rfl,rfl,b,rfl⟩|⟨⟨s,f,rfl⟩,rfl,rfl⟩
 .intro l _;exact⟨b,by simp,rfl⟩
 intro B C p q;rw[cn,dP]at q;simp only[Option.map_some,Ob.erase,E_,Ob.arr.injEq]at q;obtain⟨rfl,_,_⟩:=q;exact⟨Nat.le_refl _,fun _=>by simp⟩
theorem nm(w:World)(x:Go.Obj):Kept (fun _=>False) w (w.alloc x):=
 ⟨rfl,rfl,rfl,by simp,fun _ c _=>fX c,fun k x b=>(dA (fX (sJ b))).trans b⟩
theorem yN(h:SimG w0 S0 M σ a w S μ β)(x:Go.Obj):bM S w (w.alloc x):=⟨fun b o c=>bT (fX (h.stab b o c)) o,(nm w x).shape⟩
theorem sO{t:TypeId}{z:List SV}(h:y5 P t=some z):∃i v,P.info? t=some i/\i.zero=some v/\sK v.cells.toList=some z:=by
 unfold y5 at h;split at h
 .next v b=>
  cases c:P.info? t with
  |none=>rw[c]at b;simp at b
  |some i=>rw[c]at b;exact⟨i,v,rfl,by simpa using b,h⟩
 simp at h
theorem ahk{t:TypeId}{i:TypeInfo}(h:P.info? t=some i)(w:World):(typeInfo t).run P w=.ok i w:=by simp[typeInfo,h]
theorem iK{t:TypeId}{i:TypeInfo}{v:Value}(h:P.info? t=some i)(b:i.zero=some v)(w:World):(zeroValue t).run P w=.ok v w:=by
 simp[zeroValue,typeInfo,h,b]
theorem Ym(h:SimG w0 S0 M σ a w S μ β)(f:oh o σ){t:TypeId}{z:List SV}(g:o.op=.alloc t)(j:y5 P t=some z){u:Upd}(e:ev σ o.dst (.alloc z)=some u) :
  uB P o w0 S0 M σ a w u:=by
 obtain⟨i,v,k,l,m⟩:=sO j;simp only[ev]at e;split at e
 .next d c=>
  obtain rfl:=O_ e
  refine sN h c (f d c) (blk:=some w.heap.size) (mu:=.pointer (some ⟨w.heap.size,0,none⟩)) (v:=.pointer (some ⟨w.heap.size,0,none⟩)) (w':=w.alloc (.cells v.cells t)) ?_ (nm _ _) (fun b n=>(O_ n).symm) ?_ (.inl ⟨⟨_,rfl⟩,rfl,rfl,_,rfl⟩)
  .simp[execOp,g,Instr.alloc,iK k l,newVar,newRow]
  exact⟨_,v.cells,t,(0,0),rfl,rfl,cY _ _,qo.zero _,gd m⟩
 simp at e
theorem aaQ{t:TypeId}(h:isB P t=true):∃i v,P.info? t=some i/\i.zero=some v/\v.cells.toList=[.pointer none,.slice none 0 0]:=by
 unfold isB at h;split at h
 .next n z e b=>
  simp only[Bool.and_eq_true]at h;cases c:P.info? t with
  |none=>rw[c]at b;simp at b
  |some i=>
   rw[c]at b;refine⟨i,z,rfl,by simpa using b,?_⟩;have:=h.2;split at this
   .next d=>exact d
   simp at this
 simp at h
theorem V0(h:SimG w0 S0 M σ a w S μ β)(l:oh o σ){t:TypeId}(n:o.op=.alloc t)(j:isB P t=true){u:Upd}(f:ev σ o.dst (.allocB t)=some u) :
  uB P o w0 S0 M σ a w u:=by
 obtain⟨i,v,p,q,m⟩:=aaQ j;simp only[ev]at f;split at f
 .next d c=>
  obtain rfl:=O_ f
  have e:(execOp a.eval o).run P w=.ok (.value (.pointer (some ⟨w.heap.size,0,none⟩))) (w.alloc (.cells v.cells t)):=by
   simp[execOp,n,Instr.alloc,iK p q,newVar,newRow]
  refine⟨_,_,_,e,.inl rfl,dH S β σ.objs [],(fun id=>if id=d then .pointer (some ⟨w.heap.size,0,none⟩)else μ id),(fun id=>if id=d then some w.heap.size else β id),?_⟩;rw[c]
  have k:bI (w.alloc (.cells v.cells t)) (dH S β σ.objs []) μ σ.objs (some w.heap.size) (.pointer (some ⟨w.heap.size,0,none⟩)) (.box [.val .nilp,.val .nilS]):=
   ⟨_,v.cells,t,(0,0),rfl,rfl,cY _ _,qo.zero _,by rw[m];exact⟨_,_,rfl,rfl,rfl,_,_,rfl,rfl,rfl,rfl⟩⟩
  have s:=(h.freeze []).create d (l d c) (.box [.val .nilp,.val .nilS]) (some w.heap.size) (.pointer (some ⟨w.heap.size,0,none⟩)) (nm _ _) (fun b j=>(O_ j).symm) k;refine s.put (l d c) ?_;intro g _;refine⟨w.heap.size,by simp,?_,.inr rfl⟩;have x:v.cells.size=2:=by rw[<-Array.length_toList,m];rfl
  simp only[World.shape?];rw[cY];simp[x]
 simp at f
theorem ael(h:SimG w0 S0 M σ a w S μ β)(j:oh o σ){t:TypeId}{x:Operand}{i:Opd}(k:o.op=.box t x)(l:ap x=some i){u:Upd}(f:ev σ o.dst (.box i)=some u) :
  uB P o w0 S0 M σ a w u:=by
 have e:=ax h l;simp only[ev]at f;split at f
 .next d cs c g=>
  obtain rfl:=O_ f
  refine sN h c (j d c) (blk:=some w.heap.size) (mu:=.pointer (some ⟨w.heap.size,0,none⟩)) (v:=.pointer (some ⟨w.heap.size,0,none⟩)) (w':=w.alloc (.cells (a.eval x).cells t)) ?_ (nm _ _) (fun b m=>(O_ m).symm) ?_ (.inl ⟨⟨_,rfl⟩,rfl,rfl,_,rfl⟩)
  .simp[execOp,k,Instr.box,newVar,newRow]
  exact⟨_,(a.eval x).cells,t,(0,0),rfl,rfl,cY _ _,qo.zero _,al.mono (yN h _) dH.nil _ _ (v7 h e g)⟩
 simp at f
theorem Ou:∀(d:List Value) (k c:Nat) (b:Array Value),c+k+d.length<=b.size->
  ((d.zipIdx k).foldl (fun cs (p:Value×Nat)=>cs.setIfInBounds (c+p.2) p.1) b).toList=b.toList.take (c+k)++d++b.toList.drop (c+k+d.length)
 |[],k,c,b,_=>by simp
 |v::d,k,c,b,h=>by
  simp only[List.length_cons]at h;simp only[List.zipIdx_cons,List.foldl_cons];rw[Ou d (k+1) c _ (by simp;omega)];have e:c+k<b.toList.length:=by simp;omega
  simp only[Array.toList_setIfInBounds,List.length_cons]
  have e1:(b.toList.set (c+k) v).take (c+(k+1))=b.toList.take (c+k)++[v]:=by
   rw[show c+(k+1)=(c+k)+1 by omega,List.take_succ_eq_append_getElem (by simpa using e),List.take_set_of_le (Nat.le_refl _)];simp
  have e2:(b.toList.set (c+k) v).drop (c+(k+1)+d.length)=b.toList.drop (c+k+(d.length+1)):=by
   rw[List.drop_set_of_lt (by omega)];congr 1;omega
  rw[e1,e2];simp
theorem CT(h:SimG w0 S0 M σ a w S μ β){f:Nat->Option (Nat×Nat)} : ∀ {parts:List (Nat×Operand)} {c:List (Nat×Nat×Opd)} {b d:List SV} {l:Array Value},
  fY f parts=some c->al w S μ σ.objs b l.toList->pA σ.objs σ b c=some d->
  ∃g,Instr.fill f l (parts.map fun(i,x)=>(i,a.eval x))=some g/\al w S μ σ.objs d g.toList
 |[],c,b,d,l,k,u,j=>by
  simp only[fY,E_]at k;subst k;simp only[pA,E_]at j;subst j;exact⟨l,rfl,u⟩
 |(i,x)::r,c,b,d,l,k,u,j=>by
  simp only[fY]at k;split at k
  .next e s y K E F C=>
   simp only[E_]at k;subst k;simp only[pA]at j;split at j
   .next cs D=>
    split at j
    .next n=>
     obtain⟨L,H⟩:=n;have z:=v7 h (ax h F) D;have A:=al.length z;have q:=al.length u;simp only[Array.length_toList]at A q
     have B:al w S μ σ.objs (b.take e++cs++b.drop (e+s)) (((a.eval x).cells.toList.zipIdx 0).foldl (fun cs (p:Value×Nat)=>cs.setIfInBounds (e+p.2) p.1) l).toList:=by
      rw[Ou _ 0 e l (by simp;omega)];simp only[Nat.add_zero,Array.length_toList];rw[show e+(a.eval x).cells.size=e+s by omega];exact al.append (al.append (al.take e u) z) (al.drop _ u)
     obtain⟨g,I,J⟩:=CT h C B j;refine⟨g,?_,J⟩;simp only[List.map_cons,Instr.fill,E];rw[if_neg (by simp;omega)];rw[<-I];congr 1;rw[<-Array.foldl_toList,Array.toList_zipIdx]
    simp at j
   simp at j
  simp at k
theorem V1{b:List Field}(c:b.all (fun f=>(eh P f.type).isSome)=true):∀w:World,
  (b.mapM (m:=Sem) fun f=>do pure (f.offset,<-sizeOf f.type)).run P w=.ok (b.map fun f=>(f.offset,(eh P f.type).getD 0)) w:=by
 induction b with
 |nil=>intro w;simp
 |cons f r e=>
  intro w;simp only[List.all_cons,Bool.and_eq_true]at c;obtain⟨n,d⟩:=Option.isSome_iff_exists.1 c.1;simp only[List.mapM_cons,Sem.run_bind,eQ d,Result.andThen_ok,Sem.run_pure,e c.2,List.map_cons,d,Option.getD_some]
theorem Ov(h:SimG w0 S0 M σ a w S μ β)(I:oh o σ){t:TypeId}{parts:Array (Nat×Operand)}{z:List SV}{b:Nat->Option (Nat×Nat)}{c:List (Nat×Nat×Opd)}(D:o.op=.build t parts)(J:y5 P t=some z)
  (x:(∃g,P.underlying t=some (.struct g)/\b=IZ P g/\g.toList.all (fun f=>(eh P f.type).isSome)=true)\/(∃n e s,P.underlying t=some (.array n e)/\eh P e=some s/\b=fun i=>some (i*s,s)))
  (K:fY b parts.toList=some c) {u:Upd} (q:ev σ o.dst (.build z c)=some u) :
  uB P o w0 S0 M σ a w u:=by
 obtain⟨i,zv,E,F,L⟩:=sO J;simp only[ev]at q;split at q
 .next y N=>
  obtain rfl:=O_ q;obtain⟨O,H,Q⟩:=CT h K (gd (objs:=σ.objs) L) N;refine aw h I (v:=.agg O) ?_ (by have:=nG Q;simpa using this);have j:(parts.map fun(p:Nat×Operand)=>(p.1,a.eval p.2)).toList=parts.toList.map fun(p:Nat×Operand)=>(p.1,a.eval p.2):=by simp
  rcases x with⟨g,A,rfl,k⟩|⟨n,e,s,A,R,rfl⟩
  .have d:(g.mapM (m:=Sem) fun f=>do pure (f.offset,<-sizeOf f.type)).run P w=.ok (g.map fun f=>(f.offset,(eh P f.type).getD 0)) w:=by
    rw[Array.mapM_eq_mapM_toList];simp only[Sem.run_map,V1 k,Result.andThen_ok];congr 1;apply Array.toList_inj.1;simp
   have B:(fun i=>(g.map fun f=>(f.offset,(eh P f.type).getD 0))[i]?)=IZ P g:=by
    funext i;simp only[Array.getElem?_map,IZ];cases C:g[i]? with
    |none=>rfl
    |some f=>
     have l:f∈g.toList:=List.mem_of_getElem? (by simpa using C);have:=List.all_eq_true.1 k f l;obtain⟨n,U⟩:=Option.isSome_iff_exists.1 this;simp[U]
   simp only[execOp,D,Instr.build,Sem.run_bind,iK E F,Result.andThen_ok,run_underlying A,d,B,j];rw[H];simp
  simp only[execOp,D,Instr.build,Sem.run_bind,iK E F,Result.andThen_ok,run_underlying A,eQ R,j];rw[H];simp
 simp at q
theorem pE(zero:Array Value)(s:Nat)(c:zero.size=s)(d:0<s):∀n,((Array.range (n*s)).map (fun i=>zero[i%zero.size]!)).toList=dp zero.toList n:=by
 intro n
 induction n with
 |zero=>simp[dp]
 |succ n e=>
  have b:(List.range (n*s)).map (fun i=>zero[i%zero.size]!)=dp zero.toList n:=by simpa using e
  have:(List.range ((n+1)*s)).map (fun i=>zero[i%zero.size]!)=dp zero.toList (n+1):=by
   rw[show(n+1)*s=s+n*s by rw[Nat.add_mul];omega,List.range_add,List.map_append,List.map_map];simp only[dp];congr 1
   .apply List.ext_getElem
    .simp[c]
    intro i f g;simp only[List.length_map,List.length_range]at f;simp only[List.getElem_map,List.getElem_range,Array.getElem_toList];rw[Nat.mod_eq_of_lt (by omega)];rw[getElem!_pos zero i (by omega)]
   rw[<-b];apply List.map_congr_left;intro i _;simp only[Function.comp];rw[<-c,Nat.add_mod_left]
  simpa using this
theorem al.repeat{objs:List (Nat×Ob)}{z:List SV}{b:List Value}(h:al w S μ objs z b):∀n,al w S μ objs (dp z n) (dp b n)
 |0=>rfl
 |n+1=>al.append h (al.repeat h n)
theorem sP{α:Type}{s:Nat} : ∀ {n:Nat} {l:List α},l.length=n*s->(sL s n l).flatten=l/\(sL s n l).length=n/\∀r∈sL s n l,r.length=s
 |0,l,h=>by
  have:l=[]:=List.length_eq_zero_iff.1 (by simpa using h);subst this;simp[sL]
 |n+1,l,h=>by
  rw[Nat.add_mul]at h;obtain⟨c,d,e⟩:=sP (s:=s) (n:=n) (l:=l.drop s) (by rw[List.length_drop];omega);refine⟨?_,by simp[sL,d],?_⟩
  .simp only[sL,List.flatten_cons,c,List.take_append_drop]
  intro r b;simp only[sL,List.mem_cons]at b;rcases b with rfl|b
  .rw[List.length_take];omega
  exact e r b
theorem aaR(h:SimG w0 S0 M σ a w S μ β)(A:oh o σ){t e:TypeId}{s n:Nat}{x:Operand}{q y:Option Operand}{z:Opd}{IH rh:Option Opd}(B:o.op=.slice t x q y none)(C:P.underlying t=some (.array n e))(k:eh P e=some s)
  (D:ap x=some z) (E:bQ q=some IH) (F:bQ y=some rh) {u:Upd} (g:ev σ o.dst (.subA s n z IH rh)=some u) (H:u.side) :
  uB P o w0 S0 M σ a w u:=by
 have i:=ax h D;simp only[ev]at g;split at g
 .next b X I=>
  have j:=qq h I (fun _ x=>x) i;split at g
  .next l r J K=>
   obtain rfl:=O_ g;obtain⟨L,N,O,Q⟩:0<=l/\l<=r/\r<=n/\n*s<=b.length:=H;obtain⟨d,f,R,c⟩:=j
   have Y:l.toNat*s+(r.toNat-l.toNat)*s<=b.length:=by
    rw[<-Nat.add_mul];exact Nat.le_trans (Nat.mul_le_mul_right _ (by omega)) Q
   obtain⟨U,m,V⟩:=sP (s:=s) (n:=r.toNat-l.toNat) (l:=(b.drop (l.toNat*s)).take ((r.toNat-l.toNat)*s)) (by rw[List.length_take,List.length_drop];omega);refine AF h A (v:=.slice (some (if n=l.toNat then ⟨d,f,none⟩else (⟨d,f,none⟩:Addr).add (l.toNat*s))) (r.toNat-l.toNat) (n-l.toNat)) ?_ ?_
   .have:=mY (P:=P) (w:=w) (len:=n) (cap:=n) h E F J K L N O false;simp only[execOp,B,Instr.sliceAt,R,Sem.run_bind,run_underlying C,Result.andThen_ok,Option.map_none,this,eQ k,Sem.run_pure,Instr.sureAddr]
   refine⟨_,_,by rw[m],by rw[m];omega,fun p=>?_⟩;have W:r.toNat-l.toNat≠0:=fun e0=>p (List.length_eq_zero_iff.1 (by rw[m,e0]))
   rw[if_neg (by omega)];refine⟨d,f+l.toNat*s,s,by simp[Addr.add],bB.ofFlat V ?_⟩;rw[U];exact aQ.take _ (aQ.drop _ c)
  simp at g
 simp at g
theorem yO{α:Type}(l:List α):∀n,(dp l n).length=n*l.length
 |0=>by simp[dp]
 |n+1=>by simp only[dp,List.length_append,yO l n,Nat.add_mul];omega
theorem Bf{objs:List (Nat×Ob)} : ∀ {parts:List (Nat×Nat×Opd)} {c b:List SV},pA objs σ c parts=some b->b.length=c.length
 |[],c,b,h=>by simp only[pA,E_]at h;rw[h]
 |(d,s,x)::r,c,b,h=>by
  simp only[pA]at h;split at h
  .next cs e=>
   split at h
   .next f=>
    have:=Bf h;rw[this];simp only[List.length_append,List.length_take,List.length_drop];omega
   simp at h
  simp at h
theorem JG(h:SimG w0 S0 M σ a w S μ β)(R:oh o σ){t e:TypeId}{n s:Nat}{parts:Array (Nat×Operand)}{z:List SV}{c:List (Nat×Nat×Opd)}(U:o.op=.buildSlice t n parts)(V:P.underlying t=some (.slice e))
  (W:eh P e=some s) (X:y5 P e=some z) (C:0<s/\z.length=s/\n*s<=16777216) (Y:fY (fun i=>some (i*s,s)) parts.toList=some c) {u:Upd} (m:ev σ o.dst (.buildSlice s n z c)=some u) :
  uB P o w0 S0 M σ a w u:=by
 obtain⟨i,zv,Z,h2,h3⟩:=sO X;obtain⟨q,D,L⟩:=C;simp only[ev]at m;split at m
 .next d E g N=>
  split at m
  .next vs fz F=>
   have y:=gd (w:=w) (S:=S) (μ:=μ) (objs:=σ.objs) h3;have H:zv.cells.size=s:=by have:=al.length y;simp at this;omega
   have k:al w S μ σ.objs (dp z n) ((Array.range (n*s)).map (fun i=>zv.cells[i%zv.cells.size]!)).toList:=by
    rw[pE zv.cells s H q];exact al.repeat y n
   obtain⟨vals,I,O⟩:=CT h Y k N;have f:=ly h F (fun _ x=>x) O
   have A:vs.length=n*s:=by
    have e1:=ag.length f;have e2:=al.length O;have Q:=Bf N;rw[yO]at Q;rw[D]at Q;omega
   have J:vals.size=n*s:=by have e1:=ag.length f;simp at e1;omega
   obtain⟨c1,K,c3⟩:=sP A
   have B:(execOp a.eval o).run P w=.ok (.value (.slice (some ⟨w.heap.size,0,none⟩) n n)) (w.alloc (.cells vals e)):=by
    have j:(parts.map fun(p:Nat×Operand)=>(p.1,a.eval p.2)).toList=parts.toList.map fun(p:Nat×Operand)=>(p.1,a.eval p.2):=by simp
    simp only[execOp,U,Instr.buildSlice,Sem.run_bind,run_underlying V,Result.andThen_ok,eQ W];rw[if_neg (by omega)];by_cases l:n*s=0
    .rw[if_pos l];simp only[Sem.run_bind,Result.andThen_ok,Sem.run_pure,j];rw[l]at I |-;rw[show(Array.range 0).map (fun i=>(#[]:Array Value)[i%(#[]:Array Value).size]!)=(Array.range 0).map (fun i=>zv.cells[i%zv.cells.size]!)from by simp,I];simp[newRow]
    rw[if_neg l];simp only[Sem.run_bind,iK Z h2,Result.andThen_ok,Sem.run_pure,j];rw[I];simp[newRow]
   obtain rfl:=O_ m;refine sN h g (R d g) (blk:=some w.heap.size) (mu:=.slice (some ⟨w.heap.size,0,none⟩) n n) (v:=.slice (some ⟨w.heap.size,0,none⟩) n n) (w':=w.alloc (.cells vals e)) B (nm _ _) (fun b hb=>(O_ hb).symm) ?_ (.inr ⟨⟨_,_,rfl⟩,rfl,rfl⟩);refine .inr ⟨_,n,vals,e,(0,0),rfl,?_,cY _ _,qo.zero _,J,?_,c3,?_⟩
   .rw[K]
   .rw[K];exact Nat.le_refl _
   rw[c1,K,List.take_of_length_le (by simp;omega)];refine ag.mono ?_ (fun _ _ x=>x) _ _ f;exact yN (h.freeze fz) _
  simp at m
 simp at m
theorem Sj(h:SimG w0 S0 M σ a w S μ β)(hd:oh o σ){t e:TypeId}{i:TypeInfo}{x y:Operand}{x' y':Opd}{z:List SV}(ho:o.op=.makeSlice t x y)(ht:P.underlying t=some (.slice e))
  (O:P.info? e=some i) (hz:y5 P e=some z) (Q:0<i.size/\z.length=i.size) (hx:ap x=some x') (hy:ap y=some y') {u:Upd} (N:ev σ o.dst (.mkSlice i.size i.bytes z x' y')=some u) (hs:u.side) :
  uB P o w0 S0 M σ a w u:=by
 obtain⟨p,zv,R,h2,h3⟩:=sO hz;obtain rfl:p=i:=by rw[O]at R;exact(O_ R).symm
 obtain⟨F,U⟩:=Q;have q:=ax h hx;have s:=ax h hy;simp only[ev]at N;split at N
 .next d l c zs A hl hc V=>
  obtain rfl:=O_ N;obtain⟨h0,e',f',d'⟩:0<=l/\l<=c/\c*p.bytes<=281474976710656/\c<=9223372036854775807:=hs
  rw[hl]at q;rw[hc]at s;have W:a.eval x=.int .i64 l:=q;have X:a.eval y=.int .i64 c:=s;have H:=gd (w:=w) (S:=S) (μ:=μ) (objs:=σ.objs) h3;have I:zv.cells.size=p.size:=by have:=al.length H;simp at this;omega
  have Y:IntKind.i64.wrap l=l:=IntWalk.i64_in l (by omega);have Z:IntKind.i64.wrap c=c:=IntWalk.i64_in c (by omega);have a':=uz V;subst a';have b':ag w S zs zv.cells.toList:=al.toRep H
  let k:Array Value:=(Array.range (c.toNat*p.size)).map (fun j=>zv.cells[j%zv.cells.size]!)
  have J:k.toList=dp zv.cells.toList c.toNat:=pE zv.cells p.size I F c.toNat;have K:k.size=c.toNat*p.size:=by simp[k]
  refine sN (fz:=[]) h A (hd d A) (blk:=some w.heap.size) (mu:=.slice (some ⟨w.heap.size,0,none⟩) l.toNat c.toNat) (v:=.slice (some ⟨w.heap.size,0,none⟩) l.toNat c.toNat) (w':=w.alloc (.cells k e)) ?_ (nm _ _) (fun b hb=>(O_ hb).symm) ?_ (.inr ⟨⟨_,_,rfl⟩,rfl,rfl⟩)
  .simp only[execOp,ho,Instr.makeSlice,Sem.run_bind,run_underlying ht,Result.andThen_ok,W,X,asInt,asIntOf,Sem.run_pure,ahk O,Y,Z]
   have t1:(decide (c<0)||decide ((p.bytes:Int)*c>2 ^ 48))=false:=by
    rw[Int.mul_comm];simp only[Bool.or_eq_false_iff,decide_eq_false_iff_not];constructor
    .omega
    have:(2:Int) ^ 48=281474976710656:=by decide
    omega
   simp only[t1,Bool.false_or];rw[if_neg (by simp;omega)];simp only[Sem.run_bind,run_askRoom,Result.andThen_ok,Oo O];by_cases B:c.toNat*p.size=0
   .rw[if_pos B];simp only[Sem.run_pure,Result.andThen_ok,newRow,Sem.run_bind,run_newObj];have:k = #[]:=by apply Array.eq_empty_of_size_eq_zero;omega
    rw[this,B];have c':∀f:Nat->Value,(Array.range 0).map f = #[]:=fun f=>by apply Array.toList_inj.1;simp
    rw[c'];rfl
   rw[if_neg B];simp only[Sem.run_bind,iK R h2,Result.andThen_ok,Sem.run_pure,newRow,run_newObj];rfl
  have g:(List.replicate l.toNat zs).length=l.toNat:=by simp
  refine .inr ⟨_,c.toNat,k,e,(0,0),rfl,by rw[g],cY _ _,qo.zero _,K,by rw[g];omega,?_,?_⟩
  .intro r hr;have:=List.eq_of_mem_replicate hr;subst this;simpa using U
  rw[g,J]
  have C:∀n,(List.replicate n zs).flatten=dp zs n:=by
   intro n
   induction n with
   |zero=>rfl
   |succ n L=>simp[List.replicate_succ,dp,L]
  have D:∀(n m:Nat),n<=m->(dp zv.cells.toList m).take (n*p.size)=dp zv.cells.toList n:=by
   intro n
   induction n with
   |zero=>intro m _;simp[dp]
   |succ n L=>
    intro m hm;cases m with
    |zero=>omega
    |succ m=>
     simp only[dp];rw[show(n+1)*p.size=zv.cells.toList.length+n*p.size by simp[I,Nat.add_mul];omega,List.take_length_add_append,L m (by omega)]
  rw[C,D _ _ (by omega)]
  have E:∀n,ag w S (dp zs n) (dp zv.cells.toList n):=by
   intro n
   induction n with
   |zero=>rfl
   |succ n L=>exact ag.append b' L
  exact ag.mono (yN h _) dH.nil _ _ (E _)
 simp at N
end
end Go.Vs
namespace Go.Vs
structure Wrote(w w':World)(b:Nat)(vs:Array Value)(e:TypeId)(fr:Nat×Nat):Prop where
 os:w'.os=w.os
 tape:w'.tape=w.tape
 output:w'.output=w.output
 size:w'.heap.size=w.heap.size
 other:∀k,k≠b->w'.heap[k]?=w.heap[k]?
 here:w'.heap[b]?=some (.cells vs e fr)
 shape:∀k x,w.shape? k=some x->w'.shape? k=some x
theorem qa{w:World}{b off:Nat}{f:Array Value}{e:TypeId}{fr:Nat×Nat}(h:w.heap[b]?=some (.cells f e fr))(v:Value) :
  Wrote w (w.setCell ⟨b,off,none⟩ v) b (f.setIfInBounds off v) e fr:=by
 refine⟨rfl,rfl,rfl,by simp[World.setCell],fun k d=>?_,?_,fun k x c=>?_⟩
 .simp only[World.setCell,Array.getElem?_modify];rw[if_neg (by omega)]
 .simp only[World.setCell,Array.getElem?_modify,if_true,h];simp
 simp only[World.shape?,World.setCell,Array.getElem?_modify]at c |-;by_cases d:b=k
 .subst d;rw[h]at c;simpa[h]using c
 rw[if_neg d];exact c
theorem JH{w:World}{b off:Nat}{c:Array Value}{e:TypeId}{d:Nat×Nat}(h:w.heap[b]?=some (.cells c e d))(f:qo d c.size)(g:off<c.size):w.frozen? ⟨b,off,none⟩=false:=by
 have f:d=(0,0):=f;subst f;simp only[World.frozen?,h];simp only[Bool.and_eq_false_iff,decide_eq_false_iff_not];omega
theorem kF(P:Program){b off:Nat}{e:TypeId}{p:Nat×Nat} : ∀(d:List Value) (i:Nat) (c:Array Value) (w:World),w.heap[b]?=some (.cells c e p)->qo p c.size->off+i+d.length<=c.size->
  (∀u∈d,u.oneCell'=true)->∃w' f,(storeCells ⟨b,off,none⟩ d i).run P w=.ok () w'/\Wrote w w' b f e p/\f.toList=c.toList.take (off+i)++d++c.toList.drop (off+i+d.length)
 |[],i,c,w,h,_,m,_=>⟨w,c,rfl,⟨rfl,rfl,rfl,rfl,fun _ _=>rfl,h,fun _ _ h=>h⟩,by simp⟩
 |u::d,i,c,w,h,y,m,B=>by
  simp only[List.length_cons]at m;have g:off+i<c.size:=by omega
  have j:=qa (off:=off+i) h u;obtain⟨w',f,D,l,E⟩:=kF (off:=off) P d (i+1) (c.setIfInBounds (off+i) u) (w.setCell ⟨b,off+i,none⟩ u) j.here (by simpa using y) (by simp;omega) (fun x q=>B x (List.mem_cons_of_mem _ q));refine⟨w',f,?_,⟨l.os.trans j.os,l.tape.trans j.tape,l.output.trans j.output,l.size.trans j.size,fun k C=>(l.other k C).trans (j.other k C),l.here,fun k x q=>l.shape _ _ (j.shape _ _ q)⟩,?_⟩
  .have F:w.cell? ⟨b,off+i,none⟩=some c[off+i]:=by rw[fE h];simp[g]
   simp only[storeCells,Sem.run_bind,jN,run_store P w _ u .plain (B u (by simp)),F,JH h y g,Bool.false_eq_true,if_false,Result.andThen_ok];exact D
  rw[E];have H:off+i<c.toList.length:=by simpa using g
  simp only[Array.toList_setIfInBounds,List.length_cons]
  have e1:(c.toList.set (off+i) u).take (off+(i+1))=c.toList.take (off+i)++[u]:=by
   rw[show off+(i+1)=(off+i)+1 by omega,List.take_succ_eq_append_getElem (by simpa using H),List.take_set_of_le (Nat.le_refl _)];simp
  have e2:(c.toList.set (off+i) u).drop (off+(i+1)+d.length)=c.toList.drop (off+i+(d.length+1)):=by
   rw[List.drop_set_of_lt (by omega)];congr 1;omega
  rw[e1,e2];simp
theorem He{α:Type}{A Y:List α}{X s R off n:Nat}(e:X+s<=R)(f:R<=A.length)(g:Y.length=n)(h:off+n<=s) :
  (A.take (X+off)++Y++A.drop (X+(off+n))).take R =
    (A.take R).take X++((((A.take R).drop X).take s).take off++Y++(((A.take R).drop X).take s).drop (off+n))++(A.take R).drop (X+s):=by
 apply List.ext_getElem?;intro j;simp only[List.getElem?_take,List.getElem?_append,List.getElem?_drop,List.length_take,List.length_append,List.length_drop];by_cases c:j<X
 .simp only[show j<min (X+off) A.length by omega,show j<R by omega,show j<min X (min R A.length) by omega,show j<X+off by omega,show j<min (X+off) A.length+Y.length by omega,c,
   show j<min X (min R A.length)+(min off (min s (min R A.length-X))+Y.length+(min s (min R A.length-X)-(off+n))) by omega,if_true]
 by_cases d:j<X+off
 .simp only[show j<min (X+off) A.length by omega,show j<R by omega,show ¬j<min X (min R A.length) by omega,d,show j<min (X+off) A.length+Y.length by omega,
   show j<min X (min R A.length)+(min off (min s (min R A.length-X))+Y.length+(min s (min R A.length-X)-(off+n))) by omega,if_true,if_false,
   show j-min X (min R A.length)<min off (min s (min R A.length-X))+Y.length by omega,show j-min X (min R A.length)<min off (min s (min R A.length-X)) by omega,
   show j-min X (min R A.length)<off by omega,show j-min X (min R A.length)<s by omega,show X+(j-min X (min R A.length))<R by omega]
  congr 1;omega
 by_cases i:j<X+off+n
 .simp only[show ¬j<min (X+off) A.length by omega,show j<R by omega,show ¬j<min X (min R A.length) by omega,show j<min (X+off) A.length+Y.length by omega,
   show j<min X (min R A.length)+(min off (min s (min R A.length-X))+Y.length+(min s (min R A.length-X)-(off+n))) by omega,if_true,if_false,
   show j-min X (min R A.length)<min off (min s (min R A.length-X))+Y.length by omega,show ¬j-min X (min R A.length)<min off (min s (min R A.length-X)) by omega]
  congr 1;omega
 by_cases k:j<X+s
 .simp only[show j<R by omega,show ¬j<min X (min R A.length) by omega,show ¬j<min (X+off) A.length+Y.length by omega,
   show j<min X (min R A.length)+(min off (min s (min R A.length-X))+Y.length+(min s (min R A.length-X)-(off+n))) by omega,if_true,if_false,
   show ¬j-min X (min R A.length)<min off (min s (min R A.length-X))+Y.length by omega]
  rw[if_pos (by omega),if_pos (by omega)];congr 1;omega
 simp only[show ¬j<min (X+off) A.length+Y.length by omega,
  show ¬j<min X (min R A.length)+(min off (min s (min R A.length-X))+Y.length+(min s (min R A.length-X)-(off+n))) by omega,if_false]
 by_cases b:j<R
 .rw[if_pos b,if_pos (by omega)];congr 1;omega
 rw[if_neg b,if_neg (by omega)]
section
variable {P:Program} {w0 w:World} {S0 S:bb} {M:Ctx} {σ:St} {a:Act} {μ:Nat->Value} {β:Nat->Option Nat} {o:Oper}
theorem JI(h:SimG w0 S0 M σ a w S μ β){id:Nat}{x:Ob}{b:Nat}(f:ac σ.objs id=some x)(g:β id=some b){w':World}{j:Array Value}{e:TypeId}{l:Nat×Nat}(c:Wrote w w' b j e l):Kept M.blocks w0 w':=by
 refine⟨c.os.trans h.kept.os,c.tape.trans h.kept.tape,c.output.trans h.kept.output,by rw[c.size];exact h.kept.size,fun k m hm=>?_,fun k x n=>c.shape _ _ (h.kept.shape _ _ n)⟩
 have:k≠b:=by
  rintro rfl;rcases h.own id x k f g with d|d
  .omega
  exact hm d
 exact(c.other k this).trans (h.kept.block k m hm)
theorem SimG.write(h:SimG w0 S0 M σ a w S μ β){id:Nat}{x x':Ob}{b:Nat}(q:ac σ.objs id=some x)(u:β id=some b){w':World}{vs:Array Value}{e:TypeId}{fr:Nat×Nat}(m:Wrote w w' b vs e fr)(z:id∉σ.ro)
  (k:(∃c B,x=.box c/\x'=.box B)\/(∃p s j f,x=.arr p s j/\x'=.arr p s f/\j.length=f.length))
  (C:bI w' S μ σ.objs (some b) (μ id) x'):SimG w0 S0 M {σ with objs:=Vs.put σ.objs id x' } a w' S μ β:=by
 have v:∀d off,S d off->d≠b:=by
  rintro d off v rfl;exact z (h.unst id x d off q u v).1
 have:=h.turn q (some b) (μ id) (w':=w') (⟨fun d off l=>bT (m.other d (v d off l)) off,m.shape⟩) (JI h q u m) (by rw[m.size];exact Nat.le_refl _)
  (fun D y d hid E g=>m.other d (fun e=>hid (h.inj D id y x d E q g (e▸u)))) ?_ C (fun d g=>.inl (by rw[u];exact g)) (fun d off g l=>absurd (O_ g).symm (v d off l))
 .have e1:(fun i=>if i=id then μ id else μ i)=μ:=by funext i;split<;>simp_all
  have e2:(fun i=>if i=id then some b else β i)=β:=by funext i;split<;>simp_all
  rw[e1,e2]at this;exact this
 rcases k with⟨c,B,F,H⟩|⟨p,s,r,I,F,H,J⟩
 .exact .inl ⟨c,B,F,H,rfl⟩
 exact .inr (.inl ⟨p,s,r,p,I,F,H,Nat.le_refl _,fun _=>⟨J,rfl⟩⟩)
theorem Hf:∀ {rows:List (List IV)} {s i:Nat} {row row':List IV},(∀r∈rows,r.length=s)->rows[i]?=some row->row'.length=s->
  (rows.set i row').flatten=rows.flatten.take (i*s)++row'++rows.flatten.drop ((i+1)*s)
 |[],_,_,_,_,_,h,_=>by simp at h
 |b::c,s,0,row,row',e,h,d=>by
  have f:=e b (by simp);simp only[List.set_cons_zero,List.flatten_cons,Nat.zero_mul,List.take_zero,List.nil_append,Nat.zero_add,Nat.one_mul];rw[<-f,List.drop_left'];rfl
 |b::c,s,i+1,row,row',e,h,d=>by
  have f:=e b (by simp);have g:=Hf (rows:=c) (s:=s) (i:=i) (row:=row) (row':=row') (fun x j=>e x (List.mem_cons_of_mem _ j)) (by simpa using h) d;simp only[List.set_cons_succ,List.flatten_cons,g]
  have e1:(b++c.flatten).take ((i+1)*s)=b++c.flatten.take (i*s):=by
   rw[show(i+1)*s=b.length+i*s by rw[f,Nat.add_mul];omega,List.take_length_add_append]
  have e2:(b++c.flatten).drop ((i+1+1)*s)=c.flatten.drop ((i+1)*s):=by
   rw[show(i+1+1)*s=b.length+(i+1)*s by rw[f,Nat.add_mul (i+1)];omega,List.drop_length_add_append]
  rw[e1,e2];simp
theorem Yn(h:SimG w0 S0 M σ a w S μ β)(hd:oh o σ){t:TypeId}{n:Nat}{x y:Operand}{x' y':Opd}(ho:o.op=.store t x y)(hn:eh P t=some n)(hx:ap x=some x')(hy:ap y=some y')
  {u:Upd} (d:uA σ n (val σ x') (val σ y')=some u) (hs:u.side):uB P o w0 S0 M σ a w u:=by
 have f:=ax h hx;have O:=ax h hy
 have I:∀ {b off:Nat} {E:World},a.eval x=.pointer (some ⟨b,off,none⟩)->(a.eval y).cells.size=n->(storeCells ⟨b,off,none⟩ (a.eval y).cells.toList 0).run P w=.ok () E->(execOp a.eval o).run P w=.ok .skip E:=by
  intro b off E hv F h';simp only[execOp,ho,hv,Instr.storeAt,Instr.sureAddr,Sem.run_bind,Sem.run_pure,Result.andThen_ok,storeVar,eQ hn];rw[if_neg (by simp[F])];simp only[h',Result.andThen_ok,Sem.run_bind,Sem.run_pure]
 unfold uA at d;split at d
 .simp at d
 next cs i'=>
 have z:=v7 h O i';have Q:=al.length z;simp only[Array.length_toList]at Q;split at d
 .next id off U=>
  rw[U]at f;split at d
  .next m J=>
   split at d
   .simp at d
   next k=>
   have k:id∉σ.ro:=by simpa using k
   obtain rfl:=O_ d;obtain⟨j',k'⟩:cs.length=n/\off+n<=m.length:=hs;obtain⟨b,vs,e,fr,hb,hm,hv,V,hf,W⟩:=lz h J f;have l':=al.length W;simp only[Array.length_toList]at l';obtain⟨E,B,r1,H,r3⟩:=kF P (off:=off) (a.eval y).cells.toList 0 vs w V hf (by simp;omega) (al.oneCells z);refine⟨_,Go.undef,E,I hv (by omega) r1,.inr ⟨rfl,rfl⟩,S,μ,β,?_⟩
   have g:bM S w E:=by
    refine⟨?_,H.shape⟩;intro Z l hS
    have:Z≠b:=by
     rintro rfl;exact k (h.unst id _ Z l J hb hS).1
    exact bT (H.other Z this) l
   have h2:=h.write J hb H k (.inl ⟨_,_,rfl,rfl⟩) (x':=.box (m.take off++cs++m.drop (off+n))) (by
    refine⟨b,B,e,fr,rfl,hm,H.here,?_,?_⟩
    .have:B.size=vs.size:=by
      have:=congrArg List.length r3;simp only[Array.length_toList,List.length_append,List.length_take,List.length_drop]at this;omega
     rw[this];exact hf
    rw[r3];simp only[Nat.add_zero,Array.length_toList];rw[show off+(a.eval y).cells.size=off+n by omega]
    exact al.mono g (fun _ _ x=>x) _ _ (al.append (al.append (al.take off W) z) (al.drop _ W)))
   exact h2.putD (sv:=.undef) hd trivial
  simp at d
 .next id m' i off U=>
  rw[U]at f;split at d
  .next cv s c vs fz J n'=>
   split at d
   .simp at d
   next k=>
   simp only[Bool.or_eq_true,List.contains_iff_mem,not_or]at k;split at d
   .next C=>
    have C:m'=cv:=by simpa using C
    split at d
    .next p v=>
     obtain rfl:=O_ d;obtain⟨j',k'⟩:cs.length=n/\off+n<=p.length:=hs;obtain⟨_,o'⟩:=f _ _ _ J;obtain⟨b,a',hm,hv⟩:=o' C
     have hi:i<c.length:=by
      rcases Nat.lt_or_ge i c.length with V|V
      .exact V
      simp[List.getElem?_eq_none V]at v
     obtain⟨us,e,fr,hb,V,hf,F,K,j,D⟩:=Oq h J hm (.inl (by intro e;subst e;simp at hi));have s':p.length=s:=j p (List.mem_of_getElem? v);have c':(i+1)*s<=c.length*s:=Nat.mul_le_mul_right _ hi;have g':c.length*s<=a'*s:=Nat.mul_le_mul_right _ K;rw[Nat.add_mul]at c';obtain⟨E,B,r1,H,r3⟩:=kF P (off:=i*s+off) (a.eval y).cells.toList 0 us w V hf (by simp;omega) (al.oneCells z);have h0:=h.freeze fz;have L:=ly h n' (fun _ x=>x) z;have p':=ag.length L;simp only[Array.length_toList]at p';refine⟨_,Go.undef,E,I hv (by omega) r1,.inr ⟨rfl,rfl⟩,dH S β σ.objs fz,μ,β,?_⟩
     have N:id∉fz++σ.ro:=by
      rw[List.mem_append,not_or];exact⟨k.2,k.1⟩
     have g:bM (dH S β σ.objs fz) w E:=by
      refine⟨?_,H.shape⟩;intro Z l hS
      have:Z≠b:=by
       rintro rfl;exact N (h0.unst id _ Z l J hb hS).1
      exact bT (H.other Z this) l
     have e':(p.take off++vs++p.drop (off+n)).length=s:=by
      simp only[List.length_append,List.length_take,List.length_drop];omega
     have h2:=h0.write J hb H N (.inr ⟨cv,s,c,_,rfl,rfl,by simp⟩) (x':=.arr cv s (c.set i (p.take off++vs++p.drop (off+n)))) (by
      have f':B.size=us.size:=by
       have:=congrArg List.length r3;simp only[Array.length_toList,List.length_append,List.length_take,List.length_drop]at this;omega
      refine .inr ⟨b,a',B,e,fr,rfl,?_,H.here,?_,?_,?_,?_,?_⟩
      .rw[List.length_set];exact hm
      .rw[f'];exact hf
      .rw[f'];exact F
      .rw[List.length_set];exact K
      .intro r W;rcases List.mem_or_eq_of_mem_set W with W|rfl
       .exact j r W
       exact e'
      rw[List.length_set,Hf j v e',r3];simp only[Nat.add_zero,Array.length_toList];rw[show i*s+off+(a.eval y).cells.size=i*s+(off+n) by omega];have d':=yL j v;have p1:=ag.take (i*s) D;have p2:=ag.drop ((i+1)*s) D;have p3:=ag.take s (ag.drop (i*s) D);rw[d']at p3;have q:=ag.append (ag.append (ag.mono (bM.refl _ _) (fun _ _ x=>.inl x) _ _ p1) (ag.append (ag.append (ag.mono (bM.refl _ _) (fun _ _ x=>.inl x) _ _ (ag.take off p3)) L) (ag.mono (bM.refl _ _) (fun _ _ x=>.inl x) _ _ (ag.drop (off+n) p3)))) (ag.mono (bM.refl _ _) (fun _ _ x=>.inl x) _ _ p2);have q':=ag.mono g (fun _ _ x=>x) _ _ q;have r':us.toList.length=a'*s:=by simpa using F
      have e2:=He (A:=us.toList) (Y:=(a.eval y).cells.toList) (X:=i*s) (s:=s) (R:=c.length*s) (off:=off) (n:=n) (by omega) (by omega) (by simp;omega) (by omega);rw[show i*s+s=(i+1)*s by rw[Nat.add_mul];omega]at e2;rw[e2]
      exact q')
     exact h2.putD (sv:=.undef) hd trivial
    simp at d
   simp at d
  simp at d
 simp at d
end
end Go.Vs
