/- A part of a proof. No conditions. -/
import Derived.Test.YtnhbiolfmeeniaaGreatDoorBCz
import Derived.ChangeArms
import Derived.OpenShut
import Derived.ChangeShapes
import Derived.ChangeSame
import Derived.Carry
import Derived.Below
import Derived.RowKit
import Derived.ProofKit
import Derived.Handed
import Derived.JoinedOf
import Derived.WideKeyArgs
import Derived.LaidLaws
import Derived.LaidHandle
import Derived.Stop.Joined
import Derived.Lay
set_option linter.all false
namespace Go.Vs
def cJ(σ h:St):Prop:=∀(w0:World) (S0:bb) (M:Ctx) (a:Act) (w:World),gc w0 S0 M σ a w->gc w0 S0 M h a w
theorem cJ.refl(σ:St):cJ σ σ:=fun _ _ _ _ _ h=>h
theorem cJ.trans{a b c:St}(h:cJ a b)(k:cJ b c):cJ a c:=fun w0 S0 M x w s=>k w0 S0 M x w (h w0 S0 M x w s)
def xa:List Nat->Nat->Bool
 |c::e::r,k=>bif decide (c<=k)then (bif decide (k<=e)then true else xa r k)else xa r k
 |_,_=>false
def kJ(c:List Nat):List (Nat×SV)->List (Nat×SV)
 |[]=>[]
 |(k,v)::r=>bif xa c k then kJ c r else (k,v)::kJ c r
def St.drop(σ:St)(h:List Nat):St:={σ with env:=kJ h σ.env }
theorem Qh(c:List Nat)(e:List (Nat×SV))(k:Nat):aE (kJ c e) k=.undef\/aE (kJ c e) k=aE e k:=by
 induction e with
 |nil=>exact .inl rfl
 |cons p r f=>
  obtain⟨j,v⟩:=p
  have x:∀(l:List (Nat×SV)),xa c k=true->aE (kJ c l) k=.undef:=by
   intro l m
   induction l with
   |nil=>rfl
   |cons q s f=>
    obtain⟨i,u⟩:=q;simp only[kJ];cases n:xa c i with
    |true=>exact f
    |false=>
     have:(i==k)=false:=by
      cases h:i==k with
      |false=>rfl
      |true=>rw[beq_iff_eq]at h;subst h;rw[m]at n;simp at n
     simp only[cond_false,aE,ac,this];exact f
  cases m:xa c k with
  |true=>exact .inl (x _ m)
  |false=>
   simp only[kJ];cases o:xa c j with
   |true=>
    have:(j==k)=false:=by
     cases h:j==k with
     |false=>rfl
     |true=>rw[beq_iff_eq]at h;subst h;rw[m]at o;simp at o
    simp only[cond_true,aE,ac,this,cond_false];exact f
   |false=>
    simp only[cond_false,aE,ac];cases j==k with
    |true=>exact .inr rfl
    |false=>exact f
theorem qc(σ:St)(c:List Nat):cJ σ (σ.drop c):=by
 rintro w0 i M a w ⟨S,e,f,h⟩;exact⟨S,e,f,h.drop rfl rfl (fun _ _ _ x=>x) (fun k=>Qh c σ.env k) (fun _ _ x=>x)⟩
def DY(w0:World)(c:bb)(M:Ctx)(N:Nat)(Q:Exit->St->Prop):Exit->Act->World->Prop
 |.panic _,_,_=>False
 |.outgrown,_,_=>False
 |e,a,w=>∃σ,Q e σ/\σ.n=N/\gc w0 c M σ a w
def T(P:Program)(c:Code)(Q:Exit->St->Prop)(σ:St):Prop:=∀(w0:World) (e:bb) (M:Ctx) (a:Act) (w:World),gc w0 e M σ a w->c.wp P (DY w0 e M σ.n Q) a w
def sW(n:Nat):List VOper->Bool
 |[]=>true
 |o::r=>(match o.dst with
  |some d=>decide (d<n)
  |none=>true)&&sW n r
def VCode.bnd(n:Nat):VCode->Bool
 |.region c e _=>sW n c&&(match e with
  |.drawnM _ _=>Bh (aV c)
  |_=>true)
 |.seq a b=>a.bnd n&&b.bnd n
 |.cond _ a b=>a.bnd n&&b.bnd n
 |.block _ a=>a.bnd n
 |.loop a=>a.bnd n
 |.scope a=>a.bnd n
 |.cut a=>a.bnd n
 |_=>true
theorem ju{n:Nat} : ∀ {l:List VOper},sW n l=true->∀v∈l,∀d,v.dst=some d->d<n
 |[],_,v,c=>by simp at c
 |o::r,h,v,c=>by
  simp only[sW,Bool.and_eq_true]at h;intro d e;rcases List.mem_cons.1 c with rfl|c
  .rw[e]at h;simpa using h.1
  exact ju h.2 v c d e
def TV(P:Program)(v:VCode)(Q:Exit->St->Prop)(σ:St):Prop:=∀c,comp P c=some v.strip->v.bnd σ.n=true->T P c Q σ
def pI(P:Program)(K:St->Prop):List VOper->St->Prop
 |[],σ=>K σ
 |o::r,σ=>match o.guard with
  |none=>ey P σ o.dst (fun u=>pI P K r (σ.apply o.dst u)) o.op
  |some (g,b)=>match kA (aE σ.env g)with
   |some c=>(c=some b->ey P σ o.dst (fun u=>pI P K r (σ.apply o.dst u)) o.op)/\(¬c=some b->pI P K r (σ.apply o.dst j6))
   |none=>False
theorem D1{P:Program}{K:St->Prop} : ∀ {l:List VOper} {σ:St},pI P K l σ->∃f i,m5 P l σ f i/\K i
 |[],σ,h=>⟨[],σ,⟨rfl,rfl⟩,h⟩
 |o::r,σ,h=>by
  simp only[pI]at h
  have p:ey P σ o.dst (fun u=>pI P K r (σ.apply o.dst u)) o.op->∃e f i,N5 P σ o e/\m5 P r (σ.apply e.dst e.u) f i/\K i:=by
   intro q;obtain⟨u,x,y⟩:=J1 q;obtain⟨f,i,m,n⟩:=D1 y;exact⟨⟨fF σ o.op u,o.dst,u⟩,f,i,⟨x,rfl,rfl⟩,m,n⟩
  split at h
  .next s=>
   obtain⟨e,f,i,q,m,n⟩:=p h;exact⟨e::f,i,⟨e,f,rfl,by unfold gH;rw[s];exact q,m⟩,n⟩
  next g b s=>
  split at h
  .next c v=>
   by_cases j:c=some b
   .obtain⟨e,f,i,q,m,n⟩:=p (h.1 j);exact⟨e::f,i,⟨e,f,rfl,by unfold gH;rw[s];exact⟨c,v,.inl ⟨j,q⟩⟩,m⟩,n⟩
   obtain⟨f,i,m,n⟩:=D1 (h.2 j);exact⟨⟨[],o.dst,j6⟩::f,i,⟨_,f,rfl,by unfold gH;rw[s];exact⟨c,v,.inr ⟨j,rfl⟩⟩,m⟩,n⟩
  exact h.elim
def SC(P:Program)(σ:St)(dst:Option Nat)(f:SV)(e:List Opd)(K:St->Prop):Prop:=
 ∃k vals c h i,SB σ f e=some (k,vals)/\lB σ.gl P k c/\mOk σ h c=true/\gI σ.objs h c.objs/\iT σ.objs h vals c.args i/\mFz h i c.objs=true/\K (σ.mapply dst h c i)
def pg(P:Program)(σ:St)(dst:Option Nat)(K:St->Prop):VOp->Prop
 |.callM f c=>SC P σ dst (.val (.fn f [])) c K
 |.callMV f c=>SC P σ dst (val σ f) c K
 |op=>ey P σ dst (fun u=>K (σ.apply dst u)) op
def j9(P:Program)(K:St->Prop):List VOper->St->Prop
 |[],σ=>K σ
 |o::r,σ=>match o.guard with
  |none=>pg P σ o.dst (j9 P K r) o.op
  |some (g,b)=>match kA (aE σ.env g)with
   |some c=>(c=some b->pg P σ o.dst (j9 P K r) o.op)/\(¬c=some b->j9 P K r (σ.apply o.dst j6))
   |none=>False
theorem aaZ{σ:St}{dst:Option Nat}{e:List (Nat×Nat)}{c:MC}{h:List Nat} : (σ.mapply dst e c h).n=σ.n:=rfl
theorem Yx{P:Program}{w0 w:World}{B:bb}{M:Ctx}{σ:St}{a:Act}{o:Oper}(h:gc w0 B M σ a w)(L:∀d,o.dst=some d->d<σ.n){q:VOp}(C:pz P o.op=some q.strip){K:St->Prop}(D:pg P σ o.dst K q){next:Act->World->Prop}{Q:Exit->Act->World->Prop}
  (N:∀m O z,K m->m.n=σ.n->gc w0 B M m O z->next O z):o.wp P a w next Q:=by
 have j:∀ {f:SV} {i:List Opd} {c:Call} {A:Operand},o.op=.call c->c.callee=.value A->dS c.args.toList=some i->(∀S p s,SimG w0 B M σ a w S p s->au w S p σ.objs f (a.eval A))->SC P σ o.dst f i K->o.wp P a w next Q:=by
  intro f i c A x l e E ⟨k,vals,mc,ρ,fz,F,I,R,U,V,W,X⟩;obtain⟨S,p,s,y⟩:=h;exact aaY y L x l (E S p s y) e F I R U V W (fun v z J=>N _ _ _ X aaZ J)
 have plain:ey P σ o.dst (fun u=>K (σ.apply o.dst u)) q->pz P o.op=some q->o.wp P a w next Q:=by
  intro F I;obtain⟨u,Y,Z⟩:=J1 F;exact Sm h L I Y (fun v z J=>N _ _ _ Z x6 J)
 cases q
 case callM f i=>
  obtain⟨c,x,n⟩:=qt C (.inl ⟨_,_,rfl⟩);obtain⟨l,e⟩:=(kH n).1 _ _ rfl;exact j (f:=.val (.fn f [])) x l e (fun S p s y=>⟨#[],rfl,rfl⟩) D
 case callMV f i=>
  obtain⟨c,x,n⟩:=qt C (.inr ⟨_,_,rfl⟩);obtain⟨A,l,E,e⟩:=(kH n).2 _ _ rfl;exact j x l e (fun S p s y=>ax y E) D
 all_goals exact plain D C
theorem jA:∀ {l:List VOper} {i:Nat},(aV l)[i]?=(l[i]?).map VOper.strip
 |[],i=>by simp[aV]
 |o::r,0=>rfl
 |o::r,i+1=>by simpa[aV]using jA (l:=r) (i:=i)
theorem i8:∀ {l:List VOper},(aV l).length=l.length
 |[]=>rfl
 |o::r=>by simp[aV,i8 (l:=r)]
theorem qu{P:Program}{w0:World}{A:bb}{M:Ctx}{f:Array Oper}{i:Nat}{o:Oper}{v:VOper}(E:f[i]?=some o)(F:jM P f o=some v.strip){σ:St}{a:Act}{w:World}(h:gc w0 A M σ a w)(B:∀d,v.dst=some d->d<σ.n){K:St->Prop}{r:List VOper}(l:j9 P K (v::r) σ)
  {Q:Exit->Act->World->Prop} {N:Act->World->Prop} (C:∀s D w',j9 P K r s->s.n=σ.n->gc w0 A M s D w'->N D w'):wpOp P f Q i N a w:=by
 obtain⟨e,u,m⟩:=gf F;have e:v.dst=o.dst:=e;have u:pz P o.op=some v.op.strip:=u;have m:j0 f o.guard=some v.guard:=m
 have run:pg P σ v.dst (j9 P K r) v.op->o.wp P a w N Q:=by
  intro I;exact Yx h (fun d x=>B d (by rw[e];exact x)) u (by rw[<-e];exact I) C
 unfold wpOp;rw[E];dsimp only;simp only[j9]at l;cases n:o.guard with
 |none=>
  have:v.guard=none:=by rw[n]at m;simpa[j0]using m.symm
  rw[this]at l;have y:Region.wanted o (yielded f a.tmps)=true:=by simp[Region.wanted,n]
  rw[if_pos y];exact .inl (run l)
 |some p=>
  obtain⟨j,b⟩:=p;rw[n]at m;simp only[j0]at m;split at m
  .next d x=>
   have z:v.guard=some (d,b):=by simpa using m.symm
   rw[z]at l;dsimp only at l;split at l
   .next c J=>
    have L:yielded f a.tmps j=c:=x7 x h J;have y:Region.wanted o (yielded f a.tmps)=(c==some b):=by simp[Region.wanted,n,L]
    rw[y];by_cases q:c=some b
    .rw[if_pos (by simpa using q)];exact .inl (run (l.1 q))
    rw[if_neg (by simpa using q)];refine C _ _ _ (l.2 q) x6 ?_;obtain⟨S,O,R,U⟩:=h;rw[<-e];exact⟨S,O,R,U.putD (sv:=.val (.tuple [])) B ⟨#[],rfl,rfl⟩⟩
   exact l.elim
  simp at m
theorem Qi{P:Program}{w0:World}{z:bb}{M:Ctx}{e:Array Oper}{j:List VOper}(N:cq P e e.toList=some (aV j)){σ:St}{a:Act}{w:World}(h:gc w0 z M σ a w)(s:∀v∈j,∀d,v.dst=some d->d<σ.n){K:St->Prop}(m:j9 P K j σ)
  {Q:Exit->Act->World->Prop} (O:∀c u w',K c->c.n=σ.n->gc w0 z M c u w'->Q .normal u w'):wpOps P e Q (List.range e.size) a w:=by
 obtain⟨f,n⟩:=dC N;rw[i8]at f
 have A:∀(l:List VOper) (k:Nat) (c:St) (a:Act) (w:World),(∀i,l[i]?=j[k+i]?)->c.n=σ.n->gc w0 z M c a w->(∀v∈l,∀d,v.dst=some d->d<σ.n)->j9 P K l c->wpOps P e Q (List.range' k l.length) a w:=by
  intro l
  induction l with
  |nil=>
   intro k c a w _ y h _ m;exact O c a w m y h
  |cons v r R=>
   intro k c a w I y h s m;have J:j[k]?=some v:=by simpa using (I 0).symm
   have L:k<e.toList.length:=by
    rw[<-f];rcases Nat.lt_or_ge k j.length with B|B
    .exact B
    simp[List.getElem?_eq_none B]at J
   obtain⟨S,p,C⟩:=n k e.toList[k] (List.getElem?_eq_getElem L);rw[jA,J]at p;obtain rfl:S=v.strip:=(O_ p).symm;simp only[List.length_cons,List.range'_succ];rw[wpOps_cons];refine qu (o:=e.toList[k]) (by rw[<-Array.getElem?_toList];exact List.getElem?_eq_getElem L) C h (fun d D=>by rw[y];exact s v (by simp) d D) m (fun q u w' U E V=>?_);exact R (k+1) q u w' (fun i=>by have:=I (i+1);simpa[Nat.add_assoc,Nat.add_comm 1 i]using this) (E.trans y) V (fun x W d F=>s x (List.mem_cons_of_mem _ W) d F) U
 have:=A j 0 σ a w (by simp) rfl h s m;rw[List.range_eq_range',show e.size=j.length by rw[f];simp];exact this
theorem oq{P:Program} : ∀ {l:List VOper} {σ f:St} {es:List Eff},m5 P l σ es f->m5 P (aV l) σ es f
 |[],_,_,_,h=>h
 |o::r,σ,f,es,⟨e,m,s,j,u⟩=>by
  refine⟨e,m,s,?_,oq u⟩
  have i:N5 P σ o e->N5 P σ o.strip e:=by
   rintro⟨n,v,x⟩
   have:o.op.strip=o.op:=by
    cases p:o.op<;>first|rfl|(exfalso;rw[p]at n;simp[DU,ev]at n)
   refine⟨?_,?_,x⟩
   .show DU P σ o.dst e.u o.op.strip;rw[this];exact n
   show e.ids=fF σ o.op.strip e.u;rw[this];exact v
  unfold gH at j |-;have y:o.strip.guard=o.guard:=rfl;rw[y];split at j
  .exact i j
  obtain⟨c,z,A⟩:=j;exact⟨c,z,A.imp (fun q=>⟨q.1,i q.2⟩) (fun q=>q)⟩
def cutP(n:Nat)(ps:List (Nat×Nat)):List (Nat×Nat):=ps.filter fun p=>decide (p.1<n)&&decide (p.2<n)
def uD(P:Program)(K:St->Prop)(c:St)(ps ms:List (Nat×Nat)):List VOper->St->List Eff->Prop
 |[],_,_=>False
 |[o],σ,es=>yW c (cutP es.length ps) (cutP es.length ms) es=true/\j9 P K [o] σ
 |o::o2::r,σ,es=>match o.guard with
  |none=>ey P σ o.dst (fun u=>uD P K c ps ms (o2::r) (σ.apply o.dst u) (es++[⟨fF σ o.op u,o.dst,u⟩])) o.op
  |some _=>False
theorem za{P:Program}{K:St->Prop}{f:St}{ps ms:List (Nat×Nat)} : ∀ {l:List VOper} {σ:St} {es:List Eff},uD P K f ps ms l σ es->∃i last c e,l=i++[last]/\m5 P i σ c e/\yW f (cutP (es++c).length ps) (cutP (es++c).length ms) (es++c)=true/\j9 P K [last] e
 |[],_,_,h=>h.elim
 |[o],σ,es,h=>⟨[],o,[],σ,rfl,⟨rfl,rfl⟩,by rw[List.append_nil];exact h.1,h.2⟩
 |o::o2::r,σ,es,h=>by
  simp only[uD]at h;split at h
  .next j=>
   obtain⟨u,m,n⟩:=J1 h;obtain⟨i,last,c,e,p,q,s,v⟩:=za n;exact⟨o::i,last,⟨fF σ o.op u,o.dst,u⟩::c,e,by rw[p];rfl,⟨_,c,rfl,by unfold gH;rw[j];exact⟨m,rfl,rfl⟩,q⟩,by simpa using s,v⟩
  exact h.elim
def pw(P:Program):VCode->(Exit->St->Prop)->St->Prop
 |.skip,Q,σ=>Q .normal σ
 |.region ops p n,Q,σ=>match p with
  |.text=>j9 P (fun h=>Q .normal (h.drop n)) ops σ
  |.calm=>pI P (fun h=>Q .normal (h.drop n)) ops σ
  |.drawn cU makes=>pH P (fun es h=>yW σ cU makes es=true/\Q .normal (h.drop n)) ops σ []
  |.drawnM cU makes=>uD P (fun h=>Q .normal (h.drop n)) σ cU makes ops σ []
 |.seq a b,Q,σ=>pw P a (fun e h=>match e with
  |.normal=>pw P b Q h
  |e=>Q e h) σ
 |.cond c a b,Q,σ=>match val σ c with
  |.val (.bool t)=>(t=true->pw P a Q σ)/\(t=false->pw P b Q σ)
  |.anyB=>pw P a Q σ/\pw P b Q σ
  |_=>False
 |.block id a,Q,σ=>pw P a (fun e h=>match e with
  |.exit i=>if i=id then Q .normal h else Q (.exit i) h
  |e=>Q e h) σ
 |.loop a,Q,σ=>TV P (.loop a) Q σ
 |.exit id,Q,σ=>Q (.exit id) σ
 |.scope a,Q,σ=>TV P (.scope a) Q σ
 |.label _,Q,σ=>Q .normal σ
 |.goto l,Q,σ=>Q (.goto l) σ
 |.ret,Q,σ=>Q .ret σ
 |.refuse,_,_=>False
 |.cut a,Q,σ=>TV P a Q σ
theorem fh{P:Program}{c:Code}{ops:List VOper}{mode:RMode}(h:comp P c=some (.region ops mode [])) :
  ∃id j e,c=.region id j e/\cq P j j.toList=some ops/\((e=false/\mode=.text)\/(e=true/\∃ps ms,kk j ops.toArray=some (ps,ms)/\((mode=.calm/\ps=[]/\ops.all (fun v=>!v.op.makes)=true)\/mode=.drawn ps ms))):=by
 cases c with
 |region id j e=>
  simp only[comp]at h;split at h
  .next s n=>
   split at h
   .next m=>
    split at h
    .next ps ms q=>
     split at h
     .next i=>
      simp only[E_,VCode.region.injEq]at h;obtain⟨rfl,rfl,_⟩:=h;simp only[Bool.and_eq_true,List.isEmpty_iff]at i;exact⟨id,j,e,rfl,n,.inr ⟨by simpa using m,ps,ms,q,.inl ⟨rfl,i.1,i.2⟩⟩⟩
     simp only[E_,VCode.region.injEq]at h;obtain⟨rfl,rfl,_⟩:=h;exact⟨id,j,e,rfl,n,.inr ⟨by simpa using m,ps,ms,q,.inr rfl⟩⟩
    simp at h
   next m=>
   simp only[E_,VCode.region.injEq]at h;obtain⟨rfl,rfl,_⟩:=h;exact⟨id,j,e,rfl,n,.inl ⟨by simpa using m,rfl⟩⟩
  simp at h
 |skip=>simp[comp]at h
 |seq a b=>simp only[comp]at h;split at h<;>simp at h
 |cond c a b=>simp only[comp]at h;split at h<;>simp at h
 |block id a=>simp only[comp,Option.map_eq_some_iff]at h;obtain⟨_,_,h⟩:=h;simp at h
 |loop a=>simp only[comp,Option.map_eq_some_iff]at h;obtain⟨_,_,h⟩:=h;simp at h
 |rangeFunc f p a b=>simp[comp]at h
 |exit id=>simp[comp]at h
 |scope a=>simp only[comp,Option.map_eq_some_iff]at h;obtain⟨_,_,h⟩:=h;simp at h
 |label l=>simp[comp]at h
 |goto l=>simp[comp]at h
 |ret=>simp[comp]at h
 |refuse w=>simp[comp]at h
theorem aH{P:Program}{c:Code}{v:VCode}(h:comp P c=some v):match v with
  |.skip=>c=.skip
  |.region z q e=>e=[]
  |.seq x y=>∃a b,c=.seq a b/\comp P a=some x/\comp P b=some y
  |.cond u x y=>∃o a b,c=.cond o a b/\ap o=some u/\comp P a=some x/\comp P b=some y
  |.block id x=>∃a,c=.block id a/\comp P a=some x
  |.loop x=>∃a,c=.loop a/\comp P a=some x
  |.exit id=>c=.exit id
  |.scope x=>∃a,c=.scope a/\comp P a=some x
  |.label l=>c=.label l
  |.goto l=>c=.goto l
  |.ret=>c=.ret
  |.refuse=>∃j,c=.refuse j
  |.cut _=>False:=by
 cases c with
 |region id B s=>
  simp only[comp]at h;split at h
  .split at h
   .split at h
    .split at h<;>(obtain rfl:=O_ h;rfl)
    simp at h
   obtain rfl:=O_ h;rfl
  simp at h
 |skip=>obtain rfl:=O_ h;rfl
 |seq a b=>
  simp only[comp]at h;split at h
  .next x y m n=>obtain rfl:=O_ h;exact⟨a,b,rfl,m,n⟩
  simp at h
 |cond o a b=>
  simp only[comp]at h;split at h
  .next u x y A m n=>obtain rfl:=O_ h;exact⟨o,a,b,rfl,A,m,n⟩
  simp at h
 |block id a=>simp only[comp,Option.map_eq_some_iff]at h;obtain⟨x,i,rfl⟩:=h;exact⟨a,rfl,i⟩
 |loop a=>simp only[comp,Option.map_eq_some_iff]at h;obtain⟨x,i,rfl⟩:=h;exact⟨a,rfl,i⟩
 |rangeFunc f p a b=>simp[comp]at h
 |exit id=>obtain rfl:=O_ h;rfl
 |scope a=>simp only[comp,Option.map_eq_some_iff]at h;obtain⟨x,i,rfl⟩:=h;exact⟨a,rfl,i⟩
 |label l=>obtain rfl:=O_ h;rfl
 |goto l=>obtain rfl:=O_ h;rfl
 |ret=>obtain rfl:=O_ h;rfl
 |refuse w=>obtain rfl:=O_ h;exact⟨w,rfl⟩
theorem DZ{P:Program} : ∀ {l:List VOper} {σ c:St} {es:List Eff},m5 P l σ es c->c.n=σ.n
 |[],_,_,_,⟨_,h⟩=>by rw[h]
 |_::_,σ,c,_,⟨e,_,_,_,h⟩=>by rw[DZ h,x6]
def D2(P:Program)(c:Code)(Q:Exit->St->Prop)(σ:St):Prop:=∃id f e,c=.region id f e/\∀(w0:World) (h:bb) (M:Ctx) (a:Act) (w:World),gc w0 h M σ a w->
 (e=false->wpOps P f (DY w0 h M σ.n Q) (List.range f.size) a w)/\(e=true->wpAny P .any f (DY w0 h M σ.n Q) f.size (Array.replicate f.size false) a {w with drawn:=w.drawn+1 })
theorem D2.t{P:Program}(hm:P.follows .mixedOrders=true){c:Code}{Q:Exit->St->Prop}{σ:St}(h:D2 P c Q σ):T P c Q σ:=by
 obtain⟨id,C,u,rfl,h⟩:=h;intro w0 S0 M a w B;have:=h w0 S0 M a w B;cases u with
 |false=>exact wp_region (this.1 rfl)
 |true=>exact wp_region_any hm (this.2 rfl)
theorem vg{P:Program}(hm:P.follows .mixedOrders=true){c:Code}{f:List VOper}{A:RMode}{n:List Nat}(hc:comp P c=some (.region (aV f) A [])){Q:Exit->St->Prop}{σ:St}(hb:sW σ.n f=true)(h:pw P (.region f A n) Q σ):D2 P c Q σ:=by
 obtain⟨id,os,I,rfl,J,j⟩:=fh hc;refine⟨id,os,I,rfl,?_⟩;intro w0 S0 M a w hs;have hd:=ju hb
 have L:∀v∈aV f,∀d,v.dst=some d->d<σ.n:=by
  intro v J d b';obtain⟨i,D⟩:=List.getElem?_of_mem J;rw[jA]at D;cases N:f[i]? with
  |none=>rw[N]at D;simp at D
  |some x=>
   rw[N]at D;simp only[Option.map_some,E_]at D;subst D;exact hd x (List.mem_of_getElem? N) d b'
 have B:∀ {es:List Eff} {q:St},m5 P (aV f) σ es q->Q .normal (q.drop n)->∀Z w',gc w0 S0 M q Z w'->DY w0 S0 M σ.n Q .normal Z w':=fun m hq Z w' E=>⟨_,hq,(by have:=DZ m;exact this),qc _ _ _ _ _ _ _ E⟩
 have s:gc w0 S0 M σ a {w with drawn:=w.drawn+1 }:=by
  obtain⟨S,μ,β,C⟩:=hs;exact⟨S,μ,β,C.world (w':={w with drawn:=w.drawn+1 }) ⟨fun _ _ _=>rfl,fun _ _ h=>h⟩ (fun _ _ x=>x) (fun _ _ _ _ _=>rfl) (fun _ _ _ _ _ _ x=>x) C.stab (fun _ _ x=>.inl x) ⟨C.kept.os,C.kept.tape,C.kept.output,C.kept.size,C.kept.block,C.kept.shape⟩⟩
 rcases j with⟨rfl,rfl⟩|⟨rfl,ps,ms,u,j⟩
 .refine⟨fun _=>Qi (K:=fun O=>Q .normal (O.drop n)) J hs hd (by simpa only [pw]using h) (fun O Z w' hq hn E=>⟨_,hq,hn,qc _ _ _ _ _ _ _ E⟩),fun h=>by cases h⟩
 rcases j with⟨rfl,rfl,R⟩|rfl
 .obtain⟨es,q,m,U⟩:=D1 (by simpa only [pw]using h);replace m:=oq m;refine⟨fun h=>(by cases h),fun _=>K2 J u s L m ?_ (B m U)⟩;obtain⟨_,f',V⟩:=j7 0 m;have W:=wi 0 m
  have y:ms=[]:=by
   unfold kk at u;simp only at u;split at u
   .simp only[E_,Prod.mk.injEq]at u;rw[<-u.2,List.flatMap_eq_nil_iff];intro k hk;cases c':(aV f).toArray[k]? with
    |none=>rfl
    |some vk=>
     have X:vk∈aV f:=List.mem_of_getElem? (by simpa using c');have:=List.all_eq_true.1 R vk X;simp only[Bool.not_eq_true']at this;simp[this]
   simp at u
  subst y;unfold yW;simp only[List.all_nil,Bool.true_and,List.all_eq_true];intro e z;obtain⟨i,D,g'⟩:=List.mem_iff_getElem.1 z
  have:e.newId=none:=by
   cases hn:e.newId with
   |none=>rfl
   |some d=>
    exfalso;obtain⟨⟨o,N⟩,_⟩:=v8.1 hn
    have F:∃p∈kl 0 (aV f) es,p.e=e:=by
     have:∀(k:Nat) (l:List VOper) (es:List Eff),es.length=l.length->e∈es->∃p∈kl k l es,p.e=e:=by
      intro k l
      induction l generalizing k with
      |nil=>intro es hl z;simp at hl;subst hl;simp at z
      |cons o r ih=>
       intro es hl z;cases es with
       |nil=>simp at z
       |cons x es=>
        rcases List.mem_cons.1 z with rfl|z
        .exact⟨⟨k,o,e⟩,by simp[kl],rfl⟩
        obtain⟨p,u,d'⟩:=ih (k+1) es (by simpa using hl) z;exact⟨p,by simp[kl,u],d'⟩
     exact this 0 (aV f) es V z
    obtain⟨p,Y,rfl⟩:=F;obtain⟨h',s1⟩:=W p Y;have e':=(AI s1).2.1 (by rw[N];simp);obtain⟨_,h3,_⟩:=Gd V Y;have:=List.all_eq_true.1 R p.o (List.mem_of_getElem? h3);rw[e']at this;simp at this
  rw[this]
 obtain⟨es,q,m,U⟩:=CY (by simpa only [pw]using h);simp only[List.nil_append]at U;replace m:=oq m;exact⟨fun h=>(by cases h),fun _=>K2 J u s L m U.1 (B m U.2)⟩
theorem y6{a b:List VOper} : aV (a++b)=aV a++aV b:=by
 induction a with
 |nil=>rfl
 |cons o r c=>simp[aV,c]
theorem Bi{n:Nat}{a b:List VOper}(h:sW n (a++b)=true):sW n a=true/\sW n b=true:=by
 induction a with
 |nil=>exact⟨rfl,h⟩
 |cons o r c=>
  simp only[List.cons_append,sW,Bool.and_eq_true]at h |-;exact⟨⟨h.1,(c h.2).1⟩,(c h.2).2⟩
theorem E3{P:Program}(hm:P.follows .mixedOrders=true){c:Code}{l:List VOper}{e:RMode}{f:List Nat}(J:comp P c=some (.region (aV l) e.strip [])){Q:Exit->St->Prop}{σ:St}(m:(VCode.region l e f).bnd σ.n=true)(h:pw P (.region l e f) Q σ):D2 P c Q σ:=by
 simp only[VCode.bnd,Bool.and_eq_true]at m;obtain⟨m,z⟩:=m;cases e with
 |text=>exact vg hm J m h
 |calm=>exact vg hm J m h
 |drawn ps ms=>exact vg hm J m h
 |drawnM ps ms=>
  obtain⟨id,L,d',rfl,A,n⟩:=fh J;rcases n with⟨_,u⟩|⟨rfl,e',f',hp,⟨u,_⟩|u⟩
  .simp[RMode.strip]at u
  .simp[RMode.strip]at u
  simp only[RMode.strip,RMode.drawn.injEq]at u;obtain⟨rfl,rfl⟩:=u;refine⟨id,L,true,rfl,?_⟩;intro w0 S0 M a w hs
  have p:gc w0 S0 M σ a {w with drawn:=w.drawn+1 }:=by
   obtain⟨S,μ,β,j⟩:=hs;exact⟨S,μ,β,j.world (w':={w with drawn:=w.drawn+1 }) ⟨fun _ _ _=>rfl,fun _ _ h=>h⟩ (fun _ _ x=>x) (fun _ _ _ _ _=>rfl) (fun _ _ _ _ _ _ x=>x) j.stab (fun _ _ x=>.inl x) ⟨j.kept.os,j.kept.tape,j.kept.output,j.kept.size,j.kept.block,j.kept.shape⟩⟩
  obtain⟨q,last,es,O,rfl,B,h2,h3⟩:=za (by simpa only [pw]using h);obtain⟨R,U⟩:=Bi m;have V:es.length=q.length:=(j7 0 B).2.2;have hl:(aV q).length=q.length:=i8;replace B:=oq B;simp only[List.nil_append,V,<-hl]at h2;rw[y6]at A hp z
  have W:∀v∈aV q,∀d,v.dst=some d->d<σ.n:=by
   intro v A d s;obtain⟨i,y⟩:=List.getElem?_of_mem A;rw[jA]at y;cases X:q[i]? with
   |none=>rw[X]at y;simp at y
   |some x=>
    rw[X]at y;simp only[Option.map_some,E_]at y;subst y;exact ju R x (List.mem_of_getElem? X) d s
  refine⟨fun h=>(by cases h),fun _=>Sv (last:=last.strip) A hp z p W B h2 ?_⟩;intro N hN a' w' Y;obtain⟨C,D⟩:=dC A;have E:(aV q).length<L.toList.length:=by rw[<-C];simp[aV]
  obtain⟨v,F,Z⟩:=D _ _ (List.getElem?_eq_getElem E)
  have:v=last.strip:=by
   rw[List.getElem?_append_right (Nat.le_refl _)]at F;simpa[aV]using F.symm
  subst this;have hn:O.n=σ.n:=DZ B;refine qu (o:=L.toList[(aV q).length]) (by rw[<-Array.getElem?_toList];exact List.getElem?_eq_getElem E) Z Y (fun d s=>by rw[hn];exact ju U last (by simp) d s) h3 (fun b' g' h' hk c' I=>hN _ _ ?_);exact⟨_,hk,(by show b'.n=σ.n;rw[c',hn]),qc _ _ _ _ _ _ _ I⟩
theorem J5{P:Program} : ∀(v:VCode) {Q Q':Exit->St->Prop} {σ:St},(∀e σ,Q e σ->Q' e σ)->pw P v Q σ->pw P v Q' σ:=by
 have s:∀ {σ:St} {dst:Option Nat} {K n:Upd->Prop} {op:VOp},(∀u,K u->n u)->ey P σ dst K op->ey P σ dst n op:=by
  intro σ dst K n op m h;cases op
  case call f args=>
   simp only[ey]at h |-;split at h
   .obtain⟨r,B,y⟩:=h;refine⟨r,B,?_⟩;split at y
    .exact m _ y
    exact y
   exact h
  case callV f args=>
   simp only[ey]at h |-;split at h
   .obtain⟨r,B,y⟩:=h;refine⟨r,B,?_⟩;split at y
    .exact m _ y
    exact y
   exact h
  all_goals
   simp only[ey]at h |-;split at h
   .exact⟨h.1,m _ h.2⟩
   exact h
 have mm:∀ {σ:St} {dst:Option Nat} {K n:St->Prop} {op:VOp},(∀u,K u->n u)->pg P σ dst K op->pg P σ dst n op:=by
  intro σ dst K n op m h;cases op
  case callM f args=>
   obtain⟨k,vals,R,S,U,B,y,V,W,X,Y,Z⟩:=h;exact⟨k,vals,R,S,U,B,y,V,W,X,Y,m _ Z⟩
  case callMV f args=>
   obtain⟨k,vals,R,S,U,B,y,V,W,X,Y,Z⟩:=h;exact⟨k,vals,R,S,U,B,y,V,W,X,Y,m _ Z⟩
  all_goals
   simp only[pg]at h |-;exact s (fun u q=>m _ q) h
 have rm:∀(l:List VOper) {σ:St} {K n:St->Prop},(∀σ,K σ->n σ)->j9 P K l σ->j9 P n l σ:=by
  intro l
  induction l with
  |nil=>intro σ K n m h;exact m _ h
  |cons o r z=>
   intro σ K n m h;simp only[j9]at h |-;split at h
   .exact mm (fun u q=>z m q) h
   split at h
   .exact⟨fun p=>mm (fun u q=>z m q) (h.1 p),fun p=>z m (h.2 p)⟩
   exact h
 have rt:∀(l:List VOper) {σ:St} {K n:St->Prop},(∀σ,K σ->n σ)->pI P K l σ->pI P n l σ:=by
  intro l
  induction l with
  |nil=>intro σ K n m h;exact m _ h
  |cons o r z=>
   intro σ K n m h;simp only[pI]at h |-;split at h
   .exact s (fun u q=>z m q) h
   split at h
   .exact⟨fun p=>s (fun u q=>z m q) (h.1 p),fun p=>z m (h.2 p)⟩
   exact h
 have rd:∀(l:List VOper) {σ:St} {es:List Eff} {K n:List Eff->St->Prop},(∀es σ,K es σ->n es σ)->pH P K l σ es->pH P n l σ es:=by
  intro l
  induction l with
  |nil=>intro σ es K n m h;exact m _ _ h
  |cons o r z=>
   intro σ es K n m h;simp only[pH]at h |-;split at h
   .exact s (fun u q=>z m q) h
   split at h
   .exact⟨fun p=>s (fun u q=>z m q) (h.1 p),fun p=>z m (h.2 p)⟩
   exact h
 have a':∀(l:List VOper) {C σ:St} {ps ms:List (Nat×Nat)} {es:List Eff} {K n:St->Prop},(∀σ,K σ->n σ)->uD P K C ps ms l σ es->uD P n C ps ms l σ es:=by
  intro l
  induction l with
  |nil=>intro C σ ps ms es K n m h;exact h
  |cons o r z=>
   intro C σ ps ms es K n m h;cases r with
   |nil=>exact⟨h.1,rm [o] m h.2⟩
   |cons o2 r=>
    simp only[uD]at h |-;split at h
    .exact s (fun u q=>z m q) h
    exact h
 have lm:∀ {w0 D M N} {Q Q':Exit->St->Prop},(∀e σ,Q e σ->Q' e σ)->∀e a w,DY w0 D M N Q e a w->DY w0 D M N Q' e a w:=by
  intro w0 D M N Q Q' j e a w h;cases e<;>first|exact h|(obtain⟨σ,B,y⟩:=h;exact⟨σ,j _ _ B,y⟩)
 intro v
 induction v with
 |skip=>intro Q Q' σ j h;exact j _ _ h
 |region E J c'=>
  intro Q Q' σ j h;cases J with
  |text=>exact rm E (fun σ h=>j _ _ h) h
  |calm=>exact rt E (fun σ h=>j _ _ h) h
  |drawn ps ms=>exact rd E (fun es σ h=>⟨h.1,j _ _ h.2⟩) h
  |drawnM ps ms=>exact a' E (fun σ h=>j _ _ h) h
 |seq a b A F=>
  intro Q Q' σ j h;refine A (fun e b' I=>?_) h;cases e<;>first|exact F j I|exact j _ _ I
 |cond c a b A F=>
  intro Q Q' σ j h;simp only[pw]at h |-;split at h
  .exact⟨fun ht=>A j (h.1 ht),fun ht=>F j (h.2 ht)⟩
  .exact⟨A j h.1,F j h.2⟩
  exact h
 |block id a A=>
  intro Q Q' σ j h;refine A (fun e b' I=>?_) h;cases e
  case exit i=>
   dsimp only at I |-;split
   .next hi=>rw[if_pos hi]at I;exact j _ _ I
   next hi=>rw[if_neg hi]at I;exact j _ _ I
  all_goals exact j _ _ I
 |loop a _=>intro Q Q' σ j h c p L w0 D M x w O;exact wp_mono (h c p L w0 D M x w O) (lm j)
 |exit id=>intro Q Q' σ j h;exact j _ _ h
 |scope a _=>intro Q Q' σ j h c p L w0 D M x w O;exact wp_mono (h c p L w0 D M x w O) (lm j)
 |label l=>intro Q Q' σ j h;exact j _ _ h
 |goto l=>intro Q Q' σ j h;exact j _ _ h
 |ret=>intro Q Q' σ j h;exact j _ _ h
 |refuse=>intro Q Q' σ j h;exact h
 |cut a _=>intro Q Q' σ j h c p L w0 D M x w O;exact wp_mono (h c p L w0 D M x w O) (lm j)
theorem agM{w0:World}{S0:bb}{M:Ctx}{σ c:St}{a:Act}{w f:World}(h:gc w0 S0 M σ a w)(e:gc w0 S0 M c a f):c.n=σ.n:=by
 obtain⟨_,_,_,h⟩:=h;obtain⟨_,_,_,e⟩:=e;rw[<-h.size,<-e.size]
end Go.Vs
namespace Go.Vs
theorem kK{P:Program}(hm:P.follows .mixedOrders=true):∀(v:VCode) {Q:Exit->St->Prop} {σ:St},pw P v Q σ->TV P v Q σ:=by
 intro v
 induction v with
 |skip=>
  intro Q σ h c n _ w0 s M a w j;have e:c=Code.skip:=aH n;subst e;exact wp_skip ⟨σ,h,rfl,j⟩
 |region Y R U=>
  intro Q σ h c n u;exact(E3 hm n u h).t hm
 |seq x y z A=>
  intro Q σ h c n u w0 s M a w j;obtain⟨p,q,rfl,D,I⟩:=aH n;simp only[VCode.bnd,Bool.and_eq_true]at u;refine wp_seq (wp_mono (z h p D u.1 w0 s M a w j) (fun e V W E=>?_));cases e
  case normal=>
   obtain⟨B,C,F,J⟩:=E;have:=A C q I (by rw[F];exact u.2) w0 s M V W J;rw[F]at this;exact this
  all_goals exact E
 |cond o x y z A=>
  intro Q σ h c n u w0 s M a w j;obtain⟨p,q,r,rfl,X,D,I⟩:=aH n;simp only[VCode.bnd,Bool.and_eq_true]at u;simp only[pw]at h;split at h
  .next t L=>
   obtain⟨S,Z,β,N⟩:=id j;have f:=ax N X;rw[L]at f;exact wp_cond_split f (fun e=>z (h.1 e) q D u.1 w0 s M a w j) (fun e=>A (h.2 e) r I u.2 w0 s M a w j)
  .next L=>
   obtain⟨S,Z,β,N⟩:=id j;have f:=ax N X;rw[L]at f;obtain⟨t,f⟩:=f;exact wp_cond_split f (fun _=>z h.1 q D u.1 w0 s M a w j) (fun _=>A h.2 r I u.2 w0 s M a w j)
  exact h.elim
 |block id x ih=>
  intro Q σ h c n u w0 s M a w j;obtain⟨p,rfl,D⟩:=aH n;refine wp_block (wp_mono (ih h p D u w0 s M a w j) (fun e V W E=>?_));cases e
  case exit i=>
   obtain⟨B,C,F,J⟩:=E;dsimp only at C;simp only[Exit.inBlock];split
   .next O=>rw[if_pos O]at C;exact⟨B,C,F,J⟩
   next O=>rw[if_neg O]at C;exact⟨B,C,F,J⟩
  all_goals exact E
 |loop x _=>exact fun h=>h
 |exit id=>
  intro Q σ h c n _ w0 s M a w j;have e:c=Code.exit id:=aH n;subst e;exact wp_exit ⟨σ,h,rfl,j⟩
 |scope x _=>exact fun h=>h
 |label l=>
  intro Q σ h c n _ w0 s M a w j;have e:c=Code.label l:=aH n;subst e;exact wp_label ⟨σ,h,rfl,j⟩
 |goto l=>
  intro Q σ h c n _ w0 s M a w j;have e:c=Code.goto l:=aH n;subst e;exact wp_goto ⟨σ,h,rfl,j⟩
 |refuse=>intro Q σ h;exact h.elim
 |cut x _=>exact fun h=>h
 |ret=>
  intro Q σ h c n _ w0 s M a w j;have e:c=Code.ret:=aH n;subst e;exact wp_ret ⟨σ,h,rfl,j⟩
section
variable {P:Program}
theorem aes(hm:P.follows .mixedOrders=true){C:Type}(I:C->St)(A:C->Prop)(m:C->Nat){b:VCode}{Q:Exit->St->Prop}{σ:St}(E:C)(X:A E)(Y:cJ σ (I E))(S:∀i,(I i).n=σ.n)
  (q:∀i,A i->pw P b (fun e l=>match e with
    |.normal=>∃j,A j/\m j<m i/\cJ l (I j)
    |e=>Q e l) (I i)):TV P (.loop b) Q σ:=by
 intro c Z hb w0 f M a w hs;obtain⟨p,rfl,y⟩:=aH Z
 have F:∀n i,m i=n->A i->∀a w,gc w0 f M (I i) a w->(Code.loop p).wp P (DY w0 f M σ.n Q) a w:=by
  intro n i b' J a w L;refine wp_loop (fun a w=>∃i,A i/\gc w0 f M (I i) a w) (fun a w=>Classical.epsilon fun k=>∃i,A i/\gc w0 f M (I i) a w/\m i=k/\∀j,A j->gc w0 f M (I j) a w->k<=m j) ⟨i,J,L⟩ ?_
  have o:∀(a:Act) (w:World),(∃i,A i/\gc w0 f M (I i) a w)->∃k,∃i,A i/\gc w0 f M (I i) a w/\m i=k/\∀j,A j->gc w0 f M (I j) a w->k<=m j:=by
   intro a w ⟨i,Ng,s⟩
   have:∀n i,m i<=n->A i->gc w0 f M (I i) a w->∃k,∃i,A i/\gc w0 f M (I i) a w/\m i=k/\∀j,A j->gc w0 f M (I j) a w->k<=m j:=by
    intro n
    induction n with
    |zero=>intro i u y N;exact⟨m i,i,y,N,rfl,fun j _ _=>by omega⟩
    |succ n ih=>
     intro i u y N;by_cases hex:∃j,A j/\gc w0 f M (I j) a w/\m j<m i
     .obtain⟨j,v,D,U⟩:=hex;exact ih j (by omega) v D
     exact⟨m i,i,y,N,rfl,fun j v D=>by
      rcases Nat.lt_or_ge (m j) (m i)with h|h
      .exact absurd ⟨j,v,D,h⟩ hex
      exact h⟩
   exact this (m i) i (Nat.le_refl _) Ng s
  intro a w hI;have u:=o a w hI;obtain⟨i,Ng,s,c',d'⟩:=Classical.epsilon_spec u;have hr:=kK hm b (q i Ng) p y (by rw[S];exact hb) w0 f M a w s;refine wp_mono hr (fun e V W O=>?_);cases e
  case normal=>
   obtain⟨l,⟨j,v,D,U⟩,_,R⟩:=O;have x:=U w0 f M V W R;have z:=o V W ⟨j,v,x⟩;obtain⟨_,_,_,_,B⟩:=Classical.epsilon_spec z;refine⟨⟨j,v,x⟩,?_⟩;have:=B j v x;omega
  all_goals
   first
    |exact O
    |(obtain⟨l,k1,k2,R⟩:=O;exact⟨l,k1,by rw[k2,S],R⟩)
 exact F _ E rfl X a w (Y w0 f M a w hs)
def y7:VCode->Nat->Option VCode
 |.seq a b,l=>match y7 a l with
  |some r=>some (.seq r b)
  |none=>y7 b l
 |.label c,l=>if c==l then some .skip else none
 |.cut a,l=>y7 a l
 |_,_=>none
theorem SD:∀(v:VCode) {c:Code} {l:Nat} {r:VCode},comp P c=some v.strip->y7 v l=some r->∃q,findLabel c l=some q/\comp P q=some r.strip/\∀n,v.bnd n=true->r.bnd n=true:=by
 intro v
 induction v with
 |seq a b m s=>
  intro c l r f i;obtain⟨p,q,rfl,y,z⟩:=aH f;simp only[y7]at i;split at i
  .next O u=>
   obtain rfl:=O_ i;obtain⟨A,B,C,D⟩:=m y u;refine⟨.seq A q,by simp[findLabel,B],by simp[comp,C,z,VCode.strip],fun n x=>?_⟩;simp only[VCode.bnd,Bool.and_eq_true]at x |-;exact⟨D n x.1,x.2⟩
  next u=>
  obtain⟨A,B,C,D⟩:=s z i;refine⟨A,?_,C,fun n x=>?_⟩
  .have:findLabel p l=none:=by
    have j:∀(v:VCode) {c:Code},comp P c=some v.strip->y7 v l=none->findLabel c l=none:=by
     intro v
     induction v with
     |seq a b m s=>
      intro c f i;obtain⟨p,q,rfl,y,z⟩:=aH f;simp only[y7]at i;split at i
      .simp at i
      next M=>simp[findLabel,m y M,s z i]
     |label E=>
      intro c f i;have e:c=Code.label E:=aH f;subst e;simp only[y7]at i;simp only[findLabel];split at i
      .simp at i
      next h=>rw[if_neg h]
     |region N I J=>
      intro c f _;obtain⟨id,R,L,rfl,_⟩:=fh f;rfl
     |skip=>intro c f _;have e:c=Code.skip:=aH f;subst e;rfl
     |cond o a b=>intro c f _;obtain⟨_,_,_,rfl,_⟩:=aH f;rfl
     |block id a=>intro c f _;obtain⟨_,rfl,_⟩:=aH f;rfl
     |loop a=>intro c f _;obtain⟨_,rfl,_⟩:=aH f;rfl
     |scope a=>intro c f _;obtain⟨_,rfl,_⟩:=aH f;rfl
     |exit id=>intro c f _;have e:c=Code.exit id:=aH f;subst e;rfl
     |goto l=>intro c f _;have e:c=Code.goto l:=aH f;subst e;rfl
     |ret=>intro c f _;have e:c=Code.ret:=aH f;subst e;rfl
     |refuse=>intro c f _;obtain⟨_,rfl⟩:=aH f;rfl
     |cut a F=>intro c f i;exact F f i
    exact j a y u
   simp[findLabel,this,B]
  simp only[VCode.bnd,Bool.and_eq_true]at x;exact D n x.2
 |label E=>
  intro c l r f i;have e:c=Code.label E:=aH f;subst e;simp only[y7]at i;split at i
  .next h=>
   obtain rfl:=O_ i;exact⟨.skip,by simp only[findLabel];rw[if_pos h],rfl,fun _ _=>rfl⟩
  simp at i
 |cut a F=>intro c l r f i;exact F f i
 |_=>intro c l r _ i;simp[y7]at i
theorem aa0(hm:P.follows .mixedOrders=true){N:Type}(l:Nat)(I:N->St)(A:N->Prop)(m:N->Nat){b r:VCode}{Q:Exit->St->Prop}{σ:St}(Z:y7 b l=some r)(X:∀i,(I i).n=σ.n)
  (first:pw P b (fun e f=>match e with
    |.goto E=>E=l/\∃j,A j/\cJ f (I j)
    |e=>Q e f) σ)
  (v:∀i,A i->pw P r (fun e f=>match e with
    |.goto E=>E=l/\∃j,A j/\m j<m i/\cJ f (I j)
    |e=>Q e f) (I i)):TV P (.scope b) Q σ:=by
 intro c hc Y w0 o M a w hs;obtain⟨p,rfl,C⟩:=aH hc;obtain⟨q,O,R,S⟩:=SD b C Z
 have s:∀(a:Act) (w:World),(∃i,A i/\gc w0 o M (I i) a w)->∃k,∃i,A i/\gc w0 o M (I i) a w/\m i=k/\∀j,A j->gc w0 o M (I j) a w->k<=m j:=by
  intro a w ⟨i,Ng,x⟩
  have:∀n i,m i<=n->A i->gc w0 o M (I i) a w->∃k,∃i,A i/\gc w0 o M (I i) a w/\m i=k/\∀j,A j->gc w0 o M (I j) a w->k<=m j:=by
   intro n
   induction n with
   |zero=>intro i y C U;exact⟨m i,i,C,U,rfl,fun j _ _=>by omega⟩
   |succ n ih=>
    intro i y C U;by_cases hex:∃j,A j/\gc w0 o M (I j) a w/\m j<m i
    .obtain⟨j,z,u,V⟩:=hex;exact ih j (by omega) z u
    exact⟨m i,i,C,U,rfl,fun j z u=>by
     rcases Nat.lt_or_ge (m j) (m i)with h|h
     .exact absurd ⟨j,z,u,h⟩ hex
     exact h⟩
  exact this (m i) i (Nat.le_refl _) Ng x
 refine wp_scope_jumps l (fun a w=>∃i,A i/\gc w0 o M (I i) a w) (fun a w=>Classical.epsilon fun k=>∃i,A i/\gc w0 o M (I i) a w/\m i=k/\∀j,A j->gc w0 o M (I j) a w->k<=m j) O ?_ ?_
 .refine wp_mono (kK hm b first p C Y w0 o M a w hs) (fun e J L D=>?_);cases e
  case goto E=>
   obtain⟨f,⟨z,j,u,V⟩,_,W⟩:=D;exact⟨z,j,u,V w0 o M J L W⟩
  all_goals exact D
 intro a w hI;have y:=s a w hI;obtain⟨i,Ng,x,b',c'⟩:=Classical.epsilon_spec y;refine wp_mono (kK hm r (v i Ng) q R (by rw[X];exact S _ Y) w0 o M a w x) (fun e J L D=>?_);cases e
 case goto E=>
  obtain⟨f,⟨z,j,u,V,W⟩,_,j5⟩:=D;have B:=W w0 o M J L j5;obtain⟨_,_,_,_,F⟩:=Classical.epsilon_spec (s J L ⟨j,u,B⟩);refine⟨z,⟨j,u,B⟩,?_⟩;have:=F j u B;omega
 all_goals
  first
   |exact D
   |(obtain⟨f,O,R,S⟩:=D;exact⟨f,O,by rw[R,X],S⟩)
theorem ahq(hm:P.follows .mixedOrders=true){l:Type}(I:l->St)(A:l->Prop){x y:VCode}{Q:Exit->St->Prop}{σ:St}(m:∀i,(I i).n=σ.n)
  (u:pw P x (fun e f=>match e with
    |.normal=>∃i,A i/\cJ f (I i)
    |e=>Q e f) σ) (v:∀i,A i->pw P y Q (I i)):TV P (.seq x y) Q σ:=by
 intro c z h w0 j M a w B;obtain⟨p,q,rfl,C,D⟩:=aH z;simp only[VCode.bnd,Bool.and_eq_true]at h;refine wp_seq (wp_mono (kK hm x u p C h.1 w0 j M a w B) (fun e n o s=>?_));cases e
 case normal=>
  obtain⟨f,⟨i,E,F⟩,L,J⟩:=s;have:=kK hm y (v i E) q D (by rw[m];exact h.2) w0 j M n o (F w0 j M n o J);rw[m]at this;exact this
 all_goals exact s
def bj(env:List (Nat×SV)):List (Nat×SV)->Prop
 |[]=>True
 |(k,v)::r=>aE env k=v/\bj env r
def bZ(objs:List (Nat×Ob)):List (Nat×Ob)->Prop
 |[]=>True
 |(k,o)::r=>ac objs k=some o/\bZ objs r
theorem OF{c:List (Nat×SV)} : ∀ {l:List (Nat×SV)},bj c l->∀k,aE l k=.undef\/aE l k=aE c k
 |[],_,_=>.inl rfl
 |(j,v)::r,h,k=>by
  simp only[aE,ac];cases e:j==k with
  |true=>rw[beq_iff_eq]at e;subst e;exact .inr h.1.symm
  |false=>exact OF h.2 k
theorem OG{c:List (Nat×Ob)} : ∀ {l:List (Nat×Ob)},bZ c l->∀k o,ac l k=some o->ac c k=some o
 |[],_,_,_,h=>by simp[ac]at h
 |(j,v)::r,h,k,o,e=>by
  simp only[ac]at e;cases f:j==k with
  |true=>rw[f]at e;rw[beq_iff_eq]at f;subst f;simp at e;subst e;exact h.1
  |false=>rw[f]at e;exact OG h.2 k o e
def bX(e ro':List Nat):List (Nat×Ob)->Bool
 |[]=>true
 |(k,_)::r=>(!e.contains k||ro'.contains k)&&bX e ro' r
theorem OH{f c:List Nat} : ∀ {l:List (Nat×Ob)},bX f c l=true->∀i o,ac l i=some o->i∈f->i∈c
 |[],_,_,_,h,_=>by simp[ac]at h
 |(j,v)::r,h,i,o,m,p=>by
  simp only[bX,Bool.and_eq_true]at h;simp only[ac]at m;cases n:j==i with
  |true=>
   rw[beq_iff_eq]at n;subst n;have:=h.1;simp only[Bool.or_eq_true,Bool.not_eq_true']at this;rcases this with e|e
   .have:f.contains j=true:=by simpa using p
    rw[this]at e;simp at e
   simpa using e
  |false=>rw[n]at m;exact OH h.2 i o m p
theorem an{σ e:St}(o:e.n=σ.n)(m:e.gl=σ.gl)(p:bj σ.env e.env)(q:bZ σ.objs e.objs)(y:bX σ.ro e.ro e.objs=true):cJ σ e:=by
 rintro w0 B M a w ⟨S,z,A,h⟩;exact⟨S,z,A,h.drop o m (OH y) (OF p) (OG q)⟩
def St.adopt(σ:St)(k id s:Nat):St:={σ with env:=put (dB id σ.env) k (.own id 0),objs:=cp id (put σ.objs id (.arr 0 s [])) }
theorem fu{σ:St}{k:Nat}(id s:Nat)(hid:id<σ.n)(y:aE σ.env k=.nils):cJ σ (σ.adopt k id s):=by
 rintro w0 D M a w ⟨S,E,F,h⟩;have f:=h.env k;rw[y]at f;obtain⟨x,m⟩:=f;have z:=h.create id hid (.arr 0 s []) none (.slice x 0 0) (Kept.refl _ _) (by simp) (.inl ⟨rfl,rfl,x,rfl⟩)
 have l:k<σ.n:=by
  rcases Nat.lt_or_ge k σ.n with o|o
  .exact o
  rw[<-h.size]at o;rw[Array.getD,dif_neg (by omega)]at m;simp[Go.undef]at m
 have q:=z.put (sv:=.own id 0) (v:=.slice x 0 0) l (by
  intro I J u p;rw[cn,dP]at p;simp only[Option.map_some,Ob.erase,E_,Ob.arr.injEq]at p;obtain⟨rfl,_,_⟩:=p
  exact⟨Nat.le_refl _,fun _=>by simp⟩)
 have A:a.put (some k) (.slice x 0 0)=a:=by
  have B:k<a.tmps.size:=by rw[h.size];exact l
  have:a.tmps.setIfInBounds k (.slice x 0 0)=a.tmps:=by
   apply Array.ext
   .simp
   intro i L C;rw[Array.getElem_setIfInBounds];split
   .next e=>subst e;rw[<-m];simp[C]
   rfl
  simp only[Act.put,this]
 rw[A]at q;exact⟨S,_,_,q⟩
end
end Go.Vs
namespace Go.Vs
inductive VRes where
 |tmp (t:Nat)
 |cell (t:Nat) (agg:Option Nat)
 deriving Inhabited,Repr
def cw(P:Program):List ResultVar->Option (List VRes)
 |[]=>some []
 |.tmp t::r=>(cw P r).map (VRes.tmp t::·)
 |.cell t c::r=>match y4 P c,cw P r with
  |some g,some f=>some (.cell t g::f)
  |_,_=>none
def X5(σ:St):VRes->Option (IV×List Nat)
 |.tmp t=>DK σ.objs (aE σ.env t)
 |.cell t g=>match aE σ.env t with
  |.loc id f=>match ac σ.objs id with
   |some (.box e)=>match g with
    |some n=>if f+n<=e.length then DK σ.objs (DI ((e.drop f).take n))else none
    |none=>match e[f]? with
     |some c=>DK σ.objs c
     |none=>none
   |_=>none
  |_=>none
def sX(σ:St):List VRes->Option (List IV×List Nat)
 |[]=>some ([],[])
 |x::r=>match X5 σ x,sX σ r with
  |some (v,f),some (c,e)=>some (v::c,f++e)
  |_,_=>none
def K7(σ:St)(c:List VRes):Option IV:=match sX σ c with
 |some ([v],_)=>some v
 |some (e,_)=>some (.tuple e)
 |none=>none
def K8(σ:St):List VRes->Option (Nat×List (List IV))
 |[.tmp t]=>match aE σ.env t with
  |.own id e=>match ac σ.objs id with
   |some (.arr f s c)=>if e==f&&!σ.ro.contains id then some (s,c)else none
   |_=>none
  |_=>none
 |_=>none
def zb(e:List VRes)(r:Res):Exit->St->Prop
 |.normal,σ=>match r with
  |.imm v=>K7 σ e=some v
  |.own s c=>K8 σ e=some (s,c)
 |.ret,σ=>match r with
  |.imm v=>K7 σ e=some v
  |.own s c=>K8 σ e=some (s,c)
 |_,_=>False
def N9:Nat->List IV->List (Nat×SV)
 |_,[]=>[]
 |i,x::r=>(i,.val x)::N9 (i+1) r
def st0(e:List (Nat×List IV))(c:List IV)(n:Nat):St:=⟨N9 0 c,[],[],n,e⟩
def Ctx.nothing:Ctx:=⟨fun _=>False,[],fun _=>Go.undef,[]⟩
structure FnOk(P:Program)(k:FuncId)(v:VCode)(rs:List VRes)(n:Nat):Prop where
 ok:∃fn c,P.funcs[k]?=some fn/\fn.name≠ "runtime.NumGoroutine"/\fn.body=some c/\comp P c=some v.strip/\v.bnd n=true/\cw P fn.results.toList=some rs/\fn.ntmps=n
theorem SE{w:World}{S:bb}{μ:Nat->Value}{objs:List (Nat×Ob)} : ∀ {c:List IV} {m:List Value} (i:Nat),br w S c m->∀k,au w S μ objs (aE (N9 i c) k) ((m[k-i]?).getD Go.undef)
 |[],_,i,_,k=>trivial
 |x::r,_,i,⟨v,n,o,p,q⟩,k=>by
  subst o;simp only[N9,aE,ac];cases e:i==k with
  |true=>
   rw[beq_iff_eq]at e;subst e;simp only[cond_true,Option.getD_some,Nat.sub_self,List.getElem?_cons_zero];exact p
  |false=>
   have s:i≠k:=by simpa using e
   have f:=SE (μ:=μ) (objs:=objs) (i+1) q k;simp only[cond_false];rcases Nat.lt_or_ge i k with u|z
   .rw[show k-i=(k-(i+1))+1 by omega];rw[List.getElem?_cons_succ];exact f
   have:aE (N9 (i+1) r) k=.undef:=by
    have h:∀(l:List IV) (j:Nat),k<j->aE (N9 j l) k=.undef:=by
     intro l
     induction l with
     |nil=>intro j _;rfl
     |cons y l f=>
      intro j A;have:(j==k)=false:=by simp;omega
      simp only[N9,aE,ac,this,cond_false];exact f (j+1) (by omega)
    exact h r (i+1) (by omega)
   show au _ _ _ _ (aE (N9 (i+1) r) k) _;rw[this];trivial
theorem aet{w:World}{S:bb}{args:List IV}{c:List Value}(s:∀b o,S b o->b<w.heap.size)(h:br w S args c){gl:List (Nat×List IV)}(j:∀p,p∈gl->jt w S p){n:Nat}(z:args.length<=n) :
  gc w S Ctx.nothing (st0 gl args n) {tmps:=c.toArray++Array.replicate (n-c.toArray.size) Go.undef,defers:=[] } w:=by
 have A:=br.length h;refine⟨S,fun _=>Go.undef,fun _=>none,{defers:=rfl,size:=?_,env:=?_,objs:=?_,inj:=?_,own:=?_,unst:=?_,stab:=s,ext:=fun _ _ x=>x,back:=fun _ _ x=>.inl x,kept:=Kept.refl _ _,stay:=fun _ _ _=>rfl,hist:=fun p l=>by simp[Ctx.nothing]at l,far:=fun p l=>by simp[Ctx.nothing]at l,glob:=j }⟩
 .simp[st0];omega
 .intro k;have:=SE (μ:=fun _=>Go.undef) (objs:=[]) 0 h k
  have e:(c.toArray++Array.replicate (n-c.toArray.size) Go.undef).getD k Go.undef=(c[k-0]?).getD Go.undef:=by
   rw[Nat.sub_zero];rcases Nat.lt_or_ge k c.length with i|i
   .simp[Array.getD,i,Array.getElem_append_left,Nat.lt_add_right]
   rw[List.getElem?_eq_none i,Option.getD_none];rw[Array.getD_eq_getD_getElem?,Array.getElem?_append_right (by simpa using i),Array.getElem?_replicate];split<;>rfl
  show au _ _ _ _ (aE (N9 0 args) k) _;rw[e];exact this
 .intro id o f;simp[st0,ac]at f
 .intro id u o B b f;simp[st0,ac]at f
 .intro id o b f;simp[st0,ac]at f
 intro id o b y f;simp[st0,ac]at f
section
variable {P:Program}
theorem SF{w0 w:World}{X S:bb}{M:Ctx}{σ:St}{a:Act}{Y:Nat->Value}{J:Nat->Option Nat}(h:SimG w0 X M σ a w S Y J){B:ResultVar}{x:VRes}{l:List ResultVar}{Z:List VRes}(p:cw P (B::l)=some (x::Z)){v:IV}{L y:List Nat}
  (f:X5 σ x=some (v,L)) (C:∀i,i∈L->i∈y) :
  ∃u,(match B with|.tmp t=>(pure (a.tmps.getD t Go.undef):Sem Value)|.cell ad t=>do loadVar t (<-asAddr (a.tmps.getD ad Go.undef))).run P w=.ok u w/\sI w (dH S J σ.objs y) v u:=by
 cases B with
 |tmp t=>
  simp only[cw,Option.map_eq_some_iff]at p;obtain⟨r,_,N⟩:=p;simp only[List.cons.injEq]at N;obtain⟨rfl,_⟩:=N;exact⟨_,rfl,nl h f C (h.env t)⟩
 |cell t ty=>
  simp only[cw]at p;split at p
  .next g a' O _=>
   simp only[E_,List.cons.injEq]at p;obtain⟨rfl,_⟩:=p;simp only[X5]at f;split at f
   .next id q D=>
    have o:=h.env t;rw[D]at o;split at f
    .next E hl=>
     obtain⟨b,R,e,fr,_,_,U,V,_,s⟩:=lz h hl o;split at f
     .next n=>
      split at f
      .next b'=>
       have F:=al.take n (al.drop q s)
       have z:((R.toList.drop q).take n).length=n:=by
        have:=al.length s;rw[List.length_take,List.length_drop];omega
       refine⟨.agg ((R.toList.drop q).take n).toArray,?_,nl h f C (nG F)⟩;simp only[U,asAddr,Sem.run_bind,Sem.run_pure,Result.andThen_ok]
       exact nH O z (fun j v A=>by
        rw[List.getElem?_take]at A;split at A
        .rw[List.getElem?_drop,Array.getElem?_toList]at A;rw[fE V];exact A
        simp at A)
      simp at f
     split at f
     .next c I=>
      obtain⟨v',W,_,h2⟩:=al.get s I;refine⟨v',?_,nl h f C h2⟩;simp only[U,asAddr,Sem.run_bind,Sem.run_pure,Result.andThen_ok];exact qr O (by rw[fE V];rw[Array.getElem?_toList]at W;exact W)
     simp at f
    simp at f
   simp at f
  simp at p
theorem rT{w0 w:World}{D S:bb}{M:Ctx}{σ:St}{a:Act}{E:Nat->Value}{A:Nat->Option Nat}(h:SimG w0 D M σ a w S E A):∀ {l:List ResultVar} {n:List VRes},cw P l=some n->∀ {p:List IV} {q fz':List Nat},
  sX σ n=some (p,q)->(∀i,i∈q->i∈fz')->
  ∃us,(l.mapM (m:=Sem) fun s=>match s with|.tmp t=>(pure (a.tmps.getD t Go.undef):Sem Value)|.cell F t=>do loadVar t (<-asAddr (a.tmps.getD F Go.undef))).run P w=.ok us w/\br w (dH S A σ.objs fz') p us
 |[],n,c,p,q,fz',e,_=>by
  simp only[cw,E_]at c;subst c;simp only[sX,E_,Prod.mk.injEq]at e;obtain⟨rfl,_⟩:=e;exact⟨[],rfl,rfl⟩
 |s::l,n,c,p,q,fz',e,B=>by
  obtain⟨x,j,rfl,y⟩:∃x j,n=x::j/\cw P l=some j:=by
   cases s with
   |tmp t=>
    simp only[cw,Option.map_eq_some_iff]at c;obtain⟨r,o,I⟩:=c;exact⟨_,r,I.symm,o⟩
   |cell t U=>
    simp only[cw]at c;split at c
    .next g r V o=>obtain rfl:=O_ c;exact⟨_,r,rfl,o⟩
    simp at c
  simp only[sX]at e;split at e
  .next v f J W o L=>
   simp only[E_,Prod.mk.injEq]at e;obtain⟨rfl,rfl⟩:=e;obtain⟨u,C,N⟩:=SF h c o (fun i z=>B i (List.mem_append_left _ z));obtain⟨us,O,R⟩:=rT h y L (fun i z=>B i (List.mem_append_right _ z));refine⟨u::us,?_,⟨u,us,rfl,N,R⟩⟩;rw[List.mapM_cons];simp only[Sem.run_bind,O,Sem.run_pure];cases s<;>simp only at C<;>(first|(rw[Sem.run_bind]at C)|skip)<;>simp_all [Result.andThen]
  simp at e
theorem ae(hm:P.follows .mixedOrders=true){k:FuncId}{v:VCode}{rs:List VRes}{n:Nat}(h':FnOk P k v rs n){gl:List (Nat×List IV)}{L:List IV}{r:Res}(hn:L.length<=n)(h:pw P v (zb rs r) (st0 gl L n)):CV gl P k L r:=by
 obtain⟨R,c,hf,W,M,X,a',q,i'⟩:=h';refine⟨⟨R,hf,W⟩,fun w S vs hS b' j'=>.inl ⟨⟨R,hf,by rw[M];rfl⟩,?_⟩⟩;subst i';refine calls_of_wp hf M ?_;refine wp_mono (kK hm v h c X a' w S Ctx.nothing _ w (aet hS b' j' hn)) (fun e a J A=>?_)
 have c':∀σ,zb rs r .ret σ->gc w S Ctx.nothing σ a J->a.defers=[]/\∃u,(results R a.tmps).run P J=.ok u J/\∃v S',Ending.returned u=.returned v/\V4 w S J S' r v/\(∀b o,S b o->S' b o)/\(∀b o,S' b o->S b o\/w.heap.size<=b)/\(∀b o,S' b o->b<J.heap.size)/\Kept (fun _=>False) w J:=by
  rintro σ B ⟨S1,μ,β,E⟩;refine⟨E.defers,?_⟩;cases r with
  |imm x=>
   simp only[zb,K7]at B
   have C:∀N:List Value,(R.results.toList.mapM (m:=Sem) fun rv=>match rv with|.tmp t=>(pure (a.tmps.getD t Go.undef):Sem Value)|.cell ad t=>do loadVar t (<-asAddr (a.tmps.getD ad Go.undef))).run P J=.ok N J->
     (results R a.tmps).run P J=.ok (if h:N.toArray.size=1 then N.toArray[0]else .tuple N.toArray) J:=by
    intro N k';unfold results;rw[Sem.run_bind,Array.mapM_eq_mapM_toList]
    have:((List.toArray <$> R.results.toList.mapM (m:=Sem) fun rv=>match rv with|.tmp t=>(pure (a.tmps.getD t Go.undef):Sem Value)|.cell ad t=>do loadVar t (<-asAddr (a.tmps.getD ad Go.undef))):Sem (Array Value)).run P J=.ok N.toArray J:=by
     rw[Sem.run_map,k'];rfl
    first
     |(rw[this];rfl)
     |(erw [this];rfl)
   have ext:∀D,(∀b o,S b o->dH S1 β σ.objs D b o)/\(∀b o,dH S1 β σ.objs D b o->S b o\/w.heap.size<=b)/\(∀b o,dH S1 β σ.objs D b o->b<J.heap.size):=by
    intro D;have I:=E.freeze D;refine⟨fun b o U=>.inl (E.ext b o U),fun b o U=>?_,I.stab⟩;rcases I.back b o U with O|O|O
    .exact .inl O
    .exact .inr O
    exact O.elim
   split at B
   .next v' D Z=>
    obtain rfl:=O_ B;obtain⟨N,z,I⟩:=rT (fz':=D) E q Z (fun _ x=>x);obtain⟨u,l',rfl,O,h4⟩:=I;have h4:l'=[]:=h4;subst h4;have:=C _ z;exact⟨u,by simpa using this,u,_,rfl,O,(ext D).1,(ext D).2.1,(ext D).2.2,E.kept⟩
   .next y' D Y Z=>
    obtain rfl:=O_ B;obtain⟨N,z,I⟩:=rT (fz':=D) E q Z (fun _ x=>x);have:=C _ z
    have m':¬N.toArray.size=1:=by
     have d':=br.length I;simp only[List.size_toArray,d'];intro z;obtain⟨v,rfl⟩:=List.length_eq_one_iff.mp z
     first|exact Y v D rfl|exact Y v rfl|exact Y _ _ Z
    rw[dif_neg m']at this;exact⟨_,this,_,_,rfl,⟨N.toArray,rfl,by simpa using I⟩,(ext D).1,(ext D).2.1,(ext D).2.2,E.kept⟩
   simp at B
  |own s x'=>
   simp only[zb]at B;unfold K8 at B;split at B
   .next t=>
    split at B
    .next id n' o'=>
     split at B
     .next cv s' p' hl=>
      split at B
      .next F=>
       simp only[E_,Prod.mk.injEq]at B;obtain⟨rfl,rfl⟩:=B;simp only[Bool.and_eq_true,Bool.not_eq_true']at F;have e':n'=cv:=by simpa using F.1
       have q':id∉σ.ro:=by simpa using F.2
       have V:=E.env t;rw[o']at V;have Z:=(V _ _ _ hl).2 e'
       have r':R.results.toList=[.tmp t]:=by
        cases f':R.results.toList with
        |nil=>rw[f']at q;simp[cw]at q
        |cons rv l=>
         rw[f']at q;cases rv with
         |tmp t'=>
          simp only[cw,Option.map_eq_some_iff,List.cons.injEq]at q;obtain⟨r,z,I,rfl⟩:=q;simp only[VRes.tmp.injEq]at I;subst I;cases l with
          |nil=>rfl
          |cons y l=>
           exfalso;cases y<;>simp only[cw,Option.map_eq_some_iff]at z
           .obtain⟨_,_,O⟩:=z;simp at O
           split at z<;>simp at z
         |cell a ty=>
          simp only[cw]at q;split at q<;>simp at q
       have g':=CR r';refine⟨a.tmps.getD t Go.undef,by simp[results,g'],a.tmps.getD t Go.undef,S1,rfl,⟨β id,?_,fun b U=>⟨?_,fun u' hS=>q' (E.unst id _ b u' hl U hS).1⟩⟩,E.ext,fun b o U=>?_,E.stab,E.kept⟩
       .rw[Z];exact E.objs id _ hl
       .rcases E.own id _ b hl U with z|z
        .exact z
        exact z.elim
       rcases E.back b o U with z|z|z
       .exact .inl z
       .exact .inr z
       exact z.elim
      simp at B
     simp at B
    simp at B
   simp at B
 cases e
 case normal=>obtain⟨σ,z,_,I⟩:=A;exact c' σ z I
 case ret=>obtain⟨σ,z,_,I⟩:=A;exact c' σ z I
 case panic=>exact A.elim
 case outgrown=>exact A.elim
 case exit=>obtain⟨σ,z,_⟩:=A;exact z.elim
 case goto=>obtain⟨σ,z,_⟩:=A;exact z.elim
end
end Go.Vs
namespace Go.Vs
def E4:Nat->List SV->List (Nat×SV)
 |_,[]=>[]
 |i,x::r=>(i,x)::E4 (i+1) r
def rq(h:List (Nat×List IV))(c:MC)(n:Nat):St:=⟨E4 0 c.args,c.objs,c.ro,n,h⟩
def Yz(n:Nat):List (Nat×Ob)->Bool
 |[]=>true
 |(i,_)::r=>decide (n<=i)&&Yz n r
theorem SG{n:Nat} : ∀ {l:List (Nat×Ob)},Yz n l=true->∀i o,ac l i=some o->n<=i
 |[],_,_,_,h=>by simp[ac]at h
 |(j,x)::r,c,i,o,h=>by
  simp only[Yz,Bool.and_eq_true,decide_eq_true_eq]at c;simp only[ac]at h;cases e:j==i
  .rw[e]at h;exact SG c.2 i o h
  rw[beq_iff_eq]at e;subst e;exact c.1
def aa2(σ:St):List VRes->Option (SV×List Nat)
 |[]=>some (.val (.tuple []),[])
 |[.tmp t]=>some (aE σ.env t,[])
 |[.cell t g]=>match aE σ.env t with
  |.loc id f=>match ac σ.objs id with
   |some (.box e)=>match g with
    |some n=>if f+n<=e.length then some (DI ((e.drop f).take n),[])else none
    |none=>match e[f]? with
     |some c=>some (c,[])
     |none=>none
   |_=>none
  |_=>none
 |h=>match sX σ h with
  |some (i,j)=>some (.val (.tuple i),j)
  |none=>none
def sY(σ:St):List VRes->Option (List SV)
 |[]=>some []
 |.tmp t::r=>(sY σ r).map (aE σ.env t::·)
 |.cell t (some n)::r=>match aE σ.env t with
  |.loc id e=>match ac σ.objs id with
   |some (.box c)=>if e+n<=c.length then (sY σ r).map (DI ((c.drop e).take n)::·)else none
   |_=>none
  |_=>none
 |.cell _ none::_=>none
def Na(σ:St)(c:List VRes):SV->Option (SV×List Nat)
 |.tup _=>match c with
  |_::_::_=>(sY σ c).map fun l=>(.tup l,[])
  |_=>none
 |_=>aa2 σ c
def cI(l:List VRes)(c:MC):Exit->St->Prop
 |.normal,σ=>∃e h,cJ σ e/\e.objs=c.objs'/\Na e l c.res=some (c.res,h)/\c.ro'=h++e.ro
 |.ret,σ=>∃e h,cJ σ e/\e.objs=c.objs'/\Na e l c.res=some (c.res,h)/\c.ro'=h++e.ro
 |_,_=>False
theorem SH{w:World}{S:bb}{m:Nat->Value}{objs:List (Nat×Ob)} : ∀ {c:List SV} {n:List Value} (i:Nat),bc w S m objs c n->∀k,au w S m objs (aE (E4 i c) k) ((n[k-i]?).getD Go.undef)
 |[],_,i,_,k=>trivial
 |x::r,_,i,⟨v,o,p,q,s⟩,k=>by
  subst p;simp only[E4,aE,ac];cases e:i==k with
  |true=>
   rw[beq_iff_eq]at e;subst e;simp only[cond_true,Option.getD_some,Nat.sub_self,List.getElem?_cons_zero];exact q
  |false=>
   have u:i≠k:=by simpa using e
   have f:=SH (i+1) s k;simp only[cond_false];rcases Nat.lt_or_ge i k with z|A
   .rw[show k-i=(k-(i+1))+1 by omega];rw[List.getElem?_cons_succ];exact f
   have:aE (E4 (i+1) r) k=.undef:=by
    have h:∀(l:List SV) (j:Nat),k<j->aE (E4 j l) k=.undef:=by
     intro l
     induction l with
     |nil=>intro j _;rfl
     |cons y l f=>
      intro j B;have:(j==k)=false:=by simp;omega
      simp only[E4,aE,ac,this,cond_false];exact f (j+1) (by omega)
    exact h r (i+1) (by omega)
   show au _ _ _ _ (aE (E4 (i+1) r) k) _;rw[this];trivial
theorem bc.length{w:World}{S:bb}{μ:Nat->Value}{objs:List (Nat×Ob)} : ∀ {xs:List SV} {vs:List Value},bc w S μ objs xs vs->vs.length=xs.length
 |[],_,h=>by have h:_=_:=h;subst h;rfl
 |_::_,_,⟨_,_,y,_,B⟩=>by subst y;simp[bc.length B]
theorem uE{P:Program}{fn:Func}{tmps:Array Value}{w:World}{us:List Value}(h:(fn.results.toList.mapM (m:=Sem) fun c=>match c with|.tmp t=>(pure (tmps.getD t Go.undef):Sem Value)|.cell e t=>do loadVar t (<-asAddr (tmps.getD e Go.undef))).run P w=.ok us w) :
  (results fn tmps).run P w=.ok (if h:us.toArray.size=1 then us.toArray[0]else .tuple us.toArray) w:=by
 unfold results;rw[Sem.run_bind,Array.mapM_eq_mapM_toList]
 have:((List.toArray <$> fn.results.toList.mapM (m:=Sem) fun c=>match c with|.tmp t=>(pure (tmps.getD t Go.undef):Sem Value)|.cell e t=>do loadVar t (<-asAddr (tmps.getD e Go.undef))):Sem (Array Value)).run P w=.ok us.toArray w:=by
  rw[Sem.run_map,h];rfl
 first
  |(rw[this];rfl)
  |(erw [this];rfl)
theorem ot{P:Program} : ∀ {l:List ResultVar} {c:List VRes},cw P l=some c->l.length=c.length
 |[],c,h=>by simp only[cw,E_]at h;subst h;rfl
 |.tmp t::l,c,h=>by
  simp only[cw,Option.map_eq_some_iff]at h;obtain⟨r,e,rfl⟩:=h;simp[ot e]
 |.cell t f::l,c,h=>by
  simp only[cw]at h;split at h
  .next g r i e=>obtain rfl:=O_ h;simp[ot e]
  simp at h
section
variable {P:Program}
theorem Va{w0 w:World}{S0 S:bb}{M:Ctx}{σ:St}{a:Act}{U:Nat->Value}{V:Nat->Option Nat}(h:SimG w0 S0 M σ a w S U V){fn:Func}{y:List VRes}(p:cw P fn.results.toList=some y){r:SV}{A:List Nat}(m:aa2 σ y=some (r,A)) :
  ∃u,(results fn a.tmps).run P w=.ok u w/\au w (dH S V σ.objs A) U σ.objs r u:=by
 have i:=ot p
 have C:∀o,sX σ y=some (o,A)->y.length≠1->r=.val (.tuple o)->∃u,(results fn a.tmps).run P w=.ok u w/\au w (dH S V σ.objs A) U σ.objs r u:=by
  rintro o E d' rfl;obtain⟨us,L,N⟩:=rT (fz':=A) h p E (fun _ x=>x);have q:=uE L;have hl:us.length=o.length:=br.length N
  have e':o.length=y.length:=by
   have W:∀(y:List VRes) (o:List IV) (A:List Nat),sX σ y=some (o,A)->o.length=y.length:=by
    intro y
    induction y with
    |nil=>intro o A z;simp only[sX,E_,Prod.mk.injEq]at z;obtain⟨rfl,_⟩:=z;rfl
    |cons x l ih=>
     intro o A z;simp only[sX]at z;split at z
     .next v f f' fs _ e2=>
      simp only[E_,Prod.mk.injEq]at z;obtain⟨rfl,_⟩:=z;simp[ih _ _ e2]
     simp at z
   exact W y o A E
  rw[dif_neg (by simp;omega)]at q;exact⟨_,q,us.toArray,rfl,by simpa using N⟩
 unfold aa2 at m;split at m
 .simp only[E_,Prod.mk.injEq]at m;obtain⟨rfl,rfl⟩:=m;exact C [] rfl (by simp) rfl
 .next t=>
  simp only[E_,Prod.mk.injEq]at m;obtain⟨rfl,rfl⟩:=m
  have B:fn.results.toList=[.tmp t]:=by
   cases s:fn.results.toList with
   |nil=>rw[s]at i;simp at i
   |cons F l=>
    rw[s]at i;have:l=[]:=by simpa using i
    subst this;rw[s]at p;cases F with
    |tmp t'=>simp[cw]at p;rw[p]
    |cell X ty=>
     exfalso;simp only[cw]at p;split at p<;>simp at p
  have q:=uE (P:=P) (fn:=fn) (tmps:=a.tmps) (w:=w) (us:=[a.tmps.getD t Go.undef]) (by rw[B];rfl);exact⟨_,q,au.mono (bM.refl _ _) (fun _ _ x=>.inl x) _ _ (h.env t)⟩
 .next t g=>
  obtain⟨F,B⟩:∃F,fn.results.toList=[F]:=by
   cases s:fn.results.toList with
   |nil=>rw[s]at i;simp at i
   |cons F l=>
    rw[s]at i;have:l=[]:=by simpa using i
    subst this;exact⟨F,rfl⟩
  rw[B]at p;cases F with
  |tmp t'=>simp[cw]at p
  |cell X ty=>
   simp only[cw]at p;split at p
   .next g' h' hg i'=>
    simp only[E_,List.cons.injEq,VRes.cell.injEq]at p;obtain⟨⟨rfl,rfl⟩,rfl⟩:=p
    have O:∀u,(do loadVar ty (<-asAddr (a.tmps.getD X Go.undef)):Sem Value).run P w=.ok u w->(results fn a.tmps).run P w=.ok u w:=by
     intro u hu;refine uE (P:=P) (fn:=fn) (tmps:=a.tmps) (w:=w) (us:=[u]) ?_;rw[B,List.mapM_cons];simp only[Sem.run_bind]at hu |-;rw[hu];rfl
    split at m
    .next id I Y=>
     have D:=h.env X;rw[Y]at D;split at m
     .next Z hl=>
      obtain⟨b,o,e,fr,_,_,E,z,_,J⟩:=lz h hl D;split at m
      .next n=>
       split at m
       .next j'=>
        simp only[E_,Prod.mk.injEq]at m;obtain⟨rfl,rfl⟩:=m;have a':=al.take n (al.drop I J)
        have i:((o.toList.drop I).take n).length=n:=by
         have:=al.length J;rw[List.length_take,List.length_drop];omega
        refine⟨.agg ((o.toList.drop I).take n).toArray,O _ ?_,au.mono (bM.refl _ _) (fun _ _ x=>.inl x) _ _ (nG a')⟩;simp only[E,asAddr,Sem.run_bind,Sem.run_pure,Result.andThen_ok]
        exact nH hg i (fun j v R=>by
         rw[List.getElem?_take]at R;split at R
         .rw[List.getElem?_drop,Array.getElem?_toList]at R;rw[fE z];exact R
         simp at R)
       simp at m
      split at m
      .next c b'=>
       simp only[E_,Prod.mk.injEq]at m;obtain⟨rfl,rfl⟩:=m;obtain⟨v',L,_,N⟩:=al.get J b';refine⟨v',O _ ?_,au.mono (bM.refl _ _) (fun _ _ x=>.inl x) _ _ N⟩;simp only[E,asAddr,Sem.run_bind,Sem.run_pure,Result.andThen_ok];exact qr hg (by rw[fE z];rw[Array.getElem?_toList]at L;exact L)
      simp at m
     simp at m
    simp at m
   simp at p
 next h0 L N=>
 split at m
 .next o fz' E=>
  simp only[E_,Prod.mk.injEq]at m;obtain⟨rfl,rfl⟩:=m;refine C o E ?_ rfl;intro c';obtain⟨x,rfl⟩:=List.length_eq_one_iff.1 c';cases x with
  |tmp t=>exact L t rfl
  |cell t g=>exact N t g rfl
 simp at m
theorem xb{w0 w:World}{O S:bb}{M:Ctx}{σ:St}{a:Act}{N:Nat->Value}{R:Nat->Option Nat}(h:SimG w0 O M σ a w S N R):∀ {l:List ResultVar} {u:List VRes} {c:List SV},cw P l=some u->sY σ u=some c->
  ∃s:List Value,(l.mapM (m:=Sem) fun U=>match U with|.tmp t=>(pure (a.tmps.getD t Go.undef):Sem Value)|.cell A t=>do loadVar t (<-asAddr (a.tmps.getD A Go.undef))).run P w=.ok s w/\bc w S N σ.objs c s
 |[],u,c,o,f=>by
  simp only[cw,E_]at o;subst o;cases f;exact⟨[],rfl,rfl⟩
 |.tmp t::l,u,c,o,f=>by
  simp only[cw,Option.map_eq_some_iff]at o;obtain⟨r,V,rfl⟩:=o;simp only[sY,Option.map_eq_some_iff]at f;obtain⟨cs,C,rfl⟩:=f;obtain⟨s,D,E⟩:=xb h V C;refine⟨a.tmps.getD t Go.undef::s,?_,_,_,rfl,h.env t,E⟩;rw[List.mapM_cons];simp only[Sem.run_bind,Sem.run_pure,Result.andThen_ok];rw[D];rfl
 |.cell A W::l,u,c,o,f=>by
  simp only[cw]at o;split at o
  .next g r X F=>
   obtain rfl:=O_ o;cases g with
   |none=>cases f
   |some n=>
    simp only[sY]at f;split at f
    .next id p I=>
     have q:=h.env A;rw[I]at q;split at f
     .next B Y=>
      split at f
      .next Z=>
       simp only[Option.map_eq_some_iff]at f;obtain⟨cs,C,rfl⟩:=f;obtain⟨s,D,E⟩:=xb h F C;obtain⟨b,J,e,fr,_,_,hv,hh,_,x⟩:=lz h Y q;have L:=al.take n (al.drop p x)
       have y:((J.toList.drop p).take n).length=n:=by
        have:=al.length x;rw[List.length_take,List.length_drop];omega
       refine⟨.agg ((J.toList.drop p).take n).toArray::s,?_,_,_,rfl,nG L,E⟩
       have i:(do loadVar W (<-asAddr (a.tmps.getD A Go.undef)):Sem Value).run P w=.ok (.agg ((J.toList.drop p).take n).toArray) w:=by
        simp only[hv,asAddr,Sem.run_bind,Sem.run_pure,Result.andThen_ok]
        exact nH X y (fun j v z=>by
         rw[List.getElem?_take]at z;split at z
         .rw[List.getElem?_drop,Array.getElem?_toList]at z;rw[fE hh];exact z
         simp at z)
       rw[List.mapM_cons];simp only[Sem.run_bind]at i |-;rw[i];simp only[Result.andThen_ok];rw[D];rfl
      cases f
     cases f
    cases f
  cases o
theorem Vb{w0 w:World}{E S:bb}{M:Ctx}{σ:St}{a:Act}{q:Nat->Value}{s:Nat->Option Nat}(h:SimG w0 E M σ a w S q s){v:Func}{f:List VRes}(m:cw P v.results.toList=some f){z r:SV}{o:List Nat}(j:Na σ f z=some (r,o)) :
  ∃u,(results v a.tmps).run P w=.ok u w/\au w (dH S s σ.objs o) q σ.objs r u:=by
 cases z
 case tup=>
  have A:=ot m;cases f with
  |nil=>cases j
  |cons x f=>
   cases f with
   |nil=>cases j
   |cons y l=>
    have j:(sY σ (x::y::l)).map (fun l=>(SV.tup l,([]:List Nat)))=some (r,o):=j;simp only[Option.map_eq_some_iff,Prod.mk.injEq]at j;obtain⟨c,B,rfl,rfl⟩:=j;obtain⟨F,I,C⟩:=xb h m B;have i:=uE I;have N:=bc.length C
    have J:∀ {f:List VRes} {c:List SV},sY σ f=some c->c.length=f.length:=by
     intro f
     induction f with
     |nil=>intro c e;cases e;rfl
     |cons x l D=>
      intro c e;cases x with
      |tmp t=>
       simp only[sY,Option.map_eq_some_iff]at e;obtain⟨cs,p,rfl⟩:=e;simp[D p]
      |cell t g=>
       cases g with
       |none=>cases e
       |some n=>
        simp only[sY]at e;split at e
        .split at e
         .split at e
          .simp only[Option.map_eq_some_iff]at e;obtain⟨cs,p,rfl⟩:=e;simp[D p]
          cases e
         cases e
        cases e
    have L:=J B;rw[dif_neg (by simp at L |-;omega)]at i;exact⟨_,i,F.toArray,rfl,bc.mono (bM.refl _ _) (fun _ _ x=>.inl x) _ _ (by simpa using C)⟩
 all_goals exact Va h m j
theorem aK(hm:P.follows .mixedOrders=true){k:FuncId}{v:VCode}{rs:List VRes}{n:Nat}(v':FnOk P k v rs n){gl:List (Nat×List IV)}{c:MC}(hn:c.args.length<=n)(c':Yz n c.objs=true)(h:pw P v (cI rs c) (rq gl c n)):lB gl P k c:=by
 obtain⟨O,cd,A,X,B,Y,d',e',x'⟩:=v';refine⟨⟨O,A,X⟩,fun w S μ Z vs I y' R U f' a'=>.inl ⟨⟨O,A,by rw[B];rfl⟩,?_⟩⟩;subst x';refine calls_of_wp A B ?_;have hl:=bc.length R
 have g':∀(l:List (Nat×Ob)),∃V:List (Nat×SV),(∀p∈V,∃o,ac c.objs p.1=some o/\p.2=N7 p.1 o)/\∀i o,ac l i=some o->ac c.objs i=some o->(i,N7 i o)∈V:=by
  intro l
  induction l with
  |nil=>exact⟨[],by simp,fun i o h=>by simp[ac]at h⟩
  |cons p r ih=>
   obtain⟨V,k1,k2⟩:=ih;cases hp:ac c.objs p.1 with
   |none=>
    refine⟨V,k1,fun i o hi W=>?_⟩;obtain⟨j,x⟩:=p;simp only[ac]at hi;cases hj:j==i
    .rw[hj]at hi;exact k2 i o hi W
    rw[beq_iff_eq]at hj;subst hj;rw[hp]at W;simp at W
   |some y=>
    refine⟨(p.1,N7 p.1 y)::V,?_,fun i o hi W=>?_⟩
    .intro q hq;rcases List.mem_cons.1 hq with rfl|hq
     .exact⟨y,hp,rfl⟩
     exact k1 q hq
    obtain⟨j,x⟩:=p;simp only[ac]at hi;cases hj:j==i
    .rw[hj]at hi;exact List.mem_cons_of_mem _ (k2 i o hi W)
    rw[beq_iff_eq]at hj;subst hj;rw[hp]at W;simp only[E_]at W;subst W;exact List.mem_cons_self
 obtain⟨V,h',z'⟩:=g' c.objs
 have start:SimG w S ⟨fun b=>∃i x,ac c.objs i=some x/\Z i=some b,V,μ,[]⟩ (rq gl c O.ntmps) {tmps:=vs.toArray++Array.replicate (O.ntmps-vs.toArray.size) Go.undef,defers:=[] } w S μ Z:=by
  refine {defers:=rfl,size:=?_,env:=?_,objs:=U,inj:=f',own:=fun id o b z C=>.inr ⟨id,o,z,C⟩,unst:=a',stab:=I,ext:=fun _ _ x=>x,back:=fun _ _ x=>.inl x,kept:=Kept.refl _ _,stay:=fun _ _ _=>rfl,hist:=?_,far:=?_,glob:=y' }
  .simp[rq];omega
  .intro k;have:=SH 0 R k
   have e:(vs.toArray++Array.replicate (O.ntmps-vs.toArray.size) Go.undef).getD k Go.undef=(vs[k-0]?).getD Go.undef:=by
    rw[Nat.sub_zero];rcases Nat.lt_or_ge k vs.length with hk|hk
    .simp[Array.getD,hk,Array.getElem_append_left,Nat.lt_add_right]
    rw[List.getElem?_eq_none hk,Option.getD_none];rw[Array.getD_eq_getD_getElem?,Array.getElem?_append_right (by simpa using hk),Array.getElem?_replicate];split<;>rfl
   show au _ _ _ _ (aE (E4 0 c.args) k) _;rw[e];exact this
  .intro p hp;obtain⟨o,z,C⟩:=h' p hp;rw[C];cases o with
   |box A'=>
    intro u' D;obtain⟨b,vs,e,fr,_,q2,_⟩:=U _ _ z;exact⟨b,q2,q2⟩
   |arr i' s E=>
    intro cv s' B' D;rw[show ac (rq gl c O.ntmps).objs p.1=ac c.objs p.1 from rfl,z]at D;simp only[E_,Ob.arr.injEq]at D;obtain⟨rfl,_,_⟩:=D;exact⟨Nat.le_refl _,fun _=>rfl⟩
   |iter s p=>intro s' p' D;rfl
  intro p hp d hd;obtain⟨o,z,C⟩:=h' p hp;have F':=SG c' _ _ z;have hd:d<O.ntmps:=hd;rw[C];cases o<;>simp[N7,SV.noRef]<;>omega
 refine wp_mono (kK hm v h cd Y d' w S _ _ w ⟨S,μ,Z,start⟩) (fun e a J m=>?_)
 have j':∀σ,cI rs c .ret σ->gc w S ⟨fun b=>∃i x,ac c.objs i=some x/\Z i=some b,V,μ,[]⟩ σ a J->a.defers=[]/\∃u,(results O a.tmps).run P J=.ok u J/\∃(v:Value) (S':bb) (L:Nat->Value) (F:Nat->Option Nat),Ending.returned u=.returned v/\au J S' L c.objs' c.res v/\
   (∀id o,ac c.objs' id=some o->bI J S' L c.objs' (F id) (L id) o)/\
   (∀id b' o o' b,ac c.objs' id=some o->ac c.objs' b'=some o'->F id=some b->F b'=some b->id=b')/\
   (∀id o b,ac c.objs' id=some o->F id=some b->w.heap.size<=b\/∃i x,ac c.objs i=some x/\Z i=some b)/\
   (∀id o b M,ac c.objs' id=some o->F id=some b->S' b M->id∈c.ro'/\∀i' s E,o=.arr i' s E->M<E.length*s)/\
   (∀b o,S' b o->b<J.heap.size)/\(∀b o,S b o->S' b o)/\(∀b o,S' b o->S b o\/w.heap.size<=b\/∃i x,ac c.objs i=some x/\Z i=some b)/\
   Kept (fun b=>∃i x,ac c.objs i=some x/\Z i=some b) w J/\
   (∀id o,ac c.objs id=some o->au J S' L c.objs' (N7 id o) (μ id))/\(∀b o,S b o->J.cell? ⟨b,o,none⟩=w.cell? ⟨b,o,none⟩):=by
  rintro σ ⟨G',fz,hw,N,hr,C'⟩ hs;obtain⟨S1,D',k',hg⟩:=hw _ _ _ _ _ hs;refine⟨hg.defers,?_⟩;obtain⟨u,E',l'⟩:=Vb hg e' hr;have A:=hg.freeze fz;rw[N]at l';have m':=A.objs;have n':=A.inj;have q':=A.own;have r':=A.unst;have t':=A.hist;simp only[N]at m' n' q' r' t';refine⟨u,E',u,dH S1 k' c.objs' fz,D',k',rfl,l',?_,n',q',?_,?_,?_,?_,hg.kept,?_,hg.stay⟩
  .intro id o hl;exact m' id o hl
  .intro id o b M z C h3;obtain⟨q1,q2⟩:=r' id o b M z C h3;exact⟨by rw[C'];exact q1,q2⟩
  .intro b o I;rw[<-N]at I;exact A.stab b o I
  .intro b o I;exact .inl (hg.ext b o I)
  .intro b o I;rw[<-N]at I;exact A.back b o I
  intro id o hl;exact t' _ (z' id o hl hl)
 cases e
 case normal=>obtain⟨σ,z,_,C⟩:=m;exact j' σ z C
 case ret=>obtain⟨σ,z,_,C⟩:=m;exact j' σ z C
 case panic=>exact m.elim
 case outgrown=>exact m.elim
 case exit=>obtain⟨σ,z,_⟩:=m;exact z.elim
 case goto=>obtain⟨σ,z,_⟩:=m;exact z.elim
end
end Go.Vs
namespace Go.Vs
universe u
class Hold(α:Sort u) where
 val:α
def OI(e:List (Nat×List IV))(P:Program)(g:FuncId)(c:List IV) [k:Hold (Res->Prop)]:Prop:=∃r,CV e P g c r/\k.val r
theorem aa{gl:List (Nat×List IV)}{P:Program}{g:FuncId}{o:List IV}{k:Res->Prop}{v:IV}(h:Fn gl P g o v)(q:k (.imm v)):@OI gl P g o ⟨k⟩:=⟨_,h,q⟩
theorem Gh{f:List (Nat×List IV)}{P:Program}{g:FuncId}{e:List IV}{k:Res->Prop}{s:Nat}{c:List (List IV)}(h:CV f P g e (.own s c))(i:k (.own s c)):@OI f P g e ⟨k⟩:=⟨_,h,i⟩
def SI(e:List (Nat×List IV))(P:Program)(a:Option (FuncId×List IV×List Nat)) [k:Hold (List Nat->Res->Prop)]:Prop:=match a with
 |some (g,c,f)=>@OI e P g c ⟨k.val f⟩
 |none=>False
theorem Vc{e:List (Nat×List IV)}{P:Program}{g:FuncId}{c:List IV}{f:List Nat}{k:List Nat->Res->Prop} : @SI e P (some (g,c,f)) ⟨k⟩=@OI e P g c ⟨fun r=>k f r⟩:=_root_.id rfl
def wn(o:Option Upd) [k:Hold (Upd->Prop)]:Prop:=match o with
 |some u=>u.side/\k.val u
 |none=>False
theorem aa3{u:Upd}{k:Upd->Prop} : @wn (some u) ⟨k⟩=(u.side/\k u):=_root_.id rfl
def SJ(o:Option Upd) [k:Hold (Upd->Prop)]:Prop:=match o with
 |some u=>k.val u
 |none=>False
theorem Vd{u:Upd}{k:Upd->Prop} : @SJ (some u) ⟨k⟩=k u:=_root_.id rfl
theorem aa4{P:Program}{σ:St}{dst:Option Nat}{k:Upd->Prop}{f:Nat}{c:List Opd} : ey P σ dst k (.call f c)=@SI σ.gl P (fa σ (.val (.fn f [])) c) ⟨fun e r=>@SJ (jz dst e r) ⟨k⟩⟩:=by
 simp only[ey,SI,SJ,OI];rfl
theorem YA{P:Program}{σ:St}{dst:Option Nat}{k:Upd->Prop}{f:Opd}{c:List Opd} : ey P σ dst k (.callV f c)=@SI σ.gl P (fa σ (val σ f) c) ⟨fun e r=>@SJ (jz dst e r) ⟨k⟩⟩:=by
 simp only[ey,SI,SJ,OI];rfl
section
variable {P:Program} {σ:St} {dst:Option Nat} {k:Upd->Prop}
theorem aa5{c:Opd} : ey P σ dst k (.move c)=@wn (ev σ dst (.move c)) ⟨k⟩:=_root_.id rfl
theorem aa6{c:Opd}{e:Opd}{f:Opd} : ey P σ dst k (.pick c e f)=@wn (ev σ dst (.pick c e f)) ⟨k⟩:=_root_.id rfl
theorem YB{c:List SV} : ey P σ dst k (.alloc c)=@wn (ev σ dst (.alloc c)) ⟨k⟩:=_root_.id rfl
theorem aeu{c:Opd} : ey P σ dst k (.box c)=@wn (ev σ dst (.box c)) ⟨k⟩:=_root_.id rfl
theorem YC{c:List SV}{e:List (Nat×Nat×Opd)} : ey P σ dst k (.build c e)=@wn (ev σ dst (.build c e)) ⟨k⟩:=_root_.id rfl
theorem K9{c:Nat}{e:Nat}{f:List SV}{h:List (Nat×Nat×Opd)} : ey P σ dst k (.buildSlice c e f h)=@wn (ev σ dst (.buildSlice c e f h)) ⟨k⟩:=_root_.id rfl
theorem aa7{c:Option Nat}{e:Opd} : ey P σ dst k (.load c e)=@wn (ev σ dst (.load c e)) ⟨k⟩:=_root_.id rfl
theorem YD{c:Nat}{e:Opd}{f:Opd} : ey P σ dst k (.store c e f)=@wn (ev σ dst (.store c e f)) ⟨k⟩:=_root_.id rfl
theorem Qj{c:Opd} : ey P σ dst k (.nilCheck c)=@wn (ev σ dst (.nilCheck c)) ⟨k⟩:=_root_.id rfl
theorem aev{c:BinOp}{e:Opd}{f:Opd} : ey P σ dst k (.bin c e f)=@wn (ev σ dst (.bin c e f)) ⟨k⟩:=_root_.id rfl
theorem aew{c:Bool}{e:Opd}{f:Opd} : ey P σ dst k (.eqB c e f)=@wn (ev σ dst (.eqB c e f)) ⟨k⟩:=_root_.id rfl
theorem aex{c:Bool}{e:Opd} : ey P σ dst k (.eqN c e)=@wn (ev σ dst (.eqN c e)) ⟨k⟩:=_root_.id rfl
theorem aey{c:Bool}{e:Opd} : ey P σ dst k (.eqP c e)=@wn (ev σ dst (.eqP c e)) ⟨k⟩:=_root_.id rfl
theorem aez{c:Bool}{e:Opd} : ey P σ dst k (.eqS c e)=@wn (ev σ dst (.eqS c e)) ⟨k⟩:=_root_.id rfl
theorem aeA{c:Bool}{e:List LK}{f:Opd}{h:Opd} : ey P σ dst k (.eqA c e f h)=@wn (ev σ dst (.eqA c e f h)) ⟨k⟩:=_root_.id rfl
theorem ahr{c:UnOp}{e:Opd} : ey P σ dst k (.un c e)=@wn (ev σ dst (.un c e)) ⟨k⟩:=_root_.id rfl
theorem YE{c:IntKind}{e:Opd} : ey P σ dst k (.convI c e)=@wn (ev σ dst (.convI c e)) ⟨k⟩:=_root_.id rfl
theorem Ve{c:Opd} : ey P σ dst k (.rangeS c)=@wn (ev σ dst (.rangeS c)) ⟨k⟩:=_root_.id rfl
theorem YF{c:Opd} : ey P σ dst k (.nextS c)=@wn (ev σ dst (.nextS c)) ⟨k⟩:=_root_.id rfl
theorem YG{c:Opd} : ey P σ dst k (.convB c)=@wn (ev σ dst (.convB c)) ⟨k⟩:=_root_.id rfl
theorem SK{q:Nat}{c:Nat}{e:Opd}{f:Opd} : ey P σ dst k (.appendS q c e f)=@wn (ev σ dst (.appendS q c e f)) ⟨k⟩:=_root_.id rfl
theorem SL{c:Nat}{e:Opd} : ey P σ dst k (.mkIface c e)=@wn (ev σ dst (.mkIface c e)) ⟨k⟩:=_root_.id rfl
theorem Vf{c:Nat}{e:List Opd} : ey P σ dst k (.mkFunc c e)=@wn (ev σ dst (.mkFunc c e)) ⟨k⟩:=_root_.id rfl
theorem SM{c:Nat}{e:Nat}{f:List SV}{h:Opd}{i:Opd} : ey P σ dst k (.mkSlice c e f h i)=@wn (ev σ dst (.mkSlice c e f h i)) ⟨k⟩:=_root_.id rfl
theorem aa8{c:Opd}{e:Option Opd}{f:Option Opd} : ey P σ dst k (.subS c e f)=@wn (ev σ dst (.subS c e f)) ⟨k⟩:=_root_.id rfl
theorem aa9{c e:Nat}{f:Opd}{h:Option Opd}{i:Option Opd} : ey P σ dst k (.subA c e f h i)=@wn (ev σ dst (.subA c e f h i)) ⟨k⟩:=_root_.id rfl
theorem aba{c:Nat}{e:Opd}{f:Option Opd}{h:Option Opd}{i:Option Opd} : ey P σ dst k (.subV c e f h i)=@wn (ev σ dst (.subV c e f h i)) ⟨k⟩:=_root_.id rfl
theorem Nb{c:Nat}{e:Opd} : ey P σ dst k (.fieldAddr c e)=@wn (ev σ dst (.fieldAddr c e)) ⟨k⟩:=_root_.id rfl
theorem Nc{c:Nat}{e:Opd}{f:Opd} : ey P σ dst k (.indexAddr c e f)=@wn (ev σ dst (.indexAddr c e f)) ⟨k⟩:=_root_.id rfl
theorem Qk{c:Nat}{e:Nat}{f:Opd}{h:Opd} : ey P σ dst k (.indexArr c e f h)=@wn (ev σ dst (.indexArr c e f h)) ⟨k⟩:=_root_.id rfl
theorem Vg{c:Opd}{e:Opd} : ey P σ dst k (.indexS c e)=@wn (ev σ dst (.indexS c e)) ⟨k⟩:=_root_.id rfl
theorem Vh{c:Nat}{e:Nat}{f:Option Nat}{h:Opd}{i:Opd} : ey P σ dst k (.indexA c e f h i)=@wn (ev σ dst (.indexA c e f h i)) ⟨k⟩:=_root_.id rfl
theorem SN{c:Opd}{e:Nat} : ey P σ dst k (.extract c e)=@wn (ev σ dst (.extract c e)) ⟨k⟩:=_root_.id rfl
theorem abb{c:Opd} : ey P σ dst k (.lenS c)=@wn (ev σ dst (.lenS c)) ⟨k⟩:=_root_.id rfl
theorem abc{c:Opd} : ey P σ dst k (.lenV c)=@wn (ev σ dst (.lenV c)) ⟨k⟩:=_root_.id rfl
theorem Vi{c:Nat} : ey P σ dst k (.allocB c)=@wn (ev σ dst (.allocB c)) ⟨k⟩:=_root_.id rfl
theorem abd{c:Opd}{e:Opd} : ey P σ dst k (.maxI c e)=@wn (ev σ dst (.maxI c e)) ⟨k⟩:=_root_.id rfl
theorem abe{c:Opd}{e:Opd} : ey P σ dst k (.minI c e)=@wn (ev σ dst (.minI c e)) ⟨k⟩:=_root_.id rfl
theorem Vj{q:Nat}{c:Nat}{e:Nat}{f:Opd}{h:Opd} : ey P σ dst k (.append q c e f h)=@wn (ev σ dst (.append q c e f h)) ⟨k⟩:=_root_.id rfl
theorem YH{c:List SV}{e:Opd} : ey P σ dst k (.clear c e)=@wn (ev σ dst (.clear c e)) ⟨k⟩:=_root_.id rfl
end
def abf:List (Nat×SV)->Nat->SV->List (Nat×SV)
 |[],_,_=>[]
 |(j,v)::r,k,x=>bif j==k then (j,x)::r else (j,v)::abf r k x
theorem OJ:∀ {c:List (Nat×SV)} {k:Nat} {v:SV},ac c k=some v->abf c k v=c
 |[],_,_,h=>rfl
 |(j,v)::r,k,x,h=>by
  simp only[ac]at h;simp only[abf];cases e:j==k with
  |true=>rw[e]at h;simp only[cond_true,E_]at h |-;rw[h]
  |false=>rw[e]at h;simp only[cond_false]at h |-;rw[OJ h]
def St.setB(σ:St)(g:Nat)(b:Bool):St:={σ with env:=abf σ.env g (.val (.bool b)) }
theorem St.setB_self{σ:St}{g:Nat}{b:Bool}(h:aE σ.env g=.val (.bool b)):σ.setB g b=σ:=by
 unfold St.setB;rw[OJ];unfold aE at h;cases c:ac σ.env g with
 |none=>rw[c]at h;simp at h
 |some v=>rw[c]at h;simp only[Option.getD_some]at h;rw[h]
def NS(σ:St) [k:Hold (St->Prop)]:Prop:=k.val σ
theorem ai0{a:List (Nat×SV)}{b:List (Nat×Ob)}{c:List Nat}{n:Nat}{e:List (Nat×List IV)}{k:St->Prop} : @NS ⟨a,b,c,n,e⟩ ⟨k⟩=k ⟨a,b,c,n,e⟩:=_root_.id rfl
def Br(c:Bool) [A:Hold Prop] [B:Hold Prop]:Prop:=(c=true->A.val)/\(c=false->B.val)
theorem X6{A B:Prop} : @Br true ⟨A⟩ ⟨B⟩=A:=by simp[Br]
theorem SO{A B:Prop} : @Br false ⟨A⟩ ⟨B⟩=B:=by simp[Br]
theorem ahs{c:Bool}{A B:Prop} : @Br (!c) ⟨A⟩ ⟨B⟩=@Br c ⟨B⟩ ⟨A⟩:=by cases c<;>simp[Br]
theorem lC{p:Prop} [Decidable p]{A B:Prop} : @Br (decide p) ⟨A⟩ ⟨B⟩=((p->A)/\(¬p->B)):=by
 by_cases h:p<;>simp[Br,h]
theorem aht{a b:Bool}{A B:Prop} : @Br (a==b) ⟨A⟩ ⟨B⟩=@Br (decide (a=b)) ⟨A⟩ ⟨B⟩:=by cases a<;>cases b<;>rfl
theorem ahu{a b:Bool}{A B:Prop} : @Br (a&&b) ⟨A⟩ ⟨B⟩=@Br a ⟨@Br b ⟨A⟩ ⟨B⟩⟩ ⟨B⟩:=by cases a<;>cases b<;>simp[Br]
theorem ai1{a b:Bool}{A B:Prop} : @Br (a||b) ⟨A⟩ ⟨B⟩=@Br a ⟨A⟩ ⟨@Br b ⟨A⟩ ⟨B⟩⟩:=by cases a<;>cases b<;>simp[Br]
theorem brd{p:Prop} [Decidable p]{A B:Prop}(e:p->A)(f:¬p->B):@Br (decide p) ⟨A⟩ ⟨B⟩:=by rw[lC];exact⟨e,f⟩
def Bj(v:SV) [A:Hold Prop] [B:Hold Prop] [C:Hold Prop]:Prop:=match v with
 |.val (.bool c)=>@Br c A B
 |.val (.tuple [])=>C.val
 |_=>False
theorem abg{c:Bool}{A B C:Prop} : @Bj (.val (.bool c)) ⟨A⟩ ⟨B⟩ ⟨C⟩=@Br c ⟨A⟩ ⟨B⟩:=_root_.id rfl
theorem abh{A B C:Prop} : @Bj (.val (.tuple [])) ⟨A⟩ ⟨B⟩ ⟨C⟩=C:=_root_.id rfl
def BrC(v:SV) [A:Hold Prop] [B:Hold Prop]:Prop:=match v with
 |.val (.bool c)=>@Br c A B
 |.anyB=>A.val/\B.val
 |_=>False
theorem abi{c:Bool}{A B:Prop} : @BrC (.val (.bool c)) ⟨A⟩ ⟨B⟩=@Br c ⟨A⟩ ⟨B⟩:=_root_.id rfl
theorem aeC{A B:Prop} : @BrC .anyB ⟨A⟩ ⟨B⟩=(A/\B):=_root_.id rfl
def TVW(P:Program)(σ:St) [v:Hold VCode] [Q:Hold (Exit->St->Prop)]:Prop:=TV P v.val Q.val σ
theorem abj{P:Program}{K:St->Prop}{σ:St} : pI P K [] σ=K σ:=_root_.id rfl
theorem YI{P:Program}{K:St->Prop}{σ:St}{d:Option Nat}{op:VOp}{r:List VOper} : pI P K (⟨d,op,none⟩::r) σ=ey P σ d (fun u=>@NS (σ.apply d u) ⟨pI P K r⟩) op:=_root_.id rfl
theorem ahv{P:Program}{K:St->Prop}{σ:St}{d:Option Nat}{op:VOp}{g:Nat}{r:List VOper} : pI P K (⟨d,op,some (g,true)⟩::r) σ =
  @Bj (aE σ.env g) ⟨@NS (σ.setB g true) ⟨fun e=>ey P e d (fun u=>@NS (e.apply d u) ⟨pI P K r⟩) op⟩⟩ ⟨@NS ((σ.setB g false).apply d j6) ⟨pI P K r⟩⟩ ⟨@NS (σ.apply d j6) ⟨pI P K r⟩⟩:=by
 simp only[pI];cases f:aE σ.env g with
 |val v=>
  cases v with
  |bool c=>cases c<;>simp[kA,Bj,Br,NS,St.setB_self f]
  |tuple h=>cases h<;>simp[kA,Bj,NS]
  |_=>simp[kA,Bj]
 |_=>simp[kA,Bj]
theorem ahw{P:Program}{K:St->Prop}{σ:St}{d:Option Nat}{op:VOp}{g:Nat}{r:List VOper} : pI P K (⟨d,op,some (g,false)⟩::r) σ =
  @Bj (aE σ.env g) ⟨@NS ((σ.setB g true).apply d j6) ⟨pI P K r⟩⟩ ⟨@NS (σ.setB g false) ⟨fun e=>ey P e d (fun u=>@NS (e.apply d u) ⟨pI P K r⟩) op⟩⟩ ⟨@NS (σ.apply d j6) ⟨pI P K r⟩⟩:=by
 simp only[pI];cases f:aE σ.env g with
 |val v=>
  cases v with
  |bool c=>cases c<;>simp[kA,Bj,Br,NS,St.setB_self f]
  |tuple h=>cases h<;>simp[kA,Bj,NS]
  |_=>simp[kA,Bj]
 |_=>simp[kA,Bj]
def Vk(P:Program)(σ:St)(dst:Option Nat)(e:SV)(c:List Opd) [K:Hold (St->Prop)]:Prop:=SC P σ dst e c K.val
theorem callM{P:Program}{σ:St}{dst:Option Nat}{m:SV}{args:List Opd}{K:St->Prop}{k:FuncId}{vals:List SV}{c:MC}(e:List (Nat×Nat))(h:List Nat)(o:lB σ.gl P k c)(p:SB σ m args=some (k,vals))(q:mOk σ e c=true)(u:gI σ.objs e c.objs)
  (v:iT σ.objs e vals c.args h) (y:mFz e h c.objs=true) (z:@NS (σ.mapply dst e c h) ⟨K⟩):@Vk P σ dst m args ⟨K⟩:=⟨k,vals,c,e,h,p,o,q,u,v,y,z⟩
section
variable {P:Program} {σ:St} {dst:Option Nat} {K:St->Prop}
theorem abk{c:Opd} : pg P σ dst K (.move c)=ey P σ dst (fun u=>@NS (σ.apply dst u) ⟨K⟩) (.move c):=_root_.id rfl
theorem abl{c:Opd}{e:Opd}{f:Opd} : pg P σ dst K (.pick c e f)=ey P σ dst (fun u=>@NS (σ.apply dst u) ⟨K⟩) (.pick c e f):=_root_.id rfl
theorem YJ{c:List SV} : pg P σ dst K (.alloc c)=ey P σ dst (fun u=>@NS (σ.apply dst u) ⟨K⟩) (.alloc c):=_root_.id rfl
theorem aeD{c:Opd} : pg P σ dst K (.box c)=ey P σ dst (fun u=>@NS (σ.apply dst u) ⟨K⟩) (.box c):=_root_.id rfl
theorem YK{c:List SV}{e:List (Nat×Nat×Opd)} : pg P σ dst K (.build c e)=ey P σ dst (fun u=>@NS (σ.apply dst u) ⟨K⟩) (.build c e):=_root_.id rfl
theorem Ka{c:Nat}{e:Nat}{f:List SV}{h:List (Nat×Nat×Opd)} : pg P σ dst K (.buildSlice c e f h)=ey P σ dst (fun u=>@NS (σ.apply dst u) ⟨K⟩) (.buildSlice c e f h):=_root_.id rfl
theorem abm{c:Option Nat}{e:Opd} : pg P σ dst K (.load c e)=ey P σ dst (fun u=>@NS (σ.apply dst u) ⟨K⟩) (.load c e):=_root_.id rfl
theorem YL{c:Nat}{e:Opd}{f:Opd} : pg P σ dst K (.store c e f)=ey P σ dst (fun u=>@NS (σ.apply dst u) ⟨K⟩) (.store c e f):=_root_.id rfl
theorem Ql{c:Opd} : pg P σ dst K (.nilCheck c)=ey P σ dst (fun u=>@NS (σ.apply dst u) ⟨K⟩) (.nilCheck c):=_root_.id rfl
theorem aeE{c:BinOp}{e:Opd}{f:Opd} : pg P σ dst K (.bin c e f)=ey P σ dst (fun u=>@NS (σ.apply dst u) ⟨K⟩) (.bin c e f):=_root_.id rfl
theorem aeF{c:Bool}{e:Opd}{f:Opd} : pg P σ dst K (.eqB c e f)=ey P σ dst (fun u=>@NS (σ.apply dst u) ⟨K⟩) (.eqB c e f):=_root_.id rfl
theorem aeG{c:Bool}{e:Opd} : pg P σ dst K (.eqN c e)=ey P σ dst (fun u=>@NS (σ.apply dst u) ⟨K⟩) (.eqN c e):=_root_.id rfl
theorem aeH{c:Bool}{e:Opd} : pg P σ dst K (.eqP c e)=ey P σ dst (fun u=>@NS (σ.apply dst u) ⟨K⟩) (.eqP c e):=_root_.id rfl
theorem aeI{c:Bool}{e:Opd} : pg P σ dst K (.eqS c e)=ey P σ dst (fun u=>@NS (σ.apply dst u) ⟨K⟩) (.eqS c e):=_root_.id rfl
theorem aeJ{c:Bool}{e:List LK}{f:Opd}{h:Opd} : pg P σ dst K (.eqA c e f h)=ey P σ dst (fun u=>@NS (σ.apply dst u) ⟨K⟩) (.eqA c e f h):=_root_.id rfl
theorem ahx{c:UnOp}{e:Opd} : pg P σ dst K (.un c e)=ey P σ dst (fun u=>@NS (σ.apply dst u) ⟨K⟩) (.un c e):=_root_.id rfl
theorem YM{c:IntKind}{e:Opd} : pg P σ dst K (.convI c e)=ey P σ dst (fun u=>@NS (σ.apply dst u) ⟨K⟩) (.convI c e):=_root_.id rfl
theorem Vl{c:Opd} : pg P σ dst K (.rangeS c)=ey P σ dst (fun u=>@NS (σ.apply dst u) ⟨K⟩) (.rangeS c):=_root_.id rfl
theorem YN{c:Opd} : pg P σ dst K (.nextS c)=ey P σ dst (fun u=>@NS (σ.apply dst u) ⟨K⟩) (.nextS c):=_root_.id rfl
theorem YO{c:Opd} : pg P σ dst K (.convB c)=ey P σ dst (fun u=>@NS (σ.apply dst u) ⟨K⟩) (.convB c):=_root_.id rfl
theorem SP{q:Nat}{c:Nat}{e:Opd}{f:Opd} : pg P σ dst K (.appendS q c e f)=ey P σ dst (fun u=>@NS (σ.apply dst u) ⟨K⟩) (.appendS q c e f):=_root_.id rfl
theorem SQ{c:Nat}{e:Opd} : pg P σ dst K (.mkIface c e)=ey P σ dst (fun u=>@NS (σ.apply dst u) ⟨K⟩) (.mkIface c e):=_root_.id rfl
theorem Vm{c:Nat}{e:List Opd} : pg P σ dst K (.mkFunc c e)=ey P σ dst (fun u=>@NS (σ.apply dst u) ⟨K⟩) (.mkFunc c e):=_root_.id rfl
theorem SR{c:Nat}{e:Nat}{f:List SV}{h:Opd}{i:Opd} : pg P σ dst K (.mkSlice c e f h i)=ey P σ dst (fun u=>@NS (σ.apply dst u) ⟨K⟩) (.mkSlice c e f h i):=_root_.id rfl
theorem abn{c:Opd}{e:Option Opd}{f:Option Opd} : pg P σ dst K (.subS c e f)=ey P σ dst (fun u=>@NS (σ.apply dst u) ⟨K⟩) (.subS c e f):=_root_.id rfl
theorem abo{c e:Nat}{f:Opd}{h:Option Opd}{i:Option Opd} : pg P σ dst K (.subA c e f h i)=ey P σ dst (fun u=>@NS (σ.apply dst u) ⟨K⟩) (.subA c e f h i):=_root_.id rfl
theorem abp{c:Nat}{e:Opd}{f:Option Opd}{h:Option Opd}{i:Option Opd} : pg P σ dst K (.subV c e f h i)=ey P σ dst (fun u=>@NS (σ.apply dst u) ⟨K⟩) (.subV c e f h i):=_root_.id rfl
theorem Nd{c:Nat}{e:Opd} : pg P σ dst K (.fieldAddr c e)=ey P σ dst (fun u=>@NS (σ.apply dst u) ⟨K⟩) (.fieldAddr c e):=_root_.id rfl
theorem Nf{c:Nat}{e:Opd}{f:Opd} : pg P σ dst K (.indexAddr c e f)=ey P σ dst (fun u=>@NS (σ.apply dst u) ⟨K⟩) (.indexAddr c e f):=_root_.id rfl
theorem Qm{c:Nat}{e:Nat}{f:Opd}{h:Opd} : pg P σ dst K (.indexArr c e f h)=ey P σ dst (fun u=>@NS (σ.apply dst u) ⟨K⟩) (.indexArr c e f h):=_root_.id rfl
theorem Vn{c:Opd}{e:Opd} : pg P σ dst K (.indexS c e)=ey P σ dst (fun u=>@NS (σ.apply dst u) ⟨K⟩) (.indexS c e):=_root_.id rfl
theorem Vo{c:Nat}{e:Nat}{f:Option Nat}{h:Opd}{i:Opd} : pg P σ dst K (.indexA c e f h i)=ey P σ dst (fun u=>@NS (σ.apply dst u) ⟨K⟩) (.indexA c e f h i):=_root_.id rfl
theorem SS{c:Opd}{e:Nat} : pg P σ dst K (.extract c e)=ey P σ dst (fun u=>@NS (σ.apply dst u) ⟨K⟩) (.extract c e):=_root_.id rfl
theorem abq{c:Opd} : pg P σ dst K (.lenS c)=ey P σ dst (fun u=>@NS (σ.apply dst u) ⟨K⟩) (.lenS c):=_root_.id rfl
theorem abr{c:Opd} : pg P σ dst K (.lenV c)=ey P σ dst (fun u=>@NS (σ.apply dst u) ⟨K⟩) (.lenV c):=_root_.id rfl
theorem Vp{c:Nat} : pg P σ dst K (.allocB c)=ey P σ dst (fun u=>@NS (σ.apply dst u) ⟨K⟩) (.allocB c):=_root_.id rfl
theorem abs{c:Opd}{e:Opd} : pg P σ dst K (.maxI c e)=ey P σ dst (fun u=>@NS (σ.apply dst u) ⟨K⟩) (.maxI c e):=_root_.id rfl
theorem abt{c:Opd}{e:Opd} : pg P σ dst K (.minI c e)=ey P σ dst (fun u=>@NS (σ.apply dst u) ⟨K⟩) (.minI c e):=_root_.id rfl
theorem Vq{q:Nat}{c:Nat}{e:Nat}{f:Opd}{h:Opd} : pg P σ dst K (.append q c e f h)=ey P σ dst (fun u=>@NS (σ.apply dst u) ⟨K⟩) (.append q c e f h):=_root_.id rfl
theorem abu{f:Nat}{c:List Opd} : pg P σ dst K (.call f c)=ey P σ dst (fun u=>@NS (σ.apply dst u) ⟨K⟩) (.call f c):=_root_.id rfl
theorem YP{f:Opd}{c:List Opd} : pg P σ dst K (.callV f c)=ey P σ dst (fun u=>@NS (σ.apply dst u) ⟨K⟩) (.callV f c):=_root_.id rfl
theorem YQ{f:Nat}{c:List Opd} : pg P σ dst K (.callM f c)=@Vk P σ dst (.val (.fn f [])) c ⟨K⟩:=_root_.id rfl
theorem YR{c:List SV}{e:Opd} : pg P σ dst K (.clear c e)=ey P σ dst (fun u=>@NS (σ.apply dst u) ⟨K⟩) (.clear c e):=_root_.id rfl
theorem Vr{f:Opd}{c:List Opd} : pg P σ dst K (.callMV f c)=@Vk P σ dst (val σ f) c ⟨K⟩:=_root_.id rfl
end
theorem abv{P:Program}{K:St->Prop}{σ:St} : j9 P K [] σ=K σ:=_root_.id rfl
theorem YS{P:Program}{K:St->Prop}{σ:St}{d:Option Nat}{op:VOp}{r:List VOper} : j9 P K (⟨d,op,none⟩::r) σ=pg P σ d (j9 P K r) op:=_root_.id rfl
theorem ahy{P:Program}{K:St->Prop}{σ:St}{d:Option Nat}{op:VOp}{g:Nat}{r:List VOper} : j9 P K (⟨d,op,some (g,true)⟩::r) σ =
  @Bj (aE σ.env g) ⟨@NS (σ.setB g true) ⟨fun e=>pg P e d (j9 P K r) op⟩⟩ ⟨@NS ((σ.setB g false).apply d j6) ⟨j9 P K r⟩⟩ ⟨@NS (σ.apply d j6) ⟨j9 P K r⟩⟩:=by
 simp only[j9];cases f:aE σ.env g with
 |val v=>
  cases v with
  |bool c=>cases c<;>simp[kA,Bj,Br,NS,St.setB_self f]
  |tuple h=>cases h<;>simp[kA,Bj,NS]
  |_=>simp[kA,Bj]
 |_=>simp[kA,Bj]
theorem ahz{P:Program}{K:St->Prop}{σ:St}{d:Option Nat}{op:VOp}{g:Nat}{r:List VOper} : j9 P K (⟨d,op,some (g,false)⟩::r) σ =
  @Bj (aE σ.env g) ⟨@NS ((σ.setB g true).apply d j6) ⟨j9 P K r⟩⟩ ⟨@NS (σ.setB g false) ⟨fun e=>pg P e d (j9 P K r) op⟩⟩ ⟨@NS (σ.apply d j6) ⟨j9 P K r⟩⟩:=by
 simp only[j9];cases f:aE σ.env g with
 |val v=>
  cases v with
  |bool c=>cases c<;>simp[kA,Bj,Br,NS,St.setB_self f]
  |tuple h=>cases h<;>simp[kA,Bj,NS]
  |_=>simp[kA,Bj]
 |_=>simp[kA,Bj]
section
variable {P:Program} {a b:VCode} {Q:Exit->St->Prop} {σ:St}
theorem aeK{c:Opd} : pw P (.cond c a b) Q σ=@BrC (val σ c) ⟨pw P a Q σ⟩ ⟨pw P b Q σ⟩:=by
 simp only[pw];cases val σ c with
 |val v=>cases v<;>rfl
 |_=>rfl
theorem aeL:pw P .skip Q σ=Q .normal σ:=_root_.id rfl
theorem aeM{e:List VOper}{c:List Nat} : pw P (.region e .text c) Q σ=j9 P (fun f=>@NS (f.drop c) ⟨Q .normal⟩) e σ:=_root_.id rfl
theorem aeN{e:List VOper}{c:List Nat} : pw P (.region e .calm c) Q σ=pI P (fun f=>@NS (f.drop c) ⟨Q .normal⟩) e σ:=_root_.id rfl
theorem abw{e:List VOper}{c:List Nat}{ps ms:List (Nat×Nat)} : pw P (.region e (.drawn ps ms) c) Q σ=pH P (fun es f=>yW σ ps ms es=true/\@NS (f.drop c) ⟨Q .normal⟩) e σ []:=_root_.id rfl
theorem ahA:pw P (.seq a b) Q σ=pw P a (fun e c=>match e with
  |.normal=>pw P b Q c
  |e=>Q e c) σ:=_root_.id rfl
theorem abx{id:Nat} : pw P (.block id a) Q σ=pw P a (fun e c=>match e with
  |.exit i=>if i=id then Q .normal c else Q (.exit i) c
  |e=>Q e c) σ:=_root_.id rfl
theorem aeO:pw P (.loop a) Q σ=@TVW P σ ⟨.loop a⟩ ⟨Q⟩:=_root_.id rfl
theorem aeP{id:Nat} : pw P (.exit id) Q σ=Q (.exit id) σ:=_root_.id rfl
theorem aby:pw P (.scope a) Q σ=@TVW P σ ⟨.scope a⟩ ⟨Q⟩:=_root_.id rfl
theorem abz{l:Nat} : pw P (.label l) Q σ=Q .normal σ:=_root_.id rfl
theorem aeQ{l:Nat} : pw P (.goto l) Q σ=Q (.goto l) σ:=_root_.id rfl
theorem ahB:pw P .ret Q σ=Q .ret σ:=_root_.id rfl
end
def YT(σ:St)(es:List Eff) [k:Hold (St->List Eff->Prop)]:Prop:=k.val σ es
theorem ahC{a:List (Nat×SV)}{b:List (Nat×Ob)}{c:List Nat}{n:Nat}{e:List (Nat×List IV)}{es:List Eff}{k:St->List Eff->Prop} : @YT ⟨a,b,c,n,e⟩ es ⟨k⟩=k ⟨a,b,c,n,e⟩ es:=_root_.id rfl
section
variable {P:Program} {K:List Eff->St->Prop} {σ:St} {d:Option Nat} {op:VOp} {g:Nat} {r:List VOper} {es:List Eff}
theorem abA:pH P K [] σ es=K es σ:=_root_.id rfl
theorem YU:pH P K (⟨d,op,none⟩::r) σ es=ey P σ d (fun u=>@YT (σ.apply d u) (es++[⟨fF σ op u,d,u⟩]) ⟨pH P K r⟩) op:=_root_.id rfl
theorem ahD:pH P K (⟨d,op,some (g,true)⟩::r) σ es =
  @Bj (aE σ.env g) ⟨@NS (σ.setB g true) ⟨fun e=>ey P e d (fun u=>@YT (e.apply d u) (es++[⟨fF e op u,d,u⟩]) ⟨pH P K r⟩) op⟩⟩ ⟨@YT ((σ.setB g false).apply d j6) (es++[⟨[],d,j6⟩]) ⟨pH P K r⟩⟩ ⟨@YT (σ.apply d j6) (es++[⟨[],d,j6⟩]) ⟨pH P K r⟩⟩:=by
 simp only[pH];cases f:aE σ.env g with
 |val v=>
  cases v with
  |bool c=>cases c<;>simp[kA,Bj,Br,NS,YT,St.setB_self f]
  |tuple h=>cases h<;>simp[kA,Bj,YT]
  |_=>simp[kA,Bj]
 |_=>simp[kA,Bj]
theorem ahE:pH P K (⟨d,op,some (g,false)⟩::r) σ es =
  @Bj (aE σ.env g) ⟨@YT ((σ.setB g true).apply d j6) (es++[⟨[],d,j6⟩]) ⟨pH P K r⟩⟩ ⟨@NS (σ.setB g false) ⟨fun e=>ey P e d (fun u=>@YT (e.apply d u) (es++[⟨fF e op u,d,u⟩]) ⟨pH P K r⟩) op⟩⟩ ⟨@YT (σ.apply d j6) (es++[⟨[],d,j6⟩]) ⟨pH P K r⟩⟩:=by
 simp only[pH];cases f:aE σ.env g with
 |val v=>
  cases v with
  |bool c=>cases c<;>simp[kA,Bj,Br,NS,YT,St.setB_self f]
  |tuple h=>cases h<;>simp[kA,Bj,YT]
  |_=>simp[kA,Bj]
 |_=>simp[kA,Bj]
end
def J6{c:Type}(σ:St)(k:Nat) [I:Hold (c->St)] [A:Hold (c->Prop)] [m:Hold (c->Nat)]:Prop:=∃j,A.val j/\m.val j<k/\cJ σ (I.val j)
theorem aj{e:Type}{σ:St}{k:Nat}{I:e->St}{A:e->Prop}{m:e->Nat}(j:e)(h:A j)(o:m j<k)(q:cJ σ (I j)):@J6 e σ k ⟨I⟩ ⟨A⟩ ⟨m⟩:=⟨j,h,o,q⟩
theorem Hs{P:Program}(hm:P.follows .mixedOrders=true){f:Type}(I:f->St)(A:f->Prop)(m:f->Nat)(o:f){b:VCode}{Q:Exit->St->Prop}{σ:St}(p:A o)(q:cJ σ (I o))(s:∀i,(I i).n=σ.n)
  (c:∀i,A i->pw P b (fun e h=>match e with
    |.normal=>@J6 f h (m i) ⟨I⟩ ⟨A⟩ ⟨m⟩
    |e=>Q e h) (I i)):@TVW P σ ⟨.loop b⟩ ⟨Q⟩:=aes hm I A m o p q s c
def X7{c:Type}(σ:St)(f l:Nat)(k:Option Nat) [I:Hold (c->St)] [A:Hold (c->Prop)] [m:Hold (c->Nat)]:Prop:=f=l/\∃j,A.val j/\(∀e,k=some e->m.val j<e)/\cJ σ (I.val j)
theorem ahF{P:Program}(hm:P.follows .mixedOrders=true){o:Type}(l:Nat)(I:o->St)(A:o->Prop)(m:o->Nat){b r:VCode}{Q:Exit->St->Prop}{σ:St}(x:y7 b l=some r)(y:∀i,(I i).n=σ.n)
  (first:pw P b (fun e c=>match e with
    |.goto p=>@X7 o c p l none ⟨I⟩ ⟨A⟩ ⟨m⟩
    |e=>Q e c) σ)
  (n:∀i,A i->pw P r (fun e c=>match e with
    |.goto p=>@X7 o c p l (some (m i)) ⟨I⟩ ⟨A⟩ ⟨m⟩
    |e=>Q e c) (I i)):@TVW P σ ⟨.scope b⟩ ⟨Q⟩:=
 aa0 hm l I A m x y
  (J5 b (fun e c h=>by
    cases e<;>first|exact h|(obtain⟨q,j,u,_,v⟩:=h;exact⟨q,j,u,v⟩)) first)
  (fun i z=>J5 r (fun e c h=>by
    cases e<;>first|exact h|(obtain⟨q,j,u,B,v⟩:=h;exact⟨q,j,u,B _ rfl,v⟩)) (n i z))
theorem YV{P:Program}{Q:Exit->St->Prop}{σ:St}{e:List VOper}{c:List Nat}{ps ms:List (Nat×Nat)} : pw P (.region e (.drawnM ps ms) c) Q σ=uD P (fun f=>@NS (f.drop c) ⟨Q .normal⟩) σ ps ms e σ []:=_root_.id rfl
theorem YW{P:Program}{K:St->Prop}{c σ:St}{ps ms:List (Nat×Nat)}{o:VOper}{es:List Eff} : uD P K c ps ms [o] σ es=(yW c (cutP es.length ps) (cutP es.length ms) es=true/\j9 P K [o] σ):=_root_.id rfl
theorem Vu{P:Program}{K:St->Prop}{c σ:St}{ps ms:List (Nat×Nat)}{d:Option Nat}{op:VOp}{o2:VOper}{r:List VOper}{es:List Eff} : uD P K c ps ms (⟨d,op,none⟩::o2::r) σ es=ey P σ d (fun u=>@YT (σ.apply d u) (es++[⟨fF σ op u,d,u⟩]) ⟨uD P K c ps ms (o2::r)⟩) op:=_root_.id rfl
attribute [simp ↓] abA YU ahD ahE YV YW Vu
attribute [simp] ahC fF VOp.acts VOp.opds Hk SV.refs CW
attribute [simp ↓] YH YR Vr aa9 abo Vi Vp abv YS ahy ahz Ve Vl YF YN YG YO SK SP abk abl YJ aeD YK Ka abm YL Ql aeE aeF aeG aeH aeI aeJ ahx YM SQ Vm SR abn abp Nd Nf Qm Vn Vo SS abq abr abs abt Vq abu YP YQ
def Qn{c:Type}(σ:St) [I:Hold (c->St)] [A:Hold (c->Prop)]:Prop:=∃j,A.val j/\cJ σ (I.val j)
theorem cz{c:Type}{σ:St}{I:c->St}{A:c->Prop}(j:c)(e:A j)(f:cJ σ (I j)):@Qn c σ ⟨I⟩ ⟨A⟩:=⟨j,e,f⟩
def aeR(P:Program)(σ:St) [v:Hold VCode] [Q:Hold (Exit->St->Prop)]:Prop:=TV P v.val Q.val σ
theorem ahG{P:Program}{v:VCode}{Q:Exit->St->Prop}{σ:St} : pw P (.cut v) Q σ=@aeR P σ ⟨v⟩ ⟨Q⟩:=_root_.id rfl
theorem Qo{P:Program}(hm:P.follows .mixedOrders=true){f:Type}(I:f->St)(A:f->Prop){x y:VCode}{Q:Exit->St->Prop}{σ:St}(h:∀i,(I i).n=σ.n)
  (j:pw P x (fun e c=>match e with
    |.normal=>@Qn f c ⟨I⟩ ⟨A⟩
    |e=>Q e c) σ) (m:∀i,A i->pw P y Q (I i)):@aeR P σ ⟨.seq x y⟩ ⟨Q⟩:=ahq hm I A h j m
theorem uF{P:Program}(hm:P.follows .mixedOrders=true){v:VCode}{Q:Exit->St->Prop}{σ:St}(h:pw P v Q σ):@aeR P σ ⟨v⟩ ⟨Q⟩:=kK hm v h
attribute [simp ↓] ahG
theorem YX{P:Program}{Q:Exit->St->Prop}{σ:St} : pw P .refuse Q σ=False:=_root_.id rfl
attribute [simp ↓] YX aeL aeM aeN abw ahA aeK abx aeO aeP aby abz aeQ ahB abj YI ahv ahw aa4 YA aa5 aa6 YB aeu YC K9 aa7 YD Qj aev aew aex aey aez aeA ahr YE SL Vf SM aa8 aba Nb Nc Qk Vg Vh SN abb abc abd abe Vj
attribute [simp] X6 SO ahs ahu ai1 aht abg abi aeC abh ai0 aa3 Vd Vc
attribute [simp] abf St.setB
attribute [simp] DM Vs.ren SV.ren wj Ob.ren aiZ N8 St.mapply OD SV.flat SV.flatL Ob.flat Sw rq E4
attribute [simp] ev val aE ac put putD Jz dB cp St.apply St.drop kJ xa kf WY cellsOf kD qS Be nj DK DL IV.flat IV.flat.flats IV.one Yf Yg eqC MW pA sL dp nk On gG v6 uA G8 sQ jz fa DI iJ zb K7 sX X5 K8 N9 st0 SV.noRef SV.noRefs Ob.noRef G6 G7 SV.erase fJ Ob.erase Op.bytesLess
abbrev tm(k:Nat):Opd:=.tmp k
abbrev ci(n:Int):Opd:=.const (.val (.int .i64 n))
abbrev cu(n:Int):Opd:=.const (.val (.int .u8 n))
abbrev cb(b:Bool):Opd:=.const (.val (.bool b))
abbrev cs(s:List UInt8):Opd:=.const (.val (.str s))
abbrev o1(d:Nat)(op:VOp):VOper:=⟨some d,op,none⟩
abbrev o2(d:Nat)(op:VOp)(g:Nat)(b:Bool):VOper:=⟨some d,op,some (g,b)⟩
abbrev o3(op:VOp):VOper:=⟨none,op,none⟩
abbrev rt(l:List VOper)(d:List Nat):VCode:=.region l .text d
def wd(l:List (Nat×List (Nat×Nat))):List (Nat×Nat):=l.flatMap fun(k,c)=>c.flatMap fun(a,b)=>(List.range' a (b+1-a)).map fun j=>(j,k)
end Go.Vs
namespace Go.Vs
open Go.ChangeShapes Go.WideShapes Go.RowKit
inductive Sc where
 |int (k:IntKind)
 |bool
 |str
 |struct (fs:List Sc)
 |slice (e:Sc)
 |arr (n:Nat) (e:Sc)
mutual
def Sc.size:Sc->Nat
 |.int _=>1
 |.bool=>1
 |.str=>1
 |.struct h=>Sc.sizes h
 |.slice _=>1
 |.arr n e=>n*e.size
def Sc.sizes:List Sc->Nat
 |[]=>0
 |s::r=>s.size+Sc.sizes r
end
mutual
def yA(P:Program):Sc->TypeId->Bool
 |.int k,t=>match P.underlying t with
  |some (.int j)=>j==k
  |_=>false
 |.bool,t=>match P.underlying t with
  |some .bool=>true
  |_=>false
 |.str,t=>match P.underlying t with
  |some .string=>true
  |_=>false
 |.struct c,t=>match P.underlying t with
  |some (.struct i)=>wo P c i.toList 0&&P.cellsOf t==Sc.sizes c
  |_=>false
 |.slice e,t=>match P.underlying t with
  |some (.slice h)=>yA P e h&&P.cellsOf h==e.size&&decide (0<e.size)
  |_=>false
 |.arr n e,t=>match P.underlying t with
  |some (.array m h)=>m==n&&yA P e h&&P.cellsOf h==e.size&&P.cellsOf t==n*e.size
  |_=>false
def wo(P:Program):List Sc->List Field->Nat->Bool
 |[],[],_=>true
 |s::r,f::i,off=>f.offset==off&&P.cellsOf f.type==s.size&&yA P s f.type&&wo P r i (off+s.size)
 |_,_,_=>false
end
mutual
def Sh:Sc->List IV->Prop
 |.int k,l=>∃n,l=[.int k n]/\(Lit.int k n).wf=true
 |.bool,l=>∃b,l=[.bool b]
 |.str,l=>∃s,l=[.str s]/\s.length<=maxLen
 |.struct c,l=>Shs c l
 |.slice e,l=>∃rows,l=[.slice rows]/\rows.length<=maxLen/\∀f∈rows,Sh e f
 |.arr n e,l=>∃parts:List (List IV),l=parts.flatten/\parts.length=n/\∀p∈parts,Sh e p
def Shs:List Sc->List IV->Prop
 |[],l=>l=[]
 |s::r,l=>∃a b,l=a++b/\Sh s a/\Shs r b
end
def Kb(w:World):bb:=fun b _=>b<w.heap.size
theorem sZ{w:World}{a:Addr}{v:Value}(h:w.cell? a=some v):a.block<w.heap.size/\a.spot=none:=by
 unfold World.cell? at h;split at h
 .next c t j f=>
  split at h
  .simp at h
  next i=>
  refine⟨?_,by simpa using i⟩;exact(Array.getElem?_eq_some_iff.1 f).1
 simp at h
theorem repCells_of{w:World} : ∀ {c:List IV} {cs:List Value} {blk off:Nat},ag w (Kb w) c cs->(∀j,j<cs.length->w.cell? ⟨blk,off+j,none⟩=cs[j]?)->aQ w (Kb w) c blk off
 |[],_,_,_,_,_=>by simp[aQ]
 |x::r,_,blk,off,⟨v,p,i,l,n,o⟩,h=>by
  subst i;have f:=h 0 (by simp);simp only[Nat.add_zero,List.getElem?_cons_zero]at f;refine⟨(sZ f).1,l,⟨v,f,n⟩,repCells_of o (fun j q=>?_)⟩;have:=h (j+1) (by simp;omega);rw[List.getElem?_cons_succ]at this;rw[<-this];congr 2;omega
theorem OK{w:World}{base:Nat}{a:Addr}{n:Nat}{cs:List Value}(h:w.cells? base a n=some cs):cs.length=n/\∀j,j<n->w.cell? (a.add j)=cs[j]?:=by
 unfold World.cells? at h;split at h
 .refine⟨by simpa using mapM_some_length h,fun j c=>?_⟩;exact mapM_some_get h j j (by simp[c])
 simp at h
theorem X8{w:World}{e:Sc}{s blk off:Nat} : ∀(n start:Nat),(∀i,i<n->∃c,Sh e c/\c.length=s/\aQ w (Kb w) c blk (off+(start+i)*s))->
  ∃f,f.length=n/\(∀c∈f,Sh e c)/\bB w (Kb w) f s blk (off+start*s)
 |0,start,_=>⟨[],rfl,by simp,by simp[bB]⟩
 |n+1,start,h=>by
  obtain⟨c,m,o,p⟩:=h 0 (by omega)
  obtain⟨f,q,u,l⟩:=X8 n (start+1) (fun i z=>by
   obtain⟨c,v,x,y⟩:=h (i+1) (by omega);refine⟨c,v,x,?_⟩;rw[show start+1+i=start+(i+1) by omega]
   exact y)
  refine⟨c::f,by simp[q],?_,?_⟩
  .intro r j;rcases List.mem_cons.1 j with rfl|j
   .exact m
   exact u r j
  refine⟨o,by simpa using p,?_⟩;rw[Nat.add_mul,Nat.one_mul,<-Nat.add_assoc]at l;exact l
section
variable {H:Type} {enc:TypeId×Value->H} {P:Program} {w:World} {base:Nat} {spare:Nat->Bool} {held:Bool}
theorem Kc{a:Addr}(h:a.spot=none)(i:Nat):a.add i=⟨a.block,a.off+i,none⟩:=by
 obtain⟨b,o,s⟩:=a;subst h;unfold Addr.add;split
 .next c=>simp[c]
 rfl
mutual
theorem E5:∀(sc:Sc) (c:Nat) (t:TypeId) (cs:List Value) (x:DataW H×List MemPlace),yA P sc t=true->DataW.trod enc P w base spare held c t cs=some x->∃o,Sh sc o/\ag w (Kb w) o cs/\o.length=sc.size
 |.int k,c,t,cs,x,l,h=>by
  simp only[yA]at l;split at l
  .next k' u=>
   rw[beq_iff_eq]at l;subst l;obtain⟨n,rfl,_,hw⟩:=DataW.trod_int u h;exact⟨[.int _ n],⟨n,rfl,hw⟩,⟨_,_,rfl,rfl,rfl,rfl⟩,rfl⟩
  simp at l
 |.bool,c,t,cs,x,l,h=>by
  simp only[yA]at l;split at l
  .next u=>
   obtain⟨n,rfl,_⟩:=DataW.trod_bool u h;exact⟨[.bool n],⟨n,rfl⟩,⟨_,_,rfl,rfl,rfl,rfl⟩,rfl⟩
  simp at l
 |.str,c,t,cs,x,l,h=>by
  simp only[yA]at l;split at l
  .next u=>
   obtain⟨n,rfl,_,hl⟩:=DataW.trod_string u h;exact⟨[.str n.data.toList],⟨_,rfl,by simpa using hl⟩,⟨_,_,rfl,rfl,rfl,rfl⟩,rfl⟩
  simp at l
 |.struct q,c,t,cs,x,l,h=>by
  simp only[yA]at l;split at l
  .next D u=>
   simp only[Bool.and_eq_true,beq_iff_eq]at l;obtain⟨xs,n,_,_,hl,hx,M⟩:=DataW.trod_struct u h
   obtain⟨o,h1,Z,h3⟩:=Kd q n D.toList 0 cs (by omega) l.1 (fun i f O=>by
    have rh:D[i]?=some f:=by simpa using O
    have:=M i f rh;have j':i<D.size:=(Array.getElem?_eq_some_iff.1 rh).1;rw[List.getElem?_eq_getElem (by omega)]at this
    exact⟨_,this⟩)
   rw[List.drop_zero,List.take_of_length_le (by omega)]at Z;exact⟨o,h1,Z,h3⟩
  simp at l
 |.slice e,c,t,cs,x,l,h=>by
  simp only[yA]at l;split at l
  .next te u=>
   simp only[Bool.and_eq_true,beq_iff_eq,decide_eq_true_eq]at l;obtain⟨⟨F,I⟩,a'⟩:=l;rcases DataW.trod_slice u h with⟨rfl,_⟩|⟨a,C,b',c',h',n,_,rfl,_,_,l',i',m',hE,_,_⟩
   .exact⟨[.slice []],⟨[],rfl,by simp,by simp⟩,⟨_,_,rfl,rfl,⟨none,0,rfl,by simp,by simp⟩,rfl⟩,rfl⟩
   have z:0<C->a.spot=none:=by
    intro A;have rh:=hE 0 A;rw[List.getElem?_eq_getElem (by omega)]at rh;simp only[Option.bind_eq_some_iff]at rh;obtain⟨J,L,_⟩:=rh;have N:=OK L;have h0:=N.2 0 (by omega);cases hc:J[0]? with
    |none=>rw[List.getElem?_eq_none_iff]at hc;omega
    |some v=>
     rw[hc]at h0;simpa[Addr.add]using (sZ h0).2
   have R:∀i,i<C->∃B,Sh e B/\B.length=e.size/\aQ w (Kb w) B a.block (a.off+(0+i)*e.size):=by
    intro i O;have rh:=hE i O;rw[List.getElem?_eq_getElem (by omega)]at rh;simp only[Option.bind_eq_some_iff]at rh;obtain⟨J,L,d'⟩:=rh;obtain⟨o,S,U,V⟩:=E5 e n te J _ F d';have N:=OK L;rw[I]at N;refine⟨o,S,V,?_⟩;refine repCells_of U (fun j hj=>?_);rw[<-N.2 j (by omega),Kc (z (by omega)),Kc rfl];simp
   obtain⟨E,k1,k2,k3⟩:=X8 (e:=e) (s:=e.size) (blk:=a.block) (off:=a.off) C 0 (fun i O=>by
    obtain⟨B,S,U,V⟩:=R i O
    exact⟨B,S,U,V⟩)
   refine⟨[.slice E],⟨E,rfl,by omega,k2⟩,⟨_,_,rfl,rfl,⟨some a,b',by rw[k1],by omega,fun e'=>?_⟩,rfl⟩,rfl⟩
   have A:0<C:=by
    rw[<-k1];exact List.length_pos_iff.2 e'
   refine⟨a.block,a.off,e.size,?_,by simpa using k3⟩;have W:=z A;obtain⟨ab,ao,n'⟩:=a;simp only at W;rw[W]
  simp at l
 |.arr n e,c,t,cs,x,l,h=>by
  simp only[yA]at l;split at l
  .next m te u=>
   simp only[Bool.and_eq_true,beq_iff_eq]at l;obtain⟨⟨⟨rfl,F⟩,I⟩,a'⟩:=l;obtain⟨xs,f,_,_,hl,hx,M⟩:=DataW.trod_array u h
   have f':∀k,k<=m->∃parts:List (List IV),parts.length=k/\(∀p∈parts,Sh e p)/\ag w (Kb w) parts.flatten (cs.take (k*e.size))/\parts.flatten.length=k*e.size:=by
    intro k
    induction k with
    |zero=>intro _;exact⟨[],rfl,by simp,by simp[ag],by simp⟩
    |succ k ih=>
     intro hk;obtain⟨parts,p1,p2,p3,p4⟩:=ih (by omega);have X:=M k (by omega);rw[List.getElem?_eq_getElem (by omega),I]at X;obtain⟨o,S,U,V⟩:=E5 e f te _ _ F X;refine⟨parts++[o],by simp[p1],?_,?_,?_⟩
     .intro p Y;rcases List.mem_append.1 Y with Y|Y
      .exact p2 p Y
      rw[List.mem_singleton.1 Y];exact S
     .have:=ag.append p3 U;rw[<-List.take_add]at this;simpa[Nat.add_mul]using this
     simp[p4,V,Nat.add_mul]
   obtain⟨parts,p1,p2,p3,p4⟩:=f' m (Nat.le_refl _);rw[List.take_of_length_le (by omega)]at p3;exact⟨parts.flatten,⟨parts,rfl,p1,p2⟩,p3,p4⟩
  simp at l
theorem Kd:∀(q:List Sc) (c:Nat) (D:List Field) (off:Nat) (cs:List Value),off+Sc.sizes q<=cs.length->wo P q D off=true->
  (∀(i:Nat) (f:Field),D[i]?=some f->∃y,DataW.trod enc P w base spare held c f.type ((cs.drop f.offset).take (P.cellsOf f.type))=some y)->
  ∃o,Shs q o/\ag w (Kb w) o ((cs.drop off).take (Sc.sizes q))/\o.length=Sc.sizes q
 |[],_,[],off,cs,_,_,_=>⟨[],rfl,by simp[ag,Sc.sizes],rfl⟩
 |[],_,_::_,_,_,_,h,_=>by simp[wo]at h
 |_::_,_,[],_,_,_,h,_=>by simp[wo]at h
 |s::r,c,f::D,off,cs,g',h,M=>by
  simp only[wo,Bool.and_eq_true,beq_iff_eq]at h;obtain⟨⟨⟨h1,Z⟩,h3⟩,h4⟩:=h;simp only[Sc.sizes]at g' |-;obtain⟨y,hy⟩:=M 0 f rfl;rw[h1,Z]at hy;obtain⟨a,a1,a2,a3⟩:=E5 s c _ _ _ h3 hy;obtain⟨b,b1,b2,b3⟩:=Kd r c D (off+s.size) cs (by omega) h4 (fun i g N=>M (i+1) g N);refine⟨a++b,⟨a,b,rfl,a1,b1⟩,?_,by simp[a3,b3]⟩;have:=ag.append a2 b2;rw[<-List.drop_drop,<-List.take_add]at this;exact this
end
end
end Go.Vs
namespace Go.Vs
open Go.ChangeShapes Go.WideShapes Go.RowKit
def Arg:Sc->IV->Prop
 |.struct c,v=>∃l,v=.agg l/\Shs c l
 |.arr n e,v=>∃l,v=.agg l/\Sh (.arr n e) l
 |f,v=>Sh f [v]
def aeS:List Sc->List IV->Prop
 |[],l=>l=[]
 |s::r,l=>∃v b,l=v::b/\Arg s v/\aeS r b
def OL(P:Program):List Sc->List TypeId->Bool
 |[],[]=>true
 |s::r,t::ts=>yA P s t&&OL P r ts
 |_,_=>false
section
variable {H:Type} {enc:TypeId×Value->H} {P:Program} {w:World} {base:Nat} {spare:Nat->Bool} {held:Bool}
theorem aeT{S:bb}{iv:IV}{v:Value}(h:ag w S [iv] [v]):sI w S iv v:=by
 obtain⟨u,f,c,_,e,_⟩:=h;simp only[List.cons.injEq]at c;rw[c.1];exact e
theorem aeU{l:Sc}{t:TypeId}{v:Value}{d:DataW H}{ps:List MemPlace}{y:Nat}(c:yA P l t=true)(z:DataW.Trod enc P w base spare held t v d ps)(f:Value.okWide P w .any y t v):∃iv,Arg l iv/\sI w (Kb w) iv v:=by
 obtain⟨o,A⟩:=z;obtain⟨h,j,p,x⟩:=E5 l o t _ _ c A
 have one:∀ {u:Value},u.cells.toList=[u]->v=u->l.size=1->∃iv,h=[iv]/\sI w (Kb w) iv v:=by
  intro u B C s;rw[s]at x;obtain⟨iv,rfl⟩:=List.length_eq_one_iff.1 x;subst C;rw[B]at p;exact⟨iv,rfl,aeT p⟩
 cases l with
 |int k=>
  simp only[yA]at c;split at c
  .next J i=>
   obtain⟨n,rfl⟩:=okWide_int i f;obtain⟨iv,rfl,q⟩:=one rfl rfl rfl;exact⟨iv,j,q⟩
  simp at c
 |bool=>
  simp only[yA]at c;split at c
  .next i=>
   obtain⟨n,rfl⟩:=okWide_bool i f;obtain⟨iv,rfl,q⟩:=one rfl rfl rfl;exact⟨iv,j,q⟩
  simp at c
 |str=>
  simp only[yA]at c;split at c
  .next i=>
   obtain⟨n,rfl⟩:=okWide_string i f;obtain⟨iv,rfl,q⟩:=one rfl rfl rfl;exact⟨iv,j,q⟩
  simp at c
 |slice e=>
  simp only[yA]at c;split at c
  .next D i=>
   obtain⟨a,E,F,rfl⟩:=okWide_slice i f;obtain⟨iv,rfl,q⟩:=one rfl rfl rfl;exact⟨iv,j,q⟩
  simp at c
 |struct I=>
  simp only[yA]at c;split at c
  .next L i=>
   simp only[Value.okWide,i]at f;obtain⟨cs,rfl,_,_⟩:=f;exact⟨.agg h,⟨h,rfl,j⟩,cs,rfl,p⟩
  simp at c
 |arr n e=>
  simp only[yA]at c;split at c
  .next m D i=>
   simp only[Value.okWide,i]at f;obtain⟨cs,rfl,_,_⟩:=f;exact⟨.agg h,⟨h,rfl,j⟩,cs,rfl,p⟩
  simp at c
theorem ST:∀ {e:List Sc} {ts:List TypeId} {f:List Value} {l:List (DataW H)} {ps:List MemPlace} {m:Nat},OL P e ts=true->DataW.TrodAll enc P w base spare held ts f l ps->
  (∀(j:Nat) t v,ts[j]?=some t->f[j]?=some v->Value.okWide P w .any m t v)->∃c,aeS e c/\br w (Kb w) c f/\l.length=ts.length
 |[],[],[],[],_,_,_,_,_=>⟨[],rfl,rfl,rfl⟩
 |[],_::_,_,_,_,_,h,_,_=>by simp[OL]at h
 |_::_,[],_,_,_,_,h,_,_=>by simp[OL]at h
 |s::r,t::ts,v::f,d::l,ps,m,h,⟨p,q,n,o,_⟩,i=>by
  simp only[OL,Bool.and_eq_true]at h;obtain⟨iv,u,x⟩:=aeU h.1 n (i 0 t v rfl rfl);obtain⟨c,y,z,A⟩:=ST h.2 o (fun j B C D E=>i (j+1) B C D E);exact⟨iv::c,⟨iv,c,rfl,u,y⟩,⟨v,f,rfl,x,z⟩,by simp[A]⟩
 |[],[],[],_::_,_,_,_,h,_=>h.elim
 |[],[],_::_,_,_,_,_,h,_=>h.elim
 |_::_,_::_,[],_,_,_,_,h,_=>h.elim
 |_::_,_::_,_::_,[],_,_,_,h,_=>h.elim
theorem Bk(l:laidOutB P=true){W m:World}{e:Nat->Bool} : ∀ {ts:List TypeId} {i:List Value} {j:List (DataW H)} {ps:List MemPlace},ts.all (fun t=>P.readableRec t&&decide (t<P.types.size))=true->
  DataW.TrodAll enc P W base (fun _=>true) true ts i j ps->(∀p∈ps,W.sameAt m p)->(∀p∈ps,e p.block=true)->DataW.TrodAll enc P m base e true ts i j ps
 |[],[],[],_,_,h,_,_=>h
 |t::ts,v::i,d::j,ps,f,⟨p,q,s,u,y⟩,n,o=>by
  subst y;simp only[List.all_cons,Bool.and_eq_true,decide_eq_true_eq]at f
  exact⟨p,q,WideElems.Trod_stays l f.1.1 f.1.2 s (fun x c=>n x (List.mem_append_left _ c)) (fun x c=>o x (List.mem_append_left _ c)),
   Bk l f.2 u (fun x c=>n x (List.mem_append_right _ c)) (fun x c=>o x (List.mem_append_right _ c)),rfl⟩
 |[],[],_::_,_,_,h,_,_=>h.elim
 |[],_::_,_,_,_,h,_,_=>h.elim
 |_::_,[],_,_,_,h,_,_=>h.elim
 |_::_,_::_,[],_,_,h,_,_=>h.elim
end
theorem Kept.below{w c:World}(h:Kept (fun _=>False) w c):Below w.heap.size w c:=⟨h.os,h.tape,h.output,h.size,fun k e=>h.block k e (fun x=>x)⟩
end Go.Vs
namespace Go.Vs
open Go.ChangeShapes Go.WideShapes Go.RowKit
theorem CV.globals{P:Program}{k:FuncId}{c:List IV}{r:Res}{f:List (Nat×List IV)}(h:CV [] P k c r):CV f P k c r:=
 ⟨h.1,fun w S i j e _=>h.2 w S i j e (fun p l=>by simp at l)⟩
theorem lB.globals{P:Program}{k:FuncId}{c:MC}{f:List (Nat×List IV)}(h:lB [] P k c):lB f P k c:=
 ⟨h.1,fun w S i j l m _ e n o q=>h.2 w S i j l m (fun p s=>by simp at s) e n o q⟩
theorem It{H:Type}{enc:TypeId×Value->H}{a:Assume}{C:Checked}{os:Os}{k:FuncId}{l:Func}{s:ChangeSpec}{f:List (String×DataW Unit)}{gl:List (Nat×List IV)}
  (R:ownKnob C.prog.godebug=none) (m:os.Started) (y:C.prog.inits.idxOf? k=none) (F:C.prog.funcs[k]?=some l) (B:l.name≠ "runtime.NumGoroutine") (D:l.body.isSome=true)
  (n:∃(w:World) (c:Tape) (i:Input),w.os=os/\(w.forCall c i).Shaped C.prog/\i.vars=[]/\Input.okWide C.prog (w.forCall c i) .any w.heap.size k i/\
    ((s.pre enc C.prog l [] false (w.forCall c i).memory i.args/\laidMetH C.prog f (w.forCall c i).memory)/\sizedMet enc C.prog l (OpenSpec.ofChange s) false (w.forCall c i).memory i.args)/\a.holds C.prog (lone (Frame.enter C.prog k i.args .normal) [] (w.forCall c i)))
  (S:∀W,laidMetH C.prog f W->∀p,p∈gl->jt W (Kb W) p)
  (I:List Sc) (U:OL C.prog I l.params.toList=true) (tb:TypeId) (J:l.resultTypes = #[tb]) (V:C.prog.underlying tb=some .bool) (N:s.vars=[])
  (hs:∀z:List (DataW H),z.length=l.params.toList.length->s.fn H z = {results:=[.lit (.bool true)],args:=z })
  (hl:laidOutB C.prog=true) (hr:l.params.toList.all (fun t=>C.prog.readableRec t&&decide (t<C.prog.types.size))=true)
  (h:∀args,aeS I args->Fn gl C.prog k args (.bool true)) :
  ReturnsInHanded a C os k .any (fun w args=>(s.pre enc C.prog l [] false w args/\laidMetH C.prog f w)/\sizedMet enc C.prog l (OpenSpec.ofChange s) false w args) (s.post enc C.prog l false true false false):=by
 refine returnsInHanded_of_change_and (X:=fun w _=>laidMetH C.prog f w) (fun _ _ _ Y h=>h.of_heap Y) R m y F n ?_;intro W base args z gs before L Z _ _ hL _;obtain⟨p,q,hA,hV,rfl,b',c'⟩:=id Z;obtain⟨a',h1,h2,h3⟩:=ST U hA (fun j t v ht N=>L j t v (by simpa using ht) (by simpa using N));rw[N]at hV
 have hg:gs=[]/\q=[]:=by
  cases gs with
  |nil=>exact⟨rfl,hV⟩
  |cons g r=>exact hV.elim
 obtain⟨rfl,rfl⟩:=hg;have hc:=((h a' h1).2 W (Kb W) args.toList (fun b o O=>O) h2 (S W hL)).calls F B D;rw[Array.toArray_toList]at hc;refine hc.mono fun e W' ⟨v,S',he,E,_,_,_,hk⟩=>?_
 have E:v=.bool true:=E;subst E;refine⟨.bool true,he,?_⟩;have O:=hk.below;have u:s.fn H (z++[]) = {results:=[.lit (.bool true)],args:=z }:=by rw[List.append_nil];exact hs z h3
 have M:∀x∈p,x.block<W.heap.size:=fun x A=>Z.lt x (List.mem_append_left _ A)
 refine⟨z,[],p++[],[],p,[],Z,?_,?_,?_,?_,fun Y=>by cases Y⟩
 .rw[u,J];exact⟨[],[],shut_bool V true,rfl,rfl⟩
 .rw[u];exact Bk hl hr hA (fun x A=>O.same (M x A)) (fun x A=>by simpa using M x A)
 .rw[u,N];rfl
 exact World.keptBut_mono (fun x A=>⟨A,.inr (.inl (by simpa using A))⟩) (O.frame (·∈p++[]))
theorem Bl{w:World}{k:IntKind}{b:Nat} : ∀ {zs:List Int} {c:Nat},(∀i,i<zs.length->w.cell? ⟨b,c+i,none⟩=some (.int k (zs.getD i 0)))->aQ w (Kb w) (zs.map (.int k ·)) b c
 |[],_,_=>trivial
 |z::r,c,h=>by
  have e:=h 0 (by simp);refine⟨(sZ e).1,rfl,⟨_,by simpa using e,rfl⟩,Bl (fun i f=>?_)⟩;have:=h (i+1) (by simp;omega);rw[show c+1+i=c+(i+1) by omega];simpa using this
end Go.Vs
namespace Go.Vs
open Go.RowKit Go.Lib
def Vv:List (Nat×Ob)->Nat->Ob->List (Nat×Ob)
 |[],_,_=>[]
 |(j,x)::r,k,o=>bif j==k then (j,o)::r else (j,x)::Vv r k o
theorem OM:∀ {l:List (Nat×Ob)} {k:Nat} {x:Ob} (o:Ob),ac l k=some x->∀j,ac (Vv l k o) j=if j=k then some o else ac l j
 |[],_,_,_,h,_=>by simp[ac]at h
 |(i,y)::r,k,x,o,h,j=>by
  simp only[ac]at h;cases c:i==k with
  |true=>
   have m:i=k:=by simpa using c
   subst m;simp only[Vv,beq_self_eq_true,cond_true,ac];cases f:i==j with
   |true=>have:i=j:=by simpa using f
          subst this;simp
   |false=>
    have:¬j=i:=by intro e;subst e;simp at f
    simp[this]
  |false=>
   rw[c]at h;simp only[cond_false]at h;simp only[Vv,c,cond_false,ac];rw[OM o h j];cases f:i==j with
   |true=>
    have n:i=j:=by simpa using f
    subst n;have:¬i=k:=by intro e;subst e;simp at c
    simp[this]
   |false=>simp
theorem Vw{w c:World}{b:Nat}{cs:Array Value}{e:TypeId}{f:Nat×Nat}(h:Wrote w c b cs e f){p:Addr}(i:p.block≠b):c.cell? p=w.cell? p:=
 World.cell?_of_block (h.other _ i)
def St.bld(σ:St)(d id t e:Nat):St:={σ with env:=dB id σ.env,objs:=put (cp id (put σ.objs id (.arr 0 1 []))) d (.box [.selfN d t false,.ownT id 0 e]) }
theorem E6{σ:St}{k d t:Nat}(id e:Nat)(hid:id<σ.n)(o:id≠d)(N:aE σ.env k=.selfN d t true)(A:ac σ.objs d=some (.box [.val .nilp,.val .nilS]))(s:σ.ro.contains d=false):cJ σ (σ.bld d id t e):=by
 rintro w0 S0 M a w ⟨S,O,R,h⟩;obtain⟨b,vs,L,fr,U,u,i,B,V,_,C,_,p,W,_,rfl,_,q,rfl⟩:=h.objs d _ A;have p:V=.pointer none:=p;have q:W=.slice none 0 0:=q;subst q;subst p;have j:=h.env k;rw[N]at j;obtain⟨X,v,D,_⟩:=j _ A;rw[u]at v;obtain rfl:b=X:=by simpa using v
 have Y:=h.create id hid (.arr 0 1 []) none (.slice none 0 0) (Kept.refl _ _) (by simp) (.inl ⟨rfl,rfl,none,rfl⟩)
 have E:ac (cp id (put σ.objs id (.arr 0 1 []))) d=some (.box [.val .nilp,.val .nilS]):=by
  rw[cn,yG _ _ (fun e=>o e.symm),A];rfl
 have F:(if d=id then (none:Option Nat)else R d)=some b:=by rw[if_neg (fun e=>o e.symm)];exact U
 have y:(if d=id then Value.slice none 0 0 else O d)=.pointer (some ⟨b,0,none⟩):=by rw[if_neg (fun e=>o e.symm)];exact u
 have Z:=Y.write (id:=d) (x':=.box [.selfN d t false,.ownT id 0 e]) (w':=w) E F (vs:=vs) (e:=L) (fr:=fr) ⟨rfl,rfl,rfl,rfl,fun _ _=>rfl,i,fun _ _ h=>h⟩ (by
  intro hc;have:σ.ro.contains d=true:=by simpa using hc
  rw[this]at s;cases s) (.inl ⟨_,_,rfl,rfl⟩) ⟨b,vs,L,fr,rfl,y,i,B,by
   rw[C];refine⟨_,_,rfl,rfl,?_,_,_,rfl,rfl,?_,rfl⟩
   .intro I _;exact⟨b,y,D,.inl ⟨rfl,rfl⟩⟩
   refine⟨?_,fun a n c hh=>by simp at hh⟩;intro cv s' z J;have m:ac (cp id (put σ.objs id (.arr 0 1 []))) id=some (.arr cv s' z):=J;rw[cn,dP]at m;simp only[Option.map_some,Ob.erase,E_,Ob.arr.injEq]at m;obtain⟨rfl,_,_⟩:=m
   exact⟨Nat.le_refl _,fun _=>by simp⟩⟩
 exact⟨S,_,_,Z⟩
theorem AJ{gl:List (Nat×List IV)}{P:Program}{k:FuncId}{args:List SV}{objs:List (Nat×Ob)}{res:SV}{id:Nat}{cells cells':List SV}(hk:wg P k)(hid:ac objs id=some (.box cells))
  (h:∀(w:World) (S:bb) (C:Nat->Value) (V:Nat->Option Nat) (vs:List Value) (b:Nat) (cs:Array Value) (e:TypeId) (fr:Nat×Nat),(∀p,p∈gl->jt w S p)->bc w S C objs args vs->
    (∀i o,ac objs i=some o->bI w S C objs (V i) (C i) o)->(∀i i' o o' b,ac objs i=some o->ac objs i'=some o'->V i=some b->V i'=some b->i=i')->
    V id=some b->C id=.pointer (some ⟨b,0,none⟩)->w.heap[b]?=some (.cells cs e fr)->qo fr cs.size->al w S C objs cells cs.toList->
    kG P k vs.toArray w fun ev Y=>∃(v:Value) (w1:World) (I:Array Value),ev=.returned v/\Below w.heap.size w w1/\Wrote w1 Y b I e fr/\I.size=cs.size/\al w S C objs cells' I.toList/\au w S C objs res v) :
  lB gl P k {args:=args,objs:=objs,res:=res,objs':=Vv objs id (.box cells'),ro':=[] }:=by
 refine⟨hk,fun w S C V vs hS m' e' B J D=>?_⟩;obtain⟨b,cs,e,fr,hb,f',L,g',W⟩:=B id _ hid;have r':b<w.heap.size:=(Array.getElem?_eq_some_iff.1 L).1;refine(h w S C V vs b cs e fr m' e' B J hb f' L g' W).mono ?_;rintro ev Y ⟨v,w1,I,rfl,m,Z,n',p',h'⟩;have hl:=OM (.box cells') hid;have j':∀k x,w.shape? k=some x->Y.shape? k=some x:=fun k x hx=>Z.shape _ _ ((dA (m.block k (sJ hx))).trans hx)
 have keeps:bM S w Y:=by
  refine⟨?_,j'⟩;intro f o k';have c':f≠b:=fun e=>absurd (D id _ b o hid hb (e▸k')).1 (by simp)
  rw[Vw Z (p:=⟨f,o,none⟩) c'];exact m.cell (p:=⟨f,o,none⟩) (hS _ _ k')
 have same:∀(x:SV) (u:Value),au w S C objs x u->au Y S C (Vv objs id (.box cells')) x u:=fun x u hx=>
  au.mono keeps (fun _ _ h=>h) _ _ (au.same (objs:=objs)
   (fun i E l=>by
     rw[hl]at l;split at l
     .next e1=>subst e1;exact⟨cells,hid,rfl⟩
     exact⟨E,l,rfl⟩)
   (fun i cv s a' l=>by
     rw[hl]at l;split at l
     .simp at l
     exact⟨cv,a',l,Nat.le_refl _,fun _=>⟨rfl,rfl⟩⟩)
   (fun i s p l=>by
     rw[hl]at l;split at l
     .simp at l
     exact⟨s,p,l,rfl⟩) x u hx)
 have M:∀(xs:List SV) (us:List Value),al w S C objs xs us->al Y S C (Vv objs id (.box cells')) xs us:=by
  intro xs
  induction xs with
  |nil=>intro us h;exact h
  |cons x r ih=>rintro us ⟨u,q',e1,e2,e3,e4⟩;exact⟨u,q',e1,e2,same _ _ e3,ih _ e4⟩
 have d':∀i o f,ac objs i=some o->V i=some f->f<w.heap.size:=by
  intro i o f l X;have:=B i o l;cases o with
  |box c=>obtain⟨A,N,e2,O,n,_,R,_⟩:=this;rw[X]at n;obtain rfl:=O_ n;exact(Array.getElem?_eq_some_iff.1 R).1
  |arr v2 s2 r2=>
   rcases this with⟨_,n,_⟩|⟨A,c2,N,e2,O,n,_,R,_⟩
   .rw[X]at n;simp at n
   rw[X]at n;obtain rfl:=O_ n;exact(Array.getElem?_eq_some_iff.1 R).1
  |iter s p=>obtain⟨A,n,_,R⟩:=this;rw[X]at n;obtain rfl:=O_ n;exact(Array.getElem?_eq_some_iff.1 R).1
 have F:∀f,f<w.heap.size->f≠b->Y.heap[f]?=w.heap[f]?:=fun f q z=>(Z.other f z).trans (m.block f q)
 have l':w.heap.size<=Y.heap.size:=by have:=m.size;have:=Z.size;omega
 refine⟨v,S,C,V,rfl,same _ _ h',?_,?_,?_,?_,?_,fun _ _ h=>h,fun _ _ h=>.inl h,?_,?_,keeps.1⟩
 .intro i o l;dsimp only at l |-;rw[hl]at l;split at l
  .next e1=>
   subst e1;obtain rfl:=O_ l;refine⟨b,I,e,fr,hb,f',Z.here,by rw[n'];exact g',M _ _ p'⟩
  next c'=>
  have ho:=B i o l;have U:∀f,V i=some f->f≠b:=fun f q z=>c' (J i id o _ b l hid (z▸q) hb)
  cases o with
  |box c=>
   obtain⟨A,N,e2,O,n,q2,R,q4,q5⟩:=ho;exact⟨A,N,e2,O,n,q2,(F A (d' i _ A l n) (U A n)).trans R,q4,M _ _ q5⟩
  |arr v2 s2 r2=>
   rcases ho with ho|⟨A,c2,N,e2,O,n,q2,R,q4,q5,q6,q7,q8⟩
   .exact .inl ho
   exact .inr ⟨A,c2,N,e2,O,n,q2,(F A (d' i _ A l n) (U A n)).trans R,q4,q5,q6,q7,ag.mono keeps (fun _ _ h=>h) _ _ q8⟩
  |iter s p=>
   obtain⟨A,n,q2,R⟩:=ho;exact⟨A,n,q2,(F A (d' i _ A l n) (U A n)).trans R⟩
 .intro i i' o o' f q z h3 h4;dsimp only at q z;rw[hl]at q z
  have g:∀j x,(if j=id then some (Ob.box cells')else ac objs j)=some x->∃y,ac objs j=some y:=by
   intro j x hx;split at hx
   .next e1=>subst e1;exact⟨_,hid⟩
   exact⟨_,hx⟩
  obtain⟨y1,g1⟩:=g i o q;obtain⟨y2,g2⟩:=g i' o' z;exact J i i' y1 y2 f g1 g2 h3 h4
 .intro i o f q z;dsimp only at q;rw[hl]at q;right;split at q
  .next e1=>subst e1;exact⟨_,_,hid,z⟩
  exact⟨_,_,q,z⟩
 .intro i o f off q z h3;dsimp only at q;rw[hl]at q;exfalso;split at q
  .next e1=>subst e1;exact absurd (D _ _ f off hid z h3).1 (by simp)
  exact absurd (D _ _ f off q z h3).1 (by simp)
 .exact fun f o q=>Nat.lt_of_lt_of_le (hS f o q) l'
 .refine⟨Z.os.trans m.os,Z.tape.trans m.tape,Z.output.trans m.output,l',fun f q z=>F f q (fun e1=>z ⟨id,_,hid,e1▸hb⟩),j'⟩
 intro i o l
 have hh:au w S C objs (N7 i o) (C i):=by
  cases o with
  |box c=>
   intro E z;obtain⟨A,_,_,_,_,q2,_⟩:=B i _ l;exact⟨A,q2,q2⟩
  |arr v2 s2 r2=>
   intro cv s a' z;rw[l]at z;simp only[E_,Ob.arr.injEq]at z;obtain⟨rfl,rfl,rfl⟩:=z;exact⟨Nat.le_refl _,fun _=>rfl⟩
  |iter s p=>intro s2 p2 z;rfl
 exact same _ _ hh
theorem E7{u:List (Nat×List IV)}{P:Program}{k:FuncId}{c:List IV}{f:IV}(z:wg P k) 
  (h:∀(w:World) (S:bb) (m:List Value),(∀b o,S b o->b<w.heap.size)->(∀p,p∈u->jt w S p)->br w S c m->
    kG P k m.toArray w fun ev n=>∃v,ev=.returned v/\Below w.heap.size w n/\sI w S f v):Fn u P k c f:=by
 refine⟨z,fun w S m q i s=>?_⟩;refine(h w S m q s i).mono ?_;rintro ev n ⟨v,rfl,e,A⟩;have j:∀k x,w.shape? k=some x->n.shape? k=some x:=fun k x y=>(dA (e.block k (sJ y))).trans y
 refine⟨v,S,rfl,?_,fun _ _ h=>h,fun _ _ h=>.inl h,fun b o l=>Nat.lt_of_lt_of_le (q b o l) e.size,⟨e.os,e.tape,e.output,e.size,fun k l _=>e.block k l,j⟩⟩;exact sI.mono ⟨fun b o l=>e.cell (p:=⟨b,o,none⟩) (q _ _ l),j⟩ (fun _ _ h=>h) _ _ A
theorem ON{l:List (Nat×List IV)}{P:Program}{k:FuncId}{c:List IV}{f:IV}(m:wg P k)
  (h:∀(w:World) (S:bb) (j:List Value),br w S c j->∃v,(callFunc k j.toArray).run P w=.ok (.value v) w/\sI w S f v):Fn l P k c f:=
 E7 m fun w S j q n i=>by
  obtain⟨v,o,p⟩:=h w S j i;exact .inr ⟨v,w,o,v,rfl,Below.refl _ _,p⟩
theorem dq{P:Program}{k:FuncId}{c:Func}{args:Array Value}{w:World}{R:Ending->World->Prop}(f:P.funcs[k]?=some c)(i:c.body.isSome=true)(h:Calls P k args w R):kG P k args w R:=.inl ⟨⟨c,f,i⟩,h⟩
theorem Vx{w:World}{b:Nat}{cs:Array Value}{e:TypeId}{fr:Nat×Nat}(h:w.heap[b]?=some (.cells cs e fr))(c:qo fr cs.size)(f:0<cs.size):w.frozen? ⟨b,0,none⟩=false:=JH h c f
theorem Ke{w:World}{b:Nat}{cs:Array Value}{e:TypeId}{fr:Nat×Nat}{i:Nat}{v:Value}(h:w.heap[b]?=some (.cells cs e fr))(c:cs[i]?=some v):w.cell? ⟨b,i,none⟩=some v:=by
 simp[World.cell?,h,c]
end Go.Vs
namespace Go.Vs
def St.upd(σ:St)(D:List Nat)(E:List (Nat×SV))(O:List (Nat×Ob)):St:=
 ⟨E++σ.env.filter (fun p=>!(D.contains p.1||E.any (fun q=>q.1==p.1))),O++σ.objs.filter (fun p=>!(O.any (fun q=>q.1==p.1))),σ.ro,σ.n,σ.gl⟩
theorem bx{P:Program}(hm:P.follows .mixedOrders=true){o:Type}(D:List Nat)(E:o->List (Nat×SV))(O:o->List (Nat×Ob))(A:o->Prop)(m:o->Nat)(z:o){b:VCode}{Q:Exit->St->Prop}{σ:St}(B:A z)(C:cJ σ (σ.upd D (E z) (O z)))
  (h:∀i,A i->pw P b (fun e q=>match e with
    |.normal=>@J6 o q (m i) ⟨fun i=>σ.upd D (E i) (O i)⟩ ⟨A⟩ ⟨m⟩
    |e=>Q e q) (σ.upd D (E i) (O i))):@TVW P σ ⟨.loop b⟩ ⟨Q⟩:=Hs hm (fun i=>σ.upd D (E i) (O i)) A m z B C (fun _=>_root_.id rfl) h
theorem Vy{P:Program}(hm:P.follows .mixedOrders=true){f:Type}(D:List Nat)(ro:List Nat)(E:f->List (Nat×SV))(O:f->List (Nat×Ob))(A:f->Prop){x y:VCode}{Q:Exit->St->Prop}{σ:St}
  (h:pw P x (fun e c=>match e with
    |.normal=>@Qn f c ⟨fun i=>{σ.upd D (E i) (O i)with ro:=ro }⟩ ⟨A⟩
    |e=>Q e c) σ) (l:∀i,A i->pw P y Q {σ.upd D (E i) (O i)with ro:=ro }):@aeR P σ ⟨.seq x y⟩ ⟨Q⟩:=Qo hm (fun i=>{σ.upd D (E i) (O i)with ro:=ro }) A (fun _=>_root_.id rfl) h l
attribute [simp] St.upd
theorem Gi{p:Prop} [Decidable p]{A B:Prop}(h:p):@Br (decide p) ⟨A⟩ ⟨B⟩=A:=by rw[decide_eq_true h];exact X6
theorem OO{p:Prop} [Decidable p]{A B:Prop}(h:¬p):@Br (decide p) ⟨A⟩ ⟨B⟩=B:=by rw[decide_eq_false h];exact SO
theorem wrap_i64{x:Int}(h:-9223372036854775808<=x)(l:x<=9223372036854775807):IntKind.i64.wrap x=x:=by rw[IntKind.wrap_i64];omega
theorem wrap_u8{x:Int}(e:0<=x)(f:x<=255):IntKind.u8.wrap x=x:=by rw[IntKind.wrap_u8];omega
theorem wrap_i32{x:Int}(c:-2147483648<=x)(e:x<=2147483647):IntKind.i32.wrap x=x:=by rw[IntKind.wrap_i32];omega
end Go.Vs
namespace Go.Vs
def qd(t:Bool)(s:Nat):Ob:=.arr 0 s []
def xc(t:Bool)(id:Nat):SV:=.own id 0
def St.adoptC(σ:St)(t:Bool)(d j id s:Nat)(c:List SV):St:={σ with env:=dB id σ.env,objs:=put (cp id (put σ.objs id (qd t s))) d (.box ((fJ id c).set j (xc t id))) }
theorem wq{σ:St}(t:Bool){d j:Nat}{c:List SV}(id s:Nat)(hid:id<σ.n)(l:id≠d)(I:ac σ.objs d=some (.box c))(R:c[j]?=some .nils)(n:σ.ro.contains d=false):cJ σ (σ.adoptC t d j id s c):=by
 rintro w0 S0 M a w ⟨S,y,U,h⟩;obtain⟨b,vs,J,fr,V,z,f,A,B⟩:=h.objs d _ I;obtain⟨v,W,C,x,X⟩:=al.get B R
 have D:bI w S y σ.objs none (.slice x 0 0) (qd t s):=by
  exact .inl ⟨rfl,rfl,x,rfl⟩
 have L:=h.create id hid (qd t s) none (.slice x 0 0) (Kept.refl _ _) (by simp) D
 have o:ac (cp id (put σ.objs id (qd t s))) d=some (.box (fJ id c)):=by
  rw[cn,yG _ _ (fun e=>l e.symm),I];rfl
 have p:(if d=id then (none:Option Nat)else U d)=some b:=by rw[if_neg (fun e=>l e.symm)];exact V
 have E:(if d=id then Value.slice x 0 0 else y d)=.pointer (some ⟨b,0,none⟩):=by rw[if_neg (fun e=>l e.symm)];exact z
 obtain⟨b2,Y,e2,Z,N,k2,F,k4,k5⟩:=L.objs d _ o;simp only[p]at N;obtain rfl:=O_ N;rw[f]at F;simp only[E_,Go.Obj.cells.injEq]at F;obtain⟨rfl,rfl,rfl⟩:=F
 have q:au w S (fun i=>if i=id then Value.slice x 0 0 else y i) (cp id (put σ.objs id (qd t s))) (xc t id) v:=by
  rw[X];intro cv s' O m;rw[cn,dP]at m;simp only[qd,Option.map_some,Ob.erase,E_,Ob.arr.injEq]at m;obtain⟨rfl,_,_⟩:=m;exact⟨Nat.le_refl _,fun _=>by simp⟩
 have u:vs.toList.set j v=vs.toList:=by
  apply List.ext_getElem?;intro i;rw[List.getElem?_set];split
  .next e=>
   subst e;split
   .exact W.symm
   next h0=>rw[List.getElem?_eq_none (by omega)]
  rfl
 have h2:=L.write (id:=d) (x':=.box ((fJ id c).set j (xc t id))) (w':=w) o p (vs:=vs) (e:=J) (fr:=fr) ⟨rfl,rfl,rfl,rfl,fun _ _=>rfl,f,fun _ _ h=>h⟩ (by
  intro hc;have:σ.ro.contains d=true:=by simpa using hc
  rw[this]at n;cases n) (.inl ⟨_,_,rfl,rfl⟩) ⟨b,vs,J,fr,rfl,E,f,A,by
   have:=al.set j k5 C q;rw[u]at this
   exact this⟩
 exact⟨S,_,_,h2⟩
theorem wl:(∀ {p:Prop} [Decidable p] {A B:Prop},p->@Br (decide p) ⟨A⟩ ⟨B⟩=A)/\(∀ {p:Prop} [Decidable p] {A B:Prop},¬p->@Br (decide p) ⟨A⟩ ⟨B⟩=B)/\(∀ {x:Int},-9223372036854775808<=x->x<=9223372036854775807->IntKind.i64.wrap x=x)/\(∀ {x:Int},0<=x->x<=255->IntKind.u8.wrap x=x)/\(∀ {x:Int},-2147483648<=x->x<=2147483647->IntKind.i32.wrap x=x)/\(∀ {h:Type} {a:h} {l:List h},(a::l)[0]?=some a)/\(∀ {h:Type} {a:h} {i:Nat} {l:List h},(a::l)[i+1]?=l[i]?):=
 ⟨Gi,OO,wrap_i64,wrap_u8,wrap_i32,List.getElem?_cons_zero,List.getElem?_cons_succ⟩
theorem bA{σ h:St}(o:h.n=σ.n:=by rfl)(m:h.gl=σ.gl:=by rfl)(z:bj σ.env h.env:=by simp[bj,aE,ac])(A:bZ σ.objs h.objs:=by simp[bZ,ac])(B:bX σ.ro h.ro h.objs=true:=by simp[bX]):cJ σ h:=an o m z A B
inductive Zk_ where
  | s | i | u | n | b
def z_ : List Zk_ -> List SV
  | [] => []
  | .s :: r => .val (.str []) :: z_ r
  | .i :: r => .val (.int .i64 0) :: z_ r
  | .u :: r => .val (.int .u8 0) :: z_ r
  | .n :: r => .nils :: z_ r
  | .b :: r => .val (.bool false) :: z_ r
inductive It_ where
  | m (x : Nat) | n (c : Int) | f (o : Nat) | F (o x : Nat) | l | L (g : Nat) | W (g x : Nat) | v | h | k | u | e (x i : Nat) | x (s : Nat) | y | b (o : BinOp) | i (o : BinOp) (c : Int) | E (c : Int) | N (c : Int) | P (c : Int) | U (o : BinOp) (c : Int) | t (s : List UInt8)
  | c0 (k : Nat) | c1 (k : Nat) | c2 (k : Nat) | c3 (k : Nat) | g (o : VOp) | G (d : Option Nat) (o : VOp) | a (d : Nat) | M (d x : Nat) | j (d : Nat) (c : Int) | J (d : Nat) (c : Opd) | K (c : Opd) | p (e s b : Nat) | Z (z : List SV) | Y (d : Nat) (z : List SV) | D (z : List SV) | X (x : Nat) | S (n : Nat) | s (n a : Nat) | T (n a v : Nat) | z | w | A | O
def d_ : List It_ -> Nat -> List Nat -> Option (Nat × Bool) -> List (Option (Nat × Bool)) -> List VOper
  | [], _, _, _, _ => []
  | .m x :: r, n, q, g, k => ⟨some n, .move (tm x), g⟩ :: d_ r (n + 1) (n :: q) g k
  | .n c :: r, n, q, g, k => ⟨some n, .move (ci c), g⟩ :: d_ r (n + 1) (n :: q) g k
  | .f o :: r, n, a :: q, g, k => ⟨some n, .fieldAddr o (tm a), g⟩ :: d_ r (n + 1) (n :: q) g k
  | .F o x :: r, n, q, g, k => ⟨some n, .fieldAddr o (tm x), g⟩ :: d_ r (n + 1) (n :: q) g k
  | .l :: r, n, a :: q, g, k => ⟨some n, .load none (tm a), g⟩ :: d_ r (n + 1) (n :: q) g k
  | .L s :: r, n, a :: q, g, k => ⟨some n, .load (some s) (tm a), g⟩ :: d_ r (n + 1) (n :: q) g k
  | .W s x :: r, n, q, g, k => ⟨some n, .load (some s) (tm x), g⟩ :: d_ r (n + 1) (n :: q) g k
  | .v :: r, n, a :: q, g, k => ⟨some n, .lenV (tm a), g⟩ :: d_ r (n + 1) (n :: q) g k
  | .h :: r, n, a :: q, g, k => ⟨some n, .lenS (tm a), g⟩ :: d_ r (n + 1) (n :: q) g k
  | .k :: r, n, a :: q, g, k => ⟨some n, .nilCheck (tm a), g⟩ :: d_ r (n + 1) (n :: q) g k
  | .u :: r, n, a :: q, g, k => ⟨some n, .un .not (tm a), g⟩ :: d_ r (n + 1) (n :: q) g k
  | .e x i :: r, n, q, g, k => ⟨some n, .extract (tm x) i, g⟩ :: d_ r (n + 1) (n :: q) g k
  | .x s :: r, n, a :: b :: q, g, k => ⟨some n, .indexAddr s (tm b) (tm a), g⟩ :: d_ r (n + 1) (n :: q) g k
  | .y :: r, n, a :: b :: q, g, k => ⟨some n, .indexS (tm b) (tm a), g⟩ :: d_ r (n + 1) (n :: q) g k
  | .b o :: r, n, a :: b :: q, g, k => ⟨some n, .bin o (tm b) (tm a), g⟩ :: d_ r (n + 1) (n :: q) g k
  | .i o c :: r, n, a :: q, g, k => ⟨some n, .bin o (tm a) (ci c), g⟩ :: d_ r (n + 1) (n :: q) g k
  | .E c :: r, n, a :: q, g, k => ⟨some n, .bin .eql (tm a) (ci c), g⟩ :: d_ r (n + 1) (n :: q) g k
  | .N c :: r, n, a :: q, g, k => ⟨some n, .bin .neq (tm a) (ci c), g⟩ :: d_ r (n + 1) (n :: q) g k
  | .P c :: r, n, a :: q, g, k => ⟨some n, .bin .add (tm a) (ci c), g⟩ :: d_ r (n + 1) (n :: q) g k
  | .U o c :: r, n, a :: q, g, k => ⟨some n, .bin o (tm a) (cu c), g⟩ :: d_ r (n + 1) (n :: q) g k
  | .t s :: r, n, a :: q, g, k => ⟨some n, .bin .eql (tm a) (cs s), g⟩ :: d_ r (n + 1) (n :: q) g k
  | .c0 f :: r, n, q, g, k => ⟨some n, .call f [], g⟩ :: d_ r (n + 1) (n :: q) g k
  | .c1 f :: r, n, a :: q, g, k => ⟨some n, .call f [tm a], g⟩ :: d_ r (n + 1) (n :: q) g k
  | .c2 f :: r, n, a :: b :: q, g, k => ⟨some n, .call f [tm b, tm a], g⟩ :: d_ r (n + 1) (n :: q) g k
  | .c3 f :: r, n, a :: b :: c :: q, g, k => ⟨some n, .call f [tm c, tm b, tm a], g⟩ :: d_ r (n + 1) (n :: q) g k
  | .g o :: r, n, q, g, k => ⟨some n, o, g⟩ :: d_ r (n + 1) (n :: q) g k
  | .G d o :: r, n, q, g, k => ⟨d, o, g⟩ :: d_ r n q g k
  | .a d :: r, n, a :: q, g, k => ⟨some d, .move (tm a), g⟩ :: d_ r n q g k
  | .M d x :: r, n, q, g, k => ⟨some d, .move (tm x), g⟩ :: d_ r n q g k
  | .j d c :: r, n, q, g, k => ⟨some d, .move (ci c), g⟩ :: d_ r n q g k
  | .J d c :: r, n, q, g, k => ⟨some d, .move c, g⟩ :: d_ r n q g k
  | .K c :: r, n, q, g, k => ⟨some n, .move c, g⟩ :: d_ r (n + 1) (n :: q) g k
  | .p e s z :: r, n, a :: b :: q, g, k => ⟨some n, .append e s z (tm b) (tm a), g⟩ :: d_ r (n + 1) (n :: q) g k
  | .Z z :: r, n, q, g, k => ⟨some n, .alloc z, g⟩ :: d_ r (n + 1) (n :: q) g k
  | .Y d z :: r, n, q, g, k => ⟨some d, .alloc z, g⟩ :: d_ r n q g k
  | .D z :: r, n, q, g, k => ⟨some n, .build z [], g⟩ :: d_ r (n + 1) (n :: q) g k
  | .X x :: r, n, q, g, k => ⟨some n, .box (tm x), g⟩ :: d_ r (n + 1) (n :: q) g k
  | .S s :: r, n, a :: b :: q, g, k => ⟨none, .store s (tm b) (tm a), g⟩ :: d_ r n q g k
  | .s s x :: r, n, a :: q, g, k => ⟨none, .store s (tm x) (tm a), g⟩ :: d_ r n q g k
  | .T s x y :: r, n, q, g, k => ⟨none, .store s (tm x) (tm y), g⟩ :: d_ r n q g k
  | .z :: r, n, a :: q, g, k => ⟨some n, .move (tm a), g⟩ :: d_ r (n + 1) q (some (n, true)) (g :: k)
  | .w :: r, n, a :: q, g, k => ⟨some n, .move (tm a), g⟩ :: d_ r (n + 1) q (some (n, false)) (g :: k)
  | .A :: r, n, a :: q, some (b, _), g :: k => ⟨some n, .pick (tm b) (tm a) (cb false), g⟩ :: d_ r (n + 1) (n :: q) g k
  | .O :: r, n, a :: q, some (b, _), g :: k => ⟨some n, .pick (tm b) (cb true) (tm a), g⟩ :: d_ r (n + 1) (n :: q) g k
  | _, _, _, _, _ => []
def D_ (l : List It_) (n : Nat) : List VOper := d_ l n [] none []
def R_ (n e : Nat) (l : List It_) (b : VCode) : VCode := .seq (.region (D_ l n) .text [n, e]) b
def V_ (n e : Nat) (l : List It_) (b : VCode) : VCode := .seq (.region (D_ l n) .text [n - 1, e]) b
def Q_ (n : Nat) (l : List It_) (b : VCode) : VCode := .seq (.region (D_ l n) .text []) b
def G_ (n : Nat) (l : List It_) (d : List Nat) (b : VCode) : VCode := .seq (.region (D_ l n) .text d) b
def C_ (n e : Nat) (l : List It_) (a b : VCode) : VCode := .seq (.region (D_ l n) .text [n, e]) (.cond (tm (e + 1)) a b)
def X_ (n e : Nat) (l : List It_) : VCode := .region (D_ l n) .text [n, e]
def Y_ (n : Nat) (l : List It_) : VCode := .region (D_ l n) .text []
def c_ (k : Nat) (a b : VCode) : VCode := .cond (tm k) a b
attribute [simp] d_ R_ V_ Q_ G_ C_ X_ Y_ c_ D_ z_
def z_1:List SV:=z_ [.s,.s,.u,.i,.u,.i,.u,.i,.i,.u,.i,.i,.i,.b,.u,.i,.i,.u,.i,.n,.n,.n,.n,.n,.n,.n,.n,.n,.i,.n,.n,.u,.i,.b]
def z_2:List SV:=z_ [.u,.i,.i,.u,.i,.n,.n,.n,.n,.n,.n,.n,.n,.n,.i]
def z_3:List SV:=z_ [.u,.i,.u,.i,.i,.u,.i,.n,.n,.n,.n,.n,.n,.n,.n,.n,.i,.n,.n,.i,.i,.i,.i,.b,.i,.n]
def z_4:List SV:=z_ [.u,.i]
def z_5:List SV:=z_ [.u,.i,.u,.i,.i,.u,.i,.n,.n,.n,.n,.n,.n,.n,.n,.n,.i,.n,.n]
def z_6:List SV:=z_ [.i,.i,.i,.i,.i,.i,.i,.i,.i,.i,.i]
def z_7:List SV:=z_ [.s,.n,.s]
def z_8:List SV:=z_ [.s,.n]
def z_9:List SV:=z_ [.i,.i]
attribute [simp] z_1 z_2 z_3 z_4 z_5 z_6 z_7 z_8 z_9
theorem fK_ {P:Program}{k:FuncId}{v:VCode}{j:List VRes}{n:Nat}{e:Func}(h:P.funcs[k]?=some e)(l:e.name≠ "runtime.NumGoroutine":=by decide)(f:e.body.bind (comp P)=some v.strip:=by kernel_rfl)(m:v.bnd n=true:=by kernel_rfl)(o:cw P e.results.toList=some j:=by kernel_rfl)(p:e.ntmps=n:=by rfl):FnOk P k v j n:=by
 cases i:e.body with
 |none=>rw[i] at f;cases f
 |some c=>rw[i] at f;exact⟨⟨e,c,h,l,i,f,m,o,p⟩⟩
end Go.Vs
