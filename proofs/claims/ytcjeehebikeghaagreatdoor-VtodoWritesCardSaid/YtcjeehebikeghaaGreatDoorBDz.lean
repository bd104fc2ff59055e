/- A part of a proof. No conditions. -/
import Derived.Test.YtcjeehebikeghaaGreatDoorBCz
import Derived.ChangeArms
import Derived.OpenShut
import Derived.ChangeShapes
import Derived.ChangeSame
import Derived.Carry
import Derived.Below
import Derived.RowKit
import Derived.ProofKit
import Derived.Handed
import Derived.JoinedOf
import Derived.WideKeyArgs
import Derived.LaidLaws
import Derived.LaidHandle
import Derived.Stop.Joined
import Derived.Lay
set_option linter.unusedVariables false
set_option linter.unusedSimpArgs false
namespace Go.Vs
def cH(σ f:St):Prop:=∀(w0:World) (S0:ba) (M:Ctx) (a:Act) (w:World),fF w0 S0 M σ a w->fF w0 S0 M f a w
theorem cH.refl(σ:St):cH σ σ:=fun _ _ _ _ _ h=>h
theorem cH.trans{a b c:St}(h:cH a b)(k:cH b c):cH a c:=fun w0 S0 M x w s=>k w0 S0 M x w (h w0 S0 M x w s)
def uf:List Nat->Nat->Bool
 |c::e::r,k=>bif decide (c<=k)then (bif decide (k<=e)then true else uf r k)else uf r k
 |_,_=>false
def jh(c:List Nat):List (Nat×SV)->List (Nat×SV)
 |[]=>[]
 |(k,v)::r=>bif uf c k then jh c r else (k,v)::jh c r
def St.drop(σ:St)(f:List Nat):St:={σ with env:=jh f σ.env }
theorem Nk(c:List Nat)(e:List (Nat×SV))(k:Nat):ap (jh c e) k=.undef\/ap (jh c e) k=ap e k:=by
 induction e with
 |nil=>exact .inl rfl
 |cons p r f=>
  obtain⟨j,v⟩:=p
  have x:∀(l:List (Nat×SV)),uf c k=true->ap (jh c l) k=.undef:=by
   intro l m
   induction l with
   |nil=>rfl
   |cons q s f=>
    obtain⟨i,u⟩:=q;simp only[jh];cases n:uf c i with
    |true=>exact f
    |false=>
     have:(i==k)=false:=by
      cases h:i==k with
      |false=>rfl
      |true=>rw[beq_iff_eq]at h;subst h;rw[m]at n;simp at n
     simp only[cond_false,ap,ac,this];exact f
  cases m:uf c k with
  |true=>exact .inl (x _ m)
  |false=>
   simp only[jh];cases o:uf c j with
   |true=>
    have:(j==k)=false:=by
     cases h:j==k with
     |false=>rfl
     |true=>rw[beq_iff_eq]at h;subst h;rw[m]at o;simp at o
    simp only[cond_true,ap,ac,this,cond_false];exact f
   |false=>
    simp only[cond_false,ap,ac];cases j==k with
    |true=>exact .inr rfl
    |false=>exact f
theorem kb(σ:St)(c:List Nat):cH σ (σ.drop c):=by
 rintro w0 i M a w ⟨S,e,f,h⟩;exact⟨S,e,f,h.drop rfl rfl (fun _ _ _ x=>x) (fun k=>Nk c σ.env k) (fun _ _ x=>x)⟩
def BJ(w0:World)(c:ba)(M:Ctx)(N:Nat)(Q:Exit->St->Prop):Exit->Act->World->Prop
 |.panic _,_,_=>False
 |.outgrown,_,_=>False
 |e,a,w=>∃σ,Q e σ/\σ.n=N/\fF w0 c M σ a w
def T(P:Program)(c:Code)(Q:Exit->St->Prop)(σ:St):Prop:=∀(w0:World) (f:ba) (M:Ctx) (a:Act) (w:World),fF w0 f M σ a w->c.wp P (BJ w0 f M σ.n Q) a w
def pW(n:Nat):List VOper->Bool
 |[]=>true
 |o::r=>(match o.dst with
  |some d=>decide (d<n)
  |none=>true)&&pW n r
def VCode.bnd(n:Nat):VCode->Bool
 |.region c e _=>pW n c&&(match e with
  |.drawnM _ _=>yN (aC c)
  |_=>true)
 |.seq a b=>a.bnd n&&b.bnd n
 |.cond _ a b=>a.bnd n&&b.bnd n
 |.block _ a=>a.bnd n
 |.loop a=>a.bnd n
 |.scope a=>a.bnd n
 |.cut a=>a.bnd n
 |_=>true
theorem fd{n:Nat} : ∀ {l:List VOper},pW n l=true->∀v∈l,∀d,v.dst=some d->d<n
 |[],_,v,c=>by simp at c
 |o::r,h,v,c=>by
  simp only[pW,Bool.and_eq_true]at h;intro d e;rcases List.mem_cons.1 c with rfl|c
  ·rw[e]at h;simpa using h.1
  ·exact fd h.2 v c d e
def TV(P:Program)(v:VCode)(Q:Exit->St->Prop)(σ:St):Prop:=∀c,comp P c=some v.strip->v.bnd σ.n=true->T P c Q σ
def mU(P:Program)(K:St->Prop):List VOper->St->Prop
 |[],σ=>K σ
 |o::r,σ=>match o.guard with
  |none=>dT P σ o.dst (fun u=>mU P K r (σ.apply o.dst u)) o.op
  |some (g,b)=>match ja (ap σ.env g)with
   |some c=>(c=some b->dT P σ o.dst (fun u=>mU P K r (σ.apply o.dst u)) o.op)/\(¬c=some b->mU P K r (σ.apply o.dst gy))
   |none=>False
theorem B3{P:Program}{K:St->Prop} : ∀ {l:List VOper} {σ:St},mU P K l σ->∃f i,fm P l σ f i/\K i
 |[],σ,h=>⟨[],σ,⟨rfl,rfl⟩,h⟩
 |o::r,σ,h=>by
  simp only[mU]at h
  have p:dT P σ o.dst (fun u=>mU P K r (σ.apply o.dst u)) o.op->∃e f i,Kb P σ o e/\fm P r (σ.apply e.dst e.u) f i/\K i:=by
   intro q;obtain⟨u,x,y⟩:=GT q;obtain⟨f,i,m,n⟩:=B3 y;exact⟨⟨eE σ o.op u,o.dst,u⟩,f,i,⟨x,rfl,rfl⟩,m,n⟩
  split at h
  ·next s=>
   obtain⟨e,f,i,q,m,n⟩:=p h;exact⟨e::f,i,⟨e,f,rfl,by unfold fi;rw[s];exact q,m⟩,n⟩
  ·next g b s=>
   split at h
   ·next c v=>
    by_cases j:c=some b
    ·obtain⟨e,f,i,q,m,n⟩:=p (h.1 j);exact⟨e::f,i,⟨e,f,rfl,by unfold fi;rw[s];exact⟨c,v,.inl ⟨j,q⟩⟩,m⟩,n⟩
    ·obtain⟨f,i,m,n⟩:=B3 (h.2 j);exact⟨⟨[],o.dst,gy⟩::f,i,⟨_,f,rfl,by unfold fi;rw[s];exact⟨c,v,.inr ⟨j,rfl⟩⟩,m⟩,n⟩
   ·exact h.elim
def Tr(P:Program)(σ:St)(dst:Option Nat)(f:SV)(e:List Opd)(K:St->Prop):Prop:=
 ∃k vals c h i,PE σ f e=some (k,vals)/\jL σ.gl P k c/\mOk σ h c=true/\yP σ.objs h c.objs/\yO σ.objs h vals c.args i/\mFz h i c.objs=true/\K (σ.mapply dst h c i)
def nt(P:Program)(σ:St)(dst:Option Nat)(K:St->Prop):VOp->Prop
 |.callM f c=>Tr P σ dst (.val (.fn f [])) c K
 |op=>dT P σ dst (fun u=>K (σ.apply dst u)) op
def fY(P:Program)(K:St->Prop):List VOper->St->Prop
 |[],σ=>K σ
 |o::r,σ=>match o.guard with
  |none=>nt P σ o.dst (fY P K r) o.op
  |some (g,b)=>match ja (ap σ.env g)with
   |some c=>(c=some b->nt P σ o.dst (fY P K r) o.op)/\(¬c=some b->fY P K r (σ.apply o.dst gy))
   |none=>False
theorem WP{σ:St}{dst:Option Nat}{e:List (Nat×Nat)}{c:MC}{h:List Nat} : (σ.mapply dst e c h).n=σ.n:=rfl
theorem UM{P:Program}{w0 w:World}{x:ba}{M:Ctx}{σ:St}{a:Act}{o:Oper}(h:fF w0 x M σ a w)(F:∀d,o.dst=some d->d<σ.n){n:VOp}(I:mM P o.op=some n.strip){K:St->Prop}(J:nt P σ o.dst K n){next:Act->World->Prop}{Q:Exit->Act->World->Prop}
  (L:∀j N q,K j->j.n=σ.n->fF w0 x M j N q->next N q):o.wp P a w next Q:=by
 have l:∀ {f:SV} {i:List Opd} {c:Call} {y:Operand},o.op=.call c->c.callee=.value y->dF c.args.toList=some i->(∀S p s,SimG w0 x M σ a w S p s->au w S p σ.objs f (a.eval y))->Tr P σ o.dst f i K->o.wp P a w next Q:=by
  intro f i c y z m e O ⟨k,vals,mc,ρ,fz,A,B,R,U,V,W,X⟩;obtain⟨S,p,s,C⟩:=h;exact WO C F z m (O S p s C) e A B R U V W (fun v q D=>L _ _ _ X WP D)
 have plain:dT P σ o.dst (fun u=>K (σ.apply o.dst u)) n->mM P o.op=some n->o.wp P a w next Q:=by
  intro A B;obtain⟨u,Y,Z⟩:=GT A;exact Ps h F B Y (fun v q D=>L _ _ _ Z uc D)
 cases n
 case callM f i=>
  obtain⟨c,z,E⟩:=qX I (.inl ⟨_,_,rfl⟩);obtain⟨m,e⟩:=(lz E).1 _ _ rfl;exact l (f:=.val (.fn f [])) z m e (fun S p s C=>⟨#[],rfl,rfl⟩) J
 all_goals exact plain J I
theorem dH:∀ {l:List VOper} {i:Nat},(aC l)[i]?=(l[i]?).map VOper.strip
 |[],i=>by simp[aC]
 |o::r,0=>rfl
 |o::r,i+1=>by simpa[aC]using dH (l:=r) (i:=i)
theorem dO:∀ {l:List VOper},(aC l).length=l.length
 |[]=>rfl
 |o::r=>by simp[aC,dO (l:=r)]
theorem kV{P:Program}{w0:World}{B:ba}{M:Ctx}{f:Array Oper}{i:Nat}{o:Oper}{v:VOper}(F:f[i]?=some o)(I:iu P f o=some v.strip){σ:St}{a:Act}{w:World}(h:fF w0 B M σ a w)(C:∀d,v.dst=some d->d<σ.n){K:St->Prop}{r:List VOper}(m:fY P K (v::r) σ)
  {Q:Exit->Act->World->Prop} {N:Act->World->Prop} (D:∀u E w',fY P K r u->u.n=σ.n->fF w0 B M u E w'->N E w'):wpOp P f Q i N a w:=by
 obtain⟨e,x,n⟩:=fo I;have e:v.dst=o.dst:=e;have x:mM P o.op=some v.op.strip:=x;have n:gI f o.guard=some v.guard:=n
 have run:nt P σ v.dst (fY P K r) v.op->o.wp P a w N Q:=by
  intro J;exact UM h (fun d y=>C d (by rw[e];exact y)) x (by rw[<-e];exact J) D
 unfold wpOp;rw[F];dsimp only;simp only[fY]at m;cases q:o.guard with
 |none=>
  have:v.guard=none:=by rw[q]at n;simpa[gI]using n.symm
  rw[this]at m;have z:Region.wanted o (yielded f a.tmps)=true:=by simp[Region.wanted,q]
  rw[if_pos z];exact .inl (run m)
 |some p=>
  obtain⟨j,b⟩:=p;rw[q]at n;simp only[gI]at n;split at n
  ·next d y=>
   have A:v.guard=some (d,b):=by simpa using n.symm
   rw[A]at m;dsimp only at m;split at m
   ·next c L=>
    have O:yielded f a.tmps j=c:=ud y h L;have z:Region.wanted o (yielded f a.tmps)=(c==some b):=by simp[Region.wanted,q,O]
    rw[z];by_cases s:c=some b
    ·rw[if_pos (by simpa using s)];exact .inl (run (m.1 s))
    ·rw[if_neg (by simpa using s)];refine D _ _ _ (m.2 s) uc ?_;obtain⟨S,R,U,V⟩:=h;rw[<-e];exact⟨S,R,U,V.putD (sv:=.val (.tuple [])) C ⟨#[],rfl,rfl⟩⟩
   ·exact m.elim
  ·simp at n
theorem Nl{P:Program}{w0:World}{z:ba}{M:Ctx}{e:Array Oper}{j:List VOper}(N:cw P e e.toList=some (aC j)){σ:St}{a:Act}{w:World}(h:fF w0 z M σ a w)(s:∀v∈j,∀d,v.dst=some d->d<σ.n){K:St->Prop}(m:fY P K j σ)
  {Q:Exit->Act->World->Prop} (O:∀c u w',K c->c.n=σ.n->fF w0 z M c u w'->Q .normal u w'):wpOps P e Q (List.range e.size) a w:=by
 obtain⟨f,n⟩:=dg N;rw[dO]at f
 have A:∀(l:List VOper) (k:Nat) (c:St) (a:Act) (w:World),(∀i,l[i]?=j[k+i]?)->c.n=σ.n->fF w0 z M c a w->(∀v∈l,∀d,v.dst=some d->d<σ.n)->fY P K l c->wpOps P e Q (List.range' k l.length) a w:=by
  intro l
  induction l with
  |nil=>
   intro k c a w _ y h _ m;exact O c a w m y h
  |cons v r R=>
   intro k c a w I y h s m;have J:j[k]?=some v:=by simpa using (I 0).symm
   have L:k<e.toList.length:=by
    rw[<-f];rcases Nat.lt_or_ge k j.length with B|B
    ·exact B
    ·simp[List.getElem?_eq_none B]at J
   obtain⟨S,p,C⟩:=n k e.toList[k] (List.getElem?_eq_getElem L);rw[dH,J]at p;obtain rfl:S=v.strip:=(O_ p).symm;simp only[List.length_cons,List.range'_succ];rw[wpOps_cons];refine kV (o:=e.toList[k]) (by rw[<-Array.getElem?_toList];exact List.getElem?_eq_getElem L) C h (fun d D=>by rw[y];exact s v (by simp) d D) m (fun q u w' U E V=>?_);exact R (k+1) q u w' (fun i=>by have:=I (i+1);simpa[Nat.add_assoc,Nat.add_comm 1 i]using this) (E.trans y) V (fun x W d F=>s x (List.mem_cons_of_mem _ W) d F) U
 have:=A j 0 σ a w (by simp) rfl h s m;rw[List.range_eq_range',show e.size=j.length by rw[f];simp];exact this
theorem fZ{P:Program} : ∀ {l:List VOper} {σ f:St} {es:List Eff},fm P l σ es f->fm P (aC l) σ es f
 |[],_,_,_,h=>h
 |o::r,σ,f,es,⟨e,m,s,j,u⟩=>by
  refine⟨e,m,s,?_,fZ u⟩
  have i:Kb P σ o e->Kb P σ o.strip e:=by
   rintro⟨n,v,x⟩
   have:o.op.strip=o.op:=by
    cases p:o.op<;>first|rfl|(exfalso;rw[p]at n;simp[BC,ev]at n)
   refine⟨?_,?_,x⟩
   ·show BC P σ o.dst e.u o.op.strip;rw[this];exact n
   ·show e.ids=eE σ o.op.strip e.u;rw[this];exact v
  unfold fi at j |-;have y:o.strip.guard=o.guard:=rfl;rw[y];split at j
  ·exact i j
  ·obtain⟨c,z,A⟩:=j;exact⟨c,z,A.imp (fun q=>⟨q.1,i q.2⟩) (fun q=>q)⟩
def cutP(n:Nat)(ps:List (Nat×Nat)):List (Nat×Nat):=ps.filter fun p=>decide (p.1<n)&&decide (p.2<n)
def qY(P:Program)(K:St->Prop)(c:St)(ps ms:List (Nat×Nat)):List VOper->St->List Eff->Prop
 |[],_,_=>False
 |[o],σ,es=>qM c (cutP es.length ps) (cutP es.length ms) es=true/\fY P K [o] σ
 |o::o2::r,σ,es=>match o.guard with
  |none=>dT P σ o.dst (fun u=>qY P K c ps ms (o2::r) (σ.apply o.dst u) (es++[⟨eE σ o.op u,o.dst,u⟩])) o.op
  |some _=>False
theorem wk{P:Program}{K:St->Prop}{f:St}{ps ms:List (Nat×Nat)} : ∀ {l:List VOper} {σ:St} {es:List Eff},qY P K f ps ms l σ es->∃i last c e,l=i++[last]/\fm P i σ c e/\qM f (cutP (es++c).length ps) (cutP (es++c).length ms) (es++c)=true/\fY P K [last] e
 |[],_,_,h=>h.elim
 |[o],σ,es,h=>⟨[],o,[],σ,rfl,⟨rfl,rfl⟩,by rw[List.append_nil];exact h.1,h.2⟩
 |o::o2::r,σ,es,h=>by
  simp only[qY]at h;split at h
  ·next j=>
   obtain⟨u,m,n⟩:=GT h;obtain⟨i,last,c,e,p,q,s,v⟩:=wk n;exact⟨o::i,last,⟨eE σ o.op u,o.dst,u⟩::c,e,by rw[p];rfl,⟨_,c,rfl,by unfold fi;rw[j];exact⟨m,rfl,rfl⟩,q⟩,by simpa using s,v⟩
  ·exact h.elim
def pw(P:Program):VCode->(Exit->St->Prop)->St->Prop
 |.skip,Q,σ=>Q .normal σ
 |.region ops q p,Q,σ=>match q with
  |.text=>fY P (fun h=>Q .normal (h.drop p)) ops σ
  |.calm=>mU P (fun h=>Q .normal (h.drop p)) ops σ
  |.drawn dX makes=>lh P (fun es h=>qM σ dX makes es=true/\Q .normal (h.drop p)) ops σ []
  |.drawnM dX makes=>qY P (fun h=>Q .normal (h.drop p)) σ dX makes ops σ []
 |.seq a b,Q,σ=>pw P a (fun e h=>match e with
  |.normal=>pw P b Q h
  |e=>Q e h) σ
 |.cond c a b,Q,σ=>match val σ c with
  |.val (.bool t)=>(t=true->pw P a Q σ)/\(t=false->pw P b Q σ)
  |.anyB=>pw P a Q σ/\pw P b Q σ
  |_=>False
 |.block id a,Q,σ=>pw P a (fun e h=>match e with
  |.exit i=>if i=id then Q .normal h else Q (.exit i) h
  |e=>Q e h) σ
 |.loop a,Q,σ=>TV P (.loop a) Q σ
 |.exit id,Q,σ=>Q (.exit id) σ
 |.scope a,Q,σ=>TV P (.scope a) Q σ
 |.label _,Q,σ=>Q .normal σ
 |.goto l,Q,σ=>Q (.goto l) σ
 |.ret,Q,σ=>Q .ret σ
 |.refuse,_,_=>False
 |.cut a,Q,σ=>TV P a Q σ
theorem ek{P:Program}{c:Code}{ops:List VOper}{mode:RMode}(h:comp P c=some (.region ops mode [])) :
  ∃id j e,c=.region id j e/\cw P j j.toList=some ops/\((e=false/\mode=.text)\/(e=true/\∃ps ms,gF j ops.toArray=some (ps,ms)/\((mode=.calm/\ps=[]/\ops.all (fun v=>!v.op.makes)=true)\/mode=.drawn ps ms))):=by
 cases c with
 |region id j e=>
  simp only[comp]at h;split at h
  ·next s n=>
   split at h
   ·next m=>
    split at h
    ·next ps ms q=>
     split at h
     ·next i=>
      simp only[E_,VCode.region.injEq]at h;obtain⟨rfl,rfl,_⟩:=h;simp only[Bool.and_eq_true,List.isEmpty_iff]at i;exact⟨id,j,e,rfl,n,.inr ⟨by simpa using m,ps,ms,q,.inl ⟨rfl,i.1,i.2⟩⟩⟩
     ·simp only[E_,VCode.region.injEq]at h;obtain⟨rfl,rfl,_⟩:=h;exact⟨id,j,e,rfl,n,.inr ⟨by simpa using m,ps,ms,q,.inr rfl⟩⟩
    ·simp at h
   ·next m=>
    simp only[E_,VCode.region.injEq]at h;obtain⟨rfl,rfl,_⟩:=h;exact⟨id,j,e,rfl,n,.inl ⟨by simpa using m,rfl⟩⟩
  ·simp at h
 |skip=>simp[comp]at h
 |seq a b=>simp only[comp]at h;split at h<;>simp at h
 |cond c a b=>simp only[comp]at h;split at h<;>simp at h
 |block id a=>simp only[comp,Option.map_eq_some_iff]at h;obtain⟨_,_,h⟩:=h;simp at h
 |loop a=>simp only[comp,Option.map_eq_some_iff]at h;obtain⟨_,_,h⟩:=h;simp at h
 |rangeFunc f p a b=>simp[comp]at h
 |exit id=>simp[comp]at h
 |scope a=>simp only[comp,Option.map_eq_some_iff]at h;obtain⟨_,_,h⟩:=h;simp at h
 |label l=>simp[comp]at h
 |goto l=>simp[comp]at h
 |ret=>simp[comp]at h
 |refuse w=>simp[comp]at h
theorem bc{P:Program}{c:Code}{v:VCode}(h:comp P c=some v):match v with
  |.skip=>c=.skip
  |.region z q e=>e=[]
  |.seq x y=>∃a b,c=.seq a b/\comp P a=some x/\comp P b=some y
  |.cond u x y=>∃o a b,c=.cond o a b/\al o=some u/\comp P a=some x/\comp P b=some y
  |.block id x=>∃a,c=.block id a/\comp P a=some x
  |.loop x=>∃a,c=.loop a/\comp P a=some x
  |.exit id=>c=.exit id
  |.scope x=>∃a,c=.scope a/\comp P a=some x
  |.label l=>c=.label l
  |.goto l=>c=.goto l
  |.ret=>c=.ret
  |.refuse=>∃j,c=.refuse j
  |.cut _=>False:=by
 cases c with
 |region id B s=>
  simp only[comp]at h;split at h
  ·split at h
   ·split at h
    ·split at h<;>(obtain rfl:=O_ h;rfl)
    ·simp at h
   ·obtain rfl:=O_ h;rfl
  ·simp at h
 |skip=>obtain rfl:=O_ h;rfl
 |seq a b=>
  simp only[comp]at h;split at h
  ·next x y m n=>obtain rfl:=O_ h;exact⟨a,b,rfl,m,n⟩
  ·simp at h
 |cond o a b=>
  simp only[comp]at h;split at h
  ·next u x y A m n=>obtain rfl:=O_ h;exact⟨o,a,b,rfl,A,m,n⟩
  ·simp at h
 |block id a=>simp only[comp,Option.map_eq_some_iff]at h;obtain⟨x,i,rfl⟩:=h;exact⟨a,rfl,i⟩
 |loop a=>simp only[comp,Option.map_eq_some_iff]at h;obtain⟨x,i,rfl⟩:=h;exact⟨a,rfl,i⟩
 |rangeFunc f p a b=>simp[comp]at h
 |exit id=>obtain rfl:=O_ h;rfl
 |scope a=>simp only[comp,Option.map_eq_some_iff]at h;obtain⟨x,i,rfl⟩:=h;exact⟨a,rfl,i⟩
 |label l=>obtain rfl:=O_ h;rfl
 |goto l=>obtain rfl:=O_ h;rfl
 |ret=>obtain rfl:=O_ h;rfl
 |refuse w=>obtain rfl:=O_ h;exact⟨w,rfl⟩
theorem pX{P:Program} : ∀ {l:List VOper} {σ σf:St} {es:List Eff},fm P l σ es σf->σf.n=σ.n
 |[],_,_,_,⟨_,h⟩=>by rw[h]
 |_::_,σ,σf,_,⟨e,_,_,_,h⟩=>by rw[pX h,uc]
def wm(P:Program)(c:Code)(Q:Exit->St->Prop)(σ:St):Prop:=∃id f e,c=.region id f e/\∀(w0:World) (h:ba) (M:Ctx) (a:Act) (w:World),fF w0 h M σ a w->
 (e=false->wpOps P f (BJ w0 h M σ.n Q) (List.range f.size) a w)/\(e=true->wpAny P .any f (BJ w0 h M σ.n Q) f.size (Array.replicate f.size false) a {w with drawn:=w.drawn+1 })
theorem wm.t{P:Program}(hm:P.follows .mixedOrders=true){c:Code}{Q:Exit->St->Prop}{σ:St}(h:wm P c Q σ):T P c Q σ:=by
 obtain⟨id,C,f,rfl,h⟩:=h;intro w0 S0 M a w u;have:=h w0 S0 M a w u;cases f with
 |false=>exact wp_region (this.1 rfl)
 |true=>exact wp_region_any hm (this.2 rfl)
theorem rR{P:Program}(hm:P.follows .mixedOrders=true){c:Code}{f:List VOper}{A:RMode}{n:List Nat}(hc:comp P c=some (.region (aC f) A [])){Q:Exit->St->Prop}{σ:St}(hb:pW σ.n f=true)(h:pw P (.region f A n) Q σ):wm P c Q σ:=by
 obtain⟨id,os,I,rfl,J,j⟩:=ek hc;refine⟨id,os,I,rfl,?_⟩;intro w0 S0 M a w hs;have hd:=fd hb
 have L:∀v∈aC f,∀d,v.dst=some d->d<σ.n:=by
  intro v J d b';obtain⟨i,D⟩:=List.getElem?_of_mem J;rw[dH]at D;cases N:f[i]? with
  |none=>rw[N]at D;simp at D
  |some x=>
   rw[N]at D;simp only[Option.map_some,E_]at D;subst D;exact hd x (List.mem_of_getElem? N) d b'
 have B:∀ {es:List Eff} {q:St},fm P (aC f) σ es q->Q .normal (q.drop n)->∀Z w',fF w0 S0 M q Z w'->BJ w0 S0 M σ.n Q .normal Z w':=fun m hq Z w' E=>⟨_,hq,(by have:=pX m;exact this),kb _ _ _ _ _ _ _ E⟩
 have s:fF w0 S0 M σ a {w with drawn:=w.drawn+1 }:=by
  obtain⟨S,μ,β,C⟩:=hs;exact⟨S,μ,β,C.world (w':={w with drawn:=w.drawn+1 }) ⟨fun _ _ _=>rfl,fun _ _ h=>h⟩ (fun _ _ x=>x) (fun _ _ _ _ _=>rfl) (fun _ _ _ _ _ _ x=>x) C.stab (fun _ _ x=>.inl x) ⟨C.kept.os,C.kept.tape,C.kept.output,C.kept.size,C.kept.block,C.kept.shape⟩⟩
 rcases j with⟨rfl,rfl⟩|⟨rfl,ps,ms,u,j⟩
 ·refine⟨fun _=>Nl (K:=fun O=>Q .normal (O.drop n)) J hs hd (by simpa only [pw]using h) (fun O Z w' hq hn E=>⟨_,hq,hn,kb _ _ _ _ _ _ _ E⟩),fun h=>by cases h⟩
 ·rcases j with⟨rfl,rfl,R⟩|rfl
  ·obtain⟨es,q,m,U⟩:=B3 (by simpa only [pw]using h);replace m:=fZ m;refine⟨fun h=>(by cases h),fun _=>HA J u s L m ?_ (B m U)⟩;obtain⟨_,f',V⟩:=gK 0 m;have W:=th 0 m
   have y:ms=[]:=by
    unfold gF at u;simp only at u;split at u
    ·simp only[E_,Prod.mk.injEq]at u;rw[<-u.2,List.flatMap_eq_nil_iff];intro k hk;cases c':(aC f).toArray[k]? with
     |none=>rfl
     |some vk=>
      have X:vk∈aC f:=List.mem_of_getElem? (by simpa using c');have:=List.all_eq_true.1 R vk X;simp only[Bool.not_eq_true']at this;simp[this]
    ·simp at u
   subst y;unfold qM;simp only[List.all_nil,Bool.true_and,List.all_eq_true];intro e z;obtain⟨i,D,g'⟩:=List.mem_iff_getElem.1 z
   have:e.newId=none:=by
    cases hn:e.newId with
    |none=>rfl
    |some d=>
     exfalso;obtain⟨⟨o,N⟩,_⟩:=rP.1 hn
     have F:∃p∈iW 0 (aC f) es,p.e=e:=by
      have:∀(k:Nat) (l:List VOper) (es:List Eff),es.length=l.length->e∈es->∃p∈iW k l es,p.e=e:=by
       intro k l
       induction l generalizing k with
       |nil=>intro es hl z;simp at hl;subst hl;simp at z
       |cons o r ih=>
        intro es hl z;cases es with
        |nil=>simp at z
        |cons x es=>
         rcases List.mem_cons.1 z with rfl|z
         ·exact⟨⟨k,o,e⟩,by simp[iW],rfl⟩
         ·obtain⟨p,u,d'⟩:=ih (k+1) es (by simpa using hl) z;exact⟨p,by simp[iW,u],d'⟩
      exact this 0 (aC f) es V z
     obtain⟨p,Y,rfl⟩:=F;obtain⟨h',s1⟩:=W p Y;have e':=(y7 s1).2.1 (by rw[N];simp);obtain⟨_,h3,_⟩:=Ec V Y;have:=List.all_eq_true.1 R p.o (List.mem_of_getElem? h3);rw[e']at this;simp at this
   rw[this]
  ·obtain⟨es,q,m,U⟩:=mS (by simpa only [pw]using h);simp only[List.nil_append]at U;replace m:=fZ m;exact⟨fun h=>(by cases h),fun _=>HA J u s L m U.1 (B m U.2)⟩
theorem vq{a b:List VOper} : aC (a++b)=aC a++aC b:=by
 induction a with
 |nil=>rfl
 |cons o r c=>simp[aC,c]
theorem yQ{n:Nat}{a b:List VOper}(h:pW n (a++b)=true):pW n a=true/\pW n b=true:=by
 induction a with
 |nil=>exact⟨rfl,h⟩
 |cons o r c=>
  simp only[List.cons_append,pW,Bool.and_eq_true]at h |-;exact⟨⟨h.1,(c h.2).1⟩,(c h.2).2⟩
theorem BK{P:Program}(hm:P.follows .mixedOrders=true){c:Code}{l:List VOper}{e:RMode}{f:List Nat}(J:comp P c=some (.region (aC l) e.strip [])){Q:Exit->St->Prop}{σ:St}(m:(VCode.region l e f).bnd σ.n=true)(h:pw P (.region l e f) Q σ):wm P c Q σ:=by
 simp only[VCode.bnd,Bool.and_eq_true]at m;obtain⟨m,z⟩:=m;cases e with
 |text=>exact rR hm J m h
 |calm=>exact rR hm J m h
 |drawn ps ms=>exact rR hm J m h
 |drawnM ps ms=>
  obtain⟨id,L,d',rfl,A,n⟩:=ek J;rcases n with⟨_,u⟩|⟨rfl,e',f',hp,⟨u,_⟩|u⟩
  ·simp[RMode.strip]at u
  ·simp[RMode.strip]at u
  ·simp only[RMode.strip,RMode.drawn.injEq]at u;obtain⟨rfl,rfl⟩:=u;refine⟨id,L,true,rfl,?_⟩;intro w0 S0 M a w hs
   have p:fF w0 S0 M σ a {w with drawn:=w.drawn+1 }:=by
    obtain⟨S,μ,β,j⟩:=hs;exact⟨S,μ,β,j.world (w':={w with drawn:=w.drawn+1 }) ⟨fun _ _ _=>rfl,fun _ _ h=>h⟩ (fun _ _ x=>x) (fun _ _ _ _ _=>rfl) (fun _ _ _ _ _ _ x=>x) j.stab (fun _ _ x=>.inl x) ⟨j.kept.os,j.kept.tape,j.kept.output,j.kept.size,j.kept.block,j.kept.shape⟩⟩
   obtain⟨q,last,es,O,rfl,B,h2,h3⟩:=wk (by simpa only [pw]using h);obtain⟨R,U⟩:=yQ m;have V:es.length=q.length:=(gK 0 B).2.2;have hl:(aC q).length=q.length:=dO;replace B:=fZ B;simp only[List.nil_append,V,<-hl]at h2;rw[vq]at A hp z
   have W:∀v∈aC q,∀d,v.dst=some d->d<σ.n:=by
    intro v A d s;obtain⟨i,y⟩:=List.getElem?_of_mem A;rw[dH]at y;cases X:q[i]? with
    |none=>rw[X]at y;simp at y
    |some x=>
     rw[X]at y;simp only[Option.map_some,E_]at y;subst y;exact fd R x (List.mem_of_getElem? X) d s
   refine⟨fun h=>(by cases h),fun _=>PA (last:=last.strip) A hp z p W B h2 ?_⟩;intro N hN a' w' Y;obtain⟨C,D⟩:=dg A;have E:(aC q).length<L.toList.length:=by rw[<-C];simp[aC]
   obtain⟨v,F,Z⟩:=D _ _ (List.getElem?_eq_getElem E)
   have:v=last.strip:=by
    rw[List.getElem?_append_right (Nat.le_refl _)]at F;simpa[aC]using F.symm
   subst this;have hn:O.n=σ.n:=pX B;refine kV (o:=L.toList[(aC q).length]) (by rw[<-Array.getElem?_toList];exact List.getElem?_eq_getElem E) Z Y (fun d s=>by rw[hn];exact fd U last (by simp) d s) h3 (fun b' g' h' hk c' I=>hN _ _ ?_);exact⟨_,hk,(by show b'.n=σ.n;rw[c',hn]),kb _ _ _ _ _ _ _ I⟩
theorem Ts{P:Program} : ∀(v:VCode) {Q Q':Exit->St->Prop} {σ:St},(∀e σ,Q e σ->Q' e σ)->pw P v Q σ->pw P v Q' σ:=by
 have s:∀ {σ:St} {dst:Option Nat} {K n:Upd->Prop} {op:VOp},(∀u,K u->n u)->dT P σ dst K op->dT P σ dst n op:=by
  intro σ dst K n op m h;cases op
  case call f args=>
   simp only[dT]at h |-;split at h
   ·obtain⟨r,I,A⟩:=h;refine⟨r,I,?_⟩;split at A
    ·exact m _ A
    ·exact A
   ·exact h
  case callV f args=>
   simp only[dT]at h |-;split at h
   ·obtain⟨r,I,A⟩:=h;refine⟨r,I,?_⟩;split at A
    ·exact m _ A
    ·exact A
   ·exact h
  all_goals
   simp only[dT]at h |-;split at h
   ·exact⟨h.1,m _ h.2⟩
   ·exact h
 have X:∀ {σ:St} {dst:Option Nat} {K n:St->Prop} {op:VOp},(∀u,K u->n u)->nt P σ dst K op->nt P σ dst n op:=by
  intro σ dst K n op m h;cases op
  case callM f args=>
   obtain⟨k,vals,mc,ρ,fz,I,A,h3,h4,h5,h6,h7⟩:=h;exact⟨k,vals,mc,ρ,fz,I,A,h3,h4,h5,h6,m _ h7⟩
  all_goals
   simp only[nt]at h |-;exact s (fun u q=>m _ q) h
 have Y:∀(l:List VOper) {σ:St} {K n:St->Prop},(∀σ,K σ->n σ)->fY P K l σ->fY P n l σ:=by
  intro l
  induction l with
  |nil=>intro σ K n m h;exact m _ h
  |cons o r y=>
   intro σ K n m h;simp only[fY]at h |-;split at h
   ·exact X (fun u q=>y m q) h
   ·split at h
    ·exact⟨fun p=>X (fun u q=>y m q) (h.1 p),fun p=>y m (h.2 p)⟩
    ·exact h
 have rt:∀(l:List VOper) {σ:St} {K n:St->Prop},(∀σ,K σ->n σ)->mU P K l σ->mU P n l σ:=by
  intro l
  induction l with
  |nil=>intro σ K n m h;exact m _ h
  |cons o r y=>
   intro σ K n m h;simp only[mU]at h |-;split at h
   ·exact s (fun u q=>y m q) h
   ·split at h
    ·exact⟨fun p=>s (fun u q=>y m q) (h.1 p),fun p=>y m (h.2 p)⟩
    ·exact h
 have rd:∀(l:List VOper) {σ:St} {es:List Eff} {K n:List Eff->St->Prop},(∀es σ,K es σ->n es σ)->lh P K l σ es->lh P n l σ es:=by
  intro l
  induction l with
  |nil=>intro σ es K n m h;exact m _ _ h
  |cons o r y=>
   intro σ es K n m h;simp only[lh]at h |-;split at h
   ·exact s (fun u q=>y m q) h
   ·split at h
    ·exact⟨fun p=>s (fun u q=>y m q) (h.1 p),fun p=>y m (h.2 p)⟩
    ·exact h
 have R:∀(l:List VOper) {B σ:St} {ps ms:List (Nat×Nat)} {es:List Eff} {K n:St->Prop},(∀σ,K σ->n σ)->qY P K B ps ms l σ es->qY P n B ps ms l σ es:=by
  intro l
  induction l with
  |nil=>intro B σ ps ms es K n m h;exact h
  |cons o r y=>
   intro B σ ps ms es K n m h;cases r with
   |nil=>exact⟨h.1,Y [o] m h.2⟩
   |cons o2 r=>
    simp only[qY]at h |-;split at h
    ·exact s (fun u q=>y m q) h
    ·exact h
 have S:∀ {w0 C M N} {Q Q':Exit->St->Prop},(∀e σ,Q e σ->Q' e σ)->∀e a w,BJ w0 C M N Q e a w->BJ w0 C M N Q' e a w:=by
  intro w0 C M N Q Q' j e a w h;cases e<;>first|exact h|(obtain⟨σ,I,A⟩:=h;exact⟨σ,j _ _ I,A⟩)
 intro v
 induction v with
 |skip=>intro Q Q' σ j h;exact j _ _ h
 |region D J Z=>
  intro Q Q' σ j h;cases J with
  |text=>exact Y D (fun σ h=>j _ _ h) h
  |calm=>exact rt D (fun σ h=>j _ _ h) h
  |drawn ps ms=>exact rd D (fun es σ h=>⟨h.1,j _ _ h.2⟩) h
  |drawnM ps ms=>exact R D (fun σ h=>j _ _ h) h
 |seq a b z E=>
  intro Q Q' σ j h;refine z (fun e U F=>?_) h;cases e<;>first|exact E j F|exact j _ _ F
 |cond c a b z E=>
  intro Q Q' σ j h;simp only[pw]at h |-;split at h
  ·exact⟨fun V=>z j (h.1 V),fun V=>E j (h.2 V)⟩
  ·exact⟨z j h.1,E j h.2⟩
  ·exact h
 |block id a z=>
  intro Q Q' σ j h;refine z (fun e U F=>?_) h;cases e
  case exit i=>
   dsimp only at F |-;split
   ·next W=>rw[if_pos W]at F;exact j _ _ F
   ·next W=>rw[if_neg W]at F;exact j _ _ F
  all_goals exact j _ _ F
 |loop a _=>intro Q Q' σ j h c p L w0 C M x w O;exact wp_mono (h c p L w0 C M x w O) (S j)
 |exit id=>intro Q Q' σ j h;exact j _ _ h
 |scope a _=>intro Q Q' σ j h c p L w0 C M x w O;exact wp_mono (h c p L w0 C M x w O) (S j)
 |label l=>intro Q Q' σ j h;exact j _ _ h
 |goto l=>intro Q Q' σ j h;exact j _ _ h
 |ret=>intro Q Q' σ j h;exact j _ _ h
 |refuse=>intro Q Q' σ j h;exact h
 |cut a _=>intro Q Q' σ j h c p L w0 C M x w O;exact wp_mono (h c p L w0 C M x w O) (S j)
theorem abQ{w0:World}{S0:ba}{M:Ctx}{σ c:St}{a:Act}{w f:World}(h:fF w0 S0 M σ a w)(e:fF w0 S0 M c a f):c.n=σ.n:=by
 obtain⟨_,_,_,h⟩:=h;obtain⟨_,_,_,e⟩:=e;rw[<-h.size,<-e.size]
end Go.Vs
namespace Go.Vs
theorem lB{P:Program}(hm:P.follows .mixedOrders=true):∀(v:VCode) {Q:Exit->St->Prop} {σ:St},pw P v Q σ->TV P v Q σ:=by
 intro v
 induction v with
 |skip=>
  intro Q σ h c n _ w0 s M a w j;have e:c=Code.skip:=bc n;subst e;exact wp_skip ⟨σ,h,rfl,j⟩
 |region Y R U=>
  intro Q σ h c n u;exact(BK hm n u h).t hm
 |seq x y z A=>
  intro Q σ h c n u w0 s M a w j;obtain⟨p,q,rfl,D,I⟩:=bc n;simp only[VCode.bnd,Bool.and_eq_true]at u;refine wp_seq (wp_mono (z h p D u.1 w0 s M a w j) (fun e V W E=>?_));cases e
  case normal=>
   obtain⟨B,C,F,J⟩:=E;have:=A C q I (by rw[F];exact u.2) w0 s M V W J;rw[F]at this;exact this
  all_goals exact E
 |cond o x y z A=>
  intro Q σ h c n u w0 s M a w j;obtain⟨p,q,r,rfl,X,D,I⟩:=bc n;simp only[VCode.bnd,Bool.and_eq_true]at u;simp only[pw]at h;split at h
  ·next t L=>
   obtain⟨S,Z,β,N⟩:=id j;have f:=ay N X;rw[L]at f;exact wp_cond_split f (fun e=>z (h.1 e) q D u.1 w0 s M a w j) (fun e=>A (h.2 e) r I u.2 w0 s M a w j)
  ·next L=>
   obtain⟨S,Z,β,N⟩:=id j;have f:=ay N X;rw[L]at f;obtain⟨t,f⟩:=f;exact wp_cond_split f (fun _=>z h.1 q D u.1 w0 s M a w j) (fun _=>A h.2 r I u.2 w0 s M a w j)
  ·exact h.elim
 |block id x ih=>
  intro Q σ h c n u w0 s M a w j;obtain⟨p,rfl,D⟩:=bc n;refine wp_block (wp_mono (ih h p D u w0 s M a w j) (fun e V W E=>?_));cases e
  case exit i=>
   obtain⟨B,C,F,J⟩:=E;dsimp only at C;simp only[Exit.inBlock];split
   ·next O=>rw[if_pos O]at C;exact⟨B,C,F,J⟩
   ·next O=>rw[if_neg O]at C;exact⟨B,C,F,J⟩
  all_goals exact E
 |loop x _=>exact fun h=>h
 |exit id=>
  intro Q σ h c n _ w0 s M a w j;have e:c=Code.exit id:=bc n;subst e;exact wp_exit ⟨σ,h,rfl,j⟩
 |scope x _=>exact fun h=>h
 |label l=>
  intro Q σ h c n _ w0 s M a w j;have e:c=Code.label l:=bc n;subst e;exact wp_label ⟨σ,h,rfl,j⟩
 |goto l=>
  intro Q σ h c n _ w0 s M a w j;have e:c=Code.goto l:=bc n;subst e;exact wp_goto ⟨σ,h,rfl,j⟩
 |refuse=>intro Q σ h;exact h.elim
 |cut x _=>exact fun h=>h
 |ret=>
  intro Q σ h c n _ w0 s M a w j;have e:c=Code.ret:=bc n;subst e;exact wp_ret ⟨σ,h,rfl,j⟩
section
variable {P:Program}
theorem ZJ(hm:P.follows .mixedOrders=true){C:Type}(I:C->St)(A:C->Prop)(m:C->Nat){b:VCode}{Q:Exit->St->Prop}{σ:St}(E:C)(X:A E)(Y:cH σ (I E))(S:∀i,(I i).n=σ.n)
  (q:∀i,A i->pw P b (fun e l=>match e with
    |.normal=>∃j,A j/\m j<m i/\cH l (I j)
    |e=>Q e l) (I i)):TV P (.loop b) Q σ:=by
 intro c Z hb w0 f M a w hs;obtain⟨p,rfl,y⟩:=bc Z
 have F:∀n i,m i=n->A i->∀a w,fF w0 f M (I i) a w->(Code.loop p).wp P (BJ w0 f M σ.n Q) a w:=by
  intro n i b' J a w L;refine wp_loop (fun a w=>∃i,A i/\fF w0 f M (I i) a w) (fun a w=>Classical.epsilon fun k=>∃i,A i/\fF w0 f M (I i) a w/\m i=k/\∀j,A j->fF w0 f M (I j) a w->k<=m j) ⟨i,J,L⟩ ?_
  have o:∀(a:Act) (w:World),(∃i,A i/\fF w0 f M (I i) a w)->∃k,∃i,A i/\fF w0 f M (I i) a w/\m i=k/\∀j,A j->fF w0 f M (I j) a w->k<=m j:=by
   intro a w ⟨i,Kl,s⟩
   have:∀n i,m i<=n->A i->fF w0 f M (I i) a w->∃k,∃i,A i/\fF w0 f M (I i) a w/\m i=k/\∀j,A j->fF w0 f M (I j) a w->k<=m j:=by
    intro n
    induction n with
    |zero=>intro i u y N;exact⟨m i,i,y,N,rfl,fun j _ _=>by omega⟩
    |succ n ih=>
     intro i u y N;by_cases hex:∃j,A j/\fF w0 f M (I j) a w/\m j<m i
     ·obtain⟨j,v,D,U⟩:=hex;exact ih j (by omega) v D
     ·exact⟨m i,i,y,N,rfl,fun j v D=>by
       rcases Nat.lt_or_ge (m j) (m i)with h|h
       ·exact absurd ⟨j,v,D,h⟩ hex
       ·exact h⟩
   exact this (m i) i (Nat.le_refl _) Kl s
  intro a w hI;have u:=o a w hI;obtain⟨i,Kl,s,c',d'⟩:=Classical.epsilon_spec u;have hr:=lB hm b (q i Kl) p y (by rw[S];exact hb) w0 f M a w s;refine wp_mono hr (fun e V W O=>?_);cases e
  case normal=>
   obtain⟨l,⟨j,v,D,U⟩,_,R⟩:=O;have x:=U w0 f M V W R;have z:=o V W ⟨j,v,x⟩;obtain⟨_,_,_,_,B⟩:=Classical.epsilon_spec z;refine⟨⟨j,v,x⟩,?_⟩;have:=B j v x;omega
  all_goals
   first
    |exact O
    |(obtain⟨l,k1,k2,R⟩:=O;exact⟨l,k1,by rw[k2,S],R⟩)
 exact F _ E rfl X a w (Y w0 f M a w hs)
theorem aco(hm:P.follows .mixedOrders=true){l:Type}(I:l->St)(A:l->Prop){x y:VCode}{Q:Exit->St->Prop}{σ:St}(m:∀i,(I i).n=σ.n)
  (u:pw P x (fun e f=>match e with
    |.normal=>∃i,A i/\cH f (I i)
    |e=>Q e f) σ) (v:∀i,A i->pw P y Q (I i)):TV P (.seq x y) Q σ:=by
 intro c z h w0 j M a w B;obtain⟨p,q,rfl,C,D⟩:=bc z;simp only[VCode.bnd,Bool.and_eq_true]at h;refine wp_seq (wp_mono (lB hm x u p C h.1 w0 j M a w B) (fun e n o s=>?_));cases e
 case normal=>
  obtain⟨f,⟨i,E,F⟩,L,J⟩:=s;have:=lB hm y (v i E) q D (by rw[m];exact h.2) w0 j M n o (F w0 j M n o J);rw[m]at this;exact this
 all_goals exact s
def aI(env:List (Nat×SV)):List (Nat×SV)->Prop
 |[]=>True
 |(k,v)::r=>ap env k=v/\aI env r
def bD(objs:List (Nat×Ob)):List (Nat×Ob)->Prop
 |[]=>True
 |(k,o)::r=>ac objs k=some o/\bD objs r
theorem M4{c:List (Nat×SV)} : ∀ {l:List (Nat×SV)},aI c l->∀k,ap l k=.undef\/ap l k=ap c k
 |[],_,_=>.inl rfl
 |(j,v)::r,h,k=>by
  simp only[ap,ac];cases e:j==k with
  |true=>rw[beq_iff_eq]at e;subst e;exact .inr h.1.symm
  |false=>exact M4 h.2 k
theorem M6{c:List (Nat×Ob)} : ∀ {l:List (Nat×Ob)},bD c l->∀k o,ac l k=some o->ac c k=some o
 |[],_,_,_,h=>by simp[ac]at h
 |(j,v)::r,h,k,o,e=>by
  simp only[ac]at e;cases f:j==k with
  |true=>rw[f]at e;rw[beq_iff_eq]at f;subst f;simp at e;subst e;exact h.1
  |false=>rw[f]at e;exact M6 h.2 k o e
def bB(h ro':List Nat):List (Nat×Ob)->Bool
 |[]=>true
 |(k,_)::r=>(!h.contains k||ro'.contains k)&&bB h ro' r
theorem M7{f c:List Nat} : ∀ {l:List (Nat×Ob)},bB f c l=true->∀i o,ac l i=some o->i∈f->i∈c
 |[],_,_,_,h,_=>by simp[ac]at h
 |(j,v)::r,h,i,o,m,p=>by
  simp only[bB,Bool.and_eq_true]at h;simp only[ac]at m;cases n:j==i with
  |true=>
   rw[beq_iff_eq]at n;subst n;have:=h.1;simp only[Bool.or_eq_true,Bool.not_eq_true']at this;rcases this with e|e
   ·have:f.contains j=true:=by simpa using p
    rw[this]at e;simp at e
   ·simpa using e
  |false=>rw[n]at m;exact M7 h.2 i o m p
theorem ag{σ m:St}(p:m.n=σ.n)(o:m.gl=σ.gl)(z:aI σ.env m.env)(A:bD σ.objs m.objs)(B:bB σ.ro m.ro m.objs=true):cH σ m:=by
 rintro w0 E M a w ⟨S,C,D,h⟩;exact⟨S,C,D,h.drop p o (M7 B) (M4 z) (M6 A)⟩
def St.adopt(σ:St)(k id s:Nat):St:={σ with env:=put (cS id σ.env) k (.own id 0),objs:=ck id (put σ.objs id (.arr 0 s [])) }
theorem ct{σ:St}{k:Nat}(id s:Nat)(hid:id<σ.n)(u:ap σ.env k=.nils):cH σ (σ.adopt k id s):=by
 rintro w0 C M a w ⟨S,D,E,h⟩;have f:=h.env k;rw[u]at f;obtain⟨x,l⟩:=f;have y:=h.create id hid (.arr 0 s []) none (.slice x 0 0) (Kept.refl _ _) (by simp) (.inl ⟨rfl,rfl,x,rfl⟩)
 have j:k<σ.n:=by
  rcases Nat.lt_or_ge k σ.n with m|m
  ·exact m
  ·rw[<-h.size]at m;rw[Array.getD,dif_neg (by omega)]at l;simp[Go.undef]at l
 have p:=y.put (sv:=.own id 0) (v:=.slice x 0 0) j (by
  intro F I q o;rw[cG,dC]at o;simp only[Option.map_some,Ob.erase,E_,Ob.arr.injEq]at o;obtain⟨rfl,_,_⟩:=o
  exact⟨Nat.le_refl _,fun _=>by simp⟩)
 have z:a.put (some k) (.slice x 0 0)=a:=by
  have A:k<a.tmps.size:=by rw[h.size];exact j
  have:a.tmps.setIfInBounds k (.slice x 0 0)=a.tmps:=by
   apply Array.ext
   ·simp
   ·intro i J B;rw[Array.getElem_setIfInBounds];split
    ·next e=>subst e;rw[<-l];simp[B]
    ·rfl
  simp only[Act.put,this]
 rw[z]at p;exact⟨S,_,_,p⟩
end
end Go.Vs
namespace Go.Vs
inductive VRes where
 |tmp (t:Nat)
 |cell (t:Nat) (agg:Option Nat)
 deriving Inhabited,Repr
def cK(P:Program):List ResultVar->Option (List VRes)
 |[]=>some []
 |.tmp t::r=>(cK P r).map (VRes.tmp t::·)
 |.cell t c::r=>match vp P c,cK P r with
  |some g,some f=>some (.cell t g::f)
  |_,_=>none
def Tt(σ:St):VRes->Option (IV×List Nat)
 |.tmp t=>Bs σ.objs (ap σ.env t)
 |.cell t g=>match ap σ.env t with
  |.loc id f=>match ac σ.objs id with
   |some (.box e)=>match g with
    |some n=>if f+n<=e.length then Bs σ.objs (Bp ((e.drop f).take n))else none
    |none=>match e[f]? with
     |some c=>Bs σ.objs c
     |none=>none
   |_=>none
  |_=>none
def pY(σ:St):List VRes->Option (List IV×List Nat)
 |[]=>some ([],[])
 |x::r=>match Tt σ x,pY σ r with
  |some (v,f),some (c,e)=>some (v::c,f++e)
  |_,_=>none
def HG(σ:St)(c:List VRes):Option IV:=match pY σ c with
 |some ([v],_)=>some v
 |some (e,_)=>some (.tuple e)
 |none=>none
def HH(σ:St):List VRes->Option (Nat×List (List IV))
 |[.tmp t]=>match ap σ.env t with
  |.own id e=>match ac σ.objs id with
   |some (.arr f s c)=>if e==f&&!σ.ro.contains id then some (s,c)else none
   |_=>none
  |_=>none
 |_=>none
def wn(e:List VRes)(r:Res):Exit->St->Prop
 |.normal,σ=>match r with
  |.imm v=>HG σ e=some v
  |.own s c=>HH σ e=some (s,c)
 |.ret,σ=>match r with
  |.imm v=>HG σ e=some v
  |.own s c=>HH σ e=some (s,c)
 |_,_=>False
def Ke:Nat->List IV->List (Nat×SV)
 |_,[]=>[]
 |i,x::r=>(i,.val x)::Ke (i+1) r
def WQ(e:List (Nat×List IV))(c:List IV)(n:Nat):St:=⟨Ke 0 c,[],[],n,e⟩
def Ctx.nothing:Ctx:=⟨fun _=>False,[],fun _=>Go.undef,[]⟩
structure FnOk(P:Program)(k:FuncId)(v:VCode)(rs:List VRes)(n:Nat):Prop where
 ok:∃fn c,P.funcs[k]?=some fn/\fn.name≠ "runtime.NumGoroutine"/\fn.body=some c/\comp P c=some v.strip/\v.bnd n=true/\cK P fn.results.toList=some rs/\fn.ntmps=n
theorem PF{w:World}{S:ba}{μ:Nat->Value}{objs:List (Nat×Ob)} : ∀ {c:List IV} {m:List Value} (i:Nat),bx w S c m->∀k,au w S μ objs (ap (Ke i c) k) ((m[k-i]?).getD Go.undef)
 |[],_,i,_,k=>trivial
 |x::r,_,i,⟨v,n,o,p,q⟩,k=>by
  subst o;simp only[Ke,ap,ac];cases e:i==k with
  |true=>
   rw[beq_iff_eq]at e;subst e;simp only[cond_true,Option.getD_some,Nat.sub_self,List.getElem?_cons_zero];exact p
  |false=>
   have s:i≠k:=by simpa using e
   have f:=PF (μ:=μ) (objs:=objs) (i+1) q k;simp only[cond_false];rcases Nat.lt_or_ge i k with u|z
   ·rw[show k-i=(k-(i+1))+1 by omega];rw[List.getElem?_cons_succ];exact f
   ·have:ap (Ke (i+1) r) k=.undef:=by
     have h:∀(l:List IV) (j:Nat),k<j->ap (Ke j l) k=.undef:=by
      intro l
      induction l with
      |nil=>intro j _;rfl
      |cons y l f=>
       intro j A;have:(j==k)=false:=by simp;omega
       simp only[Ke,ap,ac,this,cond_false];exact f (j+1) (by omega)
     exact h r (i+1) (by omega)
    show au _ _ _ _ (ap (Ke (i+1) r) k) _;rw[this];trivial
theorem ZK{w:World}{S:ba}{args:List IV}{c:List Value}(s:∀b o,S b o->b<w.heap.size)(h:bx w S args c){gl:List (Nat×List IV)}(j:∀p,p∈gl->gX w S p){n:Nat}(z:args.length<=n) :
  fF w S Ctx.nothing (WQ gl args n) {tmps:=c.toArray++Array.replicate (n-c.toArray.size) Go.undef,defers:=[] } w:=by
 have A:=bx.length h;refine⟨S,fun _=>Go.undef,fun _=>none,{defers:=rfl,size:=?_,env:=?_,objs:=?_,inj:=?_,own:=?_,unst:=?_,stab:=s,ext:=fun _ _ x=>x,back:=fun _ _ x=>.inl x,kept:=Kept.refl _ _,stay:=fun _ _ _=>rfl,hist:=fun p l=>by simp[Ctx.nothing]at l,far:=fun p l=>by simp[Ctx.nothing]at l,glob:=j }⟩
 ·simp[WQ];omega
 ·intro k;have:=PF (μ:=fun _=>Go.undef) (objs:=[]) 0 h k
  have e:(c.toArray++Array.replicate (n-c.toArray.size) Go.undef).getD k Go.undef=(c[k-0]?).getD Go.undef:=by
   rw[Nat.sub_zero];rcases Nat.lt_or_ge k c.length with i|i
   ·simp[Array.getD,i,Array.getElem_append_left,Nat.lt_add_right]
   ·rw[List.getElem?_eq_none i,Option.getD_none];rw[Array.getD_eq_getD_getElem?,Array.getElem?_append_right (by simpa using i),Array.getElem?_replicate];split<;>rfl
  show au _ _ _ _ (ap (Ke 0 args) k) _;rw[e];exact this
 ·intro id o f;simp[WQ,ac]at f
 ·intro id u o B b f;simp[WQ,ac]at f
 ·intro id o b f;simp[WQ,ac]at f
 ·intro id o b y f;simp[WQ,ac]at f
section
variable {P:Program}
theorem PG{w0 w:World}{X S:ba}{M:Ctx}{σ:St}{a:Act}{Y:Nat->Value}{J:Nat->Option Nat}(h:SimG w0 X M σ a w S Y J){B:ResultVar}{x:VRes}{l:List ResultVar}{Z:List VRes}(p:cK P (B::l)=some (x::Z)){v:IV}{L y:List Nat}
  (f:Tt σ x=some (v,L)) (C:∀i,i∈L->i∈y) :
  ∃u,(match B with|.tmp t=>(pure (a.tmps.getD t Go.undef):Sem Value)|.cell ad t=>do loadVar t (<-asAddr (a.tmps.getD ad Go.undef))).run P w=.ok u w/\pJ w (dz S J σ.objs y) v u:=by
 cases B with
 |tmp t=>
  simp only[cK,Option.map_eq_some_iff]at p;obtain⟨r,_,N⟩:=p;simp only[List.cons.injEq]at N;obtain⟨rfl,_⟩:=N;exact⟨_,rfl,kI h f C (h.env t)⟩
 |cell t ty=>
  simp only[cK]at p;split at p
  ·next g a' O _=>
   simp only[E_,List.cons.injEq]at p;obtain⟨rfl,_⟩:=p;simp only[Tt]at f;split at f
   ·next id q D=>
    have o:=h.env t;rw[D]at o;split at f
    ·next E hl=>
     obtain⟨b,R,e,fr,_,_,U,V,_,s⟩:=jD h hl o;split at f
     ·next n=>
      split at f
      ·next b'=>
       have F:=ak.take n (ak.drop q s)
       have z:((R.toList.drop q).take n).length=n:=by
        have:=ak.length s;rw[List.length_take,List.length_drop];omega
       refine⟨.agg ((R.toList.drop q).take n).toArray,?_,kI h f C (kT F)⟩;simp only[U,asAddr,Sem.run_bind,Sem.run_pure,Result.andThen_ok]
       exact kU O z (fun j v A=>by
        rw[List.getElem?_take]at A;split at A
        ·rw[List.getElem?_drop,Array.getElem?_toList]at A;rw[ez V];exact A
        ·simp at A)
      ·simp at f
     ·split at f
      ·next c I=>
       obtain⟨v',W,_,h2⟩:=ak.get s I;refine⟨v',?_,kI h f C h2⟩;simp only[U,asAddr,Sem.run_bind,Sem.run_pure,Result.andThen_ok];exact nL O (by rw[ez V];rw[Array.getElem?_toList]at W;exact W)
      ·simp at f
    ·simp at f
   ·simp at f
  ·simp at p
theorem oX{w0 w:World}{D S:ba}{M:Ctx}{σ:St}{a:Act}{E:Nat->Value}{A:Nat->Option Nat}(h:SimG w0 D M σ a w S E A):∀ {l:List ResultVar} {n:List VRes},cK P l=some n->∀ {p:List IV} {q fz':List Nat},
  pY σ n=some (p,q)->(∀i,i∈q->i∈fz')->
  ∃us,(l.mapM (m:=Sem) fun s=>match s with|.tmp t=>(pure (a.tmps.getD t Go.undef):Sem Value)|.cell F t=>do loadVar t (<-asAddr (a.tmps.getD F Go.undef))).run P w=.ok us w/\bx w (dz S A σ.objs fz') p us
 |[],n,c,p,q,fz',e,_=>by
  simp only[cK,E_]at c;subst c;simp only[pY,E_,Prod.mk.injEq]at e;obtain⟨rfl,_⟩:=e;exact⟨[],rfl,rfl⟩
 |s::l,n,c,p,q,fz',e,B=>by
  obtain⟨x,j,rfl,y⟩:∃x j,n=x::j/\cK P l=some j:=by
   cases s with
   |tmp t=>
    simp only[cK,Option.map_eq_some_iff]at c;obtain⟨r,o,I⟩:=c;exact⟨_,r,I.symm,o⟩
   |cell t U=>
    simp only[cK]at c;split at c
    ·next g r V o=>obtain rfl:=O_ c;exact⟨_,r,rfl,o⟩
    ·simp at c
  simp only[pY]at e;split at e
  ·next v f J W o L=>
   simp only[E_,Prod.mk.injEq]at e;obtain⟨rfl,rfl⟩:=e;obtain⟨u,C,N⟩:=PG h c o (fun i z=>B i (List.mem_append_left _ z));obtain⟨us,O,R⟩:=oX h y L (fun i z=>B i (List.mem_append_right _ z));refine⟨u::us,?_,⟨u,us,rfl,N,R⟩⟩;rw[List.mapM_cons];simp only[Sem.run_bind,O,Sem.run_pure];cases s<;>simp only at C<;>(first|(rw[Sem.run_bind]at C)|skip)<;>simp_all [Result.andThen]
  ·simp at e
theorem ae(hm:P.follows .mixedOrders=true){k:FuncId}{v:VCode}{rs:List VRes}{n:Nat}(i':FnOk P k v rs n){gl:List (Nat×List IV)}{N:List IV}{r:Res}(hn:N.length<=n)(h:pw P v (wn rs r) (WQ gl N n)):Ea gl P k N r:=by
 obtain⟨V,c,hf,Y,O,Z,b',z,j'⟩:=i';refine⟨⟨V,hf,Y⟩,fun w S vs hS c' k'=>.inl ⟨⟨V,hf,by rw[O];rfl⟩,?_⟩⟩;subst j';refine calls_of_wp hf O ?_;refine wp_mono (lB hm v h c Z b' w S Ctx.nothing _ w (ZK hS c' k' hn)) (fun e a M C=>?_)
 have d':∀σ,wn rs r .ret σ->fF w S Ctx.nothing σ a M->a.defers=[]/\∃u,(results V a.tmps).run P M=.ok u M/\∃v S',Ending.returned u=.returned v/\RN w S M S' r v/\(∀b o,S b o->S' b o)/\(∀b o,S' b o->S b o\/w.heap.size<=b)/\(∀b o,S' b o->b<M.heap.size)/\Kept (fun _=>False) w M:=by
  rintro σ D ⟨S1,μ,β,I⟩;refine⟨I.defers,?_⟩;cases r with
  |imm x=>
   simp only[wn,HG]at D
   have E:∀R:List Value,(V.results.toList.mapM (m:=Sem) fun rv=>match rv with|.tmp t=>(pure (a.tmps.getD t Go.undef):Sem Value)|.cell ad t=>do loadVar t (<-asAddr (a.tmps.getD ad Go.undef))).run P M=.ok R M->
     (results V a.tmps).run P M=.ok (if h:R.toArray.size=1 then R.toArray[0]else .tuple R.toArray) M:=by
    intro R l';unfold results;rw[Sem.run_bind,Array.mapM_eq_mapM_toList]
    have:((List.toArray <$> V.results.toList.mapM (m:=Sem) fun rv=>match rv with|.tmp t=>(pure (a.tmps.getD t Go.undef):Sem Value)|.cell ad t=>do loadVar t (<-asAddr (a.tmps.getD ad Go.undef))):Sem (Array Value)).run P M=.ok R.toArray M:=by
     rw[Sem.run_map,l'];rfl
    first
     |(rw[this];rfl)
     |(erw [this];rfl)
   have ext:∀F,(∀b o,S b o->dz S1 β σ.objs F b o)/\(∀b o,dz S1 β σ.objs F b o->S b o\/w.heap.size<=b)/\(∀b o,dz S1 β σ.objs F b o->b<M.heap.size):=by
    intro F;have L:=I.freeze F;refine⟨fun b o W=>.inl (I.ext b o W),fun b o W=>?_,L.stab⟩;rcases L.back b o W with U|U|U
    ·exact .inl U
    ·exact .inr U
    ·exact U.elim
   split at D
   ·next v' F hv=>
    obtain rfl:=O_ D;obtain⟨R,A,L⟩:=oX (fz':=F) I z hv (fun _ x=>x);obtain⟨u,m',rfl,U,h4⟩:=L;have h4:m'=[]:=h4;subst h4;have:=E _ A;exact⟨u,by simpa using this,u,_,rfl,U,(ext F).1,(ext F).2.1,(ext F).2.2,I.kept⟩
   ·next z' F a' hv=>
    obtain rfl:=O_ D;obtain⟨R,A,L⟩:=oX (fz':=F) I z hv (fun _ x=>x);have:=E _ A
    have n':¬R.toArray.size=1:=by
     have e':=bx.length L;simp only[List.size_toArray,e'];intro A;obtain⟨v,rfl⟩:=List.length_eq_one_iff.mp A
     first|exact a' v F rfl|exact a' v rfl|exact a' _ _ hv
    rw[dif_neg n']at this;exact⟨_,this,_,_,rfl,⟨R.toArray,rfl,by simpa using L⟩,(ext F).1,(ext F).2.1,(ext F).2.2,I.kept⟩
   ·simp at D
  |own s y'=>
   simp only[wn]at D;unfold HH at D;split at D
   ·next t=>
    split at D
    ·next id o' p'=>
     split at D
     ·next cv s' q' hl=>
      split at D
      ·next J=>
       simp only[E_,Prod.mk.injEq]at D;obtain⟨rfl,rfl⟩:=D;simp only[Bool.and_eq_true,Bool.not_eq_true']at J;have f':o'=cv:=by simpa using J.1
       have r':id∉σ.ro:=by simpa using J.2
       have X:=I.env t;rw[p']at X;have hv:=(X _ _ _ hl).2 f'
       have u':V.results.toList=[.tmp t]:=by
        cases g':V.results.toList with
        |nil=>rw[g']at z;simp[cK]at z
        |cons rv l=>
         rw[g']at z;cases rv with
         |tmp t'=>
          simp only[cK,Option.map_eq_some_iff,List.cons.injEq]at z;obtain⟨r,A,L,rfl⟩:=z;simp only[VRes.tmp.injEq]at L;subst L;cases l with
          |nil=>rfl
          |cons y l=>
           exfalso;cases y<;>simp only[cK,Option.map_eq_some_iff]at A
           ·obtain⟨_,_,U⟩:=A;simp at U
           ·split at A<;>simp at A
         |cell a ty=>
          simp only[cK]at z;split at z<;>simp at z
       have h':=Hg u';refine⟨a.tmps.getD t Go.undef,by simp[results,h'],a.tmps.getD t Go.undef,S1,rfl,⟨β id,?_,fun b W=>⟨?_,fun x' hS=>r' (I.unst id _ b x' hl W hS).1⟩⟩,I.ext,fun b o W=>?_,I.stab,I.kept⟩
       ·rw[hv];exact I.objs id _ hl
       ·rcases I.own id _ b hl W with A|A
        ·exact A
        ·exact A.elim
       ·rcases I.back b o W with A|A|A
        ·exact .inl A
        ·exact .inr A
        ·exact A.elim
      ·simp at D
     ·simp at D
    ·simp at D
   ·simp at D
 cases e
 case normal=>obtain⟨σ,A,_,L⟩:=C;exact d' σ A L
 case ret=>obtain⟨σ,A,_,L⟩:=C;exact d' σ A L
 case panic=>exact C.elim
 case outgrown=>exact C.elim
 case exit=>obtain⟨σ,A,_⟩:=C;exact A.elim
 case goto=>obtain⟨σ,A,_⟩:=C;exact A.elim
end
end Go.Vs
namespace Go.Vs
def BL:Nat->List SV->List (Nat×SV)
 |_,[]=>[]
 |i,x::r=>(i,x)::BL (i+1) r
def ji(h:List (Nat×List IV))(c:MC)(n:Nat):St:=⟨BL 0 c.args,c.objs,c.ro,n,h⟩
def UN(n:Nat):List (Nat×Ob)->Bool
 |[]=>true
 |(i,_)::r=>decide (n<=i)&&UN n r
theorem PH{n:Nat} : ∀ {l:List (Nat×Ob)},UN n l=true->∀i o,ac l i=some o->n<=i
 |[],_,_,_,h=>by simp[ac]at h
 |(j,x)::r,c,i,o,h=>by
  simp only[UN,Bool.and_eq_true,decide_eq_true_eq]at c;simp only[ac]at h;cases e:j==i
  ·rw[e]at h;exact PH c.2 i o h
  ·rw[beq_iff_eq]at e;subst e;exact c.1
def WR(σ:St):List VRes->Option (SV×List Nat)
 |[]=>some (.val (.tuple []),[])
 |[.tmp t]=>some (ap σ.env t,[])
 |[.cell t g]=>match ap σ.env t with
  |.loc id f=>match ac σ.objs id with
   |some (.box e)=>match g with
    |some n=>if f+n<=e.length then some (Bp ((e.drop f).take n),[])else none
    |none=>match e[f]? with
     |some c=>some (c,[])
     |none=>none
   |_=>none
  |_=>none
 |h=>match pY σ h with
  |some (i,j)=>some (.val (.tuple i),j)
  |none=>none
def pZ(σ:St):List VRes->Option (List SV)
 |[]=>some []
 |.tmp t::r=>(pZ σ r).map (ap σ.env t::·)
 |.cell t (some n)::r=>match ap σ.env t with
  |.loc id e=>match ac σ.objs id with
   |some (.box c)=>if e+n<=c.length then (pZ σ r).map (Bp ((c.drop e).take n)::·)else none
   |_=>none
  |_=>none
 |.cell _ none::_=>none
def Kf(σ:St)(c:List VRes):SV->Option (SV×List Nat)
 |.tup _=>match c with
  |_::_::_=>(pZ σ c).map fun l=>(.tup l,[])
  |_=>none
 |_=>WR σ c
def dc(j:List VRes)(c:MC):Exit->St->Prop
 |.normal,σ=>∃e h,cH σ e/\e.objs=c.objs'/\Kf e j c.res=some (c.res,h)/\c.ro'=h++e.ro
 |.ret,σ=>∃e h,cH σ e/\e.objs=c.objs'/\Kf e j c.res=some (c.res,h)/\c.ro'=h++e.ro
 |_,_=>False
theorem PI{w:World}{S:ba}{m:Nat->Value}{objs:List (Nat×Ob)} : ∀ {c:List SV} {n:List Value} (i:Nat),bb w S m objs c n->∀k,au w S m objs (ap (BL i c) k) ((n[k-i]?).getD Go.undef)
 |[],_,i,_,k=>trivial
 |x::r,_,i,⟨v,o,p,q,s⟩,k=>by
  subst p;simp only[BL,ap,ac];cases e:i==k with
  |true=>
   rw[beq_iff_eq]at e;subst e;simp only[cond_true,Option.getD_some,Nat.sub_self,List.getElem?_cons_zero];exact q
  |false=>
   have u:i≠k:=by simpa using e
   have f:=PI (i+1) s k;simp only[cond_false];rcases Nat.lt_or_ge i k with z|A
   ·rw[show k-i=(k-(i+1))+1 by omega];rw[List.getElem?_cons_succ];exact f
   ·have:ap (BL (i+1) r) k=.undef:=by
     have h:∀(l:List SV) (j:Nat),k<j->ap (BL j l) k=.undef:=by
      intro l
      induction l with
      |nil=>intro j _;rfl
      |cons y l f=>
       intro j B;have:(j==k)=false:=by simp;omega
       simp only[BL,ap,ac,this,cond_false];exact f (j+1) (by omega)
     exact h r (i+1) (by omega)
    show au _ _ _ _ (ap (BL (i+1) r) k) _;rw[this];trivial
theorem bb.length{w:World}{S:ba}{μ:Nat->Value}{objs:List (Nat×Ob)} : ∀ {xs:List SV} {vs:List Value},bb w S μ objs xs vs->vs.length=xs.length
 |[],_,h=>by have h:_=_:=h;subst h;rfl
 |_::_,_,⟨_,_,C,_,D⟩=>by subst C;simp[bb.length D]
theorem qZ{P:Program}{fn:Func}{tmps:Array Value}{w:World}{us:List Value}(h:(fn.results.toList.mapM (m:=Sem) fun c=>match c with|.tmp t=>(pure (tmps.getD t Go.undef):Sem Value)|.cell e t=>do loadVar t (<-asAddr (tmps.getD e Go.undef))).run P w=.ok us w) :
  (results fn tmps).run P w=.ok (if h:us.toArray.size=1 then us.toArray[0]else .tuple us.toArray) w:=by
 unfold results;rw[Sem.run_bind,Array.mapM_eq_mapM_toList]
 have:((List.toArray <$> fn.results.toList.mapM (m:=Sem) fun c=>match c with|.tmp t=>(pure (tmps.getD t Go.undef):Sem Value)|.cell e t=>do loadVar t (<-asAddr (tmps.getD e Go.undef))):Sem (Array Value)).run P w=.ok us.toArray w:=by
  rw[Sem.run_map,h];rfl
 first
  |(rw[this];rfl)
  |(erw [this];rfl)
theorem lC{P:Program} : ∀ {l:List ResultVar} {c:List VRes},cK P l=some c->l.length=c.length
 |[],c,h=>by simp only[cK,E_]at h;subst h;rfl
 |.tmp t::l,c,h=>by
  simp only[cK,Option.map_eq_some_iff]at h;obtain⟨r,e,rfl⟩:=h;simp[lC e]
 |.cell t f::l,c,h=>by
  simp only[cK]at h;split at h
  ·next g r i e=>obtain rfl:=O_ h;simp[lC e]
  ·simp at h
section
variable {P:Program}
theorem RT{w0 w:World}{S0 S:ba}{M:Ctx}{σ:St}{a:Act}{U:Nat->Value}{V:Nat->Option Nat}(h:SimG w0 S0 M σ a w S U V){fn:Func}{y:List VRes}(p:cK P fn.results.toList=some y){r:SV}{A:List Nat}(m:WR σ y=some (r,A)) :
  ∃u,(results fn a.tmps).run P w=.ok u w/\au w (dz S V σ.objs A) U σ.objs r u:=by
 have i:=lC p
 have C:∀o,pY σ y=some (o,A)->y.length≠1->r=.val (.tuple o)->∃u,(results fn a.tmps).run P w=.ok u w/\au w (dz S V σ.objs A) U σ.objs r u:=by
  rintro o E d' rfl;obtain⟨us,L,N⟩:=oX (fz':=A) h p E (fun _ x=>x);have q:=qZ L;have hl:us.length=o.length:=bx.length N
  have e':o.length=y.length:=by
   have W:∀(y:List VRes) (o:List IV) (A:List Nat),pY σ y=some (o,A)->o.length=y.length:=by
    intro y
    induction y with
    |nil=>intro o A z;simp only[pY,E_,Prod.mk.injEq]at z;obtain⟨rfl,_⟩:=z;rfl
    |cons x l ih=>
     intro o A z;simp only[pY]at z;split at z
     ·next v f f' fs _ e2=>
      simp only[E_,Prod.mk.injEq]at z;obtain⟨rfl,_⟩:=z;simp[ih _ _ e2]
     ·simp at z
   exact W y o A E
  rw[dif_neg (by simp;omega)]at q;exact⟨_,q,us.toArray,rfl,by simpa using N⟩
 unfold WR at m;split at m
 ·simp only[E_,Prod.mk.injEq]at m;obtain⟨rfl,rfl⟩:=m;exact C [] rfl (by simp) rfl
 ·next t=>
  simp only[E_,Prod.mk.injEq]at m;obtain⟨rfl,rfl⟩:=m
  have B:fn.results.toList=[.tmp t]:=by
   cases s:fn.results.toList with
   |nil=>rw[s]at i;simp at i
   |cons F l=>
    rw[s]at i;have:l=[]:=by simpa using i
    subst this;rw[s]at p;cases F with
    |tmp t'=>simp[cK]at p;rw[p]
    |cell X ty=>
     exfalso;simp only[cK]at p;split at p<;>simp at p
  have q:=qZ (P:=P) (fn:=fn) (tmps:=a.tmps) (w:=w) (us:=[a.tmps.getD t Go.undef]) (by rw[B];rfl);exact⟨_,q,au.mono (bX.refl _ _) (fun _ _ x=>.inl x) _ _ (h.env t)⟩
 ·next t g=>
  obtain⟨F,B⟩:∃F,fn.results.toList=[F]:=by
   cases s:fn.results.toList with
   |nil=>rw[s]at i;simp at i
   |cons F l=>
    rw[s]at i;have:l=[]:=by simpa using i
    subst this;exact⟨F,rfl⟩
  rw[B]at p;cases F with
  |tmp t'=>simp[cK]at p
  |cell X ty=>
   simp only[cK]at p;split at p
   ·next g' h' hg i'=>
    simp only[E_,List.cons.injEq,VRes.cell.injEq]at p;obtain⟨⟨rfl,rfl⟩,rfl⟩:=p
    have O:∀u,(do loadVar ty (<-asAddr (a.tmps.getD X Go.undef)):Sem Value).run P w=.ok u w->(results fn a.tmps).run P w=.ok u w:=by
     intro u hu;refine qZ (P:=P) (fn:=fn) (tmps:=a.tmps) (w:=w) (us:=[u]) ?_;rw[B,List.mapM_cons];simp only[Sem.run_bind]at hu |-;rw[hu];rfl
    split at m
    ·next id I Y=>
     have D:=h.env X;rw[Y]at D;split at m
     ·next Z hl=>
      obtain⟨b,o,e,fr,_,_,E,z,_,J⟩:=jD h hl D;split at m
      ·next n=>
       split at m
       ·next j'=>
        simp only[E_,Prod.mk.injEq]at m;obtain⟨rfl,rfl⟩:=m;have a':=ak.take n (ak.drop I J)
        have i:((o.toList.drop I).take n).length=n:=by
         have:=ak.length J;rw[List.length_take,List.length_drop];omega
        refine⟨.agg ((o.toList.drop I).take n).toArray,O _ ?_,au.mono (bX.refl _ _) (fun _ _ x=>.inl x) _ _ (kT a')⟩;simp only[E,asAddr,Sem.run_bind,Sem.run_pure,Result.andThen_ok]
        exact kU hg i (fun j v R=>by
         rw[List.getElem?_take]at R;split at R
         ·rw[List.getElem?_drop,Array.getElem?_toList]at R;rw[ez z];exact R
         ·simp at R)
       ·simp at m
      ·split at m
       ·next c b'=>
        simp only[E_,Prod.mk.injEq]at m;obtain⟨rfl,rfl⟩:=m;obtain⟨v',L,_,N⟩:=ak.get J b';refine⟨v',O _ ?_,au.mono (bX.refl _ _) (fun _ _ x=>.inl x) _ _ N⟩;simp only[E,asAddr,Sem.run_bind,Sem.run_pure,Result.andThen_ok];exact nL hg (by rw[ez z];rw[Array.getElem?_toList]at L;exact L)
       ·simp at m
     ·simp at m
    ·simp at m
   ·simp at p
 ·next h0 L N=>
  split at m
  ·next o fz' E=>
   simp only[E_,Prod.mk.injEq]at m;obtain⟨rfl,rfl⟩:=m;refine C o E ?_ rfl;intro c';obtain⟨x,rfl⟩:=List.length_eq_one_iff.1 c';cases x with
   |tmp t=>exact L t rfl
   |cell t g=>exact N t g rfl
  ·simp at m
theorem ug{w0 w:World}{O S:ba}{M:Ctx}{σ:St}{a:Act}{N:Nat->Value}{R:Nat->Option Nat}(h:SimG w0 O M σ a w S N R):∀ {l:List ResultVar} {u:List VRes} {c:List SV},cK P l=some u->pZ σ u=some c->
  ∃s:List Value,(l.mapM (m:=Sem) fun U=>match U with|.tmp t=>(pure (a.tmps.getD t Go.undef):Sem Value)|.cell A t=>do loadVar t (<-asAddr (a.tmps.getD A Go.undef))).run P w=.ok s w/\bb w S N σ.objs c s
 |[],u,c,o,f=>by
  simp only[cK,E_]at o;subst o;cases f;exact⟨[],rfl,rfl⟩
 |.tmp t::l,u,c,o,f=>by
  simp only[cK,Option.map_eq_some_iff]at o;obtain⟨r,V,rfl⟩:=o;simp only[pZ,Option.map_eq_some_iff]at f;obtain⟨cs,C,rfl⟩:=f;obtain⟨s,D,E⟩:=ug h V C;refine⟨a.tmps.getD t Go.undef::s,?_,_,_,rfl,h.env t,E⟩;rw[List.mapM_cons];simp only[Sem.run_bind,Sem.run_pure,Result.andThen_ok];rw[D];rfl
 |.cell A W::l,u,c,o,f=>by
  simp only[cK]at o;split at o
  ·next g r X F=>
   obtain rfl:=O_ o;cases g with
   |none=>cases f
   |some n=>
    simp only[pZ]at f;split at f
    ·next id p I=>
     have q:=h.env A;rw[I]at q;split at f
     ·next B Y=>
      split at f
      ·next Z=>
       simp only[Option.map_eq_some_iff]at f;obtain⟨cs,C,rfl⟩:=f;obtain⟨s,D,E⟩:=ug h F C;obtain⟨b,J,e,fr,_,_,hv,hh,_,x⟩:=jD h Y q;have L:=ak.take n (ak.drop p x)
       have y:((J.toList.drop p).take n).length=n:=by
        have:=ak.length x;rw[List.length_take,List.length_drop];omega
       refine⟨.agg ((J.toList.drop p).take n).toArray::s,?_,_,_,rfl,kT L,E⟩
       have i:(do loadVar W (<-asAddr (a.tmps.getD A Go.undef)):Sem Value).run P w=.ok (.agg ((J.toList.drop p).take n).toArray) w:=by
        simp only[hv,asAddr,Sem.run_bind,Sem.run_pure,Result.andThen_ok]
        exact kU X y (fun j v z=>by
         rw[List.getElem?_take]at z;split at z
         ·rw[List.getElem?_drop,Array.getElem?_toList]at z;rw[ez hh];exact z
         ·simp at z)
       rw[List.mapM_cons];simp only[Sem.run_bind]at i |-;rw[i];simp only[Result.andThen_ok];rw[D];rfl
      ·cases f
     ·cases f
    ·cases f
  ·cases o
theorem RU{w0 w:World}{E S:ba}{M:Ctx}{σ:St}{a:Act}{q:Nat->Value}{s:Nat->Option Nat}(h:SimG w0 E M σ a w S q s){v:Func}{f:List VRes}(m:cK P v.results.toList=some f){z r:SV}{o:List Nat}(j:Kf σ f z=some (r,o)) :
  ∃u,(results v a.tmps).run P w=.ok u w/\au w (dz S s σ.objs o) q σ.objs r u:=by
 cases z
 case tup=>
  have A:=lC m;cases f with
  |nil=>cases j
  |cons x f=>
   cases f with
   |nil=>cases j
   |cons y l=>
    have j:(pZ σ (x::y::l)).map (fun l=>(SV.tup l,([]:List Nat)))=some (r,o):=j;simp only[Option.map_eq_some_iff,Prod.mk.injEq]at j;obtain⟨c,B,rfl,rfl⟩:=j;obtain⟨F,I,C⟩:=ug h m B;have i:=qZ I;have N:=bb.length C
    have J:∀ {f:List VRes} {c:List SV},pZ σ f=some c->c.length=f.length:=by
     intro f
     induction f with
     |nil=>intro c e;cases e;rfl
     |cons x l D=>
      intro c e;cases x with
      |tmp t=>
       simp only[pZ,Option.map_eq_some_iff]at e;obtain⟨cs,p,rfl⟩:=e;simp[D p]
      |cell t g=>
       cases g with
       |none=>cases e
       |some n=>
        simp only[pZ]at e;split at e
        ·split at e
         ·split at e
          ·simp only[Option.map_eq_some_iff]at e;obtain⟨cs,p,rfl⟩:=e;simp[D p]
          ·cases e
         ·cases e
        ·cases e
    have L:=J B;rw[dif_neg (by simp at L |-;omega)]at i;exact⟨_,i,F.toArray,rfl,bb.mono (bX.refl _ _) (fun _ _ x=>.inl x) _ _ (by simpa using C)⟩
 all_goals exact RT h m j
theorem aN(hm:P.follows .mixedOrders=true){k:FuncId}{v:VCode}{rs:List VRes}{n:Nat}(v':FnOk P k v rs n){gl:List (Nat×List IV)}{c:MC}(hn:c.args.length<=n)(c':UN n c.objs=true)(h:pw P v (dc rs c) (ji gl c n)):jL gl P k c:=by
 obtain⟨O,cd,A,X,B,Y,d',e',x'⟩:=v';refine⟨⟨O,A,X⟩,fun w S μ Z vs I y' R U f' a'=>.inl ⟨⟨O,A,by rw[B];rfl⟩,?_⟩⟩;subst x';refine calls_of_wp A B ?_;have hl:=bb.length R
 have g':∀(l:List (Nat×Ob)),∃V:List (Nat×SV),(∀p∈V,∃o,ac c.objs p.1=some o/\p.2=Ef p.1 o)/\∀i o,ac l i=some o->ac c.objs i=some o->(i,Ef i o)∈V:=by
  intro l
  induction l with
  |nil=>exact⟨[],by simp,fun i o h=>by simp[ac]at h⟩
  |cons p r ih=>
   obtain⟨V,k1,k2⟩:=ih;cases hp:ac c.objs p.1 with
   |none=>
    refine⟨V,k1,fun i o hi W=>?_⟩;obtain⟨j,x⟩:=p;simp only[ac]at hi;cases hj:j==i
    ·rw[hj]at hi;exact k2 i o hi W
    ·rw[beq_iff_eq]at hj;subst hj;rw[hp]at W;simp at W
   |some y=>
    refine⟨(p.1,Ef p.1 y)::V,?_,fun i o hi W=>?_⟩
    ·intro q hq;rcases List.mem_cons.1 hq with rfl|hq
     ·exact⟨y,hp,rfl⟩
     ·exact k1 q hq
    ·obtain⟨j,x⟩:=p;simp only[ac]at hi;cases hj:j==i
     ·rw[hj]at hi;exact List.mem_cons_of_mem _ (k2 i o hi W)
     ·rw[beq_iff_eq]at hj;subst hj;rw[hp]at W;simp only[E_]at W;subst W;exact List.mem_cons_self
 obtain⟨V,h',z'⟩:=g' c.objs
 have start:SimG w S ⟨fun b=>∃i x,ac c.objs i=some x/\Z i=some b,V,μ,[]⟩ (ji gl c O.ntmps) {tmps:=vs.toArray++Array.replicate (O.ntmps-vs.toArray.size) Go.undef,defers:=[] } w S μ Z:=by
  refine {defers:=rfl,size:=?_,env:=?_,objs:=U,inj:=f',own:=fun id o b z C=>.inr ⟨id,o,z,C⟩,unst:=a',stab:=I,ext:=fun _ _ x=>x,back:=fun _ _ x=>.inl x,kept:=Kept.refl _ _,stay:=fun _ _ _=>rfl,hist:=?_,far:=?_,glob:=y' }
  ·simp[ji];omega
  ·intro k;have:=PI 0 R k
   have e:(vs.toArray++Array.replicate (O.ntmps-vs.toArray.size) Go.undef).getD k Go.undef=(vs[k-0]?).getD Go.undef:=by
    rw[Nat.sub_zero];rcases Nat.lt_or_ge k vs.length with hk|hk
    ·simp[Array.getD,hk,Array.getElem_append_left,Nat.lt_add_right]
    ·rw[List.getElem?_eq_none hk,Option.getD_none];rw[Array.getD_eq_getD_getElem?,Array.getElem?_append_right (by simpa using hk),Array.getElem?_replicate];split<;>rfl
   show au _ _ _ _ (ap (BL 0 c.args) k) _;rw[e];exact this
  ·intro p hp;obtain⟨o,z,C⟩:=h' p hp;rw[C];cases o with
   |box A'=>
    intro u' D;obtain⟨b,vs,e,fr,_,q2,_⟩:=U _ _ z;exact⟨b,q2,q2⟩
   |arr i' s E=>
    intro cv s' B' D;rw[show ac (ji gl c O.ntmps).objs p.1=ac c.objs p.1 from rfl,z]at D;simp only[E_,Ob.arr.injEq]at D;obtain⟨rfl,_,_⟩:=D;exact⟨Nat.le_refl _,fun _=>rfl⟩
   |iter s p=>intro s' p' D;rfl
  ·intro p hp d hd;obtain⟨o,z,C⟩:=h' p hp;have F':=PH c' _ _ z;have hd:d<O.ntmps:=hd;rw[C];cases o<;>simp[Ef,SV.noRef]<;>omega
 refine wp_mono (lB hm v h cd Y d' w S _ _ w ⟨S,μ,Z,start⟩) (fun e a J m=>?_)
 have j':∀σ,dc rs c .ret σ->fF w S ⟨fun b=>∃i x,ac c.objs i=some x/\Z i=some b,V,μ,[]⟩ σ a J->a.defers=[]/\∃u,(results O a.tmps).run P J=.ok u J/\∃(v:Value) (S':ba) (L:Nat->Value) (F:Nat->Option Nat),Ending.returned u=.returned v/\au J S' L c.objs' c.res v/\
   (∀id o,ac c.objs' id=some o->bZ J S' L c.objs' (F id) (L id) o)/\
   (∀id b' o o' b,ac c.objs' id=some o->ac c.objs' b'=some o'->F id=some b->F b'=some b->id=b')/\
   (∀id o b,ac c.objs' id=some o->F id=some b->w.heap.size<=b\/∃i x,ac c.objs i=some x/\Z i=some b)/\
   (∀id o b M,ac c.objs' id=some o->F id=some b->S' b M->id∈c.ro'/\∀i' s E,o=.arr i' s E->M<E.length*s)/\
   (∀b o,S' b o->b<J.heap.size)/\(∀b o,S b o->S' b o)/\(∀b o,S' b o->S b o\/w.heap.size<=b\/∃i x,ac c.objs i=some x/\Z i=some b)/\
   Kept (fun b=>∃i x,ac c.objs i=some x/\Z i=some b) w J/\
   (∀id o,ac c.objs id=some o->au J S' L c.objs' (Ef id o) (μ id))/\(∀b o,S b o->J.cell? ⟨b,o,none⟩=w.cell? ⟨b,o,none⟩):=by
  rintro σ ⟨G',fz,hw,N,hr,C'⟩ hs;obtain⟨S1,D',k',hg⟩:=hw _ _ _ _ _ hs;refine⟨hg.defers,?_⟩;obtain⟨u,E',l'⟩:=RU hg e' hr;have A:=hg.freeze fz;rw[N]at l';have m':=A.objs;have n':=A.inj;have q':=A.own;have r':=A.unst;have t':=A.hist;simp only[N]at m' n' q' r' t';refine⟨u,E',u,dz S1 k' c.objs' fz,D',k',rfl,l',?_,n',q',?_,?_,?_,?_,hg.kept,?_,hg.stay⟩
  ·intro id o hl;exact m' id o hl
  ·intro id o b M z C h3;obtain⟨q1,q2⟩:=r' id o b M z C h3;exact⟨by rw[C'];exact q1,q2⟩
  ·intro b o I;rw[<-N]at I;exact A.stab b o I
  ·intro b o I;exact .inl (hg.ext b o I)
  ·intro b o I;rw[<-N]at I;exact A.back b o I
  ·intro id o hl;exact t' _ (z' id o hl hl)
 cases e
 case normal=>obtain⟨σ,z,_,C⟩:=m;exact j' σ z C
 case ret=>obtain⟨σ,z,_,C⟩:=m;exact j' σ z C
 case panic=>exact m.elim
 case outgrown=>exact m.elim
 case exit=>obtain⟨σ,z,_⟩:=m;exact z.elim
 case goto=>obtain⟨σ,z,_⟩:=m;exact z.elim
end
end Go.Vs
namespace Go.Vs
universe u
class Hold(α:Sort u) where
 val:α
def PJ(e:List (Nat×List IV))(P:Program)(g:FuncId)(c:List IV) [k:Hold (Res->Prop)]:Prop:=∃r,Ea e P g c r/\k.val r
theorem aa{gl:List (Nat×List IV)}{P:Program}{g:FuncId}{o:List IV}{k:Res->Prop}{v:IV}(h:Fn gl P g o v)(z:k (.imm v)):@PJ gl P g o ⟨k⟩:=⟨_,h,z⟩
def PK(e:List (Nat×List IV))(P:Program)(a:Option (FuncId×List IV×List Nat)) [k:Hold (List Nat->Res->Prop)]:Prop:=match a with
 |some (g,c,f)=>@PJ e P g c ⟨k.val f⟩
 |none=>False
theorem RV{e:List (Nat×List IV)}{P:Program}{g:FuncId}{c:List IV}{f:List Nat}{k:List Nat->Res->Prop} : @PK e P (some (g,c,f)) ⟨k⟩=@PJ e P g c ⟨fun r=>k f r⟩:=_root_.id rfl
def tV(o:Option Upd) [k:Hold (Upd->Prop)]:Prop:=match o with
 |some u=>u.side/\k.val u
 |none=>False
theorem WS{u:Upd}{k:Upd->Prop} : @tV (some u) ⟨k⟩=(u.side/\k u):=_root_.id rfl
def PL(o:Option Upd) [k:Hold (Upd->Prop)]:Prop:=match o with
 |some u=>k.val u
 |none=>False
theorem RW{u:Upd}{k:Upd->Prop} : @PL (some u) ⟨k⟩=k u:=_root_.id rfl
theorem WT{P:Program}{σ:St}{dst:Option Nat}{k:Upd->Prop}{f:Nat}{c:List Opd} : dT P σ dst k (.call f c)=@PK σ.gl P (ef σ (.val (.fn f [])) c) ⟨fun e r=>@PL (ic dst e r) ⟨k⟩⟩:=by
 simp only[dT,PK,PL,PJ];rfl
theorem UO{P:Program}{σ:St}{dst:Option Nat}{k:Upd->Prop}{f:Opd}{c:List Opd} : dT P σ dst k (.callV f c)=@PK σ.gl P (ef σ (val σ f) c) ⟨fun e r=>@PL (ic dst e r) ⟨k⟩⟩:=by
 simp only[dT,PK,PL,PJ];rfl
section
variable {P:Program} {σ:St} {dst:Option Nat} {k:Upd->Prop}
theorem WU{c:Opd} : dT P σ dst k (.move c)=@tV (ev σ dst (.move c)) ⟨k⟩:=_root_.id rfl
theorem WV{c:Opd}{e:Opd}{f:Opd} : dT P σ dst k (.pick c e f)=@tV (ev σ dst (.pick c e f)) ⟨k⟩:=_root_.id rfl
theorem UP{c:List SV} : dT P σ dst k (.alloc c)=@tV (ev σ dst (.alloc c)) ⟨k⟩:=_root_.id rfl
theorem ZM{c:Opd} : dT P σ dst k (.box c)=@tV (ev σ dst (.box c)) ⟨k⟩:=_root_.id rfl
theorem UQ{c:List SV}{e:List (Nat×Nat×Opd)} : dT P σ dst k (.build c e)=@tV (ev σ dst (.build c e)) ⟨k⟩:=_root_.id rfl
theorem HI{c:Nat}{e:Nat}{f:List SV}{h:List (Nat×Nat×Opd)} : dT P σ dst k (.buildSlice c e f h)=@tV (ev σ dst (.buildSlice c e f h)) ⟨k⟩:=_root_.id rfl
theorem WW{c:Option Nat}{e:Opd} : dT P σ dst k (.load c e)=@tV (ev σ dst (.load c e)) ⟨k⟩:=_root_.id rfl
theorem UR{c:Nat}{e:Opd}{f:Opd} : dT P σ dst k (.store c e f)=@tV (ev σ dst (.store c e f)) ⟨k⟩:=_root_.id rfl
theorem Nm{c:Opd} : dT P σ dst k (.nilCheck c)=@tV (ev σ dst (.nilCheck c)) ⟨k⟩:=_root_.id rfl
theorem ZN{c:BinOp}{e:Opd}{f:Opd} : dT P σ dst k (.bin c e f)=@tV (ev σ dst (.bin c e f)) ⟨k⟩:=_root_.id rfl
theorem ZO{c:Bool}{e:Opd}{f:Opd} : dT P σ dst k (.eqB c e f)=@tV (ev σ dst (.eqB c e f)) ⟨k⟩:=_root_.id rfl
theorem ZP{c:Bool}{e:Opd} : dT P σ dst k (.eqN c e)=@tV (ev σ dst (.eqN c e)) ⟨k⟩:=_root_.id rfl
theorem ZQ{c:Bool}{e:Opd} : dT P σ dst k (.eqP c e)=@tV (ev σ dst (.eqP c e)) ⟨k⟩:=_root_.id rfl
theorem ZR{c:Bool}{e:Opd} : dT P σ dst k (.eqS c e)=@tV (ev σ dst (.eqS c e)) ⟨k⟩:=_root_.id rfl
theorem ZS{c:Bool}{e:List LK}{f:Opd}{h:Opd} : dT P σ dst k (.eqA c e f h)=@tV (ev σ dst (.eqA c e f h)) ⟨k⟩:=_root_.id rfl
theorem acp{c:UnOp}{e:Opd} : dT P σ dst k (.un c e)=@tV (ev σ dst (.un c e)) ⟨k⟩:=_root_.id rfl
theorem US{c:IntKind}{e:Opd} : dT P σ dst k (.convI c e)=@tV (ev σ dst (.convI c e)) ⟨k⟩:=_root_.id rfl
theorem RX{c:Opd} : dT P σ dst k (.rangeS c)=@tV (ev σ dst (.rangeS c)) ⟨k⟩:=_root_.id rfl
theorem UT{c:Opd} : dT P σ dst k (.nextS c)=@tV (ev σ dst (.nextS c)) ⟨k⟩:=_root_.id rfl
theorem UU{c:Opd} : dT P σ dst k (.convB c)=@tV (ev σ dst (.convB c)) ⟨k⟩:=_root_.id rfl
theorem PM{q:Nat}{c:Nat}{e:Opd}{f:Opd} : dT P σ dst k (.appendS q c e f)=@tV (ev σ dst (.appendS q c e f)) ⟨k⟩:=_root_.id rfl
theorem PN{c:Nat}{e:Opd} : dT P σ dst k (.mkIface c e)=@tV (ev σ dst (.mkIface c e)) ⟨k⟩:=_root_.id rfl
theorem RY{c:Nat}{e:List Opd} : dT P σ dst k (.mkFunc c e)=@tV (ev σ dst (.mkFunc c e)) ⟨k⟩:=_root_.id rfl
theorem PO{c:Nat}{e:Nat}{f:List SV}{h:Opd}{i:Opd} : dT P σ dst k (.mkSlice c e f h i)=@tV (ev σ dst (.mkSlice c e f h i)) ⟨k⟩:=_root_.id rfl
theorem WX{c:Opd}{e:Option Opd}{f:Option Opd} : dT P σ dst k (.subS c e f)=@tV (ev σ dst (.subS c e f)) ⟨k⟩:=_root_.id rfl
theorem WY{c e:Nat}{f:Opd}{h:Option Opd}{i:Option Opd} : dT P σ dst k (.subA c e f h i)=@tV (ev σ dst (.subA c e f h i)) ⟨k⟩:=_root_.id rfl
theorem WZ{c:Nat}{e:Opd}{f:Option Opd}{h:Option Opd}{i:Option Opd} : dT P σ dst k (.subV c e f h i)=@tV (ev σ dst (.subV c e f h i)) ⟨k⟩:=_root_.id rfl
theorem Kg{c:Nat}{e:Opd} : dT P σ dst k (.fieldAddr c e)=@tV (ev σ dst (.fieldAddr c e)) ⟨k⟩:=_root_.id rfl
theorem Kh{c:Nat}{e:Opd}{f:Opd} : dT P σ dst k (.indexAddr c e f)=@tV (ev σ dst (.indexAddr c e f)) ⟨k⟩:=_root_.id rfl
theorem Nn{c:Nat}{e:Nat}{f:Opd}{h:Opd} : dT P σ dst k (.indexArr c e f h)=@tV (ev σ dst (.indexArr c e f h)) ⟨k⟩:=_root_.id rfl
theorem RZ{c:Opd}{e:Opd} : dT P σ dst k (.indexS c e)=@tV (ev σ dst (.indexS c e)) ⟨k⟩:=_root_.id rfl
theorem S2{c:Nat}{e:Nat}{f:Option Nat}{h:Opd}{i:Opd} : dT P σ dst k (.indexA c e f h i)=@tV (ev σ dst (.indexA c e f h i)) ⟨k⟩:=_root_.id rfl
theorem PP{c:Opd}{e:Nat} : dT P σ dst k (.extract c e)=@tV (ev σ dst (.extract c e)) ⟨k⟩:=_root_.id rfl
theorem X0{c:Opd} : dT P σ dst k (.lenS c)=@tV (ev σ dst (.lenS c)) ⟨k⟩:=_root_.id rfl
theorem X1{c:Opd} : dT P σ dst k (.lenV c)=@tV (ev σ dst (.lenV c)) ⟨k⟩:=_root_.id rfl
theorem S4{c:Nat} : dT P σ dst k (.allocB c)=@tV (ev σ dst (.allocB c)) ⟨k⟩:=_root_.id rfl
theorem X2{c:Opd}{e:Opd} : dT P σ dst k (.maxI c e)=@tV (ev σ dst (.maxI c e)) ⟨k⟩:=_root_.id rfl
theorem X3{c:Opd}{e:Opd} : dT P σ dst k (.minI c e)=@tV (ev σ dst (.minI c e)) ⟨k⟩:=_root_.id rfl
theorem S6{q:Nat}{c:Nat}{e:Nat}{f:Opd}{h:Opd} : dT P σ dst k (.append q c e f h)=@tV (ev σ dst (.append q c e f h)) ⟨k⟩:=_root_.id rfl
end
def X4:List (Nat×SV)->Nat->SV->List (Nat×SV)
 |[],_,_=>[]
 |(j,v)::r,k,x=>bif j==k then (j,x)::r else (j,v)::X4 r k x
theorem M8:∀ {c:List (Nat×SV)} {k:Nat} {v:SV},ac c k=some v->X4 c k v=c
 |[],_,_,h=>rfl
 |(j,v)::r,k,x,h=>by
  simp only[ac]at h;simp only[X4];cases e:j==k with
  |true=>rw[e]at h;simp only[cond_true,E_]at h |-;rw[h]
  |false=>rw[e]at h;simp only[cond_false]at h |-;rw[M8 h]
def St.setB(σ:St)(g:Nat)(b:Bool):St:={σ with env:=X4 σ.env g (.val (.bool b)) }
theorem St.setB_self{σ:St}{g:Nat}{b:Bool}(h:ap σ.env g=.val (.bool b)):σ.setB g b=σ:=by
 unfold St.setB;rw[M8];unfold ap at h;cases c:ac σ.env g with
 |none=>rw[c]at h;simp at h
 |some v=>rw[c]at h;simp only[Option.getD_some]at h;rw[h]
def NS(σ:St) [k:Hold (St->Prop)]:Prop:=k.val σ
theorem adQ{a:List (Nat×SV)}{b:List (Nat×Ob)}{c:List Nat}{n:Nat}{e:List (Nat×List IV)}{k:St->Prop} : @NS ⟨a,b,c,n,e⟩ ⟨k⟩=k ⟨a,b,c,n,e⟩:=_root_.id rfl
def Br(c:Bool) [A:Hold Prop] [B:Hold Prop]:Prop:=(c=true->A.val)/\(c=false->B.val)
theorem Tu{A B:Prop} : @Br true ⟨A⟩ ⟨B⟩=A:=by simp[Br]
theorem PQ{A B:Prop} : @Br false ⟨A⟩ ⟨B⟩=B:=by simp[Br]
theorem acq{c:Bool}{A B:Prop} : @Br (!c) ⟨A⟩ ⟨B⟩=@Br c ⟨B⟩ ⟨A⟩:=by cases c<;>simp[Br]
theorem fW{p:Prop} [Decidable p]{A B:Prop} : @Br (decide p) ⟨A⟩ ⟨B⟩=((p->A)/\(¬p->B)):=by
 by_cases h:p<;>simp[Br,h]
theorem acr{a b:Bool}{A B:Prop} : @Br (a==b) ⟨A⟩ ⟨B⟩=@Br (decide (a=b)) ⟨A⟩ ⟨B⟩:=by cases a<;>cases b<;>rfl
theorem acs{a b:Bool}{A B:Prop} : @Br (a&&b) ⟨A⟩ ⟨B⟩=@Br a ⟨@Br b ⟨A⟩ ⟨B⟩⟩ ⟨B⟩:=by cases a<;>cases b<;>simp[Br]
theorem adR{a b:Bool}{A B:Prop} : @Br (a||b) ⟨A⟩ ⟨B⟩=@Br a ⟨A⟩ ⟨@Br b ⟨A⟩ ⟨B⟩⟩:=by cases a<;>cases b<;>simp[Br]
theorem Pd{p:Prop} [Decidable p]{A B:Prop}(e:p->A)(f:¬p->B):@Br (decide p) ⟨A⟩ ⟨B⟩:=by rw[fW];exact⟨e,f⟩
def yR(v:SV) [A:Hold Prop] [B:Hold Prop] [C:Hold Prop]:Prop:=match v with
 |.val (.bool c)=>@Br c A B
 |.val (.tuple [])=>C.val
 |_=>False
theorem X5{c:Bool}{A B C:Prop} : @yR (.val (.bool c)) ⟨A⟩ ⟨B⟩ ⟨C⟩=@Br c ⟨A⟩ ⟨B⟩:=_root_.id rfl
theorem X6{A B C:Prop} : @yR (.val (.tuple [])) ⟨A⟩ ⟨B⟩ ⟨C⟩=C:=_root_.id rfl
def BrC(v:SV) [A:Hold Prop] [B:Hold Prop]:Prop:=match v with
 |.val (.bool c)=>@Br c A B
 |.anyB=>A.val/\B.val
 |_=>False
theorem X7{c:Bool}{A B:Prop} : @BrC (.val (.bool c)) ⟨A⟩ ⟨B⟩=@Br c ⟨A⟩ ⟨B⟩:=_root_.id rfl
theorem ZT{A B:Prop} : @BrC .anyB ⟨A⟩ ⟨B⟩=(A/\B):=_root_.id rfl
def TVW(P:Program)(σ:St) [v:Hold VCode] [Q:Hold (Exit->St->Prop)]:Prop:=TV P v.val Q.val σ
theorem X8{P:Program}{K:St->Prop}{σ:St} : mU P K [] σ=K σ:=_root_.id rfl
theorem UV{P:Program}{K:St->Prop}{σ:St}{d:Option Nat}{op:VOp}{r:List VOper} : mU P K (⟨d,op,none⟩::r) σ=dT P σ d (fun u=>@NS (σ.apply d u) ⟨mU P K r⟩) op:=_root_.id rfl
theorem acu{P:Program}{K:St->Prop}{σ:St}{d:Option Nat}{op:VOp}{g:Nat}{r:List VOper} : mU P K (⟨d,op,some (g,true)⟩::r) σ =
  @yR (ap σ.env g) ⟨@NS (σ.setB g true) ⟨fun e=>dT P e d (fun u=>@NS (e.apply d u) ⟨mU P K r⟩) op⟩⟩ ⟨@NS ((σ.setB g false).apply d gy) ⟨mU P K r⟩⟩ ⟨@NS (σ.apply d gy) ⟨mU P K r⟩⟩:=by
 simp only[mU];cases f:ap σ.env g with
 |val v=>
  cases v with
  |bool c=>cases c<;>simp[ja,yR,Br,NS,St.setB_self f]
  |tuple h=>cases h<;>simp[ja,yR,NS]
  |_=>simp[ja,yR]
 |_=>simp[ja,yR]
theorem acv{P:Program}{K:St->Prop}{σ:St}{d:Option Nat}{op:VOp}{g:Nat}{r:List VOper} : mU P K (⟨d,op,some (g,false)⟩::r) σ =
  @yR (ap σ.env g) ⟨@NS ((σ.setB g true).apply d gy) ⟨mU P K r⟩⟩ ⟨@NS (σ.setB g false) ⟨fun e=>dT P e d (fun u=>@NS (e.apply d u) ⟨mU P K r⟩) op⟩⟩ ⟨@NS (σ.apply d gy) ⟨mU P K r⟩⟩:=by
 simp only[mU];cases f:ap σ.env g with
 |val v=>
  cases v with
  |bool c=>cases c<;>simp[ja,yR,Br,NS,St.setB_self f]
  |tuple h=>cases h<;>simp[ja,yR,NS]
  |_=>simp[ja,yR]
 |_=>simp[ja,yR]
def X9(P:Program)(σ:St)(dst:Option Nat)(e:SV)(c:List Opd) [K:Hold (St->Prop)]:Prop:=Tr P σ dst e c K.val
theorem callM{P:Program}{σ:St}{dst:Option Nat}{i:SV}{args:List Opd}{K:St->Prop}{k:FuncId}{vals:List SV}{c:MC}(e:List (Nat×Nat))(h:List Nat)(l:jL σ.gl P k c)(m:PE σ i args=some (k,vals))(o:mOk σ e c=true)(p:yP σ.objs e c.objs)
  (q:yO σ.objs e vals c.args h) (s:mFz e h c.objs=true) (u:@NS (σ.mapply dst e c h) ⟨K⟩):@X9 P σ dst i args ⟨K⟩:=⟨k,vals,c,e,h,m,l,o,p,q,s,u⟩
section
variable {P:Program} {σ:St} {dst:Option Nat} {K:St->Prop}
theorem Xa{c:Opd} : nt P σ dst K (.move c)=dT P σ dst (fun u=>@NS (σ.apply dst u) ⟨K⟩) (.move c):=_root_.id rfl
theorem Xb{c:Opd}{e:Opd}{f:Opd} : nt P σ dst K (.pick c e f)=dT P σ dst (fun u=>@NS (σ.apply dst u) ⟨K⟩) (.pick c e f):=_root_.id rfl
theorem UW{c:List SV} : nt P σ dst K (.alloc c)=dT P σ dst (fun u=>@NS (σ.apply dst u) ⟨K⟩) (.alloc c):=_root_.id rfl
theorem ZU{c:Opd} : nt P σ dst K (.box c)=dT P σ dst (fun u=>@NS (σ.apply dst u) ⟨K⟩) (.box c):=_root_.id rfl
theorem UX{c:List SV}{e:List (Nat×Nat×Opd)} : nt P σ dst K (.build c e)=dT P σ dst (fun u=>@NS (σ.apply dst u) ⟨K⟩) (.build c e):=_root_.id rfl
theorem HJ{c:Nat}{e:Nat}{f:List SV}{h:List (Nat×Nat×Opd)} : nt P σ dst K (.buildSlice c e f h)=dT P σ dst (fun u=>@NS (σ.apply dst u) ⟨K⟩) (.buildSlice c e f h):=_root_.id rfl
theorem Xc{c:Option Nat}{e:Opd} : nt P σ dst K (.load c e)=dT P σ dst (fun u=>@NS (σ.apply dst u) ⟨K⟩) (.load c e):=_root_.id rfl
theorem UY{c:Nat}{e:Opd}{f:Opd} : nt P σ dst K (.store c e f)=dT P σ dst (fun u=>@NS (σ.apply dst u) ⟨K⟩) (.store c e f):=_root_.id rfl
theorem No{c:Opd} : nt P σ dst K (.nilCheck c)=dT P σ dst (fun u=>@NS (σ.apply dst u) ⟨K⟩) (.nilCheck c):=_root_.id rfl
theorem ZV{c:BinOp}{e:Opd}{f:Opd} : nt P σ dst K (.bin c e f)=dT P σ dst (fun u=>@NS (σ.apply dst u) ⟨K⟩) (.bin c e f):=_root_.id rfl
theorem ZW{c:Bool}{e:Opd}{f:Opd} : nt P σ dst K (.eqB c e f)=dT P σ dst (fun u=>@NS (σ.apply dst u) ⟨K⟩) (.eqB c e f):=_root_.id rfl
theorem ZX{c:Bool}{e:Opd} : nt P σ dst K (.eqN c e)=dT P σ dst (fun u=>@NS (σ.apply dst u) ⟨K⟩) (.eqN c e):=_root_.id rfl
theorem ZY{c:Bool}{e:Opd} : nt P σ dst K (.eqP c e)=dT P σ dst (fun u=>@NS (σ.apply dst u) ⟨K⟩) (.eqP c e):=_root_.id rfl
theorem ZZ{c:Bool}{e:Opd} : nt P σ dst K (.eqS c e)=dT P σ dst (fun u=>@NS (σ.apply dst u) ⟨K⟩) (.eqS c e):=_root_.id rfl
theorem aaa{c:Bool}{e:List LK}{f:Opd}{h:Opd} : nt P σ dst K (.eqA c e f h)=dT P σ dst (fun u=>@NS (σ.apply dst u) ⟨K⟩) (.eqA c e f h):=_root_.id rfl
theorem acw{c:UnOp}{e:Opd} : nt P σ dst K (.un c e)=dT P σ dst (fun u=>@NS (σ.apply dst u) ⟨K⟩) (.un c e):=_root_.id rfl
theorem UZ{c:IntKind}{e:Opd} : nt P σ dst K (.convI c e)=dT P σ dst (fun u=>@NS (σ.apply dst u) ⟨K⟩) (.convI c e):=_root_.id rfl
theorem S7{c:Opd} : nt P σ dst K (.rangeS c)=dT P σ dst (fun u=>@NS (σ.apply dst u) ⟨K⟩) (.rangeS c):=_root_.id rfl
theorem V0{c:Opd} : nt P σ dst K (.nextS c)=dT P σ dst (fun u=>@NS (σ.apply dst u) ⟨K⟩) (.nextS c):=_root_.id rfl
theorem V1{c:Opd} : nt P σ dst K (.convB c)=dT P σ dst (fun u=>@NS (σ.apply dst u) ⟨K⟩) (.convB c):=_root_.id rfl
theorem PR{q:Nat}{c:Nat}{e:Opd}{f:Opd} : nt P σ dst K (.appendS q c e f)=dT P σ dst (fun u=>@NS (σ.apply dst u) ⟨K⟩) (.appendS q c e f):=_root_.id rfl
theorem PS{c:Nat}{e:Opd} : nt P σ dst K (.mkIface c e)=dT P σ dst (fun u=>@NS (σ.apply dst u) ⟨K⟩) (.mkIface c e):=_root_.id rfl
theorem S8{c:Nat}{e:List Opd} : nt P σ dst K (.mkFunc c e)=dT P σ dst (fun u=>@NS (σ.apply dst u) ⟨K⟩) (.mkFunc c e):=_root_.id rfl
theorem PT{c:Nat}{e:Nat}{f:List SV}{h:Opd}{i:Opd} : nt P σ dst K (.mkSlice c e f h i)=dT P σ dst (fun u=>@NS (σ.apply dst u) ⟨K⟩) (.mkSlice c e f h i):=_root_.id rfl
theorem Xd{c:Opd}{e:Option Opd}{f:Option Opd} : nt P σ dst K (.subS c e f)=dT P σ dst (fun u=>@NS (σ.apply dst u) ⟨K⟩) (.subS c e f):=_root_.id rfl
theorem Xe{c e:Nat}{f:Opd}{h:Option Opd}{i:Option Opd} : nt P σ dst K (.subA c e f h i)=dT P σ dst (fun u=>@NS (σ.apply dst u) ⟨K⟩) (.subA c e f h i):=_root_.id rfl
theorem Xf{c:Nat}{e:Opd}{f:Option Opd}{h:Option Opd}{i:Option Opd} : nt P σ dst K (.subV c e f h i)=dT P σ dst (fun u=>@NS (σ.apply dst u) ⟨K⟩) (.subV c e f h i):=_root_.id rfl
theorem Ki{c:Nat}{e:Opd} : nt P σ dst K (.fieldAddr c e)=dT P σ dst (fun u=>@NS (σ.apply dst u) ⟨K⟩) (.fieldAddr c e):=_root_.id rfl
theorem Kj{c:Nat}{e:Opd}{f:Opd} : nt P σ dst K (.indexAddr c e f)=dT P σ dst (fun u=>@NS (σ.apply dst u) ⟨K⟩) (.indexAddr c e f):=_root_.id rfl
theorem Np{c:Nat}{e:Nat}{f:Opd}{h:Opd} : nt P σ dst K (.indexArr c e f h)=dT P σ dst (fun u=>@NS (σ.apply dst u) ⟨K⟩) (.indexArr c e f h):=_root_.id rfl
theorem S9{c:Opd}{e:Opd} : nt P σ dst K (.indexS c e)=dT P σ dst (fun u=>@NS (σ.apply dst u) ⟨K⟩) (.indexS c e):=_root_.id rfl
theorem Sa{c:Nat}{e:Nat}{f:Option Nat}{h:Opd}{i:Opd} : nt P σ dst K (.indexA c e f h i)=dT P σ dst (fun u=>@NS (σ.apply dst u) ⟨K⟩) (.indexA c e f h i):=_root_.id rfl
theorem PU{c:Opd}{e:Nat} : nt P σ dst K (.extract c e)=dT P σ dst (fun u=>@NS (σ.apply dst u) ⟨K⟩) (.extract c e):=_root_.id rfl
theorem Xg{c:Opd} : nt P σ dst K (.lenS c)=dT P σ dst (fun u=>@NS (σ.apply dst u) ⟨K⟩) (.lenS c):=_root_.id rfl
theorem Xh{c:Opd} : nt P σ dst K (.lenV c)=dT P σ dst (fun u=>@NS (σ.apply dst u) ⟨K⟩) (.lenV c):=_root_.id rfl
theorem Sb{c:Nat} : nt P σ dst K (.allocB c)=dT P σ dst (fun u=>@NS (σ.apply dst u) ⟨K⟩) (.allocB c):=_root_.id rfl
theorem Xi{c:Opd}{e:Opd} : nt P σ dst K (.maxI c e)=dT P σ dst (fun u=>@NS (σ.apply dst u) ⟨K⟩) (.maxI c e):=_root_.id rfl
theorem Xj{c:Opd}{e:Opd} : nt P σ dst K (.minI c e)=dT P σ dst (fun u=>@NS (σ.apply dst u) ⟨K⟩) (.minI c e):=_root_.id rfl
theorem Sd{q:Nat}{c:Nat}{e:Nat}{f:Opd}{h:Opd} : nt P σ dst K (.append q c e f h)=dT P σ dst (fun u=>@NS (σ.apply dst u) ⟨K⟩) (.append q c e f h):=_root_.id rfl
theorem Xk{f:Nat}{c:List Opd} : nt P σ dst K (.call f c)=dT P σ dst (fun u=>@NS (σ.apply dst u) ⟨K⟩) (.call f c):=_root_.id rfl
theorem V2{f:Opd}{c:List Opd} : nt P σ dst K (.callV f c)=dT P σ dst (fun u=>@NS (σ.apply dst u) ⟨K⟩) (.callV f c):=_root_.id rfl
theorem V3{f:Nat}{c:List Opd} : nt P σ dst K (.callM f c)=@X9 P σ dst (.val (.fn f [])) c ⟨K⟩:=_root_.id rfl
end
theorem Xl{P:Program}{K:St->Prop}{σ:St} : fY P K [] σ=K σ:=_root_.id rfl
theorem V4{P:Program}{K:St->Prop}{σ:St}{d:Option Nat}{op:VOp}{r:List VOper} : fY P K (⟨d,op,none⟩::r) σ=nt P σ d (fY P K r) op:=_root_.id rfl
theorem acx{P:Program}{K:St->Prop}{σ:St}{d:Option Nat}{op:VOp}{g:Nat}{r:List VOper} : fY P K (⟨d,op,some (g,true)⟩::r) σ =
  @yR (ap σ.env g) ⟨@NS (σ.setB g true) ⟨fun e=>nt P e d (fY P K r) op⟩⟩ ⟨@NS ((σ.setB g false).apply d gy) ⟨fY P K r⟩⟩ ⟨@NS (σ.apply d gy) ⟨fY P K r⟩⟩:=by
 simp only[fY];cases f:ap σ.env g with
 |val v=>
  cases v with
  |bool c=>cases c<;>simp[ja,yR,Br,NS,St.setB_self f]
  |tuple h=>cases h<;>simp[ja,yR,NS]
  |_=>simp[ja,yR]
 |_=>simp[ja,yR]
theorem acy{P:Program}{K:St->Prop}{σ:St}{d:Option Nat}{op:VOp}{g:Nat}{r:List VOper} : fY P K (⟨d,op,some (g,false)⟩::r) σ =
  @yR (ap σ.env g) ⟨@NS ((σ.setB g true).apply d gy) ⟨fY P K r⟩⟩ ⟨@NS (σ.setB g false) ⟨fun e=>nt P e d (fY P K r) op⟩⟩ ⟨@NS (σ.apply d gy) ⟨fY P K r⟩⟩:=by
 simp only[fY];cases f:ap σ.env g with
 |val v=>
  cases v with
  |bool c=>cases c<;>simp[ja,yR,Br,NS,St.setB_self f]
  |tuple h=>cases h<;>simp[ja,yR,NS]
  |_=>simp[ja,yR]
 |_=>simp[ja,yR]
section
variable {P:Program} {a b:VCode} {Q:Exit->St->Prop} {σ:St}
theorem aab{c:Opd} : pw P (.cond c a b) Q σ=@BrC (val σ c) ⟨pw P a Q σ⟩ ⟨pw P b Q σ⟩:=by
 simp only[pw];cases val σ c with
 |val v=>cases v<;>rfl
 |_=>rfl
theorem aac:pw P .skip Q σ=Q .normal σ:=_root_.id rfl
theorem aad{e:List VOper}{c:List Nat} : pw P (.region e .text c) Q σ=fY P (fun f=>@NS (f.drop c) ⟨Q .normal⟩) e σ:=_root_.id rfl
theorem aae{e:List VOper}{c:List Nat} : pw P (.region e .calm c) Q σ=mU P (fun f=>@NS (f.drop c) ⟨Q .normal⟩) e σ:=_root_.id rfl
theorem Xm{e:List VOper}{c:List Nat}{ps ms:List (Nat×Nat)} : pw P (.region e (.drawn ps ms) c) Q σ=lh P (fun es f=>qM σ ps ms es=true/\@NS (f.drop c) ⟨Q .normal⟩) e σ []:=_root_.id rfl
theorem acz:pw P (.seq a b) Q σ=pw P a (fun e c=>match e with
  |.normal=>pw P b Q c
  |e=>Q e c) σ:=_root_.id rfl
theorem Xn{id:Nat} : pw P (.block id a) Q σ=pw P a (fun e c=>match e with
  |.exit i=>if i=id then Q .normal c else Q (.exit i) c
  |e=>Q e c) σ:=_root_.id rfl
theorem aaf:pw P (.loop a) Q σ=@TVW P σ ⟨.loop a⟩ ⟨Q⟩:=_root_.id rfl
theorem aag{id:Nat} : pw P (.exit id) Q σ=Q (.exit id) σ:=_root_.id rfl
theorem Xo:pw P (.scope a) Q σ=@TVW P σ ⟨.scope a⟩ ⟨Q⟩:=_root_.id rfl
theorem Xp{l:Nat} : pw P (.label l) Q σ=Q .normal σ:=_root_.id rfl
theorem aah{l:Nat} : pw P (.goto l) Q σ=Q (.goto l) σ:=_root_.id rfl
theorem acA:pw P .ret Q σ=Q .ret σ:=_root_.id rfl
end
def V5(σ:St)(es:List Eff) [k:Hold (St->List Eff->Prop)]:Prop:=k.val σ es
theorem acB{a:List (Nat×SV)}{b:List (Nat×Ob)}{c:List Nat}{n:Nat}{e:List (Nat×List IV)}{es:List Eff}{k:St->List Eff->Prop} : @V5 ⟨a,b,c,n,e⟩ es ⟨k⟩=k ⟨a,b,c,n,e⟩ es:=_root_.id rfl
section
variable {P:Program} {K:List Eff->St->Prop} {σ:St} {d:Option Nat} {op:VOp} {g:Nat} {r:List VOper} {es:List Eff}
theorem Xq:lh P K [] σ es=K es σ:=_root_.id rfl
theorem V6:lh P K (⟨d,op,none⟩::r) σ es=dT P σ d (fun u=>@V5 (σ.apply d u) (es++[⟨eE σ op u,d,u⟩]) ⟨lh P K r⟩) op:=_root_.id rfl
theorem acC:lh P K (⟨d,op,some (g,true)⟩::r) σ es =
  @yR (ap σ.env g) ⟨@NS (σ.setB g true) ⟨fun e=>dT P e d (fun u=>@V5 (e.apply d u) (es++[⟨eE e op u,d,u⟩]) ⟨lh P K r⟩) op⟩⟩ ⟨@V5 ((σ.setB g false).apply d gy) (es++[⟨[],d,gy⟩]) ⟨lh P K r⟩⟩ ⟨@V5 (σ.apply d gy) (es++[⟨[],d,gy⟩]) ⟨lh P K r⟩⟩:=by
 simp only[lh];cases f:ap σ.env g with
 |val v=>
  cases v with
  |bool c=>cases c<;>simp[ja,yR,Br,NS,V5,St.setB_self f]
  |tuple h=>cases h<;>simp[ja,yR,V5]
  |_=>simp[ja,yR]
 |_=>simp[ja,yR]
theorem acD:lh P K (⟨d,op,some (g,false)⟩::r) σ es =
  @yR (ap σ.env g) ⟨@V5 ((σ.setB g true).apply d gy) (es++[⟨[],d,gy⟩]) ⟨lh P K r⟩⟩ ⟨@NS (σ.setB g false) ⟨fun e=>dT P e d (fun u=>@V5 (e.apply d u) (es++[⟨eE e op u,d,u⟩]) ⟨lh P K r⟩) op⟩⟩ ⟨@V5 (σ.apply d gy) (es++[⟨[],d,gy⟩]) ⟨lh P K r⟩⟩:=by
 simp only[lh];cases f:ap σ.env g with
 |val v=>
  cases v with
  |bool c=>cases c<;>simp[ja,yR,Br,NS,V5,St.setB_self f]
  |tuple h=>cases h<;>simp[ja,yR,V5]
  |_=>simp[ja,yR]
 |_=>simp[ja,yR]
end
def GW{c:Type}(σ:St)(k:Nat) [I:Hold (c->St)] [A:Hold (c->Prop)] [m:Hold (c->Nat)]:Prop:=∃j,A.val j/\m.val j<k/\cH σ (I.val j)
theorem ai{h:Type}{σ:St}{k:Nat}{I:h->St}{A:h->Prop}{m:h->Nat}(j:h)(o:A j)(z:m j<k)(B:cH σ (I j)):@GW h σ k ⟨I⟩ ⟨A⟩ ⟨m⟩:=⟨j,o,z,B⟩
theorem M9{P:Program}(hm:P.follows .mixedOrders=true){f:Type}(I:f->St)(A:f->Prop)(m:f->Nat)(j:f){b:VCode}{Q:Exit->St->Prop}{σ:St}(l:A j)(n:cH σ (I j))(o:∀i,(I i).n=σ.n)
  (c:∀i,A i->pw P b (fun e h=>match e with
    |.normal=>@GW f h (m i) ⟨I⟩ ⟨A⟩ ⟨m⟩
    |e=>Q e h) (I i)):@TVW P σ ⟨.loop b⟩ ⟨Q⟩:=ZJ hm I A m j l n o c
theorem V7{P:Program}{Q:Exit->St->Prop}{σ:St}{e:List VOper}{c:List Nat}{ps ms:List (Nat×Nat)} : pw P (.region e (.drawnM ps ms) c) Q σ=qY P (fun f=>@NS (f.drop c) ⟨Q .normal⟩) σ ps ms e σ []:=_root_.id rfl
theorem V8{P:Program}{K:St->Prop}{c σ:St}{ps ms:List (Nat×Nat)}{o:VOper}{es:List Eff} : qY P K c ps ms [o] σ es=(qM c (cutP es.length ps) (cutP es.length ms) es=true/\fY P K [o] σ):=_root_.id rfl
theorem Se{P:Program}{K:St->Prop}{c σ:St}{ps ms:List (Nat×Nat)}{d:Option Nat}{op:VOp}{o2:VOper}{r:List VOper}{es:List Eff} : qY P K c ps ms (⟨d,op,none⟩::o2::r) σ es=dT P σ d (fun u=>@V5 (σ.apply d u) (es++[⟨eE σ op u,d,u⟩]) ⟨qY P K c ps ms (o2::r)⟩) op:=_root_.id rfl
attribute [simp ↓] Xq V6 acC acD V7 V8 Se
attribute [simp] acB eE VOp.acts VOp.opds F5 SV.refs AZ
attribute [simp ↓] WY Xe S4 Sb Xl V4 acx acy RX S7 UT V0 UU V1 PM PR Xa Xb UW ZU UX HJ Xc UY No ZV ZW ZX ZY ZZ aaa acw UZ PS S8 PT Xd Xf Ki Kj Np S9 Sa PU Xg Xh Xi Xj Sd Xk V2 V3
def Nq{c:Type}(σ:St) [I:Hold (c->St)] [A:Hold (c->Prop)]:Prop:=∃j,A.val j/\cH σ (I.val j)
theorem bE{c:Type}{σ:St}{I:c->St}{A:c->Prop}(j:c)(e:A j)(f:cH σ (I j)):@Nq c σ ⟨I⟩ ⟨A⟩:=⟨j,e,f⟩
def aai(P:Program)(σ:St) [v:Hold VCode] [Q:Hold (Exit->St->Prop)]:Prop:=TV P v.val Q.val σ
theorem acE{P:Program}{v:VCode}{Q:Exit->St->Prop}{σ:St} : pw P (.cut v) Q σ=@aai P σ ⟨v⟩ ⟨Q⟩:=_root_.id rfl
theorem Xr{P:Program}(hm:P.follows .mixedOrders=true){f:Type}(I:f->St)(A:f->Prop){x y:VCode}{Q:Exit->St->Prop}{σ:St}(h:∀i,(I i).n=σ.n)
  (j:pw P x (fun e c=>match e with
    |.normal=>@Nq f c ⟨I⟩ ⟨A⟩
    |e=>Q e c) σ) (l:∀i,A i->pw P y Q (I i)):@aai P σ ⟨.seq x y⟩ ⟨Q⟩:=aco hm I A h j l
theorem nu{P:Program}(hm:P.follows .mixedOrders=true){v:VCode}{Q:Exit->St->Prop}{σ:St}(h:pw P v Q σ):@aai P σ ⟨v⟩ ⟨Q⟩:=lB hm v h
attribute [simp ↓] acE
theorem V9{P:Program}{Q:Exit->St->Prop}{σ:St} : pw P .refuse Q σ=False:=_root_.id rfl
attribute [simp ↓] V9 aac aad aae Xm acz aab Xn aaf aag Xo Xp aah acA X8 UV acu acv WT UO WU WV UP ZM UQ HI WW UR Nm ZN ZO ZP ZQ ZR ZS acp US PN RY PO WX WZ Kg Kh Nn RZ S2 PP X0 X1 X2 X3 S6
attribute [simp] Tu PQ acq acs adR acr X5 X7 ZT X6 adQ WS RW RV
attribute [simp] X4 St.setB
attribute [simp] Bu Vs.ren SV.ren rQ Ob.ren adP Kd St.mapply M0 SV.flat SV.flatL Ob.flat PB ji BL
attribute [simp] ev val ap ac put putD Ha cS ck St.apply St.drop jh uf iS Tj cellsOf jc oh yL kG Bs Bt IV.flat IV.flat.flats IV.one Uv Uw eqC K7 mN pM dG kH LM fJ rL qV E7 pQ ic ef Bp gu wn HG pY Tt HH Ke WQ SV.noRef SV.noRefs Ob.noRef E5 E6 SV.erase fh Ob.erase Op.bytesLess
abbrev tm(k:Nat):Opd:=.tmp k
abbrev ci(n:Int):Opd:=.const (.val (.int .i64 n))
abbrev cu(n:Int):Opd:=.const (.val (.int .u8 n))
abbrev cb(b:Bool):Opd:=.const (.val (.bool b))
abbrev cs(s:List UInt8):Opd:=.const (.val (.str s))
abbrev o1(d:Nat)(op:VOp):VOper:=⟨some d,op,none⟩
abbrev o2(d:Nat)(op:VOp)(g:Nat)(b:Bool):VOper:=⟨some d,op,some (g,b)⟩
abbrev o3(op:VOp):VOper:=⟨none,op,none⟩
abbrev rt(l:List VOper)(d:List Nat):VCode:=.region l .text d
def wo(l:List (Nat×List (Nat×Nat))):List (Nat×Nat):=l.flatMap fun(k,c)=>c.flatMap fun(a,b)=>(List.range' a (b+1-a)).map fun j=>(j,k)
end Go.Vs
namespace Go.Vs
open Go.ChangeShapes Go.WideShapes Go.RowKit
inductive Sc where
 |int (k:IntKind)
 |bool
 |str
 |struct (fs:List Sc)
 |slice (e:Sc)
 |arr (n:Nat) (e:Sc)
mutual
def Sc.size:Sc->Nat
 |.int _=>1
 |.bool=>1
 |.str=>1
 |.struct h=>Sc.sizes h
 |.slice _=>1
 |.arr n e=>n*e.size
def Sc.sizes:List Sc->Nat
 |[]=>0
 |s::r=>s.size+Sc.sizes r
end
mutual
def vN(P:Program):Sc->TypeId->Bool
 |.int k,t=>match P.underlying t with
  |some (.int j)=>j==k
  |_=>false
 |.bool,t=>match P.underlying t with
  |some .bool=>true
  |_=>false
 |.str,t=>match P.underlying t with
  |some .string=>true
  |_=>false
 |.struct c,t=>match P.underlying t with
  |some (.struct i)=>tn P c i.toList 0&&P.cellsOf t==Sc.sizes c
  |_=>false
 |.slice e,t=>match P.underlying t with
  |some (.slice h)=>vN P e h&&P.cellsOf h==e.size&&decide (0<e.size)
  |_=>false
 |.arr n e,t=>match P.underlying t with
  |some (.array m h)=>m==n&&vN P e h&&P.cellsOf h==e.size&&P.cellsOf t==n*e.size
  |_=>false
def tn(P:Program):List Sc->List Field->Nat->Bool
 |[],[],_=>true
 |s::r,f::i,off=>f.offset==off&&P.cellsOf f.type==s.size&&vN P s f.type&&tn P r i (off+s.size)
 |_,_,_=>false
end
mutual
def Sh:Sc->List IV->Prop
 |.int k,l=>∃n,l=[.int k n]/\(Lit.int k n).wf=true
 |.bool,l=>∃b,l=[.bool b]
 |.str,l=>∃s,l=[.str s]/\s.length<=maxLen
 |.struct c,l=>Shs c l
 |.slice e,l=>∃rows,l=[.slice rows]/\rows.length<=maxLen/\∀f∈rows,Sh e f
 |.arr n e,l=>∃parts:List (List IV),l=parts.flatten/\parts.length=n/\∀p∈parts,Sh e p
def Shs:List Sc->List IV->Prop
 |[],l=>l=[]
 |s::r,l=>∃a b,l=a++b/\Sh s a/\Shs r b
end
def HK(w:World):ba:=fun b _=>b<w.heap.size
theorem tp{w:World}{a:Addr}{v:Value}(h:w.cell? a=some v):a.block<w.heap.size/\a.spot=none:=by
 unfold World.cell? at h;split at h
 ·next c t j f=>
  split at h
  ·simp at h
  ·next i=>
   refine⟨?_,by simpa using i⟩;exact(Array.getElem?_eq_some_iff.1 f).1
 ·simp at h
theorem repCells_of{w:World} : ∀ {c:List IV} {cs:List Value} {blk off:Nat},aj w (HK w) c cs->(∀j,j<cs.length->w.cell? ⟨blk,off+j,none⟩=cs[j]?)->aO w (HK w) c blk off
 |[],_,_,_,_,_=>by simp[aO]
 |x::r,_,blk,off,⟨v,p,i,l,n,o⟩,h=>by
  subst i;have f:=h 0 (by simp);simp only[Nat.add_zero,List.getElem?_cons_zero]at f;refine⟨(tp f).1,l,⟨v,f,n⟩,repCells_of o (fun j q=>?_)⟩;have:=h (j+1) (by simp;omega);rw[List.getElem?_cons_succ]at this;rw[<-this];congr 2;omega
theorem Ma{w:World}{base:Nat}{a:Addr}{n:Nat}{cs:List Value}(h:w.cells? base a n=some cs):cs.length=n/\∀j,j<n->w.cell? (a.add j)=cs[j]?:=by
 unfold World.cells? at h;split at h
 ·refine⟨by simpa using mapM_some_length h,fun j c=>?_⟩;exact mapM_some_get h j j (by simp[c])
 ·simp at h
theorem Tv{w:World}{e:Sc}{s blk off:Nat} : ∀(n start:Nat),(∀i,i<n->∃c,Sh e c/\c.length=s/\aO w (HK w) c blk (off+(start+i)*s))->
  ∃f,f.length=n/\(∀c∈f,Sh e c)/\bQ w (HK w) f s blk (off+start*s)
 |0,start,_=>⟨[],rfl,by simp,by simp[bQ]⟩
 |n+1,start,h=>by
  obtain⟨c,m,o,p⟩:=h 0 (by omega)
  obtain⟨f,q,u,l⟩:=Tv n (start+1) (fun i z=>by
   obtain⟨c,v,x,y⟩:=h (i+1) (by omega);refine⟨c,v,x,?_⟩;rw[show start+1+i=start+(i+1) by omega]
   exact y)
  refine⟨c::f,by simp[q],?_,?_⟩
  ·intro r j;rcases List.mem_cons.1 j with rfl|j
   ·exact m
   ·exact u r j
  ·refine⟨o,by simpa using p,?_⟩;rw[Nat.add_mul,Nat.one_mul,<-Nat.add_assoc]at l;exact l
section
variable {H:Type} {enc:TypeId×Value->H} {P:Program} {w:World} {base:Nat} {spare:Nat->Bool} {held:Bool}
theorem HL{a:Addr}(h:a.spot=none)(i:Nat):a.add i=⟨a.block,a.off+i,none⟩:=by
 obtain⟨b,o,s⟩:=a;subst h;unfold Addr.add;split
 ·next c=>simp[c]
 ·rfl
mutual
theorem BM:∀(sc:Sc) (c:Nat) (t:TypeId) (cs:List Value) (x:DataW H×List MemPlace),vN P sc t=true->DataW.trod enc P w base spare held c t cs=some x->∃o,Sh sc o/\aj w (HK w) o cs/\o.length=sc.size
 |.int k,c,t,cs,x,l,h=>by
  simp only[vN]at l;split at l
  ·next k' u=>
   rw[beq_iff_eq]at l;subst l;obtain⟨n,rfl,_,hw⟩:=DataW.trod_int u h;exact⟨[.int _ n],⟨n,rfl,hw⟩,⟨_,_,rfl,rfl,rfl,rfl⟩,rfl⟩
  ·simp at l
 |.bool,c,t,cs,x,l,h=>by
  simp only[vN]at l;split at l
  ·next u=>
   obtain⟨n,rfl,_⟩:=DataW.trod_bool u h;exact⟨[.bool n],⟨n,rfl⟩,⟨_,_,rfl,rfl,rfl,rfl⟩,rfl⟩
  ·simp at l
 |.str,c,t,cs,x,l,h=>by
  simp only[vN]at l;split at l
  ·next u=>
   obtain⟨n,rfl,_,hl⟩:=DataW.trod_string u h;exact⟨[.str n.data.toList],⟨_,rfl,by simpa using hl⟩,⟨_,_,rfl,rfl,rfl,rfl⟩,rfl⟩
  ·simp at l
 |.struct q,c,t,cs,x,l,h=>by
  simp only[vN]at l;split at l
  ·next D u=>
   simp only[Bool.and_eq_true,beq_iff_eq]at l;obtain⟨xs,n,_,_,hl,hx,M⟩:=DataW.trod_struct u h
   obtain⟨o,h1,Z,h3⟩:=HM q n D.toList 0 cs (by omega) l.1 (fun i f O=>by
    have nB:D[i]?=some f:=by simpa using O
    have:=M i f nB;have j':i<D.size:=(Array.getElem?_eq_some_iff.1 nB).1;rw[List.getElem?_eq_getElem (by omega)]at this
    exact⟨_,this⟩)
   rw[List.drop_zero,List.take_of_length_le (by omega)]at Z;exact⟨o,h1,Z,h3⟩
  ·simp at l
 |.slice e,c,t,cs,x,l,h=>by
  simp only[vN]at l;split at l
  ·next te u=>
   simp only[Bool.and_eq_true,beq_iff_eq,decide_eq_true_eq]at l;obtain⟨⟨F,I⟩,a'⟩:=l;rcases DataW.trod_slice u h with⟨rfl,_⟩|⟨a,C,b',c',h',n,_,rfl,_,_,l',i',m',hE,_,_⟩
   ·exact⟨[.slice []],⟨[],rfl,by simp,by simp⟩,⟨_,_,rfl,rfl,⟨none,0,rfl,by simp,by simp⟩,rfl⟩,rfl⟩
   ·have z:0<C->a.spot=none:=by
     intro A;have nB:=hE 0 A;rw[List.getElem?_eq_getElem (by omega)]at nB;simp only[Option.bind_eq_some_iff]at nB;obtain⟨J,L,_⟩:=nB;have N:=Ma L;have h0:=N.2 0 (by omega);cases hc:J[0]? with
     |none=>rw[List.getElem?_eq_none_iff]at hc;omega
     |some v=>
      rw[hc]at h0;simpa[Addr.add]using (tp h0).2
    have R:∀i,i<C->∃B,Sh e B/\B.length=e.size/\aO w (HK w) B a.block (a.off+(0+i)*e.size):=by
     intro i O;have nB:=hE i O;rw[List.getElem?_eq_getElem (by omega)]at nB;simp only[Option.bind_eq_some_iff]at nB;obtain⟨J,L,d'⟩:=nB;obtain⟨o,S,U,V⟩:=BM e n te J _ F d';have N:=Ma L;rw[I]at N;refine⟨o,S,V,?_⟩;refine repCells_of U (fun j hj=>?_);rw[<-N.2 j (by omega),HL (z (by omega)),HL rfl];simp
    obtain⟨E,k1,k2,k3⟩:=Tv (e:=e) (s:=e.size) (blk:=a.block) (off:=a.off) C 0 (fun i O=>by
     obtain⟨B,S,U,V⟩:=R i O
     exact⟨B,S,U,V⟩)
    refine⟨[.slice E],⟨E,rfl,by omega,k2⟩,⟨_,_,rfl,rfl,⟨some a,b',by rw[k1],by omega,fun e'=>?_⟩,rfl⟩,rfl⟩
    have A:0<C:=by
     rw[<-k1];exact List.length_pos_iff.2 e'
    refine⟨a.block,a.off,e.size,?_,by simpa using k3⟩;have W:=z A;obtain⟨ab,ao,n'⟩:=a;simp only at W;rw[W]
  ·simp at l
 |.arr n e,c,t,cs,x,l,h=>by
  simp only[vN]at l;split at l
  ·next m te u=>
   simp only[Bool.and_eq_true,beq_iff_eq]at l;obtain⟨⟨⟨rfl,F⟩,I⟩,a'⟩:=l;obtain⟨xs,f,_,_,hl,hx,M⟩:=DataW.trod_array u h
   have f':∀k,k<=m->∃parts:List (List IV),parts.length=k/\(∀p∈parts,Sh e p)/\aj w (HK w) parts.flatten (cs.take (k*e.size))/\parts.flatten.length=k*e.size:=by
    intro k
    induction k with
    |zero=>intro _;exact⟨[],rfl,by simp,by simp[aj],by simp⟩
    |succ k ih=>
     intro hk;obtain⟨parts,p1,p2,p3,p4⟩:=ih (by omega);have X:=M k (by omega);rw[List.getElem?_eq_getElem (by omega),I]at X;obtain⟨o,S,U,V⟩:=BM e f te _ _ F X;refine⟨parts++[o],by simp[p1],?_,?_,?_⟩
     ·intro p Y;rcases List.mem_append.1 Y with Y|Y
      ·exact p2 p Y
      ·rw[List.mem_singleton.1 Y];exact S
     ·have:=aj.append p3 U;rw[<-List.take_add]at this;simpa[Nat.add_mul]using this
     ·simp[p4,V,Nat.add_mul]
   obtain⟨parts,p1,p2,p3,p4⟩:=f' m (Nat.le_refl _);rw[List.take_of_length_le (by omega)]at p3;exact⟨parts.flatten,⟨parts,rfl,p1,p2⟩,p3,p4⟩
  ·simp at l
theorem HM:∀(q:List Sc) (c:Nat) (D:List Field) (off:Nat) (cs:List Value),off+Sc.sizes q<=cs.length->tn P q D off=true->
  (∀(i:Nat) (f:Field),D[i]?=some f->∃y,DataW.trod enc P w base spare held c f.type ((cs.drop f.offset).take (P.cellsOf f.type))=some y)->
  ∃o,Shs q o/\aj w (HK w) o ((cs.drop off).take (Sc.sizes q))/\o.length=Sc.sizes q
 |[],_,[],off,cs,_,_,_=>⟨[],rfl,by simp[aj,Sc.sizes],rfl⟩
 |[],_,_::_,_,_,_,h,_=>by simp[tn]at h
 |_::_,_,[],_,_,_,h,_=>by simp[tn]at h
 |s::r,c,f::D,off,cs,g',h,M=>by
  simp only[tn,Bool.and_eq_true,beq_iff_eq]at h;obtain⟨⟨⟨h1,Z⟩,h3⟩,h4⟩:=h;simp only[Sc.sizes]at g' |-;obtain⟨y,hy⟩:=M 0 f rfl;rw[h1,Z]at hy;obtain⟨a,a1,a2,a3⟩:=BM s c _ _ _ h3 hy;obtain⟨b,b1,b2,b3⟩:=HM r c D (off+s.size) cs (by omega) h4 (fun i g N=>M (i+1) g N);refine⟨a++b,⟨a,b,rfl,a1,b1⟩,?_,by simp[a3,b3]⟩;have:=aj.append a2 b2;rw[<-List.drop_drop,<-List.take_add]at this;exact this
end
end
end Go.Vs
namespace Go.Vs
open Go.ChangeShapes Go.WideShapes Go.RowKit
def Arg:Sc->IV->Prop
 |.struct c,v=>∃l,v=.agg l/\Shs c l
 |.arr n e,v=>∃l,v=.agg l/\Sh (.arr n e) l
 |f,v=>Sh f [v]
def aaj:List Sc->List IV->Prop
 |[],l=>l=[]
 |s::r,l=>∃v b,l=v::b/\Arg s v/\aaj r b
def Mb(P:Program):List Sc->List TypeId->Bool
 |[],[]=>true
 |s::r,t::ts=>vN P s t&&Mb P r ts
 |_,_=>false
section
variable {H:Type} {enc:TypeId×Value->H} {P:Program} {w:World} {base:Nat} {spare:Nat->Bool} {held:Bool}
theorem aak{S:ba}{iv:IV}{v:Value}(h:aj w S [iv] [v]):pJ w S iv v:=by
 obtain⟨u,f,c,_,e,_⟩:=h;simp only[List.cons.injEq]at c;rw[c.1];exact e
theorem aal{l:Sc}{t:TypeId}{v:Value}{d:DataW H}{ps:List MemPlace}{y:Nat}(c:vN P l t=true)(z:DataW.Trod enc P w base spare held t v d ps)(f:Value.okWide P w .any y t v):∃iv,Arg l iv/\pJ w (HK w) iv v:=by
 obtain⟨o,A⟩:=z;obtain⟨h,j,p,x⟩:=BM l o t _ _ c A
 have one:∀ {u:Value},u.cells.toList=[u]->v=u->l.size=1->∃iv,h=[iv]/\pJ w (HK w) iv v:=by
  intro u B C s;rw[s]at x;obtain⟨iv,rfl⟩:=List.length_eq_one_iff.1 x;subst C;rw[B]at p;exact⟨iv,rfl,aak p⟩
 cases l with
 |int k=>
  simp only[vN]at c;split at c
  ·next J i=>
   obtain⟨n,rfl⟩:=okWide_int i f;obtain⟨iv,rfl,q⟩:=one rfl rfl rfl;exact⟨iv,j,q⟩
  ·simp at c
 |bool=>
  simp only[vN]at c;split at c
  ·next i=>
   obtain⟨n,rfl⟩:=okWide_bool i f;obtain⟨iv,rfl,q⟩:=one rfl rfl rfl;exact⟨iv,j,q⟩
  ·simp at c
 |str=>
  simp only[vN]at c;split at c
  ·next i=>
   obtain⟨n,rfl⟩:=okWide_string i f;obtain⟨iv,rfl,q⟩:=one rfl rfl rfl;exact⟨iv,j,q⟩
  ·simp at c
 |slice e=>
  simp only[vN]at c;split at c
  ·next D i=>
   obtain⟨a,E,F,rfl⟩:=okWide_slice i f;obtain⟨iv,rfl,q⟩:=one rfl rfl rfl;exact⟨iv,j,q⟩
  ·simp at c
 |struct I=>
  simp only[vN]at c;split at c
  ·next L i=>
   simp only[Value.okWide,i]at f;obtain⟨cs,rfl,_,_⟩:=f;exact⟨.agg h,⟨h,rfl,j⟩,cs,rfl,p⟩
  ·simp at c
 |arr n e=>
  simp only[vN]at c;split at c
  ·next m D i=>
   simp only[Value.okWide,i]at f;obtain⟨cs,rfl,_,_⟩:=f;exact⟨.agg h,⟨h,rfl,j⟩,cs,rfl,p⟩
  ·simp at c
theorem PV:∀ {e:List Sc} {ts:List TypeId} {f:List Value} {l:List (DataW H)} {ps:List MemPlace} {m:Nat},Mb P e ts=true->DataW.TrodAll enc P w base spare held ts f l ps->
  (∀(j:Nat) t v,ts[j]?=some t->f[j]?=some v->Value.okWide P w .any m t v)->∃c,aaj e c/\bx w (HK w) c f/\l.length=ts.length
 |[],[],[],[],_,_,_,_,_=>⟨[],rfl,rfl,rfl⟩
 |[],_::_,_,_,_,_,h,_,_=>by simp[Mb]at h
 |_::_,[],_,_,_,_,h,_,_=>by simp[Mb]at h
 |s::r,t::ts,v::f,d::l,ps,m,h,⟨p,q,n,o,_⟩,i=>by
  simp only[Mb,Bool.and_eq_true]at h;obtain⟨iv,u,x⟩:=aal h.1 n (i 0 t v rfl rfl);obtain⟨c,y,z,A⟩:=PV h.2 o (fun j B C D E=>i (j+1) B C D E);exact⟨iv::c,⟨iv,c,rfl,u,y⟩,⟨v,f,rfl,x,z⟩,by simp[A]⟩
 |[],[],[],_::_,_,_,_,h,_=>h.elim
 |[],[],_::_,_,_,_,_,h,_=>h.elim
 |_::_,_::_,[],_,_,_,_,h,_=>h.elim
 |_::_,_::_,_::_,[],_,_,_,h,_=>h.elim
theorem yS(l:laidOutB P=true){W m:World}{e:Nat->Bool} : ∀ {ts:List TypeId} {i:List Value} {j:List (DataW H)} {ps:List MemPlace},ts.all (fun t=>P.readableRec t&&decide (t<P.types.size))=true->
  DataW.TrodAll enc P W base (fun _=>true) true ts i j ps->(∀p∈ps,W.sameAt m p)->(∀p∈ps,e p.block=true)->DataW.TrodAll enc P m base e true ts i j ps
 |[],[],[],_,_,h,_,_=>h
 |t::ts,v::i,d::j,ps,f,⟨p,q,s,u,y⟩,n,o=>by
  subst y;simp only[List.all_cons,Bool.and_eq_true,decide_eq_true_eq]at f
  exact⟨p,q,WideElems.Trod_stays l f.1.1 f.1.2 s (fun x c=>n x (List.mem_append_left _ c)) (fun x c=>o x (List.mem_append_left _ c)),
   yS l f.2 u (fun x c=>n x (List.mem_append_right _ c)) (fun x c=>o x (List.mem_append_right _ c)),rfl⟩
 |[],[],_::_,_,_,h,_,_=>h.elim
 |[],_::_,_,_,_,h,_,_=>h.elim
 |_::_,[],_,_,_,h,_,_=>h.elim
 |_::_,_::_,[],_,_,h,_,_=>h.elim
end
theorem Kept.below{w c:World}(h:Kept (fun _=>False) w c):Below w.heap.size w c:=⟨h.os,h.tape,h.output,h.size,fun k e=>h.block k e (fun x=>x)⟩
end Go.Vs
namespace Go.Vs
open Go.ChangeShapes Go.WideShapes Go.RowKit
theorem Ea.globals{P:Program}{k:FuncId}{c:List IV}{r:Res}{f:List (Nat×List IV)}(h:Ea [] P k c r):Ea f P k c r:=
 ⟨h.1,fun w S i j e _=>h.2 w S i j e (fun p l=>by simp at l)⟩
theorem jL.globals{P:Program}{k:FuncId}{c:MC}{f:List (Nat×List IV)}(h:jL [] P k c):jL f P k c:=
 ⟨h.1,fun w S i j l m _ e n o q=>h.2 w S i j l m (fun p s=>by simp at s) e n o q⟩
theorem Gq{H:Type}{enc:TypeId×Value->H}{a:Assume}{C:Checked}{os:Os}{k:FuncId}{l:Func}{s:ChangeSpec}{f:List (String×DataW Unit)}{gl:List (Nat×List IV)}
  (R:ownKnob C.prog.godebug=none) (m:os.Started) (y:C.prog.inits.idxOf? k=none) (F:C.prog.funcs[k]?=some l) (B:l.name≠ "runtime.NumGoroutine") (D:l.body.isSome=true)
  (n:∃(w:World) (c:Tape) (i:Input),w.os=os/\(w.forCall c i).Shaped C.prog/\i.vars=[]/\Input.okWide C.prog (w.forCall c i) .any w.heap.size k i/\
    ((s.pre enc C.prog l [] false (w.forCall c i).memory i.args/\laidMetH C.prog f (w.forCall c i).memory)/\sizedMet enc C.prog l (OpenSpec.ofChange s) false (w.forCall c i).memory i.args)/\a.holds C.prog (lone (Frame.enter C.prog k i.args .normal) [] (w.forCall c i)))
  (S:∀W,laidMetH C.prog f W->∀p,p∈gl->gX W (HK W) p)
  (I:List Sc) (U:Mb C.prog I l.params.toList=true) (tb:TypeId) (J:l.resultTypes = #[tb]) (V:C.prog.underlying tb=some .bool) (N:s.vars=[])
  (hs:∀z:List (DataW H),z.length=l.params.toList.length->s.fn H z = {results:=[.lit (.bool true)],args:=z })
  (hl:laidOutB C.prog=true) (hr:l.params.toList.all (fun t=>C.prog.readableRec t&&decide (t<C.prog.types.size))=true)
  (h:∀args,aaj I args->Fn gl C.prog k args (.bool true)) :
  ReturnsInHanded a C os k .any (fun w args=>(s.pre enc C.prog l [] false w args/\laidMetH C.prog f w)/\sizedMet enc C.prog l (OpenSpec.ofChange s) false w args) (s.post enc C.prog l false true false false):=by
 refine returnsInHanded_of_change_and (X:=fun w _=>laidMetH C.prog f w) (fun _ _ _ Y h=>h.of_heap Y) R m y F n ?_;intro W base args z gs before L Z _ _ hL _;obtain⟨p,q,hA,hV,rfl,b',c'⟩:=id Z;obtain⟨a',h1,h2,h3⟩:=PV U hA (fun j t v ht N=>L j t v (by simpa using ht) (by simpa using N));rw[N]at hV
 have hg:gs=[]/\q=[]:=by
  cases gs with
  |nil=>exact⟨rfl,hV⟩
  |cons g r=>exact hV.elim
 obtain⟨rfl,rfl⟩:=hg;have hc:=((h a' h1).2 W (HK W) args.toList (fun b o O=>O) h2 (S W hL)).calls F B D;rw[Array.toArray_toList]at hc;refine hc.mono fun e W' ⟨v,S',he,E,_,_,_,hk⟩=>?_
 have E:v=.bool true:=E;subst E;refine⟨.bool true,he,?_⟩;have O:=hk.below;have u:s.fn H (z++[]) = {results:=[.lit (.bool true)],args:=z }:=by rw[List.append_nil];exact hs z h3
 have M:∀x∈p,x.block<W.heap.size:=fun x A=>Z.lt x (List.mem_append_left _ A)
 refine⟨z,[],p++[],[],p,[],Z,?_,?_,?_,?_,fun Y=>by cases Y⟩
 ·rw[u,J];exact⟨[],[],shut_bool V true,rfl,rfl⟩
 ·rw[u];exact yS hl hr hA (fun x A=>O.same (M x A)) (fun x A=>by simpa using M x A)
 ·rw[u,N];rfl
 ·exact World.keptBut_mono (fun x A=>⟨A,.inr (.inl (by simpa using A))⟩) (O.frame (·∈p++[]))
theorem yT{w:World}{k:IntKind}{b:Nat} : ∀ {zs:List Int} {c:Nat},(∀i,i<zs.length->w.cell? ⟨b,c+i,none⟩=some (.int k (zs.getD i 0)))->aO w (HK w) (zs.map (.int k ·)) b c
 |[],_,_=>trivial
 |z::r,c,h=>by
  have e:=h 0 (by simp);refine⟨(tp e).1,rfl,⟨_,by simpa using e,rfl⟩,yT (fun i f=>?_)⟩;have:=h (i+1) (by simp;omega);rw[show c+1+i=c+(i+1) by omega];simpa using this
end Go.Vs
namespace Go.Vs
open Go.RowKit Go.Lib
def Sf:List (Nat×Ob)->Nat->Ob->List (Nat×Ob)
 |[],_,_=>[]
 |(j,x)::r,k,o=>bif j==k then (j,o)::r else (j,x)::Sf r k o
theorem Mc:∀ {l:List (Nat×Ob)} {k:Nat} {x:Ob} (o:Ob),ac l k=some x->∀j,ac (Sf l k o) j=if j=k then some o else ac l j
 |[],_,_,_,h,_=>by simp[ac]at h
 |(i,y)::r,k,x,o,h,j=>by
  simp only[ac]at h;cases c:i==k with
  |true=>
   have m:i=k:=by simpa using c
   subst m;simp only[Sf,beq_self_eq_true,cond_true,ac];cases f:i==j with
   |true=>have:i=j:=by simpa using f
          subst this;simp
   |false=>
    have:¬j=i:=by intro e;subst e;simp at f
    simp[this]
  |false=>
   rw[c]at h;simp only[cond_false]at h;simp only[Sf,c,cond_false,ac];rw[Mc o h j];cases f:i==j with
   |true=>
    have n:i=j:=by simpa using f
    subst n;have:¬i=k:=by intro e;subst e;simp at c
    simp[this]
   |false=>simp
theorem Sg{w c:World}{b:Nat}{cs:Array Value}{e:TypeId}{f:Nat×Nat}(h:Wrote w c b cs e f){p:Addr}(i:p.block≠b):c.cell? p=w.cell? p:=
 World.cell?_of_block (h.other _ i)
def St.bld(σ:St)(d id t e:Nat):St:={σ with env:=cS id σ.env,objs:=put (ck id (put σ.objs id (.arr 0 1 []))) d (.box [.selfN d t false,.ownT id 0 e]) }
theorem PW{σ:St}{k d t:Nat}(id e:Nat)(hid:id<σ.n)(l:id≠d)(J:ap σ.env k=.selfN d t true)(y:ac σ.objs d=some (.box [.val .nilp,.val .nilS]))(p:σ.ro.contains d=false):cH σ (σ.bld d id t e):=by
 rintro w0 S0 M a w ⟨S,L,N,h⟩;obtain⟨b,vs,I,fr,O,q,f,z,R,_,A,_,m,U,_,rfl,_,o,rfl⟩:=h.objs d _ y;have m:R=.pointer none:=m;have o:U=.slice none 0 0:=o;subst o;subst m;have i:=h.env k;rw[J]at i;obtain⟨V,s,B,_⟩:=i _ y;rw[q]at s;obtain rfl:b=V:=by simpa using s
 have W:=h.create id hid (.arr 0 1 []) none (.slice none 0 0) (Kept.refl _ _) (by simp) (.inl ⟨rfl,rfl,none,rfl⟩)
 have C:ac (ck id (put σ.objs id (.arr 0 1 []))) d=some (.box [.val .nilp,.val .nilS]):=by
  rw[cG,vS _ _ (fun e=>l e.symm),y];rfl
 have D:(if d=id then (none:Option Nat)else N d)=some b:=by rw[if_neg (fun e=>l e.symm)];exact O
 have u:(if d=id then Value.slice none 0 0 else L d)=.pointer (some ⟨b,0,none⟩):=by rw[if_neg (fun e=>l e.symm)];exact q
 have X:=W.write (id:=d) (x':=.box [.selfN d t false,.ownT id 0 e]) (w':=w) C D (vs:=vs) (e:=I) (fr:=fr) ⟨rfl,rfl,rfl,rfl,fun _ _=>rfl,f,fun _ _ h=>h⟩ (by
  intro Y;have:σ.ro.contains d=true:=by simpa using Y
  rw[this]at p;cases p) (.inl ⟨_,_,rfl,rfl⟩) ⟨b,vs,I,fr,rfl,u,f,z,by
   rw[A];refine⟨_,_,rfl,rfl,?_,_,_,rfl,rfl,?_,rfl⟩
   ·intro E _;exact⟨b,u,B,.inl ⟨rfl,rfl⟩⟩
   ·refine⟨?_,fun a n c Z=>by simp at Z⟩;intro cv s' v F;have j:ac (ck id (put σ.objs id (.arr 0 1 []))) id=some (.arr cv s' v):=F;rw[cG,dC]at j;simp only[Option.map_some,Ob.erase,E_,Ob.arr.injEq]at j;obtain⟨rfl,_,_⟩:=j
    exact⟨Nat.le_refl _,fun _=>by simp⟩⟩
 exact⟨S,_,_,X⟩
theorem y9{gl:List (Nat×List IV)}{P:Program}{k:FuncId}{args:List SV}{objs:List (Nat×Ob)}{res:SV}{id:Nat}{cells cells':List SV}(hk:sZ P k)(hid:ac objs id=some (.box cells))
  (h:∀(w:World) (S:ba) (C:Nat->Value) (V:Nat->Option Nat) (vs:List Value) (b:Nat) (cs:Array Value) (e:TypeId) (fr:Nat×Nat),(∀p,p∈gl->gX w S p)->bb w S C objs args vs->
    (∀i o,ac objs i=some o->bZ w S C objs (V i) (C i) o)->(∀i i' o o' b,ac objs i=some o->ac objs i'=some o'->V i=some b->V i'=some b->i=i')->
    V id=some b->C id=.pointer (some ⟨b,0,none⟩)->w.heap[b]?=some (.cells cs e fr)->nI fr cs.size->ak w S C objs cells cs.toList->
    jf P k vs.toArray w fun ev Y=>∃(v:Value) (w1:World) (I:Array Value),ev=.returned v/\Below w.heap.size w w1/\Wrote w1 Y b I e fr/\I.size=cs.size/\ak w S C objs cells' I.toList/\au w S C objs res v) :
  jL gl P k {args:=args,objs:=objs,res:=res,objs':=Sf objs id (.box cells'),ro':=[] }:=by
 refine⟨hk,fun w S C V vs hS m' e' B J D=>?_⟩;obtain⟨b,cs,e,fr,hb,f',L,g',W⟩:=B id _ hid;have r':b<w.heap.size:=(Array.getElem?_eq_some_iff.1 L).1;refine(h w S C V vs b cs e fr m' e' B J hb f' L g' W).mono ?_;rintro ev Y ⟨v,w1,I,rfl,m,Z,n',p',h'⟩;have hl:=Mc (.box cells') hid;have j':∀k x,w.shape? k=some x->Y.shape? k=some x:=fun k x hx=>Z.shape _ _ ((dp (m.block k (pK hx))).trans hx)
 have keeps:bX S w Y:=by
  refine⟨?_,j'⟩;intro f o k';have c':f≠b:=fun e=>absurd (D id _ b o hid hb (e▸k')).1 (by simp)
  rw[Sg Z (p:=⟨f,o,none⟩) c'];exact m.cell (p:=⟨f,o,none⟩) (hS _ _ k')
 have same:∀(x:SV) (u:Value),au w S C objs x u->au Y S C (Sf objs id (.box cells')) x u:=fun x u hx=>
  au.mono keeps (fun _ _ h=>h) _ _ (au.same (objs:=objs)
   (fun i E l=>by
     rw[hl]at l;split at l
     ·next e1=>subst e1;exact⟨cells,hid,rfl⟩
     ·exact⟨E,l,rfl⟩)
   (fun i cv s a' l=>by
     rw[hl]at l;split at l
     ·simp at l
     ·exact⟨cv,a',l,Nat.le_refl _,fun _=>⟨rfl,rfl⟩⟩)
   (fun i s p l=>by
     rw[hl]at l;split at l
     ·simp at l
     ·exact⟨s,p,l,rfl⟩) x u hx)
 have M:∀(xs:List SV) (us:List Value),ak w S C objs xs us->ak Y S C (Sf objs id (.box cells')) xs us:=by
  intro xs
  induction xs with
  |nil=>intro us h;exact h
  |cons x r ih=>rintro us ⟨u,q',e1,e2,e3,e4⟩;exact⟨u,q',e1,e2,same _ _ e3,ih _ e4⟩
 have d':∀i o f,ac objs i=some o->V i=some f->f<w.heap.size:=by
  intro i o f l X;have:=B i o l;cases o with
  |box c=>obtain⟨A,N,e2,O,n,_,R,_⟩:=this;rw[X]at n;obtain rfl:=O_ n;exact(Array.getElem?_eq_some_iff.1 R).1
  |arr v2 s2 r2=>
   rcases this with⟨_,n,_⟩|⟨A,c2,N,e2,O,n,_,R,_⟩
   ·rw[X]at n;simp at n
   ·rw[X]at n;obtain rfl:=O_ n;exact(Array.getElem?_eq_some_iff.1 R).1
  |iter s p=>obtain⟨A,n,_,R⟩:=this;rw[X]at n;obtain rfl:=O_ n;exact(Array.getElem?_eq_some_iff.1 R).1
 have F:∀f,f<w.heap.size->f≠b->Y.heap[f]?=w.heap[f]?:=fun f q z=>(Z.other f z).trans (m.block f q)
 have l':w.heap.size<=Y.heap.size:=by have:=m.size;have:=Z.size;omega
 refine⟨v,S,C,V,rfl,same _ _ h',?_,?_,?_,?_,?_,fun _ _ h=>h,fun _ _ h=>.inl h,?_,?_,keeps.1⟩
 ·intro i o l;dsimp only at l |-;rw[hl]at l;split at l
  ·next e1=>
   subst e1;obtain rfl:=O_ l;refine⟨b,I,e,fr,hb,f',Z.here,by rw[n'];exact g',M _ _ p'⟩
  ·next c'=>
   have ho:=B i o l;have U:∀f,V i=some f->f≠b:=fun f q z=>c' (J i id o _ b l hid (z▸q) hb)
   cases o with
   |box c=>
    obtain⟨A,N,e2,O,n,q2,R,q4,q5⟩:=ho;exact⟨A,N,e2,O,n,q2,(F A (d' i _ A l n) (U A n)).trans R,q4,M _ _ q5⟩
   |arr v2 s2 r2=>
    rcases ho with ho|⟨A,c2,N,e2,O,n,q2,R,q4,q5,q6,q7,q8⟩
    ·exact .inl ho
    ·exact .inr ⟨A,c2,N,e2,O,n,q2,(F A (d' i _ A l n) (U A n)).trans R,q4,q5,q6,q7,aj.mono keeps (fun _ _ h=>h) _ _ q8⟩
   |iter s p=>
    obtain⟨A,n,q2,R⟩:=ho;exact⟨A,n,q2,(F A (d' i _ A l n) (U A n)).trans R⟩
 ·intro i i' o o' f q z h3 h4;dsimp only at q z;rw[hl]at q z
  have g:∀j x,(if j=id then some (Ob.box cells')else ac objs j)=some x->∃y,ac objs j=some y:=by
   intro j x hx;split at hx
   ·next e1=>subst e1;exact⟨_,hid⟩
   ·exact⟨_,hx⟩
  obtain⟨y1,g1⟩:=g i o q;obtain⟨y2,g2⟩:=g i' o' z;exact J i i' y1 y2 f g1 g2 h3 h4
 ·intro i o f q z;dsimp only at q;rw[hl]at q;right;split at q
  ·next e1=>subst e1;exact⟨_,_,hid,z⟩
  ·exact⟨_,_,q,z⟩
 ·intro i o f off q z h3;dsimp only at q;rw[hl]at q;exfalso;split at q
  ·next e1=>subst e1;exact absurd (D _ _ f off hid z h3).1 (by simp)
  ·exact absurd (D _ _ f off q z h3).1 (by simp)
 ·exact fun f o q=>Nat.lt_of_lt_of_le (hS f o q) l'
 ·refine⟨Z.os.trans m.os,Z.tape.trans m.tape,Z.output.trans m.output,l',fun f q z=>F f q (fun e1=>z ⟨id,_,hid,e1▸hb⟩),j'⟩
 ·intro i o l
  have hh:au w S C objs (Ef i o) (C i):=by
   cases o with
   |box c=>
    intro E z;obtain⟨A,_,_,_,_,q2,_⟩:=B i _ l;exact⟨A,q2,q2⟩
   |arr v2 s2 r2=>
    intro cv s a' z;rw[l]at z;simp only[E_,Ob.arr.injEq]at z;obtain⟨rfl,rfl,rfl⟩:=z;exact⟨Nat.le_refl _,fun _=>rfl⟩
   |iter s p=>intro s2 p2 z;rfl
  exact same _ _ hh
theorem HN{u:List (Nat×List IV)}{P:Program}{k:FuncId}{c:List IV}{f:IV}(z:sZ P k) 
  (h:∀(w:World) (S:ba) (m:List Value),(∀b o,S b o->b<w.heap.size)->(∀p,p∈u->gX w S p)->bx w S c m->
    jf P k m.toArray w fun ev n=>∃v,ev=.returned v/\Below w.heap.size w n/\pJ w S f v):Fn u P k c f:=by
 refine⟨z,fun w S m q i s=>?_⟩;refine(h w S m q s i).mono ?_;rintro ev n ⟨v,rfl,e,A⟩;have j:∀k x,w.shape? k=some x->n.shape? k=some x:=fun k x y=>(dp (e.block k (pK y))).trans y
 refine⟨v,S,rfl,?_,fun _ _ h=>h,fun _ _ h=>.inl h,fun b o l=>Nat.lt_of_lt_of_le (q b o l) e.size,⟨e.os,e.tape,e.output,e.size,fun k l _=>e.block k l,j⟩⟩;exact pJ.mono ⟨fun b o l=>e.cell (p:=⟨b,o,none⟩) (q _ _ l),j⟩ (fun _ _ h=>h) _ _ A
theorem Md{l:List (Nat×List IV)}{P:Program}{k:FuncId}{c:List IV}{f:IV}(m:sZ P k)
  (h:∀(w:World) (S:ba) (j:List Value),bx w S c j->∃v,(callFunc k j.toArray).run P w=.ok (.value v) w/\pJ w S f v):Fn l P k c f:=
 HN m fun w S j q n i=>by
  obtain⟨v,o,p⟩:=h w S j i;exact .inr ⟨v,w,o,v,rfl,Below.refl _ _,p⟩
theorem dP{P:Program}{k:FuncId}{c:Func}{args:Array Value}{w:World}{R:Ending->World->Prop}(f:P.funcs[k]?=some c)(i:c.body.isSome=true)(h:Calls P k args w R):jf P k args w R:=.inl ⟨⟨c,f,i⟩,h⟩
theorem Si{w:World}{b:Nat}{cs:Array Value}{e:TypeId}{fr:Nat×Nat}(h:w.heap[b]?=some (.cells cs e fr))(c:nI fr cs.size)(f:0<cs.size):w.frozen? ⟨b,0,none⟩=false:=Hi h c f
theorem HO{w:World}{b:Nat}{cs:Array Value}{e:TypeId}{fr:Nat×Nat}{i:Nat}{v:Value}(h:w.heap[b]?=some (.cells cs e fr))(c:cs[i]?=some v):w.cell? ⟨b,i,none⟩=some v:=by
 simp[World.cell?,h,c]
end Go.Vs
namespace Go.Vs
def St.upd(σ:St)(D:List Nat)(E:List (Nat×SV))(O:List (Nat×Ob)):St:=
 ⟨E++σ.env.filter (fun p=>!(D.contains p.1||E.any (fun q=>q.1==p.1))),O++σ.objs.filter (fun p=>!(O.any (fun q=>q.1==p.1))),σ.ro,σ.n,σ.gl⟩
theorem be{P:Program}(hm:P.follows .mixedOrders=true){o:Type}(D:List Nat)(E:o->List (Nat×SV))(O:o->List (Nat×Ob))(A:o->Prop)(m:o->Nat)(B:o){b:VCode}{Q:Exit->St->Prop}{σ:St}(C:A B)(F:cH σ (σ.upd D (E B) (O B)))
  (h:∀i,A i->pw P b (fun e z=>match e with
    |.normal=>@GW o z (m i) ⟨fun i=>σ.upd D (E i) (O i)⟩ ⟨A⟩ ⟨m⟩
    |e=>Q e z) (σ.upd D (E i) (O i))):@TVW P σ ⟨.loop b⟩ ⟨Q⟩:=M9 hm (fun i=>σ.upd D (E i) (O i)) A m B C F (fun _=>_root_.id rfl) h
theorem wq{P:Program}(hm:P.follows .mixedOrders=true){f:Type}(D:List Nat)(ro:List Nat)(E:f->List (Nat×SV))(O:f->List (Nat×Ob))(A:f->Prop){x y:VCode}{Q:Exit->St->Prop}{σ:St}
  (h:pw P x (fun e c=>match e with
    |.normal=>@Nq f c ⟨fun i=>{σ.upd D (E i) (O i)with ro:=ro }⟩ ⟨A⟩
    |e=>Q e c) σ) (l:∀i,A i->pw P y Q {σ.upd D (E i) (O i)with ro:=ro }):@aai P σ ⟨.seq x y⟩ ⟨Q⟩:=Xr hm (fun i=>{σ.upd D (E i) (O i)with ro:=ro }) A (fun _=>_root_.id rfl) h l
attribute [simp] St.upd
theorem bO{p:Prop} [Decidable p]{A B:Prop}(h:p):@Br (decide p) ⟨A⟩ ⟨B⟩=A:=by rw[decide_eq_true h];exact Tu
theorem cI{p:Prop} [Decidable p]{A B:Prop}(h:¬p):@Br (decide p) ⟨A⟩ ⟨B⟩=B:=by rw[decide_eq_false h];exact PQ
theorem wrap_i64{x:Int}(c:-9223372036854775808<=x)(f:x<=9223372036854775807):IntKind.i64.wrap x=x:=by rw[IntKind.wrap_i64];omega
theorem wrap_u8{x:Int}(e:0<=x)(f:x<=255):IntKind.u8.wrap x=x:=by rw[IntKind.wrap_u8];omega
theorem wrap_i32{x:Int}(c:-2147483648<=x)(e:x<=2147483647):IntKind.i32.wrap x=x:=by rw[IntKind.wrap_i32];omega
end Go.Vs
namespace Go.Vs
def ra(t:Bool)(s:Nat):Ob:=.arr 0 s []
def BN(t:Bool)(id:Nat):SV:=.own id 0
def St.adoptC(σ:St)(t:Bool)(d j id s:Nat)(c:List SV):St:={σ with env:=cS id σ.env,objs:=put (ck id (put σ.objs id (ra t s))) d (.box ((fh id c).set j (BN t id))) }
theorem ya{σ:St}(t:Bool){d j:Nat}{c:List SV}(id s:Nat)(hid:id<σ.n)(l:id≠d)(I:ac σ.objs d=some (.box c))(R:c[j]?=some .nils)(n:σ.ro.contains d=false):cH σ (σ.adoptC t d j id s c):=by
 rintro w0 S0 M a w ⟨S,y,U,h⟩;obtain⟨b,vs,J,fr,V,z,f,A,B⟩:=h.objs d _ I;obtain⟨v,W,C,x,X⟩:=ak.get B R
 have D:bZ w S y σ.objs none (.slice x 0 0) (ra t s):=by
  exact .inl ⟨rfl,rfl,x,rfl⟩
 have L:=h.create id hid (ra t s) none (.slice x 0 0) (Kept.refl _ _) (by simp) D
 have o:ac (ck id (put σ.objs id (ra t s))) d=some (.box (fh id c)):=by
  rw[cG,vS _ _ (fun e=>l e.symm),I];rfl
 have p:(if d=id then (none:Option Nat)else U d)=some b:=by rw[if_neg (fun e=>l e.symm)];exact V
 have E:(if d=id then Value.slice x 0 0 else y d)=.pointer (some ⟨b,0,none⟩):=by rw[if_neg (fun e=>l e.symm)];exact z
 obtain⟨b2,Y,e2,Z,N,k2,F,k4,k5⟩:=L.objs d _ o;simp only[p]at N;obtain rfl:=O_ N;rw[f]at F;simp only[E_,Go.Obj.cells.injEq]at F;obtain⟨rfl,rfl,rfl⟩:=F
 have q:au w S (fun i=>if i=id then Value.slice x 0 0 else y i) (ck id (put σ.objs id (ra t s))) (BN t id) v:=by
  rw[X];intro cv s' O m;rw[cG,dC]at m;simp only[ra,Option.map_some,Ob.erase,E_,Ob.arr.injEq]at m;obtain⟨rfl,_,_⟩:=m;exact⟨Nat.le_refl _,fun _=>by simp⟩
 have u:vs.toList.set j v=vs.toList:=by
  apply List.ext_getElem?;intro i;rw[List.getElem?_set];split
  ·next e=>
   subst e;split
   ·exact W.symm
   ·next h0=>rw[List.getElem?_eq_none (by omega)]
  ·rfl
 have h2:=L.write (id:=d) (x':=.box ((fh id c).set j (BN t id))) (w':=w) o p (vs:=vs) (e:=J) (fr:=fr) ⟨rfl,rfl,rfl,rfl,fun _ _=>rfl,f,fun _ _ h=>h⟩ (by
  intro hc;have:σ.ro.contains d=true:=by simpa using hc
  rw[this]at n;cases n) (.inl ⟨_,_,rfl,rfl⟩) ⟨b,vs,J,fr,rfl,E,f,A,by
   have:=ak.set j k5 C q;rw[u]at this
   exact this⟩
 exact⟨S,_,_,h2⟩
theorem wl:(∀ {p:Prop} [Decidable p] {A B:Prop},p->@Br (decide p) ⟨A⟩ ⟨B⟩=A)/\(∀ {p:Prop} [Decidable p] {A B:Prop},¬p->@Br (decide p) ⟨A⟩ ⟨B⟩=B)/\(∀ {x:Int},-9223372036854775808<=x->x<=9223372036854775807->IntKind.i64.wrap x=x)/\(∀ {x:Int},0<=x->x<=255->IntKind.u8.wrap x=x)/\(∀ {x:Int},-2147483648<=x->x<=2147483647->IntKind.i32.wrap x=x)/\(∀ {h:Type} {a:h} {l:List h},(a::l)[0]?=some a)/\(∀ {h:Type} {a:h} {i:Nat} {l:List h},(a::l)[i+1]?=l[i]?):=
 ⟨bO,cI,wrap_i64,wrap_u8,wrap_i32,List.getElem?_cons_zero,List.getElem?_cons_succ⟩
theorem bp{σ h:St}(z:h.n=σ.n:=by rfl)(o:h.gl=σ.gl:=by rfl)(A:aI σ.env h.env:=by simp[aI,ap,ac])(B:bD σ.objs h.objs:=by simp[bD,ac])(C:bB σ.ro h.ro h.objs=true:=by simp[bB]):cH σ h:=ag z o A B C
inductive Zk_ where
  | s | i | u | n | b
def z_ : List Zk_ -> List SV
  | [] => []
  | .s :: r => .val (.str []) :: z_ r
  | .i :: r => .val (.int .i64 0) :: z_ r
  | .u :: r => .val (.int .u8 0) :: z_ r
  | .n :: r => .nils :: z_ r
  | .b :: r => .val (.bool false) :: z_ r
inductive It_ where
  | m (x : Nat) | n (c : Int) | f (o : Nat) | F (o x : Nat) | l | L (g : Nat) | W (g x : Nat) | v | h | k | u | e (x i : Nat) | x (s : Nat) | y | b (o : BinOp) | i (o : BinOp) (c : Int) | E (c : Int) | N (c : Int) | P (c : Int) | U (o : BinOp) (c : Int) | t (s : List UInt8)
  | c0 (k : Nat) | c1 (k : Nat) | c2 (k : Nat) | c3 (k : Nat) | g (o : VOp) | G (d : Option Nat) (o : VOp) | a (d : Nat) | M (d x : Nat) | j (d : Nat) (c : Int) | J (d : Nat) (c : Opd) | K (c : Opd) | p (e s b : Nat) | Z (z : List SV) | Y (d : Nat) (z : List SV) | D (z : List SV) | X (x : Nat) | S (n : Nat) | s (n a : Nat) | T (n a v : Nat) | z | w | A | O
def d_ : List It_ -> Nat -> List Nat -> Option (Nat × Bool) -> List (Option (Nat × Bool)) -> List VOper
  | [], _, _, _, _ => []
  | .m x :: r, n, q, g, k => ⟨some n, .move (tm x), g⟩ :: d_ r (n + 1) (n :: q) g k
  | .n c :: r, n, q, g, k => ⟨some n, .move (ci c), g⟩ :: d_ r (n + 1) (n :: q) g k
  | .f o :: r, n, a :: q, g, k => ⟨some n, .fieldAddr o (tm a), g⟩ :: d_ r (n + 1) (n :: q) g k
  | .F o x :: r, n, q, g, k => ⟨some n, .fieldAddr o (tm x), g⟩ :: d_ r (n + 1) (n :: q) g k
  | .l :: r, n, a :: q, g, k => ⟨some n, .load none (tm a), g⟩ :: d_ r (n + 1) (n :: q) g k
  | .L s :: r, n, a :: q, g, k => ⟨some n, .load (some s) (tm a), g⟩ :: d_ r (n + 1) (n :: q) g k
  | .W s x :: r, n, q, g, k => ⟨some n, .load (some s) (tm x), g⟩ :: d_ r (n + 1) (n :: q) g k
  | .v :: r, n, a :: q, g, k => ⟨some n, .lenV (tm a), g⟩ :: d_ r (n + 1) (n :: q) g k
  | .h :: r, n, a :: q, g, k => ⟨some n, .lenS (tm a), g⟩ :: d_ r (n + 1) (n :: q) g k
  | .k :: r, n, a :: q, g, k => ⟨some n, .nilCheck (tm a), g⟩ :: d_ r (n + 1) (n :: q) g k
  | .u :: r, n, a :: q, g, k => ⟨some n, .un .not (tm a), g⟩ :: d_ r (n + 1) (n :: q) g k
  | .e x i :: r, n, q, g, k => ⟨some n, .extract (tm x) i, g⟩ :: d_ r (n + 1) (n :: q) g k
  | .x s :: r, n, a :: b :: q, g, k => ⟨some n, .indexAddr s (tm b) (tm a), g⟩ :: d_ r (n + 1) (n :: q) g k
  | .y :: r, n, a :: b :: q, g, k => ⟨some n, .indexS (tm b) (tm a), g⟩ :: d_ r (n + 1) (n :: q) g k
  | .b o :: r, n, a :: b :: q, g, k => ⟨some n, .bin o (tm b) (tm a), g⟩ :: d_ r (n + 1) (n :: q) g k
  | .i o c :: r, n, a :: q, g, k => ⟨some n, .bin o (tm a) (ci c), g⟩ :: d_ r (n + 1) (n :: q) g k
  | .E c :: r, n, a :: q, g, k => ⟨some n, .bin .eql (tm a) (ci c), g⟩ :: d_ r (n + 1) (n :: q) g k
  | .N c :: r, n, a :: q, g, k => ⟨some n, .bin .neq (tm a) (ci c), g⟩ :: d_ r (n + 1) (n :: q) g k
  | .P c :: r, n, a :: q, g, k => ⟨some n, .bin .add (tm a) (ci c), g⟩ :: d_ r (n + 1) (n :: q) g k
  | .U o c :: r, n, a :: q, g, k => ⟨some n, .bin o (tm a) (cu c), g⟩ :: d_ r (n + 1) (n :: q) g k
  | .t s :: r, n, a :: q, g, k => ⟨some n, .bin .eql (tm a) (cs s), g⟩ :: d_ r (n + 1) (n :: q) g k
  | .c0 f :: r, n, q, g, k => ⟨some n, .call f [], g⟩ :: d_ r (n + 1) (n :: q) g k
  | .c1 f :: r, n, a :: q, g, k => ⟨some n, .call f [tm a], g⟩ :: d_ r (n + 1) (n :: q) g k
  | .c2 f :: r, n, a :: b :: q, g, k => ⟨some n, .call f [tm b, tm a], g⟩ :: d_ r (n + 1) (n :: q) g k
  | .c3 f :: r, n, a :: b :: c :: q, g, k => ⟨some n, .call f [tm c, tm b, tm a], g⟩ :: d_ r (n + 1) (n :: q) g k
  | .g o :: r, n, q, g, k => ⟨some n, o, g⟩ :: d_ r (n + 1) (n :: q) g k
  | .G d o :: r, n, q, g, k => ⟨d, o, g⟩ :: d_ r n q g k
  | .a d :: r, n, a :: q, g, k => ⟨some d, .move (tm a), g⟩ :: d_ r n q g k
  | .M d x :: r, n, q, g, k => ⟨some d, .move (tm x), g⟩ :: d_ r n q g k
  | .j d c :: r, n, q, g, k => ⟨some d, .move (ci c), g⟩ :: d_ r n q g k
  | .J d c :: r, n, q, g, k => ⟨some d, .move c, g⟩ :: d_ r n q g k
  | .K c :: r, n, q, g, k => ⟨some n, .move c, g⟩ :: d_ r (n + 1) (n :: q) g k
  | .p e s z :: r, n, a :: b :: q, g, k => ⟨some n, .append e s z (tm b) (tm a), g⟩ :: d_ r (n + 1) (n :: q) g k
  | .Z z :: r, n, q, g, k => ⟨some n, .alloc z, g⟩ :: d_ r (n + 1) (n :: q) g k
  | .Y d z :: r, n, q, g, k => ⟨some d, .alloc z, g⟩ :: d_ r n q g k
  | .D z :: r, n, q, g, k => ⟨some n, .build z [], g⟩ :: d_ r (n + 1) (n :: q) g k
  | .X x :: r, n, q, g, k => ⟨some n, .box (tm x), g⟩ :: d_ r (n + 1) (n :: q) g k
  | .S s :: r, n, a :: b :: q, g, k => ⟨none, .store s (tm b) (tm a), g⟩ :: d_ r n q g k
  | .s s x :: r, n, a :: q, g, k => ⟨none, .store s (tm x) (tm a), g⟩ :: d_ r n q g k
  | .T s x y :: r, n, q, g, k => ⟨none, .store s (tm x) (tm y), g⟩ :: d_ r n q g k
  | .z :: r, n, a :: q, g, k => ⟨some n, .move (tm a), g⟩ :: d_ r (n + 1) q (some (n, true)) (g :: k)
  | .w :: r, n, a :: q, g, k => ⟨some n, .move (tm a), g⟩ :: d_ r (n + 1) q (some (n, false)) (g :: k)
  | .A :: r, n, a :: q, some (b, _), g :: k => ⟨some n, .pick (tm b) (tm a) (cb false), g⟩ :: d_ r (n + 1) (n :: q) g k
  | .O :: r, n, a :: q, some (b, _), g :: k => ⟨some n, .pick (tm b) (cb true) (tm a), g⟩ :: d_ r (n + 1) (n :: q) g k
  | _, _, _, _, _ => []
def D_ (l : List It_) (n : Nat) : List VOper := d_ l n [] none []
def R_ (n e : Nat) (l : List It_) (b : VCode) : VCode := .seq (.region (D_ l n) .text [n, e]) b
def V_ (n e : Nat) (l : List It_) (b : VCode) : VCode := .seq (.region (D_ l n) .text [n - 1, e]) b
def Q_ (n : Nat) (l : List It_) (b : VCode) : VCode := .seq (.region (D_ l n) .text []) b
def G_ (n : Nat) (l : List It_) (d : List Nat) (b : VCode) : VCode := .seq (.region (D_ l n) .text d) b
def C_ (n e : Nat) (l : List It_) (a b : VCode) : VCode := .seq (.region (D_ l n) .text [n, e]) (.cond (tm (e + 1)) a b)
def X_ (n e : Nat) (l : List It_) : VCode := .region (D_ l n) .text [n, e]
def Y_ (n : Nat) (l : List It_) : VCode := .region (D_ l n) .text []
def c_ (k : Nat) (a b : VCode) : VCode := .cond (tm k) a b
attribute [simp] d_ R_ V_ Q_ G_ C_ X_ Y_ c_ D_ z_
def z_1:List SV:=z_ [.s,.s,.u,.i,.u,.i,.u,.i,.i,.u,.i,.i,.i,.b,.u,.i,.i,.u,.i,.n,.n,.n,.n,.n,.n,.n,.n,.n,.i,.n,.n,.u,.i,.b]
def z_2:List SV:=z_ [.u,.i,.i,.u,.i,.n,.n,.n,.n,.n,.n,.n,.n,.n,.i]
def z_3:List SV:=z_ [.s,.n,.s]
def z_4:List SV:=z_ [.u,.i]
def z_5:List SV:=z_ [.u,.i,.u,.i,.i,.u,.i,.n,.n,.n,.n,.n,.n,.n,.n,.n,.i,.n,.n]
def z_6:List SV:=z_ [.s,.n]
def z_7:List SV:=z_ [.i,.i]
def z_8:List SV:=z_ [.u,.s]
def z_9:List SV:=z_ [.s]
attribute [simp] z_1 z_2 z_3 z_4 z_5 z_6 z_7 z_8 z_9
theorem fK_ {P:Program}{k:FuncId}{v:VCode}{j:List VRes}{n:Nat}{e:Func}(h:P.funcs[k]?=some e)(l:e.name≠"runtime.NumGoroutine":=by decide)(f:e.body.bind (comp P)=some v.strip:=by kernel_rfl)(m:v.bnd n=true:=by kernel_rfl)(o:cK P e.results.toList=some j:=by kernel_rfl)(p:e.ntmps=n:=by rfl):FnOk P k v j n:=by
 cases i:e.body with
 |none=>rw[i] at f;cases f
 |some c=>rw[i] at f;exact⟨⟨e,c,h,l,i,f,m,o,p⟩⟩
end Go.Vs
