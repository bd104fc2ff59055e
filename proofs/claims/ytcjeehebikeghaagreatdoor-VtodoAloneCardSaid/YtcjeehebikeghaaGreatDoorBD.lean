/- A part of a proof. No conditions. -/
import Derived.Test.YtcjeehebikeghaaGreatDoorBC
import Derived.ChangeArms
import Derived.OpenShut
import Derived.ChangeShapes
import Derived.ChangeSame
import Derived.Carry
import Derived.Below
import Derived.RowKit
import Derived.ProofKit
import Derived.Handed
import Derived.JoinedOf
import Derived.WideKeyArgs
import Derived.LaidLaws
import Derived.LaidHandle
import Derived.Stop.Joined
import Derived.Lay
set_option linter.unusedVariables false
set_option linter.unusedSimpArgs false
namespace Go.Vs

def cR(σ σ':St):Prop:=∀(w0:World) (S0:aO) (M:Ctx) (a:Act) (w:World),cE w0 S0 M σ a w->cE w0 S0 M σ' a w
theorem cR.refl(σ:St):cR σ σ:=fun _ _ _ _ _ h=>h
theorem cR.trans{a b c:St}(h:cR a b)(k:cR b c):cR a c:=fun w0 S0 M x w s=>k w0 S0 M x w (h w0 S0 M x w s)

def qQ:List Nat->Nat->Bool
 |lo::hi::r,k=>bif decide (lo<=k)then (bif decide (k<=hi)then true else qQ r k)else qQ r k
 |_,_=>false
def iM(dead:List Nat):List (Nat×SV)->List (Nat×SV)
 |[]=>[]
 |(k,v)::r=>bif qQ dead k then iM dead r else (k,v)::iM dead r
def St.drop(σ:St)(dead:List Nat):St:={σ with env:=iM dead σ.env }
theorem GX(dead:List Nat)(env:List (Nat×SV))(k:Nat):aC (iM dead env) k=.undef\/aC (iM dead env) k=aC env k:=by
 induction env with
 |nil=>exact .inl rfl
 |cons p r ih=>
  obtain⟨j,v⟩:=p
  have hd:∀(l:List (Nat×SV)),qQ dead k=true->aC (iM dead l) k=.undef:=by
   intro l hk
   induction l with
   |nil=>rfl
   |cons q s ih=>
    obtain⟨i,u⟩:=q;simp only[iM];cases hi:qQ dead i with
    |true=>exact ih
    |false=>
     have:(i==k)=false:=by
      cases h:i==k with
      |false=>rfl
      |true=>rw[beq_iff_eq]at h;subst h;rw[hk]at hi;simp at hi
     simp only[cond_false,aC,ac,this];exact ih
  cases hk:qQ dead k with
  |true=>exact .inl (hd _ hk)
  |false=>
   simp only[iM];cases hj:qQ dead j with
   |true=>
    have:(j==k)=false:=by
     cases h:j==k with
     |false=>rfl
     |true=>rw[beq_iff_eq]at h;subst h;rw[hk]at hj;simp at hj
    simp only[cond_true,aC,ac,this,cond_false];exact ih
   |false=>
    simp only[cond_false,aC,ac];cases j==k with
    |true=>exact .inr rfl
    |false=>exact ih
theorem lX(σ:St)(dead:List Nat):cR σ (σ.drop dead):=by
 rintro w0 S0 M a w ⟨S,μ,β,h⟩;exact⟨S,μ,β,h.drop rfl rfl (fun _ _ _ x=>x) (fun k=>GX dead σ.env k) (fun _ _ x=>x)⟩

def xA(w0:World)(S0:aO)(M:Ctx)(N:Nat)(Q:Exit->St->Prop):Exit->Act->World->Prop
 |.panic _,_,_=>False
 |.outgrown,_,_=>False
 |e,a,w=>∃σ,Q e σ/\σ.n=N/\cE w0 S0 M σ a w

def T(P:Program)(c:Code)(Q:Exit->St->Prop)(σ:St):Prop:=∀(w0:World) (S0:aO) (M:Ctx) (a:Act) (w:World),cE w0 S0 M σ a w->c.wp P (xA w0 S0 M σ.n Q) a w

def nY(n:Nat):List VOper->Bool
 |[]=>true
 |o::r=>(match o.dst with
  |some d=>decide (d<n)
  |none=>true)&&nY n r
def VCode.bnd(n:Nat):VCode->Bool
 |.region ops mode _=>nY n ops&&(match mode with
  |.drawnM _ _=>uW (aI ops)
  |_=>true)
 |.seq a b=>a.bnd n&&b.bnd n
 |.cond _ a b=>a.bnd n&&b.bnd n
 |.block _ a=>a.bnd n
 |.loop a=>a.bnd n
 |.scope a=>a.bnd n
 |.cut a=>a.bnd n
 |_=>true
theorem gI{n:Nat} : ∀ {l:List VOper},nY n l=true->∀v∈l,∀d,v.dst=some d->d<n
 |[],_,v,hv=>by simp at hv
 |o::r,h,v,hv=>by
  simp only[nY,Bool.and_eq_true]at h;intro d hd;rcases List.mem_cons.1 hv with rfl|hv
  ·rw[hd]at h;simpa using h.1
  ·exact gI h.2 v hv d hd

def TV(P:Program)(v:VCode)(Q:Exit->St->Prop)(σ:St):Prop:=∀c,comp P c=some v.strip->v.bnd σ.n=true->T P c Q σ

def lE(P:Program)(K:St->Prop):List VOper->St->Prop
 |[],σ=>K σ
 |o::r,σ=>match o.guard with
  |none=>cT P σ o.dst (fun u=>lE P K r (σ.apply o.dst u)) o.op
  |some (g,b)=>match iG (aC σ.env g)with
   |some c=>(c=some b->cT P σ o.dst (fun u=>lE P K r (σ.apply o.dst u)) o.op)/\(¬c=some b->lE P K r (σ.apply o.dst gd))
   |none=>False
theorem wM{P:Program}{K:St->Prop} : ∀ {l:List VOper} {σ:St},lE P K l σ->∃es' σf,jp P l σ es' σf/\K σf
 |[],σ,h=>⟨[],σ,⟨rfl,rfl⟩,h⟩
 |o::r,σ,h=>by
  simp only[lE]at h
  have act:cT P σ o.dst (fun u=>lE P K r (σ.apply o.dst u)) o.op->∃e es' σf,Ex P σ o e/\jp P r (σ.apply e.dst e.u) es' σf/\K σf:=by
   intro h1;obtain⟨u,hu,hr⟩:=Bs h1;obtain⟨es',σf,h2,h3⟩:=wM hr;exact⟨⟨e9 σ o.op u,o.dst,u⟩,es',σf,⟨hu,rfl,rfl⟩,h2,h3⟩
  split at h
  ·next hg=>
   obtain⟨e,es',σf,h1,h2,h3⟩:=act h;exact⟨e::es',σf,⟨e,es',rfl,by unfold f3;rw[hg];exact h1,h2⟩,h3⟩
  ·next g b hg=>
   split at h
   ·next c hc=>
    by_cases hcb:c=some b
    ·obtain⟨e,es',σf,h1,h2,h3⟩:=act (h.1 hcb);exact⟨e::es',σf,⟨e,es',rfl,by unfold f3;rw[hg];exact⟨c,hc,.inl ⟨hcb,h1⟩⟩,h2⟩,h3⟩
    ·obtain⟨es',σf,h2,h3⟩:=wM (h.2 hcb);exact⟨⟨[],o.dst,gd⟩::es',σf,⟨_,es',rfl,by unfold f3;rw[hg];exact⟨c,hc,.inr ⟨hcb,rfl⟩⟩,h2⟩,h3⟩
   ·exact h.elim

def IL(P:Program)(σ:St)(dst:Option Nat)(f:SV)(args:List Opd)(K:St->Prop):Prop:=
 ∃k vals mc ρ fz,IK σ f args=some (k,vals)/\mP σ.gl P k mc/\Ue σ ρ mc=true/\uY σ.objs ρ mc.objs/\uX σ.objs ρ vals mc.args fz/\Ud ρ fz mc.objs=true/\K (σ.mapply dst ρ mc fz)
def jK(P:Program)(σ:St)(dst:Option Nat)(K:St->Prop):VOp->Prop
 |.callM f args=>IL P σ dst (.val (.fn f [])) args K
 |.callMV f args=>IL P σ dst (val σ f) args K
 |op=>cT P σ dst (fun u=>K (σ.apply dst u)) op
def gg(P:Program)(K:St->Prop):List VOper->St->Prop
 |[],σ=>K σ
 |o::r,σ=>match o.guard with
  |none=>jK P σ o.dst (gg P K r) o.op
  |some (g,b)=>match iG (aC σ.env g)with
   |some c=>(c=some b->jK P σ o.dst (gg P K r) o.op)/\(¬c=some b->gg P K r (σ.apply o.dst gd))
   |none=>False

theorem Pe{σ:St}{dst:Option Nat}{ρ:List (Nat×Nat)}{c:MC}{fz:List Nat} : (σ.mapply dst ρ c fz).n=σ.n:=rfl

theorem Nb{P:Program}{w0 w:World}{S0:aO}{M:Ctx}{σ:St}{a:Act}{o:Oper}(h:cE w0 S0 M σ a w)(hd:∀d,o.dst=some d->d<σ.n){vo:VOp}(hc:lr P o.op=some vo.strip){K:St->Prop}(hu:jK P σ o.dst K vo){next:Act->World->Prop}{Q:Exit->Act->World->Prop}
  (hn:∀σ' a' w',K σ'->σ'.n=σ.n->cE w0 S0 M σ' a' w'->next a' w'):o.wp P a w next Q:=by
 have turns:∀ {f:SV} {args:List Opd} {c:Call} {f':Operand},o.op=.call c->c.callee=.value f'->cP c.args.toList=some args->(∀S μ β,SimG w0 S0 M σ a w S μ β->ar w S μ σ.objs f (a.eval f'))->IL P σ o.dst f args K->o.wp P a w next Q:=by
  intro f args c f' ho hcl hargs hf ⟨k,vals,mc,ρ,fz,h1,h2,h3,h4,h5,h6,h7⟩;obtain⟨S,μ,β,hg⟩:=h;exact Pd hg hd ho hcl (hf S μ β hg) hargs h1 h2 h3 h4 h5 h6 (fun v w' hs=>hn _ _ _ h7 Pe hs)
 have plain:cT P σ o.dst (fun u=>K (σ.apply o.dst u)) vo->lr P o.op=some vo->o.wp P a w next Q:=by
  intro h1 h2;obtain⟨u,hr,hk⟩:=Bs h1;exact Iy h hd h2 hr (fun v w' hs=>hn _ _ _ hk qM hs)
 cases vo
 case callM f args=>
  obtain⟨c,ho,hcc⟩:=m9 hc (.inl ⟨_,_,rfl⟩);obtain⟨hcl,hargs⟩:=(iK hcc).1 _ _ rfl;exact turns (f:=.val (.fn f [])) ho hcl hargs (fun S μ β hg=>⟨#[],rfl,rfl⟩) hu
 case callMV f args=>
  obtain⟨c,ho,hcc⟩:=m9 hc (.inr ⟨_,_,rfl⟩);obtain⟨f',hcl,hf,hargs⟩:=(iK hcc).2 _ _ rfl;exact turns ho hcl hargs (fun S μ β hg=>ak hg hf) hu
 all_goals exact plain hu hc

theorem gP:∀ {l:List VOper} {i:Nat},(aI l)[i]?=(l[i]?).map VOper.strip
 |[],i=>by simp[aI]
 |o::r,0=>rfl
 |o::r,i+1=>by simpa[aI]using gP (l:=r) (i:=i)
theorem fu:∀ {l:List VOper},(aI l).length=l.length
 |[]=>rfl
 |o::r=>by simp[aI,fu (l:=r)]

theorem ma{P:Program}{w0:World}{S0:aO}{M:Ctx}{ops:Array Oper}{i:Nat}{o:Oper}{v:VOper}(ho:ops[i]?=some o)(hv:gW P ops o=some v.strip){σ:St}{a:Act}{w:World}(h:cE w0 S0 M σ a w)(hd:∀d,v.dst=some d->d<σ.n){K:St->Prop}{r:List VOper}(hs:gg P K (v::r) σ)
  {Q:Exit->Act->World->Prop} {N:Act->World->Prop} (hK:∀σ' a' w',gg P K r σ'->σ'.n=σ.n->cE w0 S0 M σ' a' w'->N a' w'):wpOp P ops Q i N a w:=by
 obtain⟨hdst,hop,hg⟩:=eE hv;have hdst:v.dst=o.dst:=hdst;have hop:lr P o.op=some v.op.strip:=hop;have hg:gb ops o.guard=some v.guard:=hg
 have run:jK P σ v.dst (gg P K r) v.op->o.wp P a w N Q:=by
  intro h1;exact Nb h (fun d hd'=>hd d (by rw[hdst];exact hd')) hop (by rw[<-hdst];exact h1) hK
 unfold wpOp;rw[ho];dsimp only;simp only[gg]at hs;cases hgo:o.guard with
 |none=>
  have:v.guard=none:=by rw[hgo]at hg;simpa[gb]using hg.symm
  rw[this]at hs;have hw:Region.wanted o (yielded ops a.tmps)=true:=by simp[Region.wanted,hgo]
  rw[if_pos hw];exact .inl (run hs)
 |some p=>
  obtain⟨j,b⟩:=p;rw[hgo]at hg;simp only[gb]at hg;split at hg
  ·next d hd'=>
   have hvg:v.guard=some (d,b):=by simpa using hg.symm
   rw[hvg]at hs;dsimp only at hs;split at hs
   ·next c hc=>
    have hy:yielded ops a.tmps j=c:=qN hd' h hc;have hw:Region.wanted o (yielded ops a.tmps)=(c==some b):=by simp[Region.wanted,hgo,hy]
    rw[hw];by_cases hcb:c=some b
    ·rw[if_pos (by simpa using hcb)];exact .inl (run (hs.1 hcb))
    ·rw[if_neg (by simpa using hcb)];refine hK _ _ _ (hs.2 hcb) qM ?_;obtain⟨S,μ,β,h'⟩:=h;rw[<-hdst];exact⟨S,μ,β,h'.putD (sv:=.val (.tuple [])) hd ⟨#[],rfl,rfl⟩⟩
   ·exact hs.elim
  ·simp at hg

theorem GY{P:Program}{w0:World}{S0:aO}{M:Ctx}{ops:Array Oper}{vs:List VOper}(hc:bO P ops ops.toList=some (aI vs)){σ:St}{a:Act}{w:World}(h:cE w0 S0 M σ a w)(hd:∀v∈vs,∀d,v.dst=some d->d<σ.n){K:St->Prop}(hs:gg P K vs σ)
  {Q:Exit->Act->World->Prop} (hQ:∀σ' a' w',K σ'->σ'.n=σ.n->cE w0 S0 M σ' a' w'->Q .normal a' w'):wpOps P ops Q (List.range ops.size) a w:=by
 obtain⟨hlen,hget⟩:=cQ hc;rw[fu]at hlen
 have key:∀(l:List VOper) (k:Nat) (σ':St) (a:Act) (w:World),(∀i,l[i]?=vs[k+i]?)->σ'.n=σ.n->cE w0 S0 M σ' a w->(∀v∈l,∀d,v.dst=some d->d<σ.n)->gg P K l σ'->wpOps P ops Q (List.range' k l.length) a w:=by
  intro l
  induction l with
  |nil=>
   intro k σ' a w _ hn h _ hs;exact hQ σ' a w hs hn h
  |cons v r ih=>
   intro k σ' a w hl hn h hd hs;have hv:vs[k]?=some v:=by simpa using (hl 0).symm
   have hk:k<ops.toList.length:=by
    rw[<-hlen];rcases Nat.lt_or_ge k vs.length with hh|hh
    ·exact hh
    ·simp[List.getElem?_eq_none hh]at hv
   obtain⟨v',hv',hcv⟩:=hget k ops.toList[k] (List.getElem?_eq_getElem hk);rw[gP,hv]at hv';obtain rfl:v'=v.strip:=(O_ hv').symm;simp only[List.length_cons,List.range'_succ];rw[wpOps_cons];refine ma (o:=ops.toList[k]) (by rw[<-Array.getElem?_toList];exact List.getElem?_eq_getElem hk) hcv h (fun d hdd=>by rw[hn];exact hd v (by simp) d hdd) hs (fun σ'' a' w' h1 hn' h'=>?_);exact ih (k+1) σ'' a' w' (fun i=>by have:=hl (i+1);simpa[Nat.add_assoc,Nat.add_comm 1 i]using this) (hn'.trans hn) h' (fun x hx d hxd=>hd x (List.mem_cons_of_mem _ hx) d hxd) h1
 have:=key vs 0 σ a w (by simp) rfl h hd hs;rw[List.range_eq_range',show ops.size=vs.length by rw[hlen];simp];exact this

theorem kx{P:Program} : ∀ {l:List VOper} {σ σf:St} {es:List Eff},jp P l σ es σf->jp P (aI l) σ es σf
 |[],_,_,_,h=>h
 |o::r,σ,σf,es,⟨e,es',h1,h2,h3⟩=>by
  refine⟨e,es',h1,?_,kx h3⟩
  have act:Ex P σ o e->Ex P σ o.strip e:=by
   rintro⟨k1,k2,k3⟩
   have:o.op.strip=o.op:=by
    cases hop:o.op<;>first|rfl|(exfalso;rw[hop]at k1;simp[xu,ev]at k1)
   refine⟨?_,?_,k3⟩
   ·show xu P σ o.dst e.u o.op.strip;rw[this];exact k1
   ·show e.ids=e9 σ o.op.strip e.u;rw[this];exact k2
  unfold f3 at h2 |-;have hg:o.strip.guard=o.guard:=rfl;rw[hg];split at h2
  ·exact act h2
  ·obtain⟨c,q1,q2⟩:=h2;exact⟨c,q1,q2.imp (fun q=>⟨q.1,act q.2⟩) (fun q=>q)⟩

def cutP(n:Nat)(ps:List (Nat×Nat)):List (Nat×Nat):=ps.filter fun p=>decide (p.1<n)&&decide (p.2<n)
def oY(P:Program)(K:St->Prop)(σ0:St)(ps ms:List (Nat×Nat)):List VOper->St->List Eff->Prop
 |[],_,_=>False
 |[o],σ,es=>sI σ0 (cutP es.length ps) (cutP es.length ms) es=true/\gg P K [o] σ
 |o::o2::r,σ,es=>match o.guard with
  |none=>cT P σ o.dst (fun u=>oY P K σ0 ps ms (o2::r) (σ.apply o.dst u) (es++[⟨e9 σ o.op u,o.dst,u⟩])) o.op
  |some _=>False
theorem sM{P:Program}{K:St->Prop}{σ0:St}{ps ms:List (Nat×Nat)} : ∀ {l:List VOper} {σ:St} {es:List Eff},oY P K σ0 ps ms l σ es->∃vs last es' σf,l=vs++[last]/\jp P vs σ es' σf/\sI σ0 (cutP (es++es').length ps) (cutP (es++es').length ms) (es++es')=true/\gg P K [last] σf
 |[],_,_,h=>h.elim
 |[o],σ,es,h=>⟨[],o,[],σ,rfl,⟨rfl,rfl⟩,by rw[List.append_nil];exact h.1,h.2⟩
 |o::o2::r,σ,es,h=>by
  simp only[oY]at h;split at h
  ·next hg=>
   obtain⟨u,hu,hr⟩:=Bs h;obtain⟨vs,last,es',σf,h1,h2,h3,h4⟩:=sM hr;exact⟨o::vs,last,⟨e9 σ o.op u,o.dst,u⟩::es',σf,by rw[h1];rfl,⟨_,es',rfl,by unfold f3;rw[hg];exact⟨hu,rfl,rfl⟩,h2⟩,by simpa using h3,h4⟩
  ·exact h.elim

def pw(P:Program):VCode->(Exit->St->Prop)->St->Prop
 |.skip,Q,σ=>Q .normal σ
 |.region ops mode dead,Q,σ=>match mode with
  |.text=>gg P (fun σ'=>Q .normal (σ'.drop dead)) ops σ
  |.calm=>lE P (fun σ'=>Q .normal (σ'.drop dead)) ops σ
  |.drawn fJ makes=>lC P (fun es σ'=>sI σ fJ makes es=true/\Q .normal (σ'.drop dead)) ops σ []
  |.drawnM fJ makes=>oY P (fun σ'=>Q .normal (σ'.drop dead)) σ fJ makes ops σ []
 |.seq a b,Q,σ=>pw P a (fun e σ'=>match e with
  |.normal=>pw P b Q σ'
  |e=>Q e σ') σ
 |.cond c a b,Q,σ=>match val σ c with
  |.val (.bool t)=>(t=true->pw P a Q σ)/\(t=false->pw P b Q σ)
  |.anyB=>pw P a Q σ/\pw P b Q σ
  |_=>False
 |.block id a,Q,σ=>pw P a (fun e σ'=>match e with
  |.exit i=>if i=id then Q .normal σ' else Q (.exit i) σ'
  |e=>Q e σ') σ
 |.loop a,Q,σ=>TV P (.loop a) Q σ
 |.exit id,Q,σ=>Q (.exit id) σ
 |.scope a,Q,σ=>TV P (.scope a) Q σ
 |.label _,Q,σ=>Q .normal σ
 |.goto l,Q,σ=>Q (.goto l) σ
 |.ret,Q,σ=>Q .ret σ
 |.refuse,_,_=>False
 |.cut a,Q,σ=>TV P a Q σ

theorem fA{P:Program}{c:Code}{ops:List VOper}{mode:RMode}(h:comp P c=some (.region ops mode [])) :
  ∃id os draw,c=.region id os draw/\bO P os os.toList=some ops/\((draw=false/\mode=.text)\/(draw=true/\∃ps ms,iA os ops.toArray=some (ps,ms)/\((mode=.calm/\ps=[]/\ops.all (fun v=>!v.op.makes)=true)\/mode=.drawn ps ms))):=by
 cases c with
 |region id os draw=>
  simp only[comp]at h;split at h
  ·next vs hv=>
   split at h
   ·next hd=>
    split at h
    ·next ps ms hp=>
     split at h
     ·next hcalm=>
      simp only[E_,VCode.region.injEq]at h;obtain⟨rfl,rfl,_⟩:=h;simp only[Bool.and_eq_true,List.isEmpty_iff]at hcalm;exact⟨id,os,draw,rfl,hv,.inr ⟨by simpa using hd,ps,ms,hp,.inl ⟨rfl,hcalm.1,hcalm.2⟩⟩⟩
     ·simp only[E_,VCode.region.injEq]at h;obtain⟨rfl,rfl,_⟩:=h;exact⟨id,os,draw,rfl,hv,.inr ⟨by simpa using hd,ps,ms,hp,.inr rfl⟩⟩
    ·simp at h
   ·next hd=>
    simp only[E_,VCode.region.injEq]at h;obtain⟨rfl,rfl,_⟩:=h;exact⟨id,os,draw,rfl,hv,.inl ⟨by simpa using hd,rfl⟩⟩
  ·simp at h
 |skip=>simp[comp]at h
 |seq a b=>simp only[comp]at h;split at h<;>simp at h
 |cond c a b=>simp only[comp]at h;split at h<;>simp at h
 |block id a=>simp only[comp,Option.map_eq_some_iff]at h;obtain⟨_,_,h⟩:=h;simp at h
 |loop a=>simp only[comp,Option.map_eq_some_iff]at h;obtain⟨_,_,h⟩:=h;simp at h
 |rangeFunc f p a b=>simp[comp]at h
 |exit id=>simp[comp]at h
 |scope a=>simp only[comp,Option.map_eq_some_iff]at h;obtain⟨_,_,h⟩:=h;simp at h
 |label l=>simp[comp]at h
 |goto l=>simp[comp]at h
 |ret=>simp[comp]at h
 |refuse w=>simp[comp]at h

theorem aZ{P:Program}{c:Code}{v:VCode}(h:comp P c=some v):match v with
  |.skip=>c=.skip
  |.region ops mode dead=>dead=[]
  |.seq x y=>∃a b,c=.seq a b/\comp P a=some x/\comp P b=some y
  |.cond u x y=>∃o a b,c=.cond o a b/\ai o=some u/\comp P a=some x/\comp P b=some y
  |.block id x=>∃a,c=.block id a/\comp P a=some x
  |.loop x=>∃a,c=.loop a/\comp P a=some x
  |.exit id=>c=.exit id
  |.scope x=>∃a,c=.scope a/\comp P a=some x
  |.label l=>c=.label l
  |.goto l=>c=.goto l
  |.ret=>c=.ret
  |.refuse=>∃why,c=.refuse why
  |.cut _=>False:=by
 cases c with
 |region id os draw=>
  simp only[comp]at h;split at h
  ·split at h
   ·split at h
    ·split at h<;>(obtain rfl:=O_ h;rfl)
    ·simp at h
   ·obtain rfl:=O_ h;rfl
  ·simp at h
 |skip=>obtain rfl:=O_ h;rfl
 |seq a b=>
  simp only[comp]at h;split at h
  ·next x y h1 h2=>obtain rfl:=O_ h;exact⟨a,b,rfl,h1,h2⟩
  ·simp at h
 |cond o a b=>
  simp only[comp]at h;split at h
  ·next u x y h0 h1 h2=>obtain rfl:=O_ h;exact⟨o,a,b,rfl,h0,h1,h2⟩
  ·simp at h
 |block id a=>simp only[comp,Option.map_eq_some_iff]at h;obtain⟨x,hx,rfl⟩:=h;exact⟨a,rfl,hx⟩
 |loop a=>simp only[comp,Option.map_eq_some_iff]at h;obtain⟨x,hx,rfl⟩:=h;exact⟨a,rfl,hx⟩
 |rangeFunc f p a b=>simp[comp]at h
 |exit id=>obtain rfl:=O_ h;rfl
 |scope a=>simp only[comp,Option.map_eq_some_iff]at h;obtain⟨x,hx,rfl⟩:=h;exact⟨a,rfl,hx⟩
 |label l=>obtain rfl:=O_ h;rfl
 |goto l=>obtain rfl:=O_ h;rfl
 |ret=>obtain rfl:=O_ h;rfl
 |refuse w=>obtain rfl:=O_ h;exact⟨w,rfl⟩


theorem xB{P:Program} : ∀ {l:List VOper} {σ σf:St} {es:List Eff},jp P l σ es σf->σf.n=σ.n
 |[],_,_,_,⟨_,h⟩=>by rw[h]
 |_::_,σ,σf,_,⟨e,_,_,_,h⟩=>by rw[xB h,qM]

def wN(P:Program)(c:Code)(Q:Exit->St->Prop)(σ:St):Prop:=∃id os draw,c=.region id os draw/\∀(w0:World) (S0:aO) (M:Ctx) (a:Act) (w:World),cE w0 S0 M σ a w->
 (draw=false->wpOps P os (xA w0 S0 M σ.n Q) (List.range os.size) a w)/\(draw=true->wpAny P .any os (xA w0 S0 M σ.n Q) os.size (Array.replicate os.size false) a {w with drawn:=w.drawn+1 })
theorem wN.t{P:Program}(hm:P.follows .mixedOrders=true){c:Code}{Q:Exit->St->Prop}{σ:St}(h:wN P c Q σ):T P c Q σ:=by
 obtain⟨id,os,draw,rfl,h⟩:=h;intro w0 S0 M a w hs;have:=h w0 S0 M a w hs;cases draw with
 |false=>exact wp_region (this.1 rfl)
 |true=>exact wp_region_any hm (this.2 rfl)
theorem pv{P:Program}(hm:P.follows .mixedOrders=true){c:Code}{ops:List VOper}{mode:RMode}{dead:List Nat}(hc:comp P c=some (.region (aI ops) mode [])){Q:Exit->St->Prop}{σ:St}(hb:nY σ.n ops=true)(h:pw P (.region ops mode dead) Q σ):wN P c Q σ:=by
 obtain⟨id,os,draw,rfl,hv,hmode⟩:=fA hc;refine⟨id,os,draw,rfl,?_⟩;intro w0 S0 M a w hs;have hd:=gI hb
 have hd':∀v∈aI ops,∀d,v.dst=some d->d<σ.n:=by
  intro v hv d hdd;obtain⟨i,hi⟩:=List.getElem?_of_mem hv;rw[gP]at hi;cases ho:ops[i]? with
  |none=>rw[ho]at hi;simp at hi
  |some x=>
   rw[ho]at hi;simp only[Option.map_some,E_]at hi;subst hi;exact hd x (List.mem_of_getElem? ho) d hdd
 have post:∀ {es:List Eff} {σf:St},jp P (aI ops) σ es σf->Q .normal (σf.drop dead)->∀a' w',cE w0 S0 M σf a' w'->xA w0 S0 M σ.n Q .normal a' w':=fun h1 hq a' w' hs'=>⟨_,hq,(by have:=xB h1;exact this),lX _ _ _ _ _ _ _ hs'⟩
 have hdrew:cE w0 S0 M σ a {w with drawn:=w.drawn+1 }:=by
  obtain⟨S,μ,β,hg⟩:=hs;exact⟨S,μ,β,hg.world (w':={w with drawn:=w.drawn+1 }) ⟨fun _ _ _=>rfl,fun _ _ h=>h⟩ (fun _ _ x=>x) (fun _ _ _ _ _=>rfl) (fun _ _ _ _ _ _ x=>x) hg.stab (fun _ _ x=>.inl x) ⟨hg.kept.os,hg.kept.tape,hg.kept.output,hg.kept.size,hg.kept.block,hg.kept.shape⟩⟩
 rcases hmode with⟨rfl,rfl⟩|⟨rfl,ps,ms,hp,hmode⟩
 ·refine⟨fun _=>GY (K:=fun σ'=>Q .normal (σ'.drop dead)) hv hs hd (by simpa only [pw]using h) (fun σ' a' w' hq hn hs'=>⟨_,hq,hn,lX _ _ _ _ _ _ _ hs'⟩),fun h=>by cases h⟩
 ·rcases hmode with⟨rfl,rfl,hnm⟩|rfl
  ·obtain⟨es,σf,h1,h2⟩:=wM (by simpa only [pw]using h);replace h1:=kx h1;refine⟨fun h=>(by cases h),fun _=>Cf hv hp hdrew hd' h1 ?_ (post h1 h2)⟩;obtain⟨_,hidx,hel⟩:=ge 0 h1;have hall:=qh 0 h1
   have hmsnil:ms=[]:=by
    unfold iA at hp;simp only at hp;split at hp
    ·simp only[E_,Prod.mk.injEq]at hp;rw[<-hp.2,List.flatMap_eq_nil_iff];intro k hk;cases hvk:(aI ops).toArray[k]? with
     |none=>rfl
     |some vk=>
      have hmem:vk∈aI ops:=List.mem_of_getElem? (by simpa using hvk);have:=List.all_eq_true.1 hnm vk hmem;simp only[Bool.not_eq_true']at this;simp[this]
    ·simp at hp
   subst hmsnil;unfold sI;simp only[List.all_nil,Bool.true_and,List.all_eq_true];intro e he;obtain⟨i,hi,hei⟩:=List.mem_iff_getElem.1 he
   have:e.newId=none:=by
    cases hn:e.newId with
    |none=>rfl
    |some d=>
     exfalso;obtain⟨⟨o,ho⟩,_⟩:=pu.1 hn
     have hmemI:∃p∈iB 0 (aI ops) es,p.e=e:=by
      have:∀(k:Nat) (l:List VOper) (es:List Eff),es.length=l.length->e∈es->∃p∈iB k l es,p.e=e:=by
       intro k l
       induction l generalizing k with
       |nil=>intro es hl he;simp at hl;subst hl;simp at he
       |cons o r ih=>
        intro es hl he;cases es with
        |nil=>simp at he
        |cons x es=>
         rcases List.mem_cons.1 he with rfl|he
         ·exact⟨⟨k,o,e⟩,by simp[iB],rfl⟩
         ·obtain⟨p,hp,hpe⟩:=ih (k+1) es (by simpa using hl) he;exact⟨p,by simp[iB,hp],hpe⟩
      exact this 0 (aI ops) es hel he
     obtain⟨p,hp',rfl⟩:=hmemI;obtain⟨σ1,s1⟩:=hall p hp';have hmk:=(uA s1).2.1 (by rw[ho];simp);obtain⟨_,h3,_⟩:=zn hel hp';have:=List.all_eq_true.1 hnm p.o (List.mem_of_getElem? h3);rw[hmk]at this;simp at this
   rw[this]
  ·obtain⟨es,σf,h1,h2⟩:=wJ (by simpa only [pw]using h);simp only[List.nil_append]at h2;replace h1:=kx h1;exact⟨fun h=>(by cases h),fun _=>Cf hv hp hdrew hd' h1 h2.1 (post h1 h2.2)⟩

theorem rM{a b:List VOper} : aI (a++b)=aI a++aI b:=by
 induction a with
 |nil=>rfl
 |cons o r ih=>simp[aI,ih]
theorem uZ{n:Nat}{a b:List VOper}(h:nY n (a++b)=true):nY n a=true/\nY n b=true:=by
 induction a with
 |nil=>exact⟨rfl,h⟩
 |cons o r ih=>
  simp only[List.cons_append,nY,Bool.and_eq_true]at h |-;exact⟨⟨h.1,(ih h.2).1⟩,(ih h.2).2⟩
theorem xC{P:Program}(hm:P.follows .mixedOrders=true){c:Code}{ops:List VOper}{mode:RMode}{dead:List Nat}(hc:comp P c=some (.region (aI ops) mode.strip [])){Q:Exit->St->Prop}{σ:St}(hb:(VCode.region ops mode dead).bnd σ.n=true)(h:pw P (.region ops mode dead) Q σ):wN P c Q σ:=by
 simp only[VCode.bnd,Bool.and_eq_true]at hb;obtain⟨hb,hfl⟩:=hb;cases mode with
 |text=>exact pv hm hc hb h
 |calm=>exact pv hm hc hb h
 |drawn ps ms=>exact pv hm hc hb h
 |drawnM ps ms=>
  obtain⟨id,os,draw,rfl,hv,hmode⟩:=fA hc;rcases hmode with⟨_,h0⟩|⟨rfl,ps',ms',hp,⟨h0,_⟩|h0⟩
  ·simp[RMode.strip]at h0
  ·simp[RMode.strip]at h0
  ·simp only[RMode.strip,RMode.drawn.injEq]at h0;obtain⟨rfl,rfl⟩:=h0;refine⟨id,os,true,rfl,?_⟩;intro w0 S0 M a w hs
   have hdrew:cE w0 S0 M σ a {w with drawn:=w.drawn+1 }:=by
    obtain⟨S,μ,β,hg⟩:=hs;exact⟨S,μ,β,hg.world (w':={w with drawn:=w.drawn+1 }) ⟨fun _ _ _=>rfl,fun _ _ h=>h⟩ (fun _ _ x=>x) (fun _ _ _ _ _=>rfl) (fun _ _ _ _ _ _ x=>x) hg.stab (fun _ _ x=>.inl x) ⟨hg.kept.os,hg.kept.tape,hg.kept.output,hg.kept.size,hg.kept.block,hg.kept.shape⟩⟩
   obtain⟨vs,last,es,σf,rfl,h1,h2,h3⟩:=sM (by simpa only [pw]using h);obtain⟨hb1,hb2⟩:=uZ hb;have hel:es.length=vs.length:=(ge 0 h1).2.2;have hl:(aI vs).length=vs.length:=fu;replace h1:=kx h1;simp only[List.nil_append,hel,<-hl]at h2;rw[rM]at hv hp hfl
   have hd':∀v∈aI vs,∀d,v.dst=some d->d<σ.n:=by
    intro v hv d hdd;obtain⟨i,hi⟩:=List.getElem?_of_mem hv;rw[gP]at hi;cases ho:vs[i]? with
    |none=>rw[ho]at hi;simp at hi
    |some x=>
     rw[ho]at hi;simp only[Option.map_some,E_]at hi;subst hi;exact gI hb1 x (List.mem_of_getElem? ho) d hdd
   refine⟨fun h=>(by cases h),fun _=>IG (last:=last.strip) hv hp hfl hdrew hd' h1 h2 ?_⟩;intro N hN a' w' hs';obtain⟨hlen,hget⟩:=cQ hv;have hlt:(aI vs).length<os.toList.length:=by rw[<-hlen];simp[aI]
   obtain⟨v,hv1,hv2⟩:=hget _ _ (List.getElem?_eq_getElem hlt)
   have:v=last.strip:=by
    rw[List.getElem?_append_right (Nat.le_refl _)]at hv1;simpa[aI]using hv1.symm
   subst this;have hn:σf.n=σ.n:=xB h1;refine ma (o:=os.toList[(aI vs).length]) (by rw[<-Array.getElem?_toList];exact List.getElem?_eq_getElem hlt) hv2 hs' (fun d hdd=>by rw[hn];exact gI hb2 last (by simp) d hdd) h3 (fun σ' a'' w'' hk hn' hs''=>hN _ _ ?_);exact⟨_,hk,(by show σ'.n=σ.n;rw[hn',hn]),lX _ _ _ _ _ _ _ hs''⟩

theorem LW{P:Program} : ∀(v:VCode) {Q Q':Exit->St->Prop} {σ:St},(∀e σ,Q e σ->Q' e σ)->pw P v Q σ->pw P v Q' σ:=by
 have opm:∀ {σ:St} {dst:Option Nat} {K K':Upd->Prop} {op:VOp},(∀u,K u->K' u)->cT P σ dst K op->cT P σ dst K' op:=by
  intro σ dst K K' op hk h;cases op
  case call f args=>
   simp only[cT]at h |-;split at h
   ·obtain⟨r,h1,h2⟩:=h;refine⟨r,h1,?_⟩;split at h2
    ·exact hk _ h2
    ·exact h2
   ·exact h
  case callV f args=>
   simp only[cT]at h |-;split at h
   ·obtain⟨r,h1,h2⟩:=h;refine⟨r,h1,?_⟩;split at h2
    ·exact hk _ h2
    ·exact h2
   ·exact h
  all_goals
   simp only[cT]at h |-;split at h
   ·exact⟨h.1,hk _ h.2⟩
   ·exact h
 have mm:∀ {σ:St} {dst:Option Nat} {K K':St->Prop} {op:VOp},(∀u,K u->K' u)->jK P σ dst K op->jK P σ dst K' op:=by
  intro σ dst K K' op hk h;cases op
  case callM f args=>
   obtain⟨k,vals,mc,ρ,fz,h1,h2,h3,h4,h5,h6,h7⟩:=h;exact⟨k,vals,mc,ρ,fz,h1,h2,h3,h4,h5,h6,hk _ h7⟩
  case callMV f args=>
   obtain⟨k,vals,mc,ρ,fz,h1,h2,h3,h4,h5,h6,h7⟩:=h;exact⟨k,vals,mc,ρ,fz,h1,h2,h3,h4,h5,h6,hk _ h7⟩
  all_goals
   simp only[jK]at h |-;exact opm (fun u hu=>hk _ hu) h
 have rm:∀(l:List VOper) {σ:St} {K K':St->Prop},(∀σ,K σ->K' σ)->gg P K l σ->gg P K' l σ:=by
  intro l
  induction l with
  |nil=>intro σ K K' hk h;exact hk _ h
  |cons o r ih=>
   intro σ K K' hk h;simp only[gg]at h |-;split at h
   ·exact mm (fun u hu=>ih hk hu) h
   ·split at h
    ·exact⟨fun hc=>mm (fun u hu=>ih hk hu) (h.1 hc),fun hc=>ih hk (h.2 hc)⟩
    ·exact h
 have rt:∀(l:List VOper) {σ:St} {K K':St->Prop},(∀σ,K σ->K' σ)->lE P K l σ->lE P K' l σ:=by
  intro l
  induction l with
  |nil=>intro σ K K' hk h;exact hk _ h
  |cons o r ih=>
   intro σ K K' hk h;simp only[lE]at h |-;split at h
   ·exact opm (fun u hu=>ih hk hu) h
   ·split at h
    ·exact⟨fun hc=>opm (fun u hu=>ih hk hu) (h.1 hc),fun hc=>ih hk (h.2 hc)⟩
    ·exact h
 have rd:∀(l:List VOper) {σ:St} {es:List Eff} {K K':List Eff->St->Prop},(∀es σ,K es σ->K' es σ)->lC P K l σ es->lC P K' l σ es:=by
  intro l
  induction l with
  |nil=>intro σ es K K' hk h;exact hk _ _ h
  |cons o r ih=>
   intro σ es K K' hk h;simp only[lC]at h |-;split at h
   ·exact opm (fun u hu=>ih hk hu) h
   ·split at h
    ·exact⟨fun hc=>opm (fun u hu=>ih hk hu) (h.1 hc),fun hc=>ih hk (h.2 hc)⟩
    ·exact h
 have rdm:∀(l:List VOper) {σ0 σ:St} {ps ms:List (Nat×Nat)} {es:List Eff} {K K':St->Prop},(∀σ,K σ->K' σ)->oY P K σ0 ps ms l σ es->oY P K' σ0 ps ms l σ es:=by
  intro l
  induction l with
  |nil=>intro σ0 σ ps ms es K K' hk h;exact h
  |cons o r ih=>
   intro σ0 σ ps ms es K K' hk h;cases r with
   |nil=>exact⟨h.1,rm [o] hk h.2⟩
   |cons o2 r=>
    simp only[oY]at h |-;split at h
    ·exact opm (fun u hu=>ih hk hu) h
    ·exact h
 have lm:∀ {w0 S0 M N} {Q Q':Exit->St->Prop},(∀e σ,Q e σ->Q' e σ)->∀e a w,xA w0 S0 M N Q e a w->xA w0 S0 M N Q' e a w:=by
  intro w0 S0 M N Q Q' hq e a w h;cases e<;>first|exact h|(obtain⟨σ,h1,h2⟩:=h;exact⟨σ,hq _ _ h1,h2⟩)
 intro v
 induction v with
 |skip=>intro Q Q' σ hq h;exact hq _ _ h
 |region ops mode dead=>
  intro Q Q' σ hq h;cases mode with
  |text=>exact rm ops (fun σ h=>hq _ _ h) h
  |calm=>exact rt ops (fun σ h=>hq _ _ h) h
  |drawn ps ms=>exact rd ops (fun es σ h=>⟨h.1,hq _ _ h.2⟩) h
  |drawnM ps ms=>exact rdm ops (fun σ h=>hq _ _ h) h
 |seq a b iha ihb=>
  intro Q Q' σ hq h;refine iha (fun e σ' h'=>?_) h;cases e<;>first|exact ihb hq h'|exact hq _ _ h'
 |cond c a b iha ihb=>
  intro Q Q' σ hq h;simp only[pw]at h |-;split at h
  ·exact⟨fun ht=>iha hq (h.1 ht),fun ht=>ihb hq (h.2 ht)⟩
  ·exact⟨iha hq h.1,ihb hq h.2⟩
  ·exact h
 |block id a iha=>
  intro Q Q' σ hq h;refine iha (fun e σ' h'=>?_) h;cases e
  case exit i=>
   dsimp only at h' |-;split
   ·next hi=>rw[if_pos hi]at h';exact hq _ _ h'
   ·next hi=>rw[if_neg hi]at h';exact hq _ _ h'
  all_goals exact hq _ _ h'
 |loop a _=>intro Q Q' σ hq h c hc hb w0 S0 M x w hs;exact wp_mono (h c hc hb w0 S0 M x w hs) (lm hq)
 |exit id=>intro Q Q' σ hq h;exact hq _ _ h
 |scope a _=>intro Q Q' σ hq h c hc hb w0 S0 M x w hs;exact wp_mono (h c hc hb w0 S0 M x w hs) (lm hq)
 |label l=>intro Q Q' σ hq h;exact hq _ _ h
 |goto l=>intro Q Q' σ hq h;exact hq _ _ h
 |ret=>intro Q Q' σ hq h;exact hq _ _ h
 |refuse=>intro Q Q' σ hq h;exact h
 |cut a _=>intro Q Q' σ hq h c hc hb w0 S0 M x w hs;exact wp_mono (h c hc hb w0 S0 M x w hs) (lm hq)

theorem Uf{w0:World}{S0:aO}{M:Ctx}{σ σ':St}{a:Act}{w w':World}(h:cE w0 S0 M σ a w)(h':cE w0 S0 M σ' a w'):σ'.n=σ.n:=by
 obtain⟨_,_,_,h⟩:=h;obtain⟨_,_,_,h'⟩:=h';rw[<-h.size,<-h'.size]

end Go.Vs
namespace Go.Vs

theorem kz{P:Program}(hm:P.follows .mixedOrders=true):∀(v:VCode) {Q:Exit->St->Prop} {σ:St},pw P v Q σ->TV P v Q σ:=by
 intro v
 induction v with
 |skip=>
  intro Q σ h c hc _ w0 S0 M a w hs;have e:c=Code.skip:=aZ hc;subst e;exact wp_skip ⟨σ,h,rfl,hs⟩
 |region ops mode dead=>
  intro Q σ h c hc hb;exact(xC hm hc hb h).t hm
 |seq x y ihx ihy=>
  intro Q σ h c hc hb w0 S0 M a w hs;obtain⟨p,q,rfl,h1,h2⟩:=aZ hc;simp only[VCode.bnd,Bool.and_eq_true]at hb;refine wp_seq (wp_mono (ihx h p h1 hb.1 w0 S0 M a w hs) (fun e a' w' hl=>?_));cases e
  case normal=>
   obtain⟨σ',k1,k2,k3⟩:=hl;have:=ihy k1 q h2 (by rw[k2];exact hb.2) w0 S0 M a' w' k3;rw[k2]at this;exact this
  all_goals exact hl
 |cond o x y ihx ihy=>
  intro Q σ h c hc hb w0 S0 M a w hs;obtain⟨p,q,r,rfl,h0,h1,h2⟩:=aZ hc;simp only[VCode.bnd,Bool.and_eq_true]at hb;simp only[pw]at h;split at h
  ·next t ht=>
   obtain⟨S,μ,β,hg⟩:=id hs;have hrel:=ak hg h0;rw[ht]at hrel;exact wp_cond_split hrel (fun e=>ihx (h.1 e) q h1 hb.1 w0 S0 M a w hs) (fun e=>ihy (h.2 e) r h2 hb.2 w0 S0 M a w hs)
  ·next ht=>
   obtain⟨S,μ,β,hg⟩:=id hs;have hrel:=ak hg h0;rw[ht]at hrel;obtain⟨t,hrel⟩:=hrel;exact wp_cond_split hrel (fun _=>ihx h.1 q h1 hb.1 w0 S0 M a w hs) (fun _=>ihy h.2 r h2 hb.2 w0 S0 M a w hs)
  ·exact h.elim
 |block id x ih=>
  intro Q σ h c hc hb w0 S0 M a w hs;obtain⟨p,rfl,h1⟩:=aZ hc;refine wp_block (wp_mono (ih h p h1 hb w0 S0 M a w hs) (fun e a' w' hl=>?_));cases e
  case exit i=>
   obtain⟨σ',k1,k2,k3⟩:=hl;dsimp only at k1;simp only[Exit.inBlock];split
   ·next hi=>rw[if_pos hi]at k1;exact⟨σ',k1,k2,k3⟩
   ·next hi=>rw[if_neg hi]at k1;exact⟨σ',k1,k2,k3⟩
  all_goals exact hl
 |loop x _=>exact fun h=>h
 |exit id=>
  intro Q σ h c hc _ w0 S0 M a w hs;have e:c=Code.exit id:=aZ hc;subst e;exact wp_exit ⟨σ,h,rfl,hs⟩
 |scope x _=>exact fun h=>h
 |label l=>
  intro Q σ h c hc _ w0 S0 M a w hs;have e:c=Code.label l:=aZ hc;subst e;exact wp_label ⟨σ,h,rfl,hs⟩
 |goto l=>
  intro Q σ h c hc _ w0 S0 M a w hs;have e:c=Code.goto l:=aZ hc;subst e;exact wp_goto ⟨σ,h,rfl,hs⟩
 |refuse=>intro Q σ h;exact h.elim
 |cut x _=>exact fun h=>h
 |ret=>
  intro Q σ h c hc _ w0 S0 M a w hs;have e:c=Code.ret:=aZ hc;subst e;exact wp_ret ⟨σ,h,rfl,hs⟩

section
variable {P:Program}

theorem Sa(hm:P.follows .mixedOrders=true){ι:Type}(I:ι->St)(A:ι->Prop)(m:ι->Nat){b:VCode}{Q:Exit->St->Prop}{σ:St}(i0:ι)(hA:A i0)(h0:cR σ (I i0))(hn:∀i,(I i).n=σ.n)
  (round:∀i,A i->pw P b (fun e σ'=>match e with
    |.normal=>∃j,A j/\m j<m i/\cR σ' (I j)
    |e=>Q e σ') (I i)):TV P (.loop b) Q σ:=by
 intro c hc hb w0 S0 M a w hs;obtain⟨p,rfl,h1⟩:=aZ hc
 have key:∀n i,m i=n->A i->∀a w,cE w0 S0 M (I i) a w->(Code.loop p).wp P (xA w0 S0 M σ.n Q) a w:=by
  intro n i hmi hAi a w hsi;refine wp_loop (fun a w=>∃i,A i/\cE w0 S0 M (I i) a w) (fun a w=>Classical.epsilon fun k=>∃i,A i/\cE w0 S0 M (I i) a w/\m i=k/\∀j,A j->cE w0 S0 M (I j) a w->k<=m j) ⟨i,hAi,hsi⟩ ?_
  have least:∀(a:Act) (w:World),(∃i,A i/\cE w0 S0 M (I i) a w)->∃k,∃i,A i/\cE w0 S0 M (I i) a w/\m i=k/\∀j,A j->cE w0 S0 M (I j) a w->k<=m j:=by
   intro a w ⟨i,Jl,hi2⟩
   have:∀n i,m i<=n->A i->cE w0 S0 M (I i) a w->∃k,∃i,A i/\cE w0 S0 M (I i) a w/\m i=k/\∀j,A j->cE w0 S0 M (I j) a w->k<=m j:=by
    intro n
    induction n with
    |zero=>intro i hle h1 h2;exact⟨m i,i,h1,h2,rfl,fun j _ _=>by omega⟩
    |succ n ih=>
     intro i hle h1 h2;by_cases hex:∃j,A j/\cE w0 S0 M (I j) a w/\m j<m i
     ·obtain⟨j,j1,j2,j3⟩:=hex;exact ih j (by omega) j1 j2
     ·exact⟨m i,i,h1,h2,rfl,fun j j1 j2=>by
       rcases Nat.lt_or_ge (m j) (m i)with h|h
       ·exact absurd ⟨j,j1,j2,h⟩ hex
       ·exact h⟩
   exact this (m i) i (Nat.le_refl _) Jl hi2
  intro a w hI;have hle:=least a w hI;obtain⟨i,Jl,hi2,hi3,hi4⟩:=Classical.epsilon_spec hle;have hr:=kz hm b (round i Jl) p h1 (by rw[hn];exact hb) w0 S0 M a w hi2;refine wp_mono hr (fun e a' w' hl=>?_);cases e
  case normal=>
   obtain⟨σ',⟨j,j1,j2,j3⟩,_,k3⟩:=hl;have hsj:=j3 w0 S0 M a' w' k3;have hle':=least a' w' ⟨j,j1,hsj⟩;obtain⟨_,_,_,_,hmin⟩:=Classical.epsilon_spec hle';refine⟨⟨j,j1,hsj⟩,?_⟩;have:=hmin j j1 hsj;omega
  all_goals
   first
    |exact hl
    |(obtain⟨σ',k1,k2,k3⟩:=hl;exact⟨σ',k1,by rw[k2,hn],k3⟩)
 exact key _ i0 rfl hA a w (h0 w0 S0 M a w hs)

theorem UO(hm:P.follows .mixedOrders=true){ι:Type}(I:ι->St)(A:ι->Prop){x y:VCode}{Q:Exit->St->Prop}{σ:St}(hn:∀i,(I i).n=σ.n)
  (h1:pw P x (fun e σ'=>match e with
    |.normal=>∃i,A i/\cR σ' (I i)
    |e=>Q e σ') σ) (h2:∀i,A i->pw P y Q (I i)):TV P (.seq x y) Q σ:=by
 intro c hc hb w0 S0 M a w hs;obtain⟨p,q,rfl,k1,k2⟩:=aZ hc;simp only[VCode.bnd,Bool.and_eq_true]at hb;refine wp_seq (wp_mono (kz hm x h1 p k1 hb.1 w0 S0 M a w hs) (fun e a' w' hl=>?_));cases e
 case normal=>
  obtain⟨σ',⟨i,hA,hw⟩,j2,j3⟩:=hl;have:=kz hm y (h2 i hA) q k2 (by rw[hn];exact hb.2) w0 S0 M a' w' (hw w0 S0 M a' w' j3);rw[hn]at this;exact this
 all_goals exact hl

/- WHAT MAY BE FORGOTTEN AT A LOOP's HEAD -/
def bp(env:List (Nat×SV)):List (Nat×SV)->Prop
 |[]=>True
 |(k,v)::r=>aC env k=v/\bp env r
def ch(objs:List (Nat×Ob)):List (Nat×Ob)->Prop
 |[]=>True
 |(k,o)::r=>ac objs k=some o/\ch objs r
theorem FH{env:List (Nat×SV)} : ∀ {l:List (Nat×SV)},bp env l->∀k,aC l k=.undef\/aC l k=aC env k
 |[],_,_=>.inl rfl
 |(j,v)::r,h,k=>by
  simp only[aC,ac];cases hj:j==k with
  |true=>rw[beq_iff_eq]at hj;subst hj;exact .inr h.1.symm
  |false=>exact FH h.2 k
theorem FI{objs:List (Nat×Ob)} : ∀ {l:List (Nat×Ob)},ch objs l->∀k o,ac l k=some o->ac objs k=some o
 |[],_,_,_,h=>by simp[ac]at h
 |(j,v)::r,h,k,o,hk=>by
  simp only[ac]at hk;cases hj:j==k with
  |true=>rw[hj]at hk;rw[beq_iff_eq]at hj;subst hj;simp at hk;subst hk;exact h.1
  |false=>rw[hj]at hk;exact FI h.2 k o hk
def cg(ro ro':List Nat):List (Nat×Ob)->Bool
 |[]=>true
 |(k,_)::r=>(!ro.contains k||ro'.contains k)&&cg ro ro' r
theorem FJ{ro ro':List Nat} : ∀ {l:List (Nat×Ob)},cg ro ro' l=true->∀i o,ac l i=some o->i∈ro->i∈ro'
 |[],_,_,_,h,_=>by simp[ac]at h
 |(j,v)::r,h,i,o,hl,hi=>by
  simp only[cg,Bool.and_eq_true]at h;simp only[ac]at hl;cases hj:j==i with
  |true=>
   rw[beq_iff_eq]at hj;subst hj;have:=h.1;simp only[Bool.or_eq_true,Bool.not_eq_true']at this;rcases this with h1|h1
   ·have:ro.contains j=true:=by simpa using hi
    rw[this]at h1;simp at h1
   ·simpa using h1
  |false=>rw[hj]at hl;exact FJ h.2 i o hl hi

theorem ap{σ σ':St}(hn:σ'.n=σ.n)(hgl:σ'.gl=σ.gl)(he:bp σ.env σ'.env)(ho:ch σ.objs σ'.objs)(hr:cg σ.ro σ'.ro σ'.objs=true):cR σ σ':=by
 rintro w0 S0 M a w ⟨S,μ,β,h⟩;exact⟨S,μ,β,h.drop hn hgl (FJ hr) (FH he) (FI ho)⟩

def St.adopt(σ:St)(k id s:Nat):St:={σ with env:=put (dT id σ.env) k (.own id 0),objs:=cC id (put σ.objs id (.arr 0 s [])) }
theorem fS{σ:St}{k:Nat}(id s:Nat)(hid:id<σ.n)(hk:aC σ.env k=.nils):cR σ (σ.adopt k id s):=by
 rintro w0 S0 M a w ⟨S,μ,β,h⟩;have hrel:=h.env k;rw[hk]at hrel;obtain⟨x,hx⟩:=hrel;have h1:=h.create id hid (.arr 0 s []) none (.slice x 0 0) (Kept.refl _ _) (by simp) (.inl ⟨rfl,rfl,x,rfl⟩)
 have hkn:k<σ.n:=by
  rcases Nat.lt_or_ge k σ.n with hh|hh
  ·exact hh
  ·rw[<-h.size]at hh;rw[Array.getD,dif_neg (by omega)]at hx;simp[Go.undef]at hx
 have h2:=h1.put (sv:=.own id 0) (v:=.slice x 0 0) hkn (by
  intro cv s' rows hl;rw[bN,de]at hl;simp only[Option.map_some,Ob.erase,E_,Ob.arr.injEq]at hl;obtain⟨rfl,_,_⟩:=hl
  exact⟨Nat.le_refl _,fun _=>by simp⟩)
 have ha:a.put (some k) (.slice x 0 0)=a:=by
  have hlt:k<a.tmps.size:=by rw[h.size];exact hkn
  have:a.tmps.setIfInBounds k (.slice x 0 0)=a.tmps:=by
   apply Array.ext
   ·simp
   ·intro i h3 h4;rw[Array.getElem_setIfInBounds];split
    ·next e=>subst e;rw[<-hx];simp[h4]
    ·rfl
  simp only[Act.put,this]
 rw[ha]at h2;exact⟨S,_,_,h2⟩
end
end Go.Vs
namespace Go.Vs

inductive VRes where
 |tmp (t:Nat)
 |cell (t:Nat) (agg:Option Nat)
 deriving Inhabited,Repr
def bS(P:Program):List ResultVar->Option (List VRes)
 |[]=>some []
 |.tmp t::r=>(bS P r).map (VRes.tmp t::·)
 |.cell t ty::r=>match oU P ty,bS P r with
  |some g,some rs=>some (.cell t g::rs)
  |_,_=>none

def LX(σ:St):VRes->Option (IV×List Nat)
 |.tmp t=>xi σ.objs (aC σ.env t)
 |.cell t g=>match aC σ.env t with
  |.loc id off=>match ac σ.objs id with
   |some (.box cells)=>match g with
    |some n=>if off+n<=cells.length then xi σ.objs (xg ((cells.drop off).take n))else none
    |none=>match cells[off]? with
     |some c=>xi σ.objs c
     |none=>none
   |_=>none
  |_=>none
def nZ(σ:St):List VRes->Option (List IV×List Nat)
 |[]=>some ([],[])
 |x::r=>match LX σ x,nZ σ r with
  |some (v,f),some (vs,fs)=>some (v::vs,f++fs)
  |_,_=>none
def Ck(σ:St)(rs:List VRes):Option IV:=match nZ σ rs with
 |some ([v],_)=>some v
 |some (vs,_)=>some (.tuple vs)
 |none=>none
def Cl(σ:St):List VRes->Option (Nat×List (List IV))
 |[.tmp t]=>match aC σ.env t with
  |.own id ver=>match ac σ.objs id with
   |some (.arr cv s rows)=>if ver==cv&&!σ.ro.contains id then some (s,rows)else none
   |_=>none
  |_=>none
 |_=>none

def sN(rs:List VRes)(r:Res):Exit->St->Prop
 |.normal,σ=>match r with
  |.imm v=>Ck σ rs=some v
  |.own s rows=>Cl σ rs=some (s,rows)
 |.ret,σ=>match r with
  |.imm v=>Ck σ rs=some v
  |.own s rows=>Cl σ rs=some (s,rows)
 |_,_=>False

def EA:Nat->List IV->List (Nat×SV)
 |_,[]=>[]
 |i,x::r=>(i,.val x)::EA (i+1) r
def Pf(gl:List (Nat×List IV))(args:List IV)(n:Nat):St:=⟨EA 0 args,[],[],n,gl⟩
def Ctx.nothing:Ctx:=⟨fun _=>False,[],fun _=>Go.undef,[]⟩

structure FnOk(P:Program)(k:FuncId)(v:VCode)(rs:List VRes)(n:Nat):Prop where
 ok:∃fn c,P.funcs[k]?=some fn/\fn.name≠ "runtime.NumGoroutine"/\fn.body=some c/\comp P c=some v.strip/\v.bnd n=true/\bS P fn.results.toList=some rs/\fn.ntmps=n

theorem IM{w:World}{S:aO}{μ:Nat->Value}{objs:List (Nat×Ob)} : ∀ {args:List IV} {vs:List Value} (i:Nat),bc w S args vs->∀k,ar w S μ objs (aC (EA i args) k) ((vs[k-i]?).getD Go.undef)
 |[],_,i,_,k=>trivial
 |x::r,_,i,⟨v,vs',h1,h2,h3⟩,k=>by
  subst h1;simp only[EA,aC,ac];cases hk:i==k with
  |true=>
   rw[beq_iff_eq]at hk;subst hk;simp only[cond_true,Option.getD_some,Nat.sub_self,List.getElem?_cons_zero];exact h2
  |false=>
   have hne:i≠k:=by simpa using hk
   have ih:=IM (μ:=μ) (objs:=objs) (i+1) h3 k;simp only[cond_false];rcases Nat.lt_or_ge i k with hlt|hge
   ·rw[show k-i=(k-(i+1))+1 by omega];rw[List.getElem?_cons_succ];exact ih
   ·have:aC (EA (i+1) r) k=.undef:=by
     have gen:∀(l:List IV) (j:Nat),k<j->aC (EA j l) k=.undef:=by
      intro l
      induction l with
      |nil=>intro j _;rfl
      |cons y l ih=>
       intro j hj;have:(j==k)=false:=by simp;omega
       simp only[EA,aC,ac,this,cond_false];exact ih (j+1) (by omega)
     exact gen r (i+1) (by omega)
    show ar _ _ _ _ (aC (EA (i+1) r) k) _;rw[this];trivial

theorem Sb{w:World}{S:aO}{args:List IV}{vs:List Value}(hS:∀b o,S b o->b<w.heap.size)(h:bc w S args vs){gl:List (Nat×List IV)}(hgl:∀p,p∈gl->gG w S p){n:Nat}(hn:args.length<=n) :
  cE w S Ctx.nothing (Pf gl args n) {tmps:=vs.toArray++Array.replicate (n-vs.toArray.size) Go.undef,defers:=[] } w:=by
 have hl:=bc.length h;refine⟨S,fun _=>Go.undef,fun _=>none,{defers:=rfl,size:=?_,env:=?_,objs:=?_,inj:=?_,own:=?_,unst:=?_,stab:=hS,ext:=fun _ _ x=>x,back:=fun _ _ x=>.inl x,kept:=Kept.refl _ _,stay:=fun _ _ _=>rfl,hist:=fun p hp=>by simp[Ctx.nothing]at hp,far:=fun p hp=>by simp[Ctx.nothing]at hp,glob:=hgl }⟩
 ·simp[Pf];omega
 ·intro k;have:=IM (μ:=fun _=>Go.undef) (objs:=[]) 0 h k
  have e:(vs.toArray++Array.replicate (n-vs.toArray.size) Go.undef).getD k Go.undef=(vs[k-0]?).getD Go.undef:=by
   rw[Nat.sub_zero];rcases Nat.lt_or_ge k vs.length with hk|hk
   ·simp[Array.getD,hk,Array.getElem_append_left,Nat.lt_add_right]
   ·rw[List.getElem?_eq_none hk,Option.getD_none];rw[Array.getD_eq_getD_getElem?,Array.getElem?_append_right (by simpa using hk),Array.getElem?_replicate];split<;>rfl
  show ar _ _ _ _ (aC (EA 0 args) k) _;rw[e];exact this
 ·intro id o ho;simp[Pf,ac]at ho
 ·intro id id' o o' b ho;simp[Pf,ac]at ho
 ·intro id o b ho;simp[Pf,ac]at ho
 ·intro id o b off ho;simp[Pf,ac]at ho

section
variable {P:Program}

theorem IN{w0 w:World}{S0 S:aO}{M:Ctx}{σ:St}{a:Act}{μ:Nat->Value}{β:Nat->Option Nat}(h:SimG w0 S0 M σ a w S μ β){rv:ResultVar}{x:VRes}{l:List ResultVar}{rs:List VRes}(hc:bS P (rv::l)=some (x::rs)){v:IV}{fz fz':List Nat}
  (hr:LX σ x=some (v,fz)) (hf:∀i,i∈fz->i∈fz') :
  ∃u,(match rv with|.tmp t=>(pure (a.tmps.getD t Go.undef):Sem Value)|.cell ad t=>do loadVar t (<-asAddr (a.tmps.getD ad Go.undef))).run P w=.ok u w/\nJ w (cY S β σ.objs fz') v u:=by
 cases rv with
 |tmp t=>
  simp only[bS,Option.map_eq_some_iff]at hc;obtain⟨r,_,he⟩:=hc;simp only[List.cons.injEq]at he;obtain⟨rfl,_⟩:=he;exact⟨_,rfl,jP h hr hf (h.env t)⟩
 |cell t ty=>
  simp only[bS]at hc;split at hc
  ·next g rs' hg _=>
   simp only[E_,List.cons.injEq]at hc;obtain⟨rfl,_⟩:=hc;simp only[LX]at hr;split at hr
   ·next id off heq=>
    have hrel:=h.env t;rw[heq]at hrel;split at hr
    ·next cells hl=>
     obtain⟨b,vs,e,fr,_,_,hv,hh,_,hcs⟩:=j7 h hl hrel;split at hr
     ·next n=>
      split at hr
      ·next hle=>
       have hr':=aj.take n (aj.drop off hcs)
       have hlen:((vs.toList.drop off).take n).length=n:=by
        have:=aj.length hcs;rw[List.length_take,List.length_drop];omega
       refine⟨.agg ((vs.toList.drop off).take n).toArray,?_,jP h hr hf (k9 hr')⟩;simp only[hv,asAddr,Sem.run_bind,Sem.run_pure,Result.andThen_ok]
       exact ka hg hlen (fun j v hj=>by
        rw[List.getElem?_take]at hj;split at hj
        ·rw[List.getElem?_drop,Array.getElem?_toList]at hj;rw[dI hh];exact hj
        ·simp at hj)
      ·simp at hr
     ·split at hr
      ·next c hcc=>
       obtain⟨v',h1,_,h2⟩:=aj.get hcs hcc;refine⟨v',?_,jP h hr hf h2⟩;simp only[hv,asAddr,Sem.run_bind,Sem.run_pure,Result.andThen_ok];exact m8 hg (by rw[dI hh];rw[Array.getElem?_toList]at h1;exact h1)
      ·simp at hr
    ·simp at hr
   ·simp at hr
  ·simp at hc

theorem ni{w0 w:World}{S0 S:aO}{M:Ctx}{σ:St}{a:Act}{μ:Nat->Value}{β:Nat->Option Nat}(h:SimG w0 S0 M σ a w S μ β):∀ {l:List ResultVar} {rs:List VRes},bS P l=some rs->∀ {vs:List IV} {fz fz':List Nat},
  nZ σ rs=some (vs,fz)->(∀i,i∈fz->i∈fz')->
  ∃us,(l.mapM (m:=Sem) fun rv=>match rv with|.tmp t=>(pure (a.tmps.getD t Go.undef):Sem Value)|.cell ad t=>do loadVar t (<-asAddr (a.tmps.getD ad Go.undef))).run P w=.ok us w/\bc w (cY S β σ.objs fz') vs us
 |[],rs,hc,vs,fz,fz',hr,_=>by
  simp only[bS,E_]at hc;subst hc;simp only[nZ,E_,Prod.mk.injEq]at hr;obtain⟨rfl,_⟩:=hr;exact⟨[],rfl,rfl⟩
 |rv::l,rs,hc,vs,fz,fz',hr,hf=>by
  obtain⟨x,rs',rfl,hc'⟩:∃x rs',rs=x::rs'/\bS P l=some rs':=by
   cases rv with
   |tmp t=>
    simp only[bS,Option.map_eq_some_iff]at hc;obtain⟨r,h1,he⟩:=hc;exact⟨_,r,he.symm,h1⟩
   |cell t ty=>
    simp only[bS]at hc;split at hc
    ·next g r hg h1=>obtain rfl:=O_ hc;exact⟨_,r,rfl,h1⟩
    ·simp at hc
  simp only[nZ]at hr;split at hr
  ·next v f vs' fs h1 h2=>
   simp only[E_,Prod.mk.injEq]at hr;obtain⟨rfl,rfl⟩:=hr;obtain⟨u,r1,r2⟩:=IN h hc h1 (fun i hi=>hf i (List.mem_append_left _ hi));obtain⟨us,r3,r4⟩:=ni h hc' h2 (fun i hi=>hf i (List.mem_append_right _ hi));refine⟨u::us,?_,⟨u,us,rfl,r2,r4⟩⟩;rw[List.mapM_cons];simp only[Sem.run_bind,r3,Sem.run_pure];cases rv<;>simp only at r1<;>(first|(rw[Sem.run_bind]at r1)|skip)<;>simp_all [Result.andThen]
  ·simp at hr

theorem ag(hm:P.follows .mixedOrders=true){k:FuncId}{v:VCode}{rs:List VRes}{n:Nat}(hok:FnOk P k v rs n){gl:List (Nat×List IV)}{args:List IV}{r:Res}(hn:args.length<=n)(h:pw P v (sN rs r) (Pf gl args n)):zk gl P k args r:=by
 obtain⟨fn,c,hf,hname,hbody,hcomp,hbnd,hres,hnt⟩:=hok;refine⟨⟨fn,hf,hname⟩,fun w S vs hS hrep hgl=>.inl ⟨⟨fn,hf,by rw[hbody];rfl⟩,?_⟩⟩;subst hnt;refine calls_of_wp hf hbody ?_;refine wp_mono (kz hm v h c hcomp hbnd w S Ctx.nothing _ w (Sb hS hrep hgl hn)) (fun e a w' hlift=>?_)
 have fin:∀σ,sN rs r .ret σ->cE w S Ctx.nothing σ a w'->a.defers=[]/\∃u,(results fn a.tmps).run P w'=.ok u w'/\∃v S',Ending.returned u=.returned v/\KB w S w' S' r v/\(∀b o,S b o->S' b o)/\(∀b o,S' b o->S b o\/w.heap.size<=b)/\(∀b o,S' b o->b<w'.heap.size)/\Kept (fun _=>False) w w':=by
  rintro σ hp ⟨S1,μ,β,hg⟩;refine⟨hg.defers,?_⟩;cases r with
  |imm x=>
   simp only[sN,Ck]at hp
   have mapM_eq:∀us:List Value,(fn.results.toList.mapM (m:=Sem) fun rv=>match rv with|.tmp t=>(pure (a.tmps.getD t Go.undef):Sem Value)|.cell ad t=>do loadVar t (<-asAddr (a.tmps.getD ad Go.undef))).run P w'=.ok us w'->
     (results fn a.tmps).run P w'=.ok (if h:us.toArray.size=1 then us.toArray[0]else .tuple us.toArray) w':=by
    intro us hus;unfold results;rw[Sem.run_bind,Array.mapM_eq_mapM_toList]
    have:((List.toArray <$> fn.results.toList.mapM (m:=Sem) fun rv=>match rv with|.tmp t=>(pure (a.tmps.getD t Go.undef):Sem Value)|.cell ad t=>do loadVar t (<-asAddr (a.tmps.getD ad Go.undef))):Sem (Array Value)).run P w'=.ok us.toArray w':=by
     rw[Sem.run_map,hus];rfl
    first
     |(rw[this];rfl)
     |(erw [this];rfl)
   have ext:∀fz,(∀b o,S b o->cY S1 β σ.objs fz b o)/\(∀b o,cY S1 β σ.objs fz b o->S b o\/w.heap.size<=b)/\(∀b o,cY S1 β σ.objs fz b o->b<w'.heap.size):=by
    intro fz;have h2:=hg.freeze fz;refine⟨fun b o hb=>.inl (hg.ext b o hb),fun b o hb=>?_,h2.stab⟩;rcases h2.back b o hb with h3|h3|h3
    ·exact .inl h3
    ·exact .inr h3
    ·exact h3.elim
   split at hp
   ·next v' fz hv=>
    obtain rfl:=O_ hp;obtain⟨us,h1,h2⟩:=ni (fz':=fz) hg hres hv (fun _ x=>x);obtain⟨u,us',rfl,h3,h4⟩:=h2;have h4:us'=[]:=h4;subst h4;have:=mapM_eq _ h1;exact⟨u,by simpa using this,u,_,rfl,h3,(ext fz).1,(ext fz).2.1,(ext fz).2.2,hg.kept⟩
   ·next vs' fz hne hv=>
    obtain rfl:=O_ hp;obtain⟨us,h1,h2⟩:=ni (fz':=fz) hg hres hv (fun _ x=>x);have:=mapM_eq _ h1
    have hsz:¬us.toArray.size=1:=by
     have hlen:=bc.length h2;simp only[List.size_toArray,hlen];intro h1;obtain⟨v,rfl⟩:=List.length_eq_one_iff.mp h1
     first|exact hne v fz rfl|exact hne v rfl|exact hne _ _ hv
    rw[dif_neg hsz]at this;exact⟨_,this,_,_,rfl,⟨us.toArray,rfl,by simpa using h2⟩,(ext fz).1,(ext fz).2.1,(ext fz).2.2,hg.kept⟩
   ·simp at hp
  |own s rows=>
   simp only[sN]at hp;unfold Cl at hp;split at hp
   ·next t=>
    split at hp
    ·next id ver heq=>
     split at hp
     ·next cv s' rows' hl=>
      split at hp
      ·next hcond=>
       simp only[E_,Prod.mk.injEq]at hp;obtain⟨rfl,rfl⟩:=hp;simp only[Bool.and_eq_true,Bool.not_eq_true']at hcond;have hver:ver=cv:=by simpa using hcond.1
       have hro:id∉σ.ro:=by simpa using hcond.2
       have hrel:=hg.env t;rw[heq]at hrel;have hv:=(hrel _ _ _ hl).2 hver
       have hfr:fn.results.toList=[.tmp t]:=by
        cases hfl:fn.results.toList with
        |nil=>rw[hfl]at hres;simp[bS]at hres
        |cons rv l=>
         rw[hfl]at hres;cases rv with
         |tmp t'=>
          simp only[bS,Option.map_eq_some_iff,List.cons.injEq]at hres;obtain⟨r,h1,h2,rfl⟩:=hres;simp only[VRes.tmp.injEq]at h2;subst h2;cases l with
          |nil=>rfl
          |cons y l=>
           exfalso;cases y<;>simp only[bS,Option.map_eq_some_iff]at h1
           ·obtain⟨_,_,h3⟩:=h1;simp at h3
           ·split at h1<;>simp at h1
         |cell a ty=>
          simp only[bS]at hres;split at hres<;>simp at hres
       have hfr':=qI hfr;refine⟨a.tmps.getD t Go.undef,by simp[results,hfr'],a.tmps.getD t Go.undef,S1,rfl,⟨β id,?_,fun b hb=>⟨?_,fun off hS=>hro (hg.unst id _ b off hl hb hS).1⟩⟩,hg.ext,fun b o hb=>?_,hg.stab,hg.kept⟩
       ·rw[hv];exact hg.objs id _ hl
       ·rcases hg.own id _ b hl hb with h1|h1
        ·exact h1
        ·exact h1.elim
       ·rcases hg.back b o hb with h1|h1|h1
        ·exact .inl h1
        ·exact .inr h1
        ·exact h1.elim
      ·simp at hp
     ·simp at hp
    ·simp at hp
   ·simp at hp
 cases e
 case normal=>obtain⟨σ,h1,_,h2⟩:=hlift;exact fin σ h1 h2
 case ret=>obtain⟨σ,h1,_,h2⟩:=hlift;exact fin σ h1 h2
 case panic=>exact hlift.elim
 case outgrown=>exact hlift.elim
 case exit=>obtain⟨σ,h1,_⟩:=hlift;exact h1.elim
 case goto=>obtain⟨σ,h1,_⟩:=hlift;exact h1.elim

end
end Go.Vs
namespace Go.Vs

def xE:Nat->List SV->List (Nat×SV)
 |_,[]=>[]
 |i,x::r=>(i,x)::xE (i+1) r
def nj(gl:List (Nat×List IV))(c:MC)(n:Nat):St:=⟨xE 0 c.args,c.objs,c.ro,n,gl⟩
def Nc(n:Nat):List (Nat×Ob)->Bool
 |[]=>true
 |(i,_)::r=>decide (n<=i)&&Nc n r
theorem IP{n:Nat} : ∀ {l:List (Nat×Ob)},Nc n l=true->∀i o,ac l i=some o->n<=i
 |[],_,_,_,h=>by simp[ac]at h
 |(j,x)::r,hk,i,o,h=>by
  simp only[Nc,Bool.and_eq_true,decide_eq_true_eq]at hk;simp only[ac]at h;cases hj:j==i
  ·rw[hj]at h;exact IP hk.2 i o h
  ·rw[beq_iff_eq]at hj;subst hj;exact hk.1
def Pg(σ:St):List VRes->Option (SV×List Nat)
 |[]=>some (.val (.tuple []),[])
 |[.tmp t]=>some (aC σ.env t,[])
 |[.cell t g]=>match aC σ.env t with
  |.loc id off=>match ac σ.objs id with
   |some (.box cells)=>match g with
    |some n=>if off+n<=cells.length then some (xg ((cells.drop off).take n),[])else none
    |none=>match cells[off]? with
     |some c=>some (c,[])
     |none=>none
   |_=>none
  |_=>none
 |rs=>match nZ σ rs with
  |some (vs,fz)=>some (.val (.tuple vs),fz)
  |none=>none
def o0(σ:St):List VRes->Option (List SV)
 |[]=>some []
 |.tmp t::r=>(o0 σ r).map (aC σ.env t::·)
 |.cell t (some n)::r=>match aC σ.env t with
  |.loc id off=>match ac σ.objs id with
   |some (.box cells)=>if off+n<=cells.length then (o0 σ r).map (xg ((cells.drop off).take n)::·)else none
   |_=>none
  |_=>none
 |.cell _ none::_=>none
def EB(σ:St)(rs:List VRes):SV->Option (SV×List Nat)
 |.tup _=>match rs with
  |_::_::_=>(o0 σ rs).map fun l=>(.tup l,[])
  |_=>none
 |_=>Pg σ rs
def cn(rs:List VRes)(c:MC):Exit->St->Prop
 |.normal,σ=>∃σ' fz,cR σ σ'/\σ'.objs=c.objs'/\EB σ' rs c.res=some (c.res,fz)/\c.ro'=fz++σ'.ro
 |.ret,σ=>∃σ' fz,cR σ σ'/\σ'.objs=c.objs'/\EB σ' rs c.res=some (c.res,fz)/\c.ro'=fz++σ'.ro
 |_,_=>False

theorem IQ{w:World}{S:aO}{μ:Nat->Value}{objs:List (Nat×Ob)} : ∀ {args:List SV} {vs:List Value} (i:Nat),aQ w S μ objs args vs->∀k,ar w S μ objs (aC (xE i args) k) ((vs[k-i]?).getD Go.undef)
 |[],_,i,_,k=>trivial
 |x::r,_,i,⟨v,vs',h1,h2,h3⟩,k=>by
  subst h1;simp only[xE,aC,ac];cases hk:i==k with
  |true=>
   rw[beq_iff_eq]at hk;subst hk;simp only[cond_true,Option.getD_some,Nat.sub_self,List.getElem?_cons_zero];exact h2
  |false=>
   have hne:i≠k:=by simpa using hk
   have ih:=IQ (i+1) h3 k;simp only[cond_false];rcases Nat.lt_or_ge i k with hlt|hge
   ·rw[show k-i=(k-(i+1))+1 by omega];rw[List.getElem?_cons_succ];exact ih
   ·have:aC (xE (i+1) r) k=.undef:=by
     have gen:∀(l:List SV) (j:Nat),k<j->aC (xE j l) k=.undef:=by
      intro l
      induction l with
      |nil=>intro j _;rfl
      |cons y l ih=>
       intro j hj;have:(j==k)=false:=by simp;omega
       simp only[xE,aC,ac,this,cond_false];exact ih (j+1) (by omega)
     exact gen r (i+1) (by omega)
    show ar _ _ _ _ (aC (xE (i+1) r) k) _;rw[this];trivial
theorem aQ.length{w:World}{S:aO}{μ:Nat->Value}{objs:List (Nat×Ob)} : ∀ {xs:List SV} {vs:List Value},aQ w S μ objs xs vs->vs.length=xs.length
 |[],_,h=>by have h:_=_:=h;subst h;rfl
 |_::_,_,⟨_,_,h1,_,h3⟩=>by subst h1;simp[aQ.length h3]

theorem oZ{P:Program}{fn:Func}{tmps:Array Value}{w:World}{us:List Value}(h:(fn.results.toList.mapM (m:=Sem) fun rv=>match rv with|.tmp t=>(pure (tmps.getD t Go.undef):Sem Value)|.cell ad t=>do loadVar t (<-asAddr (tmps.getD ad Go.undef))).run P w=.ok us w) :
  (results fn tmps).run P w=.ok (if h:us.toArray.size=1 then us.toArray[0]else .tuple us.toArray) w:=by
 unfold results;rw[Sem.run_bind,Array.mapM_eq_mapM_toList]
 have:((List.toArray <$> fn.results.toList.mapM (m:=Sem) fun rv=>match rv with|.tmp t=>(pure (tmps.getD t Go.undef):Sem Value)|.cell ad t=>do loadVar t (<-asAddr (tmps.getD ad Go.undef))):Sem (Array Value)).run P w=.ok us.toArray w:=by
  rw[Sem.run_map,h];rfl
 first
  |(rw[this];rfl)
  |(erw [this];rfl)

theorem kA{P:Program} : ∀ {l:List ResultVar} {rs:List VRes},bS P l=some rs->l.length=rs.length
 |[],rs,h=>by simp only[bS,E_]at h;subst h;rfl
 |.tmp t::l,rs,h=>by
  simp only[bS,Option.map_eq_some_iff]at h;obtain⟨r,h1,rfl⟩:=h;simp[kA h1]
 |.cell t ty::l,rs,h=>by
  simp only[bS]at h;split at h
  ·next g r hg h1=>obtain rfl:=O_ h;simp[kA h1]
  ·simp at h

section
variable {P:Program}
theorem KI{w0 w:World}{S0 S:aO}{M:Ctx}{σ:St}{a:Act}{μ:Nat->Value}{β:Nat->Option Nat}(h:SimG w0 S0 M σ a w S μ β){fn:Func}{rs:List VRes}(hc:bS P fn.results.toList=some rs){r:SV}{fz:List Nat}(hr:Pg σ rs=some (r,fz)) :
  ∃u,(results fn a.tmps).run P w=.ok u w/\ar w (cY S β σ.objs fz) μ σ.objs r u:=by
 have hlen:=kA hc
 have many:∀vs,nZ σ rs=some (vs,fz)->rs.length≠1->r=.val (.tuple vs)->∃u,(results fn a.tmps).run P w=.ok u w/\ar w (cY S β σ.objs fz) μ σ.objs r u:=by
  rintro vs hv hne rfl;obtain⟨us,h1,h2⟩:=ni (fz':=fz) h hc hv (fun _ x=>x);have hrun:=oZ h1;have hl:us.length=vs.length:=bc.length h2
  have hvl:vs.length=rs.length:=by
   have gen:∀(rs:List VRes) (vs:List IV) (fz:List Nat),nZ σ rs=some (vs,fz)->vs.length=rs.length:=by
    intro rs
    induction rs with
    |nil=>intro vs fz hh;simp only[nZ,E_,Prod.mk.injEq]at hh;obtain⟨rfl,_⟩:=hh;rfl
    |cons x l ih=>
     intro vs fz hh;simp only[nZ]at hh;split at hh
     ·next v f vs' fs _ e2=>
      simp only[E_,Prod.mk.injEq]at hh;obtain⟨rfl,_⟩:=hh;simp[ih _ _ e2]
     ·simp at hh
   exact gen rs vs fz hv
  rw[dif_neg (by simp;omega)]at hrun;exact⟨_,hrun,us.toArray,rfl,by simpa using h2⟩
 unfold Pg at hr;split at hr
 ·simp only[E_,Prod.mk.injEq]at hr;obtain⟨rfl,rfl⟩:=hr;exact many [] rfl (by simp) rfl
 ·next t=>
  simp only[E_,Prod.mk.injEq]at hr;obtain⟨rfl,rfl⟩:=hr
  have hfr:fn.results.toList=[.tmp t]:=by
   cases hfl:fn.results.toList with
   |nil=>rw[hfl]at hlen;simp at hlen
   |cons rv l=>
    rw[hfl]at hlen;have:l=[]:=by simpa using hlen
    subst this;rw[hfl]at hc;cases rv with
    |tmp t'=>simp[bS]at hc;rw[hc]
    |cell ad ty=>
     exfalso;simp only[bS]at hc;split at hc<;>simp at hc
  have hrun:=oZ (P:=P) (fn:=fn) (tmps:=a.tmps) (w:=w) (us:=[a.tmps.getD t Go.undef]) (by rw[hfr];rfl);exact⟨_,hrun,ar.mono (bv.refl _ _) (fun _ _ x=>.inl x) _ _ (h.env t)⟩
 ·next t g=>
  obtain⟨rv,hfr⟩:∃rv,fn.results.toList=[rv]:=by
   cases hfl:fn.results.toList with
   |nil=>rw[hfl]at hlen;simp at hlen
   |cons rv l=>
    rw[hfl]at hlen;have:l=[]:=by simpa using hlen
    subst this;exact⟨rv,rfl⟩
  rw[hfr]at hc;cases rv with
  |tmp t'=>simp[bS]at hc
  |cell ad ty=>
   simp only[bS]at hc;split at hc
   ·next g' rs' hg hrs=>
    simp only[E_,List.cons.injEq,VRes.cell.injEq]at hc;obtain⟨⟨rfl,rfl⟩,rfl⟩:=hc
    have fin:∀u,(do loadVar ty (<-asAddr (a.tmps.getD ad Go.undef)):Sem Value).run P w=.ok u w->(results fn a.tmps).run P w=.ok u w:=by
     intro u hu;refine oZ (P:=P) (fn:=fn) (tmps:=a.tmps) (w:=w) (us:=[u]) ?_;rw[hfr,List.mapM_cons];simp only[Sem.run_bind]at hu |-;rw[hu];rfl
    split at hr
    ·next id off heq=>
     have hrel:=h.env ad;rw[heq]at hrel;split at hr
     ·next cells hl=>
      obtain⟨b,vs,e,fr,_,_,hv,hh,_,hcs⟩:=j7 h hl hrel;split at hr
      ·next n=>
       split at hr
       ·next hle=>
        simp only[E_,Prod.mk.injEq]at hr;obtain⟨rfl,rfl⟩:=hr;have hr':=aj.take n (aj.drop off hcs)
        have hlen:((vs.toList.drop off).take n).length=n:=by
         have:=aj.length hcs;rw[List.length_take,List.length_drop];omega
        refine⟨.agg ((vs.toList.drop off).take n).toArray,fin _ ?_,ar.mono (bv.refl _ _) (fun _ _ x=>.inl x) _ _ (k9 hr')⟩;simp only[hv,asAddr,Sem.run_bind,Sem.run_pure,Result.andThen_ok]
        exact ka hg hlen (fun j v hj=>by
         rw[List.getElem?_take]at hj;split at hj
         ·rw[List.getElem?_drop,Array.getElem?_toList]at hj;rw[dI hh];exact hj
         ·simp at hj)
       ·simp at hr
      ·split at hr
       ·next c hcc=>
        simp only[E_,Prod.mk.injEq]at hr;obtain⟨rfl,rfl⟩:=hr;obtain⟨v',h1,_,h2⟩:=aj.get hcs hcc;refine⟨v',fin _ ?_,ar.mono (bv.refl _ _) (fun _ _ x=>.inl x) _ _ h2⟩;simp only[hv,asAddr,Sem.run_bind,Sem.run_pure,Result.andThen_ok];exact m8 hg (by rw[dI hh];rw[Array.getElem?_toList]at h1;exact h1)
       ·simp at hr
     ·simp at hr
    ·simp at hr
   ·simp at hc
 ·next h0 h1 h2=>
  split at hr
  ·next vs fz' hv=>
   simp only[E_,Prod.mk.injEq]at hr;obtain⟨rfl,rfl⟩:=hr;refine many vs hv ?_ rfl;intro h1';obtain⟨x,rfl⟩:=List.length_eq_one_iff.1 h1';cases x with
   |tmp t=>exact h1 t rfl
   |cell t g=>exact h2 t g rfl
  ·simp at hr

theorem qR{w0 w:World}{S0 S:aO}{M:Ctx}{σ:St}{a:Act}{μ:Nat->Value}{β:Nat->Option Nat}(h:SimG w0 S0 M σ a w S μ β):∀ {l:List ResultVar} {rs:List VRes} {cells:List SV},bS P l=some rs->o0 σ rs=some cells->
  ∃us:List Value,(l.mapM (m:=Sem) fun rv=>match rv with|.tmp t=>(pure (a.tmps.getD t Go.undef):Sem Value)|.cell ad t=>do loadVar t (<-asAddr (a.tmps.getD ad Go.undef))).run P w=.ok us w/\aQ w S μ σ.objs cells us
 |[],rs,cells,hc,hr=>by
  simp only[bS,E_]at hc;subst hc;cases hr;exact⟨[],rfl,rfl⟩
 |.tmp t::l,rs,cells,hc,hr=>by
  simp only[bS,Option.map_eq_some_iff]at hc;obtain⟨r,h1,rfl⟩:=hc;simp only[o0,Option.map_eq_some_iff]at hr;obtain⟨cs,h2,rfl⟩:=hr;obtain⟨us,h3,h4⟩:=qR h h1 h2;refine⟨a.tmps.getD t Go.undef::us,?_,_,_,rfl,h.env t,h4⟩;rw[List.mapM_cons];simp only[Sem.run_bind,Sem.run_pure,Result.andThen_ok];rw[h3];rfl
 |.cell ad ty::l,rs,cells,hc,hr=>by
  simp only[bS]at hc;split at hc
  ·next g r hg hrs=>
   obtain rfl:=O_ hc;cases g with
   |none=>cases hr
   |some n=>
    simp only[o0]at hr;split at hr
    ·next id off heq=>
     have hrel:=h.env ad;rw[heq]at hrel;split at hr
     ·next cells' hl=>
      split at hr
      ·next hle=>
       simp only[Option.map_eq_some_iff]at hr;obtain⟨cs,h2,rfl⟩:=hr;obtain⟨us,h3,h4⟩:=qR h hrs h2;obtain⟨b,vs,e,fr,_,_,hv,hh,_,hcs⟩:=j7 h hl hrel;have hr':=aj.take n (aj.drop off hcs)
       have hlen:((vs.toList.drop off).take n).length=n:=by
        have:=aj.length hcs;rw[List.length_take,List.length_drop];omega
       refine⟨.agg ((vs.toList.drop off).take n).toArray::us,?_,_,_,rfl,k9 hr',h4⟩
       have hload:(do loadVar ty (<-asAddr (a.tmps.getD ad Go.undef)):Sem Value).run P w=.ok (.agg ((vs.toList.drop off).take n).toArray) w:=by
        simp only[hv,asAddr,Sem.run_bind,Sem.run_pure,Result.andThen_ok]
        exact ka hg hlen (fun j v hj=>by
         rw[List.getElem?_take]at hj;split at hj
         ·rw[List.getElem?_drop,Array.getElem?_toList]at hj;rw[dI hh];exact hj
         ·simp at hj)
       rw[List.mapM_cons];simp only[Sem.run_bind]at hload |-;rw[hload];simp only[Result.andThen_ok];rw[h3];rfl
      ·cases hr
     ·cases hr
    ·cases hr
  ·cases hc
theorem KJ{w0 w:World}{S0 S:aO}{M:Ctx}{σ:St}{a:Act}{μ:Nat->Value}{β:Nat->Option Nat}(h:SimG w0 S0 M σ a w S μ β){fn:Func}{rs:List VRes}(hc:bS P fn.results.toList=some rs){r0 r:SV}{fz:List Nat}(hr:EB σ rs r0=some (r,fz)) :
  ∃u,(results fn a.tmps).run P w=.ok u w/\ar w (cY S β σ.objs fz) μ σ.objs r u:=by
 cases r0
 case tup=>
  have hlen:=kA hc;cases rs with
  |nil=>cases hr
  |cons x rs=>
   cases rs with
   |nil=>cases hr
   |cons y l=>
    have hr:(o0 σ (x::y::l)).map (fun l=>(SV.tup l,([]:List Nat)))=some (r,fz):=hr;simp only[Option.map_eq_some_iff,Prod.mk.injEq]at hr;obtain⟨cells,h1,rfl,rfl⟩:=hr;obtain⟨us,h2,h3⟩:=qR h hc h1;have hrun:=oZ h2;have h4:=aQ.length h3
    have h5:∀ {rs:List VRes} {cells:List SV},o0 σ rs=some cells->cells.length=rs.length:=by
     intro rs
     induction rs with
     |nil=>intro cells hh;cases hh;rfl
     |cons x l ih=>
      intro cells hh;cases x with
      |tmp t=>
       simp only[o0,Option.map_eq_some_iff]at hh;obtain⟨cs,q1,rfl⟩:=hh;simp[ih q1]
      |cell t g=>
       cases g with
       |none=>cases hh
       |some n=>
        simp only[o0]at hh;split at hh
        ·split at hh
         ·split at hh
          ·simp only[Option.map_eq_some_iff]at hh;obtain⟨cs,q1,rfl⟩:=hh;simp[ih q1]
          ·cases hh
         ·cases hh
        ·cases hh
    have h6:=h5 h1;rw[dif_neg (by simp at h6 |-;omega)]at hrun;exact⟨_,hrun,us.toArray,rfl,aQ.mono (bv.refl _ _) (fun _ _ x=>.inl x) _ _ (by simpa using h3)⟩
 all_goals exact KI h hc hr

theorem bn(hm:P.follows .mixedOrders=true){k:FuncId}{v:VCode}{rs:List VRes}{n:Nat}(hok:FnOk P k v rs n){gl:List (Nat×List IV)}{c:MC}(hn:c.args.length<=n)(hfar:Nc n c.objs=true)(h:pw P v (cn rs c) (nj gl c n)):mP gl P k c:=by
 obtain⟨fn,cd,hf,hname,hbody,hcomp,hbnd,hres,hnt⟩:=hok;refine⟨⟨fn,hf,hname⟩,fun w S μ β vs hS hgl hrep hobj hinj hunst=>.inl ⟨⟨fn,hf,by rw[hbody];rfl⟩,?_⟩⟩;subst hnt;refine calls_of_wp hf hbody ?_;have hl:=aQ.length hrep
 have keep:∀(l:List (Nat×Ob)),∃ks:List (Nat×SV),(∀p∈ks,∃o,ac c.objs p.1=some o/\p.2=KH p.1 o)/\∀i o,ac l i=some o->ac c.objs i=some o->(i,KH i o)∈ks:=by
  intro l
  induction l with
  |nil=>exact⟨[],by simp,fun i o h=>by simp[ac]at h⟩
  |cons p r ih=>
   obtain⟨ks,k1,k2⟩:=ih;cases hp:ac c.objs p.1 with
   |none=>
    refine⟨ks,k1,fun i o hi hc=>?_⟩;obtain⟨j,x⟩:=p;simp only[ac]at hi;cases hj:j==i
    ·rw[hj]at hi;exact k2 i o hi hc
    ·rw[beq_iff_eq]at hj;subst hj;rw[hp]at hc;simp at hc
   |some y=>
    refine⟨(p.1,KH p.1 y)::ks,?_,fun i o hi hc=>?_⟩
    ·intro q hq;rcases List.mem_cons.1 hq with rfl|hq
     ·exact⟨y,hp,rfl⟩
     ·exact k1 q hq
    ·obtain⟨j,x⟩:=p;simp only[ac]at hi;cases hj:j==i
     ·rw[hj]at hi;exact List.mem_cons_of_mem _ (k2 i o hi hc)
     ·rw[beq_iff_eq]at hj;subst hj;rw[hp]at hc;simp only[E_]at hc;subst hc;exact List.mem_cons_self
 obtain⟨ks,ks1,ks2⟩:=keep c.objs
 have start:SimG w S ⟨fun b=>∃i x,ac c.objs i=some x/\β i=some b,ks,μ,[]⟩ (nj gl c fn.ntmps) {tmps:=vs.toArray++Array.replicate (fn.ntmps-vs.toArray.size) Go.undef,defers:=[] } w S μ β:=by
  refine {defers:=rfl,size:=?_,env:=?_,objs:=hobj,inj:=hinj,own:=fun id o b h1 h2=>.inr ⟨id,o,h1,h2⟩,unst:=hunst,stab:=hS,ext:=fun _ _ x=>x,back:=fun _ _ x=>.inl x,kept:=Kept.refl _ _,stay:=fun _ _ _=>rfl,hist:=?_,far:=?_,glob:=hgl }
  ·simp[nj];omega
  ·intro k;have:=IQ 0 hrep k
   have e:(vs.toArray++Array.replicate (fn.ntmps-vs.toArray.size) Go.undef).getD k Go.undef=(vs[k-0]?).getD Go.undef:=by
    rw[Nat.sub_zero];rcases Nat.lt_or_ge k vs.length with hk|hk
    ·simp[Array.getD,hk,Array.getElem_append_left,Nat.lt_add_right]
    ·rw[List.getElem?_eq_none hk,Option.getD_none];rw[Array.getD_eq_getD_getElem?,Array.getElem?_append_right (by simpa using hk),Array.getElem?_replicate];split<;>rfl
   show ar _ _ _ _ (aC (xE 0 c.args) k) _;rw[e];exact this
  ·intro p hp;obtain⟨o,h1,h2⟩:=ks1 p hp;rw[h2];cases o with
   |box cells=>
    intro cells' hl';obtain⟨b,vs,e,fr,_,q2,_⟩:=hobj _ _ h1;exact⟨b,q2,q2⟩
   |arr ver s rows=>
    intro cv s' rows' hl';rw[show ac (nj gl c fn.ntmps).objs p.1=ac c.objs p.1 from rfl,h1]at hl';simp only[E_,Ob.arr.injEq]at hl';obtain⟨rfl,_,_⟩:=hl';exact⟨Nat.le_refl _,fun _=>rfl⟩
   |iter s p=>intro s' p' hl';rfl
  ·intro p hp d hd;obtain⟨o,h1,h2⟩:=ks1 p hp;have hge:=IP hfar _ _ h1;have hd:d<fn.ntmps:=hd;rw[h2];cases o<;>simp[KH,SV.noRef]<;>omega
 refine wp_mono (kz hm v h cd hcomp hbnd w S _ _ w ⟨S,μ,β,start⟩) (fun e a w' hlift=>?_)
 have fin:∀σ,cn rs c .ret σ->cE w S ⟨fun b=>∃i x,ac c.objs i=some x/\β i=some b,ks,μ,[]⟩ σ a w'->a.defers=[]/\∃u,(results fn a.tmps).run P w'=.ok u w'/\∃(v:Value) (S':aO) (μ':Nat->Value) (β':Nat->Option Nat),Ending.returned u=.returned v/\ar w' S' μ' c.objs' c.res v/\
   (∀id o,ac c.objs' id=some o->bA w' S' μ' c.objs' (β' id) (μ' id) o)/\
   (∀id id' o o' b,ac c.objs' id=some o->ac c.objs' id'=some o'->β' id=some b->β' id'=some b->id=id')/\
   (∀id o b,ac c.objs' id=some o->β' id=some b->w.heap.size<=b\/∃i x,ac c.objs i=some x/\β i=some b)/\
   (∀id o b off,ac c.objs' id=some o->β' id=some b->S' b off->id∈c.ro'/\∀ver s rows,o=.arr ver s rows->off<rows.length*s)/\
   (∀b o,S' b o->b<w'.heap.size)/\(∀b o,S b o->S' b o)/\(∀b o,S' b o->S b o\/w.heap.size<=b\/∃i x,ac c.objs i=some x/\β i=some b)/\
   Kept (fun b=>∃i x,ac c.objs i=some x/\β i=some b) w w'/\
   (∀id o,ac c.objs id=some o->ar w' S' μ' c.objs' (KH id o) (μ id))/\(∀b o,S b o->w'.cell? ⟨b,o,none⟩=w.cell? ⟨b,o,none⟩):=by
  rintro σ ⟨σ',fz,hw,hob,hr,hro⟩ hs;obtain⟨S1,μ1,β1,hg⟩:=hw _ _ _ _ _ hs;refine⟨hg.defers,?_⟩;obtain⟨u,hu1,hu2⟩:=KJ hg hres hr;have hf:=hg.freeze fz;rw[hob]at hu2;have hfo:=hf.objs;have hfi:=hf.inj;have hfw:=hf.own;have hfu:=hf.unst;have hfh:=hf.hist;simp only[hob]at hfo hfi hfw hfu hfh;refine⟨u,hu1,u,cY S1 β1 c.objs' fz,μ1,β1,rfl,hu2,?_,hfi,hfw,?_,?_,?_,?_,hg.kept,?_,hg.stay⟩
  ·intro id o hl;exact hfo id o hl
  ·intro id o b off h1 h2 h3;obtain⟨q1,q2⟩:=hfu id o b off h1 h2 h3;exact⟨by rw[hro];exact q1,q2⟩
  ·intro b o hS;rw[<-hob]at hS;exact hf.stab b o hS
  ·intro b o hS;exact .inl (hg.ext b o hS)
  ·intro b o hS;rw[<-hob]at hS;exact hf.back b o hS
  ·intro id o hl;exact hfh _ (ks2 id o hl hl)
 cases e
 case normal=>obtain⟨σ,h1,_,h2⟩:=hlift;exact fin σ h1 h2
 case ret=>obtain⟨σ,h1,_,h2⟩:=hlift;exact fin σ h1 h2
 case panic=>exact hlift.elim
 case outgrown=>exact hlift.elim
 case exit=>obtain⟨σ,h1,_⟩:=hlift;exact h1.elim
 case goto=>obtain⟨σ,h1,_⟩:=hlift;exact h1.elim
end
end Go.Vs
namespace Go.Vs

universe u
class Hold(α:Sort u) where
 val:α

def IR(gl:List (Nat×List IV))(P:Program)(g:FuncId)(ivs:List IV) [k:Hold (Res->Prop)]:Prop:=∃r,zk gl P g ivs r/\k.val r
theorem aa{gl:List (Nat×List IV)}{P:Program}{g:FuncId}{ivs:List IV}{k:Res->Prop}{v:IV}(h:Fn gl P g ivs v)(hk:k (.imm v)):@IR gl P g ivs ⟨k⟩:=⟨_,h,hk⟩
def IS(gl:List (Nat×List IV))(P:Program)(a:Option (FuncId×List IV×List Nat)) [k:Hold (List Nat->Res->Prop)]:Prop:=match a with
 |some (g,ivs,fz)=>@IR gl P g ivs ⟨k.val fz⟩
 |none=>False
theorem KK{gl:List (Nat×List IV)}{P:Program}{g:FuncId}{ivs:List IV}{fz:List Nat}{k:List Nat->Res->Prop} : @IS gl P (some (g,ivs,fz)) ⟨k⟩=@IR gl P g ivs ⟨fun r=>k fz r⟩:=_root_.id rfl
def nk(o:Option Upd) [k:Hold (Upd->Prop)]:Prop:=match o with
 |some u=>u.side/\k.val u
 |none=>False
theorem Ph{u:Upd}{k:Upd->Prop} : @nk (some u) ⟨k⟩=(u.side/\k u):=_root_.id rfl
def IT(o:Option Upd) [k:Hold (Upd->Prop)]:Prop:=match o with
 |some u=>k.val u
 |none=>False
theorem KL{u:Upd}{k:Upd->Prop} : @IT (some u) ⟨k⟩=k u:=_root_.id rfl
theorem Pi{P:Program}{σ:St}{dst:Option Nat}{k:Upd->Prop}{f:Nat}{args:List Opd} : cT P σ dst k (.call f args)=@IS σ.gl P (dK σ (.val (.fn f [])) args) ⟨fun fz r=>@IT (gO dst fz r) ⟨k⟩⟩:=by
 simp only[cT,IS,IT,IR];rfl
theorem Nd{P:Program}{σ:St}{dst:Option Nat}{k:Upd->Prop}{f:Opd}{args:List Opd} : cT P σ dst k (.callV f args)=@IS σ.gl P (dK σ (val σ f) args) ⟨fun fz r=>@IT (gO dst fz r) ⟨k⟩⟩:=by
 simp only[cT,IS,IT,IR];rfl
section
variable {P:Program} {σ:St} {dst:Option Nat} {k:Upd->Prop}
theorem Pj{q0:Opd} : cT P σ dst k (.move q0)=@nk (ev σ dst (.move q0)) ⟨k⟩:=_root_.id rfl
theorem Pk{q0:Opd}{q1:Opd}{q2:Opd} : cT P σ dst k (.pick q0 q1 q2)=@nk (ev σ dst (.pick q0 q1 q2)) ⟨k⟩:=_root_.id rfl
theorem Nf{q0:List SV} : cT P σ dst k (.alloc q0)=@nk (ev σ dst (.alloc q0)) ⟨k⟩:=_root_.id rfl
theorem Sd{q0:Opd} : cT P σ dst k (.box q0)=@nk (ev σ dst (.box q0)) ⟨k⟩:=_root_.id rfl
theorem Ng{q0:List SV}{q1:List (Nat×Nat×Opd)} : cT P σ dst k (.build q0 q1)=@nk (ev σ dst (.build q0 q1)) ⟨k⟩:=_root_.id rfl
theorem Cm{q0:Nat}{q1:Nat}{q2:List SV}{q3:List (Nat×Nat×Opd)} : cT P σ dst k (.buildSlice q0 q1 q2 q3)=@nk (ev σ dst (.buildSlice q0 q1 q2 q3)) ⟨k⟩:=_root_.id rfl
theorem Pl{q0:Option Nat}{q1:Opd} : cT P σ dst k (.load q0 q1)=@nk (ev σ dst (.load q0 q1)) ⟨k⟩:=_root_.id rfl
theorem Nh{q0:Nat}{q1:Opd}{q2:Opd} : cT P σ dst k (.store q0 q1 q2)=@nk (ev σ dst (.store q0 q1 q2)) ⟨k⟩:=_root_.id rfl
theorem GZ{q0:Opd} : cT P σ dst k (.nilCheck q0)=@nk (ev σ dst (.nilCheck q0)) ⟨k⟩:=_root_.id rfl
theorem Se{q0:BinOp}{q1:Opd}{q2:Opd} : cT P σ dst k (.bin q0 q1 q2)=@nk (ev σ dst (.bin q0 q1 q2)) ⟨k⟩:=_root_.id rfl
theorem Sf{q0:Bool}{q1:Opd}{q2:Opd} : cT P σ dst k (.eqB q0 q1 q2)=@nk (ev σ dst (.eqB q0 q1 q2)) ⟨k⟩:=_root_.id rfl
theorem Sg{q0:Bool}{q1:Opd} : cT P σ dst k (.eqN q0 q1)=@nk (ev σ dst (.eqN q0 q1)) ⟨k⟩:=_root_.id rfl
theorem Si{q0:Bool}{q1:Opd} : cT P σ dst k (.eqP q0 q1)=@nk (ev σ dst (.eqP q0 q1)) ⟨k⟩:=_root_.id rfl
theorem Sj{q0:Bool}{q1:Opd} : cT P σ dst k (.eqS q0 q1)=@nk (ev σ dst (.eqS q0 q1)) ⟨k⟩:=_root_.id rfl
theorem Sk{q0:Bool}{q1:List LK}{q2:Opd}{q3:Opd} : cT P σ dst k (.eqA q0 q1 q2 q3)=@nk (ev σ dst (.eqA q0 q1 q2 q3)) ⟨k⟩:=_root_.id rfl
theorem UP{q0:UnOp}{q1:Opd} : cT P σ dst k (.un q0 q1)=@nk (ev σ dst (.un q0 q1)) ⟨k⟩:=_root_.id rfl
theorem Ni{q0:IntKind}{q1:Opd} : cT P σ dst k (.convI q0 q1)=@nk (ev σ dst (.convI q0 q1)) ⟨k⟩:=_root_.id rfl
theorem Nj{q0:Opd} : cT P σ dst k (.convS q0)=@nk (ev σ dst (.convS q0)) ⟨k⟩:=_root_.id rfl
theorem KM{q0:Opd} : cT P σ dst k (.rangeS q0)=@nk (ev σ dst (.rangeS q0)) ⟨k⟩:=_root_.id rfl
theorem Nk{q0:Opd} : cT P σ dst k (.nextS q0)=@nk (ev σ dst (.nextS q0)) ⟨k⟩:=_root_.id rfl
theorem Nl{q0:Opd} : cT P σ dst k (.convB q0)=@nk (ev σ dst (.convB q0)) ⟨k⟩:=_root_.id rfl
theorem IU{q:Nat}{q0:Nat}{q1:Opd}{q2:Opd} : cT P σ dst k (.appendS q q0 q1 q2)=@nk (ev σ dst (.appendS q q0 q1 q2)) ⟨k⟩:=_root_.id rfl
theorem Sl{q0:Bool}{q1:Opd}{q2:Opd} : cT P σ dst k (.eqL q0 q1 q2)=@nk (ev σ dst (.eqL q0 q1 q2)) ⟨k⟩:=_root_.id rfl
theorem Nm{q0:Opd} : cT P σ dst k (.convR q0)=@nk (ev σ dst (.convR q0)) ⟨k⟩:=_root_.id rfl
theorem IW{q0:Nat}{q1:Opd} : cT P σ dst k (.mkIface q0 q1)=@nk (ev σ dst (.mkIface q0 q1)) ⟨k⟩:=_root_.id rfl
theorem KN{q0:Nat}{q1:List Opd} : cT P σ dst k (.mkFunc q0 q1)=@nk (ev σ dst (.mkFunc q0 q1)) ⟨k⟩:=_root_.id rfl
theorem IX{q0:Nat}{q1:List Opd} : cT P σ dst k (.mkBound q0 q1)=@nk (ev σ dst (.mkBound q0 q1)) ⟨k⟩:=_root_.id rfl
theorem IY{q0:Nat}{q1:Nat}{q2:List SV}{q3:Opd}{q4:Opd} : cT P σ dst k (.mkSlice q0 q1 q2 q3 q4)=@nk (ev σ dst (.mkSlice q0 q1 q2 q3 q4)) ⟨k⟩:=_root_.id rfl
theorem Pn{q0:Opd}{q1:Option Opd}{q2:Option Opd} : cT P σ dst k (.subS q0 q1 q2)=@nk (ev σ dst (.subS q0 q1 q2)) ⟨k⟩:=_root_.id rfl
theorem Po{q0 q1:Nat}{q2:Opd}{q3:Option Opd}{q4:Option Opd} : cT P σ dst k (.subA q0 q1 q2 q3 q4)=@nk (ev σ dst (.subA q0 q1 q2 q3 q4)) ⟨k⟩:=_root_.id rfl
theorem Pp{q0:Nat}{q1:Opd}{q2:Option Opd}{q3:Option Opd}{q4:Option Opd} : cT P σ dst k (.subV q0 q1 q2 q3 q4)=@nk (ev σ dst (.subV q0 q1 q2 q3 q4)) ⟨k⟩:=_root_.id rfl
theorem EC{q0:Nat}{q1:Opd} : cT P σ dst k (.fieldAddr q0 q1)=@nk (ev σ dst (.fieldAddr q0 q1)) ⟨k⟩:=_root_.id rfl
theorem Nn{q0:Nat}{q1:Option Nat}{q2:Opd} : cT P σ dst k (.field q0 q1 q2)=@nk (ev σ dst (.field q0 q1 q2)) ⟨k⟩:=_root_.id rfl
theorem ED{q0:Nat}{q1:Opd}{q2:Opd} : cT P σ dst k (.indexAddr q0 q1 q2)=@nk (ev σ dst (.indexAddr q0 q1 q2)) ⟨k⟩:=_root_.id rfl
theorem H0{q0:Nat}{q1:Nat}{q2:Opd}{q3:Opd} : cT P σ dst k (.indexArr q0 q1 q2 q3)=@nk (ev σ dst (.indexArr q0 q1 q2 q3)) ⟨k⟩:=_root_.id rfl
theorem KO{q0:Opd}{q1:Opd} : cT P σ dst k (.indexS q0 q1)=@nk (ev σ dst (.indexS q0 q1)) ⟨k⟩:=_root_.id rfl
theorem KP{q0:Nat}{q1:Nat}{q2:Option Nat}{q3:Opd}{q4:Opd} : cT P σ dst k (.indexA q0 q1 q2 q3 q4)=@nk (ev σ dst (.indexA q0 q1 q2 q3 q4)) ⟨k⟩:=_root_.id rfl
theorem IZ{q0:Opd}{q1:Nat} : cT P σ dst k (.extract q0 q1)=@nk (ev σ dst (.extract q0 q1)) ⟨k⟩:=_root_.id rfl
theorem Pq{q0:Opd} : cT P σ dst k (.lenS q0)=@nk (ev σ dst (.lenS q0)) ⟨k⟩:=_root_.id rfl
theorem Pr{q0:Opd} : cT P σ dst k (.lenV q0)=@nk (ev σ dst (.lenV q0)) ⟨k⟩:=_root_.id rfl
theorem KQ{q0:Nat} : cT P σ dst k (.allocB q0)=@nk (ev σ dst (.allocB q0)) ⟨k⟩:=_root_.id rfl
theorem Ps{q0:Opd} : cT P σ dst k (.capV q0)=@nk (ev σ dst (.capV q0)) ⟨k⟩:=_root_.id rfl
theorem Pt{q0:Nat}{q1:Opd} : cT P σ dst k (.lenC q0 q1)=@nk (ev σ dst (.lenC q0 q1)) ⟨k⟩:=_root_.id rfl
theorem Pu{q0:Opd}{q1:Opd} : cT P σ dst k (.maxI q0 q1)=@nk (ev σ dst (.maxI q0 q1)) ⟨k⟩:=_root_.id rfl
theorem Pv{q0:Opd}{q1:Opd} : cT P σ dst k (.minI q0 q1)=@nk (ev σ dst (.minI q0 q1)) ⟨k⟩:=_root_.id rfl
theorem No{q0:List SV}{q1:Opd} : cT P σ dst k (.clear q0 q1)=@nk (ev σ dst (.clear q0 q1)) ⟨k⟩:=_root_.id rfl
theorem Pw{q0:Nat}{q1:Opd}{q2:Opd} : cT P σ dst k (.copy q0 q1 q2)=@nk (ev σ dst (.copy q0 q1 q2)) ⟨k⟩:=_root_.id rfl
theorem KR{q:Nat}{q0:Nat}{q1:Nat}{q2:Opd}{q3:Opd} : cT P σ dst k (.append q q0 q1 q2 q3)=@nk (ev σ dst (.append q q0 q1 q2 q3)) ⟨k⟩:=_root_.id rfl
end
def Px:List (Nat×SV)->Nat->SV->List (Nat×SV)
 |[],_,_=>[]
 |(j,v)::r,k,x=>bif j==k then (j,x)::r else (j,v)::Px r k x
theorem FK:∀ {env:List (Nat×SV)} {k:Nat} {v:SV},ac env k=some v->Px env k v=env
 |[],_,_,h=>rfl
 |(j,v)::r,k,x,h=>by
  simp only[ac]at h;simp only[Px];cases hj:j==k with
  |true=>rw[hj]at h;simp only[cond_true,E_]at h |-;rw[h]
  |false=>rw[hj]at h;simp only[cond_false]at h |-;rw[FK h]
def St.setB(σ:St)(g:Nat)(b:Bool):St:={σ with env:=Px σ.env g (.val (.bool b)) }
theorem St.setB_self{σ:St}{g:Nat}{b:Bool}(h:aC σ.env g=.val (.bool b)):σ.setB g b=σ:=by
 unfold St.setB;rw[FK];unfold aC at h;cases hl:ac σ.env g with
 |none=>rw[hl]at h;simp at h
 |some v=>rw[hl]at h;simp only[Option.getD_some]at h;rw[h]
def NS(σ:St) [k:Hold (St->Prop)]:Prop:=k.val σ
theorem Wm{a:List (Nat×SV)}{b:List (Nat×Ob)}{c:List Nat}{n:Nat}{gl:List (Nat×List IV)}{k:St->Prop} : @NS ⟨a,b,c,n,gl⟩ ⟨k⟩=k ⟨a,b,c,n,gl⟩:=_root_.id rfl
def Br(c:Bool) [A:Hold Prop] [B:Hold Prop]:Prop:=(c=true->A.val)/\(c=false->B.val)
theorem LY{A B:Prop} : @Br true ⟨A⟩ ⟨B⟩=A:=by simp[Br]
theorem J0{A B:Prop} : @Br false ⟨A⟩ ⟨B⟩=B:=by simp[Br]
theorem UQ{c:Bool}{A B:Prop} : @Br (!c) ⟨A⟩ ⟨B⟩=@Br c ⟨B⟩ ⟨A⟩:=by cases c<;>simp[Br]
theorem j9{p:Prop} [Decidable p]{A B:Prop} : @Br (decide p) ⟨A⟩ ⟨B⟩=((p->A)/\(¬p->B)):=by
 by_cases h:p<;>simp[Br,h]
theorem UR{a b:Bool}{A B:Prop} : @Br (a==b) ⟨A⟩ ⟨B⟩=@Br (decide (a=b)) ⟨A⟩ ⟨B⟩:=by cases a<;>cases b<;>rfl
theorem US{a b:Bool}{A B:Prop} : @Br (a&&b) ⟨A⟩ ⟨B⟩=@Br a ⟨@Br b ⟨A⟩ ⟨B⟩⟩ ⟨B⟩:=by cases a<;>cases b<;>simp[Br]
theorem Wn{a b:Bool}{A B:Prop} : @Br (a||b) ⟨A⟩ ⟨B⟩=@Br a ⟨A⟩ ⟨@Br b ⟨A⟩ ⟨B⟩⟩:=by cases a<;>cases b<;>simp[Br]
theorem W9{p:Prop} [Decidable p]{A B:Prop}(h1:p->A)(h2:¬p->B):@Br (decide p) ⟨A⟩ ⟨B⟩:=by rw[j9];exact⟨h1,h2⟩
def v6(v:SV) [A:Hold Prop] [B:Hold Prop] [C:Hold Prop]:Prop:=match v with
 |.val (.bool c)=>@Br c A B
 |.val (.tuple [])=>C.val
 |_=>False
theorem Py{c:Bool}{A B C:Prop} : @v6 (.val (.bool c)) ⟨A⟩ ⟨B⟩ ⟨C⟩=@Br c ⟨A⟩ ⟨B⟩:=_root_.id rfl
theorem Pz{A B C:Prop} : @v6 (.val (.tuple [])) ⟨A⟩ ⟨B⟩ ⟨C⟩=C:=_root_.id rfl
def Xd(v:SV) [A:Hold Prop] [B:Hold Prop]:Prop:=match v with
 |.val (.bool c)=>@Br c A B
 |.anyB=>A.val/\B.val
 |_=>False
theorem PA{c:Bool}{A B:Prop} : @Xd (.val (.bool c)) ⟨A⟩ ⟨B⟩=@Br c ⟨A⟩ ⟨B⟩:=_root_.id rfl
theorem Sm{A B:Prop} : @Xd .anyB ⟨A⟩ ⟨B⟩=(A/\B):=_root_.id rfl
def Wo(P:Program)(σ:St) [v:Hold VCode] [Q:Hold (Exit->St->Prop)]:Prop:=TV P v.val Q.val σ
theorem PB{P:Program}{K:St->Prop}{σ:St} : lE P K [] σ=K σ:=_root_.id rfl
theorem Np{P:Program}{K:St->Prop}{σ:St}{d:Option Nat}{op:VOp}{r:List VOper} : lE P K (⟨d,op,none⟩::r) σ=cT P σ d (fun u=>@NS (σ.apply d u) ⟨lE P K r⟩) op:=_root_.id rfl
theorem UT{P:Program}{K:St->Prop}{σ:St}{d:Option Nat}{op:VOp}{g:Nat}{r:List VOper} : lE P K (⟨d,op,some (g,true)⟩::r) σ =
  @v6 (aC σ.env g) ⟨@NS (σ.setB g true) ⟨fun σ'=>cT P σ' d (fun u=>@NS (σ'.apply d u) ⟨lE P K r⟩) op⟩⟩ ⟨@NS ((σ.setB g false).apply d gd) ⟨lE P K r⟩⟩ ⟨@NS (σ.apply d gd) ⟨lE P K r⟩⟩:=by
 simp only[lE];cases hg:aC σ.env g with
 |val v=>
  cases v with
  |bool c=>cases c<;>simp[iG,v6,Br,NS,St.setB_self hg]
  |tuple vs=>cases vs<;>simp[iG,v6,NS]
  |_=>simp[iG,v6]
 |_=>simp[iG,v6]
theorem UU{P:Program}{K:St->Prop}{σ:St}{d:Option Nat}{op:VOp}{g:Nat}{r:List VOper} : lE P K (⟨d,op,some (g,false)⟩::r) σ =
  @v6 (aC σ.env g) ⟨@NS ((σ.setB g true).apply d gd) ⟨lE P K r⟩⟩ ⟨@NS (σ.setB g false) ⟨fun σ'=>cT P σ' d (fun u=>@NS (σ'.apply d u) ⟨lE P K r⟩) op⟩⟩ ⟨@NS (σ.apply d gd) ⟨lE P K r⟩⟩:=by
 simp only[lE];cases hg:aC σ.env g with
 |val v=>
  cases v with
  |bool c=>cases c<;>simp[iG,v6,Br,NS,St.setB_self hg]
  |tuple vs=>cases vs<;>simp[iG,v6,NS]
  |_=>simp[iG,v6]
 |_=>simp[iG,v6]
def KS(P:Program)(σ:St)(dst:Option Nat)(fv:SV)(args:List Opd) [K:Hold (St->Prop)]:Prop:=IL P σ dst fv args K.val
theorem callM{P:Program}{σ:St}{dst:Option Nat}{fv:SV}{args:List Opd}{K:St->Prop}{k:FuncId}{vals:List SV}{c:MC}(ρ:List (Nat×Nat))(fz:List Nat)(h2:mP σ.gl P k c)(h1:IK σ fv args=some (k,vals))(h3:Ue σ ρ c=true)(h4:uY σ.objs ρ c.objs)
  (h5:uX σ.objs ρ vals c.args fz) (h6:Ud ρ fz c.objs=true) (h7:@NS (σ.mapply dst ρ c fz) ⟨K⟩):@KS P σ dst fv args ⟨K⟩:=⟨k,vals,c,ρ,fz,h1,h2,h3,h4,h5,h6,h7⟩
section
variable {P:Program} {σ:St} {dst:Option Nat} {K:St->Prop}
theorem PC{q0:Opd} : jK P σ dst K (.move q0)=cT P σ dst (fun u=>@NS (σ.apply dst u) ⟨K⟩) (.move q0):=_root_.id rfl
theorem PD{q0:Opd}{q1:Opd}{q2:Opd} : jK P σ dst K (.pick q0 q1 q2)=cT P σ dst (fun u=>@NS (σ.apply dst u) ⟨K⟩) (.pick q0 q1 q2):=_root_.id rfl
theorem Nq{q0:List SV} : jK P σ dst K (.alloc q0)=cT P σ dst (fun u=>@NS (σ.apply dst u) ⟨K⟩) (.alloc q0):=_root_.id rfl
theorem Sn{q0:Opd} : jK P σ dst K (.box q0)=cT P σ dst (fun u=>@NS (σ.apply dst u) ⟨K⟩) (.box q0):=_root_.id rfl
theorem Nr{q0:List SV}{q1:List (Nat×Nat×Opd)} : jK P σ dst K (.build q0 q1)=cT P σ dst (fun u=>@NS (σ.apply dst u) ⟨K⟩) (.build q0 q1):=_root_.id rfl
theorem Cn{q0:Nat}{q1:Nat}{q2:List SV}{q3:List (Nat×Nat×Opd)} : jK P σ dst K (.buildSlice q0 q1 q2 q3)=cT P σ dst (fun u=>@NS (σ.apply dst u) ⟨K⟩) (.buildSlice q0 q1 q2 q3):=_root_.id rfl
theorem PE{q0:Option Nat}{q1:Opd} : jK P σ dst K (.load q0 q1)=cT P σ dst (fun u=>@NS (σ.apply dst u) ⟨K⟩) (.load q0 q1):=_root_.id rfl
theorem Ns{q0:Nat}{q1:Opd}{q2:Opd} : jK P σ dst K (.store q0 q1 q2)=cT P σ dst (fun u=>@NS (σ.apply dst u) ⟨K⟩) (.store q0 q1 q2):=_root_.id rfl
theorem H1{q0:Opd} : jK P σ dst K (.nilCheck q0)=cT P σ dst (fun u=>@NS (σ.apply dst u) ⟨K⟩) (.nilCheck q0):=_root_.id rfl
theorem So{q0:BinOp}{q1:Opd}{q2:Opd} : jK P σ dst K (.bin q0 q1 q2)=cT P σ dst (fun u=>@NS (σ.apply dst u) ⟨K⟩) (.bin q0 q1 q2):=_root_.id rfl
theorem Sp{q0:Bool}{q1:Opd}{q2:Opd} : jK P σ dst K (.eqB q0 q1 q2)=cT P σ dst (fun u=>@NS (σ.apply dst u) ⟨K⟩) (.eqB q0 q1 q2):=_root_.id rfl
theorem Sq{q0:Bool}{q1:Opd} : jK P σ dst K (.eqN q0 q1)=cT P σ dst (fun u=>@NS (σ.apply dst u) ⟨K⟩) (.eqN q0 q1):=_root_.id rfl
theorem Sr{q0:Bool}{q1:Opd} : jK P σ dst K (.eqP q0 q1)=cT P σ dst (fun u=>@NS (σ.apply dst u) ⟨K⟩) (.eqP q0 q1):=_root_.id rfl
theorem Ss{q0:Bool}{q1:Opd} : jK P σ dst K (.eqS q0 q1)=cT P σ dst (fun u=>@NS (σ.apply dst u) ⟨K⟩) (.eqS q0 q1):=_root_.id rfl
theorem Su{q0:Bool}{q1:List LK}{q2:Opd}{q3:Opd} : jK P σ dst K (.eqA q0 q1 q2 q3)=cT P σ dst (fun u=>@NS (σ.apply dst u) ⟨K⟩) (.eqA q0 q1 q2 q3):=_root_.id rfl
theorem UV{q0:UnOp}{q1:Opd} : jK P σ dst K (.un q0 q1)=cT P σ dst (fun u=>@NS (σ.apply dst u) ⟨K⟩) (.un q0 q1):=_root_.id rfl
theorem Nt{q0:IntKind}{q1:Opd} : jK P σ dst K (.convI q0 q1)=cT P σ dst (fun u=>@NS (σ.apply dst u) ⟨K⟩) (.convI q0 q1):=_root_.id rfl
theorem Nv{q0:Opd} : jK P σ dst K (.convS q0)=cT P σ dst (fun u=>@NS (σ.apply dst u) ⟨K⟩) (.convS q0):=_root_.id rfl
theorem KT{q0:Opd} : jK P σ dst K (.rangeS q0)=cT P σ dst (fun u=>@NS (σ.apply dst u) ⟨K⟩) (.rangeS q0):=_root_.id rfl
theorem Nw{q0:Opd} : jK P σ dst K (.nextS q0)=cT P σ dst (fun u=>@NS (σ.apply dst u) ⟨K⟩) (.nextS q0):=_root_.id rfl
theorem Nx{q0:Opd} : jK P σ dst K (.convB q0)=cT P σ dst (fun u=>@NS (σ.apply dst u) ⟨K⟩) (.convB q0):=_root_.id rfl
theorem J1{q:Nat}{q0:Nat}{q1:Opd}{q2:Opd} : jK P σ dst K (.appendS q q0 q1 q2)=cT P σ dst (fun u=>@NS (σ.apply dst u) ⟨K⟩) (.appendS q q0 q1 q2):=_root_.id rfl
theorem Sv{q0:Bool}{q1:Opd}{q2:Opd} : jK P σ dst K (.eqL q0 q1 q2)=cT P σ dst (fun u=>@NS (σ.apply dst u) ⟨K⟩) (.eqL q0 q1 q2):=_root_.id rfl
theorem Ny{q0:Opd} : jK P σ dst K (.convR q0)=cT P σ dst (fun u=>@NS (σ.apply dst u) ⟨K⟩) (.convR q0):=_root_.id rfl
theorem J2{q0:Nat}{q1:Opd} : jK P σ dst K (.mkIface q0 q1)=cT P σ dst (fun u=>@NS (σ.apply dst u) ⟨K⟩) (.mkIface q0 q1):=_root_.id rfl
theorem KU{q0:Nat}{q1:List Opd} : jK P σ dst K (.mkFunc q0 q1)=cT P σ dst (fun u=>@NS (σ.apply dst u) ⟨K⟩) (.mkFunc q0 q1):=_root_.id rfl
theorem J3{q0:Nat}{q1:List Opd} : jK P σ dst K (.mkBound q0 q1)=cT P σ dst (fun u=>@NS (σ.apply dst u) ⟨K⟩) (.mkBound q0 q1):=_root_.id rfl
theorem J4{q0:Nat}{q1:Nat}{q2:List SV}{q3:Opd}{q4:Opd} : jK P σ dst K (.mkSlice q0 q1 q2 q3 q4)=cT P σ dst (fun u=>@NS (σ.apply dst u) ⟨K⟩) (.mkSlice q0 q1 q2 q3 q4):=_root_.id rfl
theorem PF{q0:Opd}{q1:Option Opd}{q2:Option Opd} : jK P σ dst K (.subS q0 q1 q2)=cT P σ dst (fun u=>@NS (σ.apply dst u) ⟨K⟩) (.subS q0 q1 q2):=_root_.id rfl
theorem PG{q0 q1:Nat}{q2:Opd}{q3:Option Opd}{q4:Option Opd} : jK P σ dst K (.subA q0 q1 q2 q3 q4)=cT P σ dst (fun u=>@NS (σ.apply dst u) ⟨K⟩) (.subA q0 q1 q2 q3 q4):=_root_.id rfl
theorem PH{q0:Nat}{q1:Opd}{q2:Option Opd}{q3:Option Opd}{q4:Option Opd} : jK P σ dst K (.subV q0 q1 q2 q3 q4)=cT P σ dst (fun u=>@NS (σ.apply dst u) ⟨K⟩) (.subV q0 q1 q2 q3 q4):=_root_.id rfl
theorem EE{q0:Nat}{q1:Opd} : jK P σ dst K (.fieldAddr q0 q1)=cT P σ dst (fun u=>@NS (σ.apply dst u) ⟨K⟩) (.fieldAddr q0 q1):=_root_.id rfl
theorem Nz{q0:Nat}{q1:Option Nat}{q2:Opd} : jK P σ dst K (.field q0 q1 q2)=cT P σ dst (fun u=>@NS (σ.apply dst u) ⟨K⟩) (.field q0 q1 q2):=_root_.id rfl
theorem EF{q0:Nat}{q1:Opd}{q2:Opd} : jK P σ dst K (.indexAddr q0 q1 q2)=cT P σ dst (fun u=>@NS (σ.apply dst u) ⟨K⟩) (.indexAddr q0 q1 q2):=_root_.id rfl
theorem H2{q0:Nat}{q1:Nat}{q2:Opd}{q3:Opd} : jK P σ dst K (.indexArr q0 q1 q2 q3)=cT P σ dst (fun u=>@NS (σ.apply dst u) ⟨K⟩) (.indexArr q0 q1 q2 q3):=_root_.id rfl
theorem KV{q0:Opd}{q1:Opd} : jK P σ dst K (.indexS q0 q1)=cT P σ dst (fun u=>@NS (σ.apply dst u) ⟨K⟩) (.indexS q0 q1):=_root_.id rfl
theorem KW{q0:Nat}{q1:Nat}{q2:Option Nat}{q3:Opd}{q4:Opd} : jK P σ dst K (.indexA q0 q1 q2 q3 q4)=cT P σ dst (fun u=>@NS (σ.apply dst u) ⟨K⟩) (.indexA q0 q1 q2 q3 q4):=_root_.id rfl
theorem J5{q0:Opd}{q1:Nat} : jK P σ dst K (.extract q0 q1)=cT P σ dst (fun u=>@NS (σ.apply dst u) ⟨K⟩) (.extract q0 q1):=_root_.id rfl
theorem PI{q0:Opd} : jK P σ dst K (.lenS q0)=cT P σ dst (fun u=>@NS (σ.apply dst u) ⟨K⟩) (.lenS q0):=_root_.id rfl
theorem PJ{q0:Opd} : jK P σ dst K (.lenV q0)=cT P σ dst (fun u=>@NS (σ.apply dst u) ⟨K⟩) (.lenV q0):=_root_.id rfl
theorem KX{q0:Nat} : jK P σ dst K (.allocB q0)=cT P σ dst (fun u=>@NS (σ.apply dst u) ⟨K⟩) (.allocB q0):=_root_.id rfl
theorem PK{q0:Opd} : jK P σ dst K (.capV q0)=cT P σ dst (fun u=>@NS (σ.apply dst u) ⟨K⟩) (.capV q0):=_root_.id rfl
theorem PL{q0:Nat}{q1:Opd} : jK P σ dst K (.lenC q0 q1)=cT P σ dst (fun u=>@NS (σ.apply dst u) ⟨K⟩) (.lenC q0 q1):=_root_.id rfl
theorem PM{q0:Opd}{q1:Opd} : jK P σ dst K (.maxI q0 q1)=cT P σ dst (fun u=>@NS (σ.apply dst u) ⟨K⟩) (.maxI q0 q1):=_root_.id rfl
theorem PN{q0:Opd}{q1:Opd} : jK P σ dst K (.minI q0 q1)=cT P σ dst (fun u=>@NS (σ.apply dst u) ⟨K⟩) (.minI q0 q1):=_root_.id rfl
theorem NA{q0:List SV}{q1:Opd} : jK P σ dst K (.clear q0 q1)=cT P σ dst (fun u=>@NS (σ.apply dst u) ⟨K⟩) (.clear q0 q1):=_root_.id rfl
theorem PO{q0:Nat}{q1:Opd}{q2:Opd} : jK P σ dst K (.copy q0 q1 q2)=cT P σ dst (fun u=>@NS (σ.apply dst u) ⟨K⟩) (.copy q0 q1 q2):=_root_.id rfl
theorem KY{q:Nat}{q0:Nat}{q1:Nat}{q2:Opd}{q3:Opd} : jK P σ dst K (.append q q0 q1 q2 q3)=cT P σ dst (fun u=>@NS (σ.apply dst u) ⟨K⟩) (.append q q0 q1 q2 q3):=_root_.id rfl
theorem PP{f:Nat}{args:List Opd} : jK P σ dst K (.call f args)=cT P σ dst (fun u=>@NS (σ.apply dst u) ⟨K⟩) (.call f args):=_root_.id rfl
theorem NB{f:Opd}{args:List Opd} : jK P σ dst K (.callV f args)=cT P σ dst (fun u=>@NS (σ.apply dst u) ⟨K⟩) (.callV f args):=_root_.id rfl
theorem NC{f:Nat}{args:List Opd} : jK P σ dst K (.callM f args)=@KS P σ dst (.val (.fn f [])) args ⟨K⟩:=_root_.id rfl
theorem KZ{f:Opd}{args:List Opd} : jK P σ dst K (.callMV f args)=@KS P σ dst (val σ f) args ⟨K⟩:=_root_.id rfl
end
theorem PQ{P:Program}{K:St->Prop}{σ:St} : gg P K [] σ=K σ:=_root_.id rfl
theorem ND{P:Program}{K:St->Prop}{σ:St}{d:Option Nat}{op:VOp}{r:List VOper} : gg P K (⟨d,op,none⟩::r) σ=jK P σ d (gg P K r) op:=_root_.id rfl
theorem UW{P:Program}{K:St->Prop}{σ:St}{d:Option Nat}{op:VOp}{g:Nat}{r:List VOper} : gg P K (⟨d,op,some (g,true)⟩::r) σ =
  @v6 (aC σ.env g) ⟨@NS (σ.setB g true) ⟨fun σ'=>jK P σ' d (gg P K r) op⟩⟩ ⟨@NS ((σ.setB g false).apply d gd) ⟨gg P K r⟩⟩ ⟨@NS (σ.apply d gd) ⟨gg P K r⟩⟩:=by
 simp only[gg];cases hg:aC σ.env g with
 |val v=>
  cases v with
  |bool c=>cases c<;>simp[iG,v6,Br,NS,St.setB_self hg]
  |tuple vs=>cases vs<;>simp[iG,v6,NS]
  |_=>simp[iG,v6]
 |_=>simp[iG,v6]
theorem UX{P:Program}{K:St->Prop}{σ:St}{d:Option Nat}{op:VOp}{g:Nat}{r:List VOper} : gg P K (⟨d,op,some (g,false)⟩::r) σ =
  @v6 (aC σ.env g) ⟨@NS ((σ.setB g true).apply d gd) ⟨gg P K r⟩⟩ ⟨@NS (σ.setB g false) ⟨fun σ'=>jK P σ' d (gg P K r) op⟩⟩ ⟨@NS (σ.apply d gd) ⟨gg P K r⟩⟩:=by
 simp only[gg];cases hg:aC σ.env g with
 |val v=>
  cases v with
  |bool c=>cases c<;>simp[iG,v6,Br,NS,St.setB_self hg]
  |tuple vs=>cases vs<;>simp[iG,v6,NS]
  |_=>simp[iG,v6]
 |_=>simp[iG,v6]
section
variable {P:Program} {a b:VCode} {Q:Exit->St->Prop} {σ:St}
theorem Sw{c:Opd} : pw P (.cond c a b) Q σ=@Xd (val σ c) ⟨pw P a Q σ⟩ ⟨pw P b Q σ⟩:=by
 simp only[pw];cases val σ c with
 |val v=>cases v<;>rfl
 |_=>rfl
theorem Sz:pw P .skip Q σ=Q .normal σ:=_root_.id rfl
theorem SA{ops:List VOper}{dead:List Nat} : pw P (.region ops .text dead) Q σ=gg P (fun σ'=>@NS (σ'.drop dead) ⟨Q .normal⟩) ops σ:=_root_.id rfl
theorem SB{ops:List VOper}{dead:List Nat} : pw P (.region ops .calm dead) Q σ=lE P (fun σ'=>@NS (σ'.drop dead) ⟨Q .normal⟩) ops σ:=_root_.id rfl
theorem PR{ops:List VOper}{dead:List Nat}{ps ms:List (Nat×Nat)} : pw P (.region ops (.drawn ps ms) dead) Q σ=lC P (fun es σ'=>sI σ ps ms es=true/\@NS (σ'.drop dead) ⟨Q .normal⟩) ops σ []:=_root_.id rfl
theorem UY:pw P (.seq a b) Q σ=pw P a (fun e σ'=>match e with
  |.normal=>pw P b Q σ'
  |e=>Q e σ') σ:=_root_.id rfl
theorem PS{id:Nat} : pw P (.block id a) Q σ=pw P a (fun e σ'=>match e with
  |.exit i=>if i=id then Q .normal σ' else Q (.exit i) σ'
  |e=>Q e σ') σ:=_root_.id rfl
theorem SC:pw P (.loop a) Q σ=@Wo P σ ⟨.loop a⟩ ⟨Q⟩:=_root_.id rfl
theorem SD{id:Nat} : pw P (.exit id) Q σ=Q (.exit id) σ:=_root_.id rfl
theorem PT:pw P (.scope a) Q σ=@Wo P σ ⟨.scope a⟩ ⟨Q⟩:=_root_.id rfl
theorem PU{l:Nat} : pw P (.label l) Q σ=Q .normal σ:=_root_.id rfl
theorem SE{l:Nat} : pw P (.goto l) Q σ=Q (.goto l) σ:=_root_.id rfl
theorem UZ:pw P .ret Q σ=Q .ret σ:=_root_.id rfl
end
def NE(σ:St)(es:List Eff) [k:Hold (St->List Eff->Prop)]:Prop:=k.val σ es
theorem V0{a:List (Nat×SV)}{b:List (Nat×Ob)}{c:List Nat}{n:Nat}{gl:List (Nat×List IV)}{es:List Eff}{k:St->List Eff->Prop} : @NE ⟨a,b,c,n,gl⟩ es ⟨k⟩=k ⟨a,b,c,n,gl⟩ es:=_root_.id rfl
section
variable {P:Program} {K:List Eff->St->Prop} {σ:St} {d:Option Nat} {op:VOp} {g:Nat} {r:List VOper} {es:List Eff}
theorem PV:lC P K [] σ es=K es σ:=_root_.id rfl
theorem NF:lC P K (⟨d,op,none⟩::r) σ es=cT P σ d (fun u=>@NE (σ.apply d u) (es++[⟨e9 σ op u,d,u⟩]) ⟨lC P K r⟩) op:=_root_.id rfl
theorem V1:lC P K (⟨d,op,some (g,true)⟩::r) σ es =
  @v6 (aC σ.env g) ⟨@NS (σ.setB g true) ⟨fun σ'=>cT P σ' d (fun u=>@NE (σ'.apply d u) (es++[⟨e9 σ' op u,d,u⟩]) ⟨lC P K r⟩) op⟩⟩ ⟨@NE ((σ.setB g false).apply d gd) (es++[⟨[],d,gd⟩]) ⟨lC P K r⟩⟩ ⟨@NE (σ.apply d gd) (es++[⟨[],d,gd⟩]) ⟨lC P K r⟩⟩:=by
 simp only[lC];cases hg:aC σ.env g with
 |val v=>
  cases v with
  |bool c=>cases c<;>simp[iG,v6,Br,NS,NE,St.setB_self hg]
  |tuple vs=>cases vs<;>simp[iG,v6,NE]
  |_=>simp[iG,v6]
 |_=>simp[iG,v6]
theorem V2:lC P K (⟨d,op,some (g,false)⟩::r) σ es =
  @v6 (aC σ.env g) ⟨@NE ((σ.setB g true).apply d gd) (es++[⟨[],d,gd⟩]) ⟨lC P K r⟩⟩ ⟨@NS (σ.setB g false) ⟨fun σ'=>cT P σ' d (fun u=>@NE (σ'.apply d u) (es++[⟨e9 σ' op u,d,u⟩]) ⟨lC P K r⟩) op⟩⟩ ⟨@NE (σ.apply d gd) (es++[⟨[],d,gd⟩]) ⟨lC P K r⟩⟩:=by
 simp only[lC];cases hg:aC σ.env g with
 |val v=>
  cases v with
  |bool c=>cases c<;>simp[iG,v6,Br,NS,NE,St.setB_self hg]
  |tuple vs=>cases vs<;>simp[iG,v6,NE]
  |_=>simp[iG,v6]
 |_=>simp[iG,v6]
end
def Bv{ι:Type}(σ:St)(k:Nat) [I:Hold (ι->St)] [A:Hold (ι->Prop)] [m:Hold (ι->Nat)]:Prop:=∃j,A.val j/\m.val j<k/\cR σ (I.val j)
theorem au{ι:Type}{σ:St}{k:Nat}{I:ι->St}{A:ι->Prop}{m:ι->Nat}(j:ι)(h1:A j)(h2:m j<k)(h3:cR σ (I j)):@Bv ι σ k ⟨I⟩ ⟨A⟩ ⟨m⟩:=⟨j,h1,h2,h3⟩
theorem J6{P:Program}(hm:P.follows .mixedOrders=true){ι:Type}(I:ι->St)(A:ι->Prop)(m:ι->Nat)(i0:ι){b:VCode}{Q:Exit->St->Prop}{σ:St}(hA:A i0)(h0:cR σ (I i0))(hn:∀i,(I i).n=σ.n)
  (round:∀i,A i->pw P b (fun e σ'=>match e with
    |.normal=>@Bv ι σ' (m i) ⟨I⟩ ⟨A⟩ ⟨m⟩
    |e=>Q e σ') (I i)):@Wo P σ ⟨.loop b⟩ ⟨Q⟩:=Sa hm I A m i0 hA h0 hn round
theorem NG{P:Program}{Q:Exit->St->Prop}{σ:St}{ops:List VOper}{dead:List Nat}{ps ms:List (Nat×Nat)} : pw P (.region ops (.drawnM ps ms) dead) Q σ=oY P (fun σ'=>@NS (σ'.drop dead) ⟨Q .normal⟩) σ ps ms ops σ []:=_root_.id rfl
theorem NH{P:Program}{K:St->Prop}{σ0 σ:St}{ps ms:List (Nat×Nat)}{o:VOper}{es:List Eff} : oY P K σ0 ps ms [o] σ es=(sI σ0 (cutP es.length ps) (cutP es.length ms) es=true/\gg P K [o] σ):=_root_.id rfl
theorem L0{P:Program}{K:St->Prop}{σ0 σ:St}{ps ms:List (Nat×Nat)}{d:Option Nat}{op:VOp}{o2:VOper}{r:List VOper}{es:List Eff} : oY P K σ0 ps ms (⟨d,op,none⟩::o2::r) σ es=cT P σ d (fun u=>@NE (σ.apply d u) (es++[⟨e9 σ op u,d,u⟩]) ⟨oY P K σ0 ps ms (o2::r)⟩) op:=_root_.id rfl
attribute [simp ↓] PV NF V1 V2 NG NH L0
attribute [simp] V0 e9 VOp.acts VOp.opds Ad SV.refs wH
attribute [simp ↓] Po PG KQ KX Ps PK PQ ND UW UX KM KT Nk Nw Nl Nx IU J1 Sl Sv Nm Ny No Pw PC PD Nq Sn Nr Cn PE Ns H1 So Sp Sq Sr Ss Su UV Nt Nv J2 KU J3 J4 PF PH EE Nz EF H2 KV KW J5 PI PJ PL PM PN NA PO KY PP NB NC KZ
def H4{ι:Type}(σ:St) [I:Hold (ι->St)] [A:Hold (ι->Prop)]:Prop:=∃j,A.val j/\cR σ (I.val j)
theorem dw{ι:Type}{σ:St}{I:ι->St}{A:ι->Prop}(j:ι)(h1:A j)(h3:cR σ (I j)):@H4 ι σ ⟨I⟩ ⟨A⟩:=⟨j,h1,h3⟩
def SF(P:Program)(σ:St) [v:Hold VCode] [Q:Hold (Exit->St->Prop)]:Prop:=TV P v.val Q.val σ
theorem V3{P:Program}{v:VCode}{Q:Exit->St->Prop}{σ:St} : pw P (.cut v) Q σ=@SF P σ ⟨v⟩ ⟨Q⟩:=_root_.id rfl
theorem PW{P:Program}(hm:P.follows .mixedOrders=true){ι:Type}(I:ι->St)(A:ι->Prop){x y:VCode}{Q:Exit->St->Prop}{σ:St}(hn:∀i,(I i).n=σ.n)
  (h1:pw P x (fun e σ'=>match e with
    |.normal=>@H4 ι σ' ⟨I⟩ ⟨A⟩
    |e=>Q e σ') σ) (h2:∀i,A i->pw P y Q (I i)):@SF P σ ⟨.seq x y⟩ ⟨Q⟩:=UO hm I A hn h1 h2
theorem p5{P:Program}(hm:P.follows .mixedOrders=true){v:VCode}{Q:Exit->St->Prop}{σ:St}(h:pw P v Q σ):@SF P σ ⟨v⟩ ⟨Q⟩:=kz hm v h
attribute [simp ↓] V3
theorem NI{P:Program}{Q:Exit->St->Prop}{σ:St} : pw P .refuse Q σ=False:=_root_.id rfl
attribute [simp ↓] NI Sz SA SB PR UY Sw PS SC SD PT PU SE UZ PB Np UT UU Pi Nd Pj Pk Nf Sd Ng Cm Pl Nh GZ Se Sf Sg Si Sj Sk UP Ni Nj IW KN IX IY Pn Pp EC Nn ED H0 KO KP IZ Pq Pr Pt Pu Pv KR
attribute [simp] LY J0 UQ US Wn UR Py PA Sm Pz Wm Ph KL KK
attribute [simp] Px St.setB
attribute [simp] xk Vs.ren SV.ren qi Ob.ren Wl Ez St.mapply FF SV.flat SV.flatL Ob.flat IH nj xE
attribute [simp] ev val aC ac put putD BN dT cC St.apply St.drop iM qQ iw LQ cellsOf iH mA uT jO xi xj IV.flat IV.flat.flats IV.one MQ MR W8 eqL lu nQ cH ix Fs f0 pq oV wC nU gO dK xg dB sN Ck nZ LX Cl EA Pf SV.noRef SV.noRefs Ob.noRef zg zh SV.erase gN Ob.erase Op.bytesLess

/- Short tF for printed code. -/
abbrev tm(k:Nat):Opd:=.tmp k
abbrev ci(n:Int):Opd:=.const (.val (.int .i64 n))
abbrev cu(n:Int):Opd:=.const (.val (.int .u8 n))
abbrev cb(b:Bool):Opd:=.const (.val (.bool b))
abbrev cs(s:List UInt8):Opd:=.const (.val (.str s))
abbrev o1(d:Nat)(op:VOp):VOper:=⟨some d,op,none⟩
abbrev o2(d:Nat)(op:VOp)(g:Nat)(b:Bool):VOper:=⟨some d,op,some (g,b)⟩
abbrev o3(op:VOp):VOper:=⟨none,op,none⟩
abbrev rt(l:List VOper)(d:List Nat):VCode:=.region l .text d
def Co(l:List (Nat×List (Nat×Nat))):List (Nat×Nat):=l.flatMap fun(k,rs)=>rs.flatMap fun(a,b)=>(List.range' a (b+1-a)).map fun j=>(j,k)
end Go.Vs
namespace Go.Vs
open Go.ChangeShapes Go.WideShapes Go.RowKit

inductive Sc where
 |int (k:IntKind)
 |bool
 |str
 |struct (fs:List Sc)
 |slice (e:Sc)
 |arr (n:Nat) (e:Sc)

mutual
def Sc.size:Sc->Nat
 |.int _=>1
 |.bool=>1
 |.str=>1
 |.struct fs=>Sc.sizes fs
 |.slice _=>1
 |.arr n e=>n*e.size
def Sc.sizes:List Sc->Nat
 |[]=>0
 |s::r=>s.size+Sc.sizes r
end

mutual
def sd(P:Program):Sc->TypeId->Bool
 |.int k,t=>match P.underlying t with
  |some (.int k')=>k'==k
  |_=>false
 |.bool,t=>match P.underlying t with
  |some .bool=>true
  |_=>false
 |.str,t=>match P.underlying t with
  |some .string=>true
  |_=>false
 |.struct scs,t=>match P.underlying t with
  |some (.struct fs)=>ql P scs fs.toList 0&&P.cellsOf t==Sc.sizes scs
  |_=>false
 |.slice e,t=>match P.underlying t with
  |some (.slice te)=>sd P e te&&P.cellsOf te==e.size&&decide (0<e.size)
  |_=>false
 |.arr n e,t=>match P.underlying t with
  |some (.array m te)=>m==n&&sd P e te&&P.cellsOf te==e.size&&P.cellsOf t==n*e.size
  |_=>false
def ql(P:Program):List Sc->List Field->Nat->Bool
 |[],[],_=>true
 |s::r,f::fs,off=>f.offset==off&&P.cellsOf f.type==s.size&&sd P s f.type&&ql P r fs (off+s.size)
 |_,_,_=>false
end

mutual
def Sh:Sc->List IV->Prop
 |.int k,l=>∃n,l=[.int k n]/\(Lit.int k n).wf=true
 |.bool,l=>∃b,l=[.bool b]
 |.str,l=>∃s,l=[.str s]/\s.length<=maxLen
 |.struct scs,l=>X1 scs l
 |.slice e,l=>∃rows,l=[.slice rows]/\rows.length<=maxLen/\∀row∈rows,Sh e row
 |.arr n e,l=>∃parts:List (List IV),l=parts.flatten/\parts.length=n/\∀p∈parts,Sh e p
def X1:List Sc->List IV->Prop
 |[],l=>l=[]
 |s::r,l=>∃a b,l=a++b/\Sh s a/\X1 r b
end

def Cp(w:World):aO:=fun b _=>b<w.heap.size

theorem qm{w:World}{a:Addr}{v:Value}(h:w.cell? a=some v):a.block<w.heap.size/\a.spot=none:=by
 unfold World.cell? at h;split at h
 ·next c t fr hh=>
  split at h
  ·simp at h
  ·next hs=>
   refine⟨?_,by simpa using hs⟩;exact(Array.getElem?_eq_some_iff.1 hh).1
 ·simp at h

theorem repCells_of{w:World} : ∀ {ivs:List IV} {cs:List Value} {blk off:Nat},ae w (Cp w) ivs cs->(∀j,j<cs.length->w.cell? ⟨blk,off+j,none⟩=cs[j]?)->aH w (Cp w) ivs blk off
 |[],_,_,_,_,_=>by simp[aH]
 |x::r,_,blk,off,⟨v,vs,h1,h2,h3,h4⟩,hc=>by
  subst h1;have c0:=hc 0 (by simp);simp only[Nat.add_zero,List.getElem?_cons_zero]at c0;refine⟨(qm c0).1,h2,⟨v,c0,h3⟩,repCells_of h4 (fun j hj=>?_)⟩;have:=hc (j+1) (by simp;omega);rw[List.getElem?_cons_succ]at this;rw[<-this];congr 2;omega

theorem FL{w:World}{base:Nat}{a:Addr}{n:Nat}{cs:List Value}(h:w.cells? base a n=some cs):cs.length=n/\∀j,j<n->w.cell? (a.add j)=cs[j]?:=by
 unfold World.cells? at h;split at h
 ·refine⟨by simpa using mapM_some_length h,fun j hj=>?_⟩;exact mapM_some_get h j j (by simp[hj])
 ·simp at h

theorem LZ{w:World}{e:Sc}{s blk off:Nat} : ∀(n start:Nat),(∀i,i<n->∃row,Sh e row/\row.length=s/\aH w (Cp w) row blk (off+(start+i)*s))->
  ∃rows,rows.length=n/\(∀row∈rows,Sh e row)/\bq w (Cp w) rows s blk (off+start*s)
 |0,start,_=>⟨[],rfl,by simp,by simp[bq]⟩
 |n+1,start,h=>by
  obtain⟨row,h1,h2,h3⟩:=h 0 (by omega)
  obtain⟨rows,k1,k2,k3⟩:=LZ n (start+1) (fun i hi=>by
   obtain⟨row,q1,q2,q3⟩:=h (i+1) (by omega);refine⟨row,q1,q2,?_⟩;rw[show start+1+i=start+(i+1) by omega]
   exact q3)
  refine⟨row::rows,by simp[k1],?_,?_⟩
  ·intro r hr;rcases List.mem_cons.1 hr with rfl|hr
   ·exact h1
   ·exact k2 r hr
  ·refine⟨h2,by simpa using h3,?_⟩;rw[Nat.add_mul,Nat.one_mul,<-Nat.add_assoc]at k3;exact k3


section
variable {H:Type} {enc:TypeId×Value->H} {P:Program} {w:World} {base:Nat} {spare:Nat->Bool} {held:Bool}

theorem Cq{a:Addr}(h:a.spot=none)(i:Nat):a.add i=⟨a.block,a.off+i,none⟩:=by
 obtain⟨b,o,s⟩:=a;subst h;unfold Addr.add;split
 ·next hi=>simp[hi]
 ·rfl

mutual
theorem xF:∀(sc:Sc) (fuel:Nat) (t:TypeId) (cs:List Value) (x:DataW H×List MemPlace),sd P sc t=true->DataW.trod enc P w base spare held fuel t cs=some x->∃ivs,Sh sc ivs/\ae w (Cp w) ivs cs/\ivs.length=sc.size
 |.int k,fuel,t,cs,x,hs,h=>by
  simp only[sd]at hs;split at hs
  ·next k' ht=>
   rw[beq_iff_eq]at hs;subst hs;obtain⟨n,rfl,_,hw⟩:=DataW.trod_int ht h;exact⟨[.int _ n],⟨n,rfl,hw⟩,⟨_,_,rfl,rfl,rfl,rfl⟩,rfl⟩
  ·simp at hs
 |.bool,fuel,t,cs,x,hs,h=>by
  simp only[sd]at hs;split at hs
  ·next ht=>
   obtain⟨n,rfl,_⟩:=DataW.trod_bool ht h;exact⟨[.bool n],⟨n,rfl⟩,⟨_,_,rfl,rfl,rfl,rfl⟩,rfl⟩
  ·simp at hs
 |.str,fuel,t,cs,x,hs,h=>by
  simp only[sd]at hs;split at hs
  ·next ht=>
   obtain⟨n,rfl,_,hl⟩:=DataW.trod_string ht h;exact⟨[.str n.data.toList],⟨_,rfl,by simpa using hl⟩,⟨_,_,rfl,rfl,rfl,rfl⟩,rfl⟩
  ·simp at hs
 |.struct scs,fuel,t,cs,x,hs,h=>by
  simp only[sd]at hs;split at hs
  ·next fs ht=>
   simp only[Bool.and_eq_true,beq_iff_eq]at hs;obtain⟨xs,n,_,_,hl,hx,hf⟩:=DataW.trod_struct ht h
   obtain⟨ivs,h1,h2,h3⟩:=Cr scs n fs.toList 0 cs (by omega) hs.1 (fun i f hi=>by
    have mM:fs[i]?=some f:=by simpa using hi
    have:=hf i f mM;have hlt:i<fs.size:=(Array.getElem?_eq_some_iff.1 mM).1;rw[List.getElem?_eq_getElem (by omega)]at this
    exact⟨_,this⟩)
   rw[List.drop_zero,List.take_of_length_le (by omega)]at h2;exact⟨ivs,h1,h2,h3⟩
  ·simp at hs
 |.slice e,fuel,t,cs,x,hs,h=>by
  simp only[sd]at hs;split at hs
  ·next te ht=>
   simp only[Bool.and_eq_true,beq_iff_eq,decide_eq_true_eq]at hs;obtain⟨⟨hs1,hs2⟩,hs3⟩:=hs;rcases DataW.trod_slice ht h with⟨rfl,_⟩|⟨a,len,cap,elems,rest,n,_,rfl,_,_,hlc,hcap,hel,hE,_,_⟩
   ·exact⟨[.slice []],⟨[],rfl,by simp,by simp⟩,⟨_,_,rfl,rfl,⟨none,0,rfl,by simp,by simp⟩,rfl⟩,rfl⟩
   ·have hspot:0<len->a.spot=none:=by
     intro hpos;have mM:=hE 0 hpos;rw[List.getElem?_eq_getElem (by omega)]at mM;simp only[Option.bind_eq_some_iff]at mM;obtain⟨cs',hc1,_⟩:=mM;have hg:=FL hc1;have h0:=hg.2 0 (by omega);cases hc:cs'[0]? with
     |none=>rw[List.getElem?_eq_none_iff]at hc;omega
     |some v=>
      rw[hc]at h0;simpa[Addr.add]using (qm h0).2
    have hrow:∀i,i<len->∃row,Sh e row/\row.length=e.size/\aH w (Cp w) row a.block (a.off+(0+i)*e.size):=by
     intro i hi;have mM:=hE i hi;rw[List.getElem?_eq_getElem (by omega)]at mM;simp only[Option.bind_eq_some_iff]at mM;obtain⟨cs',hc1,hc2⟩:=mM;obtain⟨ivs,q1,q2,q3⟩:=xF e n te cs' _ hs1 hc2;have hg:=FL hc1;rw[hs2]at hg;refine⟨ivs,q1,q3,?_⟩;refine repCells_of q2 (fun j hj=>?_);rw[<-hg.2 j (by omega),Cq (hspot (by omega)),Cq rfl];simp
    obtain⟨rows,k1,k2,k3⟩:=LZ (e:=e) (s:=e.size) (blk:=a.block) (off:=a.off) len 0 (fun i hi=>by
     obtain⟨row,q1,q2,q3⟩:=hrow i hi
     exact⟨row,q1,q2,q3⟩)
    refine⟨[.slice rows],⟨rows,rfl,by omega,k2⟩,⟨_,_,rfl,rfl,⟨some a,cap,by rw[k1],by omega,fun hne=>?_⟩,rfl⟩,rfl⟩
    have hpos:0<len:=by
     rw[<-k1];exact List.length_pos_iff.2 hne
    refine⟨a.block,a.off,e.size,?_,by simpa using k3⟩;have hsp:=hspot hpos;obtain⟨ab,ao,asp⟩:=a;simp only at hsp;rw[hsp]
  ·simp at hs
 |.arr n e,fuel,t,cs,x,hs,h=>by
  simp only[sd]at hs;split at hs
  ·next m te ht=>
   simp only[Bool.and_eq_true,beq_iff_eq]at hs;obtain⟨⟨⟨rfl,hs1⟩,hs2⟩,hs3⟩:=hs;obtain⟨xs,f,_,_,hl,hx,hf⟩:=DataW.trod_array ht h
   have gen:∀k,k<=m->∃parts:List (List IV),parts.length=k/\(∀p∈parts,Sh e p)/\ae w (Cp w) parts.flatten (cs.take (k*e.size))/\parts.flatten.length=k*e.size:=by
    intro k
    induction k with
    |zero=>intro _;exact⟨[],rfl,by simp,by simp[ae],by simp⟩
    |succ k ih=>
     intro hk;obtain⟨parts,p1,p2,p3,p4⟩:=ih (by omega);have hk':=hf k (by omega);rw[List.getElem?_eq_getElem (by omega),hs2]at hk';obtain⟨ivs,q1,q2,q3⟩:=xF e f te _ _ hs1 hk';refine⟨parts++[ivs],by simp[p1],?_,?_,?_⟩
     ·intro p hp;rcases List.mem_append.1 hp with hp|hp
      ·exact p2 p hp
      ·rw[List.mem_singleton.1 hp];exact q1
     ·have:=ae.append p3 q2;rw[<-List.take_add]at this;simpa[Nat.add_mul]using this
     ·simp[p4,q3,Nat.add_mul]
   obtain⟨parts,p1,p2,p3,p4⟩:=gen m (Nat.le_refl _);rw[List.take_of_length_le (by omega)]at p3;exact⟨parts.flatten,⟨parts,rfl,p1,p2⟩,p3,p4⟩
  ·simp at hs
theorem Cr:∀(scs:List Sc) (fuel:Nat) (fs:List Field) (off:Nat) (cs:List Value),off+Sc.sizes scs<=cs.length->ql P scs fs off=true->
  (∀(i:Nat) (f:Field),fs[i]?=some f->∃y,DataW.trod enc P w base spare held fuel f.type ((cs.drop f.offset).take (P.cellsOf f.type))=some y)->
  ∃ivs,X1 scs ivs/\ae w (Cp w) ivs ((cs.drop off).take (Sc.sizes scs))/\ivs.length=Sc.sizes scs
 |[],_,[],off,cs,_,_,_=>⟨[],rfl,by simp[ae,Sc.sizes],rfl⟩
 |[],_,_::_,_,_,_,h,_=>by simp[ql]at h
 |_::_,_,[],_,_,_,h,_=>by simp[ql]at h
 |s::r,fuel,f::fs,off,cs,hle,h,hf=>by
  simp only[ql,Bool.and_eq_true,beq_iff_eq]at h;obtain⟨⟨⟨h1,h2⟩,h3⟩,h4⟩:=h;simp only[Sc.sizes]at hle |-;obtain⟨y,hy⟩:=hf 0 f rfl;rw[h1,h2]at hy;obtain⟨a,a1,a2,a3⟩:=xF s fuel _ _ _ h3 hy;obtain⟨b,b1,b2,b3⟩:=Cr r fuel fs (off+s.size) cs (by omega) h4 (fun i g hg=>hf (i+1) g hg);refine⟨a++b,⟨a,b,rfl,a1,b1⟩,?_,by simp[a3,b3]⟩;have:=ae.append a2 b2;rw[<-List.drop_drop,<-List.take_add]at this;exact this
end
end
end Go.Vs
namespace Go.Vs
open Go.ChangeShapes Go.WideShapes Go.RowKit

def Xz:Sc->IV->Prop
 |.struct scs,v=>∃l,v=.agg l/\X1 scs l
 |.arr n e,v=>∃l,v=.agg l/\Sh (.arr n e) l
 |sc,v=>Sh sc [v]
def SG:List Sc->List IV->Prop
 |[],l=>l=[]
 |s::r,l=>∃v b,l=v::b/\Xz s v/\SG r b
def FM(P:Program):List Sc->List TypeId->Bool
 |[],[]=>true
 |s::r,t::ts=>sd P s t&&FM P r ts
 |_,_=>false

section
variable {H:Type} {enc:TypeId×Value->H} {P:Program} {w:World} {base:Nat} {spare:Nat->Bool} {held:Bool}

theorem SH{S:aO}{iv:IV}{v:Value}(h:ae w S [iv] [v]):nJ w S iv v:=by
 obtain⟨u,us,h1,_,h2,_⟩:=h;simp only[List.cons.injEq]at h1;rw[h1.1];exact h2

theorem SI{sc:Sc}{t:TypeId}{v:Value}{d:DataW H}{ps:List MemPlace}{b0:Nat}(hs:sd P sc t=true)(hd:DataW.Trod enc P w base spare held t v d ps)(hok:Value.okWide P w .any b0 t v):∃iv,Xz sc iv/\nJ w (Cp w) iv v:=by
 obtain⟨fuel,hf⟩:=hd;obtain⟨ivs,h1,h2,h3⟩:=xF sc fuel t _ _ hs hf
 have one:∀ {u:Value},u.cells.toList=[u]->v=u->sc.size=1->∃iv,ivs=[iv]/\nJ w (Cp w) iv v:=by
  intro u hu hv hsz;rw[hsz]at h3;obtain⟨iv,rfl⟩:=List.length_eq_one_iff.1 h3;subst hv;rw[hu]at h2;exact⟨iv,rfl,SH h2⟩
 cases sc with
 |int k=>
  simp only[sd]at hs;split at hs
  ·next k' ht=>
   obtain⟨n,rfl⟩:=okWide_int ht hok;obtain⟨iv,rfl,q⟩:=one rfl rfl rfl;exact⟨iv,h1,q⟩
  ·simp at hs
 |bool=>
  simp only[sd]at hs;split at hs
  ·next ht=>
   obtain⟨n,rfl⟩:=okWide_bool ht hok;obtain⟨iv,rfl,q⟩:=one rfl rfl rfl;exact⟨iv,h1,q⟩
  ·simp at hs
 |str=>
  simp only[sd]at hs;split at hs
  ·next ht=>
   obtain⟨n,rfl⟩:=okWide_string ht hok;obtain⟨iv,rfl,q⟩:=one rfl rfl rfl;exact⟨iv,h1,q⟩
  ·simp at hs
 |slice e=>
  simp only[sd]at hs;split at hs
  ·next te ht=>
   obtain⟨a,len,cap,rfl⟩:=okWide_slice ht hok;obtain⟨iv,rfl,q⟩:=one rfl rfl rfl;exact⟨iv,h1,q⟩
  ·simp at hs
 |struct scs=>
  simp only[sd]at hs;split at hs
  ·next fs ht=>
   simp only[Value.okWide,ht]at hok;obtain⟨cs,rfl,_,_⟩:=hok;exact⟨.agg ivs,⟨ivs,rfl,h1⟩,cs,rfl,h2⟩
  ·simp at hs
 |arr n e=>
  simp only[sd]at hs;split at hs
  ·next m te ht=>
   simp only[Value.okWide,ht]at hok;obtain⟨cs,rfl,_,_⟩:=hok;exact⟨.agg ivs,⟨ivs,rfl,h1⟩,cs,rfl,h2⟩
  ·simp at hs

theorem J7:∀ {scs:List Sc} {ts:List TypeId} {vs:List Value} {ds:List (DataW H)} {ps:List MemPlace} {b0:Nat},FM P scs ts=true->DataW.TrodAll enc P w base spare held ts vs ds ps->
  (∀(j:Nat) t v,ts[j]?=some t->vs[j]?=some v->Value.okWide P w .any b0 t v)->∃ivs,SG scs ivs/\bc w (Cp w) ivs vs/\ds.length=ts.length
 |[],[],[],[],_,_,_,_,_=>⟨[],rfl,rfl,rfl⟩
 |[],_::_,_,_,_,_,h,_,_=>by simp[FM]at h
 |_::_,[],_,_,_,_,h,_,_=>by simp[FM]at h
 |s::r,t::ts,v::vs,d::ds,ps,b0,h,⟨p,q,h1,h2,_⟩,hok=>by
  simp only[FM,Bool.and_eq_true]at h;obtain⟨iv,a1,a2⟩:=SI h.1 h1 (hok 0 t v rfl rfl);obtain⟨ivs,b1,b2,b3⟩:=J7 h.2 h2 (fun j t' v' ht hv=>hok (j+1) t' v' ht hv);exact⟨iv::ivs,⟨iv,ivs,rfl,a1,b1⟩,⟨v,vs,rfl,a2,b2⟩,by simp[b3]⟩
 |[],[],[],_::_,_,_,_,h,_=>h.elim
 |[],[],_::_,_,_,_,_,h,_=>h.elim
 |_::_,_::_,[],_,_,_,_,h,_=>h.elim
 |_::_,_::_,_::_,[],_,_,_,h,_=>h.elim

theorem v7(hl:laidOutB P=true){W W':World}{sp':Nat->Bool} : ∀ {ts:List TypeId} {vs:List Value} {ds:List (DataW H)} {ps:List MemPlace},ts.all (fun t=>P.readableRec t&&decide (t<P.types.size))=true->
  DataW.TrodAll enc P W base (fun _=>true) true ts vs ds ps->(∀p∈ps,W.sameAt W' p)->(∀p∈ps,sp' p.block=true)->DataW.TrodAll enc P W' base sp' true ts vs ds ps
 |[],[],[],_,_,h,_,_=>h
 |t::ts,v::vs,d::ds,ps,hr,⟨p,q,h1,h2,h3⟩,hs,hp=>by
  subst h3;simp only[List.all_cons,Bool.and_eq_true,decide_eq_true_eq]at hr
  exact⟨p,q,WideElems.Trod_stays hl hr.1.1 hr.1.2 h1 (fun x hx=>hs x (List.mem_append_left _ hx)) (fun x hx=>hp x (List.mem_append_left _ hx)),
   v7 hl hr.2 h2 (fun x hx=>hs x (List.mem_append_right _ hx)) (fun x hx=>hp x (List.mem_append_right _ hx)),rfl⟩
 |[],[],_::_,_,_,h,_,_=>h.elim
 |[],_::_,_,_,_,h,_,_=>h.elim
 |_::_,[],_,_,_,h,_,_=>h.elim
 |_::_,_::_,[],_,_,h,_,_=>h.elim
end

theorem Kept.below{w w':World}(h:Kept (fun _=>False) w w'):Below w.heap.size w w':=⟨h.os,h.tape,h.output,h.size,fun k hk=>h.block k hk (fun x=>x)⟩

end Go.Vs
namespace Go.Vs
open Go.ChangeShapes Go.WideShapes Go.RowKit

theorem zk.globals{P:Program}{k:FuncId}{args:List IV}{r:Res}{gl:List (Nat×List IV)}(h:zk [] P k args r):zk gl P k args r:=
 ⟨h.1,fun w S vs hS hrep _=>h.2 w S vs hS hrep (fun p hp=>by simp at hp)⟩
theorem mP.globals{P:Program}{k:FuncId}{c:MC}{gl:List (Nat×List IV)}(h:mP [] P k c):mP gl P k c:=
 ⟨h.1,fun w S μ β vs hS _ hrep h1 h2 h3=>h.2 w S μ β vs hS (fun p hp=>by simp at hp) hrep h1 h2 h3⟩

theorem B4{H:Type}{enc:TypeId×Value->H}{a:Assume}{C:Checked}{os:Os}{k:FuncId}{fn:Func}{s:ChangeSpec}{laid:List (String×DataW Unit)}{gl:List (Nat×List IV)}
  (own:ownKnob C.prog.godebug=none) (started:os.Started) (noInit:C.prog.inits.idxOf? k=none) (hfn:C.prog.funcs[k]?=some fn) (hname:fn.name≠ "runtime.NumGoroutine") (hbody:fn.body.isSome=true)
  (witness:∃(w:World) (tape:Tape) (i:Input),w.os=os/\(w.forCall tape i).Shaped C.prog/\i.vars=[]/\Input.okWide C.prog (w.forCall tape i) .any w.heap.size k i/\
    ((s.pre enc C.prog fn [] false (w.forCall tape i).memory i.args/\laidMetH C.prog laid (w.forCall tape i).memory)/\sizedMet enc C.prog fn (OpenSpec.ofChange s) false (w.forCall tape i).memory i.args)/\a.holds C.prog (lone (Frame.enter C.prog k i.args .normal) [] (w.forCall tape i)))
  (hgl:∀W,laidMetH C.prog laid W->∀p,p∈gl->gG W (Cp W) p)
  (scs:List Sc) (hsc:FM C.prog scs fn.params.toList=true) (tb:TypeId) (hres:fn.resultTypes = #[tb]) (htb:C.prog.underlying tb=some .bool) (hv:s.vars=[])
  (hs:∀ds:List (DataW H),ds.length=fn.params.toList.length->s.fn H ds = {results:=[.lit (.bool true)],args:=ds })
  (hl:laidOutB C.prog=true) (hr:fn.params.toList.all (fun t=>C.prog.readableRec t&&decide (t<C.prog.types.size))=true)
  (h:∀args,SG scs args->Fn gl C.prog k args (.bool true)) :
  ReturnsInHanded a C os k .any (fun w args=>(s.pre enc C.prog fn [] false w args/\laidMetH C.prog laid w)/\sizedMet enc C.prog fn (OpenSpec.ofChange s) false w args) (s.post enc C.prog fn false true false false):=by
 refine returnsInHanded_of_change_and (X:=fun w _=>laidMetH C.prog laid w) (fun _ _ _ hh h=>h.of_heap hh) own started noInit hfn witness ?_;intro W base args ds gs before hval hW _ _ hL _;obtain⟨p,q,hA,hV,rfl,hfz,hnd⟩:=id hW;obtain⟨ivs,h1,h2,h3⟩:=J7 hsc hA (fun j t v ht hv=>hval j t v (by simpa using ht) (by simpa using hv));rw[hv]at hV
 have hg:gs=[]/\q=[]:=by
  cases gs with
  |nil=>exact⟨rfl,hV⟩
  |cons g r=>exact hV.elim
 obtain⟨rfl,rfl⟩:=hg;have hc:=((h ivs h1).2 W (Cp W) args.toList (fun b o hb=>hb) h2 (hgl W hL)).calls hfn hname hbody;rw[Array.toArray_toList]at hc;refine hc.mono fun e W' ⟨v,S',he,hv',_,_,_,hk⟩=>?_
 have hv':v=.bool true:=hv';subst hv';refine⟨.bool true,he,?_⟩;have hb:=hk.below;have hfn':s.fn H (ds++[]) = {results:=[.lit (.bool true)],args:=ds }:=by rw[List.append_nil];exact hs ds h3
 have hlt:∀x∈p,x.block<W.heap.size:=fun x hx=>hW.lt x (List.mem_append_left _ hx)
 refine⟨ds,[],p++[],[],p,[],hW,?_,?_,?_,?_,fun hh=>by cases hh⟩
 ·rw[hfn',hres];exact⟨[],[],shut_bool htb true,rfl,rfl⟩
 ·rw[hfn'];exact v7 hl hr hA (fun x hx=>hb.same (hlt x hx)) (fun x hx=>by simpa using hlt x hx)
 ·rw[hfn',hv];rfl
 ·exact World.keptBut_mono (fun x hx=>⟨hx,.inr (.inl (by simpa using hx))⟩) (hb.frame (·∈p++[]))

theorem v8{w:World}{k:IntKind}{b:Nat} : ∀ {zs:List Int} {off:Nat},(∀i,i<zs.length->w.cell? ⟨b,off+i,none⟩=some (.int k (zs.getD i 0)))->aH w (Cp w) (zs.map (.int k ·)) b off
 |[],_,_=>trivial
 |z::r,off,h=>by
  have h0:=h 0 (by simp);refine⟨(qm h0).1,rfl,⟨_,by simpa using h0,rfl⟩,v8 (fun i hi=>?_)⟩;have:=h (i+1) (by simp;omega);rw[show off+1+i=off+(i+1) by omega];simpa using this
end Go.Vs
namespace Go.Vs
open Go.RowKit Go.Lib

def L1:List (Nat×Ob)->Nat->Ob->List (Nat×Ob)
 |[],_,_=>[]
 |(j,x)::r,k,o=>bif j==k then (j,o)::r else (j,x)::L1 r k o
theorem FN:∀ {l:List (Nat×Ob)} {k:Nat} {x:Ob} (o:Ob),ac l k=some x->∀j,ac (L1 l k o) j=if j=k then some o else ac l j
 |[],_,_,_,h,_=>by simp[ac]at h
 |(i,y)::r,k,x,o,h,j=>by
  simp only[ac]at h;cases hik:i==k with
  |true=>
   have hik':i=k:=by simpa using hik
   subst hik';simp only[L1,beq_self_eq_true,cond_true,ac];cases hij:i==j with
   |true=>have:i=j:=by simpa using hij
          subst this;simp
   |false=>
    have:¬j=i:=by intro e;subst e;simp at hij
    simp[this]
  |false=>
   rw[hik]at h;simp only[cond_false]at h;simp only[L1,hik,cond_false,ac];rw[FN o h j];cases hij:i==j with
   |true=>
    have hij':i=j:=by simpa using hij
    subst hij';have:¬i=k:=by intro e;subst e;simp at hik
    simp[this]
   |false=>simp

theorem L2{w w':World}{b:Nat}{cs:Array Value}{e:TypeId}{fr:Nat×Nat}(h:Wrote w w' b cs e fr){p:Addr}(hp:p.block≠b):w'.cell? p=w.cell? p:=
 World.cell?_of_block (h.other _ hp)

def St.bld(σ:St)(d id t e:Nat):St:={σ with env:=dT id σ.env,objs:=put (cC id (put σ.objs id (.arr 0 1 []))) d (.box [.selfN d t false,.ownT id 0 e]) }
theorem J8{σ:St}{k d t:Nat}(id e:Nat)(hid:id<σ.n)(hne:id≠d)(hk:aC σ.env k=.selfN d t true)(hl:ac σ.objs d=some (.box [.val .nilp,.val .nilS]))(hro:σ.ro.contains d=false):cR σ (σ.bld d id t e):=by
 rintro w0 S0 M a w ⟨S,μ,β,h⟩;obtain⟨b,vs,e',fr,hb,hmu,hheap,hfr,v0,_,hcs,_,hv0,v1,_,rfl,_,hv1,rfl⟩:=h.objs d _ hl;have hv0:v0=.pointer none:=hv0;have hv1:v1=.slice none 0 0:=hv1;subst hv1;subst hv0;have hself:=h.env k;rw[hk]at hself;obtain⟨b',hb',hsh,_⟩:=hself _ hl;rw[hmu]at hb';obtain rfl:b=b':=by simpa using hb'
 have h1:=h.create id hid (.arr 0 1 []) none (.slice none 0 0) (Kept.refl _ _) (by simp) (.inl ⟨rfl,rfl,none,rfl⟩)
 have hl1:ac (cC id (put σ.objs id (.arr 0 1 []))) d=some (.box [.val .nilp,.val .nilS]):=by
  rw[bN,sl _ _ (fun e=>hne e.symm),hl];rfl
 have hdn:(if d=id then (none:Option Nat)else β d)=some b:=by rw[if_neg (fun e=>hne e.symm)];exact hb
 have hmn:(if d=id then Value.slice none 0 0 else μ d)=.pointer (some ⟨b,0,none⟩):=by rw[if_neg (fun e=>hne e.symm)];exact hmu
 have h2:=h1.write (id:=d) (x':=.box [.selfN d t false,.ownT id 0 e]) (w':=w) hl1 hdn (vs:=vs) (e:=e') (fr:=fr) ⟨rfl,rfl,rfl,rfl,fun _ _=>rfl,hheap,fun _ _ h=>h⟩ (by
  intro hc;have:σ.ro.contains d=true:=by simpa using hc
  rw[this]at hro;cases hro) (.inl ⟨_,_,rfl,rfl⟩) ⟨b,vs,e',fr,rfl,hmn,hheap,hfr,by
   rw[hcs];refine⟨_,_,rfl,rfl,?_,_,_,rfl,rfl,?_,rfl⟩
   ·intro cells _;exact⟨b,hmn,hsh,.inl ⟨rfl,rfl⟩⟩
   ·refine⟨?_,fun a n c hh=>by simp at hh⟩;intro cv s' rows hlk;have hlk':ac (cC id (put σ.objs id (.arr 0 1 []))) id=some (.arr cv s' rows):=hlk;rw[bN,de]at hlk';simp only[Option.map_some,Ob.erase,E_,Ob.arr.injEq]at hlk';obtain⟨rfl,_,_⟩:=hlk'
    exact⟨Nat.le_refl _,fun _=>by simp⟩⟩
 exact⟨S,_,_,h2⟩

theorem uB{gl:List (Nat×List IV)}{P:Program}{k:FuncId}{args:List SV}{objs:List (Nat×Ob)}{res:SV}{id:Nat}{cells cells':List SV}(hk:qf P k)(hid:ac objs id=some (.box cells))
  (h:∀(w:World) (S:aO) (μ:Nat->Value) (β:Nat->Option Nat) (vs:List Value) (b:Nat) (cs:Array Value) (e:TypeId) (fr:Nat×Nat),(∀p,p∈gl->gG w S p)->aQ w S μ objs args vs->
    (∀i o,ac objs i=some o->bA w S μ objs (β i) (μ i) o)->(∀i i' o o' b,ac objs i=some o->ac objs i'=some o'->β i=some b->β i'=some b->i=i')->
    β id=some b->μ id=.pointer (some ⟨b,0,none⟩)->w.heap[b]?=some (.cells cs e fr)->m5 fr cs.size->aj w S μ objs cells cs.toList->
    iJ P k vs.toArray w fun ev w'=>∃(v:Value) (w1:World) (cs':Array Value),ev=.returned v/\Below w.heap.size w w1/\Wrote w1 w' b cs' e fr/\cs'.size=cs.size/\aj w S μ objs cells' cs'.toList/\ar w S μ objs res v) :
  mP gl P k {args:=args,objs:=objs,res:=res,objs':=L1 objs id (.box cells'),ro':=[] }:=by
 refine⟨hk,fun w S μ β vs hS hgl hrep hobj hinj hunst=>?_⟩;obtain⟨b,cs,e,fr,hb,hmu,hheap,hfr,hcells⟩:=hobj id _ hid;have hblt:b<w.heap.size:=(Array.getElem?_eq_some_iff.1 hheap).1;refine(h w S μ β vs b cs e fr hgl hrep hobj hinj hb hmu hheap hfr hcells).mono ?_;rintro ev w' ⟨v,w1,cs',rfl,hbel,hw,hsz,hc',hres⟩;have hl:=FN (.box cells') hid;have shp:∀k x,w.shape? k=some x->w'.shape? k=some x:=fun k x hx=>hw.shape _ _ ((cN (hbel.block k (nO hx))).trans hx)
 have keeps:bv S w w':=by
  refine⟨?_,shp⟩;intro b' o hb';have hne:b'≠b:=fun e=>absurd (hunst id _ b o hid hb (e▸hb')).1 (by simp)
  rw[L2 hw (p:=⟨b',o,none⟩) hne];exact hbel.cell (p:=⟨b',o,none⟩) (hS _ _ hb')
 have same:∀(x:SV) (u:Value),ar w S μ objs x u->ar w' S μ (L1 objs id (.box cells')) x u:=fun x u hx=>
  ar.mono keeps (fun _ _ h=>h) _ _ (ar.same (objs:=objs)
   (fun i cells2 hi=>by
     rw[hl]at hi;split at hi
     ·next e1=>subst e1;exact⟨cells,hid,rfl⟩
     ·exact⟨cells2,hi,rfl⟩)
   (fun i cv s rows hi=>by
     rw[hl]at hi;split at hi
     ·simp at hi
     ·exact⟨cv,rows,hi,Nat.le_refl _,fun _=>⟨rfl,rfl⟩⟩)
   (fun i s p hi=>by
     rw[hl]at hi;split at hi
     ·simp at hi
     ·exact⟨s,p,hi,rfl⟩) x u hx)
 have sames:∀(xs:List SV) (us:List Value),aj w S μ objs xs us->aj w' S μ (L1 objs id (.box cells')) xs us:=by
  intro xs
  induction xs with
  |nil=>intro us h;exact h
  |cons x r ih=>rintro us ⟨u,us',e1,e2,e3,e4⟩;exact⟨u,us',e1,e2,same _ _ e3,ih _ e4⟩
 have blk:∀i o b',ac objs i=some o->β i=some b'->b'<w.heap.size:=by
  intro i o b' hi hbi;have:=hobj i o hi;cases o with
  |box c=>obtain⟨b2,vs2,e2,fr2,q1,_,q3,_⟩:=this;rw[hbi]at q1;obtain rfl:=O_ q1;exact(Array.getElem?_eq_some_iff.1 q3).1
  |arr v2 s2 r2=>
   rcases this with⟨_,q1,_⟩|⟨b2,c2,vs2,e2,fr2,q1,_,q3,_⟩
   ·rw[hbi]at q1;simp at q1
   ·rw[hbi]at q1;obtain rfl:=O_ q1;exact(Array.getElem?_eq_some_iff.1 q3).1
  |iter s p=>obtain⟨b2,q1,_,q3⟩:=this;rw[hbi]at q1;obtain rfl:=O_ q1;exact(Array.getElem?_eq_some_iff.1 q3).1
 have heap:∀b',b'<w.heap.size->b'≠b->w'.heap[b']?=w.heap[b']?:=fun b' h1 h2=>(hw.other b' h2).trans (hbel.block b' h1)
 have szs:w.heap.size<=w'.heap.size:=by have:=hbel.size;have:=hw.size;omega
 refine⟨v,S,μ,β,rfl,same _ _ hres,?_,?_,?_,?_,?_,fun _ _ h=>h,fun _ _ h=>.inl h,?_,?_,keeps.1⟩
 ·intro i o hi;dsimp only at hi |-;rw[hl]at hi;split at hi
  ·next e1=>
   subst e1;obtain rfl:=O_ hi;refine⟨b,cs',e,fr,hb,hmu,hw.here,by rw[hsz];exact hfr,sames _ _ hc'⟩
  ·next hne=>
   have ho:=hobj i o hi;have hbne:∀b',β i=some b'->b'≠b:=fun b' h1 h2=>hne (hinj i id o _ b hi hid (h2▸h1) hb)
   cases o with
   |box c=>
    obtain⟨b2,vs2,e2,fr2,q1,q2,q3,q4,q5⟩:=ho;exact⟨b2,vs2,e2,fr2,q1,q2,(heap b2 (blk i _ b2 hi q1) (hbne b2 q1)).trans q3,q4,sames _ _ q5⟩
   |arr v2 s2 r2=>
    rcases ho with ho|⟨b2,c2,vs2,e2,fr2,q1,q2,q3,q4,q5,q6,q7,q8⟩
    ·exact .inl ho
    ·exact .inr ⟨b2,c2,vs2,e2,fr2,q1,q2,(heap b2 (blk i _ b2 hi q1) (hbne b2 q1)).trans q3,q4,q5,q6,q7,ae.mono keeps (fun _ _ h=>h) _ _ q8⟩
   |iter s p=>
    obtain⟨b2,q1,q2,q3⟩:=ho;exact⟨b2,q1,q2,(heap b2 (blk i _ b2 hi q1) (hbne b2 q1)).trans q3⟩
 ·intro i i' o o' b' h1 h2 h3 h4;dsimp only at h1 h2;rw[hl]at h1 h2
  have g:∀j x,(if j=id then some (Ob.box cells')else ac objs j)=some x->∃y,ac objs j=some y:=by
   intro j x hx;split at hx
   ·next e1=>subst e1;exact⟨_,hid⟩
   ·exact⟨_,hx⟩
  obtain⟨y1,g1⟩:=g i o h1;obtain⟨y2,g2⟩:=g i' o' h2;exact hinj i i' y1 y2 b' g1 g2 h3 h4
 ·intro i o b' h1 h2;dsimp only at h1;rw[hl]at h1;right;split at h1
  ·next e1=>subst e1;exact⟨_,_,hid,h2⟩
  ·exact⟨_,_,h1,h2⟩
 ·intro i o b' off h1 h2 h3;dsimp only at h1;rw[hl]at h1;exfalso;split at h1
  ·next e1=>subst e1;exact absurd (hunst _ _ b' off hid h2 h3).1 (by simp)
  ·exact absurd (hunst _ _ b' off h1 h2 h3).1 (by simp)
 ·exact fun b' o h1=>Nat.lt_of_lt_of_le (hS b' o h1) szs
 ·refine⟨hw.os.trans hbel.os,hw.tape.trans hbel.tape,hw.output.trans hbel.output,szs,fun b' h1 h2=>heap b' h1 (fun e1=>h2 ⟨id,_,hid,e1▸hb⟩),shp⟩
 ·intro i o hi
  have hh:ar w S μ objs (KH i o) (μ i):=by
   cases o with
   |box c=>
    intro cells2 h2;obtain⟨b2,_,_,_,_,q2,_⟩:=hobj i _ hi;exact⟨b2,q2,q2⟩
   |arr v2 s2 r2=>
    intro cv s rows h2;rw[hi]at h2;simp only[E_,Ob.arr.injEq]at h2;obtain⟨rfl,rfl,rfl⟩:=h2;exact⟨Nat.le_refl _,fun _=>rfl⟩
   |iter s p=>intro s2 p2 h2;rfl
  exact same _ _ hh

theorem Cs{gl:List (Nat×List IV)}{P:Program}{k:FuncId}{args:List IV}{res:IV}(hk:qf P k) 
  (h:∀(w:World) (S:aO) (vs:List Value),(∀b o,S b o->b<w.heap.size)->(∀p,p∈gl->gG w S p)->bc w S args vs->
    iJ P k vs.toArray w fun ev w'=>∃v,ev=.returned v/\Below w.heap.size w w'/\nJ w S res v):Fn gl P k args res:=by
 refine⟨hk,fun w S vs hS hrep hgl=>?_⟩;refine(h w S vs hS hgl hrep).mono ?_;rintro ev w' ⟨v,rfl,hb,hr⟩;have shp:∀k x,w.shape? k=some x->w'.shape? k=some x:=fun k x hx=>(cN (hb.block k (nO hx))).trans hx
 refine⟨v,S,rfl,?_,fun _ _ h=>h,fun _ _ h=>.inl h,fun b o h1=>Nat.lt_of_lt_of_le (hS b o h1) hb.size,⟨hb.os,hb.tape,hb.output,hb.size,fun k h1 _=>hb.block k h1,shp⟩⟩;exact nJ.mono ⟨fun b o h1=>hb.cell (p:=⟨b,o,none⟩) (hS _ _ h1),shp⟩ (fun _ _ h=>h) _ _ hr
theorem FO{gl:List (Nat×List IV)}{P:Program}{k:FuncId}{args:List IV}{res:IV}(hk:qf P k)
  (h:∀(w:World) (S:aO) (vs:List Value),bc w S args vs->∃v,(callFunc k vs.toArray).run P w=.ok (.value v) w/\nJ w S res v):Fn gl P k args res:=
 Cs hk fun w S vs hS hgl hrep=>by
  obtain⟨v,h1,h2⟩:=h w S vs hrep;exact .inr ⟨v,w,h1,v,rfl,Below.refl _ _,h2⟩
theorem dp{P:Program}{k:FuncId}{fn:Func}{args:Array Value}{w:World}{R:Ending->World->Prop}(hf:P.funcs[k]?=some fn)(hb:fn.body.isSome=true)(h:Calls P k args w R):iJ P k args w R:=.inl ⟨⟨fn,hf,hb⟩,h⟩
theorem L3{w:World}{b:Nat}{cs:Array Value}{e:TypeId}{fr:Nat×Nat}(h:w.heap[b]?=some (.cells cs e fr))(hf:m5 fr cs.size)(h0:0<cs.size):w.frozen? ⟨b,0,none⟩=false:=BU h hf h0
theorem Ct{w:World}{b:Nat}{cs:Array Value}{e:TypeId}{fr:Nat×Nat}{i:Nat}{v:Value}(h:w.heap[b]?=some (.cells cs e fr))(hv:cs[i]?=some v):w.cell? ⟨b,i,none⟩=some v:=by
 simp[World.cell?,h,hv]
end Go.Vs
namespace Go.Vs
def St.upd(σ:St)(D:List Nat)(E:List (Nat×SV))(O:List (Nat×Ob)):St:=
 ⟨E++σ.env.filter (fun p=>!(D.contains p.1||E.any (fun q=>q.1==p.1))),O++σ.objs.filter (fun p=>!(O.any (fun q=>q.1==p.1))),σ.ro,σ.n,σ.gl⟩
theorem ce{P:Program}(hm:P.follows .mixedOrders=true){ι:Type}(D:List Nat)(E:ι->List (Nat×SV))(O:ι->List (Nat×Ob))(A:ι->Prop)(m:ι->Nat)(i0:ι){b:VCode}{Q:Exit->St->Prop}{σ:St}(hA:A i0)(h0:cR σ (σ.upd D (E i0) (O i0)))
  (round:∀i,A i->pw P b (fun e σ'=>match e with
    |.normal=>@Bv ι σ' (m i) ⟨fun i=>σ.upd D (E i) (O i)⟩ ⟨A⟩ ⟨m⟩
    |e=>Q e σ') (σ.upd D (E i) (O i))):@Wo P σ ⟨.loop b⟩ ⟨Q⟩:=J6 hm (fun i=>σ.upd D (E i) (O i)) A m i0 hA h0 (fun _=>_root_.id rfl) round
theorem PX{P:Program}(hm:P.follows .mixedOrders=true){ι:Type}(D:List Nat)(ro:List Nat)(E:ι->List (Nat×SV))(O:ι->List (Nat×Ob))(A:ι->Prop){x y:VCode}{Q:Exit->St->Prop}{σ:St}
  (h1:pw P x (fun e σ'=>match e with
    |.normal=>@H4 ι σ' ⟨fun i=>{σ.upd D (E i) (O i)with ro:=ro }⟩ ⟨A⟩
    |e=>Q e σ') σ) (h2:∀i,A i->pw P y Q {σ.upd D (E i) (O i)with ro:=ro }):@SF P σ ⟨.seq x y⟩ ⟨Q⟩:=PW hm (fun i=>{σ.upd D (E i) (O i)with ro:=ro }) A (fun _=>_root_.id rfl) h1 h2
attribute [simp] St.upd
/- Branches that arithmetic decides; sums that stay in their kind: for 'simp' with a discharger. -/
theorem zr{p:Prop} [Decidable p]{A B:Prop}(h:p):@Br (decide p) ⟨A⟩ ⟨B⟩=A:=by rw[decide_eq_true h];exact LY
theorem FP{p:Prop} [Decidable p]{A B:Prop}(h:¬p):@Br (decide p) ⟨A⟩ ⟨B⟩=B:=by rw[decide_eq_false h];exact J0
theorem wrap_i64{x:Int}(h1:-9223372036854775808<=x)(h2:x<=9223372036854775807):IntKind.i64.wrap x=x:=by rw[IntKind.wrap_i64];omega
theorem wrap_u8{x:Int}(h1:0<=x)(h2:x<=255):IntKind.u8.wrap x=x:=by rw[IntKind.wrap_u8];omega
theorem wrap_i32{x:Int}(h1:-2147483648<=x)(h2:x<=2147483647):IntKind.i32.wrap x=x:=by rw[IntKind.wrap_i32];omega
end Go.Vs
namespace Go.Vs
def qS(t:Bool)(s:Nat):Ob:=.arr 0 s []
def Bw(t:Bool)(id:Nat):SV:=.own id 0
def St.adoptC(σ:St)(t:Bool)(d j id s:Nat)(cells:List SV):St:={σ with env:=dT id σ.env,objs:=put (cC id (put σ.objs id (qS t s))) d (.box ((gN id cells).set j (Bw t id))) }
theorem FQ{σ:St}(t:Bool){d j:Nat}{cells:List SV}(id s:Nat)(hid:id<σ.n)(hne:id≠d)(hl:ac σ.objs d=some (.box cells))(hj:cells[j]?=some .nils)(hro:σ.ro.contains d=false):cR σ (σ.adoptC t d j id s cells):=by
 rintro w0 S0 M a w ⟨S,μ,β,h⟩;obtain⟨b,vs,e',fr,hb,hmu,hheap,hfr,hcs⟩:=h.objs d _ hl;obtain⟨v,hv,hv1,x,hx⟩:=aj.get hcs hj
 have hfo:bA w S μ σ.objs none (.slice x 0 0) (qS t s):=by
  exact .inl ⟨rfl,rfl,x,rfl⟩
 have h1:=h.create id hid (qS t s) none (.slice x 0 0) (Kept.refl _ _) (by simp) hfo
 have hl1:ac (cC id (put σ.objs id (qS t s))) d=some (.box (gN id cells)):=by
  rw[bN,sl _ _ (fun e=>hne e.symm),hl];rfl
 have hdn:(if d=id then (none:Option Nat)else β d)=some b:=by rw[if_neg (fun e=>hne e.symm)];exact hb
 have hmn:(if d=id then Value.slice x 0 0 else μ d)=.pointer (some ⟨b,0,none⟩):=by rw[if_neg (fun e=>hne e.symm)];exact hmu
 obtain⟨b2,vs2,e2,fr2,k1,k2,k3,k4,k5⟩:=h1.objs d _ hl1;simp only[hdn]at k1;obtain rfl:=O_ k1;rw[hheap]at k3;simp only[E_,Go.Obj.cells.injEq]at k3;obtain⟨rfl,rfl,rfl⟩:=k3
 have hown:ar w S (fun i=>if i=id then Value.slice x 0 0 else μ i) (cC id (put σ.objs id (qS t s))) (Bw t id) v:=by
  rw[hx];intro cv s' rows hlk;rw[bN,de]at hlk;simp only[qS,Option.map_some,Ob.erase,E_,Ob.arr.injEq]at hlk;obtain⟨rfl,_,_⟩:=hlk;exact⟨Nat.le_refl _,fun _=>by simp⟩
 have hset:vs.toList.set j v=vs.toList:=by
  apply List.ext_getElem?;intro i;rw[List.getElem?_set];split
  ·next e=>
   subst e;split
   ·exact hv.symm
   ·next h0=>rw[List.getElem?_eq_none (by omega)]
  ·rfl
 have h2:=h1.write (id:=d) (x':=.box ((gN id cells).set j (Bw t id))) (w':=w) hl1 hdn (vs:=vs) (e:=e') (fr:=fr) ⟨rfl,rfl,rfl,rfl,fun _ _=>rfl,hheap,fun _ _ h=>h⟩ (by
  intro hc;have:σ.ro.contains d=true:=by simpa using hc
  rw[this]at hro;cases hro) (.inl ⟨_,_,rfl,rfl⟩) ⟨b,vs,e',fr,rfl,hmn,hheap,hfr,by
   have:=aj.set j k5 hv1 hown;rw[hset]at this
   exact this⟩
 exact⟨S,_,_,h2⟩
theorem wl:(∀ {p:Prop} [Decidable p] {A B:Prop},p->@Br (decide p) ⟨A⟩ ⟨B⟩=A)/\(∀ {p:Prop} [Decidable p] {A B:Prop},¬p->@Br (decide p) ⟨A⟩ ⟨B⟩=B)/\(∀ {x:Int},-9223372036854775808<=x->x<=9223372036854775807->IntKind.i64.wrap x=x)/\(∀ {x:Int},0<=x->x<=255->IntKind.u8.wrap x=x)/\(∀ {x:Int},-2147483648<=x->x<=2147483647->IntKind.i32.wrap x=x)/\(∀ {α:Type} {a:α} {l:List α},(a::l)[0]?=some a)/\(∀ {α:Type} {a:α} {i:Nat} {l:List α},(a::l)[i+1]?=l[i]?):=
 ⟨zr,FP,wrap_i64,wrap_u8,wrap_i32,List.getElem?_cons_zero,List.getElem?_cons_succ⟩
theorem bQ{σ σ':St}(hn:σ'.n=σ.n:=by rfl)(hgl:σ'.gl=σ.gl:=by rfl)(he:bp σ.env σ'.env:=by simp[bp,aC,ac])(ho:ch σ.objs σ'.objs:=by simp[ch,ac])(hr:cg σ.ro σ'.ro σ'.objs=true:=by simp[cg]):cR σ σ':=ap hn hgl he ho hr
inductive Zk_ where
  | s | i | u | n | b
def z_ : List Zk_ -> List SV
  | [] => []
  | .s :: r => .val (.str []) :: z_ r
  | .i :: r => .val (.int .i64 0) :: z_ r
  | .u :: r => .val (.int .u8 0) :: z_ r
  | .n :: r => .nils :: z_ r
  | .b :: r => .val (.bool false) :: z_ r
inductive It_ where
  | m (x : Nat) | n (c : Int) | f (o : Nat) | F (o x : Nat) | l | L (g : Nat) | W (g x : Nat) | v | h | k | u | e (x i : Nat) | x (s : Nat) | y | b (o : BinOp) | i (o : BinOp) (c : Int) | E (c : Int) | N (c : Int) | P (c : Int) | U (o : BinOp) (c : Int) | t (s : List UInt8)
  | c0 (k : Nat) | c1 (k : Nat) | c2 (k : Nat) | c3 (k : Nat) | g (o : VOp) | G (d : Option Nat) (o : VOp) | a (d : Nat) | M (d x : Nat) | j (d : Nat) (c : Int) | J (d : Nat) (c : Opd) | K (c : Opd) | p (e s b : Nat) | Z (z : List SV) | Y (d : Nat) (z : List SV) | D (z : List SV) | X (x : Nat) | S (n : Nat) | s (n a : Nat) | T (n a v : Nat) | z | w | A | O
def d_ : List It_ -> Nat -> List Nat -> Option (Nat × Bool) -> List (Option (Nat × Bool)) -> List VOper
  | [], _, _, _, _ => []
  | .m x :: r, n, q, g, k => ⟨some n, .move (tm x), g⟩ :: d_ r (n + 1) (n :: q) g k
  | .n c :: r, n, q, g, k => ⟨some n, .move (ci c), g⟩ :: d_ r (n + 1) (n :: q) g k
  | .f o :: r, n, a :: q, g, k => ⟨some n, .fieldAddr o (tm a), g⟩ :: d_ r (n + 1) (n :: q) g k
  | .F o x :: r, n, q, g, k => ⟨some n, .fieldAddr o (tm x), g⟩ :: d_ r (n + 1) (n :: q) g k
  | .l :: r, n, a :: q, g, k => ⟨some n, .load none (tm a), g⟩ :: d_ r (n + 1) (n :: q) g k
  | .L s :: r, n, a :: q, g, k => ⟨some n, .load (some s) (tm a), g⟩ :: d_ r (n + 1) (n :: q) g k
  | .W s x :: r, n, q, g, k => ⟨some n, .load (some s) (tm x), g⟩ :: d_ r (n + 1) (n :: q) g k
  | .v :: r, n, a :: q, g, k => ⟨some n, .lenV (tm a), g⟩ :: d_ r (n + 1) (n :: q) g k
  | .h :: r, n, a :: q, g, k => ⟨some n, .lenS (tm a), g⟩ :: d_ r (n + 1) (n :: q) g k
  | .k :: r, n, a :: q, g, k => ⟨some n, .nilCheck (tm a), g⟩ :: d_ r (n + 1) (n :: q) g k
  | .u :: r, n, a :: q, g, k => ⟨some n, .un .not (tm a), g⟩ :: d_ r (n + 1) (n :: q) g k
  | .e x i :: r, n, q, g, k => ⟨some n, .extract (tm x) i, g⟩ :: d_ r (n + 1) (n :: q) g k
  | .x s :: r, n, a :: b :: q, g, k => ⟨some n, .indexAddr s (tm b) (tm a), g⟩ :: d_ r (n + 1) (n :: q) g k
  | .y :: r, n, a :: b :: q, g, k => ⟨some n, .indexS (tm b) (tm a), g⟩ :: d_ r (n + 1) (n :: q) g k
  | .b o :: r, n, a :: b :: q, g, k => ⟨some n, .bin o (tm b) (tm a), g⟩ :: d_ r (n + 1) (n :: q) g k
  | .i o c :: r, n, a :: q, g, k => ⟨some n, .bin o (tm a) (ci c), g⟩ :: d_ r (n + 1) (n :: q) g k
  | .E c :: r, n, a :: q, g, k => ⟨some n, .bin .eql (tm a) (ci c), g⟩ :: d_ r (n + 1) (n :: q) g k
  | .N c :: r, n, a :: q, g, k => ⟨some n, .bin .neq (tm a) (ci c), g⟩ :: d_ r (n + 1) (n :: q) g k
  | .P c :: r, n, a :: q, g, k => ⟨some n, .bin .add (tm a) (ci c), g⟩ :: d_ r (n + 1) (n :: q) g k
  | .U o c :: r, n, a :: q, g, k => ⟨some n, .bin o (tm a) (cu c), g⟩ :: d_ r (n + 1) (n :: q) g k
  | .t s :: r, n, a :: q, g, k => ⟨some n, .bin .eql (tm a) (cs s), g⟩ :: d_ r (n + 1) (n :: q) g k
  | .c0 f :: r, n, q, g, k => ⟨some n, .call f [], g⟩ :: d_ r (n + 1) (n :: q) g k
  | .c1 f :: r, n, a :: q, g, k => ⟨some n, .call f [tm a], g⟩ :: d_ r (n + 1) (n :: q) g k
  | .c2 f :: r, n, a :: b :: q, g, k => ⟨some n, .call f [tm b, tm a], g⟩ :: d_ r (n + 1) (n :: q) g k
  | .c3 f :: r, n, a :: b :: c :: q, g, k => ⟨some n, .call f [tm c, tm b, tm a], g⟩ :: d_ r (n + 1) (n :: q) g k
  | .g o :: r, n, q, g, k => ⟨some n, o, g⟩ :: d_ r (n + 1) (n :: q) g k
  | .G d o :: r, n, q, g, k => ⟨d, o, g⟩ :: d_ r n q g k
  | .a d :: r, n, a :: q, g, k => ⟨some d, .move (tm a), g⟩ :: d_ r n q g k
  | .M d x :: r, n, q, g, k => ⟨some d, .move (tm x), g⟩ :: d_ r n q g k
  | .j d c :: r, n, q, g, k => ⟨some d, .move (ci c), g⟩ :: d_ r n q g k
  | .J d c :: r, n, q, g, k => ⟨some d, .move c, g⟩ :: d_ r n q g k
  | .K c :: r, n, q, g, k => ⟨some n, .move c, g⟩ :: d_ r (n + 1) (n :: q) g k
  | .p e s z :: r, n, a :: b :: q, g, k => ⟨some n, .append e s z (tm b) (tm a), g⟩ :: d_ r (n + 1) (n :: q) g k
  | .Z z :: r, n, q, g, k => ⟨some n, .alloc z, g⟩ :: d_ r (n + 1) (n :: q) g k
  | .Y d z :: r, n, q, g, k => ⟨some d, .alloc z, g⟩ :: d_ r n q g k
  | .D z :: r, n, q, g, k => ⟨some n, .build z [], g⟩ :: d_ r (n + 1) (n :: q) g k
  | .X x :: r, n, q, g, k => ⟨some n, .box (tm x), g⟩ :: d_ r (n + 1) (n :: q) g k
  | .S s :: r, n, a :: b :: q, g, k => ⟨none, .store s (tm b) (tm a), g⟩ :: d_ r n q g k
  | .s s x :: r, n, a :: q, g, k => ⟨none, .store s (tm x) (tm a), g⟩ :: d_ r n q g k
  | .T s x y :: r, n, q, g, k => ⟨none, .store s (tm x) (tm y), g⟩ :: d_ r n q g k
  | .z :: r, n, a :: q, g, k => ⟨some n, .move (tm a), g⟩ :: d_ r (n + 1) q (some (n, true)) (g :: k)
  | .w :: r, n, a :: q, g, k => ⟨some n, .move (tm a), g⟩ :: d_ r (n + 1) q (some (n, false)) (g :: k)
  | .A :: r, n, a :: q, some (b, _), g :: k => ⟨some n, .pick (tm b) (tm a) (cb false), g⟩ :: d_ r (n + 1) (n :: q) g k
  | .O :: r, n, a :: q, some (b, _), g :: k => ⟨some n, .pick (tm b) (cb true) (tm a), g⟩ :: d_ r (n + 1) (n :: q) g k
  | _, _, _, _, _ => []
def D_ (l : List It_) (n : Nat) : List VOper := d_ l n [] none []
def R_ (n e : Nat) (l : List It_) (b : VCode) : VCode := .seq (.region (D_ l n) .text [n, e]) b
def V_ (n e : Nat) (l : List It_) (b : VCode) : VCode := .seq (.region (D_ l n) .text [n - 1, e]) b
def Q_ (n : Nat) (l : List It_) (b : VCode) : VCode := .seq (.region (D_ l n) .text []) b
def G_ (n : Nat) (l : List It_) (d : List Nat) (b : VCode) : VCode := .seq (.region (D_ l n) .text d) b
def C_ (n e : Nat) (l : List It_) (a b : VCode) : VCode := .seq (.region (D_ l n) .text [n, e]) (.cond (tm (e + 1)) a b)
def X_ (n e : Nat) (l : List It_) : VCode := .region (D_ l n) .text [n, e]
def Y_ (n : Nat) (l : List It_) : VCode := .region (D_ l n) .text []
def c_ (k : Nat) (a b : VCode) : VCode := .cond (tm k) a b
attribute [simp] d_ R_ V_ Q_ G_ C_ X_ Y_ c_ D_ z_
def z_1:List SV:=z_ [.s,.s,.u,.i,.u,.i,.u,.i,.i,.u,.i,.i,.i,.b,.u,.i,.i,.u,.i,.n,.n,.n,.n,.n,.n,.n,.n,.n,.i,.n,.n,.u,.i,.b]
def z_2:List SV:=z_ [.u,.i,.i,.u,.i,.n,.n,.n,.n,.n,.n,.n,.n,.n,.i]
def z_3:List SV:=z_ [.s,.n,.s]
def z_4:List SV:=z_ [.u,.i]
def z_5:List SV:=z_ [.s,.n]
def z_6:List SV:=z_ [.u,.i,.u,.i,.i,.u,.i,.n,.n,.n,.n,.n,.n,.n,.n,.n,.i,.n,.n]
def z_7:List SV:=z_ [.i,.i]
def z_8:List SV:=z_ [.i,.i,.b]
def z_9:List SV:=z_ [.u,.s]
attribute [simp] z_1 z_2 z_3 z_4 z_5 z_6 z_7 z_8 z_9
theorem fK_ {P:Program}{k:FuncId}{v:VCode}{rs:List VRes}{n:Nat}{fn:Func}(h:P.funcs[k]?=some fn)(h1:fn.name≠"runtime.NumGoroutine":=by decide)(h3:fn.body.bind (comp P)=some v.strip:=by kernel_rfl)(h4:v.bnd n=true:=by kernel_rfl)(h5:bS P fn.results.toList=some rs:=by kernel_rfl)(h6:fn.ntmps=n:=by rfl):FnOk P k v rs n:=by
 cases hb:fn.body with
 |none=>rw[hb] at h3;cases h3
 |some c=>rw[hb] at h3;exact⟨⟨fn,c,h,h1,hb,h3,h4,h5,h6⟩⟩
end Go.Vs
