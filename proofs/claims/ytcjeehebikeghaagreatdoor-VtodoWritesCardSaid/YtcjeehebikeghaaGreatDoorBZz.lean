/- A part of a proof. No conditions. -/
import Derived.Test.YtcjeehebikeghaaGreatDoorBDz
import Derived.LoopN
import Derived.Scope
import Derived.RangeFuncNested
import Derived.RangeFuncLeaves
import Derived.OrdersIn
import Derived.LoopNIn
set_option linter.unusedVariables false
set_option linter.unusedSimpArgs false
namespace Go.Vs
theorem cW{a:St}{rs:List VRes}{c:MC}(f:List (Nat×SV))(g:cH a ⟨f,c.objs',[],a.n,a.gl⟩:=by exact bp)
  (h:Kf ⟨f,c.objs',[],a.n,a.gl⟩ rs c.res=some (c.res,[]):=by rfl) (i:c.ro'=[]:=by rfl):dc rs c .ret a:=⟨_,[],g,rfl,h,i⟩
end Go.Vs
namespace Go.Vs
inductive Job where
 |fn (gl:List (Nat×List IV)) (k:Nat) (args:List IV)
 |mc (gl:List (Nat×List IV)) (k:Nat) (args:List SV) (objs:List (Nat×Ob)) (ro:List Nat)
 |loop (v:VCode) (σ:St)
inductive Out where
 |res (r:Res)
 |mc (res:SV) (objs':List (Nat×Ob)) (ro':List Nat)
 |lp (e:Exit) (σ:St)
def BO(P:Program):Job->Out->Prop
 |.fn g k b,.res r=>Ea g P k b r
 |.mc g k b f ro,.mc r d h=>jL g P k ⟨b,f,r,d,h,ro⟩
 |.loop v i,.lp e m=>∃n,∀Q:Exit->St->Prop,Q e m->∀c,comp P c=some v.strip->v.bnd i.n=true->∀(w0:World) (S0:ba) (M:Ctx) (a:Act) (w:World),fF w0 S0 M i a w->Code.rounds P c (BJ w0 S0 M i.n Q) n a w
 |_,_=>False
mutual
def SV.ids:SV->List Nat
 |.own id _=>[id]
 |.loc id _=>[id]
 |.eloc id _ _ _=>[id]
 |.view id _ _ _=>[id]
 |.selfN id _ _=>[id]
 |.ownT id _ _=>[id]
 |.itr id=>[id]
 |.agg b=>yz b
 |.clo _ a=>yz a
 |.tup a=>yz a
 |.ifc _ v=>v.ids
 |_=>[]
def yz:List SV->List Nat
 |[]=>[]
 |x::r=>x.ids++yz r
end
def Ob.ids:Ob->List Nat
 |.box a=>yz a
 |_=>[]
def ws(ids:List Nat):List Nat->Bool
 |[]=>true
 |i::r=>ids.contains i&&ws ids r
theorem Eg{ids:List Nat} : ∀ {l:List Nat},ws ids l=true->∀i∈l,i∈ids
 |[],_,i,h=>by cases h
 |j::r,h,i,a=>by
  simp only[ws,Bool.and_eq_true]at h;rcases List.mem_cons.1 a with rfl|a
  ·simpa using h.1
  ·exact Eg h.2 i a
section
variable {ρ ρ':List (Nat×Nat)}
mutual
theorem HP:∀x:SV,(∀i∈x.ids,ren ρ (ren ρ' i)=i)->(x.ren ρ').ren ρ=x
 |.undef,_=>rfl
 |.val _,_=>rfl
 |.nils,_=>rfl
 |.full _,_=>rfl
 |.own id _,h=>by simp only[SV.ren,h id (by simp[SV.ids])]
 |.loc id _,h=>by simp only[SV.ren,h id (by simp[SV.ids])]
 |.eloc id _ _ _,h=>by simp only[SV.ren,h id (by simp[SV.ids])]
 |.view id _ _ _,h=>by simp only[SV.ren,h id (by simp[SV.ids])]
 |.agg b,h=>by simp only[SV.ren,tq b h]
 |.clo _ a,h=>by simp only[SV.ren,tq a h]
 |.tup a,h=>by simp only[SV.ren,tq a h]
 |.ifc _ v,h=>by simp only[SV.ren,HP v h]
 |.anyB,_=>rfl
 |.selfN id _ _,h=>by simp only[SV.ren,h id (by simp[SV.ids])]
 |.ownT id _ _,h=>by simp only[SV.ren,h id (by simp[SV.ids])]
 |.itr id,h=>by simp only[SV.ren,h id (by simp[SV.ids])]
theorem tq:∀x:List SV,(∀i∈yz x,ren ρ (ren ρ' i)=i)->rQ ρ (rQ ρ' x)=x
 |[],_=>rfl
 |x::r,h=>by
  simp only[rQ,HP x (fun i d=>h i (by simp only[yz,List.mem_append];exact .inl d)),tq r (fun i d=>h i (by simp only[yz,List.mem_append];exact .inr d))]
end
theorem Sj:∀o:Ob,(∀i∈o.ids,ren ρ (ren ρ' i)=i)->(o.ren ρ').ren ρ=o
 |.box a,h=>by simp only[Ob.ren,tq a h]
 |.arr _ _ _,_=>rfl
 |.iter _ _,_=>rfl
end
def Fe(a:List (Nat×Ob)):Nat->List Nat->List Nat->List Nat
 |_,[],seen=>seen
 |0,_,seen=>seen
 |n+1,i::r,seen=>bif seen.contains i then Fe a n r seen else match ac a i with
  |some o=>Fe a n (o.ids++r) (seen++[i])
  |none=>Fe a n r seen
def BP(a:List (Nat×Ob)):List Nat->List (Nat×Ob)
 |[]=>[]
 |i::r=>match ac a i with
  |some o=>(i,o)::BP a r
  |none=>BP a r
def HQ(a:List (Nat×Ob))(ρ':List (Nat×Nat)):List Nat->List (Nat×Ob)
 |[]=>[]
 |i::r=>match ac a i with
  |some o=>(ren ρ' i,o.ren ρ')::HQ a ρ' r
  |none=>HQ a ρ' r
def BQ(a:List (Nat×Ob))(ids:List Nat):List Nat->Bool
 |[]=>true
 |i::r=>(match ac a i with
  |some o=>ws ids o.ids
  |none=>true)&&BQ a ids r
def Xs(ρ ρ':List (Nat×Nat)):List Nat->Bool
 |[]=>true
 |i::r=>Nat.beq (ren ρ (ren ρ' i)) i&&Xs ρ ρ' r
theorem HR{ρ ρ':List (Nat×Nat)} : ∀ {l:List Nat},Xs ρ ρ' l=true->∀i∈l,ren ρ (ren ρ' i)=i
 |[],_,i,h=>by cases h
 |j::r,h,i,a=>by
  simp only[Xs,Bool.and_eq_true]at h;rcases List.mem_cons.1 a with rfl|a
  ·exact Nat.eq_of_beq_eq_true h.1
  ·exact HR h.2 i a
theorem B4{a:List (Nat×Ob)}{ρ ρ':List (Nat×Nat)}{ids:List Nat}(e:∀i∈ids,ren ρ (ren ρ' i)=i):∀ {l:List Nat},(∀i∈l,i∈ids)->BQ a ids l=true->yP a ρ (HQ a ρ' l)
 |[],_,_=>trivial
 |i::r,f,b=>by
  simp only[BQ,Bool.and_eq_true]at b;unfold HQ;split
  ·next o g=>
   rw[g]at b;refine⟨?_,B4 e (fun j d=>f j (List.mem_cons_of_mem _ d)) b.2⟩;rw[e i (f i (by simp)),g,Sj o (fun j d=>e j (Eg b.1 j d))]
  ·exact B4 e (fun j d=>f j (List.mem_cons_of_mem _ d)) b.2
theorem Eh{d:List (Nat×Ob)}{ρ ρ':List (Nat×Nat)}{ids:List Nat}(e:∀i∈ids,ren ρ (ren ρ' i)=i):∀ {l:List SV},ws ids (yz l)=true->yO d ρ l (rQ ρ' l) []
 |[],_=>rfl
 |x::r,h=>by
  have hm:=Eg h;have m:(x.ren ρ').ren ρ=x:=HP x (fun i p=>e i (hm i (by simp only[yz,List.mem_append];exact .inl p)))
  have g:ws ids (yz r)=true:=by
   have f:∀(a b:List Nat),ws ids (a++b)=true->ws ids b=true:=by
    intro a
    induction a with
    |nil=>exact fun b h=>h
    |cons y a q=>intro b h;simp only[List.cons_append,ws,Bool.and_eq_true]at h;exact q b h.2
   exact f _ _ h
  cases x with
  |val iv=>exact⟨[],[],rfl,Eh e g,rfl⟩
  |_=>exact⟨m.symm,Eh e g⟩
theorem Tw{ρ:List (Nat×Nat)} : ∀ {l:List (Nat×Ob)},mFz ρ [] l=true
 |[]=>rfl
 |_::r=>by simp[mFz,Tw (l:=r)]
def Ei(a:St):Nat->List Nat
 |0=>[]
 |n+1=>bif (ac a.objs n).isNone&&E5 n a.env&&E6 n a.objs then n::Ei a n else Ei a n
def Nr(a:List (Nat×Ob)):List (Nat×Ob)->List Nat
 |[]=>[]
 |(i,_)::r=>bif (ac a i).isSome then Nr a r else i::Nr a r
def mkM(d:St)(b a:List (Nat×Ob)):List (Nat×Nat):=match Nr b a with
 |[]=>[]
 |l=>l.zip (Ei d d.n)
section
variable (X:Job->Option Out)
def mX(d:St)(h:Option Nat)(m:SV)(e:List Opd):Option St:=match PE d m e with
 |none=>none
 |some (k,vals)=>
  let ids:=Fe d.objs 200 (yz vals) []
  let ρ':=ids.map fun i=>(i,1000+i)
  let b:=HQ d.objs ρ' ids
  let ro:=(ids.filter d.ro.contains).map (1000 + ·)
  match X (.mc d.gl k (rQ ρ' vals) b ro)with
  |some (.mc f a g)=>
   let ρ:=ids.map (fun i=>(1000+i,i))++mkM d b a
   bif mOk d ρ ⟨rQ ρ' vals,b,f,a,g,ro⟩&&(Xs ρ ρ' ids&&(ws ids (yz vals)&&BQ d.objs ids ids))then some (d.mapply h ρ ⟨rQ ρ' vals,b,f,a,g,ro⟩ [])else none
  |_=>none
def cX(e:St)(b:Option Nat)(f:SV)(a:List Opd):Option Upd:=match ef e f a with
 |some (g,d,h)=>match X (.fn e.gl g d)with
  |some (.res r)=>ic b h r
  |_=>none
 |none=>none
def opX(d:St)(b:Option Nat):VOp->Option Upd
 |.call f a=>cX X d b (.val (.fn f [])) a
 |.callV f a=>cX X d b (val d f) a
 |op=>match ev d b op with
  |some u=>match u.dec with
   |.isTrue _=>some u
   |.isFalse _=>none
  |none=>none
def Va(d:St)(a:Option Nat):VOp->Option St
 |.callM f b=>mX X d a (.val (.fn f [])) b
 |op=>match opX X d a op with
  |some u=>some (d.apply a u)
  |none=>none
def xT:List VOper->St->Option St
 |[],a=>some a
 |o::r,a=>match o.guard with
  |none=>match opX X a o.dst o.op with
   |some u=>xT r (a.apply o.dst u)
   |none=>none
  |some (g,b)=>match ja (ap a.env g)with
   |some c=>if c=some b then (match opX X a o.dst o.op with
     |some u=>xT r (a.apply o.dst u)
     |none=>none)else xT r (a.apply o.dst gy)
   |none=>none
def xM:List VOper->St->Option St
 |[],d=>some d
 |o::r,d=>match o.guard with
  |none=>match Va X d o.dst o.op with
   |some a=>xM r a
   |none=>none
  |some (g,b)=>match ja (ap d.env g)with
   |some c=>if c=some b then (match Va X d o.dst o.op with
     |some a=>xM r a
     |none=>none)else xM r (d.apply o.dst gy)
   |none=>none
def xD(d:St)(ps ms:List (Nat×Nat)):List VOper->St->List Eff->Option St
 |[],a,e=>bif qM d ps ms e then some a else none
 |o::r,a,e=>match o.guard with
  |none=>match opX X a o.dst o.op with
   |some u=>xD d ps ms r (a.apply o.dst u) (e++[⟨eE a o.op u,o.dst,u⟩])
   |none=>none
  |some (g,b)=>match ja (ap a.env g)with
   |some c=>if c=some b then (match opX X a o.dst o.op with
     |some u=>xD d ps ms r (a.apply o.dst u) (e++[⟨eE a o.op u,o.dst,u⟩])
     |none=>none)else xD d ps ms r (a.apply o.dst gy) (e++[⟨[],o.dst,gy⟩])
   |none=>none
def xDM(a:St)(ps ms:List (Nat×Nat)):List VOper->St->List Eff->Option St
 |[],_,_=>none
 |[o],b,d=>bif qM a (cutP d.length ps) (cutP d.length ms) d then xM X [o] b else none
 |o::o2::r,b,d=>match o.guard with
  |none=>match opX X b o.dst o.op with
   |some u=>xDM a ps ms (o2::r) (b.apply o.dst u) (d++[⟨eE b o.op u,o.dst,u⟩])
   |none=>none
  |some _=>none
def xR(a:List VOper)(b:St):RMode->Option St
 |.text=>xM X a b
 |.calm=>xT X a b
 |.drawn ps ms=>xD X b ps ms a b []
 |.drawnM ps ms=>xDM X b ps ms a b []
def xw:VCode->St->Option (Exit×St)
 |.skip,d=>some (.normal,d)
 |.region m g h,d=>match xR X m d g with
  |some f=>some (.normal,f.drop h)
  |none=>none
 |.seq a b,d=>match xw a d with
  |some (.normal,f)=>xw b f
  |r=>r
 |.cond c a b,d=>match val d c with
  |.val (.bool true)=>xw a d
  |.val (.bool false)=>xw b d
  |_=>none
 |.block id a,d=>match xw a d with
  |some (.exit i,f)=>if i=id then some (.normal,f)else some (.exit i,f)
  |r=>r
 |.loop a,d=>match X (.loop a d)with
  |some (.lp e f)=>some (e,f)
  |_=>none
 |.exit id,d=>some (.exit id,d)
 |.scope a,d=>match xw a d with
  |some (.goto _,_)=>none
  |r=>r
 |.label _,d=>some (.normal,d)
 |.goto l,d=>some (.goto l,d)
 |.ret,d=>some (.ret,d)
 |.refuse,_=>none
 |.cut a,d=>xw a d
end
section
variable {P:Program} {X:Job->Option Out} (hX:∀j o,X j=some o->BO P j o)
include hX
theorem Xt{b e:St}{f:Option Nat}{q:SV}{d:List Opd}(h:mX X b f q d=some e){K:St->Prop}(u:K e):Tr P b f q d K:=by
 unfold mX at h;split at h
 ·cases h
 ·next k vals w=>
  dsimp only at h;split at h
  ·next m a p y=>
   have hF:=hX _ _ y;generalize Fe b.objs 200 (yz vals) []=ids at *;generalize z:(ids.map (fun i=>(1000+i,i))++mkM b (HQ b.objs (ids.map fun i=>(i,1000+i)) ids) a)=ρ at *;generalize (ids.map fun i=>(i,1000+i))=ρ' at *;cases g:(mOk b ρ ⟨rQ ρ' vals,HQ b.objs ρ' ids,m,a,p,(ids.filter b.ro.contains).map (1000 + ·)⟩&&(Xs ρ ρ' ids&&(ws ids (yz vals)&&BQ b.objs ids ids)))with
   |false=>rw[g]at h;cases h
   |true=>
    rw[g]at h;cases h;simp only[Bool.and_eq_true]at g;obtain⟨A,s,B,C⟩:=g;exact⟨k,vals,_,ρ,[],w,hF,A,B4 (HR s) (fun _ x=>x) C,Eh (HR s) B,Tw,u⟩
  ·cases h
theorem PX{f:St}{b:Option Nat}{i:SV}{a:List Opd}{u:Upd}(h:cX X f b i a=some u){K:Upd->Prop}(q:K u):match ef f i a with
  |some (g,d,m)=>∃r,Ea f.gl P g d r/\match ic b m r with
   |some u=>K u
   |none=>False
  |none=>False:=by
 unfold cX at h;cases e:ef f i a with
 |none=>rw[e]at h;cases h
 |some p=>
  obtain⟨g,d,m⟩:=p;rw[e]at h;dsimp only at h |-;split at h
  ·next r s=>exact⟨_,hX _ _ s,by rw[h];exact q⟩
  ·cases h
theorem yb{d:St}{a:Option Nat}{b:VOp}{u:Upd}(h:opX X d a b=some u){K:Upd->Prop}(e:K u):dT P d a K b:=by
 have plain:(match ev d a b with
   |some u=>match u.dec with
    |.isTrue _=>some u
    |.isFalse _=>none
   |none=>none)=some u->(match ev d a b with
   |some u=>u.side/\K u
   |none=>False):=by
  intro h;split at h
  ·split at h
   ·next g _=>cases h;exact⟨g,e⟩
   ·cases h
  ·cases h
 cases b
 case call f args=>exact PX hX h e
 case callV f args=>exact PX hX h e
 all_goals exact plain h
theorem Sk{d:St}{a:Option Nat}{e:VOp}{b:St}(h:Va X d a e=some b){K:St->Prop}(g:K b):nt P d a K e:=by
 cases e
 case callM f args=>exact Xt hX (by simpa only [Va]using h) g
 all_goals
  simp only[Va]at h;split at h
  ·next u i=>cases h;exact yb hX i (K:=fun u=>K (d.apply a u)) g
  ·cases h
theorem HS:∀ {e:List VOper} {d a:St},xT X e d=some a->∀ {K:St->Prop},K a->mU P K e d
 |[],d,a,h,K,i=>by cases h;exact i
 |o::r,d,a,h,K,i=>by
  unfold xT at h;unfold mU
  have f:(match opX X d o.dst o.op with
    |some u=>xT X r (d.apply o.dst u)
    |none=>none)=some a->dT P d o.dst (fun u=>mU P K r (d.apply o.dst u)) o.op:=by
   intro h;split at h
   ·next u w=>exact yb hX w (HS h i)
   ·cases h
  cases q:o.guard with
  |none=>rw[q]at h;exact f h
  |some p=>
   obtain⟨g,b⟩:=p;rw[q]at h;dsimp only at h |-;cases s:ja (ap d.env g)with
   |none=>rw[s]at h;cases h
   |some c=>
    rw[s]at h;dsimp only at h |-;split at h
    ·next m=>exact⟨fun _=>f h,fun x=>absurd m x⟩
    ·next m=>exact⟨fun y=>absurd y m,fun _=>HS h i⟩
theorem BR:∀ {e:List VOper} {d a:St},xM X e d=some a->∀ {K:St->Prop},K a->fY P K e d
 |[],d,a,h,K,i=>by cases h;exact i
 |o::r,d,a,h,K,i=>by
  unfold xM at h;unfold fY
  have f:(match Va X d o.dst o.op with
    |some a=>xM X r a
    |none=>none)=some a->nt P d o.dst (fY P K r) o.op:=by
   intro h;split at h
   ·next u w=>exact Sk hX w (BR h i)
   ·cases h
  cases q:o.guard with
  |none=>rw[q]at h;exact f h
  |some p=>
   obtain⟨g,b⟩:=p;rw[q]at h;dsimp only at h |-;cases s:ja (ap d.env g)with
   |none=>rw[s]at h;cases h
   |some c=>
    rw[s]at h;dsimp only at h |-;split at h
    ·next m=>exact⟨fun _=>f h,fun x=>absurd m x⟩
    ·next m=>exact⟨fun y=>absurd y m,fun _=>BR h i⟩
theorem HT{d:St}{ps ms:List (Nat×Nat)} : ∀ {m:List VOper} {e a:St} {f:List Eff},xD X d ps ms m e f=some a->∀ {K:St->Prop},K a->lh P (fun f a=>qM d ps ms f=true/\K a) m e f
 |[],e,a,f,h,K,s=>by
  unfold xD at h;cases i:qM d ps ms f with
  |false=>rw[i]at h;cases h
  |true=>rw[i]at h;cases h;exact⟨i,s⟩
 |o::r,e,a,f,h,K,s=>by
  unfold xD at h;unfold lh
  have q:(match opX X e o.dst o.op with
    |some u=>xD X d ps ms r (e.apply o.dst u) (f++[⟨eE e o.op u,o.dst,u⟩])
    |none=>none)=some a->dT P e o.dst (fun u=>lh P (fun f a=>qM d ps ms f=true/\K a) r (e.apply o.dst u) (f++[⟨eE e o.op u,o.dst,u⟩])) o.op:=by
   intro h;split at h
   ·next u y=>exact yb hX y (HT h s)
   ·cases h
  cases x:o.guard with
  |none=>rw[x]at h;exact q h
  |some p=>
   obtain⟨g,b⟩:=p;rw[x]at h;dsimp only at h |-;cases i:ja (ap e.env g)with
   |none=>rw[i]at h;cases h
   |some c=>
    rw[i]at h;dsimp only at h |-;split at h
    ·next w=>exact⟨fun _=>q h,fun z=>absurd w z⟩
    ·next w=>exact⟨fun A=>absurd A w,fun _=>HT h s⟩
theorem Me{d:St}{ps ms:List (Nat×Nat)} : ∀ {e:List VOper} {f a:St} {b:List Eff},xDM X d ps ms e f b=some a->∀ {K:St->Prop},K a->qY P K d ps ms e f b
 |[],f,a,b,h,K,g=>by cases h
 |[o],f,a,b,h,K,g=>by
  unfold xDM at h;cases i:qM d (cutP b.length ps) (cutP b.length ms) b with
  |false=>rw[i]at h;cases h
  |true=>rw[i]at h;exact⟨i,BR hX h g⟩
 |o::o2::r,f,a,b,h,K,g=>by
  unfold xDM at h;unfold qY;cases m:o.guard with
  |none=>
   rw[m]at h;dsimp only at h |-;split at h
   ·next u q=>exact yb hX q (Me h g)
   ·cases h
  |some p=>rw[m]at h;cases h
end
theorem Ff{P:Program}{v:VCode}{Q:Exit->St->Prop}{d b:St}(f:cH d b)(e:b.n=d.n){n:Nat}(h:∀c,comp P c=some v.strip->v.bnd b.n=true->∀(w0:World) (S0:ba) (M:Ctx) (a:Act) (w:World),fF w0 S0 M b a w->Code.rounds P c (BJ w0 S0 M b.n Q) n a w) :
  ∀c,comp P c=some v.strip->v.bnd d.n=true->∀(w0:World) (S0:ba) (M:Ctx) (a:Act) (w:World),fF w0 S0 M d a w->Code.rounds P c (BJ w0 S0 M d.n Q) n a w:=by
 intro c g i w0 S0 M a w m;have:=h c g (by rw[e];exact i) w0 S0 M a w (f _ _ _ _ _ m);rw[e]at this;exact this
theorem Fg{P:Program}(hm:P.follows .mixedOrders=true){v:VCode}{Q:Exit->St->Prop}{f:St}{n:Nat}(h:pw P v (fun e b=>match e with
   |.normal=>∀c,comp P c=some v.strip->v.bnd b.n=true->∀(w0:World) (S0:ba) (M:Ctx) (a:Act) (w:World),fF w0 S0 M b a w->Code.rounds P c (BJ w0 S0 M b.n Q) n a w
   |e=>Q e b) f):∀c,comp P c=some v.strip->v.bnd f.n=true->∀(w0:World) (S0:ba) (M:Ctx) (a:Act) (w:World),fF w0 S0 M f a w->Code.rounds P c (BJ w0 S0 M f.n Q) (n+1) a w:=by
 intro c g i w0 S0 M a w p;refine wp_mono (lB hm v h c g i w0 S0 M a w p) (fun e q s d=>?_);cases e with
 |normal=>
  obtain⟨b,u,m,x⟩:=d;have:=u c g (by rw[m];exact i) w0 S0 M q s x;rw[m]at this;exact this
 |exit=>exact d
 |goto=>exact d
 |ret=>exact d
 |panic=>exact d
 |outgrown=>exact d
section
variable {P:Program} (hm:P.follows .mixedOrders=true) {X:Job->Option Out} (hX:∀j o,X j=some o->BO P j o)
include hm hX
omit hm in
theorem Xu{e:List VOper}{g a:St}{d:RMode}{b:List Nat}(h:xR X e g d=some a){Q:Exit->St->Prop}(f:Q .normal (a.drop b)):pw P (.region e d b) Q g:=by
 cases d with
 |text=>exact BR hX h (K:=fun a=>Q .normal (a.drop b)) f
 |calm=>exact HS hX h (K:=fun a=>Q .normal (a.drop b)) f
 |drawn ps ms=>exact HT hX h (K:=fun a=>Q .normal (a.drop b)) f
 |drawnM ps ms=>exact Me hX h (K:=fun a=>Q .normal (a.drop b)) f
theorem gM:∀(v:VCode) {g d:St} {e:Exit},xw X v g=some (e,d)->∀ {Q:Exit->St->Prop},Q e d->pw P v Q g
 |.skip,g,d,e,h,Q,f=>by cases h;exact f
 |.region L I K,g,d,e,h,Q,f=>by
  simp only[xw]at h;split at h
  ·next m y=>cases h;exact Xu hX y f
  ·cases h
 |.seq a b,g,d,e,h,Q,f=>by
  simp only[xw]at h;split at h
  ·next m z=>exact gM a z (gM b h f)
  ·next q=>
   refine gM a h ?_;cases e with
   |normal=>exact absurd h (by simpa using q d)
   |_=>exact f
 |.cond c a b,g,d,e,h,Q,f=>by
  simp only[xw]at h;simp only[pw];split at h
  ·next A=>rw[A];exact⟨fun _=>gM a h f,fun h=>by cases h⟩
  ·next A=>rw[A];exact⟨fun h=>(by cases h),fun _=>gM b h f⟩
  ·cases h
 |.block id a,g,d,e,h,Q,f=>by
  simp only[xw]at h;split at h
  ·next i m z=>
   refine gM a z ?_;split at h
   ·next B=>cases h;dsimp only;rw[if_pos B];exact f
   ·next B=>cases h;dsimp only;rw[if_neg B];exact f
  ·next q=>
   refine gM a h ?_;cases e with
   |exit i=>exact absurd h (by simpa using q i d)
   |_=>exact f
 |.loop a,g,d,e,h,Q,f=>by
  simp only[xw]at h;split at h
  ·next e1 m N=>
   cases h;obtain⟨n,y⟩:=hX _ _ N;intro c C D w0 S0 M s w E;obtain⟨p,rfl,H⟩:=bc C;exact wp_loop_rounds n (y Q f p H D w0 S0 M s w E)
  ·cases h
 |.exit id,g,d,e,h,Q,f=>by cases h;exact f
 |.scope a,g,d,e,h,Q,f=>by
  simp only[xw]at h;intro c C D w0 S0 M s w E;obtain⟨p,rfl,H⟩:=bc C;split at h
  ·cases h
  ·next q=>
   refine wp_scope_straight (wp_mono (lB hm a (gM a h (Q:=fun e1 m=>Q e1 m/\e1=e) ⟨f,rfl⟩) p H D w0 S0 M s w E) (fun e1 V W x=>?_));cases e1 with
   |goto l=>
    obtain⟨u,⟨_,O⟩,_⟩:=x;subst O;exact absurd h (by simpa using q l d)
   |panic=>exact x.elim
   |outgrown=>exact x.elim
   |_=>
    obtain⟨u,⟨R,_⟩,S,U⟩:=x;exact⟨u,R,S,U⟩
 |.label _,g,d,e,h,Q,f=>by cases h;exact f
 |.goto l,g,d,e,h,Q,f=>by cases h;exact f
 |.ret,g,d,e,h,Q,f=>by cases h;exact f
 |.refuse,g,d,e,h,Q,f=>by cases h
 |.cut a,g,d,e,h,Q,f=>lB hm a (gM a h f)
end
end Go.Vs
namespace Go.Vs
def VOp.isM:VOp->Bool
 |.callM _ _=>true
 |_=>false
def Xv:List VOper->Bool
 |[]=>false
 |o::r=>o.op.isM||Xv r
def Mf:RMode->Bool
 |.drawnM _ _=>false
 |_=>true
def mV:VCode->Bool
 |.region f d e=>!Xv f&&(Mf d&&e.isEmpty)
 |.seq a b=>mV a&&mV b
 |.cond _ a b=>mV a&&mV b
 |.block _ a=>mV a
 |.loop a=>mV a
 |.scope a=>mV a
 |.cut _=>false
 |_=>true
theorem HU:∀ {a:List VOper},Xv a=false->aC a=a
 |[],_=>rfl
 |⟨d,b,g⟩::r,h=>by
  simp only[Xv,Bool.or_eq_false_iff]at h;have:b.strip=b:=by cases b<;>first|rfl|(exact absurd h.1 (by simp[VOp.isM]))
  simp only[aC,VOper.strip,this,HU h.2]
theorem gY:∀ {v:VCode},mV v=true->v.strip=v
 |.region f d e,h=>by
  simp only[mV,Bool.and_eq_true,Bool.not_eq_true',List.isEmpty_iff]at h;obtain⟨g,i,rfl⟩:=h;have:d.strip=d:=by cases d<;>first|rfl|(exact absurd i (by simp[Mf]))
  simp only[VCode.strip,HU g,this]
 |.seq a b,h=>by simp only[mV,Bool.and_eq_true]at h;simp only[VCode.strip,gY h.1,gY h.2]
 |.cond _ a b,h=>by simp only[mV,Bool.and_eq_true]at h;simp only[VCode.strip,gY h.1,gY h.2]
 |.block _ a,h=>by simp only[VCode.strip,gY (v:=a) h]
 |.loop a,h=>by simp only[VCode.strip,gY (v:=a) h]
 |.scope a,h=>by simp only[VCode.strip,gY (v:=a) h]
 |.skip,_=>rfl
 |.exit _,_=>rfl
 |.label _,_=>rfl
 |.goto _,_=>rfl
 |.ret,_=>rfl
 |.refuse,_=>rfl
def Sl(b:List Nat)(d:Bool):VOp->VOp
 |.call f a=>bif b.contains f then .callM f a else .call f a
 |op=>op
def BS(a:List Nat)(b:Bool):List VOper->List VOper
 |[]=>[]
 |o::r=>⟨o.dst,Sl a b o.op,o.guard⟩::BS a b r
def PY(b:Bool):RMode->RMode
 |.drawn p m=>bif b then .drawnM p m else .drawn p m
 |m=>m
def uh(d:List Nat)(e:Bool):VCode->VCode
 |.region f g h=>.region (BS d e f) (PY (Xv (BS d e f)) g) h
 |.seq a b=>.seq (uh d e a) (uh d e b)
 |.cond c a b=>.cond c (uh d e a) (uh d e b)
 |.block id a=>.block id (uh d e a)
 |.loop a=>.loop (uh d e a)
 |.scope a=>.scope (uh d e a)
 |.cut a=>.cut (uh d e a)
 |c=>c
theorem yU{b:List Nat}{h:Bool} : ∀ {ops:List VOper},aC (BS b h ops)=aC ops
 |[]=>rfl
 |⟨d,e,g⟩::r=>by
  have:(Sl b h e).strip=e.strip:=by
   cases e
   case call f a=>simp only[Sl];cases b.contains f<;>rfl
   all_goals rfl
  simp only[BS,aC,VOper.strip,this,yU (ops:=r)]
theorem ig{f:List Nat}{g:Bool} : ∀ {v:VCode},(uh f g v).strip=v.strip
 |.region h d e=>by
  have:∀b,(PY b d).strip=d.strip:=by intro b;cases d<;>cases b<;>rfl
  simp only[uh,VCode.strip,yU,this]
 |.seq a b=>by simp only[uh,VCode.strip,ig (v:=a),ig (v:=b)]
 |.cond _ a b=>by simp only[uh,VCode.strip,ig (v:=a),ig (v:=b)]
 |.block _ a=>by simp only[uh,VCode.strip,ig (v:=a)]
 |.loop a=>by simp only[uh,VCode.strip,ig (v:=a)]
 |.scope a=>by simp only[uh,VCode.strip,ig (v:=a)]
 |.cut a=>by simp only[uh,VCode.strip,ig (v:=a)]
 |.skip=>rfl
 |.exit _=>rfl
 |.label _=>rfl
 |.goto _=>rfl
 |.ret=>rfl
 |.refuse=>rfl
def acF(P:Program)(b d:List Nat)(k:FuncId):Option (VCode×List VRes×Nat):=match P.funcs[k]? with
 |none=>none
 |some a=>if a.name = "runtime.NumGoroutine" then none else match a.body with
  |none=>none
  |some c=>match comp P c,cK P a.results.toList with
   |some v,some rs=>bif mV v&&(uh b (d.contains k) v).bnd a.ntmps then some (uh b (d.contains k) v,rs,a.ntmps)else none
   |_,_=>none
theorem aan{P:Program}{d e:List Nat}{k:FuncId}{v:VCode}{rs:List VRes}{n:Nat}(h:acF P d e k=some (v,rs,n)):FnOk P k v rs n:=by
 unfold acF at h;split at h
 ·cases h
 ·next f i=>
  split at h
  ·cases h
  ·next a=>
   split at h
   ·cases h
   ·next c m=>
    split at h
    ·next g p q s=>
     cases b:(mV g&&(uh d (e.contains k) g).bnd f.ntmps)with
     |false=>rw[b]at h;cases h
     |true=>
      rw[b]at h;cases h;simp only[Bool.and_eq_true]at b;exact⟨f,c,i,a,m,by rw[ig,gY b.1];exact q,b.2,s,rfl⟩
    ·cases h
def nub{a:Type} : Nat->List (Nat×a)->List (Nat×a)
 |_,[]=>[]
 |m,(k,v)::r=>bif Nat.testBit m k then nub m r else (k,v)::nub (m ||| 1 <<< k) r
theorem BT{d:Type} : ∀ {l:List (Nat×d)} {m k:Nat},ac (nub m l) k=if m.testBit k then none else ac l k
 |[],m,k=>by simp[nub,ac]
 |(j,v)::r,m,k=>by
  simp only[nub];cases b:Nat.testBit m j with
  |true=>
   simp only[cond_true,BT (l:=r),ac];cases a:j==k with
   |true=>rw[beq_iff_eq]at a;subst a;simp[b]
   |false=>simp
  |false=>
   simp only[cond_false,ac,BT (l:=r)];cases a:j==k with
   |true=>rw[beq_iff_eq]at a;subst a;simp[b]
   |false=>
    have e:j≠k:=by simpa using a
    have:(m ||| 1 <<< j).testBit k=m.testBit k:=by
     rw[Nat.testBit_or,Nat.testBit_shiftLeft];rcases Nat.lt_or_ge k j with f|g
     ·have:¬j<=k:=by omega
      simp[this]
     ·have:(1:Nat).testBit (k-j)=false:=by
       rw[show k-j=(k-j-1)+1 by omega,Nat.testBit_add_one];simp
      simp[this]
    simp only[cond_false,this]
def St.norm(a:St):St:=⟨nub 0 a.env,nub 0 a.objs,a.ro,a.n,a.gl⟩
theorem Mg{d b:St}(f:b.n=d.n)(e:b.gl=d.gl)(g:∀k,ap b.env k=.undef\/ap b.env k=ap d.env k)(m:∀k o,ac b.objs k=some o->ac d.objs k=some o)(p:∀i o,ac b.objs i=some o->i∈d.ro->i∈b.ro):cH d b:=by
 rintro w0 S0 M a w ⟨S,q,s,h⟩;exact⟨S,q,s,h.drop f e p g m⟩
theorem Mh(a:St):cH a a.norm:=
 Mg rfl rfl (fun k=>.inr (by simp[St.norm,ap,BT])) (fun k o h=>by simpa[St.norm,BT]using h) (fun _ _ _ h=>h)
def Mi:Exit->Bool
 |.normal=>true
 |.ret=>true
 |_=>false
def abR(b:St)(rs:List VRes):Option Out:=match HH b rs with
 |some (s,a)=>some (.res (.own s a))
 |none=>match HG b rs with
  |some v=>some (.res (.imm v))
  |none=>none
def Xw(a:St)(ids:List Nat):St:=⟨a.env,BP a.objs ids,ids.filter a.ro.contains,a.n,a.gl⟩
def HV:SV->Bool
 |.tup _=>true
 |_=>false
theorem PZ{b:St}{rs:List VRes}{a:SV}(h:HV a=false):Kf b rs a=WR b rs:=by cases a<;>first|rfl|cases h
theorem Tx{b:St}{rs:List VRes}{a:SV}(h:HV a=true):Kf b rs a=Kf b rs (.tup []):=by cases a<;>first|rfl|cases h
theorem aao{e:St}{rs:List VRes}{a b:SV}(h:HV a=HV b):Kf e rs a=Kf e rs b:=by
 cases d:HV b with
 |true=>rw[Tx (h.trans d),Tx d]
 |false=>rw[PZ (h.trans d),PZ d]
def Q0(b:St)(rs:List VRes)(ids:List Nat)(d:SV):Option Out:=match Kf (Xw b ids) rs d with
 |some (a,e)=>if HV d=HV a then some (.mc a (BP b.objs ids) (e++ids.filter b.ro.contains))else none
 |none=>none
def Ns(a:St):List VRes->List Nat
 |[]=>[]
 |.cell t _::r=>(ap a.env t).ids++Ns a r
 |_::r=>Ns a r
def adU(b:St)(rs:List VRes)(a:List (Nat×Ob)):Option Out:=match rs with
 |_::_::_=>match pZ b rs with
  |some l=>Q0 b rs (Fe b.objs 200 (a.map (·.1)++(Ns b rs++yz l)) []) (.tup l)
  |none=>Q0 b rs (Fe b.objs 200 (a.map (·.1)) []) .undef
 |_=>match WR b rs with
  |some (d,_)=>Q0 b rs (Fe b.objs 200 (a.map (·.1)++(Ns b rs++d.ids)) []) d
  |none=>none
theorem HX{a:List (Nat×Ob)}{l:List Nat} : ∀k o,ac (BP a l) k=some o->ac a k=some o/\k∈l:=by
 induction l with
 |nil=>intro k o h;simp[BP,ac]at h
 |cons i r b=>
  intro k o h;unfold BP at h;split at h
  ·next o1 e=>
   simp only[ac]at h;cases d:i==k with
   |true=>
    rw[d]at h;rw[beq_iff_eq]at d;subst d;cases h;exact⟨e,by simp⟩
   |false=>rw[d]at h;exact⟨(b k o h).1,List.mem_cons_of_mem _ (b k o h).2⟩
  ·exact⟨(b k o h).1,List.mem_cons_of_mem _ (b k o h).2⟩
theorem Vb(a:St)(ids:List Nat):cH a (Xw a ids):=
 Mg rfl rfl (fun _=>.inr rfl) (fun k o h=>(HX k o h).1) (fun i o h b=>List.mem_filter.2 ⟨(HX i o h).2,by simpa using b⟩)
section
variable (F:FuncId->Option (VCode×List VRes×Nat)) (T:Job->Option Out)
def Q1(X:Job->Option Out):Job->Option Out
 |.fn f k a=>match T (.fn f k a)with
  |some o=>some o
  |none=>match F k with
   |some (v,rs,n)=>bif Nat.ble a.length n then (match xw X v (WQ f a n)with
     |some (e,g)=>bif Mi e then abR g rs else none
     |none=>none)else none
   |none=>none
 |.mc f k a b ro=>match T (.mc f k a b ro)with
  |some o=>some o
  |none=>match F k with
   |some (v,rs,n)=>bif Nat.ble a.length n&&UN n b then (match xw X v ⟨BL 0 a,b,ro,n,f⟩with
     |some (e,g)=>bif Mi e then adU g rs b else none
     |none=>none)else none
   |none=>none
 |.loop v g=>match xw X v g.norm with
  |some (.normal,d)=>X (.loop v d)
  |some (e,d)=>some (.lp e d)
  |none=>none
def acH:Nat->Job->Option Out
 |0,_=>none
 |n+1,j=>Q1 F T (acH n) j
variable {F T} {P:Program} (hm:P.follows .mixedOrders=true) (hF:∀k v rs n,F k=some (v,rs,n)->FnOk P k v rs n) (hT:∀j o,T j=some o->BO P j o)
include hm hF hT
theorem Xx{X:Job->Option Out}(hX:∀j o,X j=some o->BO P j o):∀j o,Q1 F T X j=some o->BO P j o:=by
 intro j o h;cases j with
 |fn y k a=>
  simp only[Q1]at h;split at h
  ·next q=>cases h;exact hT _ _ q
  ·split at h
   ·next v rs n z=>
    cases f:Nat.ble a.length n with
    |false=>rw[f]at h;cases h
    |true=>
     rw[f]at h;simp only[cond_true]at h;split at h
     ·next e b i=>
      cases m:Mi e with
      |false=>rw[m]at h;cases h
      |true=>
       rw[m]at h;simp only[cond_true,abR]at h;have u:∀r,wn rs r e b->Ea y P k a r:=fun r w=>ae hm (hF _ _ _ _ z) (Nat.le_of_ble_eq_true f) (gM hm hX v i w)
       have g:∀r,wn rs r .normal b->wn rs r e b:=by
        intro r w;cases e<;>first|exact w|(exact absurd m (by simp[Mi]))
       split at h
       ·next s H x=>cases h;exact u _ (g _ x)
       ·split at h
        ·next x=>cases h;exact u _ (g _ x)
        ·cases h
     ·cases h
   ·cases h
 |mc y k a d ro=>
  simp only[Q1]at h;split at h
  ·next q=>cases h;exact hT _ _ q
  ·split at h
   ·next v rs n z=>
    cases f:(Nat.ble a.length n&&UN n d)with
    |false=>rw[f]at h;cases h
    |true=>
     rw[f]at h;simp only[Bool.and_eq_true]at f;simp only[cond_true]at h;split at h
     ·next e b i=>
      cases m:Mi e with
      |false=>rw[m]at h;cases h
      |true=>
       rw[m]at h;simp only[cond_true]at h
       have p:∀ids I,Q0 b rs ids I=some o->BO P (.mc y k a d ro) o:=by
        intro ids I h;unfold Q0 at h;split at h
        ·next res A K=>
         split at h
         ·next q=>
          cases h;have:dc rs ⟨a,d,res,BP b.objs ids,A++ids.filter b.ro.contains,ro⟩ .normal b:=⟨Xw b ids,A,Vb b ids,rfl,(aao q).symm.trans K,rfl⟩
          have w:dc rs ⟨a,d,res,BP b.objs ids,A++ids.filter b.ro.contains,ro⟩ e b:=by
           cases e<;>first|exact this|(exact absurd m (by simp[Mi]))
          exact aN hm (hF _ _ _ _ z) (Nat.le_of_ble_eq_true f.1) f.2 (gM hm hX v i w)
         ·cases h
        ·cases h
       unfold adU at h;split at h
       ·split at h
        ·exact p _ _ h
        ·exact p _ _ h
       ·split at h
        ·exact p _ _ h
        ·cases h
     ·cases h
   ·cases h
 |loop v b=>
  simp only[Q1]at h;split at h
  ·next B i=>
   have C:=hX _ _ h;cases o with
   |res=>exact C.elim
   |mc=>exact C.elim
   |lp e L=>
    obtain⟨n,x⟩:=C;refine⟨n+1,fun Q D=>Ff (Mh b) rfl (Fg hm (gM hm hX v i (x Q D)))⟩
  ·next e B E i=>
   cases h;refine⟨1,fun Q D=>Ff (Mh b) rfl (Fg hm (gM hm hX v i ?_))⟩;cases e with
   |normal=>exact(E rfl).elim
   |_=>exact D
  ·cases h
theorem Ty:∀(n:Nat) (j:Job) (o:Out),acH F T n j=some o->BO P j o
 |0,_,_,h=>by cases h
 |n+1,j,o,h=>Xx hm hF hT (Ty n) j o h
end
theorem HY{P:Program}(hm:P.follows .mixedOrders=true)(b d:List Nat){T:Job->Option Out}(hT:∀j o,T j=some o->BO P j o)(n:Nat){gl:List (Nat×List IV)}{k:FuncId}{a:List IV}{r:Res}
  (h:acH (acF P b d) T n (.fn gl k a)=some (.res r)):Ea gl P k a r:=
 Ty hm (fun _ _ _ _ h=>aan h) hT n _ _ h
end Go.Vs
namespace Go.Vs
def dj(ro:Option Nat):Fence:={Fence.wide with round:=ro }
theorem Xy{ro:Option Nat}{n:Nat}{P:Program}{k:FuncId}{args:Array Value}{w:World}{R:Ending->World->Prop}(h:Calls P k args w R):CallsIn (dj ro) n P k args w R:=by
 have a:CallsIn Fence.wide n P k args w R:=callsIn_wide.2 h;cases ro with
 |none=>exact a
 |some l=>exact CallsIn.inRound l a
theorem adV{ro:Option Nat}{n:Nat}{P:Program}{b:String}{a:Array Value}{w:World}{R:Value->World->Prop}(h:Rows P b a w R):RowsIn (dj ro) n P b a w R:=by
 intro c cs _;obtain⟨v,d,f,g⟩:=h c cs;refine⟨v,d,f,?_⟩;have e:StepsIn (Machine.fenced P Fence.wide) P (lone (Frame.ofRow P b a .normal) (c::cs) w) (lone (c.finish v) cs d):=stepsIn_wide.2 g;cases ro with
 |none=>exact e
 |some l=>exact e
def Op.noDef:Op->Bool
 |.defer _=>false
 |_=>true
def kc(l:List Oper):Bool:=l.all fun o=>Op.noDef o.op
theorem Vc{a:Array Oper}(h:kc a.toList=true){i:Nat}{o:Oper}(b:a[i]?=some o):∀c,o.op≠.defer c:=by
 intro c d
 have hm:o∈a.toList:=by
  rw[<-Array.getElem?_toList]at b;exact List.mem_of_getElem? b
 have:=List.all_eq_true.1 h o hm;rw[d]at this;cases this
section
variable {P:Program} {ro:Option Nat} {Q:Exit->Act->World->Prop}
theorem Vd{o:Oper}{a:Act}{w:World}{n:Nat}{next:Act->World->Prop}(b:∀c,o.op≠.defer c)(h:o.wp P a w next Q):o.wpIn (dj ro) n P a w next Q:=by
 refine⟨fun _ _=>trivial,?_⟩;have d:(dj ro).round=ro:=rfl;rw[d,Oper.semAt_eq _ _ _ b];unfold Oper.wp at h;have f:(dj ro).depth.isSome=true->1<=n:=fun h=>by simp[dj,Fence.wide]at h
 generalize (execOp a.eval o).run P w=r at h;cases r with
 |ok x g=>
  cases x<;>simp only[Oper.upon,Oper.uponIn]at h |- <;>
   first
    |exact h
    |exact⟨f,Xy (h.mono fun e i m=>by cases e<;>exact m)⟩
    |exact⟨f,adV h⟩
 |halt x g=>cases x<;>simp only[Oper.upon,Oper.uponIn]at h |-<;>exact h
theorem Nt{b:Array Oper}{i:Nat}{K m:Act->World->Prop}(p:∀a w,¬Q .outgrown a w)(d:kc b.toList=true)(e:∀a w,K a w->m a w){a:Act}{w:World}(h:wpOp P b Q i K a w):wpOpIn (dj ro) 0 P b Q i m a w:=by
 unfold wpOp at h;unfold wpOpIn;cases f:b[i]? with
 |none=>rw[f]at h;exact e _ _ h
 |some o=>
  rw[f]at h;dsimp only at h |-;split at h
  ·next g=>
   rw[if_pos g];rcases h with h|⟨_,q,w0,h⟩
   ·exact Oper.wpIn_mono e (Vd (Vc d f) h)
   ·exact absurd h (p _ _)
  ·next g=>
   rw[if_neg g];exact⟨fun _ _=>trivial,e _ _ h⟩
theorem Q2{b:Array Oper}(e:∀a w,¬Q .outgrown a w)(d:kc b.toList=true):∀(l:List Nat) {a:Act} {w:World},wpOps P b Q l a w->wpOpsIn (dj ro) 0 P b Q l a w
 |[],_,_,h=>h
 |i::r,a,w,h=>by
  rw[wpOps_cons]at h;rw[wpOpsIn_cons];exact Nt e d (fun a w h=>Q2 e d r h) h
theorem Q3{g:Region.Mode}{e:Array Oper}(m:∀a w,¬Q .outgrown a w)(f:kc e.toList=true):∀(d:Nat) {b:Array Bool} {a:Act} {w:World},wpAny P g e Q d b a w->wpAnyIn (dj ro) 0 P g e Q d b a w
 |0,_,_,_,h=>h
 |n+1,_,_,_,h=>⟨h.1,fun i p=>Nt m f (fun a w h=>Q3 m f n h) (h.2 i p)⟩
end
def fg:Code->Bool
 |.region _ d _=>kc d.toList
 |.seq a b=>fg a&&fg b
 |.cond _ a b=>fg a&&fg b
 |.block _ a=>fg a
 |_=>true
def VCode.flat:VCode->Bool
 |.seq a b=>a.flat&&b.flat
 |.cond _ a b=>a.flat&&b.flat
 |.block _ a=>a.flat
 |.loop _=>false
 |.scope _=>false
 |.cut _=>false
 |_=>true
def TR(P:Program)(c:Code)(Q:Exit->St->Prop)(b:St):Prop:=∀(ro:Option Nat) (w0:World) (S0:ba) (M:Ctx) (a:Act) (w:World),fF w0 S0 M b a w->c.wpIn (dj ro) 0 P (BJ w0 S0 M b.n Q) a w
theorem Tz{w0:World}{S0:ba}{M:Ctx}{N:Nat}{Q:Exit->St->Prop}(a:Act)(w:World):¬BJ w0 S0 M N Q .outgrown a w:=fun h=>h
theorem wm.r{P:Program}(hm:P.follows .mixedOrders=true){c:Code}{Q:Exit->St->Prop}{σ:St}(B:fg c=true)(h:wm P c Q σ):TR P c Q σ:=by
 obtain⟨id,H,g,rfl,h⟩:=h;intro ro w0 S0 M a w C;have:=h w0 S0 M a w C;cases g with
 |false=>exact wpIn_region (Q2 Tz B _ (this.1 rfl))
 |true=>exact wpIn_region_any hm (Q3 Tz B _ (this.2 rfl))
theorem Mj{P:Program}(hm:P.follows .mixedOrders=true):∀(v:VCode) {Q:Exit->St->Prop} {f:St},v.flat=true->pw P v Q f->∀c,comp P c=some v.strip->fg c=true->v.bnd f.n=true->TR P c Q f:=by
 intro v
 induction v with
 |skip=>
  intro Q f b h c s m _ ro w0 S0 M a w g;have e:c=Code.skip:=bc s;subst e;exact wpIn_skip ⟨f,h,rfl,g⟩
 |region Z R U=>
  intro Q f b h c s m u;exact(BK hm s u h).r hm m
 |seq x y z A=>
  intro Q f b h c s m u ro w0 S0 M a w g;obtain⟨p,q,rfl,D,I⟩:=bc s;simp only[VCode.bnd,VCode.flat,fg,Bool.and_eq_true]at u b m;refine wpIn_seq (wpIn_mono (z b.1 h p D m.1 u.1 ro w0 S0 M a w g) (fun e V W E=>?_));cases e
  case normal=>
   obtain⟨B,C,H,K⟩:=E;have:=A b.2 C q I m.2 (by rw[H];exact u.2) ro w0 S0 M V W K;rw[H]at this;exact this
  all_goals exact E
 |cond o x y z A=>
  intro Q f b h c s m u ro w0 S0 M a w g;obtain⟨p,q,r,rfl,Y,D,I⟩:=bc s;simp only[VCode.bnd,VCode.flat,fg,Bool.and_eq_true]at u b m;simp only[pw]at h;split at h
  ·next t L=>
   obtain⟨S,μ,β,N⟩:=id g;have d:=ay N Y;rw[L]at d;exact wpIn_cond_split d (fun e=>z b.1 (h.1 e) q D m.1 u.1 ro w0 S0 M a w g) (fun e=>A b.2 (h.2 e) r I m.2 u.2 ro w0 S0 M a w g)
  ·next L=>
   obtain⟨S,μ,β,N⟩:=id g;have d:=ay N Y;rw[L]at d;obtain⟨t,d⟩:=d;exact wpIn_cond_split d (fun _=>z b.1 h.1 q D m.1 u.1 ro w0 S0 M a w g) (fun _=>A b.2 h.2 r I m.2 u.2 ro w0 S0 M a w g)
  ·exact h.elim
 |block id x ih=>
  intro Q f b h c s m u ro w0 S0 M a w g;obtain⟨p,rfl,D⟩:=bc s;refine wpIn_block (wpIn_mono (ih b h p D m u ro w0 S0 M a w g) (fun e V W E=>?_));cases e
  case exit i=>
   obtain⟨B,C,H,K⟩:=E;dsimp only at C;simp only[Exit.inBlock];split
   ·next O=>rw[if_pos O]at C;exact⟨B,C,H,K⟩
   ·next O=>rw[if_neg O]at C;exact⟨B,C,H,K⟩
  all_goals exact E
 |loop x _=>intro Q f b;cases b
 |exit id=>
  intro Q f b h c s m _ ro w0 S0 M a w g;have e:c=Code.exit id:=bc s;subst e;exact wpIn_exit ⟨f,h,rfl,g⟩
 |scope x _=>intro Q f b;cases b
 |label l=>
  intro Q f b h c s m _ ro w0 S0 M a w g;have e:c=Code.label l:=bc s;subst e;exact wpIn_label ⟨f,h,rfl,g⟩
 |goto l=>
  intro Q f b h c s m _ ro w0 S0 M a w g;have e:c=Code.goto l:=bc s;subst e;exact wpIn_goto ⟨f,h,rfl,g⟩
 |refuse=>intro Q f b h;exact h.elim
 |cut x _=>intro Q f b;cases b
 |ret=>
  intro Q f b h c s m _ ro w0 S0 M a w g;have e:c=Code.ret:=bc s;subst e;exact wpIn_ret ⟨f,h,rfl,g⟩
def Q4(a:St)(e:Nat->Option Nat):Nat->Prop:=fun b=>∃id o,ac a.objs id=some o/\e id=some b
theorem SimG.rebase{w0 w:World}{S0 S:ba}{M:Ctx}{e:St}{a:Act}{g:Nat->Value}{f:Nat->Option Nat}(h:SimG w0 S0 M e a w S g f):SimG w S ⟨Q4 e f,M.keep,M.at',M.df⟩ e a w S g f:=
 {defers:=h.defers,size:=h.size,env:=h.env,objs:=h.objs,inj:=h.inj,own:=fun id o b i m=>.inr ⟨id,o,i,m⟩,unst:=h.unst,stab:=h.stab,ext:=fun _ _ x=>x,back:=fun _ _ x=>.inl x,kept:=Kept.refl _ _,stay:=fun _ _ _=>rfl,hist:=h.hist,far:=h.far,glob:=h.glob }
theorem SimG.unbase{w0 w s:World}{S0 S u:ba}{M:Ctx}{A f:St}{a y:Act}{E g:Nat->Value}{B m:Nat->Option Nat}{H:List (Nat×SV)}{z:Nat->Value}{I:List Deferred}(h:SimG w0 S0 M A a w S E B)(k:SimG w S ⟨Q4 A B,H,z,I⟩ f y s u g m)(K:y.defers=M.df)(L:∀p,p∈M.keep->au s u g f.objs p.2 (M.at' p.1))(N:∀p,p∈M.keep->∀d,d<f.n->p.2.noRef d=true):SimG w0 S0 M f y s u g m:=
 {defers:=K,size:=k.size,env:=k.env,objs:=k.objs,inj:=k.inj
  own:=fun id o b O R=>by
   rcases k.own id o b O R with e|⟨i,x,e,q⟩
   ·exact .inl (Nat.le_trans h.kept.size e)
   ·exact h.own i x b e q
  unst:=k.unst,stab:=k.stab,ext:=fun b o x=>k.ext b o (h.ext b o x)
  back:=fun b o x=>by
   rcases k.back b o x with e|e|⟨i,x,e,q⟩
   ·exact h.back b o e
   ·exact .inr (.inl (Nat.le_trans h.kept.size e))
   ·exact .inr (h.own i x b e q)
  kept:=⟨k.kept.os.trans h.kept.os,k.kept.tape.trans h.kept.tape,k.kept.output.trans h.kept.output,Nat.le_trans h.kept.size k.kept.size,fun i C hm=>by
   refine(k.kept.block i (Nat.lt_of_lt_of_le C h.kept.size) (fun⟨id,x,e,q⟩=>?_)).trans (h.kept.block i C hm);rcases h.own id x i e q with D|D
   ·omega
   ·exact hm D,fun i x U=>k.kept.shape _ _ (h.kept.shape _ _ U)⟩
  stay:=fun b o x=>(k.stay b o (h.ext b o x)).trans (h.stay b o x)
  hist:=L,far:=N,glob:=k.glob }
def Sm(w0 w:World)(M:Ctx)(a:St)(S:ba)(d:Nat->Option Nat)(Z:Nat->Prop):Prop:=∀b,Z b->b<w.heap.size/\w0.heap.size<=b/\¬Q4 a d b/\∀o,¬S b o
def yA(w0:World)(S0:ba)(M:Ctx)(b:St)(a:Act)(Z:Nat->Prop)(w:World):Prop:=∃S f e,SimG w0 S0 M b a w S f e/\Sm w0 w M b S e Z
def lE(Z:Nat->Prop)(w a:World):Nat->Prop:=fun b=>Z b\/(w.heap.size<=b/\b<a.heap.size)
theorem SimG.other{w0 w w':World}{S0 S:ba}{M:Ctx}{u:St}{a:Act}{μ:Nat->Value}{y:Nat->Option Nat}{Z:Nat->Prop}(h:SimG w0 S0 M u a w S μ y)(B:Sm w0 w M u S y Z)(f:Kept Z w w'):SimG w0 S0 M u a w' S μ y/\Sm w0 w' M u S y (lE Z w w'):=by
 have g:bX S w w':=⟨fun b o q=>co (f.block b (h.stab b o q) (fun m=>(B b m).2.2.2 o q)) o,f.shape⟩;refine⟨h.world g (fun _ _ x=>x) (fun id o b C D=>f.block b ((h.objs id o C).live D) (fun m=>(B b m).2.2.1 ⟨id,o,C,D⟩)) (fun _ _ _ _ _ _ x=>x) (fun b o q=>Nat.lt_of_lt_of_le (h.stab b o q) f.size) (fun _ _ x=>.inl x) ?_,?_⟩
 ·refine⟨f.os.trans h.kept.os,f.tape.trans h.kept.tape,f.output.trans h.kept.output,Nat.le_trans h.kept.size f.size,fun i E hm=>?_,fun i x H=>f.shape _ _ (h.kept.shape _ _ H)⟩;refine(f.block i (Nat.lt_of_lt_of_le E h.kept.size) (fun m=>?_)).trans (h.kept.block i E hm);have:=(B i m).2.1;omega
 ·rintro b (m|⟨C,D⟩)
  ·obtain⟨I,K,L,N⟩:=B b m;exact⟨Nat.lt_of_lt_of_le I f.size,K,L,N⟩
  ·refine⟨D,Nat.le_trans h.kept.size C,fun⟨id,o,O,U⟩=>?_,fun o q=>?_⟩
   ·have:=(h.objs id o O).live U;omega
   ·have:=h.stab b o q;omega
theorem yA.other{w0 w w':World}{S0:ba}{M:Ctx}{f:St}{a:Act}{Z:Nat->Prop}(h:yA w0 S0 M f a Z w)(g:Kept Z w w'):yA w0 S0 M f a (lE Z w w') w':=by
 obtain⟨S,μ,m,q,u⟩:=h;obtain⟨x,y⟩:=q.other u g;exact⟨S,μ,m,x,y⟩
theorem yA.step{P:Program}{w0 w:World}{S0:ba}{M:Ctx}{m:St}{a:Act}{Z:Nat->Prop}{c:Code}{Q:Exit->St->Prop}{ro:Option Nat}(hT:TR P c Q m)(h:yA w0 S0 M m a Z w):c.wpIn (dj ro) 0 P (fun e q g=>∃f,Q e f/\yA w0 S0 M f q Z g/\(∀b,Z b->g.heap[b]?=w.heap[b]?)/\bX S0 w g/\w.heap.size<=g.heap.size/\f.n=m.n) a w:=by
 obtain⟨S,K,H,x,y⟩:=h;refine wpIn_mono (hT ro w S _ a w ⟨S,K,H,x.rebase⟩) (fun e q g I=>?_)
 have z:∀f,Q e f->f.n=m.n->fF w S ⟨Q4 m H,M.keep,M.at',M.df⟩ f q g->∃f,Q e f/\yA w0 S0 M f q Z g/\(∀b,Z b->g.heap[b]?=w.heap[b]?)/\bX S0 w g/\w.heap.size<=g.heap.size/\f.n=m.n:=by
  rintro f L N ⟨O,A,B,k⟩;have R:∀b,Z b->g.heap[b]?=w.heap[b]?:=fun b s=>k.kept.block b (y b s).1 (y b s).2.2.1
  refine⟨f,L,⟨O,A,B,x.unbase k k.defers k.hist k.far,fun b s=>?_⟩,R,⟨fun b o C=>k.stay b o (x.ext b o C),k.kept.shape⟩,k.kept.size,N⟩;obtain⟨D,E,u,U⟩:=y b s;refine⟨Nat.lt_of_lt_of_le D k.kept.size,E,fun⟨id,o,V,W⟩=>?_,fun o C=>?_⟩
  ·rcases k.own id o b V W with i|i
   ·omega
   ·exact u i
  ·rcases k.back b o C with i|i|i
   ·exact U o i
   ·omega
   ·exact u i
 cases e<;>first|exact I.elim|(obtain⟨f,D,E,u⟩:=I;exact z f D E u)
end Go.Vs
namespace Go.Vs
theorem Kept.weaken{M e:Nat->Prop}{a b:World}(h:Kept M a b)(hm:∀k,M k->e k):Kept e a b:=⟨h.os,h.tape,h.output,h.size,fun k f g=>h.block k f (fun x=>g (hm k x)),h.shape⟩
theorem Sn{w:World}{l:Nat}{r:Loop}(h:w.heap[l]?=some (.loop r)):w.shape? l=none:=by simp[World.shape?,h]
theorem BU{w:World}{l:Nat}{r:Loop}(o:Go.Obj)(h:w.heap[l]?=some (.loop r))(Z:Nat->Prop)(b:Z l):Kept Z w (w.putObj l o):=
 ⟨rfl,rfl,rfl,by simp,fun k _ d=>World.putObj_heap_other (fun e=>d (e▸b)),fun k x a=>by
  by_cases e:k=l
  ·subst e;rw[Sn h]at a;cases a
  ·rw[dp (World.putObj_heap_other e)];exact a⟩
theorem Q5{w:World}{D:Nat}{b:List Deferred}(h:w.heap[D]?=some (.deferred (some b)))(Z:Nat->Prop)(f:Z D):Kept Z w (w.putObj D (.deferred none)):=
 ⟨rfl,rfl,rfl,by simp,fun k _ g=>World.putObj_heap_other (fun e=>g (e▸f)),fun k x a=>by
  by_cases e:k=D
  ·subst e;simp[World.shape?,h]at a
  ·rw[dp (World.putObj_heap_other e)];exact a⟩
theorem Mk{S:ba}{w:World}{l:Nat}{r a:Loop}(h:w.heap[l]?=some (.loop r)):bX S w (w.putObj l (.loop a)):=by
 refine⟨fun b o _=>?_,(BU (.loop a) h (fun b=>b=l) rfl).shape⟩;by_cases e:b=l
 ·subst e;have d:(w.putObj b (.loop a)).heap[b]?=some (.loop a):=World.putObj_heap_same (Array.getElem?_eq_some_iff.1 h).1;simp[World.cell?,h,d]
 ·exact co (World.putObj_heap_other e) o
theorem bX.trans{S:ba}{a b c:World}(h:bX S a b)(k:bX S b c):bX S a c:=⟨fun x o u=>(k.1 x o u).trans (h.1 x o u),fun x y A=>k.2 _ _ (h.2 _ _ A)⟩
theorem wt(w:World)(o:Go.Obj):Kept (fun _=>False) w (w.alloc o):=
 ⟨rfl,rfl,rfl,by simp,fun k b _=>fc b,fun k x a=>by rw[dp (fc (pK a))];exact a⟩
theorem Kept.keeps{S:ba}{M:Nat->Prop}{a b:World}(h:Kept M a b)(f:∀e o,S e o->e<a.heap.size/\¬M e):bX S a b:=⟨fun e o g=>co (h.block e (f e o g).1 (f e o g).2) o,h.shape⟩
abbrev JZ:=Nat->(Nat->Prop)->World->Prop
def TA(J:JZ):Prop:=∀i Z W a,J i Z W->Kept Z W a->J i (lE Z W a) a
def HZ(S:ba)(Z:Nat->Prop)(W a:World):Prop:=(∀b,Z b->a.heap[b]?=W.heap[b]?)/\bX S W a/\W.heap.size<=a.heap.size
def YZ(P:Program)(l:Nat)(S:ba)(enc:Nat->Value)(n:Nat)(J:JZ):Prop:=
 ∀i Z W,J i Z W->i<n->YieldAt Fence.wide 0 P l #[enc i] W fun e a=>e=.returned (.bool true)/\J (i+1) Z a/\HZ S Z W a
def Xz(P:Program)(k:FuncId)(a:Array Value)(n:Nat)(enc:Nat->Value)(S:ba)(w:World):Prop:=
 ∀(l:Nat) (J:JZ) (Z:Nat->Prop) (W:World),bX S w W->w.heap.size<=W.heap.size->(∀b,Z b->b<W.heap.size)->TA J->YZ P l S enc n J->J 0 Z W->
  Calls P k (#[.func (.yield l) #[] #[]]++a) W fun e d=>(∃v,e=.returned v)/\∃f,J n f d
theorem B5{Z:Nat->Prop}{w d:World}(h:d.heap.size=w.heap.size):lE Z w d=Z:=by
 funext b;refine propext ⟨fun a=>?_,.inl⟩;rcases a with a|a
 ·exact a
 ·omega
theorem I0{P:Program}{ro:Option Nat}{ps:Array Tmp}{assign body:Code}{Q:Exit->Act->World->Prop}{a a':Act}{w:World}{k:FuncId}{vs:Array Value}{n:Nat}{enc:Nat->Value}{S:ba}{p:Nat}{fn:FuncId}{df:Nat}
  (c':ps = #[p]) (hit:Xz P k vs n enc S w) (q':∀b o,S b o->b<w.heap.size)
  (I:JZ) (A:TA I) {N:Nat->Prop} (O:∀b,N b->b<w.heap.size) (h0:I 0 N w)
  (B:Nat->(Nat->Prop)->Act->World->Prop) (hB:∀i Z a W y,B i Z a W->Kept Z W y->B i (lE Z W y) a y)
  (u:∀l i Z W,Z l->I i Z W->i<n->assign.wpIn (dj (some l)) 0 P (fun e R f=>e=.normal/\B i Z R f/\HZ S Z W f) {tmps:=a.tmps.setIfInBounds p (enc i),defers:=[] } W)
  (U:∀l i Z R f,Z l->(∃r,f.heap[l]?=some (.loop r))->B i Z R f->i<n->body.wpIn (dj (some l)) 0 P (fun e _ y=>e=.normal/\I (i+1) Z y/\HZ S Z f y) R f)
  {l D:Nat} {f:World} (r':w.heap.size<=l) (s':w.heap.size<=D) (t':D<f.heap.size) (d':∀b,w.heap.size<=b->b<f.heap.size->b=l\/b=D)
  (E:f.heap[l]?=some (.loop {state:=.ready,pending:=none,fn:=fn,tmps:=a.tmps,params:=ps,assign:=assign,body:=body,defers:=df })) (e':D≠l->f.heap[D]?=some (.deferred (some []))) (x:Kept (fun _=>False) w f)
  (V:∀Z W,I n Z W->(D≠l->Z D/\W.heap[D]?=some (.deferred (some [])))->w.heap.size<=W.heap.size->Q .normal a' W) :
  CallsIn (dj ro) (0-1) P k (#[.func (.yield l) #[] #[]]++vs) f (rangePost (dj ro) 0 P l Q a'):=by
 obtain⟨rec,H⟩:∃rec:LoopState->Option Code->Loop,rec=fun st pe=>{state:=st,pending:=pe,fn:=fn,tmps:=a.tmps,params:=ps,assign:=assign,body:=body,defers:=df }:=⟨_,rfl⟩
 have Y:f.heap[l]?=some (.loop (rec .ready none)):=by rw[H];exact E
 have u':l<f.heap.size:=(Array.getElem?_eq_some_iff.1 E).1
 let g:(Nat->Prop)->Nat->Prop:=fun Z b=>Z b\/b=l\/b=D
 let J:JZ:=fun i Z W=>¬Z l/\¬Z D/\W.heap[l]?=some (.loop (rec .ready none))/\(D≠l->W.heap[D]?=some (.deferred (some [])))/\w.heap.size<=W.heap.size/\I i (g Z) W
 have v':J 0 N f:=by
  refine⟨fun h=>?_,fun h=>?_,Y,e',x.size,?_⟩
  ·have:=O l h;omega
  ·have:=O D h;omega
  ·have:=A 0 N w f h0 (x.weaken fun _ h=>h.elim)
   have e:lE N w f=g N:=by
    funext b;refine propext ⟨fun d=>?_,fun d=>?_⟩
    ·rcases d with d|⟨d,w'⟩
     ·exact .inl d
     ·exact .inr (d' b d w')
    ·rcases d with d|rfl|rfl
     ·exact .inl d
     ·exact .inr ⟨r',u'⟩
     ·exact .inr ⟨s',t'⟩
   rw[<-e];exact this
 have f':TA J:=by
  rintro i Z W y ⟨h1,h2,K,h4,h5,h6⟩ hk;have hl:l<W.heap.size:=(Array.getElem?_eq_some_iff.1 K).1
  have x':D<W.heap.size:=by
   by_cases e:D=l
   ·rw[e];exact hl
   ·exact(Array.getElem?_eq_some_iff.1 (h4 e)).1
  refine⟨?_,?_,(hk.block l hl h1).trans K,fun e=>(hk.block D x' h2).trans (h4 e),Nat.le_trans h5 hk.size,?_⟩
  ·rintro(h|h)
   ·exact h1 h
   ·omega
  ·rintro(h|h)
   ·exact h2 h
   ·omega
  ·have:=A i (g Z) W y h6 (hk.weaken fun _ h=>.inl h)
   have e:lE (g Z) W y=g (lE Z W y):=by
    funext b;refine propext ⟨fun d=>?_,fun d=>?_⟩
    ·rcases d with(d|d)|d
     ·exact .inl (.inl d)
     ·exact .inr d
     ·exact .inl (.inr d)
    ·rcases d with(d|d)|d
     ·exact .inl (.inl d)
     ·exact .inr d
     ·exact .inl (.inr d)
   rw[<-e];exact this
 have y':YZ P l S enc n J:=by
  rintro i Z W ⟨h1,h2,K,h4,h5,h6⟩ hi;have q:g Z l:=.inr (.inl rfl);have hy:=run_yield (P:=P) (args:=#[enc i]) K (by rw[H];simp[c']);refine⟨_,_,_,_,hy,roundIn_of_wpIn (F:=Fence.wide) trivial ?_⟩;rw[H];have z':((ps.zip #[enc i]).foldl (fun tmps (t,a)=>tmps.setIfInBounds t a) a.tmps)=a.tmps.setIfInBounds p (enc i):=by rw[c'];simp
  dsimp only;rw[z'];refine wpIn_mono (u l i (g Z) W q h6 hi) ?_;rintro e R b' ⟨rfl,A',g',h',G'⟩;have m:b'.heap[l]?=some (.loop (rec .ready none)):=(g' l q).trans K;refine⟨_,run_beginRound m (by rw[H]),?_⟩;have i':=hB i (g Z) R b' _ A' (BU (.loop {rec .ready none with state:=.busy }) m (g Z) q);rw[B5 (by simp)]at i';have L:(b'.putObj l (.loop {rec .ready none with state:=.busy })).heap[l]?=some (.loop {rec .ready none with state:=.busy }):=World.putObj_heap_same (Array.getElem?_eq_some_iff.1 m).1;refine wpIn_mono (U l i (g Z) R _ q ⟨_,L⟩ i' hi) ?_;rintro e a2 z ⟨rfl,B',j',C',k'⟩;have C:z.heap[l]?=some (.loop {rec .ready none with state:=.busy }):=(j' l q).trans L;refine⟨_,_,run_endRound none C,rfl,?_⟩;have l':(Go.Obj.loop {{rec .ready none with state:=.busy } with state:=if (none:Option Code).isNone then .ready else .done,pending:=none })=.loop (rec .ready none):=by rw[H];rfl
  rw[l'];have D':(z.putObj l (.loop (rec .ready none))).heap[l]?=some (.loop (rec .ready none)):=World.putObj_heap_same (Array.getElem?_eq_some_iff.1 C).1;have hz:∀b,g Z b->b≠l->(z.putObj l (.loop (rec .ready none))).heap[b]?=W.heap[b]?:=fun b d m'=>(World.putObj_heap_other m').trans ((j' b d).trans ((World.putObj_heap_other m').trans (g' b d)))
  have s:=A (i+1) (g Z) z _ B' (BU (.loop (rec .ready none)) C (g Z) q);rw[B5 (by simp)]at s;refine⟨⟨h1,h2,D',fun e=>(hz D (.inr (.inr rfl)) e).trans (h4 e),?_,s⟩,fun b d=>hz b (.inl d) (fun e=>h1 (e▸d)),h'.trans ((Mk m).trans (C'.trans (Mk C))),?_⟩
  ·simp at k' |-;omega
  ·simp at k' |-;omega
 have hc:=hit l J N f (x.keeps fun b o hS=>⟨q' b o hS,fun h=>h⟩) x.size (fun b d=>Nat.lt_of_lt_of_le (O b d) x.size) f' y' v';refine Xy (hc.mono ?_);rintro e z ⟨⟨v,rfl⟩,Z',h1,h2,K,h4,h5,h6⟩;have he:=run_endLoop (P:=P) K (by rw[H];simp);have s:=A n (g Z') z _ h6 (BU (.loop {rec .ready none with state:=.exhausted }) K (g Z') (.inr (.inl rfl)));rw[B5 (by simp)]at s;have n':w.heap.size<=(z.putObj l (.loop {rec .ready none with state:=.exhausted })).heap.size:=by simpa using h5
 have o':D≠l->(z.putObj l (.loop {rec .ready none with state:=.exhausted })).heap[D]?=some (.deferred (some [])):=fun e=>(World.putObj_heap_other e).trans (h4 e)
 obtain⟨W4,p'⟩:∃W4,z.putObj l (.loop {rec .ready none with state:=.exhausted })=W4:=⟨_,rfl⟩;rw[p']at s n' o';have E':(rec .ready none).pending=none:=by rw[H]
 have F':(Instr.endLoop l).run P z=.ok none W4:=by
  rw[<-p'];have:=he;rw[E']at this;subst H;exact this
 exact⟨none,W4,F',V (g Z') W4 s (fun e=>⟨.inr (.inr rfl),o' e⟩) n'⟩
theorem Ml{P:Program}{ro:Option Nat}{g:Operand}{ps:Array Tmp}{assign body:Code}{Q:Exit->Act->World->Prop}{a:Act}{w:World}{k:FuncId}{z:Array Value}{n:Nat}{enc:Nat->Value}{S:ba}{p:Nat}
  (hg:a.eval g=.func (.func k) #[] z) (hk:∀args w,(callFunc k args).run P w=.ok (.enter k args) w) (V:∀N,ro=some N->∃O,w.heap[N]?=some (.loop O))
  (C:ps = #[p]) (hit:Xz P k z n enc S w) (E:∀b o,S b o->b<w.heap.size)
  (I:JZ) (H:TA I) {Z0:Nat->Prop} (K:∀b,Z0 b->b<w.heap.size) (h0:I 0 Z0 w)
  (B:Nat->(Nat->Prop)->Act->World->Prop) (hB:∀i Z a W A,B i Z a W->Kept Z W A->B i (lE Z W A) a A)
  (q:∀l i Z W,Z l->I i Z W->i<n->assign.wpIn (dj (some l)) 0 P (fun e R f=>e=.normal/\B i Z R f/\HZ S Z W f) {tmps:=a.tmps.setIfInBounds p (enc i),defers:=[] } W)
  (s:∀l i Z R f,Z l->(∃r,f.heap[l]?=some (.loop r))->B i Z R f->i<n->body.wpIn (dj (some l)) 0 P (fun e _ A=>e=.normal/\I (i+1) Z A/\HZ S Z f A) R f)
  (u:∀(D:Nat) Z W,I n Z W->(ro=none->Z D/\W.heap[D]?=some (.deferred (some [])))->w.heap.size<=W.heap.size->Q .normal (match ro with
    |none=>{a with defers:={target:=.collected D,args:=#[] }::a.defers }
    |some _=>a) W) :
  (Code.rangeFunc g ps assign body).wpIn (dj ro) 0 P Q a w:=by
 refine wpIn_rangeFunc ?_;intro fn b';have y:(dj ro).round=ro:=rfl;rw[y];cases ro with
 |none=>
  obtain⟨f,m⟩:∃f,(w.alloc (.deferred (some []))).alloc (.loop {state:=.ready,pending:=none,fn:=fn,tmps:=a.tmps,params:=ps,assign:=assign,body:=body,defers:=w.heap.size })=f:=⟨_,rfl⟩;have Y:f.heap.size=w.heap.size+2:=by rw[<-m];simp
  refine⟨w.heap.size+1,[{target:=.collected w.heap.size,args:=#[] }],f,{target:=.fn (.func k) z,args:=#[.func (.yield (w.heap.size+1)) #[] #[]] },f,k,#[.func (.yield (w.heap.size+1)) #[] #[]]++z,f,?_,?_,fun _ _=>trivial,?_,fun h=>by simp[dj,Fence.wide]at h,?_⟩
  ·rw[<-m];exact run_enterLoop_outer _ _ _ _ _
  ·simp only[resolve,hg];simp[go_sem]
  ·simp[invoke,go_sem,hk]
  ·refine I0 (D:=w.heap.size) (fn:=fn) (df:=w.heap.size) C hit E I H K h0 B hB q s (by omega) (by omega) (by omega) (fun b L U=>by omega) ?_ (fun _=>?_) ?_ (fun Z W L U h3=>u w.heap.size Z W L (fun _=>U (by omega)) h3)
   ·rw[<-m];have:=World.alloc_heap_new (w.alloc (.deferred (some []))) (.loop {state:=.ready,pending:=none,fn:=fn,tmps:=a.tmps,params:=ps,assign:=assign,body:=body,defers:=w.heap.size });rwa[World.size_alloc]at this
   ·rw[<-m];exact(fc (by simp)).trans (World.alloc_heap_new w _)
   ·rw[<-m];exact(wt w _).trans ((wt _ _))
 |some N=>
  obtain⟨O,a'⟩:=V N rfl;obtain⟨f,m⟩:∃f,w.alloc (.loop {state:=.ready,pending:=none,fn:=fn,tmps:=a.tmps,params:=ps,assign:=assign,body:=body,defers:=O.defers })=f:=⟨_,rfl⟩;have Y:f.heap.size=w.heap.size+1:=by rw[<-m];simp
  refine⟨w.heap.size,[],f,{target:=.fn (.func k) z,args:=#[.func (.yield w.heap.size) #[] #[]] },f,k,#[.func (.yield w.heap.size) #[] #[]]++z,f,?_,?_,fun _ _=>trivial,?_,fun h=>by simp[dj,Fence.wide]at h,?_⟩
  ·rw[<-m];exact run_enterLoop_inner a' _ _ _ _ _
  ·simp only[resolve,hg];simp[go_sem]
  ·simp[invoke,go_sem,hk]
  ·refine I0 (D:=w.heap.size) (fn:=fn) (df:=O.defers) C hit E I H K h0 B hB q s (by omega) (by omega) (by omega) (fun b L U=>by omega) ?_ (fun h=>absurd rfl h) ?_ (fun Z W L U h3=>u w.heap.size Z W L (fun h=>by cases h) h3)
   ·rw[<-m];exact World.alloc_heap_new w _
   ·rw[<-m];exact wt w _
end Go.Vs
namespace Go.Vs
def qN(b:St)(a:Act)(W:World)(S:ba):Prop:=b.objs=[]/\SimG W S Ctx.nothing b a W S (fun _=>Go.undef) (fun _=>none)
theorem au.bare{w:World}{S:ba}{f b:Nat->Value}(x:SV)(v:Value)(h:au w S f [] x v):au w S b [] x v:=
 au.same (fun id d a=>by simp[ac]at a) (fun id g s e a=>by simp[ac]at a) (fun id s p a=>by simp[ac]at a) x v h
theorem qN.of{w0 W:World}{S0 S:ba}{M:Ctx}{g:St}{a:Act}{s:Nat->Value}{u:Nat->Option Nat}(h:SimG w0 S0 M g a W S s u)(f:g.objs=[])(w:M.df=[]):qN g a W S:=
 ⟨f,{defers:=h.defers.trans w,size:=h.size,env:=fun k=>by have:=h.env k;rw[f]at this |-;exact au.bare _ _ this,objs:=fun id o d=>by rw[f]at d;simp[ac]at d,inj:=fun id y o A b d=>by rw[f]at d;simp[ac]at d,own:=fun id o b d=>by rw[f]at d;simp[ac]at d,unst:=fun id o b z d=>by rw[f]at d;simp[ac]at d,stab:=h.stab,ext:=fun _ _ x=>x,back:=fun _ _ x=>.inl x,kept:=Kept.refl _ _,stay:=fun _ _ _=>rfl,hist:=fun p i=>by simp[Ctx.nothing]at i,far:=fun p i=>by simp[Ctx.nothing]at i,glob:=h.glob }⟩
theorem qN.keeps{m:St}{a:Act}{W i:World}{S:ba}(h:qN m a W S)(q:bX S W i)(s:W.heap.size<=i.heap.size):qN m a i S:=by
 obtain⟨f,h⟩:=h;exact⟨f,{defers:=h.defers,size:=h.size,env:=fun k=>au.mono q (fun _ _ x=>x) _ _ (h.env k),objs:=fun id o e=>by rw[f]at e;simp[ac]at e,inj:=fun id u o z b e=>by rw[f]at e;simp[ac]at e,own:=fun id o b e=>by rw[f]at e;simp[ac]at e,unst:=fun id o b w e=>by rw[f]at e;simp[ac]at e,stab:=fun b o y=>Nat.lt_of_lt_of_le (h.stab b o y) s,ext:=fun _ _ x=>x,back:=fun _ _ x=>.inl x,kept:=Kept.refl _ _,stay:=fun _ _ _=>rfl,hist:=fun p g=>by simp[Ctx.nothing]at g,far:=fun p g=>by simp[Ctx.nothing]at g,glob:=fun p g=>gX.mono q (fun _ _ x=>x) (h.glob p g) }⟩
theorem qN.put{σ:St}{a:Act}{W:World}{S:ba}(h:qN σ a W S){d:Nat}{x:IV}{v:Value}(f:d<σ.n)(g:pJ W S x v):qN {σ with env:=put σ.env d (.val x) } (a.put (some d) v) W S:=
 ⟨h.1,h.2.put f g⟩
theorem qN.piece{P:Program}{c:Code}{Q:Exit->St->Prop}{σ:St}{a:Act}{W:World}{S:ba}{ro:Option Nat}(hT:TR P c (fun e g=>∃f,Q e f/\f.objs=[]/\cH g f) σ)(h:qN σ a W S) :
  c.wpIn (dj ro) 0 P (fun e y m=>∃f i,Q e f/\f.n=σ.n/\qN f y m i/\(∀b o,S b o->i b o)/\(∀b o,i b o->S b o\/W.heap.size<=b)/\Kept (fun _=>False) W m) a W:=by
 refine wpIn_mono (hT ro W S _ a W ⟨S,_,_,h.2⟩) (fun e y m C=>?_)
 have A:∀g,(∃f,Q e f/\f.objs=[]/\cH g f)->g.n=σ.n->fF W S Ctx.nothing g y m->∃f i,Q e f/\f.n=σ.n/\qN f y m i/\(∀b o,S b o->i b o)/\(∀b o,i b o->S b o\/W.heap.size<=b)/\Kept (fun _=>False) W m:=by
  rintro g ⟨f,E,H,I⟩ K D;have u:=I _ _ _ _ _ D;have B:=abQ D u;obtain⟨i,L,N,k⟩:=u;refine⟨f,i,E,B.trans K,qN.of k H rfl,k.ext,fun b o O=>?_,k.kept⟩;rcases k.back b o O with q|q|q
  ·exact .inl q
  ·exact .inr q
  ·exact q.elim
 cases e<;>first|exact C.elim|(obtain⟨g,R,U,V⟩:=C;exact A g R U V)
theorem BV{d:St}{k id:Nat}{cells:List IV}(y:ap d.env k=.loc id 0)(i:ac d.objs id=some (.box (cells.map .val))) :
  cH d {d with env:=Vs.put d.env k (.val (.ref cells)),ro:=id::d.ro }:=by
 rintro w0 S0 M a w ⟨S,m,z,h⟩;have f:=h.env k;rw[y]at f;obtain⟨b,vs,e,H,A,I,B,C,K,D⟩:=jD h i f;have p:=h.freeze [id];refine⟨_,m,z,{p with env:=fun q=>?_ }⟩;show au w _ m d.objs (ap (Vs.put d.env k (.val (.ref cells))) q) _;rw[lv];split
 ·next e=>
  subst e;refine⟨b,0,B,aO.intro (vs:=vs.toList) (aj.mono (bX.refl _ _) (fun _ _ x=>.inl x) _ _ (ak.toRep D)) (fun j g=>.inr ⟨id,_,by simp,i,A,?_⟩) (fun j v g=>?_)⟩
  ·intro E s u e;cases e
  ·rw[ez C];rw[Array.getElem?_toList]at g;simpa using g
 ·exact p.env q
theorem acI{ro:Option Nat}{P:Program}{l:Nat}{f:FuncId}{b:Array Value}{a d:Code}{w:World}{R:Ending->World->Prop}(h:RoundIn Fence.wide 0 P l f b a d w R):RoundIn (dj ro) (0-1) P l f b a d w R:=by
 cases ro with
 |none=>exact h
 |some e=>exact h
theorem XA{P:Program}{ro:Option Nat}{o:Oper}{c:Call}{f x:Operand}{a:Act}{W:World}{l:Nat}{v:Value}{R:Ending->World->Prop}{next:Act->World->Prop}{Q:Exit->Act->World->Prop}
  (y:o.op=.call c) (p:c.callee=.value f) (d:c.args = #[x]) (A:a.eval f=.func (.yield l) #[] #[]) (B:a.eval x=v)
  (C:YieldAt Fence.wide 0 P l #[v] W R) (D:∀e q,R e q->e=.returned (.bool true)/\next (a.put o.dst (.bool true)) q):o.wpIn (dj ro) 0 P a W next Q:=by
 refine⟨fun _ _=>trivial,?_⟩;have s:(dj ro).round=ro:=rfl;rw[s,Oper.semAt_eq _ _ _ (by intro L z;rw[y]at z;cases z)];obtain⟨E,g,b,i,u,w⟩:=C
 have m:(execOp a.eval o).run P W=.ok (.round l E g b i) W:=by
  simp only[execOp,y,resolve,p,d,A,Deferred.ofValue,Sem.run_bind,Sem.run_pure,Result.andThen_ok,invoke];simpa[B]using u
 rw[m,Oper.uponIn_round];refine⟨fun h=>by simp[dj,Fence.wide]at h,(acI w).mono fun e q H=>?_⟩;obtain⟨rfl,I⟩:=D _ _ H;exact I
theorem TB{P:Program}{ro:Option Nat}{w0:World}{S0:ba}{M:Ctx}{e:Array Oper}{y:List VOper}(V:cw P e e.toList=some (aC y))(A:kc e.toList=true){n:Nat}{Q:Exit->Act->World->Prop}(W:∀a w,¬Q .outgrown a w){K:St->Prop}{f:List Nat}
  (B:∀b m p,K b->b.n=n->fF w0 S0 M b m p->wpOpsIn (dj ro) 0 P e Q f m p):∀(l:List VOper) (k:Nat) (b:St) (a:Act) (w:World),(∀i,i<l.length->l[i]?=y[k+i]?)->b.n=n->fF w0 S0 M b a w->(∀v∈l,∀d,v.dst=some d->d<n)->fY P K l b->wpOpsIn (dj ro) 0 P e Q (List.range' k l.length++f) a w:=by
 obtain⟨g,q⟩:=dg V;rw[dO]at g;intro l
 induction l with
 |nil=>
  intro k b a w _ z h _ C;exact B b a w C z h
 |cons v r Y=>
  intro k b a w O z h R C;have S:y[k]?=some v:=by simpa using (O 0 (by simp)).symm
  have U:k<e.toList.length:=by
   rw[<-g];rcases Nat.lt_or_ge k y.length with D|D
   ·exact D
   ·simp[List.getElem?_eq_none D]at S
  obtain⟨Z,s,E⟩:=q k e.toList[k] (List.getElem?_eq_getElem U);rw[dH,S]at s;obtain rfl:Z=v.strip:=(O_ s).symm;simp only[List.length_cons,List.range'_succ,List.cons_append];rw[wpOpsIn_cons];refine Nt (Q:=Q) W A (fun m p H=>H) (kV (Q:=Q) (o:=e.toList[k]) (by rw[<-Array.getElem?_toList];exact List.getElem?_eq_getElem U) E h (fun d I=>by rw[z];exact R v (by simp) d I) C (fun u m p h1 L H=>?_));exact Y (k+1) u m p (fun i hi=>by have:=O (i+1) (by simp;omega);simpa[Nat.add_assoc,Nat.add_comm 1 i]using this) (L.trans z) H (fun x hx d N=>R x (List.mem_cons_of_mem _ hx) d N) h1
end Go.Vs
namespace Go.Vs
def At(J:JZ)(S0:ba)(Wb:World)(Zb:Nat->Prop)(σ:St)(p:Nat)(a:Act)(W:World):Prop:=
 ∃Z S,J p Z W/\(∀b,Z b->b<W.heap.size)/\qN σ a W S/\(∀b o,S b o->S0 b o\/Z b)/\(∀b,Zb b->Z b/\W.heap[b]?=Wb.heap[b]?)/\bX S0 Wb W/\Wb.heap.size<=W.heap.size
section
variable {P:Program} {J:JZ} {S0:ba} {Wb:World} {Zb:Nat->Prop} {l n:Nat} {enc:Nat->Value}
theorem At.base{σ:St}{p:Nat}{a:Act}{W:World}{Z:Nat->Prop}{S:ba}(f:J p Z W)(g:∀b,Z b->b<W.heap.size)(h:qN σ a W S)(u:∀b o,S b o->S0 b o\/Z b):At J S0 W Z σ p a W:=
 ⟨Z,S,f,g,h,u,fun b y=>⟨y,rfl⟩,bX.refl _ _,Nat.le_refl _⟩
theorem At.move{σ:St}{p w:Nat}{a:Act}{W d:World}(h:At J S0 Wb Zb σ p a W)(B:∀Z,J p Z W->(∀b,Z b->b<W.heap.size)->∃f,J w f d/\(∀b,f b->b<d.heap.size)/\(∀b,Z b->f b/\d.heap[b]?=W.heap[b]?))(y:bX S0 W d)(z:W.heap.size<=d.heap.size)(i:∀k x,W.shape? k=some x->d.shape? k=some x):At J S0 Wb Zb σ w a d:=by
 obtain⟨Z,S,C,D,E,A,m,H,I⟩:=h;obtain⟨f,K,L,g⟩:=B Z C D;refine⟨f,S,K,L,E.keeps ⟨fun b o s=>?_,i⟩ z,fun b o s=>(A b o s).imp _root_.id (fun O=>(g b O).1),fun b u=>⟨(g b (m b u).1).1,(g b (m b u).1).2.trans (m b u).2⟩,H.trans y,Nat.le_trans I z⟩;rcases A b o s with q|q
 ·exact y.1 b o q
 ·exact co (g b q).2 o
theorem At.piece{c:Code}{Q:Exit->St->Prop}{σ:St}{p:Nat}{a:Act}{W:World}{ro:Option Nat}(y:TA J)(A:∀b o,S0 b o->b<W.heap.size)(hT:TR P c (fun e B=>∃f,Q e f/\f.objs=[]/\cH B f) σ)(h:At J S0 Wb Zb σ p a W) :
  c.wpIn (dj ro) 0 P (fun e D i=>∃f,Q e f/\f.n=σ.n/\At J S0 Wb Zb f p D i/\Kept (fun _=>False) W i) a W:=by
 obtain⟨Z,S,I,E,K,L,C,N,O⟩:=h;refine wpIn_mono (K.piece hT) ?_;rintro e D i ⟨f,R,U,V,H,k4,Y,m⟩;have hz:∀b,Z b->i.heap[b]?=W.heap[b]?:=fun b g=>m.block b (E b g) (fun x=>x)
 refine⟨f,U,V,⟨lE Z W i,R,y p Z W i I (m.weaken fun _ x=>x.elim),?_,H,fun b o u=>?_,fun b g=>⟨.inl (C b g).1,(hz b (C b g).1).trans (C b g).2⟩,N.trans (m.keeps fun b o u=>⟨A b o u,fun x=>x⟩),Nat.le_trans O m.size⟩,m⟩
 ·rintro b (g|g)
  ·exact Nat.lt_of_lt_of_le (E b g) m.size
  ·exact g.2
 ·rcases Y b o u with q|q
  ·rcases L b o q with q|q
   ·exact .inl q
   ·exact .inr (.inl q)
  ·exact .inr (.inr ⟨q,H.2.stab b o u⟩)
theorem At.yielded{id:Nat}{C:Array Oper}{m w:List VOper}{y:VOper}{f x:Opd}{d:Nat}{σ A:St}{K:St->Prop}{t:Int}{p:Nat}{a:Act}{W:World}{ro:Option Nat}
  (i':TA J) (D':YZ P l S0 enc n J) (j':∀b o,S0 b o->b<W.heap.size)
  (hc:cw P C C.toList=some (aC (m++y::w))) (k':kc C.toList=true) (l':pW σ.n (m++y::w)=true)
  (E':y.op=.callV f [x]) (m':y.dst=some d) (L:y.guard=none\/∃g,y.guard=some (g,true)/\ap A.env g=.val (.bool true))
  (n':fY P (fun D=>D=A) m σ) (F':A.objs=[]) (hf:val A f=.val (.yld l)) (hx:val A x=.val (.int .i64 t)) (ht:enc p=.int .i64 t) (hp:p<n)
  (Y:fY P (fun D=>∃B,K B/\B.objs=[]/\cH D B) w {A with env:=Vs.put A.env d (.val (.bool true)) }) (h:At J S0 Wb Zb σ p a W) :
  (Code.region id C false).wpIn (dj ro) 0 P (fun e a' W'=>e=.normal/\∃B,K B/\B.n=σ.n/\At J S0 Wb Zb B (p+1) a' W') a W:=by
 obtain⟨N,o'⟩:=dg hc;rw[dO]at N
 have b':C.size=m.length+1+w.length:=by
  have:C.toList.length=C.size:=by simp
  rw[<-this,<-N];simp;omega
 have hQ:∀a' w',¬(fun(e:Exit) (a':Act) (W':World)=>e=Exit.normal/\∃B,K B/\B.n=σ.n/\At J S0 Wb Zb B (p+1) a' W') .outgrown a' w':=by
  rintro a' w' ⟨h,_⟩;cases h
 refine wpIn_region ?_
 have hr:List.range C.size=List.range' 0 m.length++(m.length::(List.range' (m.length+1) w.length++[])):=by
  rw[b',List.range_eq_range',List.append_nil,show m.length+1+w.length=m.length+(1+w.length) by omega,<-List.range'_append_1,Nat.zero_add];congr 1;rw[show 1+w.length=w.length+1 by omega,List.range'_succ]
 rw[hr];have c':=fd l';obtain⟨Z,S,h1,h2,h3,h4,h5,h6,h7⟩:=h;refine TB (w0:=W) (S0:=S) (M:=Ctx.nothing) (n:=σ.n) (K:=fun D=>D=A) hc k' hQ ?_ m 0 σ a W (fun i hi=>by rw[Nat.zero_add,List.getElem?_append_left hi]) rfl ⟨S,_,_,h3.2⟩ (fun v hv=>c' v (by simp[hv])) n';rintro D a1 V G' p' ⟨S1,H',I',E⟩;obtain rfl:A=D:=G'.symm;have J':=qN.of E F' rfl;have H:Kept (fun _=>False) W V:=E.kept;have K':∀b,Z b->V.heap[b]?=W.heap[b]?:=fun b I=>H.block b (h2 b I) (fun x=>x)
 have L':=i' p Z W V h1 (H.weaken fun _ x=>x.elim)
 have q':∀b o,S1 b o->S0 b o\/lE Z W V b:=fun b o O=>by
  rcases E.back b o O with q|q|q
  ·rcases h4 b o q with q|q
   ·exact .inl q
   ·exact .inr (.inl q)
  ·exact .inr (.inr ⟨q,E.stab b o O⟩)
  ·exact q.elim
 have s':m.length<C.toList.length:=by rw[<-N];simp
 obtain⟨v,t',u'⟩:=o' m.length _ (List.getElem?_eq_getElem s')
 obtain rfl:v=y.strip:=by
  rw[dH,List.getElem?_append_right (Nat.le_refl _)]at t';simpa using t'.symm
 have ho:C[m.length]?=some C.toList[m.length]:=by rw[<-Array.getElem?_toList];exact List.getElem?_eq_getElem s'
 obtain⟨oo,M'⟩:∃oo,C.toList[m.length]=oo:=⟨_,rfl⟩;rw[M']at ho u';obtain⟨q1,q2,R⟩:=fo u';have q1:oo.dst=some d:=by rw[<-q1];exact m'
 have q2:mM P oo.op=some (.callV f [x]):=by rw[q2];show some y.op.strip=_;rw[E'];rfl
 have R:gI C oo.guard=some y.guard:=R;obtain⟨c,N',O'⟩:=qX q2 (.inr ⟨_,_,rfl⟩);obtain⟨f',P',R',s⟩:=(lz O').2 _ _ rfl
 obtain⟨x',S',T'⟩:∃x',c.args = #[x']/\al x'=some x:=by
  cases d':c.args.toList with
  |nil=>rw[d']at s;simp[dF]at s
  |cons z r=>
   rw[d']at s;simp only[dF]at s;split at s
   ·next u us g1 g2=>
    simp only[E_,List.cons.injEq]at s;obtain⟨rfl,rfl⟩:=s
    have hr:r=[]:=by
     cases r with
     |nil=>rfl
     |cons z' r'=>
      simp only[dF]at g2;split at g2<;>simp at g2
    subst hr;exact⟨z,by apply Array.toList_inj.1;rw[d'],g1⟩
   ·simp at s
 have U':a1.eval f'=.func (.yield l) #[] #[]:=by
  have:=ay E R';rw[hf]at this;exact this
 have hex:a1.eval x'=enc p:=by
  have:=ay E T';rw[hx]at this;rw[ht];exact this
 have hw:Region.wanted oo (Go.yielded C a1.tmps)=true:=by
  cases e':oo.guard with
  |none=>simp[Region.wanted,e']
  |some pr=>
   obtain⟨j,b⟩:=pr;rw[e']at R;simp only[gI]at R;split at R
   ·next g hg=>
    rcases L with L|⟨g',L,V'⟩
    ·rw[L]at R;simp at R
    ·rw[L]at R;simp only[E_,Prod.mk.injEq]at R;obtain⟨rfl,rfl⟩:=R;have X':Go.yielded C a1.tmps j=some true:=ud hg (w0:=W) (S0:=S) (M:=Ctx.nothing) ⟨S1,H',I',E⟩ (by rw[V'];rfl);simp[Region.wanted,e',X']
   ·simp at R
 rw[wpOpsIn_cons];unfold wpOpIn;rw[ho];dsimp only;rw[if_pos hw];refine XA N' P' S' U' hex (D' p _ V L' hp) ?_;rintro e W2 ⟨rfl,Y',v',h',y'⟩;refine⟨rfl,?_⟩
 have Z':qN A a1 W2 S1:=J'.keeps ⟨fun b o O=>by
  rcases q' b o O with q|q
  ·exact h'.1 b o q
  ·exact co (v' b q) o,h'.2⟩ y'
 have hdn:d<A.n:=by rw[p'];exact c' y (by simp) d m'
 have hE3:=Z'.put (x:=.bool true) (v:=.bool true) hdn rfl;rw[q1]
 refine TB (w0:=W2) (S0:=S1) (M:=Ctx.nothing) (n:=σ.n) hc k' hQ ?_ w (m.length+1) {A with env:=Vs.put A.env d (.val (.bool true)) } _ W2 (fun i hi=>by
  rw[List.getElem?_append_right (by omega),show m.length+1+i-m.length=i+1 by omega];rfl) p' ⟨S1,_,_,hE3.2⟩ (fun v hv=>c' v (by simp[hv])) Y
 rintro σ4 a4 W4 ⟨B,g1,g2,g3⟩ hn4 A';have B':=g3 _ _ _ _ _ A';have hn3:=abQ A' B';obtain⟨S3,μ3,β3,k⟩:=B';have U:Kept (fun _=>False) W2 W4:=k.kept
 have C':∀b,lE Z W V b->b<W2.heap.size:=by
  rintro b (I|I)
  ·have:=h2 b I;have:=H.size;omega
  ·omega
 refine⟨rfl,B,g1,hn3.trans hn4,lE (lE Z W V) W2 W4,S3,i' (p+1) _ W2 W4 Y' (U.weaken fun _ x=>x.elim),?_,qN.of k g2 rfl,fun b o O=>?_,fun b I=>?_,?_,?_⟩
 ·rintro b (I|I)
  ·have:=C' b I;have:=U.size;omega
  ·exact I.2
 ·rcases k.back b o O with q|q|q
  ·rcases q' b o q with q|q
   ·exact .inl q
   ·exact .inr (.inl q)
  ·exact .inr (.inr ⟨q,k.stab b o O⟩)
  ·exact q.elim
 ·have e1:lE Z W V b:=.inl (h5 b I).1;refine⟨.inl e1,?_⟩;rw[U.block b (C' b e1) (fun x=>x),v' b e1,K' b (h5 b I).1];exact(h5 b I).2
 ·exact h6.trans ((H.keeps fun b o O=>⟨j' b o O,fun x=>x⟩).trans (h'.trans (U.keeps fun b o O=>⟨by have:=j' b o O;have:=H.size;omega,fun x=>x⟩)))
 ·have:=H.size;have:=U.size;omega
end
end Go.Vs
namespace Go.Vs
def So(P:Program)(k:FuncId)(a:List IV)(m:Nat)(enc:Nat->Value):Prop:=∀(W:World) (S:ba) (f:Array Value),(∀b o,S b o->b<W.heap.size)->bx W S a f.toList->Xz P k f m enc S W
section
variable {P:Program} {J:JZ} {S0:ba} {Wb:World} {Zb:Nat->Prop}
theorem At.range{ro:Option Nat}{tg pp:Nat}{ps:Array Tmp}{N c':Code}{k:FuncId}{O:List IV}{m:Nat}{C:Nat->Int}{σ:St}{σb:Nat->St}{pi:Nat->Nat}{a:Act}{W:World}
  (o':TA J) (p':∀b o,S0 b o->b<Wb.heap.size) (hg:ap σ.env tg=.val (.fn k O)) (q':tg<σ.n) (r':pp<σ.n) (s':ps = #[pp]) (hk:∀args w,(callFunc k args).run P w=.ok (.enter k args) w)
  (hit:So P k O m fun i=>.int .i64 (C i)) (t':∀l0,ro=some l0->∃r0,W.heap[l0]?=some (.loop r0))
  (R:∀i,i<m->TR P N (fun e u'=>∃b',(e=.normal/\b'=σb i)/\b'.objs=[]/\cH u' b') {σ with env:=Vs.put σ.env pp (.val (.int .i64 (C i))) })
  (d':∀i,i<m->∀(l:Nat) (e':World) (g':Nat->Prop) (a':Act) (E:World),(∃r,E.heap[l]?=some (.loop r))->(∀b o,S0 b o->b<e'.heap.size)->At J S0 e' g' (σb i) (pi i) a' E->c'.wpIn (dj (some l)) 0 P (fun e v' x'=>e=.normal/\∃h',At J S0 e' g' h' (pi (i+1)) v' x') a' E)
  (h:At J S0 Wb Zb σ (pi 0) a W) :
  (Code.rangeFunc (.tmp tg) ps N c').wpIn (dj ro) 0 P (fun e a' E=>e=.normal/\(match ro with
    |some _=>At J S0 Wb Zb σ (pi m) a' E
    |none=>∃Z' D,J (pi m) Z' E/\Z' D/\a'.defers=[{target:=.collected D,args:=#[] }]/\E.heap[D]?=some (.deferred (some [])))) a W:=by
 obtain⟨Ze,S,h1,h2,h3,h4,h5,h6,h7⟩:=h;have U:∀b o,S0 b o->b<W.heap.size:=fun b o u=>Nat.lt_of_lt_of_le (p' b o u) h7
 have H:=h3.2.stab;have i':a.defers=[]:=h3.2.defers;have y':a.tmps.size=σ.n:=h3.2.size
 obtain⟨vs,z',j'⟩:∃vs,a.eval (.tmp tg)=.func (.func k) #[] vs/\bx W S O vs.toList:=by
  have:=h3.2.env tg;rw[hg]at this;obtain⟨vs,e1,e2⟩:=this;refine⟨vs,?_,e2⟩;have k':tg<a.tmps.size:=by rw[y'];exact q'
  simp[Array.getD,k']at e1;simp[Act.eval,k',e1]
 let Jb:Nat->(Nat->Prop)->World->Prop:=fun p g E=>J p g E/\(∀b,g b->b<E.heap.size)/\(∀b,Ze b->g b/\E.heap[b]?=W.heap[b]?)/\bX S0 W E/\W.heap.size<=E.heap.size
 let I:JZ:=fun i y E=>∃g,Jb (pi i) g E/\(∀b,y b->g b)/\∀b,y b->W.heap.size<=b
 have f':∀ {p:Nat} {g y:Nat->Prop} {z L:World},Jb p g z->(∀b,y b->g b)->(∀b,y b->W.heap.size<=b)->Kept y z L->Jb p (lE g z L) L:=by
  rintro p g y z L ⟨j1,j2,j3,j4,j5⟩ A s hk;refine⟨o' p g z L j1 (hk.weaken A),?_,fun b f=>⟨.inl (j3 b f).1,?_⟩,j4.trans (hk.keeps fun b o u=>⟨Nat.lt_of_lt_of_le (U b o u) j5,fun V=>by have:=s b V;have:=U b o u;omega⟩),Nat.le_trans j5 hk.size⟩
  ·rintro b (f|f)
   ·exact Nat.lt_of_lt_of_le (j2 b f) hk.size
   ·exact f.2
  ·exact(hk.block b (j2 b (j3 b f).1) (fun V=>by have:=s b V;have:=h2 b f;omega)).trans (j3 b f).2
 have gz:∀ {g y:Nat->Prop} {z L:World},(∀b,y b->g b)->∀b,lE y z L b->lE g z L b:=fun A b f=>f.imp (A b) _root_.id
 have gw:∀ {y:Nat->Prop} {z L:World},W.heap.size<=z.heap.size->(∀b,y b->W.heap.size<=b)->∀b,lE y z L b->W.heap.size<=b:=fun hs A b f=>f.elim (A b) (fun f=>Nat.le_trans hs f.1)
 have BL:∀ {p:Nat} {g:Nat->Prop} {E:World},Jb p g E->qN σ a E S:=by
  rintro p g E ⟨j1,j2,j3,j4,j5⟩;refine h3.keeps ⟨fun b o u=>?_,j4.2⟩ j5;rcases h4 b o u with q|q
  ·exact j4.1 b o q
  ·exact co (j3 b q).2 o
 let B:Nat->(Nat->Prop)->Act->World->Prop:=fun i y a1 z=>∃g S1,Jb (pi i) g z/\(∀b,y b->g b)/\(∀b,y b->W.heap.size<=b)/\qN (σb i) a1 z S1/\∀b o,S1 b o->(S0 b o\/g b)/\¬y b
 have A':I 0 (fun _=>False) W:=⟨Ze,⟨h1,h2,fun b f=>⟨f,rfl⟩,bX.refl _ _,Nat.le_refl _⟩,fun b f=>f.elim,fun b f=>f.elim⟩;refine Ml (S:=S) (p:=pp) z' hk t' s' (hit W S vs H j') H I ?_ (Z0:=fun _=>False) (fun b f=>f.elim) A' B ?_ ?_ ?_ ?_
 ·rintro i y z L ⟨g,j,A,s⟩ Y;exact⟨_,f' j A s Y,gz A,gw j.2.2.2.2 s⟩
 ·rintro i y a1 z L ⟨g,S1,j,A,s,he,Z⟩ Y;refine⟨_,S1,f' j A s Y,gz A,gw j.2.2.2.2 s,he.keeps (Y.keeps fun b o u=>⟨he.2.stab b o u,(Z b o u).2⟩) Y.size,fun b o u=>⟨(Z b o u).1.imp _root_.id .inl,?_⟩⟩;rintro(f|f)
  ·exact(Z b o u).2 f
  ·have:=he.2.stab b o u;omega
 ·rintro l i y z hl ⟨g,j,A,s⟩ hi;have he:=BL j;have m':=he.put (d:=pp) (x:=.int .i64 (C i)) (v:=.int .i64 (C i)) r' rfl
  have n':a.put (some pp) (.int .i64 (C i)) = {tmps:=a.tmps.setIfInBounds pp (.int .i64 (C i)),defers:=[] }:=by
   simp[Act.put,i']
  rw[n']at m';refine wpIn_mono (m'.piece (R i hi)) ?_;rintro e a1 L ⟨b',S1,⟨rfl,rfl⟩,hn,k1,k2,k3,k4⟩;have B':Kept y z L:=k4.weaken fun _ x=>x.elim
  refine⟨rfl,⟨_,S1,f' j A s B',fun b f=>.inl (A b f),s,k1,fun b o u=>?_⟩,fun b f=>k4.block b (j.2.1 b (A b f)) (fun x=>x),k4.keeps fun b o u=>⟨Nat.lt_of_lt_of_le (H b o u) j.2.2.2.2,fun x=>x⟩,k4.size⟩;rcases k3 b o u with q|q
  ·refine⟨(h4 b o q).imp _root_.id (fun V=>.inl (j.2.2.1 b V).1),fun f=>?_⟩;have:=s b f;have:=H b o q;omega
  ·refine⟨.inr (.inr ⟨q,k1.2.stab b o u⟩),fun f=>?_⟩;have:=j.2.1 b (A b f);omega
 ·rintro l i y a1 z hl hr ⟨g,S1,j,A,s,he,Z⟩ hi;have C':At J S0 z g (σb i) (pi i) a1 z:=At.base j.1 j.2.1 he (fun b o u=>(Z b o u).1);refine wpIn_mono (d' i hi l z g a1 z hr (fun b o u=>Nat.lt_of_lt_of_le (U b o u) j.2.2.2.2) C') ?_;rintro e a2 L ⟨rfl,h',Z',S',g1,g2,g3,g4,g5,g6,g7⟩;refine⟨rfl,⟨Z',⟨g1,g2,fun b f=>⟨(g5 b (j.2.2.1 b f).1).1,(g5 b (j.2.2.1 b f).1).2.trans (j.2.2.1 b f).2⟩,j.2.2.2.1.trans g6,Nat.le_trans j.2.2.2.2 g7⟩,fun b f=>(g5 b (A b f)).1,s⟩,fun b f=>(g5 b (A b f)).2,⟨fun b o u=>?_,g6.2⟩,g7⟩;rcases h4 b o u with q|q
  ·exact g6.1 b o q
  ·exact co (g5 b (j.2.2.1 b q).1).2 o
 ·rintro D y E ⟨g,j,A,s⟩ hD hs;refine⟨rfl,?_⟩;cases ro with
  |none=>exact⟨g,D,j.1,A D (hD rfl).1,by rw[i'],(hD rfl).2⟩
  |some l0=>
   have he:=BL j;exact⟨g,S,j.1,j.2.1,he,fun b o u=>(h4 b o u).imp _root_.id (fun q=>(j.2.2.1 b q).1),fun b f=>⟨(j.2.2.1 b (h5 b f).1).1,(j.2.2.1 b (h5 b f).1).2.trans (h5 b f).2⟩,h6.trans j.2.2.2.1,Nat.le_trans h7 j.2.2.2.2⟩
end
end Go.Vs
namespace Go.Vs
def VOp.fair:VOp->Bool
 |.bad=>false
 |_=>true
def BW:List VOper->Bool
 |[]=>true
 |o::r=>VOp.fair o.op&&BW r
def VCode.fair:VCode->Bool
 |.region d _ _=>BW d
 |.seq a b=>a.fair&&b.fair
 |.cond _ a b=>a.fair&&b.fair
 |.block _ a=>a.fair
 |_=>true
theorem Fh:∀ {l:List VOper},BW l=true->∀v∈l,VOp.fair v.op=true
 |[],_,v,a=>by simp at a
 |o::r,h,v,a=>by
  simp only[BW,Bool.and_eq_true]at h;rcases List.mem_cons.1 a with rfl|a
  ·exact h.1
  ·exact Fh h.2 v a
theorem rb{P:Program}{d:Array Oper}{u:List VOper}(h:cw P d d.toList=some u)(x:BW u=true):kc d.toList=true:=by
 obtain⟨w,a⟩:=dg h;unfold kc;rw[List.all_eq_true];intro o y;obtain⟨i,z⟩:=List.getElem?_of_mem y;obtain⟨v,f,g⟩:=a i o z;obtain⟨_,m,_⟩:=fo g;have b:=Fh x v (List.mem_of_getElem? f);cases s:o.op with
 |defer c=>
  exfalso;rw[s]at m
  have:v.op=.bad:=by
   have e:mM P (.defer c)=some .bad:=rfl;rw[e]at m;exact(O_ m).symm
  rw[this]at b;cases b
 |_=>rfl
theorem Q6{P:Program} : ∀(v:VCode) {c:Code},comp P c=some v->v.fair=true->fg c=true:=by
 intro v
 induction v with
 |region z q i=>
  intro c h d;have A:i=[]:=bc h;subst A;obtain⟨id,D,s,rfl,B,_⟩:=ek h;exact rb B d
 |seq x y f g=>
  intro c h d;obtain⟨a,b,rfl,m,p⟩:=bc h;simp only[VCode.fair,Bool.and_eq_true]at d;simp only[fg,Bool.and_eq_true];exact⟨f m d.1,g p d.2⟩
 |cond u x y f g=>
  intro c h d;obtain⟨o,a,b,rfl,_,m,p⟩:=bc h;simp only[VCode.fair,Bool.and_eq_true]at d;simp only[fg,Bool.and_eq_true];exact⟨f m d.1,g p d.2⟩
 |block id x C=>
  intro c h d;obtain⟨a,rfl,m⟩:=bc h;show fg a=true;exact C m d
 |loop x _=>intro c h d;obtain⟨a,rfl,_⟩:=bc h;rfl
 |scope x _=>intro c h d;obtain⟨a,rfl,_⟩:=bc h;rfl
 |skip=>intro c h d;have e:c=Code.skip:=bc h;subst e;rfl
 |exit id=>intro c h d;have e:c=Code.exit id:=bc h;subst e;rfl
 |label l=>intro c h d;have e:c=Code.label l:=bc h;subst e;rfl
 |goto l=>intro c h d;have e:c=Code.goto l:=bc h;subst e;rfl
 |ret=>intro c h d;have e:c=Code.ret:=bc h;subst e;rfl
 |refuse=>intro c h d;obtain⟨w,rfl⟩:=bc h;rfl
 |cut x _=>intro c h d;exact(bc h).elim
section
variable {P:Program} {c:Code}
theorem Ej{x y:VCode}(h:comp P c=some (VCode.seq x y).strip):∃a b,c=.seq a b/\comp P a=some x.strip/\comp P b=some y.strip:=bc h
theorem Nv{id:Nat}{x:VCode}(h:comp P c=some (VCode.block id x).strip):∃a,c=.block id a/\comp P a=some x.strip:=bc h
theorem abS{x:VCode}(h:comp P c=some (VCode.loop x).strip):∃a,c=.loop a/\comp P a=some x.strip:=bc h
theorem acJ{ops:List VOper}{a:List Nat}(h:comp P c=some (VCode.region ops .text a).strip):∃id b,c=.region id b false/\cw P b b.toList=some (aC ops):=by
 obtain⟨id,b,d,rfl,f,hm⟩:=ek (ops:=aC ops) (mode:=.text) h;rcases hm with⟨rfl,_⟩|⟨_,_,_,_,⟨h,_⟩|h⟩
 ·exact⟨id,b,rfl,f⟩
 ·cases h
 ·cases h
end
def kd(P:Program)(c:Code)(f:St)(e:Exit)(b:St):Prop:=TR P c (fun g d=>∃a,(g=e/\a=b)/\a.objs=[]/\cH d a) f
theorem dl{P:Program}(hm:P.follows .mixedOrders=true)(v:VCode){c:Code}{b σ1:St}{e:Exit}(d:comp P c=some v.strip)(h:pw P v (fun f a=>f=e/\cH a σ1) b)(i:v.strip.fair=true:=by rfl)(m:v.bnd b.n=true:=by rfl)(s:v.flat=true:=by rfl)(u:σ1.objs=[]:=by rfl):kd P c b e σ1:=
 Mj hm v s (Ts v (fun f a g=>⟨σ1,⟨g.1,rfl⟩,u,g.2⟩) h) c d (Q6 _ d i) m
section
variable {P:Program} {J:JZ} {S0:ba} {Wb:World} {Zb:Nat->Prop} {l n:Nat} {enc:Nat->Value}
theorem At.does{c:Code}{i σ1:St}{e:Exit}{p:Nat}{a:Act}{W:World}{ro:Option Nat}(f:TA J)(g:∀b o,S0 b o->b<Wb.heap.size)(x:kd P c i e σ1)(h:At J S0 Wb Zb i p a W):c.wpIn (dj ro) 0 P (fun s u w=>s=e/\At J S0 Wb Zb σ1 p u w) a W:=by
 obtain⟨_,_,_,_,_,_,_,_,y⟩:=id h;refine wpIn_mono (At.piece f (fun b o z=>Nat.lt_of_lt_of_le (g b o z) y) x h) ?_;rintro s u w ⟨σ2,⟨rfl,rfl⟩,_,A,_⟩;exact⟨rfl,A⟩
theorem At.doesK{c:Code}{q d:St}{e:Exit}{p:Nat}{a:Act}{W:World}{ro:Option Nat}(f:TA J)(g:∀b o,S0 b o->b<Wb.heap.size)(w:kd P c q e d)(h:At J S0 Wb Zb q p a W):c.wpIn (dj ro) 0 P (fun s u i=>s=e/\At J S0 Wb Zb d p u i/\Kept (fun _=>False) W i) a W:=by
 obtain⟨_,_,_,_,_,_,_,_,x⟩:=id h;refine wpIn_mono (At.piece f (fun b o y=>Nat.lt_of_lt_of_le (g b o y) x) w h) ?_;rintro s u i ⟨z,⟨rfl,rfl⟩,_,A,B⟩;exact⟨rfl,A,B⟩
theorem At.le{σ:St}{p:Nat}{a:Act}{W:World}(h:At J S0 Wb Zb σ p a W):Wb.heap.size<=W.heap.size:=by
 obtain⟨_,_,_,_,_,_,_,_,b⟩:=h;exact b
structure YReg(P:Program)(l:Nat)(os:Array Oper)(t:Int)(σ σ3:St):Prop where
 ok:∃(pre post:List VOper) (y:VOper) (f x:Opd) (d:Nat) (σ1:St),cw P os os.toList=some (aC (pre++y::post))/\kc os.toList=true/\pW σ.n (pre++y::post)=true/\y.op=.callV f [x]/\y.dst=some d/\
  (y.guard=none\/∃g,y.guard=some (g,true)/\ap σ1.env g=.val (.bool true))/\fY P (fun σ'=>σ'=σ1) pre σ/\σ1.objs=[]/\val σ1 f=.val (.yld l)/\val σ1 x=.val (.int .i64 t)/\fY P (fun σ'=>cH σ' σ3) post {σ1 with env:=Vs.put σ1.env d (.val (.bool true)) }/\σ3.objs=[]
theorem At.yreg{id:Nat}{D:Array Oper}{t:Int}{σ i:St}{p:Nat}{a:Act}{W:World}{ro:Option Nat}(u:TA J)(w:YZ P l S0 enc n J)(z:∀b o,S0 b o->b<Wb.heap.size)(L:YReg P l D t σ i)(N:enc p=.int .i64 t)(O:p<n)(h:At J S0 Wb Zb σ p a W) :
  (Code.region id D false).wpIn (dj ro) 0 P (fun e E H=>e=.normal/\At J S0 Wb Zb i (p+1) E H) a W:=by
 obtain⟨R,I,y,f,x,d,S,U,V,Y,Z,h5,h6,h7,h8,h9,A,B,C⟩:=L.ok
 have rm:∀(l:List VOper) {σ:St} {K s:St->Prop},(∀σ,K σ->s σ)->fY P K l σ->fY P s l σ:=fun l {σ K s} hk hh=>by
  have:=Ts (P:=P) (.region l .text []) (Q:=fun _ g=>K g) (Q':=fun _ g=>s g) (σ:=σ) (fun e g=>hk g)
  have e0:∀(g:St),g.drop []=g:=fun g=>by
   have:∀m:List (Nat×SV),jh [] m=m:=fun m=>by
    induction m with
    |nil=>rfl
    |cons q r ih=>obtain⟨k,v⟩:=q;simp only[jh,uf,cond_false,ih]
   simp[St.drop,this]
  simp only[pw,e0]at this;exact this hh
 refine wpIn_mono (At.yielded (K:=fun g=>g=i) u w (fun b o hS=>Nat.lt_of_lt_of_le (z b o hS) h.le) U V Y Z h5 h6 h7 h8 h9 A N O (rm _ (fun g hw=>⟨i,rfl,C,hw⟩) B) h) ?_;rintro e E H ⟨rfl,_,rfl,_,k⟩;exact⟨rfl,k⟩
theorem At.loop{w u y z A:Code}{R id ex:Nat}{B:Array Oper}{N q:Nat}{elem:Nat->Int}{σL σ1 σ2 σ3:Nat->St}{a:Act}{W:World}{ro:Option Nat}
  (f:TA J) (C:YZ P l S0 enc n J) (g:∀b o,S0 b o->b<Wb.heap.size) (hn:q+N<=n) (s:∀i,i<N->enc (q+i)=.int .i64 (elem i))
  (U:∀i,i<=N->kd P w (σL i) .normal (σ1 i)) (V:∀i,i<N->kd P u (σ1 i) .normal (σ1 i)) (E:kd P u (σ1 N) (.exit ex) (σ1 N)) (Y:∀i,i<N->kd P y (σ1 i) .normal (σ2 i)) (Z:∀i,i<N->YReg P l B (elem i) (σ2 i) (σ3 i)) (h5:∀i,i<N->kd P z (σ3 i) .normal (σ3 i)) (h6:∀i,i<N->kd P A (σ3 i) .normal (σL (i+1)))
  (h:At J S0 Wb Zb (σL 0) q a W) :
  (Code.loop (.seq w (.seq u (.seq (.block R (.seq y (.seq (.region id B false) z))) A)))).wpIn (dj ro) 0 P (fun e H I=>e=.exit ex/\At J S0 Wb Zb (σ1 N) (q+N) H I) a W:=by
 refine wpIn_loop_rounds (N+1) ?_
 have K:∀r i,i+r=N->∀a W,At J S0 Wb Zb (σL i) (q+i) a W->Code.roundsIn (dj ro) 0 P (.seq w (.seq u (.seq (.block R (.seq y (.seq (.region id B false) z))) A))) (fun e H I=>e=.exit ex/\At J S0 Wb Zb (σ1 N) (q+N) H I) (r+1) a W:=by
  intro r
  induction r with
  |zero=>
   intro i hi a W h;obtain rfl:i=N:=by omega
   rw[roundsIn_succ];refine wpIn_seq (wpIn_mono (h.does f g (U i (by omega))) ?_);rintro e a1 W1 ⟨rfl,L⟩;refine wpIn_seq (wpIn_mono (L.does f g E) ?_);rintro e a2 W2 ⟨rfl,O⟩;exact⟨rfl,O⟩
  |succ r ih=>
   intro i hi a W h;rw[roundsIn_succ];refine wpIn_seq (wpIn_mono (h.does f g (U i (by omega))) ?_);rintro e a1 W1 ⟨rfl,L⟩;refine wpIn_seq (wpIn_mono (L.does f g (V i (by omega))) ?_);rintro e a2 W2 ⟨rfl,O⟩;refine wpIn_seq (wpIn_block (wpIn_seq (wpIn_mono (O.does f g (Y i (by omega))) ?_)));rintro e a3 W3 ⟨rfl,k3⟩;refine wpIn_seq (wpIn_mono (k3.yreg f C g (Z i (by omega)) (s i (by omega)) (by omega)) ?_);rintro e a4 W4 ⟨rfl,k4⟩;refine wpIn_mono (k4.does f g (h5 i (by omega))) ?_;rintro e a5 W5 ⟨rfl,k5⟩;refine wpIn_mono (k5.does f g (h6 i (by omega))) ?_;rintro e a6 W6 ⟨rfl,k6⟩;exact ih (i+1) (by omega) a6 W6 k6
 exact K N 0 (by omega) a W h
end
end Go.Vs
namespace Go.Vs
def wu(P:Program)(c:Code)(d:St)(e:Exit)(a:St):Prop:=TR P c (fun f b=>f=e/\cH b a) d
theorem nN{P:Program}(hm:P.follows .mixedOrders=true)(v:VCode){c:Code}{b a:St}{e:Exit}(f:comp P c=some v.strip)(h:pw P v (fun g d=>g=e/\cH d a) b)(i:v.strip.fair=true:=by rfl)(m:v.bnd b.n=true:=by rfl)(p:v.flat=true:=by rfl):wu P c b e a:=
 Mj hm v p h c f (Q6 _ f i) m
theorem yA.does{P:Program}{w0 w:World}{S0:ba}{M:Ctx}{u σ1:St}{a:Act}{Z:Nat->Prop}{c:Code}{e:Exit}{ro:Option Nat}(hT:wu P c u e σ1)(h:yA w0 S0 M u a Z w):c.wpIn (dj ro) 0 P (fun s x g=>s=e/\yA w0 S0 M σ1 x Z g/\HZ S0 Z w g) a w:=by
 obtain⟨S,R,L,A,B⟩:=h;refine wpIn_mono (hT ro w S _ a w ⟨S,R,L,A.rebase⟩) (fun s x g O=>?_)
 have C:∀f,(s=e/\cH f σ1)->f.n=u.n->fF w S ⟨Q4 u L,M.keep,M.at',M.df⟩ f x g->s=e/\yA w0 S0 M σ1 x Z g/\HZ S0 Z w g:=by
  rintro f ⟨rfl,U⟩ hn V;obtain⟨W,D,E,k⟩:=U _ _ _ _ _ V;have Y:∀b,Z b->g.heap[b]?=w.heap[b]?:=fun b y=>k.kept.block b (B b y).1 (B b y).2.2.1
  refine⟨rfl,⟨W,D,E,A.unbase k k.defers k.hist k.far,fun b y=>?_⟩,Y,⟨fun b o H=>k.stay b o (A.ext b o H),k.kept.shape⟩,k.kept.size⟩;obtain⟨I,K,z,q4⟩:=B b y;refine⟨Nat.lt_of_lt_of_le I k.kept.size,K,fun⟨id,o,h3,h4⟩=>?_,fun o H=>?_⟩
  ·rcases k.own id o b h3 h4 with i|i
   ·omega
   ·exact z i
  ·rcases k.back b o H with i|i|i
   ·exact q4 o i
   ·omega
   ·exact z i
 cases s<;>first|exact O.elim|(obtain⟨f,I,K,z⟩:=O;exact C f I K z)
def wv(a:Nat)(b:List (List IV)):List (Nat×Ob):=[(1000,.box [.own 1001 a]),(1001,.arr a 1 b)]
theorem SimG.outBox{w0 w:World}{S0 S:ba}{M:Ctx}{z:St}{a:Act}{μ:Nat->Value}{L:Nat->Option Nat}{d:Nat}{env':List (Nat×SV)}(h:SimG w0 S0 M z a w S μ L)(C:ac z.objs d=some (.box [.nils]))(hd:ap z.env d=.loc d 0)(N:z.ro=[])(hM:M.keep=[])(he:∀k,ap env' k=.undef\/∃v,ap env' k=.val v/\ap z.env k=.val v) :
  ∃u f,SimG w0 S0 M ⟨Vs.put env' d (.loc 1000 0),wv 0 [],[],z.n,z.gl⟩ a w S u f/\∀b,Q4 ⟨Vs.put env' d (.loc 1000 0),wv 0 [],[],z.n,z.gl⟩ f b->Q4 z L b:=by
 obtain⟨b,vs,e,fr,hb,D,hh,hf,O⟩:=h.objs d _ C;obtain⟨v,us,R,U,⟨x,hx⟩,V⟩:=O;have Ef:=h.env d;rw[hd]at Ef;obtain⟨W,A,hv⟩:=Ef _ C;obtain rfl:W=b:=by rw[A]at D;simpa using D
 let u:Nat->Value:=fun i=>if i=1000 then μ d else .slice x 0 0
 let f:Nat->Option Nat:=fun i=>if i=1000 then L d else none
 have y:∀id o,ac (wv 0 []) id=some o->(id=1000/\o=.box [.own 1001 0])\/(id=1001/\o=.arr 0 1 []):=by
  intro id o m;unfold wv at m;simp only[ac]at m;cases I:(1000==id)with
  |true=>rw[I]at m;simp at m;simp at I;exact .inl ⟨I.symm,m.symm⟩
  |false=>
   rw[I]at m;cases K:(1001==id)with
   |true=>rw[K]at m;simp at m;simp at K;exact .inr ⟨K.symm,m.symm⟩
   |false=>rw[K]at m;simp at m
 refine⟨u,f,{defers:=h.defers,size:=h.size,env:=fun k=>?_,objs:=fun id o m=>?_,inj:=fun id Y o o' E m B g g'=>?_,own:=fun id o E m g=>?_,unst:=fun id o E Z m g hS=>?_,stab:=h.stab,ext:=h.ext,back:=h.back,kept:=h.kept,stay:=h.stay,hist:=fun p H=>by (rw[hM]at H;simp at H),far:=fun p H=>by (rw[hM]at H;simp at H),glob:=h.glob },?_⟩
 ·show au w S u (wv 0 []) (ap (Vs.put env' d (.loc 1000 0)) k) _;rw[lv];split
  ·next e1=>
   subst e1;intro a' m;exact⟨W,by simp[u,A],hv⟩
  ·rcases he k with q|⟨iv,q1,q2⟩
   ·rw[q];trivial
   ·rw[q1];have:=h.env k;rw[q2]at this;exact this
 ·rcases y id o m with⟨rfl,rfl⟩|⟨rfl,rfl⟩
  ·refine⟨W,vs,e,fr,by simp[f,hb],by simp[u,A],hh,hf,v,us,R,U,?_,V⟩;intro cv s c' B;rcases y 1001 _ B with⟨q,_⟩|⟨_,q⟩
   ·simp at q
   ·simp only[Ob.arr.injEq]at q;obtain⟨rfl,rfl,rfl⟩:=q;exact⟨Nat.le_refl _,fun _=>by simp[u,hx]⟩
  ·exact .inl ⟨rfl,by simp[f],x,by simp[u]⟩
 ·rcases y id o m with⟨rfl,_⟩|⟨rfl,_⟩
  ·rcases y Y o' B with⟨rfl,_⟩|⟨rfl,_⟩
   ·rfl
   ·simp[f]at g'
  ·simp[f]at g
 ·rcases y id o m with⟨rfl,_⟩|⟨rfl,_⟩
  ·exact h.own d _ E C (by simpa[f]using g)
  ·simp[f]at g
 ·rcases y id o m with⟨rfl,_⟩|⟨rfl,_⟩
  ·have:=h.unst d _ E Z C (by simpa[f]using g) hS;rw[N]at this;exact absurd this.1 (by simp)
  ·simp[f]at g
 ·rintro E ⟨id,o,m,g⟩;rcases y id o m with⟨rfl,_⟩|⟨rfl,_⟩
  ·exact⟨d,_,C,by simpa[f]using g⟩
  ·simp[f]at g
theorem SimG.back'{w0 w:World}{S0 S:ba}{M:Ctx}{objs:List (Nat×Ob)}{ro:List Nat}{n:Nat}{g:List (Nat×List IV)}{a e:Act}{f:Nat->Value}{i:Nat->Option Nat}{d:Nat}(h:SimG w0 S0 M ⟨[],objs,ro,n,g⟩ a w S f i)(m:(0,SV.loc 1000 0)∈M.keep)(q:M.at' 0=e.tmps.getD d Go.undef)(s:e.tmps.size=n)(u:e.defers=M.df):SimG w0 S0 M ⟨[(d,.loc 1000 0)],objs,ro,n,g⟩ e w S f i:=
 {h with
  defers:=u
  size:=s
  env:=fun k=>by
   show au w S f objs (ap [(d,.loc 1000 0)] k) _;simp only[ap,ac];cases b:d==k with
   |true=>
    rw[beq_iff_eq]at b;subst b;have:=h.hist _ m;rw[q]at this;exact this
   |false=>trivial }
end Go.Vs
namespace Go.Vs
section
variable {P:Program} {w0:World} {S0:ba} {M:Ctx}
theorem TC{b:Array Oper}{a:Array Bool}{m j:Nat}(d:a.size=b.size)(e:j<b.size)(h:m≠j->a.getD j false=true):(a.setIfInBounds m true).getD j false=true:=by
 by_cases hm:m=j
 ·subst hm;simp[Array.getD,d,e]
 ·rw[getD_set_ne false hm];exact h hm
theorem Mm{a:Array Bool}{n m b:Nat}(d:a.size=n)(hm:m<n)(e:a.getD m false=false)(h:vM (a.getD · false) n<=b+1):vM ((a.setIfInBounds m true).getD · false) n<=b:=by
 have:=(Hx (f:=(a.getD · false)) (g:=((a.setIfInBounds m true).getD · false)) e (by simp[Array.getD,d,hm]) (fun j i=>getD_set_ne false i) n).1 hm;omega
theorem aap{d:Array Oper}{b:Array Bool}{Q:Exit->Act->World->Prop}{a:Act}{w:World}{m:Nat}(p:UpE d)(g:b.size=d.size)(hm:m<d.size)(A:b.getD m false=false)(h:∀j,j<d.size->m≠j->b.getD j false=true){e:Nat}(C:vM (b.getD · false) d.size<=e)(D:∀N:Act->World->Prop,(∀q s,Q .normal q s->N q s)->wpOp P d Q m N a w):wpAny P .any d Q e b a w:=by
 cases e with
 |zero=>
  have:=Ed (Nat.le_zero.1 C) m hm;simp only[A]at this;cases this
 |succ f=>
  refine⟨fun E=>?_,fun i H=>?_⟩
  ·have:=LY p g E m hm;rw[A]at this;cases this
  ·obtain⟨I,K,u,_⟩:=mem_ready.1 H;have x:=(Array.getElem?_eq_some_iff.1 u).1
   obtain rfl:m=i:=Classical.byContradiction fun y=>by
    have:=h i x y;rw[B1 I]at this;cases this
   exact D _ fun q s z=>Hy (fun j B=>TC g B (h j B)) z f
theorem acK{b:Array Oper}{a:Array Bool}{m:Nat}(d:∀j o,b[j]?=some o->a.getD j false=true->∀e∈o.after.toList,Region.binds .any e=true->a.getD e.on false=true)(p:∀o,b[m]?=some o->∀e∈o.after.toList,Region.binds .any e=true->a.getD e.on false=true):∀j o,b[j]?=some o->(a.setIfInBounds m true).getD j false=true->∀e∈o.after.toList,Region.binds .any e=true->(a.setIfInBounds m true).getD e.on false=true:=by
 intro j o f g e h i;by_cases hm:m=j
 ·subst hm;exact getD_set_true (p o f e h i)
 ·rw[getD_set_ne false hm]at g;exact getD_set_true (d j o f g e h i)
theorem Nw{b:Array Oper}{e:List VOper}{last tl:VOper}(B:cw P b b.toList=some (e++[last,tl])){dX makes:List (Nat×Nat)}(g:gF b (e++[last,tl]).toArray=some (dX,makes))(z:yN (e++[last])=true)(O:yN [last,tl]=true){E:St}{a:Act}{w:World}(h:fF w0 S0 M E a w)
  (hd:∀v∈e,∀d,v.dst=some d->d<E.n) {R:List Eff} {A:St} (H:fm P e E R A) (hk:qM E (dX.filter fun p=>decide (p.1<e.length)&&decide (p.2<e.length)) (makes.filter fun p=>decide (p.1<e.length)&&decide (p.2<e.length)) R=true)
  {Q:Exit->Act->World->Prop} (hQ:∀(N:Act->World->Prop),(∀s w',(∀W:Act->World->Prop,(∀s w',Q .normal s w'->W s w')->wpOp P b Q (e.length+1) W s w')->N s w')->∀s w',fF w0 S0 M A s w'->wpOp P b Q e.length N s w'):wpAny P .any b Q b.size (Array.replicate b.size false) a w:=by
 have S:=(gK 0 H).2.2;have f:=fun p (g:p∈iW 0 e R)=>Hz (rest:=[last,tl]) S g
 have hn:e.length+2=b.size:=by have:=(dg B).1;simpa using this
 obtain⟨hI,hg⟩:=BG B g (fun p h=>(f p h).1) (th 0 H) hk (fun p h=>(f p h).2.1) (fun p g x hx=>by simp[(f p g).2.2.1,(f x hx).2.2.1])
 have C:((Region.before b).getD (e.length+1) 0).testBit e.length=true:=by
  obtain⟨j,y,d,h1,Y,I,h4⟩:=B2 O 0 last rfl (by simp);have U:=(List.getElem?_eq_some_iff.1 Y).1;obtain rfl:j=1:=by simp at U;omega
  obtain rfl:y=tl:=by simpa using Y.symm
  exact pU B g (by omega) (by rw[List.getElem?_append_right (Nat.le_refl _)];simp) (by rw[List.getElem?_append_right (by omega)];simp) I h4
 refine BH (nM g) hI (fun p g=>by simp[(f p g).2.2.1]) (fun p g=>hd p.o (f p g).2.2.2)
  (fun Z K L b' a w i hf q hU hi hb hr D=>?_) (fun hE=>?_) b.size (BI _ _) (Ee (late:=fun _=>false) (σB:=A) B H hg (y8 (gK 0 H).1)) h
 ·simp at hU
  obtain rfl:i=e.length:=Classical.byContradiction fun V=>by
   obtain rfl:i=e.length+1:=by omega
   have:=hb _ C;rw[q.un e.length (by omega) (by simp)]at this;cases this
  have u:=Pz B g z q.cl hb e.length
  have hL:L=[]:=by
   cases L with
   |nil=>rfl
   |cons p L=>
    exfalso;have I:=(f p (q.sub p (by simp))).2.2.1;have:=(q.li p.i (by omega) (by simp[I])).2 ⟨p,by simp,rfl⟩;rw[u p.i I (by omega)]at this;cases this
  subst hL;exact hQ _ (fun s w' hq=>aap (nM g) (by simp[q.sz]) (m:=e.length+1) (by omega) (by rw[getD_set_ne false (by omega)];exact q.un _ (by omega) (by simp)) (fun j U V=>TC q.sz U (fun hm=>u j (by omega) (by omega))) (Mm q.sz hi (q.un _ hi (by simp)) hf) hq) a w (D.congr q.run)
 ·exact absurd (hE e.length (by omega)) (by simp)
end
theorem mW{P:Program}(hm:P.follows .mixedOrders=true){vs:List VOper}{last tl:VOper}{ps ms:List (Nat×Nat)}{f:List Nat}{Q:Exit->St->Prop}{g:St}
  (h:qY P (fun Z=>fY P (fun q=>@NS (q.drop f) ⟨Q .normal⟩) [tl] Z) g ps ms (vs++[last]) g []) (B:yN (aC (vs++[last]))=true:=by rfl) (b':yN (aC [last,tl])=true:=by rfl):TV P (.region (vs++[last,tl]) (.drawn ps ms) f) Q g:=by
 intro c hc W;simp only[VCode.strip]at hc;simp only[VCode.bnd,Bool.and_eq_true]at W;obtain⟨W,_⟩:=W;obtain⟨id,e,p',rfl,C,s⟩:=ek hc;rcases s with⟨_,z⟩|⟨rfl,q',r',hp,⟨z,_⟩|z⟩
 ·simp[RMode.strip]at z
 ·simp[RMode.strip]at z
 simp only[RMode.strip,RMode.drawn.injEq]at z;obtain⟨rfl,rfl⟩:=z;refine wm.t hm ⟨id,e,true,rfl,?_⟩;intro w0 S0 M a w hs
 have u:fF w0 S0 M g a {w with drawn:=w.drawn+1 }:=by
  obtain⟨S,μ,β,m⟩:=hs;exact⟨S,μ,β,m.world (w':={w with drawn:=w.drawn+1 }) ⟨fun _ _ _=>rfl,fun _ _ h=>h⟩ (fun _ _ x=>x) (fun _ _ _ _ _=>rfl) (fun _ _ _ _ _ _ x=>x) m.stab (fun _ _ x=>.inl x) ⟨m.kept.os,m.kept.tape,m.kept.output,m.kept.size,m.kept.block,m.kept.shape⟩⟩
 obtain⟨s',y,es,c',he,D,h2,h3⟩:=wk h;obtain⟨rfl,d'⟩:=List.append_inj' he rfl;obtain rfl:last=y:=by simpa using d'
 obtain⟨e',E⟩:=yQ W;have f':es.length=vs.length:=(gK 0 D).2.2;have hl:(aC vs).length=vs.length:=dO;replace D:=fZ D;simp only[List.nil_append,f',<-hl]at h2;rw[vq]at C hp B
 have g':∀v∈aC vs,∀d,v.dst=some d->d<g.n:=by
  intro v C d b;obtain⟨i,A⟩:=List.getElem?_of_mem C;rw[dH]at A;cases H:vs[i]? with
  |none=>rw[H]at A;simp at A
  |some x=>
   rw[H]at A;simp only[Option.map_some,E_]at A;subst A;exact fd e' x (List.mem_of_getElem? H) d b
 refine⟨fun h=>(by cases h),fun _=>Nw (last:=last.strip) (tl:=tl.strip) C hp B b' u g' D h2 ?_⟩;intro N hN a' w' h';obtain⟨I,K⟩:=dg C;have t':e.toList.length=(aC vs).length+2:=by rw[<-I];simp[aC]
 have hn:c'.n=g.n:=pX D
 have L:∀k (o:VOper),(aC vs++aC [last,tl])[k]?=some o->(Y:k<e.toList.length)->iu P e e.toList[k]=some o:=by
  intro k o H Y;obtain⟨v,O,i'⟩:=K _ _ (List.getElem?_eq_getElem Y);rw[H]at O;obtain rfl:=O_ O;exact i'
 have R:(aC vs).length<e.toList.length:=by omega
 have p:(aC vs).length+1<e.toList.length:=by omega
 refine kV (o:=e.toList[(aC vs).length]) (by rw[<-Array.getElem?_toList];exact List.getElem?_eq_getElem R) (L _ last.strip (by rw[List.getElem?_append_right (Nat.le_refl _)];simp[aC]) R) h' (fun d b=>by rw[hn];exact fd E last (by simp) d b) h3 (fun q u' v' Y j' U=>hN _ _ ?_);intro N' k';have V:q.n=g.n:=j'.trans hn;refine kV (o:=e.toList[(aC vs).length+1]) (by rw[<-Array.getElem?_toList];exact List.getElem?_eq_getElem p) (L _ tl.strip (by rw[List.getElem?_append_right (by omega)];simp[aC]) p) U (fun d b=>by rw[V];exact fd E tl (by simp) d b) Y (fun l' a3 w3 m' n' o'=>k' _ _ ?_);exact⟨_,m',(by show l'.n=g.n;rw[n',V]),kb _ _ _ _ _ _ _ o'⟩
end Go.Vs
namespace Go.Vs
theorem oY{p:St}{d j id u s:Nat}{f:List SV}{m:List (List IV)}(B:ac p.objs d=some (.box f))(Y:f[j]?=some (.own id u))(N:ac p.objs id=some (.arr u s m))(C:id≠d)(x:p.ro.contains d=false) :
  cH p {p with objs:=put p.objs d (.box (f.set j (.val (.slice m)))),ro:=id::p.ro }:=by
 rintro w0 S0 M a w ⟨S,Z,β,h⟩;obtain⟨b,vs,O,fr,R,D,g,a',E⟩:=h.objs d _ B;obtain⟨v,hv,H,y⟩:=ak.get E Y;have I:=(y _ _ _ N).2 rfl;have U:=h.freeze [id];have V:=GS h N (fz:=[id]) (by simp);rw[<-I]at V;have K:au w (fun b z=>S b z\/H9 β p.objs [id] b z) Z p.objs (.val (.slice m)) v:=V;obtain⟨b2,b',e2,c',W,k2,L,k4,k5⟩:=U.objs d _ B;rw[R]at W;obtain rfl:=O_ W;rw[g]at L;simp only[E_,Go.Obj.cells.injEq]at L;obtain⟨rfl,rfl,rfl⟩:=L
 have A:vs.toList.set j v=vs.toList:=by
  apply List.ext_getElem?;intro i;rw[List.getElem?_set];split
  ·next e=>
   subst e;split
   ·exact hv.symm
   ·next h0=>rw[List.getElem?_eq_none (by omega)]
  ·rfl
 have h3:=U.write (id:=d) (x':=.box (f.set j (.val (.slice m)))) (w':=w) B R (vs:=vs) (e:=O) (fr:=fr) ⟨rfl,rfl,rfl,rfl,fun _ _=>rfl,g,fun _ _ h=>h⟩ (by
  intro q;rcases List.mem_append.1 q with q|q
  ·have q:d=id:=by simpa using q
   exact C q.symm
  ·have:p.ro.contains d=true:=by simpa using q
   rw[this]at x;cases x) (.inl ⟨_,_,rfl,rfl⟩) ⟨b,vs,O,fr,rfl,D,g,k4,by
   have:=ak.set j k5 H K;rw[A]at this
   exact this⟩
 exact⟨_,_,_,h3⟩
end Go.Vs
namespace Go.Vs
mutual
def kK:IV->IV->Bool
 |.int k n,.int j m=>decide (k=j)&&decide (n=m)
 |.bool a,.bool b=>decide (a=b)
 |.str a,.str b=>decide (a=b)
 |.nilp,.nilp=>true
 |.ref a,.ref b=>rc a b
 |.slice a,.slice b=>Ek a b
 |.nilf,.nilf=>true
 |.fn f a,.fn g b=>decide (f=g)&&rc a b
 |.bnd f a,.bnd g b=>decide (f=g)&&rc a b
 |.nili,.nili=>true
 |.handle a b c,.handle d e h=>decide (a=d)&&(decide (b=e)&&decide (c=h))
 |.iface t a,.iface s b=>decide (t=s)&&kK a b
 |.agg a,.agg b=>rc a b
 |.tuple a,.tuple b=>rc a b
 |_,_=>false
def rc:List IV->List IV->Bool
 |[],[]=>true
 |x::a,y::b=>kK x y&&rc a b
 |_,_=>false
def Ek:List (List IV)->List (List IV)->Bool
 |[],[]=>true
 |x::a,y::b=>rc x y&&Ek a b
 |_,_=>false
end
mutual
theorem TD:∀(x y:IV),kK x y=true->x=y
 |.int k n,y,h=>by
  cases y with
  |int j m=>simp only[kK,Bool.and_eq_true,decide_eq_true_eq]at h;rw[h.1,h.2]
  |_=>simp[kK]at h
 |.bool a,y,h=>by
  cases y with
  |bool b=>simp only[kK,decide_eq_true_eq]at h;rw[h]
  |_=>simp[kK]at h
 |.str a,y,h=>by
  cases y with
  |str b=>simp only[kK,decide_eq_true_eq]at h;rw[h]
  |_=>simp[kK]at h
 |.nilp,y,h=>by
  cases y with
  |nilp=>rfl
  |_=>simp[kK]at h
 |.nilf,y,h=>by
  cases y with
  |nilf=>rfl
  |_=>simp[kK]at h
 |.nili,y,h=>by
  cases y with
  |nili=>rfl
  |_=>simp[kK]at h
 |.yld l,y,h=>by
  cases y with
  |yld d=>simp[kK]at h
  |_=>simp[kK]at h
 |.nilS,y,h=>by simp[kK]at h
 |.ref a,y,h=>by
  cases y with
  |ref b=>simp only[kK]at h;rw[lF a b h]
  |_=>simp[kK]at h
 |.slice a,y,h=>by
  cases y with
  |slice b=>simp only[kK]at h;rw[Mn a b h]
  |_=>simp[kK]at h
 |.fn f a,y,h=>by
  cases y with
  |fn g b=>simp only[kK,Bool.and_eq_true,decide_eq_true_eq]at h;rw[h.1,lF a b h.2]
  |_=>simp[kK]at h
 |.bnd f a,y,h=>by
  cases y with
  |bnd g b=>simp only[kK,Bool.and_eq_true,decide_eq_true_eq]at h;rw[h.1,lF a b h.2]
  |_=>simp[kK]at h
 |.handle a b c,y,h=>by
  cases y with
  |handle e i p=>simp only[kK,Bool.and_eq_true,decide_eq_true_eq]at h;rw[h.1,h.2.1,h.2.2]
  |_=>simp[kK]at h
 |.iface t a,y,h=>by
  cases y with
  |iface s b=>simp only[kK,Bool.and_eq_true,decide_eq_true_eq]at h;rw[h.1,TD a b h.2]
  |_=>simp[kK]at h
 |.agg a,y,h=>by
  cases y with
  |agg b=>simp only[kK]at h;rw[lF a b h]
  |_=>simp[kK]at h
 |.tuple a,y,h=>by
  cases y with
  |tuple b=>simp only[kK]at h;rw[lF a b h]
  |_=>simp[kK]at h
theorem lF:∀(x y:List IV),rc x y=true->x=y
 |[],y,h=>by
  cases y with
  |nil=>rfl
  |cons b r=>simp[rc]at h
 |x::a,y,h=>by
  cases y with
  |nil=>simp[rc]at h
  |cons b r=>simp only[rc,Bool.and_eq_true]at h;rw[TD x b h.1,lF a r h.2]
theorem Mn:∀(x y:List (List IV)),Ek x y=true->x=y
 |[],y,h=>by
  cases y with
  |nil=>rfl
  |cons b r=>simp[Ek]at h
 |x::a,y,h=>by
  cases y with
  |nil=>simp[Ek]at h
  |cons b r=>simp only[Ek,Bool.and_eq_true]at h;rw[lF x b h.1,Mn a r h.2]
end
def Sp:List (Nat×List IV)->List (Nat×List IV)->Bool
 |[],[]=>true
 |(i,x)::a,(j,y)::b=>decide (i=j)&&(rc x y&&Sp a b)
 |_,_=>false
theorem TE:∀(x y:List (Nat×List IV)),Sp x y=true->x=y
 |[],[],_=>rfl
 |[],_::_,h=>by simp[Sp]at h
 |_::_,[],h=>by simp[Sp]at h
 |(i,x)::a,(j,y)::b,h=>by
  simp only[Sp,Bool.and_eq_true,decide_eq_true_eq]at h;rw[h.1,lF x y h.2.1,TE a b h.2.2]
structure Ent where
 k:Nat
 args:List IV
 r:Res
def TF(d b:List (Nat×List IV))(k:Nat)(a:List IV):List Ent->Option Out
 |[]=>none
 |e::r=>bif Nat.beq e.k k&&(rc e.args a&&Sp d b)then some (.res e.r)else TF d b k a r
def aaq(d:List (Nat×List IV))(e:List Ent):Job->Option Out
 |.fn b k a=>TF d b k a e
 |_=>none
theorem BX{P:Program}{gl:List (Nat×List IV)}{es:List Ent}(h:∀e∈es,Ea gl P e.k e.args e.r):∀j o,aaq gl es j=some o->BO P j o:=by
 intro j o a;cases j with
 |fn f k d=>
  simp only[aaq]at a
  induction es with
  |nil=>simp[TF]at a
  |cons e r g=>
   simp only[TF]at a;cases b:(Nat.beq e.k k&&(rc e.args d&&Sp gl f))with
   |false=>
    rw[b]at a;exact g (fun x i=>h x (List.mem_cons_of_mem _ i)) a
   |true=>
    rw[b]at a;simp only[Bool.and_eq_true]at b;have m:=Nat.eq_of_beq_eq_true b.1;have p:=lF _ _ b.2.1;have q:=TE _ _ b.2.2;subst m p q;cases a;exact h e (by simp)
 |mc=>simp[aaq]at a
 |loop=>simp[aaq]at a
end Go.Vs
namespace Go.Vs
def gA{a:Type}(l:List a)(E:List Nat):List a:=E.filterMap fun i=>l[i]?
def qa{a:Type}(f:Nat):List Nat->List a->List a
 |i::is,x::r=>if i=f then r else x::qa f is r
 |_,_=>[]
def lG:List Nat->List VOper->List Eff->List Item1
 |i::is,o::r,e::a=>⟨i,o,e⟩::lG is r a
 |_,_,_=>[]
def I1:List Nat->List Eff->Nat->Eff
 |i::is,e::a,j=>if i=j then e else I1 is a j
 |_,_,_=>⟨[],none,gy⟩
def oZ(n:Nat)(E:List Nat)(a:List Eff):List Eff:=(List.range n).map (I1 E a)
def om(E:List Nat)(p:Nat×Nat):Bool:=E.contains p.1&&E.contains p.2
def okC(n:Nat)(E T a:List Nat)(m f:Nat):Bool:=decide (m<n)&&E.contains f&&T.all (fun t=>decide (m<t))&&(List.range n).all fun j=>(if j=m then !E.contains j&&!T.contains j else E.contains j != T.contains j)&&(a.contains j==(T.contains j||j==f))
def mt(n:Nat):List Nat->Bool
 |[]=>true
 |i::r=>decide (i<n)&&r.all (fun j=>decide (i<j))&&mt n r
def XB(l:List VOper)(d:List Nat):List Nat->Bool
 |[]=>true
 |i::r=>match l[i]? with
  |some y=>(y.slots.any d.contains)&&XB l (match y.dst with
   |some x=>x::d
   |none=>d) r
  |none=>false
def Q7(l:List VOper)(m:Nat):List Nat->Bool
 |[]=>true
 |i::r=>(match l[i]? with
  |some x=>(match x.dst with
   |some d=>(r++[m]).any fun j=>decide (i<j)&&(match l[j]? with
    |some y=>y.slots.contains d
    |none=>false)
   |none=>false)
  |none=>false)&&Q7 l m r
section
variable {P:Program} {w0:World} {S0:ba} {M:Ctx}
theorem yc{n:Nat} : ∀ {E:List Nat},mt n E=true->E.Pairwise (· < ·)/\∀i∈E,i<n
 |[],_=>⟨.nil,by simp⟩
 |i::r,h=>by
  simp only[mt,Bool.and_eq_true,decide_eq_true_eq,List.all_eq_true]at h;obtain⟨b,d⟩:=yc h.2;refine⟨List.pairwise_cons.2 ⟨fun j a=>h.1.2 j a,b⟩,fun j a=>?_⟩;rcases List.mem_cons.1 a with rfl|a
  ·exact h.1.1
  ·exact d j a
theorem El{a:List VOper} : ∀ {E:List Nat} {d σf:St} {b:List Eff},mt a.length E=true->fm P (gA a E) d b σf->yy P (lG E (gA a E) b) d σf/\(lG E (gA a E) b).map (·.i)=E/\
  (∀p∈lG E (gA a E) b,p.i∈E/\a[p.i]?=some p.o/\I1 E b p.i=p.e/\∃q,fi P q p.o p.e)/\b.length=E.length/\(gA a E).length=E.length
 |[],d,σf,b,_,⟨g,s⟩=>by subst g;subst s;exact⟨St.Eq.refl _,rfl,by simp[gA,lG],rfl,rfl⟩
 |i::r,d,σf,b,f,h=>by
  have x:=yc f;simp only[mt,Bool.and_eq_true,decide_eq_true_eq,List.all_eq_true]at f;have u:a[i]?=some a[i]:=List.getElem?_eq_getElem f.1.1;have y:gA a (i::r)=a[i]::gA a r:=by simp[gA,List.filterMap_cons,u]
  rw[y]at h |-;obtain⟨e,z,rfl,g,s⟩:=h;obtain⟨A,B,C,D,H⟩:=El f.2 s;refine⟨⟨g,A⟩,by simp[lG,B],fun p m=>?_,by simp[D],by simp[H]⟩;simp only[lG,List.mem_cons]at m;rcases m with rfl|m
  ·exact⟨by simp,u,by simp[I1],d,g⟩
  ·obtain⟨w,I,K,L⟩:=C p m;refine⟨List.mem_cons_of_mem _ w,I,?_,L⟩;rw[I1,if_neg (by have:=f.1.2 p.i w;omega),K]
theorem BY{f n:Nat} : ∀ {E:List Nat} {l:List VOper} {b:List Eff} {d σB:St},mt n E=true->l.length=E.length->b.length=E.length->fm P (qa f E l) d (qa f E b) σB->yy P ((lG E l b).filter fun p=>!(p.i==f)) d σB
 |[],l,b,d,σB,_,a,m,h=>by
  obtain rfl:=List.length_eq_zero_iff.1 a;obtain⟨q,g⟩:=h;subst g;exact St.Eq.refl _
 |i::r,o::l,e::b,d,σB,s,a,m,h=>by
  simp only[mt,Bool.and_eq_true,decide_eq_true_eq,List.all_eq_true]at s;simp only[List.length_cons,Nat.add_right_cancel_iff]at a m;by_cases u:i=f
  ·subst u;simp only[qa,if_true]at h
   have w:∀ {r:List Nat} {l:List VOper} {b:List Eff} {d:St},l.length=r.length->(∀j∈r,i<j)->fm P l d b σB->yy P ((lG r l b).filter fun p=>!(p.i==i)) d σB:=by
    intro r
    induction r with
    |nil=>
     intro l b d a _ h;obtain rfl:=List.length_eq_zero_iff.1 a;obtain⟨q,g⟩:=h;subst g;exact St.Eq.refl _
    |cons j r A=>
     intro l b d a y h;cases l with
     |nil=>simp at a
     |cons o l=>
      obtain⟨e,x,rfl,q,g⟩:=h;have:=y j (by simp);simp only[lG];rw[List.filter_cons,if_pos (by simp;omega)];exact⟨q,A (by simpa using a) (fun k B=>y k (List.mem_cons_of_mem _ B)) g⟩
   simp only[lG];rw[List.filter_cons,if_neg (by simp)];exact w a s.1.2 h
  ·simp only[qa,if_neg u]at h;obtain⟨C,x,z,q,g⟩:=h;simp only[List.cons.injEq]at z;obtain⟨rfl,rfl⟩:=z;simp only[lG];rw[List.filter_cons,if_pos (by simp[u])];exact⟨q,BY s.2 a m g⟩
 |_::_,[],_,_,_,_,a,_,_=>by simp at a
 |_::_,_::_,[],_,_,_,_,m,_=>by simp at m
theorem Q8{l:List VOper}{n:Nat} : ∀ {r D:List Nat},mt n r=true->XB l D r=true->∀t∈r,∃y d,l[t]?=some y/\d∈y.slots/\(d∈D\/∃u x,u∈r/\u<t/\l[u]?=some x/\x.dst=some d)
 |[],_,_,_,t,b=>by simp at b
 |i::r,D,e,h,t,b=>by
  simp only[mt,Bool.and_eq_true,decide_eq_true_eq,List.all_eq_true]at e;simp only[XB]at h;split at h
  ·next y m=>
   simp only[Bool.and_eq_true,List.any_eq_true]at h;obtain⟨⟨d,f,g⟩,h⟩:=h;rcases List.mem_cons.1 b with rfl|b
   ·exact⟨y,d,m,f,.inl (by simpa using g)⟩
   ·obtain⟨p,q,s,w,a⟩:=Q8 e.2 h t b;refine⟨p,q,s,w,?_⟩;rcases a with a|⟨u,x,z,A,B,C⟩
    ·split at a
     ·next x E=>
      rcases List.mem_cons.1 a with rfl|a
      ·exact .inr ⟨i,y,by simp,e.1.2 t b,m,E⟩
      ·exact .inl a
     ·exact .inl a
    ·exact .inr ⟨u,x,List.mem_cons_of_mem _ z,A,B,C⟩
  ·cases h
theorem Mp{l:List VOper}{m:Nat} : ∀ {r:List Nat},Q7 l m r=true->∀i∈r,∃j x y d,(j∈r\/j=m)/\i<j/\l[i]?=some x/\l[j]?=some y/\x.dst=some d/\d∈y.slots
 |[],_,i,e=>by simp at e
 |k::r,h,i,e=>by
  simp only[Q7,Bool.and_eq_true]at h;rcases List.mem_cons.1 e with rfl|e
  ·have a:=h.1;split at a
   ·next x q=>
    split at a
    ·next d s=>
     obtain⟨j,f,p⟩:=List.any_eq_true.1 a;simp only[Bool.and_eq_true,decide_eq_true_eq]at p;obtain⟨g,b⟩:=p;split at b
     ·next y u=>
      refine⟨j,x,y,d,?_,g,q,u,s,by simpa using b⟩;rcases List.mem_append.1 f with f|f
      ·exact .inl (List.mem_cons_of_mem _ f)
      ·exact .inr (by simpa using f)
     ·cases b
    ·cases a
   ·cases a
  ·obtain⟨j,x,y,d,a,w⟩:=Mp h.2 i e;exact⟨j,x,y,d,a.imp (List.mem_cons_of_mem _) id,w⟩
theorem Ve{f:Array Oper}{m:List VOper}(H:cw P f f.toList=some m){dX makes:List (Nat×Nat)}(g:gF f m.toArray=some (dX,makes)){T:List Nat}(hT:mt m.length T=true){u s:St}{y:List Eff}(I:fm P (gA m T) u y s)(K:qM u (dX.filter (om T)) (makes.filter (om T)) (oZ m.length T y)=true)
  (L:∀v∈m,∀d,v.dst=some d->d<u.n) {b:Array Bool} (z:b.size=f.size) (A:∀j o,f[j]?=some o->b.getD j false=true->∀e∈o.after.toList,Region.binds .any e=true->b.getD e.on false=true) (B:∀j,j<f.size->(b.getD j false=false↔j∈T))
  {Q:Exit->Act->World->Prop} (N:∀a w,fF w0 S0 M s a w->Q .normal a w) {i:Nat} (O:vM (b.getD · false) f.size<=i) {a:Act} {w:World} (h:fF w0 S0 M u a w):wpAny P .any f Q i b a w:=by
 obtain⟨D,E,q,Z,k5⟩:=El hT I
 have C:∀p∈lG T (gA m T) y,(oZ m.length T y)[p.i]?=some p.e:=fun p g=>by
  have:=(yc hT).2 p.i (q p g).1;simp[oZ,this,(q p g).2.2.1]
 obtain⟨R,S⟩:=BG H g (fun p h=>(q p h).2.1) (fun p h=>(q p h).2.2.2) K C (fun p g x V=>by simp[om,(q p g).1,(q x V).1]);refine BH (nM g) R (U:=fun _=>false) (late:=fun _=>false) (σB:=s) (n:=u.n) (fun _ _=>rfl) (fun p g=>L p.o (List.mem_of_getElem? (q p g).2.1)) (fun _ _ _ _ _ _ _ _ _ W=>by cases W) (fun _=>N) i O ⟨z,?_,fun _ h=>h,fun j Y _=>?_,fun _ _ h=>(by cases h),A,D,fun _=>y8 D,S,rfl⟩ h
 ·have:=(yc hT).1;rw[<-E]at this;exact List.pairwise_map.1 this
 ·rw[B j Y];constructor
  ·intro h;rw[<-E]at h;obtain⟨p,g,e⟩:=List.mem_map.1 h;exact⟨p,g,e⟩
  ·rintro⟨p,g,rfl⟩;exact(q p g).1
theorem Q9{s:Array Oper}{z:List VOper}(hc:cw P s s.toList=some z){dX makes:List (Nat×Nat)}(D:gF s z.toArray=some (dX,makes)){E T T':List Nat}{m f:Nat}(hE:mt z.length E=true)(hT:mt z.length T=true)(x':mt z.length T'=true)(j':okC z.length E T T' m f=true)
  (y':Q7 z m (E.filter fun i=>!(i==f))=true) {dm:Nat} {vm:VOper} (z':z[m]?=some vm) (A':vm.dst=some dm) (B':XB z [dm] T=true) {Y:St} {a:Act} {w:World} (h:fF w0 S0 M Y a w) (hd:∀v∈z,∀d,v.dst=some d->d<Y.n)
  {es:List Eff} {Z σB:St} (hs:fm P (gA z E) Y es Z) (hk:qM Y (dX.filter (om E)) (makes.filter (om E)) (oZ z.length E es)=true) (hB:fm P (qa f E (gA z E)) Y (qa f E es) σB) {Q:Exit->Act->World->Prop} {K:List Nat->St->Prop}
  (hK:∀T b,K T b->∃k' b',fm P (gA z T) b k' b'/\qM b (dX.filter (om T)) (makes.filter (om T)) (oZ z.length T k')=true/\∀a w,fF w0 S0 M b' a w->b'.n=b.n->b.n=Y.n->Q .normal a w)
  (hQ:∀V c',(V=T/\c'=Z)\/(V=T'/\c'=σB)->∀N:Act->World->Prop,(∀a' w' b,K V b->b.n=Y.n->fF w0 S0 M b a' w'->N a' w')->∀a w,fF w0 S0 M c' a w->wpOp P s Q m N a w):wpAny P .any s Q s.size (Array.replicate s.size false) a w:=by
 obtain⟨k1,k2,O,k4,k5⟩:=El hE hs;have hn:z.length=s.size:=by have:=(dg hc).1;simpa using this
 unfold okC at j';simp only[Bool.and_eq_true,decide_eq_true_eq,List.all_eq_true,List.mem_range,List.contains_eq_mem,beq_iff_eq]at j';obtain⟨⟨⟨hm,C'⟩,D'⟩,R⟩:=j';have d':m∉E/\m∉T:=by have:=(R m hm).1;simpa using this
 have g':∀j,j<z.length->j≠m->(j∈E↔j∉T):=fun j B g=>by
  have:=(R j B).1;rw[if_neg g]at this;by_cases H:j∈E<;>by_cases W:j∈T<;>simp only[H,W,decide_true,decide_false,bne_self_eq_false,Bool.false_eq_true]at this<;>simp[H,W]
 have S:∀j,j<z.length->(j∈T'↔j∈T\/j=f):=fun j B=>by
  have:=(R j B).2;by_cases h3:j=f
  ·subst h3;simp at this;simp[this]
  ·by_cases H:j∈T'<;>by_cases W:j∈T<;>simp[H,W,h3]at this |-
 have lt:∀ {F:List Nat},mt z.length F=true->∀j∈F,j<z.length:=fun h=>(yc h).2
 have E':∀p∈lG E (gA z E) es,(oZ z.length E es)[p.i]?=some p.e:=fun p D=>by
  have:=lt hE p.i (O p D).1;simp[oZ,this,(O p D).2.2.1]
 obtain⟨hI,hg⟩:=BG hc D (fun p h=>(O p h).2.1) (fun p h=>(O p h).2.2.2) hk E' (fun p D x hx=>by simp[om,(O p D).1,(O x hx).1])
 have p':∀j∈E,(decide (j=m)||T.contains j)=false:=fun j B=>by
  have H:j≠m:=by rintro rfl;exact d'.1 B
  have:=(g' j (lt hE j B) H).1 B;simp[H,this]
 refine BH (nM D) hI (U:=fun j=>decide (j=m)||T.contains j) (late:=fun j=>j==f) (σf:=Z) (σB:=σB) (n:=Y.n) (fun p D=>p' _ (O p D).1) (fun p D=>hd p.o (List.mem_of_getElem? (O p D).2.1))
  (fun q' A L c' a w i hf C hU hi hb hr h'=>?_) (fun F'=>?_) s.size (BI _ _) ⟨by simp,?_,fun _ h=>h,fun j B hU=>?_,fun j _ _=>tf _ _,fun j o _ C=>?_,k1,fun _=>BY hE k5 k4 hB,hg,rfl⟩ h
 ·simp only[Bool.or_eq_true,decide_eq_true_eq,List.contains_eq_mem]at hU
  obtain rfl:i=m:=Classical.byContradiction fun g=>by
   have e':=hU.resolve_left g;obtain⟨y,d,H,W,h3⟩:=Q8 hT B' i e';rcases h3 with h3|⟨u,x,a1,a2,a3,a4⟩
   ·obtain rfl:d=dm:=by simpa using h3
    have:=hb _ (pU hc D (D' i e') z' H A' W);rw[C.un m (by omega) (by simp)]at this;cases this
   ·have:=hb _ (pU hc D a2 a3 H a4 W);rw[C.un u (by have:=lt hT u a1;omega) (by simp[a1])]at this;cases this
  have r':∀(k j:Nat),j∈E->j≠f->z.length<=j+k->A.getD j false=true:=by
   intro k
   induction k with
   |zero=>intro j B _ h;have:=lt hE j B;omega
   |succ k ih=>
    intro j B g M';obtain⟨q,x,y,d,H,W,h3,h4,h5,h6⟩:=Mp y' j (List.mem_filter.2 ⟨B,by simp[g]⟩);have i':=pU hc D W h3 h4 h5 h6;rcases H with H|rfl
    ·obtain⟨hq,l'⟩:=List.mem_filter.1 H;obtain⟨o,ho,_,_⟩:=oU hc h4;exact rO (nM D) C.cl (q+1) q o (by omega) ho (C.cl q o ho (ih q hq (by simpa using l') (by omega))) j i'
    ·exact hb j i'
  have s':∀p∈L,p.i=f:=fun p t'=>Classical.byContradiction fun g=>by
   have m':=(O p (C.sub p t')).1;have:=(C.li p.i (by have:=lt hE _ m';omega) (p' _ m')).2 ⟨p,t',rfl⟩;rw[r' z.length p.i m' g (by omega)]at this;cases this
  have I:∀V,mt z.length V=true->(∀j,j<s.size->j≠i->(A.getD j false=false↔j∈V))->i∉V->∀a' w' b,K V b->b.n=Y.n->fF w0 S0 M b a' w'->wpAny P .any s Q q' (A.setIfInBounds i true) a' w':=by
   intro V G' H' e' a' w' b I' u' J';obtain⟨k',b',b1,b2,b3⟩:=hK V b I';refine Ve hc D G' b1 b2 (fun v hv d K'=>by rw[u'];exact hd v hv d K') (by simp[C.sz]) (acK C.cl hr) (fun j B=>?_) (fun a w hs=>b3 a w hs (pX b1) u') (Mm C.sz hi (C.un i hi (by simp)) hf) J';by_cases n':i=j
   ·subst n';simp[Array.getD,C.sz,hi,e']
   ·rw[getD_set_ne false n'];exact H' j B (Ne.symm n')
  have v':∀j,j<s.size->j≠i->(A.getD j false=false↔j∈T\/∃p∈L,p.i=j):=by
   intro j B g;by_cases f':j∈T
   ·simp[f',C.un j B (by simp[f'])]
   ·rw[C.li j B (by simp[g,f'])];simp[f']
  cases L with
  |nil=>exact hQ T Z (.inl ⟨rfl,rfl⟩) _ (I T hT (fun j B g=>by rw[v' j B g];simp) d'.2) a w (h'.congr C.run)
  |cons p L=>
   have o':=s' p (by simp)
   obtain rfl:L=[]:=by
    cases L with
    |nil=>rfl
    |cons q L=>
     have H:=(List.pairwise_cons.1 C.pw).1 q (by simp);have W:=s' q (by simp);omega
   have hr:=C.runB (fun q hq L'=>by
    have l':q.i=f:=by simpa using L'
    obtain⟨_,a2,a3,_⟩:=O p (C.sub p (by simp));obtain⟨_,b2,b3,_⟩:=O q hq;obtain⟨pi,po,pe⟩:=p;obtain⟨qi,qo,qe⟩:=q;dsimp only at *;subst o';subst l';rw[a2]at b2;rw[a3]at b3;obtain rfl:=O_ b2;subst b3
    simp)
   rw[List.filter_cons,if_neg (by simp[o'])]at hr;refine hQ T' σB (.inr ⟨rfl,rfl⟩) _ (I T' x' (fun j B g=>?_) (fun nB=>?_)) a w (h'.congr hr)
   ·rw[v' j B g,S j (by omega)];simp[o',eq_comm]
   ·rcases(S i hm).1 nB with h|rfl
    ·exact d'.2 h
    ·exact d'.1 C'
 ·have:=F' m (by omega);simp at this
 ·have:=(yc hE).1;rw[<-k2]at this;exact List.pairwise_map.1 this
 ·rw[tf];simp only[true_iff];simp only[Bool.or_eq_false_iff,decide_eq_false_iff_not,List.contains_eq_mem]at hU;have:j∈E:=(g' j (by omega) hU.1).2 hU.2;rw[<-k2]at this;obtain⟨p,D,e⟩:=List.mem_map.1 this;exact⟨p,D,e⟩
 ·rw[tf]at C;cases C
end
theorem yd{l:List VOper} : ∀ {E:List Nat},aC (gA l E)=gA (aC l) E
 |[]=>rfl
 |i::r=>by
  have a:=yd (l:=l) (E:=r);unfold gA at a |-;rw[List.filterMap_cons,List.filterMap_cons,dH];cases l[i]? with
  |none=>exact a
  |some x=>simp[aC,a]
theorem yV{f:Nat} : ∀ {E:List Nat} {l:List VOper},aC (qa f E l)=qa f E (aC l)
 |[],l=>by simp[qa,aC]
 |_::_,[]=>by simp[qa,aC]
 |i::r,o::l=>by
  by_cases a:i=f
  ·simp[qa,aC,a]
  ·simp[qa,aC,a,yV (E:=r) (l:=l)]
def Qa(P:Program)(n:Nat)(ps ms:List (Nat×Nat))(Q:St->Prop)(a:List Nat)(T:List Nat)(f:List VOper)(b:St):Prop:=lh P (fun g e=>qM b (ps.filter (om T)) (ms.filter (om T)) (oZ n T g)=true/\@NS (e.drop a) ⟨Q⟩) f b []
theorem Fi{P:Program}(hm:P.follows .mixedOrders=true)(E T T':List Nat)(m f dm:Nat){b:List VOper}{ps ms:List (Nat×Nat)}{e:List Nat}{Q:Exit->St->Prop}{s:St}
  (h:lh P (fun es D=>qM s (ps.filter (om E)) (ms.filter (om E)) (oZ b.length E es)=true/\fY P (Qa P b.length ps ms (Q .normal) e T (gA b T)) (gA b [m]) D/\lh P (fun H I=>H=qa f E es/\fY P (Qa P b.length ps ms (Q .normal) e T' (gA b T')) (gA b [m]) I) (qa f E (gA b E)) s []) (gA b E) s [])
  (L:(mt (aC b).length E&&mt (aC b).length T&&mt (aC b).length T'&&okC (aC b).length E T T' m f&&Q7 (aC b) m (E.filter fun i=>!(i==f))&&(match (aC b)[m]? with
    |some v=>v.dst==some dm
    |none=>false)&&XB (aC b) [dm] T)=true:=by rfl):TV P (.region b (.drawn ps ms) e) Q s:=by
 intro c hc O;simp only[VCode.strip]at hc;simp only[VCode.bnd,Bool.and_eq_true]at O;obtain⟨O,_⟩:=O;obtain⟨id,os,q',rfl,hv,u⟩:=ek hc;rcases u with⟨_,A⟩|⟨rfl,r',s',hp,⟨A,_⟩|A⟩
 ·simp[RMode.strip]at A
 ·simp[RMode.strip]at A
 simp only[RMode.strip,RMode.drawn.injEq]at A;obtain⟨rfl,rfl⟩:=A;refine wm.t hm ⟨id,os,true,rfl,?_⟩;intro w0 S0 M a w hs
 have y:fF w0 S0 M s a {w with drawn:=w.drawn+1 }:=by
  obtain⟨S,μ,β,q⟩:=hs;exact⟨S,μ,β,q.world (w':={w with drawn:=w.drawn+1 }) ⟨fun _ _ _=>rfl,fun _ _ h=>h⟩ (fun _ _ x=>x) (fun _ _ _ _ _=>rfl) (fun _ _ _ _ _ _ x=>x) q.stab (fun _ _ x=>.inl x) ⟨q.kept.os,q.kept.tape,q.kept.output,q.kept.size,q.kept.block,q.kept.shape⟩⟩
 simp only[Bool.and_eq_true]at L;obtain⟨⟨⟨⟨⟨⟨k1,k2⟩,k3⟩,k4⟩,k5⟩,k6⟩,k7⟩:=L;split at k6
 case h_2=>cases k6
 next vm g=>
 have d':vm.dst=some dm:=by simpa using k6
 obtain⟨es,D,R,hk,h2,h3⟩:=mS h;obtain⟨H,I,U,h5,h6⟩:=mS h3;simp only[List.nil_append]at hk h5;subst h5;replace R:=fZ R;replace U:=fZ U;rw[yd]at R;rw[yV,yd]at U;rw[<-dO (l:=b)]at hk
 have e':∀v∈aC b,∀d,v.dst=some d->d<s.n:=by
  intro v hv d z;obtain⟨i,B⟩:=List.getElem?_of_mem hv;rw[dH]at B;cases V:b[i]? with
  |none=>rw[V]at B;simp at B
  |some x=>
   rw[V]at B;simp only[Option.map_some,E_]at B;subst B;exact fd O x (List.mem_of_getElem? V) d z
 refine⟨fun h=>(by cases h),fun _=>Q9 hv hp k1 k2 k3 k4 k5 g d' k7 y e' R hk U (K:=fun C=>Qa P b.length ps ms (Q .normal) e C (gA b C)) (fun C t' f'=>?_) (fun C W Y N hN a w g'=>?_)⟩
 ·obtain⟨h',i',g1,g2,g3⟩:=mS f';simp only[List.nil_append]at g2;rw[<-dO (l:=b)]at g2;replace g1:=fZ g1;rw[yd]at g1;exact⟨h',i',g1,g2,fun a w j' k' l'=>⟨_,g3,k'.trans l',kb _ _ _ _ _ _ _ j'⟩⟩
 ·rw[dH]at g;cases p:b[m]? with
  |none=>rw[p]at g;cases g
  |some x=>
   rw[p]at g;obtain rfl:=O_ g;have Z:gA b [m]=[x]:=by simp[gA,p]
   rw[Z]at h2 h6;obtain⟨o,V,m',_⟩:=oU hv (by rw[dH,p];rfl)
   have a':W.n=s.n:=by
    rcases Y with⟨_,rfl⟩|⟨_,rfl⟩
    ·exact pX R
    ·exact pX U
   have b':fY P (Qa P b.length ps ms (Q .normal) e C (gA b C)) [x] W:=by
    rcases Y with⟨rfl,rfl⟩|⟨rfl,rfl⟩
    ·exact h2
    ·exact h6
   exact kV V m' g' (fun d z=>by rw[a'];exact fd O x (List.mem_of_getElem? p) d z) b' (fun n' u' v' o' p' c'=>hN _ _ n' o' (p'.trans a') c')
end Go.Vs
