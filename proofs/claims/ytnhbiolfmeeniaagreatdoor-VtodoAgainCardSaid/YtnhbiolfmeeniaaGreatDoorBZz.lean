/- A part of a proof. No conditions. -/
import Derived.Test.YtnhbiolfmeeniaaGreatDoorBDz
import Derived.LoopN
import Derived.Scope
import Derived.RangeFuncNested
import Derived.RangeFuncLeaves
import Derived.OrdersIn
import Derived.LoopNIn
set_option linter.all false
namespace Go.Vs
theorem ch{a:St}{rs:List VRes}{c:MC}(g:List (Nat×SV))(h:cJ a ⟨g,c.objs',[],a.n,a.gl⟩:=by exact bA)
  (m:Na ⟨g,c.objs',[],a.n,a.gl⟩ rs c.res=some (c.res,[]):=by rfl) (p:c.ro'=[]:=by rfl):cI rs c .ret a:=⟨_,[],h,rfl,m,p⟩
end Go.Vs
namespace Go.Vs
inductive Job where
 |fn (gl:List (Nat×List IV)) (k:Nat) (args:List IV)
 |mc (gl:List (Nat×List IV)) (k:Nat) (args:List SV) (objs:List (Nat×Ob)) (ro:List Nat)
 |loop (v:VCode) (σ:St)
inductive Out where
 |res (r:Res)
 |mc (res:SV) (objs':List (Nat×Ob)) (ro':List Nat)
 |lp (e:Exit) (σ:St)
def E8(P:Program):Job->Out->Prop
 |.fn g k b,.res r=>CV g P k b r
 |.mc g k b f ro,.mc r d h=>lB g P k ⟨b,f,r,d,h,ro⟩
 |.loop v i,.lp e m=>∃n,∀Q:Exit->St->Prop,Q e m->∀c,comp P c=some v.strip->v.bnd i.n=true->∀(w0:World) (S0:bb) (M:Ctx) (a:Act) (w:World),gc w0 S0 M i a w->Code.rounds P c (DY w0 S0 M i.n Q) n a w
 |_,_=>False
mutual
def SV.ids:SV->List Nat
 |.own id _=>[id]
 |.loc id _=>[id]
 |.eloc id _ _ _=>[id]
 |.view id _ _ _=>[id]
 |.selfN id _ _=>[id]
 |.ownT id _ _=>[id]
 |.itr id=>[id]
 |.agg b=>B0 b
 |.clo _ a=>B0 a
 |.tup a=>B0 a
 |.ifc _ v=>v.ids
 |_=>[]
def B0:List SV->List Nat
 |[]=>[]
 |x::r=>x.ids++B0 r
end
def Ob.ids:Ob->List Nat
 |.box a=>B0 a
 |_=>[]
def zc(ids:List Nat):List Nat->Bool
 |[]=>true
 |i::r=>ids.contains i&&zc ids r
theorem Gj{ids:List Nat} : ∀ {l:List Nat},zc ids l=true->∀i∈l,i∈ids
 |[],_,i,h=>by cases h
 |j::r,h,i,a=>by
  simp only[zc,Bool.and_eq_true]at h;rcases List.mem_cons.1 a with rfl|a
  .simpa using h.1
  exact Gj h.2 i a
section
variable {ρ ρ':List (Nat×Nat)}
mutual
theorem Kf:∀x:SV,(∀i∈x.ids,ren ρ (ren ρ' i)=i)->(x.ren ρ').ren ρ=x
 |.undef,_=>rfl
 |.val _,_=>rfl
 |.nils,_=>rfl
 |.full _,_=>rfl
 |.own id _,h=>by simp only[SV.ren,h id (by simp[SV.ids])]
 |.loc id _,h=>by simp only[SV.ren,h id (by simp[SV.ids])]
 |.eloc id _ _ _,h=>by simp only[SV.ren,h id (by simp[SV.ids])]
 |.view id _ _ _,h=>by simp only[SV.ren,h id (by simp[SV.ids])]
 |.agg b,h=>by simp only[SV.ren,ws b h]
 |.clo _ a,h=>by simp only[SV.ren,ws a h]
 |.tup a,h=>by simp only[SV.ren,ws a h]
 |.ifc _ v,h=>by simp only[SV.ren,Kf v h]
 |.anyB,_=>rfl
 |.selfN id _ _,h=>by simp only[SV.ren,h id (by simp[SV.ids])]
 |.ownT id _ _,h=>by simp only[SV.ren,h id (by simp[SV.ids])]
 |.itr id,h=>by simp only[SV.ren,h id (by simp[SV.ids])]
theorem ws:∀x:List SV,(∀i∈B0 x,ren ρ (ren ρ' i)=i)->wj ρ (wj ρ' x)=x
 |[],_=>rfl
 |x::r,h=>by
  simp only[wj,Kf x (fun i d=>h i (by simp only[B0,List.mem_append];exact .inl d)),ws r (fun i d=>h i (by simp only[B0,List.mem_append];exact .inr d))]
end
theorem Vz:∀o:Ob,(∀i∈o.ids,ren ρ (ren ρ' i)=i)->(o.ren ρ').ren ρ=o
 |.box a,h=>by simp only[Ob.ren,ws a h]
 |.arr _ _ _,_=>rfl
 |.iter _ _,_=>rfl
end
def Ht(a:List (Nat×Ob)):Nat->List Nat->List Nat->List Nat
 |_,[],seen=>seen
 |0,_,seen=>seen
 |n+1,i::r,seen=>bif seen.contains i then Ht a n r seen else match ac a i with
  |some o=>Ht a n (o.ids++r) (seen++[i])
  |none=>Ht a n r seen
def E9(a:List (Nat×Ob)):List Nat->List (Nat×Ob)
 |[]=>[]
 |i::r=>match ac a i with
  |some o=>(i,o)::E9 a r
  |none=>E9 a r
def Kg(a:List (Nat×Ob))(ρ':List (Nat×Nat)):List Nat->List (Nat×Ob)
 |[]=>[]
 |i::r=>match ac a i with
  |some o=>(ren ρ' i,o.ren ρ')::Kg a ρ' r
  |none=>Kg a ρ' r
def Ea(a:List (Nat×Ob))(ids:List Nat):List Nat->Bool
 |[]=>true
 |i::r=>(match ac a i with
  |some o=>zc ids o.ids
  |none=>true)&&Ea a ids r
def abB(ρ ρ':List (Nat×Nat)):List Nat->Bool
 |[]=>true
 |i::r=>Nat.beq (ren ρ (ren ρ' i)) i&&abB ρ ρ' r
theorem Kh{ρ ρ':List (Nat×Nat)} : ∀ {l:List Nat},abB ρ ρ' l=true->∀i∈l,ren ρ (ren ρ' i)=i
 |[],_,i,h=>by cases h
 |j::r,h,i,a=>by
  simp only[abB,Bool.and_eq_true]at h;rcases List.mem_cons.1 a with rfl|a
  .exact Nat.eq_of_beq_eq_true h.1
  exact Kh h.2 i a
theorem D3{a:List (Nat×Ob)}{ρ ρ':List (Nat×Nat)}{ids:List Nat}(e:∀i∈ids,ren ρ (ren ρ' i)=i):∀ {l:List Nat},(∀i∈l,i∈ids)->Ea a ids l=true->gI a ρ (Kg a ρ' l)
 |[],_,_=>trivial
 |i::r,f,b=>by
  simp only[Ea,Bool.and_eq_true]at b;unfold Kg;split
  .next o g=>
   rw[g]at b;refine⟨?_,D3 e (fun j d=>f j (List.mem_cons_of_mem _ d)) b.2⟩;rw[e i (f i (by simp)),g,Vz o (fun j d=>e j (Gj b.1 j d))]
  exact D3 e (fun j d=>f j (List.mem_cons_of_mem _ d)) b.2
theorem Gk{d:List (Nat×Ob)}{ρ ρ':List (Nat×Nat)}{ids:List Nat}(e:∀i∈ids,ren ρ (ren ρ' i)=i):∀ {l:List SV},zc ids (B0 l)=true->iT d ρ l (wj ρ' l) []
 |[],_=>rfl
 |x::r,h=>by
  have hm:=Gj h;have m:(x.ren ρ').ren ρ=x:=Kf x (fun i p=>e i (hm i (by simp only[B0,List.mem_append];exact .inl p)))
  have g:zc ids (B0 r)=true:=by
   have f:∀(a b:List Nat),zc ids (a++b)=true->zc ids b=true:=by
    intro a
    induction a with
    |nil=>exact fun b h=>h
    |cons y a q=>intro b h;simp only[List.cons_append,zc,Bool.and_eq_true]at h;exact q b h.2
   exact f _ _ h
  cases x with
  |val iv=>exact⟨[],[],rfl,Gk e g,rfl⟩
  |_=>exact⟨m.symm,Gk e g⟩
theorem X9{ρ:List (Nat×Nat)} : ∀ {l:List (Nat×Ob)},mFz ρ [] l=true
 |[]=>rfl
 |_::r=>by simp[mFz,X9 (l:=r)]
def Gl(a:St):Nat->List Nat
 |0=>[]
 |n+1=>bif (ac a.objs n).isNone&&G6 n a.env&&G7 n a.objs then n::Gl a n else Gl a n
def Qp(a:List (Nat×Ob)):List (Nat×Ob)->List Nat
 |[]=>[]
 |(i,_)::r=>bif (ac a i).isSome then Qp a r else i::Qp a r
def mkM(d:St)(b a:List (Nat×Ob)):List (Nat×Nat):=match Qp b a with
 |[]=>[]
 |l=>l.zip (Gl d d.n)
section
variable (X:Job->Option Out)
def mX(d:St)(h:Option Nat)(m:SV)(e:List Opd):Option St:=match SB d m e with
 |none=>none
 |some (k,vals)=>
  let ids:=Ht d.objs 200 (B0 vals) []
  let ρ':=ids.map fun i=>(i,1000+i)
  let b:=Kg d.objs ρ' ids
  let ro:=(ids.filter d.ro.contains).map (1000 + ·)
  match X (.mc d.gl k (wj ρ' vals) b ro)with
  |some (.mc f a g)=>
   let ρ:=ids.map (fun i=>(1000+i,i))++mkM d b a
   bif mOk d ρ ⟨wj ρ' vals,b,f,a,g,ro⟩&&(abB ρ ρ' ids&&(zc ids (B0 vals)&&Ea d.objs ids ids))then some (d.mapply h ρ ⟨wj ρ' vals,b,f,a,g,ro⟩ [])else none
  |_=>none
def cX(e:St)(b:Option Nat)(f:SV)(a:List Opd):Option Upd:=match fa e f a with
 |some (g,d,h)=>match X (.fn e.gl g d)with
  |some (.res r)=>jz b h r
  |_=>none
 |none=>none
def opX(d:St)(b:Option Nat):VOp->Option Upd
 |.call f a=>cX X d b (.val (.fn f [])) a
 |.callV f a=>cX X d b (val d f) a
 |op=>match ev d b op with
  |some u=>match u.dec with
   |.isTrue _=>some u
   |.isFalse _=>none
  |none=>none
def VA(d:St)(b:Option Nat):VOp->Option St
 |.callM f a=>mX X d b (.val (.fn f [])) a
 |.callMV f a=>mX X d b (val d f) a
 |op=>match opX X d b op with
  |some u=>some (d.apply b u)
  |none=>none
def xT:List VOper->St->Option St
 |[],a=>some a
 |o::r,a=>match o.guard with
  |none=>match opX X a o.dst o.op with
   |some u=>xT r (a.apply o.dst u)
   |none=>none
  |some (g,b)=>match kA (aE a.env g)with
   |some c=>if c=some b then (match opX X a o.dst o.op with
     |some u=>xT r (a.apply o.dst u)
     |none=>none)else xT r (a.apply o.dst j6)
   |none=>none
def xM:List VOper->St->Option St
 |[],d=>some d
 |o::r,d=>match o.guard with
  |none=>match VA X d o.dst o.op with
   |some a=>xM r a
   |none=>none
  |some (g,b)=>match kA (aE d.env g)with
   |some c=>if c=some b then (match VA X d o.dst o.op with
     |some a=>xM r a
     |none=>none)else xM r (d.apply o.dst j6)
   |none=>none
def xD(d:St)(ps ms:List (Nat×Nat)):List VOper->St->List Eff->Option St
 |[],a,e=>bif yW d ps ms e then some a else none
 |o::r,a,e=>match o.guard with
  |none=>match opX X a o.dst o.op with
   |some u=>xD d ps ms r (a.apply o.dst u) (e++[⟨fF a o.op u,o.dst,u⟩])
   |none=>none
  |some (g,b)=>match kA (aE a.env g)with
   |some c=>if c=some b then (match opX X a o.dst o.op with
     |some u=>xD d ps ms r (a.apply o.dst u) (e++[⟨fF a o.op u,o.dst,u⟩])
     |none=>none)else xD d ps ms r (a.apply o.dst j6) (e++[⟨[],o.dst,j6⟩])
   |none=>none
def xDM(a:St)(ps ms:List (Nat×Nat)):List VOper->St->List Eff->Option St
 |[],_,_=>none
 |[o],b,d=>bif yW a (cutP d.length ps) (cutP d.length ms) d then xM X [o] b else none
 |o::o2::r,b,d=>match o.guard with
  |none=>match opX X b o.dst o.op with
   |some u=>xDM a ps ms (o2::r) (b.apply o.dst u) (d++[⟨fF b o.op u,o.dst,u⟩])
   |none=>none
  |some _=>none
def xR(a:List VOper)(b:St):RMode->Option St
 |.text=>xM X a b
 |.calm=>xT X a b
 |.drawn ps ms=>xD X b ps ms a b []
 |.drawnM ps ms=>xDM X b ps ms a b []
def xw:VCode->St->Option (Exit×St)
 |.skip,d=>some (.normal,d)
 |.region m g h,d=>match xR X m d g with
  |some f=>some (.normal,f.drop h)
  |none=>none
 |.seq a b,d=>match xw a d with
  |some (.normal,f)=>xw b f
  |r=>r
 |.cond c a b,d=>match val d c with
  |.val (.bool true)=>xw a d
  |.val (.bool false)=>xw b d
  |_=>none
 |.block id a,d=>match xw a d with
  |some (.exit i,f)=>if i=id then some (.normal,f)else some (.exit i,f)
  |r=>r
 |.loop a,d=>match X (.loop a d)with
  |some (.lp e f)=>some (e,f)
  |_=>none
 |.exit id,d=>some (.exit id,d)
 |.scope a,d=>match xw a d with
  |some (.goto _,_)=>none
  |r=>r
 |.label _,d=>some (.normal,d)
 |.goto l,d=>some (.goto l,d)
 |.ret,d=>some (.ret,d)
 |.refuse,_=>none
 |.cut a,d=>xw a d
end
section
variable {P:Program} {X:Job->Option Out} (hX:∀j o,X j=some o->E8 P j o)
include hX
theorem SU{b e:St}{f:Option Nat}{q:SV}{d:List Opd}(h:mX X b f q d=some e){K:St->Prop}(u:K e):SC P b f q d K:=by
 unfold mX at h;split at h
 .cases h
 next k vals w=>
 dsimp only at h;split at h
 .next m a p y=>
  have hF:=hX _ _ y;generalize Ht b.objs 200 (B0 vals) []=ids at *;generalize z:(ids.map (fun i=>(1000+i,i))++mkM b (Kg b.objs (ids.map fun i=>(i,1000+i)) ids) a)=ρ at *;generalize (ids.map fun i=>(i,1000+i))=ρ' at *;cases g:(mOk b ρ ⟨wj ρ' vals,Kg b.objs ρ' ids,m,a,p,(ids.filter b.ro.contains).map (1000 + ·)⟩&&(abB ρ ρ' ids&&(zc ids (B0 vals)&&Ea b.objs ids ids)))with
  |false=>rw[g]at h;cases h
  |true=>
   rw[g]at h;cases h;simp only[Bool.and_eq_true]at g;obtain⟨A,s,B,C⟩:=g;exact⟨k,vals,_,ρ,[],w,hF,A,D3 (Kh s) (fun _ x=>x) C,Gk (Kh s) B,X9,u⟩
 cases h
theorem SW{f:St}{b:Option Nat}{i:SV}{a:List Opd}{u:Upd}(h:cX X f b i a=some u){K:Upd->Prop}(q:K u):match fa f i a with
  |some (g,d,m)=>∃r,CV f.gl P g d r/\match jz b m r with
   |some u=>K u
   |none=>False
  |none=>False:=by
 unfold cX at h;cases e:fa f i a with
 |none=>rw[e]at h;cases h
 |some p=>
  obtain⟨g,d,m⟩:=p;rw[e]at h;dsimp only at h |-;split at h
  .next r s=>exact⟨_,hX _ _ s,by rw[h];exact q⟩
  cases h
theorem AK{d:St}{a:Option Nat}{b:VOp}{u:Upd}(h:opX X d a b=some u){K:Upd->Prop}(e:K u):ey P d a K b:=by
 have plain:(match ev d a b with
   |some u=>match u.dec with
    |.isTrue _=>some u
    |.isFalse _=>none
   |none=>none)=some u->(match ev d a b with
   |some u=>u.side/\K u
   |none=>False):=by
  intro h;split at h
  .split at h
   .next g _=>cases h;exact⟨g,e⟩
   cases h
  cases h
 cases b
 case call f args=>exact SW hX h e
 case callV f args=>exact SW hX h e
 all_goals exact plain h
theorem VB{d:St}{a:Option Nat}{e:VOp}{b:St}(h:VA X d a e=some b){K:St->Prop}(g:K b):pg P d a K e:=by
 cases e
 case callM f args=>exact SU hX (by simpa only [VA]using h) g
 case callMV f args=>exact SU hX (by simpa only [VA]using h) g
 all_goals
  simp only[VA]at h;split at h
  .next u i=>cases h;exact AK hX i (K:=fun u=>K (d.apply a u)) g
  cases h
theorem Ki:∀ {e:List VOper} {d a:St},xT X e d=some a->∀ {K:St->Prop},K a->pI P K e d
 |[],d,a,h,K,i=>by cases h;exact i
 |o::r,d,a,h,K,i=>by
  unfold xT at h;unfold pI
  have f:(match opX X d o.dst o.op with
    |some u=>xT X r (d.apply o.dst u)
    |none=>none)=some a->ey P d o.dst (fun u=>pI P K r (d.apply o.dst u)) o.op:=by
   intro h;split at h
   .next u w=>exact AK hX w (Ki h i)
   cases h
  cases q:o.guard with
  |none=>rw[q]at h;exact f h
  |some p=>
   obtain⟨g,b⟩:=p;rw[q]at h;dsimp only at h |-;cases s:kA (aE d.env g)with
   |none=>rw[s]at h;cases h
   |some c=>
    rw[s]at h;dsimp only at h |-;split at h
    .next m=>exact⟨fun _=>f h,fun x=>absurd m x⟩
    next m=>exact⟨fun y=>absurd y m,fun _=>Ki h i⟩
theorem Eb:∀ {e:List VOper} {d a:St},xM X e d=some a->∀ {K:St->Prop},K a->j9 P K e d
 |[],d,a,h,K,i=>by cases h;exact i
 |o::r,d,a,h,K,i=>by
  unfold xM at h;unfold j9
  have f:(match VA X d o.dst o.op with
    |some a=>xM X r a
    |none=>none)=some a->pg P d o.dst (j9 P K r) o.op:=by
   intro h;split at h
   .next u w=>exact VB hX w (Eb h i)
   cases h
  cases q:o.guard with
  |none=>rw[q]at h;exact f h
  |some p=>
   obtain⟨g,b⟩:=p;rw[q]at h;dsimp only at h |-;cases s:kA (aE d.env g)with
   |none=>rw[s]at h;cases h
   |some c=>
    rw[s]at h;dsimp only at h |-;split at h
    .next m=>exact⟨fun _=>f h,fun x=>absurd m x⟩
    next m=>exact⟨fun y=>absurd y m,fun _=>Eb h i⟩
theorem Kj{d:St}{ps ms:List (Nat×Nat)} : ∀ {m:List VOper} {e a:St} {f:List Eff},xD X d ps ms m e f=some a->∀ {K:St->Prop},K a->pH P (fun f a=>yW d ps ms f=true/\K a) m e f
 |[],e,a,f,h,K,s=>by
  unfold xD at h;cases i:yW d ps ms f with
  |false=>rw[i]at h;cases h
  |true=>rw[i]at h;cases h;exact⟨i,s⟩
 |o::r,e,a,f,h,K,s=>by
  unfold xD at h;unfold pH
  have q:(match opX X e o.dst o.op with
    |some u=>xD X d ps ms r (e.apply o.dst u) (f++[⟨fF e o.op u,o.dst,u⟩])
    |none=>none)=some a->ey P e o.dst (fun u=>pH P (fun f a=>yW d ps ms f=true/\K a) r (e.apply o.dst u) (f++[⟨fF e o.op u,o.dst,u⟩])) o.op:=by
   intro h;split at h
   .next u y=>exact AK hX y (Kj h s)
   cases h
  cases x:o.guard with
  |none=>rw[x]at h;exact q h
  |some p=>
   obtain⟨g,b⟩:=p;rw[x]at h;dsimp only at h |-;cases i:kA (aE e.env g)with
   |none=>rw[i]at h;cases h
   |some c=>
    rw[i]at h;dsimp only at h |-;split at h
    .next w=>exact⟨fun _=>q h,fun z=>absurd w z⟩
    next w=>exact⟨fun A=>absurd A w,fun _=>Kj h s⟩
theorem OP{d:St}{ps ms:List (Nat×Nat)} : ∀ {e:List VOper} {f a:St} {b:List Eff},xDM X d ps ms e f b=some a->∀ {K:St->Prop},K a->uD P K d ps ms e f b
 |[],f,a,b,h,K,g=>by cases h
 |[o],f,a,b,h,K,g=>by
  unfold xDM at h;cases i:yW d (cutP b.length ps) (cutP b.length ms) b with
  |false=>rw[i]at h;cases h
  |true=>rw[i]at h;exact⟨i,Eb hX h g⟩
 |o::o2::r,f,a,b,h,K,g=>by
  unfold xDM at h;unfold uD;cases m:o.guard with
  |none=>
   rw[m]at h;dsimp only at h |-;split at h
   .next u q=>exact AK hX q (OP h g)
   cases h
  |some p=>rw[m]at h;cases h
end
theorem Hu{P:Program}{v:VCode}{Q:Exit->St->Prop}{d b:St}(f:cJ d b)(e:b.n=d.n){n:Nat}(h:∀c,comp P c=some v.strip->v.bnd b.n=true->∀(w0:World) (S0:bb) (M:Ctx) (a:Act) (w:World),gc w0 S0 M b a w->Code.rounds P c (DY w0 S0 M b.n Q) n a w) :
  ∀c,comp P c=some v.strip->v.bnd d.n=true->∀(w0:World) (S0:bb) (M:Ctx) (a:Act) (w:World),gc w0 S0 M d a w->Code.rounds P c (DY w0 S0 M d.n Q) n a w:=by
 intro c g i w0 S0 M a w m;have:=h c g (by rw[e];exact i) w0 S0 M a w (f _ _ _ _ _ m);rw[e]at this;exact this
theorem Hv{P:Program}(hm:P.follows .mixedOrders=true){v:VCode}{Q:Exit->St->Prop}{f:St}{n:Nat}(h:pw P v (fun e b=>match e with
   |.normal=>∀c,comp P c=some v.strip->v.bnd b.n=true->∀(w0:World) (S0:bb) (M:Ctx) (a:Act) (w:World),gc w0 S0 M b a w->Code.rounds P c (DY w0 S0 M b.n Q) n a w
   |e=>Q e b) f):∀c,comp P c=some v.strip->v.bnd f.n=true->∀(w0:World) (S0:bb) (M:Ctx) (a:Act) (w:World),gc w0 S0 M f a w->Code.rounds P c (DY w0 S0 M f.n Q) (n+1) a w:=by
 intro c g i w0 S0 M a w p;refine wp_mono (kK hm v h c g i w0 S0 M a w p) (fun e q s d=>?_);cases e with
 |normal=>
  obtain⟨b,u,m,x⟩:=d;have:=u c g (by rw[m];exact i) w0 S0 M q s x;rw[m]at this;exact this
 |exit=>exact d
 |goto=>exact d
 |ret=>exact d
 |panic=>exact d
 |outgrown=>exact d
section
variable {P:Program} (hm:P.follows .mixedOrders=true) {X:Job->Option Out} (hX:∀j o,X j=some o->E8 P j o)
include hm hX
omit hm in
theorem abC{e:List VOper}{g a:St}{d:RMode}{b:List Nat}(h:xR X e g d=some a){Q:Exit->St->Prop}(f:Q .normal (a.drop b)):pw P (.region e d b) Q g:=by
 cases d with
 |text=>exact Eb hX h (K:=fun a=>Q .normal (a.drop b)) f
 |calm=>exact Ki hX h (K:=fun a=>Q .normal (a.drop b)) f
 |drawn ps ms=>exact Kj hX h (K:=fun a=>Q .normal (a.drop b)) f
 |drawnM ps ms=>exact OP hX h (K:=fun a=>Q .normal (a.drop b)) f
theorem ja:∀(v:VCode) {g d:St} {e:Exit},xw X v g=some (e,d)->∀ {Q:Exit->St->Prop},Q e d->pw P v Q g
 |.skip,g,d,e,h,Q,f=>by cases h;exact f
 |.region L I K,g,d,e,h,Q,f=>by
  simp only[xw]at h;split at h
  .next m y=>cases h;exact abC hX y f
  cases h
 |.seq a b,g,d,e,h,Q,f=>by
  simp only[xw]at h;split at h
  .next m z=>exact ja a z (ja b h f)
  next q=>
  refine ja a h ?_;cases e with
  |normal=>exact absurd h (by simpa using q d)
  |_=>exact f
 |.cond c a b,g,d,e,h,Q,f=>by
  simp only[xw]at h;simp only[pw];split at h
  .next A=>rw[A];exact⟨fun _=>ja a h f,fun h=>by cases h⟩
  .next A=>rw[A];exact⟨fun h=>(by cases h),fun _=>ja b h f⟩
  cases h
 |.block id a,g,d,e,h,Q,f=>by
  simp only[xw]at h;split at h
  .next i m z=>
   refine ja a z ?_;split at h
   .next B=>cases h;dsimp only;rw[if_pos B];exact f
   next B=>cases h;dsimp only;rw[if_neg B];exact f
  next q=>
  refine ja a h ?_;cases e with
  |exit i=>exact absurd h (by simpa using q i d)
  |_=>exact f
 |.loop a,g,d,e,h,Q,f=>by
  simp only[xw]at h;split at h
  .next e1 m N=>
   cases h;obtain⟨n,y⟩:=hX _ _ N;intro c C D w0 S0 M s w E;obtain⟨p,rfl,H⟩:=aH C;exact wp_loop_rounds n (y Q f p H D w0 S0 M s w E)
  cases h
 |.exit id,g,d,e,h,Q,f=>by cases h;exact f
 |.scope a,g,d,e,h,Q,f=>by
  simp only[xw]at h;intro c C D w0 S0 M s w E;obtain⟨p,rfl,H⟩:=aH C;split at h
  .cases h
  next q=>
  refine wp_scope_straight (wp_mono (kK hm a (ja a h (Q:=fun e1 m=>Q e1 m/\e1=e) ⟨f,rfl⟩) p H D w0 S0 M s w E) (fun e1 V W x=>?_));cases e1 with
  |goto l=>
   obtain⟨u,⟨_,O⟩,_⟩:=x;subst O;exact absurd h (by simpa using q l d)
  |panic=>exact x.elim
  |outgrown=>exact x.elim
  |_=>
   obtain⟨u,⟨R,_⟩,S,U⟩:=x;exact⟨u,R,S,U⟩
 |.label _,g,d,e,h,Q,f=>by cases h;exact f
 |.goto l,g,d,e,h,Q,f=>by cases h;exact f
 |.ret,g,d,e,h,Q,f=>by cases h;exact f
 |.refuse,g,d,e,h,Q,f=>by cases h
 |.cut a,g,d,e,h,Q,f=>kK hm a (ja a h f)
end
end Go.Vs
namespace Go.Vs
def VOp.isM:VOp->Bool
 |.callM _ _=>true
 |.callMV _ _=>true
 |_=>false
def abD:List VOper->Bool
 |[]=>false
 |o::r=>o.op.isM||abD r
def OQ:RMode->Bool
 |.drawnM _ _=>false
 |_=>true
def pJ:VCode->Bool
 |.region f d e=>!abD f&&(OQ d&&e.isEmpty)
 |.seq a b=>pJ a&&pJ b
 |.cond _ a b=>pJ a&&pJ b
 |.block _ a=>pJ a
 |.loop a=>pJ a
 |.scope a=>pJ a
 |.cut _=>false
 |_=>true
theorem Kk:∀ {a:List VOper},abD a=false->aV a=a
 |[],_=>rfl
 |⟨d,b,g⟩::r,h=>by
  simp only[abD,Bool.or_eq_false_iff]at h;have:b.strip=b:=by cases b<;>first|rfl|(exact absurd h.1 (by simp[VOp.isM]))
  simp only[aV,VOper.strip,this,Kk h.2]
theorem jv:∀ {v:VCode},pJ v=true->v.strip=v
 |.region f d e,h=>by
  simp only[pJ,Bool.and_eq_true,Bool.not_eq_true',List.isEmpty_iff]at h;obtain⟨g,i,rfl⟩:=h;have:d.strip=d:=by cases d<;>first|rfl|(exact absurd i (by simp[OQ]))
  simp only[VCode.strip,Kk g,this]
 |.seq a b,h=>by simp only[pJ,Bool.and_eq_true]at h;simp only[VCode.strip,jv h.1,jv h.2]
 |.cond _ a b,h=>by simp only[pJ,Bool.and_eq_true]at h;simp only[VCode.strip,jv h.1,jv h.2]
 |.block _ a,h=>by simp only[VCode.strip,jv (v:=a) h]
 |.loop a,h=>by simp only[VCode.strip,jv (v:=a) h]
 |.scope a,h=>by simp only[VCode.strip,jv (v:=a) h]
 |.skip,_=>rfl
 |.exit _,_=>rfl
 |.label _,_=>rfl
 |.goto _,_=>rfl
 |.ret,_=>rfl
 |.refuse,_=>rfl
def VC(b:List Nat)(d:Bool):VOp->VOp
 |.call f a=>bif b.contains f then .callM f a else .call f a
 |op=>op
def Ec(a:List Nat)(b:Bool):List VOper->List VOper
 |[]=>[]
 |o::r=>⟨o.dst,VC a b o.op,o.guard⟩::Ec a b r
def SX(b:Bool):RMode->RMode
 |.drawn p m=>bif b then .drawnM p m else .drawn p m
 |m=>m
def xd(d:List Nat)(e:Bool):VCode->VCode
 |.region f g h=>.region (Ec d e f) (SX (abD (Ec d e f)) g) h
 |.seq a b=>.seq (xd d e a) (xd d e b)
 |.cond c a b=>.cond c (xd d e a) (xd d e b)
 |.block id a=>.block id (xd d e a)
 |.loop a=>.loop (xd d e a)
 |.scope a=>.scope (xd d e a)
 |.cut a=>.cut (xd d e a)
 |c=>c
theorem Bm{b:List Nat}{h:Bool} : ∀ {ops:List VOper},aV (Ec b h ops)=aV ops
 |[]=>rfl
 |⟨d,e,g⟩::r=>by
  have:(VC b h e).strip=e.strip:=by
   cases e
   case call f a=>simp only[VC];cases b.contains f<;>rfl
   all_goals rfl
  simp only[Ec,aV,VOper.strip,this,Bm (ops:=r)]
theorem jB{f:List Nat}{g:Bool} : ∀ {v:VCode},(xd f g v).strip=v.strip
 |.region h d e=>by
  have:∀b,(SX b d).strip=d.strip:=by intro b;cases d<;>cases b<;>rfl
  simp only[xd,VCode.strip,Bm,this]
 |.seq a b=>by simp only[xd,VCode.strip,jB (v:=a),jB (v:=b)]
 |.cond _ a b=>by simp only[xd,VCode.strip,jB (v:=a),jB (v:=b)]
 |.block _ a=>by simp only[xd,VCode.strip,jB (v:=a)]
 |.loop a=>by simp only[xd,VCode.strip,jB (v:=a)]
 |.scope a=>by simp only[xd,VCode.strip,jB (v:=a)]
 |.cut a=>by simp only[xd,VCode.strip,jB (v:=a)]
 |.skip=>rfl
 |.exit _=>rfl
 |.label _=>rfl
 |.goto _=>rfl
 |.ret=>rfl
 |.refuse=>rfl
def ahH(P:Program)(b d:List Nat)(k:FuncId):Option (VCode×List VRes×Nat):=match P.funcs[k]? with
 |none=>none
 |some a=>if a.name = "runtime.NumGoroutine" then none else match a.body with
  |none=>none
  |some c=>match comp P c,cw P a.results.toList with
   |some v,some rs=>bif pJ v&&(xd b (d.contains k) v).bnd a.ntmps then some (xd b (d.contains k) v,rs,a.ntmps)else none
   |_,_=>none
theorem aeW{P:Program}{d e:List Nat}{k:FuncId}{v:VCode}{rs:List VRes}{n:Nat}(h:ahH P d e k=some (v,rs,n)):FnOk P k v rs n:=by
 unfold ahH at h;split at h
 .cases h
 next f i=>
 split at h
 .cases h
 next a=>
 split at h
 .cases h
 next c m=>
 split at h
 .next g p q s=>
  cases b:(pJ g&&(xd d (e.contains k) g).bnd f.ntmps)with
  |false=>rw[b]at h;cases h
  |true=>
   rw[b]at h;cases h;simp only[Bool.and_eq_true]at b;exact⟨f,c,i,a,m,by rw[jB,jv b.1];exact q,b.2,s,rfl⟩
 cases h
def nub{a:Type} : Nat->List (Nat×a)->List (Nat×a)
 |_,[]=>[]
 |m,(k,v)::r=>bif Nat.testBit m k then nub m r else (k,v)::nub (m ||| 1 <<< k) r
theorem Ed{d:Type} : ∀ {l:List (Nat×d)} {m k:Nat},ac (nub m l) k=if m.testBit k then none else ac l k
 |[],m,k=>by simp[nub,ac]
 |(j,v)::r,m,k=>by
  simp only[nub];cases b:Nat.testBit m j with
  |true=>
   simp only[cond_true,Ed (l:=r),ac];cases a:j==k with
   |true=>rw[beq_iff_eq]at a;subst a;simp[b]
   |false=>simp
  |false=>
   simp only[cond_false,ac,Ed (l:=r)];cases a:j==k with
   |true=>rw[beq_iff_eq]at a;subst a;simp[b]
   |false=>
    have e:j≠k:=by simpa using a
    have:(m ||| 1 <<< j).testBit k=m.testBit k:=by
     rw[Nat.testBit_or,Nat.testBit_shiftLeft];rcases Nat.lt_or_ge k j with f|g
     .have:¬j<=k:=by omega
      simp[this]
     have:(1:Nat).testBit (k-j)=false:=by
      rw[show k-j=(k-j-1)+1 by omega,Nat.testBit_add_one];simp
     simp[this]
    simp only[cond_false,this]
def St.norm(a:St):St:=⟨nub 0 a.env,nub 0 a.objs,a.ro,a.n,a.gl⟩
theorem OR{d b:St}(f:b.n=d.n)(e:b.gl=d.gl)(g:∀k,aE b.env k=.undef\/aE b.env k=aE d.env k)(m:∀k o,ac b.objs k=some o->ac d.objs k=some o)(p:∀i o,ac b.objs i=some o->i∈d.ro->i∈b.ro):cJ d b:=by
 rintro w0 S0 M a w ⟨S,q,s,h⟩;exact⟨S,q,s,h.drop f e p g m⟩
theorem OS(a:St):cJ a a.norm:=
 OR rfl rfl (fun k=>.inr (by simp[St.norm,aE,Ed])) (fun k o h=>by simpa[St.norm,Ed]using h) (fun _ _ _ h=>h)
def OT:Exit->Bool
 |.normal=>true
 |.ret=>true
 |_=>false
def agN(b:St)(rs:List VRes):Option Out:=match K8 b rs with
 |some (s,a)=>some (.res (.own s a))
 |none=>match K7 b rs with
  |some v=>some (.res (.imm v))
  |none=>none
def abE(a:St)(ids:List Nat):St:=⟨a.env,E9 a.objs ids,ids.filter a.ro.contains,a.n,a.gl⟩
def Kl:SV->Bool
 |.tup _=>true
 |_=>false
theorem SY{b:St}{rs:List VRes}{a:SV}(h:Kl a=false):Na b rs a=aa2 b rs:=by cases a<;>first|rfl|cases h
theorem Xa{b:St}{rs:List VRes}{a:SV}(h:Kl a=true):Na b rs a=Na b rs (.tup []):=by cases a<;>first|rfl|cases h
theorem aeX{e:St}{rs:List VRes}{a b:SV}(h:Kl a=Kl b):Na e rs a=Na e rs b:=by
 cases d:Kl b with
 |true=>rw[Xa (h.trans d),Xa d]
 |false=>rw[SY (h.trans d),SY d]
def SZ(b:St)(rs:List VRes)(ids:List Nat)(d:SV):Option Out:=match Na (abE b ids) rs d with
 |some (a,e)=>if Kl d=Kl a then some (.mc a (E9 b.objs ids) (e++ids.filter b.ro.contains))else none
 |none=>none
def Qq(a:St):List VRes->List Nat
 |[]=>[]
 |.cell t _::r=>(aE a.env t).ids++Qq a r
 |_::r=>Qq a r
def ai3(b:St)(rs:List VRes)(a:List (Nat×Ob)):Option Out:=match rs with
 |_::_::_=>match sY b rs with
  |some l=>SZ b rs (Ht b.objs 200 (a.map (·.1)++(Qq b rs++B0 l)) []) (.tup l)
  |none=>SZ b rs (Ht b.objs 200 (a.map (·.1)) []) .undef
 |_=>match aa2 b rs with
  |some (d,_)=>SZ b rs (Ht b.objs 200 (a.map (·.1)++(Qq b rs++d.ids)) []) d
  |none=>none
theorem Km{a:List (Nat×Ob)}{l:List Nat} : ∀k o,ac (E9 a l) k=some o->ac a k=some o/\k∈l:=by
 induction l with
 |nil=>intro k o h;simp[E9,ac]at h
 |cons i r b=>
  intro k o h;unfold E9 at h;split at h
  .next o1 e=>
   simp only[ac]at h;cases d:i==k with
   |true=>
    rw[d]at h;rw[beq_iff_eq]at d;subst d;cases h;exact⟨e,by simp⟩
   |false=>rw[d]at h;exact⟨(b k o h).1,List.mem_cons_of_mem _ (b k o h).2⟩
  exact⟨(b k o h).1,List.mem_cons_of_mem _ (b k o h).2⟩
theorem YY(a:St)(ids:List Nat):cJ a (abE a ids):=
 OR rfl rfl (fun _=>.inr rfl) (fun k o h=>(Km k o h).1) (fun i o h b=>List.mem_filter.2 ⟨(Km i o h).2,by simpa using b⟩)
section
variable (F:FuncId->Option (VCode×List VRes×Nat)) (T:Job->Option Out)
def T0(X:Job->Option Out):Job->Option Out
 |.fn f k a=>match T (.fn f k a)with
  |some o=>some o
  |none=>match F k with
   |some (v,rs,n)=>bif Nat.ble a.length n then (match xw X v (st0 f a n)with
     |some (e,g)=>bif OT e then agN g rs else none
     |none=>none)else none
   |none=>none
 |.mc f k a b ro=>match T (.mc f k a b ro)with
  |some o=>some o
  |none=>match F k with
   |some (v,rs,n)=>bif Nat.ble a.length n&&Yz n b then (match xw X v ⟨E4 0 a,b,ro,n,f⟩with
     |some (e,g)=>bif OT e then ai3 g rs b else none
     |none=>none)else none
   |none=>none
 |.loop v g=>match xw X v g.norm with
  |some (.normal,d)=>X (.loop v d)
  |some (e,d)=>some (.lp e d)
  |none=>none
def ahJ:Nat->Job->Option Out
 |0,_=>none
 |n+1,j=>T0 F T (ahJ n) j
variable {F T} {P:Program} (hm:P.follows .mixedOrders=true) (hF:∀k v rs n,F k=some (v,rs,n)->FnOk P k v rs n) (hT:∀j o,T j=some o->E8 P j o)
include hm hF hT
theorem abF{X:Job->Option Out}(hX:∀j o,X j=some o->E8 P j o):∀j o,T0 F T X j=some o->E8 P j o:=by
 intro j o h;cases j with
 |fn y k a=>
  simp only[T0]at h;split at h
  .next q=>cases h;exact hT _ _ q
  split at h
  .next v rs n z=>
   cases f:Nat.ble a.length n with
   |false=>rw[f]at h;cases h
   |true=>
    rw[f]at h;simp only[cond_true]at h;split at h
    .next e b i=>
     cases m:OT e with
     |false=>rw[m]at h;cases h
     |true=>
      rw[m]at h;simp only[cond_true,agN]at h;have u:∀r,zb rs r e b->CV y P k a r:=fun r w=>ae hm (hF _ _ _ _ z) (Nat.le_of_ble_eq_true f) (ja hm hX v i w)
      have g:∀r,zb rs r .normal b->zb rs r e b:=by
       intro r w;cases e<;>first|exact w|(exact absurd m (by simp[OT]))
      split at h
      .next s H x=>cases h;exact u _ (g _ x)
      split at h
      .next x=>cases h;exact u _ (g _ x)
      cases h
    cases h
  cases h
 |mc y k a d ro=>
  simp only[T0]at h;split at h
  .next q=>cases h;exact hT _ _ q
  split at h
  .next v rs n z=>
   cases f:(Nat.ble a.length n&&Yz n d)with
   |false=>rw[f]at h;cases h
   |true=>
    rw[f]at h;simp only[Bool.and_eq_true]at f;simp only[cond_true]at h;split at h
    .next e b i=>
     cases m:OT e with
     |false=>rw[m]at h;cases h
     |true=>
      rw[m]at h;simp only[cond_true]at h
      have p:∀ids I,SZ b rs ids I=some o->E8 P (.mc y k a d ro) o:=by
       intro ids I h;unfold SZ at h;split at h
       .next res A K=>
        split at h
        .next q=>
         cases h;have:cI rs ⟨a,d,res,E9 b.objs ids,A++ids.filter b.ro.contains,ro⟩ .normal b:=⟨abE b ids,A,YY b ids,rfl,(aeX q).symm.trans K,rfl⟩
         have w:cI rs ⟨a,d,res,E9 b.objs ids,A++ids.filter b.ro.contains,ro⟩ e b:=by
          cases e<;>first|exact this|(exact absurd m (by simp[OT]))
         exact aK hm (hF _ _ _ _ z) (Nat.le_of_ble_eq_true f.1) f.2 (ja hm hX v i w)
        cases h
       cases h
      unfold ai3 at h;split at h
      .split at h
       .exact p _ _ h
       exact p _ _ h
      split at h
      .exact p _ _ h
      cases h
    cases h
  cases h
 |loop v b=>
  simp only[T0]at h;split at h
  .next B i=>
   have C:=hX _ _ h;cases o with
   |res=>exact C.elim
   |mc=>exact C.elim
   |lp e L=>
    obtain⟨n,x⟩:=C;refine⟨n+1,fun Q D=>Hu (OS b) rfl (Hv hm (ja hm hX v i (x Q D)))⟩
  .next e B E i=>
   cases h;refine⟨1,fun Q D=>Hu (OS b) rfl (Hv hm (ja hm hX v i ?_))⟩;cases e with
   |normal=>exact(E rfl).elim
   |_=>exact D
  cases h
theorem Xb:∀(n:Nat) (j:Job) (o:Out),ahJ F T n j=some o->E8 P j o
 |0,_,_,h=>by cases h
 |n+1,j,o,h=>abF hm hF hT (Xb n) j o h
end
theorem D4{P:Program}(hm:P.follows .mixedOrders=true)(a b:List Nat){T:Job->Option Out}(hT:∀j o,T j=some o->E8 P j o)(n:Nat){gl:List (Nat×List IV)}{k:FuncId}{args:List IV}{r:Res}
  (h:ahJ (ahH P a b) T n (.fn gl k args)=some (.res r)):CV gl P k args r:=
 Xb hm (fun _ _ _ _ h=>aeW h) hT n _ _ h
end Go.Vs
namespace Go.Vs
def dr(ro:Option Nat):Fence:={Fence.wide with round:=ro }
theorem abG{ro:Option Nat}{n:Nat}{P:Program}{k:FuncId}{args:Array Value}{w:World}{R:Ending->World->Prop}(h:Calls P k args w R):CallsIn (dr ro) n P k args w R:=by
 have a:CallsIn Fence.wide n P k args w R:=callsIn_wide.2 h;cases ro with
 |none=>exact a
 |some l=>exact CallsIn.inRound l a
theorem ai4{ro:Option Nat}{n:Nat}{P:Program}{b:String}{a:Array Value}{w:World}{R:Value->World->Prop}(h:Rows P b a w R):RowsIn (dr ro) n P b a w R:=by
 intro c cs _;obtain⟨v,d,f,g⟩:=h c cs;refine⟨v,d,f,?_⟩;have e:StepsIn (Machine.fenced P Fence.wide) P (lone (Frame.ofRow P b a .normal) (c::cs) w) (lone (c.finish v) cs d):=stepsIn_wide.2 g;cases ro with
 |none=>exact e
 |some l=>exact e
def Op.noDef:Op->Bool
 |.defer _=>false
 |_=>true
def ml(l:List Oper):Bool:=l.all fun o=>Op.noDef o.op
theorem Z2{a:Array Oper}(h:ml a.toList=true){i:Nat}{o:Oper}(b:a[i]?=some o):∀c,o.op≠.defer c:=by
 intro c d
 have hm:o∈a.toList:=by
  rw[<-Array.getElem?_toList]at b;exact List.mem_of_getElem? b
 have:=List.all_eq_true.1 h o hm;rw[d]at this;cases this
section
variable {P:Program} {ro:Option Nat} {Q:Exit->Act->World->Prop}
theorem Z3{o:Oper}{a:Act}{w:World}{n:Nat}{next:Act->World->Prop}(b:∀c,o.op≠.defer c)(h:o.wp P a w next Q):o.wpIn (dr ro) n P a w next Q:=by
 refine⟨fun _ _=>trivial,?_⟩;have d:(dr ro).round=ro:=rfl;rw[d,Oper.semAt_eq _ _ _ b];unfold Oper.wp at h;have f:(dr ro).depth.isSome=true->1<=n:=fun h=>by simp[dr,Fence.wide]at h
 generalize (execOp a.eval o).run P w=r at h;cases r with
 |ok x g=>
  cases x<;>simp only[Oper.upon,Oper.uponIn]at h |- <;>
   first
    |exact h
    |exact⟨f,abG (h.mono fun e i m=>by cases e<;>exact m)⟩
    |exact⟨f,ai4 h⟩
 |halt x g=>cases x<;>simp only[Oper.upon,Oper.uponIn]at h |-<;>exact h
theorem Qr{b:Array Oper}{i:Nat}{K m:Act->World->Prop}(p:∀a w,¬Q .outgrown a w)(d:ml b.toList=true)(e:∀a w,K a w->m a w){a:Act}{w:World}(h:wpOp P b Q i K a w):wpOpIn (dr ro) 0 P b Q i m a w:=by
 unfold wpOp at h;unfold wpOpIn;cases f:b[i]? with
 |none=>rw[f]at h;exact e _ _ h
 |some o=>
  rw[f]at h;dsimp only at h |-;split at h
  .next g=>
   rw[if_pos g];rcases h with h|⟨_,q,w0,h⟩
   .exact Oper.wpIn_mono e (Z3 (Z2 d f) h)
   exact absurd h (p _ _)
  next g=>
  rw[if_neg g];exact⟨fun _ _=>trivial,e _ _ h⟩
theorem T1{b:Array Oper}(e:∀a w,¬Q .outgrown a w)(d:ml b.toList=true):∀(l:List Nat) {a:Act} {w:World},wpOps P b Q l a w->wpOpsIn (dr ro) 0 P b Q l a w
 |[],_,_,h=>h
 |i::r,a,w,h=>by
  rw[wpOps_cons]at h;rw[wpOpsIn_cons];exact Qr e d (fun a w h=>T1 e d r h) h
theorem T2{g:Region.Mode}{e:Array Oper}(m:∀a w,¬Q .outgrown a w)(f:ml e.toList=true):∀(d:Nat) {b:Array Bool} {a:Act} {w:World},wpAny P g e Q d b a w->wpAnyIn (dr ro) 0 P g e Q d b a w
 |0,_,_,_,h=>h
 |n+1,_,_,_,h=>⟨h.1,fun i p=>Qr m f (fun a w h=>T2 m f n h) (h.2 i p)⟩
end
def fZ:Code->Bool
 |.region _ d _=>ml d.toList
 |.seq a b=>fZ a&&fZ b
 |.cond _ a b=>fZ a&&fZ b
 |.block _ a=>fZ a
 |_=>true
def VCode.flat:VCode->Bool
 |.seq a b=>a.flat&&b.flat
 |.cond _ a b=>a.flat&&b.flat
 |.block _ a=>a.flat
 |.loop _=>false
 |.scope _=>false
 |.cut _=>false
 |_=>true
def TR(P:Program)(c:Code)(Q:Exit->St->Prop)(b:St):Prop:=∀(ro:Option Nat) (w0:World) (S0:bb) (M:Ctx) (a:Act) (w:World),gc w0 S0 M b a w->c.wpIn (dr ro) 0 P (DY w0 S0 M b.n Q) a w
theorem Xc{w0:World}{S0:bb}{M:Ctx}{N:Nat}{Q:Exit->St->Prop}(a:Act)(w:World):¬DY w0 S0 M N Q .outgrown a w:=fun h=>h
theorem D2.r{P:Program}(hm:P.follows .mixedOrders=true){c:Code}{Q:Exit->St->Prop}{σ:St}(C:fZ c=true)(h:D2 P c Q σ):TR P c Q σ:=by
 obtain⟨id,H,B,rfl,h⟩:=h;intro ro w0 S0 M a w E;have:=h w0 S0 M a w E;cases B with
 |false=>exact wpIn_region (T1 Xc C _ (this.1 rfl))
 |true=>exact wpIn_region_any hm (T2 Xc C _ (this.2 rfl))
theorem OU{P:Program}(hm:P.follows .mixedOrders=true):∀(v:VCode) {Q:Exit->St->Prop} {f:St},v.flat=true->pw P v Q f->∀c,comp P c=some v.strip->fZ c=true->v.bnd f.n=true->TR P c Q f:=by
 intro v
 induction v with
 |skip=>
  intro Q f b h c s m _ ro w0 S0 M a w g;have e:c=Code.skip:=aH s;subst e;exact wpIn_skip ⟨f,h,rfl,g⟩
 |region Z R U=>
  intro Q f b h c s m u;exact(E3 hm s u h).r hm m
 |seq x y z A=>
  intro Q f b h c s m u ro w0 S0 M a w g;obtain⟨p,q,rfl,D,I⟩:=aH s;simp only[VCode.bnd,VCode.flat,fZ,Bool.and_eq_true]at u b m;refine wpIn_seq (wpIn_mono (z b.1 h p D m.1 u.1 ro w0 S0 M a w g) (fun e V W E=>?_));cases e
  case normal=>
   obtain⟨B,C,H,K⟩:=E;have:=A b.2 C q I m.2 (by rw[H];exact u.2) ro w0 S0 M V W K;rw[H]at this;exact this
  all_goals exact E
 |cond o x y z A=>
  intro Q f b h c s m u ro w0 S0 M a w g;obtain⟨p,q,r,rfl,Y,D,I⟩:=aH s;simp only[VCode.bnd,VCode.flat,fZ,Bool.and_eq_true]at u b m;simp only[pw]at h;split at h
  .next t L=>
   obtain⟨S,μ,β,N⟩:=id g;have d:=ax N Y;rw[L]at d;exact wpIn_cond_split d (fun e=>z b.1 (h.1 e) q D m.1 u.1 ro w0 S0 M a w g) (fun e=>A b.2 (h.2 e) r I m.2 u.2 ro w0 S0 M a w g)
  .next L=>
   obtain⟨S,μ,β,N⟩:=id g;have d:=ax N Y;rw[L]at d;obtain⟨t,d⟩:=d;exact wpIn_cond_split d (fun _=>z b.1 h.1 q D m.1 u.1 ro w0 S0 M a w g) (fun _=>A b.2 h.2 r I m.2 u.2 ro w0 S0 M a w g)
  exact h.elim
 |block id x ih=>
  intro Q f b h c s m u ro w0 S0 M a w g;obtain⟨p,rfl,D⟩:=aH s;refine wpIn_block (wpIn_mono (ih b h p D m u ro w0 S0 M a w g) (fun e V W E=>?_));cases e
  case exit i=>
   obtain⟨B,C,H,K⟩:=E;dsimp only at C;simp only[Exit.inBlock];split
   .next O=>rw[if_pos O]at C;exact⟨B,C,H,K⟩
   next O=>rw[if_neg O]at C;exact⟨B,C,H,K⟩
  all_goals exact E
 |loop x _=>intro Q f b;cases b
 |exit id=>
  intro Q f b h c s m _ ro w0 S0 M a w g;have e:c=Code.exit id:=aH s;subst e;exact wpIn_exit ⟨f,h,rfl,g⟩
 |scope x _=>intro Q f b;cases b
 |label l=>
  intro Q f b h c s m _ ro w0 S0 M a w g;have e:c=Code.label l:=aH s;subst e;exact wpIn_label ⟨f,h,rfl,g⟩
 |goto l=>
  intro Q f b h c s m _ ro w0 S0 M a w g;have e:c=Code.goto l:=aH s;subst e;exact wpIn_goto ⟨f,h,rfl,g⟩
 |refuse=>intro Q f b h;exact h.elim
 |cut x _=>intro Q f b;cases b
 |ret=>
  intro Q f b h c s m _ ro w0 S0 M a w g;have e:c=Code.ret:=aH s;subst e;exact wpIn_ret ⟨f,h,rfl,g⟩
def VD(a:St)(e:Nat->Option Nat):Nat->Prop:=fun b=>∃id o,ac a.objs id=some o/\e id=some b
theorem SimG.rebase{w0 w:World}{S0 S:bb}{M:Ctx}{e:St}{a:Act}{g:Nat->Value}{f:Nat->Option Nat}(h:SimG w0 S0 M e a w S g f):SimG w S ⟨VD e f,M.keep,M.at',M.df⟩ e a w S g f:=
 {defers:=h.defers,size:=h.size,env:=h.env,objs:=h.objs,inj:=h.inj,own:=fun id o b i m=>.inr ⟨id,o,i,m⟩,unst:=h.unst,stab:=h.stab,ext:=fun _ _ x=>x,back:=fun _ _ x=>.inl x,kept:=Kept.refl _ _,stay:=fun _ _ _=>rfl,hist:=h.hist,far:=h.far,glob:=h.glob }
theorem SimG.unbase{w0 w s:World}{S0 S u:bb}{M:Ctx}{z f:St}{a y:Act}{D g:Nat->Value}{A m:Nat->Option Nat}{E:List (Nat×SV)}{at':Nat->Value}{H:List Deferred}(h:SimG w0 S0 M z a w S D A)(k:SimG w S ⟨VD z A,E,at',H⟩ f y s u g m)(I:y.defers=M.df)(K:∀p,p∈M.keep->au s u g f.objs p.2 (M.at' p.1))(L:∀p,p∈M.keep->∀d,d<f.n->p.2.noRef d=true):SimG w0 S0 M f y s u g m:=
 {defers:=I,size:=k.size,env:=k.env,objs:=k.objs,inj:=k.inj
  own:=fun id o b N O=>by
   rcases k.own id o b N O with e|⟨i,x,e,q⟩
   .exact .inl (Nat.le_trans h.kept.size e)
   exact h.own i x b e q
  unst:=k.unst,stab:=k.stab,ext:=fun b o x=>k.ext b o (h.ext b o x)
  back:=fun b o x=>by
   rcases k.back b o x with e|e|⟨i,x,e,q⟩
   .exact h.back b o e
   .exact .inr (.inl (Nat.le_trans h.kept.size e))
   exact .inr (h.own i x b e q)
  kept:=⟨k.kept.os.trans h.kept.os,k.kept.tape.trans h.kept.tape,k.kept.output.trans h.kept.output,Nat.le_trans h.kept.size k.kept.size,fun i B hm=>by
   refine(k.kept.block i (Nat.lt_of_lt_of_le B h.kept.size) (fun⟨id,x,e,q⟩=>?_)).trans (h.kept.block i B hm);rcases h.own id x i e q with C|C
   .omega
   exact hm C,fun i x R=>k.kept.shape _ _ (h.kept.shape _ _ R)⟩
  stay:=fun b o x=>(k.stay b o (h.ext b o x)).trans (h.stay b o x)
  hist:=K,far:=L,glob:=k.glob }
def VE(w0 w:World)(M:Ctx)(a:St)(S:bb)(d:Nat->Option Nat)(Z:Nat->Prop):Prop:=∀b,Z b->b<w.heap.size/\w0.heap.size<=b/\¬VD a d b/\∀o,¬S b o
def Iu(w0:World)(S0:bb)(M:Ctx)(b:St)(a:Act)(Z:Nat->Prop)(w:World):Prop:=∃S f e,SimG w0 S0 M b a w S f e/\VE w0 w M b S e Z
def ou(Z:Nat->Prop)(w a:World):Nat->Prop:=fun b=>Z b\/(w.heap.size<=b/\b<a.heap.size)
theorem SimG.other{w0 w w':World}{S0 S:bb}{M:Ctx}{u:St}{a:Act}{μ:Nat->Value}{y:Nat->Option Nat}{Z:Nat->Prop}(h:SimG w0 S0 M u a w S μ y)(B:VE w0 w M u S y Z)(f:Kept Z w w'):SimG w0 S0 M u a w' S μ y/\VE w0 w' M u S y (ou Z w w'):=by
 have g:bM S w w':=⟨fun b o q=>bT (f.block b (h.stab b o q) (fun m=>(B b m).2.2.2 o q)) o,f.shape⟩;refine⟨h.world g (fun _ _ x=>x) (fun id o b C D=>f.block b ((h.objs id o C).live D) (fun m=>(B b m).2.2.1 ⟨id,o,C,D⟩)) (fun _ _ _ _ _ _ x=>x) (fun b o q=>Nat.lt_of_lt_of_le (h.stab b o q) f.size) (fun _ _ x=>.inl x) ?_,?_⟩
 .refine⟨f.os.trans h.kept.os,f.tape.trans h.kept.tape,f.output.trans h.kept.output,Nat.le_trans h.kept.size f.size,fun i E hm=>?_,fun i x H=>f.shape _ _ (h.kept.shape _ _ H)⟩;refine(f.block i (Nat.lt_of_lt_of_le E h.kept.size) (fun m=>?_)).trans (h.kept.block i E hm);have:=(B i m).2.1;omega
 rintro b (m|⟨C,D⟩)
 .obtain⟨I,K,L,N⟩:=B b m;exact⟨Nat.lt_of_lt_of_le I f.size,K,L,N⟩
 refine⟨D,Nat.le_trans h.kept.size C,fun⟨id,o,O,U⟩=>?_,fun o q=>?_⟩
 .have:=(h.objs id o O).live U;omega
 have:=h.stab b o q;omega
theorem Iu.other{w0 w w':World}{S0:bb}{M:Ctx}{f:St}{a:Act}{Z:Nat->Prop}(h:Iu w0 S0 M f a Z w)(g:Kept Z w w'):Iu w0 S0 M f a (ou Z w w') w':=by
 obtain⟨S,μ,m,q,u⟩:=h;obtain⟨x,y⟩:=q.other u g;exact⟨S,μ,m,x,y⟩
end Go.Vs
namespace Go.Vs
theorem Kept.weaken{M e:Nat->Prop}{a b:World}(h:Kept M a b)(hm:∀k,M k->e k):Kept e a b:=⟨h.os,h.tape,h.output,h.size,fun k f g=>h.block k f (fun x=>g (hm k x)),h.shape⟩
theorem VF{w:World}{l:Nat}{r:Loop}(h:w.heap[l]?=some (.loop r)):w.shape? l=none:=by simp[World.shape?,h]
theorem Ee{w:World}{l:Nat}{r:Loop}(o:Go.Obj)(h:w.heap[l]?=some (.loop r))(Z:Nat->Prop)(b:Z l):Kept Z w (w.putObj l o):=
 ⟨rfl,rfl,rfl,by simp,fun k _ d=>World.putObj_heap_other (fun e=>d (e▸b)),fun k x a=>by
  by_cases e:k=l
  .subst e;rw[VF h]at a;cases a
  rw[dA (World.putObj_heap_other e)];exact a⟩
theorem T3{w:World}{D:Nat}{b:List Deferred}(h:w.heap[D]?=some (.deferred (some b)))(Z:Nat->Prop)(f:Z D):Kept Z w (w.putObj D (.deferred none)):=
 ⟨rfl,rfl,rfl,by simp,fun k _ g=>World.putObj_heap_other (fun e=>g (e▸f)),fun k x a=>by
  by_cases e:k=D
  .subst e;simp[World.shape?,h]at a
  rw[dA (World.putObj_heap_other e)];exact a⟩
theorem OV{S:bb}{w:World}{l:Nat}{r a:Loop}(h:w.heap[l]?=some (.loop r)):bM S w (w.putObj l (.loop a)):=by
 refine⟨fun b o _=>?_,(Ee (.loop a) h (fun b=>b=l) rfl).shape⟩;by_cases e:b=l
 .subst e;have d:(w.putObj b (.loop a)).heap[b]?=some (.loop a):=World.putObj_heap_same (Array.getElem?_eq_some_iff.1 h).1;simp[World.cell?,h,d]
 exact bT (World.putObj_heap_other e) o
theorem bM.trans{S:bb}{a b c:World}(h:bM S a b)(k:bM S b c):bM S a c:=⟨fun x o q=>(k.1 x o q).trans (h.1 x o q),fun x y u=>k.2 _ _ (h.2 _ _ u)⟩
theorem zd(w:World)(o:Go.Obj):Kept (fun _=>False) w (w.alloc o):=
 ⟨rfl,rfl,rfl,by simp,fun k b _=>fX b,fun k x a=>by rw[dA (fX (sJ a))];exact a⟩
theorem Kept.keeps{S:bb}{M:Nat->Prop}{a b:World}(h:Kept M a b)(f:∀e o,S e o->e<a.heap.size/\¬M e):bM S a b:=⟨fun e o g=>bT (h.block e (f e o g).1 (f e o g).2) o,h.shape⟩
abbrev JZ:=Nat->(Nat->Prop)->World->Prop
def Xd(J:JZ):Prop:=∀i Z W a,J i Z W->Kept Z W a->J i (ou Z W a) a
def Kn(S:bb)(Z:Nat->Prop)(W a:World):Prop:=(∀b,Z b->a.heap[b]?=W.heap[b]?)/\bM S W a/\W.heap.size<=a.heap.size
def YZ(P:Program)(l:Nat)(S:bb)(enc:Nat->Value)(n:Nat)(J:JZ):Prop:=
 ∀i Z W,J i Z W->i<n->YieldAt Fence.wide 0 P l #[enc i] W fun e a=>e=.returned (.bool true)/\J (i+1) Z a/\Kn S Z W a
def abH(P:Program)(k:FuncId)(a:Array Value)(n:Nat)(enc:Nat->Value)(S:bb)(w:World):Prop:=
 ∀(l:Nat) (J:JZ) (Z:Nat->Prop) (W:World),bM S w W->w.heap.size<=W.heap.size->(∀b,Z b->b<W.heap.size)->Xd J->YZ P l S enc n J->J 0 Z W->
  Calls P k (#[.func (.yield l) #[] #[]]++a) W fun e d=>(∃v,e=.returned v)/\∃f,J n f d
theorem D5{Z:Nat->Prop}{w d:World}(h:d.heap.size=w.heap.size):ou Z w d=Z:=by
 funext b;refine propext ⟨fun a=>?_,.inl⟩;rcases a with a|a
 .exact a
 omega
theorem Ko{P:Program}{ro:Option Nat}{ps:Array Tmp}{assign body:Code}{Q:Exit->Act->World->Prop}{a a':Act}{w:World}{k:FuncId}{vs:Array Value}{n:Nat}{enc:Nat->Value}{S:bb}{p:Nat}{fn:FuncId}{df:Nat}
  (c':ps = #[p]) (hit:abH P k vs n enc S w) (q':∀b o,S b o->b<w.heap.size)
  (I:JZ) (A:Xd I) {N:Nat->Prop} (O:∀b,N b->b<w.heap.size) (h0:I 0 N w)
  (B:Nat->(Nat->Prop)->Act->World->Prop) (hB:∀i Z a W y,B i Z a W->Kept Z W y->B i (ou Z W y) a y)
  (u:∀l i Z W,Z l->I i Z W->i<n->assign.wpIn (dr (some l)) 0 P (fun e R f=>e=.normal/\B i Z R f/\Kn S Z W f) {tmps:=a.tmps.setIfInBounds p (enc i),defers:=[] } W)
  (U:∀l i Z R f,Z l->(∃r,f.heap[l]?=some (.loop r))->B i Z R f->i<n->body.wpIn (dr (some l)) 0 P (fun e _ y=>e=.normal/\I (i+1) Z y/\Kn S Z f y) R f)
  {l D:Nat} {f:World} (r':w.heap.size<=l) (s':w.heap.size<=D) (t':D<f.heap.size) (d':∀b,w.heap.size<=b->b<f.heap.size->b=l\/b=D)
  (E:f.heap[l]?=some (.loop {state:=.ready,pending:=none,fn:=fn,tmps:=a.tmps,params:=ps,assign:=assign,body:=body,defers:=df })) (e':D≠l->f.heap[D]?=some (.deferred (some []))) (x:Kept (fun _=>False) w f)
  (V:∀Z W,I n Z W->(D≠l->Z D/\W.heap[D]?=some (.deferred (some [])))->w.heap.size<=W.heap.size->Q .normal a' W) :
  CallsIn (dr ro) (0-1) P k (#[.func (.yield l) #[] #[]]++vs) f (rangePost (dr ro) 0 P l Q a'):=by
 obtain⟨rec,H⟩:∃rec:LoopState->Option Code->Loop,rec=fun st pe=>{state:=st,pending:=pe,fn:=fn,tmps:=a.tmps,params:=ps,assign:=assign,body:=body,defers:=df }:=⟨_,rfl⟩
 have Y:f.heap[l]?=some (.loop (rec .ready none)):=by rw[H];exact E
 have u':l<f.heap.size:=(Array.getElem?_eq_some_iff.1 E).1
 let g:(Nat->Prop)->Nat->Prop:=fun Z b=>Z b\/b=l\/b=D
 let J:JZ:=fun i Z W=>¬Z l/\¬Z D/\W.heap[l]?=some (.loop (rec .ready none))/\(D≠l->W.heap[D]?=some (.deferred (some [])))/\w.heap.size<=W.heap.size/\I i (g Z) W
 have v':J 0 N f:=by
  refine⟨fun h=>?_,fun h=>?_,Y,e',x.size,?_⟩
  .have:=O l h;omega
  .have:=O D h;omega
  have:=A 0 N w f h0 (x.weaken fun _ h=>h.elim)
  have e:ou N w f=g N:=by
   funext b;refine propext ⟨fun d=>?_,fun d=>?_⟩
   .rcases d with d|⟨d,w'⟩
    .exact .inl d
    exact .inr (d' b d w')
   rcases d with d|rfl|rfl
   .exact .inl d
   .exact .inr ⟨r',u'⟩
   exact .inr ⟨s',t'⟩
  rw[<-e];exact this
 have f':Xd J:=by
  rintro i Z W y ⟨h1,h2,K,h4,h5,h6⟩ hk;have hl:l<W.heap.size:=(Array.getElem?_eq_some_iff.1 K).1
  have x':D<W.heap.size:=by
   by_cases e:D=l
   .rw[e];exact hl
   exact(Array.getElem?_eq_some_iff.1 (h4 e)).1
  refine⟨?_,?_,(hk.block l hl h1).trans K,fun e=>(hk.block D x' h2).trans (h4 e),Nat.le_trans h5 hk.size,?_⟩
  .rintro(h|h)
   .exact h1 h
   omega
  .rintro(h|h)
   .exact h2 h
   omega
  have:=A i (g Z) W y h6 (hk.weaken fun _ h=>.inl h)
  have e:ou (g Z) W y=g (ou Z W y):=by
   funext b;refine propext ⟨fun d=>?_,fun d=>?_⟩
   .rcases d with(d|d)|d
    .exact .inl (.inl d)
    .exact .inr d
    exact .inl (.inr d)
   rcases d with(d|d)|d
   .exact .inl (.inl d)
   .exact .inr d
   exact .inl (.inr d)
  rw[<-e];exact this
 have y':YZ P l S enc n J:=by
  rintro i Z W ⟨h1,h2,K,h4,h5,h6⟩ hi;have q:g Z l:=.inr (.inl rfl);have hy:=run_yield (P:=P) (args:=#[enc i]) K (by rw[H];simp[c']);refine⟨_,_,_,_,hy,roundIn_of_wpIn (F:=Fence.wide) trivial ?_⟩;rw[H];have z':((ps.zip #[enc i]).foldl (fun tmps (t,a)=>tmps.setIfInBounds t a) a.tmps)=a.tmps.setIfInBounds p (enc i):=by rw[c'];simp
  dsimp only;rw[z'];refine wpIn_mono (u l i (g Z) W q h6 hi) ?_;rintro e R b' ⟨rfl,A',g',h',G'⟩;have m:b'.heap[l]?=some (.loop (rec .ready none)):=(g' l q).trans K;refine⟨_,run_beginRound m (by rw[H]),?_⟩;have i':=hB i (g Z) R b' _ A' (Ee (.loop {rec .ready none with state:=.busy }) m (g Z) q);rw[D5 (by simp)]at i';have L:(b'.putObj l (.loop {rec .ready none with state:=.busy })).heap[l]?=some (.loop {rec .ready none with state:=.busy }):=World.putObj_heap_same (Array.getElem?_eq_some_iff.1 m).1;refine wpIn_mono (U l i (g Z) R _ q ⟨_,L⟩ i' hi) ?_;rintro e a2 z ⟨rfl,B',j',C',k'⟩;have C:z.heap[l]?=some (.loop {rec .ready none with state:=.busy }):=(j' l q).trans L;refine⟨_,_,run_endRound none C,rfl,?_⟩;have l':(Go.Obj.loop {{rec .ready none with state:=.busy } with state:=if (none:Option Code).isNone then .ready else .done,pending:=none })=.loop (rec .ready none):=by rw[H];rfl
  rw[l'];have D':(z.putObj l (.loop (rec .ready none))).heap[l]?=some (.loop (rec .ready none)):=World.putObj_heap_same (Array.getElem?_eq_some_iff.1 C).1;have hz:∀b,g Z b->b≠l->(z.putObj l (.loop (rec .ready none))).heap[b]?=W.heap[b]?:=fun b d m'=>(World.putObj_heap_other m').trans ((j' b d).trans ((World.putObj_heap_other m').trans (g' b d)))
  have s:=A (i+1) (g Z) z _ B' (Ee (.loop (rec .ready none)) C (g Z) q);rw[D5 (by simp)]at s;refine⟨⟨h1,h2,D',fun e=>(hz D (.inr (.inr rfl)) e).trans (h4 e),?_,s⟩,fun b d=>hz b (.inl d) (fun e=>h1 (e▸d)),h'.trans ((OV m).trans (C'.trans (OV C))),?_⟩
  .simp at k' |-;omega
  simp at k' |-;omega
 have hc:=hit l J N f (x.keeps fun b o hS=>⟨q' b o hS,fun h=>h⟩) x.size (fun b d=>Nat.lt_of_lt_of_le (O b d) x.size) f' y' v';refine abG (hc.mono ?_);rintro e z ⟨⟨v,rfl⟩,Z',h1,h2,K,h4,h5,h6⟩;have he:=run_endLoop (P:=P) K (by rw[H];simp);have s:=A n (g Z') z _ h6 (Ee (.loop {rec .ready none with state:=.exhausted }) K (g Z') (.inr (.inl rfl)));rw[D5 (by simp)]at s;have n':w.heap.size<=(z.putObj l (.loop {rec .ready none with state:=.exhausted })).heap.size:=by simpa using h5
 have o':D≠l->(z.putObj l (.loop {rec .ready none with state:=.exhausted })).heap[D]?=some (.deferred (some [])):=fun e=>(World.putObj_heap_other e).trans (h4 e)
 obtain⟨W4,p'⟩:∃W4,z.putObj l (.loop {rec .ready none with state:=.exhausted })=W4:=⟨_,rfl⟩;rw[p']at s n' o';have E':(rec .ready none).pending=none:=by rw[H]
 have F':(Instr.endLoop l).run P z=.ok none W4:=by
  rw[<-p'];have:=he;rw[E']at this;subst H;exact this
 exact⟨none,W4,F',V (g Z') W4 s (fun e=>⟨.inr (.inr rfl),o' e⟩) n'⟩
theorem OW{P:Program}{ro:Option Nat}{g:Operand}{ps:Array Tmp}{assign body:Code}{Q:Exit->Act->World->Prop}{a:Act}{w:World}{k:FuncId}{z:Array Value}{n:Nat}{enc:Nat->Value}{S:bb}{p:Nat}
  (hg:a.eval g=.func (.func k) #[] z) (hk:∀args w,(callFunc k args).run P w=.ok (.enter k args) w) (V:∀N,ro=some N->∃O,w.heap[N]?=some (.loop O))
  (C:ps = #[p]) (hit:abH P k z n enc S w) (E:∀b o,S b o->b<w.heap.size)
  (I:JZ) (H:Xd I) {Z0:Nat->Prop} (K:∀b,Z0 b->b<w.heap.size) (h0:I 0 Z0 w)
  (B:Nat->(Nat->Prop)->Act->World->Prop) (hB:∀i Z a W A,B i Z a W->Kept Z W A->B i (ou Z W A) a A)
  (q:∀l i Z W,Z l->I i Z W->i<n->assign.wpIn (dr (some l)) 0 P (fun e R f=>e=.normal/\B i Z R f/\Kn S Z W f) {tmps:=a.tmps.setIfInBounds p (enc i),defers:=[] } W)
  (s:∀l i Z R f,Z l->(∃r,f.heap[l]?=some (.loop r))->B i Z R f->i<n->body.wpIn (dr (some l)) 0 P (fun e _ A=>e=.normal/\I (i+1) Z A/\Kn S Z f A) R f)
  (u:∀(D:Nat) Z W,I n Z W->(ro=none->Z D/\W.heap[D]?=some (.deferred (some [])))->w.heap.size<=W.heap.size->Q .normal (match ro with
    |none=>{a with defers:={target:=.collected D,args:=#[] }::a.defers }
    |some _=>a) W) :
  (Code.rangeFunc g ps assign body).wpIn (dr ro) 0 P Q a w:=by
 refine wpIn_rangeFunc ?_;intro fn b';have y:(dr ro).round=ro:=rfl;rw[y];cases ro with
 |none=>
  obtain⟨f,m⟩:∃f,(w.alloc (.deferred (some []))).alloc (.loop {state:=.ready,pending:=none,fn:=fn,tmps:=a.tmps,params:=ps,assign:=assign,body:=body,defers:=w.heap.size })=f:=⟨_,rfl⟩;have Y:f.heap.size=w.heap.size+2:=by rw[<-m];simp
  refine⟨w.heap.size+1,[{target:=.collected w.heap.size,args:=#[] }],f,{target:=.fn (.func k) z,args:=#[.func (.yield (w.heap.size+1)) #[] #[]] },f,k,#[.func (.yield (w.heap.size+1)) #[] #[]]++z,f,?_,?_,fun _ _=>trivial,?_,fun h=>by simp[dr,Fence.wide]at h,?_⟩
  .rw[<-m];exact run_enterLoop_outer _ _ _ _ _
  .simp only[resolve,hg];simp[go_sem]
  .simp[invoke,go_sem,hk]
  refine Ko (D:=w.heap.size) (fn:=fn) (df:=w.heap.size) C hit E I H K h0 B hB q s (by omega) (by omega) (by omega) (fun b L U=>by omega) ?_ (fun _=>?_) ?_ (fun Z W L U h3=>u w.heap.size Z W L (fun _=>U (by omega)) h3)
  .rw[<-m];have:=World.alloc_heap_new (w.alloc (.deferred (some []))) (.loop {state:=.ready,pending:=none,fn:=fn,tmps:=a.tmps,params:=ps,assign:=assign,body:=body,defers:=w.heap.size });rwa[World.size_alloc]at this
  .rw[<-m];exact(fX (by simp)).trans (World.alloc_heap_new w _)
  rw[<-m];exact(zd w _).trans ((zd _ _))
 |some N=>
  obtain⟨O,a'⟩:=V N rfl;obtain⟨f,m⟩:∃f,w.alloc (.loop {state:=.ready,pending:=none,fn:=fn,tmps:=a.tmps,params:=ps,assign:=assign,body:=body,defers:=O.defers })=f:=⟨_,rfl⟩;have Y:f.heap.size=w.heap.size+1:=by rw[<-m];simp
  refine⟨w.heap.size,[],f,{target:=.fn (.func k) z,args:=#[.func (.yield w.heap.size) #[] #[]] },f,k,#[.func (.yield w.heap.size) #[] #[]]++z,f,?_,?_,fun _ _=>trivial,?_,fun h=>by simp[dr,Fence.wide]at h,?_⟩
  .rw[<-m];exact run_enterLoop_inner a' _ _ _ _ _
  .simp only[resolve,hg];simp[go_sem]
  .simp[invoke,go_sem,hk]
  refine Ko (D:=w.heap.size) (fn:=fn) (df:=O.defers) C hit E I H K h0 B hB q s (by omega) (by omega) (by omega) (fun b L U=>by omega) ?_ (fun h=>absurd rfl h) ?_ (fun Z W L U h3=>u w.heap.size Z W L (fun h=>by cases h) h3)
  .rw[<-m];exact World.alloc_heap_new w _
  rw[<-m];exact zd w _
end Go.Vs
namespace Go.Vs
def uq(b:St)(a:Act)(W:World)(S:bb):Prop:=b.objs=[]/\SimG W S Ctx.nothing b a W S (fun _=>Go.undef) (fun _=>none)
theorem au.bare{w:World}{S:bb}{f b:Nat->Value}(x:SV)(v:Value)(h:au w S f [] x v):au w S b [] x v:=
 au.same (fun id d a=>by simp[ac]at a) (fun id g s e a=>by simp[ac]at a) (fun id s p a=>by simp[ac]at a) x v h
theorem uq.of{w0 W:World}{S0 S:bb}{M:Ctx}{u:St}{a:Act}{z:Nat->Value}{A:Nat->Option Nat}(h:SimG w0 S0 M u a W S z A)(g:u.objs=[])(B:M.df=[]):uq u a W S:=
 ⟨g,{defers:=h.defers.trans B,size:=h.size,env:=fun k=>by have:=h.env k;rw[g]at this |-;exact au.bare _ _ this,objs:=fun id o d=>by rw[g]at d;simp[ac]at d,inj:=fun id C o E b d=>by rw[g]at d;simp[ac]at d,own:=fun id o b d=>by rw[g]at d;simp[ac]at d,unst:=fun id o b D d=>by rw[g]at d;simp[ac]at d,stab:=h.stab,ext:=fun _ _ x=>x,back:=fun _ _ x=>.inl x,kept:=Kept.refl _ _,stay:=fun _ _ _=>rfl,hist:=fun p y=>by simp[Ctx.nothing]at y,far:=fun p y=>by simp[Ctx.nothing]at y,glob:=h.glob }⟩
theorem uq.keeps{m:St}{a:Act}{W i:World}{S:bb}(h:uq m a W S)(q:bM S W i)(s:W.heap.size<=i.heap.size):uq m a i S:=by
 obtain⟨f,h⟩:=h;exact⟨f,{defers:=h.defers,size:=h.size,env:=fun k=>au.mono q (fun _ _ x=>x) _ _ (h.env k),objs:=fun id o e=>by rw[f]at e;simp[ac]at e,inj:=fun id u o z b e=>by rw[f]at e;simp[ac]at e,own:=fun id o b e=>by rw[f]at e;simp[ac]at e,unst:=fun id o b w e=>by rw[f]at e;simp[ac]at e,stab:=fun b o y=>Nat.lt_of_lt_of_le (h.stab b o y) s,ext:=fun _ _ x=>x,back:=fun _ _ x=>.inl x,kept:=Kept.refl _ _,stay:=fun _ _ _=>rfl,hist:=fun p g=>by simp[Ctx.nothing]at g,far:=fun p g=>by simp[Ctx.nothing]at g,glob:=fun p g=>jt.mono q (fun _ _ x=>x) (h.glob p g) }⟩
theorem uq.put{σ:St}{a:Act}{W:World}{S:bb}(h:uq σ a W S){d:Nat}{x:IV}{v:Value}(g:d<σ.n)(m:sI W S x v):uq {σ with env:=put σ.env d (.val x) } (a.put (some d) v) W S:=
 ⟨h.1,h.2.put g m⟩
theorem uq.piece{P:Program}{c:Code}{Q:Exit->St->Prop}{σ:St}{a:Act}{W:World}{S:bb}{ro:Option Nat}(hT:TR P c (fun e g=>∃f,Q e f/\f.objs=[]/\cJ g f) σ)(h:uq σ a W S) :
  c.wpIn (dr ro) 0 P (fun e y m=>∃f i,Q e f/\f.n=σ.n/\uq f y m i/\(∀b o,S b o->i b o)/\(∀b o,i b o->S b o\/W.heap.size<=b)/\Kept (fun _=>False) W m) a W:=by
 refine wpIn_mono (hT ro W S _ a W ⟨S,_,_,h.2⟩) (fun e y m C=>?_)
 have A:∀g,(∃f,Q e f/\f.objs=[]/\cJ g f)->g.n=σ.n->gc W S Ctx.nothing g y m->∃f i,Q e f/\f.n=σ.n/\uq f y m i/\(∀b o,S b o->i b o)/\(∀b o,i b o->S b o\/W.heap.size<=b)/\Kept (fun _=>False) W m:=by
  rintro g ⟨f,E,H,I⟩ K D;have u:=I _ _ _ _ _ D;have B:=agM D u;obtain⟨i,L,N,k⟩:=u;refine⟨f,i,E,B.trans K,uq.of k H rfl,k.ext,fun b o O=>?_,k.kept⟩;rcases k.back b o O with q|q|q
  .exact .inl q
  .exact .inr q
  exact q.elim
 cases e<;>first|exact C.elim|(obtain⟨g,R,U,V⟩:=C;exact A g R U V)
theorem Ef{d:St}{k id:Nat}{cells:List IV}(y:aE d.env k=.loc id 0)(i:ac d.objs id=some (.box (cells.map .val))) :
  cJ d {d with env:=Vs.put d.env k (.val (.ref cells)),ro:=id::d.ro }:=by
 rintro w0 S0 M a w ⟨S,m,z,h⟩;have f:=h.env k;rw[y]at f;obtain⟨b,vs,e,H,A,I,B,C,K,D⟩:=lz h i f;have p:=h.freeze [id];refine⟨_,m,z,{p with env:=fun q=>?_ }⟩;show au w _ m d.objs (aE (Vs.put d.env k (.val (.ref cells))) q) _;rw[od];split
 .next e=>
  subst e;refine⟨b,0,B,aQ.intro (vs:=vs.toList) (ag.mono (bM.refl _ _) (fun _ _ x=>.inl x) _ _ (al.toRep D)) (fun j g=>.inr ⟨id,_,by simp,i,A,?_⟩) (fun j v g=>?_)⟩
  .intro E s u e;cases e
  rw[fE C];rw[Array.getElem?_toList]at g;simpa using g
 exact p.env q
theorem ahK{ro:Option Nat}{P:Program}{l:Nat}{f:FuncId}{b:Array Value}{a d:Code}{w:World}{R:Ending->World->Prop}(h:RoundIn Fence.wide 0 P l f b a d w R):RoundIn (dr ro) (0-1) P l f b a d w R:=by
 cases ro with
 |none=>exact h
 |some e=>exact h
theorem abI{P:Program}{ro:Option Nat}{o:Oper}{c:Call}{f x:Operand}{a:Act}{W:World}{l:Nat}{v:Value}{R:Ending->World->Prop}{next:Act->World->Prop}{Q:Exit->Act->World->Prop}
  (y:o.op=.call c) (p:c.callee=.value f) (d:c.args = #[x]) (A:a.eval f=.func (.yield l) #[] #[]) (B:a.eval x=v)
  (C:YieldAt Fence.wide 0 P l #[v] W R) (D:∀e q,R e q->e=.returned (.bool true)/\next (a.put o.dst (.bool true)) q):o.wpIn (dr ro) 0 P a W next Q:=by
 refine⟨fun _ _=>trivial,?_⟩;have s:(dr ro).round=ro:=rfl;rw[s,Oper.semAt_eq _ _ _ (by intro L z;rw[y]at z;cases z)];obtain⟨E,g,b,i,u,w⟩:=C
 have m:(execOp a.eval o).run P W=.ok (.round l E g b i) W:=by
  simp only[execOp,y,resolve,p,d,A,Deferred.ofValue,Sem.run_bind,Sem.run_pure,Result.andThen_ok,invoke];simpa[B]using u
 rw[m,Oper.uponIn_round];refine⟨fun h=>by simp[dr,Fence.wide]at h,(ahK w).mono fun e q H=>?_⟩;obtain⟨rfl,I⟩:=D _ _ H;exact I
theorem Xe{P:Program}{ro:Option Nat}{w0:World}{S0:bb}{M:Ctx}{e:Array Oper}{y:List VOper}(V:cq P e e.toList=some (aV y))(A:ml e.toList=true){n:Nat}{Q:Exit->Act->World->Prop}(W:∀a w,¬Q .outgrown a w){K:St->Prop}{f:List Nat}
  (B:∀b m p,K b->b.n=n->gc w0 S0 M b m p->wpOpsIn (dr ro) 0 P e Q f m p):∀(l:List VOper) (k:Nat) (b:St) (a:Act) (w:World),(∀i,i<l.length->l[i]?=y[k+i]?)->b.n=n->gc w0 S0 M b a w->(∀v∈l,∀d,v.dst=some d->d<n)->j9 P K l b->wpOpsIn (dr ro) 0 P e Q (List.range' k l.length++f) a w:=by
 obtain⟨g,q⟩:=dC V;rw[i8]at g;intro l
 induction l with
 |nil=>
  intro k b a w _ z h _ C;exact B b a w C z h
 |cons v r Y=>
  intro k b a w O z h R C;have S:y[k]?=some v:=by simpa using (O 0 (by simp)).symm
  have U:k<e.toList.length:=by
   rw[<-g];rcases Nat.lt_or_ge k y.length with D|D
   .exact D
   simp[List.getElem?_eq_none D]at S
  obtain⟨Z,s,E⟩:=q k e.toList[k] (List.getElem?_eq_getElem U);rw[jA,S]at s;obtain rfl:Z=v.strip:=(O_ s).symm;simp only[List.length_cons,List.range'_succ,List.cons_append];rw[wpOpsIn_cons];refine Qr (Q:=Q) W A (fun m p H=>H) (qu (Q:=Q) (o:=e.toList[k]) (by rw[<-Array.getElem?_toList];exact List.getElem?_eq_getElem U) E h (fun d I=>by rw[z];exact R v (by simp) d I) C (fun u m p h1 L H=>?_));exact Y (k+1) u m p (fun i hi=>by have:=O (i+1) (by simp;omega);simpa[Nat.add_assoc,Nat.add_comm 1 i]using this) (L.trans z) H (fun x hx d N=>R x (List.mem_cons_of_mem _ hx) d N) h1
end Go.Vs
namespace Go.Vs
def At(J:JZ)(S0:bb)(Wb:World)(Zb:Nat->Prop)(σ:St)(p:Nat)(a:Act)(W:World):Prop:=
 ∃Z S,J p Z W/\(∀b,Z b->b<W.heap.size)/\uq σ a W S/\(∀b o,S b o->S0 b o\/Z b)/\(∀b,Zb b->Z b/\W.heap[b]?=Wb.heap[b]?)/\bM S0 Wb W/\Wb.heap.size<=W.heap.size
section
variable {P:Program} {J:JZ} {S0:bb} {Wb:World} {Zb:Nat->Prop} {l n:Nat} {enc:Nat->Value}
theorem At.base{σ:St}{p:Nat}{a:Act}{W:World}{Z:Nat->Prop}{S:bb}(f:J p Z W)(g:∀b,Z b->b<W.heap.size)(h:uq σ a W S)(u:∀b o,S b o->S0 b o\/Z b):At J S0 W Z σ p a W:=
 ⟨Z,S,f,g,h,u,fun b y=>⟨y,rfl⟩,bM.refl _ _,Nat.le_refl _⟩
theorem At.piece{c:Code}{Q:Exit->St->Prop}{σ:St}{p:Nat}{a:Act}{W:World}{ro:Option Nat}(y:Xd J)(A:∀b o,S0 b o->b<W.heap.size)(hT:TR P c (fun e B=>∃f,Q e f/\f.objs=[]/\cJ B f) σ)(h:At J S0 Wb Zb σ p a W) :
  c.wpIn (dr ro) 0 P (fun e D i=>∃f,Q e f/\f.n=σ.n/\At J S0 Wb Zb f p D i/\Kept (fun _=>False) W i) a W:=by
 obtain⟨Z,S,I,E,K,L,C,N,O⟩:=h;refine wpIn_mono (K.piece hT) ?_;rintro e D i ⟨f,R,U,V,H,k4,Y,m⟩;have hz:∀b,Z b->i.heap[b]?=W.heap[b]?:=fun b g=>m.block b (E b g) (fun x=>x)
 refine⟨f,U,V,⟨ou Z W i,R,y p Z W i I (m.weaken fun _ x=>x.elim),?_,H,fun b o u=>?_,fun b g=>⟨.inl (C b g).1,(hz b (C b g).1).trans (C b g).2⟩,N.trans (m.keeps fun b o u=>⟨A b o u,fun x=>x⟩),Nat.le_trans O m.size⟩,m⟩
 .rintro b (g|g)
  .exact Nat.lt_of_lt_of_le (E b g) m.size
  exact g.2
 rcases Y b o u with q|q
 .rcases L b o q with q|q
  .exact .inl q
  exact .inr (.inl q)
 exact .inr (.inr ⟨q,H.2.stab b o u⟩)
theorem At.yielded{id:Nat}{C:Array Oper}{m w:List VOper}{y:VOper}{f x:Opd}{d:Nat}{σ A:St}{K:St->Prop}{t:Int}{p:Nat}{a:Act}{W:World}{ro:Option Nat}
  (i':Xd J) (D':YZ P l S0 enc n J) (j':∀b o,S0 b o->b<W.heap.size)
  (hc:cq P C C.toList=some (aV (m++y::w))) (k':ml C.toList=true) (l':sW σ.n (m++y::w)=true)
  (E':y.op=.callV f [x]) (m':y.dst=some d) (L:y.guard=none\/∃g,y.guard=some (g,true)/\aE A.env g=.val (.bool true))
  (n':j9 P (fun D=>D=A) m σ) (F':A.objs=[]) (hf:val A f=.val (.yld l)) (hx:val A x=.val (.int .i64 t)) (ht:enc p=.int .i64 t) (hp:p<n)
  (Y:j9 P (fun D=>∃B,K B/\B.objs=[]/\cJ D B) w {A with env:=Vs.put A.env d (.val (.bool true)) }) (h:At J S0 Wb Zb σ p a W) :
  (Code.region id C false).wpIn (dr ro) 0 P (fun e a' W'=>e=.normal/\∃B,K B/\B.n=σ.n/\At J S0 Wb Zb B (p+1) a' W') a W:=by
 obtain⟨N,o'⟩:=dC hc;rw[i8]at N
 have b':C.size=m.length+1+w.length:=by
  have:C.toList.length=C.size:=by simp
  rw[<-this,<-N];simp;omega
 have hQ:∀a' w',¬(fun(e:Exit) (a':Act) (W':World)=>e=Exit.normal/\∃B,K B/\B.n=σ.n/\At J S0 Wb Zb B (p+1) a' W') .outgrown a' w':=by
  rintro a' w' ⟨h,_⟩;cases h
 refine wpIn_region ?_
 have hr:List.range C.size=List.range' 0 m.length++(m.length::(List.range' (m.length+1) w.length++[])):=by
  rw[b',List.range_eq_range',List.append_nil,show m.length+1+w.length=m.length+(1+w.length) by omega,<-List.range'_append_1,Nat.zero_add];congr 1;rw[show 1+w.length=w.length+1 by omega,List.range'_succ]
 rw[hr];have c':=ju l';obtain⟨Z,S,h1,h2,h3,h4,h5,h6,h7⟩:=h;refine Xe (w0:=W) (S0:=S) (M:=Ctx.nothing) (n:=σ.n) (K:=fun D=>D=A) hc k' hQ ?_ m 0 σ a W (fun i hi=>by rw[Nat.zero_add,List.getElem?_append_left hi]) rfl ⟨S,_,_,h3.2⟩ (fun v hv=>c' v (by simp[hv])) n';rintro D a1 V G' p' ⟨S1,H',I',E⟩;obtain rfl:A=D:=G'.symm;have J':=uq.of E F' rfl;have H:Kept (fun _=>False) W V:=E.kept;have K':∀b,Z b->V.heap[b]?=W.heap[b]?:=fun b I=>H.block b (h2 b I) (fun x=>x)
 have L':=i' p Z W V h1 (H.weaken fun _ x=>x.elim)
 have q':∀b o,S1 b o->S0 b o\/ou Z W V b:=fun b o O=>by
  rcases E.back b o O with q|q|q
  .rcases h4 b o q with q|q
   .exact .inl q
   exact .inr (.inl q)
  .exact .inr (.inr ⟨q,E.stab b o O⟩)
  exact q.elim
 have s':m.length<C.toList.length:=by rw[<-N];simp
 obtain⟨v,t',u'⟩:=o' m.length _ (List.getElem?_eq_getElem s')
 obtain rfl:v=y.strip:=by
  rw[jA,List.getElem?_append_right (Nat.le_refl _)]at t';simpa using t'.symm
 have ho:C[m.length]?=some C.toList[m.length]:=by rw[<-Array.getElem?_toList];exact List.getElem?_eq_getElem s'
 obtain⟨oo,M'⟩:=A_ (C.toList[m.length]);rw[M']at ho u';obtain⟨q1,q2,R⟩:=gf u';have q1:oo.dst=some d:=by rw[<-q1];exact m'
 have q2:pz P oo.op=some (.callV f [x]):=by rw[q2];show some y.op.strip=_;rw[E'];rfl
 have R:j0 C oo.guard=some y.guard:=R;obtain⟨c,N',O'⟩:=qt q2 (.inr ⟨_,_,rfl⟩);obtain⟨f',P',R',s⟩:=(kH O').2 _ _ rfl
 obtain⟨x',S',T'⟩:∃x',c.args = #[x']/\ap x'=some x:=by
  cases d':c.args.toList with
  |nil=>rw[d']at s;simp[dS]at s
  |cons z r=>
   rw[d']at s;simp only[dS]at s;split at s
   .next u us g1 g2=>
    simp only[E_,List.cons.injEq]at s;obtain⟨rfl,rfl⟩:=s
    have hr:r=[]:=by
     cases r with
     |nil=>rfl
     |cons z' r'=>
      simp only[dS]at g2;split at g2<;>simp at g2
    subst hr;exact⟨z,by apply Array.toList_inj.1;rw[d'],g1⟩
   simp at s
 have U':a1.eval f'=.func (.yield l) #[] #[]:=by
  have:=ax E R';rw[hf]at this;exact this
 have hex:a1.eval x'=enc p:=by
  have:=ax E T';rw[hx]at this;rw[ht];exact this
 have hw:Region.wanted oo (Go.yielded C a1.tmps)=true:=by
  cases e':oo.guard with
  |none=>simp[Region.wanted,e']
  |some pr=>
   obtain⟨j,b⟩:=pr;rw[e']at R;simp only[j0]at R;split at R
   .next g hg=>
    rcases L with L|⟨g',L,V'⟩
    .rw[L]at R;simp at R
    rw[L]at R;simp only[E_,Prod.mk.injEq]at R;obtain⟨rfl,rfl⟩:=R;have X':Go.yielded C a1.tmps j=some true:=x7 hg (w0:=W) (S0:=S) (M:=Ctx.nothing) ⟨S1,H',I',E⟩ (by rw[V'];rfl);simp[Region.wanted,e',X']
   simp at R
 rw[wpOpsIn_cons];unfold wpOpIn;rw[ho];dsimp only;rw[if_pos hw];refine abI N' P' S' U' hex (D' p _ V L' hp) ?_;rintro e W2 ⟨rfl,Y',v',h',y'⟩;refine⟨rfl,?_⟩
 have Z':uq A a1 W2 S1:=J'.keeps ⟨fun b o O=>by
  rcases q' b o O with q|q
  .exact h'.1 b o q
  exact bT (v' b q) o,h'.2⟩ y'
 have hdn:d<A.n:=by rw[p'];exact c' y (by simp) d m'
 have hE3:=Z'.put (x:=.bool true) (v:=.bool true) hdn rfl;rw[q1]
 refine Xe (w0:=W2) (S0:=S1) (M:=Ctx.nothing) (n:=σ.n) hc k' hQ ?_ w (m.length+1) {A with env:=Vs.put A.env d (.val (.bool true)) } _ W2 (fun i hi=>by
  rw[List.getElem?_append_right (by omega),show m.length+1+i-m.length=i+1 by omega];rfl) p' ⟨S1,_,_,hE3.2⟩ (fun v hv=>c' v (by simp[hv])) Y
 rintro σ4 a4 W4 ⟨B,g1,g2,g3⟩ hn4 A';have B':=g3 _ _ _ _ _ A';have hn3:=agM A' B';obtain⟨S3,μ3,β3,k⟩:=B';have U:Kept (fun _=>False) W2 W4:=k.kept
 have C':∀b,ou Z W V b->b<W2.heap.size:=by
  rintro b (I|I)
  .have:=h2 b I;have:=H.size;omega
  omega
 refine⟨rfl,B,g1,hn3.trans hn4,ou (ou Z W V) W2 W4,S3,i' (p+1) _ W2 W4 Y' (U.weaken fun _ x=>x.elim),?_,uq.of k g2 rfl,fun b o O=>?_,fun b I=>?_,?_,?_⟩
 .rintro b (I|I)
  .have:=C' b I;have:=U.size;omega
  exact I.2
 .rcases k.back b o O with q|q|q
  .rcases q' b o q with q|q
   .exact .inl q
   exact .inr (.inl q)
  .exact .inr (.inr ⟨q,k.stab b o O⟩)
  exact q.elim
 .have e1:ou Z W V b:=.inl (h5 b I).1;refine⟨.inl e1,?_⟩;rw[U.block b (C' b e1) (fun x=>x),v' b e1,K' b (h5 b I).1];exact(h5 b I).2
 .exact h6.trans ((H.keeps fun b o O=>⟨j' b o O,fun x=>x⟩).trans (h'.trans (U.keeps fun b o O=>⟨by have:=j' b o O;have:=H.size;omega,fun x=>x⟩)))
 have:=H.size;have:=U.size;omega
end
end Go.Vs
namespace Go.Vs
def VG(P:Program)(k:FuncId)(a:List IV)(m:Nat)(enc:Nat->Value):Prop:=∀(W:World) (S:bb) (f:Array Value),(∀b o,S b o->b<W.heap.size)->br W S a f.toList->abH P k f m enc S W
section
variable {P:Program} {J:JZ} {S0:bb} {Wb:World} {Zb:Nat->Prop}
theorem At.range{ro:Option Nat}{tg pp:Nat}{ps:Array Tmp}{R e':Code}{k:FuncId}{U:List IV}{m:Nat}{H:Nat->Int}{σ:St}{σb:Nat->St}{pi:Nat->Nat}{a:Act}{W:World}
  (q':Xd J) (r':∀b o,S0 b o->b<Wb.heap.size) (hg:aE σ.env tg=.val (.fn k U)) (s':tg<σ.n) (t':pp<σ.n) (u':ps = #[pp]) (hk:∀args w,(callFunc k args).run P w=.ok (.enter k args) w)
  (hit:VG P k U m fun i=>.int .i64 (H i)) (v':∀l0,ro=some l0->∃r0,W.heap[l0]?=some (.loop r0))
  (V:∀i,i<m->TR P R (fun e x'=>∃d',(e=.normal/\d'=σb i)/\d'.objs=[]/\cJ x' d') {σ with env:=Vs.put σ.env pp (.val (.int .i64 (H i))) })
  (f':∀i,i<m->∀(l:Nat) (g':World) (i':Nat->Prop) (a':Act) (L:World),(∃r,L.heap[l]?=some (.loop r))->(∀b o,S0 b o->b<g'.heap.size)->At J S0 g' i' (σb i) (pi i) a' L->e'.wpIn (dr (some l)) 0 P (fun e y' z'=>e=.normal/\∃j',At J S0 g' i' j' (pi (i+1)) y' z') a' L)
  (h:At J S0 Wb Zb σ (pi 0) a W) :
  (Code.rangeFunc (.tmp tg) ps R e').wpIn (dr ro) 0 P (fun e a' L=>e=.normal/\(match ro with
    |some _=>At J S0 Wb Zb σ (pi m) a' L
    |none=>∃Z' D,J (pi m) Z' L/\Z' D/\a'.defers=[{target:=.collected D,args:=#[] }]/\L.heap[D]?=some (.deferred (some [])))) a W:=by
 obtain⟨Ze,S,h1,h2,h3,h4,h5,h6,h7⟩:=h;have Y:∀b o,S0 b o->b<W.heap.size:=fun b o z=>Nat.lt_of_lt_of_le (r' b o z) h7
 have N:=h3.2.stab;have k':a.defers=[]:=h3.2.defers;have A':a.tmps.size=σ.n:=h3.2.size
 obtain⟨vs,B',m'⟩:∃vs,a.eval (.tmp tg)=.func (.func k) #[] vs/\br W S U vs.toList:=by
  have:=h3.2.env tg;rw[hg]at this;obtain⟨vs,e1,e2⟩:=this;refine⟨vs,?_,e2⟩;have n':tg<a.tmps.size:=by rw[A'];exact s'
  simp[Array.getD,n']at e1;simp[Act.eval,n',e1]
 let Jb:Nat->(Nat->Prop)->World->Prop:=fun p u L=>J p u L/\(∀b,u b->b<L.heap.size)/\(∀b,Ze b->u b/\L.heap[b]?=W.heap[b]?)/\bM S0 W L/\W.heap.size<=L.heap.size
 let I:JZ:=fun i A L=>∃u,Jb (pi i) u L/\(∀b,A b->u b)/\∀b,A b->W.heap.size<=b
 have h':∀ {p:Nat} {u A:Nat->Prop} {C O:World},Jb p u C->(∀b,A b->u b)->(∀b,A b->W.heap.size<=b)->Kept A C O->Jb p (ou u C O) O:=by
  rintro p u A C O ⟨j1,j2,j3,j4,j5⟩ E y hk;refine⟨q' p u C O j1 (hk.weaken E),?_,fun b s=>⟨.inl (j3 b s).1,?_⟩,j4.trans (hk.keeps fun b o z=>⟨Nat.lt_of_lt_of_le (Y b o z) j5,fun Z=>by have:=y b Z;have:=Y b o z;omega⟩),Nat.le_trans j5 hk.size⟩
  .rintro b (s|s)
   .exact Nat.lt_of_lt_of_le (j2 b s) hk.size
   exact s.2
  exact(hk.block b (j2 b (j3 b s).1) (fun Z=>by have:=y b Z;have:=h2 b s;omega)).trans (j3 b s).2
 have gz:∀ {u A:Nat->Prop} {C O:World},(∀b,A b->u b)->∀b,ou A C O b->ou u C O b:=fun E b s=>s.imp (E b) _root_.id
 have gw:∀ {A:Nat->Prop} {C O:World},W.heap.size<=C.heap.size->(∀b,A b->W.heap.size<=b)->∀b,ou A C O b->W.heap.size<=b:=fun hs E b s=>s.elim (E b) (fun s=>Nat.le_trans hs s.1)
 have E4:∀ {p:Nat} {u:Nat->Prop} {L:World},Jb p u L->uq σ a L S:=by
  rintro p u L ⟨j1,j2,j3,j4,j5⟩;refine h3.keeps ⟨fun b o z=>?_,j4.2⟩ j5;rcases h4 b o z with q|q
  .exact j4.1 b o q
  exact bT (j3 b q).2 o
 let B:Nat->(Nat->Prop)->Act->World->Prop:=fun i A a1 C=>∃u S1,Jb (pi i) u C/\(∀b,A b->u b)/\(∀b,A b->W.heap.size<=b)/\uq (σb i) a1 C S1/\∀b o,S1 b o->(S0 b o\/u b)/\¬A b
 have C':I 0 (fun _=>False) W:=⟨Ze,⟨h1,h2,fun b s=>⟨s,rfl⟩,bM.refl _ _,Nat.le_refl _⟩,fun b s=>s.elim,fun b s=>s.elim⟩;refine OW (S:=S) (p:=pp) B' hk v' u' (hit W S vs N m') N I ?_ (Z0:=fun _=>False) (fun b s=>s.elim) C' B ?_ ?_ ?_ ?_
 .rintro i A C O ⟨u,j,E,y⟩ b';exact⟨_,h' j E y b',gz E,gw j.2.2.2.2 y⟩
 .rintro i A a1 C O ⟨u,S1,j,E,y,he,c'⟩ b';refine⟨_,S1,h' j E y b',gz E,gw j.2.2.2.2 y,he.keeps (b'.keeps fun b o z=>⟨he.2.stab b o z,(c' b o z).2⟩) b'.size,fun b o z=>⟨(c' b o z).1.imp _root_.id .inl,?_⟩⟩;rintro(s|s)
  .exact(c' b o z).2 s
  have:=he.2.stab b o z;omega
 .rintro l i A C hl ⟨u,j,E,y⟩ hi;have he:=E4 j;have o':=he.put (d:=pp) (x:=.int .i64 (H i)) (v:=.int .i64 (H i)) t' rfl
  have p':a.put (some pp) (.int .i64 (H i)) = {tmps:=a.tmps.setIfInBounds pp (.int .i64 (H i)),defers:=[] }:=by
   simp[Act.put,k']
  rw[p']at o';refine wpIn_mono (o'.piece (V i hi)) ?_;rintro e a1 O ⟨d',S1,⟨rfl,rfl⟩,hn,k1,k2,k3,k4⟩;have D':Kept A C O:=k4.weaken fun _ x=>x.elim
  refine⟨rfl,⟨_,S1,h' j E y D',fun b s=>.inl (E b s),y,k1,fun b o z=>?_⟩,fun b s=>k4.block b (j.2.1 b (E b s)) (fun x=>x),k4.keeps fun b o z=>⟨Nat.lt_of_lt_of_le (N b o z) j.2.2.2.2,fun x=>x⟩,k4.size⟩;rcases k3 b o z with q|q
  .refine⟨(h4 b o q).imp _root_.id (fun Z=>.inl (j.2.2.1 b Z).1),fun s=>?_⟩;have:=y b s;have:=N b o q;omega
  refine⟨.inr (.inr ⟨q,k1.2.stab b o z⟩),fun s=>?_⟩;have:=j.2.1 b (E b s);omega
 .rintro l i A a1 C hl hr ⟨u,S1,j,E,y,he,c'⟩ hi;have E':At J S0 C u (σb i) (pi i) a1 C:=At.base j.1 j.2.1 he (fun b o z=>(c' b o z).1);refine wpIn_mono (f' i hi l C u a1 C hr (fun b o z=>Nat.lt_of_lt_of_le (Y b o z) j.2.2.2.2) E') ?_;rintro e a2 O ⟨rfl,j',Z',S',g1,g2,g3,g4,g5,g6,g7⟩;refine⟨rfl,⟨Z',⟨g1,g2,fun b s=>⟨(g5 b (j.2.2.1 b s).1).1,(g5 b (j.2.2.1 b s).1).2.trans (j.2.2.1 b s).2⟩,j.2.2.2.1.trans g6,Nat.le_trans j.2.2.2.2 g7⟩,fun b s=>(g5 b (E b s)).1,y⟩,fun b s=>(g5 b (E b s)).2,⟨fun b o z=>?_,g6.2⟩,g7⟩;rcases h4 b o z with q|q
  .exact g6.1 b o q
  exact bT (g5 b (j.2.2.1 b q).1).2 o
 rintro D A L ⟨u,j,E,y⟩ hD hs;refine⟨rfl,?_⟩;cases ro with
 |none=>exact⟨u,D,j.1,E D (hD rfl).1,by rw[k'],(hD rfl).2⟩
 |some l0=>
  have he:=E4 j;exact⟨u,S,j.1,j.2.1,he,fun b o z=>(h4 b o z).imp _root_.id (fun q=>(j.2.2.1 b q).1),fun b s=>⟨(j.2.2.1 b (h5 b s).1).1,(j.2.2.1 b (h5 b s).1).2.trans (h5 b s).2⟩,h6.trans j.2.2.2.1,Nat.le_trans h7 j.2.2.2.2⟩
end
end Go.Vs
namespace Go.Vs
def VOp.fair:VOp->Bool
 |.bad=>false
 |_=>true
def Eg:List VOper->Bool
 |[]=>true
 |o::r=>VOp.fair o.op&&Eg r
def VCode.fair:VCode->Bool
 |.region d _ _=>Eg d
 |.seq a b=>a.fair&&b.fair
 |.cond _ a b=>a.fair&&b.fair
 |.block _ a=>a.fair
 |_=>true
theorem Hw:∀ {l:List VOper},Eg l=true->∀v∈l,VOp.fair v.op=true
 |[],_,v,a=>by simp at a
 |o::r,h,v,a=>by
  simp only[Eg,Bool.and_eq_true]at h;rcases List.mem_cons.1 a with rfl|a
  .exact h.1
  exact Hw h.2 v a
theorem uG{P:Program}{d:Array Oper}{u:List VOper}(h:cq P d d.toList=some u)(x:Eg u=true):ml d.toList=true:=by
 obtain⟨w,a⟩:=dC h;unfold ml;rw[List.all_eq_true];intro o y;obtain⟨i,z⟩:=List.getElem?_of_mem y;obtain⟨v,f,g⟩:=a i o z;obtain⟨_,m,_⟩:=gf g;have b:=Hw x v (List.mem_of_getElem? f);cases s:o.op with
 |defer c=>
  exfalso;rw[s]at m
  have:v.op=.bad:=by
   have e:pz P (.defer c)=some .bad:=rfl;rw[e]at m;exact(O_ m).symm
  rw[this]at b;cases b
 |_=>rfl
theorem T4{P:Program} : ∀(v:VCode) {c:Code},comp P c=some v->v.fair=true->fZ c=true:=by
 intro v
 induction v with
 |region z q i=>
  intro c h d;have A:i=[]:=aH h;subst A;obtain⟨id,D,s,rfl,B,_⟩:=fh h;exact uG B d
 |seq x y f g=>
  intro c h d;obtain⟨a,b,rfl,m,p⟩:=aH h;simp only[VCode.fair,Bool.and_eq_true]at d;simp only[fZ,Bool.and_eq_true];exact⟨f m d.1,g p d.2⟩
 |cond u x y f g=>
  intro c h d;obtain⟨o,a,b,rfl,_,m,p⟩:=aH h;simp only[VCode.fair,Bool.and_eq_true]at d;simp only[fZ,Bool.and_eq_true];exact⟨f m d.1,g p d.2⟩
 |block id x C=>
  intro c h d;obtain⟨a,rfl,m⟩:=aH h;show fZ a=true;exact C m d
 |loop x _=>intro c h d;obtain⟨a,rfl,_⟩:=aH h;rfl
 |scope x _=>intro c h d;obtain⟨a,rfl,_⟩:=aH h;rfl
 |skip=>intro c h d;have e:c=Code.skip:=aH h;subst e;rfl
 |exit id=>intro c h d;have e:c=Code.exit id:=aH h;subst e;rfl
 |label l=>intro c h d;have e:c=Code.label l:=aH h;subst e;rfl
 |goto l=>intro c h d;have e:c=Code.goto l:=aH h;subst e;rfl
 |ret=>intro c h d;have e:c=Code.ret:=aH h;subst e;rfl
 |refuse=>intro c h d;obtain⟨w,rfl⟩:=aH h;rfl
 |cut x _=>intro c h d;exact(aH h).elim
section
variable {P:Program} {c:Code}
theorem Gm{x y:VCode}(h:comp P c=some (VCode.seq x y).strip):∃a b,c=.seq a b/\comp P a=some x.strip/\comp P b=some y.strip:=aH h
theorem Qs{id:Nat}{x:VCode}(h:comp P c=some (VCode.block id x).strip):∃a,c=.block id a/\comp P a=some x.strip:=aH h
theorem agO{x:VCode}(h:comp P c=some (VCode.loop x).strip):∃a,c=.loop a/\comp P a=some x.strip:=aH h
theorem ahL{ops:List VOper}{a:List Nat}(h:comp P c=some (VCode.region ops .text a).strip):∃id b,c=.region id b false/\cq P b b.toList=some (aV ops):=by
 obtain⟨id,b,d,rfl,f,hm⟩:=fh (ops:=aV ops) (mode:=.text) h;rcases hm with⟨rfl,_⟩|⟨_,_,_,_,⟨h,_⟩|h⟩
 .exact⟨id,b,rfl,f⟩
 .cases h
 cases h
end
def mo(P:Program)(c:Code)(f:St)(e:Exit)(b:St):Prop:=TR P c (fun g d=>∃a,(g=e/\a=b)/\a.objs=[]/\cJ d a) f
theorem dt{P:Program}(hm:P.follows .mixedOrders=true)(v:VCode){c:Code}{b σ1:St}{e:Exit}(d:comp P c=some v.strip)(h:pw P v (fun f a=>f=e/\cJ a σ1) b)(i:v.strip.fair=true:=by rfl)(m:v.bnd b.n=true:=by rfl)(s:v.flat=true:=by rfl)(u:σ1.objs=[]:=by rfl):mo P c b e σ1:=
 OU hm v s (J5 v (fun f a g=>⟨σ1,⟨g.1,rfl⟩,u,g.2⟩) h) c d (T4 _ d i) m
section
variable {P:Program} {J:JZ} {S0:bb} {Wb:World} {Zb:Nat->Prop} {l n:Nat} {enc:Nat->Value}
theorem At.does{c:Code}{i σ1:St}{e:Exit}{p:Nat}{a:Act}{W:World}{ro:Option Nat}(f:Xd J)(g:∀b o,S0 b o->b<Wb.heap.size)(x:mo P c i e σ1)(h:At J S0 Wb Zb i p a W):c.wpIn (dr ro) 0 P (fun s u w=>s=e/\At J S0 Wb Zb σ1 p u w) a W:=by
 obtain⟨_,_,_,_,_,_,_,_,y⟩:=id h;refine wpIn_mono (At.piece f (fun b o z=>Nat.lt_of_lt_of_le (g b o z) y) x h) ?_;rintro s u w ⟨σ2,⟨rfl,rfl⟩,_,A,_⟩;exact⟨rfl,A⟩
theorem At.doesK{c:Code}{q d:St}{e:Exit}{p:Nat}{a:Act}{W:World}{ro:Option Nat}(f:Xd J)(g:∀b o,S0 b o->b<Wb.heap.size)(w:mo P c q e d)(h:At J S0 Wb Zb q p a W):c.wpIn (dr ro) 0 P (fun s u i=>s=e/\At J S0 Wb Zb d p u i/\Kept (fun _=>False) W i) a W:=by
 obtain⟨_,_,_,_,_,_,_,_,x⟩:=id h;refine wpIn_mono (At.piece f (fun b o y=>Nat.lt_of_lt_of_le (g b o y) x) w h) ?_;rintro s u i ⟨z,⟨rfl,rfl⟩,_,A,B⟩;exact⟨rfl,A,B⟩
theorem At.le{σ:St}{p:Nat}{a:Act}{W:World}(h:At J S0 Wb Zb σ p a W):Wb.heap.size<=W.heap.size:=by
 obtain⟨_,_,_,_,_,_,_,_,b⟩:=h;exact b
structure YReg(P:Program)(l:Nat)(os:Array Oper)(t:Int)(σ σ3:St):Prop where
 ok:∃(pre post:List VOper) (y:VOper) (f x:Opd) (d:Nat) (σ1:St),cq P os os.toList=some (aV (pre++y::post))/\ml os.toList=true/\sW σ.n (pre++y::post)=true/\y.op=.callV f [x]/\y.dst=some d/\
  (y.guard=none\/∃g,y.guard=some (g,true)/\aE σ1.env g=.val (.bool true))/\j9 P (fun σ'=>σ'=σ1) pre σ/\σ1.objs=[]/\val σ1 f=.val (.yld l)/\val σ1 x=.val (.int .i64 t)/\j9 P (fun σ'=>cJ σ' σ3) post {σ1 with env:=Vs.put σ1.env d (.val (.bool true)) }/\σ3.objs=[]
theorem At.yreg{id:Nat}{D:Array Oper}{t:Int}{σ i:St}{p:Nat}{a:Act}{W:World}{ro:Option Nat}(u:Xd J)(w:YZ P l S0 enc n J)(z:∀b o,S0 b o->b<Wb.heap.size)(L:YReg P l D t σ i)(N:enc p=.int .i64 t)(O:p<n)(h:At J S0 Wb Zb σ p a W) :
  (Code.region id D false).wpIn (dr ro) 0 P (fun e E H=>e=.normal/\At J S0 Wb Zb i (p+1) E H) a W:=by
 obtain⟨R,I,y,f,x,d,S,U,V,Y,Z,h5,h6,h7,h8,h9,A,B,C⟩:=L.ok
 have rm:∀(l:List VOper) {σ:St} {K s:St->Prop},(∀σ,K σ->s σ)->j9 P K l σ->j9 P s l σ:=fun l {σ K s} hk hh=>by
  have:=J5 (P:=P) (.region l .text []) (Q:=fun _ g=>K g) (Q':=fun _ g=>s g) (σ:=σ) (fun e g=>hk g)
  have e0:∀(g:St),g.drop []=g:=fun g=>by
   have:∀m:List (Nat×SV),kJ [] m=m:=fun m=>by
    induction m with
    |nil=>rfl
    |cons q r ih=>obtain⟨k,v⟩:=q;simp only[kJ,xa,cond_false,ih]
   simp[St.drop,this]
  simp only[pw,e0]at this;exact this hh
 refine wpIn_mono (At.yielded (K:=fun g=>g=i) u w (fun b o hS=>Nat.lt_of_lt_of_le (z b o hS) h.le) U V Y Z h5 h6 h7 h8 h9 A N O (rm _ (fun g hw=>⟨i,rfl,C,hw⟩) B) h) ?_;rintro e E H ⟨rfl,_,rfl,_,k⟩;exact⟨rfl,k⟩
theorem At.loop{w u y z A:Code}{R id ex:Nat}{B:Array Oper}{N q:Nat}{elem:Nat->Int}{σL σ1 σ2 σ3:Nat->St}{a:Act}{W:World}{ro:Option Nat}
  (f:Xd J) (C:YZ P l S0 enc n J) (g:∀b o,S0 b o->b<Wb.heap.size) (hn:q+N<=n) (s:∀i,i<N->enc (q+i)=.int .i64 (elem i))
  (U:∀i,i<=N->mo P w (σL i) .normal (σ1 i)) (V:∀i,i<N->mo P u (σ1 i) .normal (σ1 i)) (E:mo P u (σ1 N) (.exit ex) (σ1 N)) (Y:∀i,i<N->mo P y (σ1 i) .normal (σ2 i)) (Z:∀i,i<N->YReg P l B (elem i) (σ2 i) (σ3 i)) (h5:∀i,i<N->mo P z (σ3 i) .normal (σ3 i)) (h6:∀i,i<N->mo P A (σ3 i) .normal (σL (i+1)))
  (h:At J S0 Wb Zb (σL 0) q a W) :
  (Code.loop (.seq w (.seq u (.seq (.block R (.seq y (.seq (.region id B false) z))) A)))).wpIn (dr ro) 0 P (fun e H I=>e=.exit ex/\At J S0 Wb Zb (σ1 N) (q+N) H I) a W:=by
 refine wpIn_loop_rounds (N+1) ?_
 have K:∀r i,i+r=N->∀a W,At J S0 Wb Zb (σL i) (q+i) a W->Code.roundsIn (dr ro) 0 P (.seq w (.seq u (.seq (.block R (.seq y (.seq (.region id B false) z))) A))) (fun e H I=>e=.exit ex/\At J S0 Wb Zb (σ1 N) (q+N) H I) (r+1) a W:=by
  intro r
  induction r with
  |zero=>
   intro i hi a W h;obtain rfl:i=N:=by omega
   rw[roundsIn_succ];refine wpIn_seq (wpIn_mono (h.does f g (U i (by omega))) ?_);rintro e a1 W1 ⟨rfl,L⟩;refine wpIn_seq (wpIn_mono (L.does f g E) ?_);rintro e a2 W2 ⟨rfl,O⟩;exact⟨rfl,O⟩
  |succ r ih=>
   intro i hi a W h;rw[roundsIn_succ];refine wpIn_seq (wpIn_mono (h.does f g (U i (by omega))) ?_);rintro e a1 W1 ⟨rfl,L⟩;refine wpIn_seq (wpIn_mono (L.does f g (V i (by omega))) ?_);rintro e a2 W2 ⟨rfl,O⟩;refine wpIn_seq (wpIn_block (wpIn_seq (wpIn_mono (O.does f g (Y i (by omega))) ?_)));rintro e a3 W3 ⟨rfl,k3⟩;refine wpIn_seq (wpIn_mono (k3.yreg f C g (Z i (by omega)) (s i (by omega)) (by omega)) ?_);rintro e a4 W4 ⟨rfl,k4⟩;refine wpIn_mono (k4.does f g (h5 i (by omega))) ?_;rintro e a5 W5 ⟨rfl,k5⟩;refine wpIn_mono (k5.does f g (h6 i (by omega))) ?_;rintro e a6 W6 ⟨rfl,k6⟩;exact ih (i+1) (by omega) a6 W6 k6
 exact K N 0 (by omega) a W h
end
end Go.Vs
namespace Go.Vs
def ze(P:Program)(c:Code)(d:St)(e:Exit)(a:St):Prop:=TR P c (fun f b=>f=e/\cJ b a) d
theorem qv{P:Program}(hm:P.follows .mixedOrders=true)(v:VCode){c:Code}{b a:St}{e:Exit}(f:comp P c=some v.strip)(h:pw P v (fun g d=>g=e/\cJ d a) b)(i:v.strip.fair=true:=by rfl)(m:v.bnd b.n=true:=by rfl)(p:v.flat=true:=by rfl):ze P c b e a:=
 OU hm v p h c f (T4 _ f i) m
theorem Iu.does{P:Program}{w0 w:World}{S0:bb}{M:Ctx}{u σ1:St}{a:Act}{Z:Nat->Prop}{c:Code}{e:Exit}{ro:Option Nat}(hT:ze P c u e σ1)(h:Iu w0 S0 M u a Z w):c.wpIn (dr ro) 0 P (fun s x g=>s=e/\Iu w0 S0 M σ1 x Z g/\Kn S0 Z w g) a w:=by
 obtain⟨S,R,L,A,B⟩:=h;refine wpIn_mono (hT ro w S _ a w ⟨S,R,L,A.rebase⟩) (fun s x g O=>?_)
 have C:∀f,(s=e/\cJ f σ1)->f.n=u.n->gc w S ⟨VD u L,M.keep,M.at',M.df⟩ f x g->s=e/\Iu w0 S0 M σ1 x Z g/\Kn S0 Z w g:=by
  rintro f ⟨rfl,U⟩ hn V;obtain⟨W,D,E,k⟩:=U _ _ _ _ _ V;have Y:∀b,Z b->g.heap[b]?=w.heap[b]?:=fun b y=>k.kept.block b (B b y).1 (B b y).2.2.1
  refine⟨rfl,⟨W,D,E,A.unbase k k.defers k.hist k.far,fun b y=>?_⟩,Y,⟨fun b o H=>k.stay b o (A.ext b o H),k.kept.shape⟩,k.kept.size⟩;obtain⟨I,K,z,q4⟩:=B b y;refine⟨Nat.lt_of_lt_of_le I k.kept.size,K,fun⟨id,o,h3,h4⟩=>?_,fun o H=>?_⟩
  .rcases k.own id o b h3 h4 with i|i
   .omega
   exact z i
  rcases k.back b o H with i|i|i
  .exact q4 o i
  .omega
  exact z i
 cases s<;>first|exact O.elim|(obtain⟨f,I,K,z⟩:=O;exact C f I K z)
def zf(a:Nat)(b:List (List IV)):List (Nat×Ob):=[(1000,.box [.own 1001 a]),(1001,.arr a 1 b)]
theorem SimG.outBox{w0 w:World}{S0 S:bb}{M:Ctx}{z:St}{a:Act}{μ:Nat->Value}{L:Nat->Option Nat}{d:Nat}{env':List (Nat×SV)}(h:SimG w0 S0 M z a w S μ L)(C:ac z.objs d=some (.box [.nils]))(hd:aE z.env d=.loc d 0)(N:z.ro=[])(hM:M.keep=[])(he:∀k,aE env' k=.undef\/∃v,aE env' k=.val v/\aE z.env k=.val v) :
  ∃u f,SimG w0 S0 M ⟨Vs.put env' d (.loc 1000 0),zf 0 [],[],z.n,z.gl⟩ a w S u f/\∀b,VD ⟨Vs.put env' d (.loc 1000 0),zf 0 [],[],z.n,z.gl⟩ f b->VD z L b:=by
 obtain⟨b,vs,e,fr,hb,D,hh,hf,O⟩:=h.objs d _ C;obtain⟨v,us,R,U,⟨x,hx⟩,V⟩:=O;have N7:=h.env d;rw[hd]at N7;obtain⟨W,A,hv⟩:=N7 _ C;obtain rfl:W=b:=by rw[A]at D;simpa using D
 let u:Nat->Value:=fun i=>if i=1000 then μ d else .slice x 0 0
 let f:Nat->Option Nat:=fun i=>if i=1000 then L d else none
 have y:∀id o,ac (zf 0 []) id=some o->(id=1000/\o=.box [.own 1001 0])\/(id=1001/\o=.arr 0 1 []):=by
  intro id o m;unfold zf at m;simp only[ac]at m;cases I:(1000==id)with
  |true=>rw[I]at m;simp at m;simp at I;exact .inl ⟨I.symm,m.symm⟩
  |false=>
   rw[I]at m;cases K:(1001==id)with
   |true=>rw[K]at m;simp at m;simp at K;exact .inr ⟨K.symm,m.symm⟩
   |false=>rw[K]at m;simp at m
 refine⟨u,f,{defers:=h.defers,size:=h.size,env:=fun k=>?_,objs:=fun id o m=>?_,inj:=fun id Y o o' E m B g g'=>?_,own:=fun id o E m g=>?_,unst:=fun id o E Z m g hS=>?_,stab:=h.stab,ext:=h.ext,back:=h.back,kept:=h.kept,stay:=h.stay,hist:=fun p H=>by (rw[hM]at H;simp at H),far:=fun p H=>by (rw[hM]at H;simp at H),glob:=h.glob },?_⟩
 .show au w S u (zf 0 []) (aE (Vs.put env' d (.loc 1000 0)) k) _;rw[od];split
  .next e1=>
   subst e1;intro a' m;exact⟨W,by simp[u,A],hv⟩
  rcases he k with q|⟨iv,q1,q2⟩
  .rw[q];trivial
  rw[q1];have:=h.env k;rw[q2]at this;exact this
 .rcases y id o m with⟨rfl,rfl⟩|⟨rfl,rfl⟩
  .refine⟨W,vs,e,fr,by simp[f,hb],by simp[u,A],hh,hf,v,us,R,U,?_,V⟩;intro cv s c' B;rcases y 1001 _ B with⟨q,_⟩|⟨_,q⟩
   .simp at q
   simp only[Ob.arr.injEq]at q;obtain⟨rfl,rfl,rfl⟩:=q;exact⟨Nat.le_refl _,fun _=>by simp[u,hx]⟩
  exact .inl ⟨rfl,by simp[f],x,by simp[u]⟩
 .rcases y id o m with⟨rfl,_⟩|⟨rfl,_⟩
  .rcases y Y o' B with⟨rfl,_⟩|⟨rfl,_⟩
   .rfl
   simp[f]at g'
  simp[f]at g
 .rcases y id o m with⟨rfl,_⟩|⟨rfl,_⟩
  .exact h.own d _ E C (by simpa[f]using g)
  simp[f]at g
 .rcases y id o m with⟨rfl,_⟩|⟨rfl,_⟩
  .have:=h.unst d _ E Z C (by simpa[f]using g) hS;rw[N]at this;exact absurd this.1 (by simp)
  simp[f]at g
 rintro E ⟨id,o,m,g⟩;rcases y id o m with⟨rfl,_⟩|⟨rfl,_⟩
 .exact⟨d,_,C,by simpa[f]using g⟩
 simp[f]at g
theorem SimG.back'{w0 w:World}{S0 S:bb}{M:Ctx}{objs:List (Nat×Ob)}{ro:List Nat}{n:Nat}{g:List (Nat×List IV)}{a e:Act}{f:Nat->Value}{i:Nat->Option Nat}{d:Nat}(h:SimG w0 S0 M ⟨[],objs,ro,n,g⟩ a w S f i)(m:(0,SV.loc 1000 0)∈M.keep)(q:M.at' 0=e.tmps.getD d Go.undef)(s:e.tmps.size=n)(u:e.defers=M.df):SimG w0 S0 M ⟨[(d,.loc 1000 0)],objs,ro,n,g⟩ e w S f i:=
 {h with
  defers:=u
  size:=s
  env:=fun k=>by
   show au w S f objs (aE [(d,.loc 1000 0)] k) _;simp only[aE,ac];cases b:d==k with
   |true=>
    rw[beq_iff_eq]at b;subst b;have:=h.hist _ m;rw[q]at this;exact this
   |false=>trivial }
end Go.Vs
namespace Go.Vs
section
variable {P:Program} {w0:World} {S0:bb} {M:Ctx}
theorem Xf{b:Array Oper}{a:Array Bool}{m j:Nat}(d:a.size=b.size)(e:j<b.size)(h:m≠j->a.getD j false=true):(a.setIfInBounds m true).getD j false=true:=by
 by_cases hm:m=j
 .subst hm;simp[Array.getD,d,e]
 rw[getD_set_ne false hm];exact h hm
theorem Z4{a:Array Bool}{n m b:Nat}(d:a.size=n)(hm:m<n)(e:a.getD m false=false)(h:yX (a.getD · false) n<=b+1):yX ((a.setIfInBounds m true).getD · false) n<=b:=by
 have:=(JX (f:=(a.getD · false)) (g:=((a.setIfInBounds m true).getD · false)) e (by simp[Array.getD,d,hm]) (fun j i=>getD_set_ne false i) n).1 hm;omega
theorem aeY{d:Array Oper}{b:Array Bool}{Q:Exit->Act->World->Prop}{a:Act}{w:World}{m:Nat}(p:UpE d)(g:b.size=d.size)(hm:m<d.size)(A:b.getD m false=false)(h:∀j,j<d.size->m≠j->b.getD j false=true){e:Nat}(C:yX (b.getD · false) d.size<=e)(D:∀N:Act->World->Prop,(∀q s,Q .normal q s->N q s)->wpOp P d Q m N a w):wpAny P .any d Q e b a w:=by
 cases e with
 |zero=>
  have:=Ge (Nat.le_zero.1 C) m hm;simp only[A]at this;cases this
 |succ f=>
  refine⟨fun E=>?_,fun i H=>?_⟩
  .have:=OB p g E m hm;rw[A]at this;cases this
  obtain⟨I,K,u,_⟩:=mem_ready.1 H;have x:=(Array.getElem?_eq_some_iff.1 u).1
  obtain rfl:m=i:=Classical.byContradiction fun y=>by
   have:=h i x y;rw[CZ I]at this;cases this
  exact D _ fun q s z=>JY (fun j B=>Xf g B (h j B)) z f
theorem Qt{b:Array Oper}{e:List VOper}{last tl:VOper}(B:cq P b b.toList=some (e++[last,tl])){cU makes:List (Nat×Nat)}(g:kk b (e++[last,tl]).toArray=some (cU,makes))(z:Bh (e++[last])=true)(O:Bh [last,tl]=true){E:St}{a:Act}{w:World}(h:gc w0 S0 M E a w)
  (hd:∀v∈e,∀d,v.dst=some d->d<E.n) {R:List Eff} {A:St} (H:m5 P e E R A) (hk:yW E (cU.filter fun p=>decide (p.1<e.length)&&decide (p.2<e.length)) (makes.filter fun p=>decide (p.1<e.length)&&decide (p.2<e.length)) R=true)
  {Q:Exit->Act->World->Prop} (hQ:∀(N:Act->World->Prop),(∀s w',(∀W:Act->World->Prop,(∀s w',Q .normal s w'->W s w')->wpOp P b Q (e.length+1) W s w')->N s w')->∀s w',gc w0 S0 M A s w'->wpOp P b Q e.length N s w'):wpAny P .any b Q b.size (Array.replicate b.size false) a w:=by
 have S:=(j7 0 H).2.2;have f:=fun p (g:p∈kl 0 e R)=>K1 (rest:=[last,tl]) S g
 have hn:e.length+2=b.size:=by have:=(dC B).1;simpa using this
 obtain⟨hI,hg⟩:=Qd B g (fun p h=>(f p h).1) (wi 0 H) hk (fun p h=>(f p h).2.1) (fun p g x hx=>by simp[(f p g).2.2.1,(f x hx).2.2.1])
 have C:((Region.before b).getD (e.length+1) 0).testBit e.length=true:=by
  obtain⟨j,y,d,h1,Y,I,h4⟩:=D0 O 0 last rfl (by simp);have U:=(List.getElem?_eq_some_iff.1 Y).1;obtain rfl:j=1:=by simp at U;omega
  obtain rfl:y=tl:=by simpa using Y.symm
  exact K0 B g (by omega) (by rw[List.getElem?_append_right (Nat.le_refl _)];simp) (by rw[List.getElem?_append_right (by omega)];simp) I h4
 refine Qe (yY g) hI (fun p g=>by simp[(f p g).2.2.1]) (fun p g=>hd p.o (f p g).2.2.2)
  (fun Z K L b' a w i hf q hU hi hb hr D=>?_) (fun hE=>?_) b.size (J3 _ _) (Gg (late:=fun _=>false) (σB:=A) B H hg (Gf (j7 0 H).1)) h
 .simp at hU
  obtain rfl:i=e.length:=Classical.byContradiction fun V=>by
   obtain rfl:i=e.length+1:=by omega
   have:=hb _ C;rw[q.un e.length (by omega) (by simp)]at this;cases this
  have u:=Su B g z q.cl hb e.length
  have hL:L=[]:=by
   cases L with
   |nil=>rfl
   |cons p L=>
    exfalso;have I:=(f p (q.sub p (by simp))).2.2.1;have:=(q.li p.i (by omega) (by simp[I])).2 ⟨p,by simp,rfl⟩;rw[u p.i I (by omega)]at this;cases this
  subst hL;exact hQ _ (fun s w' hq=>aeY (yY g) (by simp[q.sz]) (m:=e.length+1) (by omega) (by rw[getD_set_ne false (by omega)];exact q.un _ (by omega) (by simp)) (fun j U V=>Xf q.sz U (fun hm=>u j (by omega) (by omega))) (Z4 q.sz hi (q.un _ hi (by simp)) hf) hq) a w (D.congr q.run)
 exact absurd (hE e.length (by omega)) (by simp)
end
theorem pK{P:Program}(hm:P.follows .mixedOrders=true){vs:List VOper}{last tl:VOper}{ps ms:List (Nat×Nat)}{f:List Nat}{Q:Exit->St->Prop}{g:St}
  (h:uD P (fun Z=>j9 P (fun q=>@NS (q.drop f) ⟨Q .normal⟩) [tl] Z) g ps ms (vs++[last]) g []) (B:Bh (aV (vs++[last]))=true:=by rfl) (b':Bh (aV [last,tl])=true:=by rfl):TV P (.region (vs++[last,tl]) (.drawn ps ms) f) Q g:=by
 intro c hc W;simp only[VCode.strip]at hc;simp only[VCode.bnd,Bool.and_eq_true]at W;obtain⟨W,_⟩:=W;obtain⟨id,e,p',rfl,C,s⟩:=fh hc;rcases s with⟨_,z⟩|⟨rfl,q',r',hp,⟨z,_⟩|z⟩
 .simp[RMode.strip]at z
 .simp[RMode.strip]at z
 simp only[RMode.strip,RMode.drawn.injEq]at z;obtain⟨rfl,rfl⟩:=z;refine D2.t hm ⟨id,e,true,rfl,?_⟩;intro w0 S0 M a w hs
 have u:gc w0 S0 M g a {w with drawn:=w.drawn+1 }:=by
  obtain⟨S,μ,β,m⟩:=hs;exact⟨S,μ,β,m.world (w':={w with drawn:=w.drawn+1 }) ⟨fun _ _ _=>rfl,fun _ _ h=>h⟩ (fun _ _ x=>x) (fun _ _ _ _ _=>rfl) (fun _ _ _ _ _ _ x=>x) m.stab (fun _ _ x=>.inl x) ⟨m.kept.os,m.kept.tape,m.kept.output,m.kept.size,m.kept.block,m.kept.shape⟩⟩
 obtain⟨s',y,es,c',he,D,h2,h3⟩:=za h;obtain⟨rfl,d'⟩:=List.append_inj' he rfl;obtain rfl:last=y:=by simpa using d'
 obtain⟨e',E⟩:=Bi W;have f':es.length=vs.length:=(j7 0 D).2.2;have hl:(aV vs).length=vs.length:=i8;replace D:=oq D;simp only[List.nil_append,f',<-hl]at h2;rw[y6]at C hp B
 have g':∀v∈aV vs,∀d,v.dst=some d->d<g.n:=by
  intro v C d b;obtain⟨i,A⟩:=List.getElem?_of_mem C;rw[jA]at A;cases H:vs[i]? with
  |none=>rw[H]at A;simp at A
  |some x=>
   rw[H]at A;simp only[Option.map_some,E_]at A;subst A;exact ju e' x (List.mem_of_getElem? H) d b
 refine⟨fun h=>(by cases h),fun _=>Qt (last:=last.strip) (tl:=tl.strip) C hp B b' u g' D h2 ?_⟩;intro N hN a' w' h';obtain⟨I,K⟩:=dC C;have t':e.toList.length=(aV vs).length+2:=by rw[<-I];simp[aV]
 have hn:c'.n=g.n:=DZ D
 have L:∀k (o:VOper),(aV vs++aV [last,tl])[k]?=some o->(Y:k<e.toList.length)->jM P e e.toList[k]=some o:=by
  intro k o H Y;obtain⟨v,O,i'⟩:=K _ _ (List.getElem?_eq_getElem Y);rw[H]at O;obtain rfl:=O_ O;exact i'
 have R:(aV vs).length<e.toList.length:=by omega
 have p:(aV vs).length+1<e.toList.length:=by omega
 refine qu (o:=e.toList[(aV vs).length]) (by rw[<-Array.getElem?_toList];exact List.getElem?_eq_getElem R) (L _ last.strip (by rw[List.getElem?_append_right (Nat.le_refl _)];simp[aV]) R) h' (fun d b=>by rw[hn];exact ju E last (by simp) d b) h3 (fun q u' v' Y j' U=>hN _ _ ?_);intro N' k';have V:q.n=g.n:=j'.trans hn;refine qu (o:=e.toList[(aV vs).length+1]) (by rw[<-Array.getElem?_toList];exact List.getElem?_eq_getElem p) (L _ tl.strip (by rw[List.getElem?_append_right (by omega)];simp[aV]) p) U (fun d b=>by rw[V];exact ju E tl (by simp) d b) Y (fun l' a3 w3 m' n' o'=>k' _ _ ?_);exact⟨_,m',(by show l'.n=g.n;rw[n',V]),qc _ _ _ _ _ _ _ o'⟩
end Go.Vs
namespace Go.Vs
theorem Eh{p:St}{d j id u s:Nat}{f:List SV}{m:List (List IV)}(B:ac p.objs d=some (.box f))(Y:f[j]?=some (.own id u))(N:ac p.objs id=some (.arr u s m))(C:id≠d)(x:p.ro.contains d=false) :
  cJ p {p with objs:=put p.objs d (.box (f.set j (.val (.slice m)))),ro:=id::p.ro }:=by
 rintro w0 S0 M a w ⟨S,Z,β,h⟩;obtain⟨b,vs,O,fr,R,D,g,a',E⟩:=h.objs d _ B;obtain⟨v,hv,H,y⟩:=al.get E Y;have I:=(y _ _ _ N).2 rfl;have U:=h.freeze [id];have V:=J0 h N (fz:=[id]) (by simp);rw[<-I]at V;have K:au w (fun b z=>S b z\/Jy β p.objs [id] b z) Z p.objs (.val (.slice m)) v:=V;obtain⟨b2,b',e2,c',W,k2,L,k4,k5⟩:=U.objs d _ B;rw[R]at W;obtain rfl:=O_ W;rw[g]at L;simp only[E_,Go.Obj.cells.injEq]at L;obtain⟨rfl,rfl,rfl⟩:=L
 have A:vs.toList.set j v=vs.toList:=by
  apply List.ext_getElem?;intro i;rw[List.getElem?_set];split
  .next e=>
   subst e;split
   .exact hv.symm
   next h0=>rw[List.getElem?_eq_none (by omega)]
  rfl
 have h3:=U.write (id:=d) (x':=.box (f.set j (.val (.slice m)))) (w':=w) B R (vs:=vs) (e:=O) (fr:=fr) ⟨rfl,rfl,rfl,rfl,fun _ _=>rfl,g,fun _ _ h=>h⟩ (by
  intro q;rcases List.mem_append.1 q with q|q
  .have q:d=id:=by simpa using q
   exact C q.symm
  have:p.ro.contains d=true:=by simpa using q
  rw[this]at x;cases x) (.inl ⟨_,_,rfl,rfl⟩) ⟨b,vs,O,fr,rfl,D,g,k4,by
  have:=al.set j k5 H K;rw[A]at this
  exact this⟩
 exact⟨_,_,_,h3⟩
end Go.Vs
namespace Go.Vs
mutual
def nt:IV->IV->Bool
 |.int k n,.int j m=>decide (k=j)&&decide (n=m)
 |.bool a,.bool b=>decide (a=b)
 |.str a,.str b=>decide (a=b)
 |.nilp,.nilp=>true
 |.ref a,.ref b=>uH a b
 |.slice a,.slice b=>Gn a b
 |.nilf,.nilf=>true
 |.fn f a,.fn g b=>decide (f=g)&&uH a b
 |.bnd f a,.bnd g b=>decide (f=g)&&uH a b
 |.nili,.nili=>true
 |.handle a b c,.handle d e h=>decide (a=d)&&(decide (b=e)&&decide (c=h))
 |.iface t a,.iface s b=>decide (t=s)&&nt a b
 |.agg a,.agg b=>uH a b
 |.tuple a,.tuple b=>uH a b
 |_,_=>false
def uH:List IV->List IV->Bool
 |[],[]=>true
 |x::a,y::b=>nt x y&&uH a b
 |_,_=>false
def Gn:List (List IV)->List (List IV)->Bool
 |[],[]=>true
 |x::a,y::b=>uH x y&&Gn a b
 |_,_=>false
end
mutual
theorem Xg:∀(x y:IV),nt x y=true->x=y
 |.int k n,y,h=>by
  cases y with
  |int j m=>simp only[nt,Bool.and_eq_true,decide_eq_true_eq]at h;rw[h.1,h.2]
  |_=>simp[nt]at h
 |.bool a,y,h=>by
  cases y with
  |bool b=>simp only[nt,decide_eq_true_eq]at h;rw[h]
  |_=>simp[nt]at h
 |.str a,y,h=>by
  cases y with
  |str b=>simp only[nt,decide_eq_true_eq]at h;rw[h]
  |_=>simp[nt]at h
 |.nilp,y,h=>by
  cases y with
  |nilp=>rfl
  |_=>simp[nt]at h
 |.nilf,y,h=>by
  cases y with
  |nilf=>rfl
  |_=>simp[nt]at h
 |.nili,y,h=>by
  cases y with
  |nili=>rfl
  |_=>simp[nt]at h
 |.yld l,y,h=>by
  cases y with
  |yld d=>simp[nt]at h
  |_=>simp[nt]at h
 |.nilS,y,h=>by simp[nt]at h
 |.ref a,y,h=>by
  cases y with
  |ref b=>simp only[nt]at h;rw[ov a b h]
  |_=>simp[nt]at h
 |.slice a,y,h=>by
  cases y with
  |slice b=>simp only[nt]at h;rw[OX a b h]
  |_=>simp[nt]at h
 |.fn f a,y,h=>by
  cases y with
  |fn g b=>simp only[nt,Bool.and_eq_true,decide_eq_true_eq]at h;rw[h.1,ov a b h.2]
  |_=>simp[nt]at h
 |.bnd f a,y,h=>by
  cases y with
  |bnd g b=>simp only[nt,Bool.and_eq_true,decide_eq_true_eq]at h;rw[h.1,ov a b h.2]
  |_=>simp[nt]at h
 |.handle a b c,y,h=>by
  cases y with
  |handle e i p=>simp only[nt,Bool.and_eq_true,decide_eq_true_eq]at h;rw[h.1,h.2.1,h.2.2]
  |_=>simp[nt]at h
 |.iface t a,y,h=>by
  cases y with
  |iface s b=>simp only[nt,Bool.and_eq_true,decide_eq_true_eq]at h;rw[h.1,Xg a b h.2]
  |_=>simp[nt]at h
 |.agg a,y,h=>by
  cases y with
  |agg b=>simp only[nt]at h;rw[ov a b h]
  |_=>simp[nt]at h
 |.tuple a,y,h=>by
  cases y with
  |tuple b=>simp only[nt]at h;rw[ov a b h]
  |_=>simp[nt]at h
theorem ov:∀(x y:List IV),uH x y=true->x=y
 |[],y,h=>by
  cases y with
  |nil=>rfl
  |cons b r=>simp[uH]at h
 |x::a,y,h=>by
  cases y with
  |nil=>simp[uH]at h
  |cons b r=>simp only[uH,Bool.and_eq_true]at h;rw[Xg x b h.1,ov a r h.2]
theorem OX:∀(x y:List (List IV)),Gn x y=true->x=y
 |[],y,h=>by
  cases y with
  |nil=>rfl
  |cons b r=>simp[Gn]at h
 |x::a,y,h=>by
  cases y with
  |nil=>simp[Gn]at h
  |cons b r=>simp only[Gn,Bool.and_eq_true]at h;rw[ov x b h.1,OX a r h.2]
end
def VH:List (Nat×List IV)->List (Nat×List IV)->Bool
 |[],[]=>true
 |(i,x)::a,(j,y)::b=>decide (i=j)&&(uH x y&&VH a b)
 |_,_=>false
theorem Xh:∀(x y:List (Nat×List IV)),VH x y=true->x=y
 |[],[],_=>rfl
 |[],_::_,h=>by simp[VH]at h
 |_::_,[],h=>by simp[VH]at h
 |(i,x)::a,(j,y)::b,h=>by
  simp only[VH,Bool.and_eq_true,decide_eq_true_eq]at h;rw[h.1,ov x y h.2.1,Xh a b h.2.2]
structure Ent where
 k:Nat
 args:List IV
 r:Res
def Xi(d b:List (Nat×List IV))(k:Nat)(a:List IV):List Ent->Option Out
 |[]=>none
 |e::r=>bif Nat.beq e.k k&&(uH e.args a&&VH d b)then some (.res e.r)else Xi d b k a r
def aeZ(d:List (Nat×List IV))(e:List Ent):Job->Option Out
 |.fn b k a=>Xi d b k a e
 |_=>none
theorem xe{P:Program}{gl:List (Nat×List IV)}{es:List Ent}(h:∀e∈es,CV gl P e.k e.args e.r):∀j o,aeZ gl es j=some o->E8 P j o:=by
 intro j o a;cases j with
 |fn d k args=>
  simp only[aeZ]at a
  induction es with
  |nil=>simp[Xi]at a
  |cons e r f=>
   simp only[Xi]at a;cases b:(Nat.beq e.k k&&(uH e.args args&&VH gl d))with
   |false=>
    rw[b]at a;exact f (fun x g=>h x (List.mem_cons_of_mem _ g)) a
   |true=>
    rw[b]at a;simp only[Bool.and_eq_true]at b;have i:=Nat.eq_of_beq_eq_true b.1;have m:=ov _ _ b.2.1;have p:=Xh _ _ b.2.2;subst i m p;cases a;exact h e (by simp)
 |mc=>simp[aeZ]at a
 |loop=>simp[aeZ]at a
end Go.Vs
