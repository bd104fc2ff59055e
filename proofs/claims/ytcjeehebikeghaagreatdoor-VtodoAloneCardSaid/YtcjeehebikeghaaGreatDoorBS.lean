/- A part of a proof. No conditions. -/
import Derived.Test.YtcjeehebikeghaaGreatDoorBD
import Derived.LoopN
import Derived.Scope
set_option linter.unusedVariables false
set_option linter.unusedSimpArgs false
namespace Go.Vs
theorem dP{σ:St}{rs:List VRes}{c:MC}(env:List (Nat×SV))(h1:cR σ ⟨env,c.objs',[],σ.n,σ.gl⟩:=by exact bQ)
  (h2:EB ⟨env,c.objs',[],σ.n,σ.gl⟩ rs c.res=some (c.res,[]):=by rfl) (h3:c.ro'=[]:=by rfl):cn rs c .ret σ:=⟨_,[],h1,rfl,h2,h3⟩
end Go.Vs
namespace Go.Vs

inductive Job where
 |fn (gl:List (Nat×List IV)) (k:Nat) (args:List IV)
 |mc (gl:List (Nat×List IV)) (k:Nat) (args:List SV) (objs:List (Nat×Ob)) (ro:List Nat)
 |loop (v:VCode) (σ:St)
inductive Out where
 |res (r:Res)
 |mc (res:SV) (objs':List (Nat×Ob)) (ro':List Nat)
 |lp (e:Exit) (σ:St)
def xG(P:Program):Job->Out->Prop
 |.fn gl k args,.res r=>zk gl P k args r
 |.mc gl k args objs ro,.mc r objs' ro'=>mP gl P k ⟨args,objs,r,objs',ro',ro⟩
 |.loop v σ,.lp e σ'=>∃n,∀Q:Exit->St->Prop,Q e σ'->∀c,comp P c=some v.strip->v.bnd σ.n=true->∀(w0:World) (S0:aO) (M:Ctx) (a:Act) (w:World),cE w0 S0 M σ a w->Code.rounds P c (xA w0 S0 M σ.n Q) n a w
 |_,_=>False

/- The objects that a value rX. -/
mutual
def SV.ids:SV->List Nat
 |.own id _=>[id]
 |.loc id _=>[id]
 |.eloc id _ _ _=>[id]
 |.view id _ _ _=>[id]
 |.selfN id _ _=>[id]
 |.ownT id _ _=>[id]
 |.itr id=>[id]
 |.agg cells=>uK cells
 |.clo _ caps=>uK caps
 |.tup caps=>uK caps
 |.ifc _ v=>v.ids
 |_=>[]
def uK:List SV->List Nat
 |[]=>[]
 |x::r=>x.ids++uK r
end
def Ob.ids:Ob->List Nat
 |.box cells=>uK cells
 |_=>[]
def sO(ids:List Nat):List Nat->Bool
 |[]=>true
 |i::r=>ids.contains i&&sO ids r
theorem zt{ids:List Nat} : ∀ {l:List Nat},sO ids l=true->∀i∈l,i∈ids
 |[],_,i,h=>by cases h
 |j::r,h,i,hi=>by
  simp only[sO,Bool.and_eq_true]at h;rcases List.mem_cons.1 hi with rfl|hi
  ·simpa using h.1
  ·exact zt h.2 i hi

section
variable {ρ ρ':List (Nat×Nat)}
/- There and back. -/
mutual
theorem Cu:∀x:SV,(∀i∈x.ids,ren ρ (ren ρ' i)=i)->(x.ren ρ').ren ρ=x
 |.undef,_=>rfl
 |.val _,_=>rfl
 |.nils,_=>rfl
 |.full _,_=>rfl
 |.own id _,h=>by simp only[SV.ren,h id (by simp[SV.ids])]
 |.loc id _,h=>by simp only[SV.ren,h id (by simp[SV.ids])]
 |.eloc id _ _ _,h=>by simp only[SV.ren,h id (by simp[SV.ids])]
 |.view id _ _ _,h=>by simp only[SV.ren,h id (by simp[SV.ids])]
 |.agg cells,h=>by simp only[SV.ren,qn cells h]
 |.clo _ caps,h=>by simp only[SV.ren,qn caps h]
 |.tup caps,h=>by simp only[SV.ren,qn caps h]
 |.ifc _ v,h=>by simp only[SV.ren,Cu v h]
 |.anyB,_=>rfl
 |.selfN id _ _,h=>by simp only[SV.ren,h id (by simp[SV.ids])]
 |.ownT id _ _,h=>by simp only[SV.ren,h id (by simp[SV.ids])]
 |.itr id,h=>by simp only[SV.ren,h id (by simp[SV.ids])]
theorem qn:∀x:List SV,(∀i∈uK x,ren ρ (ren ρ' i)=i)->qi ρ (qi ρ' x)=x
 |[],_=>rfl
 |x::r,h=>by
  simp only[qi,Cu x (fun i hi=>h i (by simp only[uK,List.mem_append];exact .inl hi)),qn r (fun i hi=>h i (by simp only[uK,List.mem_append];exact .inr hi))]
end
theorem L4:∀o:Ob,(∀i∈o.ids,ren ρ (ren ρ' i)=i)->(o.ren ρ').ren ρ=o
 |.box cells,h=>by simp only[Ob.ren,qn cells h]
 |.arr _ _ _,_=>rfl
 |.iter _ _,_=>rfl
end

def Am(objs:List (Nat×Ob)):Nat->List Nat->List Nat->List Nat
 |_,[],seen=>seen
 |0,_,seen=>seen
 |n+1,i::r,seen=>bif seen.contains i then Am objs n r seen else match ac objs i with
  |some o=>Am objs n (o.ids++r) (seen++[i])
  |none=>Am objs n r seen
def xH(objs:List (Nat×Ob)):List Nat->List (Nat×Ob)
 |[]=>[]
 |i::r=>match ac objs i with
  |some o=>(i,o)::xH objs r
  |none=>xH objs r
def Cw(objs:List (Nat×Ob))(ρ':List (Nat×Nat)):List Nat->List (Nat×Ob)
 |[]=>[]
 |i::r=>match ac objs i with
  |some o=>(ren ρ' i,o.ren ρ')::Cw objs ρ' r
  |none=>Cw objs ρ' r
def xI(objs:List (Nat×Ob))(ids:List Nat):List Nat->Bool
 |[]=>true
 |i::r=>(match ac objs i with
  |some o=>sO ids o.ids
  |none=>true)&&xI objs ids r
def PY(ρ ρ':List (Nat×Nat)):List Nat->Bool
 |[]=>true
 |i::r=>Nat.beq (ren ρ (ren ρ' i)) i&&PY ρ ρ' r
theorem Cx{ρ ρ':List (Nat×Nat)} : ∀ {l:List Nat},PY ρ ρ' l=true->∀i∈l,ren ρ (ren ρ' i)=i
 |[],_,i,h=>by cases h
 |j::r,h,i,hi=>by
  simp only[PY,Bool.and_eq_true]at h;rcases List.mem_cons.1 hi with rfl|hi
  ·exact Nat.eq_of_beq_eq_true h.1
  ·exact Cx h.2 i hi
theorem wO{objs:List (Nat×Ob)}{ρ ρ':List (Nat×Nat)}{ids:List Nat}(hi:∀i∈ids,ren ρ (ren ρ' i)=i):∀ {l:List Nat},(∀i∈l,i∈ids)->xI objs ids l=true->uY objs ρ (Cw objs ρ' l)
 |[],_,_=>trivial
 |i::r,hl,hc=>by
  simp only[xI,Bool.and_eq_true]at hc;unfold Cw;split
  ·next o ho=>
   rw[ho]at hc;refine⟨?_,wO hi (fun j hj=>hl j (List.mem_cons_of_mem _ hj)) hc.2⟩;rw[hi i (hl i (by simp)),ho,L4 o (fun j hj=>hi j (zt hc.1 j hj))]
  ·exact wO hi (fun j hj=>hl j (List.mem_cons_of_mem _ hj)) hc.2
theorem zu{objs:List (Nat×Ob)}{ρ ρ':List (Nat×Nat)}{ids:List Nat}(hi:∀i∈ids,ren ρ (ren ρ' i)=i):∀ {l:List SV},sO ids (uK l)=true->uX objs ρ l (qi ρ' l) []
 |[],_=>rfl
 |x::r,h=>by
  have hm:=zt h;have hx:(x.ren ρ').ren ρ=x:=Cu x (fun i h'=>hi i (hm i (by simp only[uK,List.mem_append];exact .inl h')))
  have hr:sO ids (uK r)=true:=by
   have gen:∀(a b:List Nat),sO ids (a++b)=true->sO ids b=true:=by
    intro a
    induction a with
    |nil=>exact fun b h=>h
    |cons y a ih=>intro b h;simp only[List.cons_append,sO,Bool.and_eq_true]at h;exact ih b h.2
   exact gen _ _ h
  cases x with
  |val iv=>exact⟨[],[],rfl,zu hi hr,rfl⟩
  |_=>exact⟨hx.symm,zu hi hr⟩
theorem M0{ρ:List (Nat×Nat)} : ∀ {l:List (Nat×Ob)},Ud ρ [] l=true
 |[]=>rfl
 |_::r=>by simp[Ud,M0 (l:=r)]

def zw(σ:St):Nat->List Nat
 |0=>[]
 |n+1=>bif (ac σ.objs n).isNone&&zg n σ.env&&zh n σ.objs then n::zw σ n else zw σ n
def H5(objs:List (Nat×Ob)):List (Nat×Ob)->List Nat
 |[]=>[]
 |(i,_)::r=>bif (ac objs i).isSome then H5 objs r else i::H5 objs r
def XA(σ:St)(objs objs':List (Nat×Ob)):List (Nat×Nat):=match H5 objs objs' with
 |[]=>[]
 |l=>l.zip (zw σ σ.n)

section
variable (X:Job->Option Out)
def mX(σ:St)(dst:Option Nat)(fv:SV)(args:List Opd):Option St:=match IK σ fv args with
 |none=>none
 |some (k,vals)=>
  let ids:=Am σ.objs 200 (uK vals) []
  let ρ':=ids.map fun i=>(i,1000+i)
  let objs:=Cw σ.objs ρ' ids
  let ro:=(ids.filter σ.ro.contains).map (1000 + ·)
  match X (.mc σ.gl k (qi ρ' vals) objs ro)with
  |some (.mc res objs' ro')=>
   let ρ:=ids.map (fun i=>(1000+i,i))++XA σ objs objs'
   bif Ue σ ρ ⟨qi ρ' vals,objs,res,objs',ro',ro⟩&&(PY ρ ρ' ids&&(sO ids (uK vals)&&xI σ.objs ids ids))then some (σ.mapply dst ρ ⟨qi ρ' vals,objs,res,objs',ro',ro⟩ [])else none
  |_=>none
def cX(σ:St)(dst:Option Nat)(fv:SV)(args:List Opd):Option Upd:=match dK σ fv args with
 |some (g,ivs,fz)=>match X (.fn σ.gl g ivs)with
  |some (.res r)=>gO dst fz r
  |_=>none
 |none=>none
def SJ(σ:St)(dst:Option Nat):VOp->Option Upd
 |.call f args=>cX X σ dst (.val (.fn f [])) args
 |.callV f args=>cX X σ dst (val σ f) args
 |op=>match ev σ dst op with
  |some u=>match u.dec with
   |.isTrue _=>some u
   |.isFalse _=>none
  |none=>none
def L5(σ:St)(dst:Option Nat):VOp->Option St
 |.callM f args=>mX X σ dst (.val (.fn f [])) args
 |.callMV f args=>mX X σ dst (val σ f) args
 |op=>match SJ X σ dst op with
  |some u=>some (σ.apply dst u)
  |none=>none
def xT:List VOper->St->Option St
 |[],σ=>some σ
 |o::r,σ=>match o.guard with
  |none=>match SJ X σ o.dst o.op with
   |some u=>xT r (σ.apply o.dst u)
   |none=>none
  |some (g,b)=>match iG (aC σ.env g)with
   |some c=>if c=some b then (match SJ X σ o.dst o.op with
     |some u=>xT r (σ.apply o.dst u)
     |none=>none)else xT r (σ.apply o.dst gd)
   |none=>none
def xM:List VOper->St->Option St
 |[],σ=>some σ
 |o::r,σ=>match o.guard with
  |none=>match L5 X σ o.dst o.op with
   |some σ'=>xM r σ'
   |none=>none
  |some (g,b)=>match iG (aC σ.env g)with
   |some c=>if c=some b then (match L5 X σ o.dst o.op with
     |some σ'=>xM r σ'
     |none=>none)else xM r (σ.apply o.dst gd)
   |none=>none
def xD(σ0:St)(ps ms:List (Nat×Nat)):List VOper->St->List Eff->Option St
 |[],σ,es=>bif sI σ0 ps ms es then some σ else none
 |o::r,σ,es=>match o.guard with
  |none=>match SJ X σ o.dst o.op with
   |some u=>xD σ0 ps ms r (σ.apply o.dst u) (es++[⟨e9 σ o.op u,o.dst,u⟩])
   |none=>none
  |some (g,b)=>match iG (aC σ.env g)with
   |some c=>if c=some b then (match SJ X σ o.dst o.op with
     |some u=>xD σ0 ps ms r (σ.apply o.dst u) (es++[⟨e9 σ o.op u,o.dst,u⟩])
     |none=>none)else xD σ0 ps ms r (σ.apply o.dst gd) (es++[⟨[],o.dst,gd⟩])
   |none=>none
def Wp(σ0:St)(ps ms:List (Nat×Nat)):List VOper->St->List Eff->Option St
 |[],_,_=>none
 |[o],σ,es=>bif sI σ0 (cutP es.length ps) (cutP es.length ms) es then xM X [o] σ else none
 |o::o2::r,σ,es=>match o.guard with
  |none=>match SJ X σ o.dst o.op with
   |some u=>Wp σ0 ps ms (o2::r) (σ.apply o.dst u) (es++[⟨e9 σ o.op u,o.dst,u⟩])
   |none=>none
  |some _=>none
def xR(ops:List VOper)(σ:St):RMode->Option St
 |.text=>xM X ops σ
 |.calm=>xT X ops σ
 |.drawn ps ms=>xD X σ ps ms ops σ []
 |.drawnM ps ms=>Wp X σ ps ms ops σ []
def xw:VCode->St->Option (Exit×St)
 |.skip,σ=>some (.normal,σ)
 |.region ops mode dead,σ=>match xR X ops σ mode with
  |some σ'=>some (.normal,σ'.drop dead)
  |none=>none
 |.seq a b,σ=>match xw a σ with
  |some (.normal,σ')=>xw b σ'
  |r=>r
 |.cond c a b,σ=>match val σ c with
  |.val (.bool true)=>xw a σ
  |.val (.bool false)=>xw b σ
  |_=>none
 |.block id a,σ=>match xw a σ with
  |some (.exit i,σ')=>if i=id then some (.normal,σ')else some (.exit i,σ')
  |r=>r
 |.loop a,σ=>match X (.loop a σ)with
  |some (.lp e σ')=>some (e,σ')
  |_=>none
 |.exit id,σ=>some (.exit id,σ)
 |.scope a,σ=>match xw a σ with
  |some (.goto _,_)=>none
  |r=>r
 |.label _,σ=>some (.normal,σ)
 |.goto l,σ=>some (.goto l,σ)
 |.ret,σ=>some (.ret,σ)
 |.refuse,_=>none
 |.cut a,σ=>xw a σ
end

section
variable {P:Program} {X:Job->Option Out} (hX:∀j o,X j=some o->xG P j o)
include hX
theorem J9{σ σ':St}{dst:Option Nat}{fv:SV}{args:List Opd}(h:mX X σ dst fv args=some σ'){K:St->Prop}(hK:K σ'):IL P σ dst fv args K:=by
 unfold mX at h;split at h
 ·cases h
 ·next k vals hv=>
  dsimp only at h;split at h
  ·next res objs' ro' hx=>
   have hF:=hX _ _ hx;generalize Am σ.objs 200 (uK vals) []=ids at *;generalize hρ:(ids.map (fun i=>(1000+i,i))++XA σ (Cw σ.objs (ids.map fun i=>(i,1000+i)) ids) objs')=ρ at *;generalize (ids.map fun i=>(i,1000+i))=ρ' at *;cases hc:(Ue σ ρ ⟨qi ρ' vals,Cw σ.objs ρ' ids,res,objs',ro',(ids.filter σ.ro.contains).map (1000 + ·)⟩&&(PY ρ ρ' ids&&(sO ids (uK vals)&&xI σ.objs ids ids)))with
   |false=>rw[hc]at h;cases h
   |true=>
    rw[hc]at h;cases h;simp only[Bool.and_eq_true]at hc;obtain⟨h1,h2,h3,h4⟩:=hc;exact⟨k,vals,_,ρ,[],hv,hF,h1,wO (Cx h2) (fun _ x=>x) h4,zu (Cx h2) h3,M0,hK⟩
  ·cases h
theorem Ja{σ:St}{dst:Option Nat}{fv:SV}{args:List Opd}{u:Upd}(h:cX X σ dst fv args=some u){K:Upd->Prop}(hK:K u):match dK σ fv args with
  |some (g,ivs,fz)=>∃r,zk σ.gl P g ivs r/\match gO dst fz r with
   |some u=>K u
   |none=>False
  |none=>False:=by
 unfold cX at h;cases hca:dK σ fv args with
 |none=>rw[hca]at h;cases h
 |some p=>
  obtain⟨g,ivs,fz⟩:=p;rw[hca]at h;dsimp only at h |-;split at h
  ·next r hx=>exact⟨_,hX _ _ hx,by rw[h];exact hK⟩
  ·cases h
theorem uC{σ:St}{dst:Option Nat}{op:VOp}{u:Upd}(h:SJ X σ dst op=some u){K:Upd->Prop}(hK:K u):cT P σ dst K op:=by
 have plain:(match ev σ dst op with
   |some u=>match u.dec with
    |.isTrue _=>some u
    |.isFalse _=>none
   |none=>none)=some u->(match ev σ dst op with
   |some u=>u.side/\K u
   |none=>False):=by
  intro h;split at h
  ·split at h
   ·next hs _=>cases h;exact⟨hs,hK⟩
   ·cases h
  ·cases h
 cases op
 case call f args=>exact Ja hX h hK
 case callV f args=>exact Ja hX h hK
 all_goals exact plain h
theorem L6{σ:St}{dst:Option Nat}{op:VOp}{σ':St}(h:L5 X σ dst op=some σ'){K:St->Prop}(hK:K σ'):jK P σ dst K op:=by
 cases op
 case callM f args=>exact J9 hX (by simpa only [L5]using h) hK
 case callMV f args=>exact J9 hX (by simpa only [L5]using h) hK
 all_goals
  simp only[L5]at h;split at h
  ·next u hu=>cases h;exact uC hX hu (K:=fun u=>K (σ.apply dst u)) hK
  ·cases h
theorem Cy:∀ {ops:List VOper} {σ σ':St},xT X ops σ=some σ'->∀ {K:St->Prop},K σ'->lE P K ops σ
 |[],σ,σ',h,K,hK=>by cases h;exact hK
 |o::r,σ,σ',h,K,hK=>by
  unfold xT at h;unfold lE
  have act:(match SJ X σ o.dst o.op with
    |some u=>xT X r (σ.apply o.dst u)
    |none=>none)=some σ'->cT P σ o.dst (fun u=>lE P K r (σ.apply o.dst u)) o.op:=by
   intro h;split at h
   ·next u hu=>exact uC hX hu (Cy h hK)
   ·cases h
  cases hg:o.guard with
  |none=>rw[hg]at h;exact act h
  |some p=>
   obtain⟨g,b⟩:=p;rw[hg]at h;dsimp only at h |-;cases hc:iG (aC σ.env g)with
   |none=>rw[hc]at h;cases h
   |some c=>
    rw[hc]at h;dsimp only at h |-;split at h
    ·next he=>exact⟨fun _=>act h,fun hn=>absurd he hn⟩
    ·next he=>exact⟨fun hy=>absurd hy he,fun _=>Cy h hK⟩
theorem xJ:∀ {ops:List VOper} {σ σ':St},xM X ops σ=some σ'->∀ {K:St->Prop},K σ'->gg P K ops σ
 |[],σ,σ',h,K,hK=>by cases h;exact hK
 |o::r,σ,σ',h,K,hK=>by
  unfold xM at h;unfold gg
  have act:(match L5 X σ o.dst o.op with
    |some σ'=>xM X r σ'
    |none=>none)=some σ'->jK P σ o.dst (gg P K r) o.op:=by
   intro h;split at h
   ·next u hu=>exact L6 hX hu (xJ h hK)
   ·cases h
  cases hg:o.guard with
  |none=>rw[hg]at h;exact act h
  |some p=>
   obtain⟨g,b⟩:=p;rw[hg]at h;dsimp only at h |-;cases hc:iG (aC σ.env g)with
   |none=>rw[hc]at h;cases h
   |some c=>
    rw[hc]at h;dsimp only at h |-;split at h
    ·next he=>exact⟨fun _=>act h,fun hn=>absurd he hn⟩
    ·next he=>exact⟨fun hy=>absurd hy he,fun _=>xJ h hK⟩
theorem Cz{σ0:St}{ps ms:List (Nat×Nat)} : ∀ {ops:List VOper} {σ σ':St} {es:List Eff},xD X σ0 ps ms ops σ es=some σ'->∀ {K:St->Prop},K σ'->lC P (fun es σ'=>sI σ0 ps ms es=true/\K σ') ops σ es
 |[],σ,σ',es,h,K,hK=>by
  unfold xD at h;cases hc:sI σ0 ps ms es with
  |false=>rw[hc]at h;cases h
  |true=>rw[hc]at h;cases h;exact⟨hc,hK⟩
 |o::r,σ,σ',es,h,K,hK=>by
  unfold xD at h;unfold lC
  have act:(match SJ X σ o.dst o.op with
    |some u=>xD X σ0 ps ms r (σ.apply o.dst u) (es++[⟨e9 σ o.op u,o.dst,u⟩])
    |none=>none)=some σ'->cT P σ o.dst (fun u=>lC P (fun es σ'=>sI σ0 ps ms es=true/\K σ') r (σ.apply o.dst u) (es++[⟨e9 σ o.op u,o.dst,u⟩])) o.op:=by
   intro h;split at h
   ·next u hu=>exact uC hX hu (Cz h hK)
   ·cases h
  cases hg:o.guard with
  |none=>rw[hg]at h;exact act h
  |some p=>
   obtain⟨g,b⟩:=p;rw[hg]at h;dsimp only at h |-;cases hc:iG (aC σ.env g)with
   |none=>rw[hc]at h;cases h
   |some c=>
    rw[hc]at h;dsimp only at h |-;split at h
    ·next he=>exact⟨fun _=>act h,fun hn=>absurd he hn⟩
    ·next he=>exact⟨fun hy=>absurd hy he,fun _=>Cz h hK⟩
theorem FR{σ0:St}{ps ms:List (Nat×Nat)} : ∀ {ops:List VOper} {σ σ':St} {es:List Eff},Wp X σ0 ps ms ops σ es=some σ'->∀ {K:St->Prop},K σ'->oY P K σ0 ps ms ops σ es
 |[],σ,σ',es,h,K,hK=>by cases h
 |[o],σ,σ',es,h,K,hK=>by
  unfold Wp at h;cases hc:sI σ0 (cutP es.length ps) (cutP es.length ms) es with
  |false=>rw[hc]at h;cases h
  |true=>rw[hc]at h;exact⟨hc,xJ hX h hK⟩
 |o::o2::r,σ,σ',es,h,K,hK=>by
  unfold Wp at h;unfold oY;cases hg:o.guard with
  |none=>
   rw[hg]at h;dsimp only at h |-;split at h
   ·next u hu=>exact uC hX hu (FR h hK)
   ·cases h
  |some p=>rw[hg]at h;cases h
end

theorem An{P:Program}{v:VCode}{Q:Exit->St->Prop}{σ σ':St}(hw:cR σ σ')(hn:σ'.n=σ.n){n:Nat}(h:∀c,comp P c=some v.strip->v.bnd σ'.n=true->∀(w0:World) (S0:aO) (M:Ctx) (a:Act) (w:World),cE w0 S0 M σ' a w->Code.rounds P c (xA w0 S0 M σ'.n Q) n a w) :
  ∀c,comp P c=some v.strip->v.bnd σ.n=true->∀(w0:World) (S0:aO) (M:Ctx) (a:Act) (w:World),cE w0 S0 M σ a w->Code.rounds P c (xA w0 S0 M σ.n Q) n a w:=by
 intro c hc hb w0 S0 M a w hs;have:=h c hc (by rw[hn];exact hb) w0 S0 M a w (hw _ _ _ _ _ hs);rw[hn]at this;exact this
theorem Ao{P:Program}(hm:P.follows .mixedOrders=true){v:VCode}{Q:Exit->St->Prop}{σ:St}{n:Nat}(h:pw P v (fun e σ'=>match e with
   |.normal=>∀c,comp P c=some v.strip->v.bnd σ'.n=true->∀(w0:World) (S0:aO) (M:Ctx) (a:Act) (w:World),cE w0 S0 M σ' a w->Code.rounds P c (xA w0 S0 M σ'.n Q) n a w
   |e=>Q e σ') σ):∀c,comp P c=some v.strip->v.bnd σ.n=true->∀(w0:World) (S0:aO) (M:Ctx) (a:Act) (w:World),cE w0 S0 M σ a w->Code.rounds P c (xA w0 S0 M σ.n Q) (n+1) a w:=by
 intro c hc hb w0 S0 M a w hs;refine wp_mono (kz hm v h c hc hb w0 S0 M a w hs) (fun e a' w' hl=>?_);cases e with
 |normal=>
  obtain⟨σ',q1,q2,q3⟩:=hl;have:=q1 c hc (by rw[q2];exact hb) w0 S0 M a' w' q3;rw[q2]at this;exact this
 |exit=>exact hl
 |goto=>exact hl
 |ret=>exact hl
 |panic=>exact hl
 |outgrown=>exact hl

section
variable {P:Program} (hm:P.follows .mixedOrders=true) {X:Job->Option Out} (hX:∀j o,X j=some o->xG P j o)
include hm hX
omit hm in
theorem PZ{ops:List VOper}{σ σ':St}{mode:RMode}{dead:List Nat}(h:xR X ops σ mode=some σ'){Q:Exit->St->Prop}(hQ:Q .normal (σ'.drop dead)):pw P (.region ops mode dead) Q σ:=by
 cases mode with
 |text=>exact xJ hX h (K:=fun σ'=>Q .normal (σ'.drop dead)) hQ
 |calm=>exact Cy hX h (K:=fun σ'=>Q .normal (σ'.drop dead)) hQ
 |drawn ps ms=>exact Cz hX h (K:=fun σ'=>Q .normal (σ'.drop dead)) hQ
 |drawnM ps ms=>exact FR hX h (K:=fun σ'=>Q .normal (σ'.drop dead)) hQ
theorem gh:∀(v:VCode) {σ σ':St} {e:Exit},xw X v σ=some (e,σ')->∀ {Q:Exit->St->Prop},Q e σ'->pw P v Q σ
 |.skip,σ,σ',e,h,Q,hQ=>by cases h;exact hQ
 |.region ops mode dead,σ,σ',e,h,Q,hQ=>by
  simp only[xw]at h;split at h
  ·next σ1 hr=>cases h;exact PZ hX hr hQ
  ·cases h
 |.seq a b,σ,σ',e,h,Q,hQ=>by
  simp only[xw]at h;split at h
  ·next σ1 ha=>exact gh a ha (gh b h hQ)
  ·next hne=>
   refine gh a h ?_;cases e with
   |normal=>exact absurd h (by simpa using hne σ')
   |_=>exact hQ
 |.cond c a b,σ,σ',e,h,Q,hQ=>by
  simp only[xw]at h;simp only[pw];split at h
  ·next hv=>rw[hv];exact⟨fun _=>gh a h hQ,fun h=>by cases h⟩
  ·next hv=>rw[hv];exact⟨fun h=>(by cases h),fun _=>gh b h hQ⟩
  ·cases h
 |.block id a,σ,σ',e,h,Q,hQ=>by
  simp only[xw]at h;split at h
  ·next i σ1 ha=>
   refine gh a ha ?_;split at h
   ·next hi=>cases h;dsimp only;rw[if_pos hi];exact hQ
   ·next hi=>cases h;dsimp only;rw[if_neg hi];exact hQ
  ·next hne=>
   refine gh a h ?_;cases e with
   |exit i=>exact absurd h (by simpa using hne i σ')
   |_=>exact hQ
 |.loop a,σ,σ',e,h,Q,hQ=>by
  simp only[xw]at h;split at h
  ·next e1 σ1 hx=>
   cases h;obtain⟨n,hr⟩:=hX _ _ hx;intro c hc hb w0 S0 M act w hs;obtain⟨p,rfl,h1⟩:=aZ hc;exact wp_loop_rounds n (hr Q hQ p h1 hb w0 S0 M act w hs)
  ·cases h
 |.exit id,σ,σ',e,h,Q,hQ=>by cases h;exact hQ
 |.scope a,σ,σ',e,h,Q,hQ=>by
  simp only[xw]at h;intro c hc hb w0 S0 M act w hs;obtain⟨p,rfl,h1⟩:=aZ hc;split at h
  ·cases h
  ·next hne=>
   refine wp_scope_straight (wp_mono (kz hm a (gh a h (Q:=fun e1 σ1=>Q e1 σ1/\e1=e) ⟨hQ,rfl⟩) p h1 hb w0 S0 M act w hs) (fun e1 a' w' hl=>?_));cases e1 with
   |goto l=>
    obtain⟨σ2,⟨_,q1⟩,_⟩:=hl;subst q1;exact absurd h (by simpa using hne l σ')
   |panic=>exact hl.elim
   |outgrown=>exact hl.elim
   |_=>
    obtain⟨σ2,⟨q0,_⟩,q2,q3⟩:=hl;exact⟨σ2,q0,q2,q3⟩
 |.label _,σ,σ',e,h,Q,hQ=>by cases h;exact hQ
 |.goto l,σ,σ',e,h,Q,hQ=>by cases h;exact hQ
 |.ret,σ,σ',e,h,Q,hQ=>by cases h;exact hQ
 |.refuse,σ,σ',e,h,Q,hQ=>by cases h
 |.cut a,σ,σ',e,h,Q,hQ=>kz hm a (gh a h hQ)
end
end Go.Vs
namespace Go.Vs

def VOp.isM:VOp->Bool
 |.callM _ _=>true
 |.callMV _ _=>true
 |_=>false
def Q0:List VOper->Bool
 |[]=>false
 |o::r=>o.op.isM||Q0 r
def FS:RMode->Bool
 |.drawnM _ _=>false
 |_=>true
def lF:VCode->Bool
 |.region ops mode dead=>!Q0 ops&&(FS mode&&dead.isEmpty)
 |.seq a b=>lF a&&lF b
 |.cond _ a b=>lF a&&lF b
 |.block _ a=>lF a
 |.loop a=>lF a
 |.scope a=>lF a
 |.cut _=>false
 |_=>true
theorem CA:∀ {ops:List VOper},Q0 ops=false->aI ops=ops
 |[],_=>rfl
 |⟨d,op,g⟩::r,h=>by
  simp only[Q0,Bool.or_eq_false_iff]at h;have:op.strip=op:=by cases op<;>first|rfl|(exact absurd h.1 (by simp[VOp.isM]))
  simp only[aI,VOper.strip,this,CA h.2]
theorem gJ:∀ {v:VCode},lF v=true->v.strip=v
 |.region ops mode dead,h=>by
  simp only[lF,Bool.and_eq_true,Bool.not_eq_true',List.isEmpty_iff]at h;obtain⟨h1,h2,rfl⟩:=h;have:mode.strip=mode:=by cases mode<;>first|rfl|(exact absurd h2 (by simp[FS]))
  simp only[VCode.strip,CA h1,this]
 |.seq a b,h=>by simp only[lF,Bool.and_eq_true]at h;simp only[VCode.strip,gJ h.1,gJ h.2]
 |.cond _ a b,h=>by simp only[lF,Bool.and_eq_true]at h;simp only[VCode.strip,gJ h.1,gJ h.2]
 |.block _ a,h=>by simp only[VCode.strip,gJ (v:=a) h]
 |.loop a,h=>by simp only[VCode.strip,gJ (v:=a) h]
 |.scope a,h=>by simp only[VCode.strip,gJ (v:=a) h]
 |.skip,_=>rfl
 |.exit _,_=>rfl
 |.label _,_=>rfl
 |.goto _,_=>rfl
 |.ret,_=>rfl
 |.refuse,_=>rfl

/- Which calls turn objects: those of the functions 'mc'; of values, if 'mv'. -/
def H6(mc:List Nat)(mv:Bool):VOp->VOp
 |.call f a=>bif mc.contains f then .callM f a else .call f a
 |.callV f a=>bif mv then .callMV f a else .callV f a
 |op=>op
def xK(mc:List Nat)(mv:Bool):List VOper->List VOper
 |[]=>[]
 |o::r=>⟨o.dst,H6 mc mv o.op,o.guard⟩::xK mc mv r
def Jc(b:Bool):RMode->RMode
 |.drawn p m=>bif b then .drawnM p m else .drawn p m
 |m=>m
def qT(mc:List Nat)(mv:Bool):VCode->VCode
 |.region ops mode dead=>.region (xK mc mv ops) (Jc (Q0 (xK mc mv ops)) mode) dead
 |.seq a b=>.seq (qT mc mv a) (qT mc mv b)
 |.cond c a b=>.cond c (qT mc mv a) (qT mc mv b)
 |.block id a=>.block id (qT mc mv a)
 |.loop a=>.loop (qT mc mv a)
 |.scope a=>.scope (qT mc mv a)
 |.cut a=>.cut (qT mc mv a)
 |c=>c
theorem vg{mc:List Nat}{mv:Bool} : ∀ {ops:List VOper},aI (xK mc mv ops)=aI ops
 |[]=>rfl
 |⟨d,op,g⟩::r=>by
  have:(H6 mc mv op).strip=op.strip:=by
   cases op
   case call f a=>simp only[H6];cases mc.contains f<;>rfl
   case callV f a=>simp only[H6];cases mv<;>rfl
   all_goals rfl
  simp only[xK,aI,VOper.strip,this,vg (ops:=r)]
theorem gQ{mc:List Nat}{mv:Bool} : ∀ {v:VCode},(qT mc mv v).strip=v.strip
 |.region ops mode dead=>by
  have:∀b,(Jc b mode).strip=mode.strip:=by intro b;cases mode<;>cases b<;>rfl
  simp only[qT,VCode.strip,vg,this]
 |.seq a b=>by simp only[qT,VCode.strip,gQ (v:=a),gQ (v:=b)]
 |.cond _ a b=>by simp only[qT,VCode.strip,gQ (v:=a),gQ (v:=b)]
 |.block _ a=>by simp only[qT,VCode.strip,gQ (v:=a)]
 |.loop a=>by simp only[qT,VCode.strip,gQ (v:=a)]
 |.scope a=>by simp only[qT,VCode.strip,gQ (v:=a)]
 |.cut a=>by simp only[qT,VCode.strip,gQ (v:=a)]
 |.skip=>rfl
 |.exit _=>rfl
 |.label _=>rfl
 |.goto _=>rfl
 |.ret=>rfl
 |.refuse=>rfl

def V4(P:Program)(mc mv:List Nat)(k:FuncId):Option (VCode×List VRes×Nat):=match P.funcs[k]? with
 |none=>none
 |some fn=>if fn.name = "runtime.NumGoroutine" then none else match fn.body with
  |none=>none
  |some c=>match comp P c,bS P fn.results.toList with
   |some v,some rs=>bif lF v&&(qT mc (mv.contains k) v).bnd fn.ntmps then some (qT mc (mv.contains k) v,rs,fn.ntmps)else none
   |_,_=>none
theorem SK{P:Program}{mc mv:List Nat}{k:FuncId}{v:VCode}{rs:List VRes}{n:Nat}(h:V4 P mc mv k=some (v,rs,n)):FnOk P k v rs n:=by
 unfold V4 at h;split at h
 ·cases h
 ·next fn hf=>
  split at h
  ·cases h
  ·next hname=>
   split at h
   ·cases h
   ·next c hc=>
    split at h
    ·next v0 rs0 hv hr=>
     cases hb:(lF v0&&(qT mc (mv.contains k) v0).bnd fn.ntmps)with
     |false=>rw[hb]at h;cases h
     |true=>
      rw[hb]at h;cases h;simp only[Bool.and_eq_true]at hb;exact⟨fn,c,hf,hname,hc,by rw[gQ,gJ hb.1];exact hv,hb.2,hr,rfl⟩
    ·cases h

/- A state without what is shadowed. -/
def V5{α:Type} : Nat->List (Nat×α)->List (Nat×α)
 |_,[]=>[]
 |m,(k,v)::r=>bif Nat.testBit m k then V5 m r else (k,v)::V5 (m ||| 1 <<< k) r
theorem xL{α:Type} : ∀ {l:List (Nat×α)} {m k:Nat},ac (V5 m l) k=if m.testBit k then none else ac l k
 |[],m,k=>by simp[V5,ac]
 |(j,v)::r,m,k=>by
  simp only[V5];cases hj:Nat.testBit m j with
  |true=>
   simp only[cond_true,xL (l:=r),ac];cases hk:j==k with
   |true=>rw[beq_iff_eq]at hk;subst hk;simp[hj]
   |false=>simp
  |false=>
   simp only[cond_false,ac,xL (l:=r)];cases hk:j==k with
   |true=>rw[beq_iff_eq]at hk;subst hk;simp[hj]
   |false=>
    have hne:j≠k:=by simpa using hk
    have:(m ||| 1 <<< j).testBit k=m.testBit k:=by
     rw[Nat.testBit_or,Nat.testBit_shiftLeft];rcases Nat.lt_or_ge k j with hlt|hge
     ·have:¬j<=k:=by omega
      simp[this]
     ·have:(1:Nat).testBit (k-j)=false:=by
       rw[show k-j=(k-j-1)+1 by omega,Nat.testBit_add_one];simp
      simp[this]
    simp only[cond_false,this]
def St.norm(σ:St):St:=⟨V5 0 σ.env,V5 0 σ.objs,σ.ro,σ.n,σ.gl⟩
theorem FT{σ σ':St}(hn:σ'.n=σ.n)(hgl:σ'.gl=σ.gl)(he:∀k,aC σ'.env k=.undef\/aC σ'.env k=aC σ.env k)(ho:∀k o,ac σ'.objs k=some o->ac σ.objs k=some o)(hr:∀i o,ac σ'.objs i=some o->i∈σ.ro->i∈σ'.ro):cR σ σ':=by
 rintro w0 S0 M a w ⟨S,μ,β,h⟩;exact⟨S,μ,β,h.drop hn hgl hr he ho⟩
theorem FU(σ:St):cR σ σ.norm:=
 FT rfl rfl (fun k=>.inr (by simp[St.norm,aC,xL])) (fun k o h=>by simpa[St.norm,xL]using h) (fun _ _ _ h=>h)

def FV:Exit->Bool
 |.normal=>true
 |.ret=>true
 |_=>false
def Ug(σ:St)(rs:List VRes):Option Out:=match Cl σ rs with
 |some (s,rows)=>some (.res (.own s rows))
 |none=>match Ck σ rs with
  |some v=>some (.res (.imm v))
  |none=>none
def Q1(σ:St)(ids:List Nat):St:=⟨σ.env,xH σ.objs ids,ids.filter σ.ro.contains,σ.n,σ.gl⟩
def CB:SV->Bool
 |.tup _=>true
 |_=>false
theorem Jd{σ:St}{rs:List VRes}{a:SV}(h:CB a=false):EB σ rs a=Pg σ rs:=by cases a<;>first|rfl|cases h
theorem M3{σ:St}{rs:List VRes}{a:SV}(h:CB a=true):EB σ rs a=EB σ rs (.tup []):=by cases a<;>first|rfl|cases h
theorem SL{σ:St}{rs:List VRes}{a b:SV}(h:CB a=CB b):EB σ rs a=EB σ rs b:=by
 cases hb:CB b with
 |true=>rw[M3 (h.trans hb),M3 hb]
 |false=>rw[Jd (h.trans hb),Jd hb]
def Je(σ:St)(rs:List VRes)(ids:List Nat)(r0:SV):Option Out:=match EB (Q1 σ ids) rs r0 with
 |some (res,fz)=>if CB r0=CB res then some (.mc res (xH σ.objs ids) (fz++ids.filter σ.ro.contains))else none
 |none=>none
def H7(σ:St):List VRes->List Nat
 |[]=>[]
 |.cell t _::r=>(aC σ.env t).ids++H7 σ r
 |_::r=>H7 σ r
def Wq(σ:St)(rs:List VRes)(objs:List (Nat×Ob)):Option Out:=match rs with
 |_::_::_=>match o0 σ rs with
  |some l=>Je σ rs (Am σ.objs 200 (objs.map (·.1)++(H7 σ rs++uK l)) []) (.tup l)
  |none=>Je σ rs (Am σ.objs 200 (objs.map (·.1)) []) .undef
 |_=>match Pg σ rs with
  |some (r0,_)=>Je σ rs (Am σ.objs 200 (objs.map (·.1)++(H7 σ rs++r0.ids)) []) r0
  |none=>none
theorem CC{objs:List (Nat×Ob)}{l:List Nat} : ∀k o,ac (xH objs l) k=some o->ac objs k=some o/\k∈l:=by
 induction l with
 |nil=>intro k o h;simp[xH,ac]at h
 |cons i r ih=>
  intro k o h;unfold xH at h;split at h
  ·next o1 h1=>
   simp only[ac]at h;cases hk:i==k with
   |true=>
    rw[hk]at h;rw[beq_iff_eq]at hk;subst hk;cases h;exact⟨h1,by simp⟩
   |false=>rw[hk]at h;exact⟨(ih k o h).1,List.mem_cons_of_mem _ (ih k o h).2⟩
  ·exact⟨(ih k o h).1,List.mem_cons_of_mem _ (ih k o h).2⟩
theorem NJ(σ:St)(ids:List Nat):cR σ (Q1 σ ids):=
 FT rfl rfl (fun _=>.inr rfl) (fun k o h=>(CC k o h).1) (fun i o h hi=>List.mem_filter.2 ⟨(CC i o h).2,by simpa using hi⟩)

section
variable (F:FuncId->Option (VCode×List VRes×Nat)) (T:Job->Option Out)
def Jf(X:Job->Option Out):Job->Option Out
 |.fn gl k args=>match T (.fn gl k args)with
  |some o=>some o
  |none=>match F k with
   |some (v,rs,n)=>bif Nat.ble args.length n then (match xw X v (Pf gl args n)with
     |some (e,σ)=>bif FV e then Ug σ rs else none
     |none=>none)else none
   |none=>none
 |.mc gl k args objs ro=>match T (.mc gl k args objs ro)with
  |some o=>some o
  |none=>match F k with
   |some (v,rs,n)=>bif Nat.ble args.length n&&Nc n objs then (match xw X v ⟨xE 0 args,objs,ro,n,gl⟩with
     |some (e,σ)=>bif FV e then Wq σ rs objs else none
     |none=>none)else none
   |none=>none
 |.loop v σ=>match xw X v σ.norm with
  |some (.normal,σ')=>X (.loop v σ')
  |some (e,σ')=>some (.lp e σ')
  |none=>none
def V6:Nat->Job->Option Out
 |0,_=>none
 |n+1,j=>Jf F T (V6 n) j
variable {F T} {P:Program} (hm:P.follows .mixedOrders=true) (hF:∀k v rs n,F k=some (v,rs,n)->FnOk P k v rs n) (hT:∀j o,T j=some o->xG P j o)
include hm hF hT
theorem Q2{X:Job->Option Out}(hX:∀j o,X j=some o->xG P j o):∀j o,Jf F T X j=some o->xG P j o:=by
 intro j o h;cases j with
 |fn gl k args=>
  simp only[Jf]at h;split at h
  ·next ht=>cases h;exact hT _ _ ht
  ·split at h
   ·next v rs n hf=>
    cases hn:Nat.ble args.length n with
    |false=>rw[hn]at h;cases h
    |true=>
     rw[hn]at h;simp only[cond_true]at h;split at h
     ·next e σ hx=>
      cases he:FV e with
      |false=>rw[he]at h;cases h
      |true=>
       rw[he]at h;simp only[cond_true,Ug]at h;have key:∀r,sN rs r e σ->zk gl P k args r:=fun r hp=>ag hm (hF _ _ _ _ hf) (Nat.le_of_ble_eq_true hn) (gh hm hX v hx hp)
       have post:∀r,sN rs r .normal σ->sN rs r e σ:=by
        intro r hp;cases e<;>first|exact hp|(exact absurd he (by simp[FV]))
       split at h
       ·next s rows hr=>cases h;exact key _ (post _ hr)
       ·split at h
        ·next hr=>cases h;exact key _ (post _ hr)
        ·cases h
     ·cases h
   ·cases h
 |mc gl k args objs ro=>
  simp only[Jf]at h;split at h
  ·next ht=>cases h;exact hT _ _ ht
  ·split at h
   ·next v rs n hf=>
    cases hn:(Nat.ble args.length n&&Nc n objs)with
    |false=>rw[hn]at h;cases h
    |true=>
     rw[hn]at h;simp only[Bool.and_eq_true]at hn;simp only[cond_true]at h;split at h
     ·next e σ hx=>
      cases he:FV e with
      |false=>rw[he]at h;cases h
      |true=>
       rw[he]at h;simp only[cond_true]at h
       have fin:∀ids r0,Je σ rs ids r0=some o->xG P (.mc gl k args objs ro) o:=by
        intro ids r0 h;unfold Je at h;split at h
        ·next res fz h1=>
         split at h
         ·next ht=>
          cases h;have:cn rs ⟨args,objs,res,xH σ.objs ids,fz++ids.filter σ.ro.contains,ro⟩ .normal σ:=⟨Q1 σ ids,fz,NJ σ ids,rfl,(SL ht).symm.trans h1,rfl⟩
          have hp:cn rs ⟨args,objs,res,xH σ.objs ids,fz++ids.filter σ.ro.contains,ro⟩ e σ:=by
           cases e<;>first|exact this|(exact absurd he (by simp[FV]))
          exact bn hm (hF _ _ _ _ hf) (Nat.le_of_ble_eq_true hn.1) hn.2 (gh hm hX v hx hp)
         ·cases h
        ·cases h
       unfold Wq at h;split at h
       ·split at h
        ·exact fin _ _ h
        ·exact fin _ _ h
       ·split at h
        ·exact fin _ _ h
        ·cases h
     ·cases h
   ·cases h
 |loop v σ=>
  simp only[Jf]at h;split at h
  ·next σ1 hx=>
   have hj:=hX _ _ h;cases o with
   |res=>exact hj.elim
   |mc=>exact hj.elim
   |lp e σ2=>
    obtain⟨n,hr⟩:=hj;refine⟨n+1,fun Q hQ=>An (FU σ) rfl (Ao hm (gh hm hX v hx (hr Q hQ)))⟩
  ·next e σ1 hne hx=>
   cases h;refine⟨1,fun Q hQ=>An (FU σ) rfl (Ao hm (gh hm hX v hx ?_))⟩;cases e with
   |normal=>exact(hne rfl).elim
   |_=>exact hQ
  ·cases h
theorem M4:∀(n:Nat) (j:Job) (o:Out),V6 F T n j=some o->xG P j o
 |0,_,_,h=>by cases h
 |n+1,j,o,h=>Q2 hm hF hT (M4 n) j o h
end
theorem CD{P:Program}(hm:P.follows .mixedOrders=true)(mc mv:List Nat){T:Job->Option Out}(hT:∀j o,T j=some o->xG P j o)(n:Nat){gl:List (Nat×List IV)}{k:FuncId}{args:List IV}{r:Res}
  (h:V6 (V4 P mc mv) T n (.fn gl k args)=some (.res r)):zk gl P k args r:=
 M4 hm (fun _ _ _ _ h=>SK h) hT n _ _ h
end Go.Vs
