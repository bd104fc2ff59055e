/- Value semantics: the end of a call that turns objects. No conditions. -/
import Derived.Test.YtcjeehebikeghaaGreatDoorBD
import Derived.LoopN
import Derived.Scope
set_option linter.unusedVariables false
set_option linter.unusedSimpArgs false
namespace Go.Vs
theorem eu{σ:St}{rs:List VRes}{c:MC}(env:List (Nat×SV))(h1:d5 σ ⟨env,c.objs',[],σ.n,σ.gl⟩:=by exact bT)
  (h2:Hu ⟨env,c.objs',[],σ.n,σ.gl⟩ rs c.res=some (c.res,[]):=by rfl) (h3:c.ro'=[]:=by rfl):cQ rs c .ret σ:=⟨_,[],h1,rfl,h2,h3⟩
end Go.Vs
namespace Go.Vs

inductive Job where
 |fn (gl:List (Nat×List IV)) (k:Nat) (args:List IV)
 |mc (gl:List (Nat×List IV)) (k:Nat) (args:List SV) (objs:List (Nat×Ob)) (ro:List Nat)
 |loop (v:VCode) (σ:St)
inductive Out where
 |res (r:Res)
 |mc (res:SV) (objs':List (Nat×Ob)) (ro':List Nat)
 |lp (e:Exit) (σ:St)
def zN(P:Program):Job→Out→Prop
 |.fn gl k args,.res r=>BD gl P k args r
 |.mc gl k args objs ro,.mc r objs' ro'=>oe gl P k ⟨args,objs,r,objs',ro',ro⟩
 |.loop v σ,.lp e σ'=>∃n,∀Q:Exit→St→Prop,Q e σ'→∀c,comp P c=some v.strip→v.bnd σ.n=true→∀(w0:World) (S0:aK) (M:Ctx) (a:Act) (w:World),cS w0 S0 M σ a w→Code.rounds P c (zH w0 S0 M σ.n Q) n a w
 |_,_=>False

/- The objects that a value ub. -/
mutual
def SV.ids:SV→List Nat
 |.own id _=>[id]
 |.loc id _=>[id]
 |.eloc id _ _ _=>[id]
 |.view id _ _ _=>[id]
 |.selfN id _ _=>[id]
 |.ownT id _ _=>[id]
 |.itr id=>[id]
 |.town id _=>[id]
 |.teloc id _ _ _=>[id]
 |.agg cells=>wS cells
 |.clo _ caps=>wS caps
 |.tup caps=>wS caps
 |.ifc _ v=>v.ids
 |_=>[]
def wS:List SV→List Nat
 |[]=>[]
 |x::r=>x.ids++wS r
end
def Nf:List (Nat×Nat×SV)→List Nat
 |[]=>[]
 |p::r=>p.2.2.ids++Nf r
def Ob.ids:Ob→List Nat
 |.box cells=>wS cells
 |.tab _ _ _ ln=>Nf ln
 |_=>[]
def uR(ids:List Nat):List Nat→Bool
 |[]=>true
 |i::r=>ids.contains i&&uR ids r
theorem BL{ids:List Nat} : ∀ {l:List Nat},uR ids l=true→∀i∈l,i∈ids
 |[],_,i,h=>by cases h
 |j::r,h,i,hi=>by
  simp only[uR,Bool.and_eq_true]at h;rcases List.mem_cons.1 hi with rfl|hi
  ·simpa using h.1
  ·exact BL h.2 i hi

section
variable {ρ ρ':List (Nat×Nat)}
/- There and back. -/
mutual
theorem zO:∀x:SV,(∀i∈x.ids,ren ρ (ren ρ' i)=i)→(x.ren ρ').ren ρ=x
 |.undef,_=>rfl
 |.val _,_=>rfl
 |.nils,_=>rfl
 |.full _,_=>rfl
 |.own id _,h=>by simp only[SV.ren,h id (by simp[SV.ids])]
 |.loc id _,h=>by simp only[SV.ren,h id (by simp[SV.ids])]
 |.eloc id _ _ _,h=>by simp only[SV.ren,h id (by simp[SV.ids])]
 |.view id _ _ _,h=>by simp only[SV.ren,h id (by simp[SV.ids])]
 |.agg cells,h=>by simp only[SV.ren,rV cells h]
 |.clo _ caps,h=>by simp only[SV.ren,rV caps h]
 |.tup caps,h=>by simp only[SV.ren,rV caps h]
 |.ifc _ v,h=>by simp only[SV.ren,zO v h]
 |.anyB,_=>rfl
 |.selfN id _ _,h=>by simp only[SV.ren,h id (by simp[SV.ids])]
 |.ownT id _ _,h=>by simp only[SV.ren,h id (by simp[SV.ids])]
 |.itr id,h=>by simp only[SV.ren,h id (by simp[SV.ids])]
 |.town id _,h=>by simp only[SV.ren,h id (by simp[SV.ids])]
 |.teloc id _ _ _,h=>by simp only[SV.ren,h id (by simp[SV.ids])]
 |.nilT,_=>rfl
theorem rV:∀x:List SV,(∀i∈wS x,ren ρ (ren ρ' i)=i)→rR ρ (rR ρ' x)=x
 |[],_=>rfl
 |x::r,h=>by
  simp only[rR,zO x (fun i hi=>h i (by simp only[wS,List.mem_append];exact .inl hi)),rV r (fun i hi=>h i (by simp only[wS,List.mem_append];exact .inr hi))]
end
theorem F3:∀x:List (Nat×Nat×SV),(∀i∈Nf x,ren ρ (ren ρ' i)=i)→CF ρ (CF ρ' x)=x
 |[],_=>rfl
 |p::r,h=>by
  simp only[CF,zO p.2.2 (fun i hi=>h i (by simp only[Nf,List.mem_append];exact .inl hi)),F3 r (fun i hi=>h i (by simp only[Nf,List.mem_append];exact .inr hi))]
theorem Po:∀o:Ob,(∀i∈o.ids,ren ρ (ren ρ' i)=i)→(o.ren ρ').ren ρ=o
 |.box cells,h=>by simp only[Ob.ren,rV cells h]
 |.arr _ _ _,_=>rfl
 |.iter _ _,_=>rfl
 |.tab _ _ _ ln,h=>by simp only[Ob.ren,F3 ln h]
end

def CH(objs:List (Nat×Ob)):Nat→List Nat→List Nat→List Nat
 |_,[],seen=>seen
 |0,_,seen=>seen
 |n+1,i::r,seen=>bif seen.contains i then CH objs n r seen else match ac objs i with
  |some o=>CH objs n (o.ids++r) (seen++[i])
  |none=>CH objs n r seen
def zP(objs:List (Nat×Ob)):List Nat→List (Nat×Ob)
 |[]=>[]
 |i::r=>match ac objs i with
  |some o=>(i,o)::zP objs r
  |none=>zP objs r
def F4(objs:List (Nat×Ob))(ρ':List (Nat×Nat)):List Nat→List (Nat×Ob)
 |[]=>[]
 |i::r=>match ac objs i with
  |some o=>(ren ρ' i,o.ren ρ')::F4 objs ρ' r
  |none=>F4 objs ρ' r
def zQ(objs:List (Nat×Ob))(ids:List Nat):List Nat→Bool
 |[]=>true
 |i::r=>(match ac objs i with
  |some o=>uR ids o.ids
  |none=>true)&&zQ objs ids r
def Uo(ρ ρ':List (Nat×Nat)):List Nat→Bool
 |[]=>true
 |i::r=>Nat.beq (ren ρ (ren ρ' i)) i&&Uo ρ ρ' r
theorem F5{ρ ρ':List (Nat×Nat)} : ∀ {l:List Nat},Uo ρ ρ' l=true→∀i∈l,ren ρ (ren ρ' i)=i
 |[],_,i,h=>by cases h
 |j::r,h,i,hi=>by
  simp only[Uo,Bool.and_eq_true]at h;rcases List.mem_cons.1 hi with rfl|hi
  ·exact Nat.eq_of_beq_eq_true h.1
  ·exact F5 h.2 i hi
theorem yI{objs:List (Nat×Ob)}{ρ ρ':List (Nat×Nat)}{ids:List Nat}(hi:∀i∈ids,ren ρ (ren ρ' i)=i):∀ {l:List Nat},(∀i∈l,i∈ids)→zQ objs ids l=true→xe objs ρ (F4 objs ρ' l)
 |[],_,_=>trivial
 |i::r,hl,hc=>by
  simp only[zQ,Bool.and_eq_true]at hc;unfold F4;split
  ·next o ho=>
   rw[ho]at hc;refine⟨?_,yI hi (fun j hj=>hl j (List.mem_cons_of_mem _ hj)) hc.2⟩;rw[hi i (hl i (by simp)),ho,Po o (fun j hj=>hi j (BL hc.1 j hj))]
  ·exact yI hi (fun j hj=>hl j (List.mem_cons_of_mem _ hj)) hc.2
theorem BM{objs:List (Nat×Ob)}{ρ ρ':List (Nat×Nat)}{ids:List Nat}(hi:∀i∈ids,ren ρ (ren ρ' i)=i):∀ {l:List SV},uR ids (wS l)=true→xd objs ρ l (rR ρ' l) []
 |[],_=>rfl
 |x::r,h=>by
  have hm:=BL h;have hx:(x.ren ρ').ren ρ=x:=zO x (fun i h'=>hi i (hm i (by simp only[wS,List.mem_append];exact .inl h')))
  have hr:uR ids (wS r)=true:=by
   have gen:∀(a b:List Nat),uR ids (a++b)=true→uR ids b=true:=by
    intro a
    induction a with
    |nil=>exact fun b h=>h
    |cons y a ih=>intro b h;simp only[List.cons_append,uR,Bool.and_eq_true]at h;exact ih b h.2
   exact gen _ _ h
  cases x with
  |val iv=>exact⟨[],[],rfl,BM hi hr,rfl⟩
  |_=>exact⟨hx.symm,BM hi hr⟩
theorem Qk{ρ:List (Nat×Nat)} : ∀ {l:List (Nat×Ob)},YJ ρ [] l=true
 |[]=>rfl
 |_::r=>by simp[YJ,Qk (l:=r)]

def BN(σ:St):Nat→List Nat
 |0=>[]
 |n+1=>bif (ac σ.objs n).isNone&&Bv n σ.env&&Bw n σ.objs then n::BN σ n else BN σ n
def KI(objs:List (Nat×Ob)):List (Nat×Ob)→List Nat
 |[]=>[]
 |(i,_)::r=>bif (ac objs i).isSome then KI objs r else i::KI objs r
def mkM(σ:St)(objs objs':List (Nat×Ob)):List (Nat×Nat):=match KI objs objs' with
 |[]=>[]
 |l=>l.zip (BN σ σ.n)

section
variable (X:Job→Option Out)
def mX(σ:St)(dst:Option Nat)(fv:SV)(args:List Opd):Option St:=match MQ σ fv args with
 |none=>none
 |some (k,vals)=>
  let ids:=CH σ.objs 200 (wS vals) []
  let ρ':=ids.map fun i=>(i,1000+i)
  let objs:=F4 σ.objs ρ' ids
  let ro:=(ids.filter σ.ro.contains).map (1000 + ·)
  match X (.mc σ.gl k (rR ρ' vals) objs ro)with
  |some (.mc res objs' ro')=>
   let ρ:=ids.map (fun i=>(1000+i,i))++mkM σ objs objs'
   bif YK σ ρ ⟨rR ρ' vals,objs,res,objs',ro',ro⟩&&(Uo ρ ρ' ids&&(uR ids (wS vals)&&zQ σ.objs ids ids))then some (σ.mapply dst ρ ⟨rR ρ' vals,objs,res,objs',ro',ro⟩ [])else none
  |_=>none
def cX(σ:St)(dst:Option Nat)(fv:SV)(args:List Opd):Option Upd:=match ej σ fv args with
 |some (g,ivs,fz)=>match X (.fn σ.gl g ivs)with
  |some (.res r)=>iD dst fz r
  |_=>none
 |none=>none
def Xh(σ:St)(dst:Option Nat):VOp→Option Upd
 |.call f args=>cX X σ dst (.val (.fn f [])) args
 |.callV f args=>cX X σ dst (val σ f) args
 |op=>match ev σ dst op with
  |some u=>match u.dec with
   |.isTrue _=>some u
   |.isFalse _=>none
  |none=>none
def Pp(σ:St)(dst:Option Nat):VOp→Option St
 |.callM f args=>mX X σ dst (.val (.fn f [])) args
 |.callMV f args=>mX X σ dst (val σ f) args
 |op=>match Xh X σ dst op with
  |some u=>some (σ.apply dst u)
  |none=>none
def xT:List VOper→St→Option St
 |[],σ=>some σ
 |o::r,σ=>match o.guard with
  |none=>match Xh X σ o.dst o.op with
   |some u=>xT r (σ.apply o.dst u)
   |none=>none
  |some (g,b)=>match jl (aC σ.env g)with
   |some c=>if c=some b then (match Xh X σ o.dst o.op with
     |some u=>xT r (σ.apply o.dst u)
     |none=>none)else xT r (σ.apply o.dst gR)
   |none=>none
def xM:List VOper→St→Option St
 |[],σ=>some σ
 |o::r,σ=>match o.guard with
  |none=>match Pp X σ o.dst o.op with
   |some σ'=>xM r σ'
   |none=>none
  |some (g,b)=>match jl (aC σ.env g)with
   |some c=>if c=some b then (match Pp X σ o.dst o.op with
     |some σ'=>xM r σ'
     |none=>none)else xM r (σ.apply o.dst gR)
   |none=>none
def xD(σ0:St)(ps ms:List (Nat×Nat)):List VOper→St→List Eff→Option St
 |[],σ,es=>bif uK σ0 ps ms es then some σ else none
 |o::r,σ,es=>match o.guard with
  |none=>match Xh X σ o.dst o.op with
   |some u=>xD σ0 ps ms r (σ.apply o.dst u) (es++[⟨eK σ o.op u,o.dst,u⟩])
   |none=>none
  |some (g,b)=>match jl (aC σ.env g)with
   |some c=>if c=some b then (match Xh X σ o.dst o.op with
     |some u=>xD σ0 ps ms r (σ.apply o.dst u) (es++[⟨eK σ o.op u,o.dst,u⟩])
     |none=>none)else xD σ0 ps ms r (σ.apply o.dst gR) (es++[⟨[],o.dst,gR⟩])
   |none=>none
def xDM(σ0:St)(ps ms:List (Nat×Nat)):List VOper→St→List Eff→Option St
 |[],_,_=>none
 |[o],σ,es=>bif uK σ0 (cutP es.length ps) (cutP es.length ms) es then xM X [o] σ else none
 |o::o2::r,σ,es=>match o.guard with
  |none=>match Xh X σ o.dst o.op with
   |some u=>xDM σ0 ps ms (o2::r) (σ.apply o.dst u) (es++[⟨eK σ o.op u,o.dst,u⟩])
   |none=>none
  |some _=>none
def xR(ops:List VOper)(σ:St):RMode→Option St
 |.text=>xM X ops σ
 |.calm=>xT X ops σ
 |.drawn ps ms=>xD X σ ps ms ops σ []
 |.drawnM ps ms=>xDM X σ ps ms ops σ []
def xw:VCode→St→Option (Exit×St)
 |.skip,σ=>some (.normal,σ)
 |.region ops mode dead,σ=>match xR X ops σ mode with
  |some σ'=>some (.normal,σ'.drop dead)
  |none=>none
 |.seq a b,σ=>match xw a σ with
  |some (.normal,σ')=>xw b σ'
  |r=>r
 |.cond c a b,σ=>match val σ c with
  |.val (.bool true)=>xw a σ
  |.val (.bool false)=>xw b σ
  |_=>none
 |.block id a,σ=>match xw a σ with
  |some (.exit i,σ')=>if i=id then some (.normal,σ')else some (.exit i,σ')
  |r=>r
 |.loop a,σ=>match X (.loop a σ)with
  |some (.lp e σ')=>some (e,σ')
  |_=>none
 |.exit id,σ=>some (.exit id,σ)
 |.scope a,σ=>match xw a σ with
  |some (.goto _,_)=>none
  |r=>r
 |.label _,σ=>some (.normal,σ)
 |.goto l,σ=>some (.goto l,σ)
 |.ret,σ=>some (.ret,σ)
 |.refuse,_=>none
 |.cut a,σ=>xw a σ
end

section
variable {P:Program} {X:Job→Option Out} (hX:∀j o,X j=some o→zN P j o)
include hX
theorem Ng{σ σ':St}{dst:Option Nat}{fv:SV}{args:List Opd}(h:mX X σ dst fv args=some σ'){K:St→Prop}(hK:K σ'):MR P σ dst fv args K:=by
 unfold mX at h;split at h
 ·cases h
 ·next k vals hv=>
  dsimp only at h;split at h
  ·next res objs' ro' hx=>
   have hF:=hX _ _ hx;generalize CH σ.objs 200 (wS vals) []=ids at *;generalize hρ:(ids.map (fun i=>(1000+i,i))++mkM σ (F4 σ.objs (ids.map fun i=>(i,1000+i)) ids) objs')=ρ at *;generalize (ids.map fun i=>(i,1000+i))=ρ' at *;cases hc:(YK σ ρ ⟨rR ρ' vals,F4 σ.objs ρ' ids,res,objs',ro',(ids.filter σ.ro.contains).map (1000 + ·)⟩&&(Uo ρ ρ' ids&&(uR ids (wS vals)&&zQ σ.objs ids ids)))with
   |false=>rw[hc]at h;cases h
   |true=>
    rw[hc]at h;cases h;simp only[Bool.and_eq_true]at hc;obtain⟨h1,h2,h3,h4⟩:=hc;exact⟨k,vals,_,ρ,[],hv,hF,h1,yI (F5 h2) (fun _ x=>x) h4,BM (F5 h2) h3,Qk,hK⟩
  ·cases h
theorem Nh{σ:St}{dst:Option Nat}{fv:SV}{args:List Opd}{u:Upd}(h:cX X σ dst fv args=some u){K:Upd→Prop}(hK:K u):match ej σ fv args with
  |some (g,ivs,fz)=>∃r,BD σ.gl P g ivs r∧match iD dst fz r with
   |some u=>K u
   |none=>False
  |none=>False:=by
 unfold cX at h;cases hca:ej σ fv args with
 |none=>rw[hca]at h;cases h
 |some p=>
  obtain⟨g,ivs,fz⟩:=p;rw[hca]at h;dsimp only at h ⊢;split at h
  ·next r hx=>exact⟨_,hX _ _ hx,by rw[h];exact hK⟩
  ·cases h
theorem wH{σ:St}{dst:Option Nat}{op:VOp}{u:Upd}(h:Xh X σ dst op=some u){K:Upd→Prop}(hK:K u):dq P σ dst K op:=by
 have plain:(match ev σ dst op with
   |some u=>match u.dec with
    |.isTrue _=>some u
    |.isFalse _=>none
   |none=>none)=some u→(match ev σ dst op with
   |some u=>u.side∧K u
   |none=>False):=by
  intro h;split at h
  ·split at h
   ·next hs _=>cases h;exact⟨hs,hK⟩
   ·cases h
  ·cases h
 cases op
 case call f args=>exact Nh hX h hK
 case callV f args=>exact Nh hX h hK
 all_goals exact plain h
theorem Pq{σ:St}{dst:Option Nat}{op:VOp}{σ':St}(h:Pp X σ dst op=some σ'){K:St→Prop}(hK:K σ'):kJ P σ dst K op:=by
 cases op
 case callM f args=>exact Ng hX (by simpa only [Pp]using h) hK
 case callMV f args=>exact Ng hX (by simpa only [Pp]using h) hK
 all_goals
  simp only[Pp]at h;split at h
  ·next u hu=>cases h;exact wH hX hu (K:=fun u=>K (σ.apply dst u)) hK
  ·cases h
theorem F6:∀ {ops:List VOper} {σ σ':St},xT X ops σ=some σ'→∀ {K:St→Prop},K σ'→mW P K ops σ
 |[],σ,σ',h,K,hK=>by cases h;exact hK
 |o::r,σ,σ',h,K,hK=>by
  unfold xT at h;unfold mW
  have act:(match Xh X σ o.dst o.op with
    |some u=>xT X r (σ.apply o.dst u)
    |none=>none)=some σ'→dq P σ o.dst (fun u=>mW P K r (σ.apply o.dst u)) o.op:=by
   intro h;split at h
   ·next u hu=>exact wH hX hu (F6 h hK)
   ·cases h
  cases hg:o.guard with
  |none=>rw[hg]at h;exact act h
  |some p=>
   obtain⟨g,b⟩:=p;rw[hg]at h;dsimp only at h ⊢;cases hc:jl (aC σ.env g)with
   |none=>rw[hc]at h;cases h
   |some c=>
    rw[hc]at h;dsimp only at h ⊢;split at h
    ·next he=>exact⟨fun _=>act h,fun hn=>absurd he hn⟩
    ·next he=>exact⟨fun hy=>absurd hy he,fun _=>F6 h hK⟩
theorem zR:∀ {ops:List VOper} {σ σ':St},xM X ops σ=some σ'→∀ {K:St→Prop},K σ'→gT P K ops σ
 |[],σ,σ',h,K,hK=>by cases h;exact hK
 |o::r,σ,σ',h,K,hK=>by
  unfold xM at h;unfold gT
  have act:(match Pp X σ o.dst o.op with
    |some σ'=>xM X r σ'
    |none=>none)=some σ'→kJ P σ o.dst (gT P K r) o.op:=by
   intro h;split at h
   ·next u hu=>exact Pq hX hu (zR h hK)
   ·cases h
  cases hg:o.guard with
  |none=>rw[hg]at h;exact act h
  |some p=>
   obtain⟨g,b⟩:=p;rw[hg]at h;dsimp only at h ⊢;cases hc:jl (aC σ.env g)with
   |none=>rw[hc]at h;cases h
   |some c=>
    rw[hc]at h;dsimp only at h ⊢;split at h
    ·next he=>exact⟨fun _=>act h,fun hn=>absurd he hn⟩
    ·next he=>exact⟨fun hy=>absurd hy he,fun _=>zR h hK⟩
theorem F7{σ0:St}{ps ms:List (Nat×Nat)} : ∀ {ops:List VOper} {σ σ':St} {es:List Eff},xD X σ0 ps ms ops σ es=some σ'→∀ {K:St→Prop},K σ'→mV P (fun es σ'=>uK σ0 ps ms es=true∧K σ') ops σ es
 |[],σ,σ',es,h,K,hK=>by
  unfold xD at h;cases hc:uK σ0 ps ms es with
  |false=>rw[hc]at h;cases h
  |true=>rw[hc]at h;cases h;exact⟨hc,hK⟩
 |o::r,σ,σ',es,h,K,hK=>by
  unfold xD at h;unfold mV
  have act:(match Xh X σ o.dst o.op with
    |some u=>xD X σ0 ps ms r (σ.apply o.dst u) (es++[⟨eK σ o.op u,o.dst,u⟩])
    |none=>none)=some σ'→dq P σ o.dst (fun u=>mV P (fun es σ'=>uK σ0 ps ms es=true∧K σ') r (σ.apply o.dst u) (es++[⟨eK σ o.op u,o.dst,u⟩])) o.op:=by
   intro h;split at h
   ·next u hu=>exact wH hX hu (F7 h hK)
   ·cases h
  cases hg:o.guard with
  |none=>rw[hg]at h;exact act h
  |some p=>
   obtain⟨g,b⟩:=p;rw[hg]at h;dsimp only at h ⊢;cases hc:jl (aC σ.env g)with
   |none=>rw[hc]at h;cases h
   |some c=>
    rw[hc]at h;dsimp only at h ⊢;split at h
    ·next he=>exact⟨fun _=>act h,fun hn=>absurd he hn⟩
    ·next he=>exact⟨fun hy=>absurd hy he,fun _=>F7 h hK⟩
theorem Jw{σ0:St}{ps ms:List (Nat×Nat)} : ∀ {ops:List VOper} {σ σ':St} {es:List Eff},xDM X σ0 ps ms ops σ es=some σ'→∀ {K:St→Prop},K σ'→qy P K σ0 ps ms ops σ es
 |[],σ,σ',es,h,K,hK=>by cases h
 |[o],σ,σ',es,h,K,hK=>by
  unfold xDM at h;cases hc:uK σ0 (cutP es.length ps) (cutP es.length ms) es with
  |false=>rw[hc]at h;cases h
  |true=>rw[hc]at h;exact⟨hc,zR hX h hK⟩
 |o::o2::r,σ,σ',es,h,K,hK=>by
  unfold xDM at h;unfold qy;cases hg:o.guard with
  |none=>
   rw[hg]at h;dsimp only at h ⊢;split at h
   ·next u hu=>exact wH hX hu (Jw h hK)
   ·cases h
  |some p=>rw[hg]at h;cases h
end

theorem CI{P:Program}{v:VCode}{Q:Exit→St→Prop}{σ σ':St}(hw:d5 σ σ')(hn:σ'.n=σ.n){n:Nat}(h:∀c,comp P c=some v.strip→v.bnd σ'.n=true→∀(w0:World) (S0:aK) (M:Ctx) (a:Act) (w:World),cS w0 S0 M σ' a w→Code.rounds P c (zH w0 S0 M σ'.n Q) n a w) :
  ∀c,comp P c=some v.strip→v.bnd σ.n=true→∀(w0:World) (S0:aK) (M:Ctx) (a:Act) (w:World),cS w0 S0 M σ a w→Code.rounds P c (zH w0 S0 M σ.n Q) n a w:=by
 intro c hc hb w0 S0 M a w hs;have:=h c hc (by rw[hn];exact hb) w0 S0 M a w (hw _ _ _ _ _ hs);rw[hn]at this;exact this
theorem CJ{P:Program}(hm:P.follows .mixedOrders=true){v:VCode}{Q:Exit→St→Prop}{σ:St}{n:Nat}(h:pw P v (fun e σ'=>match e with
   |.normal=>∀c,comp P c=some v.strip→v.bnd σ'.n=true→∀(w0:World) (S0:aK) (M:Ctx) (a:Act) (w:World),cS w0 S0 M σ' a w→Code.rounds P c (zH w0 S0 M σ'.n Q) n a w
   |e=>Q e σ') σ):∀c,comp P c=some v.strip→v.bnd σ.n=true→∀(w0:World) (S0:aK) (M:Ctx) (a:Act) (w:World),cS w0 S0 M σ a w→Code.rounds P c (zH w0 S0 M σ.n Q) (n+1) a w:=by
 intro c hc hb w0 S0 M a w hs;refine wp_mono (lJ hm v h c hc hb w0 S0 M a w hs) (fun e a' w' hl=>?_);cases e with
 |normal=>
  obtain⟨σ',q1,q2,q3⟩:=hl;have:=q1 c hc (by rw[q2];exact hb) w0 S0 M a' w' q3;rw[q2]at this;exact this
 |exit=>exact hl
 |goto=>exact hl
 |ret=>exact hl
 |panic=>exact hl
 |outgrown=>exact hl

section
variable {P:Program} (hm:P.follows .mixedOrders=true) {X:Job→Option Out} (hX:∀j o,X j=some o→zN P j o)
include hm hX
omit hm in
theorem Up{ops:List VOper}{σ σ':St}{mode:RMode}{dead:List Nat}(h:xR X ops σ mode=some σ'){Q:Exit→St→Prop}(hQ:Q .normal (σ'.drop dead)):pw P (.region ops mode dead) Q σ:=by
 cases mode with
 |text=>exact zR hX h (K:=fun σ'=>Q .normal (σ'.drop dead)) hQ
 |calm=>exact F6 hX h (K:=fun σ'=>Q .normal (σ'.drop dead)) hQ
 |drawn ps ms=>exact F7 hX h (K:=fun σ'=>Q .normal (σ'.drop dead)) hQ
 |drawnM ps ms=>exact Jw hX h (K:=fun σ'=>Q .normal (σ'.drop dead)) hQ
theorem gU:∀(v:VCode) {σ σ':St} {e:Exit},xw X v σ=some (e,σ')→∀ {Q:Exit→St→Prop},Q e σ'→pw P v Q σ
 |.skip,σ,σ',e,h,Q,hQ=>by cases h;exact hQ
 |.region ops mode dead,σ,σ',e,h,Q,hQ=>by
  simp only[xw]at h;split at h
  ·next σ1 hr=>cases h;exact Up hX hr hQ
  ·cases h
 |.seq a b,σ,σ',e,h,Q,hQ=>by
  simp only[xw]at h;split at h
  ·next σ1 ha=>exact gU a ha (gU b h hQ)
  ·next hne=>
   refine gU a h ?_;cases e with
   |normal=>exact absurd h (by simpa using hne σ')
   |_=>exact hQ
 |.cond c a b,σ,σ',e,h,Q,hQ=>by
  simp only[xw]at h;simp only[pw];split at h
  ·next hv=>rw[hv];exact⟨fun _=>gU a h hQ,fun h=>by cases h⟩
  ·next hv=>rw[hv];exact⟨fun h=>(by cases h),fun _=>gU b h hQ⟩
  ·cases h
 |.block id a,σ,σ',e,h,Q,hQ=>by
  simp only[xw]at h;split at h
  ·next i σ1 ha=>
   refine gU a ha ?_;split at h
   ·next hi=>cases h;dsimp only;rw[if_pos hi];exact hQ
   ·next hi=>cases h;dsimp only;rw[if_neg hi];exact hQ
  ·next hne=>
   refine gU a h ?_;cases e with
   |exit i=>exact absurd h (by simpa using hne i σ')
   |_=>exact hQ
 |.loop a,σ,σ',e,h,Q,hQ=>by
  simp only[xw]at h;split at h
  ·next e1 σ1 hx=>
   cases h;obtain⟨n,hr⟩:=hX _ _ hx;intro c hc hb w0 S0 M act w hs;obtain⟨p,rfl,h1⟩:=ba hc;exact wp_loop_rounds n (hr Q hQ p h1 hb w0 S0 M act w hs)
  ·cases h
 |.exit id,σ,σ',e,h,Q,hQ=>by cases h;exact hQ
 |.scope a,σ,σ',e,h,Q,hQ=>by
  simp only[xw]at h;intro c hc hb w0 S0 M act w hs;obtain⟨p,rfl,h1⟩:=ba hc;split at h
  ·cases h
  ·next hne=>
   refine wp_scope_straight (wp_mono (lJ hm a (gU a h (Q:=fun e1 σ1=>Q e1 σ1∧e1=e) ⟨hQ,rfl⟩) p h1 hb w0 S0 M act w hs) (fun e1 a' w' hl=>?_));cases e1 with
   |goto l=>
    obtain⟨σ2,⟨_,q1⟩,_⟩:=hl;subst q1;exact absurd h (by simpa using hne l σ')
   |panic=>exact hl.elim
   |outgrown=>exact hl.elim
   |_=>
    obtain⟨σ2,⟨q0,_⟩,q2,q3⟩:=hl;exact⟨σ2,q0,q2,q3⟩
 |.label _,σ,σ',e,h,Q,hQ=>by cases h;exact hQ
 |.goto l,σ,σ',e,h,Q,hQ=>by cases h;exact hQ
 |.ret,σ,σ',e,h,Q,hQ=>by cases h;exact hQ
 |.refuse,σ,σ',e,h,Q,hQ=>by cases h
 |.cut a,σ,σ',e,h,Q,hQ=>lJ hm a (gU a h hQ)
end
end Go.Vs
namespace Go.Vs

def VOp.isM:VOp→Bool
 |.callM _ _=>true
 |.callMV _ _=>true
 |_=>false
def Uq:List VOper→Bool
 |[]=>false
 |o::r=>o.op.isM||Uq r
def Jx:RMode→Bool
 |.drawnM _ _=>false
 |_=>true
def mY:VCode→Bool
 |.region ops mode dead=>!Uq ops&&(Jx mode&&dead.isEmpty)
 |.seq a b=>mY a&&mY b
 |.cond _ a b=>mY a&&mY b
 |.block _ a=>mY a
 |.loop a=>mY a
 |.scope a=>mY a
 |.cut _=>false
 |_=>true
theorem F8:∀ {ops:List VOper},Uq ops=false→aQ ops=ops
 |[],_=>rfl
 |⟨d,op,g⟩::r,h=>by
  simp only[Uq,Bool.or_eq_false_iff]at h;have:op.strip=op:=by cases op<;>first|rfl|(exact absurd h.1 (by simp[VOp.isM]))
  simp only[aQ,VOper.strip,this,F8 h.2]
theorem iu:∀ {v:VCode},mY v=true→v.strip=v
 |.region ops mode dead,h=>by
  simp only[mY,Bool.and_eq_true,Bool.not_eq_true',List.isEmpty_iff]at h;obtain⟨h1,h2,rfl⟩:=h;have:mode.strip=mode:=by cases mode<;>first|rfl|(exact absurd h2 (by simp[Jx]))
  simp only[VCode.strip,F8 h1,this]
 |.seq a b,h=>by simp only[mY,Bool.and_eq_true]at h;simp only[VCode.strip,iu h.1,iu h.2]
 |.cond _ a b,h=>by simp only[mY,Bool.and_eq_true]at h;simp only[VCode.strip,iu h.1,iu h.2]
 |.block _ a,h=>by simp only[VCode.strip,iu (v:=a) h]
 |.loop a,h=>by simp only[VCode.strip,iu (v:=a) h]
 |.scope a,h=>by simp only[VCode.strip,iu (v:=a) h]
 |.skip,_=>rfl
 |.exit _,_=>rfl
 |.label _,_=>rfl
 |.goto _,_=>rfl
 |.ret,_=>rfl
 |.refuse,_=>rfl

/- Which calls turn objects: those of the functions 'mc'; of values, if 'mv'. -/
def KJ(mc:List Nat)(mv:Bool):VOp→VOp
 |.call f a=>bif mc.contains f then .callM f a else .call f a
 |.callV f a=>bif mv then .callMV f a else .callV f a
 |op=>op
def zS(mc:List Nat)(mv:Bool):List VOper→List VOper
 |[]=>[]
 |o::r=>⟨o.dst,KJ mc mv o.op,o.guard⟩::zS mc mv r
def Ni(b:Bool):RMode→RMode
 |.drawn p m=>bif b then .drawnM p m else .drawn p m
 |m=>m
def sN(mc:List Nat)(mv:Bool):VCode→VCode
 |.region ops mode dead=>.region (zS mc mv ops) (Ni (Uq (zS mc mv ops)) mode) dead
 |.seq a b=>.seq (sN mc mv a) (sN mc mv b)
 |.cond c a b=>.cond c (sN mc mv a) (sN mc mv b)
 |.block id a=>.block id (sN mc mv a)
 |.loop a=>.loop (sN mc mv a)
 |.scope a=>.scope (sN mc mv a)
 |.cut a=>.cut (sN mc mv a)
 |c=>c
theorem xj{mc:List Nat}{mv:Bool} : ∀ {ops:List VOper},aQ (zS mc mv ops)=aQ ops
 |[]=>rfl
 |⟨d,op,g⟩::r=>by
  have:(KJ mc mv op).strip=op.strip:=by
   cases op
   case call f a=>simp only[KJ];cases mc.contains f<;>rfl
   case callV f a=>simp only[KJ];cases mv<;>rfl
   all_goals rfl
  simp only[zS,aQ,VOper.strip,this,xj (ops:=r)]
theorem iF{mc:List Nat}{mv:Bool} : ∀ {v:VCode},(sN mc mv v).strip=v.strip
 |.region ops mode dead=>by
  have:∀b,(Ni b mode).strip=mode.strip:=by intro b;cases mode<;>cases b<;>rfl
  simp only[sN,VCode.strip,xj,this]
 |.seq a b=>by simp only[sN,VCode.strip,iF (v:=a),iF (v:=b)]
 |.cond _ a b=>by simp only[sN,VCode.strip,iF (v:=a),iF (v:=b)]
 |.block _ a=>by simp only[sN,VCode.strip,iF (v:=a)]
 |.loop a=>by simp only[sN,VCode.strip,iF (v:=a)]
 |.scope a=>by simp only[sN,VCode.strip,iF (v:=a)]
 |.cut a=>by simp only[sN,VCode.strip,iF (v:=a)]
 |.skip=>rfl
 |.exit _=>rfl
 |.label _=>rfl
 |.goto _=>rfl
 |.ret=>rfl
 |.refuse=>rfl

def ZJ(P:Program)(mc mv:List Nat)(k:FuncId):Option (VCode×List VRes×Nat):=match P.funcs[k]? with
 |none=>none
 |some fn=>if fn.name = "runtime.NumGoroutine" then none else match fn.body with
  |none=>none
  |some c=>match comp P c,cj P fn.results.toList with
   |some v,some rs=>bif mY v&&(sN mc (mv.contains k) v).bnd fn.ntmps then some (sN mc (mv.contains k) v,rs,fn.ntmps)else none
   |_,_=>none
theorem Xi{P:Program}{mc mv:List Nat}{k:FuncId}{v:VCode}{rs:List VRes}{n:Nat}(h:ZJ P mc mv k=some (v,rs,n)):FnOk P k v rs n:=by
 unfold ZJ at h;split at h
 ·cases h
 ·next fn hf=>
  split at h
  ·cases h
  ·next hname=>
   split at h
   ·cases h
   ·next c hc=>
    split at h
    ·next v0 rs0 hv hr=>
     cases hb:(mY v0&&(sN mc (mv.contains k) v0).bnd fn.ntmps)with
     |false=>rw[hb]at h;cases h
     |true=>
      rw[hb]at h;cases h;simp only[Bool.and_eq_true]at hb;exact⟨fn,c,hf,hname,hc,by rw[iF,iu hb.1];exact hv,hb.2,hr,rfl⟩
    ·cases h

/- A state without what is shadowed. -/
def ZK{α:Type} : Nat→List (Nat×α)→List (Nat×α)
 |_,[]=>[]
 |m,(k,v)::r=>bif Nat.testBit m k then ZK m r else (k,v)::ZK (m ||| 1 <<< k) r
theorem zT{α:Type} : ∀ {l:List (Nat×α)} {m k:Nat},ac (ZK m l) k=if m.testBit k then none else ac l k
 |[],m,k=>by simp[ZK,ac]
 |(j,v)::r,m,k=>by
  simp only[ZK];cases hj:Nat.testBit m j with
  |true=>
   simp only[cond_true,zT (l:=r),ac];cases hk:j==k with
   |true=>rw[beq_iff_eq]at hk;subst hk;simp[hj]
   |false=>simp
  |false=>
   simp only[cond_false,ac,zT (l:=r)];cases hk:j==k with
   |true=>rw[beq_iff_eq]at hk;subst hk;simp[hj]
   |false=>
    have hne:j≠k:=by simpa using hk
    have:(m ||| 1 <<< j).testBit k=m.testBit k:=by
     rw[Nat.testBit_or,Nat.testBit_shiftLeft];rcases Nat.lt_or_ge k j with hlt|hge
     ·have:¬j≤k:=by omega
      simp[this]
     ·have:(1:Nat).testBit (k-j)=false:=by
       rw[show k-j=(k-j-1)+1 by omega,Nat.testBit_add_one];simp
      simp[this]
    simp only[cond_false,this]
def St.norm(σ:St):St:=⟨ZK 0 σ.env,ZK 0 σ.objs,σ.ro,σ.n,σ.gl⟩
theorem Jy{σ σ':St}(hn:σ'.n=σ.n)(hgl:σ'.gl=σ.gl)(he:∀k,aC σ'.env k=.undef∨aC σ'.env k=aC σ.env k)(ho:∀k o,ac σ'.objs k=some o→ac σ.objs k=some o)(hr:∀i o,ac σ'.objs i=some o→i∈σ.ro→i∈σ'.ro):d5 σ σ':=by
 rintro w0 S0 M a w ⟨S,μ,β,h⟩;exact⟨S,μ,β,h.drop hn hgl hr he ho⟩
theorem Jz(σ:St):d5 σ σ.norm:=
 Jy rfl rfl (fun k=>.inr (by simp[St.norm,aC,zT])) (fun k o h=>by simpa[St.norm,zT]using h) (fun _ _ _ h=>h)

def JA:Exit→Bool
 |.normal=>true
 |.ret=>true
 |_=>false
def YM(σ:St)(rs:List VRes):Option Out:=match EV σ rs with
 |some (s,rows)=>some (.res (.own s rows))
 |none=>match EU σ rs with
  |some v=>some (.res (.imm v))
  |none=>none
def Ur(σ:St)(ids:List Nat):St:=⟨σ.env,zP σ.objs ids,ids.filter σ.ro.contains,σ.n,σ.gl⟩
def F9:SV→Bool
 |.tup _=>true
 |_=>false
theorem Nj{σ:St}{rs:List VRes}{a:SV}(h:F9 a=false):Hu σ rs a=TE σ rs:=by cases a<;>first|rfl|cases h
theorem Ql{σ:St}{rs:List VRes}{a:SV}(h:F9 a=true):Hu σ rs a=Hu σ rs (.tup []):=by cases a<;>first|rfl|cases h
theorem Xj{σ:St}{rs:List VRes}{a b:SV}(h:F9 a=F9 b):Hu σ rs a=Hu σ rs b:=by
 cases hb:F9 b with
 |true=>rw[Ql (h.trans hb),Ql hb]
 |false=>rw[Nj (h.trans hb),Nj hb]
def Nk(σ:St)(rs:List VRes)(ids:List Nat)(r0:SV):Option Out:=match Hu (Ur σ ids) rs r0 with
 |some (res,fz)=>if F9 r0=F9 res then some (.mc res (zP σ.objs ids) (fz++ids.filter σ.ro.contains))else none
 |none=>none
def KK(σ:St):List VRes→List Nat
 |[]=>[]
 |.cell t _::r=>(aC σ.env t).ids++KK σ r
 |_::r=>KK σ r
def aa6(σ:St)(rs:List VRes)(objs:List (Nat×Ob)):Option Out:=match rs with
 |_::_::_=>match py σ rs with
  |some l=>Nk σ rs (CH σ.objs 200 (objs.map (·.1)++(KK σ rs++wS l)) []) (.tup l)
  |none=>Nk σ rs (CH σ.objs 200 (objs.map (·.1)) []) .undef
 |_=>match TE σ rs with
  |some (r0,_)=>Nk σ rs (CH σ.objs 200 (objs.map (·.1)++(KK σ rs++r0.ids)) []) r0
  |none=>none
theorem Fa{objs:List (Nat×Ob)}{l:List Nat} : ∀k o,ac (zP objs l) k=some o→ac objs k=some o∧k∈l:=by
 induction l with
 |nil=>intro k o h;simp[zP,ac]at h
 |cons i r ih=>
  intro k o h;unfold zP at h;split at h
  ·next o1 h1=>
   simp only[ac]at h;cases hk:i==k with
   |true=>
    rw[hk]at h;rw[beq_iff_eq]at hk;subst hk;cases h;exact⟨h1,by simp⟩
   |false=>rw[hk]at h;exact⟨(ih k o h).1,List.mem_cons_of_mem _ (ih k o h).2⟩
  ·exact⟨(ih k o h).1,List.mem_cons_of_mem _ (ih k o h).2⟩
theorem S6(σ:St)(ids:List Nat):d5 σ (Ur σ ids):=
 Jy rfl rfl (fun _=>.inr rfl) (fun k o h=>(Fa k o h).1) (fun i o h hi=>List.mem_filter.2 ⟨(Fa i o h).2,by simpa using hi⟩)

section
variable (F:FuncId→Option (VCode×List VRes×Nat)) (T:Job→Option Out)
def Nl(X:Job→Option Out):Job→Option Out
 |.fn gl k args=>match T (.fn gl k args)with
  |some o=>some o
  |none=>match F k with
   |some (v,rs,n)=>bif Nat.ble args.length n then (match xw X v (TD gl args n)with
     |some (e,σ)=>bif JA e then YM σ rs else none
     |none=>none)else none
   |none=>none
 |.mc gl k args objs ro=>match T (.mc gl k args objs ro)with
  |some o=>some o
  |none=>match F k with
   |some (v,rs,n)=>bif Nat.ble args.length n&&Rw n objs then (match xw X v ⟨zK 0 args,objs,ro,n,gl⟩with
     |some (e,σ)=>bif JA e then aa6 σ rs objs else none
     |none=>none)else none
   |none=>none
 |.loop v σ=>match xw X v σ.norm with
  |some (.normal,σ')=>X (.loop v σ')
  |some (e,σ')=>some (.lp e σ')
  |none=>none
def ZM:Nat→Job→Option Out
 |0,_=>none
 |n+1,j=>Nl F T (ZM n) j
variable {F T} {P:Program} (hm:P.follows .mixedOrders=true) (hF:∀k v rs n,F k=some (v,rs,n)→FnOk P k v rs n) (hT:∀j o,T j=some o→zN P j o)
include hm hF hT
theorem Us{X:Job→Option Out}(hX:∀j o,X j=some o→zN P j o):∀j o,Nl F T X j=some o→zN P j o:=by
 intro j o h;cases j with
 |fn gl k args=>
  simp only[Nl]at h;split at h
  ·next ht=>cases h;exact hT _ _ ht
  ·split at h
   ·next v rs n hf=>
    cases hn:Nat.ble args.length n with
    |false=>rw[hn]at h;cases h
    |true=>
     rw[hn]at h;simp only[cond_true]at h;split at h
     ·next e σ hx=>
      cases he:JA e with
      |false=>rw[he]at h;cases h
      |true=>
       rw[he]at h;simp only[cond_true,YM]at h;have key:∀r,uQ rs r e σ→BD gl P k args r:=fun r hp=>ag hm (hF _ _ _ _ hf) (Nat.le_of_ble_eq_true hn) (gU hm hX v hx hp)
       have post:∀r,uQ rs r .normal σ→uQ rs r e σ:=by
        intro r hp;cases e<;>first|exact hp|(exact absurd he (by simp[JA]))
       split at h
       ·next s rows hr=>cases h;exact key _ (post _ hr)
       ·split at h
        ·next hr=>cases h;exact key _ (post _ hr)
        ·cases h
     ·cases h
   ·cases h
 |mc gl k args objs ro=>
  simp only[Nl]at h;split at h
  ·next ht=>cases h;exact hT _ _ ht
  ·split at h
   ·next v rs n hf=>
    cases hn:(Nat.ble args.length n&&Rw n objs)with
    |false=>rw[hn]at h;cases h
    |true=>
     rw[hn]at h;simp only[Bool.and_eq_true]at hn;simp only[cond_true]at h;split at h
     ·next e σ hx=>
      cases he:JA e with
      |false=>rw[he]at h;cases h
      |true=>
       rw[he]at h;simp only[cond_true]at h
       have fin:∀ids r0,Nk σ rs ids r0=some o→zN P (.mc gl k args objs ro) o:=by
        intro ids r0 h;unfold Nk at h;split at h
        ·next res fz h1=>
         split at h
         ·next ht=>
          cases h;have:cQ rs ⟨args,objs,res,zP σ.objs ids,fz++ids.filter σ.ro.contains,ro⟩ .normal σ:=⟨Ur σ ids,fz,S6 σ ids,rfl,(Xj ht).symm.trans h1,rfl⟩
          have hp:cQ rs ⟨args,objs,res,zP σ.objs ids,fz++ids.filter σ.ro.contains,ro⟩ e σ:=by
           cases e<;>first|exact this|(exact absurd he (by simp[JA]))
          exact bA hm (hF _ _ _ _ hf) (Nat.le_of_ble_eq_true hn.1) hn.2 (gU hm hX v hx hp)
         ·cases h
        ·cases h
       unfold aa6 at h;split at h
       ·split at h
        ·exact fin _ _ h
        ·exact fin _ _ h
       ·split at h
        ·exact fin _ _ h
        ·cases h
     ·cases h
   ·cases h
 |loop v σ=>
  simp only[Nl]at h;split at h
  ·next σ1 hx=>
   have hj:=hX _ _ h;cases o with
   |res=>exact hj.elim
   |mc=>exact hj.elim
   |lp e σ2=>
    obtain⟨n,hr⟩:=hj;refine⟨n+1,fun Q hQ=>CI (Jz σ) rfl (CJ hm (gU hm hX v hx (hr Q hQ)))⟩
  ·next e σ1 hne hx=>
   cases h;refine⟨1,fun Q hQ=>CI (Jz σ) rfl (CJ hm (gU hm hX v hx ?_))⟩;cases e with
   |normal=>exact(hne rfl).elim
   |_=>exact hQ
  ·cases h
theorem Qm:∀(n:Nat) (j:Job) (o:Out),ZM F T n j=some o→zN P j o
 |0,_,_,h=>by cases h
 |n+1,j,o,h=>Us hm hF hT (Qm n) j o h
end
theorem Fb{P:Program}(hm:P.follows .mixedOrders=true)(mc mv:List Nat){T:Job→Option Out}(hT:∀j o,T j=some o→zN P j o)(n:Nat){gl:List (Nat×List IV)}{k:FuncId}{args:List IV}{r:Res}
  (h:ZM (ZJ P mc mv) T n (.fn gl k args)=some (.res r)):BD gl P k args r:=
 Qm hm (fun _ _ _ _ h=>Xi h) hT n _ _ h
end Go.Vs
