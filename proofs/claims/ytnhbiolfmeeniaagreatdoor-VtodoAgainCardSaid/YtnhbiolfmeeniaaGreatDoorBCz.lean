/- A part of a proof. No conditions. -/
import Derived.Test.YtnhbiolfmeeniaaGreatDoorBBz
import Derived.ScopeJumps
set_option linter.all false
namespace Go.Vs
structure Eff where
 ids:List Nat
 dst:Option Nat
 u:Upd
structure St.Eq(σ σ':St):Prop where
 env:∀k,aE σ'.env k=aE σ.env k
 objs:∀k,ac σ'.objs k=ac σ.objs k
 ro:∀i,i∈σ'.ro↔i∈σ.ro
 n:σ'.n=σ.n
 gl:σ'.gl=σ.gl
theorem St.Eq.refl(σ:St):St.Eq σ σ:=⟨fun _=>rfl,fun _=>rfl,fun _=>Iff.rfl,rfl,rfl⟩
def N5(P:Program)(σ:St)(o:VOper)(e:Eff):Prop:=DU P σ o.dst e.u o.op/\e.ids=fF σ o.op e.u/\e.dst=o.dst
def kA:SV->Option (Option Bool)
 |.val (.bool c)=>some (some c)
 |.val (.tuple [])=>some none
 |_=>none
abbrev j6:Upd:={v:=.val (.tuple []) }
def gH(P:Program)(σ:St)(o:VOper)(e:Eff):Prop:=
 match o.guard with
 |none=>N5 P σ o e
 |some (g,b)=>∃c,kA (aE σ.env g)=some c/\((c=some b/\N5 P σ o e)\/(c≠some b/\e=⟨[],o.dst,j6⟩))
def wh(b:Option Nat)(u:Upd)(id:Nat):Option Ob:=
 match u.new,b with
 |some o,some d=>if id=d then some (o.erase d)else none
 |_,_=>match u.wr with
  |some (i,o)=>if id=i then some o else none
  |none=>none
def mZ(e:Eff)(d:Nat):Prop:=(∃o,e.u.new=some o)/\e.dst=some d
def ge(d:Nat)(σ:St):Prop:=(∀k,(aE σ.env k).noRef d=true)/\∀id o,ac σ.objs id=some o->o.noRef d=true
def yT(d:Nat)(u:Upd):Prop:=u.v.noRef d=true/\(∀i o,u.wr=some (i,o)->o.noRef d=true)/\∀o,u.new=some o->o.noRef d=true
theorem Hl{d:Nat}{v:SV}(h:v.noRef d=true):v.erase d=v:=by unfold SV.erase;rw[h];rfl
theorem DX{d:Nat} : ∀ {l:List SV},SV.noRefs d l=true->fJ d l=l
 |[],_=>rfl
 |v::r,h=>by
  simp only[SV.noRefs,Bool.and_eq_true]at h;simp only[fJ,Hl h.1,DX h.2]
theorem Q8{d:Nat} : ∀ {o:Ob},o.noRef d=true->o.erase d=o
 |.box c,h=>by simp only[Ob.erase];rw[DX h]
 |.arr _ _ _,_=>rfl
 |.iter _ _,_=>rfl
section
variable {σ σ':St}
theorem kc{u:Upd}{o:Ob}{d:Nat}(h:u.new=some o):σ.apply (some d) u=⟨put (dB d σ.env) d u.v,cp d (put σ.objs d o),u.fz++σ.ro,σ.n,σ.gl⟩:=by
 unfold St.apply;rw[h]
theorem kd{u:Upd}{b:Option Nat}(h:u.new=none\/b=none):σ.apply b u=⟨putD σ.env b u.v,Jz σ.objs u.wr,u.fz++σ.ro,σ.n,σ.gl⟩:=by
 unfold St.apply;rcases h with h|h
 .rw[h]
 subst h;cases u.new<;>rfl
theorem x5(u:Upd)(b:Option Nat):(∃o d,u.new=some o/\b=some d)\/(u.new=none\/b=none):=by
 cases u.new with
 |none=>exact .inr (.inl rfl)
 |some o=>cases b with
  |none=>exact .inr (.inr rfl)
  |some d=>exact .inl ⟨o,d,rfl,rfl⟩
theorem Oz{u:Upd}{o:Ob}{d:Nat}(h:u.new=some o)(k:Nat):wh (some d) u k=if k=d then some (o.erase d)else none:=by
 unfold wh;rw[h]
theorem AH{u:Upd}{b:Option Nat}(h:u.new=none\/b=none)(k:Nat):wh b u k=match u.wr with
  |some (i,o)=>if k=i then some o else none
  |none=>none:=by
 unfold wh;rcases h with h|h
 .rw[h]
 subst h;cases u.new<;>rfl
theorem sB{b:Option Nat}{u:Upd}(h:∀d,(∃o,u.new=some o)->b=some d->ge d σ)(k:Nat):aE (σ.apply b u).env k=if b=some k then u.v else aE σ.env k:=by
 rcases x5 u b with⟨o,d,f,rfl⟩|g
 .rw[kc f];simp only[od,uy];by_cases c:k=d
  .subst c;simp
  rw[if_neg c,if_neg (by simpa using fun e=>c e.symm),Hl ((h d ⟨o,f⟩ rfl).1 k)]
 rw[kd g];cases b with
 |none=>simp[putD]
 |some d=>
  simp only[putD,od];by_cases c:k=d
  .subst c;simp
  rw[if_neg c,if_neg (by simpa using fun e=>c e.symm)]
theorem pG{b:Option Nat}{u:Upd}(h:∀d,(∃o,u.new=some o)->b=some d->ge d σ)(k:Nat):ac (σ.apply b u).objs k=match wh b u k with
  |some o=>some o
  |none=>ac σ.objs k:=by
 rcases x5 u b with⟨o,d,e,rfl⟩|f
 .rw[kc e,Oz e];simp only[cn,jL];by_cases c:k=d
  .subst c;simp
  simp only[if_neg c];cases g:ac σ.objs k with
  |none=>rfl
  |some y=>
   simp only[Option.map_some];rw[Q8 ((h d ⟨o,e⟩ rfl).2 k y g)]
 rw[kd f,AH f];cases j:u.wr with
 |none=>simp[Jz]
 |some p=>
  obtain⟨i,o⟩:=p;simp only[Jz,jL];by_cases c:k=i
  .simp[c]
  simp[c]
theorem yU{b:Option Nat}{u:Upd}(i:Nat):i∈(σ.apply b u).ro↔i∈u.fz\/i∈σ.ro:=by
 rcases x5 u b with⟨o,d,c,rfl⟩|e
 .rw[kc c];simp
 rw[kd e];simp
theorem x6{b:Option Nat}{u:Upd} : (σ.apply b u).n=σ.n:=by
 rcases x5 u b with⟨o,d,c,rfl⟩|e
 .rw[kc c]
 rw[kd e]
theorem yV{b:Option Nat}{u:Upd} : (σ.apply b u).gl=σ.gl:=by
 rcases x5 u b with⟨o,d,c,rfl⟩|e
 .rw[kc c]
 rw[kd e]
theorem So(h:St.Eq σ σ')(b:Option Nat)(u:Upd):St.Eq (σ.apply b u) (σ'.apply b u):=by
 refine⟨fun k=>?_,fun k=>?_,fun i=>?_,by rw[x6,x6,h.n],by rw[yV,yV,h.gl]⟩
 .rcases x5 u b with⟨o,d,c,rfl⟩|e
  .rw[kc c,kc c];simp only[od,uy,h.env]
  rw[kd e,kd e];cases b<;>simp[putD,od,h.env]
 .rcases x5 u b with⟨o,d,c,rfl⟩|e
  .rw[kc c,kc c];simp only[cn,jL,h.objs]
  rw[kd e,kd e];cases u.wr with
  |none=>simp[Jz,h.objs]
  |some p=>simp[Jz,jL,h.objs]
 rw[yU,yU,h.ro]
theorem ge.apply{d:Nat}(h:ge d σ){C:Option Nat}{u:Upd}(F:yT d u):ge d (σ.apply C u):=by
 have J:∀(B:Nat) (v:SV),v.noRef d=true->(v.erase B).noRef d=true:=by
  intro B v O;unfold SV.erase;cases v.noRef B
  .rfl
  exact O
 have H:∀(B:Nat) (l:List SV),SV.noRefs d l=true->SV.noRefs d (fJ B l)=true:=by
  intro B l
  induction l with
  |nil=>intro _;rfl
  |cons v r Q=>
   intro D;simp only[SV.noRefs,Bool.and_eq_true]at D;simp only[fJ,SV.noRefs,Bool.and_eq_true];exact⟨J B v D.1,Q D.2⟩
 have E:∀(B:Nat) (o:Ob),o.noRef d=true->(o.erase B).noRef d=true:=by
  intro B o q;cases o with
  |box c=>exact H B c q
  |arr=>rfl
  |iter=>rfl
 rcases x5 u C with⟨U,B,N,rfl⟩|q
 .rw[kc N];constructor
  .intro k;simp only[od,uy];split
   .exact F.1
   exact J _ _ (h.1 k)
  intro id o q;simp only[cn,jL]at q;split at q
  .simp only[Option.map_some,E_]at q;subst q;exact E _ _ (F.2.2 _ N)
  cases D:ac σ.objs id with
  |none=>rw[D]at q;simp at q
  |some y=>
   rw[D]at q;simp only[Option.map_some,E_]at q;subst q;exact E _ _ (h.2 _ _ D)
 rw[kd q];constructor
 .intro k;cases C with
  |none=>exact h.1 k
  |some B=>
   simp only[putD,od];split
   .exact F.1
   exact h.1 k
 intro id o q;cases I:u.wr with
 |none=>rw[I]at q;exact h.2 id o q
 |some p=>
  obtain⟨i,x⟩:=p;rw[I]at q;simp only[Jz,jL]at q;split at q
  .obtain rfl:=O_ q;exact F.2.1 _ _ I
  exact h.2 id o q
end
def VOper.slots(o:VOper):List Nat:=(o.op.opds.filterMap fun|.tmp t=>some t|_=>none)++(match o.guard with|some (g,_)=>[g]|none=>[])
def X2(a b:VOper):Prop:=(∀d,a.dst=some d->d∉b.slots/\b.dst≠some d)/\∀d,b.dst=some d->d∉a.slots
def Hm(x y:Eff):Prop:=(∀id,wh x.dst x.u id≠none->id∉y.ids/\wh y.dst y.u id=none)/\∀id o,y.u.wr=some (id,o)->id∉x.u.fz
section
variable {P:Program} {σ σ':St}
theorem Yt{op:VOp}(b:σ'.gl=σ.gl)(h:∀t,t∈(op.opds.filterMap fun|.tmp t=>some t|_=>none)->aE σ'.env t=aE σ.env t):∀x∈op.opds,val σ' x=val σ x:=by
 intro x c;cases x with
 |tmp t=>exact h t (List.mem_filterMap.2 ⟨.tmp t,c,rfl⟩)
 |const v=>rfl
 |func f=>rfl
 |glob g=>simp only[val,b]
theorem JR{o:VOper}{e:Eff}(d:σ'.gl=σ.gl)(h:gH P σ o e)(q:∀t,t∈o.slots->aE σ'.env t=aE σ.env t)(s:∀i,i∈e.ids->ac σ'.objs i=ac σ.objs i)(l:∀id x,e.u.wr=some (id,x)->id∈σ'.ro->id∈σ.ro):gH P σ' o e:=by
 have f:N5 P σ o e->N5 P σ' o e:=by
  rintro⟨m,j,k⟩;have u:=Yt (op:=o.op) (σ:=σ) (σ':=σ') d (fun t v=>q t (List.mem_append_left _ v));obtain⟨y,z⟩:=Ys (σ':=σ') d m u (fun i A=>s i (by rw[j];exact A)) l;exact⟨y,by rw[z];exact j,k⟩
 unfold gH at h |-;cases n:o.guard with
 |none=>rw[n]at h;exact f h
 |some p=>
  obtain⟨g,b⟩:=p;rw[n]at h;obtain⟨c,m,j⟩:=h;refine⟨c,?_,j.imp (fun k=>⟨k.1,f k.2⟩) id⟩;rw[q g (by simp[VOper.slots,n])];exact m
theorem V7{o:VOper}{e:Eff}(b:St.Eq σ σ')(h:gH P σ o e):gH P σ' o e:=
 JR b.gl h (fun t _=>b.env t) (fun i _=>b.objs i) (fun _ _ _ c=>(b.ro _).1 c)
theorem Sp{o:VOper}{e:Eff}(h:gH P σ o e):e.dst=o.dst:=by
 unfold gH at h;split at h
 .exact h.2.2
 obtain⟨c,_,h|h⟩:=h
 .exact h.2.2.2
 rw[h.2]
theorem Yu{a b:VOper}{x y:Eff}(s:gH P σ a x)(u:gH P (σ.apply x.dst x.u) b y)(c:X2 a b)(v:Hm x y)(z:Hm y x)
  (n:∀d,mZ x d->ge d σ/\yT d y.u) (p:∀d,mZ y d->ge d σ/\yT d x.u) :
  gH P σ b y/\gH P (σ.apply y.dst y.u) a x/\St.Eq ((σ.apply x.dst x.u).apply y.dst y.u) ((σ.apply y.dst y.u).apply x.dst x.u):=by
 have B:=Sp s;have C:=Sp u;have m:∀d,(∃o,x.u.new=some o)->x.dst=some d->ge d σ:=fun d h k=>(n d ⟨h,k⟩).1
 have cb:∀d,(∃o,y.u.new=some o)->y.dst=some d->ge d σ:=fun d h k=>(p d ⟨h,k⟩).1
 have g:∀d,(∃o,x.u.new=some o)->x.dst=some d->ge d (σ.apply y.dst y.u):=fun d h k=>(n d ⟨h,k⟩).1.apply (n d ⟨h,k⟩).2
 have j:∀d,(∃o,y.u.new=some o)->y.dst=some d->ge d (σ.apply x.dst x.u):=fun d h k=>(p d ⟨h,k⟩).1.apply (p d ⟨h,k⟩).2
 refine⟨?_,?_,?_⟩
 .refine JR (by simp only[yV]) u (fun t q=>?_) (fun i f=>?_) (fun id o _ f=>(yU id).2 (.inr f))
  .rw[sB m,if_neg];intro e;rw[B]at e;exact(c.1 t e).1 q
  rw[pG m];cases l:wh x.dst x.u i with
  |none=>rfl
  |some o=>exact absurd f (v.1 i (by rw[l];simp)).1
 .refine JR (by simp only[yV]) s (fun t q=>?_) (fun i f=>?_) (fun id o l f=>?_)
  .rw[sB cb,if_neg];intro e;rw[C]at e;exact c.2 t e q
  .rw[pG cb];cases l:wh y.dst y.u i with
   |none=>rfl
   |some o=>exact absurd f (z.1 i (by rw[l];simp)).1
  rcases(yU id).1 f with h|h
  .exact absurd h (z.2 id o l)
  exact h
 refine⟨fun k=>?_,fun k=>?_,fun i=>?_,by simp only[x6],by simp only[yV]⟩
 .rw[sB g,sB cb,sB j,sB m];by_cases e1:x.dst=some k<;>by_cases e2:y.dst=some k
  .exfalso;rw[B]at e1;rw[C]at e2;exact(c.1 k e1).2 e2
  .simp[e1,e2]
  .simp[e1,e2]
  simp[e1,e2]
 .rw[pG g,pG cb,pG j,pG m];cases D:wh x.dst x.u k with
  |none=>cases E:wh y.dst y.u k<;>rfl
  |some o=>rw[(v.1 k (by rw[D];simp)).2]
 simp only[yU];constructor
 .rintro(h|h|h)
  .exact .inr (.inl h)
  .exact .inl h
  exact .inr (.inr h)
 rintro(h|h|h)
 .exact .inr (.inl h)
 .exact .inl h
 exact .inr (.inr h)
end
structure Item1 where
 i:Nat
 o:VOper
 e:Eff
def Gc(P:Program):List Item1->St->St->Prop
 |[],σ,b=>St.Eq σ b
 |p::r,σ,b=>gH P σ p.o p.e/\Gc P r (σ.apply p.e.dst p.e.u) b
section
variable {P:Program}
theorem JS:∀ {l:List Item1} {σ σ' c:St},St.Eq σ σ'->Gc P l σ c->Gc P l σ' c
 |[],_,_,_,b,h=>⟨fun k=>(h.env k).trans (b.env k).symm,fun k=>(h.objs k).trans (b.objs k).symm,fun i=>(h.ro i).trans (b.ro i).symm,h.n.trans b.n.symm,h.gl.trans b.gl.symm⟩
 |_::_,_,_,_,b,h=>⟨V7 b h.1,JS (So b _ _) h.2⟩
structure Free(x p:Item1):Prop where
 apart:X2 p.o x.o
 one:Hm p.e x.e
 two:Hm x.e p.e
theorem OA{x:Item1}{B:List Item1} : ∀ {A:List Item1} {σ e:St},Gc P (A++x::B) σ e->(∀p∈A,Free x p)->
  (∀p∈A++x::B,∀d,mZ p.e d->ge d σ)->(∀p∈A,∀d,mZ p.e d->yT d x.e.u)->
  (A.Pairwise fun p q=>∀d,mZ q.e d->yT d p.e.u)->(∀p∈A,∀q∈x::B,∀d,mZ q.e d->yT d p.e.u)->
  Gc P (x::(A++B)) σ e
 |[],_,_,h,_,_,_,_,_=>h
 |p::A,σ,e,h,u,m,v,y,n=>by
  obtain⟨z,C⟩:=h;have l:=List.pairwise_cons.1 y
  have D:=OA (A:=A) C (fun q c=>u q (List.mem_cons_of_mem _ c)) (fun q c d b=>by
   refine(m q (List.mem_cons_of_mem _ c) d b).apply ?_;rcases List.mem_append.1 c with i|i
   .exact l.1 q i d b
   exact n p (by simp) q i d b) (fun q c=>v q (List.mem_cons_of_mem _ c)) l.2 (fun q c=>n q (List.mem_cons_of_mem _ c))
  obtain⟨E,s⟩:=D;have k:=u p (by simp)
  obtain⟨F,H,I⟩:=Yu z E k.apart k.one k.two (fun d b=>⟨m p (by simp) d b,v p (by simp) d b⟩)
   (fun d b=>⟨m x (by simp) d b,n p (by simp) x (by simp) d b⟩)
  exact⟨F,H,JS I s⟩
end
end Go.Vs
namespace Go.Vs
theorem aaU{P:Program}{σ:St}{c:Option Nat}{d:VOp}{u:Upd}(b:DU P σ c u d):u.fz≠[]->d.acts=true:=by
 cases d
 case call=>exact fun _=>rfl
 case callV=>exact fun _=>rfl
 case store=>exact fun _=>rfl
 case subV=>exact fun _=>rfl
 case subA=>exact fun _=>rfl
 case buildSlice=>exact fun _=>rfl
 case append=>exact fun _=>rfl
 all_goals
  have b:=b.1;refine fun h=>?_
  exfalso;apply h;simp only[ev,v6,G8,Yf,Yg]at b
  first
   |(obtain rfl:=O_ b;rfl)
   |((repeat' split at b)<;>first|(simp at b;done)|(obtain rfl:=O_ b;rfl))
def Eff.wids(e:Eff):List Nat:=match e.u.new,e.dst with
 |some _,some d=>[d]
 |_,_=>match e.u.wr with
  |some (i,_)=>[i]
  |none=>[]
def Eff.newId(e:Eff):Option Nat:=match e.u.new,e.dst with
 |some _,some d=>some d
 |_,_=>none
def ahp(a b:List Nat):Bool:=a.all fun i=>!b.contains i
def Q9(x y:Eff):Bool:=ahp x.wids y.ids&&ahp x.wids y.wids&&(match y.u.wr with
 |some (i,_)=>!x.u.fz.contains i
 |none=>true)
def Qa(d:Nat)(u:Upd):Bool:=u.v.noRef d&&(match u.wr with
 |some (_,o)=>o.noRef d
 |none=>true)&&(match u.new with
 |some o=>o.noRef d
 |none=>true)
theorem JT{e:Eff}{id:Nat}(h:wh e.dst e.u id≠none):id∈e.wids:=by
 unfold Eff.wids;rcases x5 e.u e.dst with⟨o,d,g,j⟩|b
 .rw[j,Oz g]at h;rw[g,j];by_cases c:id=d
  .subst c;simp
  rw[if_neg c]at h;exact absurd rfl h
 rw[AH b]at h
 have f:id∈(match e.u.wr with|some (i,_)=>[i]|none=>([]:List Nat)):=by
  cases f:e.u.wr with
  |none=>rw[f]at h;exact absurd rfl h
  |some p=>
   obtain⟨i,x⟩:=p;rw[f]at h;by_cases c:id=i
   .subst c;simp
   simp[c]at h
 split
 .next k l=>
  exfalso;rcases b with b|b
  .rw[b]at k;simp at k
  rw[b]at l;simp at l
 exact f
theorem Hn{x y:Eff}(h:Q9 x y=true):Hm x y:=by
 unfold Q9 ahp at h;simp only[Bool.and_eq_true,List.all_eq_true]at h;obtain⟨⟨d,f⟩,b⟩:=h;refine⟨fun id c=>?_,fun id o c g=>?_⟩
 .have hm:=JT c;refine⟨by simpa using d id hm,?_⟩;cases i:wh y.dst y.u id with
  |none=>rfl
  |some o=>exact absurd (JT (e:=y) (id:=id) (by rw[i];simp)) (by simpa using f id hm)
 rw[c]at b;simp only[Bool.not_eq_true',List.contains_iff_mem,Bool.eq_false_iff,ne_eq]at b;exact b g
theorem Qb{d:Nat}{u:Upd}(h:Qa d u=true):yT d u:=by
 unfold Qa at h;simp only[Bool.and_eq_true]at h;obtain⟨⟨f,c⟩,e⟩:=h;refine⟨f,fun i o b=>?_,fun o b=>?_⟩
 .rw[b]at c;exact c
 rw[b]at e;exact e
def pH(P:Program)(K:List Eff->St->Prop):List VOper->St->List Eff->Prop
 |[],σ,d=>K d σ
 |o::r,σ,d=>match o.guard with
  |none=>ey P σ o.dst (fun u=>pH P K r (σ.apply o.dst u) (d++[⟨fF σ o.op u,o.dst,u⟩])) o.op
  |some (g,b)=>match kA (aE σ.env g)with
   |some c=>(c=some b->ey P σ o.dst (fun u=>pH P K r (σ.apply o.dst u) (d++[⟨fF σ o.op u,o.dst,u⟩])) o.op)/\
     (¬c=some b->pH P K r (σ.apply o.dst j6) (d++[⟨[],o.dst,j6⟩]))
   |none=>False
def m5(P:Program):List VOper->St->List Eff->St->Prop
 |[],σ,d,b=>d=[]/\b=σ
 |o::r,σ,d,b=>∃e c,d=e::c/\gH P σ o e/\m5 P r (σ.apply e.dst e.u) c b
theorem CY{P:Program}{K:List Eff->St->Prop} : ∀ {l:List VOper} {σ:St} {m:List Eff},pH P K l σ m->∃d f,m5 P l σ d f/\K (m++d) f
 |[],σ,m,h=>⟨[],σ,⟨rfl,rfl⟩,by rw[List.append_nil];exact h⟩
 |o::r,σ,m,h=>by
  simp only[pH]at h
  have n:ey P σ o.dst (fun u=>pH P K r (σ.apply o.dst u) (m++[⟨fF σ o.op u,o.dst,u⟩])) o.op->
    ∃e d f,N5 P σ o e/\m5 P r (σ.apply e.dst e.u) d f/\K (m++e::d) f:=by
   intro p;obtain⟨u,v,x⟩:=J1 p;obtain⟨d,f,j,k⟩:=CY x;exact⟨⟨fF σ o.op u,o.dst,u⟩,d,f,⟨v,rfl,rfl⟩,j,by simpa using k⟩
  split at h
  .next q=>
   obtain⟨e,d,f,p,j,k⟩:=n h;exact⟨e::d,f,⟨e,d,rfl,by unfold gH;rw[q];exact p,j⟩,k⟩
  next g b q=>
  split at h
  .next c s=>
   by_cases i:c=some b
   .obtain⟨e,d,f,p,j,k⟩:=n (h.1 i);exact⟨e::d,f,⟨e,d,rfl,by unfold gH;rw[q];exact⟨c,s,.inl ⟨i,p⟩⟩,j⟩,k⟩
   obtain⟨d,f,j,k⟩:=CY (h.2 i);exact⟨⟨[],o.dst,j6⟩::d,f,⟨_,d,rfl,by unfold gH;rw[q];exact⟨c,s,.inr ⟨i,rfl⟩⟩,j⟩,by simpa using k⟩
  exact h.elim
def yW(σ:St)(cU makes:List (Nat×Nat))(b:List Eff):Bool:=
 cU.all (fun p=>match b[p.1]?,b[p.2]? with
  |some x,some y=>Q9 x y&&Q9 y x
  |_,_=>false) &&
 makes.all (fun p=>match b[p.1]?,b[p.2]? with
  |some x,some y=>match y.newId with
   |some d=>Qa d x.u
   |none=>true
  |_,_=>false) &&
 b.all (fun e=>match e.newId with
  |some d=>G6 d σ.env&&G7 d σ.objs
  |none=>true)
section
variable {P:Program}
def kl:Nat->List VOper->List Eff->List Item1
 |_,[],_=>[]
 |_,_::_,[]=>[]
 |i,o::r,e::b=>⟨i,o,e⟩::kl (i+1) r b
theorem j7:∀ {l:List VOper} {σ b:St} {c:List Eff} (i:Nat),m5 P l σ c b->Gc P (kl i l c) σ b/\(kl i l c).map (·.i)=List.range' i l.length/\c.length=l.length
 |[],σ,b,c,i,⟨d,f⟩=>by subst d;subst f;exact⟨St.Eq.refl _,rfl,rfl⟩
 |o::r,σ,b,c,i,⟨e,g,d,f,h⟩=>by
  subst d;obtain⟨j,k,n⟩:=j7 (i+1) h;exact⟨⟨f,j⟩,by simp[kl,k,List.range'_succ],by simp[n]⟩
theorem Gd:∀ {l:List VOper} {b:List Eff} {i:Nat} {p:Item1},b.length=l.length->p∈kl i l b->i<=p.i/\l[p.i-i]?=some p.o/\b[p.i-i]?=some p.e
 |[],_,_,_,_,h=>by simp[kl]at h
 |_::_,[],_,_,c,_=>by simp at c
 |o::r,e::b,i,p,c,h=>by
  simp only[kl,List.mem_cons]at h;rcases h with rfl|h
  .simp
  obtain⟨g,d,f⟩:=Gd (by simpa using c) h;refine⟨by omega,?_,?_⟩
  .rw[show p.i-i=(p.i-(i+1))+1 by omega];simpa using d
  rw[show p.i-i=(p.i-(i+1))+1 by omega];simpa using f
theorem JU(c:Array Nat):∀(d:List Edge) (s:Nat) (b:Nat),(d.foldl (fun s e=>if Region.binds .any e then s ||| 2 ^ e.on ||| c.getD e.on 0 else s) s).testBit b=true->
  s.testBit b=true\/∃e∈d,Region.binds .any e=true/\(b=e.on\/(c.getD e.on 0).testBit b=true)
 |[],s,b,h=>.inl h
 |e::d,s,b,h=>by
  simp only[List.foldl_cons]at h;rcases JU c d _ b h with h|⟨i,f,j,k⟩
  .split at h
   .next g=>
    simp only[Nat.testBit_or,Bool.or_eq_true,Nat.testBit_two_pow,decide_eq_true_eq]at h;rcases h with(h|h)|h
    .exact .inl h
    .exact .inr ⟨e,by simp,g,.inl h.symm⟩
    exact .inr ⟨e,by simp,g,.inr h⟩
   exact .inl h
  exact .inr ⟨i,List.mem_cons_of_mem _ f,j,k⟩
theorem Ho:∀(l:List Oper) (c:Array Nat),
  (l.foldl (fun c o=>c.push (o.after.foldl (fun s e=>if Region.binds .any e then s ||| 2 ^ e.on ||| c.getD e.on 0 else s) 0)) c).size=c.size+l.length/\
  (∀j,j<c.size->(l.foldl (fun c o=>c.push (o.after.foldl (fun s e=>if Region.binds .any e then s ||| 2 ^ e.on ||| c.getD e.on 0 else s) 0)) c).getD j 0=c.getD j 0)/\
  ∀j o,l[j]?=some o->∀b,((l.foldl (fun c o=>c.push (o.after.foldl (fun s e=>if Region.binds .any e then s ||| 2 ^ e.on ||| c.getD e.on 0 else s) 0)) c).getD (c.size+j) 0).testBit b=true->
   ∃e∈o.after.toList,Region.binds .any e=true/\(b=e.on\/((l.foldl (fun c o=>c.push (o.after.foldl (fun s e=>if Region.binds .any e then s ||| 2 ^ e.on ||| c.getD e.on 0 else s) 0)) c).getD e.on 0).testBit b=true)
 |[],c=>by simp
 |o::l,c=>by
  simp only[List.foldl_cons];generalize u:(o.after.foldl (fun s e=>if Region.binds .any e then s ||| 2 ^ e.on ||| c.getD e.on 0 else s) 0)=v;obtain⟨x,g,y⟩:=Ho l (c.push v);refine⟨by rw[x];simp;omega,fun j i=>?_,fun j p k b f=>?_⟩
  .rw[g j (by simp;omega)];simp[Array.getD,i,Nat.lt_succ_of_lt i,Array.getElem_push_lt i]
  cases j with
  |zero=>
   simp only[List.getElem?_cons_zero,E_]at k;subst k;rw[Nat.add_zero,g c.size (by simp)]at f;have m:(c.push v).getD c.size 0=v:=by simp[Array.getD]
   rw[m,<-u,<-Array.foldl_toList]at f;rcases JU c _ _ _ f with h|⟨e,z,n,h⟩
   .simp at h
   refine⟨e,z,n,h.imp id (fun h=>?_)⟩
   have d:e.on<c.size:=by
    rcases Nat.lt_or_ge e.on c.size with q|q
    .exact q
    rw[Array.getD,dif_neg (by omega)]at h;simp at h
   rw[g e.on (by simp;omega)];have:(c.push v).getD e.on 0=c.getD e.on 0:=by simp[Array.getD,d,Nat.lt_succ_of_lt d,Array.getElem_push_lt d]
   rw[this];exact h
  |succ j=>
   have:=y j p (by simpa using k) b (by
    rw[Array.size_push,show c.size+1+j=c.size+(j+1) by omega];exact f)
   exact this
theorem Hp{ops:Array Oper}{j:Nat}{o:Oper}(d:ops[j]?=some o){b:Nat}(c:((Region.before ops).getD j 0).testBit b=true) :
  ∃e∈o.after.toList,Region.binds .any e=true/\(b=e.on\/((Region.before ops).getD e.on 0).testBit b=true):=by
 have:=(Ho ops.toList #[]).2.2 j o (by simpa using d) b;unfold Region.before at c |-;rw[<-Array.foldl_toList]at c |-;simp only[Array.size_empty,Nat.zero_add]at this;exact this c
theorem Bg{ops:Array Oper}{listed:Array Bool}(k:∀j o,ops[j]?=some o->∀e∈o.after.toList,Region.binds .any e=true->e.on<j)
  (l:∀j o,ops[j]?=some o->listed.getD j false=true->∀e∈o.after.toList,Region.binds .any e=true->listed.getD e.on false=true) :
  ∀(n j:Nat) (o:Oper),j<n->ops[j]?=some o->(∀e∈o.after.toList,Region.binds .any e=true->listed.getD e.on false=true)->∀b,((Region.before ops).getD j 0).testBit b=true->listed.getD b false=true:=by
 intro n
 induction n with
 |zero=>intro j o h;omega
 |succ n x=>
  intro j o D m y b z;obtain⟨e,s,i,h⟩:=Hp m z;have u:=y e s i;rcases h with rfl|h
  .exact u
  have A:=k j o m e s i;cases c:ops[e.on]? with
  |none=>
   exfalso
   have:ops.size<=e.on:=by
    rcases Nat.lt_or_ge e.on ops.size with d|d
    .simp[d]at c
    exact d
   have B:j<ops.size:=by
    rcases Nat.lt_or_ge j ops.size with d|d
    .exact d
    simp[Array.getElem?_eq_none d]at m
   omega
  |some v=>exact x e.on v (by omega) c (fun C p q=>l e.on v c u C p q) b h
end
end Go.Vs
namespace Go.Vs
section
variable {P:Program} {w0:World} {S0:bb} {M:Ctx}
theorem gc.congr{σ σ':St}{a:Act}{w:World}(b:St.Eq σ σ')(h:gc w0 S0 M σ a w):gc w0 S0 M σ' a w:=by
 obtain⟨S,μ,β,h⟩:=h;exact⟨S,μ,β,h.drop b.n b.gl (fun i _ _ hi=>(b.ro i).2 hi) (fun k=>.inr (b.env k)) (fun id o c=>by rw[<-b.objs];exact c)⟩
theorem dC{b:Array Oper} : ∀ {l:List Oper} {c:List VOper},cq P b l=some c->c.length=l.length/\∀(i:Nat) (o:Oper),l[i]?=some o->∃v,c[i]?=some v/\jM P b o=some v
 |[],c,h=>by
  simp only[cq,E_]at h;subst h;exact⟨rfl,by simp⟩
 |o::r,c,h=>by
  simp only[cq]at h;split at h
  .next v e f g=>
   obtain rfl:=O_ h;obtain⟨j,k⟩:=dC g;refine⟨by simp[j],fun i p d=>?_⟩;cases i with
   |zero=>simp at d;subst d;exact⟨v,rfl,f⟩
   |succ i=>simpa using k i p (by simpa using d)
  simp at h
theorem gf{b:Array Oper}{o:Oper}{v:VOper}(h:jM P b o=some v):v.dst=o.dst/\pz P o.op=some v.op/\j0 b o.guard=some v.guard:=by
 unfold jM at h;split at h
 .next x g c d=>
  obtain rfl:=O_ h;exact⟨rfl,c,d⟩
 simp at h
theorem x7{f:Array Oper}{j d:Nat}(m:(f[j]?).bind (·.dst)=some d){σ:St}{a:Act}{w:World}(h:gc w0 S0 M σ a w){c:Option Bool}(g:kA (aE σ.env d)=some c):yielded f a.tmps j=c:=by
 obtain⟨S,μ,β,q⟩:=h;have b:=q.env d;unfold kA at g;split at g
 .next p k=>
  rw[k]at b;obtain rfl:=O_ g;have b:a.tmps.getD d Go.undef=.bool p:=b
  have l:a.tmps[d]?=some (.bool p):=by
   rcases Nat.lt_or_ge d a.tmps.size with e|e
   .simp[e]at b |-;exact b
   rw[Array.getD,dif_neg (by omega)]at b;simp[Go.undef]at b
  unfold yielded;rw[m,Option.bind_some,l]
 .next k=>
  rw[k]at b;obtain rfl:=O_ g;have b:∃i,a.tmps.getD d Go.undef=.tuple i/\br w S [] i.toList:=b;obtain⟨i,b,_⟩:=b;unfold yielded;rw[m,Option.bind_some];rcases Nat.lt_or_ge d a.tmps.size with e|e
  .have l:a.tmps[d]?=some (.tuple i):=by simp[e]at b |-;exact b
   rw[l]
  rw[Array.getElem?_eq_none e]
 simp at g
theorem V8{ops:Array Oper}{i:Nat}{o:Oper}{v:VOper}(I:ops[i]?=some o)(J:jM P ops o=some v){σ:St}{a:Act}{w:World}(h:gc w0 S0 M σ a w)(E:∀d,v.dst=some d->d<σ.n){e:Eff}(x:gH P σ v e)
  {Q:Exit->Act->World->Prop} {K:Act->World->Prop} (F:∀H z,gc w0 S0 M (σ.apply e.dst e.u) H z->K H z):wpOp P ops Q i K a w:=by
 obtain⟨k,A,m⟩:=gf J
 have run:N5 P σ v e->o.wp P a w K Q:=by
  rintro⟨N,X,O⟩;refine Sm h (fun d n=>E d (by rw[k];exact n)) A (u:=e.u) (by rw[<-k];exact N) (fun val z B=>F _ _ ?_);rw[O,k];exact B
 unfold wpOp;rw[I];dsimp only;cases l:o.guard with
 |none=>
  have:v.guard=none:=by rw[l]at m;simpa[j0]using m.symm
  unfold gH at x;rw[this]at x;have C:Region.wanted o (yielded ops a.tmps)=true:=by simp[Region.wanted,l]
  rw[if_pos C];exact .inl (run x)
 |some p=>
  obtain⟨j,b⟩:=p;rw[l]at m;simp only[j0]at m;split at m
  .next d n=>
   have D:v.guard=some (d,b):=by simpa using m.symm
   unfold gH at x;rw[D]at x;obtain⟨c,R,q⟩:=x;have U:yielded ops a.tmps j=c:=x7 n h R;have C:Region.wanted o (yielded ops a.tmps)=(c==some b):=by simp[Region.wanted,l,U]
   rw[C];rcases q with⟨s,y⟩|⟨s,V⟩
   .rw[if_pos (by simpa using s)];exact .inl (run y)
   rw[if_neg (by simpa using s)];subst V;refine F _ _ ?_;obtain⟨S,μ,β,W⟩:=h;rw[<-k];exact⟨S,μ,β,W.putD (sv:=.val (.tuple [])) E ⟨#[],rfl,rfl⟩⟩
  simp at m
def yy:Opd->Option Nat
 |.tmp t=>some t
 |_=>none
def yz:Operand->Option Nat
 |.tmp t=>some t
 |_=>none
theorem sU{x:Operand}{y:Opd}(h:ap x=some y):yz x=yy y:=by
 cases x with
 |tmp t=>simp only[ap,E_]at h;subst h;rfl
 |const v=>simp only[ap,Option.map_eq_some_iff]at h;obtain⟨s,_,rfl⟩:=h;rfl
 |global g=>simp only[ap,E_]at h;subst h;rfl
 |func f=>simp only[ap,E_]at h;subst h;rfl
theorem J2:∀ {d:List Operand} {b:List Opd},dS d=some b->∀y∈b,∃x∈d,yz x=yy y
 |[],b,h=>by simp only[dS,E_]at h;subst h;simp
 |x::r,b,h=>by
  simp only[dS]at h;split at h
  .next u j e f=>
   obtain rfl:=O_ h;intro y c;rcases List.mem_cons.1 c with rfl|c
   .exact⟨x,by simp,sU e⟩
   obtain⟨z,g,i⟩:=J2 f y c;exact⟨z,List.mem_cons_of_mem _ g,i⟩
  simp at h
theorem V9{x:Option Operand}{y:Option Opd}(h:bQ x=some y):∀z∈y.toList,∃u∈x.toList,yz u=yy z:=by
 cases x with
 |none=>simp only[bQ,E_]at h;subst h;simp
 |some x=>
  simp only[bQ,Option.map_eq_some_iff]at h;obtain⟨z,c,rfl⟩:=h;intro u b;simp only[Option.toList_some,List.mem_singleton]at b;subst b;exact⟨x,by simp,sU c⟩
theorem JV{b:Nat->Option (Nat×Nat)} : ∀ {e:List (Nat×Operand)} {c:List (Nat×Nat×Opd)},fY b e=some c->∀y∈c.map (·.2.2),∃x∈e.map (·.2),yz x=yy y
 |[],c,h=>by simp only[fY,E_]at h;subst h;simp
 |(i,x)::r,c,h=>by
  simp only[fY]at h;split at h
  .next o s u m _ f g=>
   obtain rfl:=O_ h;intro y d;simp only[List.map_cons,List.mem_cons]at d;rcases d with rfl|d
   .exact⟨x,by simp,sU f⟩
   obtain⟨z,j,k⟩:=JV g y d;exact⟨z,by simp only[List.map_cons];exact List.mem_cons_of_mem _ j,k⟩
  simp at h
theorem iW{x:Operand}{b:Opd}(h:ap x=some b){l:List Operand}(d:x∈l):∀y∈[b],∃z∈l,yz z=yy y:=by
 intro y c;simp only[List.mem_singleton]at c;subst c;exact⟨x,d,sU h⟩
theorem om{x z:Operand}{b c:Opd}(h:ap x=some b)(k:ap z=some c){l:List Operand}(e:x∈l)(f:z∈l):∀y∈[b,c],∃z∈l,yz z=yy y:=by
 intro y d;simp only[List.mem_cons,List.not_mem_nil,or_false]at d;rcases d with rfl|rfl
 .exact⟨x,e,sU h⟩
 exact⟨z,f,sU k⟩
theorem N6{c:Call}{q:VOp}(h:og P c=some q):∀y∈q.opds,∃x∈c.operands.toList,yz x=yy y:=by
 have d:∀x,x∈c.args.toList->x∈c.operands.toList:=by
  intro x g;simp only[Call.operands,Array.toList_append,List.mem_append];exact .inr g
 unfold og at h;split at h
 .split at h
  .split at h
   .simp at h
   simp only[Option.map_eq_some_iff]at h;obtain⟨A,i,rfl⟩:=h;intro y k;obtain⟨x,g,m⟩:=J2 i y k;exact⟨x,d x g,m⟩
  simp at h
 .next f _ s=>
  split at h
  .next u B v z=>
   obtain rfl:=O_ h;intro y i;simp only[VOp.opds,List.mem_cons]at i;rcases i with rfl|i
   .exact⟨f,by simp[Call.operands,s],sU v⟩
   obtain⟨x,g,m⟩:=J2 z y i;exact⟨x,d x g,m⟩
  simp at h
 .split at h
  .next t x _ b=>
   have n:=d x (by rw[b];simp)
   split at h<;>first
    |(simp at h;done)
    |(next g=>obtain rfl:=O_ h;exact iW g n)
  simp at h
 .split at h
  .next x y b=>
   split at h
   .next j p g i=>
    obtain rfl:=O_ h;exact om g i (d x (by rw[b];simp)) (d y (by rw[b];simp))
   simp at h
  simp at h
 .split at h
  .next x y b=>
   split at h
   .next j p g i=>
    obtain rfl:=O_ h;exact om g i (d x (by rw[b];simp)) (d y (by rw[b];simp))
   simp at h
  simp at h
 .split at h
  .next t C x y _ _ b=>
   split at h
   .next e D j p _ _ g i=>
    split at h
    .split at h
     .obtain rfl:=O_ h;exact om g i (d x (by rw[b];simp)) (d y (by rw[b];simp))
     simp at h
    simp at h
   .next e j p _ _ g i=>
    split at h
    .split at h
     .obtain rfl:=O_ h;exact om g i (d x (by rw[b];simp)) (d y (by rw[b];simp))
     simp at h
    simp at h
   simp at h
  simp at h
 .split at h
  .next t x _ b=>
   split at h
   .next e j _ g=>
    simp only[Option.map_eq_some_iff]at h;obtain⟨_,_,rfl⟩:=h;exact iW g (d x (by rw[b];simp))
   simp at h
  simp at h
 simp at h
theorem Qc{C:Op}{K:VOp}(d:aZ P C=some K):∀y∈K.opds,∃x∈C.operands.toList,yz x=yy y:=by
 cases C with
 |move x=>simp only[aZ,Option.map_eq_some_iff]at d;obtain⟨y,j,rfl⟩:=d;exact iW j (by simp[Op.operands])
 |assign x=>simp only[aZ,Option.map_eq_some_iff]at d;obtain⟨y,j,rfl⟩:=d;exact iW j (by simp[Op.operands])
 |pick c x y=>
  simp only[aZ]at d;split at d
  .next c' k L Y Z h3=>
   obtain rfl:=O_ d;intro z q;simp only[VOp.opds,List.mem_cons,List.not_mem_nil,or_false]at q;rcases q with rfl|rfl|rfl
   .exact⟨c,by simp[Op.operands],sU Y⟩
   .exact⟨x,by simp[Op.operands],sU Z⟩
   exact⟨y,by simp[Op.operands],sU h3⟩
  simp at d
 |alloc t=>
  simp only[aZ]at d;split at d
  .obtain rfl:=O_ d;simp[VOp.opds]
  simp only[Option.map_eq_some_iff]at d;obtain⟨z,q,rfl⟩:=d;simp[VOp.opds]
 |box t x=>simp only[aZ,Option.map_eq_some_iff]at d;obtain⟨y,j,rfl⟩:=d;exact iW j (by simp[Op.operands])
 |build t parts=>
  have m:∀ {v:Nat->Option (Nat×Nat)} {p:List (Nat×Nat×Opd)} {z:List SV},fY v parts.toList=some p->∀y∈(VOp.build z p).opds,∃x∈(Op.build t parts).operands.toList,yz x=yy y:=by
   intro v p z E y j;obtain⟨x,h,A⟩:=JV E y j;exact⟨x,by simp only[Op.operands];exact h,A⟩
  simp only[aZ]at d;split at d
  .split at d
   .simp only[Option.map_eq_some_iff]at d;obtain⟨p,E,rfl⟩:=d;exact m E
   simp at d
  .split at d
   .simp only[Option.map_eq_some_iff]at d;obtain⟨p,E,rfl⟩:=d;exact m E
   simp at d
  simp at d
 |buildSlice t n parts=>
  simp only[aZ]at d;split at d
  .split at d
   .split at d
    .simp only[Option.map_eq_some_iff]at d;obtain⟨p,E,rfl⟩:=d;intro y j;obtain⟨x,h,A⟩:=JV E y j;exact⟨x,by simp only[Op.operands];exact h,A⟩
    simp at d
   simp at d
  simp at d
 |load t x=>
  simp only[aZ]at d;split at d
  .next g k hg h=>obtain rfl:=O_ d;exact iW h (by simp[Op.operands])
  simp at d
 |store t x y=>
  simp only[aZ]at d;split at d
  .next n k L hn h j=>obtain rfl:=O_ d;exact om h j (by simp[Op.operands]) (by simp[Op.operands])
  simp at d
 |nilCheck x=>simp only[aZ,Option.map_eq_some_iff]at d;obtain⟨y,j,rfl⟩:=d;exact iW j (by simp[Op.operands])
 |binOp C t x y N=>
  simp only[aZ,DJ]at d;split at d
  .next k L h j=>
   have two:∀z∈[k,L],∃u∈(Op.binOp C t x y N).operands.toList,yz u=yy z:=om h j (by simp[Op.operands]) (by simp[Op.operands]);have one:∀z∈[k],∃u∈(Op.binOp C t x y N).operands.toList,yz u=yy z:=iW h (by simp[Op.operands])
   have I:∀ {J o},CO P J o t y k L=some K->∀z∈K.opds,∃u∈(Op.binOp C t x y N).operands.toList,yz u=yy z:=by
    intro J o d;unfold CO at d;split at d
    .obtain rfl:=O_ d;exact two
    .obtain rfl:=O_ d;exact two
    .obtain rfl:=O_ d;exact two
    .split at d
     .obtain rfl:=O_ d;exact one
     simp at d
    .split at d
     .obtain rfl:=O_ d;exact one
     simp at d
    .split at d
     .obtain rfl:=O_ d;exact one
     simp at d
    .split at d
     .simp at d
     simp only[Option.map_eq_some_iff]at d;obtain⟨ks,_,rfl⟩:=d;exact two
    simp at d
   split at d
   .exact I d
   .exact I d
   obtain rfl:=O_ d;exact two
  simp at d
 |unOp C t x=>simp only[aZ,Option.map_eq_some_iff]at d;obtain⟨y,j,rfl⟩:=d;exact iW j (by simp[Op.operands])
 |convert s t x=>
  simp only[aZ]at d;split at d
  .next h=>obtain rfl:=O_ d;exact iW h (by simp[Op.operands])
  .next h=>
   split at d
   .obtain rfl:=O_ d;exact iW h (by simp[Op.operands])
   simp at d
  simp at d
 |makeInterface t x=>
  simp only[aZ]at d;split at d
  .simp at d
  .simp only[Option.map_eq_some_iff]at d;obtain⟨y,j,rfl⟩:=d;exact iW j (by simp[Op.operands])
  simp at d
 |makeFunc fn first Q=>
  simp only[aZ,Q1]at d;split at d
  .split at d
   .simp only[Option.map_eq_some_iff]at d;obtain⟨ys,j,rfl⟩:=d;intro y O;obtain⟨x,h,A⟩:=J2 j y O;exact⟨x,by simp only[Op.operands,Array.toList_append,List.mem_append];exact .inr h,A⟩
   simp at d
  simp at d
 |makeSlice t l c=>
  simp only[aZ]at d;split at d
  .split at d
   .next h j=>
    split at d
    .obtain rfl:=O_ d;exact om h j (by simp[Op.operands]) (by simp[Op.operands])
    simp at d
   simp at d
  simp at d
 |slice t x R B U=>
  have m:∀ {k IH rh} {l:List Opd},ap x=some k->bQ R=some IH->bQ B=some rh->(∀z∈l,∃u∈U.toList,yz u=yy z)->∀z∈k::(IH.toList++rh.toList++l),∃u∈(Op.slice t x R B U).operands.toList,yz u=yy z:=by
   intro k IH rh l h F H hm z q;simp only[List.mem_cons,List.mem_append]at q;rcases q with rfl|(q|q)|q
   .exact⟨x,by simp[Op.operands],sU h⟩
   .obtain⟨u,D,A⟩:=V9 F z q;exact⟨u,by simp[Op.operands]at D |-;simp[D],A⟩
   .obtain⟨u,D,A⟩:=V9 H z q;exact⟨u,by simp[Op.operands]at D |-;simp[D],A⟩
   obtain⟨u,D,A⟩:=hm z q;exact⟨u,by simp[Op.operands]at D |-;simp[D],A⟩
  simp only[aZ]at d;split at d
  .next k V W X h F H hm=>
   obtain rfl:=O_ d;have:=m (l:=[]) h F H (by simp);simpa[VOp.opds]using this
  .next e k V W m' X h F H hm=>
   simp only[Option.map_eq_some_iff]at d;obtain⟨s,_,rfl⟩:=d;exact m h F H (V9 hm)
  .next n e k V W X h F H hm=>
   simp only[Option.map_eq_some_iff]at d;obtain⟨s,_,rfl⟩:=d;have:=m (l:=[]) h F H (by simp);simpa[VOp.opds]using this
  simp at d
 |fieldAddr t x f=>
  simp only[aZ]at d;split at d
  .split at d
   .next h=>
    split at d
    .split at d
     .simp at d
     obtain rfl:=O_ d;exact iW h (by simp[Op.operands])
    simp at d
   simp at d
  simp at d
 |field t x f=>simp[aZ]at d
 |indexAddr t x i=>
  simp only[aZ]at d;split at d
  .split at d
   .next h B=>obtain rfl:=O_ d;exact om h B (by simp[Op.operands]) (by simp[Op.operands])
   simp at d
  .split at d
   .next h B=>obtain rfl:=O_ d;exact om h B (by simp[Op.operands]) (by simp[Op.operands])
   simp at d
  simp at d
 |index t x i=>
  simp only[aZ]at d;split at d
  .split at d
   .next h B=>obtain rfl:=O_ d;exact om h B (by simp[Op.operands]) (by simp[Op.operands])
   simp at d
  .split at d
   .next h B=>obtain rfl:=O_ d;exact om h B (by simp[Op.operands]) (by simp[Op.operands])
   simp at d
  simp at d
 |extract x i=>simp only[aZ,Option.map_eq_some_iff]at d;obtain⟨y,j,rfl⟩:=d;exact iW j (by simp[Op.operands])
 |call c=>exact N6 d
 |range t x=>
  simp only[aZ]at d;split at d
  .next h=>obtain rfl:=O_ d;exact iW h (by simp[Op.operands])
  simp at d
 |next x b=>
  cases b with
  |false=>simp[aZ]at d
  |true=>simp only[aZ,Option.map_eq_some_iff]at d;obtain⟨y,j,rfl⟩:=d;exact iW j (by simp[Op.operands])
 |_=>simp[aZ]at d
theorem Sq{c:Op}{d:VOp}(b:pz P c=some d):∀y∈d.opds,∃x∈c.operands.toList,yz x=yy y:=by
 rcases wW b with b|rfl
 .exact Qc b
 simp[VOp.opds]
theorem Sr{l:List Opd}{t:Nat} : t∈(l.filterMap fun|.tmp t=>some t|_=>none)↔∃y∈l,yy y=some t:=by
 simp only[List.mem_filterMap];constructor
 .rintro⟨y,b,h⟩;exact⟨y,b,by cases y<;>simp_all [yy]⟩
 rintro⟨y,b,h⟩;exact⟨y,b,by cases y<;>simp_all [yy]⟩
theorem Ss{l:List Operand}{t:Nat} : t∈(l.filterMap fun|.tmp t=>some t|_=>none)↔∃y∈l,yz y=some t:=by
 simp only[List.mem_filterMap];constructor
 .rintro⟨y,b,h⟩;exact⟨y,b,by cases y<;>simp_all [yz]⟩
 rintro⟨y,b,h⟩;exact⟨y,b,by cases y<;>simp_all [yz]⟩
theorem aaV{f:Array Oper}{o:Oper}{v:VOper}(h:jM P f o=some v):∀t,t∈v.slots->t∈o.looksAt f:=by
 obtain⟨_,i,e⟩:=gf h;intro t c;unfold VOper.slots at c;unfold Oper.looksAt;rw[List.mem_append]at c |-;rcases c with c|c
 .left;obtain⟨y,m,n⟩:=Sr.1 c;obtain⟨x,q,k⟩:=Sq i y m;exact Ss.2 ⟨x,q,k.trans n⟩
 right;cases g:o.guard with
 |none=>
  rw[g]at e;have:v.guard=none:=by simpa[j0]using e.symm
  rw[this]at c;simp at c
 |some p=>
  obtain⟨j,b⟩:=p;rw[g]at e;simp only[j0]at e;split at e
  .next d s=>
   have l:v.guard=some (d,b):=by simpa using e.symm
   rw[l]at c;simp only[List.mem_singleton]at c;subst c;simp[s]
  simp at e
end
end Go.Vs
namespace Go.Vs
section
variable {P:Program} {w0:World} {S0:bb} {M:Ctx}
theorem CZ{listed:Array Bool}{i:Nat}(h:listed.getD i true=false):listed.getD i false=false:=by
 rcases Nat.lt_or_ge i listed.size with b|b
 .simp only[Array.getD,dif_pos b]at h |-;exact h
 simp[Array.getD,Nat.not_lt.2 b]at h
theorem aaW{b:Array Bool}{i:Nat}(c:i<b.size)(h:b.getD i false=false):b.getD i true=false:=by
 simp only[Array.getD,dif_pos c]at h |-;exact h
theorem JW(m j:Nat):(Array.replicate m false).getD j false=false:=by
 rcases Nat.lt_or_ge j m with h|h
 .simp[Array.getD,h]
 simp[Array.getD,Nat.not_lt.2 h]
theorem aaX{c:Array Oper}{a b:Oper}{x y:VOper}(g:jM P c a=some x)(i:jM P c b=some y)(h:a.apart c b=true):X2 x y:=by
 obtain⟨l,m,n⟩:=Oper.apart_spec h;obtain⟨j,_,_⟩:=gf g;obtain⟨k,_,_⟩:=gf i;refine⟨fun d e=>⟨fun f=>l d (by rw[<-j];exact e) (aaV i d f),by rw[k];exact m d (by rw[<-j];exact e)⟩,fun d e f=>n d (by rw[<-k];exact e) (aaV g d f)⟩
theorem AI{σ:St}{o:VOper}{e:Eff}(h:gH P σ o e):(e.u.wr≠none->o.op.writes=true)/\(e.u.new≠none->o.op.makes=true)/\(e.u.fz≠[]->o.op.acts=true)/\(e.ids≠[]->o.op.acts=true):=by
 have b:N5 P σ o e->_:=fun⟨f,g,j⟩=>(⟨(JQ f).1,(JQ f).2,aaU f,fun d=>by
  rw[g]at d;unfold fF at d;cases i:o.op.acts with
  |true=>rfl
  |false=>rw[i]at d;exact absurd rfl d⟩:(e.u.wr≠none->o.op.writes=true)/\(e.u.new≠none->o.op.makes=true)/\(e.u.fz≠[]->o.op.acts=true)/\(e.ids≠[]->o.op.acts=true))
 unfold gH at h;split at h
 .exact b h
 obtain⟨c,_,h|h⟩:=h
 .exact b h.2
 rw[h.2];exact⟨fun x=>absurd rfl x,fun x=>absurd rfl x,fun x=>absurd rfl x,fun x=>absurd rfl x⟩
theorem Yv{σ σ':St}{a b:VOper}{x y:Eff}(E:gH P σ a x)(F:gH P σ' b y)(h:a.op.flagged b.op=false):Hm x y/\Hm y x:=by
 obtain⟨u,H,I,J⟩:=AI E;obtain⟨v,K,L,N⟩:=AI F;unfold VOp.flagged at h;simp only[Bool.or_eq_false_iff,Bool.and_eq_false_iff]at h;obtain⟨⟨⟨z,A⟩,O⟩,Q⟩:=h
 have B:x.u.new=none:=by
  cases k:x.u.new with
  |none=>rfl
  |some o=>have:=H (by rw[k];simp);rw[O]at this;simp at this
 have C:y.u.new=none:=by
  cases k:y.u.new with
  |none=>rfl
  |some o=>have:=K (by rw[k];simp);rw[Q]at this;simp at this
 have c:∀j:VOp,j.writes=true->j.acts=true:=by intro j;cases j<;>simp[VOp.writes,VOp.acts]
 have d:∀(p q:Eff) (o1 o2:VOp),p.u.new=none->q.u.new=none->(p.u.wr≠none->o1.writes=true)->(q.u.wr≠none->o2.writes=true)->(p.u.fz≠[]->o1.acts=true)->(q.ids≠[]->o2.acts=true)->
   (o1.writes=false\/o2.acts=false)->(o2.writes=false\/o1.acts=false)->Hm p q:=by
  intro p q o1 o2 R U V D W X Y Z;refine⟨fun id f=>?_,fun id o f g=>?_⟩
  .rw[AH (.inl R)]at f;have l:p.u.wr≠none:=by intro e;rw[e]at f;exact f rfl
   have m:=V l;have i:o2.acts=false:=Y.resolve_left (by rw[m];simp);refine⟨fun g=>?_,?_⟩
   .have:=X (by intro e;rw[e]at g;simp at g);rw[i]at this;simp at this
   rw[AH (.inl U)];cases hq:q.u.wr with
   |none=>rfl
   |some r=>
    have:=c _ (D (by rw[hq];simp));rw[i]at this;simp at this
  have n:=D (by rw[f];simp);have s:o1.acts=false:=Z.resolve_left (by rw[n];simp);have:=W (by intro e;rw[e]at g;simp at g);rw[s]at this;simp at this
 exact⟨d x y a.op b.op B C u v I N z A,d y x b.op a.op C B v u L J A z⟩
theorem wi:∀ {l:List VOper} {σ b:St} {c:List Eff} (i:Nat),m5 P l σ c b->∀p∈kl i l c,∃σ',gH P σ' p.o p.e
 |[],_,_,_,_,_,_,h=>by simp[kl]at h
 |o::r,σ,b,c,i,⟨e,d,f,g,j⟩,p,h=>by
  subst f;simp only[kl,List.mem_cons]at h;rcases h with rfl|h
  .exact⟨σ,g⟩
  exact wi (i+1) j p h
theorem v8{e:Eff}{d:Nat} : e.newId=some d↔mZ e d:=by
 unfold Eff.newId mZ;constructor
 .intro h;split at h
  .next o f b c=>
   obtain rfl:=O_ h;exact⟨⟨o,b⟩,c⟩
  simp at h
 rintro⟨⟨o,b⟩,c⟩;rw[b,c]
def yX(f:Nat->Bool):Nat->Nat
 |0=>0
 |n+1=>yX f n+(if f n then 0 else 1)
theorem JX{f g:Nat->Bool}{i:Nat}(b:f i=false)(c:g i=true)(h:∀j,i≠j->g j=f j):∀n,(i<n->yX g n+1=yX f n)/\(n<=i->yX g n=yX f n)
 |0=>⟨fun h=>by omega,fun _=>rfl⟩
 |n+1=>by
  obtain⟨k,d⟩:=JX b c h n;refine⟨fun l=>?_,fun l=>?_⟩
  .rcases Nat.lt_or_ge i n with e|e
   .simp only[yX,h n (by omega)];have:=k e;omega
   obtain rfl:i=n:=by omega
   simp[yX,d (Nat.le_refl _),b,c]
  simp only[yX,h n (by omega),d (by omega)]
theorem Ge{f:Nat->Bool} : ∀ {n},yX f n=0->∀j,j<n->f j=true
 |0,_,j,c=>by omega
 |n+1,h,j,c=>by
  simp only[yX]at h;rcases Nat.lt_or_ge j n with b|b
  .exact Ge (by omega) j b
  obtain rfl:j=n:=by omega
  cases d:f j with
  |true=>rfl
  |false=>simp[d]at h
def UpE(ops:Array Oper):Prop:=∀j o,ops[j]?=some o->∀e∈o.after.toList,Region.binds .any e=true->e.on<j
theorem OB{ops:Array Oper}{listed:Array Bool}(b:UpE ops)(i:listed.size=ops.size)(h:Region.ready .any ops listed=[]):∀j,j<ops.size->listed.getD j false=true:=by
 intro j
 induction j using Nat.strongRecOn with
 |_ j k=>
  intro d;cases l:listed.getD j false with
  |true=>rfl
  |false=>
   have:j∈Region.ready .any ops listed:=mem_ready.2 ⟨aaW (by omega) l,ops[j],by simp[d],fun e m c=>by
    have:=b j ops[j] (by simp[d]) e (by simpa using m) c
    exact k e.on this (by omega)⟩
   rw[h]at this;cases this
theorem JY{ops:Array Oper}{listed:Array Bool}{Q:Exit->Act->World->Prop}{a:Act}{w:World}(h:∀j,j<ops.size->listed.getD j false=true)(e:Q .normal a w):∀b,wpAny P .any ops Q b listed a w:=by
 have k:Region.ready .any ops listed=[]:=by
  rw[List.eq_nil_iff_forall_not_mem];intro i c;obtain⟨l,m,d,_⟩:=mem_ready.1 c;have:=h i (Array.getElem?_eq_some_iff.1 d).1;rw[CZ l]at this;cases this
 intro b;cases b with
 |zero=>exact⟨k,e⟩
 |succ f=>exact⟨fun _=>e,fun i c=>by rw[k]at c;cases c⟩
structure Ahead(P:Program)(ops:Array Oper)(I:List Item1):Prop where
 comp:∀p∈I,∃o,ops[p.i]?=some o/\jM P ops o=some p.o
 free:∀p∈I,∀x∈I,p.i<x.i->((Region.before ops).getD x.i 0).testBit p.i=false->Free x p
 nr:∀p∈I,∀k∈I,p.i≠k.i->((Region.before ops).getD p.i 0).testBit k.i=false->∀d,mZ k.e d->yT d p.e.u
theorem yY{c:Array Oper}{h:List VOper}{cU makes:List (Nat×Nat)}(d:kk c h.toArray=some (cU,makes)):UpE c:=by
 unfold kk at d;simp only at d;split at d
 .next b=>
  simp only[Bool.and_eq_true,List.all_eq_true,List.mem_range]at b;intro j o g e i k;have:=b.1 j (Array.getElem?_eq_some_iff.1 g).1;rw[g]at this;simp only[List.all_eq_true,Bool.or_eq_true,Bool.not_eq_true',decide_eq_true_eq]at this;rcases this e i with f|f
  .rw[k]at f;cases f
  exact f
 cases d
theorem x8{b:Array Oper}{f:List VOper}(j:cq P b b.toList=some f){i:Nat}{v:VOper}(g:f[i]?=some v):∃o,b[i]?=some o/\jM P b o=some v/\i<b.size:=by
 obtain⟨h,c⟩:=dC j;have l:=(List.getElem?_eq_some_iff.1 g).1;have rh:i<b.toList.length:=by omega
 obtain⟨k,d,e⟩:=c i b.toList[i] (List.getElem?_eq_getElem rh);obtain rfl:k=v:=by rw[g]at d;exact(O_ d).symm
 exact⟨b.toList[i],by rw[<-Array.getElem?_toList];exact List.getElem?_eq_getElem rh,e,by simpa using rh⟩
theorem Hq{c:Array Oper}{e:List VOper}(h:cq P c c.toList=some e){cU makes:List (Nat×Nat)}(f:kk c e.toArray=some (cU,makes)){i j:Nat}{x y:VOper}(g:i<j)(k:e[i]?=some x)(l:e[j]?=some y)(m:((Region.before c).getD j 0).testBit i=false):X2 x y:=by
 obtain⟨o1,n,p,v⟩:=x8 h k;obtain⟨o2,q,s,u⟩:=x8 h l;unfold kk at f;simp only at f;split at f
 .next b=>
  simp only[Bool.and_eq_true,List.all_eq_true,List.mem_range]at b;have d:=b.2 j u i g;rw[m,n,q]at d;simp only[Bool.false_or]at d;exact aaX p s d
 cases f
theorem K0{b:Array Oper}{c:List VOper}(f:cq P b b.toList=some c){cU makes:List (Nat×Nat)}(g:kk b c.toArray=some (cU,makes)){i j:Nat}{x y:VOper}{d:Nat}(e:i<j)(h:c[i]?=some x)(k:c[j]?=some y)(l:x.dst=some d)(n:d∈y.slots):((Region.before b).getD j 0).testBit i=true:=by
 cases p:((Region.before b).getD j 0).testBit i with
 |true=>rfl
 |false=>exact absurd n ((Hq f g e h k p).1 d l).1
theorem Qd{g:Array Oper}{B:List VOper}(u:cq P g g.toList=some B){cU makes:List (Nat×Nat)}(q:kk g B.toArray=some (cU,makes)){I:List Item1}(h:∀p∈I,B[p.i]?=some p.o)(e:∀p∈I,∃σ',gH P σ' p.o p.e){σ:St}{R:List Eff}{sel:Nat×Nat->Bool}(C:yW σ (cU.filter sel) (makes.filter sel) R=true)(v:∀p∈I,R[p.i]?=some p.e)(n:∀p∈I,∀x∈I,sel (p.i,x.i)=true):Ahead P g I/\∀p∈I,∀d,mZ p.e d->ge d σ:=by
 have D:=q;unfold kk at q;simp only at q;split at q
 .simp only[E_,Prod.mk.injEq]at q;obtain⟨i,j⟩:=q;unfold yW at C;simp only[Bool.and_eq_true,List.all_eq_true]at C;obtain⟨⟨E,F⟩,H⟩:=C;refine⟨⟨fun p b=>?_,fun p b x s y c=>?_,fun p b k f J c d l=>?_⟩,fun p b d l=>?_⟩
  .obtain⟨o,U,V,_⟩:=x8 u (h p b);exact⟨o,U,V⟩
  .have z:=Hq u D y (h p b) (h x s) c;obtain⟨o2,W,X,K⟩:=x8 u (h x s);cases A:p.o.op.flagged x.o.op with
   |false=>
    obtain⟨Y,Z⟩:=e p b;obtain⟨L,N⟩:=e x s;obtain⟨i1,i2⟩:=Yv Z N A;exact⟨z,i1,i2⟩
   |true=>
    have hm:(p.i,x.i)∈cU:=by
     rw[<-i];refine List.mem_flatMap.2 ⟨x.i,List.mem_range.2 K,List.mem_filterMap.2 ⟨p.i,List.mem_range.2 y,?_⟩⟩;rw[c];simp only[Bool.false_eq_true,if_false,List.getElem?_toArray,h p b,h x s,A,if_true]
    have:=E _ (List.mem_filter.2 ⟨hm,n p b x s⟩);simp only[v p b,v x s,Bool.and_eq_true]at this;exact⟨z,Hn this.1,Hn this.2⟩
  .obtain⟨o1,a1,a2,a3⟩:=x8 u (h p b);obtain⟨o2,W,X,K⟩:=x8 u (h k f);obtain⟨L,N⟩:=e k f;have O:k.o.op.makes=true:=(AI N).2.1 (by obtain⟨⟨o,Q⟩,_⟩:=l;rw[Q];simp)
   have hm:(p.i,k.i)∈makes:=by
    rw[<-j];refine List.mem_flatMap.2 ⟨k.i,List.mem_range.2 K,?_⟩;simp only[List.getElem?_toArray,h k f,O,if_true];refine List.mem_filterMap.2 ⟨p.i,List.mem_range.2 a3,?_⟩;rw[if_neg J,c];simp
   have:=F _ (List.mem_filter.2 ⟨hm,n p b k f⟩);simp only[v p b,v k f,v8.2 l]at this;exact Qb this
  have:=H p.e (List.mem_of_getElem? (v p b));simp only[v8.2 l,Bool.and_eq_true]at this;exact⟨UU this.1,fun id o Q=>UV this.2 Q⟩
 cases q
structure Lst(P:Program)(ops:Array Oper)(I:List Item1)(U late:Nat->Bool)(n:Nat)(σf σB:St)(listed:Array Bool)(L:List Item1)(σ1:St):Prop where
 sz:listed.size=ops.size
 pw:L.Pairwise fun p q=>p.i<q.i
 sub:∀p∈L,p∈I
 li:∀j,j<ops.size->U j=false->(listed.getD j false=false↔∃p∈L,p.i=j)
 un:∀j,j<ops.size->U j=true->listed.getD j false=false
 cl:∀j o,ops[j]?=some o->listed.getD j false=true->∀e∈o.after.toList,Region.binds .any e=true->listed.getD e.on false=true
 run:Gc P L σ1 σf
 runB:(∀p∈I,late p.i=true->p∈L)->Gc P (L.filter fun p=>!late p.i) σ1 σB
 nr:∀p∈L,∀d,mZ p.e d->ge d σ1
 n:σ1.n=n
theorem Qe{ops:Array Oper}(j':UpE ops){I:List Item1}(hI:Ahead P ops I){U late:Nat->Bool}(hU:∀p∈I,U p.i=false){n:Nat}(hd:∀p∈I,∀d,p.o.dst=some d->d<n){g' σB:St}{Q:Exit->Act->World->Prop}
  (hQ:∀y listed L z a w i,yX (listed.getD · false) ops.size<=y+1->Lst P ops I U late n g' σB listed L z->U i=true->i<ops.size->(∀b,((Region.before ops).getD i 0).testBit b=true->listed.getD b false=true)->(∀o,ops[i]?=some o->∀e∈o.after.toList,Region.binds .any e=true->listed.getD e.on false=true)->gc w0 S0 M z a w->wpOp P ops Q i (wpAny P .any ops Q y (listed.setIfInBounds i true)) a w)
  (hE:(∀j,j<ops.size->U j=false)->∀a w,gc w0 S0 M g' a w->Q .normal a w) :
  ∀(y:Nat) {listed:Array Bool} {L:List Item1} {z:St} {a:Act} {w:World},yX (listed.getD · false) ops.size<=y->Lst P ops I U late n g' σB listed L z->gc w0 S0 M z a w->wpAny P .any ops Q y listed a w:=by
 have D:∀(j k:Nat),j<=k->j<ops.size->((Region.before ops).getD j 0).testBit k=false:=by
  intro j
  induction j using Nat.strongRecOn with
  |_ j ih=>
   intro k F' X;cases hb:((Region.before ops).getD j 0).testBit k with
   |false=>rfl
   |true=>
    obtain⟨e,he,k',h⟩:=Hp (ops:=ops) (j:=j) (o:=ops[j]) (by simp[X]) hb;have R:=j' j ops[j] (by simp[X]) e he k';rcases h with h|h
    .omega
    have:=ih e.on R k (by omega) (by omega);rw[this]at h;cases h
 have q':∀ {listed:Array Bool} {L:List Item1} {z:St} {a:Act} {w:World},Lst P ops I U late n g' σB listed L z->(∀j,j<ops.size->listed.getD j false=true)->gc w0 S0 M z a w->Q .normal a w:=by
  intro listed L z a w l N F
  have hL:L=[]:=by
   cases L with
   |nil=>rfl
   |cons p L=>
    exfalso;obtain⟨o,ho,_⟩:=hI.comp p (l.sub p (by simp));have hi:=(Array.getElem?_eq_some_iff.1 ho).1;have:=(l.li p.i hi (hU p (l.sub p (by simp)))).2 ⟨p,by simp,rfl⟩;rw[N p.i hi]at this;cases this
  subst hL;refine hE (fun j X=>?_) a w (F.congr l.run);cases hu:U j with
  |false=>rfl
  |true=>have:=l.un j X hu;rw[N j X]at this;cases this
 intro y
 induction y with
 |zero=>
  intro listed L z a w hf l F;have N:=Ge (Nat.le_zero.1 hf);exact JY N (q' l N F) 0
 |succ y ih=>
  intro listed L z a w hf l F;refine⟨fun he=>q' l (OB j' l.sz he) F,fun i hi=>?_⟩;obtain⟨h1,oi,b',K⟩:=mem_ready.1 hi;have R:i<ops.size:=(Array.getElem?_eq_some_iff.1 b').1;have hu:=CZ h1
  have O:∀b,((Region.before ops).getD i 0).testBit b=true->listed.getD b false=true:=
   Bg j' l.cl (i+1) i oi (by omega) b' (fun e he k'=>K e (by simpa using he) k')
  have c':∀o,ops[i]?=some o->∀e∈o.after.toList,Region.binds .any e=true->listed.getD e.on false=true:=by
   intro o ho e he hb;obtain rfl:oi=o:=O_ (b'.symm.trans ho);exact K e (by simpa using he) hb
  cases l':U i with
  |true=>exact hQ y listed L z a w i hf l l' R O (fun o ho e he hb=>c' o ho e he hb) F
  |false=>
   obtain⟨x,hx,v'⟩:=(l.li i R l').1 hu;subst v';obtain⟨A,B,x'⟩:=List.append_of_mem hx;subst x';obtain⟨o2,b1,b2⟩:=hI.comp x (l.sub x hx);have H:=List.pairwise_append.1 l.pw;have Y:∀p∈A,p.i<x.i:=fun p c=>H.2.2 p c x (by simp)
   have d':∀q∈B,x.i<q.i:=fun q hq=>(List.pairwise_cons.1 H.2.1).1 q hq
   have C:∀p∈A,p∈I:=fun p c=>l.sub p (List.mem_append_left _ c)
   have r':∀p∈B,p∈I:=fun p c=>l.sub p (List.mem_append_right _ (List.mem_cons_of_mem _ c))
   have V:x∈I:=l.sub x hx
   have h':∀p∈I,p.i<ops.size:=fun p c=>by
    obtain⟨o,ho,_⟩:=hI.comp p c;exact(Array.getElem?_eq_some_iff.1 ho).1
   have m':∀p∈A,((Region.before ops).getD x.i 0).testBit p.i=false:=by
    intro p c;cases hb:((Region.before ops).getD x.i 0).testBit p.i with
    |false=>rfl
    |true=>
     have:=O p.i hb;have y':listed.getD p.i false=false:=(l.li p.i (h' p (C p c)) (hU p (C p c))).2 ⟨p,List.mem_append_left _ c,rfl⟩;rw[y']at this;cases this
   have e':∀ {A' B':List Item1} {σ':St},(∀p∈A',p∈A)->(∀p∈B',p∈B)->(A'.Pairwise fun p q=>p.i<q.i)->Gc P (A'++x::B') z σ'->Gc P (x::(A'++B')) z σ':=by
    intro A' B' σ' s n' z' hr
    refine OA (P:=P) hr (fun p c=>hI.free p (C p (s p c)) x V (Y p (s p c)) (m' p (s p c))) (fun p c=>l.nr p ?_)
     (fun p c d J=>hI.nr x V p (C p (s p c)) (by have:=Y p (s p c);omega) (m' p (s p c)) d J)
     (by
       refine List.Pairwise.imp_of_mem ?_ z';intro p q c hq G' d J
       exact hI.nr p (C p (s p c)) q (C q (s q hq)) (by omega) (D p.i q.i (by omega) (h' p (C p (s p c)))) d J)
     (fun p c q hq d J=>by
       have h1:=Y p (s p c);rcases List.mem_cons.1 hq with rfl|s'
       .exact hI.nr p (C p (s p c)) q V (by omega) (D p.i q.i (by omega) (h' p (C p (s p c)))) d J
       have h2:=d' q (n' q s')
       exact hI.nr p (C p (s p c)) q (r' q (n' q s')) (by omega) (D p.i q.i (by omega) (h' p (C p (s p c)))) d J)
    rcases List.mem_append.1 c with c|c
    .exact List.mem_append_left _ (s p c)
    rcases List.mem_cons.1 c with rfl|c
    .exact hx
    exact List.mem_append_right _ (List.mem_cons_of_mem _ (n' p c))
   obtain⟨o',p'⟩:=e' (fun _ h=>h) (fun _ h=>h) H.1 l.run;refine V8 b1 b2 F (fun d C'=>by rw[l.n];exact hd x V d C') o' (fun a' w' D'=>?_)
   have E:∀p,p∈A++B->p∈A++x::B:=fun p c=>by
    rcases List.mem_append.1 c with c|c
    .exact List.mem_append_left _ c
    exact List.mem_append_right _ (List.mem_cons_of_mem _ c)
   have i':(listed.setIfInBounds x.i true).getD x.i false=true:=by simp[Array.getD,l.sz,R]
   have E':x∉A++B:=fun h=>by
    rcases List.mem_append.1 h with h|h
    .have:=Y x h;omega
    have:=d' x h;omega
   refine ih (listed:=listed.setIfInBounds x.i true) (L:=A++B) ?_ ⟨by simp[l.sz],?_,fun p c=>l.sub p (E p c),?_,?_,?_,p',?_,?_,by rw[x6];exact l.n⟩ D'
   .have:=(JX (f:=(listed.getD · false)) (g:=((listed.setIfInBounds x.i true).getD · false)) hu i' (fun j X=>getD_set_ne false X) ops.size).1 R;omega
   .exact List.pairwise_append.2 ⟨H.1,(List.pairwise_cons.1 H.2.1).2,fun u hu v hv=>H.2.2 u hu v (List.mem_cons_of_mem _ hv)⟩
   .intro j X f';by_cases Z:x.i=j
    .subst Z;rw[i'];simp only[Bool.true_eq_false,false_iff,not_exists,not_and];intro p c e;rcases List.mem_append.1 c with c|c
     .have:=Y p c;omega
     have:=d' p c;omega
    rw[getD_set_ne false Z,l.li j X f'];constructor
    .rintro⟨p,c,e⟩;refine⟨p,?_,e⟩;rcases List.mem_append.1 c with c|c
     .exact List.mem_append_left _ c
     rcases List.mem_cons.1 c with rfl|c
     .exact absurd e Z
     exact List.mem_append_right _ c
    rintro⟨p,c,e⟩;exact⟨p,E p c,e⟩
   .intro j X f';rw[getD_set_ne false (by rintro rfl;rw[l']at f';cases f')];exact l.un j X f'
   .intro j o X t' e he hb;by_cases Z:x.i=j
    .subst Z;obtain rfl:oi=o:=by rw[X]at b';exact(O_ b').symm
     exact getD_set_true (K e (by simpa using he) hb)
    rw[getD_set_ne false Z]at t';exact getD_set_true (l.cl j o X t' e he hb)
   .intro hB;cases u':late x.i with
    |true=>exact absurd (hB x V u') E'
    |false=>
     have hr:=l.runB (fun p c h=>E p (hB p c h));rw[List.filter_append,List.filter_cons,if_pos (by simp[u'])]at hr;rw[List.filter_append];exact(e' (fun p c=>(List.mem_filter.1 c).1) (fun p c=>(List.mem_filter.1 c).1) (H.1.filter _) hr).2
   intro p c d J;refine(l.nr p (E p c) d J).apply ?_;rcases List.mem_append.1 c with W|W
   .exact hI.nr x V p (C p W) (by have:=Y p W;omega) (m' p W) d J
   exact hI.nr x V p (r' p W) (by have:=d' p W;omega) (D x.i p.i (by have:=d' p W;omega) R) d J
theorem Gf{L:List Item1}{σ b:St}(h:Gc P L σ b):Gc P (L.filter fun p=>!false) σ b:=by
 have e:L.filter (fun p=>!false)=L:=List.filter_eq_self.2 (fun _ _=>rfl);rw[e];exact h
theorem Gg{b:Array Oper}{c rest:List VOper}(z:cq P b b.toList=some (c++rest)){σ k:St}{g:List Eff}(q:m5 P c σ g k)(s:∀p∈kl 0 c g,∀d,mZ p.e d->ge d σ){late:Nat->Bool}{σB:St}(u:Gc P ((kl 0 c g).filter fun p=>!late p.i) σ σB):Lst P b (kl 0 c g) (fun i=>decide (c.length<=i)) late σ.n k σB (Array.replicate b.size false) (kl 0 c g) σ:=by
 obtain⟨l,f,v⟩:=j7 0 q;refine⟨by simp,?_,fun _ h=>h,fun j A x=>?_,fun j _ _=>JW _ _,fun j o _ n=>?_,l,fun _=>u,s,rfl⟩
 .have:((kl 0 c g).map (·.i)).Pairwise (· < ·):=by rw[f];exact List.pairwise_lt_range'
  exact List.pairwise_map.1 this
 .rw[JW];simp only[true_iff];have:j∈(kl 0 c g).map (·.i):=by rw[f];simp at x;simp;omega
  obtain⟨p,y,e⟩:=List.mem_map.1 this;exact⟨p,y,e⟩
 rw[JW]at n;cases n
theorem K1{b rest:List VOper}{e:List Eff}(f:e.length=b.length){p:Item1}(h:p∈kl 0 b e):(b++rest)[p.i]?=some p.o/\e[p.i]?=some p.e/\p.i<b.length/\p.o∈b:=by
 obtain⟨_,d,g⟩:=Gd f h;simp only[Nat.sub_zero]at d g;have c:=(List.getElem?_eq_some_iff.1 d).1;exact⟨(List.getElem?_append_left c).trans d,g,c,List.mem_of_getElem? d⟩
theorem J3(f:Nat->Bool):∀n,yX f n<=n
 |0=>Nat.le_refl _
 |n+1=>by have:=J3 f n;simp only[yX];split<;>omega
theorem K2{b:Array Oper}{f:List VOper}(l:cq P b b.toList=some f){cU makes:List (Nat×Nat)}(e:kk b f.toArray=some (cU,makes)){σ:St}{a:Act}{w:World}(h:gc w0 S0 M σ a w)
  (x:∀v∈f,∀d,v.dst=some d->d<σ.n) {m:List Eff} {g:St} (j:m5 P f σ m g) (y:yW σ cU makes m=true)
  {Q:Exit->Act->World->Prop} (z:∀s w',gc w0 S0 M g s w'->Q .normal s w'):wpAny P .any b Q b.size (Array.replicate b.size false) a w:=by
 have n:cq P b b.toList=some (f++[]):=by rw[List.append_nil];exact l
 have q:=(j7 0 j).2.2;have c:=fun p (e:p∈kl 0 f m)=>K1 (rest:=[]) q e
 have E:f.length=b.size:=by have:=(dC l).1;simpa using this
 obtain⟨A,B⟩:=Qd (sel:=fun _=>true) (σ:=σ) l e (fun p h=>by have:=(c p h).1;rwa[List.append_nil]at this) (wi 0 j) (by rw[List.filter_eq_self.2 (fun _ _=>rfl),List.filter_eq_self.2 (fun _ _=>rfl)];exact y) (fun p h=>(c p h).2.1) (fun _ _ _ _=>rfl)
 exact Qe (yY e) A (fun p e=>by simp[(c p e).2.2.1]) (fun p e=>x p.o (c p e).2.2.2)
  (fun u k L C a w i _ _ D F=>by simp at D;omega) (fun _=>z) b.size (J3 _ _) (Gg (late:=fun _=>false) (σB:=g) n j B (Gf (j7 0 j).1)) h
def Bh:List VOper->Bool
 |[]=>true
 |[_]=>true
 |x::r=>(match x.dst with
  |some d=>r.any fun y=>y.slots.contains d
  |none=>false)&&Bh r
theorem D0:∀ {l:List VOper},Bh l=true->∀i x,l[i]?=some x->i+1<l.length->∃j y d,i<j/\l[j]?=some y/\x.dst=some d/\d∈y.slots
 |[],_,i,x,b,_=>by simp at b
 |[_],_,i,x,_,e=>by simp at e
 |u::v::r,h,i,x,b,e=>by
  simp only[Bh,Bool.and_eq_true]at h;cases i with
  |zero=>
   simp only[List.getElem?_cons_zero,E_]at b;subst b;have c:=h.1;split at c
   .next d f=>
    obtain⟨y,g,k⟩:=List.any_eq_true.1 c;obtain⟨j,n⟩:=List.getElem?_of_mem g;exact⟨j+1,y,d,by omega,by simpa using n,f,by simpa using k⟩
   simp at c
  |succ i=>
   obtain⟨j,y,d,c,p,q,s⟩:=D0 h.2 i x (by simpa using b) (by simpa using e);exact⟨j+1,y,d,by omega,by simpa using p,q,s⟩
theorem Su{h:Array Oper}{g rest:List VOper}{c:VOper}(B:cq P h h.toList=some (g++c::rest)){cU makes:List (Nat×Nat)}(C:kk h (g++c::rest).toArray=some (cU,makes))(n:Bh (g++[c])=true){f:Array Bool}
  (u:∀j o,h[j]?=some o->f.getD j false=true->∀e∈o.after.toList,Region.binds .any e=true->f.getD e.on false=true)
  (I:∀b,((Region.before h).getD g.length 0).testBit b=true->f.getD b false=true):∀(k p:Nat),p<g.length->g.length<=p+k->f.getD p false=true:=by
 intro k
 induction k with
 |zero=>intro p D z;omega
 |succ k A=>
  intro p v J;have E:(g++[c])[p]?=some g[p]:=by rw[List.getElem?_append_left v];simp[v]
  obtain⟨q,y,d,D,z,K,L⟩:=D0 n p g[p] E (by simp;omega);have N:=(List.getElem?_eq_some_iff.1 z).1
  have s:∀ {i:Nat} {y:VOper},(g++[c])[i]?=some y->(g++c::rest)[i]?=some y:=fun {i y} F=>by
   rw[show g++c::rest=(g++[c])++rest by simp];exact(List.getElem?_append_left (List.getElem?_eq_some_iff.1 F).1).trans F
  have l:=K0 B C D (s E) (s z) K L;simp at N;rcases Nat.lt_or_ge q g.length with x|x
  .obtain⟨o,H,_,_⟩:=x8 B (s z);exact Bg (yY C) u (q+1) q o (by omega) H (u q o H (A q x (by omega))) p l
  obtain rfl:q=g.length:=by omega
  exact I p l
theorem Sv{b:Array Oper}{c:List VOper}{last:VOper}(y:cq P b b.toList=some (c++[last])){cU makes:List (Nat×Nat)}(f:kk b (c++[last]).toArray=some (cU,makes))(k:Bh (c++[last])=true){σ:St}{a:Act}{w:World}(h:gc w0 S0 M σ a w)
  (E:∀v∈c,∀d,v.dst=some d->d<σ.n) {B:List Eff} {l:St} (z:m5 P c σ B l) (F:yW σ (cU.filter fun p=>decide (p.1<c.length)&&decide (p.2<c.length)) (makes.filter fun p=>decide (p.1<c.length)&&decide (p.2<c.length)) B=true)
  {Q:Exit->Act->World->Prop} (H:∀(N:Act->World->Prop),(∀m w',Q .normal m w'->N m w')->∀m w',gc w0 S0 M l m w'->wpOp P b Q c.length N m w'):wpAny P .any b Q b.size (Array.replicate b.size false) a w:=by
 have C:=(j7 0 z).2.2;have e:=fun p (f:p∈kl 0 c B)=>K1 (rest:=[last]) C f
 have Y:c.length+1=b.size:=by have:=(dC y).1;simpa using this
 obtain⟨I,J⟩:=Qd y f (fun p h=>(e p h).1) (wi 0 z) F (fun p h=>(e p h).2.1) (fun p f x K=>by simp[(e p f).2.2.1,(e x K).2.2.1])
 refine Qe (yY f) I (fun p f=>by simp[(e p f).2.2.1]) (fun p f=>E p.o (e p f).2.2.2)
  (fun n A L O a w i _ q R Z U _ s=>?_) (fun V=>?_) b.size (J3 _ _) (Gg (late:=fun _=>false) (σB:=l) y z J (Gf (j7 0 z).1)) h
 .obtain rfl:i=c.length:=by simp at R;omega
  have g:=Su y f k q.cl U c.length
  have W:L=[]:=by
   cases L with
   |nil=>rfl
   |cons p L=>
    exfalso;have D:=(e p (q.sub p (by simp))).2.2.1;have:=(q.li p.i (by omega) (by simp[D])).2 ⟨p,by simp,rfl⟩;rw[g p.i D (by omega)]at this;cases this
  subst W;refine H _ (fun m w' X=>JY (fun j hj=>?_) X n) a w (s.congr q.run);by_cases u:c.length=j
  .subst u;have:=q.sz;simp[Array.getD];omega
  rw[getD_set_ne false u];exact g j (by omega) (by omega)
 exact absurd (V c.length (by omega)) (by simp)
end
end Go.Vs
namespace Go.Vs
def ren(ρ:List (Nat×Nat))(i:Nat):Nat:=(ac ρ i).getD i
mutual
def SV.ren(ρ:List (Nat×Nat)):SV->SV
 |.undef=>.undef
 |.val v=>.val v
 |.nils=>.nils
 |.full n=>.full n
 |.own id e=>.own (Vs.ren ρ id) e
 |.loc id h=>.loc (Vs.ren ρ id) h
 |.eloc id e i h=>.eloc (Vs.ren ρ id) e i h
 |.view id e p q=>.view (Vs.ren ρ id) e p q
 |.agg m=>.agg (wj ρ m)
 |.clo f g=>.clo f (wj ρ g)
 |.tup g=>.tup (wj ρ g)
 |.ifc t v=>.ifc t (v.ren ρ)
 |.anyB=>.anyB
 |.selfN id t u=>.selfN (Vs.ren ρ id) t u
 |.ownT id v t=>.ownT (Vs.ren ρ id) v t
 |.itr id=>.itr (Vs.ren ρ id)
def wj(ρ:List (Nat×Nat)):List SV->List SV
 |[]=>[]
 |x::r=>x.ren ρ::wj ρ r
end
def Ob.ren(ρ:List (Nat×Nat)):Ob->Ob
 |.box e=>.box (wj ρ e)
 |.arr h s g=>.arr h s g
 |.iter s p=>.iter s p
def aiZ(ρ:List (Nat×Nat)):List (Nat×Ob)->List (Nat×Ob)
 |[]=>[]
 |(i,o)::r=>(Vs.ren ρ i,o.ren ρ)::aiZ ρ r
mutual
def SV.inKeys{d:Type}(l:List (Nat×d)):SV->Bool
 |.own id _=>(ac l id).isSome
 |.loc id _=>(ac l id).isSome
 |.selfN id t e=>(ac l id).isSome
 |.ownT id _ _=>(ac l id).isSome
 |.itr id=>(ac l id).isSome
 |.eloc id _ _ _=>(ac l id).isSome
 |.view id _ _ _=>(ac l id).isSome
 |.agg c=>rQ l c
 |.clo _ b=>rQ l b
 |.tup b=>rQ l b
 |.ifc _ v=>v.inKeys l
 |_=>true
def rQ{d:Type}(l:List (Nat×d)):List SV->Bool
 |[]=>true
 |x::r=>x.inKeys l&&rQ l r
end
def Ob.inKeys{c:Type}(l:List (Nat×c)):Ob->Bool
 |.box b=>rQ l b
 |.arr _ _ _=>true
 |.iter _ _=>true
def J4{b:Type}(l:List (Nat×b)):List (Nat×Ob)->Bool
 |[]=>true
 |(_,o)::r=>o.inKeys l&&J4 l r
section
variable {w:World} {S:bb} {μ μ':Nat->Value} {objs objs':List (Nat×Ob)} {ρ:List (Nat×Nat)}
mutual
theorem au.unren(d:∀i o,ac objs' i=some o->ac objs (Vs.ren ρ i)=some (o.ren ρ))(hm:∀i o,ac objs' i=some o->μ' i=μ (Vs.ren ρ i)):∀(x:SV) (v:Value),au w S μ objs (x.ren ρ) v->au w S μ' objs' x v
 |.undef,_,h=>h
 |.val _,_,h=>h
 |.nils,_,h=>h
 |.full _,_,h=>h
 |.own id l,v,h=>by
  intro m s b c;have:=h m s b (d _ _ c);rw[hm _ _ c];exact this
 |.ownT id l t,v,⟨h,B⟩=>by
  refine⟨?_,B⟩;intro m s b c;have:=h m s b (d _ _ c);rw[hm _ _ c];exact this
 |.loc id y,v,h=>by
  intro e c;have:=h _ (d _ _ c);rw[hm _ _ c];exact this
 |.eloc id l i y,v,h=>by
  intro m s b c;have:=h m s b (d _ _ c);rw[hm _ _ c];exact this
 |.view id l D E,v,h=>by
  intro m s b c;have:=h m s b (d _ _ c);rw[hm _ _ c];exact this
 |.agg e,v,⟨n,g,j⟩=>⟨n,g,al.unren d hm e _ j⟩
 |.clo f k,v,⟨n,g,j⟩=>⟨n,g,bc.unren d hm k _ j⟩
 |.tup k,v,⟨n,g,j⟩=>⟨n,g,bc.unren d hm k _ j⟩
 |.ifc t x,v,⟨u,g,j⟩=>⟨u,g,au.unren d hm x u j⟩
 |.anyB,v,h=>h
 |.selfN id t F,v,h=>by
  intro e c;have:=h _ (d _ _ c);rw[hm _ _ c];exact this
 |.itr id,v,h=>by
  intro s p c;have:=h s p (d _ _ c);rw[hm _ _ c];exact this
theorem bc.unren(d:∀i o,ac objs' i=some o->ac objs (Vs.ren ρ i)=some (o.ren ρ))(hm:∀i o,ac objs' i=some o->μ' i=μ (Vs.ren ρ i)):∀(x:List SV) (v:List Value),bc w S μ objs (wj ρ x) v->bc w S μ' objs' x v
 |[],_,h=>h
 |x::z,v,⟨u,q,g,j,A⟩=>⟨u,q,g,au.unren d hm x u j,bc.unren d hm z q A⟩
theorem al.unren(d:∀i o,ac objs' i=some o->ac objs (Vs.ren ρ i)=some (o.ren ρ))(hm:∀i o,ac objs' i=some o->μ' i=μ (Vs.ren ρ i)):∀(x:List SV) (v:List Value),al w S μ objs (wj ρ x) v->al w S μ' objs' x v
 |[],_,h=>h
 |x::z,v,⟨u,q,g,C,j,A⟩=>⟨u,q,g,C,au.unren d hm x u j,al.unren d hm z q A⟩
end
mutual
theorem au.renamed(k:∀i o,ac objs i=some o->ac objs' (Vs.ren ρ i)=some (o.ren ρ))(hm:∀i o,ac objs i=some o->μ' (Vs.ren ρ i)=μ i):∀(x:SV) (v:Value),x.inKeys objs=true->au w S μ objs x v->au w S μ' objs' (x.ren ρ) v
 |.undef,_,_,h=>h
 |.val _,_,_,h=>h
 |.nils,_,_,h=>h
 |.full _,_,_,h=>h
 |.own id z,v,e,h=>by
  obtain⟨o,g⟩:=Option.isSome_iff_exists.1 e;intro C s q n;have d:=k _ _ g;rw[n]at d;have j:=hm _ _ g;cases o with
  |box c=>simp[Ob.ren]at d
  |iter=>simp[Ob.ren]at d
  |arr a b c=>
   simp only[Ob.ren,E_,Ob.arr.injEq]at d;obtain⟨rfl,rfl,rfl⟩:=d;rw[j];exact h _ _ _ g
 |.ownT id z t,v,e,⟨h,H⟩=>by
  refine⟨?_,H⟩;obtain⟨o,g⟩:=Option.isSome_iff_exists.1 e;intro C s q n;have d:=k _ _ g;rw[n]at d;have j:=hm _ _ g;cases o with
  |box c=>simp[Ob.ren]at d
  |iter=>simp[Ob.ren]at d
  |arr a b c=>
   simp only[Ob.ren,E_,Ob.arr.injEq]at d;obtain⟨rfl,rfl,rfl⟩:=d;rw[j];exact h _ _ _ g
 |.loc id D,v,e,h=>by
  obtain⟨o,g⟩:=Option.isSome_iff_exists.1 e;intro m n;have d:=k _ _ g;rw[n]at d;have j:=hm _ _ g;cases o with
  |box c=>rw[j];exact h _ g
  |arr a b c=>simp[Ob.ren]at d
  |iter=>simp[Ob.ren]at d
 |.eloc id z i D,v,e,h=>by
  obtain⟨o,g⟩:=Option.isSome_iff_exists.1 e;intro C s q n;have d:=k _ _ g;rw[n]at d;have j:=hm _ _ g;cases o with
  |box c=>simp[Ob.ren]at d
  |iter=>simp[Ob.ren]at d
  |arr a b c=>
   simp only[Ob.ren,E_,Ob.arr.injEq]at d;obtain⟨rfl,rfl,rfl⟩:=d;rw[j];exact h _ _ _ g
 |.view id z J K,v,e,h=>by
  obtain⟨o,g⟩:=Option.isSome_iff_exists.1 e;intro C s q n;have d:=k _ _ g;rw[n]at d;have j:=hm _ _ g;cases o with
  |box c=>simp[Ob.ren]at d
  |iter=>simp[Ob.ren]at d
  |arr a b c=>
   simp only[Ob.ren,E_,Ob.arr.injEq]at d;obtain⟨rfl,rfl,rfl⟩:=d;rw[j];exact h _ _ _ g
 |.agg m,v,e,⟨A,d,j⟩=>⟨A,d,al.renamed k hm m _ e j⟩
 |.clo f y,v,e,⟨A,d,j⟩=>⟨A,d,bc.renamed k hm y _ e j⟩
 |.tup y,v,e,⟨A,d,j⟩=>⟨A,d,bc.renamed k hm y _ e j⟩
 |.ifc t x,v,e,⟨u,d,j⟩=>⟨u,d,au.renamed k hm x u e j⟩
 |.anyB,v,_,h=>h
 |.selfN id t L,v,e,h=>by
  obtain⟨o,g⟩:=Option.isSome_iff_exists.1 e;intro m n;have d:=k _ _ g;rw[n]at d;have j:=hm _ _ g;cases o with
  |box c=>rw[j];exact h _ g
  |arr a b c=>simp[Ob.ren]at d
  |iter=>simp[Ob.ren]at d
 |.itr id,v,e,h=>by
  obtain⟨o,g⟩:=Option.isSome_iff_exists.1 e;intro s p n;have d:=k _ _ g;rw[n]at d;have j:=hm _ _ g;cases o with
  |box c=>simp[Ob.ren]at d
  |arr a b c=>simp[Ob.ren]at d
  |iter a b=>rw[j];exact h _ _ g
theorem bc.renamed(k:∀i o,ac objs i=some o->ac objs' (Vs.ren ρ i)=some (o.ren ρ))(hm:∀i o,ac objs i=some o->μ' (Vs.ren ρ i)=μ i):∀(x:List SV) (v:List Value),rQ objs x=true->bc w S μ objs x v->bc w S μ' objs' (wj ρ x) v
 |[],_,_,h=>h
 |x::E,v,e,⟨u,B,d,j,F⟩=>by
  simp only[rQ,Bool.and_eq_true]at e;exact⟨u,B,d,au.renamed k hm x u e.1 j,bc.renamed k hm E B e.2 F⟩
theorem al.renamed(k:∀i o,ac objs i=some o->ac objs' (Vs.ren ρ i)=some (o.ren ρ))(hm:∀i o,ac objs i=some o->μ' (Vs.ren ρ i)=μ i):∀(x:List SV) (v:List Value),rQ objs x=true->al w S μ objs x v->al w S μ' objs' (wj ρ x) v
 |[],_,_,h=>h
 |x::E,v,e,⟨u,B,d,I,j,F⟩=>by
  simp only[rQ,Bool.and_eq_true]at e;exact⟨u,B,d,I,au.renamed k hm x u e.1 j,al.renamed k hm E B e.2 F⟩
end
mutual
def SV.clear(D:Nat->Bool):SV->Bool
 |.own id _=>!D id
 |.loc id _=>!D id
 |.selfN id t f=>!D id
 |.ownT id _ _=>!D id
 |.itr id=>!D id
 |.eloc id _ _ _=>!D id
 |.view id _ _ _=>!D id
 |.agg e=>sV D e
 |.clo _ b=>sV D b
 |.tup b=>sV D b
 |.ifc _ v=>v.clear D
 |_=>true
def sV(D:Nat->Bool):List SV->Bool
 |[]=>true
 |x::r=>x.clear D&&sV D r
end
def Qf(D:Nat->Bool):List (Nat×SV)->Bool
 |[]=>true
 |(_,x)::r=>x.clear D&&Qf D r
def Ob.clear(D:Nat->Bool):Ob->Bool
 |.box b=>sV D b
 |.arr _ _ _=>true
 |.iter _ _=>true
def Qg(D:Nat->Bool):List (Nat×Ob)->Bool
 |[]=>true
 |(_,x)::r=>x.clear D&&Qg D r
theorem K3{D:Nat->Bool} : ∀ {l:List (Nat×SV)},Qf D l=true->∀k,(aE l k).clear D=true
 |[],_,_=>rfl
 |(j,x)::r,h,k=>by
  simp only[Qf,Bool.and_eq_true]at h;simp only[aE,ac];cases j==k
  .exact K3 h.2 k
  exact h.1
theorem K4{D:Nat->Bool} : ∀ {l:List (Nat×Ob)},Qg D l=true->∀k o,ac l k=some o->o.clear D=true
 |[],_,_,_,h=>by simp[ac]at h
 |(j,x)::r,h,k,o,b=>by
  simp only[Qg,Bool.and_eq_true]at h;simp only[ac]at b;cases c:j==k
  .rw[c]at b;exact K4 h.2 k o b
  rw[c]at b;simp at b;subst b;exact h.1
mutual
theorem au.step{D:Nat->Bool}
  (I:∀id k,D id=false->ac objs' id=some (.box k)->∃q,ac objs id=some (.box q)/\μ' id=μ id)
  (E:∀id C s g,D id=false->ac objs' id=some (.arr C s g)->∃z j,ac objs id=some (.arr z s j)/\z<=C/\(z=C->j.length=g.length/\μ' id=μ id))
  (J:∀id s p,D id=false->ac objs' id=some (.iter s p)->∃U V,ac objs id=some (.iter U V)/\μ' id=μ id) :
  ∀(x:SV) (v:Value),x.clear D=true->au w S μ objs x v->au w S μ' objs' x v
 |.undef,v,_,h=>h
 |.val x,v,_,h=>h
 |.nils,v,_,h=>h
 |.full g,v,_,h=>h
 |.own id N,v,m,h=>by
  have m:D id=false:=by simpa[SV.clear]using m
  intro C s g H;obtain⟨z,j,A,B,O⟩:=E id C s g m H;obtain⟨K,Q⟩:=h _ _ _ A;exact⟨Nat.le_trans K B,fun e=>by rw[(O (by omega)).2];exact Q (by omega)⟩
 |.ownT id N t,v,m,⟨h,h'⟩=>by
  refine⟨?_,h'⟩;have m:D id=false:=by simpa[SV.clear]using m
  intro C s g H;obtain⟨z,j,A,B,O⟩:=E id C s g m H;obtain⟨K,Q⟩:=h _ _ _ A;exact⟨Nat.le_trans K B,fun e=>by rw[(O (by omega)).2];exact Q (by omega)⟩
 |.loc id Z,v,m,h=>by
  have m:D id=false:=by simpa[SV.clear]using m
  intro k H;obtain⟨q,A,B⟩:=I id k m H;rw[B];exact h _ A
 |.eloc id N i Z,v,m,h=>by
  have m:D id=false:=by simpa[SV.clear]using m
  intro C s g H;obtain⟨z,j,A,B,O⟩:=E id C s g m H;obtain⟨K,Q⟩:=h _ _ _ A;refine⟨Nat.le_trans K B,fun e=>?_⟩;obtain⟨b,R,h6,h7⟩:=Q (by omega);obtain⟨Y,h9⟩:=O (by omega);exact⟨b,R,by rw[h9,h6,Y],h7⟩
 |.view id N lo J,v,m,h=>by
  have m:D id=false:=by simpa[SV.clear]using m
  intro C s g H;obtain⟨z,j,A,B,O⟩:=E id C s g m H;obtain⟨K,Q⟩:=h _ _ _ A;refine⟨Nat.le_trans K B,fun e=>?_⟩;obtain⟨g1,g2,x,R,y,g3,g4⟩:=Q (by omega);obtain⟨Y,h9⟩:=O (by omega);exact⟨g1,by omega,x,R,y,by rw[h9,g3,Y],by rw[<-Y];exact g4⟩
 |.agg k,v,m,⟨W,A,B⟩=>⟨W,A,al.step I E J k _ m B⟩
 |.clo f L,v,m,⟨W,A,B⟩=>⟨W,A,bc.step I E J L _ m B⟩
 |.tup L,v,m,⟨W,A,B⟩=>⟨W,A,bc.step I E J L _ m B⟩
 |.ifc t x,v,m,⟨u,A,B⟩=>⟨u,A,au.step I E J x u m B⟩
 |.anyB,v,_,h=>h
 |.selfN id t nn,v,m,h=>by
  have m:D id=false:=by simpa[SV.clear]using m
  intro k H;obtain⟨q,A,B⟩:=I id k m H;rw[B];exact h _ A
 |.itr id,v,m,h=>by
  have m:D id=false:=by simpa[SV.clear]using m
  intro s p H;obtain⟨U,V,A,B⟩:=J id s p m H;rw[B];exact h _ _ A
theorem bc.step{D:Nat->Bool}
  (I:∀id k,D id=false->ac objs' id=some (.box k)->∃q,ac objs id=some (.box q)/\μ' id=μ id)
  (E:∀id C s g,D id=false->ac objs' id=some (.arr C s g)->∃z j,ac objs id=some (.arr z s j)/\z<=C/\(z=C->j.length=g.length/\μ' id=μ id))
  (J:∀id s p,D id=false->ac objs' id=some (.iter s p)->∃U V,ac objs id=some (.iter U V)/\μ' id=μ id) :
  ∀(x:List SV) (v:List Value),sV D x=true->bc w S μ objs x v->bc w S μ' objs' x v
 |[],v,_,h=>h
 |x::xs,v,m,⟨u,X,A,B,K⟩=>by
  simp only[sV,Bool.and_eq_true]at m;exact⟨u,X,A,au.step I E J x u m.1 B,bc.step I E J xs X m.2 K⟩
theorem al.step{D:Nat->Bool}
  (I:∀id k,D id=false->ac objs' id=some (.box k)->∃q,ac objs id=some (.box q)/\μ' id=μ id)
  (E:∀id C s g,D id=false->ac objs' id=some (.arr C s g)->∃z j,ac objs id=some (.arr z s j)/\z<=C/\(z=C->j.length=g.length/\μ' id=μ id))
  (J:∀id s p,D id=false->ac objs' id=some (.iter s p)->∃U V,ac objs id=some (.iter U V)/\μ' id=μ id) :
  ∀(x:List SV) (v:List Value),sV D x=true->al w S μ objs x v->al w S μ' objs' x v
 |[],v,_,h=>h
 |x::xs,v,m,⟨u,X,A,h0,B,K⟩=>by
  simp only[sV,Bool.and_eq_true]at m;exact⟨u,X,A,h0,au.step I E J x u m.1 B,al.step I E J xs X m.2 K⟩
end
end
mutual
def SV.flat:SV->Bool
 |.val v=>v.flat
 |.full _=>false
 |.selfN _ _ _=>false
 |.ownT _ _ _=>false
 |.agg c=>SV.flatL c
 |.clo _ b=>SV.flatL b
 |.tup b=>SV.flatL b
 |.ifc _ v=>v.flat
 |_=>true
def SV.flatL:List SV->Bool
 |[]=>true
 |x::r=>x.flat&&SV.flatL r
end
def Ob.flat:Ob->Bool
 |.box b=>SV.flatL b
 |.arr _ _ c=>sQ c
 |.iter _ _=>true
def Sw:List (Nat×Ob)->Bool
 |[]=>true
 |(_,o)::r=>o.flat&&Sw r
theorem OC:∀ {l:List (Nat×Ob)},Sw l=true->∀k o,ac l k=some o->o.flat=true
 |[],_,_,_,h=>by simp[ac]at h
 |(j,x)::r,h,k,o,b=>by
  simp only[Sw,Bool.and_eq_true]at h;simp only[ac]at b;cases c:j==k
  .rw[c]at b;exact OC h.2 k o b
  rw[c]at b;simp at b;subst b;exact h.1
mutual
theorem SV.flat_rel{w i:World}{S j:bb}{μ:Nat->Value}{objs:List (Nat×Ob)} : ∀(x:SV) (v:Value),x.flat=true->au w S μ objs x v->au i j μ objs x v
 |.undef,_,_,h=>h
 |.val x,v,b,h=>IV.flat_rep x v b h
 |.nils,_,_,h=>h
 |.full q,_,b,_=>by simp[SV.flat]at b
 |.own _ _,_,_,h=>h
 |.loc _ _,_,_,h=>h
 |.eloc _ _ _ _,_,_,h=>h
 |.view _ _ _ _,_,_,h=>h
 |.agg g,v,b,⟨k,c,d⟩=>⟨k,c,SV.flat_ones g _ b d⟩
 |.clo f e,v,b,⟨k,c,d⟩=>⟨k,c,SV.flat_list e _ b d⟩
 |.tup e,v,b,⟨k,c,d⟩=>⟨k,c,SV.flat_list e _ b d⟩
 |.ifc t x,v,b,⟨u,c,d⟩=>⟨u,c,SV.flat_rel x u b d⟩
 |.anyB,v,_,h=>h
 |.selfN _ _ _,v,b,h=>by simp[SV.flat]at b
 |.ownT _ _ _,v,b,h=>by simp[SV.flat]at b
 |.itr _,v,_,h=>h
theorem SV.flat_list{w i:World}{S j:bb}{μ:Nat->Value}{objs:List (Nat×Ob)} : ∀(x:List SV) (v:List Value),SV.flatL x=true->bc w S μ objs x v->bc i j μ objs x v
 |[],_,_,h=>h
 |x::n,v,b,⟨u,m,c,d,p⟩=>by
  simp only[SV.flatL,Bool.and_eq_true]at b;exact⟨u,m,c,SV.flat_rel x u b.1 d,SV.flat_list n m b.2 p⟩
theorem SV.flat_ones{w i:World}{S j:bb}{μ:Nat->Value}{objs:List (Nat×Ob)} : ∀(x:List SV) (v:List Value),SV.flatL x=true->al w S μ objs x v->al i j μ objs x v
 |[],_,_,h=>h
 |x::n,v,b,⟨u,m,c,s,d,p⟩=>by
  simp only[SV.flatL,Bool.and_eq_true]at b;exact⟨u,m,c,s,SV.flat_rel x u b.1 d,SV.flat_ones n m b.2 p⟩
end
theorem bI.flat{m:World}{S p:bb}{μ:Nat->Value}{objs:List (Nat×Ob)}{d:Option Nat}{n:Value} : ∀ {o:Ob},o.flat=true->bI m S μ objs d n o->bI m p μ objs d n o
 |.box c,g,⟨b,i,e,j,q,s,u,x,y⟩=>⟨b,i,e,j,q,s,u,x,SV.flat_ones c _ g y⟩
 |.arr _ _ f,_,.inl h=>.inl h
 |.arr _ _ f,g,.inr ⟨b,k,i,e,j,z,A,B,C,D,E,k7,k8⟩=>.inr ⟨b,k,i,e,j,z,A,B,C,D,E,k7,x4 _ _ (pF g) k8⟩
 |.iter _ _,_,h=>h
def N7(i:Nat):Ob->SV
 |.box _=>.loc i 0
 |.arr b _ _=>.own i b
 |.iter _ _=>.itr i
structure MC where
 args:List SV
 objs:List (Nat×Ob)
 res:SV
 objs':List (Nat×Ob)
 ro':List Nat
 ro:List Nat:=[]
def lB(gl:List (Nat×List IV))(P:Program)(k:FuncId)(c:MC):Prop:=
 wg P k/\∀(w:World) (S:bb) (μ:Nat->Value) (β:Nat->Option Nat) (vs:List Value),(∀b o,S b o->b<w.heap.size)->(∀p,p∈gl->jt w S p)->
  bc w S μ c.objs c.args vs->(∀id o,ac c.objs id=some o->bI w S μ c.objs (β id) (μ id) o)->
  (∀id h o y b,ac c.objs id=some o->ac c.objs h=some y->β id=some b->β h=some b->id=h)->
  (∀id o b off,ac c.objs id=some o->β id=some b->S b off->id∈c.ro/\∀m s g,o=.arr m s g->off<g.length*s)->
  kG P k vs.toArray w fun e q=>∃(v:Value) (n:bb) (μ':Nat->Value) (l:Nat->Option Nat),e=.returned v/\au q n μ' c.objs' c.res v/\
   (∀id o,ac c.objs' id=some o->bI q n μ' c.objs' (l id) (μ' id) o)/\
   (∀id h o y b,ac c.objs' id=some o->ac c.objs' h=some y->l id=some b->l h=some b->id=h)/\
   (∀id o b,ac c.objs' id=some o->l id=some b->w.heap.size<=b\/∃i x,ac c.objs i=some x/\β i=some b)/\
   (∀id o b off,ac c.objs' id=some o->l id=some b->n b off->id∈c.ro'/\∀m s g,o=.arr m s g->off<g.length*s)/\
   (∀b o,n b o->b<q.heap.size)/\(∀b o,S b o->n b o)/\(∀b o,n b o->S b o\/w.heap.size<=b\/∃i x,ac c.objs i=some x/\β i=some b)/\
   Kept (fun b=>∃i x,ac c.objs i=some x/\β i=some b) w q/\
   (∀id o,ac c.objs id=some o->au q n μ' c.objs' (N7 id o) (μ id))/\
   (∀b o,S b o->q.cell? ⟨b,o,none⟩=w.cell? ⟨b,o,none⟩)
end Go.Vs
namespace Go.Vs
def iT(objs:List (Nat×Ob))(ρ:List (Nat×Nat)):List SV->List SV->List Nat->Prop
 |[],[],b=>b=[]
 |x::c,.val iv::e,b=>∃f g,DK objs x=some (iv,f)/\iT objs ρ c e g/\b=f++g
 |x::c,y::e,b=>x=y.ren ρ/\iT objs ρ c e b
 |_,_,_=>False
def gI(objs:List (Nat×Ob))(ρ:List (Nat×Nat)):List (Nat×Ob)->Prop
 |[]=>True
 |(i,o)::r=>ac objs (ren ρ i)=some (o.ren ρ)/\gI objs ρ r
theorem wk{objs:List (Nat×Ob)}{ρ:List (Nat×Nat)} : ∀ {l:List (Nat×Ob)},gI objs ρ l->∀i o,ac l i=some o->ac objs (ren ρ i)=some (o.ren ρ)
 |[],_,_,_,h=>by simp[ac]at h
 |(j,x)::r,hm,i,o,h=>by
  simp only[ac]at h;cases b:j==i
  .rw[b]at h;exact wk hm.2 i o h
  rw[b]at h;rw[beq_iff_eq]at b;simp only[cond_true,E_]at h;subst h;subst b;exact hm.1
def ic:Ob->Option Ob->Bool
 |.box _,some (.box _)=>true
 |.arr _ s _,some (.arr _ b _)=>s==b
 |_,_=>false
def n7(ρ:List (Nat×Nat))(objs:List (Nat×Ob)):List (Nat×Ob)->Nat->Bool
 |[],_=>false
 |(i,_)::r,id=>((ac objs i).isNone&&ren ρ i==id)||n7 ρ objs r id
def aeq(σ:St)(ρ:List (Nat×Nat))(b:List Nat)(objs':List (Nat×Ob)):List (Nat×Ob)->Bool
 |[]=>true
 |(i,o)::r=>(!σ.ro.contains (ren ρ i)||b.contains i)&&ic o (ac objs' i)&&aeq σ ρ b objs' r
def X3(ρ:List (Nat×Nat))(id:Nat):List (Nat×Ob)->Bool
 |[]=>true
 |(j,_)::r=>!(ren ρ j==id)&&X3 ρ id r
def Yw(ρ:List (Nat×Nat)):List (Nat×Ob)->Bool
 |[]=>true
 |(i,_)::r=>X3 ρ (ren ρ i) r&&Yw ρ r
def aer(σ:St)(ρ:List (Nat×Nat))(objs:List (Nat×Ob)):List (Nat×Ob)->Bool
 |[]=>true
 |(i,_)::r=>((ac objs i).isSome||((ac σ.objs (ren ρ i)).isNone&&decide (ren ρ i<σ.n)))&&aer σ ρ objs r
def mFz(ρ:List (Nat×Nat))(b:List Nat):List (Nat×Ob)->Bool
 |[]=>true
 |(i,_)::r=>!b.contains (ren ρ i)&&mFz ρ b r
theorem X4{ρ:List (Nat×Nat)}{d:List Nat} : ∀ {l:List (Nat×Ob)},mFz ρ d l=true->∀i o,ac l i=some o->ren ρ i∉d
 |[],_,_,_,h=>by simp[ac]at h
 |(j,x)::r,b,i,o,h=>by
  simp only[mFz,Bool.and_eq_true,Bool.not_eq_true']at b;simp only[ac]at h;cases c:j==i
  .rw[c]at h;exact X4 b.2 i o h
  rw[beq_iff_eq]at c;subst c;simpa using b.1
def mOk(σ:St)(ρ:List (Nat×Nat))(c:MC):Bool:=
 aeq σ ρ c.ro c.objs' c.objs&&Yw ρ c.objs'&&aer σ ρ c.objs c.objs'&&Qf (n7 ρ c.objs c.objs') σ.env&&Qg (n7 ρ c.objs c.objs') σ.objs&&c.res.inKeys c.objs'&&J4 c.objs' c.objs'
def N8(objs:List (Nat×Ob))(ρ:List (Nat×Nat)):List (Nat×Ob)->List (Nat×Ob)
 |[]=>objs
 |(i,o)::r=>put (N8 objs ρ r) (ren ρ i) (o.ren ρ)
def OD(c:MC):Bool:=c.res.flat&&Sw c.objs'
def St.mapply(σ:St)(b:Option Nat)(ρ:List (Nat×Nat))(c:MC)(d:List Nat):St:=
 ⟨putD σ.env b (c.res.ren ρ),N8 σ.objs ρ c.objs',c.ro'.map (ren ρ)++((bif OD c then []else d)++σ.ro),σ.n,σ.gl⟩
def back(ρ:List (Nat×Nat)):List (Nat×Ob)->Nat->Option Nat
 |[],_=>none
 |(i,_)::r,id=>bif ren ρ i==id then some i else back ρ r id
theorem j8{ρ:List (Nat×Nat)} : ∀ {l:List (Nat×Ob)} {id i:Nat},back ρ l id=some i->ren ρ i=id/\∃o,ac l i=some o
 |[],_,_,h=>by simp[back]at h
 |(j,x)::r,id,i,h=>by
  simp only[back]at h;cases b:ren ρ j==id
  .rw[b]at h;obtain⟨c,o,d⟩:=j8 h;refine⟨c,?_⟩;simp only[ac];cases j==i
   .exact⟨o,d⟩
   exact⟨x,rfl⟩
  rw[b]at h;rw[beq_iff_eq]at b;simp only[cond_true,E_]at h;subst h;exact⟨b,x,by simp[ac]⟩
theorem K5{ρ:List (Nat×Nat)}{id:Nat} : ∀ {l:List (Nat×Ob)},X3 ρ id l=true->∀i o,ac l i=some o->ren ρ i≠id
 |[],_,_,_,h=>by simp[ac]at h
 |(j,x)::r,b,i,o,h=>by
  simp only[X3,Bool.and_eq_true,Bool.not_eq_true',beq_eq_false_iff_ne]at b;simp only[ac]at h;cases c:j==i
  .rw[c]at h;exact K5 b.2 i o h
  rw[beq_iff_eq]at c;subst c;exact b.1
theorem yZ{ρ:List (Nat×Nat)} : ∀ {l:List (Nat×Ob)},Yw ρ l=true->∀i o,ac l i=some o->back ρ l (ren ρ i)=some i
 |[],_,_,_,h=>by simp[ac]at h
 |(j,x)::r,b,i,o,h=>by
  simp only[Yw,Bool.and_eq_true]at b;simp only[ac]at h;simp only[back];cases c:j==i
  .rw[c]at h;have:ren ρ i≠ren ρ j:=K5 b.1 i o h;have:(ren ρ j==ren ρ i)=false:=by simpa using this.symm
   rw[this];exact yZ b.2 i o h
  rw[beq_iff_eq]at c;subst c;simp
theorem wm{ρ:List (Nat×Nat)} : ∀ {l:List (Nat×Ob)} {id:Nat},back ρ l id=none->∀i o,ac l i=some o->ren ρ i≠id
 |[],_,_,_,_,h=>by simp[ac]at h
 |(j,x)::r,id,c,i,o,h=>by
  simp only[back]at c;cases d:ren ρ j==id
  .rw[d]at c;simp only[ac]at h;cases b:j==i
   .rw[b]at h;exact wm c i o h
   rw[beq_iff_eq]at b;subst b;simpa using d
  rw[d]at c;simp at c
theorem OE{objs:List (Nat×Ob)}{ρ:List (Nat×Nat)} : ∀ {l:List (Nat×Ob)},Yw ρ l=true->∀id,ac (N8 objs ρ l) id=match back ρ l id with
  |some i=>(ac l i).map (Ob.ren ρ)
  |none=>ac objs id
 |[],_,_=>rfl
 |(j,x)::r,d,id=>by
  simp only[Yw,Bool.and_eq_true]at d;simp only[N8,back];rw[jL];by_cases c:id=ren ρ j
  .subst c;simp[ac]
  rw[if_neg c,OE d.2];have:(ren ρ j==id)=false:=by simpa using (fun e=>c e.symm)
  rw[this,cond_false];cases f:back ρ r id with
  |none=>rfl
  |some i=>
   simp only[ac];obtain⟨g,o,h⟩:=j8 f;cases b:j==i
   .rfl
   exfalso;rw[beq_iff_eq]at b;subst b;exact c g.symm
theorem rR{ρ:List (Nat×Nat)}{objs:List (Nat×Ob)} : ∀ {l:List (Nat×Ob)} {i:Nat} {o:Ob},ac l i=some o->ac objs i=none->n7 ρ objs l (ren ρ i)=true
 |[],_,_,h,_=>by simp[ac]at h
 |(j,x)::r,i,o,h,c=>by
  simp only[ac]at h;simp only[n7,Bool.or_eq_true,Bool.and_eq_true];cases b:j==i
  .rw[b]at h;exact .inr (rR h c)
  rw[beq_iff_eq]at b;subst b;left;simp[c]
theorem K6{σ:St}{ρ:List (Nat×Nat)}{objs:List (Nat×Ob)} : ∀ {l:List (Nat×Ob)} {id:Nat},aer σ ρ objs l=true->n7 ρ objs l id=true->id<σ.n
 |[],_,_,h=>by simp[n7]at h
 |(j,x)::r,id,b,h=>by
  simp only[aer,Bool.and_eq_true,Bool.or_eq_true,decide_eq_true_eq]at b;simp only[n7,Bool.or_eq_true,Bool.and_eq_true,beq_iff_eq]at h;rcases h with⟨d,rfl⟩|h
  .rcases b.1 with c|c
   .cases e:ac objs j<;>simp[e]at d c
   exact c.2
  exact K6 b.2 h
theorem kI{σ:St}{ρ:List (Nat×Nat)}{ro:List Nat}{objs':List (Nat×Ob)} : ∀ {l:List (Nat×Ob)},aeq σ ρ ro objs' l=true->∀i o,ac l i=some o->(ren ρ i∈σ.ro->i∈ro)/\ic o (ac objs' i)=true
 |[],_,_,_,h=>by simp[ac]at h
 |(j,x)::r,b,i,o,h=>by
  simp only[aeq,Bool.and_eq_true]at b;simp only[ac]at h;cases c:j==i
  .rw[c]at h;exact kI b.2 i o h
  rw[c]at h;rw[beq_iff_eq]at c;subst c;simp only[cond_true,E_]at h;subst h;refine⟨fun hm=>?_,b.1.2⟩;have d:=b.1.1;rw[show σ.ro.contains (ren ρ j)=true by simpa using hm]at d;simpa using d
theorem Hr{c:List (Nat×Ob)} : ∀ {l:List (Nat×Ob)},J4 c l=true->∀i o,ac l i=some o->o.inKeys c=true
 |[],_,_,_,h=>by simp[ac]at h
 |(j,x)::r,b,i,o,h=>by
  simp only[J4,Bool.and_eq_true]at b;simp only[ac]at h;cases d:j==i
  .rw[d]at h;exact Hr b.2 i o h
  rw[d]at h;simp only[cond_true,E_]at h;subst h;exact b.1
mutual
theorem x9{D:Nat->Bool}{n:Nat}(c:∀i,D i=true->i<n):∀x:SV,(∀d,d<n->x.noRef d=true)->x.clear D=true
 |.undef,_=>rfl
 |.val _,_=>rfl
 |.nils,_=>rfl
 |.full _,_=>rfl
 |.own id _,h=>by
  simp only[SV.clear,Bool.not_eq_true'];cases b:D id with
  |false=>rfl
  |true=>have:=h id (c id b);simp[SV.noRef]at this
 |.loc id _,h=>by
  simp only[SV.clear,Bool.not_eq_true'];cases b:D id with
  |false=>rfl
  |true=>have:=h id (c id b);simp[SV.noRef]at this
 |.eloc id _ _ _,h=>by
  simp only[SV.clear,Bool.not_eq_true'];cases b:D id with
  |false=>rfl
  |true=>have:=h id (c id b);simp[SV.noRef]at this
 |.view id _ _ _,h=>by
  simp only[SV.clear,Bool.not_eq_true'];cases b:D id with
  |false=>rfl
  |true=>have:=h id (c id b);simp[SV.noRef]at this
 |.agg f,h=>qb c f h
 |.clo _ e,h=>qb c e h
 |.tup e,h=>qb c e h
 |.ifc _ v,h=>x9 c v h
 |.anyB,_=>rfl
 |.selfN id t m,h=>by
  simp only[SV.clear,Bool.not_eq_true'];cases b:D id with
  |false=>rfl
  |true=>have:=h id (c id b);simp[SV.noRef]at this
 |.ownT id k t,h=>by
  simp only[SV.clear,Bool.not_eq_true'];cases b:D id with
  |false=>rfl
  |true=>have:=h id (c id b);simp[SV.noRef]at this
 |.itr id,h=>by
  simp only[SV.clear,Bool.not_eq_true'];cases b:D id with
  |false=>rfl
  |true=>have:=h id (c id b);simp[SV.noRef]at this
theorem qb{D:Nat->Bool}{n:Nat}(c:∀i,D i=true->i<n):∀x:List SV,(∀d,d<n->SV.noRefs d x=true)->sV D x=true
 |[],_=>rfl
 |x::g,h=>by
  simp only[sV,Bool.and_eq_true];have j:∀d,d<n->x.noRef d=true/\SV.noRefs d g=true:=fun d b=>by simpa[SV.noRefs]using h d b
  exact⟨x9 c x (fun d b=>(j d b).1),qb c g (fun d b=>(j d b).2)⟩
end
section
variable {P:Program} {w0 w:World} {S0 S:bb} {M:Ctx} {σ:St} {a:Act} {μ:Nat->Value} {β:Nat->Option Nat} {o:Oper}
theorem Sz(h:SimG w0 S0 M σ a w S μ β){ρ:List (Nat×Nat)}{objs':List (Nat×Ob)}(A:∀i o,ac objs' i=some o->ac σ.objs (ren ρ i)=some (o.ren ρ)):∀ {d c:List SV} {e b:List Nat} {j:List Value},iT σ.objs ρ d c e->(∀i,i∈e->i∈b)->
  bc w S μ σ.objs d j->bc w (dH S β σ.objs b) (fun i=>μ (ren ρ i)) objs' c j:=by
 intro d
 induction d with
 |nil=>
  intro c e b j hm k l;cases c with
  |nil=>exact l
  |cons y c=>simp[iT]at hm
 |cons x d p=>
  intro c e b j hm k l;obtain⟨u,q,s,v,z⟩:=l;cases c with
  |nil=>simp[iT]at hm
  |cons y c=>
   have named:x=y.ren ρ/\iT σ.objs ρ d c e->bc w (dH S β σ.objs b) (fun i=>μ (ren ρ i)) objs' (y::c) j:=by
    rintro⟨rfl,m⟩;exact⟨u,q,s,au.unren A (fun _ _ _=>rfl) y u (au.mono (bM.refl _ _) (fun _ _ x=>.inl x) _ _ v),p m k z⟩
   cases y with
   |val iv=>
    obtain⟨f,g,e1,e2,rfl⟩:=hm;exact⟨u,q,s,nl h e1 (fun i n=>k i (List.mem_append_left _ n)) v,p e2 (fun i n=>k i (List.mem_append_right _ n)) z⟩
   |_=>exact named hm
theorem SA(h:SimG w0 S0 M σ a w S μ β){f':Option Nat}(hd:∀d,f'=some d->d<σ.n){c:MC}{ρ:List (Nat×Nat)}{fz:List Nat}(l':mOk σ ρ c=true)(U:gI σ.objs ρ c.objs)
  {V:World} {v:Value} {S':bb} {μ':Nat->Value} {K:Nat->Option Nat}
  (r1:au V S' μ' c.objs' c.res v) (r2:∀id o,ac c.objs' id=some o->bI V S' μ' c.objs' (K id) (μ' id) o)
  (r3:∀id L o o' b,ac c.objs' id=some o->ac c.objs' L=some o'->K id=some b->K L=some b->id=L)
  (r4:∀id o b,ac c.objs' id=some o->K id=some b->w.heap.size<=b\/∃i x,ac c.objs i=some x/\β (ren ρ i)=some b)
  (r5:∀id o b g,ac c.objs' id=some o->K id=some b->S' b g->id∈c.ro'/\∀W s u,o=.arr W s u->g<u.length*s)
  (r6:∀b o,S' b o->b<V.heap.size) (r7:∀b o,dH S β σ.objs fz b o->S' b o)
  (r8:∀b o,S' b o->dH S β σ.objs fz b o\/w.heap.size<=b\/∃i x,ac c.objs i=some x/\β (ren ρ i)=some b)
  (r9:Kept (fun b=>∃i x,ac c.objs i=some x/\β (ren ρ i)=some b) w V)
  (m':∀id o,ac c.objs id=some o->au V S' μ' c.objs' (N7 id o) (μ (ren ρ id)))
  (t':∀b o,dH S β σ.objs fz b o->V.cell? ⟨b,o,none⟩=w.cell? ⟨b,o,none⟩) :
  gc w0 S0 M (σ.mapply f' ρ c fz) (a.put f' v) V:=by
 simp only[mOk,Bool.and_eq_true]at l';obtain⟨⟨⟨⟨⟨⟨k1,k2⟩,k3⟩,k4⟩,k5⟩,k6⟩,k7⟩:=l';have A:=fun id=>OE (objs:=σ.objs) (l:=c.objs') k2 id
 have B:∀ {b:Nat},(∃i x,ac c.objs i=some x/\β (ren ρ i)=some b)->∃i x,ac c.objs i=some x/\ac σ.objs (ren ρ i)=some (x.ren ρ)/\β (ren ρ i)=some b/\True:=by
  rintro b ⟨i,x,I,Y⟩;exact⟨i,x,I,wk U i x I,Y,trivial⟩
 have N:∀id x b,ac σ.objs id=some x->β id=some b->b<w.heap.size:=fun id x b R O=>bI.live O (h.objs id x R)
 have c':∀b,b<w.heap.size->¬(∃i x,ac c.objs i=some x/\β (ren ρ i)=some b)->V.heap[b]?=w.heap[b]?:=fun b O hn=>r9.block b O hn
 have C:bM S w V:=⟨fun b g Q=>t' b g (.inl Q),r9.shape⟩
 obtain⟨J,s1,s2,s3,s4,s5,s6,s7⟩:∃J:bb,(∀b g,S b g->J b g)/\(∀b g,J b g->b<V.heap.size)/\
   (∀b g,J b g->S0 b g\/w0.heap.size<=b\/M.blocks b)/\
   au V J μ' c.objs' c.res v/\(∀id o,ac c.objs' id=some o->bI V J μ' c.objs' (K id) (μ' id) o)/\
   (∀id o b g,ac c.objs' id=some o->K id=some b->J b g->id∈c.ro'/\∀W s u,o=.arr W s u->g<u.length*s)/\
   (∀id o b g,ac σ.objs id=some o->β id=some b->back ρ c.objs' id=none->J b g->id∈(bif OD c then []else fz)++σ.ro/\∀W s u,o=.arr W s u->g<u.length*s):=by
  cases g':OD c with
  |true=>
   simp only[OD,Bool.and_eq_true]at g';refine⟨S,fun _ _ x=>x,fun b g Q=>Nat.lt_of_lt_of_le (h.stab b g Q) r9.size,h.back,SV.flat_rel _ _ g'.1 r1,fun id o f=>bI.flat (OC g'.2 id o f) (r2 id o f),?_,?_⟩
   .intro id o b g f O Q;exact r5 id o b g f O (r7 b g (.inl Q))
   intro id o b g f O _ Q;exact h.unst id o b g f O Q
  |false=>
   refine⟨S',fun b g Q=>r7 b g (.inl Q),r6,?_,r1,r2,r5,?_⟩
   .intro b g Q;rcases r8 b g Q with I|I|I
    .exact(h.freeze fz).back b g I
    .have:=h.kept.size;exact .inr (.inl (by omega))
    obtain⟨i,x,_,Y,X,_⟩:=B I;exact .inr (h.own _ _ b Y X)
   intro id o b g f O m Q;rcases r8 b g Q with I|I|I
   .exact(h.freeze fz).unst id o b g f O I
   .have:=N id o b f O;omega
   exfalso;obtain⟨i,x,Y,X,Z,_⟩:=B I;have hid:=h.inj id _ o _ b f X O Z;have n:=(kI k1 i x Y).2;cases z:ac c.objs' i with
   |none=>rw[z]at n;cases x<;>simp[ic]at n
   |some y=>exact wm m i y z hid.symm
 refine⟨J,fun id=>match back ρ c.objs' id with|some i=>μ' i|none=>μ id,fun id=>match back ρ c.objs' id with|some i=>K i|none=>β id,?_⟩;have hD:∀id,n7 ρ c.objs c.objs' id=true->id<σ.n:=fun id hn=>K6 k3 hn
 have O:∀id H,n7 ρ c.objs c.objs' id=false->ac (N8 σ.objs ρ c.objs') id=some (.box H)->∃b',ac σ.objs id=some (.box b')/\(match back ρ c.objs' id with|some i=>μ' i|none=>μ id)=μ id:=by
  intro id H hD f;rw[A]at f;cases m:back ρ c.objs' id with
  |none=>rw[m]at f;exact⟨H,f,rfl⟩
  |some i=>
   rw[m]at f;obtain⟨rfl,y,E⟩:=j8 m;cases R:ac c.objs i with
   |none=>rw[rR E R]at hD;simp at hD
   |some x=>
    have n:=(kI k1 i x R).2;simp only[E,Option.map_some,E_]at f;rw[E]at n;cases y with
    |arr _ _ _=>simp[Ob.ren]at f
    |iter _ _=>simp[Ob.ren]at f
    |box cy=>
     cases x with
     |arr _ _ _=>simp[ic]at n
     |iter _ _=>simp[ic]at n
     |box cx=>
      obtain⟨b,e1,e2⟩:=m' i _ R _ E;exact⟨_,wk U i _ R,by simp only;rw[e1,e2]⟩
 have ha:∀id cv s u,n7 ρ c.objs c.objs' id=false->ac (N8 σ.objs ρ c.objs') id=some (.arr cv s u)->∃h' a',ac σ.objs id=some (.arr h' s a')/\h'<=cv/\(h'=cv->a'.length=u.length/\(match back ρ c.objs' id with|some i=>μ' i|none=>μ id)=μ id):=by
  intro id cv s u hD f;rw[A]at f;cases m:back ρ c.objs' id with
  |none=>rw[m]at f;exact⟨cv,u,f,Nat.le_refl _,fun _=>⟨rfl,rfl⟩⟩
  |some i=>
   rw[m]at f;obtain⟨rfl,y,E⟩:=j8 m;cases R:ac c.objs i with
   |none=>rw[rR E R]at hD;simp at hD
   |some x=>
    have n:=(kI k1 i x R).2;simp only[E,Option.map_some,E_]at f;rw[E]at n;cases y with
    |box _=>simp[Ob.ren]at f
    |iter _ _=>simp[Ob.ren]at f
    |arr D' s1 u'=>
     simp only[Ob.ren,Ob.arr.injEq]at f;obtain⟨rfl,rfl,rfl⟩:=f;cases x with
     |box cx=>simp[ic]at n
     |iter _ _=>simp[ic]at n
     |arr x' s0 j'=>
      simp only[ic,beq_iff_eq]at n;subst n;have n':=wk U i _ R;obtain⟨e1,e2⟩:=m' i _ R _ _ _ E;refine⟨x',j',n',e1,fun e=>?_⟩;have e3:=e2 e;refine⟨?_,e3.symm⟩;have o1:=h.objs _ _ n';have o2:=r2 i _ E;rw[<-e3]at o2;rcases o1 with⟨z1,_,x1,z2⟩|⟨_,_,_,_,_,_,z2,_⟩<;>rcases o2 with⟨z3,_,x2,z4⟩|⟨_,_,_,_,_,_,z4,_⟩
      .rw[z1,z3]
      .rw[z2]at z4;simp only[Value.slice.injEq]at z4;rw[z1,<-z4.2.1];rfl
      .rw[z2]at z4;simp only[Value.slice.injEq]at z4;rw[z3,z4.2.1];rfl
      rw[z2]at z4;simp only[Value.slice.injEq]at z4;exact z4.2.1
 have hi:∀id s p,n7 ρ c.objs c.objs' id=false->ac (N8 σ.objs ρ c.objs') id=some (.iter s p)->∃s' p',ac σ.objs id=some (.iter s' p')/\(match back ρ c.objs' id with|some i=>μ' i|none=>μ id)=μ id:=by
  intro id s p hD f;rw[A]at f;cases m:back ρ c.objs' id with
  |none=>rw[m]at f;exact⟨s,p,f,rfl⟩
  |some i=>
   rw[m]at f;obtain⟨rfl,y,E⟩:=j8 m;cases R:ac c.objs i with
   |none=>rw[rR E R]at hD;simp at hD
   |some x=>
    have n:=(kI k1 i x R).2;simp only[E,Option.map_some,E_]at f;rw[E]at n;cases y with
    |arr _ _ _=>simp[Ob.ren]at f
    |box _=>simp[Ob.ren]at f
    |iter _ _=>cases x<;>simp[ic]at n
 have d':∀i o,ac c.objs' i=some o->ac (N8 σ.objs ρ c.objs') (ren ρ i)=some (o.ren ρ):=by
  intro i o f;simp only[A,yZ k2 i o f,f,Option.map_some]
 have q':∀i o,ac c.objs' i=some o->(match back ρ c.objs' (ren ρ i)with|some j=>μ' j|none=>μ (ren ρ i))=μ' i:=by
  intro i o f;simp only[yZ k2 i o f]
 have base:SimG w0 S0 M {σ with objs:=N8 σ.objs ρ c.objs',ro:=c.ro'.map (ren ρ)++((bif OD c then []else fz)++σ.ro) } a V J (fun id=>match back ρ c.objs' id with|some i=>μ' i|none=>μ id) (fun id=>match back ρ c.objs' id with|some i=>K i|none=>β id):=by
  refine {defers:=h.defers,size:=h.size,env:=?_,objs:=?_,inj:=?_,own:=?_,unst:=?_,stab:=s2,ext:=fun b o Q=>s1 b o (h.ext b o Q),back:=s3,kept:=?_,stay:=fun b o O=>(C.1 b o (h.ext b o O)).trans (h.stay b o O),hist:=?_,far:=h.far,glob:=?_ }
  .intro k;exact au.step O ha hi _ _ (K3 k4 k) (au.mono C s1 _ _ (h.env k))
  .intro id o f;have z:=f;rw[A]at f;cases m:back ρ c.objs' id with
   |none=>
    rw[m]at f;have ho:=h.objs id o f
    have z':∀b,β id=some b->¬(∃i x,ac c.objs i=some x/\β (ren ρ i)=some b):=by
     intro b q hf;obtain⟨i,x,Y,X,Z,_⟩:=B hf;have hid:=h.inj id _ o _ b f X q Z;have n:=(kI k1 i x Y).2;cases z:ac c.objs' i with
     |none=>rw[z]at n;cases x<;>simp[ic]at n
     |some y=>exact wm m i y z hid.symm
    have k':=bI.move C s1 (fun b q=>c' b (N id o b f q) (z' b q)) ho;have A':=K4 k5 id o f;cases o with
    |arr v' s' r'=>exact k'
    |iter _ _=>exact k'
    |box H=>
     obtain⟨b,vs,e,fr,q1,q2,q3,q4,q5⟩:=k';exact⟨b,vs,e,fr,q1,q2,q3,q4,al.step O ha hi _ _ A' q5⟩
   |some i=>
    rw[m]at f;obtain⟨rfl,y,E⟩:=j8 m;simp only[E,Option.map_some,E_]at f;subst f;have ho:=s5 i y E;have B':=Hr k7 i y E;cases y with
    |arr v' s' r'=>exact ho
    |iter _ _=>exact ho
    |box H=>
     obtain⟨b,vs,e,fr,q1,q2,q3,q4,q5⟩:=ho;exact⟨b,vs,e,fr,q1,q2,q3,q4,al.renamed d' q' _ _ B' q5⟩
  .intro id L o o' b f z q D;rw[A]at f z;cases m:back ρ c.objs' id with
   |none=>
    simp only[m]at f q;cases F:back ρ c.objs' L with
    |none=>
     simp only[F]at z D;exact h.inj id L o o' b f z q D
    |some i=>
     exfalso;simp only[F]at z D;obtain⟨rfl,y,E⟩:=j8 F;rcases r4 i y b E D with I|I
     .have:=N id o b f q;omega
     obtain⟨j,x,Y,X,Z,_⟩:=B I;have hid:=h.inj id _ o _ b f X q Z;have n:=(kI k1 j x Y).2;cases z:ac c.objs' j with
     |none=>rw[z]at n;cases x<;>simp[ic]at n
     |some y=>exact wm m j y z hid.symm
   |some i=>
    simp only[m]at f q;obtain⟨rfl,y,E⟩:=j8 m;cases F:back ρ c.objs' L with
    |none=>
     exfalso;simp only[F]at z D;rcases r4 i y b E q with I|I
     .have:=N L o' b z D;omega
     obtain⟨j,x,Y,X,Z,_⟩:=B I;have hid:=h.inj L _ o' _ b z X D Z;have n:=(kI k1 j x Y).2;cases e':ac c.objs' j with
     |none=>rw[e']at n;cases x<;>simp[ic]at n
     |some y=>exact wm F j y e' hid.symm
    |some i'=>
     simp only[F]at z D;obtain⟨rfl,y',C'⟩:=j8 F;rw[r3 i i' y y' b E C' q D]
  .intro id o b f q;rw[A]at f;cases m:back ρ c.objs' id with
   |none=>simp only[m]at f q;exact h.own id o b f q
   |some i=>
    simp only[m]at f q;obtain⟨rfl,y,E⟩:=j8 m;rcases r4 i y b E q with I|I
    .have:=h.kept.size;exact .inl (by omega)
    obtain⟨j,x,_,X,Z,_⟩:=B I;exact h.own _ _ b X Z
  .intro id o b g f q Q;rw[A]at f;cases m:back ρ c.objs' id with
   |none=>
    simp only[m]at f q;obtain⟨q1,q2⟩:=s7 id o b g f q m Q;exact⟨List.mem_append_right _ q1,q2⟩
   |some i=>
    simp only[m]at f q;obtain⟨rfl,y,E⟩:=j8 m;obtain⟨q1,q2⟩:=s6 i y b g E q Q;refine⟨List.mem_append_left _ (List.mem_map_of_mem q1),fun W s u e=>?_⟩;subst e;simp only[E,Option.map_some,E_]at f;cases y with
    |box _=>simp[Ob.ren]at f
    |iter _ _=>simp[Ob.ren]at f
    |arr v1 s1 r1=>
     simp only[Ob.ren,Ob.arr.injEq]at f;obtain⟨_,rfl,rfl⟩:=f;exact q2 _ _ _ rfl
  .refine⟨r9.os.trans h.kept.os,r9.tape.trans h.kept.tape,r9.output.trans h.kept.output,Nat.le_trans h.kept.size r9.size,fun k hk hM=>?_,fun k x R=>r9.shape _ _ (h.kept.shape _ _ R)⟩;rw[<-h.kept.block k hk hM];refine c' k (Nat.lt_of_lt_of_le hk h.kept.size) (fun hf=>?_);obtain⟨i,x,_,X,Z,_⟩:=B hf;rcases h.own _ _ k X Z with h5|h5
   .omega
   exact hM h5
  .intro p hp;exact au.step O ha hi _ _ (x9 hD _ (h.far p hp)) (au.mono C s1 _ _ (h.hist p hp))
  intro p hp;exact jt.mono C s1 (h.glob p hp)
 exact base.putD hd (au.renamed d' q' _ _ k6 s4)
def SB(σ:St)(f:SV)(c:List Opd):Option (FuncId×List SV):=match f with
 |.val (.fn k b)=>some (k,c.map (val σ)++b.map .val)
 |.clo k b=>some (k,c.map (val σ)++b)
 |_=>none
theorem bc.append{objs:List (Nat×Ob)} : ∀ {d f:List SV} {g j:List Value},bc w S μ objs d g->bc w S μ objs f j->bc w S μ objs (d++f) (g++j)
 |[],_,_,_,h,k=>by have h:_=_:=h;subst h;exact k
 |_::_,_,_,_,⟨u,c,l,m,p⟩,k=>by subst l;exact⟨u,c++_,rfl,m,bc.append p k⟩
theorem bc.ofRep{objs:List (Nat×Ob)} : ∀ {b:List IV} {c:List Value},br w S b c->bc w S μ objs (b.map .val) c
 |[],_,h=>h
 |_::_,_,⟨u,d,e,f,g⟩=>⟨u,d,e,f,bc.ofRep g⟩
theorem aaY(h:SimG w0 S0 M σ a w S μ β)(hd:oh o σ){c:Call}{f:Operand}(ho:o.op=.call c)(a':c.callee=.value f){fv:SV}(K:au w S μ σ.objs fv (a.eval f)){y:List Opd}(B:dS c.args.toList=some y)
  {k:FuncId} {vals:List SV} (j:SB σ fv y=some (k,vals)) {q:MC} (hF:lB σ.gl P k q) {ρ:List (Nat×Nat)} {L:List Nat} (N:mOk σ ρ q=true) (m:gI σ.objs ρ q.objs) (b':iT σ.objs ρ vals q.args L) (c':mFz ρ L q.objs=true) {next:Act->World->Prop} {Q:Exit->Act->World->Prop}
  (hn:∀v w',gc w0 S0 M (σ.mapply o.dst ρ q L) (a.put o.dst v) w'->next (a.put o.dst v) w'):o.wp P a w next Q:=by
 have O:=sM h B
 obtain⟨d,d',C⟩:∃d:Array Value,a.eval f=.func (.func k) #[] d/\bc w S μ σ.objs vals ((c.args.toList.map a.eval)++d.toList):=by
  unfold SB at j;split at j
  .next k' R=>
   simp only[E_,Prod.mk.injEq]at j;obtain⟨rfl,rfl⟩:=j;obtain⟨U,l,n⟩:=K;exact⟨U,l,bc.append O (bc.ofRep n)⟩
  .next k' R=>
   simp only[E_,Prod.mk.injEq]at j;obtain⟨rfl,rfl⟩:=j;obtain⟨U,l,n⟩:=K;exact⟨U,l,bc.append O n⟩
  simp at j
 obtain⟨⟨fn,e',D⟩,u⟩:=hF
 have z:(execOp a.eval o).run P w=(callFunc k (c.args.map a.eval++d)).run P w:=by
  simp only[execOp,ho,resolve,a',d',Deferred.ofValue,Sem.run_bind,Sem.run_pure,Result.andThen_ok,invoke,Array.empty_append]
 have hv:c.args.map a.eval++d=((c.args.toList.map a.eval)++d.toList).toArray:=by
  apply Array.toList_inj.1;simp
 rw[hv]at z;have E:=fun i o F=>wk m i o F
 have A:=N;simp only[mOk,Bool.and_eq_true]at A;obtain⟨⟨⟨⟨⟨⟨k1,k2⟩,k3⟩,k4⟩,k5⟩,k6⟩,k7⟩:=A;have hf:=h.freeze L
 have H:∀id g o J,ac q.objs id=some o->ac q.objs g=some J->ren ρ id=ren ρ g->id=g:=by
  intro id g o J l n he;have V:=(kI k1 id o l).2;have W:=(kI k1 g J n).2;cases X:ac q.objs' id with
  |none=>rw[X]at V;cases o<;>simp[ic]at V
  |some y1=>
   cases Y:ac q.objs' g with
   |none=>rw[Y]at W;cases J<;>simp[ic]at W
   |some y2=>
    have e1:=yZ k2 id y1 X;have e2:=yZ k2 g y2 Y;rw[he,e2]at e1;simpa using e1.symm
 refine yR e' D z (u w (dH S β σ.objs L) (fun i=>μ (ren ρ i)) (fun i=>β (ren ρ i)) _ hf.stab hf.glob (Sz h E b' (fun _ x=>x) C) ?_ ?_ ?_) ?_
 .intro id o F;have I:=h.objs _ _ (E id o F);cases o with
  |iter s p=>exact bI.move (o:=.iter s p) (bM.refl _ _) (fun _ _ x=>Or.inl x) (fun _ _=>rfl) I
  |arr v s r=>exact bI.arr_any (bI.move (o:=.arr v s r) (bM.refl _ _) (fun _ _ x=>Or.inl x) (fun _ _=>rfl) I)
  |box f'=>
   obtain⟨b,U,e,fr,q1,q2,q3,q4,q5⟩:=I;exact⟨b,U,e,fr,q1,q2,q3,q4,al.unren E (fun _ _ _=>rfl) _ _ (al.mono (bM.refl _ _) (fun _ _ x=>.inl x) _ _ q5)⟩
 .intro id g o J b l n h3 h4;exact H id g o J l n (h.inj _ _ _ _ b (E _ _ l) (E _ _ n) h3 h4)
 .intro id o b g' l n hS;have h':=(kI k1 id o l).1;rcases hS with hS|⟨i,x,e1,e2,e3,e4⟩
  .obtain⟨u1,u2⟩:=h.unst _ _ b g' (E _ _ l) n hS;refine⟨h' u1,fun i' s Z e=>?_⟩;subst e;exact u2 i' s Z rfl
  exfalso;have hid:=h.inj _ _ _ _ b (E _ _ l) e2 n e3;rw[<-hid]at e1;exact X4 c' id o l e1
 rintro e w' ⟨v,S',μ',m',rfl,r1,r2,r3,r4,r5,r6,r7,r8,r9,j',l'⟩;exact⟨v,rfl,hn v w' (SA h hd N m r1 r2 r3 r4 r5 r6 r7 r8 r9 j' l')⟩
end
end Go.Vs
