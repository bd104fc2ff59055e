/- A part of a proof. No conditions. -/
import Derived.Test.YtcjeehebikeghaaGreatDoorBD
import Derived.RangeFuncNested
import Derived.RangeFuncLeaves
import Derived.OrdersIn
import Derived.LoopNIn
set_option linter.unusedVariables false
set_option linter.unusedSimpArgs false
namespace Go.Vs

def cF(ro:Option Nat):Fence:={Fence.wide with round:=ro }
theorem Q3{ro:Option Nat}{n:Nat}{P:Program}{k:FuncId}{args:Array Value}{w:World}{R:Ending->World->Prop}(h:Calls P k args w R):CallsIn (cF ro) n P k args w R:=by
 have h1:CallsIn Fence.wide n P k args w R:=callsIn_wide.2 h;cases ro with
 |none=>exact h1
 |some l=>exact CallsIn.inRound l h1
theorem Wr{ro:Option Nat}{n:Nat}{P:Program}{row:String}{args:Array Value}{w:World}{R:Value->World->Prop}(h:Rows P row args w R):RowsIn (cF ro) n P row args w R:=by
 intro c cs _;obtain⟨v,w',h1,h2⟩:=h c cs;refine⟨v,w',h1,?_⟩;have h3:StepsIn (Machine.fenced P Fence.wide) P (lone (Frame.ofRow P row args .normal) (c::cs) w) (lone (c.finish v) cs w'):=stepsIn_wide.2 h2;cases ro with
 |none=>exact h3
 |some l=>exact h3
def Op.noDef:Op->Bool
 |.defer _=>false
 |_=>true
def jt(l:List Oper):Bool:=l.all fun o=>Op.noDef o.op
theorem NK{ops:Array Oper}(h:jt ops.toList=true){i:Nat}{o:Oper}(ho:ops[i]?=some o):∀c,o.op≠.defer c:=by
 intro c hc
 have hm:o∈ops.toList:=by
  rw[<-Array.getElem?_toList]at ho;exact List.mem_of_getElem? ho
 have:=List.all_eq_true.1 h o hm;rw[hc]at this;cases this
section
variable {P:Program} {ro:Option Nat} {Q:Exit->Act->World->Prop}
theorem NL{o:Oper}{a:Act}{w:World}{n:Nat}{next:Act->World->Prop}(hnd:∀c,o.op≠.defer c)(h:o.wp P a w next Q):o.wpIn (cF ro) n P a w next Q:=by
 refine⟨fun _ _=>trivial,?_⟩;have hro:(cF ro).round=ro:=rfl;rw[hro,Oper.semAt_eq _ _ _ hnd];unfold Oper.wp at h;have hd:(cF ro).depth.isSome=true->1<=n:=fun h=>by simp[cF,Fence.wide]at h
 generalize (execOp a.eval o).run P w=r at h;cases r with
 |ok x w'=>
  cases x<;>simp only[Oper.upon,Oper.uponIn]at h |- <;>
   first
    |exact h
    |exact⟨hd,Q3 (h.mono fun e w'' he=>by cases e<;>exact he)⟩
    |exact⟨hd,Wr h⟩
 |halt x w'=>cases x<;>simp only[Oper.upon,Oper.uponIn]at h |-<;>exact h
theorem H8{ops:Array Oper}{i:Nat}{K K':Act->World->Prop}(hQ:∀a w,¬Q .outgrown a w)(hnd:jt ops.toList=true)(hK:∀a w,K a w->K' a w){a:Act}{w:World}(h:wpOp P ops Q i K a w):wpOpIn (cF ro) 0 P ops Q i K' a w:=by
 unfold wpOp at h;unfold wpOpIn;cases ho:ops[i]? with
 |none=>rw[ho]at h;exact hK _ _ h
 |some o=>
  rw[ho]at h;dsimp only at h |-;split at h
  ·next hw=>
   rw[if_pos hw];rcases h with h|⟨_,a0,w0,h⟩
   ·exact Oper.wpIn_mono hK (NL (NK hnd ho) h)
   ·exact absurd h (hQ _ _)
  ·next hw=>
   rw[if_neg hw];exact⟨fun _ _=>trivial,hK _ _ h⟩
theorem Jg{ops:Array Oper}(hQ:∀a w,¬Q .outgrown a w)(hnd:jt ops.toList=true):∀(l:List Nat) {a:Act} {w:World},wpOps P ops Q l a w->wpOpsIn (cF ro) 0 P ops Q l a w
 |[],_,_,h=>h
 |i::r,a,w,h=>by
  rw[wpOps_cons]at h;rw[wpOpsIn_cons];exact H8 hQ hnd (fun a w h=>Jg hQ hnd r h) h
theorem Jh{md:Region.Mode}{ops:Array Oper}(hQ:∀a w,¬Q .outgrown a w)(hnd:jt ops.toList=true):∀(fuel:Nat) {listed:Array Bool} {a:Act} {w:World},wpAny P md ops Q fuel listed a w->wpAnyIn (cF ro) 0 P md ops Q fuel listed a w
 |0,_,_,_,h=>h
 |n+1,_,_,_,h=>⟨h.1,fun i hi=>H8 hQ hnd (fun a w h=>Jh hQ hnd n h) (h.2 i hi)⟩
end
def ew:Code->Bool
 |.region _ os _=>jt os.toList
 |.seq a b=>ew a&&ew b
 |.cond _ a b=>ew a&&ew b
 |.block _ a=>ew a
 |_=>true
def VCode.flat:VCode->Bool
 |.seq a b=>a.flat&&b.flat
 |.cond _ a b=>a.flat&&b.flat
 |.block _ a=>a.flat
 |.loop _=>false
 |.scope _=>false
 |.cut _=>false
 |_=>true
def TR(P:Program)(c:Code)(Q:Exit->St->Prop)(σ:St):Prop:=∀(ro:Option Nat) (w0:World) (S0:aO) (M:Ctx) (a:Act) (w:World),cE w0 S0 M σ a w->c.wpIn (cF ro) 0 P (xA w0 S0 M σ.n Q) a w
theorem M6{w0:World}{S0:aO}{M:Ctx}{N:Nat}{Q:Exit->St->Prop}(a:Act)(w:World):¬xA w0 S0 M N Q .outgrown a w:=fun h=>h
theorem wN.r{P:Program}(hm:P.follows .mixedOrders=true){c:Code}{Q:Exit->St->Prop}{σ:St}(hd:ew c=true)(h:wN P c Q σ):TR P c Q σ:=by
 obtain⟨id,os,draw,rfl,h⟩:=h;intro ro w0 S0 M a w hs;have:=h w0 S0 M a w hs;cases draw with
 |false=>exact wpIn_region (Jg M6 hd _ (this.1 rfl))
 |true=>exact wpIn_region_any hm (Jh M6 hd _ (this.2 rfl))
theorem FW{P:Program}(hm:P.follows .mixedOrders=true):∀(v:VCode) {Q:Exit->St->Prop} {σ:St},v.flat=true->pw P v Q σ->∀c,comp P c=some v.strip->ew c=true->v.bnd σ.n=true->TR P c Q σ:=by
 intro v
 induction v with
 |skip=>
  intro Q σ hf h c hc hd _ ro w0 S0 M a w hs;have e:c=Code.skip:=aZ hc;subst e;exact wpIn_skip ⟨σ,h,rfl,hs⟩
 |region ops mode dead=>
  intro Q σ hf h c hc hd hb;exact(xC hm hc hb h).r hm hd
 |seq x y ihx ihy=>
  intro Q σ hf h c hc hd hb ro w0 S0 M a w hs;obtain⟨p,q,rfl,h1,h2⟩:=aZ hc;simp only[VCode.bnd,VCode.flat,ew,Bool.and_eq_true]at hb hf hd;refine wpIn_seq (wpIn_mono (ihx hf.1 h p h1 hd.1 hb.1 ro w0 S0 M a w hs) (fun e a' w' hl=>?_));cases e
  case normal=>
   obtain⟨σ',k1,k2,k3⟩:=hl;have:=ihy hf.2 k1 q h2 hd.2 (by rw[k2];exact hb.2) ro w0 S0 M a' w' k3;rw[k2]at this;exact this
  all_goals exact hl
 |cond o x y ihx ihy=>
  intro Q σ hf h c hc hd hb ro w0 S0 M a w hs;obtain⟨p,q,r,rfl,h0,h1,h2⟩:=aZ hc;simp only[VCode.bnd,VCode.flat,ew,Bool.and_eq_true]at hb hf hd;simp only[pw]at h;split at h
  ·next t ht=>
   obtain⟨S,μ,β,hg⟩:=id hs;have hrel:=ak hg h0;rw[ht]at hrel;exact wpIn_cond_split hrel (fun e=>ihx hf.1 (h.1 e) q h1 hd.1 hb.1 ro w0 S0 M a w hs) (fun e=>ihy hf.2 (h.2 e) r h2 hd.2 hb.2 ro w0 S0 M a w hs)
  ·next ht=>
   obtain⟨S,μ,β,hg⟩:=id hs;have hrel:=ak hg h0;rw[ht]at hrel;obtain⟨t,hrel⟩:=hrel;exact wpIn_cond_split hrel (fun _=>ihx hf.1 h.1 q h1 hd.1 hb.1 ro w0 S0 M a w hs) (fun _=>ihy hf.2 h.2 r h2 hd.2 hb.2 ro w0 S0 M a w hs)
  ·exact h.elim
 |block id x ih=>
  intro Q σ hf h c hc hd hb ro w0 S0 M a w hs;obtain⟨p,rfl,h1⟩:=aZ hc;refine wpIn_block (wpIn_mono (ih hf h p h1 hd hb ro w0 S0 M a w hs) (fun e a' w' hl=>?_));cases e
  case exit i=>
   obtain⟨σ',k1,k2,k3⟩:=hl;dsimp only at k1;simp only[Exit.inBlock];split
   ·next hi=>rw[if_pos hi]at k1;exact⟨σ',k1,k2,k3⟩
   ·next hi=>rw[if_neg hi]at k1;exact⟨σ',k1,k2,k3⟩
  all_goals exact hl
 |loop x _=>intro Q σ hf;cases hf
 |exit id=>
  intro Q σ hf h c hc hd _ ro w0 S0 M a w hs;have e:c=Code.exit id:=aZ hc;subst e;exact wpIn_exit ⟨σ,h,rfl,hs⟩
 |scope x _=>intro Q σ hf;cases hf
 |label l=>
  intro Q σ hf h c hc hd _ ro w0 S0 M a w hs;have e:c=Code.label l:=aZ hc;subst e;exact wpIn_label ⟨σ,h,rfl,hs⟩
 |goto l=>
  intro Q σ hf h c hc hd _ ro w0 S0 M a w hs;have e:c=Code.goto l:=aZ hc;subst e;exact wpIn_goto ⟨σ,h,rfl,hs⟩
 |refuse=>intro Q σ hf h;exact h.elim
 |cut x _=>intro Q σ hf;cases hf
 |ret=>
  intro Q σ hf h c hc hd _ ro w0 S0 M a w hs;have e:c=Code.ret:=aZ hc;subst e;exact wpIn_ret ⟨σ,h,rfl,hs⟩

/- TWO PARTIES: what is another's. -/
def Ji(σ:St)(β:Nat->Option Nat):Nat->Prop:=fun b=>∃id o,ac σ.objs id=some o/\β id=some b
theorem SimG.rebase{w0 w:World}{S0 S:aO}{M:Ctx}{σ:St}{a:Act}{μ:Nat->Value}{β:Nat->Option Nat}(h:SimG w0 S0 M σ a w S μ β):SimG w S ⟨Ji σ β,M.keep,M.at',M.df⟩ σ a w S μ β:=
 {defers:=h.defers,size:=h.size,env:=h.env,objs:=h.objs,inj:=h.inj,own:=fun id o b h1 h2=>.inr ⟨id,o,h1,h2⟩,unst:=h.unst,stab:=h.stab,ext:=fun _ _ x=>x,back:=fun _ _ x=>.inl x,kept:=Kept.refl _ _,stay:=fun _ _ _=>rfl,hist:=h.hist,far:=h.far,glob:=h.glob }
theorem SimG.unbase{w0 w w':World}{S0 S S':aO}{M:Ctx}{σ σ':St}{a a':Act}{μ μ':Nat->Value}{β β':Nat->Option Nat}{ks:List (Nat×SV)}{at':Nat->Value}{df:List Deferred}(h:SimG w0 S0 M σ a w S μ β)(k:SimG w S ⟨Ji σ β,ks,at',df⟩ σ' a' w' S' μ' β')(hd:a'.defers=M.df)(hh:∀p,p∈M.keep->ar w' S' μ' σ'.objs p.2 (M.at' p.1))(hf:∀p,p∈M.keep->∀d,d<σ'.n->p.2.noRef d=true):SimG w0 S0 M σ' a' w' S' μ' β':=
 {defers:=hd,size:=k.size,env:=k.env,objs:=k.objs,inj:=k.inj
  own:=fun id o b h1 h2=>by
   rcases k.own id o b h1 h2 with h3|⟨i,x,h3,h4⟩
   ·exact .inl (Nat.le_trans h.kept.size h3)
   ·exact h.own i x b h3 h4
  unst:=k.unst,stab:=k.stab,ext:=fun b o x=>k.ext b o (h.ext b o x)
  back:=fun b o x=>by
   rcases k.back b o x with h3|h3|⟨i,x,h3,h4⟩
   ·exact h.back b o h3
   ·exact .inr (.inl (Nat.le_trans h.kept.size h3))
   ·exact .inr (h.own i x b h3 h4)
  kept:=⟨k.kept.os.trans h.kept.os,k.kept.tape.trans h.kept.tape,k.kept.output.trans h.kept.output,Nat.le_trans h.kept.size k.kept.size,fun i hi hm=>by
   refine(k.kept.block i (Nat.lt_of_lt_of_le hi h.kept.size) (fun⟨id,x,h3,h4⟩=>?_)).trans (h.kept.block i hi hm);rcases h.own id x i h3 h4 with h5|h5
   ·omega
   ·exact hm h5,fun i x hx=>k.kept.shape _ _ (h.kept.shape _ _ hx)⟩
  stay:=fun b o x=>(k.stay b o (h.ext b o x)).trans (h.stay b o x)
  hist:=hh,far:=hf,glob:=k.glob }
def L7(w0 w:World)(M:Ctx)(σ:St)(S:aO)(β:Nat->Option Nat)(Z:Nat->Prop):Prop:=∀b,Z b->b<w.heap.size/\w0.heap.size<=b/\¬Ji σ β b/\∀o,¬S b o
def uL(w0:World)(S0:aO)(M:Ctx)(σ:St)(a:Act)(Z:Nat->Prop)(w:World):Prop:=∃S μ β,SimG w0 S0 M σ a w S μ β/\L7 w0 w M σ S β Z
def kB(Z:Nat->Prop)(w w':World):Nat->Prop:=fun b=>Z b\/(w.heap.size<=b/\b<w'.heap.size)
theorem SimG.other{w0 w w':World}{S0 S:aO}{M:Ctx}{σ:St}{a:Act}{μ:Nat->Value}{β:Nat->Option Nat}{Z:Nat->Prop}(h:SimG w0 S0 M σ a w S μ β)(hz:L7 w0 w M σ S β Z)(hk:Kept Z w w'):SimG w0 S0 M σ a w' S μ β/\L7 w0 w' M σ S β (kB Z w w'):=by
 have hkeep:bv S w w':=⟨fun b o hS=>bF (hk.block b (h.stab b o hS) (fun hZ=>(hz b hZ).2.2.2 o hS)) o,hk.shape⟩;refine⟨h.world hkeep (fun _ _ x=>x) (fun id o b h1 h2=>hk.block b ((h.objs id o h1).live h2) (fun hZ=>(hz b hZ).2.2.1 ⟨id,o,h1,h2⟩)) (fun _ _ _ _ _ _ x=>x) (fun b o hS=>Nat.lt_of_lt_of_le (h.stab b o hS) hk.size) (fun _ _ x=>.inl x) ?_,?_⟩
 ·refine⟨hk.os.trans h.kept.os,hk.tape.trans h.kept.tape,hk.output.trans h.kept.output,Nat.le_trans h.kept.size hk.size,fun i hi hm=>?_,fun i x hx=>hk.shape _ _ (h.kept.shape _ _ hx)⟩;refine(hk.block i (Nat.lt_of_lt_of_le hi h.kept.size) (fun hZ=>?_)).trans (h.kept.block i hi hm);have:=(hz i hZ).2.1;omega
 ·rintro b (hZ|⟨h1,h2⟩)
  ·obtain⟨q1,q2,q3,q4⟩:=hz b hZ;exact⟨Nat.lt_of_lt_of_le q1 hk.size,q2,q3,q4⟩
  ·refine⟨h2,Nat.le_trans h.kept.size h1,fun⟨id,o,h3,h4⟩=>?_,fun o hS=>?_⟩
   ·have:=(h.objs id o h3).live h4;omega
   ·have:=h.stab b o hS;omega
theorem uL.other{w0 w w':World}{S0:aO}{M:Ctx}{σ:St}{a:Act}{Z:Nat->Prop}(h:uL w0 S0 M σ a Z w)(hk:Kept Z w w'):uL w0 S0 M σ a (kB Z w w') w':=by
 obtain⟨S,μ,β,h1,h2⟩:=h;obtain⟨h3,h4⟩:=h1.other h2 hk;exact⟨S,μ,β,h3,h4⟩
theorem uL.step{P:Program}{w0 w:World}{S0:aO}{M:Ctx}{σ:St}{a:Act}{Z:Nat->Prop}{c:Code}{Q:Exit->St->Prop}{ro:Option Nat}(hT:TR P c Q σ)(h:uL w0 S0 M σ a Z w):c.wpIn (cF ro) 0 P (fun e a' w'=>∃σ',Q e σ'/\uL w0 S0 M σ' a' Z w'/\(∀b,Z b->w'.heap[b]?=w.heap[b]?)/\bv S0 w w'/\w.heap.size<=w'.heap.size/\σ'.n=σ.n) a w:=by
 obtain⟨S,μ,β,h1,h2⟩:=h;refine wpIn_mono (hT ro w S _ a w ⟨S,μ,β,h1.rebase⟩) (fun e a' w' hl=>?_)
 have fin:∀σ',Q e σ'->σ'.n=σ.n->cE w S ⟨Ji σ β,M.keep,M.at',M.df⟩ σ' a' w'->∃σ',Q e σ'/\uL w0 S0 M σ' a' Z w'/\(∀b,Z b->w'.heap[b]?=w.heap[b]?)/\bv S0 w w'/\w.heap.size<=w'.heap.size/\σ'.n=σ.n:=by
  rintro σ' hQ hn ⟨S',μ',β',k⟩;have hb:∀b,Z b->w'.heap[b]?=w.heap[b]?:=fun b hZ=>k.kept.block b (h2 b hZ).1 (h2 b hZ).2.2.1
  refine⟨σ',hQ,⟨S',μ',β',h1.unbase k k.defers k.hist k.far,fun b hZ=>?_⟩,hb,⟨fun b o hS=>k.stay b o (h1.ext b o hS),k.kept.shape⟩,k.kept.size,hn⟩;obtain⟨q1,q2,q3,q4⟩:=h2 b hZ;refine⟨Nat.lt_of_lt_of_le q1 k.kept.size,q2,fun⟨id,o,h3,h4⟩=>?_,fun o hS=>?_⟩
  ·rcases k.own id o b h3 h4 with h5|h5
   ·omega
   ·exact q3 h5
  ·rcases k.back b o hS with h5|h5|h5
   ·exact q4 o h5
   ·omega
   ·exact q3 h5
 cases e<;>first|exact hl.elim|(obtain⟨σ',q1,q2,q3⟩:=hl;exact fin σ' q1 q2 q3)
end Go.Vs
namespace Go.Vs

theorem Kept.weaken{M M':Nat->Prop}{a b:World}(h:Kept M a b)(hm:∀k,M k->M' k):Kept M' a b:=⟨h.os,h.tape,h.output,h.size,fun k hk hn=>h.block k hk (fun x=>hn (hm k x)),h.shape⟩
theorem L8{w:World}{l:Nat}{r:Loop}(h:w.heap[l]?=some (.loop r)):w.shape? l=none:=by simp[World.shape?,h]
theorem xN{w:World}{l:Nat}{r:Loop}(o:Go.Obj)(h:w.heap[l]?=some (.loop r))(Z:Nat->Prop)(hZ:Z l):Kept Z w (w.putObj l o):=
 ⟨rfl,rfl,rfl,by simp,fun k _ hn=>World.putObj_heap_other (fun e=>hn (e▸hZ)),fun k x hx=>by
  by_cases e:k=l
  ·subst e;rw[L8 h]at hx;cases hx
  ·rw[cN (World.putObj_heap_other e)];exact hx⟩
theorem Jj{w:World}{D:Nat}{ds:List Deferred}(h:w.heap[D]?=some (.deferred (some ds)))(Z:Nat->Prop)(hZ:Z D):Kept Z w (w.putObj D (.deferred none)):=
 ⟨rfl,rfl,rfl,by simp,fun k _ hn=>World.putObj_heap_other (fun e=>hn (e▸hZ)),fun k x hx=>by
  by_cases e:k=D
  ·subst e;simp[World.shape?,h]at hx
  ·rw[cN (World.putObj_heap_other e)];exact hx⟩
theorem FX{S:aO}{w:World}{l:Nat}{r r':Loop}(h:w.heap[l]?=some (.loop r)):bv S w (w.putObj l (.loop r')):=by
 refine⟨fun b o _=>?_,(xN (.loop r') h (fun b=>b=l) rfl).shape⟩;by_cases e:b=l
 ·subst e;have h2:(w.putObj b (.loop r')).heap[b]?=some (.loop r'):=World.putObj_heap_same (Array.getElem?_eq_some_iff.1 h).1;simp[World.cell?,h,h2]
 ·exact bF (World.putObj_heap_other e) o
theorem bv.trans{S:aO}{a b c:World}(h:bv S a b)(k:bv S b c):bv S a c:=⟨fun x o hS=>(k.1 x o hS).trans (h.1 x o hS),fun x y hx=>k.2 _ _ (h.2 _ _ hx)⟩
theorem sP(w:World)(o:Go.Obj):Kept (fun _=>False) w (w.alloc o):=
 ⟨rfl,rfl,rfl,by simp,fun k hk _=>ek hk,fun k x hx=>by rw[cN (ek (nO hx))];exact hx⟩
theorem Kept.keeps{S:aO}{M:Nat->Prop}{a b:World}(h:Kept M a b)(hs:∀b' o,S b' o->b'<a.heap.size/\¬M b'):bv S a b:=⟨fun b' o hS=>bF (h.block b' (hs b' o hS).1 (hs b' o hS).2) o,h.shape⟩

abbrev JZ:=Nat->(Nat->Prop)->World->Prop
def M7(J:JZ):Prop:=∀i Z W W',J i Z W->Kept Z W W'->J i (kB Z W W') W'
def CE(S:aO)(Z:Nat->Prop)(W W':World):Prop:=(∀b,Z b->W'.heap[b]?=W.heap[b]?)/\bv S W W'/\W.heap.size<=W'.heap.size
def YZ(P:Program)(l:Nat)(S:aO)(enc:Nat->Value)(n:Nat)(J:JZ):Prop:=
 ∀i Z W,J i Z W->i<n->YieldAt Fence.wide 0 P l #[enc i] W fun e W'=>e=.returned (.bool true)/\J (i+1) Z W'/\CE S Z W W'
def Q4(P:Program)(k:FuncId)(vs:Array Value)(n:Nat)(enc:Nat->Value)(S:aO)(w:World):Prop:=
 ∀(l:Nat) (J:JZ) (Z:Nat->Prop) (W:World),bv S w W->w.heap.size<=W.heap.size->(∀b,Z b->b<W.heap.size)->M7 J->YZ P l S enc n J->J 0 Z W->
  Calls P k (#[.func (.yield l) #[] #[]]++vs) W fun e W'=>(∃v,e=.returned v)/\∃Z',J n Z' W'

theorem wP{Z:Nat->Prop}{w w':World}(h:w'.heap.size=w.heap.size):kB Z w w'=Z:=by
 funext b;refine propext ⟨fun hb=>?_,.inl⟩;rcases hb with hb|hb
 ·exact hb
 ·omega

theorem CF{P:Program}{ro:Option Nat}{ps:Array Tmp}{assign body:Code}{Q:Exit->Act->World->Prop}{a a':Act}{w:World}{k:FuncId}{vs:Array Value}{n:Nat}{enc:Nat->Value}{S:aO}{p:Nat}{fn:FuncId}{df:Nat}
  (hps:ps = #[p]) (hit:Q4 P k vs n enc S w) (hSl:∀b o,S b o->b<w.heap.size)
  (I:JZ) (hst:M7 I) {Z0:Nat->Prop} (hZ0:∀b,Z0 b->b<w.heap.size) (h0:I 0 Z0 w)
  (B:Nat->(Nat->Prop)->Act->World->Prop) (hB:∀i Z a W W',B i Z a W->Kept Z W W'->B i (kB Z W W') a W')
  (hassign:∀l i Z W,Z l->I i Z W->i<n->assign.wpIn (cF (some l)) 0 P (fun e a1 W1=>e=.normal/\B i Z a1 W1/\CE S Z W W1) {tmps:=a.tmps.setIfInBounds p (enc i),defers:=[] } W)
  (hbody:∀l i Z a1 W1,Z l->(∃r,W1.heap[l]?=some (.loop r))->B i Z a1 W1->i<n->body.wpIn (cF (some l)) 0 P (fun e _ W'=>e=.normal/\I (i+1) Z W'/\CE S Z W1 W') a1 W1)
  {l D:Nat} {W1:World} (hl1:w.heap.size<=l) (hD1:w.heap.size<=D) (hD2:D<W1.heap.size) (hnew:∀b,w.heap.size<=b->b<W1.heap.size->b=l\/b=D)
  (hrec:W1.heap[l]?=some (.loop {state:=.ready,pending:=none,fn:=fn,tmps:=a.tmps,params:=ps,assign:=assign,body:=body,defers:=df })) (hdef:D≠l->W1.heap[D]?=some (.deferred (some []))) (hk1:Kept (fun _=>False) w W1)
  (hdone:∀Z W,I n Z W->(D≠l->Z D/\W.heap[D]?=some (.deferred (some [])))->w.heap.size<=W.heap.size->Q .normal a' W) :
  CallsIn (cF ro) (0-1) P k (#[.func (.yield l) #[] #[]]++vs) W1 (rangePost (cF ro) 0 P l Q a'):=by
 obtain⟨rec,hr⟩:∃rec:LoopState->Option Code->Loop,rec=fun st pe=>{state:=st,pending:=pe,fn:=fn,tmps:=a.tmps,params:=ps,assign:=assign,body:=body,defers:=df }:=⟨_,rfl⟩
 have hrec':W1.heap[l]?=some (.loop (rec .ready none)):=by rw[hr];exact hrec
 have hl2:l<W1.heap.size:=(Array.getElem?_eq_some_iff.1 hrec).1
 let ZL:(Nat->Prop)->Nat->Prop:=fun Z b=>Z b\/b=l\/b=D
 let J:JZ:=fun i Z W=>¬Z l/\¬Z D/\W.heap[l]?=some (.loop (rec .ready none))/\(D≠l->W.heap[D]?=some (.deferred (some [])))/\w.heap.size<=W.heap.size/\I i (ZL Z) W
 have hJ0:J 0 Z0 W1:=by
  refine⟨fun h=>?_,fun h=>?_,hrec',hdef,hk1.size,?_⟩
  ·have:=hZ0 l h;omega
  ·have:=hZ0 D h;omega
  ·have:=hst 0 Z0 w W1 h0 (hk1.weaken fun _ h=>h.elim)
   have e:kB Z0 w W1=ZL Z0:=by
    funext b;refine propext ⟨fun hb=>?_,fun hb=>?_⟩
    ·rcases hb with hb|⟨hb,hb2⟩
     ·exact .inl hb
     ·exact .inr (hnew b hb hb2)
    ·rcases hb with hb|rfl|rfl
     ·exact .inl hb
     ·exact .inr ⟨hl1,hl2⟩
     ·exact .inr ⟨hD1,hD2⟩
   rw[<-e];exact this
 have hstJ:M7 J:=by
  rintro i Z W W' ⟨h1,h2,h3,h4,h5,h6⟩ hk;have hl:l<W.heap.size:=(Array.getElem?_eq_some_iff.1 h3).1
  have hDl:D<W.heap.size:=by
   by_cases e:D=l
   ·rw[e];exact hl
   ·exact(Array.getElem?_eq_some_iff.1 (h4 e)).1
  refine⟨?_,?_,(hk.block l hl h1).trans h3,fun e=>(hk.block D hDl h2).trans (h4 e),Nat.le_trans h5 hk.size,?_⟩
  ·rintro(h|h)
   ·exact h1 h
   ·omega
  ·rintro(h|h)
   ·exact h2 h
   ·omega
  ·have:=hst i (ZL Z) W W' h6 (hk.weaken fun _ h=>.inl h)
   have e:kB (ZL Z) W W'=ZL (kB Z W W'):=by
    funext b;refine propext ⟨fun hb=>?_,fun hb=>?_⟩
    ·rcases hb with(hb|hb)|hb
     ·exact .inl (.inl hb)
     ·exact .inr hb
     ·exact .inl (.inr hb)
    ·rcases hb with(hb|hb)|hb
     ·exact .inl (.inl hb)
     ·exact .inr hb
     ·exact .inl (.inr hb)
   rw[<-e];exact this
 have hyl:YZ P l S enc n J:=by
  rintro i Z W ⟨h1,h2,h3,h4,h5,h6⟩ hi;have hZl:ZL Z l:=.inr (.inl rfl);have hy:=run_yield (P:=P) (args:=#[enc i]) h3 (by rw[hr];simp[hps]);refine⟨_,_,_,_,hy,roundIn_of_wpIn (F:=Fence.wide) trivial ?_⟩;rw[hr];have htm:((ps.zip #[enc i]).foldl (fun tmps (t,a)=>tmps.setIfInBounds t a) a.tmps)=a.tmps.setIfInBounds p (enc i):=by rw[hps];simp
  dsimp only;rw[htm];refine wpIn_mono (hassign l i (ZL Z) W hZl h6 hi) ?_;rintro e a1 W1' ⟨rfl,hB1,hz1,hk1',hs1⟩;have hl1':W1'.heap[l]?=some (.loop (rec .ready none)):=(hz1 l hZl).trans h3;refine⟨_,run_beginRound hl1' (by rw[hr]),?_⟩;have hB2:=hB i (ZL Z) a1 W1' _ hB1 (xN (.loop {rec .ready none with state:=.busy }) hl1' (ZL Z) hZl);rw[wP (by simp)]at hB2;have hl2':(W1'.putObj l (.loop {rec .ready none with state:=.busy })).heap[l]?=some (.loop {rec .ready none with state:=.busy }):=World.putObj_heap_same (Array.getElem?_eq_some_iff.1 hl1').1;refine wpIn_mono (hbody l i (ZL Z) a1 _ hZl ⟨_,hl2'⟩ hB2 hi) ?_;rintro e a2 W3 ⟨rfl,hI3,hz3,hk3,hs3⟩;have hl3:W3.heap[l]?=some (.loop {rec .ready none with state:=.busy }):=(hz3 l hZl).trans hl2';refine⟨_,_,run_endRound none hl3,rfl,?_⟩;have hfin:(Go.Obj.loop {{rec .ready none with state:=.busy } with state:=if (none:Option Code).isNone then .ready else .done,pending:=none })=.loop (rec .ready none):=by rw[hr];rfl
  rw[hfin];have hl4:(W3.putObj l (.loop (rec .ready none))).heap[l]?=some (.loop (rec .ready none)):=World.putObj_heap_same (Array.getElem?_eq_some_iff.1 hl3).1;have hz:∀b,ZL Z b->b≠l->(W3.putObj l (.loop (rec .ready none))).heap[b]?=W.heap[b]?:=fun b hb hne=>(World.putObj_heap_other hne).trans ((hz3 b hb).trans ((World.putObj_heap_other hne).trans (hz1 b hb)))
  have hI4:=hst (i+1) (ZL Z) W3 _ hI3 (xN (.loop (rec .ready none)) hl3 (ZL Z) hZl);rw[wP (by simp)]at hI4;refine⟨⟨h1,h2,hl4,fun e=>(hz D (.inr (.inr rfl)) e).trans (h4 e),?_,hI4⟩,fun b hb=>hz b (.inl hb) (fun e=>h1 (e▸hb)),hk1'.trans ((FX hl1').trans (hk3.trans (FX hl3))),?_⟩
  ·simp at hs3 |-;omega
  ·simp at hs3 |-;omega
 have hc:=hit l J Z0 W1 (hk1.keeps fun b o hS=>⟨hSl b o hS,fun h=>h⟩) hk1.size (fun b hb=>Nat.lt_of_lt_of_le (hZ0 b hb) hk1.size) hstJ hyl hJ0;refine Q3 (hc.mono ?_);rintro e W3 ⟨⟨v,rfl⟩,Z',h1,h2,h3,h4,h5,h6⟩;have he:=run_endLoop (P:=P) h3 (by rw[hr];simp);have hI4:=hst n (ZL Z') W3 _ h6 (xN (.loop {rec .ready none with state:=.exhausted }) h3 (ZL Z') (.inr (.inl rfl)));rw[wP (by simp)]at hI4;have hW5:w.heap.size<=(W3.putObj l (.loop {rec .ready none with state:=.exhausted })).heap.size:=by simpa using h5
 have hW6:D≠l->(W3.putObj l (.loop {rec .ready none with state:=.exhausted })).heap[D]?=some (.deferred (some [])):=fun e=>(World.putObj_heap_other e).trans (h4 e)
 obtain⟨W4,hW4⟩:∃W4,W3.putObj l (.loop {rec .ready none with state:=.exhausted })=W4:=⟨_,rfl⟩;rw[hW4]at hI4 hW5 hW6;have hpe:(rec .ready none).pending=none:=by rw[hr]
 have he2:(Instr.endLoop l).run P W3=.ok none W4:=by
  rw[<-hW4];have:=he;rw[hpe]at this;subst hr;exact this
 exact⟨none,W4,he2,hdone (ZL Z') W4 hI4 (fun e=>⟨.inr (.inr rfl),hW6 e⟩) hW5⟩

theorem FY{P:Program}{ro:Option Nat}{g:Operand}{ps:Array Tmp}{assign body:Code}{Q:Exit->Act->World->Prop}{a:Act}{w:World}{k:FuncId}{vs:Array Value}{n:Nat}{enc:Nat->Value}{S:aO}{p:Nat}
  (hg:a.eval g=.func (.func k) #[] vs) (hk:∀args w,(callFunc k args).run P w=.ok (.enter k args) w) (hin:∀l0,ro=some l0->∃r0,w.heap[l0]?=some (.loop r0))
  (hps:ps = #[p]) (hit:Q4 P k vs n enc S w) (hSl:∀b o,S b o->b<w.heap.size)
  (I:JZ) (hst:M7 I) {Z0:Nat->Prop} (hZ0:∀b,Z0 b->b<w.heap.size) (h0:I 0 Z0 w)
  (B:Nat->(Nat->Prop)->Act->World->Prop) (hB:∀i Z a W W',B i Z a W->Kept Z W W'->B i (kB Z W W') a W')
  (hassign:∀l i Z W,Z l->I i Z W->i<n->assign.wpIn (cF (some l)) 0 P (fun e a1 W1=>e=.normal/\B i Z a1 W1/\CE S Z W W1) {tmps:=a.tmps.setIfInBounds p (enc i),defers:=[] } W)
  (hbody:∀l i Z a1 W1,Z l->(∃r,W1.heap[l]?=some (.loop r))->B i Z a1 W1->i<n->body.wpIn (cF (some l)) 0 P (fun e _ W'=>e=.normal/\I (i+1) Z W'/\CE S Z W1 W') a1 W1)
  (hdone:∀(D:Nat) Z W,I n Z W->(ro=none->Z D/\W.heap[D]?=some (.deferred (some [])))->w.heap.size<=W.heap.size->Q .normal (match ro with
    |none=>{a with defers:={target:=.collected D,args:=#[] }::a.defers }
    |some _=>a) W) :
  (Code.rangeFunc g ps assign body).wpIn (cF ro) 0 P Q a w:=by
 refine wpIn_rangeFunc ?_;intro fn hfn;have hround:(cF ro).round=ro:=rfl;rw[hround];cases ro with
 |none=>
  obtain⟨W1,hW1⟩:∃W1,(w.alloc (.deferred (some []))).alloc (.loop {state:=.ready,pending:=none,fn:=fn,tmps:=a.tmps,params:=ps,assign:=assign,body:=body,defers:=w.heap.size })=W1:=⟨_,rfl⟩;have hs1:W1.heap.size=w.heap.size+2:=by rw[<-hW1];simp
  refine⟨w.heap.size+1,[{target:=.collected w.heap.size,args:=#[] }],W1,{target:=.fn (.func k) vs,args:=#[.func (.yield (w.heap.size+1)) #[] #[]] },W1,k,#[.func (.yield (w.heap.size+1)) #[] #[]]++vs,W1,?_,?_,fun _ _=>trivial,?_,fun h=>by simp[cF,Fence.wide]at h,?_⟩
  ·rw[<-hW1];exact run_enterLoop_outer _ _ _ _ _
  ·simp only[resolve,hg];simp[go_sem]
  ·simp[invoke,go_sem,hk]
  ·refine CF (D:=w.heap.size) (fn:=fn) (df:=w.heap.size) hps hit hSl I hst hZ0 h0 B hB hassign hbody (by omega) (by omega) (by omega) (fun b h1 h2=>by omega) ?_ (fun _=>?_) ?_ (fun Z W h1 h2 h3=>hdone w.heap.size Z W h1 (fun _=>h2 (by omega)) h3)
   ·rw[<-hW1];have:=World.alloc_heap_new (w.alloc (.deferred (some []))) (.loop {state:=.ready,pending:=none,fn:=fn,tmps:=a.tmps,params:=ps,assign:=assign,body:=body,defers:=w.heap.size });rwa[World.size_alloc]at this
   ·rw[<-hW1];exact(ek (by simp)).trans (World.alloc_heap_new w _)
   ·rw[<-hW1];exact(sP w _).trans ((sP _ _))
 |some l0=>
  obtain⟨r0,hr0⟩:=hin l0 rfl;obtain⟨W1,hW1⟩:∃W1,w.alloc (.loop {state:=.ready,pending:=none,fn:=fn,tmps:=a.tmps,params:=ps,assign:=assign,body:=body,defers:=r0.defers })=W1:=⟨_,rfl⟩;have hs1:W1.heap.size=w.heap.size+1:=by rw[<-hW1];simp
  refine⟨w.heap.size,[],W1,{target:=.fn (.func k) vs,args:=#[.func (.yield w.heap.size) #[] #[]] },W1,k,#[.func (.yield w.heap.size) #[] #[]]++vs,W1,?_,?_,fun _ _=>trivial,?_,fun h=>by simp[cF,Fence.wide]at h,?_⟩
  ·rw[<-hW1];exact run_enterLoop_inner hr0 _ _ _ _ _
  ·simp only[resolve,hg];simp[go_sem]
  ·simp[invoke,go_sem,hk]
  ·refine CF (D:=w.heap.size) (fn:=fn) (df:=r0.defers) hps hit hSl I hst hZ0 h0 B hB hassign hbody (by omega) (by omega) (by omega) (fun b h1 h2=>by omega) ?_ (fun h=>absurd rfl h) ?_ (fun Z W h1 h2 h3=>hdone w.heap.size Z W h1 (fun h=>by cases h) h3)
   ·rw[<-hW1];exact World.alloc_heap_new w _
   ·rw[<-hW1];exact sP w _
end Go.Vs
namespace Go.Vs

def oO(σ:St)(a:Act)(W:World)(S:aO):Prop:=σ.objs=[]/\SimG W S Ctx.nothing σ a W S (fun _=>Go.undef) (fun _=>none)
theorem ar.bare{w:World}{S:aO}{μ μ':Nat->Value}(x:SV)(v:Value)(h:ar w S μ [] x v):ar w S μ' [] x v:=
 ar.same (fun id cells hc=>by simp[ac]at hc) (fun id cv s rows hc=>by simp[ac]at hc) (fun id s p hc=>by simp[ac]at hc) x v h
theorem oO.of{w0 W:World}{S0 S:aO}{M:Ctx}{σ:St}{a:Act}{μ:Nat->Value}{β:Nat->Option Nat}(h:SimG w0 S0 M σ a W S μ β)(ho:σ.objs=[])(hd:M.df=[]):oO σ a W S:=
 ⟨ho,{defers:=h.defers.trans hd,size:=h.size,env:=fun k=>by have:=h.env k;rw[ho]at this |-;exact ar.bare _ _ this,objs:=fun id o hl=>by rw[ho]at hl;simp[ac]at hl,inj:=fun id id' o o' b hl=>by rw[ho]at hl;simp[ac]at hl,own:=fun id o b hl=>by rw[ho]at hl;simp[ac]at hl,unst:=fun id o b off hl=>by rw[ho]at hl;simp[ac]at hl,stab:=h.stab,ext:=fun _ _ x=>x,back:=fun _ _ x=>.inl x,kept:=Kept.refl _ _,stay:=fun _ _ _=>rfl,hist:=fun p hp=>by simp[Ctx.nothing]at hp,far:=fun p hp=>by simp[Ctx.nothing]at hp,glob:=h.glob }⟩
theorem oO.keeps{σ:St}{a:Act}{W W':World}{S:aO}(h:oO σ a W S)(hk:bv S W W')(hs:W.heap.size<=W'.heap.size):oO σ a W' S:=by
 obtain⟨ho,h⟩:=h;exact⟨ho,{defers:=h.defers,size:=h.size,env:=fun k=>ar.mono hk (fun _ _ x=>x) _ _ (h.env k),objs:=fun id o hl=>by rw[ho]at hl;simp[ac]at hl,inj:=fun id id' o o' b hl=>by rw[ho]at hl;simp[ac]at hl,own:=fun id o b hl=>by rw[ho]at hl;simp[ac]at hl,unst:=fun id o b off hl=>by rw[ho]at hl;simp[ac]at hl,stab:=fun b o hS=>Nat.lt_of_lt_of_le (h.stab b o hS) hs,ext:=fun _ _ x=>x,back:=fun _ _ x=>.inl x,kept:=Kept.refl _ _,stay:=fun _ _ _=>rfl,hist:=fun p hp=>by simp[Ctx.nothing]at hp,far:=fun p hp=>by simp[Ctx.nothing]at hp,glob:=fun p hp=>gG.mono hk (fun _ _ x=>x) (h.glob p hp) }⟩
theorem oO.put{σ:St}{a:Act}{W:World}{S:aO}(h:oO σ a W S){d:Nat}{x:IV}{v:Value}(hd:d<σ.n)(hv:nJ W S x v):oO {σ with env:=put σ.env d (.val x) } (a.put (some d) v) W S:=
 ⟨h.1,h.2.put hd hv⟩
theorem oO.piece{P:Program}{c:Code}{Q:Exit->St->Prop}{σ:St}{a:Act}{W:World}{S:aO}{ro:Option Nat}(hT:TR P c (fun e σ'=>∃σ1,Q e σ1/\σ1.objs=[]/\cR σ' σ1) σ)(h:oO σ a W S) :
  c.wpIn (cF ro) 0 P (fun e a' W'=>∃σ1 S',Q e σ1/\σ1.n=σ.n/\oO σ1 a' W' S'/\(∀b o,S b o->S' b o)/\(∀b o,S' b o->S b o\/W.heap.size<=b)/\Kept (fun _=>False) W W') a W:=by
 refine wpIn_mono (hT ro W S _ a W ⟨S,_,_,h.2⟩) (fun e a' W' hl=>?_)
 have fin:∀σ',(∃σ1,Q e σ1/\σ1.objs=[]/\cR σ' σ1)->σ'.n=σ.n->cE W S Ctx.nothing σ' a' W'->∃σ1 S',Q e σ1/\σ1.n=σ.n/\oO σ1 a' W' S'/\(∀b o,S b o->S' b o)/\(∀b o,S' b o->S b o\/W.heap.size<=b)/\Kept (fun _=>False) W W':=by
  rintro σ' ⟨σ1,h1,h2,h3⟩ hn hs;have hs1:=h3 _ _ _ _ _ hs;have hn1:=Uf hs hs1;obtain⟨S',μ',β',k⟩:=hs1;refine⟨σ1,S',h1,hn1.trans hn,oO.of k h2 rfl,k.ext,fun b o hS=>?_,k.kept⟩;rcases k.back b o hS with q|q|q
  ·exact .inl q
  ·exact .inr q
  ·exact q.elim
 cases e<;>first|exact hl.elim|(obtain⟨σ',q1,q2,q3⟩:=hl;exact fin σ' q1 q2 q3)
theorem xO{σ:St}{k id:Nat}{cells:List IV}(hk:aC σ.env k=.loc id 0)(hl:ac σ.objs id=some (.box (cells.map .val))) :
  cR σ {σ with env:=Vs.put σ.env k (.val (.ref cells)),ro:=id::σ.ro }:=by
 rintro w0 S0 M a w ⟨S,μ,β,h⟩;have hrel:=h.env k;rw[hk]at hrel;obtain⟨b,vs,e,fr,h1,h2,h3,h4,h5,h6⟩:=j7 h hl hrel;have h7:=h.freeze [id];refine⟨_,μ,β,{h7 with env:=fun k'=>?_ }⟩;show ar w _ μ σ.objs (aC (Vs.put σ.env k (.val (.ref cells))) k') _;rw[ku];split
 ·next e=>
  subst e;refine⟨b,0,h3,aH.intro (vs:=vs.toList) (ae.mono (bv.refl _ _) (fun _ _ x=>.inl x) _ _ (aj.toRep h6)) (fun j hj=>.inr ⟨id,_,by simp,hl,h1,?_⟩) (fun j v hj=>?_)⟩
  ·intro ver s rows e;cases e
  ·rw[dI h4];rw[Array.getElem?_toList]at hj;simpa using hj
 ·exact h7.env k'

/- YIELD. -/
theorem V7{ro:Option Nat}{P:Program}{l:Nat}{f:FuncId}{tmps:Array Value}{assign body:Code}{w:World}{R:Ending->World->Prop}(h:RoundIn Fence.wide 0 P l f tmps assign body w R):RoundIn (cF ro) (0-1) P l f tmps assign body w R:=by
 cases ro with
 |none=>exact h
 |some l'=>exact h
theorem Q5{P:Program}{ro:Option Nat}{o:Oper}{c:Call}{f x:Operand}{a:Act}{W:World}{l:Nat}{v:Value}{R:Ending->World->Prop}{next:Act->World->Prop}{Q:Exit->Act->World->Prop}
  (ho:o.op=.call c) (hcl:c.callee=.value f) (hargs:c.args = #[x]) (hf:a.eval f=.func (.yield l) #[] #[]) (hx:a.eval x=v)
  (hy:YieldAt Fence.wide 0 P l #[v] W R) (hR:∀e W',R e W'->e=.returned (.bool true)/\next (a.put o.dst (.bool true)) W'):o.wpIn (cF ro) 0 P a W next Q:=by
 refine⟨fun _ _=>trivial,?_⟩;have hro:(cF ro).round=ro:=rfl;rw[hro,Oper.semAt_eq _ _ _ (by intro c' hc;rw[ho]at hc;cases hc)];obtain⟨fn,tmps,assign,body,hy1,hy2⟩:=hy
 have hrun:(execOp a.eval o).run P W=.ok (.round l fn tmps assign body) W:=by
  simp only[execOp,ho,resolve,hcl,hargs,hf,Deferred.ofValue,Sem.run_bind,Sem.run_pure,Result.andThen_ok,invoke];simpa[hx]using hy1
 rw[hrun,Oper.uponIn_round];refine⟨fun h=>by simp[cF,Fence.wide]at h,(V7 hy2).mono fun e W' hr=>?_⟩;obtain⟨rfl,hn⟩:=hR _ _ hr;exact hn
theorem M8{P:Program}{ro:Option Nat}{w0:World}{S0:aO}{M:Ctx}{ops:Array Oper}{vs:List VOper}(hc:bO P ops ops.toList=some (aI vs))(hnd:jt ops.toList=true){n:Nat}{Q:Exit->Act->World->Prop}(hQ:∀a w,¬Q .outgrown a w){K:St->Prop}{rest:List Nat}
  (hQ2:∀σ' a' w',K σ'->σ'.n=n->cE w0 S0 M σ' a' w'->wpOpsIn (cF ro) 0 P ops Q rest a' w'):∀(l:List VOper) (k:Nat) (σ':St) (a:Act) (w:World),(∀i,i<l.length->l[i]?=vs[k+i]?)->σ'.n=n->cE w0 S0 M σ' a w->(∀v∈l,∀d,v.dst=some d->d<n)->gg P K l σ'->wpOpsIn (cF ro) 0 P ops Q (List.range' k l.length++rest) a w:=by
 obtain⟨hlen,hget⟩:=cQ hc;rw[fu]at hlen;intro l
 induction l with
 |nil=>
  intro k σ' a w _ hn h _ hs;exact hQ2 σ' a w hs hn h
 |cons v r ih=>
  intro k σ' a w hl hn h hd hs;have hv:vs[k]?=some v:=by simpa using (hl 0 (by simp)).symm
  have hk:k<ops.toList.length:=by
   rw[<-hlen];rcases Nat.lt_or_ge k vs.length with hh|hh
   ·exact hh
   ·simp[List.getElem?_eq_none hh]at hv
  obtain⟨v',hv',hcv⟩:=hget k ops.toList[k] (List.getElem?_eq_getElem hk);rw[gP,hv]at hv';obtain rfl:v'=v.strip:=(O_ hv').symm;simp only[List.length_cons,List.range'_succ,List.cons_append];rw[wpOpsIn_cons];refine H8 (Q:=Q) hQ hnd (fun a' w' h'=>h') (ma (Q:=Q) (o:=ops.toList[k]) (by rw[<-Array.getElem?_toList];exact List.getElem?_eq_getElem hk) hcv h (fun d hdd=>by rw[hn];exact hd v (by simp) d hdd) hs (fun σ'' a' w' h1 hn' h'=>?_));exact ih (k+1) σ'' a' w' (fun i hi=>by have:=hl (i+1) (by simp;omega);simpa[Nat.add_assoc,Nat.add_comm 1 i]using this) (hn'.trans hn) h' (fun x hx d hxd=>hd x (List.mem_cons_of_mem _ hx) d hxd) h1
end Go.Vs
namespace Go.Vs

def At(J:JZ)(S0:aO)(Wb:World)(Zb:Nat->Prop)(σ:St)(p:Nat)(a:Act)(W:World):Prop:=
 ∃Z S,J p Z W/\(∀b,Z b->b<W.heap.size)/\oO σ a W S/\(∀b o,S b o->S0 b o\/Z b)/\(∀b,Zb b->Z b/\W.heap[b]?=Wb.heap[b]?)/\bv S0 Wb W/\Wb.heap.size<=W.heap.size
section
variable {P:Program} {J:JZ} {S0:aO} {Wb:World} {Zb:Nat->Prop} {l n:Nat} {enc:Nat->Value}
theorem At.base{σ:St}{p:Nat}{a:Act}{W:World}{Z:Nat->Prop}{S:aO}(h1:J p Z W)(h2:∀b,Z b->b<W.heap.size)(h3:oO σ a W S)(h4:∀b o,S b o->S0 b o\/Z b):At J S0 W Z σ p a W:=
 ⟨Z,S,h1,h2,h3,h4,fun b hb=>⟨hb,rfl⟩,bv.refl _ _,Nat.le_refl _⟩
theorem At.move{σ:St}{p p':Nat}{a:Act}{W W':World}(h:At J S0 Wb Zb σ p a W)(hj:∀Z,J p Z W->(∀b,Z b->b<W.heap.size)->∃Z',J p' Z' W'/\(∀b,Z' b->b<W'.heap.size)/\(∀b,Z b->Z' b/\W'.heap[b]?=W.heap[b]?))(hk:bv S0 W W')(hs:W.heap.size<=W'.heap.size)(hsh:∀k x,W.shape? k=some x->W'.shape? k=some x):At J S0 Wb Zb σ p' a W':=by
 obtain⟨Z,S,h1,h2,h3,h4,h5,h6,h7⟩:=h;obtain⟨Z',k1,k2,k3⟩:=hj Z h1 h2;refine⟨Z',S,k1,k2,h3.keeps ⟨fun b o hS=>?_,hsh⟩ hs,fun b o hS=>(h4 b o hS).imp _root_.id (fun hz=>(k3 b hz).1),fun b hb=>⟨(k3 b (h5 b hb).1).1,(k3 b (h5 b hb).1).2.trans (h5 b hb).2⟩,h6.trans hk,Nat.le_trans h7 hs⟩;rcases h4 b o hS with q|q
 ·exact hk.1 b o q
 ·exact bF (k3 b q).2 o
theorem At.piece{c:Code}{Q:Exit->St->Prop}{σ:St}{p:Nat}{a:Act}{W:World}{ro:Option Nat}(hst:M7 J)(hS0:∀b o,S0 b o->b<W.heap.size)(hT:TR P c (fun e σ'=>∃σ1,Q e σ1/\σ1.objs=[]/\cR σ' σ1) σ)(h:At J S0 Wb Zb σ p a W) :
  c.wpIn (cF ro) 0 P (fun e a' W'=>∃σ1,Q e σ1/\σ1.n=σ.n/\At J S0 Wb Zb σ1 p a' W'/\Kept (fun _=>False) W W') a W:=by
 obtain⟨Z,S,h1,h2,h3,h4,h5,h6,h7⟩:=h;refine wpIn_mono (h3.piece hT) ?_;rintro e a' W' ⟨σ1,S',k1,k2,k3,k4,k5,k6⟩;have hz:∀b,Z b->W'.heap[b]?=W.heap[b]?:=fun b hb=>k6.block b (h2 b hb) (fun x=>x)
 refine⟨σ1,k1,k2,⟨kB Z W W',S',hst p Z W W' h1 (k6.weaken fun _ x=>x.elim),?_,k3,fun b o hS=>?_,fun b hb=>⟨.inl (h5 b hb).1,(hz b (h5 b hb).1).trans (h5 b hb).2⟩,h6.trans (k6.keeps fun b o hS=>⟨hS0 b o hS,fun x=>x⟩),Nat.le_trans h7 k6.size⟩,k6⟩
 ·rintro b (hb|hb)
  ·exact Nat.lt_of_lt_of_le (h2 b hb) k6.size
  ·exact hb.2
 ·rcases k5 b o hS with q|q
  ·rcases h4 b o q with q|q
   ·exact .inl q
   ·exact .inr (.inl q)
  ·exact .inr (.inr ⟨q,k3.2.stab b o hS⟩)
theorem At.yielded{id:Nat}{os:Array Oper}{pre post:List VOper}{y:VOper}{f x:Opd}{d:Nat}{σ σ1:St}{K:St->Prop}{t:Int}{p:Nat}{a:Act}{W:World}{ro:Option Nat}
  (hst:M7 J) (hyz:YZ P l S0 enc n J) (hS0:∀b o,S0 b o->b<W.heap.size)
  (hc:bO P os os.toList=some (aI (pre++y::post))) (hnd:jt os.toList=true) (hbnd:nY σ.n (pre++y::post)=true)
  (hy0:y.op=.callV f [x]) (hyd:y.dst=some d) (hyg:y.guard=none\/∃g,y.guard=some (g,true)/\aC σ1.env g=.val (.bool true))
  (hpre:gg P (fun σ'=>σ'=σ1) pre σ) (ho1:σ1.objs=[]) (hf:val σ1 f=.val (.yld l)) (hx:val σ1 x=.val (.int .i64 t)) (ht:enc p=.int .i64 t) (hp:p<n)
  (hpost:gg P (fun σ'=>∃σ3,K σ3/\σ3.objs=[]/\cR σ' σ3) post {σ1 with env:=Vs.put σ1.env d (.val (.bool true)) }) (h:At J S0 Wb Zb σ p a W) :
  (Code.region id os false).wpIn (cF ro) 0 P (fun e a' W'=>e=.normal/\∃σ3,K σ3/\σ3.n=σ.n/\At J S0 Wb Zb σ3 (p+1) a' W') a W:=by
 obtain⟨hlen,hget⟩:=cQ hc;rw[fu]at hlen
 have hsize:os.size=pre.length+1+post.length:=by
  have:os.toList.length=os.size:=by simp
  rw[<-this,<-hlen];simp;omega
 have hQ:∀a' w',¬(fun(e:Exit) (a':Act) (W':World)=>e=Exit.normal/\∃σ3,K σ3/\σ3.n=σ.n/\At J S0 Wb Zb σ3 (p+1) a' W') .outgrown a' w':=by
  rintro a' w' ⟨h,_⟩;cases h
 refine wpIn_region ?_
 have hr:List.range os.size=List.range' 0 pre.length++(pre.length::(List.range' (pre.length+1) post.length++[])):=by
  rw[hsize,List.range_eq_range',List.append_nil,show pre.length+1+post.length=pre.length+(1+post.length) by omega,<-List.range'_append_1,Nat.zero_add];congr 1;rw[show 1+post.length=post.length+1 by omega,List.range'_succ]
 rw[hr];have hdb:=gI hbnd;obtain⟨Z,S,h1,h2,h3,h4,h5,h6,h7⟩:=h;refine M8 (w0:=W) (S0:=S) (M:=Ctx.nothing) (n:=σ.n) (K:=fun σ'=>σ'=σ1) hc hnd hQ ?_ pre 0 σ a W (fun i hi=>by rw[Nat.zero_add,List.getElem?_append_left hi]) rfl ⟨S,_,_,h3.2⟩ (fun v hv=>hdb v (by simp[hv])) hpre;rintro σ' a1 W1 hσ hn1 ⟨S1,μ1,β1,hs1⟩;obtain rfl:σ1=σ':=hσ.symm;have hE1:=oO.of hs1 ho1 rfl;have hk1:Kept (fun _=>False) W W1:=hs1.kept;have hz1:∀b,Z b->W1.heap[b]?=W.heap[b]?:=fun b hb=>hk1.block b (h2 b hb) (fun x=>x)
 have hJ1:=hst p Z W W1 h1 (hk1.weaken fun _ x=>x.elim)
 have hS1:∀b o,S1 b o->S0 b o\/kB Z W W1 b:=fun b o hS=>by
  rcases hs1.back b o hS with q|q|q
  ·rcases h4 b o q with q|q
   ·exact .inl q
   ·exact .inr (.inl q)
  ·exact .inr (.inr ⟨q,hs1.stab b o hS⟩)
  ·exact q.elim
 have hlt:pre.length<os.toList.length:=by rw[<-hlen];simp
 obtain⟨v,hv1,hv2⟩:=hget pre.length _ (List.getElem?_eq_getElem hlt)
 obtain rfl:v=y.strip:=by
  rw[gP,List.getElem?_append_right (Nat.le_refl _)]at hv1;simpa using hv1.symm
 have ho:os[pre.length]?=some os.toList[pre.length]:=by rw[<-Array.getElem?_toList];exact List.getElem?_eq_getElem hlt
 obtain⟨oo,hoo⟩:∃oo,os.toList[pre.length]=oo:=⟨_,rfl⟩;rw[hoo]at ho hv2;obtain⟨q1,q2,q3⟩:=eE hv2;have q1:oo.dst=some d:=by rw[<-q1];exact hyd
 have q2:lr P oo.op=some (.callV f [x]):=by rw[q2];show some y.op.strip=_;rw[hy0];rfl
 have q3:gb os oo.guard=some y.guard:=q3;obtain⟨c,hoc,hcc⟩:=m9 q2 (.inr ⟨_,_,rfl⟩);obtain⟨f',hcl,hf',hargs⟩:=(iK hcc).2 _ _ rfl
 obtain⟨x',hx1,hx2⟩:∃x',c.args = #[x']/\ai x'=some x:=by
  cases hal:c.args.toList with
  |nil=>rw[hal]at hargs;simp[cP]at hargs
  |cons z r=>
   rw[hal]at hargs;simp only[cP]at hargs;split at hargs
   ·next u us g1 g2=>
    simp only[E_,List.cons.injEq]at hargs;obtain⟨rfl,rfl⟩:=hargs
    have hr:r=[]:=by
     cases r with
     |nil=>rfl
     |cons z' r'=>
      simp only[cP]at g2;split at g2<;>simp at g2
    subst hr;exact⟨z,by apply Array.toList_inj.1;rw[hal],g1⟩
   ·simp at hargs
 have hev:a1.eval f'=.func (.yield l) #[] #[]:=by
  have:=ak hs1 hf';rw[hf]at this;exact this
 have hex:a1.eval x'=enc p:=by
  have:=ak hs1 hx2;rw[hx]at this;rw[ht];exact this
 have hw:Region.wanted oo (Go.yielded os a1.tmps)=true:=by
  cases hgo:oo.guard with
  |none=>simp[Region.wanted,hgo]
  |some pr=>
   obtain⟨j,b⟩:=pr;rw[hgo]at q3;simp only[gb]at q3;split at q3
   ·next g hg=>
    rcases hyg with hyg|⟨g',hyg,hge⟩
    ·rw[hyg]at q3;simp at q3
    ·rw[hyg]at q3;simp only[E_,Prod.mk.injEq]at q3;obtain⟨rfl,rfl⟩:=q3;have hgv:Go.yielded os a1.tmps j=some true:=qN hg (w0:=W) (S0:=S) (M:=Ctx.nothing) ⟨S1,μ1,β1,hs1⟩ (by rw[hge];rfl);simp[Region.wanted,hgo,hgv]
   ·simp at q3
 rw[wpOpsIn_cons];unfold wpOpIn;rw[ho];dsimp only;rw[if_pos hw];refine Q5 hoc hcl hx1 hev hex (hyz p _ W1 hJ1 hp) ?_;rintro e W2 ⟨rfl,hJ2,hz2,hk2,hsz2⟩;refine⟨rfl,?_⟩
 have hE2:oO σ1 a1 W2 S1:=hE1.keeps ⟨fun b o hS=>by
  rcases hS1 b o hS with q|q
  ·exact hk2.1 b o q
  ·exact bF (hz2 b q) o,hk2.2⟩ hsz2
 have hdn:d<σ1.n:=by rw[hn1];exact hdb y (by simp) d hyd
 have hE3:=hE2.put (x:=.bool true) (v:=.bool true) hdn rfl;rw[q1]
 refine M8 (w0:=W2) (S0:=S1) (M:=Ctx.nothing) (n:=σ.n) hc hnd hQ ?_ post (pre.length+1) {σ1 with env:=Vs.put σ1.env d (.val (.bool true)) } _ W2 (fun i hi=>by
  rw[List.getElem?_append_right (by omega),show pre.length+1+i-pre.length=i+1 by omega];rfl) hn1 ⟨S1,_,_,hE3.2⟩ (fun v hv=>hdb v (by simp[hv])) hpost
 rintro σ4 a4 W4 ⟨σ3,g1,g2,g3⟩ hn4 hs4;have hs3:=g3 _ _ _ _ _ hs4;have hn3:=Uf hs4 hs3;obtain⟨S3,μ3,β3,k⟩:=hs3;have hk4:Kept (fun _=>False) W2 W4:=k.kept
 have hbd:∀b,kB Z W W1 b->b<W2.heap.size:=by
  rintro b (hb|hb)
  ·have:=h2 b hb;have:=hk1.size;omega
  ·omega
 refine⟨rfl,σ3,g1,hn3.trans hn4,kB (kB Z W W1) W2 W4,S3,hst (p+1) _ W2 W4 hJ2 (hk4.weaken fun _ x=>x.elim),?_,oO.of k g2 rfl,fun b o hS=>?_,fun b hb=>?_,?_,?_⟩
 ·rintro b (hb|hb)
  ·have:=hbd b hb;have:=hk4.size;omega
  ·exact hb.2
 ·rcases k.back b o hS with q|q|q
  ·rcases hS1 b o q with q|q
   ·exact .inl q
   ·exact .inr (.inl q)
  ·exact .inr (.inr ⟨q,k.stab b o hS⟩)
  ·exact q.elim
 ·have e1:kB Z W W1 b:=.inl (h5 b hb).1;refine⟨.inl e1,?_⟩;rw[hk4.block b (hbd b e1) (fun x=>x),hz2 b e1,hz1 b (h5 b hb).1];exact(h5 b hb).2
 ·exact h6.trans ((hk1.keeps fun b o hS=>⟨hS0 b o hS,fun x=>x⟩).trans (hk2.trans (hk4.keeps fun b o hS=>⟨by have:=hS0 b o hS;have:=hk1.size;omega,fun x=>x⟩)))
 ·have:=hk1.size;have:=hk4.size;omega
end
end Go.Vs
namespace Go.Vs
def L9(P:Program)(k:FuncId)(caps:List IV)(m:Nat)(enc:Nat->Value):Prop:=∀(W:World) (S:aO) (vs:Array Value),(∀b o,S b o->b<W.heap.size)->bc W S caps vs.toList->Q4 P k vs m enc S W
section
variable {P:Program} {J:JZ} {S0:aO} {Wb:World} {Zb:Nat->Prop}
theorem At.range{ro:Option Nat}{tg pp:Nat}{ps:Array Tmp}{assign body:Code}{k:FuncId}{caps:List IV}{m:Nat}{elem:Nat->Int}{σ:St}{σb:Nat->St}{pi:Nat->Nat}{a:Act}{W:World}
  (hst:M7 J) (hS0:∀b o,S0 b o->b<Wb.heap.size) (hg:aC σ.env tg=.val (.fn k caps)) (htg:tg<σ.n) (hpp:pp<σ.n) (hps:ps = #[pp]) (hk:∀args w,(callFunc k args).run P w=.ok (.enter k args) w)
  (hit:L9 P k caps m fun i=>.int .i64 (elem i)) (hin:∀l0,ro=some l0->∃r0,W.heap[l0]?=some (.loop r0))
  (hassign:∀i,i<m->TR P assign (fun e σ'=>∃σ1,(e=.normal/\σ1=σb i)/\σ1.objs=[]/\cR σ' σ1) {σ with env:=Vs.put σ.env pp (.val (.int .i64 (elem i))) })
  (hbody:∀i,i<m->∀(l:Nat) (Wb':World) (Zb':Nat->Prop) (a':Act) (W':World),(∃r,W'.heap[l]?=some (.loop r))->(∀b o,S0 b o->b<Wb'.heap.size)->At J S0 Wb' Zb' (σb i) (pi i) a' W'->body.wpIn (cF (some l)) 0 P (fun e a'' W''=>e=.normal/\∃σ3,At J S0 Wb' Zb' σ3 (pi (i+1)) a'' W'') a' W')
  (h:At J S0 Wb Zb σ (pi 0) a W) :
  (Code.rangeFunc (.tmp tg) ps assign body).wpIn (cF ro) 0 P (fun e a' W'=>e=.normal/\(match ro with
    |some _=>At J S0 Wb Zb σ (pi m) a' W'
    |none=>∃Z' D,J (pi m) Z' W'/\Z' D/\a'.defers=[{target:=.collected D,args:=#[] }]/\W'.heap[D]?=some (.deferred (some [])))) a W:=by
 obtain⟨Ze,S,h1,h2,h3,h4,h5,h6,h7⟩:=h;have hS0W:∀b o,S0 b o->b<W.heap.size:=fun b o hS=>Nat.lt_of_lt_of_le (hS0 b o hS) h7
 have hstab:=h3.2.stab;have hdf:a.defers=[]:=h3.2.defers;have hsz:a.tmps.size=σ.n:=h3.2.size
 obtain⟨vs,hvs,hrep⟩:∃vs,a.eval (.tmp tg)=.func (.func k) #[] vs/\bc W S caps vs.toList:=by
  have:=h3.2.env tg;rw[hg]at this;obtain⟨vs,e1,e2⟩:=this;refine⟨vs,?_,e2⟩;have hlt:tg<a.tmps.size:=by rw[hsz];exact htg
  simp[Array.getD,hlt]at e1;simp[Act.eval,hlt,e1]
 let Jb:Nat->(Nat->Prop)->World->Prop:=fun p Zo W'=>J p Zo W'/\(∀b,Zo b->b<W'.heap.size)/\(∀b,Ze b->Zo b/\W'.heap[b]?=W.heap[b]?)/\bv S0 W W'/\W.heap.size<=W'.heap.size
 let I:JZ:=fun i Z1 W'=>∃Zo,Jb (pi i) Zo W'/\(∀b,Z1 b->Zo b)/\∀b,Z1 b->W.heap.size<=b
 have jst:∀ {p:Nat} {Zo Z1:Nat->Prop} {W1 W2:World},Jb p Zo W1->(∀b,Z1 b->Zo b)->(∀b,Z1 b->W.heap.size<=b)->Kept Z1 W1 W2->Jb p (kB Zo W1 W2) W2:=by
  rintro p Zo Z1 W1 W2 ⟨j1,j2,j3,j4,j5⟩ hz hzw hk;refine⟨hst p Zo W1 W2 j1 (hk.weaken hz),?_,fun b hb=>⟨.inl (j3 b hb).1,?_⟩,j4.trans (hk.keeps fun b o hS=>⟨Nat.lt_of_lt_of_le (hS0W b o hS) j5,fun hz'=>by have:=hzw b hz';have:=hS0W b o hS;omega⟩),Nat.le_trans j5 hk.size⟩
  ·rintro b (hb|hb)
   ·exact Nat.lt_of_lt_of_le (j2 b hb) hk.size
   ·exact hb.2
  ·exact(hk.block b (j2 b (j3 b hb).1) (fun hz'=>by have:=hzw b hz';have:=h2 b hb;omega)).trans (j3 b hb).2
 have gz:∀ {Zo Z1:Nat->Prop} {W1 W2:World},(∀b,Z1 b->Zo b)->∀b,kB Z1 W1 W2 b->kB Zo W1 W2 b:=fun hz b hb=>hb.imp (hz b) _root_.id
 have gw:∀ {Z1:Nat->Prop} {W1 W2:World},W.heap.size<=W1.heap.size->(∀b,Z1 b->W.heap.size<=b)->∀b,kB Z1 W1 W2 b->W.heap.size<=b:=fun hs hz b hb=>hb.elim (hz b) (fun hb=>Nat.le_trans hs hb.1)
 have xE:∀ {p:Nat} {Zo:Nat->Prop} {W':World},Jb p Zo W'->oO σ a W' S:=by
  rintro p Zo W' ⟨j1,j2,j3,j4,j5⟩;refine h3.keeps ⟨fun b o hS=>?_,j4.2⟩ j5;rcases h4 b o hS with q|q
  ·exact j4.1 b o q
  ·exact bF (j3 b q).2 o
 let B:Nat->(Nat->Prop)->Act->World->Prop:=fun i Z1 a1 W1=>∃Zo S1,Jb (pi i) Zo W1/\(∀b,Z1 b->Zo b)/\(∀b,Z1 b->W.heap.size<=b)/\oO (σb i) a1 W1 S1/\∀b o,S1 b o->(S0 b o\/Zo b)/\¬Z1 b
 have hI0:I 0 (fun _=>False) W:=⟨Ze,⟨h1,h2,fun b hb=>⟨hb,rfl⟩,bv.refl _ _,Nat.le_refl _⟩,fun b hb=>hb.elim,fun b hb=>hb.elim⟩;refine FY (S:=S) (p:=pp) hvs hk hin hps (hit W S vs hstab hrep) hstab I ?_ (Z0:=fun _=>False) (fun b hb=>hb.elim) hI0 B ?_ ?_ ?_ ?_
 ·rintro i Z1 W1 W2 ⟨Zo,j,hz,hzw⟩ hk';exact⟨_,jst j hz hzw hk',gz hz,gw j.2.2.2.2 hzw⟩
 ·rintro i Z1 a1 W1 W2 ⟨Zo,S1,j,hz,hzw,he,hs1⟩ hk';refine⟨_,S1,jst j hz hzw hk',gz hz,gw j.2.2.2.2 hzw,he.keeps (hk'.keeps fun b o hS=>⟨he.2.stab b o hS,(hs1 b o hS).2⟩) hk'.size,fun b o hS=>⟨(hs1 b o hS).1.imp _root_.id .inl,?_⟩⟩;rintro(hb|hb)
  ·exact(hs1 b o hS).2 hb
  ·have:=he.2.stab b o hS;omega
 ·rintro l i Z1 W1 hl ⟨Zo,j,hz,hzw⟩ hi;have he:=xE j;have hep:=he.put (d:=pp) (x:=.int .i64 (elem i)) (v:=.int .i64 (elem i)) hpp rfl
  have hact:a.put (some pp) (.int .i64 (elem i)) = {tmps:=a.tmps.setIfInBounds pp (.int .i64 (elem i)),defers:=[] }:=by
   simp[Act.put,hdf]
  rw[hact]at hep;refine wpIn_mono (hep.piece (hassign i hi)) ?_;rintro e a1 W2 ⟨σ1,S1,⟨rfl,rfl⟩,hn,k1,k2,k3,k4⟩;have k4':Kept Z1 W1 W2:=k4.weaken fun _ x=>x.elim
  refine⟨rfl,⟨_,S1,jst j hz hzw k4',fun b hb=>.inl (hz b hb),hzw,k1,fun b o hS=>?_⟩,fun b hb=>k4.block b (j.2.1 b (hz b hb)) (fun x=>x),k4.keeps fun b o hS=>⟨Nat.lt_of_lt_of_le (hstab b o hS) j.2.2.2.2,fun x=>x⟩,k4.size⟩;rcases k3 b o hS with q|q
  ·refine⟨(h4 b o q).imp _root_.id (fun hz'=>.inl (j.2.2.1 b hz').1),fun hb=>?_⟩;have:=hzw b hb;have:=hstab b o q;omega
  ·refine⟨.inr (.inr ⟨q,k1.2.stab b o hS⟩),fun hb=>?_⟩;have:=j.2.1 b (hz b hb);omega
 ·rintro l i Z1 a1 W1 hl hr ⟨Zo,S1,j,hz,hzw,he,hs1⟩ hi;have hat:At J S0 W1 Zo (σb i) (pi i) a1 W1:=At.base j.1 j.2.1 he (fun b o hS=>(hs1 b o hS).1);refine wpIn_mono (hbody i hi l W1 Zo a1 W1 hr (fun b o hS=>Nat.lt_of_lt_of_le (hS0W b o hS) j.2.2.2.2) hat) ?_;rintro e a2 W2 ⟨rfl,σ3,Z',S',g1,g2,g3,g4,g5,g6,g7⟩;refine⟨rfl,⟨Z',⟨g1,g2,fun b hb=>⟨(g5 b (j.2.2.1 b hb).1).1,(g5 b (j.2.2.1 b hb).1).2.trans (j.2.2.1 b hb).2⟩,j.2.2.2.1.trans g6,Nat.le_trans j.2.2.2.2 g7⟩,fun b hb=>(g5 b (hz b hb)).1,hzw⟩,fun b hb=>(g5 b (hz b hb)).2,⟨fun b o hS=>?_,g6.2⟩,g7⟩;rcases h4 b o hS with q|q
  ·exact g6.1 b o q
  ·exact bF (g5 b (j.2.2.1 b q).1).2 o
 ·rintro D Z1 W' ⟨Zo,j,hz,hzw⟩ hD hs;refine⟨rfl,?_⟩;cases ro with
  |none=>exact⟨Zo,D,j.1,hz D (hD rfl).1,by rw[hdf],(hD rfl).2⟩
  |some l0=>
   have he:=xE j;exact⟨Zo,S,j.1,j.2.1,he,fun b o hS=>(h4 b o hS).imp _root_.id (fun q=>(j.2.2.1 b q).1),fun b hb=>⟨(j.2.2.1 b (h5 b hb).1).1,(j.2.2.1 b (h5 b hb).1).2.trans (h5 b hb).2⟩,h6.trans j.2.2.2.1,Nat.le_trans h7 j.2.2.2.2⟩
end
end Go.Vs
namespace Go.Vs
/- The parts of code, by those of the small code. -/
def VOp.fair:VOp->Bool
 |.bad=>false
 |_=>true
def xP:List VOper->Bool
 |[]=>true
 |o::r=>VOp.fair o.op&&xP r
def VCode.fair:VCode->Bool
 |.region ops _ _=>xP ops
 |.seq a b=>a.fair&&b.fair
 |.cond _ a b=>a.fair&&b.fair
 |.block _ a=>a.fair
 |_=>true
theorem Ap:∀ {l:List VOper},xP l=true->∀v∈l,VOp.fair v.op=true
 |[],_,v,hv=>by simp at hv
 |o::r,h,v,hv=>by
  simp only[xP,Bool.and_eq_true]at h;rcases List.mem_cons.1 hv with rfl|hv
  ·exact h.1
  ·exact Ap h.2 v hv
theorem p6{P:Program}{os:Array Oper}{vs:List VOper}(h:bO P os os.toList=some vs)(hf:xP vs=true):jt os.toList=true:=by
 obtain⟨hlen,hget⟩:=cQ h;unfold jt;rw[List.all_eq_true];intro o ho;obtain⟨i,hi⟩:=List.getElem?_of_mem ho;obtain⟨v,hv1,hv2⟩:=hget i o hi;obtain⟨_,q2,_⟩:=eE hv2;have hfv:=Ap hf v (List.mem_of_getElem? hv1);cases hop:o.op with
 |defer c=>
  exfalso;rw[hop]at q2
  have:v.op=.bad:=by
   have e:lr P (.defer c)=some .bad:=rfl;rw[e]at q2;exact(O_ q2).symm
  rw[this]at hfv;cases hfv
 |_=>rfl
theorem Jk{P:Program} : ∀(v:VCode) {c:Code},comp P c=some v->v.fair=true->ew c=true:=by
 intro v
 induction v with
 |region ops mode dead=>
  intro c h hf;have hd:dead=[]:=aZ h;subst hd;obtain⟨id,os,draw,rfl,hv,_⟩:=fA h;exact p6 hv hf
 |seq x y ihx ihy=>
  intro c h hf;obtain⟨a,b,rfl,h1,h2⟩:=aZ h;simp only[VCode.fair,Bool.and_eq_true]at hf;simp only[ew,Bool.and_eq_true];exact⟨ihx h1 hf.1,ihy h2 hf.2⟩
 |cond u x y ihx ihy=>
  intro c h hf;obtain⟨o,a,b,rfl,_,h1,h2⟩:=aZ h;simp only[VCode.fair,Bool.and_eq_true]at hf;simp only[ew,Bool.and_eq_true];exact⟨ihx h1 hf.1,ihy h2 hf.2⟩
 |block id x ih=>
  intro c h hf;obtain⟨a,rfl,h1⟩:=aZ h;show ew a=true;exact ih h1 hf
 |loop x _=>intro c h hf;obtain⟨a,rfl,_⟩:=aZ h;rfl
 |scope x _=>intro c h hf;obtain⟨a,rfl,_⟩:=aZ h;rfl
 |skip=>intro c h hf;have e:c=Code.skip:=aZ h;subst e;rfl
 |exit id=>intro c h hf;have e:c=Code.exit id:=aZ h;subst e;rfl
 |label l=>intro c h hf;have e:c=Code.label l:=aZ h;subst e;rfl
 |goto l=>intro c h hf;have e:c=Code.goto l:=aZ h;subst e;rfl
 |ret=>intro c h hf;have e:c=Code.ret:=aZ h;subst e;rfl
 |refuse=>intro c h hf;obtain⟨w,rfl⟩:=aZ h;rfl
 |cut x _=>intro c h hf;exact(aZ h).elim
section
variable {P:Program} {c:Code}
theorem zx{x y:VCode}(h:comp P c=some (VCode.seq x y).strip):∃a b,c=.seq a b/\comp P a=some x.strip/\comp P b=some y.strip:=aZ h
theorem H9{id:Nat}{x:VCode}(h:comp P c=some (VCode.block id x).strip):∃a,c=.block id a/\comp P a=some x.strip:=aZ h
theorem Uh{x:VCode}(h:comp P c=some (VCode.loop x).strip):∃a,c=.loop a/\comp P a=some x.strip:=aZ h
theorem V8{ops:List VOper}{dead:List Nat}(h:comp P c=some (VCode.region ops .text dead).strip):∃id os,c=.region id os false/\bO P os os.toList=some (aI ops):=by
 obtain⟨id,os,draw,rfl,hv,hm⟩:=fA (ops:=aI ops) (mode:=.text) h;rcases hm with⟨rfl,_⟩|⟨_,_,_,_,⟨h,_⟩|h⟩
 ·exact⟨id,os,rfl,hv⟩
 ·cases h
 ·cases h
end
def ju(P:Program)(c:Code)(σ:St)(e:Exit)(σ1:St):Prop:=TR P c (fun e' σ'=>∃σ2,(e'=e/\σ2=σ1)/\σ2.objs=[]/\cR σ' σ2) σ
theorem cI{P:Program}(hm:P.follows .mixedOrders=true)(v:VCode){c:Code}{σ σ1:St}{e:Exit}(hc:comp P c=some v.strip)(h:pw P v (fun e' σ'=>e'=e/\cR σ' σ1) σ)(hd:v.strip.fair=true:=by rfl)(hb:v.bnd σ.n=true:=by rfl)(hf:v.flat=true:=by rfl)(ho:σ1.objs=[]:=by rfl):ju P c σ e σ1:=
 FW hm v hf (LW v (fun e' σ' hq=>⟨σ1,⟨hq.1,rfl⟩,ho,hq.2⟩) h) c hc (Jk _ hc hd) hb
section
variable {P:Program} {J:JZ} {S0:aO} {Wb:World} {Zb:Nat->Prop} {l n:Nat} {enc:Nat->Value}
theorem At.does{c:Code}{σ σ1:St}{e:Exit}{p:Nat}{a:Act}{W:World}{ro:Option Nat}(hst:M7 J)(hS0:∀b o,S0 b o->b<Wb.heap.size)(hd:ju P c σ e σ1)(h:At J S0 Wb Zb σ p a W):c.wpIn (cF ro) 0 P (fun e' a' W'=>e'=e/\At J S0 Wb Zb σ1 p a' W') a W:=by
 obtain⟨_,_,_,_,_,_,_,_,h7⟩:=id h;refine wpIn_mono (At.piece hst (fun b o hS=>Nat.lt_of_lt_of_le (hS0 b o hS) h7) hd h) ?_;rintro e' a' W' ⟨σ2,⟨rfl,rfl⟩,_,h1,_⟩;exact⟨rfl,h1⟩
theorem At.doesK{c:Code}{σ σ1:St}{e:Exit}{p:Nat}{a:Act}{W:World}{ro:Option Nat}(hst:M7 J)(hS0:∀b o,S0 b o->b<Wb.heap.size)(hd:ju P c σ e σ1)(h:At J S0 Wb Zb σ p a W):c.wpIn (cF ro) 0 P (fun e' a' W'=>e'=e/\At J S0 Wb Zb σ1 p a' W'/\Kept (fun _=>False) W W') a W:=by
 obtain⟨_,_,_,_,_,_,_,_,h7⟩:=id h;refine wpIn_mono (At.piece hst (fun b o hS=>Nat.lt_of_lt_of_le (hS0 b o hS) h7) hd h) ?_;rintro e' a' W' ⟨σ2,⟨rfl,rfl⟩,_,h1,h2⟩;exact⟨rfl,h1,h2⟩
theorem At.le{σ:St}{p:Nat}{a:Act}{W:World}(h:At J S0 Wb Zb σ p a W):Wb.heap.size<=W.heap.size:=by
 obtain⟨_,_,_,_,_,_,_,_,h7⟩:=h;exact h7
structure YReg(P:Program)(l:Nat)(os:Array Oper)(t:Int)(σ σ3:St):Prop where
 ok:∃(pre post:List VOper) (y:VOper) (f x:Opd) (d:Nat) (σ1:St),bO P os os.toList=some (aI (pre++y::post))/\jt os.toList=true/\nY σ.n (pre++y::post)=true/\y.op=.callV f [x]/\y.dst=some d/\
  (y.guard=none\/∃g,y.guard=some (g,true)/\aC σ1.env g=.val (.bool true))/\gg P (fun σ'=>σ'=σ1) pre σ/\σ1.objs=[]/\val σ1 f=.val (.yld l)/\val σ1 x=.val (.int .i64 t)/\gg P (fun σ'=>cR σ' σ3) post {σ1 with env:=Vs.put σ1.env d (.val (.bool true)) }/\σ3.objs=[]
theorem At.yreg{id:Nat}{os:Array Oper}{t:Int}{σ σ3:St}{p:Nat}{a:Act}{W:World}{ro:Option Nat}(hst:M7 J)(hyz:YZ P l S0 enc n J)(hS0:∀b o,S0 b o->b<Wb.heap.size)(hr:YReg P l os t σ σ3)(ht:enc p=.int .i64 t)(hp:p<n)(h:At J S0 Wb Zb σ p a W) :
  (Code.region id os false).wpIn (cF ro) 0 P (fun e a' W'=>e=.normal/\At J S0 Wb Zb σ3 (p+1) a' W') a W:=by
 obtain⟨pre,post,y,f,x,d,σ1,h1,h2,h3,h4,h5,h6,h7,h8,h9,h10,h11,h12⟩:=hr.ok
 have rm:∀(l:List VOper) {σ:St} {K K':St->Prop},(∀σ,K σ->K' σ)->gg P K l σ->gg P K' l σ:=fun l {σ K K'} hk hh=>by
  have:=LW (P:=P) (.region l .text []) (Q:=fun _ σ'=>K σ') (Q':=fun _ σ'=>K' σ') (σ:=σ) (fun e σ'=>hk σ')
  have e0:∀(σ':St),σ'.drop []=σ':=fun σ'=>by
   have:∀env:List (Nat×SV),iM [] env=env:=fun env=>by
    induction env with
    |nil=>rfl
    |cons q r ih=>obtain⟨k,v⟩:=q;simp only[iM,qQ,cond_false,ih]
   simp[St.drop,this]
  simp only[pw,e0]at this;exact this hh
 refine wpIn_mono (At.yielded (K:=fun σ'=>σ'=σ3) hst hyz (fun b o hS=>Nat.lt_of_lt_of_le (hS0 b o hS) h.le) h1 h2 h3 h4 h5 h6 h7 h8 h9 h10 ht hp (rm _ (fun σ' hw=>⟨σ3,rfl,h12,hw⟩) h11) h) ?_;rintro e a' W' ⟨rfl,_,rfl,_,k⟩;exact⟨rfl,k⟩
theorem At.loop{r1 cd r2 cr r4:Code}{b2 id ex:Nat}{os:Array Oper}{N q:Nat}{elem:Nat->Int}{σL σ1 σ2 σ3:Nat->St}{a:Act}{W:World}{ro:Option Nat}
  (hst:M7 J) (hyz:YZ P l S0 enc n J) (hS0:∀b o,S0 b o->b<Wb.heap.size) (hn:q+N<=n) (henc:∀i,i<N->enc (q+i)=.int .i64 (elem i))
  (h1:∀i,i<=N->ju P r1 (σL i) .normal (σ1 i)) (h2:∀i,i<N->ju P cd (σ1 i) .normal (σ1 i)) (h2':ju P cd (σ1 N) (.exit ex) (σ1 N)) (h3:∀i,i<N->ju P r2 (σ1 i) .normal (σ2 i)) (h4:∀i,i<N->YReg P l os (elem i) (σ2 i) (σ3 i)) (h5:∀i,i<N->ju P cr (σ3 i) .normal (σ3 i)) (h6:∀i,i<N->ju P r4 (σ3 i) .normal (σL (i+1)))
  (h:At J S0 Wb Zb (σL 0) q a W) :
  (Code.loop (.seq r1 (.seq cd (.seq (.block b2 (.seq r2 (.seq (.region id os false) cr))) r4)))).wpIn (cF ro) 0 P (fun e a' W'=>e=.exit ex/\At J S0 Wb Zb (σ1 N) (q+N) a' W') a W:=by
 refine wpIn_loop_rounds (N+1) ?_
 have key:∀r i,i+r=N->∀a W,At J S0 Wb Zb (σL i) (q+i) a W->Code.roundsIn (cF ro) 0 P (.seq r1 (.seq cd (.seq (.block b2 (.seq r2 (.seq (.region id os false) cr))) r4))) (fun e a' W'=>e=.exit ex/\At J S0 Wb Zb (σ1 N) (q+N) a' W') (r+1) a W:=by
  intro r
  induction r with
  |zero=>
   intro i hi a W h;obtain rfl:i=N:=by omega
   rw[roundsIn_succ];refine wpIn_seq (wpIn_mono (h.does hst hS0 (h1 i (by omega))) ?_);rintro e a1 W1 ⟨rfl,k1⟩;refine wpIn_seq (wpIn_mono (k1.does hst hS0 h2') ?_);rintro e a2 W2 ⟨rfl,k2⟩;exact⟨rfl,k2⟩
  |succ r ih=>
   intro i hi a W h;rw[roundsIn_succ];refine wpIn_seq (wpIn_mono (h.does hst hS0 (h1 i (by omega))) ?_);rintro e a1 W1 ⟨rfl,k1⟩;refine wpIn_seq (wpIn_mono (k1.does hst hS0 (h2 i (by omega))) ?_);rintro e a2 W2 ⟨rfl,k2⟩;refine wpIn_seq (wpIn_block (wpIn_seq (wpIn_mono (k2.does hst hS0 (h3 i (by omega))) ?_)));rintro e a3 W3 ⟨rfl,k3⟩;refine wpIn_seq (wpIn_mono (k3.yreg hst hyz hS0 (h4 i (by omega)) (henc i (by omega)) (by omega)) ?_);rintro e a4 W4 ⟨rfl,k4⟩;refine wpIn_mono (k4.does hst hS0 (h5 i (by omega))) ?_;rintro e a5 W5 ⟨rfl,k5⟩;refine wpIn_mono (k5.does hst hS0 (h6 i (by omega))) ?_;rintro e a6 W6 ⟨rfl,k6⟩;exact ih (i+1) (by omega) a6 W6 k6
 exact key N 0 (by omega) a W h
end
end Go.Vs
namespace Go.Vs
def sQ(P:Program)(c:Code)(σ:St)(e:Exit)(σ1:St):Prop:=TR P c (fun e' σ'=>e'=e/\cR σ' σ1) σ
theorem mb{P:Program}(hm:P.follows .mixedOrders=true)(v:VCode){c:Code}{σ σ1:St}{e:Exit}(hc:comp P c=some v.strip)(h:pw P v (fun e' σ'=>e'=e/\cR σ' σ1) σ)(hd:v.strip.fair=true:=by rfl)(hb:v.bnd σ.n=true:=by rfl)(hf:v.flat=true:=by rfl):sQ P c σ e σ1:=
 FW hm v hf h c hc (Jk _ hc hd) hb
theorem uL.does{P:Program}{w0 w:World}{S0:aO}{M:Ctx}{σ σ1:St}{a:Act}{Z:Nat->Prop}{c:Code}{e:Exit}{ro:Option Nat}(hT:sQ P c σ e σ1)(h:uL w0 S0 M σ a Z w):c.wpIn (cF ro) 0 P (fun e' a' w'=>e'=e/\uL w0 S0 M σ1 a' Z w'/\CE S0 Z w w') a w:=by
 obtain⟨S,μ,β,h1,h2⟩:=h;refine wpIn_mono (hT ro w S _ a w ⟨S,μ,β,h1.rebase⟩) (fun e' a' w' hl=>?_)
 have fin:∀σ',(e'=e/\cR σ' σ1)->σ'.n=σ.n->cE w S ⟨Ji σ β,M.keep,M.at',M.df⟩ σ' a' w'->e'=e/\uL w0 S0 M σ1 a' Z w'/\CE S0 Z w w':=by
  rintro σ' ⟨rfl,hw⟩ hn hs;obtain⟨S',μ',β',k⟩:=hw _ _ _ _ _ hs;have hb:∀b,Z b->w'.heap[b]?=w.heap[b]?:=fun b hZ=>k.kept.block b (h2 b hZ).1 (h2 b hZ).2.2.1
  refine⟨rfl,⟨S',μ',β',h1.unbase k k.defers k.hist k.far,fun b hZ=>?_⟩,hb,⟨fun b o hS=>k.stay b o (h1.ext b o hS),k.kept.shape⟩,k.kept.size⟩;obtain⟨q1,q2,q3,q4⟩:=h2 b hZ;refine⟨Nat.lt_of_lt_of_le q1 k.kept.size,q2,fun⟨id,o,h3,h4⟩=>?_,fun o hS=>?_⟩
  ·rcases k.own id o b h3 h4 with h5|h5
   ·omega
   ·exact q3 h5
  ·rcases k.back b o hS with h5|h5|h5
   ·exact q4 o h5
   ·omega
   ·exact q3 h5
 cases e'<;>first|exact hl.elim|(obtain⟨σ',q1,q2,q3⟩:=hl;exact fin σ' q1 q2 q3)
def sR(ver:Nat)(rows:List (List IV)):List (Nat×Ob):=[(1000,.box [.own 1001 ver]),(1001,.arr ver 1 rows)]
theorem SimG.outBox{w0 w:World}{S0 S:aO}{M:Ctx}{σ:St}{a:Act}{μ:Nat->Value}{β:Nat->Option Nat}{d:Nat}{env':List (Nat×SV)}(h:SimG w0 S0 M σ a w S μ β)(ho:ac σ.objs d=some (.box [.nils]))(hd:aC σ.env d=.loc d 0)(hro:σ.ro=[])(hM:M.keep=[])(he:∀k,aC env' k=.undef\/∃v,aC env' k=.val v/\aC σ.env k=.val v) :
  ∃μ' β',SimG w0 S0 M ⟨Vs.put env' d (.loc 1000 0),sR 0 [],[],σ.n,σ.gl⟩ a w S μ' β'/\∀b,Ji ⟨Vs.put env' d (.loc 1000 0),sR 0 [],[],σ.n,σ.gl⟩ β' b->Ji σ β b:=by
 obtain⟨b,vs,e,fr,hb,hmu,hh,hf,hcs⟩:=h.objs d _ ho;obtain⟨v,us,hvs,hv1,⟨x,hx⟩,hus⟩:=hcs;have KH:=h.env d;rw[hd]at KH;obtain⟨b1,hm1,hv⟩:=KH _ ho;obtain rfl:b1=b:=by rw[hm1]at hmu;simpa using hmu
 let μ':Nat->Value:=fun i=>if i=1000 then μ d else .slice x 0 0
 let β':Nat->Option Nat:=fun i=>if i=1000 then β d else none
 have hlk:∀id o,ac (sR 0 []) id=some o->(id=1000/\o=.box [.own 1001 0])\/(id=1001/\o=.arr 0 1 []):=by
  intro id o hl;unfold sR at hl;simp only[ac]at hl;cases h1:(1000==id)with
  |true=>rw[h1]at hl;simp at hl;simp at h1;exact .inl ⟨h1.symm,hl.symm⟩
  |false=>
   rw[h1]at hl;cases h2:(1001==id)with
   |true=>rw[h2]at hl;simp at hl;simp at h2;exact .inr ⟨h2.symm,hl.symm⟩
   |false=>rw[h2]at hl;simp at hl
 refine⟨μ',β',{defers:=h.defers,size:=h.size,env:=fun k=>?_,objs:=fun id o hl=>?_,inj:=fun id id' o o' b' hl hl' g g'=>?_,own:=fun id o b' hl g=>?_,unst:=fun id o b' off hl g hS=>?_,stab:=h.stab,ext:=h.ext,back:=h.back,kept:=h.kept,stay:=h.stay,hist:=fun p hp=>by (rw[hM]at hp;simp at hp),far:=fun p hp=>by (rw[hM]at hp;simp at hp),glob:=h.glob },?_⟩
 ·show ar w S μ' (sR 0 []) (aC (Vs.put env' d (.loc 1000 0)) k) _;rw[ku];split
  ·next e1=>
   subst e1;intro cells hl;exact⟨b1,by simp[μ',hm1],hv⟩
  ·rcases he k with q|⟨iv,q1,q2⟩
   ·rw[q];trivial
   ·rw[q1];have:=h.env k;rw[q2]at this;exact this
 ·rcases hlk id o hl with⟨rfl,rfl⟩|⟨rfl,rfl⟩
  ·refine⟨b1,vs,e,fr,by simp[β',hb],by simp[μ',hm1],hh,hf,v,us,hvs,hv1,?_,hus⟩;intro cv s rows hl';rcases hlk 1001 _ hl' with⟨q,_⟩|⟨_,q⟩
   ·simp at q
   ·simp only[Ob.arr.injEq]at q;obtain⟨rfl,rfl,rfl⟩:=q;exact⟨Nat.le_refl _,fun _=>by simp[μ',hx]⟩
  ·exact .inl ⟨rfl,by simp[β'],x,by simp[μ']⟩
 ·rcases hlk id o hl with⟨rfl,_⟩|⟨rfl,_⟩
  ·rcases hlk id' o' hl' with⟨rfl,_⟩|⟨rfl,_⟩
   ·rfl
   ·simp[β']at g'
  ·simp[β']at g
 ·rcases hlk id o hl with⟨rfl,_⟩|⟨rfl,_⟩
  ·exact h.own d _ b' ho (by simpa[β']using g)
  ·simp[β']at g
 ·rcases hlk id o hl with⟨rfl,_⟩|⟨rfl,_⟩
  ·have:=h.unst d _ b' off ho (by simpa[β']using g) hS;rw[hro]at this;exact absurd this.1 (by simp)
  ·simp[β']at g
 ·rintro b' ⟨id,o,hl,g⟩;rcases hlk id o hl with⟨rfl,_⟩|⟨rfl,_⟩
  ·exact⟨d,_,ho,by simpa[β']using g⟩
  ·simp[β']at g
theorem SimG.back'{w0 w:World}{S0 S:aO}{M:Ctx}{objs:List (Nat×Ob)}{ro:List Nat}{n:Nat}{gl:List (Nat×List IV)}{a a0:Act}{μ:Nat->Value}{β:Nat->Option Nat}{d:Nat}(h:SimG w0 S0 M ⟨[],objs,ro,n,gl⟩ a w S μ β)(hk:(0,SV.loc 1000 0)∈M.keep)(ha:M.at' 0=a0.tmps.getD d Go.undef)(hs:a0.tmps.size=n)(hd:a0.defers=M.df):SimG w0 S0 M ⟨[(d,.loc 1000 0)],objs,ro,n,gl⟩ a0 w S μ β:=
 {h with
  defers:=hd
  size:=hs
  env:=fun k=>by
   show ar w S μ objs (aC [(d,.loc 1000 0)] k) _;simp only[aC,ac];cases hdk:d==k with
   |true=>
    rw[beq_iff_eq]at hdk;subst hdk;have:=h.hist _ hk;rw[ha]at this;exact this
   |false=>trivial }
end Go.Vs
