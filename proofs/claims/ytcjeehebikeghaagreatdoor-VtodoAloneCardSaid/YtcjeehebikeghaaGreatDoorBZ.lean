/- A part of a proof. No conditions. -/
import Derived.Test.YtcjeehebikeghaaGreatDoorBY
import Derived.Test.YtcjeehebikeghaaGreatDoorBS
set_option linter.unusedVariables false
set_option linter.unusedSimpArgs false
namespace Go.Vs
section
variable {P:Program} {w0:World} {S0:aO} {M:Ctx}
theorem M9{ops:Array Oper}{listed:Array Bool}{m j:Nat}(hsz:listed.size=ops.size)(hj:j<ops.size)(h:m≠j->listed.getD j false=true):(listed.setIfInBounds m true).getD j false=true:=by
 by_cases hm:m=j
 ·subst hm;simp[Array.getD,hsz,hj]
 ·rw[getD_set_ne false hm];exact h hm
theorem NM{listed:Array Bool}{n m fuel:Nat}(hsz:listed.size=n)(hm:m<n)(hl:listed.getD m false=false)(h:sJ (listed.getD · false) n<=fuel+1):sJ ((listed.setIfInBounds m true).getD · false) n<=fuel:=by
 have:=(Cb (f:=(listed.getD · false)) (g:=((listed.setIfInBounds m true).getD · false)) hl (by simp[Array.getD,hsz,hm]) (fun j hj=>getD_set_ne false hj) n).1 hm;omega
theorem SM{ops:Array Oper}{listed:Array Bool}{Q:Exit->Act->World->Prop}{a:Act}{w:World}{m:Nat}(hup:X0 ops)(hsz:listed.size=ops.size)(hm:m<ops.size)(hl:listed.getD m false=false)(h:∀j,j<ops.size->m≠j->listed.getD j false=true){fuel:Nat}(hf:sJ (listed.getD · false) ops.size<=fuel)(hq:∀N:Act->World->Prop,(∀a' w',Q .normal a' w'->N a' w')->wpOp P ops Q m N a w):wpAny P .any ops Q fuel listed a w:=by
 cases fuel with
 |zero=>
  have:=zo (Nat.le_zero.1 hf) m hm;simp only[hl]at this;cases this
 |succ f=>
  refine⟨fun he=>?_,fun i hi=>?_⟩
  ·have:=FD hup hsz he m hm;rw[hl]at this;cases this
  ·obtain⟨h1,oi,hoi,_⟩:=mem_ready.1 hi;have hlt:=(Array.getElem?_eq_some_iff.1 hoi).1
   obtain rfl:m=i:=Classical.byContradiction fun hne=>by
    have:=h i hlt hne;rw[wK h1]at this;cases this
   exact hq _ fun a' w' hq'=>Cc (fun j hj=>M9 hsz hj (h j hj)) hq' f
theorem Ha{ops:Array Oper}{vs:List VOper}{last tl:VOper}(hc:bO P ops ops.toList=some (vs++[last,tl])){fJ makes:List (Nat×Nat)}(hp:iA ops (vs++[last,tl]).toArray=some (fJ,makes))(hflow:uW (vs++[last])=true)(htl:uW [last,tl]=true){σ:St}{a:Act}{w:World}(h:cE w0 S0 M σ a w)
  (hd:∀v∈vs,∀d,v.dst=some d->d<σ.n) {es:List Eff} {σf:St} (hs:jp P vs σ es σf) (hk:sI σ (fJ.filter fun p=>decide (p.1<vs.length)&&decide (p.2<vs.length)) (makes.filter fun p=>decide (p.1<vs.length)&&decide (p.2<vs.length)) es=true)
  {Q:Exit->Act->World->Prop} (hQ:∀(N:Act->World->Prop),(∀a' w',(∀N':Act->World->Prop,(∀a' w',Q .normal a' w'->N' a' w')->wpOp P ops Q (vs.length+1) N' a' w')->N a' w')->∀a' w',cE w0 S0 M σf a' w'->wpOp P ops Q vs.length N a' w'):wpAny P .any ops Q ops.size (Array.replicate ops.size false) a w:=by
 have hel:=(ge 0 hs).2.2;have hat:=fun p (hp:p∈iB 0 vs es)=>Ce (rest:=[last,tl]) hel hp
 have hn:vs.length+2=ops.size:=by have:=(cQ hc).1;simpa using this
 obtain⟨hI,hg⟩:=GT hc hp (fun p h=>(hat p h).1) (qh 0 hs) hk (fun p h=>(hat p h).2.1) (fun p hp x hx=>by simp[(hat p hp).2.2.1,(hat x hx).2.2.1])
 have hbit:((Region.before ops).getD (vs.length+1) 0).testBit vs.length=true:=by
  obtain⟨j,y,d,h1,h2,h3,h4⟩:=wL htl 0 last rfl (by simp);have hj:=(List.getElem?_eq_some_iff.1 h2).1;obtain rfl:j=1:=by simp at hj;omega
  obtain rfl:y=tl:=by simpa using h2.symm
  exact Cd hc hp (by omega) (by rw[List.getElem?_append_right (Nat.le_refl _)];simp) (by rw[List.getElem?_append_right (by omega)];simp) h3 h4
 refine GU (sK hp) hI (fun p hp=>by simp[(hat p hp).2.2.1]) (fun p hp=>hd p.o (hat p hp).2.2.2)
  (fun fuel listed L σ1 a w i hf hl hU hi hb hr hsim=>?_) (fun hE=>?_) ops.size (Bt _ _) (zq (late:=fun _=>false) (σB:=σf) hc hs hg (zp (ge 0 hs).1)) h
 ·simp at hU
  obtain rfl:i=vs.length:=Classical.byContradiction fun hne=>by
   obtain rfl:i=vs.length+1:=by omega
   have:=hb _ hbit;rw[hl.un vs.length (by omega) (by simp)]at this;cases this
  have hall:=IF hc hp hflow hl.cl hb vs.length
  have hL:L=[]:=by
   cases L with
   |nil=>rfl
   |cons p L=>
    exfalso;have h3:=(hat p (hl.sub p (by simp))).2.2.1;have:=(hl.li p.i (by omega) (by simp[h3])).2 ⟨p,by simp,rfl⟩;rw[hall p.i h3 (by omega)]at this;cases this
  subst hL;exact hQ _ (fun a' w' hq=>SM (sK hp) (by simp[hl.sz]) (m:=vs.length+1) (by omega) (by rw[getD_set_ne false (by omega)];exact hl.un _ (by omega) (by simp)) (fun j hj hne=>M9 hl.sz hj (fun hm=>hall j (by omega) (by omega))) (NM hl.sz hi (hl.un _ hi (by simp)) hf) hq) a w (hsim.congr hl.run)
 ·exact absurd (hE vs.length (by omega)) (by simp)
end
theorem lG{P:Program}(hm:P.follows .mixedOrders=true){vs:List VOper}{last tl:VOper}{ps ms:List (Nat×Nat)}{dead:List Nat}{Q:Exit->St->Prop}{σ:St}
  (h:oY P (fun σ1=>gg P (fun σ'=>@NS (σ'.drop dead) ⟨Q .normal⟩) [tl] σ1) σ ps ms (vs++[last]) σ []) (hfl:uW (aI (vs++[last]))=true:=by rfl) (hft:uW (aI [last,tl])=true:=by rfl):TV P (.region (vs++[last,tl]) (.drawn ps ms) dead) Q σ:=by
 intro c hc hb;simp only[VCode.strip]at hc;simp only[VCode.bnd,Bool.and_eq_true]at hb;obtain⟨hb,_⟩:=hb;obtain⟨id,os,draw,rfl,hv,hmode⟩:=fA hc;rcases hmode with⟨_,h0⟩|⟨rfl,ps',ms',hp,⟨h0,_⟩|h0⟩
 ·simp[RMode.strip]at h0
 ·simp[RMode.strip]at h0
 simp only[RMode.strip,RMode.drawn.injEq]at h0;obtain⟨rfl,rfl⟩:=h0;refine wN.t hm ⟨id,os,true,rfl,?_⟩;intro w0 S0 M a w hs
 have hdrew:cE w0 S0 M σ a {w with drawn:=w.drawn+1 }:=by
  obtain⟨S,μ,β,hg⟩:=hs;exact⟨S,μ,β,hg.world (w':={w with drawn:=w.drawn+1 }) ⟨fun _ _ _=>rfl,fun _ _ h=>h⟩ (fun _ _ x=>x) (fun _ _ _ _ _=>rfl) (fun _ _ _ _ _ _ x=>x) hg.stab (fun _ _ x=>.inl x) ⟨hg.kept.os,hg.kept.tape,hg.kept.output,hg.kept.size,hg.kept.block,hg.kept.shape⟩⟩
 obtain⟨vs',last',es,σf,he,h1,h2,h3⟩:=sM h;obtain⟨rfl,he2⟩:=List.append_inj' he rfl;obtain rfl:last=last':=by simpa using he2
 obtain⟨hb1,hb2⟩:=uZ hb;have hel:es.length=vs.length:=(ge 0 h1).2.2;have hl:(aI vs).length=vs.length:=fu;replace h1:=kx h1;simp only[List.nil_append,hel,<-hl]at h2;rw[rM]at hv hp hfl
 have hd':∀v∈aI vs,∀d,v.dst=some d->d<σ.n:=by
  intro v hv d hdd;obtain⟨i,hi⟩:=List.getElem?_of_mem hv;rw[gP]at hi;cases ho:vs[i]? with
  |none=>rw[ho]at hi;simp at hi
  |some x=>
   rw[ho]at hi;simp only[Option.map_some,E_]at hi;subst hi;exact gI hb1 x (List.mem_of_getElem? ho) d hdd
 refine⟨fun h=>(by cases h),fun _=>Ha (last:=last.strip) (tl:=tl.strip) hv hp hfl hft hdrew hd' h1 h2 ?_⟩;intro N hN a' w' hs';obtain⟨hlen,hget⟩:=cQ hv;have hsz:os.toList.length=(aI vs).length+2:=by rw[<-hlen];simp[aI]
 have hn:σf.n=σ.n:=xB h1
 have at1:∀k (o:VOper),(aI vs++aI [last,tl])[k]?=some o->(hk:k<os.toList.length)->gW P os os.toList[k]=some o:=by
  intro k o ho hk;obtain⟨v,hv1,hv2⟩:=hget _ _ (List.getElem?_eq_getElem hk);rw[ho]at hv1;obtain rfl:=O_ hv1;exact hv2
 have hlt:(aI vs).length<os.toList.length:=by omega
 have hlt2:(aI vs).length+1<os.toList.length:=by omega
 refine ma (o:=os.toList[(aI vs).length]) (by rw[<-Array.getElem?_toList];exact List.getElem?_eq_getElem hlt) (at1 _ last.strip (by rw[List.getElem?_append_right (Nat.le_refl _)];simp[aI]) hlt) hs' (fun d hdd=>by rw[hn];exact gI hb2 last (by simp) d hdd) h3 (fun σ' a'' w'' hk hn' hs''=>hN _ _ ?_);intro N' hN';have hn2:σ'.n=σ.n:=hn'.trans hn;refine ma (o:=os.toList[(aI vs).length+1]) (by rw[<-Array.getElem?_toList];exact List.getElem?_eq_getElem hlt2) (at1 _ tl.strip (by rw[List.getElem?_append_right (by omega)];simp[aI]) hlt2) hs'' (fun d hdd=>by rw[hn2];exact gI hb2 tl (by simp) d hdd) hk (fun σ3 a3 w3 hk3 hn3 hs3=>hN' _ _ ?_);exact⟨_,hk3,(by show σ3.n=σ.n;rw[hn3,hn2]),lX _ _ _ _ _ _ _ hs3⟩
end Go.Vs
namespace Go.Vs
theorem xQ{σ:St}{d j id ver s:Nat}{cells:List SV}{rows:List (List IV)}(hl:ac σ.objs d=some (.box cells))(hj:cells[j]?=some (.own id ver))(ho:ac σ.objs id=some (.arr ver s rows))(hne:id≠d)(hro:σ.ro.contains d=false) :
  cR σ {σ with objs:=put σ.objs d (.box (cells.set j (.val (.slice rows)))),ro:=id::σ.ro }:=by
 rintro w0 S0 M a w ⟨S,μ,β,h⟩;obtain⟨b,vs,e',fr,hb,hmu,hheap,hfr,hcs⟩:=h.objs d _ hl;obtain⟨v,hv,hv1,hrel⟩:=aj.get hcs hj;have hvm:=(hrel _ _ _ ho).2 rfl;have h2:=h.freeze [id];have hr:=Bq h ho (fz:=[id]) (by simp);rw[<-hvm]at hr;have hr':ar w (fun b off=>S b off\/BM β σ.objs [id] b off) μ σ.objs (.val (.slice rows)) v:=hr;obtain⟨b2,vs2,e2,fr2,k1,k2,k3,k4,k5⟩:=h2.objs d _ hl;rw[hb]at k1;obtain rfl:=O_ k1;rw[hheap]at k3;simp only[E_,Go.Obj.cells.injEq]at k3;obtain⟨rfl,rfl,rfl⟩:=k3
 have hset:vs.toList.set j v=vs.toList:=by
  apply List.ext_getElem?;intro i;rw[List.getElem?_set];split
  ·next e=>
   subst e;split
   ·exact hv.symm
   ·next h0=>rw[List.getElem?_eq_none (by omega)]
  ·rfl
 have h3:=h2.write (id:=d) (x':=.box (cells.set j (.val (.slice rows)))) (w':=w) hl hb (vs:=vs) (e:=e') (fr:=fr) ⟨rfl,rfl,rfl,rfl,fun _ _=>rfl,hheap,fun _ _ h=>h⟩ (by
  intro hc;rcases List.mem_append.1 hc with hc|hc
  ·have hc:d=id:=by simpa using hc
   exact hne hc.symm
  ·have:σ.ro.contains d=true:=by simpa using hc
   rw[this]at hro;cases hro) (.inl ⟨_,_,rfl,rfl⟩) ⟨b,vs,e',fr,rfl,hmu,hheap,k4,by
   have:=aj.set j k5 hv1 hr';rw[hset]at this
   exact this⟩
 exact⟨_,_,_,h3⟩
end Go.Vs
namespace Go.Vs
mutual
def jR:IV->IV->Bool
 |.int k n,.int j m=>decide (k=j)&&decide (n=m)
 |.bool a,.bool b=>decide (a=b)
 |.str a,.str b=>decide (a=b)
 |.nilp,.nilp=>true
 |.ref a,.ref b=>p7 a b
 |.slice a,.slice b=>zy a b
 |.nilf,.nilf=>true
 |.fn f a,.fn g b=>decide (f=g)&&p7 a b
 |.bnd f a,.bnd g b=>decide (f=g)&&p7 a b
 |.nili,.nili=>true
 |.handle a b c,.handle a' b' c'=>decide (a=a')&&(decide (b=b')&&decide (c=c'))
 |.iface t a,.iface s b=>decide (t=s)&&jR a b
 |.agg a,.agg b=>p7 a b
 |.tuple a,.tuple b=>p7 a b
 |_,_=>false
def p7:List IV->List IV->Bool
 |[],[]=>true
 |x::a,y::b=>jR x y&&p7 a b
 |_,_=>false
def zy:List (List IV)->List (List IV)->Bool
 |[],[]=>true
 |x::a,y::b=>p7 x y&&zy a b
 |_,_=>false
end
mutual
theorem Ma:∀(x y:IV),jR x y=true->x=y
 |.int k n,y,h=>by
  cases y with
  |int j m=>simp only[jR,Bool.and_eq_true,decide_eq_true_eq]at h;rw[h.1,h.2]
  |_=>simp[jR]at h
 |.bool a,y,h=>by
  cases y with
  |bool b=>simp only[jR,decide_eq_true_eq]at h;rw[h]
  |_=>simp[jR]at h
 |.str a,y,h=>by
  cases y with
  |str b=>simp only[jR,decide_eq_true_eq]at h;rw[h]
  |_=>simp[jR]at h
 |.nilp,y,h=>by
  cases y with
  |nilp=>rfl
  |_=>simp[jR]at h
 |.nilf,y,h=>by
  cases y with
  |nilf=>rfl
  |_=>simp[jR]at h
 |.nili,y,h=>by
  cases y with
  |nili=>rfl
  |_=>simp[jR]at h
 |.yld l,y,h=>by
  cases y with
  |yld l2=>simp[jR]at h
  |_=>simp[jR]at h
 |.nilS,y,h=>by simp[jR]at h
 |.ref a,y,h=>by
  cases y with
  |ref b=>simp only[jR]at h;rw[kC a b h]
  |_=>simp[jR]at h
 |.slice a,y,h=>by
  cases y with
  |slice b=>simp only[jR]at h;rw[FZ a b h]
  |_=>simp[jR]at h
 |.fn f a,y,h=>by
  cases y with
  |fn g b=>simp only[jR,Bool.and_eq_true,decide_eq_true_eq]at h;rw[h.1,kC a b h.2]
  |_=>simp[jR]at h
 |.bnd f a,y,h=>by
  cases y with
  |bnd g b=>simp only[jR,Bool.and_eq_true,decide_eq_true_eq]at h;rw[h.1,kC a b h.2]
  |_=>simp[jR]at h
 |.handle a b c,y,h=>by
  cases y with
  |handle a' b' c'=>simp only[jR,Bool.and_eq_true,decide_eq_true_eq]at h;rw[h.1,h.2.1,h.2.2]
  |_=>simp[jR]at h
 |.iface t a,y,h=>by
  cases y with
  |iface s b=>simp only[jR,Bool.and_eq_true,decide_eq_true_eq]at h;rw[h.1,Ma a b h.2]
  |_=>simp[jR]at h
 |.agg a,y,h=>by
  cases y with
  |agg b=>simp only[jR]at h;rw[kC a b h]
  |_=>simp[jR]at h
 |.tuple a,y,h=>by
  cases y with
  |tuple b=>simp only[jR]at h;rw[kC a b h]
  |_=>simp[jR]at h
theorem kC:∀(x y:List IV),p7 x y=true->x=y
 |[],y,h=>by
  cases y with
  |nil=>rfl
  |cons b r=>simp[p7]at h
 |x::a,y,h=>by
  cases y with
  |nil=>simp[p7]at h
  |cons b r=>simp only[p7,Bool.and_eq_true]at h;rw[Ma x b h.1,kC a r h.2]
theorem FZ:∀(x y:List (List IV)),zy x y=true->x=y
 |[],y,h=>by
  cases y with
  |nil=>rfl
  |cons b r=>simp[zy]at h
 |x::a,y,h=>by
  cases y with
  |nil=>simp[zy]at h
  |cons b r=>simp only[zy,Bool.and_eq_true]at h;rw[kC x b h.1,FZ a r h.2]
end
def La:List (Nat×List IV)->List (Nat×List IV)->Bool
 |[],[]=>true
 |(i,x)::a,(j,y)::b=>decide (i=j)&&(p7 x y&&La a b)
 |_,_=>false
theorem Mb:∀(x y:List (Nat×List IV)),La x y=true->x=y
 |[],[],_=>rfl
 |[],_::_,h=>by simp[La]at h
 |_::_,[],h=>by simp[La]at h
 |(i,x)::a,(j,y)::b,h=>by
  simp only[La,Bool.and_eq_true,decide_eq_true_eq]at h;rw[h.1,kC x y h.2.1,Mb a b h.2.2]
structure Ent where
 k:Nat
 args:List IV
 r:Res
def Mc(gl gl':List (Nat×List IV))(k:Nat)(args:List IV):List Ent->Option Out
 |[]=>none
 |e::r=>bif Nat.beq e.k k&&(p7 e.args args&&La gl gl')then some (.res e.r)else Mc gl gl' k args r
def SN(gl:List (Nat×List IV))(es:List Ent):Job->Option Out
 |.fn gl' k args=>Mc gl gl' k args es
 |_=>none
theorem xS{P:Program}{gl:List (Nat×List IV)}{es:List Ent}(h:∀e∈es,zk gl P e.k e.args e.r):∀j o,SN gl es j=some o->xG P j o:=by
 intro j o hj;cases j with
 |fn gl' k args=>
  simp only[SN]at hj
  induction es with
  |nil=>simp[Mc]at hj
  |cons e r ih=>
   simp only[Mc]at hj;cases hc:(Nat.beq e.k k&&(p7 e.args args&&La gl gl'))with
   |false=>
    rw[hc]at hj;exact ih (fun x hx=>h x (List.mem_cons_of_mem _ hx)) hj
   |true=>
    rw[hc]at hj;simp only[Bool.and_eq_true]at hc;have h1:=Nat.eq_of_beq_eq_true hc.1;have h2:=kC _ _ hc.2.1;have h3:=Mb _ _ hc.2.2;subst h1 h2 h3;cases hj;exact h e (by simp)
 |mc=>simp[SN]at hj
 |loop=>simp[SN]at hj
end Go.Vs
