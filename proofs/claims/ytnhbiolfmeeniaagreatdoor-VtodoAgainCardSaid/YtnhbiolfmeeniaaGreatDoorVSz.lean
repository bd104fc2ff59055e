/- A part of a proof. No conditions. -/
import Derived.Test.YtnhbiolfmeeniaaGreatDoorVPz
set_option linter.all false
set_option maxRecDepth 100000
set_option maxHeartbeats 16000000
namespace Go.Vs.Y.Vt
open Go.Lib Go.Vs.U8 Go.Vs.Pa Go.Vs.Nu Go.Vs.Mo Go.Vs.Vt Go.Vs.Y.Rc
theorem Fu{n v:Str}{p:List Pm}(a:rz n=true)(b:je p=0)(e:v.length<=200)(d:∀c∈v,32<=c.toNat/\c.toNat<127):gR ⟨n,p,v⟩=0:=by
 unfold gR;rw[if_pos a,if_pos b,if_neg (by simp only;omega),Pj v.length v (Nat.le_refl _) d];rfl
theorem H1{l:Str}(h:l.all eI=true):∀c∈l,32<=c.toNat/\c.toNat<127:=fun c a=>by
 have:=List.all_eq_true.1 h c a;simp[eI]at this;omega
theorem Dz(v:Mom):∀c∈dn v,32<=c.toNat/\c.toNat<127:=by
 have a:∀w n,∀c∈wide w n,32<=c.toNat/\c.toNat<127:=fun w n=>H1 (oI w n)
 intro c b;unfold dn Mo.dayT BM at b;simp only[List.mem_append,List.mem_cons]at b;rcases b with(h|h|h)|h
 .exact a _ _ c h
 .exact a _ _ c h
 .exact a _ _ c h
 split at h
 .cases h
 simp only[List.mem_append,List.mem_cons]at h;rcases h with rfl|(h|h|h)|h
 .decide
 .exact a _ _ c h
 .exact a _ _ c h
 .exact a _ _ c h
 split at h
 .simp at h;rw[h];decide
 cases h
theorem mN{a:Type}{g f:Str->Option Ln}{n:Str}{h:Ln->a}{d:a}(e:g n=f n):fo g n h d=fo f n h d:=by unfold fo;rw[e]
end Go.Vs.Y.Vt
namespace Go.Vs.Y.Vt
open Go.Proofs Go.Vs.U8 Go.Vs.Pa Go.Vs.Nu Go.Vs.Mo Go.Vs.Vt Go.Vs.Y.Rc
theorem sG{l:List Ln}{n:Str}(h:ec l/\l.length<100000):ec (dh l n)/\(dh l n).length<100000:=⟨fun x a=>h.1 x (nR a),Nat.lt_of_le_of_lt (tQ _ _) h.2⟩
end Go.Vs.Y.Vt
namespace Go.Vs.Y.Vt
open Go.Lib Go.Vs.U8 Go.Vs.Pa Go.Vs.Nu Go.Vs.Mo Go.Vs.Vt Go.Vs.Y.Rc
theorem PG(v:Mom):44∉dn v:=by
 have h:=fun w n=>Xy (c:=44) (by decide) w n
 unfold dn Mo.dayT BM;simp only[List.mem_append,not_or];refine⟨⟨h _ _,h _ _,h _ _⟩,?_⟩;split
 .simp
 simp only[List.mem_cons,List.mem_append,not_or];refine⟨by decide,⟨h _ _,h _ _,h _ _⟩,?_⟩;split<;>simp
theorem Ic(q:Option Pm):∀(l:List Str) (a:List Mom),(∀v∈a,dm v=0/\¬GQ q v.k)->∀v∈(lH q l a).2,dm v=0/\¬GQ q v.k
 |[],a,h=>by rw[nV];exact h
 |s::r,a,h=>by
  rw[lh];split
  .simp
  next c=>
  split
  .simp
  next d=>
  refine Ic q r _ fun v b=>?_
  rcases List.mem_append.1 b with b|b
  .exact h v b
  rw[List.mem_singleton.1 b];exact⟨(Xv (v:=(iw s).1) (e:=(iw s).2) rfl).1 (by simpa using c),d⟩
theorem Fv{x:Ln}(h:(bJ x).1=0):(ij x.p nTZ).isSome=false/\dm (bJ x).2=0/\¬GQ (ij x.p F3) (bJ x).2.k:=by
 unfold bJ at h |-;split at h
 .next c=>exact absurd h c
 next c=>
 split at h
 .next d=>
  rw[if_neg c,if_pos d];obtain⟨v,e⟩:=List.length_eq_one_iff.1 d
  have b:(ij x.p nTZ).isSome=false:=by
   cases f:(ij x.p nTZ).isSome with
   |false=>rfl
   |true=>exact absurd (by unfold cO;rw[if_pos f];decide) c
  have a:=Ic (ij x.p F3) (parts 44 x.v) [] (by simp);have g:(cO x).2=(lH (ij x.p F3) (parts 44 x.v) []).2:=by unfold cO;rw[if_neg (by simp[b])]
  rw[<-g,e]at a;rw[e];exact⟨b,a v (by simp)⟩
 simp at h
theorem Un{x:Ln}{w:Mom}(n:Str)(h:(bJ x).1=0)(a:w.k=(bJ x).2.k)(b:dm w=0):bJ ⟨n,x.p,dn w⟩=(0,w):=by
 obtain⟨c,_,d⟩:=Fv h
 have e:cO ⟨n,x.p,dn w⟩=(0,[w]):=by
  unfold cO;rw[if_neg (by simp[c])];dsimp only;rw[tq (PG w),lh,L6 b,if_neg (by simp),if_neg (by rw[a];exact d),nV];rfl
 unfold bJ;rw[e,if_neg (by simp),if_pos (by simp)];rfl
theorem Fw{g:Str->Option Ln}{n:Str}{h:Ln->Mom}(a:(fo g n h mj).k≠0):∃x,g n=some x/\fo g n h mj=h x:=by
 unfold fo at a |-;cases d:g n with
 |none=>rw[d]at a;exact absurd rfl a
 |some x=>exact⟨x,rfl,rfl⟩
theorem M3{l:List Ln}{x:Ln}{w:Mom}{n:Str}(i:wH l)(a:n=ba\/n=ct)(j:bH l n=some x)(m:w.k=(bJ x).2.k)(o:dm w=0)(q:(bJ x).1=0):iP ⟨n,MY l n,dn w⟩=0/\(bJ ⟨n,MY l n,dn w⟩).2=w:=by
 have s:MY l n=x.p:=by unfold MY;rw[j]
 have d:=Un n q m o;have f:=Rd i n;rw[s]at f |-;refine⟨?_,by rw[d]⟩;unfold iP
 have u:bt ⟨n,x.p,dn w⟩=(bJ ⟨n,x.p,dn w⟩).1:=by
  rcases a with rfl|rfl<;>simp[bt,nm_]
 rw[Fu (by rcases a with rfl|rfl<;>decide) f (by have:=kO w;omega) (Dz w),if_neg (by decide),if_neg (by rcases a with rfl|rfl<;>simp[nm_]),u,d]
structure AloneH(l:List Ln)(f:Fc):Prop where
 bk:f.b.k≠0
 hb:dm ⟨f.b.k,dN f⟩=0
 he:f.e.k≠0->dm ⟨f.e.k,(mg f).1⟩=0
 hd:(mg f).2=true
 hp:qJ f=0
 hl:yD f.li=0
 c1:aO l bK≠0
 c2:aO l bp≠0
 ib:f.b.s<=dN f
theorem lj{v:Mom} : dm v=0↔1<=v.k/\v.k<=3/\0<=v.s/\v.s<=315537897599/\(v.k=1->v.s%86400=0):=by
 unfold dm;constructor
 .intro h;split at h
  .simp at h
  split at h
  .simp at h
  split at h
  .simp at h
  next b d a=>exact⟨by omega,by omega,by omega,by omega,fun e=>Classical.byContradiction fun q=>a ⟨e,q⟩⟩
 rintro⟨b,d,a,i,g⟩;rw[if_neg (by omega),if_neg (by omega),if_neg (fun q=>q.2 (g q.1))]
theorem WF{f:Fc}(a:qJ f=0)(b:f.b.k≠0)(c:f.e.k≠0):f.b.k=f.e.k/\f.b.s<=f.e.s:=by
 unfold qJ at a;split at a
 .simp at a
 split at a
 .simp at a
 next d=>
 split at a
 .simp at a
 next e=>
 exact⟨Classical.byContradiction fun q=>d ⟨b,c,q⟩,Int.not_lt.1 fun q=>e ⟨b,c,q⟩⟩
theorem Fx{l:List Ln}{f:Fc}(h:gK l=.ok f)(d:f.rd=true):AloneH l f:=by
 obtain⟨_,D,E,a⟩:=mD.1 h;unfold eR at a;split at a
 .simp at a
 next o=>
 simp only[not_or]at o;split at a
 .next p=>exact absurd a p
 next p=>
 split at a
 .next s=>exact absurd a s
 next s=>
 replace a:mC f l=0:=by simpa[d]using a
 unfold mC at a;split at a
 .simp at a
 next u=>
 split at a
 .next g=>exact absurd a g
 next g=>
 split at a
 .simp at a
 split at a
 .simp at a
 next I=>
 split at a
 .simp at a
 next J=>
 split at a
 .simp at a
 split at a
 .simp at a
 next K=>
 have F:qJ f=0:=by simpa using s
 have b:(mg f).2=true:=by simpa using K
 have j:dm f.b=0:=by
  have g:kC f.b f.ru f.i f.o=0:=by simpa using g
  unfold kC at g;split at g
  .next q=>exact absurd g q
  next q=>simpa using q
 have v:f.at'.k≠0->dm f.at'=0:=fun c=>by
  have e:f.at'=fo (bH l) fI (fun x=>(bJ x).2) mj:=by rw[E];rfl
  rw[e]at c |-;obtain⟨x,k,w⟩:=Fw c;rw[w];have y:=kW D k;have z:=qK k;have:(bJ x).1=0:=by rw[<-y];simp[bt,z,nm_]
  exact(Fv this).2.1
 have i:dm ⟨f.b.k,dN f⟩=0/\f.b.s<=dN f:=by
  unfold dN;by_cases c:f.at'.k=0
  .rw[if_neg (by simp[c])];exact⟨j,Int.le_refl _⟩
  rw[if_pos ⟨c,d⟩];have e1:f.at'.k=f.b.k:=Classical.byContradiction fun q=>I ⟨c,q⟩
  have e2:¬f.at'.s<f.b.s:=fun q=>J ⟨c,q⟩
  exact⟨by rw[<-e1];exact v c,by omega⟩
 have m:mg f=(dN f+di f,true):=by
  unfold mg at b |-;rw[if_neg (by simp[d])]at b |-;unfold jk at b |-;split at b
  .simp at b
  next q=>rw[if_neg q]
 have n:¬315537897599<dN f+di f:=by
  intro q;unfold mg at b;rw[if_neg (by simp[d])]at b;unfold jk at b;rw[if_pos (.inr (.inr (.inr q)))]at b;simp at b
 refine⟨u,i.1,fun c=>?_,b,F,by simpa using p,o.1,o.2,i.2⟩
 have A:dm f.e=0:=by
  have e:f.e=fo (bH l) ct (fun x=>(bJ x).2) mj:=by rw[E];rfl
  rw[e]at c |-;obtain⟨x,k,w⟩:=Fw c;rw[w];have y:=kW D k;have z:=qK k;have:(bJ x).1=0:=by rw[<-y];simp[bt,z,nm_]
  exact(Fv this).2.1
 obtain⟨L,M⟩:=WF F u c;have H:di f=f.e.s-f.b.s:=by unfold di;rw[if_pos ⟨u,c⟩]
 rw[m,lj];have w1:=lj.1 i.1;have B:=lj.1 A;have w3:=lj.1 j;dsimp only at w1 |-;refine⟨B.1,B.2.1,by omega,by omega,fun C=>?_⟩;have N:=w1.2.2.2.2 (by omega);have O:=B.2.2.2.2 C;have P:=w3.2.2.2.2 (by omega);omega
theorem put_same{l:List Ln}{n v:Str}{x:Ln}(h:bH l n=some x):(gb l n v).length<=l.length:=by
 rw[xI];have:=AT ⟨n,MY l n,v⟩ l;dsimp only at this;rw[h,if_neg (by simp)]at this;omega
theorem ais{f:Fc}(d:f.rd=true)(b:(mg f).2=true):(mg f).1=dN f+di f/\dN f+di f<=315537897599/\0<=dN f/\dN f<=315537897599:=by
 unfold mg at b |-;rw[if_neg (by simp[d])]at b |-;unfold jk at b |-;split at b
 .simp at b
 next q=>
 rw[if_neg q];simp only[not_or]at q;exact⟨rfl,by omega,by omega,by omega⟩
end Go.Vs.Y.Vt
