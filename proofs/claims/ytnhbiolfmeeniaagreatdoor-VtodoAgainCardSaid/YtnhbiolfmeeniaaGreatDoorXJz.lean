/- A part of a proof. No conditions. -/
import Derived.Test.YtnhbiolfmeeniaaGreatDoorXGz
import Derived.Test.YtnhbiolfmeeniaaGreatDoorVSz
set_option linter.all false
set_option maxRecDepth 100000
set_option maxHeartbeats 16000000
namespace Go.Vs.Y.Vt
open Go.Proofs Go.Vs.U8 Go.Vs.Pa Go.Vs.Nu Go.Vs.Mo Go.Vs.Vt Go.Vs.Y.Rc
structure AskH(f:Fc)(u:Str)(a c:Mom):Prop where
 rd:f.rd=true
 hu:ti u=true
 hul:u.length<100000
 ha:dm a=0
 hc:dm c=0
 ak:a.k=f.b.k
 ck:c.k=f.b.k
 one:¬(f.af=true/\f.ru.c=1)
 far:f.af=true->c.s+di f<=315537897599
theorem RU{f:Fc}(h:FitF f):-400000000000<=di f/\di f<=400000000000:=by
 have b:=h.b.2;have d:=h.e.2;have e:=h.sp;unfold di;split<;>omega
theorem agv(f:Fc)(u:Str)(a c:Mom)(h:FitF f)(b:AskH f u a c):Fn G2 T_ 32 [.ref (B7 f),.str u,ma a,ma c] (.int .i64 0):=by
 refine ae hm ss (by simp) ?_;have o:=up (L3 u (by have:=b.hul;omega));rw[b.hu]at o;have e:=pQ a (by have:=(iI.1 b.ha).1;omega);have g:=pQ c (by have:=(iI.1 b.hc).1;omega);rw[b.ha]at e;rw[b.hc]at g;have j:=Wr f h;have s:=RU h;have v:=iI.1 b.hc;have k:=b.rd;have l:=b.ak;have m:=b.ck;simp only[ma,B7,cells,List.cons_append,List.nil_append]at e g j |-;rw[k]at j |-;rw[l]at e |-;rw[m]at g |-;simp[lk];refine aa o ?_;simp(disch:=omega)[wl];refine bx hm [] (fun i:Nat=>[(23,.val (.int .i64 i))]) (fun _=>[]) (fun i=>i<=2) (fun i=>10-i) 0 (by omega) ?_ ?_
 .simp;exact bA
 rintro i w;have:i=0\/i=1\/i=2:=by omega
 rcases this with rfl|rfl|rfl
 .simp;refine aa e ?_;simp(disch:=omega)[wl];refine aj 1 (by omega) (by omega) ?_;simp;exact bA
 .simp;refine aa g ?_;simp(disch:=omega)[wl];refine aj 2 (by omega) (by omega) ?_;simp;exact bA
 simp;cases d:f.af with
 |false=>
  simp(disch:=omega)[wl];rfl
 |true=>
  have n:¬f.ru.c=1:=fun q=>b.one ⟨d,q⟩
  have p:=b.far d;rw[d]at j;simp(disch:=omega)[wl,n];refine aa j ?_;simp(disch:=omega)[wl];rfl
def y0(f:Fc)(l:List Ln)(c:Mom):List Ln:=
 let a:=gb l ba (dn c)
 let d:=if f.e.k≠0 then gb a ct (dn ⟨f.e.k,c.s+di f⟩)else a
 if 0<f.ru.c then gb d bN (dJ {f.ru with c:=f.ru.c-1 })else d
theorem adR(f:Fc)(l:List Ln)(c:Mom)(h:FitF f)(N:l.length<10000)(y:ec l)(z:dm c=0)(F:f.e.k≠0->dm ⟨f.e.k,c.s+di f⟩=0)(A:0<f.ru.c->cT {f.ru with c:=f.ru.c-1 } = 0)(s:0<f.ru.c->(dJ {f.ru with c:=f.ru.c-1 }).length<100000) :
  Fn G2 T_ 38 [.ref (B7 f),.slice (ls l),ma c] (.slice (ls (y0 f l c))):=by
 refine ae hm rj (by simp) ?_;have H:=iI.1 z;have n:=sE c (by omega);unfold TO at n;rw[z,if_pos rfl]at n;have hT:=mM f.e.k f.e.s;have B:=Wr f h;have I:=RU h;obtain⟨R,a⟩:=A_ (y0 f l c);rw[a];unfold y0 at a;simp only[ma,B7,cells,List.cons_append,List.nil_append]at n B |-;have C:(dn c).length<100000:=by have:=kO c;omega
 have u:=AU l ba (dn c) y (by omega) (by decide) C;have o:ec (gb l ba (dn c)):=Ft y (by decide) C;have J:=Js l ba (dn c);obtain⟨j,v⟩:=A_ (gb l ba (dn c));rw[v]at u o J a;simp only[ba]at u;simp[kv,is_len,aJ,bP];refine aa n ?_;simp;refine aa u ?_;simp;refine aa hT ?_;have p:0<f.ru.c->∀(g:List Ln),ec g->g.length<100000->Fn G2 T_ 33 [.slice (ls g),.str bN,.str (dJ {f.ru with c:=f.ru.c-1 })] (.slice (ls (gb g bN (dJ {f.ru with c:=f.ru.c-1 })))):=fun k g K L=>AU g bN _ K L (by decide) (s k)
 have b:0<f.ru.c->Fn G2 T_ 71 [Ru.iv {f.ru with c:=f.ru.c-1 }] (.tuple [.str (dJ {f.ru with c:=f.ru.c-1 }),.int .i64 0]):=fun k=>by
  have b:=TQ {f.ru with c:=f.ru.c-1 } h.rf h.uk h.rk;unfold rtI at b
  rwa[A k,if_pos rfl]at b
 have e:0<f.ru.c->f.ru.c-1<=1000:=fun k=>(iN (ei (A k)).1).2.2.2.2.1
 simp only[Ru.iv,cells,bN]at b p;obtain⟨S,w⟩:∃S,dJ {f.ru with c:=f.ru.c-1 } = S:=⟨_,rfl⟩;rw[w]at b p a;by_cases m:f.e.k=0
 .simp only[m,ne_eq,not_true_eq_false,if_false]at a;simp(disch:=omega)[wl,m];by_cases d:0<f.ru.c
  .rw[if_pos d]at a;have e:=e d;simp(disch:=omega)[wl,d];refine aa (b d) ?_;simp(disch:=omega)[wl];refine aa (p d j o (by omega)) ?_;subst a;simp(disch:=omega)[wl,bN]
  rw[if_neg d]at a;subst a;simp(disch:=omega)[wl,d]
 simp only[ne_eq,m,not_false_eq_true,if_true]at a;have q:=sE ⟨f.e.k,c.s+di f⟩ h.e.1;unfold TO at q;rw[F m,if_pos rfl]at q;simp only[ma]at q;have D:(dn ⟨f.e.k,c.s+di f⟩).length<100000:=by have:=kO ⟨f.e.k,c.s+di f⟩;omega
 have i:=AU j ct (dn ⟨f.e.k,c.s+di f⟩) o (by omega) (by decide) D;have E:ec (gb j ct (dn ⟨f.e.k,c.s+di f⟩)):=Ft o (by decide) D;have M:=Js j ct (dn ⟨f.e.k,c.s+di f⟩);obtain⟨g,x⟩:=A_ (gb j ct (dn ⟨f.e.k,c.s+di f⟩));rw[x]at i E M a;simp only[ct]at i;simp(disch:=omega)[wl,m];refine aa B ?_;simp(disch:=omega)[wl];refine aa q ?_;simp(disch:=omega)[wl];refine⟨rfl,?_⟩;refine aa i ?_;simp(disch:=omega)[wl];by_cases d:0<f.ru.c
 .rw[if_pos d]at a;have e:=e d;simp(disch:=omega)[wl,d];refine aa (b d) ?_;simp(disch:=omega)[wl];refine aa (p d g E (by omega)) ?_;subst a;simp(disch:=omega)[wl,bN]
 rw[if_neg d]at a;subst a;simp(disch:=omega)[wl,d]
end Go.Vs.Y.Vt
namespace Go.Vs.Y.Vt
open Go.Lib Go.Vs.U8 Go.Vs.Pa Go.Vs.Nu Go.Vs.Mo Go.Vs.Vt Go.Vs.Y.Rc
theorem aao{r:Ru}{k:Int}(h:yi r=0)(f:0<=k/\k<=r.c):yi {r with c:=k } = 0:=by
 unfold yi at h |-;simp only;split at h
 .simp at h
 next d=>
 rw[if_neg d];split at h
 .simp at h
 next g=>
 rw[if_neg (by omega)];split at h
 .next a=>rw[if_pos a]
 next a=>
 rw[if_neg a];split at h
 .simp at h
 next e=>
 rw[if_neg e];split at h
 .next b=>exact absurd h b
 next b=>
 rw[if_neg b];split at h
 .simp at h
 next i=>rw[if_neg (by omega)]
theorem DD{r:Ru}{k:Int}(h:cT r=0)(i:0<=k/\k<=r.c):cT {r with c:=k } = 0:=by
 obtain⟨d,-,-⟩:=ei h;have j:=aao d i;unfold cT at h |-;rw[if_neg (by simp[d])]at h;rw[if_neg (by simp[j])];exact h
theorem PV{b v:Mom}{r:Ru}{i o:List Mom}{k:Int}(h:kC b r i o=0)(d:dm v=0)(a:v.k=b.k)(e:0<=k/\k<=r.c):kC v {r with c:=k } i o=0:=by
 unfold kC at h |-;split at h
 .next q=>exact absurd h q
 rw[if_neg (by simp[d])];split at h
 .next q=>exact absurd h q
 next g=>
 rw[if_neg (by simp[DD (by simpa using g) e])];simp only;rw[a];exact h
structure AgH(l:List Ln)(f:Fc):Prop where
 a:AloneH l f
 s:kC f.b f.ru f.i f.o=0
 t:f.at'.k≠0->f.at'.k=f.b.k/\f.b.s<=f.at'.s
 n:f.af=true->aO l cV=0
theorem y3{l:List Ln}{f:Fc}(h:gK l=.ok f)(d:f.rd=true):AgH l f:=by
 have i:=Fx h d;obtain⟨_,u,w,b⟩:=mD.1 h;unfold eR at b;split at b
 .simp at b
 split at b
 .next j=>exact absurd b j
 split at b
 .next k=>exact absurd b k
 replace b:mC f l=0:=by simpa[d]using b
 unfold mC at b;split at b
 .simp at b
 split at b
 .next g=>exact absurd b g
 next g=>
 split at b
 .simp at b
 next n=>
 split at b
 .simp at b
 next o=>
 split at b
 .simp at b
 next p=>
 refine⟨i,by simpa using g,fun q=>⟨?_,?_⟩,fun q=>?_⟩
 .exact Classical.byContradiction fun e=>o ⟨q,e⟩
 .exact Int.not_lt.1 fun e=>p ⟨q,e⟩
 have:¬0<aO l cV:=fun e=>n ⟨q,e⟩
 omega
theorem adS{l:List Ln}{f:Fc}(b:f=gF l)(h:aO l cV=0):f.i=[]:=by
 have:l.filter (hasL cV)=[]:=List.length_eq_zero_iff.1 h;rw[b];show(l.filter (hasL cV)).flatMap dV=[];rw[this];rfl
end Go.Vs.Y.Vt
namespace Go.Vs.Y.Vt
open Go.Proofs Go.Vs.U8 Go.Vs.Pa Go.Vs.Nu Go.Vs.Mo Go.Vs.Vt Go.Vs.Y.Rc
def gN(l:List Ln):Nat->List Ln
 |0=>l
 |1=>dh l bW
 |2=>dh (dh l bW) eg
 |_=>dh (dh (dh l bW) eg) bv
theorem DE{l:List Ln}(h:ec l/\l.length<100000):∀i,ec (gN l i)/\(gN l i).length<100000
 |0=>h
 |1=>sG h
 |2=>sG (sG h)
 |_+3=>sG (sG (sG h))
theorem adT(l:List Ln):(gN l 3).length<=l.length:=Nat.le_trans (tQ _ _) (Nat.le_trans (tQ _ _) (tQ _ _))
def Jv(l:List Ln)(a:Mom):Ln:=⟨fI,(match bH l fI with
 |some y=>y.p
 |none=>if a.k=1 then [⟨F3,[LA]⟩]else []),dn a⟩
def kj(f:Fc)(l:List Ln)(u:Str)(a c:Mom):List Ln:=
 let m:=gN (gb l bK u) 3
 let n:=kB m (Jv m a)
 if f.af=true then y0 f n c else n
theorem Yb{l:List Ln}(h:ec l)(a:Mom):FitX (Jv l a):=by
 have b:(dn a).length<100000:=by have:=kO a;omega
 unfold Jv;cases d:bH l fI with
 |none=>
  simp only;split
  .exact⟨by simp[fI],by simp,⟨by simp[F3],by simp,by simp[LA]⟩,b⟩
  exact⟨by simp[fI],by simp,⟨by simp,by simp,by simp⟩,b⟩
 |some y=>
  have:=h y (Jr d);exact⟨by simp[fI],this.p,this.f,b⟩
theorem adU(l:List Ln)(f g:Fc)(u:Str)(a c:Mom)(B:ec l)(M:gx 1000 l)(hl:l.length<1000)(N:gK l=.ok f)(o:AskH f u a c)
  (V:f.e.k≠0->dm ⟨f.e.k,c.s+di f⟩=0) (C:0<f.ru.c->cT {f.ru with c:=f.ru.c-1 } = 0) (D:0<f.ru.c->(dJ {f.ru with c:=f.ru.c-1 }).length<100000)
  (W:gK (kj f l u a c)=.ok g) (E:ec (kj f l u a c)) (F:gx 1000 (kj f l u a c)) (X:(kj f l u a c).length<10000) :
  Fn G2 T_ 9 [.slice (ls l),.str u,ma a,ma c] (.tuple [.slice (ls (kj f l u a c)),.int .i64 0]):=by
 refine ae hm Ma (by simp) ?_;have O:=LZ M N;have H:=qP l B M (by omega);rw[N]at H;have e:=qP (kj f l u a c) E F (by omega);rw[W]at e;have P:=agv f u a c O o;have z:=sE a (by have:=(iI.1 o.ha).1;omega);unfold TO at z;rw[o.ha,if_pos rfl]at z;have I:=AU l bK u B (by omega) (by decide) o.hul;have s:ec (gb l bK u)/\(gb l bK u).length<100000:=⟨Ft B (by decide) o.hul,by have:=Js l bK u;omega⟩;have Y:=Js l bK u;obtain⟨R,b⟩:=A_ (kj f l u a c);rw[b]at e |-;unfold kj at b;obtain⟨m,J⟩:=A_ (gb l bK u);rw[J]at I s Y b;have d3:=DE s 3;have K:=adT m;obtain⟨n,Q⟩:=A_ (gN m 3);rw[Q]at d3 K b;have S:=up (QS n fI d3.2 d3.1);have U:=Yb d3.1 a;have p:=up (Je n (Jv n a) d3.2 d3.1 U);have Z:=AT (Jv n a) n
 have L:ec (kB n (Jv n a)):=fun y hy=>by
  rcases oN hy with h|h
  .rw[h];exact U
  exact d3.1 y h
 have x:(kB n (Jv n a)).length<10000:=by
  have:(if bH n (Jv n a).n=none then 1 else 0)<=1:=by split<;>omega
  omega
 have j:=adR f (kB n (Jv n a)) c O x L o.hc V C D;have a':dm a=0:=o.ha;simp only[Ug,Fc.iv,B7,cells,List.cons_append,List.nil_append,ma,o.rd,bK]at H e P z I j |-;simp[Cp,is_len,aJ,bP];refine aa H ?_;simp(disch:=omega)[wl];refine aa P ?_;simp(disch:=omega)[wl];refine aa I ?_;simp(disch:=omega)[wl];refine bx hm [14] (fun i:Nat=>[(41,.val (.int .i64 i)),(0,.val (.slice (ls (gN m i))))]) (fun _=>[(10,.box (bxV f))]) (fun i=>i<=3) (fun i=>3-i) 0 (by omega) ?_ ?_
 .simp[gN,bxV,B7,cells,o.rd];exact bA
 rintro i hi;simp;have w:i=0\/i=1\/i=2\/i=3:=by omega
 rcases w with rfl|rfl|rfl|rfl
 .have v:=up (wB (gN m 0) bW (DE s 0).2 (DE s 0).1);simp only[bW]at v;simp;refine aa v ?_;simp(disch:=omega)[wl];refine aj 1 (by omega) (by omega) ?_;simp[gN,bW];exact bA
 .have v:=up (wB (gN m 1) eg (DE s 1).2 (DE s 1).1);simp only[eg]at v;simp;refine aa v ?_;simp(disch:=omega)[wl];refine aj 2 (by omega) (by omega) ?_;simp[gN,eg];exact bA
 .have v:=up (wB (gN m 2) bv (DE s 2).2 (DE s 2).1);simp only[bv]at v;simp;refine aa v ?_;simp(disch:=omega)[wl];refine aj 3 (by omega) (by omega) ?_;simp[gN,bv];exact bA
 rw[Q];simp only[fI]at S;simp[bxV,B7,cells,o.rd];refine aa z ?_;simp(disch:=omega)[wl];refine aa S ?_;unfold Jv at p j b;dsimp only at b;cases q:bH n fI with
 |none=>
  have k:=q;simp only[fI]at k;rw[k];rw[q]at p j b;simp only[Ln.iv]at p j b;simp[Ty,Ln.iv];by_cases A:a.k=1
  .rw[if_pos A]at p j b;simp(disch:=omega)[wl,A];refine aa p ?_;cases d:f.af with
   |false=>
    rw[if_neg (by simp[d])]at b;subst b;simp(disch:=omega)[wl];refine aa e ?_;simp(disch:=omega)[wl]
   |true=>
    rw[if_pos d]at b;rw[d]at j;rw[b]at j;simp(disch:=omega)[wl];refine aa j ?_;simp(disch:=omega)[wl];refine aa e ?_;simp(disch:=omega)[wl]
  rw[if_neg A]at p j b;simp(disch:=omega)[wl,A];refine aa p ?_;cases d:f.af with
  |false=>
   rw[if_neg (by simp[d])]at b;subst b;simp(disch:=omega)[wl];refine aa e ?_;simp(disch:=omega)[wl]
  |true=>
   rw[if_pos d]at b;rw[d]at j;rw[b]at j;simp(disch:=omega)[wl];refine aa j ?_;simp(disch:=omega)[wl];refine aa e ?_;simp(disch:=omega)[wl]
 |some y=>
  have k:=q;simp only[fI]at k;rw[k];rw[q]at p j b;simp only[Ln.iv]at p j b;simp[Ty,Ln.iv];refine aa p ?_;cases d:f.af with
  |false=>
   rw[if_neg (by simp[d])]at b;subst b;simp(disch:=omega)[wl];refine aa e ?_;simp(disch:=omega)[wl]
  |true=>
   rw[if_pos d]at b;rw[d]at j;rw[b]at j;simp(disch:=omega)[wl];refine aa j ?_;simp(disch:=omega)[wl];refine aa e ?_;simp(disch:=omega)[wl]
end Go.Vs.Y.Vt
namespace Go.Vs.Y.Vt
open Go.Vs.Cv Go.Vs.Nu Go.Vs.Mo Go.Vs.Y.Rc
def oc(b:Mom)(r:Ru)(i o:List Mom)(t a:Int):WkA:=⟨b,r,i,o,t,t+1,a,false⟩
theorem aap(a k b:Nat):∃q,wJ a k b=a+k*q:=by
 unfold wJ;split
 .exact⟨(b-a+k-1)/k,by rw[Nat.mul_comm]⟩
 exact⟨0,by simp⟩
theorem RV(a:Int)(o:List Mom):∀i:List Mom,iH a o i=315537897600\/∃v∈i,v.s=iH a o i/\a<v.s/\atM o v.s=false:=by
 intro i
 have:∀r:List Mom,iH a o r.reverse=315537897600\/∃v∈r.reverse,v.s=iH a o r.reverse/\a<v.s/\atM o v.s=false:=fun r=>by
  induction r with
  |nil=>exact .inl rfl
  |cons x r c=>
   rw[List.reverse_cons,Hc];split
   .next h=>exact .inr ⟨x,by simp,rfl,h.1,h.2.2⟩
   rcases c with h|⟨v,b,d⟩
   .exact .inl h
   exact .inr ⟨v,by simp at b |-;exact .inl b,d⟩
 simpa using this i.reverse
theorem WP{x:WkA}(b:WkF x){i:Nat}{t:Int}(h:t∈(px x).of i):dK x.r.f.toNat x.r.w.toNat 0<=i/\i<=dZ x.r.f.toNat x.r.w.toNat/\((iF x.r.f.toNat x.r.w.toNat i).1:Int)<=t/\t<((iF x.r.f.toNat x.r.w.toNat i).2:Int):=by
 have a:t∈(if dK x.r.f.toNat x.r.w.toNat 0<=i/\i<=dZ x.r.f.toNat x.r.w.toNat then PT x.r x.b.s.toNat i else []):=h;split at a
 .next q=>
  have c:=b.s;have:=Y7 ⟨b.k,by unfold ff;omega,q.1,q.2⟩ (WL a);exact⟨q.1,q.2,this⟩
 simp at a
theorem wU{b:Mom}{r:Ru}{i o:List Mom}{after bud n:Int}(u:WkF (yx b r i o after bud))(h:py b r i o after bud=(n,true,0)) :
  after<n/\n<=315537897599/\atM o n=false/\((∃v∈i,v.s=n)\/((mW (oc b r i o n bud)).1=0->n∈(mW (oc b r i o n bud)).2.2)):=by
 obtain⟨⟨E,U,M⟩,k⟩:=A_ (mW (yx b r i o after bud));unfold py at h;rw[k]at h;simp only at h;split at h
 .simp at h
 next L=>
 have L:E=0:=by simpa using L
 subst L;split at h
 .simp at h
 next Z=>
 have A:FY o (iH after o i) M=n:=by simpa using h
 rw[A]at Z;unfold FY at A
 have y:iH after o i=n->after<n/\n<=315537897599/\atM o n=false/\((∃v∈i,v.s=n)\/((mW (oc b r i o n bud)).1=0->n∈(mW (oc b r i o n bud)).2.2)):=fun e=>by
  rcases RV after o i with q|⟨v,h1,z,W,X⟩
  .omega
  rw[e]at z;rw[z]at W X;exact⟨W,by omega,X,.inl ⟨v,h1,z⟩⟩
 split at A
 .next t ht=>
  split at A
  .next q3=>
   subst A;have hm:t∈M:=List.mem_of_getLast? ht;have hf:=u.k.s.f;have hw:=u.k.s.w;have hs:=u.s;have hi:=u.k.i;have hc:=u.c;obtain⟨x,C⟩:=A_ (yx b r i o after bud);have hX:∀m,px (oc b r i o m bud)=(px x).at' m:=fun m=>by rw[<-C];rfl
   have B:x.r=r:=by rw[<-C];rfl
   have D:x.b=b:=by rw[<-C];rfl
   have N:x.fr=after+1:=by rw[<-C];rfl
   have a':x.to=iH after o i:=by rw[<-C];rfl
   rw[C]at k u hf hw hs hi hc;have b':=RV after o i;have O:∀a c,a<=c->(px x).fst a<=(px x).fst c:=fun a c h=>Int.ofNat_le.2 (adx _ _ h)
   have P:∀a,∀s∈(px x).of a,(px x).fst a<=s:=fun a s h=>by
    have q:=WP u h;show((IP x.r.f.toNat x.r.w.toNat a:Nat):Int)<=s;unfold IP;rw[if_neg (by omega)];exact q.2.2.1
   unfold mW at k;cases l:DB x with
   |none=>
    rw[l]at k;simp only[Prod.mk.injEq]at k;rw[<-k.2.2]at hm;simp at hm
   |some I=>
    rw[l]at k;simp only at k;have d:=DC (px x) (dZ x.r.f.toNat x.r.w.toNat+1) I x.r.c 0 [];rw[k,if_pos rfl]at d;simp only at d;obtain⟨n1,n2,Y,Q,n5,n6,-⟩:=AV (px x) O P _ _ _ _ _ _ _ d hm (by simp);have Y:x.b.s<=t:=Y;have Q:x.fr<=t:=Q;rw[N]at Q;refine⟨by omega,by omega,q3,.inr fun J=>?_⟩
    have F:∀i1,DB (oc b r i o t bud)=some i1->(∀V K,mO ((px x).at' t) (dZ x.r.f.toNat x.r.w.toNat+1) i1 x.r.c 0 []=some (V,K)->t∈K)->t∈(mW (oc b r i o t bud)).2.2:=fun i1 e hh=>by
     unfold mW at J |-;rw[e]at J |-;simp only at J |-;have p:=DC (px (oc b r i o t bud)) (dZ (oc b r i o t bud).r.f.toNat (oc b r i o t bud).r.w.toNat+1) i1 (oc b r i o t bud).r.c 0 [];rw[if_pos J]at p;have er:(oc b r i o t bud).r=x.r:=by rw[B];rfl
     rw[er]at p |-;rw[hX]at p |-;exact hh _ _ (by rw[p])
    by_cases g:0<x.r.c
    .have e0:DB (oc b r i o t bud)=DB x:=by
      unfold DB;show(if 0<r.c then some (dK r.f.toNat r.w.toNat b.s.toNat)else _)=_;rw[B]at g |-;rw[D,if_pos g,if_pos g]
     exact F I (by rw[e0,l]) fun V K z=>Up (px x) O P _ _ _ _ _ _ _ _ _ _ _ _ (.inl rfl) d hm (by simp) z
    have R:x.r.c=0:=by omega
    obtain⟨j,j1,j2,j3⟩:=M8 (px x) O P _ _ _ _ _ _ _ (by omega) d hm (by simp);have q:=WP u j2;have S:t.toNat<=ff:=by unfold ff;omega
    have H:=XZ (f:=x.r.f.toNat) (w:=x.r.w.toNat) (by omega) (by omega) q.1 S (by omega) (by omega)
    have e0:DB (oc b r i o t bud)=some (I+(px x).k*j):=by
     unfold DB at l;rw[if_neg g]at l;split at l
     .cases l
     simp only[E_]at l;obtain⟨q',hq⟩:=aap (dK x.r.f.toNat x.r.w.toNat x.b.s.toNat) x.r.i.toNat (dK x.r.f.toNat x.r.w.toNat (max x.fr x.b.s).toNat);unfold DB;show(if 0<r.c then _ else if 315537897599<max t b.s then none else some (wJ (dK r.f.toNat r.w.toNat b.s.toNat) r.i.toNat (dK r.f.toNat r.w.toNat (max t b.s).toNat)))=_;rw[<-B,<-D,if_neg g,if_neg (by omega),show max t x.b.s=t by omega,H];have ek:(px x).k=x.r.i.toNat:=rfl;rw[ek];have e1:I+x.r.i.toNat*j=dK x.r.f.toNat x.r.w.toNat x.b.s.toNat+x.r.i.toNat*(q'+j):=by rw[<-l,hq,Nat.mul_add];omega
     rw[e1,adv (by omega)]
    refine F _ e0 fun V K z=>?_
    rw[R]at z;exact j3 _ _ _ z
  exact y A
 exact y A
end Go.Vs.Y.Vt
namespace Go.Vs.Y.Rc
open Go.Proofs Go.Vs.U8 Go.Vs.Pa Go.Vs.Nu Go.Lib Go.Vs.Mo
theorem dec_val{b:Str}(h:b.all eI=true)(a:b≠[]):(decDigits (bE 0 b)).length<=b.length:=by
 have c:=List.length_pos_iff.2 a;have:=Gs b 0 h;have d:=xo (b.length-1) (bE 0 b) (by rw[show b.length-1+1=b.length by omega];omega);omega
theorem num_len{d:Nat}{f i:Int}{c:Bool}{s:Str}(h:(dT d f i c s).2=0):(itoa (dT d f i c s).1).length<=s.length:=by
 unfold dT at h |-;generalize p:(c&&(decide (s[0]?=some 43)||decide (s[0]?=some 45)))=g at h |-;dsimp only at h |-;generalize e:(if g=true then s.drop 1 else s)=b at h |-;split at h
 .simp at h
 next a=>
 rw[if_neg a];split at h
 .simp at h
 next l=>
 rw[if_neg l];simp only[not_or]at a;have m:b.all eI=true:=by simpa using a.2.2
 have q:=dec_val m a.1;have n:b.length<=s.length:=by rw[<-e];split<;>simp
 simp only;split
 .next j=>
  rw[if_pos j.1]at e
  have u:0<s.length:=by
   have:=j.2;cases s with
   |nil=>simp at this
   |cons=>simp
  have k:b.length+1=s.length:=by rw[<-e,List.length_drop];omega
  by_cases o:bE 0 b=0
  .rw[o]
   have:(itoa (-((0:Nat):Int))).length<=1:=by
    rw[show -((0:Nat):Int)=((0:Nat):Int) by simp,tv];exact xo 0 0 (by decide)
   omega
  rw[Dc _ (by omega)];simp only[List.length_cons];omega
 rw[tv];omega
theorem adV(d:Int):(yB d).length<=2:=by
 unfold yB;split
 .simp
 rw[List.length_take];omega
abbrev adW:=@Go.Vs.Y.dayT
theorem agw{s:Str}(h:(tw s).2=0):(adW (tw s).1).length<=s.length:=by
 unfold tw at h |-;split at h
 .simp at h
 next e=>
 rw[if_neg e];split at h
 .simp at h
 next f=>
 rw[if_neg f];have c:=fun d=>adV d
 split at h
 .next b=>
  rw[if_pos b];unfold adW Go.Vs.Y.dayT;have:=c (Iv (s.drop (s.length-2)));simp only[if_true,List.nil_append];omega
 next b=>
 rw[if_neg b];split at h
 .next a=>exact absurd h a
 next a=>
 rw[if_neg a];have g:=num_len (show(dT 2 1 53 true (s.take (s.length-2))).2=0 by simpa using a);have:=c (Iv (s.drop (s.length-2)));unfold adW Go.Vs.Y.dayT;dsimp only;rw[List.length_append];rw[List.length_take]at g;split
 .simp;omega
 omega
theorem Is{c:Type} [DecidableEq c]{one:Str->c×Int}{text:c->Str}(d:∀x,(one x).2=0->(text (one x).1).length<=x.length):∀(L:List Str) (a:Nat) (b l:List c),fL one L a b=.ok l->xP (l.map text)<=xP (b.map text)+xP L
 |[],a,b,l,h=>by
  have h:GotE.ok b=GotE.ok l:=h;cases h;exact Nat.le_add_right _ _
 |x::r,a,b,l,h=>by
  unfold fL at h;split at h
  .cases h
  split at h
  .cases h
  next q=>
  split at h
  .cases h
  have e:=Is d r _ _ _ h;have:=d x (by simpa using q);rw[List.map_append,wK]at e;rw[pW];simp only[List.map_cons,List.map_nil,xP,List.sum_cons,List.sum_nil]at e |-;omega
theorem p6{a:Type} [DecidableEq a]{one:Str->a×Int}{text:a->Str}(c:∀x,(one x).2=0->(text (one x).1).length<=x.length){v:Str}{l:List a}(h:cS one v=.ok l):(join (l.map text) [44]).length<=v.length:=by
 have b:=Is (text:=text) c _ _ _ _ h;have d:=WH 44 v;cases l with
 |nil=>simp[join]
 |cons x r=>
  have e:=M9 44 (text x) (r.map text);rw[List.map_cons]at b |-;simp only[List.map_nil,xP,List.sum_nil]at b d e;omega
theorem agx{v:Str}(h:(iw v).2=0):(dn (iw v).1).length<=v.length:=by
 unfold iw at h |-;split at h
 .simp at h
 next a=>
 rw[if_neg a];split at h
 .simp at h
 next g=>
 rw[if_neg g];simp only[not_or]at a;have b:qZ v≠0:=a.1;have c:∀n,(Mo.dayT n).length=8:=fun n=>by simp[Mo.dayT,jh]
 have f:∀n,(BM n).length=6:=fun n=>by simp[BM,jh]
 unfold dn;dsimp only;unfold qZ at b |-;split
 .next q=>simp[c,q]
 next q=>
 split
 .next d=>simp[c,f,d.1]
 next d=>
 split
 .next e=>simp[c,f,e.1]
 next e=>
 rw[if_neg q,if_neg d,if_neg e]at b;exact absurd rfl b
theorem pY{b:Bool}{k:Nat}{x v:Str}(h:x.length<=v.length):H2 b k x<=(lL k).length+v.length+2:=by
 unfold H2;split
 .unfold eqS;simp;omega
 omega
theorem agy{v:Str}(h:¬Iv v<0):2<=v.length:=by
 unfold Iv at h
 repeat' split at h
 all_goals first
  |(next q=>rw[q];decide)
  |omega
theorem ahf:adA:=by
 intro r k v f d h;unfold kN at h;rcases Zw d with rfl|rfl|rfl|rfl|rfl|rfl|rfl|rfl|rfl|rfl|rfl|rfl|rfl|rfl
 all_goals
  simp +decide only [if_true,if_false]at h;split at h
 all_goals try (cases h;done)
 all_goals simp only[TkR.ok.injEq]at h;subst h
 .next q=>
  have e:lM ((qC.idxOf v:Nat):Int).toNat=v:=by
   unfold lM;rw[Int.toNat_natCast,List.getD_eq_getElem?_getD,List.getElem?_eq_getElem (show qC.idxOf v<qC.length from q),Option.getD_some,List.getElem_idxOf]
  show(eqS 0 (lM ((qC.idxOf v:Nat):Int).toNat)).length+1<=_;rw[e];unfold eqS;simp;omega
 .next q=>exact pY (agx q)
 .next q=>exact pY (num_len q)
 .next q=>exact pY (num_len q)
 .next l q=>exact pY (p6 (fun x a=>num_len a) q)
 .next l q=>exact pY (p6 (fun x a=>num_len a) q)
 .next l q=>exact pY (p6 (fun x a=>num_len a) q)
 .next l q=>exact pY (p6 (fun x a=>agw a) q)
 .next l q=>exact pY (p6 (fun x a=>num_len a) q)
 .next l q=>exact pY (p6 (fun x a=>num_len a) q)
 .next l q=>exact pY (p6 (fun x a=>num_len a) q)
 .next l q=>exact pY (p6 (fun x a=>num_len a) q)
 .next l q=>exact pY (p6 (fun x a=>num_len a) q)
 next q=>exact pY (Nat.le_trans (adV _) (agy q))
end Go.Vs.Y.Rc
namespace Go.Vs.Y.Vt
open Go.Lib Go.Vs.U8 Go.Vs.Pa Go.Vs.Nu Go.Vs.Mo Go.Vs.Vt Go.Vs.Y.Rc
def Pln(s:Str):Prop:=∀c∈s,32<=c.toNat/\c.toNat<127
theorem adX{m n:Nat}(h:m<=n):(decDigits m).length<=(decDigits n).length:=by
 have a:=Gs (decDigits n) 0 (xn n);rw[Ky]at a;have b:=Xm n;have:=xo ((decDigits n).length-1) m (by rw[show(decDigits n).length-1+1=(decDigits n).length by omega];omega);omega
theorem PW{r:Ru}(h:0<r.c):(dJ {r with c:=r.c-1 }).length<=(dJ r).length:=by
 have s:=H4 r;have u:=H4 {r with c:=r.c-1 }
 have i:=WI (f:=wt {r with c:=r.c-1 }) (g:=wt r) (m:=0) (k:=2) (fun j l d=>by
  rcases Zw d with rfl|rfl|rfl|rfl|rfl|rfl|rfl|rfl|rfl|rfl|rfl|rfl|rfl|rfl<;>first|exact Nat.le_refl _|exact absurd rfl l) (by
  show H2 (decide (r.c-1≠0)) 2 (itoa (r.c-1))<=H2 (decide (r.c≠0)) 2 (itoa r.c)+0;obtain⟨n,o⟩:∃n:Nat,r.c=(n:Int)+1:=⟨(r.c-1).toNat,by omega⟩;rw[o];have e1:(n:Int)+1-1=(n:Int):=by omega
  have e2:(n:Int)+1=((n+1:Nat):Int):=by omega
  rw[e1,e2,tv,tv];have:=adX (show n<=n+1 by omega);have q:decide (((n+1:Nat):Int)≠0)=true:=by simp;omega
  rw[q];unfold H2 eqS;simp only[if_true,List.length_append,List.length_cons]
  split<;>omega) 14 (Nat.le_refl _)
 simp at i;omega
theorem My{s:UInt8}(b:32<=s.toNat/\s.toNat<127){l:List Str}(h:∀x∈l,Pln x):Pln (join l [s]):=fun c d=>
 Classical.byContradiction fun a=>QY (c:=c) (s:=s) (fun e=>a (e▸b)) (fun x f q=>a (h x f c q)) d
theorem FZ(n:Int):Pln (itoa n):=by
 by_cases h:n<0
 .obtain⟨u,rfl⟩:∃u:Nat,n = -(u:Int):=⟨n.natAbs,by omega⟩;rw[Dc u (by omega)];intro c a;rcases List.mem_cons.1 a with rfl|a
  .decide
  exact H1 (xn u) c a
 obtain⟨u,rfl⟩:∃u:Nat,n=(u:Int):=⟨n.toNat,by omega⟩;rw[tv];exact H1 (xn u)
theorem adY(d:Int):Pln (yB d):=by
 unfold yB;split
 .intro c b;simp at b
 intro c b;have:c∈acb:=List.mem_of_mem_drop (List.mem_of_mem_take b);have a:∀c∈acb,32<=c.toNat/\c.toNat<127:=by decide
 exact a c this
theorem agz(x:Dn):Pln (adW x):=by
 unfold adW Go.Vs.Y.dayT;intro c a;rcases List.mem_append.1 a with h|h
 .split at h
  .simp at h
  exact FZ _ c h
 exact adY _ c h
theorem agA(r:Ru)(k:Nat):Pln (qD r k):=by
 unfold qD;split
 .exact My (by decide) fun x a=>by
   obtain⟨y,-,rfl⟩:=List.mem_map.1 a;exact agz y
 exact My (by decide) fun x a=>by
  obtain⟨y,-,rfl⟩:=List.mem_map.1 a;exact FZ y
theorem G0{b:Bool}{k:Nat}{v:Str}(c:k<14)(d:Pln v):∀p∈kh b k v,p.1<14/\Pln p.2:=by
 unfold kh;intro p a;split at a
 .rw[List.mem_singleton.1 a];exact⟨c,d⟩
 simp at a
theorem UG(r:Ru):∀a:List Nat,(∀k∈a,k<14)->∀p∈fA r a,p.1<14/\Pln p.2
 |[],_,p,b=>by simp[fA]at b
 |k::a,h,p,b=>by
  rw[fA]at b;rcases List.mem_append.1 b with q|q
  .exact G0 (h k (by simp)) (agA r k) p q
  exact UG r a (fun j c=>h j (by simp[c])) p q
theorem aar{r:Ru}(i:0<=r.f/\r.f<=6):Pln (dJ r):=by
 unfold dJ;refine My (by decide) fun x f=>?_
 obtain⟨p,a,rfl⟩:=List.mem_map.1 f
 have g:Pln (lM r.f.toNat):=by
  have:r.f.toNat=0\/r.f.toNat=1\/r.f.toNat=2\/r.f.toNat=3\/r.f.toNat=4\/r.f.toNat=5\/r.f.toNat=6:=by omega
  rcases this with e|e|e|e|e|e|e<;>rw[e]<;>(show ∀c∈_,_)<;>decide
 have b:p.1<14/\Pln p.2:=by
  unfold cU at a;rcases List.mem_cons.1 a with rfl|a
  .exact⟨by simp,g⟩
  rcases List.mem_append.1 a with q|a
  .exact G0 (by omega) (Dz _) p q
  rcases List.mem_append.1 a with q|a
  .exact G0 (by omega) (FZ _) p q
  rcases List.mem_append.1 a with q|a
  .exact G0 (by omega) (FZ _) p q
  rcases List.mem_append.1 a with q|q
  .exact UG r bq (by decide) p q
  exact G0 (by omega) (adY _) p q
 have h:Pln (lL p.1):=by
  rcases Zw b.1 with e|e|e|e|e|e|e|e|e|e|e|e|e|e<;>rw[e]<;>(show ∀c∈_,_)<;>decide
 intro c d;unfold eqS at d;rcases List.mem_append.1 d with q|q
 .exact h c q
 rcases List.mem_cons.1 q with rfl|q
 .decide
 exact b.2 c q
theorem WQ{r:Ru}{p:List Pm}(f:je p=0)(a:0<=r.f)(h:cT r=0)(i:(dJ r).length<=200):iP ⟨bN,p,dJ r⟩=0/\Wo (dJ r)=r:=by
 have d:=Ld a h;have j:=(iN (ei h).1).1;refine⟨?_,by unfold Wo;rw[d]⟩;unfold iP;rw[Fu (by decide) f i (aar ⟨a,j⟩),if_neg (by decide),if_neg (by simp[bN,GO,GP])];have:bt ⟨bN,p,dJ r⟩=ruE (dJ r):=by simp[bt,nm_]
 rw[this];unfold ruE;rw[d]
theorem adZ{l:List Ln}{x:Ln}(h:wH l)(b:iP x=0):wH (kB l x):=by
 refine⟨fun y a=>?_,fun m hm=>?_⟩
 .rcases oN a with rfl|a
  .exact b
  exact h.1 y a
 rw[Jn];split
 .omega
 exact h.2 m hm
theorem UH{p:List Pm}{a:Mom}(b:dm a=0)(c:(ij p nTZ).isSome=false)(d:¬GQ (ij p F3) a.k):bJ ⟨fI,p,dn a⟩=(0,a):=by
 have e:cO ⟨fI,p,dn a⟩=(0,[a]):=by
  unfold cO;rw[if_neg (by simp[c])];dsimp only;rw[tq (PG a),lh,L6 b,if_neg (by simp),if_neg d,nV];rfl
 unfold bJ;rw[e];simp
theorem agB{l:List Ln}{a:Mom}(j:wH l)(c:dm a=0)(g:∀x,bH l fI=some x->a.k=(bJ x).2.k/\(bJ x).1=0):iP (Jv l a)=0/\(bJ (Jv l a)).2=a:=by
 have b:∀p,je p=0->bJ ⟨fI,p,dn a⟩=(0,a)->iP ⟨fI,p,dn a⟩=0/\(bJ ⟨fI,p,dn a⟩).2=a:=fun p d h=>by
  refine⟨?_,by rw[h]⟩;unfold iP;have k:bt ⟨fI,p,dn a⟩=(bJ ⟨fI,p,dn a⟩).1:=by simp[bt,nm_]
  rw[Fu (by decide) d (by have:=kO a;omega) (Dz a),if_neg (by decide),if_neg (by simp[fI,GO,GP]),k,h]
 unfold Jv;cases e:bH l fI with
 |some x=>
  have i:=Rd j fI;have d:MY l fI=x.p:=by unfold MY;rw[e]
  rw[d]at i;exact b _ i (Un fI (g x e).2 (g x e).1 c)
 |none=>
  simp only;split
  .next f=>exact b _ (by decide) (UH c (by decide) (by rw[f];decide))
  next f=>exact b _ (by decide) (UH c (by decide) (by simpa[ij,GQ]using f))
theorem ad0{p:List Pm}(a:je p=0):iP ⟨bK,p,[110]⟩=0:=by
 unfold iP;rw[Fu (by decide) a (by decide) (by decide),if_neg (by decide),if_neg (by simp[bK,GO,GP])];have e:bt ⟨bK,p,[110]⟩=if ti [110]=true then 0 else 4:=by simp[bt]
 rw[e];decide
theorem ad1{b:Mom}{r:Ru}{i o:List Mom}(h:kC b r i o=0):kC b r [] o=0:=by
 unfold kC at h |-;split at h
 .next q=>exact absurd h q
 next c=>
 rw[if_neg c];split at h
 .next q=>exact absurd h q
 next d=>
 rw[if_neg d];split at h
 .simp at h
 next e=>
 rw[if_neg e];split at h
 .simp at h
 next f=>
 rw[if_neg f];split at h
 .simp at h
 next a=>
 rw[if_neg (by simp only[not_or]at a |-;exact⟨by simp,a.2⟩)];split at h
 .next g=>exact absurd h g
 simpa[jH]using h
theorem WR{l:List Ln}{f:Fc}(h:gK l=.ok f)(i:FitF f):NextH f:=by
 refine⟨i,fun b=>(y3 h b).s,fun b v j g=>?_,?_⟩
 .have d:=(y3 h b).s
  have k:0<=f.ru.c:=by
   unfold kC at d;split at d
   .next q=>exact absurd d q
   split at d
   .next q=>exact absurd d q
   next q=>exact(iN (ei (by simpa using q)).1).2.2.2.1
  exact PV (ad1 d) j g ⟨Int.le_refl _,k⟩
 cases b:f.rd with
 |true=>
  have:=iI.1 (Fx h b).hb;exact⟨this.2.2.1,this.2.2.2.1⟩
 |false=>
  have e:dN f=f.b.s:=by unfold dN;rw[if_neg (by simp[b])]
  rw[e];exact i.b.2
def qR(l:List Ln):List Ln:=gN (gb l bK [110]) 3
def rp(l:List Ln)(a:Mom):List Ln:=kB (qR l) (Jv (qR l) a)
theorem Jw(l:List Ln)(n:Str):bH (qR l) n=if n=bv then none else if n=eg then none else if n=bW then none else if n=bK then some ⟨bK,MY l bK,[110]⟩else bH l n:=by
 show bH (dh (dh (dh (gb l bK [110]) bW) eg) bv) n=_;rw[get_drop,get_drop,get_drop,XK]
theorem RW(l:List Ln)(n:Str):aO (qR l) n=if n=bv then 0 else if n=eg then 0 else if n=bW then 0 else if n=bK then 1 else aO l n:=by
 show aO (dh (dh (dh (gb l bK [110]) bW) eg) bv) n=_;rw[F7,F7,F7,XL]
theorem ad2(l:List Ln){m:Str}(a:m≠bK)(b:m≠bW)(c:m≠eg)(d:m≠bv):(qR l).filter (hasL m)=l.filter (hasL m):=by
 show(dh (dh (dh (gb l bK [110]) bW) eg) bv).filter (hasL m)=_;rw[sF (vJ d),sF (vJ c),sF (vJ b),TW (vJ a)]
structure InsH(l:List Ln)(a:Mom):Prop where
 good:wH (rp l a)
 len:(rp l a).length<=l.length+1
 get:∀n,bH (rp l a) n=if n=fI then some (Jv (qR l) a)else bH (qR l) n
 cnt:∀n,aO (rp l a) n=if n=fI then 1 else aO (qR l) n
 filt:∀m,m≠bK->m≠bW->m≠eg->m≠bv->m≠fI->(rp l a).filter (hasL m)=l.filter (hasL m)
 at':(bJ (Jv (qR l) a)).2=a
theorem ajE{l:List Ln}{f:Fc}{a:Mom}(h:gK l=.ok f)(k:f.rd=true)(B:dm a=0)(o:a.k=f.b.k):InsH l a:=by
 have H:=y3 h k;obtain⟨s,p,C,J⟩:=mD.1 h;have u:wH (qR l):=GS (GS (GS (TU p (ad0 (Rd p bK))) bW) eg) bv
 have b:∀x,bH (qR l) fI=some x->a.k=(bJ x).2.k/\(bJ x).1=0:=fun x b=>by
  rw[Jw,if_neg (by decide),if_neg (by decide),if_neg (by decide),if_neg (by decide)]at b;have D:=kW p b;have E:=qK b;have d:(bJ x).1=0:=by rw[<-D];simp[bt,E,nm_]
  have hm:=iI.1 (Fv d).2.1
  have e:f.at'=(bJ x).2:=by
   rw[C];show fo (bH l) fI (fun x=>(bJ x).2) mj=_;unfold fo;rw[b]
  have:=H.t (by rw[e];omega);rw[e]at this;exact⟨by rw[o,this.1],d⟩
 have g:=agB u B b
 have F:(qR l).length<=l.length:=by
  have i:aO l bK≠0:=H.a.c1;have j:bH l bK≠none:=fun q=>i (GR.2 q)
  cases w:bH l bK with
  |none=>exact absurd w j
  |some y=>
   have z:=put_same (v:=[110]) w;have A:=adT (gb l bK [110]);show(gN (gb l bK [110]) 3).length<=_;omega
 refine⟨adZ u g.1,?_,fun n=>?_,fun n=>?_,fun m i j z A I=>?_,g.2⟩
 .have i:=AT (Jv (qR l) a) (qR l);have j:(if bH (qR l) (Jv (qR l) a).n=none then 1 else 0)<=1:=by split<;>omega
  show(kB (qR l) (Jv (qR l) a)).length<=_;omega
 .show bH (kB (qR l) (Jv (qR l) a)) n=_;rw[XJ];rfl
 .show aO (kB (qR l) (Jv (qR l) a)) n=_;rw[Jn];rfl
 show(kB (qR l) (Jv (qR l) a)).filter (hasL m)=_;rw[zZ (x:=Jv (qR l) a) (vJ (show m≠(Jv (qR l) a).n from I)),ad2 l i j z A]
def pf(f:Fc)(a:Mom):Fc:={f with uid:=[110],li:=Lz,at':=a }
def p7(f:Fc)(c:Mom):Fc:={f with b:=c,e:=if f.e.k≠0 then ⟨f.e.k,c.s+di f⟩else f.e,ru:=if 0<f.ru.c then {f.ru with c:=f.ru.c-1 } else f.ru }
def jK(f:Fc)(a c:Mom):Fc:=if f.af=true then pf (p7 f c) a else pf f a
theorem aiI{l:List Ln}{a:Mom}(I:InsH l a):gF (rp l a)=pf (gF l) a:=by
 have sm:∀n,n≠fI->n≠bv->n≠eg->n≠bW->n≠bK->bH (rp l a) n=bH l n:=fun n j k o p q=>by
  rw[I.get,if_neg j,Jw,if_neg k,if_neg o,if_neg p,if_neg q]
 have b:∀ {e:Type} (n:Str) (h:Ln->e) (d:e),(n=bv\/n=eg\/n=bW)->fo (bH (rp l a)) n h d=d:=fun n h d g=>by
  unfold fo;rw[I.get,if_neg (by rcases g with rfl|rfl|rfl<;>decide),Jw];rcases g with rfl|rfl|rfl<;>simp[bv,eg,bW]
 have s:fo (bH (rp l a)) bK (fun x=>x.v) []=[110]:=by
  unfold fo;rw[I.get,if_neg (by decide),Jw,if_neg (by decide),if_neg (by decide),if_neg (by decide),if_pos rfl]
 have u:fo (bH (rp l a)) fI (fun x=>(bJ x).2) mj=a:=by
  unfold fo;rw[I.get,if_pos rfl];exact I.at'
 have v:=sm fG (by decide) (by decide) (by decide) (by decide) (by decide);have w:=sm bp (by decide) (by decide) (by decide) (by decide) (by decide);have y:=sm ba (by decide) (by decide) (by decide) (by decide) (by decide);have z:=sm ct (by decide) (by decide) (by decide) (by decide) (by decide);have A:=sm cR (by decide) (by decide) (by decide) (by decide) (by decide);have B:=sm gp (by decide) (by decide) (by decide) (by decide) (by decide);have i:=sm bN (by decide) (by decide) (by decide) (by decide) (by decide);have C:=sm js (by decide) (by decide) (by decide) (by decide) (by decide);have D:=I.filt cV (by decide) (by decide) (by decide) (by decide) (by decide);have E:=I.filt cj (by decide) (by decide) (by decide) (by decide) (by decide);unfold gF Jl pf;dsimp only;rw[s,u,mN v,mN w,mN y,mN z,mN A,mN B,mN i,mN i,mN C,D,E,b bW _ _ (by simp),b eg _ _ (by simp),b bv _ _ (by simp)];rfl
theorem PX{x:Ln}(h:iP x=0):gR x=0:=by
 unfold iP at h;split at h
 .next q=>exact absurd h q
 next q=>simpa using q
theorem G1{b:Mom}{r:Ru}{i o:List Mom}(h:kC b r i o=0):cT r=0:=by
 unfold kC at h;split at h
 .next q=>exact absurd h q
 split at h
 .next q=>exact absurd h q
 next q=>simpa using q
structure RecH(f:Fc)(m r:List Ln)(c:Mom):Prop where
 good:wH r
 len:r.length<=m.length
 cnt:∀n,n≠ba->n≠ct->n≠bN->aO r n=aO m n
 fact:gF r=p7 f c
theorem Mz{m:List Ln}{n v:Str}{x:Ln}(d:bH m n=some x)(f:wH m)(i:iP ⟨n,MY m n,v⟩=0):wH (gb m n v)/\(gb m n v).length<=m.length/\(∀j,bH (gb m n v) j=if j=n then some ⟨n,MY m n,v⟩else bH m j)/\(∀j,j≠n->aO (gb m n v) j=aO m j)/\(∀j,j≠n->(gb m n v).filter (hasL j)=m.filter (hasL j)):=
 ⟨TU f i,put_same d,fun j=>XK m n v j,fun j a=>by rw[XL,if_neg a],fun j a=>TW (vJ a) m v⟩
theorem ajF{f:Fc}{m:List Ln}{c:Mom}(v:wH m)(A:f=gF m)(hb:f.b.k≠0)(B:f.rd=true)(hc:dm c=0)(M:c.k=f.b.k)(he:f.e.k≠0->dm ⟨f.e.k,c.s+di f⟩=0)(hs:kC f.b f.ru f.i f.o=0)(hF:FitF f):RecH f m (y0 f m c) c:=by
 have dl:∀n x,(n=ba\/n=ct)->bH m n=some x->(bJ x).1=0:=fun n x hn hg=>by
  have ht:=kW v hg;have:=qK hg;rw[<-ht];rcases hn with rfl|rfl<;>simp[bt,this,nm_]
 have eb:f.b=fo (bH m) ba (fun x=>(bJ x).2) mj:=by rw[A];rfl
 have N:f.e=fo (bH m) ct (fun x=>(bJ x).2) mj:=by rw[A];rfl
 have er:f.ru=fo (bH m) bN (fun x=>Wo x.v) Zv:=by rw[A];rfl
 have K:f.rd=fo (bH m) bN (fun _=>true) false:=by rw[A];rfl
 obtain⟨x,O,q2⟩:=Fw (g:=bH m) (n:=ba) (h:=fun x=>(bJ x).2) (by rw[<-eb];exact hb);rw[<-eb]at q2;have a1:=M3 (w:=c) v (.inl rfl) O (by rw[M,q2]) hc (dl _ _ (.inl rfl) O);obtain⟨L,l1,s,c1,f1⟩:=Mz O v a1.1;obtain⟨l,e1⟩:=A_ (gb m ba (dn c));rw[e1]at L l1 s c1 f1
 obtain⟨a,e2,C,l2,u,P,Q,d2⟩:∃a,(if f.e.k≠0 then gb l ct (dn ⟨f.e.k,c.s+di f⟩)else l)=a/\wH a/\a.length<=l.length/\(∀j,j≠ct->bH a j=bH l j)/\(∀j,j≠ct->aO a j=aO l j)/\(∀j,j≠ct->a.filter (hasL j)=l.filter (hasL j))/\fo (bH a) ct (fun x=>(bJ x).2) mj=(p7 f c).e:=by
  by_cases i:f.e.k=0
  .refine⟨l,by rw[if_neg (by simp[i])],L,Nat.le_refl _,fun _ _=>rfl,fun _ _=>rfl,fun _ _=>rfl,?_⟩;have:bH l ct=bH m ct:=by rw[s,if_neg (by decide)]
   rw[mN this,<-N];simp[p7,i]
  obtain⟨y,p1,p2⟩:=Fw (g:=bH m) (n:=ct) (h:=fun x=>(bJ x).2) (by rw[<-N];exact i);rw[<-N]at p2;have p3:bH l ct=some y:=by rw[s,if_neg (by decide)];exact p1
  have a2:=M3 (w:=⟨f.e.k,c.s+di f⟩) L (.inr rfl) p3 (by show f.e.k=_;rw[p2]) (he i) (dl _ _ (.inr rfl) p1);obtain⟨C,l2,u,P,Q⟩:=Mz p3 L a2.1;refine⟨_,if_pos i,C,l2,fun j R=>by rw[u,if_neg R],P,Q,?_⟩;unfold fo;rw[u,if_pos rfl];simp only[p7];rw[if_pos i];exact a2.2
 obtain⟨z,D⟩:∃z,bH m bN=some z:=by
  rw[B]at K;unfold fo at K;cases hz:bH m bN with
  |none=>rw[hz]at K;cases K
  |some z=>exact⟨z,rfl⟩
 have r2:f.ru=Wo z.v:=by rw[er];unfold fo;rw[D]
 have S:bH a bN=some z:=by rw[u _ (by decide),s,if_neg (by decide)];exact D
 obtain⟨d,e3,U,l3,o,V,W,d3,b3⟩:∃d,(if 0<f.ru.c then gb a bN (dJ {f.ru with c:=f.ru.c-1 })else a)=d/\wH d/\d.length<=a.length/\(∀j,j≠bN->bH d j=bH a j)/\(∀j,j≠bN->aO d j=aO a j)/\(∀j,j≠bN->d.filter (hasL j)=a.filter (hasL j))/\fo (bH d) bN (fun x=>Wo x.v) Zv=(p7 f c).ru/\fo (bH d) bN (fun _=>true) false=true:=by
  by_cases i:0<f.ru.c
  .have X:bt z=0:=kW v D;have q:ruE z.v=0:=by rw[<-X];have:=qK D;simp[bt,this,nm_]
   have Y:iY z.v=.ok f.ru:=by
    rw[r2];unfold ruE at q;unfold Wo;cases hq:iY z.v with
    |ok r=>rfl
    |no e p=>rw[hq]at q;exact absurd q (Lg hq).1
   have Z:z.v.length<=200:=((Dg z).1 (PX (v.1 z (Jr D)))).2.2.1;have E:=PJ ahf Y;have F:=PW i;have H:cT f.ru=0:=G1 hs;have h4:=DD (k:=f.ru.c-1) H (by omega);have a3:=WQ (r:={f.ru with c:=f.ru.c-1 }) (p:=MY a bN) (Rd C bN) hF.rk h4 (Nat.le_trans F (Nat.le_trans E Z));obtain⟨U,l3,o,V,W⟩:=Mz S C a3.1;refine⟨_,if_pos i,U,l3,fun j R=>by rw[o,if_neg R],V,W,?_,?_⟩
   .unfold fo;rw[o,if_pos rfl];simp only[p7];rw[if_pos i];exact a3.2
   unfold fo;rw[o,if_pos rfl]
  refine⟨a,by rw[if_neg i],C,Nat.le_refl _,fun _ _=>rfl,fun _ _=>rfl,fun _ _=>rfl,?_,?_⟩
  .unfold fo;rw[S];simp only[p7];rw[if_neg i,r2]
  unfold fo;rw[S]
 have hR:y0 f m c=d:=by
  unfold y0;simp only;rw[e1,e2];exact e3
 rw[hR];refine⟨U,by omega,fun n n1 n2 n3=>by rw[V n n3,P n n2,c1 n n1],?_⟩
 have sm:∀n,n≠bN->n≠ct->n≠ba->bH d n=bH m n:=fun n E F H=>by
  rw[o n E,u n F,s,if_neg H]
 have fl:∀n,n≠bN->n≠ct->n≠ba->d.filter (hasL n)=m.filter (hasL n):=fun n E F H=>by
  rw[W n E,Q n F,f1 n H]
 have b1:fo (bH d) ba (fun x=>(bJ x).2) mj=c:=by
  unfold fo;rw[o _ (by decide),u _ (by decide),s,if_pos rfl];exact a1.2
 have b2:fo (bH d) ct (fun x=>(bJ x).2) mj=(p7 f c).e:=by
  rw[<-d2];exact mN (o _ (by decide))
 have s1:=sm fG (by decide) (by decide) (by decide);have s2:=sm bp (by decide) (by decide) (by decide);have s3:=sm bK (by decide) (by decide) (by decide);have s4:=sm bW (by decide) (by decide) (by decide);have s5:=sm cR (by decide) (by decide) (by decide);have s6:=sm gp (by decide) (by decide) (by decide);have s7:=sm eg (by decide) (by decide) (by decide);have s8:=sm js (by decide) (by decide) (by decide);have s9:=sm bv (by decide) (by decide) (by decide);have s0:=sm fI (by decide) (by decide) (by decide);have t1:=fl cV (by decide) (by decide) (by decide);have t2:=fl cj (by decide) (by decide) (by decide);obtain⟨e',I⟩:∃e',(p7 f c).e=e':=⟨_,rfl⟩;obtain⟨u',J⟩:∃u',(p7 f c).ru=u':=⟨_,rfl⟩;have a':p7 f c = {f with b:=c,e:=e',ru:=u',rd:=true }:=by rw[<-I,<-J,<-B];rfl
 rw[I]at b2;rw[J]at d3;rw[a',A];unfold gF Jl;dsimp only;rw[b1,b2,d3,b3,mN s0,mN s1,mN s2,mN s3,mN s4,mN s5,mN s6,mN s7,mN s8,mN s9,t1,t2]
theorem UI{r:List Ln}{g:Fc}(d:r.length<=24)(e:wH r)(h:gF r=g)(i:aO r bK≠0)(j:aO r bp≠0)(a:yD g.li=0)(k:qJ g=0)(b:g.rd=true)(l:g.b.k≠0)(n:kC g.b g.ru g.i g.o=0)(o:g.af=true->aO r cV=0)(p:g.at'.k=g.b.k)(v:g.b.s<=g.at'.s)(s:g.uid=[110])(u:(mg g).2=true):gK r=.ok g:=by
 refine mD.2 ⟨d,e,h.symm,?_⟩;unfold eR;rw[if_neg (by simp[i,j]),if_neg (by simp[a]),if_neg (by simp[k]),if_pos b];unfold mC;rw[if_neg l,if_neg (by simp[n]),if_neg (fun q=>by have:=o q.1;omega),if_neg (fun q=>q.2 p),if_neg (fun q=>by have:=q.2;omega),if_neg (by rw[s];decide),if_neg (by simp[u])]
theorem ad3{l:List Ln}{f:Fc}(h:gK l=.ok f):0<=f.sp:=by
 obtain⟨_,c,d,_⟩:=mD.1 h;have e:f.sp=fo (bH l) cR (fun x=>(II x).2) 0:=by rw[d];rfl
 rw[e];unfold fo;cases b:bH l cR with
 |none=>exact Int.le_refl _
 |some x=>
  have g:=kW c b;have i:=qK b;have a:(II x).1=0:=by rw[<-g];simp[bt,i,nm_]
  simp only;unfold II at a |-;split at a
  .simp at a
  next q=>rw[if_neg q];have a:(wG x.v).2=0:=a;omega
theorem RX{f:Fc}(a:qJ f=0)(c:f.b.k≠0):(0<f.sp->f.e.k=0)/\(f.e.k≠0->f.b.k=f.e.k/\f.b.s<=f.e.s)/\¬(f.b.k=1/\f.sp%86400≠0)/\f.sp<=86399913600:=by
 unfold qJ at a;split at a
 .simp at a
 next d=>
 split at a
 .simp at a
 next e=>
 split at a
 .simp at a
 next g=>
 split at a
 .simp at a
 next h=>
 replace a:(addS f.b.s f.sp).2=0:=by simpa[c]using a
 have i:f.sp<=86399913600:=by
  unfold Vt.addS at a;split at a
  .simp at a
  omega
 exact⟨fun q=>Classical.byContradiction fun b=>d ⟨q,.inl b⟩,fun q=>⟨Classical.byContradiction fun b=>e ⟨c,q,b⟩,Int.not_lt.1 fun b=>g ⟨c,q,b⟩⟩,h,i⟩
structure NewH(f:Fc)(a c:Mom):Prop where
 ha:dm a=0
 hak:a.k=f.b.k
 hc:dm c=0
 hck:c.k=f.b.k
 far:a.s+di f<=315537897599
 le:f.af=true->c.s<=a.s
 lo:f.af=false->f.b.s<=a.s
theorem RY{l:List Ln}{f:Fc}(h:gK l=.ok f)(b:f.rd=true):0<=di f:=by
 have d:=Fx h b;have:=ad3 h;have e:=RX d.hp d.bk;unfold di;split
 .next q=>have:=(e.2.1 q.2).2;omega
 exact this
theorem ad4{l:List Ln}{f:Fc}{a c:Mom}(h:gK l=.ok f)(b:f.rd=true)(N:NewH f a c)(n:c.s<=a.s)(g:f.e.k≠0):dm ⟨f.e.k,c.s+di f⟩=0:=by
 have i:=Fx h b;have s:=RX i.hp i.bk;have u:=RY h b;obtain⟨e1,e2⟩:=s.2.1 g;have v:di f=f.e.s-f.b.s:=by unfold di;rw[if_pos ⟨i.bk,g⟩]
 have w:=lj.1 N.hc;have o:=N.far;obtain⟨_,y,z,_⟩:=mD.1 h
 have d:dm f.e=0:=by
  have e:f.e=fo (bH l) ct (fun x=>(bJ x).2) mj:=by rw[z];rfl
  rw[e]at g |-;obtain⟨x,j,p⟩:=Fw g;rw[p];have A:=kW y j;have B:=qK j;have:(bJ x).1=0:=by rw[<-A];simp[bt,B,nm_]
  exact(Fv this).2.1
 have k:dm f.b=0:=by
  have:=(y3 h b).s;unfold kC at this;split at this
  .next q=>exact absurd this q
  next q=>simpa using q
 have d:=lj.1 d;have k:=lj.1 k;have C:=N.hck;refine lj.2 ⟨d.1,d.2.1,by simp only;omega,by simp only;omega,fun q=>?_⟩;have q:f.e.k=1:=q;have j:=d.2.2.2.2 q;have p:=k.2.2.2.2 (by omega);have D:=w.2.2.2.2 (by omega);simp only;omega
theorem Yc{l:List Ln}{f:Fc}{a c:Mom}(h:gK l=.ok f)(d:f.rd=true)(N:NewH f a c):qJ (jK f a c)=0/\mg (jK f a c)=(a.s+di f,true)/\dN (jK f a c)=a.s:=by
 have n:=Fx h d;obtain⟨p,v,s,C⟩:=RX n.hp n.bk;have w:=ad3 h;have x:=RY h d;have D:=lj.1 N.ha;have E:=lj.1 N.hc;have u:=N.far;have j:=N.hck;have y:=N.hak;have z:=n.bk;cases i:f.af with
 |false=>
  have e:jK f a c=pf f a:=by unfold jK;rw[if_neg (by simp[i])]
  have k:dN (pf f a)=a.s:=by
   show(if a.k≠0/\f.rd=true then a.s else f.b.s)=a.s;rw[if_pos ⟨by omega,d⟩]
  rw[e];refine⟨n.hp,?_,k⟩;have e2:mg (pf f a)=(if f.e.k≠0/\f.rd=false then (f.e.s,true)else jk (pf f a) (dN (pf f a))):=rfl;rw[e2,if_neg (by simp[d]),k];unfold jk;have A:di (pf f a)=di f:=rfl;rw[A,if_neg (by show ¬(a.s<0\/315537897599<a.s\/f.b.k=0\/315537897599<a.s+di f);omega)]
 |true=>
  have B:=N.le i;have e:jK f a c=pf (p7 f c) a:=by unfold jK;rw[if_pos i]
  have k:dN (pf (p7 f c) a)=a.s:=by
   show(if a.k≠0/\f.rd=true then a.s else c.s)=a.s;rw[if_pos ⟨by omega,d⟩]
  have o:di (pf (p7 f c) a)=di f:=by
   show(if c.k≠0/\(if f.e.k≠0 then (⟨f.e.k,c.s+di f⟩:Mom)else f.e).k≠0 then (if f.e.k≠0 then (⟨f.e.k,c.s+di f⟩:Mom)else f.e).s-c.s else f.sp)=di f;by_cases b:f.e.k=0
   .rw[if_neg (show ¬(f.e.k≠0) by simp[b]),if_neg (by simp[b])];unfold di;rw[if_neg (by simp[b])]
   rw[if_pos b,if_pos ⟨by omega,b⟩];simp only;omega
  rw[e];refine⟨?_,?_,k⟩
  .show(if 0<f.sp/\((if f.e.k≠0 then (⟨f.e.k,c.s+di f⟩:Mom)else f.e).k≠0\/c.k=0)then 9 else if c.k≠0/\(if f.e.k≠0 then (⟨f.e.k,c.s+di f⟩:Mom)else f.e).k≠0/\c.k≠(if f.e.k≠0 then (⟨f.e.k,c.s+di f⟩:Mom)else f.e).k then 11 else if c.k≠0/\(if f.e.k≠0 then (⟨f.e.k,c.s+di f⟩:Mom)else f.e).k≠0/\(if f.e.k≠0 then (⟨f.e.k,c.s+di f⟩:Mom)else f.e).s<c.s then 8 else if c.k=1/\f.sp%86400≠0 then 9 else if c.k≠0 then (addS c.s f.sp).2 else 0)=0
   have g:(addS c.s f.sp).2=0:=by
    have:c.s+f.sp<=315537897599:=by
     by_cases b:f.e.k=0
     .have:di f=f.sp:=by unfold di;rw[if_neg (by simp[b])]
      omega
     have:¬0<f.sp:=fun q=>b (p q)
     omega
    unfold Vt.addS;rw[if_neg (by omega)]
   by_cases b:f.e.k=0
   .rw[if_neg (show ¬(f.e.k≠0) by simp[b]),if_neg (by rintro⟨_,q|q⟩<;>omega),if_neg (by simp[b]),if_neg (by simp[b]),if_neg (by rw[j];exact s),if_pos (by omega),g]
   have:=(v b).1;rw[if_pos b,if_neg (fun q=>b (p q.1)),if_neg (by simp only;omega),if_neg (by simp only;omega),if_neg (by rw[j];exact s),if_pos (by omega),g]
  have e2:mg (pf (p7 f c) a)=(if (pf (p7 f c) a).e.k≠0/\f.rd=false then ((pf (p7 f c) a).e.s,true)else jk (pf (p7 f c) a) (dN (pf (p7 f c) a))):=rfl;rw[e2,if_neg (by simp[d]),k];unfold jk;rw[o,if_neg (by show ¬(a.s<0\/315537897599<a.s\/c.k=0\/315537897599<a.s+di f);omega)]
theorem WS{l:List Ln}{f:Fc}{a c:Mom}(h:gK l=.ok f)(g:FitF f)(d:f.rd=true)(B:l.length<=23)(N:NewH f a c):gK (kj f l [110] a c)=.ok (jK f a c):=by
 have A:=y3 h d;have v:=A.a;have I:=ajE h d N.ha N.hak;obtain⟨_,C,x,_⟩:=mD.1 h;obtain⟨d1,o,d3⟩:=Yc h d N;have i:gF (rp l a)=pf f a:=by rw[aiI I,x]
 have w:=lj.1 N.ha;have j:=v.bk
 have cu:aO (rp l a) bK≠0:=by
  rw[I.cnt,if_neg (by decide),RW,if_neg (by decide),if_neg (by decide),if_neg (by decide),if_pos rfl];decide
 have cs:aO (rp l a) bp≠0:=by
  rw[I.cnt,if_neg (by decide),RW,if_neg (by decide),if_neg (by decide),if_neg (by decide),if_neg (by decide)];exact v.c2
 have ci:aO (rp l a) cV=aO l cV:=by
  rw[I.cnt,if_neg (by decide),RW,if_neg (by decide),if_neg (by decide),if_neg (by decide),if_neg (by decide)]
 have y:=I.len;cases b:f.af with
 |false=>
  have e:kj f l [110] a c=rp l a:=by unfold kj;rw[if_neg (by simp[b])];rfl
  have e2:jK f a c=pf f a:=by unfold jK;rw[if_neg (by simp[b])]
  rw[e2]at d1 o;rw[e,e2];exact UI (by omega) I.good i cu cs (show yD Lz=0 by decide) d1 d j A.s (fun q=>by have q:f.af=true:=q;rw[b]at q;cases q) N.hak (N.lo b) rfl (by rw[o])
 |true=>
  have e:kj f l [110] a c=y0 f (rp l a) c:=by unfold kj;rw[if_pos b];rfl
  have e2:jK f a c=pf (p7 f c) a:=by unfold jK;rw[if_pos b]
  rw[e2]at d1 o;rw[e,e2];have k:=N.hck;have p:f.e.k≠0->dm ⟨f.e.k,c.s+di f⟩=0:=fun q=>ad4 h d N (N.le b) q
  have R:=ajF (f:=pf f a) (m:=rp l a) (c:=c) I.good i.symm j d N.hc N.hck p A.s ⟨g.st,g.b,g.e,(show Dt a from ⟨by omega,w.2.2.1,w.2.2.2.1⟩),g.sp,(show(0:Int)<=Lz.s by decide),g.il,g.ol,g.ik,g.ok,g.rf,g.uk,g.rk,by show [110].length<100000;decide,g.pp⟩;have s:=R.len
  have n:(p7 f c).ru = {f.ru with c:=(p7 f c).ru.c }/\0<=(p7 f c).ru.c/\(p7 f c).ru.c<=f.ru.c:=by
   have z:=(iN (ei (G1 A.s)).1).2.2.2.1;unfold p7;simp only;split
   .exact⟨rfl,by simp only;omega,by simp only;omega⟩
   exact⟨rfl,by omega,Int.le_refl _⟩
  have u:kC c (p7 f c).ru f.i f.o=0:=by
   rw[n.1];exact PV A.s N.hc k n.2
  exact UI (by have:(y0 (pf f a) (rp l a) c).length<=_:=s;show(y0 (pf f a) (rp l a) c).length<=24;omega) R.good R.fact (by rw[show y0 f (rp l a) c=y0 (pf f a) (rp l a) c from rfl,R.cnt _ (by decide) (by decide) (by decide)];exact cu) (by rw[show y0 f (rp l a) c=y0 (pf f a) (rp l a) c from rfl,R.cnt _ (by decide) (by decide) (by decide)];exact cs) (show yD Lz=0 by decide) d1 d (by show c.k≠0;omega) u (fun _=>by rw[show y0 f (rp l a) c=y0 (pf f a) (rp l a) c from rfl,R.cnt _ (by decide) (by decide) (by decide),ci];exact A.n b) (by show a.k=c.k;rw[k];exact N.hak) (N.le b) rfl (by rw[o])
end Go.Vs.Y.Vt
