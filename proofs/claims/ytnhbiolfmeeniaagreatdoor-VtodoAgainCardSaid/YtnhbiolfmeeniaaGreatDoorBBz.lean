/- A part of a proof. No conditions. -/
import Derived.Test.YtnhbiolfmeeniaaGreatDoorBAz
import Derived.Laws.RangeString
import Derived.Laws.BytesArg
import Derived.LaidEql
import Derived.Lib.AppendStr
set_option linter.all false
namespace Go.Vs
section
variable {P:Program} {w0 w:World} {S0 S:bb} {M:Ctx} {σ:St} {a:Act} {μ:Nat->Value} {β:Nat->Option Nat} {o:Oper}
theorem DR{d:Array TypeId}{t k e p ty:TypeId}{i:TypeInfo}{z:Value}(q:d[0]?=some t)(u:d[1]?=some k)(x:P.underlying t=some (.slice e))(c:P.underlying k=some (.slice p)\/P.underlying k=some .string)(y:P.info? e=some i)(A:i.zero=some z)
  {base:Option Addr} {sLen sCap m:Nat} {l:Value} {olds news:Array Value} (f:(Builtin.lenOf l).run P w=.ok m w) (B:(Builtin.firstCells i.size sLen (.slice base sLen sCap)).run P w.drew=.ok olds w.drew) (C:(Builtin.firstCells i.size m l).run P w.drew=.ok news w.drew)
  (D:sCap<sLen+m) (E:sLen+m<=9223372036854775807) (g:(sLen+m)*i.bytes<=140737488355328) :
  (Builtin.append_ d ty #[.slice base sLen sCap,l]).run P w =
    .ok (.slice (some ⟨w.heap.size,0,none⟩) (sLen+m) (grownCap w (sLen+m) sCap e)) (w.drew.alloc (.cells (olds++news++Builtin.zeroCells z.cells (grownCap w (sLen+m) sCap e-(sLen+m))) e)):=by
 have F:=growslice_fits D g;have n:¬(sLen+m<=sCap):=by omega
 have h:¬(9223372036854775807<((sLen:Int)+(m:Int))):=by omega
 have j:¬(281474976710656<Builtin.nextslicecap (sLen+m) sCap*i.bytes):=by omega
 rcases c with c|c<;>simp[Builtin.append_,q,u,run_underlying x,run_underlying c,sizeOf,typeInfo,zeroValue,y,A,f,n,h,j,Question.forced,B,C,newRow,grownCap]
theorem Q5{d:Array TypeId}{t g e k ty:TypeId}{i:TypeInfo}(l:d[0]?=some t)(n:d[1]?=some g)(p:P.underlying t=some (.slice e))(c:P.underlying g=some (.slice k)\/P.underlying g=some .string)(q:P.info? e=some i)
  {b:Nat} {sLen sCap m:Nat} {h:Value} {news:Array Value} (f:(Builtin.lenOf h).run P w=.ok m w) (u:(Builtin.firstCells i.size m h).run P w=.ok news w)
  (x:sLen+m<=sCap) {w':World} (j:(storeCells ⟨b,sLen*i.size,none⟩ news.toList 0).run P w=.ok () w') :
  (Builtin.append_ d ty #[.slice (some ⟨b,0,none⟩) sLen sCap,h]).run P w=.ok (.slice (some ⟨b,0,none⟩) (sLen+m) sCap) w':=by
 rcases c with c|c<;>simp[Builtin.append_,l,n,run_underlying p,run_underlying c,sizeOf,typeInfo,q,f,x,u,jN,j]
theorem Q6{f:Array TypeId}{t g e p ty:TypeId}{i:TypeInfo}(j:f[0]?=some t)(k:f[1]?=some g)(l:P.underlying t=some (.slice e))(c:P.underlying g=some (.slice p)\/P.underlying g=some .string)(m:P.info? e=some i)
  {base:Option Addr} {h:Value} (d:(Builtin.lenOf h).run P w=.ok 0 w) (n:(Builtin.firstCells i.size 0 h).run P w=.ok #[] w):(Builtin.append_ f ty #[.slice base 0 0,h]).run P w=.ok (.slice base 0 0) w:=by
 rcases c with c|c<;>cases base with
 |none=>simp[Builtin.append_,j,k,run_underlying l,run_underlying c,sizeOf,typeInfo,m,d,n]
 |some b=>simp[Builtin.append_,j,k,run_underlying l,run_underlying c,sizeOf,typeInfo,m,d,n,storeCells]
theorem Hg{d:Array TypeId}{t l e p ty:TypeId}{i:TypeInfo}{z:Value}(q:d[0]?=some t)(u:d[1]?=some l)(x:P.underlying t=some (.slice e))(j:P.underlying l=some (.slice p))(y:P.info? e=some i)(A:i.zero=some z)
  {base n:Option Addr} {sLen sCap m c:Nat} {olds news:Array Value} (B:(Builtin.firstCells i.size sLen (.slice base sLen sCap)).run P w.drew=.ok olds w.drew) (C:(Builtin.firstCells i.size m (.slice n m c)).run P w.drew=.ok news w.drew)
  (D:sCap<sLen+m) (E:sLen+m<=9223372036854775807) (f:(sLen+m)*i.bytes<=140737488355328) :
  (Builtin.append_ d ty #[.slice base sLen sCap,.slice n m c]).run P w =
    .ok (.slice (some ⟨w.heap.size,0,none⟩) (sLen+m) (grownCap w (sLen+m) sCap e)) (w.drew.alloc (.cells (olds++news++Builtin.zeroCells z.cells (grownCap w (sLen+m) sCap e-(sLen+m))) e)):=by
 have F:=growslice_fits D f;have k:¬(sLen+m<=sCap):=by omega
 have g:¬(9223372036854775807<((sLen:Int)+(m:Int))):=by omega
 have h:¬(281474976710656<Builtin.nextslicecap (sLen+m) sCap*i.bytes):=by omega
 simp[Builtin.append_,q,u,run_underlying x,run_underlying j,sizeOf,typeInfo,zeroValue,y,A,Builtin.lenOf,k,g,h,Question.forced,B,C,newRow,grownCap]
theorem Sk{d:Array TypeId}{t h e k ty:TypeId}{i:TypeInfo}(l:d[0]?=some t)(n:d[1]?=some h)(p:P.underlying t=some (.slice e))(f:P.underlying h=some (.slice k))(q:P.info? e=some i)
  {b:Nat} {j:Option Addr} {sLen sCap m c:Nat} {news:Array Value} (u:(Builtin.firstCells i.size m (.slice j m c)).run P w=.ok news w)
  (x:sLen+m<=sCap) {w':World} (g:(storeCells ⟨b,sLen*i.size,none⟩ news.toList 0).run P w=.ok () w') :
  (Builtin.append_ d ty #[.slice (some ⟨b,0,none⟩) sLen sCap,.slice j m c]).run P w=.ok (.slice (some ⟨b,0,none⟩) (sLen+m) sCap) w':=by
 simp[Builtin.append_,l,n,run_underlying p,run_underlying f,sizeOf,typeInfo,q,Builtin.lenOf,x,u,jN,g]
theorem Hh{d:Array TypeId}{t h e p ty:TypeId}{i:TypeInfo}(j:d[0]?=some t)(k:d[1]?=some h)(l:P.underlying t=some (.slice e))(f:P.underlying h=some (.slice p))(m:P.info? e=some i)
  {base g:Option Addr} {c:Nat} : (Builtin.append_ d ty #[.slice base 0 0,.slice g 0 c]).run P w=.ok (.slice base 0 0) w:=by
 have n:(Builtin.firstCells i.size 0 (.slice g 0 c)).run P w=.ok #[] w:=by
  cases g with
  |none=>simp[Builtin.firstCells]
  |some b=>simp[Builtin.firstCells,loadCells,loadCellsFrom]
 cases base with
 |none=>simp[Builtin.append_,j,k,run_underlying l,run_underlying f,sizeOf,typeInfo,m,Builtin.lenOf,n]
 |some b=>simp[Builtin.append_,j,k,run_underlying l,run_underlying f,sizeOf,typeInfo,m,Builtin.lenOf,n,storeCells]
theorem Hi{S:bb}{c:List (List IV)}{q:Option Addr}{cap s:Nat}(H:sI w S (.slice c) (.slice q c.length cap))(B:∀r∈c,r.length=s) :
  ∃l,ag w S c.flatten l/\∀w':World,(∀b o,S b o->w'.cell? ⟨b,o,none⟩=w.cell? ⟨b,o,none⟩)->(Builtin.firstCells s c.length (.slice q c.length cap)).run P w'=.ok l.toArray w':=by
 obtain⟨I,C,D,J,K⟩:=H;simp only[Value.slice.injEq]at D;obtain⟨rfl,_,rfl⟩:=D;by_cases h:c=[]
 .subst h;refine⟨[],rfl,fun w' _=>?_⟩;cases q with
  |none=>simp[Builtin.firstCells]
  |some b=>simp[Builtin.firstCells,loadCells,loadCellsFrom]
 obtain⟨b,i,E,rfl,f⟩:=K h
 have u:E=s:=by
  obtain⟨m,g⟩:=List.exists_mem_of_ne_nil c h;exact(bB.lens f m g).symm.trans (B m g)
 subst u;have d:=bB.flat f;obtain⟨l,y,L⟩:=aQ.vals d;refine⟨l,y,fun w' N=>?_⟩;refine run_firstCells_some (P:=P) w' E c.length ⟨b,i,none⟩ c.length cap l ?_ ?_
 .rw[ag.length y,dR B]
 intro j v k;rw[jN]
 have A:j<c.flatten.length:=by
  have:=ag.length y;rcases Nat.lt_or_ge j c.flatten.length with F|F
  .exact F
  rw[List.getElem?_eq_none (by omega)]at k;simp at k
 have O:S b (i+j):=by
  have n:∀(p:List IV) (o:Nat),aQ w S p b o->∀j,j<p.length->S b (o+j):=by
   intro p
   induction p with
   |nil=>intro o _ j k;simp at k
   |cons x p Q=>
    intro o ⟨R,_,_,U⟩ j k;cases j with
    |zero=>exact R
    |succ j=>have:=Q (o+1) U j (by simpa using k);rwa[show o+1+j=o+(j+1) by omega]at this
  exact n _ _ d j A
 rw[N b (i+j) O];exact L j v k
theorem rO{d:Type}{s:Nat} : ∀ {c:List (List d)} {k:Nat},(∀r∈c,r.length=s)->(c.take k).flatten=c.flatten.take (k*s)
 |[],_,_=>by simp
 |r::f,0,_=>by simp
 |r::f,k+1,h=>by
  have g:r.length=s:=h r (by simp);rw[List.take_succ_cons,List.flatten_cons,List.flatten_cons,rO (fun x i=>h x (List.mem_cons_of_mem _ i)),Nat.add_mul,Nat.one_mul,Nat.add_comm,<-g,List.take_length_add_append]
theorem wZ{c:Type}{s:Nat} : ∀ {b:List (List c)} {k:Nat},(∀r∈b,r.length=s)->(b.drop k).flatten=b.flatten.drop (k*s)
 |[],_,_=>by simp
 |r::d,0,_=>by simp
 |r::d,k+1,h=>by
  have e:r.length=s:=h r (by simp);rw[List.drop_succ_cons,List.flatten_cons,wZ (fun x f=>h x (List.mem_cons_of_mem _ f)),Nat.add_mul,Nat.one_mul,Nat.add_comm,<-e,List.drop_length_add_append]
theorem JJ(h:SimG w0 S0 M σ a w S μ β){id B s d f:Nat}{c:List (List IV)}(C:ac σ.objs id=some (.arr B s c)){v:Value}(L:au w S μ σ.objs (.view id B d f) v) :
  ∃D cap E,v=.slice D (f-d) cap/\ag w S ((c.take f).drop d).flatten E/\∀w':World,w'.heap=w.heap->(Builtin.firstCells s (f-d) (.slice D (f-d) cap)).run P w'=.ok E.toArray w':=by
 obtain⟨N,F,x1,cap,H,n,rfl,g5,O⟩:=(L _ _ _ C).2 rfl;rcases Nat.lt_or_ge d f with Q|R
 .obtain⟨b,U,V⟩:=O (by omega);rcases h.objs id _ C with⟨W,_⟩|⟨p,k,I,e,fr,X,Y,Z,hf,q,u,g,l⟩
  .subst W;simp at F;omega
  rw[Y,U]at n;simp only[Value.slice.injEq,E_,Addr.mk.injEq,and_true]at n;obtain⟨rfl,_,rfl⟩:=n;have a':=dR g;have x:∀r∈c.take f,r.length=s:=fun r y=>g r (List.mem_of_mem_take y)
  have e1:((c.take f).drop d).flatten=(c.flatten.take (f*s)).drop (d*s):=by rw[wZ x,rO g]
  have J:f*s<=c.length*s:=Nat.mul_le_mul_right _ F;have A:d*s<=f*s:=Nat.mul_le_mul_right _ N;have K:c.length*s<=I.size:=by rw[q];exact Nat.mul_le_mul_right _ u
  refine⟨_,_,((I.toList.take (c.length*s)).take (f*s)).drop (d*s),rfl,?_,fun w' hw=>?_⟩
  .rw[e1];exact ag.drop _ (ag.take _ l)
  rw[V];refine run_firstCells_some (P:=P) w' s (f-d) ⟨p,d*s,none⟩ (f-d) (k-d) _ ?_ ?_
  .rw[List.length_drop,List.length_take,List.length_take,Nat.sub_mul];simp;omega
  intro j v i;rw[jN];rw[List.getElem?_drop,List.getElem?_take]at i;split at i
  .rw[List.getElem?_take]at i;split at i
   .have:w'.cell? ⟨p,d*s+j,none⟩=w.cell? ⟨p,d*s+j,none⟩:=World.cell?_of_block (by rw[hw]);rw[this,fE Z,<-Array.getElem?_toList];exact i
   simp at i
  simp at i
 have hz:f-d=0:=by omega
 have m:(c.take f).drop d=[]:=by
  apply List.length_eq_zero_iff.1;rw[List.length_drop,List.length_take];omega
 refine⟨H,cap-d,[],rfl,by rw[m];rfl,fun w' _=>?_⟩;rw[hz];cases H with
 |none=>simp[Builtin.firstCells]
 |some b=>simp[Builtin.firstCells,loadCells,loadCellsFrom]
theorem sy(h:SimG w0 S0 M σ a w S μ β){x:SV}{v:Value}{c:List (List IV)}{L:List Nat}(f:nk σ.objs x=some (c,L))(E:au w S μ σ.objs x v){s:Nat}(J:∀r∈c,r.length=s) :
  ∃i cap k,v=.slice i c.length cap/\ag w S c.flatten k/\∀w':World,w'.heap=w.heap->(Builtin.firstCells s c.length (.slice i c.length cap)).run P w'=.ok k.toArray w':=by
 have u:sI w S (.slice c) v->∃i cap k,v=.slice i c.length cap/\ag w S c.flatten k/\∀w':World,w'.heap=w.heap->(Builtin.firstCells s c.length (.slice i c.length cap)).run P w'=.ok k.toArray w':=by
  intro l;obtain⟨i,cap,n,_,_⟩:=id l;rw[n]at l;obtain⟨k,N,O⟩:=Hi (P:=P) l J;exact⟨i,cap,k,n,N,fun w' Q=>O w' (fun b o _=>World.cell?_of_block (by rw[Q]))⟩
 have j:∀ {id y F C D:Nat} {d:List (List IV)},ac σ.objs id=some (.arr y F d)->au w S μ σ.objs (.view id y C D) v->c=(d.take D).drop C->∃i cap k,v=.slice i c.length cap/\ag w S c.flatten k/\∀w':World,w'.heap=w.heap->(Builtin.firstCells s c.length (.slice i c.length cap)).run P w'=.ok k.toArray w':=by
  intro id y F C D d p n g;obtain⟨i,cap,k,e1,e2,K⟩:=JJ (P:=P) h p n;obtain⟨W,X,_⟩:=(n _ _ _ p).2 rfl;have q:c.length=D-C:=by rw[g,List.length_drop,List.length_take];omega
  rw[<-g]at e2;by_cases H:c=[]
  .subst H;have R:D-C=0:=by simpa using q.symm
   refine⟨i,cap,[],by rw[e1,R];rfl,rfl,fun w' _=>?_⟩;cases i with
   |none=>simp[Builtin.firstCells]
   |some b=>simp[Builtin.firstCells,loadCells,loadCellsFrom]
  obtain⟨A,m⟩:=List.exists_mem_of_ne_nil c H
  have I:F=s:=by
   have hm:A∈d:=by rw[g]at m;exact List.mem_of_mem_take (List.mem_of_mem_drop m)
   rcases h.objs id _ p with⟨U,_⟩|⟨_,_,_,_,_,_,_,_,_,_,_,B,_⟩
   .subst U;simp at hm
   rw[<-B A hm,J A m]
  subst I;rw[<-q]at e1 K;exact⟨i,cap,k,e1,e2,K⟩
 unfold nk at f;split at f
 .simp only[E_,Prod.mk.injEq]at f;obtain⟨rfl,rfl⟩:=f;obtain⟨x,rfl⟩:=E;exact u ⟨x,0,rfl,Nat.le_refl _,fun V=>absurd rfl V⟩
 .simp only[E_,Prod.mk.injEq]at f;obtain⟨rfl,rfl⟩:=f;exact u E.1
 .simp only[E_,Prod.mk.injEq]at f;obtain⟨rfl,rfl⟩:=f;exact u E
 .next id ver=>
  split at f
  .next y F d p=>
   split at f
   .next n=>
    simp only[E_,Prod.mk.injEq]at f;obtain⟨rfl,rfl⟩:=f;obtain rfl:ver=y:=by simpa using n
    exact j p (JF h p E) (by simp)
   simp at f
  simp at f
 .next id ver C D=>
  split at f
  .next y F d p=>
   split at f
   .next n=>
    simp only[E_,Prod.mk.injEq]at f;obtain⟨rfl,rfl⟩:=f;obtain rfl:ver=y:=by simpa using n
    exact j p E rfl
   simp at f
  simp at f
 simp at f
theorem cZ(w:World)(x:Go.Obj):Kept (fun _=>False) w (w.drew.alloc x):=
 ⟨rfl,rfl,rfl,by simp,fun _ d _=>fX (w:=w.drew) d,fun k x c=>(dA (w:=w) (fX (w:=w.drew) (sJ c))).trans c⟩
theorem rP(c d:Nat)(e:TypeId):c<=grownCap w c d e:=grownCap_ge w c d e
theorem DS{S:bb}{olds news:List Value}{ro rn:List (List IV)}{e:TypeId}{s:Nat}{z:Value}{ver cap:Nat}{μ:Nat->Value}{objs:List (Nat×Ob)}{w':World}(j:z.cells.size=s)
  (f:ag w' S ro.flatten olds) (g:ag w' S rn.flatten news) (c:∀r∈ro,r.length=s) (d:∀r∈rn,r.length=s) (k:ro.length+rn.length<=cap) {b:Nat}
  (l:w'.heap[b]?=some (.cells (olds.toArray++news.toArray++Builtin.zeroCells z.cells (cap-(ro.length+rn.length))) e)) :
  bI w' S μ objs (some b) (.slice (some ⟨b,0,none⟩) (ro.length+rn.length) cap) (.arr ver s (ro++rn)):=by
 have e1:=ag.length f;have e2:=ag.length g;rw[dR c]at e1;rw[dR d]at e2;refine .inr ⟨b,cap,_,e,(0,0),rfl,by rw[List.length_append],l,qo.zero _,?_,by rw[List.length_append];exact k,?_,?_⟩
 .simp only[Array.size_append,List.size_toArray,size_zeroCells,j,e1,e2];rw[<-Nat.add_mul,<-Nat.add_mul];congr 1;omega
 .intro r m;rcases List.mem_append.1 m with h|h
  .exact c r h
  exact d r h
 rw[List.flatten_append]
 have:(olds.toArray++news.toArray++Builtin.zeroCells z.cells (cap-(ro.length+rn.length))).toList.take ((ro++rn).length*s)=olds++news:=by
  rw[List.length_append,Nat.add_mul,<-e1,<-e2];simp only[Array.toList_append];rw[List.append_assoc,List.take_length_add_append,List.take_left'];rfl
 rw[this];exact ag.append f g
theorem Hj(h:SimG w0 S0 M σ a w S μ β){id H s:Nat}{c:List (List IV)}(O:ac σ.objs id=some (.arr H s c))(p:id∉σ.ro){b cap:Nat}{i:Array Value}{e:TypeId}{J:Nat×Nat}
  (q:β id=some b) (K:μ id=.slice (some ⟨b,0,none⟩) c.length cap) (Z:w.heap[b]?=some (.cells i e J)) (Q:qo J i.size) (u:i.size=cap*s) (y:c.length<=cap) (d:∀r∈c,r.length=s)
  (k:ag w S c.flatten (i.toList.take (c.length*s))) {pos:Nat} {rn:List (List IV)} {news:List Value} (m:ag w S rn.flatten news) (B:∀r∈rn,r.length=s) (C:pos+rn.length<=c.length) :
  ∃w',(storeCells ⟨b,pos*s,none⟩ news 0).run P w=.ok () w'/\SimG w0 S0 M {σ with objs:=put σ.objs id (.arr H s (c.take pos++(rn++c.drop (pos+rn.length)))) } a w' S μ β:=by
 have a':=ag.length m;have c':=dR B;have U:(pos+rn.length)*s<=c.length*s:=Nat.mul_le_mul_right _ C;have L:c.length*s<=cap*s:=Nat.mul_le_mul_right _ y;have D:(pos+rn.length)*s=pos*s+rn.length*s:=Nat.add_mul _ _ _;obtain⟨w',E,r1,I,V⟩:=kF P (off:=pos*s) news 0 i w Z Q (by omega) (ag.oneCells m);refine⟨w',r1,?_⟩
 have f:bM S w w':=by
  refine⟨?_,I.shape⟩;intro N l hS
  have:N≠b:=by
   rintro rfl;exact p (h.unst id _ N l O q hS).1
  exact bT (I.other N this) l
 have g:(c.take pos++(rn++c.drop (pos+rn.length))).length=c.length:=by
  simp only[List.length_append,List.length_take,List.length_drop];omega
 have F:E.size=i.size:=by
  have:=congrArg List.length V;simp only[Array.length_toList,List.length_append,List.length_take,List.length_drop]at this;omega
 refine h.write O q I p (.inr ⟨H,s,c,_,rfl,rfl,g.symm⟩) (x':=.arr H s (c.take pos++(rn++c.drop (pos+rn.length)))) ?_;refine .inr ⟨b,cap,E,e,J,rfl,by rw[g];exact K,I.here,by rw[F];exact Q,by rw[F];exact u,by rw[g];exact y,?_,?_⟩
 .intro r j;rcases List.mem_append.1 j with j|j
  .exact d r (List.mem_of_mem_take j)
  rcases List.mem_append.1 j with j|j
  .exact B r j
  exact d r (List.mem_of_mem_drop j)
 rw[g,List.flatten_append,List.flatten_append,rO d,wZ d,V];simp only[Nat.add_zero];have W:i.toList.length=cap*s:=by simpa using u
 have e2:=He (A:=i.toList) (Y:=news) (X:=pos*s) (s:=rn.length*s) (R:=c.length*s) (off:=0) (n:=rn.length*s) (by omega) (by omega) (by omega) (by omega);simp only[Nat.add_zero,Nat.zero_add,List.take_zero,List.nil_append]at e2;rw[show pos*s+news.length=pos*s+rn.length*s by omega,e2]
 have e3:(((i.toList.take (c.length*s)).drop (pos*s)).take (rn.length*s)).drop (rn.length*s)=[]:=by
  apply List.drop_eq_nil_of_le;rw[List.length_take];omega
 rw[e3,List.append_nil,List.append_assoc,D];exact ag.append (ag.mono f (fun _ _ x=>x) _ _ (ag.take _ k)) (ag.append (ag.mono f (fun _ _ x=>x) _ _ m) (ag.mono f (fun _ _ x=>x) _ _ (ag.drop _ k)))
theorem put_same(h:SimG w0 S0 M σ a w S μ β){id:Nat}{x:Ob}(d:ac σ.objs id=some x):SimG w0 S0 M {σ with objs:=put σ.objs id x } a w S μ β:=
 h.drop rfl rfl (fun _ _ _ f=>f) (fun _=>.inr rfl) (fun j y c=>by
  rw[jL]at c;split at c
  .next e=>subst e;rw[d];exact c
  exact c)
theorem yP(w:World)(cs:Array Value)(e:TypeId):(w.drew.alloc (.cells cs e)).shape? w.heap.size=some (e,cs.size):=by
 have:(w.drew.alloc (.cells cs e)).heap[w.heap.size]?=some (.cells cs e):=cY w.drew _;simp only[World.shape?,this]
def ahl(c:Option Nat)(id ver:Nat):SV:=match c with|none=>.own id ver|some t=>.ownT id ver t
theorem yQ(tt:Option Nat)(h:SimG w0 S0 M σ a w S μ β)(hd:oh o σ){ats:Array TypeId}{ty t t' e e':TypeId}{i:TypeInfo}{z:Value}(h0:ats[0]?=some t)(h1:ats[1]?=some t')
  (J:P.underlying t=some (.slice e)) (U:P.underlying t'=some (.slice e')\/P.underlying t'=some .string) (hi:P.info? e=some i) (E':0<i.size) (d':0<i.bytes) (hz:i.zero=some z) (j':z.cells.size=i.size) {vx vy:Value}
  (k':∀ {v:Value} {w':World},(Builtin.append_ ats ty #[vx,vy]).run P w=.ok v w'->(execOp a.eval o).run P w=.ok (.value v) w')
  {id K:Nat} {d new:List (List IV)} (hl:ac σ.objs id=some (.arr K i.size d)) (B:vx=μ id) {news:List Value} (E:∀w':World,(Builtin.lenOf vy).run P w'=.ok new.length w') (l':ag w S new.flatten news)
  (V:∀w':World,w'.heap=w.heap->(Builtin.firstCells i.size new.length vy).run P w'=.ok news.toArray w') (l:∀r∈new,r.length=i.size) (p:(d.length+new.length)*i.bytes<=35184372088832)
  (hT:∀t,tt=some t->t=e/\∀a n c,vx=.slice (some a) n c->∃m,w.shape? a.block=some (t,m)) :
  we P o a w (fun v w'=>gc w0 S0 M (σ.apply o.dst {v:=ahl tt id (K+1),wr:=some (id,.arr (K+1) i.size (d++new)) }) (a.put o.dst v) w'):=by
 have L:∀n,n*i.bytes<=35184372088832->n<=9223372036854775807:=by
  intro n hn;have:n*1<=n*i.bytes:=Nat.mul_le_mul_left _ d';omega
 have k:∀(fz:List Nat) (x:Go.Obj),bM (dH S β σ.objs fz) w (w.drew.alloc x):=by
  intro fz x;refine⟨fun b off F=>?_,(cZ w x).shape⟩;exact bT ((cZ w x).block b ((h.freeze fz).stab b off F) (fun x=>x)) off
 have N:ag w (dH S β σ.objs []) new.flatten news:=ag.mono (bM.refl _ _) (fun _ _ x=>.inl x) _ _ l';have O:=h.freeze []
 have W:∀ {w':World} {blk:Option Nat} {mu:Value},(Builtin.append_ ats ty #[vx,vy]).run P w=.ok mu w'->bM (dH S β σ.objs []) w w'->Kept M.blocks w0 w'->w.heap.size<=w'.heap.size->
   (∀q x b,q≠id->ac σ.objs q=some x->β q=some b->w'.heap[b]?=w.heap[b]?)->bI w' (dH S β σ.objs []) μ σ.objs blk mu (.arr (K+1) i.size (d++new))->(∀b,blk=some b->(β id=some b\/w.heap.size<=b))->
   (∀b,blk=some b->β id=some b\/∀off,¬dH S β σ.objs [] b off)->(∀t,tt=some t->∀a n c,mu=.slice (some a) n c->∃m,w'.shape? a.block=some (t,m))->
   we P o a w (fun v w'=>gc w0 S0 M (σ.apply o.dst {v:=ahl tt id (K+1),wr:=some (id,.arr (K+1) i.size (d++new)) }) (a.put o.dst v) w'):=by
  intro w' blk mu v' f f' g' m' x' X y' z';refine⟨_,mu,w',k' v',.inl rfl,dH S β σ.objs [],(fun j=>if j=id then mu else μ j),(fun j=>if j=id then blk else β j),?_⟩
  have h2:=O.turn hl blk mu f f' g' m' (.inr (.inl ⟨K,i.size,d,K+1,_,rfl,rfl,by omega,fun e=>by omega⟩)) x' X (by
   intro b off Y F;rcases y' b Y with h3|h3
   .obtain⟨h4,h5⟩:=O.unst id _ b off hl h3 F;refine⟨h4,fun ver s C e=>?_⟩;simp only[Ob.arr.injEq]at e;obtain⟨_,rfl,rfl⟩:=e;have:=h5 _ _ _ rfl;rw[List.length_append,Nat.add_mul];omega
   exact absurd F (h3 off))
  refine h2.putD hd ?_
  have a':∀Z n' C,ac (Vs.put σ.objs id (.arr (K+1) i.size (d++new))) id=some (.arr Z n' C)->K+1<=Z/\(K+1=Z->mu=(fun j=>if j=id then mu else μ j) id):=by
   intro Z n' C u;rw[dP]at u;simp only[E_,Ob.arr.injEq]at u;obtain⟨rfl,_,_⟩:=u;exact⟨Nat.le_refl _,fun _=>by simp⟩
  cases tt with
  |none=>exact a'
  |some t=>exact⟨a',z' t rfl⟩
 rcases h.objs id _ hl with⟨A',I,base,h'⟩|⟨b,g,R,e0,fr,I,h',H,hf,B',C',y,Q⟩
 .-- nothing in it yet
  subst A';rw[h']at B;by_cases hm:new.length=0
  .have o':new=[]:=List.length_eq_zero_iff.1 hm;subst o';refine W (blk:=none) (mu:=.slice base 0 0) (w':=w) ?_ (bM.refl _ _) h.kept (Nat.le_refl _) (fun _ _ _ _ _ _=>rfl) (.inl ⟨rfl,rfl,base,rfl⟩) (by simp) (by simp) (fun t J a n c H=>(hT t J).2 a n c (by rw[B];exact H));rw[B];obtain rfl:news=[]:=l';exact Q6 h0 h1 J U hi (E w) (V w rfl)
  have hg:0<0+new.length:=by omega
  have hr:=DR (w:=w) (ty:=ty) h0 h1 J U hi hz (base:=base) (sLen:=0) (sCap:=0) (olds:=#[]) (E w) (by
   cases base with
   |none=>simp[Builtin.firstCells]
   |some b=>simp[Builtin.firstCells,loadCells,loadCellsFrom]) (V w.drew rfl) hg (by have:=L _ p;simp at this;omega) (by simp at p;simp only[Nat.zero_add];omega)
  refine W (blk:=some w.heap.size) (by rw[B];exact hr) (k [] _) (h.kept.trans (cZ w _).none) (by simp) (fun q x b _ u A=>(cZ w _).block b (bI.live A (h.objs q x u)) (fun x=>x)) ?_ (fun b X=>.inr (by rw[<-O_ X];exact Nat.le_refl _)) (fun b X=>.inr (fun off F=>by have:=O.stab b off F;rw[<-O_ X]at this;omega)) (fun t J a n c H=>by
   obtain⟨rfl,_⟩:=hT t J;simp only[Value.slice.injEq,E_]at H;obtain⟨rfl,_,_⟩:=H
   exact⟨_,yP w _ _⟩)
  have:=DS (w':=w.drew.alloc (.cells (#[]++news.toArray++Builtin.zeroCells z.cells (grownCap w (0+new.length) 0 e-(0+new.length))) e)) (S:=dH S β σ.objs []) (olds:=[]) (news:=news) (ro:=[]) (rn:=new) (e:=e) (s:=i.size) (z:=z) (ver:=K+1) (cap:=grownCap w (0+new.length) 0 e) (μ:=μ) (objs:=σ.objs) j' rfl (ag.mono (k [] _) (fun _ _ x=>x) _ _ N) (by simp) l (rP _ _ _) (b:=w.heap.size) (by simpa using cY w.drew _);simpa using this
 rw[h']at B;have F':=dR y;have p':=dR l;by_cases D:d.length+new.length<=g
 .-- there is room
  have D':=ag.length N;have q':(d.length+new.length)*i.size<=g*i.size:=Nat.mul_le_mul_right _ D;rw[Nat.add_mul]at q';obtain⟨w',r',r1,r2,r3⟩:=kF (off:=d.length*i.size) P news 0 R w H hf (by omega) (ag.oneCells N);have hr:=Q5 (w:=w) (ty:=ty) h0 h1 J U hi (b:=b) (sLen:=d.length) (sCap:=g) (E w) (V w rfl) D (by simpa using r1)
  have f:bM (dH S β σ.objs []) w w':=by
   refine⟨?_,r2.shape⟩;intro b' c' F;by_cases Y:b'=b
   .subst Y;have s':=(O.unst id _ b' c' hl I F).2 _ _ _ rfl;rw[fE r2.here,fE H,<-Array.getElem?_toList,<-Array.getElem?_toList,r3,Nat.add_zero];rw[List.append_assoc,List.getElem?_append_left (by rw[List.length_take];simp;omega),List.getElem?_take,if_pos s']
   exact bT (r2.other b' Y) c'
  have u':r'.size=R.size:=by
   have:=congrArg List.length r3;simp only[Array.length_toList,List.length_append,List.length_take,List.length_drop]at this;omega
  refine W (blk:=some b) (by rw[B];exact hr) f (JI h hl I r2) (by rw[r2.size];exact Nat.le_refl _) (fun q x b' hid u A=>r2.other b' (fun e=>hid (h.inj q id x _ b' u hl A (e▸I)))) ?_ (fun b' A=>.inl (by rw[I];exact A)) (fun b' A=>.inl (by rw[I];exact A)) (fun t J a n c H=>by
   simp only[Value.slice.injEq,E_]at H;obtain⟨rfl,_,_⟩:=H;obtain⟨m,hm⟩:=(hT t J).2 _ _ _ B
   exact⟨m,r2.shape _ _ hm⟩)
  refine .inr ⟨b,g,r',e0,fr,rfl,by rw[List.length_append],r2.here,by rw[u'];exact hf,by rw[u'];exact B',by rw[List.length_append];exact D,?_,?_⟩
  .intro r hr;rcases List.mem_append.1 hr with h|h
   .exact y r h
   exact l r h
  rw[List.flatten_append,List.length_append,Nat.add_mul,r3];simp only[Nat.add_zero];have hA:(R.toList.take (d.length*i.size)).length=d.length*i.size:=by rw[List.length_take];simp;omega
  rw[List.append_assoc]
  have:(R.toList.take (d.length*i.size)++(news++R.toList.drop (d.length*i.size+news.length))).take (d.length*i.size+new.length*i.size)=R.toList.take (d.length*i.size)++news:=by
   have e1:=List.take_length_add_append (l₁:=R.toList.take (d.length*i.size)) (l₂:=news++R.toList.drop (d.length*i.size+news.length)) (i:=new.length*i.size);rw[hA]at e1;rw[e1,<-p',<-D',List.take_left'];rfl
  rw[this];exact ag.append (ag.mono ⟨fun b off F=>f.1 b off (.inl F),f.2⟩ (fun _ _ x=>.inl x) _ _ Q) (ag.mono f (fun _ _ x=>x) _ _ N)
 .-- there is none
  have hg:g<d.length+new.length:=by omega
  have i':(Builtin.firstCells i.size d.length (.slice (some ⟨b,0,none⟩) d.length g)).run P w.drew=.ok (R.toList.take (d.length*i.size)).toArray w.drew:=by
   refine run_firstCells_some (P:=P) w.drew i.size d.length ⟨b,0,none⟩ d.length g (R.toList.take (d.length*i.size)) ?_ ?_
   .have:d.length*i.size<=g*i.size:=Nat.mul_le_mul_right _ C';rw[List.length_take];simp;omega
   intro j v hj;rw[jN];rw[List.getElem?_take]at hj;split at hj
   .show w.cell? _=_;rw[fE H,Nat.zero_add,<-Array.getElem?_toList];exact hj
   simp at hj
  have hr:=DR (w:=w) (ty:=ty) h0 h1 J U hi hz (base:=some ⟨b,0,none⟩) (sLen:=d.length) (sCap:=g) (E w) i' (V w.drew rfl) hg (L _ p) (by omega)
  refine W (blk:=some w.heap.size) (by rw[B];exact hr) (k [] _) (h.kept.trans (cZ w _).none) (by simp) (fun q x b _ u A=>(cZ w _).block b (bI.live A (h.objs q x u)) (fun x=>x)) ?_ (fun b X=>.inr (by rw[<-O_ X];exact Nat.le_refl _)) (fun b X=>.inr (fun off F=>by have:=O.stab b off F;rw[<-O_ X]at this;omega)) (fun t J a n c H=>by
   obtain⟨rfl,_⟩:=hT t J;simp only[Value.slice.injEq,E_]at H;obtain⟨rfl,_,_⟩:=H
   exact⟨_,yP w _ _⟩)
  exact DS j' (ag.mono ⟨fun b off F=>(k [] _).1 b off (.inl F),(k [] _).2⟩ (fun _ _ x=>.inl x) _ _ Q) (ag.mono (k [] _) (fun _ _ x=>x) _ _ N) y l (rP _ _ _) (cY w.drew _)
theorem CU(u:Option Nat)(h:SimG w0 S0 M σ a w S μ β)(J:oh o σ){g:Array TypeId}{ty t F e K:TypeId}{i:TypeInfo}{z:Value}(L:g[0]?=some t)(N:g[1]?=some F)
  (O:P.underlying t=some (.slice e)) (x:P.underlying F=some (.slice K)) (Q:P.info? e=some i) (l:0<i.size) (j:0<i.bytes) (R:i.zero=some z) (y:z.cells.size=i.size) {A H:Value}
  (p:∀ {v:Value} {w':World},(Builtin.append_ g ty #[A,H]).run P w=.ok v w'->(execOp a.eval o).run P w=.ok (.value v) w')
  {id B:Nat} {d new:List (List IV)} (U:ac σ.objs id=some (.arr B i.size d)) (C:A=μ id) {I:Option Addr} {cap:Nat} {news:List Value} (q:H=.slice I new.length cap) (D:ag w S new.flatten news)
  (E:∀w':World,w'.heap=w.heap->(Builtin.firstCells i.size new.length (.slice I new.length cap)).run P w'=.ok news.toArray w') (k:∀r∈new,r.length=i.size) (f:(d.length+new.length)*i.bytes<=35184372088832)
  (hT:∀t,u=some t->t=e/\∀a n c,A=.slice (some a) n c->∃m,w.shape? a.block=some (t,m)) :
  we P o a w (fun v w'=>gc w0 S0 M (σ.apply o.dst {v:=ahl u id (B+1),wr:=some (id,.arr (B+1) i.size (d++new)) }) (a.put o.dst v) w'):=
 yQ u h J L N O (.inl x) Q l j R y p U C (fun w'=>by rw[q];rfl) D (fun w' V=>by rw[q];exact E w' V) k f hT
theorem V2(h:SimG w0 S0 M σ a w S μ β)(hd:oh o σ){c:Call}{t t' e e':TypeId}{i:TypeInfo}{x y:Operand}{x' y':Opd}(ho:o.op=.call c)(hb:c.callee=.builtin .append)(h0:c.argTypes[0]?=some t)(h1:c.argTypes[1]?=some t')
  (J':c.args.toList=[x,y]) (ht:P.underlying t=some (.slice e)) (W:P.underlying t'=some (.slice e')) (hi:P.info? e=some i) (K':0<i.size/\0<i.bytes/\i.zero.any (fun z=>z.cells.size==i.size)=true)
  (hx:ap x=some x') (hy:ap y=some y') {u:Upd} (B:ev σ o.dst (.append e i.size i.bytes x' y')=some u) (hs:u.side) :
  uB P o w0 S0 M σ a w u:=by
 have l:=ax h hx;have q:=ax h hy;obtain⟨f',Q,R⟩:=K'
 obtain⟨z,hz,g'⟩:∃z,i.zero=some z/\z.cells.size=i.size:=by
  cases D':i.zero with
  |none=>rw[D']at R;simp at R
  |some z=>rw[D']at R;exact⟨z,rfl,by simpa using R⟩
 obtain⟨I',hex⟩:=lA (a:=a) ho hb;have n':=CS J'
 have D:∀ {v:Value} {w':World},(Builtin.append_ c.argTypes o.type #[a.eval x,a.eval y]).run P w=.ok v w'->(execOp a.eval o).run P w=.ok (.value v) w':=by
  intro v w' hr;rw[hex,n'];simp[builtin,hr]
 have h':∀n,n*i.bytes<=35184372088832->n<=9223372036854775807:=by
  intro n hn;have:n*1<=n*i.bytes:=Nat.mul_le_mul_left _ Q;omega
 simp only[ev]at B;split at B
 .simp at B
 next new rd m=>
 have X':∀(fz:List Nat) b L,dH S β σ.objs fz b L->w.drew.cell? ⟨b,L,none⟩=w.cell? ⟨b,L,none⟩:=fun _ _ _ _=>rfl
 have a':∀(fz:List Nat) (x:Go.Obj),bM (dH S β σ.objs fz) w (w.drew.alloc x):=by
  intro fz x;refine⟨fun b L hS=>?_,(cZ w x).shape⟩;exact bT ((cZ w x).block b ((h.freeze fz).stab b L hS) (fun x=>x)) L
 split at B
 .-- nil
  next U=>
  rw[U]at l;obtain⟨base,V⟩:=l;split at B
  .next d H=>
   obtain rfl:=O_ B;obtain⟨k,g⟩:new.length*i.bytes<=35184372088832/\∀r∈new,r.length=i.size:=hs;obtain⟨ad,cap,news,C,I,E⟩:=sy (P:=P) h m q g;have o':ag w (dH S β σ.objs []) new.flatten news:=ag.mono (bM.refl _ _) (fun _ _ x=>.inl x) _ _ I;by_cases hm:new.length=0
   .have E':new=[]:=List.length_eq_zero_iff.1 hm;subst E';refine sN h H (hd d H) (fz:=[]) (blk:=none) (mu:=.slice base 0 0) (v:=.slice base 0 0) (w':=w) (D ?_) (Kept.refl _ _) (by simp) (.inl ⟨rfl,rfl,base,rfl⟩) (.inr ⟨⟨_,_,rfl⟩,rfl,rfl⟩);rw[V,C];exact Hh h0 h1 ht W hi
   have hg:0<0+new.length:=by omega
   have hr:=Hg (w:=w) (ty:=o.type) h0 h1 ht W hi hz (base:=base) (sLen:=0) (sCap:=0) (olds:=#[]) (by
    cases base with
    |none=>simp[Builtin.firstCells]
    |some b=>simp[Builtin.firstCells,loadCells,loadCellsFrom]) (E w.drew rfl) hg (by have:=h' _ k;omega) (by simp only[Nat.zero_add];omega)
   refine sN h H (hd d H) (fz:=[]) (blk:=some w.heap.size) (mu:=.slice (some ⟨w.heap.size,0,none⟩) (0+new.length) (grownCap w (0+new.length) 0 e)) (v:=.slice (some ⟨w.heap.size,0,none⟩) (0+new.length) (grownCap w (0+new.length) 0 e)) (w':=w.drew.alloc (.cells (#[]++news.toArray++Builtin.zeroCells z.cells (grownCap w (0+new.length) 0 e-(0+new.length))) e)) (D ?_) (cZ w _) (fun b hb=>(O_ hb).symm) ?_ (.inr ⟨⟨_,_,rfl⟩,rfl,rfl⟩)
   .rw[V,C];exact hr
   have:=DS (w':=w.drew.alloc (.cells (#[]++news.toArray++Builtin.zeroCells z.cells (grownCap w (0+new.length) 0 e-(0+new.length))) e)) (S:=dH S β σ.objs []) (olds:=[]) (news:=news) (ro:=[]) (rn:=new) (e:=e) (s:=i.size) (z:=z) (ver:=0) (cap:=grownCap w (0+new.length) 0 e) (μ:=μ) (objs:=σ.objs) g' rfl (ag.mono (a' [] _) (fun _ _ x=>x) _ _ o') (by simp) g (rP _ _ _) (b:=w.heap.size) (by simpa using cY w.drew _);simpa using this
  simp at B
 .-- full
  next f U=>
  rw[U]at l;obtain⟨i',base,V⟩:=l;rw[V]at i';split at B
  .next d H=>
   obtain rfl:=O_ B;obtain⟨L',k,b',g⟩:new≠[]/\(f.length+new.length)*i.bytes<=35184372088832/\(∀r∈f,r.length=i.size)/\∀r∈new,r.length=i.size:=hs;obtain⟨ad,cap,news,C,I,E⟩:=sy (P:=P) h m q g;have o':ag w (dH S β σ.objs []) new.flatten news:=ag.mono (bM.refl _ _) (fun _ _ x=>.inl x) _ _ I;obtain⟨olds,M',N'⟩:=Hi (P:=P) i' b'
   have hg:f.length<f.length+new.length:=by
    have:new.length≠0:=fun e=>L' (List.length_eq_zero_iff.1 e)
    omega
   have hr:=Hg (w:=w) (ty:=o.type) h0 h1 ht W hi hz (base:=base) (sLen:=f.length) (sCap:=f.length) (N' w.drew (fun _ _ _=>rfl)) (E w.drew rfl) hg (h' _ k) (by omega);refine sN h H (hd d H) (fz:=[]) (blk:=some w.heap.size) (mu:=_) (v:=_) (w':=_) (D (by rw[V,C];exact hr)) (cZ w _) (fun b hb=>(O_ hb).symm) ?_ (.inr ⟨⟨_,_,rfl⟩,rfl,rfl⟩);exact DS g' (ag.mono ⟨fun b L hS=>(a' [] _).1 b L (.inl hS),(a' [] _).2⟩ (fun _ _ x=>.inl x) _ _ M') (ag.mono (a' [] _) (fun _ _ x=>x) _ _ o') b' g (rP _ _ _) (cY w.drew _)
  simp at B
 .-- own
  next id ver U=>
  rw[U]at l;split at B
  .next cv s' f X=>
   split at B
   .next A=>
    simp only[Bool.and_eq_true,Bool.not_eq_true']at A;obtain⟨J,p'⟩:=A;have J:ver=cv:=by simpa using J
    obtain rfl:=O_ B;obtain⟨q',k,g⟩:s'=i.size/\(f.length+new.length)*i.bytes<=35184372088832/\∀r∈new,r.length=i.size:=hs;subst q';have V:=(l _ _ _ X).2 J;obtain⟨ad,cap,news,C,I,E⟩:=sy (P:=P) h m q g;exact CU none h hd h0 h1 ht W hi f' Q hz g' D X V C I E g k (fun t ht=>by cases ht)
   simp at B
  simp at B
 .-- own,with its type
  next id ver ty U=>
  rw[U]at l;split at B
  .next cv s' f X=>
   split at B
   .next A=>
    simp only[Bool.and_eq_true,Bool.not_eq_true']at A;obtain⟨⟨J,p'⟩,r'⟩:=A;have r':ty=e:=by simpa using r'
    have J:ver=cv:=by simpa using J
    obtain rfl:=O_ B;obtain⟨q',k,g⟩:s'=i.size/\(f.length+new.length)*i.bytes<=35184372088832/\∀r∈new,r.length=i.size:=hs;subst q';have V:=(l.1 _ _ _ X).2 J;obtain⟨ad,cap,news,C,I,E⟩:=sy (P:=P) h m q g;exact CU (some ty) h hd h0 h1 ht W hi f' Q hz g' D X V C I E g k (fun t ht=>by obtain rfl:=O_ ht;exact⟨r',l.2⟩)
   simp at B
  simp at B
 .-- a piece
  next id ver lo p U=>
  rw[U]at l;split at B
  .next cv s' f X=>
   split at B
   .next A=>
    simp only[Bool.and_eq_true,Bool.not_eq_true',beq_iff_eq]at A;obtain⟨⟨rfl,rfl⟩,m'⟩:=A;have m':id∉σ.ro:=by simpa using m'
    obtain⟨g1,g2,x1,U',y1,g3,g4,g5,g6⟩:=(l _ _ _ X).2 rfl;obtain rfl:=g5 rfl;simp only[Nat.sub_zero]at g4;split at B
    .next O'=>
     split at B
     .next j' k' K N F'=>
      split at B
      .next G'=>
       obtain rfl:j'=id:=by simpa using G'
       obtain rfl:=O_ B;obtain⟨rfl,V',W'⟩:s'=i.size/\p<=K/\K<=N:=hs;rw[F']at q m
       have u':k'=ver:=by
        simp only[nk,X]at m;split at m
        .next hv=>simpa using hv
        simp at m
       subst u';obtain⟨q1,q2,_⟩:=(q _ _ _ X).2 rfl;obtain⟨ad,cap,news,C,I,E⟩:=JJ (P:=P) h X q;have l':((f.take N).drop K).length=N-K:=by rw[List.length_drop,List.length_take];omega
       have g:∀r∈(f.take N).drop K,r.length=i.size:=by
        intro r hr;have hm:r∈f:=List.mem_of_mem_take (List.mem_of_mem_drop hr);rcases h.objs j' _ X with⟨z1,_⟩|⟨_,_,_,_,_,_,_,_,_,_,_,g,_⟩
        .subst z1;simp at hm
        exact g r hm
       rcases h.objs j' _ X with⟨v',d',base,O⟩|⟨b,c',us,e0,fr,d',O,hh,hf,z',H',F,Y⟩
       .subst v';have e1:p=0:=by simpa using g2
        have e2:N=0:=by simpa using q2
        have e3:K=0:=by omega
        subst e1 e2 e3;rw[O]at g3;simp only[Value.slice.injEq]at g3;obtain⟨rfl,_,rfl⟩:=g3;refine⟨_,.slice base 0 0,w,D ?_,.inl rfl,S,μ,β,?_⟩
        .rw[g4,C];exact Hh h0 h1 ht W hi
        refine SimG.putD (σ:={σ with objs:=put σ.objs j' (.arr k' i.size []) }) (put_same h X) hd ?_;intro P' s' A' Z;rw[dP]at Z;simp only[E_,Ob.arr.injEq]at Z;obtain⟨rfl,rfl,rfl⟩:=Z;exact⟨Nat.le_refl _,fun _=>⟨Nat.zero_le _,Nat.le_refl _,base,0,base,O,rfl,fun _=>rfl,fun hh=>absurd hh (Nat.lt_irrefl _)⟩⟩
       rw[O]at g3;simp only[Value.slice.injEq]at g3;obtain⟨rfl,_,rfl⟩:=g3;rw[<-l']at E C;obtain⟨w',r1,r2⟩:=Hj (P:=P) h X m' d' O hh hf z' H' F Y (pos:=p) (rn:=(f.take N).drop K) I g (by omega);have hr:=Sk (w:=w) (ty:=o.type) h0 h1 ht W hi (b:=b) (sLen:=p) (sCap:=c') (E w rfl) (by omega) (by simpa using r1);refine⟨_,_,w',D (by rw[g4,C];exact hr),.inl rfl,S,μ,β,?_⟩;rw[l']at r2 |-;refine SimG.putD (σ:={σ with objs:=put σ.objs j' (.arr k' i.size (f.take p++((f.take N).drop K++f.drop (p+(N-K))))) }) r2 hd ?_;intro P' s' A' Z;rw[dP]at Z;simp only[E_,Ob.arr.injEq]at Z;obtain⟨rfl,rfl,rfl⟩:=Z
       have B':(f.take p++((f.take N).drop K++f.drop (p+(N-K)))).length=f.length:=by
        simp only[List.length_append,List.length_take,List.length_drop];omega
       exact⟨Nat.le_refl _,fun _=>⟨Nat.zero_le _,by omega,_,c',_,by rw[B'];exact O,rfl,fun _=>rfl,fun _=>⟨b,rfl,by simp⟩⟩⟩
      simp at B
     simp at B
    next O'=>
    obtain rfl:=O_ B;obtain⟨rfl,k,g⟩:s'=i.size/\(p+new.length)*i.bytes<=35184372088832/\∀r∈new,r.length=i.size:=hs;obtain⟨ad,cap,news,C,I,E⟩:=sy (P:=P) h m q g;have C':(f.take p).length=p:=by rw[List.length_take];omega
    have Q':SimG w0 S0 M {σ with objs:=put σ.objs id (.arr (ver+1) i.size (f.take p)) } a w S (fun j=>if j=id then a.eval x else μ j) (fun j=>if j=id then β id else β j):=by
     refine h.turn X (β id) (a.eval x) (w':=w) (bM.refl _ _) h.kept (Nat.le_refl _) (fun _ _ _ _ _ _=>rfl) (.inr (.inl ⟨ver,i.size,f,ver+1,_,rfl,rfl,by omega,fun e=>by omega⟩)) ?_ (fun b hb=>.inl hb) (fun b L hb hS=>absurd (h.unst id _ b L X hb hS).1 m');rcases h.objs id _ X with⟨v',d',base,O⟩|⟨b,c',us,e0,fr,d',O,hh,hf,z',H',F,Y⟩
     .subst v';have e1:p=0:=by simpa using g2
      subst e1;rw[O]at g3;simp only[Value.slice.injEq]at g3;obtain⟨rfl,_,rfl⟩:=g3;exact .inl ⟨by simp,d',base,g4⟩
     rw[O]at g3;simp only[Value.slice.injEq]at g3;obtain⟨rfl,_,rfl⟩:=g3;refine .inr ⟨b,c',us,e0,fr,d',by rw[C'];exact g4,hh,hf,z',by omega,fun r hr=>F r (List.mem_of_mem_take hr),?_⟩;rw[C',rO F];have:=ag.take (p*i.size) Y;rw[List.take_take,Nat.min_eq_left (Nat.mul_le_mul_right _ g2)]at this;exact this
    obtain⟨n,v,w',p1,p2,p3⟩:=CU none (σ:={σ with objs:=put σ.objs id (.arr (ver+1) i.size (f.take p)) }) Q' hd h0 h1 ht W hi f' Q hz g' D (dP _ _ _) (by simp) C I E g (by rw[C'];exact k) (fun t ht=>by cases ht);refine⟨n,v,w',p1,p2,?_⟩;obtain⟨S',R',T',hf⟩:=p3
    exact⟨S',R',T',hf.drop rfl rfl (fun _ _ _ hi=>hi) (fun _=>.inr rfl) (fun j y hj=>by
     have e:ac (Jz (put σ.objs id (.arr (ver+1) i.size (f.take p))) (some (id,.arr (ver+1+1) i.size (f.take p++new)))) j=ac (Jz σ.objs (some (id,.arr (ver+2) i.size (f.take p++new)))) j:=by
      simp only[Jz,jL];split<;>rfl
     exact e.trans hj)⟩
   simp at B
  simp at B
 simp at B
end
end Go.Vs
namespace Go.Vs
section
variable {P:Program} {w0 w:World} {S0 S:bb} {M:Ctx} {σ:St} {a:Act} {μ:Nat->Value} {β:Nat->Option Nat} {o:Oper}
theorem ag.repeat{z:List IV}{b:List Value}(h:ag w S z b):∀n,ag w S (List.replicate n z).flatten (dp b n)
 |0=>by simp[dp,ag]
 |n+1=>by
  rw[List.replicate_succ,List.flatten_cons];exact ag.append h (ag.repeat h n)
theorem V3(h:SimG w0 S0 M σ a w S μ β){id m s d n:Nat}{c:List (List IV)}(p:ac σ.objs id=some (.arr m s c))(q:id∉σ.ro){v:Value}(I:au w S μ σ.objs (.view id m d n) v)
  {rn:List (List IV)} {f:List Value} (u:ag w S rn.flatten f) (x:∀r∈rn,r.length=s) (C:rn.length<=n-d) (D:0<s) :
  ∃E g,v=.slice E (n-d) g/\(rn=[]\/∃b,E=some ⟨b,d*s,none⟩/\∃F,(storeCells ⟨b,d*s,none⟩ f 0).run P w=.ok () F/\SimG w0 S0 M {σ with objs:=put σ.objs id (.arr m s (c.take d++(rn++c.drop (d+rn.length)))) } a F S μ β):=by
 obtain⟨W,J,X,g,K,y,rfl,Y,L⟩:=(I _ _ _ p).2 rfl;refine⟨K,g-d,rfl,?_⟩;by_cases j:rn=[]
 .exact .inl j
 right;have N:0<rn.length:=List.length_pos_iff.2 j;obtain⟨b,O,Q⟩:=L (by omega);refine⟨b,Q,?_⟩;rcases h.objs id _ p with⟨R,_⟩|⟨Z,H,us,e,fr,z,k,U,V,A,B,i,l⟩
 .subst R;simp at J;omega
 rw[k,O]at y;simp only[Value.slice.injEq,E_,Addr.mk.injEq,and_true]at y;obtain⟨rfl,_,rfl⟩:=y;exact Hj h p q z k U V A B i l u x (by omega)
theorem Yo(h:SimG w0 S0 M σ a w S μ β)(O:oh o σ){c:Call}{t e:TypeId}{x:Operand}{x':Opd}{zero:List SV}(ho:o.op=.call c)(hb:c.callee=.builtin .clear)(Q:c.argTypes[0]?=some t)
  (R:c.args.toList=[x]) (U:P.underlying t=some (.slice e)) (hx:ap x=some x') (V:y5 P e=some zero) {u:Upd} (l:ev σ o.dst (.clear zero x')=some u) (hs:u.side) :
  uB P o w0 S0 M σ a w u:=by
 have j:=ax h hx;obtain⟨L,hex⟩:=lA (a:=a) ho hb;have E:=CR R;obtain⟨i,zv,H,hz,W⟩:=sO V
 have m:∀ {v:Value} {F:World},(Builtin.clear_ c.argTypes o.type #[a.eval x]).run P w=.ok v F->(execOp a.eval o).run P w=.ok (.value v) F:=by
  intro v F N;rw[hex,E];simp[builtin,N]
 simp only[ev]at l;split at l
 .simp at l
 next z X=>
 have I:ag w S z zv.cells.toList:=by
  have h1:=gd (w:=w) (S:=S) (μ:=μ) (objs:=σ.objs) W;rw[uz X]at h1;exact al.toRep h1
 have Y:=ag.length I
 have q:∀ {id y s f g:Nat} {d:List (List IV)},ac σ.objs id=some (.arr y s d)->id∉σ.ro->au w S μ σ.objs (.view id y f g) (a.eval x)->z.length=s/\0<s->
   we P o a w (fun v F=>gc w0 S0 M ⟨putD σ.env o.dst (.val (.tuple [])),put σ.objs id (.arr y s (d.take f++(List.replicate (g-f) z++d.drop g))),σ.ro,σ.n,σ.gl⟩ (a.put o.dst v) F):=by
  intro id y s f g d A n N ⟨J,B⟩;obtain⟨g1,g2,x1,c',y1,g3,g4,_⟩:=(N _ _ _ A).2 rfl;by_cases d':f<g
  .obtain⟨ad,b',e1,e2⟩:=V3 (P:=P) h A n N (rn:=List.replicate (g-f) z) (ag.repeat I (g-f)) (fun r Z=>by rw[List.eq_of_mem_replicate Z];exact J) (by simp) B;rcases e2 with e2|⟨b,rfl,F,r1,r2⟩
   .simp only[List.replicate_eq_nil_iff]at e2;omega
   refine⟨_,.tuple #[],F,m ?_,.inl rfl,S,μ,β,?_⟩
   .have C:(Builtin.zeroCells zv.cells (g-f)).toList=dp zv.cells.toList (g-f):=by
     have D:zv.cells.size=s:=by simpa[J]using Y
     have:=pE zv.cells s D B (g-f);unfold Builtin.zeroCells;rw[<-D]at this;exact this
    have e':g-f≠0:=by omega
    rw[e1];obtain⟨k,hk⟩:∃k,g-f=k+1:=⟨g-f-1,by omega⟩;rw[hk]at C r1 |-;simp only[Builtin.clear_,Q,Sem.run_bind,Sem.run_pure,Result.andThen_ok,run_underlying U,iK H hz,List.getElem?_toArray,List.getElem?_cons_zero,C];simp[r1]
   rw[List.length_replicate,show f+(g-f)=g by omega]at r2;exact SimG.putD (σ:={σ with objs:=put σ.objs id (.arr y s (d.take f++(List.replicate (g-f) z++d.drop g))) }) r2 O ⟨#[],rfl,rfl⟩
  have:g-f=0:=by omega
  have e1:d.take f++(List.replicate (g-f) z++d.drop g)=d:=by
   rw[this,show g=f by omega];simp
  rw[e1];refine⟨_,.tuple #[],w,m ?_,.inl rfl,S,μ,β,?_⟩
  .rw[g4,this];cases y1<;>simp[Builtin.clear_,Q,run_underlying U]
  exact SimG.putD (σ:={σ with objs:=put σ.objs id (.arr y s d) }) (put_same h A) O ⟨#[],rfl,rfl⟩
 split at l
 .next p=>
  obtain rfl:=O_ l;rw[p]at j;obtain⟨x1,hv⟩:=j;refine aw h O (v:=.tuple #[]) (m ?_) ⟨#[],rfl,rfl⟩;rw[hv];cases x1<;>simp[Builtin.clear_,Q,run_underlying U]
 .next id a' p=>
  rw[p]at j;split at l
  .next y s d A=>
   split at l
   .next K=>
    simp only[Bool.and_eq_true,Bool.not_eq_true',beq_iff_eq]at K;obtain⟨rfl,n⟩:=K;obtain rfl:=O_ l;have:=q A (by simpa using n) (JF h A j) hs;simp only[List.take_zero,List.nil_append,Nat.sub_zero,List.drop_length,List.append_nil]at this;exact this
   simp at l
  simp at l
 .next id a' f g p=>
  rw[p]at j;split at l
  .next y s d A=>
   split at l
   .next K=>
    simp only[Bool.and_eq_true,Bool.not_eq_true',beq_iff_eq]at K;obtain⟨rfl,n⟩:=K;obtain rfl:=O_ l;exact q A (by simpa using n) j hs
   simp at l
  simp at l
 simp at l
end
end Go.Vs
namespace Go.Vs
section
variable {P:Program} {w0 w:World} {S0 S:bb} {M:Ctx} {σ:St} {a:Act} {μ:Nat->Value} {β:Nat->Option Nat} {o:Oper}
theorem Yp(h:SimG w0 S0 M σ a w S μ β)(j:oh o σ){t:TypeId}{x:Operand}{k:Opd}(l:o.op=.range t x)(m:P.underlying t=some .string)(n:ap x=some k){u:Upd}(g:ev σ o.dst (.rangeS k)=some u) :
  uB P o w0 S0 M σ a w u:=by
 have e:=ax h n;simp only[ev]at g;split at g
 .next d s c i=>
  rw[i]at e;obtain rfl:=O_ g;have p:a.eval x=.string ⟨s.toArray⟩:=e
  have f:(execOp a.eval o).run P w=.ok (.value (.pointer (some ⟨w.heap.size,0,none⟩))) (w.alloc (.stringIter ⟨s.toArray⟩ 0)):=by
   have:=run_range_string (P:=P) w t ⟨s.toArray⟩ m;simp only[execOp,l,p,Sem.run_bind,this,Result.andThen_ok];rfl
  refine⟨_,_,_,f,.inl rfl,dH S β σ.objs [],(fun id=>if id=d then .pointer (some ⟨w.heap.size,0,none⟩)else μ id),(fun id=>if id=d then some w.heap.size else β id),?_⟩;rw[c];have q:=(h.freeze []).create d (j d c) (.iter s 0) (some w.heap.size) (.pointer (some ⟨w.heap.size,0,none⟩)) (w':=w.alloc (.stringIter ⟨s.toArray⟩ 0)) (nm _ _) (fun b v=>(O_ v).symm) ⟨_,rfl,rfl,cY _ _⟩;refine q.put (j d c) ?_;intro y z A;simp
 simp at g
theorem aaS(h:SimG w0 S0 M σ a w S μ β)(U:oh o σ){x:Operand}{V:Opd}(W:o.op=.next x true)(E:ap x=some V){u:Upd}(q:ev σ o.dst (.nextS V)=some u) :
  uB P o w0 S0 M σ a w u:=by
 have v:=ax h E;simp only[ev]at q;split at q
 .next id N=>
  rw[N]at v;split at q
  .next s p A=>
   obtain⟨b,g,H,I⟩:=h.objs id _ A;have X:a.eval x=.pointer (some ⟨b,0,none⟩):=(v s p A).trans H;have J:(⟨s.toArray⟩:ByteArray).size=s.length:=by simp[ByteArray.size]
   split at q
   .next O=>
    obtain rfl:=O_ q;obtain⟨c,k,K⟩:∃c k,Utf8.decode ⟨s.toArray⟩ p=(c,k):=⟨_,_,rfl⟩
    have l:(execOp a.eval o).run P w=.ok (.value (.tuple #[.bool true,.int .i64 p,.int .i32 c])) {w with heap:=w.heap.setIfInBounds b (.stringIter ⟨s.toArray⟩ (p+k)) }:=by
     have B:p<(⟨s.toArray⟩:ByteArray).size:=by rw[J];exact O
     simp only[execOp,W,X,Instr.next,getObj,setObj,Sem.run_bind,Sem.run,I,Result.andThen,B,if_true,K];simp[goInt,Sem.run,I]
    rw[K];have L:b<w.heap.size:=bI.live g (h.objs id _ A)
    have Y:∀d f,dH S β σ.objs [] d f->w.cell? ⟨d,f,none⟩=({w with heap:=w.heap.setIfInBounds b (.stringIter ⟨s.toArray⟩ (p+k)) } : World).cell? ⟨d,f,none⟩:=by
     intro d f Y;by_cases C:d=b
     .subst C;have e2:(w.heap.setIfInBounds d (.stringIter ⟨s.toArray⟩ (p+k)))[d]?=some (.stringIter ⟨s.toArray⟩ (p+k)):=by simp[L]
      simp only[World.cell?,I,e2]
     simp[World.cell?,Array.getElem?_setIfInBounds,Ne.symm C]
    have m:∀d,d≠b->({w with heap:=w.heap.setIfInBounds b (.stringIter ⟨s.toArray⟩ (p+k)) } : World).heap[d]?=w.heap[d]?:=by
     intro d C;simp[Array.getElem?_setIfInBounds,Ne.symm C]
    have z:∀F x,w.shape? F=some x->({w with heap:=w.heap.setIfInBounds b (.stringIter ⟨s.toArray⟩ (p+k)) } : World).shape? F=some x:=by
     intro F x E;by_cases C:F=b
     .subst C;simp[World.shape?,I]at E
     exact(dA (m F C)).trans E
    have Z:=h.freeze [];refine⟨_,_,_,l,.inl rfl,dH S β σ.objs [],μ,β,?_⟩
    have h2:=Z.turn (w':={w with heap:=w.heap.setIfInBounds b (.stringIter ⟨s.toArray⟩ (p+k)) }) (o':=.iter s (p+k)) A (some b) (μ id) ⟨fun d f D=>(Y d f D).symm,z⟩ ⟨h.kept.os,h.kept.tape,h.kept.output,by simpa using h.kept.size,fun j hj hM=>by
      refine(m j ?_).trans (h.kept.block j hj hM);rintro rfl;rcases h.own id _ _ A g with h5|h5
      .omega
      exact hM h5,fun F x E=>z _ _ (h.kept.shape _ _ E)⟩ (by simp)
     (fun Q y d hid R n=>m d (fun e=>hid (h.inj Q id y _ d R A n (e▸g)))) (.inr (.inr ⟨s,p,s,p+k,rfl,rfl,rfl⟩)) ⟨b,rfl,H,by simp[L]⟩ (fun d n=>.inl (by rw[g];exact n))
     (fun d f n D=>by
       obtain⟨g1,g2⟩:=Z.unst id _ d f A (by rw[g];exact n) D
       exact⟨g1,fun c' s a' e=>by simp at e⟩)
    have e1:(fun i=>if i=id then μ id else μ i)=μ:=by funext i;split<;>simp_all
    have e2:(fun i=>if i=id then some b else β i)=β:=by funext i;split<;>simp_all
    rw[e1,e2]at h2;refine h2.putD U ?_;exact⟨_,rfl,_,_,rfl,rfl,_,_,rfl,rfl,_,_,rfl,rfl,rfl⟩
   next O=>
   obtain rfl:=O_ q
   have l:(execOp a.eval o).run P w=.ok (.value (.tuple #[.bool false])) w:=by
    have B:¬p<(⟨s.toArray⟩:ByteArray).size:=by rw[J];exact O
    simp[execOp,W,X,Instr.next,getObj,Sem.run,I,B]
   refine⟨_,_,_,l,.inl rfl,S,μ,β,?_⟩;refine SimG.putD h U ?_;exact⟨_,rfl,_,_,rfl,rfl,rfl⟩
  simp at q
 simp at q
theorem DT:∀ {b:List (List IV)} {d:List UInt8},pZ b=some d->∃e:List Int,b=e.map (fun n=>[.int .u8 n])/\d=e.map (fun n=>UInt8.ofNat n.toNat)
 |[],d,h=>by simp only[pZ,E_]at h;exact⟨[],rfl,h.symm⟩
 |r::g,d,h=>by
  unfold pZ at h;split at h
  .simp at *
  .next n i c=>
   simp only[List.cons.injEq]at c;obtain⟨rfl,rfl⟩:=c;simp only[Option.map_eq_some_iff]at h;obtain⟨l,f,rfl⟩:=h;obtain⟨e,rfl,rfl⟩:=DT f;exact⟨n::e,rfl,rfl⟩
  simp at h
theorem Ow:∀ {c:List Int} {b:List Value},ag w S (c.map (fun n=>[IV.int .u8 n])).flatten b->b=c.map (Value.int .u8)
 |[],b,h=>h
 |n::c,b,⟨v,e,f,_,d,g⟩=>by
  subst f;have d:v=.int .u8 n:=d;rw[d,Ow g];rfl
theorem Yq(h:SimG w0 S0 M σ a w S μ β)(D:oh o σ){s t e:TypeId}{x:Operand}{q:Opd}(E:o.op=.convert s t x)(v:P.underlying s=some (.slice e))(y:P.underlying t=some .string)(z:P.underlying e=some (.int .u8))(F:ap x=some q){u:Upd}(c:ev σ o.dst (.convB q)=some u) :
  uB P o w0 S0 M σ a w u:=by
 have d:=ax h F;simp only[ev]at c;split at c
 .next A J b=>
  split at c
  .next K k=>
   obtain rfl:=O_ c;obtain⟨l,rfl,rfl⟩:=DT k;obtain⟨B,f,L,H,m,g⟩:=sy (P:=P) h b d (s:=1) (by intro r C;simp at C;obtain⟨n,_,rfl⟩:=C;rfl);have p:=Ow m;subst p
   have i:(execOp a.eval o).run P w=.ok (.value (.string ⟨(l.map (fun n=>UInt8.ofNat n.toNat)).toArray⟩)) w:=by
    have I:(convert s t (a.eval x)).run P w=.ok (.string ⟨(l.map (fun n=>UInt8.ofNat n.toNat)).toArray⟩) w:=by
     rw[H];cases B with
     |none=>
      have j:=g w rfl;simp[Builtin.firstCells]at j;simp only[List.length_map]at *;subst j;simp[convert,run_underlying v,run_underlying y,run_underlying z,Conv.bytesToString,ByteArray.empty,ByteArray.emptyWithCapacity]
      try rfl
     |some B=>
      have j:=g w rfl;simp only[Builtin.firstCells,Nat.mul_one]at j;rw[run_convert_bytes_string w s t e _ _ f v z y,run_bytesToString w _ _ f l j,foldl_push_bytes];simp[ByteArray.empty,ByteArray.emptyWithCapacity]
      try rfl
    simp only[execOp,E,Sem.run_bind,I,Result.andThen_ok];rfl
   refine⟨_,_,_,i,.inl rfl,S,μ,β,?_⟩;exact SimG.putD h D rfl
  simp at c
 simp at c
theorem JK(c:List UInt8):ag w S (av c).flatten (c.map fun b=>Value.int .u8 b.toNat):=by
 induction c with
 |nil=>rfl
 |cons b r d=>exact⟨_,_,rfl,rfl,rfl,d⟩
theorem Sl(h:SimG w0 S0 M σ a w S μ β)(hd:oh o σ){c:Call}{t t' e:TypeId}{i:TypeInfo}{x y:Operand}{x' y':Opd}(ho:o.op=.call c)(hb:c.callee=.builtin .append)(h0:c.argTypes[0]?=some t)(h1:c.argTypes[1]?=some t')
  (X:c.args.toList=[x,y]) (O:P.underlying t=some (.slice e)) (Q:P.underlying t'=some .string) (hi:P.info? e=some i) (Y:i.size=1/\0<i.bytes/\i.zero.any (fun z=>z.cells.size==i.size)=true)
  (hx:ap x=some x') (hy:ap y=some y') {u:Upd} (l:ev σ o.dst (.appendS e i.bytes x' y')=some u) (hs:u.side) :
  uB P o w0 S0 M σ a w u:=by
 have d:=ax h hx;have n:=ax h hy;obtain⟨f,p,g⟩:=Y
 obtain⟨z,hz,R⟩:∃z,i.zero=some z/\z.cells.size=i.size:=by
  cases U:i.zero with
  |none=>rw[U]at g;simp at g
  |some z=>rw[U]at g;exact⟨z,rfl,by simpa using g⟩
 obtain⟨W,hex⟩:=lA (a:=a) ho hb;have F:=CS X
 have E:∀ {v:Value} {C:World},(Builtin.append_ c.argTypes o.type #[a.eval x,a.eval y]).run P w=.ok v C->(execOp a.eval o).run P w=.ok (.value v) C:=by
  intro v C H;rw[hex,F];simp[builtin,H]
 simp only[ev]at l;split at l
 .next k V=>
  rw[V]at n;have D:a.eval y=.string ⟨k.toArray⟩:=n;split at l
  .next id I q=>
   rw[q]at d;split at l
   .next Z s' s J=>
    split at l
    .next A=>
     obtain rfl:=O_ l;obtain⟨K,j⟩:s'=1/\(s.length+k.length)*i.bytes<=35184372088832:=hs;subst K;have hv:I=Z:=by simpa using A
     have L:=(d _ _ _ J).2 hv;have m:(av k).length=k.length:=by simp[av]
     rw[<-f]at J
     have:=yQ none (P:=P) (o:=o) (ats:=c.argTypes) (ty:=o.type) (new:=av k) (e':=e) h hd h0 h1 O (.inr Q) hi (by omega) p hz R E J L (fun C=>by rw[D,m];simp[Builtin.lenOf,ByteArray.size]) (JK k)
      (fun C _=>by
        rw[D,m];have e1:=Lib.run_firstCells_string (P:=P) (w:=C) i.size ⟨k.toArray⟩;have e2:(⟨k.toArray⟩:ByteArray).size=k.length:=by simp[ByteArray.size]
        rw[e2]at e1;rw[e1]
        simp[Lib.strCells]) (by intro r H;simp[av]at H;obtain⟨b,_,rfl⟩:=H;simp[f]) (by rw[m];exact j) (fun t O=>by cases O)
     rw[f]at this;exact this
    simp at l
   simp at l
  .next id I ty q=>
   rw[q]at d;split at l
   .next Z s' s J=>
    split at l
    .next B=>
     simp only[Bool.and_eq_true]at B;obtain⟨A,N⟩:=B;have N:ty=e:=by simpa using N
     obtain rfl:=O_ l;obtain⟨K,j⟩:s'=1/\(s.length+k.length)*i.bytes<=35184372088832:=hs;subst K;have hv:I=Z:=by simpa using A
     have L:=(d.1 _ _ _ J).2 hv;have m:(av k).length=k.length:=by simp[av]
     rw[<-f]at J
     have:=yQ (some ty) (P:=P) (o:=o) (ats:=c.argTypes) (ty:=o.type) (new:=av k) (e':=e) h hd h0 h1 O (.inr Q) hi (by omega) p hz R E J L (fun C=>by rw[D,m];simp[Builtin.lenOf,ByteArray.size]) (JK k)
      (fun C _=>by
        rw[D,m];have e1:=Lib.run_firstCells_string (P:=P) (w:=C) i.size ⟨k.toArray⟩;have e2:(⟨k.toArray⟩:ByteArray).size=k.length:=by simp[ByteArray.size]
        rw[e2]at e1;rw[e1]
        simp[Lib.strCells]) (by intro r H;simp[av]at H;obtain⟨b,_,rfl⟩:=H;simp[f]) (by rw[m];exact j) (fun t O=>by obtain rfl:=O_ O;exact⟨N,d.2⟩)
     rw[f]at this;exact this
    simp at l
   simp at l
  simp at l
 simp at l
end
end Go.Vs
namespace Go.Vs
section
variable {P:Program} {w0 w:World} {S0 S:bb} {M:Ctx} {σ:St} {a:Act} {μ:Nat->Value} {β:Nat->Option Nat} {o:Oper}
theorem JL(h:SimG w0 S0 M σ a w S μ β)(e:oh o σ){f:BinOp}{t s:TypeId}{x y:Operand}{g i:Opd}(j:o.op=.binOp f t x y s)(l:ap x=some g)(p:ap y=some i)
  {u:Upd} (b:ev σ o.dst (.bin f g i)=some u) (q:u.side):uB P o w0 S0 M σ a w u:=by
 simp only[ev]at b;split at b
 .next k m z n c d=>
  split at b
  .next v=>
   subst v;exact aaF h e j l p c d b q
  simp at b
 .next m n c d=>exact aaG h e j l p c d b q
 simp at b
theorem aem(h:SimG w0 S0 M σ a w S μ β)(i:oh o σ){g:BinOp}{t q:TypeId}{x:Operand}{p:Opd}(j:o.op=.binOp g t x (.const .nilIface) q)(e:g=.eql\/g=.neq)(s:ap x=some p)
  {ms:Array (String×TypeId)} (k:P.underlying t=some (.interface ms)) {u:Upd} (f:ev σ o.dst (.eqN (g == .neq) p)=some u) :
  uB P o w0 S0 M σ a w u:=by
 have c:=ax h s;simp only[ev]at f;split at f
 .next d=>
  rw[d]at c;obtain rfl:=O_ f;have:=JA h i j e k (b:=true) (.inr ⟨c,rfl⟩);simpa using this
 .next l v d=>
  rw[d]at c;obtain rfl:=O_ f;obtain⟨m,n,_⟩:=c;have:=JA h i j e k (b:=false) (.inl ⟨l,m,n,rfl⟩);simpa using this
 .next l v d=>
  rw[d]at c;obtain rfl:=O_ f;obtain⟨m,n,_⟩:=c;have:=JA h i j e k (b:=false) (.inl ⟨l,m,n,rfl⟩);simpa using this
 simp at f
theorem aen(h:SimG w0 S0 M σ a w S μ β)(j:oh o σ){i:BinOp}{t s:TypeId}{x:Operand}{q:Opd}(k:o.op=.binOp i t x (.const (.pointer none)) s)(g:i=.eql\/i=.neq)(v:ap x=some q)
  {e:TypeId} (l:P.underlying t=some (.pointer e)) {u:Upd} (f:ev σ o.dst (.eqP (i == .neq) q)=some u) :
  uB P o w0 S0 M σ a w u:=by
 have c:=ax h v;simp only[ev]at f;split at f
 .next d=>
  rw[d]at c;obtain rfl:=O_ f;have:=JB h j k g l (b:=true) (.inr ⟨c,rfl⟩);simpa using this
 .next cs d=>
  rw[d]at c;obtain rfl:=O_ f;obtain⟨b,m,n,_⟩:=c;have:=JB h j k g l (b:=false) (.inl ⟨_,n,rfl⟩);simpa using this
 .next id m d=>
  rw[d]at c;split at f
  .next p y=>
   obtain rfl:=O_ f;obtain⟨b,_,n⟩:=c _ y;have:=JB h j k g l (b:=false) (.inl ⟨_,n,rfl⟩);simpa using this
  simp at f
 simp at f
theorem aeo(h:SimG w0 S0 M σ a w S μ β)(k:oh o σ){i:BinOp}{t q:TypeId}{x:Operand}{l:Opd}(m:o.op=.binOp i t x (.const (.slice none 0 0)) q)(f:i=.eql\/i=.neq)(v:ap x=some l)
  {e:TypeId} (n:P.underlying t=some (.slice e)) {u:Upd} (g:ev σ o.dst (.eqS (i == .neq) l)=some u) :
  uB P o w0 S0 M σ a w u:=by
 have b:=ax h v;simp only[ev]at g;split at g
 .next y d=>
  obtain rfl:=O_ g;obtain⟨p,c,j,_⟩:=rL h d b;exact(Sf h k m f n j).2
 .next r C y d=>
  obtain rfl:=O_ g;obtain⟨p,c,j,_,z⟩:=rL h d b;obtain⟨A,B,s,rfl,_⟩:=z (by simp);have:=(Sf h k m f n j).1;simpa using this
 simp at g
theorem ahm(h:SimG w0 S0 M σ a w S μ β)(F:oh o σ){j:BinOp}{t H:TypeId}{x y:Operand}{C D:Opd}(I:o.op=.binOp j t x y H)(n:j=.eql\/j=.neq)(J:ap x=some C)(K:ap y=some D)
  {p:Array Field} (k:P.underlying t=some (.struct p)) (L:P.eqGuardType P.depth t=false) {E:List LK} (f:uZ P 10 t=some E) {u:Upd} (i:ev σ o.dst (.eqA (j == .neq) E C D)=some u) :
  uB P o w0 S0 M σ a w u:=by
 have e:=ax h J;have c:=ax h K;simp only[ev]at i;split at i
 .next N O Q R=>
  rw[Q]at e;rw[R]at c;split at i
  .next b U=>
   obtain rfl:=O_ i;obtain⟨l,q,s⟩:=e;obtain⟨m,v,z⟩:=c;cases g:P.stoodInHeld t with
   |true=>simp[uZ,k,g]at f
   |false=>
    simp only[uZ,k,g,Bool.false_eq_true,if_false]at f;split at f
    .next V A=>
     split at f
     .obtain rfl:=O_ f;have W:P.underlying t=some (.struct (P.fieldsOf t)):=by simp[Program.fieldsOf,k]
      have B:P.fieldsOf t=p:=by simp[Program.fieldsOf,k]
      have X:(Op.equalIn 10000 t (.agg l) (.agg m)).run P w=.ok b w:=by
       have e1:=run_equalIn_struct (P:=P) w 9999 t l m W g;rw[B]at e1;exact e1.trans (wY (d:=9) (DQ 9) p.toList 0 V A 9990 N O l m b s z (by simpa using U))
      exact wX h F I n q v (run_eqGuard_agg w j t x y l m L) X rfl rfl
     simp at f
    simp at f
  simp at i
 simp at i
theorem agJ(h:SimG w0 S0 M σ a w S μ β)(g:oh o σ){k:BinOp}{t A:TypeId}{x y:Operand}{q s:Opd}(i:o.op=.binOp k t x y A)(c:k=.eql\/k=.neq)(j:ap x=some q)(p:ap y=some s){v:VOp}(b:CO P (k == .neq) k t y q s=some v)
  {u:Upd} (d:ev σ o.dst v=some u) (z:u.side):uB P o w0 S0 M σ a w u:=by
 unfold CO at b;split at b
 .next f=>
  obtain rfl:=O_ b;simp only[ev]at d;split at d
  .next m n B C=>
   obtain rfl:=O_ d;exact aej h g i c f j p B C
  simp at d
 .obtain rfl:=O_ b;exact JL h g i j p d z
 .obtain rfl:=O_ b;exact JL h g i j p d z
 .next ms f=>
  split at b
  .next l=>
   obtain rfl:=O_ b;obtain rfl:=aeg l;exact aem h g i c j f d
  simp at b
 .next e f=>
  split at b
  .next l=>
   obtain rfl:=O_ b;obtain rfl:=aeh l;exact aen h g i c j f d
  simp at b
 .next e f=>
  split at b
  .next l=>
   obtain rfl:=O_ b;obtain rfl:=aei l;exact aeo h g i c j f d
  simp at b
 .next F f=>
  split at b
  .simp at b
  next D=>
  simp only[Option.map_eq_some_iff]at b;obtain⟨H,E,rfl⟩:=b;exact ahm h g i c j p f (by simpa using D) E d
 simp at b
theorem ahn(h:SimG w0 S0 M σ a w S μ β)(c:oh o σ){j:BinOp}{t l:TypeId}{x y:Operand}(d:o.op=.binOp j t x y l){k:VOp}(b:DJ P j t x y=some k)
  {u:Upd} (e:ev σ o.dst k=some u) (f:u.side):uB P o w0 S0 M σ a w u:=by
 unfold DJ at b;split at b
 .next m n g i=>
  split at b
  .exact agJ h c d (.inl rfl) g i b e f
  .exact agJ h c d (.inr rfl) g i b e f
  obtain rfl:=O_ b;exact JL h c d g i e f
 simp at b
theorem aep(h:SimG w0 S0 M σ a w S μ β)(q:oh o σ){c:Call}(s:o.op=.call c){E:VOp}(b:og P c=some E)
  {u:Upd} (l:ev σ o.dst E=some u) (B:u.side):uB P o w0 S0 M σ a w u:=by
 unfold og at b;split at b
 .next f I=>
  split at b
  .split at b
   .simp at b
   simp only[Option.map_eq_some_iff]at b;obtain⟨y,n,rfl⟩:=b;simp[ev]at l
  simp at b
 .split at b
  .obtain rfl:=O_ b;simp[ev]at l
  simp at b
 .next k=>
  split at b
  .next t x g d=>
   split at b
   .next F m j=>
    obtain rfl:=O_ b;exact(WZ h q s k g d m j).1 rfl u l
   .next e F m j=>
    obtain rfl:=O_ b;exact(WZ h q s k g d m j).2 e rfl u l
   simp at b
  simp at b
 .next k=>
  split at b
  .next x y d=>
   split at b
   .next A C j n=>
    obtain rfl:=O_ b;exact(X0 h q s d j n).1 k u l
   simp at b
  simp at b
 .next k=>
  split at b
  .next x y d=>
   split at b
   .next A C j n=>
    obtain rfl:=O_ b;exact(X0 h q s d j n).2 k u l
   simp at b
  simp at b
 .next k=>
  split at b
  .next t J x y g p d=>
   split at b
   .next e K A C m v j n=>
    split at b
    .next i D=>
     split at b
     .next z=>
      obtain rfl:=O_ b;exact V2 h q s k g p d m v D z j n l B
     simp at b
    simp at b
   .next e A C m v j n=>
    split at b
    .next i D=>
     split at b
     .next z=>
      obtain rfl:=O_ b;exact Sl h q s k g p d m v D z j n l B
     simp at b
    simp at b
   simp at b
  simp at b
 .next k=>
  split at b
  .next t x g d=>
   split at b
   .next e A m j=>
    simp only[Option.map_eq_some_iff]at b;obtain⟨zero,H,rfl⟩:=b;exact Yo h q s k g d m j H l B
   simp at b
  simp at b
 simp at b
theorem Yr(h:SimG w0 S0 M σ a w S μ β)(v:oh o σ){vo:VOp}(j:aZ P o.op=some vo){u:Upd}(q:ev σ o.dst vo=some u)(H:u.side) :
  uB P o w0 S0 M σ a w u:=by
 cases m:o.op with
 |move x=>
  simp only[m,aZ,Option.map_eq_some_iff]at j;obtain⟨y,B,rfl⟩:=j;simp only[ev,E_]at q;subst q;exact Sd h v (.inl m) B
 |assign x=>
  simp only[m,aZ,Option.map_eq_some_iff]at j;obtain⟨y,B,rfl⟩:=j;simp only[ev,E_]at q;subst q;exact Sd h v (.inr m) B
 |pick c x y=>
  simp only[m,aZ]at j;split at j
  .next c' F y' O Q h3=>
   obtain rfl:=O_ j;simp only[ev]at q;split at q
   .next t E=>
    obtain rfl:=O_ q;exact aaE h v m O Q h3 E
   simp at q
  simp at j
 |alloc t=>
  simp only[m,aZ]at j;split at j
  .next hb=>
   obtain rfl:=O_ j;exact V0 h v m hb q
  simp only[Option.map_eq_some_iff]at j;obtain⟨z,J,rfl⟩:=j;exact Ym h v m J q
 |box t x=>
  simp only[m,aZ,Option.map_eq_some_iff]at j;obtain⟨y,B,rfl⟩:=j;exact ael h v m B q
 |build t parts=>
  simp only[m,aZ]at j;split at j
  .next fs z A J=>
   split at j
   .next R=>
    simp only[Option.map_eq_some_iff]at j;obtain⟨p,U,rfl⟩:=j;exact Ov h v m J (.inl ⟨fs,A,rfl,R⟩) U q
   simp at j
  .next n e z A J=>
   split at j
   .next s K=>
    simp only[Option.map_eq_some_iff]at j;obtain⟨p,U,rfl⟩:=j;exact Ov h v m J (.inr ⟨n,e,s,A,K,rfl⟩) U q
   simp at j
  simp at j
 |buildSlice t n parts=>
  simp only[m,aZ]at j;split at j
  .next e A=>
   split at j
   .next s z K J=>
    split at j
    .next L=>
     simp only[Option.map_eq_some_iff]at j;obtain⟨p,U,rfl⟩:=j;exact JG h v m A K J L U q
    simp at j
   simp at j
  simp at j
 |load t x=>
  simp only[m,aZ]at j;split at j
  .next g F V C=>
   obtain rfl:=O_ j;exact aaM h v m C V q H
  simp at j
 |store t x y=>
  simp only[m,aZ]at j;split at j
  .next n F y' Z C B=>
   obtain rfl:=O_ j;exact Yn h v m Z C B q H
  simp at j
 |nilCheck x=>
  simp only[m,aZ,Option.map_eq_some_iff]at j;obtain⟨y,B,rfl⟩:=j;exact Q3 h v m B q
 |binOp op t x y t'=>
  simp only[m,aZ]at j;exact ahn h v m j q H
 |unOp op t x=>
  simp only[m,aZ,Option.map_eq_some_iff]at j;obtain⟨y,B,rfl⟩:=j;simp only[ev]at q;split at q
  .next k n E=>
   obtain rfl:=O_ q;exact(aaI h v B).1 m E
  .next b E=>
   obtain rfl:=O_ q;exact(aaI h v B).2 m E
  simp at q
 |convert s t x=>
  simp only[m,aZ]at j;split at j
  .next k1 k2 y O Q B=>
   obtain rfl:=O_ j;simp only[ev]at q;split at q
   .next k n E=>
    obtain rfl:=O_ q;exact(aaJ h v m B).1 O Q E
   simp at q
  .next e y O Q B=>
   split at j
   .next he=>
    obtain rfl:=O_ j;exact Yq h v m O Q he B q
   simp at j
  simp at j
 |makeInterface t x=>
  simp only[m,aZ]at j;split at j
  .simp at j
  .next d a' A=>
   simp only[Option.map_eq_some_iff]at j;obtain⟨y,B,rfl⟩:=j;exact Si h v m A (fun ms e=>a' ms e) B q
  simp at j
 |makeFunc fn first d'=>
  simp only[m,aZ,Q1]at j;split at j
  .next f=>
   split at j
   .next hf=>
    simp only[Option.map_eq_some_iff]at j;obtain⟨y,B,rfl⟩:=j;obtain rfl:first = #[]:=Array.eq_empty_of_size_eq_zero hf
    exact UX h v m B q
   simp at j
  simp at j
 |makeSlice t l c=>
  simp only[m,aZ]at j;split at j
  .next e A=>
   split at j
   .next i z F y' I J C B=>
    split at j
    .next L=>
     obtain rfl:=O_ j;exact Sj h v m A I J L C B q H
    simp at j
   simp at j
  simp at j
 |slice t x lo I Y=>
  simp only[m,aZ]at j;split at j
  .next F l' h' A C W X hm=>
   obtain rfl:=O_ j
   have N:Y=none:=by
    cases Y with
    |none=>rfl
    |some y=>simp[bQ]at hm
   subst N;exact aaO h v m A C W X q H
  .next e F l' h' m' A C W X hm=>
   simp only[Option.map_eq_some_iff]at j;obtain⟨s,D,rfl⟩:=j;exact aaP h v m A D C W X hm q H
  .next n e F l' h' A C W X hm=>
   simp only[Option.map_eq_some_iff]at j;obtain⟨s,D,rfl⟩:=j
   have N:Y=none:=by
    cases Y with
    |none=>rfl
    |some y=>simp[bQ]at hm
   subst N;exact aaR h v m A D C W X q H
  simp at j
 |fieldAddr t x f=>
  simp only[m,aZ]at j;split at j
  .next fs A=>
   split at j
   .next g F V C=>
    split at j
    .next n Z=>
     split at j
     .simp at j
     next b'=>
     obtain rfl:=O_ j;exact N0 h v m A V Z b' C q
    simp at j
   simp at j
  simp at j
 |field t x f=>simp[m,aZ]at j
 |indexAddr t x i=>
  simp only[m,aZ]at j;split at j
  .next e A=>
   split at j
   .next s F i' D C I=>
    obtain rfl:=O_ j;exact N4 h v m A D C I q H
   simp at j
  .next n e A=>
   split at j
   .next s F i' D C I=>
    obtain rfl:=O_ j;exact Q4 h v m A D C I q H
   simp at j
  simp at j
 |index t x i=>
  simp only[m,aZ]at j;split at j
  .next A=>
   split at j
   .next F i' C I=>
    obtain rfl:=O_ j;exact UY h v m A C I q
   simp at j
  .next n e A=>
   split at j
   .next g s F i' V D C I=>
    obtain rfl:=O_ j;exact UZ h v m A V D C I q
   simp at j
  simp at j
 |extract x i=>
  simp only[m,aZ,Option.map_eq_some_iff]at j;obtain⟨y,B,rfl⟩:=j;exact Sg h v m B q
 |call c=>
  simp only[m,aZ]at j;exact aep h v m j q H
 |range t x=>
  simp only[m,aZ]at j;split at j
  .next F A C=>
   obtain rfl:=O_ j;exact Yp h v m A C q
  simp at j
 |next x b=>
  cases b with
  |false=>simp[m,aZ]at j
  |true=>
   simp only[m,aZ,Option.map_eq_some_iff]at j;obtain⟨y,B,rfl⟩:=j;exact aaS h v m B q
 |_=>simp[m,aZ]at j
theorem aaT(h:SimG w0 S0 M σ a w S μ β)(e:oh o σ){c:VOp}(b:pz P o.op=some c){u:Upd}(d:ev σ o.dst c=some u)(f:u.side) :
  uB P o w0 S0 M σ a w u:=by
 rcases wW b with b|rfl
 .exact Yr h e b d f
 simp[ev]at d
end
end Go.Vs
namespace Go.Vs
def wg(P:Program)(k:FuncId):Prop:=∃b,P.funcs[k]?=some b/\b.name≠ "runtime.NumGoroutine"
def kG(P:Program)(k:FuncId)(args:Array Value)(w:World)(R:Ending->World->Prop):Prop:=
 ((∃b,P.funcs[k]?=some b/\b.body.isSome=true)/\Calls P k args w R)\/∃v c,(callFunc k args).run P w=.ok (.value v) c/\R (.returned v) c
theorem kG.mono{P:Program}{k:FuncId}{args:Array Value}{w:World}{R u:Ending->World->Prop}(h:kG P k args w R)(x:∀e w',R e w'->u e w'):kG P k args w u:=by
 rcases h with⟨d,f⟩|⟨v,w',d,f⟩
 .exact .inl ⟨d,f.mono x⟩
 exact .inr ⟨v,w',d,x _ _ f⟩
theorem kG.calls{P:Program}{k:FuncId}{b:Func}{args:Array Value}{w:World}{R:Ending->World->Prop}(h:kG P k args w R)(g:P.funcs[k]?=some b)(i:b.name≠ "runtime.NumGoroutine")(j:b.body.isSome=true):Calls P k args w R:=by
 rcases h with⟨d,e⟩|⟨v,l,d,e⟩
 .exact e
 exfalso;cases f:b.body with
 |none=>simp[f]at j
 |some c=>simp[callFunc,g,i,f,Sem.run]at d
inductive Res where
 |imm (v:IV)
 |own (s:Nat) (rows:List (List IV))
def V4(w:World)(S:bb)(g:World)(e:bb):Res->Value->Prop
 |.imm x,v=>sI g e x v
 |.own s c,v=>∃d,bI g e (fun _=>Go.undef) [] d v (.arr 0 s c)/\∀b,d=some b->w.heap.size<=b/\∀f,¬e b f
def CV(h:List (Nat×List IV))(P:Program)(k:FuncId)(args:List IV)(r:Res):Prop:=
 wg P k/\∀(w:World) (S:bb) (g:List Value),(∀b o,S b o->b<w.heap.size)->br w S args g->(∀p,p∈h->jt w S p)->
  kG P k g.toArray w fun e f=>∃v c,e=.returned v/\V4 w S f c r v/\(∀b o,S b o->c b o)/\(∀b o,c b o->S b o\/w.heap.size<=b)/\(∀b o,c b o->b<f.heap.size)/\Kept (fun _=>False) w f
abbrev Fn(gl:List (Nat×List IV))(P:Program)(k:FuncId)(args:List IV)(res:IV):Prop:=CV gl P k args (.imm res)
def sQ:List (List IV)->Bool
 |[]=>true
 |r::b=>IV.flat.flats r&&sQ b
def jz(c:Option Nat)(fz:List Nat):Res->Option Upd
 |.imm v=>some {v:=.val v,fz:=if v.flat then []else fz }
 |.own s b=>match c with
  |some d=>some {v:=.own d 0,new:=some (.arr 0 s b),fz:=if sQ b then []else fz }
  |none=>none
def fa(σ:St)(f:SV)(c:List Opd):Option (FuncId×List IV×List Nat):=
 match DK σ.objs f,DL σ.objs (c.map (val σ))with
 |some (.fn k d,e),some (b,g)=>some (k,b++d,e++g)
 |some (.bnd k first,e),some (b,g)=>some (k,first++b,e++g)
 |_,_=>none
def DU(P:Program)(σ:St)(d:Option Nat)(u:Upd):VOp->Prop
 |.call f b=>∃k c e r,fa σ (.val (.fn f [])) b=some (k,c,e)/\CV σ.gl P k c r/\jz d e r=some u
 |.callV f b=>∃k c e r,fa σ (val σ f) b=some (k,c,e)/\CV σ.gl P k c r/\jz d e r=some u
 |op=>ev σ d op=some u/\u.side
def ey(P:Program)(σ:St)(c:Option Nat)(k:Upd->Prop):VOp->Prop
 |.call f b=>match fa σ (.val (.fn f [])) b with
  |some (g,d,e)=>∃r,CV σ.gl P g d r/\match jz c e r with
   |some u=>k u
   |none=>False
  |none=>False
 |.callV f b=>match fa σ (val σ f) b with
  |some (g,d,e)=>∃r,CV σ.gl P g d r/\match jz c e r with
   |some u=>k u
   |none=>False
  |none=>False
 |op=>match ev σ c op with
  |some u=>u.side/\k u
  |none=>False
theorem J1{P:Program}{σ:St}{d:Option Nat}{k:Upd->Prop}{i:VOp}(h:ey P σ d k i):∃u,DU P σ d u i/\k u:=by
 cases i
 case call f args=>
  simp only[ey]at h;split at h
  .next g b j l=>
   obtain⟨r,m,c⟩:=h;split at c
   .next u e=>exact⟨u,⟨g,b,j,r,l,m,e⟩,c⟩
   exact c.elim
  exact h.elim
 case callV f args=>
  simp only[ey]at h;split at h
  .next g b j l=>
   obtain⟨r,m,c⟩:=h;split at c
   .next u e=>exact⟨u,⟨g,b,j,r,l,m,e⟩,c⟩
   exact c.elim
  exact h.elim
 all_goals
  simp only[ey]at h;split at h
  .next u e=>exact⟨u,⟨e,h.1⟩,h.2⟩
  exact h.elim
mutual
theorem IV.flat_rep{w f:World}{S g:bb} : ∀(x:IV) (v:Value),x.flat=true->sI w S x v->sI f g x v
 |.int _ _,_,_,h=>h
 |.bool _,_,_,h=>h
 |.str _,_,_,h=>h
 |.nilp,_,_,h=>h
 |.ref _,_,b,_=>by simp[IV.flat]at b
 |.slice _,_,b,_=>by simp[IV.flat]at b
 |.nilf,_,_,h=>h
 |.yld _,_,_,h=>h
 |.handle _ _ _,_,_,h=>h
 |.nilS,_,_,h=>h
 |.fn _ _,_,b,_=>by simp[IV.flat]at b
 |.bnd _ _,_,b,_=>by simp[IV.flat]at b
 |.nili,_,_,h=>h
 |.iface _ x,_,b,⟨u,c,d⟩=>⟨u,c,IV.flat_rep x u (by simpa[IV.flat]using b) d⟩
 |.agg e,_,b,⟨k,c,d⟩=>⟨k,c,x4 e _ (by simpa[IV.flat]using b) d⟩
 |.tuple i,_,b,⟨k,c,d⟩=>⟨k,c,JM i _ (by simpa[IV.flat]using b) d⟩
theorem x4{w f:World}{S g:bb} : ∀(x:List IV) (v:List Value),IV.flat.flats x=true->ag w S x v->ag f g x v
 |[],_,_,h=>h
 |x::i,_,b,⟨u,j,c,m,d,l⟩=>by
  simp only[IV.flat.flats,Bool.and_eq_true]at b;exact⟨u,j,c,m,IV.flat_rep x u b.1 d,x4 i j b.2 l⟩
theorem JM{w f:World}{S g:bb} : ∀(x:List IV) (v:List Value),IV.flat.flats x=true->br w S x v->br f g x v
 |[],_,_,h=>h
 |x::i,_,b,⟨u,j,c,d,l⟩=>by
  simp only[IV.flat.flats,Bool.and_eq_true]at b;exact⟨u,j,c,IV.flat_rep x u b.1 d,JM i j b.2 l⟩
end
theorem DV:∀ {b c:List IV},IV.flat.flats b=true->IV.flat.flats c=true->IV.flat.flats (b++c)=true
 |[],_,_,h=>h
 |x::b,c,h,k=>by
  simp only[IV.flat.flats,Bool.and_eq_true]at h;simp only[List.cons_append,IV.flat.flats,Bool.and_eq_true];exact⟨h.1,DV h.2 k⟩
theorem pF:∀ {b:List (List IV)},sQ b=true->IV.flat.flats b.flatten=true
 |[],_=>rfl
 |r::c,h=>by
  simp only[sQ,Bool.and_eq_true]at h;simp only[List.flatten_cons];exact DV h.1 (pF h.2)
section
variable {P:Program} {w0 w:World} {S0 S:bb} {M:Ctx} {σ:St} {a:Act} {μ:Nat->Value} {β:Nat->Option Nat} {o:Oper}
theorem br.append{w:World}{S:bb} : ∀ {d f:List IV} {g j:List Value},br w S d g->br w S f j->br w S (d++f) (g++j)
 |[],_,_,_,h,k=>by have h:_=_:=h;subst h;exact k
 |_::_,_,_,_,⟨u,c,l,m,p⟩,k=>by subst l;exact⟨u,c++_,rfl,m,br.append p k⟩
theorem bI.arr_any{w:World}{S:bb}{μ e:Nat->Value}{objs objs':List (Nat×Ob)}{c:Option Nat}{f:Value}{d s:Nat}{b:List (List IV)}(h:bI w S μ objs c f (.arr d s b)):bI w S e objs' c f (.arr d s b):=h
theorem JN(h:SimG w0 S0 M σ a w S μ β)(C:oh o σ){m:List Nat}{r:Res}{u:Upd}(D:jz o.dst m r=some u){q:World}{y:bb}{v:Value}(K:V4 w (dH S β σ.objs m) q y r v)
  (U:∀b c,dH S β σ.objs m b c->y b c) (Q:∀b c,y b c->dH S β σ.objs m b c\/w.heap.size<=b) (V:∀b c,y b c->b<q.heap.size) (n:Kept (fun _=>False) w q) :
  gc w0 S0 M (σ.apply o.dst u) (a.put o.dst v) q:=by
 have f:∀id o b,ac σ.objs id=some o->β id=some b->b<w.heap.size:=fun id o b j k=>bI.live k (h.objs id o j)
 have E:SimG w0 S0 M {σ with ro:=m++σ.ro } a q y μ β:=(h.freeze m).world ⟨fun b c l=>bT (n.block b ((h.freeze m).stab b c l) (fun x=>x)) c,n.shape⟩ U
  (fun id o b j k=>n.block b (f id o b j k) (fun x=>x)) (fun id o b c j k l=>(Q b c l).resolve_right (by have:=f id o b j k;omega)) V
  (fun b c l=>(Q b c l).elim .inl (fun k=>.inr (.inl (Nat.le_trans h.kept.size k)))) (h.kept.trans n.none)
 have F:SimG w0 S0 M σ a q S μ β:=h.world (⟨fun b c l=>bT (n.block b (h.stab b c l) (fun x=>x)) c,n.shape⟩) (fun _ _ x=>x)
  (fun id o b j k=>n.block b (f id o b j k) (fun x=>x)) (fun _ _ _ _ _ _ x=>x) (fun b c l=>Nat.lt_of_lt_of_le (h.stab b c l) n.size) (fun _ _ x=>.inl x) (h.kept.trans n.none)
 cases r with
 |imm x=>
  simp only[jz,E_]at D;subst D;cases L:x.flat with
  |true=>
   simp only[if_true];exact⟨S,μ,β,F.putD C (IV.flat_rep x v L K)⟩
  |false=>
   simp only[Bool.false_eq_true,if_false];exact⟨y,μ,β,E.putD (σ:={σ with ro:=m++σ.ro }) C K⟩
 |own s g=>
  simp only[jz]at D;split at D
  .next d i=>
   obtain rfl:=O_ D;obtain⟨A,p,z⟩:=K;rw[i]
   have R:∀(σ':St),au q y (fun id=>if id=d then v else μ id) (cp d (put σ'.objs d (.arr 0 s g))) (.own d 0) v:=by
    intro σ' cv s' N j;rw[cn,dP]at j;simp only[Option.map_some,Ob.erase,E_,Ob.arr.injEq]at j;obtain⟨rfl,_,_⟩:=j;exact⟨Nat.le_refl _,fun _=>by simp⟩
   cases L:sQ g with
   |true=>
    simp only[if_true]
    have H:bI q S μ σ.objs A v (.arr 0 s g):=by
     rcases p with p|⟨b,O,W,e,X,I,J,Y,Z,k5,k6,k7,k8⟩
     .exact .inl p
     exact .inr ⟨b,O,W,e,X,I,J,Y,Z,k5,k6,k7,x4 _ _ (pF L) k8⟩
    have:=F.create' d (C d i) (.arr 0 s g) A v (Kept.refl _ _) (fun b k=>by
     obtain⟨I,J⟩:=z b k;refine⟨Nat.le_trans h.kept.size I,fun c l=>?_,fun id o j B=>?_⟩
     .have:=h.stab b c l;omega
     have:=f id o b j B;omega) H
    exact⟨S,_,_,this.put (C d i) (R σ)⟩
   |false=>
    simp only[Bool.false_eq_true,if_false]
    have:=E.create' d (C d i) (.arr 0 s g) A v (Kept.refl _ _) (fun b k=>by
     obtain⟨I,J⟩:=z b k;refine⟨Nat.le_trans h.kept.size I,J,fun id o j B=>?_⟩
     have:=f id o b j B;omega) p
    exact⟨y,_,_,this.put (C d i) (R {σ with ro:=m++σ.ro })⟩
  simp at D
theorem yR{P:Program}{o:Oper}{a:Act}{w:World}{k:FuncId}{l:Func}{b:Array Value}{R:Ending->World->Prop}(g:P.funcs[k]?=some l)(d:l.name≠ "runtime.NumGoroutine")
  (f:(execOp a.eval o).run P w=(callFunc k b).run P w) (h:kG P k b w R) {next:Act->World->Prop} {Q:Exit->Act->World->Prop} (c:∀e m,R e m->∃v,e=.returned v/\next (a.put o.dst v) m):o.wp P a w next Q:=by
 unfold Oper.wp;rw[f];rcases h with⟨⟨q,i,p⟩,s⟩|⟨v,m,u,x⟩
 .have p:l.body.isSome=true:=by rw[g]at i;obtain rfl:=O_ i;exact p
  have j:(callFunc k b).run P w=.ok (.enter k b) w:=by
   simp only[callFunc,Sem.run_bind,run_program,Result.andThen_ok,g];rw[if_neg (by simpa using d),if_neg (by cases y:l.body<;>simp_all)];simp
  rw[j,Oper.upon_enter];refine s.mono fun e m z=>?_
  obtain⟨v,rfl,n⟩:=c _ _ z;exact n
 rw[u,Oper.upon_value];obtain⟨B,A,n⟩:=c _ _ x;cases A;exact n
theorem X1(h:SimG w0 S0 M σ a w S μ β)(Y:oh o σ){c:Call}{f:Operand}(Z:o.op=.call c)(H:c.callee=.value f){fv:SV}(I:au w S μ σ.objs fv (a.eval f)){y:List Opd}(p:dS c.args.toList=some y)
  {k:FuncId} {J:List IV} {fz:List Nat} (j:fa σ fv y=some (k,J,fz)) {r:Res} (hF:CV σ.gl P k J r) {u:Upd} (hu:jz o.dst fz r=some u) {next:Act->World->Prop} {Q:Exit->Act->World->Prop}
  (hn:∀v F,gc w0 S0 M (σ.apply o.dst u) (a.put o.dst v) F->next (a.put o.dst v) F):o.wp P a w next Q:=by
 unfold fa at j;split at j
 .next L a' q K s N O=>
  simp only[E_,Prod.mk.injEq]at j;obtain⟨rfl,rfl,rfl⟩:=j;have z:=nl (fz':=q++s) h N (fun i A=>List.mem_append_left _ A) I;have B:=yK (fz':=q++s) h O (fun i A=>List.mem_append_right _ A) (sM h p);obtain⟨l,C,D⟩:=z;obtain⟨⟨fn,E,m⟩,b⟩:=hF
  have g:(execOp a.eval o).run P w=(callFunc L (c.args.map a.eval++l)).run P w:=by
   simp only[execOp,Z,resolve,H,C,Deferred.ofValue,Sem.run_bind,Sem.run_pure,Result.andThen_ok,invoke,Array.empty_append]
  have n:c.args.map a.eval++l=((c.args.toList.map a.eval)++l.toList).toArray:=by
   apply Array.toList_inj.1;simp
  rw[n]at g;refine yR E m g (b w (dH S β σ.objs (q++s)) _ (h.freeze (q++s)).stab (br.append B D) (h.freeze (q++s)).glob) ?_;rintro e F ⟨v,S',rfl,R,U,V,W,X⟩;exact⟨v,rfl,hn v F (JN h Y hu R U V W X)⟩
 .next L first q K s N O=>
  simp only[E_,Prod.mk.injEq]at j;obtain⟨rfl,rfl,rfl⟩:=j;have z:=nl (fz':=q++s) h N (fun i A=>List.mem_append_left _ A) I;have B:=yK (fz':=q++s) h O (fun i A=>List.mem_append_right _ A) (sM h p);obtain⟨d,C,x⟩:=z;obtain⟨⟨fn,E,m⟩,b⟩:=hF
  have g:(execOp a.eval o).run P w=(callFunc L (d++c.args.map a.eval)).run P w:=by
   simp only[execOp,Z,resolve,H,C,Deferred.ofValue,Sem.run_bind,Sem.run_pure,Result.andThen_ok,invoke,Array.append_empty]
  have n:d++c.args.map a.eval=(d.toList++(c.args.toList.map a.eval)).toArray:=by
   apply Array.toList_inj.1;simp
  rw[n]at g;refine yR E m g (b w (dH S β σ.objs (q++s)) _ (h.freeze (q++s)).stab (br.append x B) (h.freeze (q++s)).glob) ?_;rintro e F ⟨v,S',rfl,R,U,V,W,X⟩;exact⟨v,rfl,hn v F (JN h Y hu R U V W X)⟩
 simp at j
theorem kH{c:Call}{h:VOp}(d:og P c=some h) :
  (∀f b,h=.call f b->c.callee=.value (.func f)/\dS c.args.toList=some b)/\
  (∀g b,h=.callV g b->∃f,c.callee=.value f/\ap f=some g/\dS c.args.toList=some b):=by
 unfold og at d;split at d
 .next f i=>
  split at d
  .split at d
   .simp at d
   simp only[Option.map_eq_some_iff]at d;obtain⟨y,j,rfl⟩:=d;refine⟨fun g b e=>?_,fun g b e=>by simp at e⟩;simp only[VOp.call.injEq]at e;obtain⟨rfl,rfl⟩:=e;exact⟨i,j⟩
  simp at d
 .next f _ i=>
  split at d
  .next u m k l=>
   obtain rfl:=O_ d;refine⟨fun g b e=>by simp at e,fun g b e=>?_⟩;simp only[VOp.callV.injEq]at e;obtain⟨rfl,rfl⟩:=e;exact⟨f,i,k,l⟩
  simp at d
 all_goals
  (repeat' split at d)<;>first
    |(simp at d;done)
    |(obtain rfl:=O_ d;exact⟨fun _ _ e=>by simp at e,fun _ _ e=>by simp at e⟩)
    |(simp only[Option.map_eq_some_iff]at d;obtain⟨_,_,rfl⟩:=d;exact⟨fun _ _ e=>by simp at e,fun _ _ e=>by simp at e⟩)
theorem Q7{i:Op}{h:VOp}(g:aZ P i=some h)(j:(∃f d,h=.call f d)\/(∃f d,h=.callV f d)):∃c,i=.call c/\og P c=some h:=by
 cases i with
 |call c=>exact⟨c,rfl,g⟩
 |next x b=>
  exfalso;cases b with
  |false=>simp[aZ]at g
  |true=>
   simp only[aZ,Option.map_eq_some_iff]at g;obtain⟨y,_,rfl⟩:=g;rcases j with⟨f,d,e⟩|⟨f,d,e⟩<;>simp at e
 |_=>
  exfalso;unfold aZ at g;rcases j with⟨f,d,rfl⟩|⟨f,d,rfl⟩
  all_goals
   first
    |(simp at g;done)
    |((repeat' split at g)<;>(simp at g;done))
    |(simp only[Q1,DJ,CO]at g;(repeat' split at g)<;>(simp at g;done))
theorem qt{h:Op}{d:VOp}(g:pz P h=some d)(i:(∃f b,d=.call f b)\/(∃f b,d=.callV f b)):∃c,h=.call c/\og P c=some d:=by
 rcases wW g with g|rfl
 .exact Q7 g i
 rcases i with⟨f,b,e⟩|⟨f,b,e⟩<;>simp at e
theorem Sm(h:gc w0 S0 M σ a w)(s:oh o σ){m:VOp}(x:pz P o.op=some m){u:Upd}(p:DU P σ o.dst u m){next:Act->World->Prop}{Q:Exit->Act->World->Prop}
  (q:∀v g,gc w0 S0 M (σ.apply o.dst u) (a.put o.dst v) g->next (a.put o.dst v) g):o.wp P a w next Q:=by
 obtain⟨S,μ,β,h⟩:=h
 have plain:ev σ o.dst m=some u->u.side->o.wp P a w next Q:=by
  intro i j;obtain⟨n,v,g,l,C,B⟩:=aaT h s x i j;unfold Oper.wp;rw[l];rcases C with rfl|⟨rfl,rfl⟩
  .rw[Oper.upon_value];exact q v g B
  rw[Oper.upon_skip];exact q _ g B
 cases m
 case call f args=>
  obtain⟨k,y,D,r,i,j,z⟩:=p;obtain⟨c,A,d⟩:=qt x (.inl ⟨_,_,rfl⟩);obtain⟨e,b⟩:=(kH d).1 _ _ rfl;exact X1 h s A e (fv:=.val (.fn f [])) ⟨#[],rfl,rfl⟩ b i j z q
 case callV f args=>
  obtain⟨k,y,D,r,i,j,z⟩:=p;obtain⟨c,A,d⟩:=qt x (.inr ⟨_,_,rfl⟩);obtain⟨F,e,E,b⟩:=(kH d).2 _ _ rfl;exact X1 h s A e (ax h E) b i j z q
 all_goals exact plain p.1 p.2
end
end Go.Vs
namespace Go.Vs
def VOp.opds:VOp->List Opd
 |.move x=>[x]
 |.pick c a b=>[c,a,b]
 |.alloc _=>[]
 |.allocB _=>[]
 |.box x=>[x]
 |.build _ parts=>parts.map (·.2.2)
 |.buildSlice _ _ _ parts=>parts.map (·.2.2)
 |.load _ x=>[x]
 |.store _ a x=>[a,x]
 |.nilCheck x=>[x]
 |.bin _ x y=>[x,y]
 |.eqB _ x y=>[x,y]
 |.eqN _ x=>[x]
 |.eqP _ x=>[x]
 |.eqS _ x=>[x]
 |.eqA _ _ x y=>[x,y]
 |.un _ x=>[x]
 |.convI _ x=>[x]
 |.mkIface _ x=>[x]
 |.mkFunc _ e=>e
 |.mkSlice _ _ _ l c=>[l,c]
 |.subS x g h=>x::(g.toList++h.toList)
 |.subV _ x g h j=>x::(g.toList++h.toList++j.toList)
 |.subA _ _ x g h=>x::(g.toList++h.toList)
 |.fieldAddr _ x=>[x]
 |.indexAddr _ x i=>[x,i]
 |.indexArr _ _ x i=>[x,i]
 |.indexS x i=>[x,i]
 |.indexA _ _ _ x i=>[x,i]
 |.extract x _=>[x]
 |.lenS x=>[x]
 |.lenV x=>[x]
 |.maxI x y=>[x,y]
 |.minI x y=>[x,y]
 |.append _ _ _ x y=>[x,y]
 |.call _ d=>d
 |.callV f d=>f::d
 |.callM _ d=>d
 |.callMV f d=>f::d
 |.clear _ x=>[x]
 |.rangeS x=>[x]
 |.nextS x=>[x]
 |.convB x=>[x]
 |.appendS _ _ x y=>[x,y]
 |.bad=>[]
def SV.refs:SV->List Nat
 |.own id _=>[id]
 |.loc id _=>[id]
 |.eloc id _ _ _=>[id]
 |.view id _ _ _=>[id]
 |.selfN id t b=>[id]
 |.ownT id _ _=>[id]
 |.itr id=>[id]
 |_=>[]
def CW(σ:St):VOp->List Nat
 |.call f b=>match fa σ (.val (.fn f [])) b with
  |some (_,_,c)=>c
  |none=>[]
 |.callV f b=>match fa σ (val σ f) b with
  |some (_,_,c)=>c
  |none=>[]
 |_=>[]
def Hk:List SV->List Nat
 |[]=>[]
 |v::r=>v.refs++Hk r
def fF(σ:St)(b:VOp)(u:Upd):List Nat:=
 bif b.acts then Hk (b.opds.map (val σ))++u.fz++CW σ b else []
theorem Ox{v:SV}{i:Nat} : ∀ {l:List SV},v∈l->i∈v.refs->i∈Hk l
 |[],h,_=>by simp at h
 |x::r,h,b=>by
  simp only[Hk,List.mem_append];rcases List.mem_cons.1 h with rfl|h
  .exact .inl b
  exact .inr (Ox h b)
section
variable {objs objs':List (Nat×Ob)}
theorem V5{x:SV}(h:∀i,i∈x.refs->ac objs' i=ac objs i):kf objs' x=kf objs x:=by
 cases x<;>simp only[kf,SV.refs]at *<;>(try rfl)
 all_goals rw[h _ (by simp)]
theorem yS{x:SV}(h:∀i,i∈x.refs->ac objs' i=ac objs i):cellsOf objs' x=cellsOf objs x:=by
 unfold cellsOf;split
 .rfl
 .rfl
 rw[V5 h]
theorem Oy{x:SV}{iv:IV}{d:List Nat}(b:kD objs x=some (iv,d))(h:∀i,i∈d->ac objs' i=ac objs i):kD objs' x=some (iv,d):=by
 cases x<;>simp only[kD]at *<;>(try exact b)
 next id e=>
  split at b
  .next j s c f=>
   split at b
   .next g=>
    simp only[E_,Prod.mk.injEq]at b;obtain⟨rfl,rfl⟩:=b;rw[h id (by simp),f];simp only[g,if_true]
   simp at b
  simp at b
 next id e k l=>
  split at b
  .next j s c f=>
   split at b
   .next g=>
    simp only[E_,Prod.mk.injEq]at b;obtain⟨rfl,rfl⟩:=b;rw[h id (by simp),f];simp only[g,if_true]
   simp at b
  simp at b
theorem JO:∀ {e:List SV} {iv:List IV} {c:List Nat},qS objs e=some (iv,c)->(∀i,i∈c->ac objs' i=ac objs i)->qS objs' e=some (iv,c)
 |[],_,_,b,_=>b
 |x::r,iv,c,b,h=>by
  simp only[qS]at b |-;split at b
  .next v f k l g j=>
   simp only[E_,Prod.mk.injEq]at b;obtain⟨rfl,rfl⟩:=b;rw[Oy g (fun i d=>h i (List.mem_append_left _ d)),JO j (fun i d=>h i (List.mem_append_right _ d))]
  simp at b
theorem e9{x:SV}{iv:IV}{c:List Nat}(b:Be objs x=some (iv,c))(h:∀i,i∈c->ac objs' i=ac objs i):Be objs' x=some (iv,c):=by
 unfold Be at b |-;split at b
 .next id e=>
  split at b
  .next d f=>
   split at b
   .next k l g=>
    simp only[E_,Prod.mk.injEq]at b;obtain⟨rfl,rfl⟩:=b;simp only[h id (by simp),f,JO g (fun i j=>h i (List.mem_cons_of_mem _ j))]
   simp at b
  simp at b
 exact Oy b h
theorem sR:∀ {e:List SV} {iv:List IV} {c:List Nat},nj objs e=some (iv,c)->(∀i,i∈c->ac objs' i=ac objs i)->nj objs' e=some (iv,c)
 |[],_,_,b,_=>b
 |x::r,iv,c,b,h=>by
  simp only[nj]at b |-;split at b
  .next v f k l g j=>
   simp only[E_,Prod.mk.injEq]at b;obtain⟨rfl,rfl⟩:=b;rw[e9 g (fun i d=>h i (List.mem_append_left _ d)),sR j (fun i d=>h i (List.mem_append_right _ d))]
  simp at b
theorem JP{x:SV}{iv:IV}{j:List Nat}(e:DK objs x=some (iv,j))(h:∀i,i∈j->ac objs' i=ac objs i):DK objs' x=some (iv,j):=by
 cases x with
 |ifc t x=>
  simp only[DK]at e |-;split at e
  .next v f g=>
   simp only[E_,Prod.mk.injEq]at e;obtain⟨rfl,rfl⟩:=e;rw[e9 g h]
  simp at e
 |agg k=>
  simp only[DK]at e |-;split at e
  .next m n g=>
   simp only[E_,Prod.mk.injEq]at e;obtain⟨rfl,rfl⟩:=e;rw[sR g h]
  simp at e
 |clo f l=>
  simp only[DK]at e |-;split at e
  .next m n g=>
   simp only[E_,Prod.mk.injEq]at e;obtain⟨rfl,rfl⟩:=e;rw[sR g h]
  simp at e
 |undef=>exact e9 (x:=.undef) e h
 |anyB=>exact e9 (x:=.anyB) e h
 |selfN a t p=>exact e9 (x:=.selfN a t p) e h
 |ownT a b c=>exact e9 (x:=.ownT a b c) e h
 |itr a=>exact e9 (x:=.itr a) e h
 |tup a=>exact e9 (x:=.tup a) e h
 |val v=>exact e9 (x:=.val v) e h
 |nils=>exact e9 (x:=.nils) e h
 |full r=>exact e9 (x:=.full r) e h
 |own a b=>exact e9 (x:=.own a b) e h
 |loc a b=>exact e9 (x:=.loc a b) e h
 |eloc a b c d=>exact e9 (x:=.eloc a b c d) e h
 |view a b c d=>exact e9 (x:=.view a b c d) e h
theorem Gb:∀ {e:List SV} {iv:List IV} {c:List Nat},DL objs e=some (iv,c)->(∀i,i∈c->ac objs' i=ac objs i)->DL objs' e=some (iv,c)
 |[],_,_,b,_=>b
 |x::r,iv,c,b,h=>by
  simp only[DL]at b |-;split at b
  .next v f k l g j=>
   simp only[E_,Prod.mk.injEq]at b;obtain⟨rfl,rfl⟩:=b;rw[JP g (fun i d=>h i (List.mem_append_left _ d)),Gb j (fun i d=>h i (List.mem_append_right _ d))]
  simp at b
theorem sS{x:SV}(h:∀i,i∈x.refs->ac objs' i=ac objs i):nk objs' x=nk objs x:=by
 cases x with
 |val v=>cases v<;>rfl
 |own id b=>simp only[nk,SV.refs]at *;rw[h id (by simp)]
 |view id b c d=>simp only[nk,SV.refs]at *;rw[h id (by simp)]
 |_=>rfl
end
section
variable {σ σ':St}
theorem CX:∀ {parts:List (Nat×Nat×Opd)} {b:List SV},(∀x∈parts.map (·.2.2),val σ' x=val σ x)->(∀i,i∈Hk ((parts.map (·.2.2)).map (val σ))->ac σ'.objs i=ac σ.objs i)->
  pA σ'.objs σ' b parts=pA σ.objs σ b parts
 |[],_,_,_=>rfl
 |(f,s,x)::r,b,d,e=>by
  simp only[pA];have g:val σ' x=val σ x:=d x (by simp);rw[g,yS (objs:=σ.objs) (objs':=σ'.objs) (fun i c=>e i (by simp only[List.map_cons,Hk,List.mem_append];exact .inl c))];split
  .next cs _=>
   split
   .exact CX (fun y h=>d y (by simp only[List.map_cons];exact List.mem_cons_of_mem _ h)) (fun i c=>e i (by simp only[List.map_cons,Hk,List.mem_append];exact .inr c))
   rfl
  rfl
theorem V6{g:Option Nat}{x:SV}(h:∀i,i∈x.refs->ac σ'.objs i=ac σ.objs i):v6 σ' g x=v6 σ g x:=by
 cases x with
 |val v=>cases v<;>rfl
 |loc id b=>simp only[v6,SV.refs]at *;rw[h _ (by simp)]
 |eloc id c i b=>simp only[v6,SV.refs]at *;rw[h _ (by simp)]
 |_=>rfl
theorem Sn{n:Nat}{a x:SV}{u:Upd}(b:uA σ n a x=some u)(l:∀i,i∈a.refs->ac σ'.objs i=ac σ.objs i)(p:∀i,i∈x.refs->ac σ'.objs i=ac σ.objs i)(q:∀i,i∈u.fz->ac σ'.objs i=ac σ.objs i)
  (d:∀id o,u.wr=some (id,o)->id∈σ'.ro->id∈σ.ro):uA σ' n a x=some u:=by
 unfold uA at b |-;rw[yS p];split at b
 .simp at b
 next cs v=>
 split at b
 .next id h=>
  split at b
  .next j k=>
   split at b
   .simp at b
   next e=>
   obtain rfl:=O_ b;simp only[l id (by simp[SV.refs]),k];rw[if_neg];intro c;exact e (by simpa using d id _ rfl (by simpa using c))
  simp at b
 .next id y i h=>
  split at b
  .next B s m C D k z=>
   split at b
   .simp at b
   next e=>
   split at b
   .next f=>
    split at b
    .next A g=>
     obtain rfl:=O_ b;simp only[l id (by simp[SV.refs]),k,sR z q];rw[if_neg]
     .simp only[f,if_true,g]
     simp only[Bool.or_eq_true,List.contains_iff_mem,not_or]at e |-;exact⟨fun c=>e.1 (d id _ rfl c),e.2⟩
    simp at b
   simp at b
  simp at b
 simp at b
theorem DW{f:SV}{b:List Opd}{k:FuncId}{d:List IV}{l:List Nat}(h:fa σ f b=some (k,d,l))(q:∀x∈b,val σ' x=val σ x)(j:∀i,i∈l->ac σ'.objs i=ac σ.objs i):fa σ' f b=some (k,d,l):=by
 unfold fa at h |-;have e:b.map (val σ')=b.map (val σ):=List.map_congr_left q;rw[e];split at h
 .next s p u g v m n=>
  simp only[E_,Prod.mk.injEq]at h;obtain⟨rfl,rfl,rfl⟩:=h;rw[JP m (fun i c=>j i (List.mem_append_left _ c)),Gb n (fun i c=>j i (List.mem_append_right _ c))]
 .next s first u g v m n=>
  simp only[E_,Prod.mk.injEq]at h;obtain⟨rfl,rfl,rfl⟩:=h;rw[JP m (fun i c=>j i (List.mem_append_left _ c)),Gb n (fun i c=>j i (List.mem_append_right _ c))]
 simp at h
theorem sA{n:Nat}{x:Option Opd}(h:∀y∈x.toList,val σ' y=val σ y):gG σ' n x=gG σ n x:=by
 cases x with
 |none=>rfl
 |some y=>simp only[gG];rw[h y (by simp)]
theorem aho{V:Option Nat}{I:VOp}{u:Upd}(h:ev σ V I=some u)(p:∀x∈I.opds,val σ' x=val σ x)(N:∀i,i∈fF σ I u->ac σ'.objs i=ac σ.objs i)
  (J:∀id o,u.wr=some (id,o)->id∈σ'.ro->id∈σ.ro):ev σ' V I=some u:=by
 have C:I.acts=true->∀x∈I.opds,∀i,i∈(val σ x).refs->ac σ'.objs i=ac σ.objs i:=by
  intro ha x q i B;refine N i ?_;simp only[fF,ha,cond_true,List.mem_append];exact .inl (.inl (Ox (List.mem_map_of_mem q) B))
 have O:I.acts=true->∀i,i∈u.fz->ac σ'.objs i=ac σ.objs i:=by
  intro ha i B;refine N i ?_;simp only[fF,ha,cond_true,List.mem_append];exact .inl (.inr B)
 cases I
 case build zero parts=>
  simp only[ev]at h |-;rw[CX (σ:=σ) p (fun i B=>N i (by simp only[fF,VOp.acts,cond_true,List.mem_append];exact .inl (.inl B)))];exact h
 case buildSlice s n zero parts=>
  simp only[ev]at h |-;rw[CX (σ:=σ) p (fun i B=>N i (by simp only[fF,VOp.acts,cond_true,List.mem_append];exact .inl (.inl B)))];split at h
  .next d Q hd hf=>
   split at h
   .next vs fz b'=>
    obtain rfl:=O_ h;simp only[hf,sR b' (O rfl)]
   simp at h
  simp at h
 case store n a x=>
  simp only[ev]at h |-;rw[p a (by simp[VOp.opds]),p x (by simp[VOp.opds])];exact Sn h (C rfl a (by simp[VOp.opds])) (C rfl x (by simp[VOp.opds])) (O rfl) J
 case load g x=>
  simp only[ev]at h |-;rw[p x (by simp[VOp.opds]),V6 (C rfl x (by simp[VOp.opds]))];exact h
 case box x=>
  simp only[ev]at h |-;rw[p x (by simp[VOp.opds]),yS (C rfl x (by simp[VOp.opds]))];exact h
 case eqS neg x=>
  simp only[ev]at h |-;rw[p x (by simp[VOp.opds]),sS (C rfl x (by simp[VOp.opds]))];exact h
 case lenV x=>
  simp only[ev]at h |-;have q:=C rfl x (by simp[VOp.opds]);rw[p x (by simp[VOp.opds]),sS q];cases j:val σ x with
  |view id A E B=>
   rw[j]at q h;simp only[q id (by simp[SV.refs])];exact h
  |_=>rw[j]at h;exact h
 case subV s x E B mx=>
  simp only[ev]at h |-;have q:=C rfl x (by simp[VOp.opds]);rw[p x (by simp[VOp.opds]),sS q];have R:∀n,gG σ' n E=gG σ n E:=fun n=>sA (fun y F=>p y (by simp only[VOp.opds,List.mem_cons,List.mem_append];exact .inr (.inl (.inl F))))
  have U:∀n,gG σ' n B=gG σ n B:=fun n=>sA (fun y F=>p y (by simp only[VOp.opds,List.mem_cons,List.mem_append];exact .inr (.inl (.inr F))))
  have W:∀a b c d e f,DM σ' s a b c d e f E B mx=DM σ s a b c d e f E B mx:=by
   intro a b c d e f;simp only[DM,R,U];cases mx with
   |none=>rfl
   |some m=>
    have:val σ' m=val σ m:=p m (by simp[VOp.opds]);simp only[this]
  cases j:val σ x with
  |own id A=>
   rw[j]at q h;simp only[q id (by simp[SV.refs]),W];exact h
  |view id A e' f'=>
   rw[j]at q h;simp only[q id (by simp[SV.refs]),W];exact h
  |_=>
   rw[j]at h;simp only[R,U];cases mx with
   |none=>exact h
   |some m=>
    have:val σ' m=val σ m:=p m (by simp[VOp.opds]);simp only[this];exact h
 case subA s n x E B=>
  simp only[ev]at h |-;have q:=C rfl x (by simp[VOp.opds]);have R:∀n,gG σ' n E=gG σ n E:=fun n=>sA (fun y F=>p y (by simp only[VOp.opds,List.mem_cons,List.mem_append];exact .inr (.inl F)))
  have U:∀n,gG σ' n B=gG σ n B:=fun n=>sA (fun y F=>p y (by simp only[VOp.opds,List.mem_cons,List.mem_append];exact .inr (.inr F)))
  rw[p x (by simp[VOp.opds])];split at h
  .next Q fz D=>
   split at h
   .next l r bl bh=>
    obtain rfl:=O_ h;rw[e9 D (fun i B=>O rfl i B),R,U,bl,bh]
   simp at h
  simp at h
 case subS x E B=>
  simp only[ev]at h |-;rw[p x (by simp[VOp.opds])];have R:∀n,gG σ' n E=gG σ n E:=fun n=>sA (fun y F=>p y (by simp only[VOp.opds,List.mem_cons,List.mem_append];exact .inr (.inl F)))
  have U:∀n,gG σ' n B=gG σ n B:=fun n=>sA (fun y F=>p y (by simp only[VOp.opds,List.mem_cons,List.mem_append];exact .inr (.inr F)))
  simp only[R,U];exact h
 case append e s bytes x y=>
  simp only[ev]at h |-;have q:=C rfl x (by simp[VOp.opds]);rw[p x (by simp[VOp.opds]),p y (by simp[VOp.opds]),sS (C rfl y (by simp[VOp.opds]))];split at h
  .simp at h
  next new rd c'=>
  cases j:val σ x with
  |own id A=>
   rw[j]at q h;simp only[q id (by simp[SV.refs])];exact h
  |ownT id A ty=>
   rw[j]at q h;simp only[q id (by simp[SV.refs])];exact h
  |view id A E B=>
   rw[j]at q h;simp only[q id (by simp[SV.refs])];simp only at h;split at h
   .next cv s' K N=>
    split at h
    .next D=>
     simp only[Bool.and_eq_true,Bool.not_eq_true']at D
     have L:∀(ob:Ob),u.wr=some (id,ob)->σ'.ro.contains id=false:=by
      intro ob d';cases H:σ'.ro.contains id with
      |false=>rfl
      |true=>
       have X:=J id ob d' (by simpa using H);have Y:id∉σ.ro:=by simpa using D.2
       exact absurd X Y
     split at h
     .split at h
      .split at h
       .next hid=>
        have h3:=h;obtain rfl:=O_ h;rw[if_pos (by simp only[D.1.1,D.1.2,L _ rfl];rfl)]
        simp_all
       simp at h
      simp at h
     have h3:=h;obtain rfl:=O_ h;rw[if_pos (by simp only[D.1.1,D.1.2,L _ rfl];rfl)]
     simp_all
    simp at h
   simp at h
  |_=>rw[j]at h;first|exact h|(simp at h;done)
 case nilCheck x=>
  simp only[ev]at h |-;have q:=C rfl x (by simp[VOp.opds]);rw[p x (by simp[VOp.opds])];cases j:val σ x with
  |loc id Z=>
   rw[j]at q h;simp only[q id (by simp[SV.refs])];exact h
  |selfN id t nn=>
   rw[j]at q h;cases nn
   .exact h
   simp only[q id (by simp[SV.refs])];exact h
  |val v=>rw[j]at h;cases v<;>exact h
  |_=>rw[j]at h;exact h
 case nextS x=>
  simp only[ev]at h |-;have q:=C rfl x (by simp[VOp.opds]);rw[p x (by simp[VOp.opds])];cases j:val σ x with
  |itr id=>
   rw[j]at q h;simp only[q id (by simp[SV.refs])];exact h
  |_=>rw[j]at h;exact h
 case convB x=>
  simp only[ev]at h |-;rw[p x (by simp[VOp.opds]),sS (C rfl x (by simp[VOp.opds]))];exact h
 case clear zero x=>
  simp only[ev]at h |-;have q:=C rfl x (by simp[VOp.opds]);rw[p x (by simp[VOp.opds])];split at h
  .simp at h
  next z hz=>
  cases j:val σ x with
  |own id A=>
   rw[j]at q h;simp only[q id (by simp[SV.refs])];simp only at h;split at h
   .next cv s' K N=>
    split at h
    .next D=>
     simp only[Bool.and_eq_true,Bool.not_eq_true']at D;obtain rfl:=O_ h;rw[if_pos]
     have:σ'.ro.contains id=false:=by
      cases H:σ'.ro.contains id with
      |false=>rfl
      |true=>
       have X:=J id _ rfl (by simpa using H);have Y:id∉σ.ro:=by simpa using D.2
       exact absurd X Y
     simp only[D.1,this];rfl
    simp at h
   simp at h
  |view id A E B=>
   rw[j]at q h;simp only[q id (by simp[SV.refs])];simp only at h;split at h
   .next cv s' K N=>
    split at h
    .next D=>
     simp only[Bool.and_eq_true,Bool.not_eq_true']at D;obtain rfl:=O_ h;rw[if_pos]
     have:σ'.ro.contains id=false:=by
      cases H:σ'.ro.contains id with
      |false=>rfl
      |true=>
       have X:=J id _ rfl (by simpa using H);have Y:id∉σ.ro:=by simpa using D.2
       exact absurd X Y
     simp only[D.1,this];rfl
    simp at h
   simp at h
  |_=>rw[j]at h;exact h
 case appendS e b x y=>
  simp only[ev]at h |-;have q:=C rfl x (by simp[VOp.opds]);rw[p x (by simp[VOp.opds]),p y (by simp[VOp.opds])];cases j:val σ x with
  |own id A=>
   rw[j]at q h;simp only[q id (by simp[SV.refs])];exact h
  |ownT id A ty=>
   rw[j]at q h;simp only[q id (by simp[SV.refs])];exact h
  |_=>rw[j]at h;exact h
 case rangeS x=>simp only[ev]at h |-;rw[p x (by simp[VOp.opds])];exact h
 case bad=>simp[ev]at h
 case eqP neg x=>
  simp only[ev]at h |-;have q:=C rfl x (by simp[VOp.opds]);rw[p x (by simp[VOp.opds])];cases j:val σ x with
  |loc id Z=>
   rw[j]at q h;simp only[q id (by simp[SV.refs])];exact h
  |val v=>rw[j]at h;cases v<;>exact h
  |_=>rw[j]at h;exact h
 case fieldAddr Z x=>
  simp only[ev]at h |-;have q:=C rfl x (by simp[VOp.opds]);rw[p x (by simp[VOp.opds])];cases j:val σ x with
  |loc id o=>
   rw[j]at q h;simp only[q id (by simp[SV.refs])];exact h
  |eloc id A i o=>
   rw[j]at q h;simp only[q id (by simp[SV.refs])];exact h
  |val v=>rw[j]at h;cases v<;>exact h
  |_=>rw[j]at h;exact h
 case indexAddr s x i=>
  simp only[ev]at h |-;have q:=C rfl x (by simp[VOp.opds]);rw[p x (by simp[VOp.opds]),p i (by simp[VOp.opds])];cases j:val σ x with
  |own id A=>
   rw[j]at q h;simp only[q id (by simp[SV.refs])];exact h
  |view id A E B=>
   rw[j]at q h;simp only[q id (by simp[SV.refs])];exact h
  |val v=>rw[j]at h;cases v<;>exact h
  |_=>rw[j]at h;exact h
 case indexArr len s x i=>
  simp only[ev]at h |-;have q:=C rfl x (by simp[VOp.opds]);rw[p x (by simp[VOp.opds]),p i (by simp[VOp.opds])];cases j:val σ x with
  |loc id o=>
   rw[j]at q h;cases a':val σ i with
   |val iv=>
    rw[a']at h;cases iv with
    |int k n=>
     simp only[q id (by simp[SV.refs])];exact h
    |_=>simp at h
   |_=>rw[a']at h;simp at h
  |val v=>
   rw[j]at h;generalize val σ i=y at h |-;cases y with
   |val iv=>cases v<;>cases iv<;>exact h
   |_=>cases v<;>exact h
  |_=>rw[j]at h;exact h
 case mkFunc f caps=>
  simp only[ev]at h |-;have e:caps.map (val σ')=caps.map (val σ):=List.map_congr_left p;rw[e];exact h
 case call=>simp[ev]at h
 case callV=>simp[ev]at h
 case alloc=>exact h
 case allocB=>exact h
 case un I x=>
  simp only[ev]at h |-;rw[p x (by simp[VOp.opds])];exact h
 case move x=>simp only[ev]at h |-;rw[p x (by simp[VOp.opds])];exact h
 case pick c x y=>simp only[ev]at h |-;rw[p c (by simp[VOp.opds]),p x (by simp[VOp.opds]),p y (by simp[VOp.opds])];exact h
 case bin I x y=>simp only[ev]at h |-;rw[p x (by simp[VOp.opds]),p y (by simp[VOp.opds])];exact h
 case eqB neg x y=>simp only[ev]at h |-;rw[p x (by simp[VOp.opds]),p y (by simp[VOp.opds])];exact h
 case eqN neg x=>simp only[ev]at h |-;rw[p x (by simp[VOp.opds])];exact h
 case eqA neg ks x y=>simp only[ev]at h |-;rw[p x (by simp[VOp.opds]),p y (by simp[VOp.opds])];exact h
 case convI k x=>simp only[ev]at h |-;rw[p x (by simp[VOp.opds])];exact h
 case mkIface t x=>simp only[ev]at h |-;rw[p x (by simp[VOp.opds])];exact h
 case mkSlice s b z l c=>simp only[ev]at h |-;rw[p l (by simp[VOp.opds]),p c (by simp[VOp.opds])];exact h
 case indexS x i=>simp only[ev]at h |-;rw[p x (by simp[VOp.opds]),p i (by simp[VOp.opds])];exact h
 case indexA len s g x i=>simp only[ev]at h |-;rw[p x (by simp[VOp.opds]),p i (by simp[VOp.opds])];exact h
 case extract x i=>simp only[ev]at h |-;rw[p x (by simp[VOp.opds])];exact h
 case lenS x=>simp only[ev]at h |-;rw[p x (by simp[VOp.opds])];exact h
 case maxI x y=>simp only[ev]at h |-;rw[p x (by simp[VOp.opds]),p y (by simp[VOp.opds])];exact h
 case minI x y=>simp only[ev]at h |-;rw[p x (by simp[VOp.opds]),p y (by simp[VOp.opds])];exact h
 case callM f args=>simp[ev]at h
 case callMV f args=>simp[ev]at h
theorem Ys{P:Program}{e:Option Nat}{op:VOp}{u:Upd}(g:σ'.gl=σ.gl)(l:DU P σ e u op)(h:∀x∈op.opds,val σ' x=val σ x)(m:∀i,i∈fF σ op u->ac σ'.objs i=ac σ.objs i)
  (n:∀id o,u.wr=some (id,o)->id∈σ'.ro->id∈σ.ro):DU P σ' e u op/\fF σ' op u=fF σ op u:=by
 have b:op.opds.map (val σ')=op.opds.map (val σ):=List.map_congr_left h;cases op
 case call f args=>
  obtain⟨k,c,p,r,d,q,s⟩:=l;have j:=DW (σ':=σ') d h (fun i v=>m i (by simp only[fF,VOp.acts,cond_true,List.mem_append,CW,d];exact .inr v));refine⟨⟨k,c,p,r,j,by rw[g];exact q,s⟩,?_⟩;simp only[fF,b,CW,d,j]
 case callV f args=>
  obtain⟨k,c,p,r,d,q,s⟩:=l;have y:val σ' f=val σ f:=h f (by simp[VOp.opds]);have j:=DW (σ':=σ') d (fun x z=>h x (by simp[VOp.opds,z])) (fun i v=>m i (by simp only[fF,VOp.acts,cond_true,List.mem_append,CW,d];exact .inr v));refine⟨⟨k,c,p,r,by rw[y];exact j,by rw[g];exact q,s⟩,?_⟩;simp only[fF,b,CW,d,y,j]
 all_goals exact⟨⟨aho l.1 h m n,l.2⟩,by simp only[fF,b,CW]⟩
theorem JQ{P:Program}{e:Option Nat}{d:VOp}{u:Upd}(b:DU P σ e u d):(u.wr≠none->d.writes=true)/\(u.new≠none->d.makes=true):=by
 cases d
 case call f args=>
  obtain⟨k,g,i,r,j,l,c⟩:=b;refine⟨fun h=>?_,fun _=>rfl⟩;exfalso;apply h;unfold jz at c;split at c
  .obtain rfl:=O_ c;rfl
  split at c
  .obtain rfl:=O_ c;rfl
  simp at c
 case callV f args=>
  obtain⟨k,g,i,r,j,l,c⟩:=b;refine⟨fun h=>?_,fun _=>rfl⟩;exfalso;apply h;unfold jz at c;split at c
  .obtain rfl:=O_ c;rfl
  split at c
  .obtain rfl:=O_ c;rfl
  simp at c
 case append=>
  exact⟨fun _=>rfl,fun _=>rfl⟩
 case store n a x=>
  refine⟨fun _=>rfl,fun h=>?_⟩;exfalso;apply h;have b:=b.1;simp only[ev,uA]at b
  (repeat' split at b)<;>first|(simp at b;done)|(obtain rfl:=O_ b;rfl)
 case alloc=>
  refine⟨fun h=>?_,fun _=>rfl⟩;exfalso;apply h;have b:=b.1;simp only[ev]at b
  (repeat' split at b)<;>first|(simp at b;done)|(obtain rfl:=O_ b;rfl)
 case allocB=>
  refine⟨fun h=>?_,fun _=>rfl⟩;exfalso;apply h;have b:=b.1;simp only[ev]at b
  (repeat' split at b)<;>first|(simp at b;done)|(obtain rfl:=O_ b;rfl)
 case box=>
  refine⟨fun h=>?_,fun _=>rfl⟩;exfalso;apply h;have b:=b.1;simp only[ev]at b
  (repeat' split at b)<;>first|(simp at b;done)|(obtain rfl:=O_ b;rfl)
 case buildSlice=>
  refine⟨fun h=>?_,fun _=>rfl⟩;exfalso;apply h;have b:=b.1;simp only[ev]at b
  (repeat' split at b)<;>first|(simp at b;done)|(obtain rfl:=O_ b;rfl)
 case mkSlice=>
  refine⟨fun h=>?_,fun _=>rfl⟩;exfalso;apply h;have b:=b.1;simp only[ev]at b
  (repeat' split at b)<;>first|(simp at b;done)|(obtain rfl:=O_ b;rfl)
 case rangeS=>
  refine⟨fun h=>?_,fun _=>rfl⟩;exfalso;apply h;have b:=b.1;simp only[ev]at b
  (repeat' split at b)<;>first|(simp at b;done)|(obtain rfl:=O_ b;rfl)
 case nextS=>
  refine⟨fun _=>rfl,fun h=>?_⟩;exfalso;apply h;have b:=b.1;simp only[ev]at b
  (repeat' split at b)<;>first|(simp at b;done)|(obtain rfl:=O_ b;rfl)
 case clear=>
  refine⟨fun _=>rfl,fun h=>?_⟩;exfalso;apply h;have b:=b.1;simp only[ev]at b
  (repeat' split at b)<;>first|(simp at b;done)|(obtain rfl:=O_ b;rfl)
 case appendS=>
  refine⟨fun _=>rfl,fun h=>?_⟩;exfalso;apply h;have b:=b.1;simp only[ev]at b
  (repeat' split at b)<;>first|(simp at b;done)|(obtain rfl:=O_ b;rfl)
 all_goals
  have b:=b.1;refine⟨fun h=>?_,fun h=>?_⟩<;>exfalso<;>apply h
  all_goals
   simp only[ev,v6,G8,DM,Yf,Yg]at b
   first
    |(obtain rfl:=O_ b;rfl)
    |((repeat' split at b)<;>first|(simp at b;done)|(obtain rfl:=O_ b;rfl))
end
end Go.Vs
