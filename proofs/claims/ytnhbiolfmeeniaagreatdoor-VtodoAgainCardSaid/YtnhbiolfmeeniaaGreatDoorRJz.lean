/- A part of a proof. No conditions. -/
import Derived.Test.YtnhbiolfmeeniaaGreatDoorRIz
import Derived.Test.YtnhbiolfmeeniaaGreatDoorRFz
set_option linter.all false
set_option maxRecDepth 100000
set_option maxHeartbeats 16000000
namespace Go.Vs.Y.Rc
open Go.Proofs Go.Vs.U8 Go.Vs.Pa Go.Vs.Cv Go.Vs.Mo Go.Vs.Nu
theorem afC(n:Int)(h:-1000000000000<=n):Fn G2 T_ 171 [.int .i64 n] (.int .i64 (n.natAbs:Nat)):=by
 refine ae hm NC (by simp) ?_;simp[F0];by_cases a:n<0
 .have e:(n.natAbs:Int) = -n:=by omega
  rw[e];simp(disch:=omega)[wl,a]
 have e:(n.natAbs:Int)=n:=by omega
 rw[e];simp(disch:=omega)[wl,a]
def wiI(k:Nat):IV:=.agg [.int .i64 (Nt k),.int .i64 (L7 k),.bool (TF k)]
theorem fn_within(k:Nat)(h:k<14):Fn G2 T_ 123 [.int .i64 k] (wiI k):=by
 refine ae hm IF (by simp) ?_;simp[zQ];rcases Zw h with rfl|rfl|rfl|rfl|rfl|rfl|rfl|rfl|rfl|rfl|rfl|rfl|rfl|rfl <;>
 .simp(disch:=omega)[wl];rfl
theorem k7{k:Nat}(h:k<=6):k=0\/k=1\/k=2\/k=3\/k=4\/k=5\/k=6:=by omega
theorem XE(k:Nat)(h:k<=6):Fn G2 T_ 114 [.int .u8 k] (.str (lM k)):=by
 refine ae hm NB (by simp) ?_;simp[EY];rcases k7 h with rfl|rfl|rfl|rfl|rfl|rfl|rfl <;>
 .simp(disch:=omega)[wl];rfl
theorem Wk(l:List Str)(x:Str)(f:l.length<1000000):Fn G2 T_ 201 [.slice (ts l),.str x] (.int .i64 (S8 l x)):=by
 refine ae hm xF (by simp) ?_;simp[pt,bO];refine bx hm [] (fun i:Nat=>[(8,.val (.int .i64 i))]) (fun _=>[]) (fun i=>i<=l.length/\x∉l.take i) (fun i=>l.length-i) 0 ⟨by omega,by simp⟩ ?_ ?_
 .simp;exact bA
 rintro i ⟨g,a⟩;simp[bO];by_cases h:i<l.length
 .obtain⟨y,b⟩:=A_ (l[i]);have c:=xt h b;by_cases e:x=y
  .have d:=Tp h (b.trans e.symm) a;rw[d];simp(disch:=omega)[wl,bO,c,e]
  simp(disch:=omega)[wl,bO,c,e];refine aj (i+1) ⟨by omega,take_no h b a e⟩ (by omega) ?_;simp;exact bA
 obtain rfl:i=l.length:=by omega
 rw[List.take_length]at a;rw[Tq a];simp(disch:=omega)[wl]
theorem Ps(x:Str):Fn G2 T_ 143 [.str x] (.int .i64 (S8 qB x)):=by
 refine ae hm IG (by simp) ?_;have a:=Wk qB x (by decide);simp[zS];refine aa a ?_;simp(disch:=omega)[wl]
def acJ(s:Str):IV:=if 61∈s then .tuple [.str (s.take (s.idxOf 61)),.str (s.drop (s.idxOf 61+1)),.bool true]else .tuple [.str s,.str [],.bool false]
theorem aia{s:Str}{c:UInt8}(h:c∉s):qT s c<0:=(Ks s c).2 h
theorem acK{s:Str}{c:UInt8}(h:c∈s):qT s c=(s.idxOf c:Nat):=by
 have a:=List.idxOf_lt_length_iff.2 h;refine Qx (by rw[List.getElem?_eq_getElem a,List.getElem_idxOf a]) fun b=>?_
 rw[List.mem_take_iff_getElem]at b;obtain⟨j,d,e⟩:=b;have:=List.not_of_lt_findIdx (p:=(· == c)) (xs:=s) (i:=j) (by show j<s.idxOf c;omega);simp[e]at this
theorem acL(s:Str)(d:s.length<1000000):Fn G2 T_ 200 [.str s,.str [61]] (acJ s):=by
 refine ae hm sa (by simp) ?_;have b:=up (KH s 61);simp[kS];refine aa b ?_;unfold acJ;by_cases h:(61:UInt8)∈s
 .have a:=List.idxOf_lt_length_iff.2 h;have e:qT s 61=(s.idxOf 61:Nat):=acK h;rw[if_pos h,e];obtain⟨K,c⟩:=A_ (s.idxOf 61);rw[c]at a |-;simp(disch:=omega)[wl];omega
 have e:=aia h;rw[if_neg h];simp(disch:=omega)[wl]
theorem aib(s:Str)(a:s.length<1000000):Fn G2 T_ 142 [.str s,.str [61]] (acJ s):=by
 refine ae hm Lt (by simp) ?_;simp[C6];refine aa (acL s a) ?_;unfold acJ;by_cases h:(61:UInt8)∈s
 .rw[if_pos h];simp(disch:=omega)[wl]
 rw[if_neg h];simp(disch:=omega)[wl]
theorem acM(x:Dn):Fn G2 T_ 173 [.agg [.int .i64 x.1,.int .i64 x.2]] (.bool (decide (x.1≠0))):=by
 refine ae hm rg (by simp) ?_;simp[kq]
def F2(x:Dn):Bool:=decide (x.1≠0)
def ixD(l:List Dn):Int:=if l.findIdx F2<l.length then (l.findIdx F2:Nat)else -1
theorem afD(l:List Dn):0<=ixD l↔zB l=true:=by
 have a:=List.findIdx_lt_length (p:=F2) (xs:=l);show _↔l.any F2=true;rw[List.any_eq_true];unfold ixD;by_cases h:l.findIdx F2<l.length
 .rw[if_pos h];exact⟨fun _=>a.1 h,fun _=>by omega⟩
 rw[if_neg h];exact⟨fun b=>by omega,fun b=>absurd (a.2 b) h⟩
theorem ND(l:List Dn)(m:l.length<1000000):Fn G2 T_ 219 [.slice (B4 l),.fn 173 []] (.int .i64 (ixD l)):=by
 refine ae hm kU (by simp) ?_;have k:=List.findIdx_le_length (p:=F2) (xs:=l);simp[gX,aJ];refine bx hm [] (fun i:Nat=>[(8,.val (.int .i64 i))]) (fun _=>[]) (fun i=>i<=l.findIdx F2) (fun i=>l.length-i) 0 (by omega) ?_ ?_
 .simp;exact bA
 intro i n;simp[aJ];by_cases h:i<l.length
 .obtain⟨x,c⟩:=A_ (l[i]);have j:=AO h c;have a:Fn G2 T_ 173 [.agg [.int .i64 x.1,.int .i64 x.2]] (.bool (F2 x)):=acM x;by_cases b:F2 x=true
  .have e:l.findIdx F2=i:=by
    have:¬i<l.findIdx F2:=fun d=>by
     have:=List.not_of_lt_findIdx d;rw[c]at this;simp[b]at this
    omega
   have f:ixD l=i:=by unfold ixD;rw[e,if_pos h]
   rw[f];rw[b]at a;simp(disch:=omega)[wl,aJ,j];refine aa a ?_;simp(disch:=omega)[wl]
  have e:l.findIdx F2≠i:=fun e=>by
   have:=List.findIdx_getElem (p:=F2) (xs:=l) (w:=by omega);simp only[e,c]at this;exact b this
  have g:F2 x=false:=by simpa using b
  rw[g]at a;simp(disch:=omega)[wl,aJ,j];refine aa a ?_;simp(disch:=omega)[wl];refine aj (i+1) (by omega) (by omega) ?_;simp;exact bA
 have f:ixD l = -1:=by unfold ixD;rw[if_neg (by omega)]
 rw[f];simp(disch:=omega)[wl,aJ]
theorem GN(l:List Dn)(a:l.length<1000000):Fn G2 T_ 172 [.slice (B4 l),.fn 173 []] (.bool (zB l)):=by
 refine ae hm jw (by simp) ?_;have b:=ND l a
 have:zB l=decide (0<=ixD l):=by
  rw[Bool.eq_iff_iff,decide_eq_true_eq];exact(afD l).symm
 rw[this];simp[fB];refine aa b ?_;simp
theorem acN{b:Type}{l:List b}{i:Nat}{x:b}(h:i<l.length)(d:l[i]=x)(a:x∈l.take i):¬l.Nodup:=fun e=>by
 have c:=(List.take_sublist (i+1) l).nodup e;rw[List.take_succ_eq_append_getElem h,d]at c;exact(List.nodup_append.1 c).2.2 x a x (by simp) rfl
theorem XF{d:Type}{l:List d}{i:Nat}{x:d}(h:i<l.length)(g:l[i]=x)(j:(l.take i).Nodup)(c:x∉l.take i):(l.take (i+1)).Nodup:=by
 rw[List.take_succ_eq_append_getElem h,g];refine List.nodup_append.2 ⟨j,by simp,?_⟩;intro a k b f;simp at f;subst f;exact fun e=>c (e▸k)
theorem acO{a:Type}{l:List a}{p:a->Bool}{i:Nat}{x:a}(h:i<l.length)(b:l[i]=x):(l.drop i).any p=(p x||(l.drop (i+1)).any p):=by
 rw[List.drop_eq_getElem_cons h,b,List.any_cons]
theorem acP(l:List Int)(i:Nat):(is l).take i=is (l.take i):=by simp[is]
theorem ZH(l:List Dn)(i:Nat):(B4 l).take i=B4 (l.take i):=by simp[B4]
theorem aic(l:List Int):∀a∈is l,a.length=1:=fun r b=>by
 simp only[is,List.mem_map]at b;obtain⟨_,_,rfl⟩:=b;rfl
theorem afE(l:List Dn):∀a∈B4 l,a.length=2:=fun r b=>by
 simp only[B4,List.mem_map]at b;obtain⟨_,_,rfl⟩:=b;rfl
theorem acQ(l:List Int)(b a:Int)(d:Bool)(y:l.length<1000000)(z:0<=b)(A:b<=1)(B:0<=a)(C:a<=1000):Fn G2 T_ 122 [.slice (is l),.agg [.int .i64 b,.int .i64 a,.bool d]] (.int .i64 (vC b a d l)):=by
 refine ae hm Ls (by simp) ?_;obtain⟨R,c⟩:=A_ (vC b a d l);rw[c];unfold vC at c;simp[C4,is_len];by_cases v:12<l.length
 .rw[if_pos v]at c;subst c;simp(disch:=omega)[wl,is_len]
 rw[if_neg v]at c;simp(disch:=omega)[wl,is_len];refine bx hm [] (fun i:Nat=>[(14,.val (.int .i64 i))]) (fun _=>[(3,.box [.val (.int .i64 b),.val (.int .i64 a),.val (.bool d)])]) (fun i=>i<=l.length/\(l.drop i).any (B5 b a d)=l.any (B5 b a d)) (fun i=>l.length-i) 0 ⟨by omega,by simp⟩ ?_ ?_
 .simp;exact bA
 rintro i ⟨w,f⟩;simp[is_len];by_cases h:i<l.length
 .obtain⟨n,k⟩:=A_ (l[i]);have o:=vv h k;rw[acO h k]at f;have next:B5 b a d n=false->(l.drop (i+1)).any (B5 b a d)=l.any (B5 b a d):=fun e=>by rw[<-f,e,Bool.false_or]
  have g:B5 b a d n=true->R=8:=fun e=>by
   rw[<-f,e,Bool.true_or,if_pos rfl]at c;exact c.symm
  by_cases D:n < -a
  .have:=g (by simp[B5];omega);subst this;simp(disch:=omega)[wl,is_len,o];rfl
  have p:=afC n (by omega);obtain⟨u,m⟩:=A_ n.natAbs;rw[m]at p;simp(disch:=omega)[wl,is_len,o];refine aa p ?_;by_cases E:(u:Int)<b
  .have:=g (by simp[B5,m];omega);subst this;simp(disch:=omega)[wl];rfl
  simp(disch:=omega)[wl];refine aa p ?_;by_cases F:a<(u:Int)
  .have:=g (by simp[B5,m];omega);subst this;simp(disch:=omega)[wl];rfl
  by_cases q:n<0
  .cases d with
   |false=>
    have:=g (by simp[B5,m];omega);subst this;simp(disch:=omega)[wl,q];rfl
   |true=>
    have s:=next (by simp[B5,m];omega)
    simp(disch:=omega)[wl,q];refine⟨rfl,?_⟩;refine aj (i+1) ⟨by omega,s⟩ (by omega) ?_;simp;exact bA
  have s:=next (by simp[B5,m];omega)
  simp(disch:=omega)[wl,q];refine⟨rfl,?_⟩;refine aj (i+1) ⟨by omega,s⟩ (by omega) ?_;simp;exact bA
 obtain rfl:i=l.length:=by omega
 rw[List.drop_length]at f;rw[<-f,if_neg (by simp)]at c;simp(disch:=omega)[wl,is_len];refine bx hm [] (fun i:Nat=>[(49,.val (.int .i64 i))]) (fun _=>[]) (fun i=>i<=l.length/\(l.take i).Nodup) (fun i=>l.length-i) 0 ⟨by omega,by simp⟩ ?_ ?_
 .simp;exact bA
 rintro i ⟨w,f⟩;simp[is_len];by_cases h:i<l.length
 .obtain⟨n,k⟩:=A_ (l[i]);have o:=vv h k;have x:=up (qW (l.take i) n (by rw[List.length_take];omega));simp(disch:=omega)[wl,is_len,o,acP];refine⟨⟨by omega,aic l⟩,?_⟩;refine aa x ?_;by_cases j:n∈l.take i
  .rw[if_neg (acN h k j)]at c;subst c;simp(disch:=omega)[wl,j]
  simp(disch:=omega)[wl,j];refine aj (i+1) ⟨by omega,XF h k f j⟩ (by omega) ?_;simp;exact bA
 obtain rfl:i=l.length:=by omega
 rw[List.take_length]at f;rw[if_pos f]at c;subst c;simp(disch:=omega)[wl,is_len]
theorem acR(d:Int):yB d=[]↔(d<0\/6<d):=by
 constructor
 .intro h;by_cases c:0<=d
  .by_cases e:d<=6
   .have:=(Jc c e).2;rw[h]at this;simp at this
   omega
  omega
 intro h;have f:¬d=0:=by omega
 have c:¬d=1:=by omega
 have e:¬d=2:=by omega
 have g:¬d=3:=by omega
 have i:¬d=4:=by omega
 have j:¬d=5:=by omega
 have k:¬d=6:=by omega
 simp[yB,f,c,e,g,i,j,k];intro a b;omega
theorem R5(l:List Dn)(v:l.length<1000000):Fn G2 T_ 121 [.slice (B4 l)] (.int .i64 (tG l)):=by
 refine ae hm Dm (by simp) ?_;obtain⟨R,a⟩:=A_ (tG l);rw[a];unfold tG at a;simp[uO,aJ];by_cases n:12<l.length
 .rw[if_pos n]at a;subst a;simp(disch:=omega)[wl,aJ]
 rw[if_neg n]at a;simp(disch:=omega)[wl,aJ];refine bx hm [] (fun i:Nat=>[(12,.val (.int .i64 i))]) (fun _=>[]) (fun i=>i<=l.length/\(l.drop i).any EJ=l.any EJ) (fun i=>l.length-i) 0 ⟨by omega,by simp⟩ ?_ ?_
 .simp;exact bA
 rintro i ⟨p,b⟩;simp[aJ];by_cases h:i<l.length
 .obtain⟨x,g⟩:=A_ (l[i]);have k:=AO h g;rw[acO h g]at b;have next:EJ x=false->(l.drop (i+1)).any EJ=l.any EJ:=fun e=>by rw[<-b,e,Bool.false_or]
  have d:EJ x=true->R=8:=fun e=>by
   rw[<-b,e,Bool.true_or,if_pos rfl]at a;exact a.symm
  have o:=up (oE x.2);have f:=acR x.2;obtain⟨t,q⟩:=A_ (yB x.2);rw[q]at o f;simp(disch:=omega)[wl,aJ,k];refine aa o ?_;by_cases j:t=[]
  .have m:=f.1 j;have:=d (by simp[EJ];omega);subst this;simp(disch:=omega)[wl,j]
  have m:¬(x.2<0\/6<x.2):=fun e=>j (f.2 e)
  by_cases w:x.1 < -53
  .have:=d (by simp[EJ];omega);subst this;simp(disch:=omega)[wl,j]
  by_cases y:53<x.1
  .have:=d (by simp[EJ];omega);subst this;simp(disch:=omega)[wl,j]
  have s:=next (by simp[EJ];omega)
  simp(disch:=omega)[wl,j];refine aj (i+1) ⟨by omega,s⟩ (by omega) ?_;simp;exact bA
 obtain rfl:i=l.length:=by omega
 rw[List.drop_length]at b;rw[<-b,if_neg (by simp)]at a;simp(disch:=omega)[wl,aJ];refine bx hm [] (fun i:Nat=>[(33,.val (.int .i64 i))]) (fun _=>[]) (fun i=>i<=l.length/\(l.take i).Nodup) (fun i=>l.length-i) 0 ⟨by omega,by simp⟩ ?_ ?_
 .simp;exact bA
 rintro i ⟨p,b⟩;simp[aJ];by_cases h:i<l.length
 .obtain⟨x,g⟩:=A_ (l[i]);have k:=AO h g;have u:=up (zw (l.take i) x (by rw[List.length_take];omega));simp(disch:=omega)[wl,aJ,k,ZH];refine⟨⟨by omega,afE l⟩,?_⟩;refine aa u ?_;by_cases c:x∈l.take i
  .rw[if_neg (acN h g c)]at a;subst a;simp(disch:=omega)[wl,c];rfl
  simp(disch:=omega)[wl,c];refine⟨rfl,?_⟩;refine aj (i+1) ⟨by omega,XF h g b c⟩ (by omega) ?_;simp;exact bA
 obtain rfl:i=l.length:=by omega
 rw[List.take_length]at b;rw[if_pos b]at a;subst a;simp(disch:=omega)[wl,aJ]
def cells(r:Ru):List IV:=[.int .u8 r.f,.int .i64 r.i,.int .i64 r.c,.int .u8 r.u.k,.int .i64 r.u.s,.slice (is r.l4),.slice (is r.l5),.slice (is r.l6),.slice (B4 r.l7),.slice (is r.l8),.slice (is r.l9),.slice (is r.l10),.slice (is r.l11),.slice (is r.l12),.int .i64 r.w]
def Ru.iv(r:Ru):IV:=.agg (cells r)
theorem afF(r:Ru)(s:0<=r.u.k):Fn G2 T_ 120 [.ref (cells r)] (.int .i64 (yi r)):=by
 refine ae hm tL (by simp) ?_;have l:=pQ r.u s;have p:=up (oE r.w);have d:=acR r.w;obtain⟨t,u⟩:=A_ (yB r.w);rw[u]at p d;obtain⟨R,a⟩:=A_ (yi r);rw[a];unfold yi at a;unfold cells;simp[lN];by_cases c:6<r.f
 .rw[if_pos c]at a;subst a;simp(disch:=omega)[wl,c]
 rw[if_neg c]at a;by_cases g:r.i<1
 .rw[if_pos (by omega)]at a;subst a;simp(disch:=omega)[wl,c,g]
 by_cases i:1000<r.i
 .rw[if_pos (by omega)]at a;subst a;simp(disch:=omega)[wl,c,g,i]
 by_cases m:r.c<0
 .rw[if_pos (by omega)]at a;subst a;simp(disch:=omega)[wl,c,g,i,m]
 by_cases q:1000<r.c
 .rw[if_pos (by omega)]at a;subst a;simp(disch:=omega)[wl,c,g,i,m,q]
 simp(disch:=omega)[wl,c,g,i,m,q];refine aa p ?_;by_cases j:t=[]
 .have:=d.1 j;rw[if_pos (by omega)]at a;subst a;simp(disch:=omega)[wl,j]
 have v:¬(r.w<0\/6<r.w):=fun e=>j (d.2 e)
 rw[if_neg (by omega)]at a;simp(disch:=omega)[wl,j];unfold ma at l;by_cases b:r.u.k=0
 .by_cases f:r.u.s=0
  .have h:r.u=⟨0,0⟩:=by
    cases n:r.u with
    |mk x y=>
     rw[n]at b f;simp only at b f;rw[b,f]
   rw[if_pos h]at a;subst a;simp(disch:=omega)[wl,b,f]
  have h:¬r.u=⟨0,0⟩:=fun e=>f (by rw[e])
  rw[if_neg h,if_pos b]at a;subst a;simp(disch:=omega)[wl,b,f]
 have h:¬r.u=⟨0,0⟩:=fun e=>b (by rw[e])
 rw[if_neg h,if_neg b]at a;obtain⟨e,w⟩:=A_ (dm r.u);rw[w]at l a;simp(disch:=omega)[wl,b];refine aa l ?_;by_cases o:e=0
 .subst o;rw[if_neg (by simp)]at a;by_cases k:0<r.c
  .rw[if_pos k]at a;subst a;simp(disch:=omega)[wl,k]
  rw[if_neg k]at a;subst a;simp(disch:=omega)[wl,k]
 rw[if_pos o]at a;subst a;simp(disch:=omega)[wl,o]
theorem k8{k:Nat}(h:k∈bq)(a:k≠7):k=4\/k=5\/k=6\/k=8\/k=9\/k=10\/k=11\/k=12:=by
 simp only[bq,List.mem_cons,List.not_mem_nil,or_false]at h;omega
theorem Lu(r:Ru)(k:Nat)(h:k∈bq)(a:k≠7):Fn G2 T_ 117 [.ref (cells r),.int .i64 k] (.ref ((cells r).drop (k+1))):=by
 refine ae hm kR (by simp) ?_;unfold cells;simp[gV];rcases k8 h a with rfl|rfl|rfl|rfl|rfl|rfl|rfl|rfl <;>
 .simp(disch:=omega)[wl]
theorem drop_at(r:Ru)(k:Nat)(h:k∈bq)(a:k≠7):∃l,(cells r).drop (k+1)=.slice (is (Ns r k))::l:=by
 rcases k8 h a with rfl|rfl|rfl|rfl|rfl|rfl|rfl|rfl<;>exact⟨_,rfl⟩
def Do(r:Ru):Prop:=r.l4.length<100000/\r.l5.length<100000/\r.l6.length<100000/\r.l7.length<100000/\r.l8.length<100000/\r.l9.length<100000/\r.l10.length<100000/\r.l11.length<100000/\r.l12.length<100000
theorem acS{r:Ru}(a:Do r){k:Nat}(h:k∈bq)(b:k≠7):(Ns r k).length<100000:=by
 obtain⟨f,g,i,_,j,l,c,d,e⟩:=a;rcases k8 h b with rfl|rfl|rfl|rfl|rfl|rfl|rfl|rfl<;>assumption
def Lv(r:Ru)(k:Nat):Nat:=r.l7.length+(if 4<k then r.l4.length else 0)+(if 5<k then r.l5.length else 0)+(if 6<k then r.l6.length else 0)+(if 8<k then r.l8.length else 0)+(if 9<k then r.l9.length else 0)+(if 10<k then r.l10.length else 0)+(if 11<k then r.l11.length else 0)
theorem acT(r:Ru){k:Nat}(h:k∈bq)(a:k<12):Lv r (k+1)=Lv r k+(if k=7 then 0 else (Ns r k).length):=by
 simp only[bq,List.mem_cons,List.not_mem_nil,or_false]at h;have h:k=4\/k=5\/k=6\/k=7\/k=8\/k=9\/k=10\/k=11:=by omega
 rcases h with rfl|rfl|rfl|rfl|rfl|rfl|rfl|rfl<;>simp[Lv,Ns]<;>omega
theorem aid{r:Ru}(a:Do r)(k:Nat):Lv r k<1000000:=by
 obtain⟨e,f,g,h,i,j,b,c,d⟩:=a;unfold Lv
 repeat' split
 all_goals omega
theorem afG(r:Ru)(q:Do r):Fn G2 T_ 124 [.ref (cells r)] (.bool (decide (¬Nv r))):=by
 refine ae hm tM (by simp) ?_;have v:=GN r.l7 (by have:=q.2.2.2.1;omega);obtain⟨N,m⟩:=A_ (zB r.l7);rw[m]at v;obtain⟨R,s⟩:=A_ (decide (¬Nv r));rw[s];have a:Nv r->R=false:=fun h=>by rw[<-s];simpa using h
 have c:¬Nv r->R=true:=fun h=>by rw[<-s];simpa using h
 unfold Nv at a c;rw[m]at a c;have j:=aid q;have n:W0 r=Lv r 12:=by simp[W0,Lv]
 rw[n]at a c;have o:=@acS r q;simp[lQ,cells];refine aa v ?_;simp(disch:=omega)[wl];refine Qo hm (fun _:Unit=>⟨[(0,.val (.ref (cells r)))],[],[],109,G2⟩) (fun _=>¬(N=true/\(r.f<5\/0<r.l10.length))) (fun _=>rfl) ?_ ?_
 .by_cases b:N=true/\(r.f<5\/0<r.l10.length)
  .have:=a (.inl b);subst this;obtain⟨rfl,g⟩:=b;by_cases d:r.f<5
   .simp(disch:=omega)[wl,d]
   have f:=g.resolve_left d;simp(disch:=omega)[wl,d,is_len,f]
  cases N with
  |false=>
   simp(disch:=omega)[wl];refine cz () b ?_;exact an rfl rfl (by simp[bj,aE,ac,cells]) (by simp[bZ,ac]) (by simp[bX])
  |true=>
   have d:¬r.f<5:=fun h=>b ⟨rfl,.inl h⟩
   have f:¬0<r.l10.length:=fun h=>b ⟨rfl,.inr h⟩
   simp(disch:=omega)[wl,d,is_len,f];refine cz () b ?_;exact an rfl rfl (by simp[bj,aE,ac,cells]) (by simp[bZ,ac]) (by simp[bX])
 intro _ d1;simp[cells];refine Qo hm (fun _:Unit=>⟨[(0,.val (.ref (cells r)))],[],[],109,G2⟩) (fun _=>¬(0<r.l8.length/\r.f=4)/\¬(0<r.l10.length/\r.f≠6)) (fun _=>rfl) ?_ ?_
 .by_cases b:0<r.l8.length
  .by_cases g:r.f=4
   .have:=a (.inr (.inl ⟨b,g⟩));subst this;simp(disch:=omega)[wl,is_len,b,g]
   by_cases d:0<r.l10.length
   .by_cases f:r.f=6
    .simp(disch:=omega)[wl,is_len,b,g,d,f];refine cz () ⟨fun h=>by omega,fun h=>by omega⟩ ?_;exact an rfl rfl (by simp[bj,aE,ac,cells,f]) (by simp[bZ,ac]) (by simp[bX])
    have:=a (.inr (.inr (.inl ⟨d,f⟩)));subst this;simp(disch:=omega)[wl,is_len,b,g,d,f]
   simp(disch:=omega)[wl,is_len,b,g,d];refine cz () ⟨fun h=>by omega,fun h=>by omega⟩ ?_;exact an rfl rfl (by simp[bj,aE,ac,cells]) (by simp[bZ,ac]) (by simp[bX])
  by_cases d:0<r.l10.length
  .by_cases f:r.f=6
   .simp(disch:=omega)[wl,is_len,b,d,f];refine cz () ⟨fun h=>by omega,fun h=>by omega⟩ ?_;exact an rfl rfl (by simp[bj,aE,ac,cells,f]) (by simp[bZ,ac]) (by simp[bX])
   have:=a (.inr (.inr (.inl ⟨d,f⟩)));subst this;simp(disch:=omega)[wl,is_len,b,d,f]
  simp(disch:=omega)[wl,is_len,b,d];refine cz () ⟨fun h=>by omega,fun h=>by omega⟩ ?_;exact an rfl rfl (by simp[bj,aE,ac,cells]) (by simp[bZ,ac]) (by simp[bX])
 rintro _ ⟨w,d3⟩;simp[cells];refine Qo hm (fun _:Unit=>⟨[(0,.val (.ref (cells r)))],[],[],109,G2⟩) (fun _=>¬(0<r.l9.length/\(r.f=3\/r.f=4\/r.f=5))) (fun _=>rfl) ?_ ?_
 .by_cases b:0<r.l9.length
  .by_cases g:r.f=3
   .have:=a (.inr (.inr (.inr (.inl ⟨b,.inl g⟩))));subst this;simp(disch:=omega)[wl,is_len,b,g]
   by_cases d:r.f=4
   .have:=a (.inr (.inr (.inr (.inl ⟨b,.inr (.inl d)⟩))));subst this;simp(disch:=omega)[wl,is_len,b,g,d]
   by_cases f:r.f=5
   .have:=a (.inr (.inr (.inr (.inl ⟨b,.inr (.inr f)⟩))));subst this;simp(disch:=omega)[wl,is_len,b,g,d,f]
   simp(disch:=omega)[wl,is_len,b,g,d,f];refine cz () (fun h=>by omega) ?_;exact an rfl rfl (by simp[bj,aE,ac,cells]) (by simp[bZ,ac]) (by simp[bX])
  simp(disch:=omega)[wl,is_len,b];refine cz () (fun h=>by omega) ?_;exact an rfl rfl (by simp[bj,aE,ac,cells]) (by simp[bZ,ac]) (by simp[bX])
 intro _ d4;by_cases b:r.l12.length=0
 .have:=c (fun h=>by rcases h with h|h|h|h|h<;>first|exact d1 h|exact w h|exact d3 h|exact d4 h|omega);subst this;have g:r.l12=[]:=List.eq_nil_of_length_eq_zero b;simp(disch:=omega)[wl,cells,is_len,b]
 have u:R=decide (0<Lv r 12):=by
  by_cases h:Lv r 12=0
  .rw[a (.inr (.inr (.inr (.inr ⟨by omega,h⟩))))];simp[h]
  rw[c (fun i=>by rcases i with i|i|i|i|i<;>first|exact d1 i|exact w i|exact d3 i|exact d4 i|omega)];simp;omega
 simp(disch:=omega)[wl,cells,is_len,aJ,b];refine bx hm [] (fun k:Nat=>[(5,.val (.int .i64 k)),(4,.val (.int .i64 (Lv r k:Nat))),(0,.val (.ref (cells r)))]) (fun _=>[]) (fun k=>4<=k/\k<=12) (fun k=>12-k) 4 ⟨by omega,by omega⟩ ?_ ?_
 .simp[Lv,cells];exact bA
 rintro k ⟨C,D⟩;simp;by_cases h:k<12
 .have p:k∈bq:=by simp[bq];omega
  have e:=acT r p h;have E:=j k;by_cases l:k=7
  .rw[if_pos l]at e;simp(disch:=omega)[wl,l];refine aj (k+1) ⟨by omega,by omega⟩ (by omega) ?_;simp[e];subst l;exact bA
  rw[if_neg l]at e;obtain⟨x,z⟩:=drop_at r k p l;have y:=Lu r k p l;have A:=o p l;rw[z]at y;have B:=j (k+1);simp(disch:=omega)[wl,l];refine aa y ?_;simp(disch:=omega)[wl,is_len];refine aj (k+1) ⟨by omega,by omega⟩ (by omega) ?_;simp[e];exact bA
 obtain rfl:k=12:=by omega
 subst u;simp(disch:=omega)[wl]
theorem TP(r:Ru){k:Nat}(h:k∈bq):vD ((bq.drop (k-4)).map (rF r))=if rF r k=0 then vD ((bq.drop (k-3)).map (rF r))else rF r k:=by
 simp only[bq,List.mem_cons,List.not_mem_nil,or_false]at h;rcases h with rfl|rfl|rfl|rfl|rfl|rfl|rfl|rfl|rfl<;>rfl
theorem ajh(k:Nat):0<=Nt k/\Nt k<=1/\Nt k<=L7 k/\0<=L7 k/\L7 k<=1000:=by
 unfold Nt L7;split<;>split<;>omega
def dX(r:Ru):List SV:=[.val (.int .u8 r.f),.val (.int .i64 r.i),.val (.int .i64 r.c),.val (.int .u8 r.u.k),.val (.int .i64 r.u.s),.val (.slice (is r.l4)),.val (.slice (is r.l5)),.val (.slice (is r.l6)),.val (.slice (B4 r.l7)),.val (.slice (is r.l8)),.val (.slice (is r.l9)),.val (.slice (is r.l10)),.val (.slice (is r.l11)),.val (.slice (is r.l12)),.val (.int .i64 r.w)]
theorem wF(r:Ru)(v:Do r)(D:0<=r.u.k):Fn G2 T_ 72 [r.iv] (.int .i64 (cT r)):=by
 refine ae hm Lq (by simp) ?_;have w:=afF r D;have A:=afG r v;obtain⟨R,b⟩:=A_ (cT r);rw[b];unfold cT at b;obtain⟨e,j⟩:=A_ (yi r);rw[j]at w b;unfold Ru.iv;unfold cells at w A;simp[C0,cells];refine aa w ?_;by_cases f:e=0
 .subst f;rw[if_neg (by simp)]at b;simp(disch:=omega)[wl];obtain⟨F,o⟩:=A_ (vD (bq.map (rF r)));rw[o]at b;have p:=@acS r v;have K:=v.2.2.2.1;refine Hs hm (fun k:Nat=>⟨[(4,.val (.int .i64 k)),(3,.val (.int .i64 0)),(2,.val (.int .i64 0)),(1,.loc 1 0)],[(1,.box (dX r))],[1],31,G2⟩) (fun k=>4<=k/\k<=13/\vD ((bq.drop (k-4)).map (rF r))=F) (fun k=>13-k) 4 ⟨by omega,by omega,by simpa using o⟩ ?_ (fun _=>rfl) ?_
  .simp[dX];exact bA
  rintro k ⟨L,M,g⟩;simp[dX];by_cases h:k<=12
  .have c:k∈bq:=by simp[bq];omega
   rw[TP r c]at g;obtain⟨e,j⟩:=A_ (rF r k);rw[j]at g
   have next:e=0->vD ((bq.drop (k+1-4)).map (rF r))=F:=fun f=>by
    rw[if_pos f]at g;rw[show k+1-4=k-3 by omega];exact g
   have q:e≠0->R=e:=fun f=>by
    rw[if_neg f]at g;subst g;rw[if_pos f]at b;exact b.symm
   by_cases m:k=7
   .subst m;have i:tG r.l7=e:=j;have s:=R5 r.l7 (by omega);rw[i]at s;simp(disch:=omega)[wl];refine aa s ?_;by_cases a:e=0
    .have x:=next a
     subst a;simp(disch:=omega)[wl];refine aj 8 ⟨by omega,by omega,x⟩ (by omega) ?_;simp[dX];exact bA
    have:=q a;subst this;simp(disch:=omega)[wl,a]
   have i:vC (Nt k) (L7 k) (TF k) (Ns r k)=e:=by unfold rF at j;rwa[if_neg m]at j
   obtain⟨B,E⟩:=drop_at r k c m;have y:=Lu r k c m;have H:=p c m;rw[E]at y;unfold cells at y;obtain⟨w1,I,w3,w4,J⟩:=ajh k;have C:=fn_within k (by omega);have s:=acQ (Ns r k) (Nt k) (L7 k) (TF k) (by omega) w1 I w4 J;rw[i]at s;unfold wiI at C;simp(disch:=omega)[wl,m];refine aa y ?_;simp(disch:=omega)[wl];refine aa C ?_;simp(disch:=omega)[wl];refine aa s ?_;by_cases a:e=0
   .have x:=next a
    subst a;simp(disch:=omega)[wl];refine⟨rfl,?_⟩;refine aj (k+1) ⟨by omega,by omega,x⟩ (by omega) ?_;simp[dX];exact bA
   have:=q a;subst this;simp(disch:=omega)[wl,a];rfl
  obtain rfl:k=13:=by omega
  have z:0=F:=g;subst z;rw[if_neg (by simp)]at b;simp(disch:=omega)[wl];refine aa A ?_;by_cases u:Nv r
  .rw[if_pos u]at b;subst b;simp(disch:=omega)[wl,u]
  rw[if_neg u]at b;subst b;simp(disch:=omega)[wl,u]
 rw[if_pos f]at b;subst b;simp(disch:=omega)[wl,f]
end Go.Vs.Y.Rc
