/- A part of a proof. No conditions. -/
import Derived.Test.YtnhbiolfmeeniaaGreatDoorNBz
set_option linter.all false
set_option maxRecDepth 100000
set_option maxHeartbeats 4000000
namespace Go.Vs.Y
open Go.Proofs Go.Vs.U8 Go.Vs.Pa Go.Vs.Nu Go.Lib
def dgs:Str:=[48,49,50,51,52,53,54,55,56,57]
theorem uI:dgs.length=10:=rfl
theorem QK:¬dgs=[]:=by simp[dgs]
theorem ah1{i:Nat}(h:i<10):∃c,dgs[i]?=some c/\c.toNat=48+i:=by
 have:i=0\/i=1\/i=2\/i=3\/i=4\/i=5\/i=6\/i=7\/i=8\/i=9:=by omega
 rcases this with rfl|rfl|rfl|rfl|rfl|rfl|rfl|rfl|rfl|rfl<;>exact⟨_,rfl,rfl⟩
theorem Ew:Fn G T_ 207 [.str dgs] (.tuple [.agg (zv 10),.bool true]):=by
 refine ae hm ww (by simp) ?_;simp[oy,KA,uI];refine bx hm [] (fun i:Nat=>[(4,.val (.int .i64 i))]) (fun i=>[(2,.box (zs i))]) (fun i=>i<=10) (fun i=>10-i) 0 (by omega) ?_ ?_
 .simp[zj];exact bA
 intro i e;simp[uI,zj];by_cases h:i<10
 .obtain⟨c,d,b⟩:=ah1 h;have a:=afc i h;have e0:(48+(i:Int)).toNat=48+i:=by omega
  simp(disch:=omega)[wl,uI,d,b,vm,a,e0];refine⟨by omega,by omega,?_⟩;refine aj (i+1) (by omega) (by omega) ?_;simp[a];exact bA
 obtain rfl:i=10:=by omega
 simp(disch:=omega)[wl,uI,vm,QC,QE,ahX,VN,QD,QF,Gt]
theorem wz(c:UInt8):Fn G T_ 244 [.ref (zv 10),.int .u8 c.toNat] (.bool (eI c)):=by
 refine ae hm qz (by simp) ?_;obtain⟨r,a⟩:=afd c;have b:c.toNat<256:=c.toNat_lt;simp[jS,a];omega
theorem VU(x:Str)(c:UInt8):fi (x++[c])=if eI c=true then fi x else x++[c]:=by
 unfold fi;rw[List.reverse_append];cases h:eI c<;>simp[h]
theorem uJ(s:Str)(n:s.length<1000000):Fn G T_ 208 [.str s,.ref (zv 10)] (.str (fi s)):=by
 refine ae hm uu (by simp) ?_;simp[mz];refine bx hm [] (fun k:Nat=>[(0,.val (.str (s.take k)))]) (fun _=>[]) (fun k=>k<=s.length/\fi (s.take k)=fi s) (fun k=>k) s.length ⟨by omega,by simp⟩ ?_ ?_
 .simp;exact bA
 rintro k ⟨o,a⟩;have d:(s.take k).length=k:=by rw[List.length_take];omega
 simp[d];cases k with
 |zero=>
  have:fi s=[]:=by rw[<-a];simp[fi]
  simp(disch:=omega)[wl,this]
 |succ k=>
  have h:k<s.length:=by omega
  obtain⟨c,i⟩:=A_ (s[k]);have e:s.take (k+1)=s.take k++[c]:=by rw[List.take_succ_eq_append_getElem h,i]
  have l:=wz c;have f:(s.take (k+1))[k]?=some c:=by rw[List.getElem?_take_of_lt (by omega),List.getElem?_eq_getElem h,i]
  have b:(s.take (k+1)).take k=s.take k:=by rw[List.take_take,Nat.min_eq_left (by omega)]
  rw[e,VU]at a;obtain⟨S,m⟩:=A_ (s.take (k+1));rw[m]at f b d e |-
  have g:S[k]'(by omega)=c:=by
   rw[List.getElem?_eq_getElem (by omega)]at f;simpa using f
  simp(disch:=omega)[wl,d,g];refine aa l ?_;cases j:eI c with
  |true=>
   rw[if_pos j]at a;simp(disch:=omega)[wl,d,b];refine⟨by omega,?_⟩;refine aj k ⟨by omega,a⟩ (by omega) ?_;simp;exact bA
  |false=>
   rw[if_neg (by simp[j]),<-e]at a;simp(disch:=omega)[wl,a]
theorem GA(s:Str)(i:s.length<1000000):Fn G T_ 237 [.str s,.ref (zv 10)] (.str (s.dropWhile eI)):=by
 refine ae hm vt (by simp) ?_;simp[nL];refine bx hm [] (fun k:Nat=>[(0,.val (.str (s.drop k)))]) (fun _=>[]) (fun k=>k<=s.length/\(s.drop k).dropWhile eI=s.dropWhile eI) (fun k=>s.length-k) 0 ⟨by omega,by simp⟩ ?_ ?_
 .simp;exact bA
 rintro k ⟨j,a⟩;by_cases h:k<s.length
 .obtain⟨c,e⟩:=A_ (s[k]);have f:=wz c;have d:(s.drop (k+1)).take (s.length-(k+1))=s.drop (k+1):=List.take_of_length_le (by rw[List.length_drop];omega);have g:s.drop k=c::s.drop (k+1):=by rw[<-e];exact List.drop_eq_getElem_cons h
  rw[g]at a |-;simp(disch:=omega)[wl];refine aa f ?_;cases b:eI c with
  |true=>
   rw[List.dropWhile_cons_of_pos b]at a;simp(disch:=omega)[wl,d];refine⟨by omega,?_⟩;refine aj (k+1) ⟨by omega,a⟩ (by omega) ?_;simp;exact bA
  |false=>
   rw[List.dropWhile_cons_of_neg (by simp[b])]at a;simp(disch:=omega)[wl,<-a]
 obtain rfl:k=s.length:=by omega
 have:s.dropWhile eI=[]:=by rw[<-a,List.drop_length];rfl
 simp(disch:=omega)[wl,this]
def BC(s:Str):Str:=(fi s).dropWhile eI
theorem Pe(s:Str):(fi s).length<=s.length:=by
 obtain⟨d,a,_⟩:=xp s;have:=congrArg List.length a;rw[List.length_append]at this;omega
theorem Pf(s:Str):BC s=[]↔s.all eI=true:=by
 unfold BC;obtain⟨d,f,a⟩:=xp s;constructor
 .intro h
  have:(fi s).all eI=true:=by
   rw[List.all_eq_true];have b:=List.takeWhile_append_dropWhile (p:=eI) (l:=fi s);rw[h,List.append_nil]at b;intro c e;rw[<-b]at e;exact List.all_eq_true.1 (List.all_takeWhile (l:=fi s) (p:=eI)) c e
  rw[f,List.all_append,this,a];rfl
 intro h
 have g:fi s=[]:=by
  have:=QB [] h;simpa[fi]using this
 rw[g];rfl
theorem QL(s:Str)(a:s.length<1000000):Fn G T_ 148 [.str s,.str dgs] (.str (fi s)):=by
 refine ae hm zo (by simp) ?_;simp[rA,KA,uI,QK];by_cases h:s=[]
 .have:fi s=[]:=by rw[h];rfl
  simp(disch:=omega)[wl,h,this];simp[fi]
 simp(disch:=omega)[wl,h,uI,QK];refine aa Ew ?_;simp(disch:=omega)[wl,zj,vm,VN,QD,QC,QE,QF,Gt];refine aa (uJ s a) ?_;simp(disch:=omega)[wl]
theorem Xp(s:Str)(a:s.length<1000000):Fn G T_ 199 [.str s,.str dgs] (.str (BC s)):=by
 refine ae hm Iw (by simp) ?_;simp[zq,KA,uI,QK];by_cases h:s=[]
 .have:BC s=[]:=by rw[h];rfl
  simp(disch:=omega)[wl,h];simp[BC,fi]
 simp(disch:=omega)[wl,h,uI,QK];refine aa Ew ?_;simp(disch:=omega)[wl,zj,vm,VN,QD,QC,QE,QF,Gt];refine aa (uJ s a) ?_;simp(disch:=omega)[wl,zj,QF];refine aa (GA (fi s) (by have:=Pe s;omega)) ?_;simp(disch:=omega)[wl,BC]
def is(l:List Int):List (List IV):=l.map fun n=>[.int .i64 n]
def B4(l:List Dn):List (List IV):=l.map fun x=>[.int .i64 x.1,.int .i64 x.2]
theorem is_len(l:List Int):(is l).length=l.length:=by simp[is]
theorem aJ(l:List Dn):(B4 l).length=l.length:=by simp[B4]
theorem vv{l:List Int}{i:Nat}{n:Int}(h:i<l.length)(a:l[i]=n):(is l)[i]?=some [.int .i64 n]:=by simp[is,h,a]
theorem AO{l:List Dn}{i:Nat}{x:Dn}(h:i<l.length)(a:l[i]=x):(B4 l)[i]?=some [.int .i64 x.1,.int .i64 x.2]:=by simp[B4,h,a]
theorem Xq(l:List Int)(n:Int):is (l++[n])=is l++[[.int .i64 n]]:=by simp[is]
theorem acf(l:List Dn)(x:Dn):B4 (l++[x])=B4 l++[[.int .i64 x.1,.int .i64 x.2]]:=by simp[B4]
def S8{a:Type} [DecidableEq a](l:List a)(x:a):Int:=if x∈l then (l.idxOf x:Int)else -1
theorem Tp{c:Type} [DecidableEq c]{l:List c}{i:Nat}{x:c}(h:i<l.length)(d:l[i]=x)(f:x∉l.take i):S8 l x=i:=by
 have hm:x∈l:=d▸List.getElem_mem h;unfold S8;rw[if_pos hm];have g:=List.idxOf_lt_length_iff.2 hm;have j:=List.getElem_idxOf g
 have a:¬i<l.idxOf x:=fun e=>by
  have:=List.not_of_lt_findIdx (p:=(· == x)) (xs:=l) (i:=i) e;simp[d]at this
 have b:¬l.idxOf x<i:=fun e=>f (by
  rw[List.mem_take_iff_getElem]
  exact⟨l.idxOf x,by omega,j⟩)
 omega
theorem Tq{a:Type} [DecidableEq a]{l:List a}{x:a}(h:x∉l):S8 l x = -1:=by unfold S8;rw[if_neg h]
theorem VV{a:Type} [DecidableEq a](l:List a)(x:a):0<=S8 l x↔x∈l:=by
 unfold S8;split
 .next h=>exact⟨fun _=>h,fun _=>by omega⟩
 next h=>exact⟨fun h=>by omega,fun b=>absurd b h⟩
theorem take_no{b:Type}{l:List b}{i:Nat}{x y:b}(h:i<l.length)(c:l[i]=y)(d:x∉l.take i)(a:¬x=y):x∉l.take (i+1):=by
 rw[List.take_succ_eq_append_getElem h,c];simp only[List.mem_append,List.mem_singleton,not_or];exact⟨d,a⟩
theorem QM(l:List Int)(x:Int)(f:l.length<1000000):Fn G T_ 215 [.slice (is l),.int .i64 x] (.int .i64 (S8 l x)):=by
 refine ae hm rE (by simp) ?_;simp[nw,is_len];refine bx hm [] (fun i:Nat=>[(8,.val (.int .i64 i))]) (fun _=>[]) (fun i=>i<=l.length/\x∉l.take i) (fun i=>l.length-i) 0 ⟨by omega,by simp⟩ ?_ ?_
 .simp;exact bA
 rintro i ⟨g,a⟩;simp[is_len];by_cases h:i<l.length
 .obtain⟨y,b⟩:=A_ (l[i]);have c:=vv h b;by_cases e:x=y
  .have d:=Tp h (b.trans e.symm) a;rw[d];simp(disch:=omega)[wl,is_len,c,e]
  simp(disch:=omega)[wl,is_len,c,e];refine aj (i+1) ⟨by omega,take_no h b a e⟩ (by omega) ?_;simp;exact bA
 obtain rfl:i=l.length:=by omega
 rw[List.take_length]at a;rw[Tq a];simp(disch:=omega)[wl]
theorem qW(l:List Int)(x:Int)(a:l.length<1000000):Fn G T_ 162 [.slice (is l),.int .i64 x] (.bool (decide (x∈l))):=by
 refine ae hm oD (by simp) ?_;have:decide (x∈l)=decide (0<=S8 l x):=by rw[decide_eq_decide,VV]
 rw[this];simp[pk];refine aa (QM l x a) ?_;simp
theorem fn_Has(l:List Int)(x:Int)(b:l.length<1000000):Fn G T_ 278 [.slice (is l),.int .i64 x] (.bool (decide (x∈l))):=by
 refine ae hm To (by simp) ?_;simp[KO];refine aa (qW l x b) ?_;simp
theorem Tr(l:List Dn)(x:Dn)(g:l.length<1000000):Fn G T_ 218 [.slice (B4 l),.agg [.int .i64 x.1,.int .i64 x.2]] (.int .i64 (S8 l x)):=by
 refine ae hm xA (by simp) ?_;simp[pm,aJ];refine bx hm [] (fun i:Nat=>[(8,.val (.int .i64 i))]) (fun _=>[]) (fun i=>i<=l.length/\x∉l.take i) (fun i=>l.length-i) 0 ⟨by omega,by simp⟩ ?_ ?_
 .simp;exact bA
 rintro i ⟨j,a⟩;simp[aJ];by_cases h:i<l.length
 .obtain⟨y,c⟩:=A_ (l[i]);have d:=AO h c;by_cases e:x=y
  .have f:=Tp h (c.trans e.symm) a;rw[f];simp(disch:=omega)[wl,aJ,d,e]
  have e2:¬(x.1=y.1/\x.2=y.2):=fun h=>e (Prod.ext h.1 h.2)
  by_cases b:x.1=y.1
  .have e4:¬x.2=y.2:=fun h=>e2 ⟨b,h⟩
   simp(disch:=omega)[wl,aJ,d,b,e4];refine aj (i+1) ⟨by omega,take_no h c a e⟩ (by omega) ?_;simp;exact an rfl rfl (by simp[bj,aE,ac,b]) (by simp[bZ,ac,b]) (by simp[bX])
  simp(disch:=omega)[wl,aJ,d,b];refine aj (i+1) ⟨by omega,take_no h c a e⟩ (by omega) ?_;simp;exact bA
 obtain rfl:i=l.length:=by omega
 rw[List.take_length]at a;rw[Tq a];simp(disch:=omega)[wl]
theorem zw(l:List Dn)(x:Dn)(a:l.length<1000000):Fn G T_ 170 [.slice (B4 l),.agg [.int .i64 x.1,.int .i64 x.2]] (.bool (decide (x∈l))):=by
 refine ae hm ut (by simp) ?_;have:decide (x∈l)=decide (0<=S8 l x):=by rw[decide_eq_decide,VV]
 rw[this];simp[mw];refine aa (Tr l x a) ?_;simp
def Dd(p:Int×Int):IV:=.tuple [.int .i64 p.1,.int .i64 p.2]
theorem KQ(x:Str)(c:UInt8):bE 0 (x++[c])=10*bE 0 x+(c.toNat-48):=by rw[Kx,J9]
theorem val_bd{s:Str}{d:Nat}(h:s.all eI=true)(a:s.length<=d):bE 0 s<10 ^ d:=by
 have b:=Gs s 0 h;have c:10 ^ s.length<=10 ^ d:=Nat.pow_le_pow_right (by omega) a;omega
theorem QN{c:UInt8}(h:eI c=true):48<=c.toNat/\c.toNat<=57:=by simpa[eI]using h
def sgO(a:Bool)(s:Str):Bool:=a&&(decide (s[0]?=some 43)||decide (s[0]?=some 45))
def BD(a:Bool)(s:Str):Str:=if sgO a s then s.drop 1 else s
def Zk(a:Bool)(s:Str):Bool:=a&&decide (s[0]?=some 45)
theorem afj(digits:Nat)(b c:Int)(a:Bool)(s:Str):dT digits b c a s=if BD a s=[]\/digits<(BD a s).length\/(BD a s).all eI=false then (0,4)
  else if (bE 0 (BD a s):Int)<b\/c<(bE 0 (BD a s):Int)then (0,8)else (if Zk a s=true then -(bE 0 (BD a s):Int)else (bE 0 (BD a s):Int),0):=by
 have e:(sgO a s=true/\s[0]?=some 45)↔Zk a s=true:=by
  simp only[sgO,Zk,Bool.and_eq_true,Bool.or_eq_true,decide_eq_true_eq];exact⟨fun h=>⟨h.1.1,h.2⟩,fun h=>⟨⟨h.1,.inr h.2⟩,h.2⟩⟩
 unfold dT;simp only[<-e];rfl
theorem afk(c:UInt8):(0<=qT [43,45] c↔(c=43\/c=45))/\-1<=qT [43,45] c:=by
 have a:=Ks [43,45] c;simp only[List.mem_cons,List.not_mem_nil,or_false,not_or]at a;constructor
 .constructor
  .intro h;by_cases b:c=43\/c=45
   .exact b
   have:=a.2 ⟨fun e=>b (.inl e),fun e=>b (.inr e)⟩;omega
  intro h;by_cases d:qT [43,45] c<0
  .have:=a.1 d;rcases h with h|h
   .exact absurd h this.1
   exact absurd h this.2
  omega
 rcases th [43,45] c with⟨h,_⟩|⟨j,h,_,_⟩<;>omega
theorem GB(digits:Nat)(v j:Int)(k:Bool)(s:Str)(N:digits<=9)(I:s.length<1000000):Fn G T_ 141 [.str s,.int .i64 digits,.int .i64 v,.int .i64 j,.bool k] (Dd (dT digits v j k s)):=by
 refine ae hm KK (by simp) ?_;rw[afj];obtain⟨b,w⟩:=A_ (BD k s);obtain⟨o,l⟩:=A_ (Zk k s)
 have y:b.length<1000000:=by
  rw[<-w];unfold BD;split
  .rw[List.length_drop];omega
  exact I
 rw[w,l];obtain⟨R,a⟩:∃R,(if b=[]\/digits<b.length\/b.all eI=false then ((0,4):Int×Int)else if (bE 0 b:Int)<v\/j<(bE 0 b:Int)then (0,8)else (if o=true then -(bE 0 b:Int)else (bE 0 b:Int),0))=R:=⟨_,rfl⟩;rw[a];simp[By];refine Vy hm [] [] (fun _:Unit=>[(0,.val (.str b)),(12,.val (.bool o))]) (fun _=>[]) (fun _=>True) ?_ ?_
 .have plain:sgO k s=false->b=s/\o=false:=fun h=>by
   constructor
   .rw[<-w,BD,h];rfl
   rw[<-l];cases g:Zk k s with
   |false=>rfl
   |true=>
    exfalso;simp only[Zk,Bool.and_eq_true]at g;simp[sgO,g.1,g.2]at h
  cases k with
  |false=>
   obtain⟨rfl,rfl⟩:=plain rfl;simp(disch:=omega)[wl];refine cz () trivial ?_;simp;exact bA
  |true=>
   cases s with
   |nil=>
    obtain⟨rfl,rfl⟩:=plain rfl;simp(disch:=omega)[wl];refine cz () trivial ?_;simp;exact bA
   |cons c r=>
    obtain⟨Ng,z⟩:=afk c;have H:=El [43,45] c;obtain⟨q,J⟩:=A_ (qT [43,45] c);rw[J]at H Ng z;simp(disch:=omega)[wl];refine aa H ?_;by_cases f:c=43\/c=45
    .have A:=Ng.2 f
     have e1:b=r:=by
      rw[<-w];rcases f with rfl|rfl<;>rfl
     have e2:o=decide (c.toNat=45):=by
      rw[<-l];rcases f with rfl|rfl<;>rfl
     rw[e1,e2];simp(disch:=omega)[wl];refine⟨by omega,?_⟩;refine cz () trivial ?_;simp;exact an rfl rfl (by simp[bj,aE,ac];omega) (by simp[bZ,ac]) (by simp[bX])
    have A:¬0<=q:=fun h=>f (Ng.1 h)
    obtain⟨e1,e2⟩:=plain (by
     have m:¬c=43:=fun e=>f (.inl e)
     have g:¬c=45:=fun e=>f (.inr e)
     simp[sgO,m,g])
    rw[e1,e2];simp(disch:=omega)[wl];refine cz () trivial ?_;simp;exact bA
 rintro _ _;simp;by_cases m:b=[]
 .rw[if_pos (.inl m)]at a;subst a;simp(disch:=omega)[wl,m];simp[Dd]
 by_cases g:digits<b.length
 .rw[if_pos (.inr (.inl g))]at a;subst a;simp(disch:=omega)[wl,m];simp[Dd]
 have hT:=Xp b y;simp(disch:=omega)[wl,m];refine aa hT ?_;by_cases x:b.all eI=true
 .have d:=x;have n:=(Pf b).2 x
  have B:∀i,i<=b.length->bE 0 (b.take i)<10 ^ 9:=fun i j=>val_bd (by
   rw[List.all_eq_true]at d |-
   exact fun c f=>d c (List.mem_of_mem_take f)) (by rw[List.length_take];omega)
  simp(disch:=omega)[wl,n];refine Vy hm [] [] (fun _:Unit=>[(13,.val (.int .i64 (bE 0 b:Nat)))]) (fun _=>[]) (fun _=>True) ?_ ?_
  .simp;refine bx hm [] (fun i:Nat=>[(14,.val (.int .i64 i)),(13,.val (.int .i64 (bE 0 (b.take i):Nat)))]) (fun _=>[]) (fun i=>i<=b.length) (fun i=>b.length-i) 0 (by omega) ?_ ?_
   .have e:bE 0 ([]:Str)=0:=rfl;simp[e];exact bA
   intro i j;simp;by_cases h:i<b.length
   .obtain⟨c,f⟩:=A_ (b[i]);obtain⟨d1,O⟩:=QN (List.all_eq_true.1 d c (f▸List.getElem_mem h))
    have K:bE 0 (b.take (i+1))=10*bE 0 (b.take i)+(c.toNat-48):=by
     rw[List.take_succ_eq_append_getElem h,f,KQ]
    have C:=B (i+1) (by omega);have D:=B i j;have e:(10*(bE 0 (b.take i):Nat)+((c.toNat:Int)-48):Int)=(bE 0 (b.take (i+1)):Nat):=by omega
    obtain⟨V,p⟩:=A_ (bE 0 (b.take i));obtain⟨W,E⟩:=A_ (bE 0 (b.take (i+1)));rw[p,E]at e K;rw[p]at D |-;rw[E]at C;simp(disch:=omega)[wl,f,e];refine aj (i+1) (by omega) (by omega) ?_;simp[E];exact bA
   obtain rfl:i=b.length:=by omega
   rw[List.take_length];simp(disch:=omega)[wl];refine cz () trivial ?_;simp;exact bA
  rintro _ _;have u:=B b.length (Nat.le_refl _);rw[List.take_length]at u;obtain⟨V,p⟩:=A_ (bE 0 b);rw[p]at u |-;simp;rw[p,if_neg (by rw[d];simp only[not_or];exact⟨m,g,by simp⟩)]at a;by_cases L:(V:Int)<v
  .rw[if_pos (.inl L)]at a;subst a;simp(disch:=omega)[wl];simp[Dd]
  by_cases M:j<(V:Int)
  .rw[if_pos (.inr M)]at a;subst a;simp(disch:=omega)[wl];simp[Dd]
  rw[if_neg (by omega)]at a;subst a;simp(disch:=omega)[wl];refine uF hm ?_;cases o with
  |true=>
   simp(disch:=omega)[wl];simp[Dd]
  |false=>
   simp(disch:=omega)[wl];simp[Dd]
 have n:¬BC b=[]:=fun h=>x ((Pf b).1 h)
 have F:b.all eI=false:=by simpa using x
 rw[if_pos (.inr (.inr F))]at a;subst a;simp(disch:=omega)[wl,n];simp[Dd]
theorem KR(s:Str):Fn G T_ 204 [.str s] (.int .i64 (Iv s)):=by
 refine ae hm Ix (by simp) ?_;simp[zt];unfold Iv;by_cases a:s=[77,79]
 .rw[if_pos a];simp(disch:=omega)[wl,a]
 rw[if_neg a];by_cases b:s=[84,85]
 .rw[if_pos b];simp(disch:=omega)[wl,a,b]
 rw[if_neg b];by_cases d:s=[87,69]
 .rw[if_pos d];simp(disch:=omega)[wl,a,b,d]
 rw[if_neg d];by_cases e:s=[84,72]
 .rw[if_pos e];simp(disch:=omega)[wl,a,b,d,e]
 rw[if_neg e];by_cases g:s=[70,82]
 .rw[if_pos g];simp(disch:=omega)[wl,a,b,d,e,g]
 rw[if_neg g];by_cases h:s=[83,65]
 .rw[if_pos h];simp(disch:=omega)[wl,a,b,d,e,g,h]
 rw[if_neg h];by_cases j:s=[83,85]
 .rw[if_pos j];simp(disch:=omega)[wl,a,b,d,e,g,h,j]
 rw[if_neg j];simp(disch:=omega)[wl,a,b,d,e,g,h,j]
theorem oE(d:Int):Fn G T_ 118 [.int .i64 d] (.str (yB d)):=by
 refine ae hm B2 (by simp) ?_;simp[tA];by_cases a:d<0
 .have:yB d=[]:=by unfold yB;rw[if_pos (.inl a)]
  simp(disch:=omega)[wl,this]
 by_cases b:6<d
 .have:yB d=[]:=by unfold yB;rw[if_pos (.inr b)]
  simp(disch:=omega)[wl,this]
 rcases Tj (d:=d) (by omega) (by omega)with rfl|rfl|rfl|rfl|rfl|rfl|rfl <;>
 .simp(disch:=omega)[wl];rfl
def Zl(p:Int×Int):IV:=.tuple [.int .i64 p.1,if p.2=0 then .nili else dD p.2 [0]]
theorem Jd(a b:Int)(d:Bool)(s:Str)(h:s.length<1000000):Fn G T_ 95 [.str s,.int .i64 a,.int .i64 b,.bool d] (Zl (dT 5 a b d s)):=by
 refine ae hm Tl (by simp) ?_;obtain⟨⟨n,e⟩,j⟩:=A_ (dT 5 a b d s);have g:=GB 5 a b d s (by omega) h;rw[j]at g |-;simp only[Int.cast_ofNat_Int,Dd]at g;simp[KI];refine aa g ?_;simp;refine aa (gQ e 0) ?_;simp[Zl]
theorem Zm(a b:Int)(c:Bool)(s:Str)(f:s.length<1000000):Fn G T_ 243 [.str s,.ref [.int .i64 a],.ref [.int .i64 b],.ref [.bool c]] (Dd (dT 5 a b c s)):=by
 refine ae hm KN (by simp) ?_;obtain⟨⟨n,e⟩,g⟩:=A_ (dT 5 a b c s);have d:=GB 5 a b c s (by omega) f;rw[g]at d |-;simp only[Int.cast_ofNat_Int,Dd]at d;simp[BA];refine aa d ?_;simp[Dd]
def Ts(p:Dn×Int):IV:=.tuple [.agg [.int .i64 p.1.1,.int .i64 p.1.2],.int .i64 p.2]
theorem acg{s:Str}(k:Nat):(s.drop k).take (s.length-k)=s.drop k:=List.take_of_length_le (by rw[List.length_drop];omega)
theorem ah2(s:Str)(q:s.length<1000000):Fn G T_ 241 [.str s] (Ts (tw s)):=by
 refine ae hm Tn (by simp) ?_;obtain⟨R,a⟩:=A_ (tw s);rw[a];unfold tw at a;simp[KL];by_cases i:s.length<2
 .rw[if_pos i]at a;subst a;simp(disch:=omega)[wl,Ts]
 rw[if_neg i]at a;obtain⟨k,u⟩:∃k,s.length=k+2:=⟨s.length-2,by omega⟩;have c:s.length-2=k:=by omega
 rw[c]at a;have e0:((s.length:Int)-2)=(k:Int):=by omega
 have f:=acg (s:=s) k;obtain⟨d,o⟩:=A_ (Iv (s.drop k));have j:=KR (s.drop k);have g:=Zi (s.drop k);rw[o]at j a g;simp(disch:=omega)[wl,e0,f];refine⟨by omega,?_⟩;refine aa j ?_;by_cases l:d<0
 .rw[if_pos l]at a;subst a;simp(disch:=omega)[wl,Ts]
 rw[if_neg l]at a;by_cases m:k=0
 .rw[if_pos (by omega)]at a;subst a;simp(disch:=omega)[wl,Ts,m]
 rw[if_neg (by omega)]at a;obtain⟨⟨n,e⟩,p⟩:=A_ (dT 2 1 53 true (s.take k));have h:=GB 2 1 53 true (s.take k) (by omega) (by rw[List.length_take];omega);rw[p]at h a;simp only[Int.cast_ofNat_Int,Dd]at h;simp only at a;simp(disch:=omega)[wl,m];refine⟨by omega,?_⟩;refine aa h ?_;by_cases b:e=0
 .rw[if_neg (by simp[b])]at a;subst a;simp(disch:=omega)[wl,Ts,b]
 rw[if_pos b]at a;subst a;simp(disch:=omega)[wl,Ts,b]
end Go.Vs.Y
