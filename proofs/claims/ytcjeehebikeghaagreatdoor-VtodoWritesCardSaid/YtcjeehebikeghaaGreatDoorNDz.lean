/- A part of a proof. No conditions. -/
import Derived.Test.YtcjeehebikeghaaGreatDoorNBz
set_option linter.unusedVariables false
set_option linter.unusedSimpArgs false
set_option maxRecDepth 100000
set_option maxHeartbeats 4000000
namespace Go.Vs.YtcjeehebikeghaaGreatDoor
open Go.Proofs Go.Vs.U8 Go.Vs.Pa Go.Vs.Nu Go.Lib
def dgs:Str:=[48,49,50,51,52,53,54,55,56,57]
theorem ri:dgs.length=10:=rfl
theorem NV:¬dgs=[]:=by simp[dgs]
theorem ac1{i:Nat}(h:i<10):∃c,dgs[i]?=some c/\c.toNat=48+i:=by
 have:i=0\/i=1\/i=2\/i=3\/i=4\/i=5\/i=6\/i=7\/i=8\/i=9:=by omega
 rcases this with rfl|rfl|rfl|rfl|rfl|rfl|rfl|rfl|rfl|rfl<;>exact⟨_,rfl,rfl⟩
theorem Cu:Fn G T_ 290 [.str dgs] (.tuple [.agg (zv 10),.bool true]):=by
 refine ae hm tz (by simp) ?_;simp[lK,If,ri];refine be hm [] (fun i:Nat=>[(4,.val (.int .i64 i))]) (fun i=>[(2,.box (zs i))]) (fun i=>i<=10) (fun i=>10-i) 0 (by omega) ?_ ?_
 ·simp[wC];exact bp
 intro i e;simp[ri,wC];by_cases h:i<10
 ·obtain⟨c,d,b⟩:=ac1 h;have a:=aaE i h;have e0:(48+(i:Int)).toNat=48+i:=by omega
  simp(disch:=omega)[wl,ri,d,b,rU,a,e0];refine⟨by omega,by omega,?_⟩;refine ai (i+1) (by omega) (by omega) ?_;simp[a];exact bp
 ·obtain rfl:i=10:=by omega
  simp(disch:=omega)[wl,ri,rU,NI,NK,acV,Ss,NJ,NL,Eo]
theorem tF(c:UInt8):Fn G T_ 332 [.ref (zv 10),.int .u8 c.toNat] (.bool (d7 c)):=by
 refine ae hm nR (by simp) ?_;obtain⟨r,a⟩:=aaF c;have b:c.toNat<256:=c.toNat_lt;simp[iC,a];omega
theorem SC(x:Str)(c:UInt8):dk (x++[c])=if d7 c=true then dk x else x++[c]:=by
 unfold dk;rw[List.reverse_append];cases h:d7 c<;>simp[h]
theorem rj(s:Str)(n:s.length<1000000):Fn G T_ 291 [.str s,.ref (zv 10)] (.str (dk s)):=by
 refine ae hm qO (by simp) ?_;simp[kg];refine be hm [] (fun k:Nat=>[(0,.val (.str (s.take k)))]) (fun _=>[]) (fun k=>k<=s.length/\dk (s.take k)=dk s) (fun k=>k) s.length ⟨by omega,by simp⟩ ?_ ?_
 ·simp;exact bp
 rintro k ⟨o,a⟩;have d:(s.take k).length=k:=by rw[List.length_take];omega
 simp[d];cases k with
 |zero=>
  have:dk s=[]:=by rw[<-a];simp[dk]
  simp(disch:=omega)[wl,this]
 |succ k=>
  have h:k<s.length:=by omega
  obtain⟨c,i⟩:∃c,s[k]=c:=⟨_,rfl⟩;have e:s.take (k+1)=s.take k++[c]:=by rw[List.take_succ_eq_append_getElem h,i]
  have l:=tF c;have f:(s.take (k+1))[k]?=some c:=by rw[List.getElem?_take_of_lt (by omega),List.getElem?_eq_getElem h,i]
  have b:(s.take (k+1)).take k=s.take k:=by rw[List.take_take,Nat.min_eq_left (by omega)]
  rw[e,SC]at a;obtain⟨S,m⟩:∃S,s.take (k+1)=S:=⟨_,rfl⟩;rw[m]at f b d e |-
  have g:S[k]'(by omega)=c:=by
   rw[List.getElem?_eq_getElem (by omega)]at f;simpa using f
  simp(disch:=omega)[wl,d,g];refine aa l ?_;cases j:d7 c with
  |true=>
   rw[if_pos j]at a;simp(disch:=omega)[wl,d,b];refine⟨by omega,?_⟩;refine ai k ⟨by omega,a⟩ (by omega) ?_;simp;exact bp
  |false=>
   rw[if_neg (by simp[j]),<-e]at a;simp(disch:=omega)[wl,a]
theorem Ey(s:Str)(i:s.length<1000000):Fn G T_ 325 [.str s,.ref (zv 10)] (.str (s.dropWhile d7)):=by
 refine ae hm rZ (by simp) ?_;simp[kY];refine be hm [] (fun k:Nat=>[(0,.val (.str (s.drop k)))]) (fun _=>[]) (fun k=>k<=s.length/\(s.drop k).dropWhile d7=s.dropWhile d7) (fun k=>s.length-k) 0 ⟨by omega,by simp⟩ ?_ ?_
 ·simp;exact bp
 rintro k ⟨j,a⟩;by_cases h:k<s.length
 ·obtain⟨c,e⟩:∃c,s[k]=c:=⟨_,rfl⟩;have f:=tF c;have d:(s.drop (k+1)).take (s.length-(k+1))=s.drop (k+1):=List.take_of_length_le (by rw[List.length_drop];omega);have g:s.drop k=c::s.drop (k+1):=by rw[<-e];exact List.drop_eq_getElem_cons h
  rw[g]at a |-;simp(disch:=omega)[wl];refine aa f ?_;cases b:d7 c with
  |true=>
   rw[List.dropWhile_cons_of_pos b]at a;simp(disch:=omega)[wl,d];refine⟨by omega,?_⟩;refine ai (k+1) ⟨by omega,a⟩ (by omega) ?_;simp;exact bp
  |false=>
   rw[List.dropWhile_cons_of_neg (by simp[b])]at a;simp(disch:=omega)[wl,<-a]
 ·obtain rfl:k=s.length:=by omega
  have:s.dropWhile d7=[]:=by rw[<-a,List.drop_length];rfl
  simp(disch:=omega)[wl,this]
def zn(s:Str):Str:=(dk s).dropWhile d7
theorem Mz(s:Str):(dk s).length<=s.length:=by
 obtain⟨d,a,_⟩:=uw s;have:=congrArg List.length a;rw[List.length_append]at this;omega
theorem MA(s:Str):zn s=[]↔s.all d7=true:=by
 unfold zn;obtain⟨d,f,a⟩:=uw s;constructor
 ·intro h
  have:(dk s).all d7=true:=by
   rw[List.all_eq_true];have b:=List.takeWhile_append_dropWhile (p:=d7) (l:=dk s);rw[h,List.append_nil]at b;intro c e;rw[<-b]at e;exact List.all_eq_true.1 (List.all_takeWhile (l:=dk s) (p:=d7)) c e
  rw[f,List.all_append,this,a];rfl
 ·intro h
  have g:dk s=[]:=by
   have:=C2 [] h;simpa[dk]using this
  rw[g];rfl
theorem NW(s:Str)(a:s.length<1000000):Fn G T_ 223 [.str s,.str dgs] (.str (dk s)):=by
 refine ae hm wJ (by simp) ?_;simp[oF,If,ri,NV];by_cases h:s=[]
 ·have:dk s=[]:=by rw[h];rfl
  simp(disch:=omega)[wl,h,this];simp[dk]
 ·simp(disch:=omega)[wl,h,ri,NV];refine aa Cu ?_;simp(disch:=omega)[wl,wC,rU,Ss,NJ,NI,NK,NL,Eo];refine aa (rj s a) ?_;simp(disch:=omega)[wl]
theorem TP(s:Str)(a:s.length<1000000):Fn G T_ 282 [.str s,.str dgs] (.str (zn s)):=by
 refine ae hm Gs (by simp) ?_;simp[wL,If,ri,NV];by_cases h:s=[]
 ·have:zn s=[]:=by rw[h];rfl
  simp(disch:=omega)[wl,h];simp[zn,dk]
 ·simp(disch:=omega)[wl,h,ri,NV];refine aa Cu ?_;simp(disch:=omega)[wl,wC,rU,Ss,NJ,NI,NK,NL,Eo];refine aa (rj s a) ?_;simp(disch:=omega)[wl,wC,NL];refine aa (Ey (dk s) (by have:=Mz s;omega)) ?_;simp(disch:=omega)[wl,zn]
def is(l:List Int):List (List IV):=l.map fun n=>[.int .i64 n]
def sX(l:List Dn):List (List IV):=l.map fun x=>[.int .i64 x.1,.int .i64 x.2]
theorem is_len(l:List Int):(is l).length=l.length:=by simp[is]
theorem aH(l:List Dn):(sX l).length=l.length:=by simp[sX]
theorem uG{l:List Int}{i:Nat}{n:Int}(h:i<l.length)(a:l[i]=n):(is l)[i]?=some [.int .i64 n]:=by simp[is,h,a]
theorem kC{l:List Dn}{i:Nat}{x:Dn}(h:i<l.length)(a:l[i]=x):(sX l)[i]?=some [.int .i64 x.1,.int .i64 x.2]:=by simp[sX,h,a]
theorem NX(l:List Int)(n:Int):is (l++[n])=is l++[[.int .i64 n]]:=by simp[is]
theorem Iw(l:List Dn)(x:Dn):sX (l++[x])=sX l++[[.int .i64 x.1,.int .i64 x.2]]:=by simp[sX]
def SD{a:Type} [DecidableEq a](l:List a)(x:a):Int:=if x∈l then (l.idxOf x:Int)else -1
theorem TQ{c:Type} [DecidableEq c]{l:List c}{i:Nat}{x:c}(h:i<l.length)(d:l[i]=x)(f:x∉l.take i):SD l x=i:=by
 have hm:x∈l:=d▸List.getElem_mem h;unfold SD;rw[if_pos hm];have g:=List.idxOf_lt_length_iff.2 hm;have j:=List.getElem_idxOf g
 have a:¬i<l.idxOf x:=fun e=>by
  have:=List.not_of_lt_findIdx (p:=(· == x)) (xs:=l) (i:=i) e;simp[d]at this
 have b:¬l.idxOf x<i:=fun e=>f (by
  rw[List.mem_take_iff_getElem]
  exact⟨l.idxOf x,by omega,j⟩)
 omega
theorem TS{a:Type} [DecidableEq a]{l:List a}{x:a}(h:x∉l):SD l x = -1:=by unfold SD;rw[if_neg h]
theorem Y0{a:Type} [DecidableEq a](l:List a)(x:a):0<=SD l x↔x∈l:=by
 unfold SD;split
 ·next h=>exact⟨fun _=>h,fun _=>by omega⟩
 ·next h=>exact⟨fun h=>by omega,fun b=>absurd b h⟩
theorem take_no{b:Type}{l:List b}{i:Nat}{x y:b}(h:i<l.length)(c:l[i]=y)(d:x∉l.take i)(a:¬x=y):x∉l.take (i+1):=by
 rw[List.take_succ_eq_append_getElem h,c];simp only[List.mem_append,List.mem_singleton,not_or];exact⟨d,a⟩
theorem NY(l:List Int)(x:Int)(f:l.length<1000000):Fn G T_ 313 [.slice (is l),.int .i64 x] (.int .i64 (SD l x)):=by
 refine ae hm yE (by simp) ?_;simp[qj,is_len];refine be hm [] (fun i:Nat=>[(8,.val (.int .i64 i))]) (fun _=>[]) (fun i=>i<=l.length/\x∉l.take i) (fun i=>l.length-i) 0 ⟨by omega,by simp⟩ ?_ ?_
 ·simp;exact bp
 rintro i ⟨g,a⟩;simp[is_len];by_cases h:i<l.length
 ·obtain⟨y,b⟩:∃y,l[i]=y:=⟨_,rfl⟩;have c:=uG h b;by_cases e:x=y
  ·have d:=TQ h (b.trans e.symm) a;rw[d];simp(disch:=omega)[wl,is_len,c,e]
  ·simp(disch:=omega)[wl,is_len,c,e];refine ai (i+1) ⟨by omega,take_no h b a e⟩ (by omega) ?_;simp;exact bp
 ·obtain rfl:i=l.length:=by omega
  rw[List.take_length]at a;rw[TS a];simp(disch:=omega)[wl]
theorem vC(l:List Int)(x:Int)(a:l.length<1000000):Fn G T_ 264 [.slice (is l),.int .i64 x] (.bool (decide (x∈l))):=by
 refine ae hm uE (by simp) ?_;have:decide (x∈l)=decide (0<=SD l x):=by rw[decide_eq_decide,Y0]
 rw[this];simp[mA];refine aa (NY l x a) ?_;simp
theorem Qs(l:List Dn)(x:Dn)(g:l.length<1000000):Fn G T_ 338 [.slice (sX l),.agg [.int .i64 x.1,.int .i64 x.2]] (.int .i64 (SD l x)):=by
 refine ae hm uF (by simp) ?_;simp[mC,aH];refine be hm [] (fun i:Nat=>[(8,.val (.int .i64 i))]) (fun _=>[]) (fun i=>i<=l.length/\x∉l.take i) (fun i=>l.length-i) 0 ⟨by omega,by simp⟩ ?_ ?_
 ·simp;exact bp
 rintro i ⟨j,a⟩;simp[aH];by_cases h:i<l.length
 ·obtain⟨y,c⟩:∃y,l[i]=y:=⟨_,rfl⟩;have d:=kC h c;by_cases e:x=y
  ·have f:=TQ h (c.trans e.symm) a;rw[f];simp(disch:=omega)[wl,aH,d,e]
  ·have e2:¬(x.1=y.1/\x.2=y.2):=fun h=>e (Prod.ext h.1 h.2)
   by_cases b:x.1=y.1
   ·have e4:¬x.2=y.2:=fun h=>e2 ⟨b,h⟩
    simp(disch:=omega)[wl,aH,d,b,e4];refine ai (i+1) ⟨by omega,take_no h c a e⟩ (by omega) ?_;simp;exact ag rfl rfl (by simp[aI,ap,ac,b]) (by simp[bD,ac,b]) (by simp[bB])
   ·simp(disch:=omega)[wl,aH,d,b];refine ai (i+1) ⟨by omega,take_no h c a e⟩ (by omega) ?_;simp;exact bp
 ·obtain rfl:i=l.length:=by omega
  rw[List.take_length]at a;rw[TS a];simp(disch:=omega)[wl]
theorem wP(l:List Dn)(x:Dn)(a:l.length<1000000):Fn G T_ 306 [.slice (sX l),.agg [.int .i64 x.1,.int .i64 x.2]] (.bool (decide (x∈l))):=by
 refine ae hm qP (by simp) ?_;have:decide (x∈l)=decide (0<=SD l x):=by rw[decide_eq_decide,Y0]
 rw[this];simp[ki];refine aa (Qs l x a) ?_;simp
def ln(p:Int×Int):IV:=.tuple [.int .i64 p.1,.int .i64 p.2]
theorem tG(x:Str)(c:UInt8):bt 0 (x++[c])=10*bt 0 x+(c.toNat-48):=by rw[XR,aaD]
theorem val_bd{s:Str}{d:Nat}(h:s.all d7=true)(a:s.length<=d):bt 0 s<10 ^ d:=by
 have b:=NH s 0 h;have c:10 ^ s.length<=10 ^ d:=Nat.pow_le_pow_right (by omega) a;omega
theorem wQ{c:UInt8}(h:d7 c=true):48<=c.toNat/\c.toNat<=57:=by simpa[d7]using h
def Wq(a:Bool)(s:Str):Bool:=a&&(decide (s[0]?=some 43)||decide (s[0]?=some 45))
def oJ(a:Bool)(s:Str):Str:=if Wq a s then s.drop 1 else s
def KA(a:Bool)(s:Str):Bool:=a&&decide (s[0]?=some 45)
theorem GZ(digits:Nat)(b c:Int)(a:Bool)(s:Str):cF digits b c a s=if oJ a s=[]\/digits<(oJ a s).length\/(oJ a s).all d7=false then (0,4)
  else if (bt 0 (oJ a s):Int)<b\/c<(bt 0 (oJ a s):Int)then (0,8)else (if KA a s=true then -(bt 0 (oJ a s):Int)else (bt 0 (oJ a s):Int),0):=by
 have e:(Wq a s=true/\s[0]?=some 45)↔KA a s=true:=by
  simp only[Wq,KA,Bool.and_eq_true,Bool.or_eq_true,decide_eq_true_eq];exact⟨fun h=>⟨h.1.1,h.2⟩,fun h=>⟨⟨h.1,.inr h.2⟩,h.2⟩⟩
 unfold cF;simp only[<-e];rfl
theorem aaM(c:UInt8):(0<=oq [43,45] c↔(c=43\/c=45))/\-1<=oq [43,45] c:=by
 have a:=I7 [43,45] c;simp only[List.mem_cons,List.not_mem_nil,or_false,not_or]at a;constructor
 ·constructor
  ·intro h;by_cases b:c=43\/c=45
   ·exact b
   ·have:=a.2 ⟨fun e=>b (.inl e),fun e=>b (.inr e)⟩;omega
  ·intro h;by_cases d:oq [43,45] c<0
   ·have:=a.1 d;rcases h with h|h
    ·exact absurd h this.1
    ·exact absurd h this.2
   ·omega
 ·rcases qb [43,45] c with⟨h,_⟩|⟨j,h,_,_⟩<;>omega
theorem Ez(digits:Nat)(v j:Int)(k:Bool)(s:Str)(N:digits<=9)(I:s.length<1000000):Fn G T_ 216 [.str s,.int .i64 digits,.int .i64 v,.int .i64 j,.bool k] (ln (cF digits v j k s)):=by
 refine ae hm Ir (by simp) ?_;rw[GZ];obtain⟨b,w⟩:∃b,oJ k s=b:=⟨_,rfl⟩;obtain⟨l,m⟩:∃l,KA k s=l:=⟨_,rfl⟩
 have y:b.length<1000000:=by
  rw[<-w];unfold oJ;split
  ·rw[List.length_drop];omega
  ·exact I
 rw[w,m];obtain⟨R,a⟩:∃R,(if b=[]\/digits<b.length\/b.all d7=false then ((0,4):Int×Int)else if (bt 0 b:Int)<v\/j<(bt 0 b:Int)then (0,8)else (if l=true then -(bt 0 b:Int)else (bt 0 b:Int),0))=R:=⟨_,rfl⟩;rw[a];simp[zh];refine wq hm [] [] (fun _:Unit=>[(0,.val (.str b)),(12,.val (.bool l))]) (fun _=>[]) (fun _=>True) ?_ ?_
 ·have plain:Wq k s=false->b=s/\l=false:=fun h=>by
   constructor
   ·rw[<-w,oJ,h];rfl
   ·rw[<-m];cases g:KA k s with
    |false=>rfl
    |true=>
     exfalso;simp only[KA,Bool.and_eq_true]at g;simp[Wq,g.1,g.2]at h
  cases k with
  |false=>
   obtain⟨rfl,rfl⟩:=plain rfl;simp(disch:=omega)[wl];refine bE () trivial ?_;simp;exact bp
  |true=>
   cases s with
   |nil=>
    obtain⟨rfl,rfl⟩:=plain rfl;simp(disch:=omega)[wl];refine bE () trivial ?_;simp;exact bp
   |cons c r=>
    obtain⟨Kl,z⟩:=aaM c;have H:=C1 [43,45] c;obtain⟨q,J⟩:∃q,oq [43,45] c=q:=⟨_,rfl⟩;rw[J]at H Kl z;simp(disch:=omega)[wl];refine aa H ?_;by_cases f:c=43\/c=45
    ·have A:=Kl.2 f
     have e1:b=r:=by
      rw[<-w];rcases f with rfl|rfl<;>rfl
     have e2:l=decide (c.toNat=45):=by
      rw[<-m];rcases f with rfl|rfl<;>rfl
     rw[e1,e2];simp(disch:=omega)[wl];refine⟨by omega,?_⟩;refine bE () trivial ?_;simp;exact ag rfl rfl (by simp[aI,ap,ac];omega) (by simp[bD,ac]) (by simp[bB])
    ·have A:¬0<=q:=fun h=>f (Kl.1 h)
     obtain⟨e1,e2⟩:=plain (by
      have n:¬c=43:=fun e=>f (.inl e)
      have g:¬c=45:=fun e=>f (.inr e)
      simp[Wq,n,g])
     rw[e1,e2];simp(disch:=omega)[wl];refine bE () trivial ?_;simp;exact bp
 ·rintro _ _;simp;by_cases n:b=[]
  ·rw[if_pos (.inl n)]at a;subst a;simp(disch:=omega)[wl,n];simp[ln]
  ·by_cases g:digits<b.length
   ·rw[if_pos (.inr (.inl g))]at a;subst a;simp(disch:=omega)[wl,n];simp[ln]
   ·have hT:=TP b y;simp(disch:=omega)[wl,n];refine aa hT ?_;by_cases x:b.all d7=true
    ·have d:=x;have o:=(MA b).2 x
     have B:∀i,i<=b.length->bt 0 (b.take i)<10 ^ 9:=fun i j=>val_bd (by
      rw[List.all_eq_true]at d |-
      exact fun c f=>d c (List.mem_of_mem_take f)) (by rw[List.length_take];omega)
     simp(disch:=omega)[wl,o];refine wq hm [] [] (fun _:Unit=>[(13,.val (.int .i64 (bt 0 b:Nat)))]) (fun _=>[]) (fun _=>True) ?_ ?_
     ·simp;refine be hm [] (fun i:Nat=>[(14,.val (.int .i64 i)),(13,.val (.int .i64 (bt 0 (b.take i):Nat)))]) (fun _=>[]) (fun i=>i<=b.length) (fun i=>b.length-i) 0 (by omega) ?_ ?_
      ·have e:bt 0 ([]:Str)=0:=rfl;simp[e];exact bp
      intro i j;simp;by_cases h:i<b.length
      ·obtain⟨c,f⟩:∃c,b[i]=c:=⟨_,rfl⟩;obtain⟨d1,O⟩:=wQ (List.all_eq_true.1 d c (f▸List.getElem_mem h))
       have K:bt 0 (b.take (i+1))=10*bt 0 (b.take i)+(c.toNat-48):=by
        rw[List.take_succ_eq_append_getElem h,f,tG]
       have C:=B (i+1) (by omega);have D:=B i j;have e:(10*(bt 0 (b.take i):Nat)+((c.toNat:Int)-48):Int)=(bt 0 (b.take (i+1)):Nat):=by omega
       obtain⟨V,p⟩:∃V,bt 0 (b.take i)=V:=⟨_,rfl⟩;obtain⟨W,E⟩:∃W,bt 0 (b.take (i+1))=W:=⟨_,rfl⟩;rw[p,E]at e K;rw[p]at D |-;rw[E]at C;simp(disch:=omega)[wl,f,e];refine ai (i+1) (by omega) (by omega) ?_;simp[E];exact bp
      ·obtain rfl:i=b.length:=by omega
       rw[List.take_length];simp(disch:=omega)[wl];refine bE () trivial ?_;simp;exact bp
     ·rintro _ _;have u:=B b.length (Nat.le_refl _);rw[List.take_length]at u;obtain⟨V,p⟩:∃V,bt 0 b=V:=⟨_,rfl⟩;rw[p]at u |-;simp;rw[p,if_neg (by rw[d];simp only[not_or];exact⟨n,g,by simp⟩)]at a;by_cases L:(V:Int)<v
      ·rw[if_pos (.inl L)]at a;subst a;simp(disch:=omega)[wl];simp[ln]
      ·by_cases M:j<(V:Int)
       ·rw[if_pos (.inr M)]at a;subst a;simp(disch:=omega)[wl];simp[ln]
       ·rw[if_neg (by omega)]at a;subst a;simp(disch:=omega)[wl];refine nu hm ?_;cases l with
        |true=>
         simp(disch:=omega)[wl];simp[ln]
        |false=>
         simp(disch:=omega)[wl];simp[ln]
    ·have o:¬zn b=[]:=fun h=>x ((MA b).1 h)
     have F:b.all d7=false:=by simpa using x
     rw[if_pos (.inr (.inr F))]at a;subst a;simp(disch:=omega)[wl,o];simp[ln]
theorem Ix(s:Str):Fn G T_ 287 [.str s] (.int .i64 (vO s)):=by
 refine ae hm Gt (by simp) ?_;simp[wN];unfold vO;by_cases a:s=[77,79]
 ·rw[if_pos a];simp(disch:=omega)[wl,a]
 rw[if_neg a];by_cases b:s=[84,85]
 ·rw[if_pos b];simp(disch:=omega)[wl,a,b]
 rw[if_neg b];by_cases d:s=[87,69]
 ·rw[if_pos d];simp(disch:=omega)[wl,a,b,d]
 rw[if_neg d];by_cases e:s=[84,72]
 ·rw[if_pos e];simp(disch:=omega)[wl,a,b,d,e]
 rw[if_neg e];by_cases g:s=[70,82]
 ·rw[if_pos g];simp(disch:=omega)[wl,a,b,d,e,g]
 rw[if_neg g];by_cases h:s=[83,65]
 ·rw[if_pos h];simp(disch:=omega)[wl,a,b,d,e,g,h]
 rw[if_neg h];by_cases j:s=[83,85]
 ·rw[if_pos j];simp(disch:=omega)[wl,a,b,d,e,g,h,j]
 rw[if_neg j];simp(disch:=omega)[wl,a,b,d,e,g,h,j]
theorem wR(d:Int):Fn G T_ 205 [.int .i64 d] (.str (Vq d)):=by
 refine ae hm yD (by simp) ?_;simp[qg];by_cases a:d<0
 ·have:Vq d=[]:=by unfold Vq;rw[if_pos (.inl a)]
  simp(disch:=omega)[wl,this]
 ·by_cases b:6<d
  ·have:Vq d=[]:=by unfold Vq;rw[if_pos (.inr b)]
   simp(disch:=omega)[wl,this]
  ·rcases Qp (d:=d) (by omega) (by omega)with rfl|rfl|rfl|rfl|rfl|rfl|rfl <;>
   ·simp(disch:=omega)[wl];rfl
theorem ac2(s:Str):∀i:Nat,i<7->(∀j:Nat,j<i->s≠(Cl.drop (2*j)).take 2)->s=(Cl.drop (2*i)).take 2->vO s=i:=by
 intro i a _ h;have:i=0\/i=1\/i=2\/i=3\/i=4\/i=5\/i=6:=by omega
 subst h;rcases this with rfl|rfl|rfl|rfl|rfl|rfl|rfl<;>decide
theorem Y1(s:Str)(h:∀j:Nat,j<7->s≠(Cl.drop (2*j)).take 2):vO s = -1:=by
 have a:¬s=[77,79]:=fun e=>h 0 (by omega) (e.trans rfl)
 have b:¬s=[84,85]:=fun e=>h 1 (by omega) (e.trans rfl)
 have c:¬s=[87,69]:=fun e=>h 2 (by omega) (e.trans rfl)
 have d:¬s=[84,72]:=fun e=>h 3 (by omega) (e.trans rfl)
 have f:¬s=[70,82]:=fun e=>h 4 (by omega) (e.trans rfl)
 have g:¬s=[83,65]:=fun e=>h 5 (by omega) (e.trans rfl)
 have i:¬s=[83,85]:=fun e=>h 6 (by omega) (e.trans rfl)
 unfold vO;rw[if_neg a,if_neg b,if_neg c,if_neg d,if_neg f,if_neg g,if_neg i]
theorem FE(s:Str):Fn G T_ 234 [.str s] (.int .i64 (vO s)):=by
 refine ae hm Ex (by simp) ?_;simp[vA];refine be hm [] (fun i:Nat=>[(3,.val (.int .i64 i))]) (fun _=>[]) (fun i=>i<=7/\∀j:Nat,j<i->s≠(Cl.drop (2*j)).take 2) (fun i=>7-i) 0 ⟨by omega,fun j l=>by omega⟩ ?_ ?_
 ·simp;exact bp
 rintro i ⟨n,d⟩;simp;by_cases h:i<7
 ·have k:i=0\/i=1\/i=2\/i=3\/i=4\/i=5\/i=6:=by omega
  by_cases b:s=(Cl.drop (2*i)).take 2
  ·have m:=ac2 s i h d b;rw[m];rcases k with rfl|rfl|rfl|rfl|rfl|rfl|rfl <;>
   ·have a:=b;simp[Cl]at a;simp(disch:=omega)[wl,a]
  ·have g:∀j:Nat,j<i+1->s≠(Cl.drop (2*j)).take 2:=fun j l=>by
    by_cases e:j=i
    ·rw[e];exact b
    ·exact d j (by omega)
   rcases k with rfl|rfl|rfl|rfl|rfl|rfl|rfl <;>
   ·have a:=b;simp[Cl]at a;simp(disch:=omega)[wl,a];refine ai _ ⟨?_,g⟩ (by omega) ?_
    ·omega
    simp;exact ag rfl rfl (by simp[aI,ap,ac,a]) (by simp[bD,ac,a]) (by simp[bB])
 ·obtain rfl:i=7:=by omega
  rw[Y1 s d];simp(disch:=omega)[wl]
def Vr(p:Int×Int):IV:=.tuple [.int .i64 p.1,if p.2=0 then .nili else dq p.2 [0]]
theorem H0(a b:Int)(d:Bool)(s:Str)(h:s.length<1000000):Fn G T_ 151 [.str s,.int .i64 a,.int .i64 b,.bool d] (Vr (cF 5 a b d s)):=by
 refine ae hm Qq (by simp) ?_;obtain⟨⟨n,e⟩,j⟩:∃p,cF 5 a b d s=p:=⟨_,rfl⟩;have g:=Ez 5 a b d s (by omega) h;rw[j]at g |-;simp only[Int.cast_ofNat_Int,ln]at g;simp[Ip];refine aa g ?_;simp;refine aa (fP e 0) ?_;simp[Vr]
theorem Vu(a b:Int)(c:Bool)(s:Str)(f:s.length<1000000):Fn G T_ 331 [.str s,.ref [.int .i64 a],.ref [.int .i64 b],.ref [.bool c]] (ln (cF 5 a b c s)):=by
 refine ae hm Iv (by simp) ?_;obtain⟨⟨n,e⟩,g⟩:∃p,cF 5 a b c s=p:=⟨_,rfl⟩;have d:=Ez 5 a b c s (by omega) f;rw[g]at d |-;simp only[Int.cast_ofNat_Int,ln]at d;simp[zl];refine aa d ?_;simp[ln]
def wS(p:Dn×Int):IV:=.tuple [.agg [.int .i64 p.1.1,.int .i64 p.1.2],.int .i64 p.2]
theorem Cw{s:Str}(k:Nat):(s.drop k).take (s.length-k)=s.drop k:=List.take_of_length_le (by rw[List.length_drop];omega)
theorem ac3(s:Str)(u:s.length<1000000):Fn G T_ 329 [.str s] (wS (nS s)):=by
 refine ae hm Qr (by simp) ?_;obtain⟨R,a⟩:∃R,nS s=R:=⟨_,rfl⟩;rw[a];unfold nS at a;simp[It];by_cases i:s.length<2
 ·rw[if_pos i]at a;subst a;simp(disch:=omega)[wl,wS]
 ·rw[if_neg i]at a;obtain⟨k,v⟩:∃k,s.length=k+2:=⟨s.length-2,by omega⟩;have c:s.length-2=k:=by omega
  rw[c]at a;have e0:((s.length:Int)-2)=(k:Int):=by omega
  have f:=Cw (s:=s) k;obtain⟨d,o⟩:∃d,vO (s.drop k)=d:=⟨_,rfl⟩;have j:=Ix (s.drop k);have g:=My (s.drop k);rw[o]at j a g;simp(disch:=omega)[wl,e0,f];refine⟨by omega,?_⟩;refine aa j ?_;by_cases l:d<0
  ·rw[if_pos l]at a;subst a;simp(disch:=omega)[wl,wS]
  ·rw[if_neg l]at a;by_cases m:k=0
   ·rw[if_pos (by omega)]at a;subst a;simp(disch:=omega)[wl,wS,m]
   ·rw[if_neg (by omega)]at a;obtain⟨⟨n,e⟩,q⟩:∃p,cF 2 1 53 true (s.take k)=p:=⟨_,rfl⟩;have h:=Ez 2 1 53 true (s.take k) (by omega) (by rw[List.length_take];omega);rw[q]at h a;simp only[Int.cast_ofNat_Int,ln]at h;simp only at a;simp(disch:=omega)[wl,m];refine⟨by omega,?_⟩;refine aa h ?_;by_cases b:e=0
    ·rw[if_neg (by simp[b])]at a;subst a;simp(disch:=omega)[wl,wS,b]
    ·rw[if_pos b]at a;subst a;simp(disch:=omega)[wl,wS,b]
end Go.Vs.YtcjeehebikeghaaGreatDoor
