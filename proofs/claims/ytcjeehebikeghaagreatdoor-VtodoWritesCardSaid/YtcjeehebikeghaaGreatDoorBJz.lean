/- A part of a proof. No conditions. -/
import Derived.Test.YtcjeehebikeghaaGreatDoorBHz
import Derived.Lib.ItoaNum
set_option linter.unusedVariables false
set_option linter.unusedSimpArgs false
set_option maxRecDepth 100000
set_option maxHeartbeats 4000000
namespace Go.Vs.YtcjeehebikeghaaGreatDoor
open Go.Proofs Go.Vs.U8
theorem NF(s:Str)(a:Nat)(d e:Int)(k:s.length<1000000)(l:a<2000000)(f:0<=d)(g:0<=e):Fn G T_ 226 [.str s,.int .i64 a,.int .u8 d,.int .u8 e] (.bool (tl s a d.toNat e.toNat)):=by
 refine ae hm Kp (by simp) ?_;simp[BZ];refine Pd (fun h=>?_) (fun h=>?_)
 ·obtain⟨c,i⟩:∃c,c=s[a]:=⟨_,rfl⟩;have b:s[a]?=some c:=by rw[i];exact List.getElem?_eq_getElem h
  simp[b];refine Pd (fun j=>?_) (fun j=>?_)
  ·simp[b,tl];rw[Bool.eq_iff_iff];simp;omega
  ·simp[tl,b];omega
 ·have b:s[a]?=none:=List.getElem?_eq_none (by omega);simp[tl,b]
theorem aaB(s:Str)(i:Nat)(o:s.length<1000000)(g:i<s.length):Fn G T_ 159 [.str s,.int .i64 i] (.int .i64 (eF (s.drop i))):=by
 refine ae hm Ko (by simp) ?_;obtain⟨c,b⟩:∃c,s[i]=c:=⟨_,rfl⟩;have p:s.drop i=c::s.drop (i+1):=by rw[<-b];exact List.drop_eq_getElem_cons g
 have q:=Fq c;have u:∀k l g,tl (s.drop (i+1)) k l g=tl s (i+1+k) l g:=fun k l g=>by unfold tl;rw[List.getElem?_drop]
 have e:=fun l g a d=>NF s (i+1) l g o (by omega) a d
 have f:=NF s (i+2) 128 191 o (by omega) (by omega) (by omega);have n:=NF s (i+3) 128 191 o (by omega) (by omega) (by omega);rw[p];simp only[eF,u,Wp,Kl,Nat.add_zero,Nat.add_assoc,Nat.reduceAdd];simp only[Int.cast_ofNat_Int,Int.natCast_add]at e f n;have j:c.toNat<128\/(128<=c.toNat/\c.toNat<194)\/(194<=c.toNat/\c.toNat<=223)\/c.toNat=224\/c.toNat=237\/(225<=c.toNat/\c.toNat<=239/\c.toNat≠237)\/c.toNat=240\/c.toNat=244\/(241<=c.toNat/\c.toNat<=243)\/245<=c.toNat:=by omega
 clear p;rcases j with h|h|h|h|h|h|h|h|h|h
 ·simp(disch:=omega)[bS,b,bO,cI,wrap_i64,if_pos,if_neg]
 ·simp(disch:=omega)[bS,b,bO,cI,wrap_i64,if_pos,if_neg]
 ·cases a:tl s (i+1) 128 191
  all_goals
   simp(disch:=omega)[bS,b,bO,cI,wrap_i64,if_pos,if_neg];refine aa (e 128 191 (by omega) (by omega)) ?_;simp(disch:=omega)[bO,cI,wrap_i64,if_pos,if_neg,a]
 ·cases a:tl s (i+1) 160 191
  ·simp(disch:=omega)[bS,b,bO,cI,wrap_i64,if_pos,if_neg];refine aa (e 160 191 (by omega) (by omega)) ?_;simp(disch:=omega)[bO,cI,wrap_i64,if_pos,if_neg,a]
  ·cases d:tl s (i+2) 128 191
   all_goals
    simp(disch:=omega)[bS,b,bO,cI,wrap_i64,if_pos,if_neg];refine aa (e 160 191 (by omega) (by omega)) ?_;simp(disch:=omega)[bO,cI,wrap_i64,if_pos,if_neg,a];refine aa f ?_;simp(disch:=omega)[bO,cI,wrap_i64,if_pos,if_neg,a,d]
 ·cases a:tl s (i+1) 128 159
  ·simp(disch:=omega)[bS,b,bO,cI,wrap_i64,if_pos,if_neg];refine aa (e 128 159 (by omega) (by omega)) ?_;simp(disch:=omega)[bO,cI,wrap_i64,if_pos,if_neg,a]
  ·cases d:tl s (i+2) 128 191
   all_goals
    simp(disch:=omega)[bS,b,bO,cI,wrap_i64,if_pos,if_neg];refine aa (e 128 159 (by omega) (by omega)) ?_;simp(disch:=omega)[bO,cI,wrap_i64,if_pos,if_neg,a];refine aa f ?_;simp(disch:=omega)[bO,cI,wrap_i64,if_pos,if_neg,a,d]
 ·cases a:tl s (i+1) 128 191
  ·simp(disch:=omega)[bS,b,bO,cI,wrap_i64,if_pos,if_neg];refine aa (e 128 191 (by omega) (by omega)) ?_;simp(disch:=omega)[bO,cI,wrap_i64,if_pos,if_neg,a]
  ·cases d:tl s (i+2) 128 191
   all_goals
    simp(disch:=omega)[bS,b,bO,cI,wrap_i64,if_pos,if_neg];refine aa (e 128 191 (by omega) (by omega)) ?_;simp(disch:=omega)[bO,cI,wrap_i64,if_pos,if_neg,a];refine aa f ?_;simp(disch:=omega)[bO,cI,wrap_i64,if_pos,if_neg,a,d]
 ·cases a:tl s (i+1) 144 191
  ·simp(disch:=omega)[bS,b,bO,cI,wrap_i64,if_pos,if_neg];refine aa (e 144 191 (by omega) (by omega)) ?_;simp(disch:=omega)[bO,cI,wrap_i64,if_pos,if_neg,a]
  ·cases d:tl s (i+2) 128 191
   ·simp(disch:=omega)[bS,b,bO,cI,wrap_i64,if_pos,if_neg];refine aa (e 144 191 (by omega) (by omega)) ?_;simp(disch:=omega)[bO,cI,wrap_i64,if_pos,if_neg,a];refine aa f ?_;simp(disch:=omega)[bO,cI,wrap_i64,if_pos,if_neg,a,d]
   ·cases m:tl s (i+3) 128 191
    all_goals
     simp(disch:=omega)[bS,b,bO,cI,wrap_i64,if_pos,if_neg];refine aa (e 144 191 (by omega) (by omega)) ?_;simp(disch:=omega)[bO,cI,wrap_i64,if_pos,if_neg,a];refine aa f ?_;simp(disch:=omega)[bO,cI,wrap_i64,if_pos,if_neg,a,d];refine aa n ?_;simp(disch:=omega)[bO,cI,wrap_i64,if_pos,if_neg,a,d,m]
 ·cases a:tl s (i+1) 128 143
  ·simp(disch:=omega)[bS,b,bO,cI,wrap_i64,if_pos,if_neg];refine aa (e 128 143 (by omega) (by omega)) ?_;simp(disch:=omega)[bO,cI,wrap_i64,if_pos,if_neg,a]
  ·cases d:tl s (i+2) 128 191
   ·simp(disch:=omega)[bS,b,bO,cI,wrap_i64,if_pos,if_neg];refine aa (e 128 143 (by omega) (by omega)) ?_;simp(disch:=omega)[bO,cI,wrap_i64,if_pos,if_neg,a];refine aa f ?_;simp(disch:=omega)[bO,cI,wrap_i64,if_pos,if_neg,a,d]
   ·cases m:tl s (i+3) 128 191
    all_goals
     simp(disch:=omega)[bS,b,bO,cI,wrap_i64,if_pos,if_neg];refine aa (e 128 143 (by omega) (by omega)) ?_;simp(disch:=omega)[bO,cI,wrap_i64,if_pos,if_neg,a];refine aa f ?_;simp(disch:=omega)[bO,cI,wrap_i64,if_pos,if_neg,a,d];refine aa n ?_;simp(disch:=omega)[bO,cI,wrap_i64,if_pos,if_neg,a,d,m]
 ·cases a:tl s (i+1) 128 191
  ·simp(disch:=omega)[bS,b,bO,cI,wrap_i64,if_pos,if_neg];refine aa (e 128 191 (by omega) (by omega)) ?_;simp(disch:=omega)[bO,cI,wrap_i64,if_pos,if_neg,a]
  ·cases d:tl s (i+2) 128 191
   ·simp(disch:=omega)[bS,b,bO,cI,wrap_i64,if_pos,if_neg];refine aa (e 128 191 (by omega) (by omega)) ?_;simp(disch:=omega)[bO,cI,wrap_i64,if_pos,if_neg,a];refine aa f ?_;simp(disch:=omega)[bO,cI,wrap_i64,if_pos,if_neg,a,d]
   ·cases m:tl s (i+3) 128 191
    all_goals
     simp(disch:=omega)[bS,b,bO,cI,wrap_i64,if_pos,if_neg];refine aa (e 128 191 (by omega) (by omega)) ?_;simp(disch:=omega)[bO,cI,wrap_i64,if_pos,if_neg,a];refine aa f ?_;simp(disch:=omega)[bO,cI,wrap_i64,if_pos,if_neg,a,d];refine aa n ?_;simp(disch:=omega)[bO,cI,wrap_i64,if_pos,if_neg,a,d,m]
 ·simp(disch:=omega)[bS,b,bO,cI,wrap_i64,if_pos,if_neg]
theorem wB(s:Str)(c:UInt8):Fn G T_ 266 [.str s,.int .u8 c.toNat] (.int .i64 (oq s c)):=by
 refine ae hm lj (by simp) ?_;simp[ge];refine aa (B9 s c) ?_;simp
theorem C1(s:Str)(c:UInt8):Fn G T_ 200 [.str s,.int .u8 c.toNat] (.int .i64 (oq s c)):=by
 refine ae hm wz (by simp) ?_;simp[oD];refine aa (wB s c) ?_;simp
theorem Id(c:UInt8)(r:Str):mw (c::r)=(eF (c::r)==0||(decide (c.toNat<32)&&!decide (c.toNat=9))||decide (c.toNat=127)):=rfl
theorem TI(s:Str)(p:s.length<1000000):Fn G T_ 100 [.str s] (.int .i64 (ww (yB s))):=by
 refine ae hm ND (by simp) ?_;simp[Fl];refine be hm [] (fun i:Nat=>[(3,.val (.int .i64 i))]) (fun _=>[]) (fun i=>i<=s.length/\yB s=(yB (s.drop i)).map (· + i)) (fun i=>s.length-i) 0 ⟨by omega,by simp⟩ ?_ ?_
 ·simp;exact bp
 rintro i ⟨x,g⟩;simp;refine Pd (fun h=>?_) (fun h=>?_)
 ·have j:=aaB s i p h;have a:=XO h g;obtain⟨c,l⟩:∃c,s[i]=c:=⟨_,rfl⟩;have n:s.drop i=c::s.drop (i+1):=by rw[<-l];exact List.drop_eq_getElem_cons h
  have e:=I5 (s.drop i);rw[List.length_drop]at e;obtain⟨z,o⟩:∃z,eF (s.drop i)=z:=⟨_,rfl⟩;have f:=Id c (s.drop (i+1));rw[<-n,o]at f;rw[o]at j a e;have q:=Fq c;clear n;simp;refine aa j ?_;simp;refine Pd (fun u=>?_) (fun u=>?_)
  ·have:mw (s.drop i)=true:=by rw[f];simp;omega
   simp[a,this,ww]
  ·have go:¬((c.toNat<32/\c.toNat≠9)\/c.toNat=127)->yB s=(yB (s.drop (i+z))).map (· + (i+z)):=by
    intro b
    have:mw (s.drop i)=false:=by
     rw[f];simp;refine⟨⟨by omega,by omega⟩,by omega⟩
    rw[if_neg (by simp[this])]at a;exact a
   have m:(c.toNat<32/\c.toNat≠9)\/c.toNat=127->ww (yB s)=i:=by
    intro b;have:mw (s.drop i)=true:=by rw[f];simp;omega
    simp[a,this,ww]
   clear a g f;by_cases b:(c.toNat<32/\c.toNat≠9)\/c.toNat=127
   ·have v:=m b;have d:(c.toNat<32/\c.toNat≠9)\/(¬c.toNat<32/\c.toNat=127):=by omega
    rcases d with b|b<;>simp(disch:=omega)[l,cI,bO,v]
   ·have w:=go b;have d:(c.toNat<32/\c.toNat=9)\/(¬c.toNat<32/\c.toNat≠127):=by omega
    rcases d with b|b
    all_goals
     simp(disch:=omega)[l,cI,bO];refine aa j ?_;simp(disch:=omega)[wrap_i64];refine ai (i+z) ⟨by omega,w⟩ (by omega) ?_;simp;exact bp
 ·obtain rfl:i=s.length:=by omega
  simp[g,ww]
theorem Vm(s:Str)(a:Nat)(d:s.length<1000000)(f:a<s.length):Fn G T_ 144 [.str s,.int .i64 a,.int .i32 (dec (s.drop a)).1] (.bool (decide ((dec (s.drop a))=(65533,1)))):=by
 refine ae hm Kn (by simp) ?_;have b:=Km (s.drop a) (by intro e;have:=congrArg List.length e;simp at this;omega);obtain⟨⟨r,k⟩,c⟩:∃p,dec (s.drop a)=p:=⟨_,rfl⟩;rw[c]at b |-;by_cases h:r=65533
 ·subst h;simp(disch:=omega)[ut,bO,cI];refine⟨by omega,?_⟩;refine aa b ?_;simp;omega
 ·simp(disch:=omega)[ut,bO,cI,h]
theorem XQ(s:Str)(y:s.length<1000000):Fn G T_ 93 [.str s] (.int .i64 (ww (yB s))):=by
 refine ae hm Sr (by simp) ?_;simp[Mt];refine be hm [] (fun i:Nat=>[]) (fun i=>[(6,.iter s i)]) (fun i=>i<=s.length/\yB s=(yB (s.drop i)).map (· + i)) (fun i=>s.length-i) 0 ⟨by omega,by simp⟩ ?_ ?_
 ·simp;exact bp
 rintro i ⟨E,q⟩;simp;by_cases h:i<s.length
 ·have b:=XO h q;have e:=Vm s i y h;obtain⟨c,A⟩:∃c,s[i]=c:=⟨_,rfl⟩;have x:s.drop i=c::s.drop (i+1):=by rw[<-A];exact List.drop_eq_getElem_cons h
  have m:=I5 (s.drop i);rw[List.length_drop]at m;have a:=Vk c (s.drop (i+1));have j:=Id c (s.drop (i+1));rw[<-x]at a j;have B:=Fq c;have d:=Qb s i (by omega);clear x q;obtain⟨z,C⟩:∃z,eF (s.drop i)=z:=⟨_,rfl⟩;obtain⟨⟨r,k⟩,D⟩:∃p,dec (s.drop i)=p:=⟨_,rfl⟩;rw[C]at b m a j;rw[D]at a e d;simp only[Prod.mk.injEq]at a e;have n:mw (s.drop i)=true->ww (yB s)=i:=fun l=>by simp[b,l,ww]
  have go:mw (s.drop i)=false->yB s=(yB (s.drop (i+z))).map (· + (i+z)):=fun l=>by
   rw[if_neg (by simp[l])]at b;exact b
  clear b;rcases a with⟨l,⟨rfl,rfl⟩,rfl⟩|⟨l,rfl,rfl,rfl⟩|⟨l,o,F,rfl⟩
  ·have f:¬(c.toNat=65533/\1=1):=by omega
   rw[decide_eq_false f]at e;by_cases o:(c.toNat<32/\c.toNat≠9)\/c.toNat=127
   ·have u:=n (by rw[j];simp;omega);have g:(c.toNat<32/\c.toNat≠9)\/(¬c.toNat<32/\c.toNat=127):=by omega
    rcases g with o|o
    all_goals
     simp[h,d];refine aa e ?_;simp(disch:=omega)[cI,bO,u]
   ·have v:=go (by rw[j];simp;omega);have g:(c.toNat<32/\c.toNat=9)\/(¬c.toNat<32/\c.toNat≠127):=by omega
    rcases g with o|o
    all_goals
     simp[h,d];refine aa e ?_;simp(disch:=omega)[cI,bO];refine ai (i+1) ⟨by omega,v⟩ (by omega) ?_;simp;exact bp
  ·have u:=n (by rw[j];simp);simp[h,d];refine aa e ?_;simp[u]
  ·have v:=go (by rw[j];simp;omega);have f:¬(r=65533/\k=1):=by omega
   rw[decide_eq_false f]at e;simp[h,d];refine aa e ?_;simp(disch:=omega)[cI,bO];refine ai (i+k) ⟨by omega,v⟩ (by omega) ?_;simp;exact bp
 ·obtain rfl:i=s.length:=by omega
  have w:yB s=none:=by rw[q,List.drop_length];rfl
  simp[w,ww]
theorem Qe{ps:List Int}(h:∀p∈ps,-1000000<p/\p<1000000):∀k:Nat,-1000000*(k:Int)<=(ps.take k).sum/\(ps.take k).sum<=1000000*(k:Int):=by
 intro k
 induction k with
 |zero=>simp
 |succ k b=>
  by_cases a:k<ps.length
  ·rw[List.take_succ_eq_append_getElem a,List.sum_append];have:=h _ (List.getElem_mem a);simp;omega
  ·rw[List.take_of_length_le (by omega)]at b |-;omega
theorem aaC(n:Int)(ps:List Int)(d:∀p∈ps,-1000000<p/\p<1000000)(g:ps.length<1000):Fn G T_ 57 [dq n ps] (.tuple [.int .i64 ps.sum,.int .i64 ps.length]):=by
 refine ae hm yY (by simp) ?_;simp[uq];refine be hm [] (fun k:Nat=>[(0,.val (dq n (ps.drop k))),(4,.val (.int .i64 (ps.take k).sum)),(5,.val (.int .i64 k))]) (fun _=>[]) (fun k=>k<=ps.length) (fun k=>ps.length-k) 0 (by omega) ?_ ?_
 ·simp;exact bp
 intro k i;have j:=Qe d k;by_cases h:k<ps.length
 ·have e:ps.drop k=ps[k]::ps.drop (k+1):=List.drop_eq_getElem_cons h;have f:(ps.take (k+1)).sum=(ps.take k).sum+ps[k]:=by rw[List.take_succ_eq_append_getElem h,List.sum_append];simp
  have a:=d _ (List.getElem_mem h);obtain⟨p,b⟩:∃p,ps[k]=p:=⟨_,rfl⟩;rw[b]at e f a;obtain⟨t,v,l⟩:=dD n (ps.drop (k+1));have c:=Vf .nilp [.int .i64 p,dq n (ps.drop (k+1))];rw[e];simp only[dq];simp;refine callM [(1000,6)] [] c rfl rfl ⟨rfl,trivial⟩ ⟨[],[],rfl,⟨rfl,rfl⟩,rfl⟩ rfl ?_;simp(disch:=omega)[wl];refine ai (k+1) (by omega) (by omega) ?_;simp[f];exact bp
 ·obtain rfl:k=ps.length:=by omega
  have c:=Vg n .nilp;simp[dq];refine callM [(1000,6)] [] c rfl rfl ⟨rfl,trivial⟩ ⟨[],[],rfl,⟨rfl,rfl⟩,rfl⟩ rfl ?_;simp
theorem NG:Fn G T_ 16 [.nili] (.int .i64 0):=by
 have a:Fn G T_ 57 [.nili] (.tuple [.int .i64 0,.int .i64 0]):=by
  refine ae hm yY (by simp) ?_;simp[uq];refine be hm [] (fun k:Nat=>[]) (fun _=>[]) (fun k=>True) (fun k=>0) 0 trivial ?_ ?_
  ·simp;exact bp
  intro k _;simp
 refine ae hm wy (by simp) ?_;simp[rS];refine aa a ?_;simp
theorem Qf(n:Int)(ps:List Int)(a:∀p∈ps,-1000000<p/\p<1000000)(b:ps.length<1000):Fn G T_ 16 [dq n ps] (.int .i64 ps.sum):=by
 refine ae hm wy (by simp) ?_;simp[rS];refine aa (aaC n ps a b) ?_;simp
end Go.Vs.YtcjeehebikeghaaGreatDoor
namespace Go.Vs.Nu
open Go.Vs.U8 Go.Lib
def d7(c:UInt8):Bool:=decide (48<=c.toNat/\c.toNat<=57)
def bt:Nat->Str->Nat
 |n,[]=>n
 |n,c::r=>bt (10*n+(c.toNat-48)) r
theorem XR(a b:Str):∀n,bt n (a++b)=bt (bt n a) b:=by
 induction a with
 |nil=>intro n;rfl
 |cons c r d=>intro n;exact d (10*n+(c.toNat-48))
theorem TJ{p:UInt8->Bool}{c:UInt8}(h:p c=true):[c].all p=true:=by rw[List.all_cons,h];rfl
theorem aaD(n:Nat)(c:UInt8):bt n [c]=10*n+(c.toNat-48):=rfl
theorem TK:∀(k u:Nat),u<10 ^ (k+1)->(decDigits u).length<=k+1
 |0,u,h=>by rw[decDigits,dif_pos (by omega)];simp
 |k+1,u,h=>by
  rw[decDigits];split
  ·simp
  ·rw[List.length_append];have:=TK k (u/10) (by rw[Nat.pow_succ]at h;omega);simp;omega
theorem NH:∀(l:Str) (n:Nat),l.all d7=true->bt n l<(n+1)*10 ^ l.length
 |[],n,_=>by
  show n<(n+1)*1;omega
 |c::r,n,h=>by
  simp only[List.all_cons,Bool.and_eq_true]at h;have a:=NH r (10*n+(c.toNat-48)) h.2;have b:c.toNat-48<=9:=by have:=h.1;simp[d7]at this;omega
  have e:bt n (c::r)=bt (10*n+(c.toNat-48)) r:=rfl;rw[e,List.length_cons,Nat.pow_succ];have d:(10*n+(c.toNat-48)+1)*10 ^ r.length<=((n+1)*10)*10 ^ r.length:=Nat.mul_le_mul_right _ (by omega);have f:(n+1)*(10 ^ r.length*10)=((n+1)*10)*10 ^ r.length:=by rw[Nat.mul_comm (10 ^ r.length) 10,Nat.mul_assoc]
  omega
def dk(s:Str):Str:=(s.reverse.dropWhile d7).reverse
theorem C2(x:Str){d:Str}(h:d.all d7=true):dk (x++d)=dk x:=by
 unfold dk;rw[List.reverse_append]
 have:∀(l r:Str),l.all d7=true->(l++r).dropWhile d7=r.dropWhile d7:=by
  intro l
  induction l with
  |nil=>intro r _;rfl
  |cons c l b=>
   intro r a;simp only[List.all_cons,Bool.and_eq_true]at a;rw[List.cons_append,List.dropWhile_cons_of_pos a.1,b r a.2]
 rw[this _ _ (by rw[List.all_reverse];exact h)]
theorem uw(s:Str):∃d,s=dk s++d/\d.all d7=true:=by
 refine⟨(s.reverse.takeWhile d7).reverse,?_,?_⟩
 ·unfold dk;rw[<-List.reverse_append,List.takeWhile_append_dropWhile,List.reverse_reverse]
 ·rw[List.all_reverse,List.all_eq_true];intro c a;exact List.all_eq_true.1 (List.all_takeWhile (l:=s.reverse) (p:=d7)) c a
def jb(c:UInt8):Bool:=decide ((65<=c.toNat/\c.toNat<=90)\/(97<=c.toNat/\c.toNat<=122)\/(48<=c.toNat/\c.toNat<=57)\/c.toNat=45\/c.toNat=46\/c.toNat=95\/c.toNat=64)
def jF(s:Str):Bool:=decide (1<=s.length)&&(decide (s.length<=24)&&s.all jb)
theorem XS{c:UInt8}(h:d7 c=true):jb c=true:=by simp[d7,jb]at h |-;omega
theorem Qg(s:Str):jF s=true↔1<=s.length/\s.length<=24/\s.all jb=true:=by simp[jF]
def jj(s:Str):Str:=if jF s=true/\(dk s).length≠s.length/\(dk s).getLast?=some 46/\(dk s).dropLast≠[]then (dk s).dropLast else s
end Go.Vs.Nu
namespace Go.Vs
open Go.Vs.Nu
def zv(i:Nat):List IV:=(List.range 256).map fun j=>.bool (decide (48<=j/\j<48+i))
def zs(i:Nat):List SV:=(zv i).map .val
def Ie:List SV:=List.replicate 256 (.val (.bool false))
theorem Eo(i:Nat):(zv i).length=256:=by simp[zv]
theorem rU(i:Nat):(zs i).length=256:=by simp[zs,Eo]
theorem Ep(i j:Nat)(h:j<256):(zs i)[j]?=some (.val (.bool (decide (48<=j/\j<48+i)))):=by
 simp[zs,zv,h]
theorem Ss(i:Nat):List.map SV.val (zv i)=zs i:=rfl
theorem If:Ie=zs 0:=by
 refine List.ext_getElem? fun j=>?_
 have a:Ie.length=256:=by unfold Ie;exact List.length_replicate
 by_cases h:j<256
 ·rw[Ep 0 j h,decide_eq_false (by omega)];unfold Ie;rw[List.getElem?_replicate,if_pos h]
 ·rw[List.getElem?_eq_none (by rw[a];omega),List.getElem?_eq_none (by rw[rU];omega)]
theorem NI(i:Nat):(zs i).take 256=zs i:=List.take_of_length_le (by rw[rU];exact Nat.le_refl _)
theorem NJ(i:Nat):(zv i).take 256=zv i:=List.take_of_length_le (by rw[Eo];exact Nat.le_refl _)
theorem NK(i:Nat):(zs i).drop 256=[]:=List.drop_eq_nil_of_le (by rw[rU];exact Nat.le_refl _)
theorem Ig:∀l:List IV,gu (l.map .val)=some l
 |[]=>rfl
 |x::r=>by rw[List.map_cons,gu,Ig r]
theorem TL(a:List (Nat×Ob)):∀l:List IV,oh a (l.map .val)=some (l,[])
 |[]=>rfl
 |x::r=>by rw[List.map_cons,oh,TL a r];rfl
theorem acV(i:Nat):gu (zs i)=some (zv i):=Ig _
theorem NL(a:List (Nat×Ob))(i:Nat):oh a (zs i)=some (zv i,[]):=TL _ _
theorem Er(k:Nat):∀l:List IV,fh k (l.map .val)=l.map .val
 |[]=>rfl
 |x::r=>by rw[List.map_cons,fh,Er k r];rfl
theorem wC(k i:Nat):fh k (zs i)=zs i:=Er _ _
theorem aaE(i:Nat)(h:i<10):(zs i).take (48+i)++.val (.bool true)::(zs i).drop (48+i+1)=zs (i+1):=by
 refine List.ext_getElem? fun j=>?_
 have a:((zs i).take (48+i)).length=48+i:=by rw[List.length_take,rU];omega
 by_cases b:j<48+i
 ·rw[List.getElem?_append_left (by rw[a];exact b),List.getElem?_take_of_lt b,Ep _ _ (by omega),Ep _ _ (by omega)];congr 3;rw[decide_eq_decide];omega
 ·rw[List.getElem?_append_right (by rw[a];omega),a];by_cases d:j=48+i
  ·subst d;rw[Nat.sub_self,List.getElem?_cons_zero,Ep _ _ (by omega),decide_eq_true (by omega)]
  ·obtain⟨t,e⟩:∃t,j-(48+i)=t+1:=⟨j-(48+i)-1,by omega⟩;rw[e,List.getElem?_cons_succ,List.getElem?_drop,show 48+i+1+t=j by omega];by_cases c:j<256
   ·rw[Ep _ _ c,Ep _ _ c];congr 3;rw[decide_eq_decide];omega
   ·rw[List.getElem?_eq_none (by rw[rU];omega),List.getElem?_eq_none (by rw[rU];omega)]
theorem aaF(c:UInt8):∃r,(zv 10).drop c.toNat=.bool (d7 c)::r:=by
 have a:c.toNat<256:=c.toNat_lt;refine⟨(zv 10).drop (c.toNat+1),?_⟩;rw[List.drop_eq_getElem_cons (by rw[Eo];exact a)];congr 1;simp only[zv,List.getElem_map,List.getElem_range,d7];congr 1;rw[decide_eq_decide];omega
end Go.Vs
namespace Go.Vs.YtcjeehebikeghaaGreatDoor
open Go.Proofs
def z7:VCode:=Q_ 2 [.K (cb false)] (.seq (C_ 5 6 [.m 0,.v,.i .gtr 10] (Q_ 2 [.K (cb false)] .ret) .skip) (.seq (Q_ 3 [.n 0] (.block 0 (.loop (.seq (C_ 8 10 [.m 3,.m 0,.v,.b .lss] .skip (.exit 0)) (.seq (.block 1 (.seq (C_ 14 28 [.m 0,.m 3,.x 2,.f 0,.l,.h,.i .gtr 40,.w,.m 0,.m 3,.x 2,.f 1,.l,.v,.i .gtr 10,.O] (Q_ 2 [.K (cb false)] .ret) .skip) (Q_ 4 [.n 0] (.block 2 (.loop (.seq (C_ 30 36 [.m 4,.m 0,.m 3,.x 2,.f 1,.l,.v,.b .lss] .skip (.exit 2)) (.seq (.block 3 (C_ 40 48 [.m 0,.m 3,.x 2,.f 1,.l,.m 4,.x 1,.l,.h,.i .gtr 80] (Q_ 2 [.K (cb false)] .ret) .skip)) (X_ 38 39 [.m 4,.P 1,.a 4])))))))) (X_ 12 13 [.m 3,.P 1,.a 3])))))) (Q_ 2 [.K (cb true)] .ret)))
theorem Ih:FnOk T_ 34 z7 [.tmp 2] 50:=fK_ Tryz.func34
def Fr:VCode:=Q_ 2 [.K (.const .nils)] (Q_ 3 [.K (.const .nils)] (.seq (Q_ 4 [.n 0] (.block 0 (.loop (.seq (C_ 6 8 [.m 4,.m 0,.v,.b .lss] .skip (.exit 0)) (.seq (.block 1 (R_ 12 17 [.m 0,.m 4,.x 2,.f 0,.l,.g (.build z_6 [(0,1,tm 16)]),.Y 5 z_6,.s 2 5] (.seq (.region (D_ [.F 1 5,.l,.m 0,.m 4,.x 2,.f 1,.l,.p 9 1 16,.F 1 5,.T 1 26 25] 18) (.drawn [] (wo [(7,[(0,6)])])) [18,26]) (X_ 27 30 [.m 3,.W 2 5,.g (.buildSlice 2 1 z_6 [(0,2,tm 28)]),.g (.append 154 2 40 (tm 27) (tm 29)),.a 3])))) (X_ 10 11 [.m 4,.P 1,.a 4])))))) (R_ 31 31 [.m 3,.a 2] .ret)))
theorem NM:FnOk T_ 44 Fr [.tmp 2] 32:=fK_ Tryz.func44
def aeu:VCode:=Q_ 4 [.K (cb false)] (.seq (C_ 7 10 [.m 0,.v,.m 1,.v,.b .neq] (Q_ 4 [.K (cb false)] .ret) .skip) (.seq (Q_ 5 [.n 0] (.block 0 (.loop (.seq (C_ 12 14 [.m 5,.m 0,.v,.b .lss] .skip (.exit 0)) (.seq (.block 1 (.seq (.seq (.region (D_ [.m 0,.m 5,.x 2,.f 0,.l,.m 1,.m 5,.x 2,.f 0,.l,.b .neq,.w,.m 0,.m 5,.x 2,.f 1,.l,.v,.m 1,.m 5,.x 2,.f 1,.l,.v,.b .neq,.O] 18) .calm [18,42]) (c_ 43 (Q_ 4 [.K (cb false)] .ret) .skip)) (Q_ 6 [.n 0] (.block 2 (.loop (.seq (C_ 44 50 [.m 6,.m 0,.m 5,.x 2,.f 1,.l,.v,.b .lss] .skip (.exit 2)) (.seq (.block 3 (.seq (.region (D_ [.m 0,.m 5,.x 2,.f 1,.l,.m 6,.x 1,.l,.m 1,.m 5,.x 2,.f 1,.l,.m 6,.x 1,.l,.b .neq] 54) .calm [54,69]) (c_ 70 (Q_ 4 [.K (cb false)] .ret) .skip))) (X_ 52 53 [.m 6,.P 1,.a 6])))))))) (X_ 16 17 [.m 5,.P 1,.a 5])))))) (Q_ 4 [.K (cb true)] .ret)))
theorem afR:FnOk T_ 71 aeu [.tmp 4] 71:=fK_ Tryz.func71
def C4:VCode:=Q_ 2 [.K (.const .nils)] (Q_ 3 [.K (.const .nils)] (.seq (Q_ 4 [.n 0] (.block 0 (.loop (.seq (C_ 5 7 [.m 4,.m 0,.v,.b .lss] .skip (.exit 0)) (.seq (.block 1 (.region (D_ [.m 3,.m 0,.m 4,.x 2,.f 0,.l,.m 0,.m 4,.x 2,.f 1,.l,.g (.build z_6 [(0,1,tm 16),(1,1,tm 21)]),.g (.buildSlice 2 1 z_6 [(0,2,tm 22)]),.g (.append 141 2 40 (tm 11) (tm 23)),.a 3] 11) (.drawn [(0,12)] (wo [(12,[(0,11)]),(13,[(0,12)])])) [11,24])) (X_ 9 10 [.m 4,.P 1,.a 4])))))) (R_ 25 25 [.m 3,.a 2] .ret)))
theorem Kq:FnOk T_ 72 C4 [.tmp 2] 26:=fK_ Tryz.func72
def C6:VCode:=Q_ 2 [.K (cb false)] (R_ 3 22 [.m 0,.g (.bin .neq (tm 3) (cs [])),.z,.m 0,.h,.i .leq 24,.A,.z,.m 0,.c1 140,.m 0,.h,.b .eql,.A,.z,.m 0,.c1 141,.m 0,.b .eql,.A,.a 2] .ret)
theorem Kr:FnOk T_ 91 C6 [.tmp 2] 23:=fK_ Tryz.func91
def tr:VCode:=Q_ 2 [.n 0] (.seq (C_ 10 11 [.m 0,.v,.i .gtr 6] (Q_ 2 [.n 20] .ret) .skip) (.seq (Q_ 13 [.m 0,.v,.n 0] (.block 0 (.loop (Q_ 16 [.g (.bin .lss (tm 15) (tm 14))] (.seq (c_ 16 .skip (.exit 0)) (.seq (.block 1 (R_ 17 18 [.g (.indexAddr 2 (tm 13) (tm 15)),.L 2,.Y 4 z_6,.s 2 4] (R_ 19 20 [.W 2 4,.c1 142,.a 5] (C_ 21 21 [.m 5,.N 0] (R_ 23 23 [.m 5,.a 2] .ret) .skip)))) (X_ 24 24 [.g (.bin .add (tm 15) (ci 1)),.a 15]))))))) (.seq (Q_ 25 [.m 0,.v,.n 0] (.block 2 (.loop (Q_ 28 [.g (.bin .lss (tm 27) (tm 26))] (.seq (c_ 28 .skip (.exit 2)) (.seq (.block 3 (R_ 29 31 [.m 27,.g (.indexAddr 2 (tm 25) (tm 27)),.L 2,.Y 7 z_6,.M 6 29,.s 2 7] (.seq (.region (D_ [.m 0,.m 6,.g (.subV 2 (tm 33) none (some (tm 34)) none),.F 0 7,.l,.c2 143,.a 32,.e 32 0,.e 32 1,.Y 8 z_6,.T 2 8 39,.a 9] 33) (.drawn [(0,9),(1,9),(2,9),(3,9),(4,9),(5,9),(6,9),(7,9),(8,9)] (wo [(5,[(0,4),(9,9)]),(9,[(0,8)])])) [8,8,32,40]) (Q_ 41 [.m 9] (c_ 41 (Q_ 2 [.n 19] .ret) .skip))))) (X_ 42 42 [.g (.bin .add (tm 27) (ci 1)),.a 27]))))))) (Q_ 2 [.n 0] .ret))))
theorem C8:FnOk T_ 92 tr [.tmp 2] 43:=fK_ Tryz.func92
def C9:VCode:=Q_ 2 [.K (cb false)] (.seq (Q_ 3 [.n 0] (.block 0 (.loop (.seq (C_ 4 6 [.m 3,.m 0,.h,.b .lss] .skip (.exit 0)) (.seq (.block 1 (C_ 10 13 [.m 0,.m 3,.y,.c1 156,.u] (Q_ 2 [.K (cb false)] .ret) .skip)) (X_ 8 9 [.m 3,.P 1,.a 3])))))) (R_ 15 22 [.m 0,.h,.i .geq 1,.z,.m 0,.h,.i .leq 24,.A,.a 2] .ret))
theorem Ks:FnOk T_ 98 C9 [.tmp 2] 23:=fK_ Tryz.func98
def tv:VCode:=Q_ 2 [.n 0] (.seq (C_ 6 7 [.m 0,.v,.i .gtr 6] (Q_ 2 [.n 20] .ret) .skip) (.seq (Q_ 3 [.n 0] (.block 0 (.loop (.seq (C_ 9 11 [.m 3,.m 0,.v,.b .lss] .skip (.exit 0)) (.seq (.block 1 (R_ 15 19 [.m 0,.m 3,.x 2,.L 2,.c1 157,.a 4] (C_ 20 20 [.m 4,.N 0] (R_ 22 22 [.m 4,.a 2] .ret) .skip))) (X_ 13 14 [.m 3,.P 1,.a 3])))))) (.seq (Q_ 5 [.n 0] (.block 2 (.loop (.seq (C_ 23 25 [.m 5,.m 0,.v,.b .lss] .skip (.exit 2)) (.seq (.block 3 (.seq (.region (D_ [.m 0,.m 5,.g (.subV 2 (tm 29) none (some (tm 30)) none),.m 0,.m 5,.x 2,.f 0,.l,.c2 158] 29) (.drawn [] (wo [(8,[(0,7)])])) [29,36]) (c_ 37 (Q_ 2 [.n 19] .ret) .skip))) (X_ 27 28 [.m 5,.P 1,.a 5])))))) (Q_ 2 [.n 0] .ret))))
theorem Cb:FnOk T_ 99 tv [.tmp 2] 38:=fK_ Tryz.func99
def my:VCode:=Q_ 2 [.K (.const .nils)] (.seq (C_ 3 3 [.m 0,.g (.eqS false (tm 3))] (Q_ 2 [.K (.const .nils)] .ret) .skip) (R_ 5 7 [.g (.buildSlice 1 0 z_9 []),.m 0,.p 9 1 16,.a 2] .ret))
theorem uz:FnOk T_ 130 my [.tmp 2] 8:=fK_ Tryz.func130
def za:VCode:=Q_ 2 [.n 0] (.seq (Q_ 3 [.n 0] (.block 0 (.loop (.seq (C_ 5 7 [.m 3,.m 0,.h,.b .lss] .skip (.exit 0)) (.seq (.block 1 (R_ 11 13 [.m 0,.m 3,.y,.a 4] (C_ 14 39 [.m 4,.U .geq 65,.z,.m 4,.U .leq 90,.A,.w,.m 4,.U .geq 97,.z,.m 4,.U .leq 122,.A,.O,.w,.m 4,.U .geq 48,.z,.m 4,.U .leq 57,.A,.O,.w,.m 4,.U .eql 45,.O,.u] (R_ 41 41 [.m 3,.a 2] .ret) .skip))) (X_ 9 10 [.m 3,.P 1,.a 3])))))) (R_ 42 43 [.m 0,.h,.a 2] .ret))
theorem Ii:FnOk T_ 140 za [.tmp 2] 44:=fK_ Tryz.func140
def zc:VCode:=Q_ 1 [.X 0,.n 0] (.seq (C_ 8 10 [.F 0 1,.l,.c1 91,.u] (Q_ 2 [.n 4] .ret) .skip) (.seq (R_ 12 14 [.F 1 1,.l,.v,.a 3] (C_ 15 19 [.m 3,.E 0,.w,.m 3,.i .gtr 6,.O] (Q_ 2 [.n 20] .ret) .skip)) (.seq (G_ 21 [.F 1 1,.l,.v,.n 0] [21,21] (.block 0 (.loop (Q_ 25 [.g (.bin .lss (tm 24) (tm 23))] (.seq (c_ 25 .skip (.exit 0)) (.seq (.block 1 (R_ 26 27 [.g (.indexAddr 1 (tm 22) (tm 24)),.l,.a 5] (.seq (C_ 28 29 [.m 5,.h,.i .gtr 60] (Q_ 2 [.n 5] .ret) .skip) (G_ 31 [.m 5,.g (.call 209 [tm 31,cs [10]]),.v,.n 0] [31,31] (.block 2 (.loop (Q_ 35 [.g (.bin .lss (tm 34) (tm 33))] (.seq (c_ 35 .skip (.exit 2)) (.seq (.block 3 (R_ 36 37 [.g (.indexAddr 1 (tm 32) (tm 34)),.l,.a 7] (C_ 38 39 [.m 7,.c1 93,.i .geq 0] (Q_ 2 [.n 10] .ret) .skip))) (X_ 41 41 [.g (.bin .add (tm 34) (ci 1)),.a 34])))))))))) (X_ 42 42 [.g (.bin .add (tm 24) (ci 1)),.a 24]))))))) (Q_ 2 [.n 0] .ret))))
theorem Ij:FnOk T_ 142 zc [.tmp 2] 43:=fK_ Tryz.func142
def Cc:VCode:=Q_ 4 [.Z z_6,.K (cb false)] (.seq (Q_ 8 [.m 0,.v,.n 0] (.block 0 (.loop (Q_ 11 [.g (.bin .lss (tm 10) (tm 9))] (.seq (c_ 11 .skip (.exit 0)) (.seq (.block 1 (R_ 12 13 [.g (.indexAddr 2 (tm 8) (tm 10)),.L 2,.Y 7 z_6,.s 2 7] (C_ 14 16 [.F 0 7,.l,.m 1,.b .eql] (.seq (.region (D_ [.F 0 7,.l,.F 1 7,.l,.c1 130,.g (.build z_6 [(0,1,tm 19),(1,1,tm 22)]),.s 2 4,.J 5 (cb true)] 18) (.drawn [(0,4),(1,4)] (wo [(4,[(0,3)])])) [18,23]) .ret) .skip))) (X_ 24 24 [.g (.bin .add (tm 10) (ci 1)),.a 10]))))))) (R_ 25 25 [.D z_6,.s 2 4,.J 5 (cb false)] .ret))
theorem Kt:FnOk T_ 143 Cc [.cell 4 (some 2),.tmp 5] 26:=fK_ Tryz.func143
def Ce:VCode:=Q_ 2 [.K (cb false)] (R_ 3 20 [.m 0,.U .geq 65,.z,.m 0,.U .leq 90,.A,.w,.m 0,.U .geq 48,.z,.m 0,.U .leq 57,.A,.O,.w,.m 0,.U .eql 45,.O,.a 2] .ret)
theorem Ku:FnOk T_ 156 Ce [.tmp 2] 21:=fK_ Tryz.func156
def ze:VCode:=Q_ 1 [.X 0,.n 0] (.seq (C_ 4 6 [.F 0 1,.l,.c1 98,.u] (Q_ 2 [.n 4] .ret) .skip) (.seq (C_ 8 16 [.F 1 1,.l,.v,.i .lss 1,.w,.F 1 1,.l,.v,.i .gtr 6,.O] (Q_ 2 [.n 20] .ret) .skip) (.seq (Q_ 3 [.n 0] (.block 0 (.loop (.seq (C_ 18 21 [.m 3,.F 1 1,.l,.v,.b .lss] .skip (.exit 0)) (.seq (.block 1 (.seq (C_ 25 30 [.F 1 1,.l,.m 3,.x 1,.l,.h,.i .gtr 60] (Q_ 2 [.n 5] .ret) .skip) (C_ 32 37 [.F 1 1,.l,.m 3,.x 1,.l,.c1 225,.u] (Q_ 2 [.n 10] .ret) .skip))) (X_ 23 24 [.m 3,.P 1,.a 3])))))) (Q_ 2 [.n 0] .ret))))
theorem Ik:FnOk T_ 157 ze [.tmp 2] 39:=fK_ Tryz.func157
def Ft:VCode:=Q_ 4 [.K (cb false)] (.seq (Q_ 5 [.n 0] (.block 0 (.loop (.seq (C_ 6 8 [.m 5,.m 0,.v,.b .lss] .skip (.exit 0)) (.seq (.block 1 (C_ 12 17 [.m 0,.m 5,.x 2,.f 0,.l,.m 1,.b .eql] (Q_ 4 [.K (cb true)] .ret) .skip)) (X_ 10 11 [.m 5,.P 1,.a 5])))))) (Q_ 4 [.K (cb false)] .ret))
theorem NN:FnOk T_ 158 Ft [.tmp 4] 19:=fK_ Tryz.func158
def Cg:VCode:=Q_ 4 [.Z z_6,.K (cb false)] (.seq (Q_ 6 [.n 0] (.block 0 (.loop (.seq (C_ 7 9 [.m 6,.m 0,.v,.b .lss] .skip (.exit 0)) (.seq (.block 1 (C_ 13 18 [.m 0,.m 6,.x 2,.f 0,.l,.m 1,.b .eql] (R_ 20 23 [.m 0,.m 6,.x 2,.L 2,.s 2 4,.J 5 (cb true)] .ret) .skip)) (X_ 11 12 [.m 6,.P 1,.a 6])))))) (R_ 24 24 [.D z_6,.s 2 4,.J 5 (cb false)] .ret))
theorem Kv:FnOk T_ 161 Cg [.cell 4 (some 2),.tmp 5] 25:=fK_ Tryz.func161
def vr:VCode:=Q_ 4 [.K (.const .nils)] (R_ 5 7 [.m 0,.m 1,.g (.call 273 [tm 5,tm 6,ci 0,ci (-1)]),.a 4] .ret)
theorem Es:FnOk T_ 209 vr [.tmp 4] 8:=fK_ Tryz.func209
def Ci:VCode:=Q_ 2 [.K (cb false)] (Q_ 3 [.K (.const .nils)] (.seq (Q_ 4 [.n 0] (.block 0 (.loop (.seq (C_ 5 7 [.m 4,.m 0,.h,.b .lss] .skip (.exit 0)) (.seq (.block 1 (C_ 11 13 [.m 0,.m 4,.y,.U .neq 10] (X_ 15 20 [.m 3,.m 0,.m 4,.y,.g (.buildSlice 1 1 (z_ [.u]) [(0,1,tm 18)]),.g (.append 5 1 1 (tm 15) (tm 19)),.a 3]) (X_ 21 23 [.m 3,.g (.buildSlice 1 1 (z_ [.u]) [(0,1,cu 32)]),.p 5 1 1,.a 3]))) (X_ 9 10 [.m 4,.P 1,.a 4])))))) (R_ 24 27 [.m 3,.g (.convB (tm 24)),.c1 100,.E (-1),.a 2] .ret)))
theorem Kw:FnOk T_ 225 Ci [.tmp 2] 28:=fK_ Tryz.func225
def qc:VCode:=Q_ 8 [.K (.const .nils)] (.seq (C_ 12 12 [.m 3,.E 0] (Q_ 8 [.K (.const .nils)] .ret) .skip) (.seq (C_ 14 14 [.m 1,.t []] (R_ 16 18 [.m 0,.m 3,.c2 319,.a 8] .ret) .skip) (.seq (C_ 19 19 [.m 3,.i .lss 0] (X_ 21 24 [.m 0,.m 1,.c2 320,.P 1,.a 3]) .skip) (R_ 25 29 [.m 3,.m 0,.h,.P 1,.g (.minI (tm 25) (tm 28)),.a 3] (R_ 30 31 [.m 3,.g (.mkSlice 1 16 z_9 (tm 30) (tm 30)),.a 9] (R_ 32 33 [.m 3,.i .sub 1,.a 3] (Q_ 10 [.n 0] (.seq (.block 0 (.loop (.seq (C_ 34 35 [.m 10,.m 3,.b .lss] .skip (.exit 0)) (.block 1 (R_ 37 39 [.m 0,.m 1,.c2 321,.a 11] (.seq (C_ 40 40 [.m 11,.i .lss 0] (.exit 0) .skip) (R_ 42 49 [.m 9,.m 10,.m 0,.m 11,.m 2,.b .add,.g (.subS (tm 44) none (some (tm 47))),.g (.indexAddr 1 (tm 42) (tm 43)),.T 1 49 48] (R_ 50 55 [.m 0,.m 11,.m 1,.h,.b .add,.g (.subS (tm 50) (some (tm 54)) none),.a 0] (X_ 56 57 [.m 10,.P 1,.a 10]))))))))) (R_ 58 61 [.m 9,.m 10,.m 0,.g (.indexAddr 1 (tm 58) (tm 59)),.T 1 61 60] (R_ 62 65 [.m 9,.m 10,.P 1,.g (.subV 1 (tm 62) none (some (tm 64)) none),.a 8] .ret))))))))))
theorem yC:FnOk T_ 273 qc [.tmp 8] 66:=fK_ Tryz.func273
def lK:VCode:=Q_ 2 [.Z Ie,.K (cb false)] (.seq (Q_ 4 [.n 0] (.block 0 (.loop (.seq (C_ 6 8 [.m 4,.m 0,.h,.b .lss] .skip (.exit 0)) (.seq (.block 1 (R_ 12 14 [.m 0,.m 4,.y,.a 5] (.seq (C_ 15 15 [.m 5,.U .geq 128] (R_ 17 17 [.W 256 2,.s 256 2,.J 3 (cb false)] .ret) .skip) (X_ 18 19 [.m 5,.g (.indexArr 256 1 (tm 2) (tm 18)),.G none (.store 1 (tm 19) (cb true))])))) (X_ 10 11 [.m 4,.P 1,.a 4])))))) (R_ 20 20 [.W 256 2,.s 256 2,.J 3 (cb true)] .ret))
theorem tz:FnOk T_ 290 lK [.cell 2 (some 256),.tmp 3] 21:=fK_ Tryz.func290
def vu:VCode:=Q_ 4 [.n 0] (.seq (C_ 7 8 [.m 1,.h,.E 0] (R_ 10 12 [.m 0,.c1 358,.P 1,.a 4] .ret) .skip) (.seq (C_ 13 14 [.m 1,.h,.E 1] (R_ 16 19 [.m 0,.m 1,.g (.indexS (tm 17) (ci 0)),.g (.call 359 [tm 16,tm 18]),.a 4] .ret) .skip) (Q_ 5 [.n 0] (.block 0 (.loop (.block 1 (R_ 20 22 [.m 0,.m 1,.c2 321,.a 6] (.seq (C_ 23 23 [.m 6,.E (-1)] (R_ 25 25 [.m 5,.a 4] .ret) .skip) (R_ 26 27 [.m 5,.P 1,.a 5] (X_ 28 33 [.m 0,.m 6,.m 1,.h,.b .add,.g (.subS (tm 28) (some (tm 32)) none),.a 0]))))))))))
theorem Et:FnOk T_ 320 vu [.tmp 4] 34:=fK_ Tryz.func320
def vw:VCode:=Q_ 4 [.n 0] (R_ 5 7 [.m 0,.m 1,.c2 327,.a 4] .ret)
theorem Eu:FnOk T_ 321 vw [.tmp 4] 8:=fK_ Tryz.func321
def iA:VCode:=Q_ 4 [.n 0] (R_ 14 15 [.m 1,.h,.a 5] (.seq (.block 0 (R_ 17 23 [.m 5,.E 0,.w,.m 1,.m 0,.b .eql,.O,.a 16] (c_ 16 (Q_ 4 [.n 0] .ret) (R_ 25 26 [.m 5,.E 1,.a 24] (c_ 24 (R_ 27 30 [.m 0,.m 1,.g (.indexS (tm 28) (ci 0)),.g (.call 266 [tm 27,tm 29]),.a 4] .ret) (R_ 32 35 [.m 5,.m 0,.h,.b .geq,.a 31] (c_ 31 (Q_ 4 [.n (-1)] .ret) (R_ 37 44 [.m 5,.g (.load none (.glob 5)),.b .leq,.z,.m 0,.h,.i .leq 64,.A,.a 36] (c_ 36 (R_ 45 47 [.m 0,.m 1,.c2 360,.a 4] .ret) .skip))))))))) (R_ 48 49 [.m 1,.g (.indexS (tm 48) (ci 0)),.a 6] (R_ 50 51 [.m 1,.g (.indexS (tm 50) (ci 1)),.a 7] (Q_ 8 [.n 0] (R_ 52 56 [.m 0,.h,.m 5,.b .sub,.P 1,.a 9] (Q_ 10 [.n 0] (.seq (.block 1 (.loop (.seq (C_ 57 58 [.m 8,.m 9,.b .lss] .skip (.exit 1)) (.block 2 (.seq (C_ 60 63 [.m 0,.m 8,.y,.m 6,.b .neq] (R_ 65 71 [.m 0,.m 8,.P 1,.m 9,.g (.subS (tm 65) (some (tm 67)) (some (tm 68))),.m 6,.c2 266,.a 11] (.seq (C_ 72 72 [.m 11,.i .lss 0] (Q_ 4 [.n (-1)] .ret) .skip) (X_ 74 77 [.m 8,.m 11,.P 1,.b .add,.a 8]))) .skip) (.seq (C_ 78 92 [.m 0,.m 8,.P 1,.y,.m 7,.b .eql,.z,.m 0,.m 8,.m 8,.m 5,.b .add,.g (.subS (tm 85) (some (tm 86)) (some (tm 89))),.m 1,.b .eql,.A] (R_ 94 94 [.m 8,.a 4] .ret) .skip) (R_ 95 96 [.m 8,.P 1,.a 8] (R_ 97 98 [.m 10,.P 1,.a 10] (C_ 99 106 [.m 5,.g (.load none (.glob 5)),.b .leq,.z,.m 10,.m 8,.c1 361,.b .gtr,.A] (R_ 108 112 [.m 0,.m 8,.g (.subS (tm 108) (some (tm 109)) none),.m 1,.c2 360,.a 12] (.seq (C_ 113 113 [.m 12,.i .geq 0] (R_ 115 117 [.m 12,.m 8,.b .add,.a 4] .ret) .skip) (Q_ 4 [.n (-1)] .ret))) (C_ 118 131 [.m 5,.g (.load none (.glob 5)),.b .gtr,.z,.m 10,.m 8,.g (.bin .shr (tm 123) (.const (.val (.int .u64 4)))),.g (.bin .add (ci 4) (tm 124)),.g (.bin .geq (tm 122) (tm 125)),.A,.z,.m 8,.m 9,.b .lss,.A] (R_ 133 137 [.m 0,.m 8,.g (.subS (tm 133) (some (tm 134)) none),.m 1,.c2 362,.a 13] (.seq (C_ 138 138 [.m 13,.i .lss 0] (Q_ 4 [.n (-1)] .ret) .skip) (R_ 140 142 [.m 8,.m 13,.b .add,.a 4] .ret))) .skip)))))))))) (Q_ 4 [.n (-1)] .ret)))))))))
theorem nQ:FnOk T_ 327 iA [.tmp 4] 143:=fK_ Tryz.func327
def iC:VCode:=Q_ 4 [.K (cb false)] (R_ 5 9 [.m 0,.m 1,.g (.nilCheck (tm 5)),.g (.indexArr 256 1 (tm 7) (tm 6)),.l,.a 4] .ret)
theorem nR:FnOk T_ 332 iC [.tmp 4] 10:=fK_ Tryz.func332
end Go.Vs.YtcjeehebikeghaaGreatDoor
