/- A part of a proof. No conditions. -/
import Derived.Test.YtnhbiolfmeeniaaGreatDoorBHz
import Derived.Lib.ItoaNum
set_option linter.all false
set_option maxRecDepth 100000
set_option maxHeartbeats 4000000
namespace Go.Vs.Y
open Go.Proofs Go.Vs.U8
theorem zi(s:Str)(c:UInt8):Fn G T_ 163 [.str s,.int .u8 c.toNat] (.int .i64 (qT s c)):=by
 refine ae hm o0 (by simp) ?_;simp[ig];refine aa (D8 s c) ?_;simp
theorem El(s:Str)(c:UInt8):Fn G T_ 109 [.str s,.int .u8 c.toNat] (.int .i64 (qT s c)):=by
 refine ae hm zh (by simp) ?_;simp[rx];refine aa (zi s c) ?_;simp
theorem VL(c:UInt8)(r:Str):rr (c::r)=(gh (c::r)==0||(decide (c.toNat<32)&&!decide (c.toNat=9))||decide (c.toNat=127)):=rfl
theorem Zd(s:Str)(a:Nat)(d:s.length<1000000)(f:a<s.length):Fn G T_ 88 [.str s,.int .i64 a,.int .i32 (dec (s.drop a)).1] (.bool (decide ((dec (s.drop a))=(65533,1)))):=by
 refine ae hm Nj (by simp) ?_;have b:=Nh (s.drop a) (by intro e;have:=congrArg List.length e;simp at this;omega);obtain⟨⟨r,k⟩,c⟩:=A_ (dec (s.drop a));rw[c]at b |-;by_cases h:r=65533
 .subst h;simp(disch:=omega)[xk,Gi,OO];refine⟨by omega,?_⟩;refine aa b ?_;simp;omega
 simp(disch:=omega)[xk,Gi,OO,h]
theorem abY(s:Str)(x:s.length<1000000):Fn G T_ 53 [.str s] (.int .i64 (T6 (Hx s))):=by
 refine ae hm VJ (by simp) ?_;simp[P6];refine bx hm [] (fun i:Nat=>[]) (fun i=>[(6,.iter s i)]) (fun i=>i<=s.length/\Hx s=(Hx (s.drop i)).map (· + i)) (fun i=>s.length-i) 0 ⟨by omega,by simp⟩ ?_ ?_
 .simp;exact bA
 rintro i ⟨D,p⟩;simp;by_cases h:i<s.length
 .have b:=ahU h p;have e:=Zd s i x h;obtain⟨c,y⟩:=A_ (s[i]);have w:s.drop i=c::s.drop (i+1):=by rw[<-y];exact List.drop_eq_getElem_cons h
  have m:=T5 (s.drop i);rw[List.length_drop]at m;have a:=Za c (s.drop (i+1));have j:=VL c (s.drop (i+1));rw[<-w]at a j;have A:=abX c;have d:=T7 s i (by omega);clear w p;obtain⟨z,B⟩:=A_ (gh (s.drop i));obtain⟨⟨r,k⟩,C⟩:=A_ (dec (s.drop i));rw[B]at b m a j;rw[C]at a e d;simp only[Prod.mk.injEq]at a e;have n:rr (s.drop i)=true->T6 (Hx s)=i:=fun l=>by simp[b,l,T6]
  have go:rr (s.drop i)=false->Hx s=(Hx (s.drop (i+z))).map (· + (i+z)):=fun l=>by
   rw[if_neg (by simp[l])]at b;exact b
  clear b;rcases a with⟨l,⟨rfl,rfl⟩,rfl⟩|⟨l,rfl,rfl,rfl⟩|⟨l,o,E,rfl⟩
  .have f:¬(c.toNat=65533/\1=1):=by omega
   rw[decide_eq_false f]at e;by_cases o:(c.toNat<32/\c.toNat≠9)\/c.toNat=127
   .have q:=n (by rw[j];simp;omega);have g:(c.toNat<32/\c.toNat≠9)\/(¬c.toNat<32/\c.toNat=127):=by omega
    rcases g with o|o
    all_goals
     simp[h,d];refine aa e ?_;simp(disch:=omega)[OO,Gi,q]
   have u:=go (by rw[j];simp;omega);have g:(c.toNat<32/\c.toNat=9)\/(¬c.toNat<32/\c.toNat≠127):=by omega
   rcases g with o|o
   all_goals
    simp[h,d];refine aa e ?_;simp(disch:=omega)[OO,Gi];refine aj (i+1) ⟨by omega,u⟩ (by omega) ?_;simp;exact bA
  .have q:=n (by rw[j];simp);simp[h,d];refine aa e ?_;simp[q]
  have u:=go (by rw[j];simp;omega);have f:¬(r=65533/\k=1):=by omega
  rw[decide_eq_false f]at e;simp[h,d];refine aa e ?_;simp(disch:=omega)[OO,Gi];refine aj (i+k) ⟨by omega,u⟩ (by omega) ?_;simp;exact bA
 obtain rfl:i=s.length:=by omega
 have v:Hx s=none:=by rw[p,List.drop_length];rfl
 simp[v,T6]
theorem Tb{ps:List Int}(h:∀p∈ps,-1000000<p/\p<1000000):∀k:Nat,-1000000*(k:Int)<=(ps.take k).sum/\(ps.take k).sum<=1000000*(k:Int):=by
 intro k
 induction k with
 |zero=>simp
 |succ k b=>
  by_cases a:k<ps.length
  .rw[List.take_succ_eq_append_getElem a,List.sum_append];have:=h _ (List.getElem_mem a);simp;omega
  rw[List.take_of_length_le (by omega)]at b |-;omega
theorem afb(n:Int)(ps:List Int)(d:∀p∈ps,-1000000<p/\p<1000000)(g:ps.length<1000):Fn G T_ 50 [dD n ps] (.tuple [.int .i64 ps.sum,.int .i64 ps.length]):=by
 refine ae hm Ni (by simp) ?_;simp[Ej];refine bx hm [] (fun k:Nat=>[(0,.val (dD n (ps.drop k))),(4,.val (.int .i64 (ps.take k).sum)),(5,.val (.int .i64 k))]) (fun _=>[]) (fun k=>k<=ps.length) (fun k=>ps.length-k) 0 (by omega) ?_ ?_
 .simp;exact bA
 intro k i;have j:=Tb d k;by_cases h:k<ps.length
 .have e:ps.drop k=ps[k]::ps.drop (k+1):=List.drop_eq_getElem_cons h;have f:(ps.take (k+1)).sum=(ps.take k).sum+ps[k]:=by rw[List.take_succ_eq_append_getElem h,List.sum_append];simp
  have a:=d _ (List.getElem_mem h);obtain⟨p,b⟩:=A_ (ps[k]);rw[b]at e f a;obtain⟨t,v,l⟩:=dQ n (ps.drop (k+1));have c:=Z6 .nilp [.int .i64 p,dD n (ps.drop (k+1))];rw[e];simp only[dD];simp;refine callM [(1000,6)] [] c rfl rfl ⟨rfl,trivial⟩ ⟨[],[],rfl,⟨rfl,rfl⟩,rfl⟩ rfl ?_;simp(disch:=omega)[wl];refine aj (k+1) (by omega) (by omega) ?_;simp[f];exact bA
 obtain rfl:k=ps.length:=by omega
 have c:=Z7 n .nilp;simp[dD];refine callM [(1000,6)] [] c rfl rfl ⟨rfl,trivial⟩ ⟨[],[],rfl,⟨rfl,rfl⟩,rfl⟩ rfl ?_;simp
theorem fn_Place(n:Int)(ps:List Int)(a:∀p∈ps,-1000000<p/\p<1000000)(b:ps.length<1000):Fn G T_ 20 [dD n ps] (.int .i64 ps.sum):=by
 refine ae hm Kt (by simp) ?_;simp[Bp];refine aa (afb n ps a b) ?_;simp
end Go.Vs.Y
namespace Go.Vs.Nu
open Go.Vs.U8 Go.Lib
def eI(c:UInt8):Bool:=decide (48<=c.toNat/\c.toNat<=57)
def bE:Nat->Str->Nat
 |n,[]=>n
 |n,c::r=>bE (10*n+(c.toNat-48)) r
theorem Kx(a b:Str):∀n,bE n (a++b)=bE (bE n a) b:=by
 induction a with
 |nil=>intro n;rfl
 |cons c r d=>intro n;exact d (10*n+(c.toNat-48))
theorem Gr(k:Nat)(h:k<10):eI (UInt8.ofNat (48+k))=true/\(UInt8.ofNat (48+k)).toNat-48=k:=by
 have:∀k:Fin 10,eI (UInt8.ofNat (48+k.1))=true/\(UInt8.ofNat (48+k.1)).toNat-48=k.1:=by decide
 exact this ⟨k,h⟩
theorem J8{p:UInt8->Bool}{c:UInt8}(h:p c=true):[c].all p=true:=by rw[List.all_cons,h];rfl
theorem J9(n:Nat)(c:UInt8):bE n [c]=10*n+(c.toNat-48):=rfl
theorem Xl:∀(n u:Nat),u<=n->(decDigits u).all eI=true
 |n,u,h=>by
  rw[decDigits];split
  .next a=>exact J8 (Gr u a).1
  next a=>
  cases n with
  |zero=>omega
  |succ n=>
   rw[List.all_append,Xl n (u/10) (by omega),J8 (Gr (u%10) (by omega)).1];rfl
theorem dec_val:∀(n u:Nat),u<=n->bE 0 (decDigits u)=u
 |n,u,h=>by
  rw[decDigits];split
  .next a=>rw[J9,(Gr u a).2];omega
  next a=>
  cases n with
  |zero=>omega
  |succ n=>
   rw[Kx,dec_val n (u/10) (by omega)];rw[J9,(Gr (u%10) (by omega)).2];omega
theorem xn(u:Nat):(decDigits u).all eI=true:=Xl u u (Nat.le_refl _)
theorem Ky(u:Nat):bE 0 (decDigits u)=u:=dec_val u u (Nat.le_refl _)
theorem VM(u:Nat):decDigits u≠[]:=by
 rw[decDigits];split<;>simp
theorem Xm(u:Nat):1<=(decDigits u).length:=List.length_pos_iff.2 (VM u)
theorem xo:∀(k u:Nat),u<10 ^ (k+1)->(decDigits u).length<=k+1
 |0,u,h=>by rw[decDigits,dif_pos (by omega)];simp
 |k+1,u,h=>by
  rw[decDigits];split
  .simp
  rw[List.length_append];have:=xo k (u/10) (by rw[Nat.pow_succ]at h;omega);simp;omega
theorem Gs:∀(l:Str) (n:Nat),l.all eI=true->bE n l<(n+1)*10 ^ l.length
 |[],n,_=>by
  show n<(n+1)*1;omega
 |c::r,n,h=>by
  simp only[List.all_cons,Bool.and_eq_true]at h;have a:=Gs r (10*n+(c.toNat-48)) h.2;have b:c.toNat-48<=9:=by have:=h.1;simp[eI]at this;omega
  have e:bE n (c::r)=bE (10*n+(c.toNat-48)) r:=rfl;rw[e,List.length_cons,Nat.pow_succ];have d:(10*n+(c.toNat-48)+1)*10 ^ r.length<=((n+1)*10)*10 ^ r.length:=Nat.mul_le_mul_right _ (by omega);have f:(n+1)*(10 ^ r.length*10)=((n+1)*10)*10 ^ r.length:=by rw[Nat.mul_comm (10 ^ r.length) 10,Nat.mul_assoc]
  omega
def fi(s:Str):Str:=(s.reverse.dropWhile eI).reverse
theorem QB(x:Str){d:Str}(h:d.all eI=true):fi (x++d)=fi x:=by
 unfold fi;rw[List.reverse_append]
 have:∀(l r:Str),l.all eI=true->(l++r).dropWhile eI=r.dropWhile eI:=by
  intro l
  induction l with
  |nil=>intro r _;rfl
  |cons c l b=>
   intro r a;simp only[List.all_cons,Bool.and_eq_true]at a;rw[List.cons_append,List.dropWhile_cons_of_pos a.1,b r a.2]
 rw[this _ _ (by rw[List.all_reverse];exact h)]
theorem xp(s:Str):∃d,s=fi s++d/\d.all eI=true:=by
 refine⟨(s.reverse.takeWhile eI).reverse,?_,?_⟩
 .unfold fi;rw[<-List.reverse_append,List.takeWhile_append_dropWhile,List.reverse_reverse]
 rw[List.all_reverse,List.all_eq_true];intro c a;exact List.all_eq_true.1 (List.all_takeWhile (l:=s.reverse) (p:=eI)) c a
def nu(c:UInt8):Bool:=decide ((65<=c.toNat/\c.toNat<=90)\/(97<=c.toNat/\c.toNat<=122)\/(48<=c.toNat/\c.toNat<=57)\/c.toNat=45\/c.toNat=46\/c.toNat=95\/c.toNat=64)
def ti(s:Str):Bool:=decide (1<=s.length)&&(decide (s.length<=24)&&s.all nu)
theorem abZ{c:UInt8}(h:eI c=true):nu c=true:=by simp[eI,nu]at h |-;omega
theorem ab0(s:Str):ti s=true↔1<=s.length/\s.length<=24/\s.all nu=true:=by simp[ti]
def Em(s:Str):Str:=if ti s=true/\(fi s).length≠s.length/\(fi s).getLast?=some 46/\(fi s).dropLast≠[]then (fi s).dropLast else s
end Go.Vs.Nu
namespace Go.Vs
open Go.Vs.Nu
def zv(i:Nat):List IV:=(List.range 256).map fun j=>.bool (decide (48<=j/\j<48+i))
def zs(i:Nat):List SV:=(zv i).map .val
def Kz:List SV:=List.replicate 256 (.val (.bool false))
theorem Gt(i:Nat):(zv i).length=256:=by simp[zv]
theorem vm(i:Nat):(zs i).length=256:=by simp[zs,Gt]
theorem Gu(i j:Nat)(h:j<256):(zs i)[j]?=some (.val (.bool (decide (48<=j/\j<48+i)))):=by
 simp[zs,zv,h]
theorem VN(i:Nat):List.map SV.val (zv i)=zs i:=rfl
theorem KA:Kz=zs 0:=by
 refine List.ext_getElem? fun j=>?_
 have a:Kz.length=256:=by unfold Kz;exact List.length_replicate
 by_cases h:j<256
 .rw[Gu 0 j h,decide_eq_false (by omega)];unfold Kz;rw[List.getElem?_replicate,if_pos h]
 rw[List.getElem?_eq_none (by rw[a];omega),List.getElem?_eq_none (by rw[vm];omega)]
theorem QC(i:Nat):(zs i).take 256=zs i:=List.take_of_length_le (by rw[vm];exact Nat.le_refl _)
theorem QD(i:Nat):(zv i).take 256=zv i:=List.take_of_length_le (by rw[Gt];exact Nat.le_refl _)
theorem QE(i:Nat):(zs i).drop 256=[]:=List.drop_eq_nil_of_le (by rw[vm];exact Nat.le_refl _)
theorem KB:∀l:List IV,iJ (l.map .val)=some l
 |[]=>rfl
 |x::r=>by rw[List.map_cons,iJ,KB r]
theorem Xn(a:List (Nat×Ob)):∀l:List IV,qS a (l.map .val)=some (l,[])
 |[]=>rfl
 |x::r=>by rw[List.map_cons,qS,Xn a r];rfl
theorem ahX(i:Nat):iJ (zs i)=some (zv i):=KB _
theorem QF(a:List (Nat×Ob))(i:Nat):qS a (zs i)=some (zv i,[]):=Xn _ _
theorem P9(k:Nat):∀l:List IV,fJ k (l.map .val)=l.map .val
 |[]=>rfl
 |x::r=>by rw[List.map_cons,fJ,P9 k r];rfl
theorem zj(k i:Nat):fJ k (zs i)=zs i:=P9 _ _
theorem afc(i:Nat)(h:i<10):(zs i).take (48+i)++.val (.bool true)::(zs i).drop (48+i+1)=zs (i+1):=by
 refine List.ext_getElem? fun j=>?_
 have a:((zs i).take (48+i)).length=48+i:=by rw[List.length_take,vm];omega
 by_cases b:j<48+i
 .rw[List.getElem?_append_left (by rw[a];exact b),List.getElem?_take_of_lt b,Gu _ _ (by omega),Gu _ _ (by omega)];congr 3;rw[decide_eq_decide];omega
 rw[List.getElem?_append_right (by rw[a];omega),a];by_cases d:j=48+i
 .subst d;rw[Nat.sub_self,List.getElem?_cons_zero,Gu _ _ (by omega),decide_eq_true (by omega)]
 obtain⟨t,e⟩:∃t,j-(48+i)=t+1:=⟨j-(48+i)-1,by omega⟩;rw[e,List.getElem?_cons_succ,List.getElem?_drop,show 48+i+1+t=j by omega];by_cases c:j<256
 .rw[Gu _ _ c,Gu _ _ c];congr 3;rw[decide_eq_decide];omega
 rw[List.getElem?_eq_none (by rw[vm];omega),List.getElem?_eq_none (by rw[vm];omega)]
theorem afd(c:UInt8):∃r,(zv 10).drop c.toNat=.bool (eI c)::r:=by
 have a:c.toNat<256:=c.toNat_lt;refine⟨(zv 10).drop (c.toNat+1),?_⟩;rw[List.drop_eq_getElem_cons (by rw[Gt];exact a)];congr 1;simp only[zv,List.getElem_map,List.getElem_range,eI];congr 1;rw[decide_eq_decide];omega
end Go.Vs
namespace Go.Vs.Y
open Go.Proofs
def Bs:VCode:=Q_ 2 [.K (cb false)] (.seq (C_ 5 6 [.m 0,.v,.i .gtr 10] (Q_ 2 [.K (cb false)] .ret) .skip) (.seq (Q_ 3 [.n 0] (.block 0 (.loop (.seq (C_ 8 10 [.m 3,.m 0,.v,.b .lss] .skip (.exit 0)) (.seq (.block 1 (.seq (C_ 14 28 [.m 0,.m 3,.x 2,.f 0,.l,.h,.i .gtr 40,.w,.m 0,.m 3,.x 2,.f 1,.l,.v,.i .gtr 10,.O] (Q_ 2 [.K (cb false)] .ret) .skip) (Q_ 4 [.n 0] (.block 2 (.loop (.seq (C_ 30 36 [.m 4,.m 0,.m 3,.x 2,.f 1,.l,.v,.b .lss] .skip (.exit 2)) (.seq (.block 3 (C_ 40 48 [.m 0,.m 3,.x 2,.f 1,.l,.m 4,.x 1,.l,.h,.i .gtr 80] (Q_ 2 [.K (cb false)] .ret) .skip)) (X_ 38 39 [.m 4,.P 1,.a 4])))))))) (X_ 12 13 [.m 3,.P 1,.a 3])))))) (Q_ 2 [.K (cb true)] .ret)))
theorem KC:FnOk T_ 15 Bs [.tmp 2] 50:=fK_ Tryz.func15
def HE:VCode:=Q_ 2 [.K (.const .nils)] (Q_ 3 [.K (.const .nils)] (.seq (Q_ 4 [.n 0] (.block 0 (.loop (.seq (C_ 6 8 [.m 4,.m 0,.v,.b .lss] .skip (.exit 0)) (.seq (.block 1 (R_ 12 17 [.m 0,.m 4,.x 2,.f 0,.l,.g (.build z_8 [(0,1,tm 16)]),.Y 5 z_8,.s 2 5] (.seq (.region (D_ [.F 1 5,.l,.m 0,.m 4,.x 2,.f 1,.l,.p 9 1 16,.F 1 5,.T 1 26 25] 18) (.drawn [] (wd [(7,[(0,6)])])) [18,26]) (X_ 27 30 [.m 3,.W 2 5,.g (.buildSlice 2 1 z_8 [(0,2,tm 28)]),.g (.append 92 2 40 (tm 27) (tm 29)),.a 3])))) (X_ 10 11 [.m 4,.P 1,.a 4])))))) (R_ 31 31 [.m 3,.a 2] .ret)))
theorem QG:FnOk T_ 21 HE [.tmp 2] 32:=fK_ Tryz.func21
def En:VCode:=Q_ 2 [.K (cb false)] (R_ 3 22 [.m 0,.g (.bin .neq (tm 3) (cs [])),.z,.m 0,.h,.i .leq 24,.A,.z,.m 0,.c1 84,.m 0,.h,.b .eql,.A,.z,.m 0,.c1 85,.m 0,.b .eql,.A,.a 2] .ret)
theorem Nk:FnOk T_ 51 En [.tmp 2] 23:=fK_ Tryz.func51
def wu:VCode:=Q_ 2 [.n 0] (.seq (C_ 10 11 [.m 0,.v,.i .gtr 6] (Q_ 2 [.n 20] .ret) .skip) (.seq (Q_ 13 [.m 0,.v,.n 0] (.block 0 (.loop (Q_ 16 [.g (.bin .lss (tm 15) (tm 14))] (.seq (c_ 16 .skip (.exit 0)) (.seq (.block 1 (R_ 17 18 [.g (.indexAddr 2 (tm 13) (tm 15)),.L 2,.Y 4 z_8,.s 2 4] (R_ 19 20 [.W 2 4,.c1 86,.a 5] (C_ 21 21 [.m 5,.N 0] (R_ 23 23 [.m 5,.a 2] .ret) .skip)))) (X_ 24 24 [.g (.bin .add (tm 15) (ci 1)),.a 15]))))))) (.seq (Q_ 25 [.m 0,.v,.n 0] (.block 2 (.loop (Q_ 28 [.g (.bin .lss (tm 27) (tm 26))] (.seq (c_ 28 .skip (.exit 2)) (.seq (.block 3 (R_ 29 31 [.m 27,.g (.indexAddr 2 (tm 25) (tm 27)),.L 2,.Y 7 z_8,.M 6 29,.s 2 7] (.seq (.region (D_ [.m 0,.m 6,.g (.subV 2 (tm 33) none (some (tm 34)) none),.F 0 7,.l,.c2 87,.a 32,.e 32 0,.e 32 1,.Y 8 z_8,.T 2 8 39,.a 9] 33) (.drawn [(0,9),(1,9),(2,9),(3,9),(4,9),(5,9),(6,9),(7,9),(8,9)] (wd [(5,[(0,4),(9,9)]),(9,[(0,8)])])) [8,8,32,40]) (Q_ 41 [.m 9] (c_ 41 (Q_ 2 [.n 19] .ret) .skip))))) (X_ 42 42 [.g (.bin .add (tm 27) (ci 1)),.a 27]))))))) (Q_ 2 [.n 0] .ret))))
theorem Ep:FnOk T_ 52 wu [.tmp 2] 43:=fK_ Tryz.func52
def Bu:VCode:=Q_ 2 [.n 0] (.seq (Q_ 3 [.n 0] (.block 0 (.loop (.seq (C_ 5 7 [.m 3,.m 0,.h,.b .lss] .skip (.exit 0)) (.seq (.block 1 (R_ 11 13 [.m 0,.m 3,.y,.a 4] (C_ 14 39 [.m 4,.U .geq 65,.z,.m 4,.U .leq 90,.A,.w,.m 4,.U .geq 97,.z,.m 4,.U .leq 122,.A,.O,.w,.m 4,.U .geq 48,.z,.m 4,.U .leq 57,.A,.O,.w,.m 4,.U .eql 45,.O,.u] (R_ 41 41 [.m 3,.a 2] .ret) .skip))) (X_ 9 10 [.m 3,.P 1,.a 3])))))) (R_ 42 43 [.m 0,.h,.a 2] .ret))
theorem KD:FnOk T_ 84 Bu [.tmp 2] 44:=fK_ Tryz.func84
def Bw:VCode:=Q_ 1 [.X 0,.n 0] (.seq (C_ 8 10 [.F 0 1,.l,.c1 51,.u] (Q_ 2 [.n 4] .ret) .skip) (.seq (R_ 12 14 [.F 1 1,.l,.v,.a 3] (C_ 15 19 [.m 3,.E 0,.w,.m 3,.i .gtr 6,.O] (Q_ 2 [.n 20] .ret) .skip)) (.seq (G_ 21 [.F 1 1,.l,.v,.n 0] [21,21] (.block 0 (.loop (Q_ 25 [.g (.bin .lss (tm 24) (tm 23))] (.seq (c_ 25 .skip (.exit 0)) (.seq (.block 1 (R_ 26 27 [.g (.indexAddr 1 (tm 22) (tm 24)),.l,.a 5] (.seq (C_ 28 29 [.m 5,.h,.i .gtr 60] (Q_ 2 [.n 5] .ret) .skip) (G_ 31 [.m 5,.g (.call 134 [tm 31,cs [10]]),.v,.n 0] [31,31] (.block 2 (.loop (Q_ 35 [.g (.bin .lss (tm 34) (tm 33))] (.seq (c_ 35 .skip (.exit 2)) (.seq (.block 3 (R_ 36 37 [.g (.indexAddr 1 (tm 32) (tm 34)),.l,.a 7] (C_ 38 39 [.m 7,.c1 53,.i .geq 0] (Q_ 2 [.n 10] .ret) .skip))) (X_ 41 41 [.g (.bin .add (tm 34) (ci 1)),.a 34])))))))))) (X_ 42 42 [.g (.bin .add (tm 24) (ci 1)),.a 24]))))))) (Q_ 2 [.n 0] .ret))))
theorem KE:FnOk T_ 86 Bw [.tmp 2] 43:=fK_ Tryz.func86
def Er:VCode:=Q_ 4 [.Z z_8,.K (cb false)] (.seq (Q_ 8 [.m 0,.v,.n 0] (.block 0 (.loop (Q_ 11 [.g (.bin .lss (tm 10) (tm 9))] (.seq (c_ 11 .skip (.exit 0)) (.seq (.block 1 (R_ 12 13 [.g (.indexAddr 2 (tm 8) (tm 10)),.L 2,.Y 7 z_8,.s 2 7] (C_ 14 16 [.F 0 7,.l,.m 1,.b .eql] (.seq (.region (D_ [.F 0 7,.l,.F 1 7,.l,.c1 110,.g (.build z_8 [(0,1,tm 19),(1,1,tm 22)]),.s 2 4,.J 5 (cb true)] 18) (.drawn [(0,4),(1,4)] (wd [(4,[(0,3)])])) [18,23]) .ret) .skip))) (X_ 24 24 [.g (.bin .add (tm 10) (ci 1)),.a 10]))))))) (R_ 25 25 [.D z_8,.s 2 4,.J 5 (cb false)] .ret))
theorem Nl:FnOk T_ 87 Er [.cell 4 (some 2),.tmp 5] 26:=fK_ Tryz.func87
def ph:VCode:=Q_ 2 [.K (.const .nils)] (.seq (C_ 3 3 [.m 0,.g (.eqS false (tm 3))] (Q_ 2 [.K (.const .nils)] .ret) .skip) (R_ 5 7 [.g (.buildSlice 1 0 (z_ [.s]) []),.m 0,.p 9 1 16,.a 2] .ret))
theorem xq:FnOk T_ 110 ph [.tmp 2] 8:=fK_ Tryz.func110
def y8:VCode:=Q_ 4 [.K (.const .nils)] (R_ 5 7 [.m 0,.m 1,.g (.call 190 [tm 5,tm 6,ci 0,ci (-1)]),.a 4] .ret)
theorem Gv:FnOk T_ 134 y8 [.tmp 4] 8:=fK_ Tryz.func134
def tj:VCode:=Q_ 8 [.K (.const .nils)] (.seq (C_ 12 12 [.m 3,.E 0] (Q_ 8 [.K (.const .nils)] .ret) .skip) (.seq (C_ 14 14 [.m 1,.t []] (R_ 16 18 [.m 0,.m 3,.c2 231,.a 8] .ret) .skip) (.seq (C_ 19 19 [.m 3,.i .lss 0] (X_ 21 24 [.m 0,.m 1,.c2 232,.P 1,.a 3]) .skip) (R_ 25 29 [.m 3,.m 0,.h,.P 1,.g (.minI (tm 25) (tm 28)),.a 3] (R_ 30 31 [.m 3,.g (.mkSlice 1 16 (z_ [.s]) (tm 30) (tm 30)),.a 9] (R_ 32 33 [.m 3,.i .sub 1,.a 3] (Q_ 10 [.n 0] (.seq (.block 0 (.loop (.seq (C_ 34 35 [.m 10,.m 3,.b .lss] .skip (.exit 0)) (.block 1 (R_ 37 39 [.m 0,.m 1,.c2 233,.a 11] (.seq (C_ 40 40 [.m 11,.i .lss 0] (.exit 0) .skip) (R_ 42 49 [.m 9,.m 10,.m 0,.m 11,.m 2,.b .add,.g (.subS (tm 44) none (some (tm 47))),.g (.indexAddr 1 (tm 42) (tm 43)),.T 1 49 48] (R_ 50 55 [.m 0,.m 11,.m 1,.h,.b .add,.g (.subS (tm 50) (some (tm 54)) none),.a 0] (X_ 56 57 [.m 10,.P 1,.a 10]))))))))) (R_ 58 61 [.m 9,.m 10,.m 0,.g (.indexAddr 1 (tm 58) (tm 59)),.T 1 61 60] (R_ 62 65 [.m 9,.m 10,.P 1,.g (.subV 1 (tm 62) none (some (tm 64)) none),.a 8] .ret))))))))))
theorem B1:FnOk T_ 190 tj [.tmp 8] 66:=fK_ Tryz.func190
def oy:VCode:=Q_ 2 [.Z Kz,.K (cb false)] (.seq (Q_ 4 [.n 0] (.block 0 (.loop (.seq (C_ 6 8 [.m 4,.m 0,.h,.b .lss] .skip (.exit 0)) (.seq (.block 1 (R_ 12 14 [.m 0,.m 4,.y,.a 5] (.seq (C_ 15 15 [.m 5,.U .geq 128] (R_ 17 17 [.W 256 2,.s 256 2,.J 3 (cb false)] .ret) .skip) (X_ 18 19 [.m 5,.g (.indexArr 256 1 (tm 2) (tm 18)),.G none (.store 1 (tm 19) (cb true))])))) (X_ 10 11 [.m 4,.P 1,.a 4])))))) (R_ 20 20 [.W 256 2,.s 256 2,.J 3 (cb true)] .ret))
theorem ww:FnOk T_ 207 oy [.cell 2 (some 256),.tmp 3] 21:=fK_ Tryz.func207
def yc:VCode:=Q_ 4 [.n 0] (.seq (C_ 7 8 [.m 1,.h,.E 0] (R_ 10 12 [.m 0,.c1 259,.P 1,.a 4] .ret) .skip) (.seq (C_ 13 14 [.m 1,.h,.E 1] (R_ 16 19 [.m 0,.m 1,.g (.indexS (tm 17) (ci 0)),.g (.call 260 [tm 16,tm 18]),.a 4] .ret) .skip) (Q_ 5 [.n 0] (.block 0 (.loop (.block 1 (R_ 20 22 [.m 0,.m 1,.c2 233,.a 6] (.seq (C_ 23 23 [.m 6,.E (-1)] (R_ 25 25 [.m 5,.a 4] .ret) .skip) (R_ 26 27 [.m 5,.P 1,.a 5] (X_ 28 33 [.m 0,.m 6,.m 1,.h,.b .add,.g (.subS (tm 28) (some (tm 32)) none),.a 0]))))))))))
theorem Gw:FnOk T_ 232 yc [.tmp 4] 34:=fK_ Tryz.func232
def ye:VCode:=Q_ 4 [.n 0] (R_ 5 7 [.m 0,.m 1,.c2 239,.a 4] .ret)
theorem Gx:FnOk T_ 233 ye [.tmp 4] 8:=fK_ Tryz.func233
def jQ:VCode:=Q_ 4 [.n 0] (R_ 14 15 [.m 1,.h,.a 5] (.seq (.block 0 (R_ 17 23 [.m 5,.E 0,.w,.m 1,.m 0,.b .eql,.O,.a 16] (c_ 16 (Q_ 4 [.n 0] .ret) (R_ 25 26 [.m 5,.E 1,.a 24] (c_ 24 (R_ 27 30 [.m 0,.m 1,.g (.indexS (tm 28) (ci 0)),.g (.call 163 [tm 27,tm 29]),.a 4] .ret) (R_ 32 35 [.m 5,.m 0,.h,.b .geq,.a 31] (c_ 31 (Q_ 4 [.n (-1)] .ret) (R_ 37 44 [.m 5,.g (.load none (.glob 5)),.b .leq,.z,.m 0,.h,.i .leq 64,.A,.a 36] (c_ 36 (R_ 45 47 [.m 0,.m 1,.c2 261,.a 4] .ret) .skip))))))))) (R_ 48 49 [.m 1,.g (.indexS (tm 48) (ci 0)),.a 6] (R_ 50 51 [.m 1,.g (.indexS (tm 50) (ci 1)),.a 7] (Q_ 8 [.n 0] (R_ 52 56 [.m 0,.h,.m 5,.b .sub,.P 1,.a 9] (Q_ 10 [.n 0] (.seq (.block 1 (.loop (.seq (C_ 57 58 [.m 8,.m 9,.b .lss] .skip (.exit 1)) (.block 2 (.seq (C_ 60 63 [.m 0,.m 8,.y,.m 6,.b .neq] (R_ 65 71 [.m 0,.m 8,.P 1,.m 9,.g (.subS (tm 65) (some (tm 67)) (some (tm 68))),.m 6,.c2 163,.a 11] (.seq (C_ 72 72 [.m 11,.i .lss 0] (Q_ 4 [.n (-1)] .ret) .skip) (X_ 74 77 [.m 8,.m 11,.P 1,.b .add,.a 8]))) .skip) (.seq (C_ 78 92 [.m 0,.m 8,.P 1,.y,.m 7,.b .eql,.z,.m 0,.m 8,.m 8,.m 5,.b .add,.g (.subS (tm 85) (some (tm 86)) (some (tm 89))),.m 1,.b .eql,.A] (R_ 94 94 [.m 8,.a 4] .ret) .skip) (R_ 95 96 [.m 8,.P 1,.a 8] (R_ 97 98 [.m 10,.P 1,.a 10] (C_ 99 106 [.m 5,.g (.load none (.glob 5)),.b .leq,.z,.m 10,.m 8,.c1 262,.b .gtr,.A] (R_ 108 112 [.m 0,.m 8,.g (.subS (tm 108) (some (tm 109)) none),.m 1,.c2 261,.a 12] (.seq (C_ 113 113 [.m 12,.i .geq 0] (R_ 115 117 [.m 12,.m 8,.b .add,.a 4] .ret) .skip) (Q_ 4 [.n (-1)] .ret))) (C_ 118 131 [.m 5,.g (.load none (.glob 5)),.b .gtr,.z,.m 10,.m 8,.g (.bin .shr (tm 123) (.const (.val (.int .u64 4)))),.g (.bin .add (ci 4) (tm 124)),.g (.bin .geq (tm 122) (tm 125)),.A,.z,.m 8,.m 9,.b .lss,.A] (R_ 133 137 [.m 0,.m 8,.g (.subS (tm 133) (some (tm 134)) none),.m 1,.c2 263,.a 13] (.seq (C_ 138 138 [.m 13,.i .lss 0] (Q_ 4 [.n (-1)] .ret) .skip) (R_ 140 142 [.m 8,.m 13,.b .add,.a 4] .ret))) .skip)))))))))) (Q_ 4 [.n (-1)] .ret)))))))))
theorem qy:FnOk T_ 239 jQ [.tmp 4] 143:=fK_ Tryz.func239
def jS:VCode:=Q_ 4 [.K (cb false)] (R_ 5 9 [.m 0,.m 1,.g (.nilCheck (tm 5)),.g (.indexArr 256 1 (tm 7) (tm 6)),.l,.a 4] .ret)
theorem qz:FnOk T_ 244 jS [.tmp 4] 10:=fK_ Tryz.func244
end Go.Vs.Y
