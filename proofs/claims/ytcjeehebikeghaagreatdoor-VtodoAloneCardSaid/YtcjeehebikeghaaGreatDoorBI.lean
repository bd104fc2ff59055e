/- A part of a proof. No conditions. -/
import Derived.Test.YtcjeehebikeghaaGreatDoorBH
import Derived.Lib.ItoaNum
set_option linter.unusedVariables false
set_option linter.unusedSimpArgs false
set_option maxRecDepth 100000
set_option maxHeartbeats 4000000
namespace Go.Vs.YtcjeehebikeghaaGreatDoor
open Go.Proofs Go.Vs.U8
theorem sV(s:Str)(c:UInt8):Fn G T_ 266 [.str s,.int .u8 c.toNat] (.int .i64 (mB s c)):=by
 refine ag hm kk (by simp) ?_;simp[fC];refine aa (wT s c) ?_;simp
theorem xX(s:Str)(c:UInt8):Fn G T_ 200 [.str s,.int .u8 c.toNat] (.int .i64 (mB s c)):=by
 refine ag hm sU (by simp) ?_;simp[mQ];refine aa (sV s c) ?_;simp
theorem Le(c:UInt8)(r:Str):mg (c::r)=(eo (c::r)==0||(decide (c.toNat<32)&&!decide (c.toNat=9))||decide (c.toNat=127)):=rfl
theorem NV(s:Str)(a:Nat)(hs:s.length<1000000)(ha:a<s.length):Fn G T_ 144 [.str s,.int .i64 a,.int .i32 (dec (s.drop a)).1] (.bool (decide ((dec (s.drop a))=(65533,1)))):=by
 refine ag hm EJ (by simp) ?_;have hD:=EH (s.drop a) (by intro e;have:=congrArg List.length e;simp at this;omega);obtain⟨⟨r,k⟩,hk⟩:∃p,dec (s.drop a)=p:=⟨_,rfl⟩;rw[hk]at hD |-;by_cases h:r=65533
 ·subst h;simp(disch:=omega)[qZ,zr,FP];refine⟨by omega,?_⟩;refine aa hD ?_;simp;omega
 ·simp(disch:=omega)[qZ,zr,FP,h]
theorem Ql(s:Str)(hs:s.length<1000000):Fn G T_ 93 [.str s] (.int .i64 (Jn (zz s))):=by
 refine ag hm Lc (by simp) ?_;simp[G4];refine ce hm [] (fun i:Nat=>[]) (fun i=>[(6,.iter s i)]) (fun i=>i<=s.length/\zz s=(zz (s.drop i)).map (· + i)) (fun i=>s.length-i) 0 ⟨by omega,by simp⟩ ?_ ?_
 ·simp;exact bQ
 rintro i ⟨hi,ho⟩;simp;by_cases h:i<s.length
 ·have hodd:=Vh h ho;have hB:=NV s i hs h;obtain⟨c,hc⟩:∃c,s[i]=c:=⟨_,rfl⟩;have hd:s.drop i=c::s.drop (i+1):=by rw[<-hc];exact List.drop_eq_getElem_cons h
  have hle:=Jm (s.drop i);rw[List.length_drop]at hle;have hcase:=NT c (s.drop (i+1));have ha:=Le c (s.drop (i+1));rw[<-hd]at hcase ha;have hlt:=Qk c;have hdd:=Jo s i (by omega);clear hd ho;obtain⟨z,hz⟩:∃z,eo (s.drop i)=z:=⟨_,rfl⟩;obtain⟨⟨r,k⟩,hk⟩:∃p,dec (s.drop i)=p:=⟨_,rfl⟩;rw[hz]at hodd hle hcase ha;rw[hk]at hcase hB hdd;simp only[Prod.mk.injEq]at hcase hB;have ret:mg (s.drop i)=true->Jn (zz s)=i:=fun h1=>by simp[hodd,h1,Jn]
  have go:mg (s.drop i)=false->zz s=(zz (s.drop (i+z))).map (· + (i+z)):=fun h1=>by
   rw[if_neg (by simp[h1])]at hodd;exact hodd
  clear hodd;rcases hcase with⟨h1,⟨rfl,rfl⟩,rfl⟩|⟨h1,rfl,rfl,rfl⟩|⟨h1,h2,h3,rfl⟩
  ·have hnb:¬(c.toNat=65533/\1=1):=by omega
   rw[decide_eq_false hnb]at hB;by_cases h2:(c.toNat<32/\c.toNat≠9)\/c.toNat=127
   ·have hr:=ret (by rw[ha];simp;omega);have h2':(c.toNat<32/\c.toNat≠9)\/(¬c.toNat<32/\c.toNat=127):=by omega
    rcases h2' with h2|h2
    all_goals
     simp[h,hdd];refine aa hB ?_;simp(disch:=omega)[FP,zr,hr]
   ·have hg:=go (by rw[ha];simp;omega);have h2':(c.toNat<32/\c.toNat=9)\/(¬c.toNat<32/\c.toNat≠127):=by omega
    rcases h2' with h2|h2
    all_goals
     simp[h,hdd];refine aa hB ?_;simp(disch:=omega)[FP,zr];refine au (i+1) ⟨by omega,hg⟩ (by omega) ?_;simp;exact bQ
  ·have hr:=ret (by rw[ha];simp);simp[h,hdd];refine aa hB ?_;simp[hr]
  ·have hg:=go (by rw[ha];simp;omega);have hnb:¬(r=65533/\k=1):=by omega
   rw[decide_eq_false hnb]at hB;simp[h,hdd];refine aa hB ?_;simp(disch:=omega)[FP,zr];refine au (i+k) ⟨by omega,hg⟩ (by omega) ?_;simp;exact bQ
 ·obtain rfl:i=s.length:=by omega
  have ho':zz s=none:=by rw[ho,List.drop_length];rfl
  simp[ho',Jn]
theorem Jr{ps:List Int}(h:∀p∈ps,-1000000<p/\p<1000000):∀k:Nat,-1000000*(k:Int)<=(ps.take k).sum/\(ps.take k).sum<=1000000*(k:Int):=by
 intro k
 induction k with
 |zero=>simp
 |succ k ih=>
  by_cases hk:k<ps.length
  ·rw[List.take_succ_eq_append_getElem hk,List.sum_append];have:=h _ (List.getElem_mem hk);simp;omega
  ·rw[List.take_of_length_le (by omega)]at ih |-;omega
theorem SZ(n:Int)(ps:List Int)(hp:∀p∈ps,-1000000<p/\p<1000000)(hl:ps.length<1000):Fn G T_ 57 [cS n ps] (.tuple [.int .i64 ps.sum,.int .i64 ps.length]):=by
 refine ag hm EI (by simp) ?_;simp[xV];refine ce hm [] (fun k:Nat=>[(0,.val (cS n (ps.drop k))),(4,.val (.int .i64 (ps.take k).sum)),(5,.val (.int .i64 k))]) (fun _=>[]) (fun k=>k<=ps.length) (fun k=>ps.length-k) 0 (by omega) ?_ ?_
 ·simp;exact bQ
 intro k hk;have hb:=Jr hp k;by_cases h:k<ps.length
 ·have hd:ps.drop k=ps[k]::ps.drop (k+1):=List.drop_eq_getElem_cons h;have ht:(ps.take (k+1)).sum=(ps.take k).sum+ps[k]:=by rw[List.take_succ_eq_append_getElem h,List.sum_append];simp
  have hpk:=hp _ (List.getElem_mem h);obtain⟨p,hpe⟩:∃p,ps[k]=p:=⟨_,rfl⟩;rw[hpe]at hd ht hpk;obtain⟨t,v,hv⟩:=dg n (ps.drop (k+1));have hA:=NN .nilp [.int .i64 p,cS n (ps.drop (k+1))];rw[hd];simp only[cS];simp;refine callM [(1000,6)] [] hA rfl rfl ⟨rfl,trivial⟩ ⟨[],[],rfl,⟨rfl,rfl⟩,rfl⟩ rfl ?_;simp(disch:=omega)[wl];refine au (k+1) (by omega) (by omega) ?_;simp[ht];exact bQ
 ·obtain rfl:k=ps.length:=by omega
  have hA:=NO n .nilp;simp[cS];refine callM [(1000,6)] [] hA rfl rfl ⟨rfl,trivial⟩ ⟨[],[],rfl,⟨rfl,rfl⟩,rfl⟩ rfl ?_;simp
theorem Qm(n:Int)(ps:List Int)(hp:∀p∈ps,-1000000<p/\p<1000000)(hl:ps.length<1000):Fn G T_ 16 [cS n ps] (.int .i64 ps.sum):=by
 refine ag hm CK (by simp) ?_;simp[vm];refine aa (SZ n ps hp hl) ?_;simp
end Go.Vs.YtcjeehebikeghaaGreatDoor
namespace Go.Vs.Nu
open Go.Vs.U8 Go.Lib
def dL(c:UInt8):Bool:=decide (48<=c.toNat/\c.toNat<=57)
def bx:Nat->Str->Nat
 |n,[]=>n
 |n,c::r=>bx (10*n+(c.toNat-48)) r
theorem Js(a b:Str):∀n,bx n (a++b)=bx (bx n a) b:=by
 induction a with
 |nil=>intro n;rfl
 |cons c r ih=>intro n;exact ih (10*n+(c.toNat-48))
theorem Qn(k:Nat)(h:k<10):dL (UInt8.ofNat (48+k))=true/\(UInt8.ofNat (48+k)).toNat-48=k:=by
 have:∀k:Fin 10,dL (UInt8.ofNat (48+k.1))=true/\(UInt8.ofNat (48+k.1)).toNat-48=k.1:=by decide
 exact this ⟨k,h⟩
theorem Mf{p:UInt8->Bool}{c:UInt8}(h:p c=true):[c].all p=true:=by rw[List.all_cons,h];rfl
theorem Mg(n:Nat)(c:UInt8):bx n [c]=10*n+(c.toNat-48):=rfl
theorem Mh:∀(k u:Nat),u<10 ^ (k+1)->(decDigits u).length<=k+1
 |0,u,h=>by rw[decDigits,dif_pos (by omega)];simp
 |k+1,u,h=>by
  rw[decDigits];split
  ·simp
  ·rw[List.length_append];have:=Mh k (u/10) (by rw[Nat.pow_succ]at h;omega);simp;omega
theorem Hi:∀(l:Str) (n:Nat),l.all dL=true->bx n l<(n+1)*10 ^ l.length
 |[],n,_=>by
  show n<(n+1)*1;omega
 |c::r,n,h=>by
  simp only[List.all_cons,Bool.and_eq_true]at h;have h1:=Hi r (10*n+(c.toNat-48)) h.2;have h2:c.toNat-48<=9:=by have:=h.1;simp[dL]at this;omega
  have e:bx n (c::r)=bx (10*n+(c.toNat-48)) r:=rfl;rw[e,List.length_cons,Nat.pow_succ];have h3:(10*n+(c.toNat-48)+1)*10 ^ r.length<=((n+1)*10)*10 ^ r.length:=Nat.mul_le_mul_right _ (by omega);have h4:(n+1)*(10 ^ r.length*10)=((n+1)*10)*10 ^ r.length:=by rw[Nat.mul_comm (10 ^ r.length) 10,Nat.mul_assoc]
  omega
/- TRAILING DIGITS -/
def dS(s:Str):Str:=(s.reverse.dropWhile dL).reverse
theorem Hj(x:Str){d:Str}(h:d.all dL=true):dS (x++d)=dS x:=by
 unfold dS;rw[List.reverse_append]
 have:∀(l r:Str),l.all dL=true->(l++r).dropWhile dL=r.dropWhile dL:=by
  intro l
  induction l with
  |nil=>intro r _;rfl
  |cons c l ih=>
   intro r hl;simp only[List.all_cons,Bool.and_eq_true]at hl;rw[List.cons_append,List.dropWhile_cons_of_pos hl.1,ih r hl.2]
 rw[this _ _ (by rw[List.all_reverse];exact h)]
theorem rc(s:Str):∃d,s=dS s++d/\d.all dL=true:=by
 refine⟨(s.reverse.takeWhile dL).reverse,?_,?_⟩
 ·unfold dS;rw[<-List.reverse_append,List.takeWhile_append_dropWhile,List.reverse_reverse]
 ·rw[List.all_reverse,List.all_eq_true];intro c hc;exact List.all_eq_true.1 (List.all_takeWhile (l:=s.reverse) (p:=dL)) c hc
/- UIDs -/
def jS(c:UInt8):Bool:=decide ((65<=c.toNat/\c.toNat<=90)\/(97<=c.toNat/\c.toNat<=122)\/(48<=c.toNat/\c.toNat<=57)\/c.toNat=45\/c.toNat=46\/c.toNat=95\/c.toNat=64)
def pz(s:Str):Bool:=decide (1<=s.length)&&(decide (s.length<=24)&&s.all jS)
theorem Qo{c:UInt8}(h:dL c=true):jS c=true:=by simp[dL,jS]at h |-;omega
theorem Qp(s:Str):pz s=true↔1<=s.length/\s.length<=24/\s.all jS=true:=by simp[pz]
def xY(s:Str):Str:=if pz s=true/\(dS s).length≠s.length/\(dS s).getLast?=some 46/\(dS s).dropLast≠[]then (dS s).dropLast else s
end Go.Vs.Nu
namespace Go.Vs
open Go.Vs.Nu
def zv(i:Nat):List IV:=(List.range 256).map fun j=>.bool (decide (48<=j/\j<48+i))
def zs(i:Nat):List SV:=(zv i).map .val
def CO:List SV:=List.replicate 256 (.val (.bool false))
theorem zC(i:Nat):(zv i).length=256:=by simp[zv]
theorem pA(i:Nat):(zs i).length=256:=by simp[zs,zC]
theorem zD(i j:Nat)(h:j<256):(zs i)[j]?=some (.val (.bool (decide (48<=j/\j<48+i)))):=by
 simp[zs,zv,h]
theorem Lf(i:Nat):List.map SV.val (zv i)=zs i:=rfl
theorem CP:CO=zs 0:=by
 refine List.ext_getElem? fun j=>?_
 have hf:CO.length=256:=by unfold CO;exact List.length_replicate
 by_cases h:j<256
 ·rw[zD 0 j h,decide_eq_false (by omega)];unfold CO;rw[List.getElem?_replicate,if_pos h]
 ·rw[List.getElem?_eq_none (by rw[hf];omega),List.getElem?_eq_none (by rw[pA];omega)]
theorem Hk(i:Nat):(zs i).take 256=zs i:=List.take_of_length_le (by rw[pA];exact Nat.le_refl _)
theorem Hl(i:Nat):(zv i).take 256=zv i:=List.take_of_length_le (by rw[zC];exact Nat.le_refl _)
theorem Hm(i:Nat):(zs i).drop 256=[]:=List.drop_eq_nil_of_le (by rw[pA];exact Nat.le_refl _)
theorem CQ:∀l:List IV,dB (l.map .val)=some l
 |[]=>rfl
 |x::r=>by rw[List.map_cons,dB,CQ r]
theorem Mi(objs:List (Nat×Ob)):∀l:List IV,mA objs (l.map .val)=some (l,[])
 |[]=>rfl
 |x::r=>by rw[List.map_cons,mA,Mi objs r];rfl
theorem Vk(i:Nat):dB (zs i)=some (zv i):=CQ _
theorem Hn(objs:List (Nat×Ob))(i:Nat):mA objs (zs i)=some (zv i,[]):=Mi _ _
theorem G7(k:Nat):∀l:List IV,gN k (l.map .val)=l.map .val
 |[]=>rfl
 |x::r=>by rw[List.map_cons,gN,G7 k r];rfl
theorem sW(k i:Nat):gN k (zs i)=zs i:=G7 _ _
theorem T0(i:Nat)(h:i<10):(zs i).take (48+i)++.val (.bool true)::(zs i).drop (48+i+1)=zs (i+1):=by
 refine List.ext_getElem? fun j=>?_
 have hl:((zs i).take (48+i)).length=48+i:=by rw[List.length_take,pA];omega
 by_cases h1:j<48+i
 ·rw[List.getElem?_append_left (by rw[hl];exact h1),List.getElem?_take_of_lt h1,zD _ _ (by omega),zD _ _ (by omega)];congr 3;rw[decide_eq_decide];omega
 ·rw[List.getElem?_append_right (by rw[hl];omega),hl];by_cases h2:j=48+i
  ·subst h2;rw[Nat.sub_self,List.getElem?_cons_zero,zD _ _ (by omega),decide_eq_true (by omega)]
  ·obtain⟨t,ht⟩:∃t,j-(48+i)=t+1:=⟨j-(48+i)-1,by omega⟩;rw[ht,List.getElem?_cons_succ,List.getElem?_drop,show 48+i+1+t=j by omega];by_cases h3:j<256
   ·rw[zD _ _ h3,zD _ _ h3];congr 3;rw[decide_eq_decide];omega
   ·rw[List.getElem?_eq_none (by rw[pA];omega),List.getElem?_eq_none (by rw[pA];omega)]
theorem T1(c:UInt8):∃r,(zv 10).drop c.toNat=.bool (dL c)::r:=by
 have hc:c.toNat<256:=c.toNat_lt;refine⟨(zv 10).drop (c.toNat+1),?_⟩;rw[List.drop_eq_getElem_cons (by rw[zC];exact hc)];congr 1;simp only[zv,List.getElem_map,List.getElem_range,dL];congr 1;rw[decide_eq_decide];omega
end Go.Vs
