/- The walk of the functions of utf, part 3: the first BQ byte; faults gone through. No conditions. -/
import Derived.Test.YtcjeehebikeghaaGreatDoorBH
import Derived.Lib.ItoaNum
set_option linter.unusedVariables false
set_option linter.unusedSimpArgs false
set_option maxRecDepth 100000
set_option maxHeartbeats 4000000
namespace Go.Vs.YtcjeehebikeghaaGreatDoor
open Go.Proofs Go.Vs.U8
theorem uX(s:Str)(c:UInt8):Fn G Tryz.prog bX [.str s,.int .u8 c.toNat] (.int .i64 (nW s c)):=by
 refine ag hm lx (by simp) ?_;simp[gg,gh];refine aa (yN s c) ?_;simp
theorem A3(s:Str)(c:UInt8):Fn G Tryz.prog gL [.str s,.int .u8 c.toNat] (.int .i64 (nW s c)):=by
 refine ag hm uW (by simp) ?_;simp[oh,om];refine aa (uX s c) ?_;simp
theorem Py(c:UInt8)(r:Str):nH (c::r)=(fc (c::r)==0||(decide (c.toNat<32)&&!decide (c.toNat=9))||decide (c.toNat=127)):=rfl
theorem Sj(s:Str)(a:Nat)(hs:s.length<1000000)(ha:a<s.length):Fn G Tryz.prog sQ [.str s,.int .i64 a,.int .i32 (dec (s.drop a)).1] (.bool (decide ((dec (s.drop a))=(65533,1)))):=by
 refine ag hm HD (by simp) ?_;have hD:=HA (s.drop a) (by intro e;have:=congrArg List.length e;simp at this;omega);obtain⟨⟨r,k⟩,hk⟩:∃p,dec (s.drop a)=p:=⟨_,rfl⟩;rw[hk]at hD ⊢;by_cases h:r=65533
 ·subst h;simp(disch:=omega)[sU,sV,BK,Ju];refine⟨by omega,?_⟩;refine aa hD ?_;simp;omega
 ·simp(disch:=omega)[sU,sV,BK,Ju,h]
theorem UL(s:Str)(hs:s.length<1000000):Fn G Tryz.prog wI [.str s] (.int .i64 (Nt (BQ s))):=by
 refine ag hm Pw (by simp) ?_;simp[JI,JJ];refine bS hm [] (fun i:Nat=>[]) (fun i=>[(6,.iter s i)]) (fun i=>i≤s.length∧BQ s=(BQ (s.drop i)).map (· + i)) (fun i=>s.length-i) 0 ⟨by omega,by simp⟩ ?_ ?_
 ·simp;exact bT
 rintro i ⟨hi,ho⟩;simp;by_cases h:i<s.length
 ·have hodd:=ZX h ho;have hB:=Sj s i hs h;obtain⟨c,hc⟩:∃c,s[i]=c:=⟨_,rfl⟩;have hd:s.drop i=c::s.drop (i+1):=by rw[←hc];exact List.drop_eq_getElem_cons h
  have hle:=Ns (s.drop i);rw[List.length_drop]at hle;have hcase:=Sg c (s.drop (i+1));have ha:=Py c (s.drop (i+1));rw[←hd]at hcase ha;have hlt:=UK c;have hdd:=Nv s i (by omega);clear hd ho;obtain⟨z,hz⟩:∃z,fc (s.drop i)=z:=⟨_,rfl⟩;obtain⟨⟨r,k⟩,hk⟩:∃p,dec (s.drop i)=p:=⟨_,rfl⟩;rw[hz]at hodd hle hcase ha;rw[hk]at hcase hB hdd;simp only[Prod.mk.injEq]at hcase hB;have ret:nH (s.drop i)=true→Nt (BQ s)=i:=fun h1=>by simp[hodd,h1,Nt]
  have go:nH (s.drop i)=false→BQ s=(BQ (s.drop (i+z))).map (· + (i+z)):=fun h1=>by
   rw[if_neg (by simp[h1])]at hodd;exact hodd
  clear hodd;rcases hcase with⟨h1,⟨rfl,rfl⟩,rfl⟩|⟨h1,rfl,rfl,rfl⟩|⟨h1,h2,h3,rfl⟩
  ·have hnb:¬(c.toNat=65533∧1=1):=by omega
   rw[decide_eq_false hnb]at hB;by_cases h2:(c.toNat<32∧c.toNat≠9)∨c.toNat=127
   ·have hr:=ret (by rw[ha];simp;omega);have h2':(c.toNat<32∧c.toNat≠9)∨(¬c.toNat<32∧c.toNat=127):=by omega
    rcases h2' with h2|h2
    all_goals
     simp[h,hdd];refine aa hB ?_;simp(disch:=omega)[Ju,BK,hr]
   ·have hg:=go (by rw[ha];simp;omega);have h2':(c.toNat<32∧c.toNat=9)∨(¬c.toNat<32∧c.toNat≠127):=by omega
    rcases h2' with h2|h2
    all_goals
     simp[h,hdd];refine aa hB ?_;simp(disch:=omega)[Ju,BK];refine aq (i+1) ⟨by omega,hg⟩ (by omega) ?_;simp;exact bT
  ·have hr:=ret (by rw[ha];simp);simp[h,hdd];refine aa hB ?_;simp[hr]
  ·have hg:=go (by rw[ha];simp;omega);have hnb:¬(r=65533∧k=1):=by omega
   rw[decide_eq_false hnb]at hB;simp[h,hdd];refine aa hB ?_;simp(disch:=omega)[Ju,BK];refine aq (i+k) ⟨by omega,hg⟩ (by omega) ?_;simp;exact bT
 ·obtain rfl:i=s.length:=by omega
  have ho':BQ s=none:=by rw[ho,List.drop_length];rfl
  simp[ho',Nt]
theorem Ny{ps:List Int}(h:∀p∈ps,-1000000<p∧p<1000000):∀k:Nat,-1000000*(k:Int)≤(ps.take k).sum∧(ps.take k).sum≤1000000*(k:Int):=by
 intro k
 induction k with
 |zero=>simp
 |succ k ih=>
  by_cases hk:k<ps.length
  ·rw[List.take_succ_eq_append_getElem hk,List.sum_append];have:=h _ (List.getElem_mem hk);simp;omega
  ·rw[List.take_of_length_le (by omega)]at ih ⊢;omega
theorem Xw(n:Int)(ps:List Int)(hp:∀p∈ps,-1000000<p∧p<1000000)(hl:ps.length<1000):Fn G Tryz.prog sP [dp n ps] (.tuple [.int .i64 ps.sum,.int .i64 ps.length]):=by
 refine ag hm HB (by simp) ?_;simp[A1,A2];refine bS hm [] (fun k:Nat=>[(0,.val (dp n (ps.drop k))),(4,.val (.int .i64 (ps.take k).sum)),(5,.val (.int .i64 k))]) (fun _=>[]) (fun k=>k≤ps.length) (fun k=>ps.length-k) 0 (by omega) ?_ ?_
 ·simp;exact bT
 intro k hk;have hb:=Ny hp k;by_cases h:k<ps.length
 ·have hd:ps.drop k=ps[k]::ps.drop (k+1):=List.drop_eq_getElem_cons h;have ht:(ps.take (k+1)).sum=(ps.take k).sum+ps[k]:=by rw[List.take_succ_eq_append_getElem h,List.sum_append];simp
  have hpk:=hp _ (List.getElem_mem h);obtain⟨p,hpe⟩:∃p,ps[k]=p:=⟨_,rfl⟩;rw[hpe]at hd ht hpk;obtain⟨t,v,hv⟩:=cH n (ps.drop (k+1));have hA:=Sa .nilp [.int .i64 p,dp n (ps.drop (k+1))];rw[hd];simp only[dp];simp;refine callM [(1000,6)] [] hA rfl rfl ⟨rfl,trivial⟩ ⟨[],[],rfl,⟨rfl,rfl⟩,rfl⟩ rfl ?_;simp(disch:=omega)[wl];refine aq (k+1) (by omega) (by omega) ?_;simp[ht];exact bT
 ·obtain rfl:k=ps.length:=by omega
  have hA:=Sb n .nilp;simp[dp];refine callM [(1000,6)] [] hA rfl rfl ⟨rfl,trivial⟩ ⟨[],[],rfl,⟨rfl,rfl⟩,rfl⟩ rfl ?_;simp
theorem UM(n:Int)(ps:List Int)(hp:∀p∈ps,-1000000<p∧p<1000000)(hl:ps.length<1000):Fn G Tryz.prog qZ [dp n ps] (.int .i64 ps.sum):=by
 refine ag hm Fj (by simp) ?_;simp[xm,xn];refine aa (Xw n ps hp hl) ?_;simp
end Go.Vs.YtcjeehebikeghaaGreatDoor
namespace Go.Vs.Nu
open Go.Vs.U8 Go.Lib
def dS(c:UInt8):Bool:=decide (48≤c.toNat∧c.toNat≤57)
def bJ:Nat→Str→Nat
 |n,[]=>n
 |n,c::r=>bJ (10*n+(c.toNat-48)) r
theorem Fo(a b:Str):∀n,bJ n (a++b)=bJ (bJ n a) b:=by
 induction a with
 |nil=>intro n;rfl
 |cons c r ih=>intro n;exact ih (10*n+(c.toNat-48))
theorem BT(k:Nat)(h:k<10):dS (UInt8.ofNat (48+k))=true∧(UInt8.ofNat (48+k)).toNat-48=k:=by
 have:∀k:Fin 10,dS (UInt8.ofNat (48+k.1))=true∧(UInt8.ofNat (48+k.1)).toNat-48=k.1:=by decide
 exact this ⟨k,h⟩
theorem DY{p:UInt8→Bool}{c:UInt8}(h:p c=true):[c].all p=true:=by rw[List.all_cons,h];rfl
theorem DZ(n:Nat)(c:UInt8):bJ n [c]=10*n+(c.toNat-48):=rfl
theorem KV:∀(n u:Nat),u≤n→(decDigits u).all dS=true
 |n,u,h=>by
  rw[decDigits];split
  ·next h1=>exact DY (BT u h1).1
  ·next h1=>
   cases n with
   |zero=>omega
   |succ n=>
    rw[List.all_append,KV n (u/10) (by omega),DY (BT (u%10) (by omega)).1];rfl
theorem Qw:∀(n u:Nat),u≤n→bJ 0 (decDigits u)=u
 |n,u,h=>by
  rw[decDigits];split
  ·next h1=>rw[DZ,(BT u h1).2];omega
  ·next h1=>
   cases n with
   |zero=>omega
   |succ n=>
    rw[Fo,Qw n (u/10) (by omega)];rw[DZ,(BT (u%10) (by omega)).2];omega
theorem Qx(u:Nat):(decDigits u).all dS=true:=KV u u (Nat.le_refl _)
theorem Nz(u:Nat):bJ 0 (decDigits u)=u:=Qw u u (Nat.le_refl _)
theorem UN(u:Nat):decDigits u≠[]:=by
 rw[decDigits];split<;>simp
theorem Qy:∀(k u:Nat),u<10 ^ (k+1)→(decDigits u).length≤k+1
 |0,u,h=>by rw[decDigits,dif_pos (by omega)];simp
 |k+1,u,h=>by
  rw[decDigits];split
  ·simp
  ·rw[List.length_append];have:=Qy k (u/10) (by rw[Nat.pow_succ]at h;omega);simp;omega
theorem KW:∀(l:Str) (n:Nat),l.all dS=true→bJ n l<(n+1)*10 ^ l.length
 |[],n,_=>by
  show n<(n+1)*1;omega
 |c::r,n,h=>by
  simp only[List.all_cons,Bool.and_eq_true]at h;have h1:=KW r (10*n+(c.toNat-48)) h.2;have h2:c.toNat-48≤9:=by have:=h.1;simp[dS]at this;omega
  have e:bJ n (c::r)=bJ (10*n+(c.toNat-48)) r:=rfl;rw[e,List.length_cons,Nat.pow_succ];have h3:(10*n+(c.toNat-48)+1)*10 ^ r.length≤((n+1)*10)*10 ^ r.length:=Nat.mul_le_mul_right _ (by omega);have h4:(n+1)*(10 ^ r.length*10)=((n+1)*10)*10 ^ r.length:=by rw[Nat.mul_comm (10 ^ r.length) 10,Nat.mul_assoc]
  omega
/- TRAILING DIGITS -/
def ez(s:Str):Str:=(s.reverse.dropWhile dS).reverse
theorem KX(x:Str){d:Str}(h:d.all dS=true):ez (x++d)=ez x:=by
 unfold ez;rw[List.reverse_append]
 have:∀(l r:Str),l.all dS=true→(l++r).dropWhile dS=r.dropWhile dS:=by
  intro l
  induction l with
  |nil=>intro r _;rfl
  |cons c l ih=>
   intro r hl;simp only[List.all_cons,Bool.and_eq_true]at hl;rw[List.cons_append,List.dropWhile_cons_of_pos hl.1,ih r hl.2]
 rw[this _ _ (by rw[List.all_reverse];exact h)]
theorem sX(s:Str):∃d,s=ez s++d∧d.all dS=true:=by
 refine⟨(s.reverse.takeWhile dS).reverse,?_,?_⟩
 ·unfold ez;rw[←List.reverse_append,List.takeWhile_append_dropWhile,List.reverse_reverse]
 ·rw[List.all_reverse,List.all_eq_true];intro c hc;exact List.all_eq_true.1 (List.all_takeWhile (l:=s.reverse) (p:=dS)) c hc
/- UIDs -/
def kP(c:UInt8):Bool:=decide ((65≤c.toNat∧c.toNat≤90)∨(97≤c.toNat∧c.toNat≤122)∨(48≤c.toNat∧c.toNat≤57)∨c.toNat=45∨c.toNat=46∨c.toNat=95∨c.toNat=64)
def ra(s:Str):Bool:=decide (1≤s.length)&&(decide (s.length≤24)&&s.all kP)
theorem UO{c:UInt8}(h:dS c=true):kP c=true:=by simp[dS,kP]at h ⊢;omega
theorem UP(s:Str):ra s=true↔1≤s.length∧s.length≤24∧s.all kP=true:=by simp[ra]
def A4(s:Str):Str:=if ra s=true∧(ez s).length≠s.length∧(ez s).getLast?=some 46∧(ez s).dropLast≠[]then (ez s).dropLast else s
end Go.Vs.Nu
namespace Go.Vs
open Go.Vs.Nu
def zv(i:Nat):List IV:=(List.range 256).map fun j=>.bool (decide (48≤j∧j<48+i))
def zs(i:Nat):List SV:=(zv i).map .val
def Fp:List SV:=List.replicate 256 (.val (.bool false))
theorem BU(i:Nat):(zv i).length=256:=by simp[zv]
theorem rb(i:Nat):(zs i).length=256:=by simp[zs,BU]
theorem BV(i j:Nat)(h:j<256):(zs i)[j]?=some (.val (.bool (decide (48≤j∧j<48+i)))):=by
 simp[zs,zv,h]
theorem Pz(i:Nat):List.map SV.val (zv i)=zs i:=rfl
theorem Fq:Fp=zs 0:=by
 refine List.ext_getElem? fun j=>?_
 have hf:Fp.length=256:=by unfold Fp;exact List.length_replicate
 by_cases h:j<256
 ·rw[BV 0 j h,decide_eq_false (by omega)];unfold Fp;rw[List.getElem?_replicate,if_pos h]
 ·rw[List.getElem?_eq_none (by rw[hf];omega),List.getElem?_eq_none (by rw[rb];omega)]
theorem KY(i:Nat):(zs i).take 256=zs i:=List.take_of_length_le (by rw[rb];exact Nat.le_refl _)
theorem KZ(i:Nat):(zv i).take 256=zv i:=List.take_of_length_le (by rw[BU];exact Nat.le_refl _)
theorem L0(i:Nat):(zs i).drop 256=[]:=List.drop_eq_nil_of_le (by rw[rb];exact Nat.le_refl _)
theorem Fr:∀l:List IV,dQ (l.map .val)=some l
 |[]=>rfl
 |x::r=>by rw[List.map_cons,dQ,Fr r]
theorem Qz(objs:List (Nat×Ob)):∀l:List IV,nT objs (l.map .val)=some (l,[])
 |[]=>rfl
 |x::r=>by rw[List.map_cons,nT,Qz objs r];rfl
theorem aaa(i:Nat):dQ (zs i)=some (zv i):=Fr _
theorem L1(objs:List (Nat×Ob))(i:Nat):nT objs (zs i)=some (zv i,[]):=Qz _ _
theorem JL(k:Nat):∀l:List IV,iB k (l.map .val)=l.map .val
 |[]=>rfl
 |x::r=>by rw[List.map_cons,iB,JL k r];rfl
theorem uY(k i:Nat):iB k (zs i)=zs i:=JL _ _
theorem Xx(i:Nat)(h:i<10):(zs i).take (48+i)++.val (.bool true)::(zs i).drop (48+i+1)=zs (i+1):=by
 refine List.ext_getElem? fun j=>?_
 have hl:((zs i).take (48+i)).length=48+i:=by rw[List.length_take,rb];omega
 by_cases h1:j<48+i
 ·rw[List.getElem?_append_left (by rw[hl];exact h1),List.getElem?_take_of_lt h1,BV _ _ (by omega),BV _ _ (by omega)];congr 3;rw[decide_eq_decide];omega
 ·rw[List.getElem?_append_right (by rw[hl];omega),hl];by_cases h2:j=48+i
  ·subst h2;rw[Nat.sub_self,List.getElem?_cons_zero,BV _ _ (by omega),decide_eq_true (by omega)]
  ·obtain⟨t,ht⟩:∃t,j-(48+i)=t+1:=⟨j-(48+i)-1,by omega⟩;rw[ht,List.getElem?_cons_succ,List.getElem?_drop,show 48+i+1+t=j by omega];by_cases h3:j<256
   ·rw[BV _ _ h3,BV _ _ h3];congr 3;rw[decide_eq_decide];omega
   ·rw[List.getElem?_eq_none (by rw[rb];omega),List.getElem?_eq_none (by rw[rb];omega)]
theorem Xy(c:UInt8):∃r,(zv 10).drop c.toNat=.bool (dS c)::r:=by
 have hc:c.toNat<256:=c.toNat_lt;refine⟨(zv 10).drop (c.toNat+1),?_⟩;rw[List.drop_eq_getElem_cons (by rw[BU];exact hc)];congr 1;simp only[zv,List.getElem_map,List.getElem_range,dS];congr 1;rw[decide_eq_decide];omega
end Go.Vs
