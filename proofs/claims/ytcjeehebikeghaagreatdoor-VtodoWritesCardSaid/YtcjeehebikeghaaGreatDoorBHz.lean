/- A part of a proof. No conditions. -/
import Derived.Shelf.Strings.Builder1
import Derived.Shelf.Strings.OnBuilder
import Derived.Shelf.LaysM
import Derived.Shelf.Strconv.Itoa3
import Derived.Shelf.Unicode.DecodeSlow
import Derived.Shelf.Unicode.DecodeAny
import Derived.Test.YtcjeehebikeghaaGreatDoorProg
import GoSem.Core.Utf8
import Derived.Test.YtcjeehebikeghaaGreatDoorBGz
import Derived.Laws.Externs
set_option linter.unusedVariables false
set_option linter.unusedSimpArgs false
set_option maxRecDepth 100000
set_option maxHeartbeats 4000000
namespace Go.Proofs
open Go.Shelf
def Tryz.lays197_ren:Go.Shelf.Ren:=⟨fun|197=>210|260=>274|n=>n,fun|9=>9|21=>21|3=>3|4=>4|5=>5|105=>313|119=>407|0=>0|46=>395|139=>410|138=>409|n=>n,fun|3=>3|4=>4|n=>n⟩
theorem Tryz.lays197:Go.Proofs.Lays.n197 Tryz.prog Tryz.lays197_ren:={
 mixed:=by kernel_rfl
 f197:=Tryz.func210.trans (congrArg some (by kernel_rfl))
 f260:=Tryz.func274.trans (congrArg some (by kernel_rfl))
 t0:=Tryz.underlying0
 a0:=Tryz.isAgg0
 z0:=Tryz.sizeOf0
 v0:=Tryz.zeroValue0
 t3:=Tryz.underlying3
 a3:=Tryz.isAgg3
 z3:=Tryz.sizeOf3
 v3:=Tryz.zeroValue3
 t4:=Tryz.underlying4
 a4:=Tryz.isAgg4
 z4:=Tryz.sizeOf4
 v4:=Tryz.zeroValue4
 t5:=Tryz.underlying5
 a5:=Tryz.isAgg5
 z5:=Tryz.sizeOf5
 v5:=Tryz.zeroValue5
 t9:=Tryz.underlying9
 a9:=Tryz.isAgg9
 z9:=Tryz.sizeOf9
 v9:=Tryz.zeroValue9
 t21:=Tryz.underlying21
 a21:=Tryz.isAgg21
 z21:=Tryz.sizeOf21
 v21:=Tryz.zeroValue21
 t46:=Tryz.underlying395
 a46:=Tryz.isAgg395
 z46:=Tryz.sizeOf395
 v46:=Tryz.zeroValue395
 t105:=Tryz.underlying313
 a105:=Tryz.isAgg313
 z105:=Tryz.sizeOf313
 v105:=Tryz.zeroValue313
 t119:=Tryz.underlying407
 a119:=Tryz.isAgg407
 z119:=Tryz.sizeOf407
 t138:=Tryz.underlying409
 a138:=Tryz.isAgg409
 z138:=Tryz.sizeOf409
 v138:=Tryz.zeroValue409
 t139:=Tryz.underlying410
 a139:=Tryz.isAgg410
 z139:=Tryz.sizeOf410
 v139:=Tryz.zeroValue410
 g3:=by kernel_rfl
 g4:=by kernel_rfl }
open Go.RowKit Go.Lib in
theorem Tryz.utf8_DecodeRuneInString(s:ByteArray)(w:World)(hT:Lib.Utf8Tabs 3 4 w) :
  Calls Tryz.prog 210 #[.string s] w fun e a=>e=.returned (.tuple #[.int .i32 (Lib.decodeGo s).1,.int .i64 (Lib.decodeGo s).2])/\Below w.heap.size w a:=Any.utf8_DecodeRuneInString Tryz.lays197 s w hT
end Go.Proofs
namespace Go.Vs.U8
open Go
abbrev Str:=List UInt8
def tl(l:Str)(k lo hi:Nat):Bool:=match l[k]? with
 |some b=>decide (lo<=b.toNat)&&decide (b.toNat<=hi)
 |none=>false
def Wp(n:Nat):Nat:=if n=224 then 160 else if n=240 then 144 else 128
def Kl(n:Nat):Nat:=if n=237 then 159 else if n=244 then 143 else 191
def eF:Str->Nat
 |[]=>0
 |c::r=>
  if c.toNat<128 then 1
  else if (decide (194<=c.toNat)&&decide (c.toNat<=223)&&tl r 0 128 191)=true then 2
  else if (decide (224<=c.toNat)&&decide (c.toNat<=239)&&tl r 0 (Wp c.toNat) (Kl c.toNat)&&tl r 1 128 191)=true then 3
  else if (decide (240<=c.toNat)&&decide (c.toNat<=244)&&tl r 0 (Wp c.toNat) (Kl c.toNat)&&tl r 1 128 191&&tl r 2 128 191)=true then 4
  else 0
theorem aaA{l:Str}{k a c:Nat}(h:tl l k a c=true):∃b,l[k]?=some b/\a<=b.toNat/\b.toNat<=c:=by
 unfold tl at h;split at h
 ·next b d=>simp at h;exact⟨b,d,h.1,h.2⟩
 ·simp at h
theorem I4{l:Str}{k lo hi:Nat}(h:tl l k lo hi=true):k<l.length:=by
 obtain⟨b,a,_⟩:=aaA h;exact(List.getElem?_eq_some_iff.1 a).1
theorem I5(l:Str):eF l<=l.length:=by
 cases l with
 |nil=>simp[eF]
 |cons c r=>
  simp only[eF,List.length_cons];split
  ·omega
  ·split
   ·next h=>simp only[Bool.and_eq_true]at h;have:=I4 h.2;omega
   ·split
    ·next h=>simp only[Bool.and_eq_true]at h;have:=I4 h.2;omega
    ·split
     ·next h=>simp only[Bool.and_eq_true]at h;have:=I4 h.2;omega
     ·omega
def mw(l:Str):Bool:=match l with
 |[]=>false
 |c::_=>eF l==0||(decide (c.toNat<32)&&!decide (c.toNat=9))||decide (c.toNat=127)
def Vi:Nat->Str->Option Nat
 |0,_=>none
 |f+1,l=>match l with
  |[]=>none
  |_::_=>if mw l then some 0 else (Vi f (l.drop (eF l))).map (· + eF l)
theorem B8{l:Str}(h:mw l=false)(a:l≠[]):1<=eF l:=by
 cases l with
 |nil=>exact absurd rfl a
 |cons c r=>simp only[mw,Bool.or_eq_false_iff,beq_eq_false_iff_ne]at h;omega
theorem Mr:∀(f g:Nat) (l:Str),l.length<=f->l.length<=g->Vi f l=Vi g l
 |0,0,_,_,_=>rfl
 |0,g+1,l,h,_=>by obtain rfl:l=[]:=List.length_eq_zero_iff.1 (by omega);rfl
 |f+1,0,l,_,h=>by obtain rfl:l=[]:=List.length_eq_zero_iff.1 (by omega);rfl
 |f+1,g+1,l,a,b=>by
  cases l with
  |nil=>rfl
  |cons c r=>
   simp only[Vi];split
   ·rfl
   ·next h=>
    have d:=B8 (by simpa using h) (by simp);rw[Mr f g _ (by rw[List.length_drop];omega) (by rw[List.length_drop];omega)]
def yB(l:Str):Option Nat:=Vi l.length l
@[simp] theorem aeD:yB []=none:=rfl
theorem I6{l:Str}(a:l≠[]):yB l=if mw l then some 0 else (yB (l.drop (eF l))).map (· + eF l):=by
 cases l with
 |nil=>exact absurd rfl a
 |cons c r=>
  unfold yB;simp only[List.length_cons,Vi];split
  ·rfl
  ·next h=>
   have b:=B8 (by simpa using h) (by simp);rw[Mr r.length ((c::r).drop (eF (c::r))).length _ (by rw[List.length_drop];simp;omega) (Nat.le_refl _)]
theorem XO{s:Str}{i:Nat}(a:i<s.length)(h:yB s=(yB (s.drop i)).map (· + i)):yB s=if mw (s.drop i)then some i else (yB (s.drop (i+eF (s.drop i)))).map (· + (i+eF (s.drop i))):=by
 rw[h,I6 (by intro e;have:=congrArg List.length e;simp at this;omega)];split
 ·simp
 ·rw[List.drop_drop];cases yB (s.drop (i+eF (s.drop i)))with
  |none=>rfl
  |some k=>simp;omega
def ww(o:Option Nat):Int:=match o with
 |some k=>k
 |none=>-1
def dec(l:Str):Nat×Nat:=Utf8.decode ⟨l.toArray⟩ 0
theorem get_drop(s:Str)(p k:Nat):(⟨(s.drop p).toArray⟩:ByteArray).get! (0+k)=(⟨s.toArray⟩:ByteArray).get! (p+k):=by
 show(s.drop p).toArray[0+k]! = s.toArray[p+k]!;simp[List.getElem?_drop,getElem!_def]
theorem Qb(s:Str)(p:Nat)(b:p<=s.length):Utf8.decode ⟨s.toArray⟩ p=dec (s.drop p):=by
 unfold dec Utf8.decode
 have a:∀k,(decide (0+k<(⟨(s.drop p).toArray⟩:ByteArray).size))=decide (p+k<(⟨s.toArray⟩:ByteArray).size):=by
  intro k;simp only[ByteArray.size,List.size_toArray,List.length_drop];congr 1;apply propext;omega
 simp only[get_drop,a]
def Pe(l:Str)(k:Nat):Nat:=match l[k]? with
 |some b=>b.toNat
 |none=>0
theorem acT(l:Str)(k:Nat):((⟨l.toArray⟩:ByteArray).get! k).toNat=Pe l k:=by
 show(l.toArray[k]!).toNat=_;unfold Pe;simp only[getElem!_def,List.getElem?_toArray];cases l[k]?<;>rfl
theorem XP(l:Str)(k:Nat):Pe l k<256:=by
 unfold Pe;split
 ·next b _=>exact b.toNat_lt
 ·omega
theorem TH(l:Str)(k a c:Nat)(d:0<a):tl l k a c=(decide (k<l.length)&&decide (a<=Pe l k)&&decide (Pe l k<=c)):=by
 unfold tl Pe;cases h:l[k]? with
 |none=>
  have:¬k<l.length:=by rw[List.getElem?_eq_none_iff]at h;omega
  simp[this]
 |some b=>
  have:k<l.length:=(List.getElem?_eq_some_iff.1 h).1;simp[this]
theorem Vj(a b c d n:Nat)(w:b<256)(x:c<256)(y:d<256)(z:a<256)(D:Nat×Nat)(S:Nat)
  (f:D=if a<128 then (a,1)else if a/32=6/\1<n+1/\b/64=2 then if 128<=a%32*64+b%64 then (a%32*64+b%64,2)else (65533,1)
    else if (a/16=14/\1<n+1/\b/64=2)/\2<n+1/\c/64=2 then
     if 2048<=a%16*4096+b%64*64+c%64/\(0<=((a%16*4096+b%64*64+c%64:Nat):Int)/\((a%16*4096+b%64*64+c%64:Nat):Int)<55296\/57344<=((a%16*4096+b%64*64+c%64:Nat):Int)/\((a%16*4096+b%64*64+c%64:Nat):Int)<=1114111)then (a%16*4096+b%64*64+c%64,3)else (65533,1)
    else if ((a/8=30/\1<n+1/\b/64=2)/\2<n+1/\c/64=2)/\3<n+1/\d/64=2 then
     if 65536<=a%8*262144+b%64*4096+c%64*64+d%64/\(0<=((a%8*262144+b%64*4096+c%64*64+d%64:Nat):Int)/\((a%8*262144+b%64*4096+c%64*64+d%64:Nat):Int)<55296\/57344<=((a%8*262144+b%64*4096+c%64*64+d%64:Nat):Int)/\((a%8*262144+b%64*4096+c%64*64+d%64:Nat):Int)<=1114111)then (a%8*262144+b%64*4096+c%64*64+d%64,4)else (65533,1)
    else (65533,1))
  (g i:Nat) (k:g=Wp a) (l:i=Kl a)
  (e:S=if a<128 then 1 else if (194<=a/\a<=223)/\(0<n/\128<=b)/\b<=191 then 2
    else if ((224<=a/\a<=239)/\(0<n/\g<=b)/\b<=i)/\(1<n/\128<=c)/\c<=191 then 3
    else if (((240<=a/\a<=244)/\(0<n/\g<=b)/\b<=i)/\(1<n/\128<=c)/\c<=191)/\(2<n/\128<=d)/\d<=191 then 4 else 0) :
  (a<128/\D=(a,1)/\S=1)\/(¬a<128/\S=0/\D=(65533,1))\/(¬a<128/\2<=S/\128<=D.1/\D.2=S):=by
 have p:(a=224/\g=160)\/(a=240/\g=144)\/(a≠224/\a≠240/\g=128):=by
  rw[k];unfold Wp;split
  ·next h=>exact .inl ⟨h,rfl⟩
  ·split
   ·next h=>exact .inr (.inl ⟨h,rfl⟩)
   ·next m o=>exact .inr (.inr ⟨m,o,rfl⟩)
 have q:(a=237/\i=159)\/(a=244/\i=143)\/(a≠237/\a≠244/\i=191):=by
  rw[l];unfold Kl;split
  ·next h=>exact .inl ⟨h,rfl⟩
  ·split
   ·next h=>exact .inr (.inl ⟨h,rfl⟩)
   ·next m o=>exact .inr (.inr ⟨m,o,rfl⟩)
 clear k l;by_cases j:a<128
 ·rw[if_pos j]at f e;exact .inl ⟨j,f,e⟩
 right;rw[if_neg j]at f e;by_cases s:(194<=a/\a<=223)/\(0<n/\128<=b)/\b<=191
 ·right;rw[if_pos s]at e;rw[if_pos (by omega),if_pos (by omega)]at f;subst f;subst e;exact⟨j,by omega,by show 128<=a%32*64+b%64;omega,rfl⟩
 rw[if_neg s]at e;by_cases u:((224<=a/\a<=239)/\(0<n/\g<=b)/\b<=i)/\(1<n/\128<=c)/\c<=191
 ·right;rw[if_pos u]at e;rw[if_neg (by omega),if_pos (by omega),if_pos (by omega)]at f;subst f;subst e;exact⟨j,by omega,by show 128<=a%16*4096+b%64*64+c%64;omega,rfl⟩
 rw[if_neg u]at e;by_cases v:(((240<=a/\a<=244)/\(0<n/\g<=b)/\b<=i)/\(1<n/\128<=c)/\c<=191)/\(2<n/\128<=d)/\d<=191
 ·right;rw[if_pos v]at e;rw[if_neg (by omega),if_neg (by omega),if_pos (by omega),if_pos (by omega)]at f;subst f;subst e;exact⟨j,by omega,by show 128<=a%8*262144+b%64*4096+c%64*64+d%64;omega,rfl⟩
 rw[if_neg v]at e;left;refine⟨j,e,?_⟩;rw[f];split
 ·rw[if_neg (by omega)]
 ·split
  ·rw[if_neg (by omega)]
  ·split
   ·rw[if_neg (by omega)]
   ·rfl
theorem Vk(c:UInt8)(r:Str):(c.toNat<128/\dec (c::r)=(c.toNat,1)/\eF (c::r)=1)\/(¬c.toNat<128/\eF (c::r)=0/\dec (c::r)=(65533,1))\/(¬c.toNat<128/\2<=eF (c::r)/\128<=(dec (c::r)).1/\(dec (c::r)).2=eF (c::r)):=by
 refine Vj c.toNat (Pe r 0) (Pe r 1) (Pe r 2) r.length (XP _ _) (XP _ _) (XP _ _) c.toNat_lt _ _ ?_ _ _ rfl rfl ?_
 ·have a:dec (c::r)=Utf8.decode ⟨(c::r).toArray⟩ 0:=rfl;unfold Utf8.decode at a;simp only[Nat.zero_add,acT,ByteArray.size,List.size_toArray,List.length_cons]at a;rw[show Pe (c::r) 0=c.toNat from rfl,show Pe (c::r) 1=Pe r 0 from rfl,show Pe (c::r) 2=Pe r 1 from rfl,show Pe (c::r) 3=Pe r 2 from rfl]at a;rw[a];simp only[Utf8.valid,Utf8.runeError,Bool.and_eq_true,Bool.or_eq_true,decide_eq_true_eq,beq_iff_eq,ge_iff_le]
 ·have b:0<Wp c.toNat:=by
   unfold Wp;split
   ·omega
   ·split<;>omega
  simp only[eF,TH r 0 128 191 (by omega),TH r 1 128 191 (by omega),TH r 2 128 191 (by omega),TH r 0 (Wp c.toNat) (Kl c.toNat) b,Bool.and_eq_true,decide_eq_true_eq]
end Go.Vs.U8
namespace Go.Vs.YtcjeehebikeghaaGreatDoor
open Go.Proofs Go.Proofs.YtcjeehebikeghaaGreatDoor Go.RowKit Go.Lib Go.Vs.U8
def oq(s:List UInt8)(c:UInt8):Int:=match s.findIdx? (· == c)with
 |some i=>i
 |none=>-1
theorem qb(s:List UInt8)(c:UInt8):(oq s c = -1/\c∉s)\/∃i,oq s c=(i:Nat)/\s[i]?=some c/\c∉s.take i:=by
 unfold oq;cases h:s.findIdx? (· == c)with
 |none=>
  left;rw[List.findIdx?_eq_none_iff]at h;exact⟨rfl,fun a=>by have:=h c a;simp at this⟩
 |some i=>
  right;rw[List.findIdx?_eq_some_iff_getElem]at h;obtain⟨d,e,f⟩:=h;refine⟨i,rfl,?_,?_⟩
  ·rw[List.getElem?_eq_getElem d];simpa using e
  ·intro a;obtain⟨j,g,b⟩:=List.mem_iff_getElem.1 a;rw[List.length_take]at g;rw[List.getElem_take]at b;have:=f j (by omega);simp[b]at this
theorem NA{s:List UInt8}{c:UInt8}{i:Nat}(d:s[i]?=some c)(f:c∉s.take i):oq s c=i:=by
 rcases qb s c with⟨_,h⟩|⟨j,h,g,k⟩
 ·exact absurd (List.mem_of_getElem? d) h
 ·rw[h];have a:¬i<j:=fun l=>k (by rw[List.mem_take_iff_getElem];obtain⟨m,e⟩:=List.getElem?_eq_some_iff.1 d;exact⟨i,by omega,e⟩)
  have b:¬j<i:=fun l=>f (by rw[List.mem_take_iff_getElem];obtain⟨m,e⟩:=List.getElem?_eq_some_iff.1 g;exact⟨j,by omega,e⟩)
  omega
theorem Vl{s:List UInt8}{c:UInt8}(h:c∉s):oq s c = -1:=by
 rcases qb s c with⟨a,_⟩|⟨j,_,b,_⟩
 ·exact a
 ·exact absurd (List.mem_of_getElem? b) h
theorem I7(s:List UInt8)(c:UInt8):oq s c<0↔c∉s:=by
 rcases qb s c with⟨a,h⟩|⟨j,h,b,_⟩
 ·rw[a];exact⟨fun _=>h,fun _=>by omega⟩
 ·rw[h];exact⟨fun h=>by omega,fun h=>absurd (List.mem_of_getElem? b) h⟩
theorem Qc(s:List UInt8)(c:UInt8):firstIdx ⟨s.toArray⟩ c=oq s c:=by
 unfold firstIdx;have d:(⟨s.toArray⟩:ByteArray).size=s.length:=by simp[ByteArray.size]
 have a:∀i,i<s.length->(⟨s.toArray⟩:ByteArray)[i]! = s[i]?.getD 0:=by
  intro i f;have g:i<(⟨s.toArray⟩:ByteArray).size:=by rw[d];exact f
  rw[getElem!_pos (⟨s.toArray⟩:ByteArray) i g];show s.toArray[i]=_;simp[f]
 rw[d];cases n:(List.range s.length).find? fun i=>(⟨s.toArray⟩:ByteArray)[i]! == c with
 |none=>
  rw[List.find?_eq_none]at n;refine(Vl fun o=>?_).symm;obtain⟨j,b,l⟩:=List.mem_iff_getElem.1 o;have:=n j (List.mem_range.2 b);rw[a j b,List.getElem?_eq_getElem b]at this;simp[l]at this
 |some i=>
  obtain⟨g,h,u,m,q⟩:=List.find?_eq_some_iff_append.1 n;have f:i<s.length:=List.mem_range.1 (by rw[m];simp)
  have has:∀j,j<i->j∈h:=by
   intro j b;have e1:(List.range s.length)[h.length]?=some i:=by rw[m];simp
   have k:h.length<s.length:=by
    have:=congrArg List.length m;simp at this;omega
   rw[List.getElem?_range k]at e1;have e2:h.length=i:=Option.some.inj e1;have p:(List.range s.length)[j]?=h[j]?:=by rw[m,List.getElem?_append_left (by omega)]
   rw[List.getElem?_range (by omega)]at p;exact List.mem_of_getElem? p.symm
  rw[a i f]at g;refine(NA ?_ ?_).symm
  ·rw[List.getElem?_eq_getElem f]at g |-;simpa using g
  ·intro o;obtain⟨j,b,l⟩:=List.mem_iff_getElem.1 o;rw[List.length_take]at b;rw[List.getElem_take]at l;have:=q j (has j (by omega));rw[a j (by omega),List.getElem?_eq_getElem (by omega)]at this;simp[l]at this
theorem B9(s:List UInt8)(c:UInt8):Fn G Tryz.prog 316 [.str s,.int .u8 c.toNat] (.int .i64 (oq s c)):=by
 refine Md ⟨Tryz.f316,Tryz.func316,by decide⟩ ?_;rintro w S i ⟨g,_,rfl,a,h,_,rfl,b,d⟩;have a:g=.string ⟨s.toArray⟩:=a;have b:h=.int .u8 c.toNat:=b;have d:_=[]:=d;subst a;subst b;subst d;refine⟨.int .i64 (oq s c),?_,rfl⟩;have f:=run_callFunc_extern (P:=Tryz.prog) Tryz.func316 (by kernel_rfl) (by kernel_rfl) (by kernel_rfl) (e:=Extern.BytealgIndexByte.indexByte) (by kernel_rfl) #[.string ⟨s.toArray⟩,.int .u8 c.toNat] w;rw[run_indexByte_string]at f;have e1:((c.toNat:Int)).toNat.toUInt8=c:=by simp
 rw[e1,Qc]at f;exact f
theorem lI{w:World}{S:ba} : ∀ {l:List IV} {b a j:Nat} {x:IV},aO w S l b a->l[j]?=some x->∃v,w.cell? ⟨b,a+j,none⟩=some v/\pJ w S x v
 |[],_,_,_,_,_,h=>by simp at h
 |y::r,b,a,0,x,⟨_,_,⟨v,c,d⟩,_⟩,h=>by
  simp only[List.getElem?_cons_zero,Option.some.injEq]at h;subst h;exact⟨v,c,d⟩
 |y::r,b,a,j+1,x,⟨_,_,_,e⟩,h=>by
  obtain⟨v,c,d⟩:=lI (j:=j) e (by simpa using h);exact⟨v,by rw[show a+(j+1)=a+1+j by omega];exact c,d⟩
theorem Ms:((List.range 256).all fun c=>B6.getD c 0==(firstT c:Int))=true:=by kernel_rfl
theorem NB:((List.range 16).all fun i=>Sq.getD (2*i) 0==(accLo i:Int)&&Sq.getD (2*i+1) 0==(accHi i:Int))=true:=by kernel_rfl
theorem Em:B6.length=256:=by simp[B6]
theorem GX:Sq.length=32:=rfl
theorem wx{zs:List Int}{j:Nat}(h:j<zs.length):(zs.map (IV.int .u8 ·))[j]?=some (.int .u8 (zs.getD j 0)):=by
 simp[h]
theorem acU{w:World}{S:ba}(h:∀p,p∈G->gX w S p):Utf8Tabs 3 4 w:=by
 have k:=h (3,B6.map (.int .u8 ·)) (by simp[G]);have e:=h (4,Sq.map (.int .u8 ·)) (by simp[G]);refine⟨fun c f=>?_,fun i g=>⟨?_,?_⟩⟩
 ·obtain⟨v,b,a⟩:=lI k.1 (wx (j:=c) (by rw[Em];exact f));have a:v=_:=a;have d:=List.all_eq_true.1 Ms c (List.mem_range.2 f);rw[beq_iff_eq]at d;rw[a,d,Nat.zero_add]at b;exact b
 ·obtain⟨v,b,a⟩:=lI e.1 (wx (j:=2*i) (by rw[GX];omega));have a:v=_:=a;have d:=List.all_eq_true.1 NB i (List.mem_range.2 g);rw[Bool.and_eq_true,beq_iff_eq,beq_iff_eq]at d;rw[a,d.1,Nat.zero_add]at b;exact b
 ·obtain⟨v,b,a⟩:=lI e.1 (wx (j:=2*i+1) (by rw[GX];omega));have a:v=_:=a;have d:=List.all_eq_true.1 NB i (List.mem_range.2 g);rw[Bool.and_eq_true,beq_iff_eq,beq_iff_eq]at d;rw[a,d.2,Nat.zero_add]at b;exact b
theorem Km(s:List UInt8)(d:s≠[]):Fn G Tryz.prog 210 [.str s] (.tuple [.int .i32 (dec s).1,.int .i64 (dec s).2]):=by
 refine HN ⟨Tryz.f210,Tryz.func210,by decide⟩ ?_;rintro w S j k a ⟨f,_,rfl,b,c⟩;have b:f=.string ⟨s.toArray⟩:=b;have c:_=[]:=c;subst b;subst c;refine dP Tryz.func210 (by decide) ((Tryz.utf8_DecodeRuneInString ⟨s.toArray⟩ w (acU a)).mono ?_);rintro e l ⟨rfl,g⟩
 have i:decodeGo ⟨s.toArray⟩=dec s:=by
  unfold decodeGo dec;rw[if_neg];have:(⟨s.toArray⟩:ByteArray).size=s.length:=by simp[ByteArray.size]
  rw[this];exact fun h=>d (List.length_eq_zero_iff.1 h)
 rw[i];exact⟨_,rfl,g,#[.int .i32 (dec s).1,.int .i64 (dec s).2],rfl,_,_,rfl,rfl,_,_,rfl,rfl,rfl⟩
def ts(l:List (List UInt8)):List (List IV):=l.map fun s=>[.str s]
end Go.Vs.YtcjeehebikeghaaGreatDoor
namespace Go.Vs.YtcjeehebikeghaaGreatDoor
open Go.Proofs
def um:VCode:=Q_ 2 [.n 0] (Q_ 3 [.Z (z_ [.i])] (.seq (C_ 4 10 [.m 0,.g (.eqN false (tm 4)),.w,.m 0,.g (.mkIface 112 (tm 3)),.g (.callM 56 [tm 7,tm 8]),.u,.O] (Q_ 2 [.n 0] .ret) .skip) (R_ 12 12 [.g (.load none (tm 3)),.a 2] .ret)))
theorem yX:FnOk Tryz.prog 15 um [.tmp 2] 13:=fK_ Tryz.func15
def rS:VCode:=Q_ 2 [.n 0] (G_ 6 [.m 0,.c1 57,.a 5,.e 5 0,.e 5 1,.M 3 8,.a 4] [4,9] (R_ 10 10 [.m 3,.a 2] .ret))
theorem wy:FnOk Tryz.prog 16 rS [.tmp 2] 11:=fK_ Tryz.func16
def Fj:VCode:=Q_ 4 [.K (.const (.val .nili))] (.seq (C_ 5 5 [.m 0,.E 0] (Q_ 4 [.K (.const (.val .nili))] .ret) .skip) (R_ 7 12 [.m 1,.m 0,.g (.mkIface 54 (tm 8)),.g (.build [.val (.int .i64 0),.val .nili] [(0,1,tm 7),(1,1,tm 9)]),.X 10,.g (.mkIface 156 (tm 11)),.a 4] .ret))
theorem NC:FnOk Tryz.prog 38 Fj [.tmp 4] 13:=fK_ Tryz.func38
def uq:VCode:=Q_ 2 [.n 0,.n 0] (Q_ 4 [.n 0,.n 0] (.seq (.block 0 (.loop (.seq (C_ 7 7 [.m 0,.g (.eqN true (tm 7))] .skip (.exit 0)) (.block 1 (Q_ 6 [.Z [.val .nilp]] (.seq (C_ 9 15 [.m 0,.g (.mkIface 199 (tm 6)),.g (.callM 56 [tm 9,tm 10]),.u,.w,.g (.load none (tm 6)),.g (.eqP false (tm 14)),.O] (.exit 0) .skip) (.region (D_ [.m 4,.g (.load none (tm 6)),.k,.f 0,.l,.b .add,.m 5,.P 1,.g (.load none (tm 6)),.k,.f 1,.l,.M 4 22,.M 5 24,.a 0] 17) .calm [17,28]))))))) (R_ 29 30 [.m 4,.m 5,.M 2 29,.a 3] .ret)))
theorem yY:FnOk Tryz.prog 57 uq [.tmp 2,.tmp 3] 31:=fK_ Tryz.func57
def Mt:VCode:=Q_ 2 [.n 0] (.seq (G_ 5 [.m 0,.g (.rangeS (tm 5))] [5,5] (.block 0 (.loop (Q_ 7 [.g (.nextS (tm 6)),.e 7 0] (.seq (c_ 8 .skip (.exit 0)) (.block 1 (R_ 9 10 [.e 7 1,.e 7 2,.M 3 9,.a 4] (C_ 11 25 [.m 0,.m 3,.m 4,.c3 144,.w,.m 4,.g (.bin .lss (tm 16) (.const (.val (.int .i32 32)))),.z,.m 4,.g (.bin .neq (tm 19) (.const (.val (.int .i32 9)))),.A,.O,.w,.m 4,.g (.bin .eql (tm 24) (.const (.val (.int .i32 127)))),.O] (R_ 27 27 [.m 3,.a 2] .ret) .skip)))))))) (Q_ 2 [.n (-1)] .ret))
theorem Sr:FnOk Tryz.prog 93 Mt [.tmp 2] 28:=fK_ Tryz.func93
def Fl:VCode:=Q_ 2 [.n 0] (.seq (Q_ 3 [.n 0] (.block 0 (.loop (.seq (C_ 4 6 [.m 3,.m 0,.h,.b .lss] .skip (.exit 0)) (.seq (.block 1 (C_ 13 33 [.m 0,.m 3,.c2 159,.E 0,.w,.m 0,.m 3,.y,.U .lss 32,.z,.m 0,.m 3,.y,.U .neq 9,.A,.O,.w,.m 0,.m 3,.y,.U .eql 127,.O] (R_ 35 35 [.m 3,.a 2] .ret) .skip)) (X_ 8 12 [.m 3,.m 0,.m 3,.c2 159,.b .add,.a 3])))))) (Q_ 2 [.n (-1)] .ret))
theorem ND:FnOk Tryz.prog 100 Fl [.tmp 2] 36:=fK_ Tryz.func100
def Fo:VCode:=Q_ 2 [.K (cs [])] (Q_ 3 [.g (.allocB 309)] (.seq (Q_ 4 [.n 0] (.block 0 (.loop (.seq (C_ 6 8 [.m 4,.m 0,.h,.b .lss] .skip (.exit 0)) (.seq (.block 1 (R_ 12 14 [.m 0,.m 4,.y,.a 5] (.seq (C_ 15 19 [.m 5,.g (.bin .leq (cu 97) (tm 15)),.z,.m 5,.U .leq 122,.A] (X_ 21 23 [.m 5,.U .sub 97,.U .add 65,.a 5]) .skip) (X_ 24 25 [.m 5,.g (.callM 207 [tm 3,tm 24])])))) (X_ 10 11 [.m 4,.P 1,.a 4])))))) (R_ 26 26 [.g (.callM 208 [tm 3]),.a 2] .ret)))
theorem NE:FnOk Tryz.prog 141 Fo [.tmp 2] 27:=fK_ Tryz.func141
def ut:VCode:=Q_ 6 [.K (cb false)] (.seq (C_ 9 9 [.m 2,.g (.bin .neq (tm 9) (.const (.val (.int .i32 65533))))] (Q_ 6 [.K (cb false)] .ret) .skip) (G_ 12 [.m 0,.m 1,.g (.subS (tm 12) (some (tm 13)) none),.c1 210,.a 11,.e 11 0,.e 11 1,.M 7 16,.a 8] [7,7,11,17] (R_ 18 19 [.m 8,.E 1,.a 6] .ret)))
theorem Kn:FnOk Tryz.prog 144 ut [.tmp 6] 20:=fK_ Tryz.func144
def bS:VCode:=Q_ 4 [.n 0] (R_ 8 10 [.m 0,.m 1,.y,.a 5] (.seq (C_ 11 11 [.m 5,.U .lss 128] (Q_ 4 [.n 1] .ret) .skip) (.seq (C_ 13 23 [.m 5,.U .geq 194,.z,.m 5,.U .leq 223,.A,.z,.m 0,.m 1,.P 1,.g (.call 226 [tm 20,tm 22,cu 128,cu 191]),.A] (Q_ 4 [.n 2] .ret) .skip) (Q_ 6 [.K (cu 128),.K (cu 191)] (.seq (C_ 25 25 [.m 5,.U .eql 224] (Y_ 6 [.K (cu 160)]) .skip) (.seq (C_ 27 27 [.m 5,.U .eql 237] (Y_ 7 [.K (cu 159)]) .skip) (.seq (C_ 29 29 [.m 5,.U .eql 240] (Y_ 6 [.K (cu 144)]) .skip) (.seq (C_ 31 31 [.m 5,.U .eql 244] (Y_ 7 [.K (cu 143)]) .skip) (.seq (C_ 33 51 [.m 5,.U .geq 224,.z,.m 5,.U .leq 239,.A,.z,.m 0,.m 1,.P 1,.m 6,.m 7,.g (.call 226 [tm 40,tm 42,tm 43,tm 44]),.A,.z,.m 0,.m 1,.P 2,.g (.call 226 [tm 48,tm 50,cu 128,cu 191]),.A] (Q_ 4 [.n 3] .ret) .skip) (.seq (C_ 53 77 [.m 5,.U .geq 240,.z,.m 5,.U .leq 244,.A,.z,.m 0,.m 1,.P 1,.m 6,.m 7,.g (.call 226 [tm 60,tm 62,tm 63,tm 64]),.A,.z,.m 0,.m 1,.P 2,.g (.call 226 [tm 68,tm 70,cu 128,cu 191]),.A,.z,.m 0,.m 1,.P 3,.g (.call 226 [tm 74,tm 76,cu 128,cu 191]),.A] (Q_ 4 [.n 4] .ret) .skip) (Q_ 4 [.n 0] .ret)))))))))))
theorem Ko:FnOk Tryz.prog 159 bS [.tmp 4] 79:=fK_ Tryz.func159
def yZ:VCode:=Q_ 2 [.K (cs [])] (Q_ 3 [.K (.const .nils)] (.seq (Q_ 4 [.n 0] (.block 0 (.loop (.seq (C_ 6 8 [.m 4,.m 0,.h,.b .lss] .skip (.exit 0)) (.seq (.block 1 (R_ 12 14 [.m 0,.m 4,.y,.a 5] (.seq (C_ 15 19 [.m 5,.U .geq 97,.z,.m 5,.U .leq 122,.A] (X_ 21 22 [.m 5,.U .sub 32,.a 5]) .skip) (X_ 23 26 [.m 3,.m 5,.g (.buildSlice 1 1 (z_ [.u]) [(0,1,tm 24)]),.g (.append 5 1 1 (tm 23) (tm 25)),.a 3])))) (X_ 10 11 [.m 4,.P 1,.a 4])))))) (R_ 27 28 [.m 3,.g (.convB (tm 27)),.a 2] .ret)))
theorem I8:FnOk Tryz.prog 163 yZ [.tmp 2] 29:=fK_ Tryz.func163
def oD:VCode:=Q_ 4 [.n 0] (R_ 5 7 [.m 0,.m 1,.c2 266,.a 4] .ret)
theorem wz:FnOk Tryz.prog 200 oD [.tmp 4] 8:=fK_ Tryz.func200
def I9:VCode:=Q_ 4 [.K (.const (.val .nili))] (.seq (C_ 5 5 [.m 0,.g (.eqN false (tm 5))] (Q_ 4 [.K (.const (.val .nili))] .ret) .skip) (R_ 7 11 [.m 1,.m 0,.g (.build [.val (.int .i64 0),.val .nili] [(0,1,tm 7),(1,1,tm 8)]),.X 9,.g (.mkIface 156 (tm 10)),.a 4] .ret))
theorem Qd:FnOk Tryz.prog 220 I9 [.tmp 4] 12:=fK_ Tryz.func220
def BZ:VCode:=Q_ 8 [.K (cb false)] (R_ 9 26 [.m 1,.m 0,.h,.b .lss,.z,.m 0,.m 1,.y,.m 2,.b .geq,.A,.z,.m 0,.m 1,.y,.m 3,.b .leq,.A,.a 8] .ret)
theorem Kp:FnOk Tryz.prog 226 BZ [.tmp 8] 27:=fK_ Tryz.func226
def ge:VCode:=Q_ 4 [.n 0] (R_ 5 7 [.m 0,.m 1,.c2 316,.a 4] .ret)
theorem lj:FnOk Tryz.prog 266 ge [.tmp 4] 8:=fK_ Tryz.func266
abbrev Str:=List UInt8
def upB(c:UInt8):UInt8:=if 97<=c/\c<=122 then c-32 else c
def upper(s:Str):Str:=s.map upB
@[simp] theorem adF:upper []=[]:=rfl
theorem En(s:Str):(upper s).length=s.length:=by simp[upper]
theorem Ib{s:Str}{i:Nat}(h:i<s.length):upper (s.take (i+1))=upper (s.take i)++[upB s[i]]:=by
 unfold upper;rw[List.take_succ_eq_append_getElem h,List.map_append];rfl
theorem upB_yes{c:UInt8}(b:97<=c.toNat)(e:c.toNat<=122):(upB c).toNat=c.toNat-32:=by
 have a:(97:UInt8)<=c/\c<=122:=⟨by rw[UInt8.le_iff_toNat_le];simpa using b,by rw[UInt8.le_iff_toNat_le];simpa using e⟩;rw[upB,if_pos a,UInt8.toNat_sub_of_le]
 ·rfl
 ·rw[UInt8.le_iff_toNat_le];simp;omega
theorem upB_no{c:UInt8}(h:¬(97<=c.toNat/\c.toNat<=122)):upB c=c:=by
 rw[upB,if_neg];rintro⟨a,b⟩;rw[UInt8.le_iff_toNat_le]at a b;exact h ⟨by simpa using a,by simpa using b⟩
theorem Fq(c:UInt8):c.toNat<256:=by have:=c.toNat_lt;simpa using this
theorem pH{i n:Nat}(h:i<n)(a:n<1000000):IntKind.i64.wrap ((i:Int)+1)=((i+1:Nat):Int):=by rw[IntKind.wrap_i64];omega
theorem Ic(s:Str)(f:s.length<1000000):Fn G Tryz.prog 141 [.str s] (.str (upper s)):=by
 refine ae hm NE (by simp) ?_;simp[Fo];refine be hm [] (fun i:Nat=>[(4,.val (.int .i64 i))]) (fun i=>[(3,.box [.selfN 3 309 false,.ownT 1 i 5]),(1,.arr i 1 (an (upper (s.take i))))]) (fun i=>i<=s.length) (fun i=>s.length-i) 0 (by omega) ?_ ?_
 ·exact cH.trans (PW (k:=3) (d:=3) (t:=309) 1 5 (by simp) (by simp) (by simp[ap,ac]) (by simp[ac]) (by simp)) (ag rfl rfl (by simp[St.bld,aI,ap,ac,put,cS,SV.erase]) (by simp[St.bld,bD,ac,put,ck,fh,Ob.erase,SV.erase,an]) (by simp[St.bld,bB]))
 intro i o;simp;refine Pd (fun h=>?_) (fun h=>?_)
 ·obtain⟨c,j⟩:∃c,c=s[i]:=⟨_,rfl⟩;have b:=Ib h;rw[<-j]at b;have g:s[i]?=some c:=by rw[j];exact List.getElem?_eq_getElem h
  have l:=Fq c;have a:=yW i (upper (s.take i)) (upB c) (by rw[En,List.length_take];omega);simp[g];refine Pd (fun m=>?_) (fun m=>?_)
  ·simp;refine Pd (fun n=>?_) (fun n=>?_)
   ·have e:IntKind.u8.wrap (IntKind.u8.wrap ((c.toNat:Int)-97)+65)=((upB c).toNat:Int):=by
     rw[upB_yes (by omega) (by omega),wrap_u8 (x:=(c.toNat:Int)-97) (by omega) (by omega),wrap_u8 (by omega) (by omega)];omega
    simp[e];refine callM [(1000,3),(1001,1)] [] a rfl rfl ⟨rfl,rfl,trivial⟩ ⟨rfl,_,_,rfl,rfl,rfl⟩ rfl ?_;simp[gO,pH h f];refine ai (i+1) (by omega) (by omega) ?_;simp[b];exact bp
   ·have e:=upB_no (c:=c) (by omega);rw[e]at a b;simp;refine callM [(1000,3),(1001,1)] [] a rfl rfl ⟨rfl,rfl,trivial⟩ ⟨rfl,_,_,rfl,rfl,rfl⟩ rfl ?_;simp[gO,pH h f];refine ai (i+1) (by omega) (by omega) ?_;simp[b];exact bp
  ·have e:=upB_no (c:=c) (by omega);rw[e]at a b;simp;refine callM [(1000,3),(1001,1)] [] a rfl rfl ⟨rfl,rfl,trivial⟩ ⟨rfl,_,_,rfl,rfl,rfl⟩ rfl ?_;simp[gO,pH h f];refine ai (i+1) (by omega) (by omega) ?_;simp[b];exact bp
 ·obtain rfl:i=s.length:=by omega
  simp;refine callM [(1000,3),(1001,1)] [] (B7 s.length (upper s) (by rw[En];omega)) rfl rfl (by simp[yP,gO,Vs.ren,ac,Ob.ren,SV.ren]) ⟨rfl,rfl⟩ rfl ?_;simp
theorem jE(l:Str):nk (an l)=some l:=by
 induction l with
 |nil=>rfl
 |cons c r a=>
  simp only[an,List.map_cons,nk]at a |-;rw[a];simp
theorem Mv(s:Str)(d:s.length<1000000):Fn G Tryz.prog 163 [.str s] (.str (upper s)):=by
 refine ae hm I8 (by simp) ?_;simp[yZ];refine be hm [] (fun i:Nat=>[(4,.val (.int .i64 i)),(3,.own 3 i)]) (fun i=>[(3,.arr i 1 (an (upper (s.take i))))]) (fun i=>i<=s.length) (fun i=>s.length-i) 0 (by omega) ?_ ?_
 ·simp[an];exact cH.trans (ct (k:=3) 3 1 (by simp) (by simp[ap,ac])) (ag rfl rfl (by simp[St.adopt,aI,ap,ac,put,cS,SV.erase]) (by simp[St.adopt,bD,ac,put,ck,Ob.erase]) (by simp[St.adopt,bB]))
 intro i m;simp;refine Pd (fun h=>?_) (fun h=>?_)
 ·obtain⟨c,f⟩:∃c,c=s[i]:=⟨_,rfl⟩;have a:=Ib h;rw[<-f]at a;have e:s[i]?=some c:=by rw[f];exact List.getElem?_eq_getElem h
  have g:=Fq c;have n:(an (upper (s.take i))).length<=1000000:=by simp[an,En];omega
  simp[e];refine Pd (fun j=>?_) (fun j=>?_)
  ·simp;refine Pd (fun l=>?_) (fun l=>?_)
   ·have b:IntKind.u8.wrap ((c.toNat:Int)-32)=((upB c).toNat:Int):=by
     rw[upB_yes (by omega) (by omega),wrap_u8 (by omega) (by omega)];omega
    simp[b,pH h d];refine⟨by omega,?_⟩;refine ai (i+1) (by omega) (by omega) ?_;simp[a,fe];exact bp
   ·have b:=upB_no (c:=c) (by omega);rw[b]at a;simp[pH h d];refine⟨by omega,?_⟩;refine ai (i+1) (by omega) (by omega) ?_;simp[a,fe];exact bp
  ·have b:=upB_no (c:=c) (by omega);rw[b]at a;simp[pH h d];refine⟨by omega,?_⟩;refine ai (i+1) (by omega) (by omega) ?_;simp[a,fe];exact bp
 ·obtain rfl:i=s.length:=by omega
  simp[jE]
theorem fP(e a:Int):Fn G Tryz.prog 38 [.int .i64 e,.int .i64 a] (if e=0 then .nili else dq e [a]):=by
 refine ae hm NC (by simp) ?_;simp[Fj];refine Pd (fun h=>?_) (fun h=>?_)
 ·simp[h]
 ·simp[h,dq]
theorem dD(n:Int)(ps:List Int):∃t v,dq n ps=.iface t v:=by
 cases ps with
 |nil=>exact⟨_,_,rfl⟩
 |cons p r=>exact⟨_,_,rfl⟩
theorem abY(n:Int)(ps:List Int)(a:Int):Fn G Tryz.prog 220 [dq n ps,.int .i64 a] (dq n (a::ps)):=by
 refine ae hm Qd (by simp) ?_;obtain⟨t,v,h⟩:=dD n ps;simp only[dq,h];simp[I9]
theorem wA:Fn G Tryz.prog 15 [.nili] (.int .i64 0):=by
 refine ae hm yX (by simp) ?_;simp[um]
theorem uv(n:Int)(ps:List Int):Fn G Tryz.prog 15 [dq n ps] (.int .i64 n):=by
 refine ae hm yX (by simp) ?_;have a:=I2 n 0 ps;obtain⟨t,v,h⟩:=dD n ps;rw[h]at a |-;simp[um];refine callM [(1000,3)] [] a rfl rfl ⟨rfl,trivial⟩ ⟨[],[],rfl,⟨rfl,rfl⟩,rfl⟩ rfl ?_;simp
end Go.Vs.YtcjeehebikeghaaGreatDoor
