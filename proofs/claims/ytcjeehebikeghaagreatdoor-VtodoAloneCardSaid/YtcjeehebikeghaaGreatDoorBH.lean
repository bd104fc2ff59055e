/- A part of a proof. No conditions. -/
import Derived.Shelf.Strings.Builder1
import Derived.Shelf.Strings.OnBuilder
import Derived.Shelf.LaysM
import Derived.Shelf.Strconv.Itoa3
import Derived.Shelf.Unicode.DecodeSlow
import Derived.Shelf.Unicode.DecodeAny
import Derived.Test.YtcjeehebikeghaaGreatDoorProg
import GoSem.Core.Utf8
import Derived.Test.YtcjeehebikeghaaGreatDoorBG
import Derived.Laws.Externs
set_option linter.unusedVariables false
set_option linter.unusedSimpArgs false
set_option maxRecDepth 100000
set_option maxHeartbeats 4000000
namespace Go.Proofs
open Go.Shelf
def Tryz.lays197_ren:Go.Shelf.Ren:=⟨fun|197=>210|260=>274|n=>n,fun|9=>9|21=>21|3=>3|4=>4|5=>5|105=>313|119=>407|0=>0|46=>395|139=>410|138=>409|n=>n,fun|3=>3|4=>4|n=>n⟩
theorem Tryz.lays197:Go.Proofs.Lays.n197 Tryz.prog Tryz.lays197_ren:={
 mixed:=by kernel_rfl
 f197:=Tryz.func210.trans (congrArg some (by kernel_rfl))
 f260:=Tryz.func274.trans (congrArg some (by kernel_rfl))
 t0:=Tryz.underlying0
 a0:=Tryz.isAgg0
 z0:=Tryz.sizeOf0
 v0:=Tryz.zeroValue0
 t3:=Tryz.underlying3
 a3:=Tryz.isAgg3
 z3:=Tryz.sizeOf3
 v3:=Tryz.zeroValue3
 t4:=Tryz.underlying4
 a4:=Tryz.isAgg4
 z4:=Tryz.sizeOf4
 v4:=Tryz.zeroValue4
 t5:=Tryz.underlying5
 a5:=Tryz.isAgg5
 z5:=Tryz.sizeOf5
 v5:=Tryz.zeroValue5
 t9:=Tryz.underlying9
 a9:=Tryz.isAgg9
 z9:=Tryz.sizeOf9
 v9:=Tryz.zeroValue9
 t21:=Tryz.underlying21
 a21:=Tryz.isAgg21
 z21:=Tryz.sizeOf21
 v21:=Tryz.zeroValue21
 t46:=Tryz.underlying395
 a46:=Tryz.isAgg395
 z46:=Tryz.sizeOf395
 v46:=Tryz.zeroValue395
 t105:=Tryz.underlying313
 a105:=Tryz.isAgg313
 z105:=Tryz.sizeOf313
 v105:=Tryz.zeroValue313
 t119:=Tryz.underlying407
 a119:=Tryz.isAgg407
 z119:=Tryz.sizeOf407
 t138:=Tryz.underlying409
 a138:=Tryz.isAgg409
 z138:=Tryz.sizeOf409
 v138:=Tryz.zeroValue409
 t139:=Tryz.underlying410
 a139:=Tryz.isAgg410
 z139:=Tryz.sizeOf410
 v139:=Tryz.zeroValue410
 g3:=by kernel_rfl
 g4:=by kernel_rfl }
open Go.RowKit Go.Lib in
theorem Tryz.utf8_DecodeRuneInString(s:ByteArray)(w:World)(hT:Lib.Utf8Tabs 3 4 w) :
  Calls Tryz.prog 210 #[.string s] w fun e w'=>e=.returned (.tuple #[.int .i32 (Lib.decodeGo s).1,.int .i64 (Lib.decodeGo s).2])/\Below w.heap.size w w':=Any.utf8_DecodeRuneInString Tryz.lays197 s w hT
end Go.Proofs
namespace Go.Vs.U8
open Go
abbrev Str:=List UInt8
def tl(l:Str)(k lo hi:Nat):Bool:=match l[k]? with
 |some b=>decide (lo<=b.toNat)&&decide (b.toNat<=hi)
 |none=>false
def Qi(n:Nat):Nat:=if n=224 then 160 else if n=240 then 144 else 128
def Jl(n:Nat):Nat:=if n=237 then 159 else if n=244 then 143 else 191
def eo:Str->Nat
 |[]=>0
 |c::r=>
  if c.toNat<128 then 1
  else if (decide (194<=c.toNat)&&decide (c.toNat<=223)&&tl r 0 128 191)=true then 2
  else if (decide (224<=c.toNat)&&decide (c.toNat<=239)&&tl r 0 (Qi c.toNat) (Jl c.toNat)&&tl r 1 128 191)=true then 3
  else if (decide (240<=c.toNat)&&decide (c.toNat<=244)&&tl r 0 (Qi c.toNat) (Jl c.toNat)&&tl r 1 128 191&&tl r 2 128 191)=true then 4
  else 0
theorem SY{l:Str}{k lo hi:Nat}(h:tl l k lo hi=true):∃b,l[k]?=some b/\lo<=b.toNat/\b.toNat<=hi:=by
 unfold tl at h;split at h
 ·next b hb=>simp at h;exact⟨b,hb,h.1,h.2⟩
 ·simp at h
theorem CI{l:Str}{k lo hi:Nat}(h:tl l k lo hi=true):k<l.length:=by
 obtain⟨b,hb,_⟩:=SY h;exact(List.getElem?_eq_some_iff.1 hb).1
theorem Jm(l:Str):eo l<=l.length:=by
 cases l with
 |nil=>simp[eo]
 |cons c r=>
  simp only[eo,List.length_cons];split
  ·omega
  ·split
   ·next h=>simp only[Bool.and_eq_true]at h;have:=CI h.2;omega
   ·split
    ·next h=>simp only[Bool.and_eq_true]at h;have:=CI h.2;omega
    ·split
     ·next h=>simp only[Bool.and_eq_true]at h;have:=CI h.2;omega
     ·omega
def mg(l:Str):Bool:=match l with
 |[]=>false
 |c::_=>eo l==0||(decide (c.toNat<32)&&!decide (c.toNat=9))||decide (c.toNat=127)
def NQ:Nat->Str->Option Nat
 |0,_=>none
 |f+1,l=>match l with
  |[]=>none
  |_::_=>if mg l then some 0 else (NQ f (l.drop (eo l))).map (· + eo l)
theorem wS{l:Str}(h:mg l=false)(hne:l≠[]):1<=eo l:=by
 cases l with
 |nil=>exact absurd rfl hne
 |cons c r=>simp only[mg,Bool.or_eq_false_iff,beq_eq_false_iff_ne]at h;omega
theorem G1:∀(f g:Nat) (l:Str),l.length<=f->l.length<=g->NQ f l=NQ g l
 |0,0,_,_,_=>rfl
 |0,g+1,l,h,_=>by obtain rfl:l=[]:=List.length_eq_zero_iff.1 (by omega);rfl
 |f+1,0,l,_,h=>by obtain rfl:l=[]:=List.length_eq_zero_iff.1 (by omega);rfl
 |f+1,g+1,l,hf,hg=>by
  cases l with
  |nil=>rfl
  |cons c r=>
   simp only[NQ];split
   ·rfl
   ·next h=>
    have h1:=wS (by simpa using h) (by simp);rw[G1 f g _ (by rw[List.length_drop];omega) (by rw[List.length_drop];omega)]
def zz(l:Str):Option Nat:=NQ l.length l
@[simp] theorem X3:zz []=none:=rfl
theorem xU{l:Str}(hne:l≠[]):zz l=if mg l then some 0 else (zz (l.drop (eo l))).map (· + eo l):=by
 cases l with
 |nil=>exact absurd rfl hne
 |cons c r=>
  unfold zz;simp only[List.length_cons,NQ];split
  ·rfl
  ·next h=>
   have h1:=wS (by simpa using h) (by simp);rw[G1 r.length ((c::r).drop (eo (c::r))).length _ (by rw[List.length_drop];simp;omega) (Nat.le_refl _)]
theorem Vh{s:Str}{i:Nat}(hi:i<s.length)(h:zz s=(zz (s.drop i)).map (· + i)):zz s=if mg (s.drop i)then some i else (zz (s.drop (i+eo (s.drop i)))).map (· + (i+eo (s.drop i))):=by
 rw[h,xU (by intro e;have:=congrArg List.length e;simp at this;omega)];split
 ·simp
 ·rw[List.drop_drop];cases zz (s.drop (i+eo (s.drop i)))with
  |none=>rfl
  |some k=>simp;omega
def Jn(o:Option Nat):Int:=match o with
 |some k=>k
 |none=>-1
def dec(l:Str):Nat×Nat:=Utf8.decode ⟨l.toArray⟩ 0
theorem get_drop(s:Str)(p k:Nat):(⟨(s.drop p).toArray⟩:ByteArray).get! (0+k)=(⟨s.toArray⟩:ByteArray).get! (p+k):=by
 show(s.drop p).toArray[0+k]! = s.toArray[p+k]!;simp[List.getElem?_drop,getElem!_def]
theorem Jo(s:Str)(p:Nat)(hp:p<=s.length):Utf8.decode ⟨s.toArray⟩ p=dec (s.drop p):=by
 unfold dec Utf8.decode
 have hsz:∀k,(decide (0+k<(⟨(s.drop p).toArray⟩:ByteArray).size))=decide (p+k<(⟨s.toArray⟩:ByteArray).size):=by
  intro k;simp only[ByteArray.size,List.size_toArray,List.length_drop];congr 1;apply propext;omega
 simp only[get_drop,hsz]
def Ij(l:Str)(k:Nat):Nat:=match l[k]? with
 |some b=>b.toNat
 |none=>0
theorem Vi(l:Str)(k:Nat):((⟨l.toArray⟩:ByteArray).get! k).toNat=Ij l k:=by
 show(l.toArray[k]!).toNat=_;unfold Ij;simp only[getElem!_def,List.getElem?_toArray];cases l[k]?<;>rfl
theorem Qj(l:Str)(k:Nat):Ij l k<256:=by
 unfold Ij;split
 ·next b _=>exact b.toNat_lt
 ·omega
theorem Me(l:Str)(k lo hi:Nat)(hlo:0<lo):tl l k lo hi=(decide (k<l.length)&&decide (lo<=Ij l k)&&decide (Ij l k<=hi)):=by
 unfold tl Ij;cases h:l[k]? with
 |none=>
  have:¬k<l.length:=by rw[List.getElem?_eq_none_iff]at h;omega
  simp[this]
 |some b=>
  have:k<l.length:=(List.getElem?_eq_some_iff.1 h).1;simp[this]
theorem NR(x0 x1 x2 x3 n:Nat)(b1:x1<256)(b2:x2<256)(b3:x3<256)(b0:x0<256)(D:Nat×Nat)(S:Nat)
  (hD:D=if x0<128 then (x0,1)else if x0/32=6/\1<n+1/\x1/64=2 then if 128<=x0%32*64+x1%64 then (x0%32*64+x1%64,2)else (65533,1)
    else if (x0/16=14/\1<n+1/\x1/64=2)/\2<n+1/\x2/64=2 then
     if 2048<=x0%16*4096+x1%64*64+x2%64/\(0<=((x0%16*4096+x1%64*64+x2%64:Nat):Int)/\((x0%16*4096+x1%64*64+x2%64:Nat):Int)<55296\/57344<=((x0%16*4096+x1%64*64+x2%64:Nat):Int)/\((x0%16*4096+x1%64*64+x2%64:Nat):Int)<=1114111)then (x0%16*4096+x1%64*64+x2%64,3)else (65533,1)
    else if ((x0/8=30/\1<n+1/\x1/64=2)/\2<n+1/\x2/64=2)/\3<n+1/\x3/64=2 then
     if 65536<=x0%8*262144+x1%64*4096+x2%64*64+x3%64/\(0<=((x0%8*262144+x1%64*4096+x2%64*64+x3%64:Nat):Int)/\((x0%8*262144+x1%64*4096+x2%64*64+x3%64:Nat):Int)<55296\/57344<=((x0%8*262144+x1%64*4096+x2%64*64+x3%64:Nat):Int)/\((x0%8*262144+x1%64*4096+x2%64*64+x3%64:Nat):Int)<=1114111)then (x0%8*262144+x1%64*4096+x2%64*64+x3%64,4)else (65533,1)
    else (65533,1))
  (lo hi:Nat) (hlo:lo=Qi x0) (hhi:hi=Jl x0)
  (hS:S=if x0<128 then 1 else if (194<=x0/\x0<=223)/\(0<n/\128<=x1)/\x1<=191 then 2
    else if ((224<=x0/\x0<=239)/\(0<n/\lo<=x1)/\x1<=hi)/\(1<n/\128<=x2)/\x2<=191 then 3
    else if (((240<=x0/\x0<=244)/\(0<n/\lo<=x1)/\x1<=hi)/\(1<n/\128<=x2)/\x2<=191)/\(2<n/\128<=x3)/\x3<=191 then 4 else 0) :
  (x0<128/\D=(x0,1)/\S=1)\/(¬x0<128/\S=0/\D=(65533,1))\/(¬x0<128/\2<=S/\128<=D.1/\D.2=S):=by
 have hlo':(x0=224/\lo=160)\/(x0=240/\lo=144)\/(x0≠224/\x0≠240/\lo=128):=by
  rw[hlo];unfold Qi;split
  ·next h=>exact .inl ⟨h,rfl⟩
  ·split
   ·next h=>exact .inr (.inl ⟨h,rfl⟩)
   ·next h1 h2=>exact .inr (.inr ⟨h1,h2,rfl⟩)
 have hhi':(x0=237/\hi=159)\/(x0=244/\hi=143)\/(x0≠237/\x0≠244/\hi=191):=by
  rw[hhi];unfold Jl;split
  ·next h=>exact .inl ⟨h,rfl⟩
  ·split
   ·next h=>exact .inr (.inl ⟨h,rfl⟩)
   ·next h1 h2=>exact .inr (.inr ⟨h1,h2,rfl⟩)
 clear hlo hhi;by_cases h0:x0<128
 ·rw[if_pos h0]at hD hS;exact .inl ⟨h0,hD,hS⟩
 right;rw[if_neg h0]at hD hS;by_cases s2:(194<=x0/\x0<=223)/\(0<n/\128<=x1)/\x1<=191
 ·right;rw[if_pos s2]at hS;rw[if_pos (by omega),if_pos (by omega)]at hD;subst hD;subst hS;exact⟨h0,by omega,by show 128<=x0%32*64+x1%64;omega,rfl⟩
 rw[if_neg s2]at hS;by_cases s3:((224<=x0/\x0<=239)/\(0<n/\lo<=x1)/\x1<=hi)/\(1<n/\128<=x2)/\x2<=191
 ·right;rw[if_pos s3]at hS;rw[if_neg (by omega),if_pos (by omega),if_pos (by omega)]at hD;subst hD;subst hS;exact⟨h0,by omega,by show 128<=x0%16*4096+x1%64*64+x2%64;omega,rfl⟩
 rw[if_neg s3]at hS;by_cases s4:(((240<=x0/\x0<=244)/\(0<n/\lo<=x1)/\x1<=hi)/\(1<n/\128<=x2)/\x2<=191)/\(2<n/\128<=x3)/\x3<=191
 ·right;rw[if_pos s4]at hS;rw[if_neg (by omega),if_neg (by omega),if_pos (by omega),if_pos (by omega)]at hD;subst hD;subst hS;exact⟨h0,by omega,by show 128<=x0%8*262144+x1%64*4096+x2%64*64+x3%64;omega,rfl⟩
 rw[if_neg s4]at hS;left;refine⟨h0,hS,?_⟩;rw[hD];split
 ·rw[if_neg (by omega)]
 ·split
  ·rw[if_neg (by omega)]
  ·split
   ·rw[if_neg (by omega)]
   ·rfl
theorem NT(c:UInt8)(r:Str):(c.toNat<128/\dec (c::r)=(c.toNat,1)/\eo (c::r)=1)\/(¬c.toNat<128/\eo (c::r)=0/\dec (c::r)=(65533,1))\/(¬c.toNat<128/\2<=eo (c::r)/\128<=(dec (c::r)).1/\(dec (c::r)).2=eo (c::r)):=by
 refine NR c.toNat (Ij r 0) (Ij r 1) (Ij r 2) r.length (Qj _ _) (Qj _ _) (Qj _ _) c.toNat_lt _ _ ?_ _ _ rfl rfl ?_
 ·have hd:dec (c::r)=Utf8.decode ⟨(c::r).toArray⟩ 0:=rfl;unfold Utf8.decode at hd;simp only[Nat.zero_add,Vi,ByteArray.size,List.size_toArray,List.length_cons]at hd;rw[show Ij (c::r) 0=c.toNat from rfl,show Ij (c::r) 1=Ij r 0 from rfl,show Ij (c::r) 2=Ij r 1 from rfl,show Ij (c::r) 3=Ij r 2 from rfl]at hd;rw[hd];simp only[Utf8.valid,Utf8.runeError,Bool.and_eq_true,Bool.or_eq_true,decide_eq_true_eq,beq_iff_eq,ge_iff_le]
 ·have hl:0<Qi c.toNat:=by
   unfold Qi;split
   ·omega
   ·split<;>omega
  simp only[eo,Me r 0 128 191 (by omega),Me r 1 128 191 (by omega),Me r 2 128 191 (by omega),Me r 0 (Qi c.toNat) (Jl c.toNat) hl,Bool.and_eq_true,decide_eq_true_eq]
end Go.Vs.U8
namespace Go.Vs.YtcjeehebikeghaaGreatDoor
open Go.Proofs Go.Proofs.YtcjeehebikeghaaGreatDoor Go.RowKit Go.Lib Go.Vs.U8
def mB(s:List UInt8)(c:UInt8):Int:=match s.findIdx? (· == c)with
 |some i=>i
 |none=>-1
theorem o4(s:List UInt8)(c:UInt8):(mB s c = -1/\c∉s)\/∃i,mB s c=(i:Nat)/\s[i]?=some c/\c∉s.take i:=by
 unfold mB;cases h:s.findIdx? (· == c)with
 |none=>
  left;rw[List.findIdx?_eq_none_iff]at h;exact⟨rfl,fun hc=>by have:=h c hc;simp at this⟩
 |some i=>
  right;rw[List.findIdx?_eq_some_iff_getElem]at h;obtain⟨h1,h2,h3⟩:=h;refine⟨i,rfl,?_,?_⟩
  ·rw[List.getElem?_eq_getElem h1];simpa using h2
  ·intro hc;obtain⟨j,hj,he⟩:=List.mem_iff_getElem.1 hc;rw[List.length_take]at hj;rw[List.getElem_take]at he;have:=h3 j (by omega);simp[he]at this
theorem He{s:List UInt8}{c:UInt8}{i:Nat}(h1:s[i]?=some c)(h2:c∉s.take i):mB s c=i:=by
 rcases o4 s c with⟨_,h⟩|⟨j,h,k1,k2⟩
 ·exact absurd (List.mem_of_getElem? h1) h
 ·rw[h];have a:¬i<j:=fun hl=>k2 (by rw[List.mem_take_iff_getElem];obtain⟨hi,e⟩:=List.getElem?_eq_some_iff.1 h1;exact⟨i,by omega,e⟩)
  have b:¬j<i:=fun hl=>h2 (by rw[List.mem_take_iff_getElem];obtain⟨hi,e⟩:=List.getElem?_eq_some_iff.1 k1;exact⟨j,by omega,e⟩)
  omega
theorem NU{s:List UInt8}{c:UInt8}(h:c∉s):mB s c = -1:=by
 rcases o4 s c with⟨h1,_⟩|⟨j,_,k1,_⟩
 ·exact h1
 ·exact absurd (List.mem_of_getElem? k1) h
theorem CJ(s:List UInt8)(c:UInt8):mB s c<0↔c∉s:=by
 rcases o4 s c with⟨h1,h⟩|⟨j,h,k1,_⟩
 ·rw[h1];exact⟨fun _=>h,fun _=>by omega⟩
 ·rw[h];exact⟨fun h=>by omega,fun h=>absurd (List.mem_of_getElem? k1) h⟩
theorem Jp(s:List UInt8)(c:UInt8):firstIdx ⟨s.toArray⟩ c=mB s c:=by
 unfold firstIdx;have hsz:(⟨s.toArray⟩:ByteArray).size=s.length:=by simp[ByteArray.size]
 have hget:∀i,i<s.length->(⟨s.toArray⟩:ByteArray)[i]! = s[i]?.getD 0:=by
  intro i hi;have h1:i<(⟨s.toArray⟩:ByteArray).size:=by rw[hsz];exact hi
  rw[getElem!_pos (⟨s.toArray⟩:ByteArray) i h1];show s.toArray[i]=_;simp[hi]
 rw[hsz];cases hf:(List.range s.length).find? fun i=>(⟨s.toArray⟩:ByteArray)[i]! == c with
 |none=>
  rw[List.find?_eq_none]at hf;refine(NU fun hc=>?_).symm;obtain⟨j,hj,he⟩:=List.mem_iff_getElem.1 hc;have:=hf j (List.mem_range.2 hj);rw[hget j hj,List.getElem?_eq_getElem hj]at this;simp[he]at this
 |some i=>
  obtain⟨h1,xs,ys,h2,h3⟩:=List.find?_eq_some_iff_append.1 hf;have hi:i<s.length:=List.mem_range.1 (by rw[h2];simp)
  have has:∀j,j<i->j∈xs:=by
   intro j hj;have e1:(List.range s.length)[xs.length]?=some i:=by rw[h2];simp
   have hlen:xs.length<s.length:=by
    have:=congrArg List.length h2;simp at this;omega
   rw[List.getElem?_range hlen]at e1;have e2:xs.length=i:=Option.some.inj e1;have e3:(List.range s.length)[j]?=xs[j]?:=by rw[h2,List.getElem?_append_left (by omega)]
   rw[List.getElem?_range (by omega)]at e3;exact List.mem_of_getElem? e3.symm
  rw[hget i hi]at h1;refine(He ?_ ?_).symm
  ·rw[List.getElem?_eq_getElem hi]at h1 |-;simpa using h1
  ·intro hc;obtain⟨j,hj,he⟩:=List.mem_iff_getElem.1 hc;rw[List.length_take]at hj;rw[List.getElem_take]at he;have:=h3 j (has j (by omega));rw[hget j (by omega),List.getElem?_eq_getElem (by omega)]at this;simp[he]at this
theorem wT(s:List UInt8)(c:UInt8):Fn G Tryz.prog 316 [.str s,.int .u8 c.toNat] (.int .i64 (mB s c)):=by
 refine FO ⟨Tryz.f316,Tryz.func316,by decide⟩ ?_;rintro w S vs ⟨v1,_,rfl,h1,v2,_,rfl,h2,h3⟩;have h1:v1=.string ⟨s.toArray⟩:=h1;have h2:v2=.int .u8 c.toNat:=h2;have h3:_=[]:=h3;subst h1;subst h2;subst h3;refine⟨.int .i64 (mB s c),?_,rfl⟩;have hr:=run_callFunc_extern (P:=Tryz.prog) Tryz.func316 (by kernel_rfl) (by kernel_rfl) (by kernel_rfl) (e:=Extern.BytealgIndexByte.indexByte) (by kernel_rfl) #[.string ⟨s.toArray⟩,.int .u8 c.toNat] w;rw[run_indexByte_string]at hr;have e1:((c.toNat:Int)).toNat.toUInt8=c:=by simp
 rw[e1,Jp]at hr;exact hr

theorem kE{w:World}{S:aO} : ∀ {l:List IV} {blk off j:Nat} {x:IV},aH w S l blk off->l[j]?=some x->∃v,w.cell? ⟨blk,off+j,none⟩=some v/\nJ w S x v
 |[],_,_,_,_,_,h=>by simp at h
 |y::r,blk,off,0,x,⟨_,_,⟨v,h1,h2⟩,_⟩,h=>by
  simp only[List.getElem?_cons_zero,Option.some.injEq]at h;subst h;exact⟨v,h1,h2⟩
 |y::r,blk,off,j+1,x,⟨_,_,_,h3⟩,h=>by
  obtain⟨v,h1,h2⟩:=kE (j:=j) h3 (by simpa using h);exact⟨v,by rw[show off+(j+1)=off+1+j by omega];exact h1,h2⟩
theorem G3:((List.range 256).all fun c=>wQ.getD c 0==(firstT c:Int))=true:=by kernel_rfl
theorem Hf:((List.range 16).all fun i=>Lb.getD (2*i) 0==(accLo i:Int)&&Lb.getD (2*i+1) 0==(accHi i:Int))=true:=by kernel_rfl
theorem zA:wQ.length=256:=by simp[wQ]
theorem Bx:Lb.length=32:=rfl
theorem sS{zs:List Int}{j:Nat}(h:j<zs.length):(zs.map (IV.int .u8 ·))[j]?=some (.int .u8 (zs.getD j 0)):=by
 simp[h]
theorem Vj{w:World}{S:aO}(h:∀p,p∈G->gG w S p):Utf8Tabs 3 4 w:=by
 have h1:=h (3,wQ.map (.int .u8 ·)) (by simp[G]);have h2:=h (4,Lb.map (.int .u8 ·)) (by simp[G]);refine⟨fun c hc=>?_,fun i hi=>⟨?_,?_⟩⟩
 ·obtain⟨v,k1,k2⟩:=kE h1.1 (sS (j:=c) (by rw[zA];exact hc));have k2:v=_:=k2;have ht:=List.all_eq_true.1 G3 c (List.mem_range.2 hc);rw[beq_iff_eq]at ht;rw[k2,ht,Nat.zero_add]at k1;exact k1
 ·obtain⟨v,k1,k2⟩:=kE h2.1 (sS (j:=2*i) (by rw[Bx];omega));have k2:v=_:=k2;have ht:=List.all_eq_true.1 Hf i (List.mem_range.2 hi);rw[Bool.and_eq_true,beq_iff_eq,beq_iff_eq]at ht;rw[k2,ht.1,Nat.zero_add]at k1;exact k1
 ·obtain⟨v,k1,k2⟩:=kE h2.1 (sS (j:=2*i+1) (by rw[Bx];omega));have k2:v=_:=k2;have ht:=List.all_eq_true.1 Hf i (List.mem_range.2 hi);rw[Bool.and_eq_true,beq_iff_eq,beq_iff_eq]at ht;rw[k2,ht.2,Nat.zero_add]at k1;exact k1
theorem EH(s:List UInt8)(hs:s≠[]):Fn G Tryz.prog 210 [.str s] (.tuple [.int .i32 (dec s).1,.int .i64 (dec s).2]):=by
 refine Cs ⟨Tryz.f210,Tryz.func210,by decide⟩ ?_;rintro w S vs hS hgl ⟨v1,_,rfl,h1,h3⟩;have h1:v1=.string ⟨s.toArray⟩:=h1;have h3:_=[]:=h3;subst h1;subst h3;refine dp Tryz.func210 (by decide) ((Tryz.utf8_DecodeRuneInString ⟨s.toArray⟩ w (Vj hgl)).mono ?_);rintro e w' ⟨rfl,hb⟩
 have hd:decodeGo ⟨s.toArray⟩=dec s:=by
  unfold decodeGo dec;rw[if_neg];have:(⟨s.toArray⟩:ByteArray).size=s.length:=by simp[ByteArray.size]
  rw[this];exact fun h=>hs (List.length_eq_zero_iff.1 h)
 rw[hd];exact⟨_,rfl,hb,#[.int .i32 (dec s).1,.int .i64 (dec s).2],rfl,_,_,rfl,rfl,_,_,rfl,rfl,rfl⟩

def ts(l:List (List UInt8)):List (List IV):=l.map fun s=>[.str s]
end Go.Vs.YtcjeehebikeghaaGreatDoor
namespace Go.Vs.YtcjeehebikeghaaGreatDoor
open Go.Proofs
def qX:VCode:=Q_ 2 [.n 0] (Q_ 3 [.Z (z_ [.i])] (.seq (C_ 4 10 [.m 0,.g (.eqN false (tm 4)),.w,.m 0,.g (.mkIface 112 (tm 3)),.g (.callM 56 [tm 7,tm 8]),.u,.O] (Q_ 2 [.n 0] .ret) .skip) (R_ 12 12 [.g (.load none (tm 3)),.a 2] .ret)))
theorem vl:FnOk Tryz.prog 15 qX [.tmp 2] 13:=fK_ Tryz.func15
def vm:VCode:=Q_ 2 [.n 0] (G_ 6 [.m 0,.c1 57,.a 5,.e 5 0,.e 5 1,.M 3 8,.a 4] [4,9] (R_ 10 10 [.m 3,.a 2] .ret))
theorem CK:FnOk Tryz.prog 16 vm [.tmp 2] 11:=fK_ Tryz.func16
def Aq:VCode:=Q_ 4 [.K (.const (.val .nili))] (.seq (C_ 5 5 [.m 0,.E 0] (Q_ 4 [.K (.const (.val .nili))] .ret) .skip) (R_ 7 12 [.m 1,.m 0,.g (.mkIface 54 (tm 8)),.g (.build [.val (.int .i64 0),.val .nili] [(0,1,tm 7),(1,1,tm 9)]),.X 10,.g (.mkIface 156 (tm 11)),.a 4] .ret))
theorem Hg:FnOk Tryz.prog 38 Aq [.tmp 4] 13:=fK_ Tryz.func38
def xV:VCode:=Q_ 2 [.n 0,.n 0] (Q_ 4 [.n 0,.n 0] (.seq (.block 0 (.loop (.seq (C_ 7 7 [.m 0,.g (.eqN true (tm 7))] .skip (.exit 0)) (.block 1 (Q_ 6 [.Z [.val .nilp]] (.seq (C_ 9 15 [.m 0,.g (.mkIface 199 (tm 6)),.g (.callM 56 [tm 9,tm 10]),.u,.w,.g (.load none (tm 6)),.g (.eqP false (tm 14)),.O] (.exit 0) .skip) (.region (D_ [.m 4,.g (.load none (tm 6)),.k,.f 0,.l,.b .add,.m 5,.P 1,.g (.load none (tm 6)),.k,.f 1,.l,.M 4 22,.M 5 24,.a 0] 17) .calm [17,28]))))))) (R_ 29 30 [.m 4,.m 5,.M 2 29,.a 3] .ret)))
theorem EI:FnOk Tryz.prog 57 xV [.tmp 2,.tmp 3] 31:=fK_ Tryz.func57
def G4:VCode:=Q_ 2 [.n 0] (.seq (G_ 5 [.m 0,.g (.rangeS (tm 5))] [5,5] (.block 0 (.loop (Q_ 7 [.g (.nextS (tm 6)),.e 7 0] (.seq (c_ 8 .skip (.exit 0)) (.block 1 (R_ 9 10 [.e 7 1,.e 7 2,.M 3 9,.a 4] (C_ 11 25 [.m 0,.m 3,.m 4,.c3 144,.w,.m 4,.g (.bin .lss (tm 16) (.const (.val (.int .i32 32)))),.z,.m 4,.g (.bin .neq (tm 19) (.const (.val (.int .i32 9)))),.A,.O,.w,.m 4,.g (.bin .eql (tm 24) (.const (.val (.int .i32 127)))),.O] (R_ 27 27 [.m 3,.a 2] .ret) .skip)))))))) (Q_ 2 [.n (-1)] .ret))
theorem Lc:FnOk Tryz.prog 93 G4 [.tmp 2] 28:=fK_ Tryz.func93
def As:VCode:=Q_ 2 [.K (cs [])] (Q_ 3 [.g (.allocB 309)] (.seq (Q_ 4 [.n 0] (.block 0 (.loop (.seq (C_ 6 8 [.m 4,.m 0,.h,.b .lss] .skip (.exit 0)) (.seq (.block 1 (R_ 12 14 [.m 0,.m 4,.y,.a 5] (.seq (C_ 15 19 [.m 5,.g (.bin .leq (cu 97) (tm 15)),.z,.m 5,.U .leq 122,.A] (X_ 21 23 [.m 5,.U .sub 97,.U .add 65,.a 5]) .skip) (X_ 24 25 [.m 5,.g (.callM 207 [tm 3,tm 24])])))) (X_ 10 11 [.m 4,.P 1,.a 4])))))) (R_ 26 26 [.g (.callM 208 [tm 3]),.a 2] .ret)))
theorem Hh:FnOk Tryz.prog 141 As [.tmp 2] 27:=fK_ Tryz.func141
def qZ:VCode:=Q_ 6 [.K (cb false)] (.seq (C_ 9 9 [.m 2,.g (.bin .neq (tm 9) (.const (.val (.int .i32 65533))))] (Q_ 6 [.K (cb false)] .ret) .skip) (G_ 12 [.m 0,.m 1,.g (.subS (tm 12) (some (tm 13)) none),.c1 210,.a 11,.e 11 0,.e 11 1,.M 7 16,.a 8] [7,7,11,17] (R_ 18 19 [.m 8,.E 1,.a 6] .ret)))
theorem EJ:FnOk Tryz.prog 144 qZ [.tmp 6] 20:=fK_ Tryz.func144
def mQ:VCode:=Q_ 4 [.n 0] (R_ 5 7 [.m 0,.m 1,.c2 266,.a 4] .ret)
theorem sU:FnOk Tryz.prog 200 mQ [.tmp 4] 8:=fK_ Tryz.func200
def CL:VCode:=Q_ 4 [.K (.const (.val .nili))] (.seq (C_ 5 5 [.m 0,.g (.eqN false (tm 5))] (Q_ 4 [.K (.const (.val .nili))] .ret) .skip) (R_ 7 11 [.m 1,.m 0,.g (.build [.val (.int .i64 0),.val .nili] [(0,1,tm 7),(1,1,tm 8)]),.X 9,.g (.mkIface 156 (tm 10)),.a 4] .ret))
theorem Jq:FnOk Tryz.prog 220 CL [.tmp 4] 12:=fK_ Tryz.func220
def fC:VCode:=Q_ 4 [.n 0] (R_ 5 7 [.m 0,.m 1,.c2 316,.a 4] .ret)
theorem kk:FnOk Tryz.prog 266 fC [.tmp 4] 8:=fK_ Tryz.func266
abbrev Str:=List UInt8
def upB(c:UInt8):UInt8:=if 97<=c/\c<=122 then c-32 else c
def upper(s:Str):Str:=s.map upB
@[simp] theorem Wa:upper []=[]:=rfl
theorem G6(s:Str):(upper s).length=s.length:=by simp[upper]
theorem Ld{s:Str}{i:Nat}(h:i<s.length):upper (s.take (i+1))=upper (s.take i)++[upB s[i]]:=by
 unfold upper;rw[List.take_succ_eq_append_getElem h,List.map_append];rfl
theorem upB_yes{c:UInt8}(h1:97<=c.toNat)(h2:c.toNat<=122):(upB c).toNat=c.toNat-32:=by
 have a:(97:UInt8)<=c/\c<=122:=⟨by rw[UInt8.le_iff_toNat_le];simpa using h1,by rw[UInt8.le_iff_toNat_le];simpa using h2⟩;rw[upB,if_pos a,UInt8.toNat_sub_of_le]
 ·rfl
 ·rw[UInt8.le_iff_toNat_le];simp;omega
theorem upB_no{c:UInt8}(h:¬(97<=c.toNat/\c.toNat<=122)):upB c=c:=by
 rw[upB,if_neg];rintro⟨a,b⟩;rw[UInt8.le_iff_toNat_le]at a b;exact h ⟨by simpa using a,by simpa using b⟩
theorem Qk(c:UInt8):c.toNat<256:=by have:=c.toNat_lt;simpa using this
theorem zB{i n:Nat}(h:i<n)(hn:n<1000000):IntKind.i64.wrap ((i:Int)+1)=((i+1:Nat):Int):=by rw[IntKind.wrap_i64];omega
theorem CN(s:Str)(hs:s.length<1000000):Fn G Tryz.prog 141 [.str s] (.str (upper s)):=by
 refine ag hm Hh (by simp) ?_;simp[As];refine ce hm [] (fun i:Nat=>[(4,.val (.int .i64 i))]) (fun i=>[(3,.box [.selfN 3 309 false,.ownT 1 i 5]),(1,.arr i 1 (ay (upper (s.take i))))]) (fun i=>i<=s.length) (fun i=>s.length-i) 0 (by omega) ?_ ?_
 ·exact cR.trans (J8 (k:=3) (d:=3) (t:=309) 1 5 (by simp) (by simp) (by simp[aC,ac]) (by simp[ac]) (by simp)) (ap rfl rfl (by simp[St.bld,bp,aC,ac,put,dT,SV.erase]) (by simp[St.bld,ch,ac,put,cC,gN,Ob.erase,SV.erase,ay]) (by simp[St.bld,cg]))
 intro i hi;simp;refine W9 (fun h=>?_) (fun h=>?_)
 ·obtain⟨c,hc⟩:∃c,c=s[i]:=⟨_,rfl⟩;have ht:=Ld h;rw[<-hc]at ht;have hc':s[i]?=some c:=by rw[hc];exact List.getElem?_eq_getElem h
  have hlt:=Qk c;have hwb:=vh i (upper (s.take i)) (upB c) (by rw[G6,List.length_take];omega);simp[hc'];refine W9 (fun h1=>?_) (fun h1=>?_)
  ·simp;refine W9 (fun h2=>?_) (fun h2=>?_)
   ·have hw:IntKind.u8.wrap (IntKind.u8.wrap ((c.toNat:Int)-97)+65)=((upB c).toNat:Int):=by
     rw[upB_yes (by omega) (by omega),wrap_u8 (x:=(c.toNat:Int)-97) (by omega) (by omega),wrap_u8 (by omega) (by omega)];omega
    simp[hw];refine callM [(1000,3),(1001,1)] [] hwb rfl rfl ⟨rfl,rfl,trivial⟩ ⟨rfl,_,_,rfl,rfl,rfl⟩ rfl ?_;simp[gj,zB h hs];refine au (i+1) (by omega) (by omega) ?_;simp[ht];exact bQ
   ·have hw:=upB_no (c:=c) (by omega);rw[hw]at hwb ht;simp;refine callM [(1000,3),(1001,1)] [] hwb rfl rfl ⟨rfl,rfl,trivial⟩ ⟨rfl,_,_,rfl,rfl,rfl⟩ rfl ?_;simp[gj,zB h hs];refine au (i+1) (by omega) (by omega) ?_;simp[ht];exact bQ
  ·have hw:=upB_no (c:=c) (by omega);rw[hw]at hwb ht;simp;refine callM [(1000,3),(1001,1)] [] hwb rfl rfl ⟨rfl,rfl,trivial⟩ ⟨rfl,_,_,rfl,rfl,rfl⟩ rfl ?_;simp[gj,zB h hs];refine au (i+1) (by omega) (by omega) ?_;simp[ht];exact bQ
 ·obtain rfl:i=s.length:=by omega
  simp;refine callM [(1000,3),(1001,1)] [] (wR s.length (upper s) (by rw[G6];omega)) rfl rfl (by simp[uY,gj,Vs.ren,ac,Ob.ren,SV.ren]) ⟨rfl,rfl⟩ rfl ?_;simp
theorem rb(l:Str):lU (ay l)=some l:=by
 induction l with
 |nil=>rfl
 |cons c r ih=>
  simp only[ay,List.map_cons,lU]at ih |-;rw[ih];simp
/-! faults -/
theorem fd(e a:Int):Fn G Tryz.prog 38 [.int .i64 e,.int .i64 a] (if e=0 then .nili else cS e [a]):=by
 refine ag hm Hg (by simp) ?_;simp[Aq];refine W9 (fun h=>?_) (fun h=>?_)
 ·simp[h]
 ·simp[h,cS]
theorem dg(n:Int)(ps:List Int):∃t v,cS n ps=.iface t v:=by
 cases ps with
 |nil=>exact⟨_,_,rfl⟩
 |cons p r=>exact⟨_,_,rfl⟩
theorem Un(n:Int)(ps:List Int)(a:Int):Fn G Tryz.prog 220 [cS n ps,.int .i64 a] (cS n (a::ps)):=by
 refine ag hm Jq (by simp) ?_;obtain⟨t,v,h⟩:=dg n ps;simp only[cS,h];simp[CL]
theorem Av:Fn G Tryz.prog 15 [.nili] (.int .i64 0):=by
 refine ag hm vl (by simp) ?_;simp[qX]
theorem uE(n:Int)(ps:List Int):Fn G Tryz.prog 15 [cS n ps] (.int .i64 n):=by
 refine ag hm vl (by simp) ?_;have hA:=CG n 0 ps;obtain⟨t,v,h⟩:=dg n ps;rw[h]at hA |-;simp[qX];refine callM [(1000,3)] [] hA rfl rfl ⟨rfl,trivial⟩ ⟨[],[],rfl,⟨rfl,rfl⟩,rfl⟩ rfl ?_;simp
end Go.Vs.YtcjeehebikeghaaGreatDoor
