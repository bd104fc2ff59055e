/-
  DERIVED: THE SHELF's CONTRACTS AT THIS DUMP, IN PLAIN WORDS (tools/lay-plain.mjs out of 'TryzShelf.lean', which tools/lay-shelf.mjs rP): THE SAME DECLARATIONS UNDER THE SAME NAMES: 'import', 'namespace', 'open', 'def', 'theorem' AND NOTHING ELSE: no command of the shelf's: FOR A HAND-IN. Each laying: the table of numbers ('.._ren') and one theorem, a field a fact of the dump's own or the kernel's comparison; each contract: ONE APPLICATION.
-/
import Derived.Shelf.Strings.Builder1
import Derived.Shelf.Strings.OnBuilder
import Derived.Shelf.LaysM
import Derived.Shelf.Strconv.Itoa3
import Derived.Shelf.Unicode.DecodeSlow
import Derived.Shelf.Unicode.DecodeAny
import Derived.Test.YtcjeehebikeghaaGreatDoorProg
import GoSem.Core.Utf8
import Derived.Test.YtcjeehebikeghaaGreatDoorBG
import Derived.Laws.Externs
set_option linter.unusedVariables false
set_option linter.unusedSimpArgs false
set_option maxRecDepth 100000
set_option maxHeartbeats 4000000
namespace Go.Proofs
open Go.Shelf
def Tryz.lays197_ren:Go.Shelf.Ren:=⟨fun|197=>210|260=>274|n=>n,fun|9=>9|21=>21|3=>3|4=>4|5=>5|105=>313|119=>407|0=>0|46=>395|139=>410|138=>409|n=>n,fun|3=>3|4=>4|n=>n⟩
theorem Tryz.lays197:Go.Proofs.Lays.n197 Tryz.prog Tryz.lays197_ren:={
 mixed:=by kernel_rfl
 f197:=Tryz.func210.trans (congrArg some (by kernel_rfl))
 f260:=Tryz.func274.trans (congrArg some (by kernel_rfl))
 t0:=Tryz.underlying0
 a0:=Tryz.isAgg0
 z0:=Tryz.sizeOf0
 v0:=Tryz.zeroValue0
 t3:=Tryz.underlying3
 a3:=Tryz.isAgg3
 z3:=Tryz.sizeOf3
 v3:=Tryz.zeroValue3
 t4:=Tryz.underlying4
 a4:=Tryz.isAgg4
 z4:=Tryz.sizeOf4
 v4:=Tryz.zeroValue4
 t5:=Tryz.underlying5
 a5:=Tryz.isAgg5
 z5:=Tryz.sizeOf5
 v5:=Tryz.zeroValue5
 t9:=Tryz.underlying9
 a9:=Tryz.isAgg9
 z9:=Tryz.sizeOf9
 v9:=Tryz.zeroValue9
 t21:=Tryz.underlying21
 a21:=Tryz.isAgg21
 z21:=Tryz.sizeOf21
 v21:=Tryz.zeroValue21
 t46:=Tryz.underlying395
 a46:=Tryz.isAgg395
 z46:=Tryz.sizeOf395
 v46:=Tryz.zeroValue395
 t105:=Tryz.underlying313
 a105:=Tryz.isAgg313
 z105:=Tryz.sizeOf313
 v105:=Tryz.zeroValue313
 t119:=Tryz.underlying407
 a119:=Tryz.isAgg407
 z119:=Tryz.sizeOf407
 t138:=Tryz.underlying409
 a138:=Tryz.isAgg409
 z138:=Tryz.sizeOf409
 v138:=Tryz.zeroValue409
 t139:=Tryz.underlying410
 a139:=Tryz.isAgg410
 z139:=Tryz.sizeOf410
 v139:=Tryz.zeroValue410
 g3:=by kernel_rfl
 g4:=by kernel_rfl }
open Go.RowKit Go.Lib in
theorem Tryz.utf8_DecodeRuneInString(s:ByteArray)(w:World)(hT:Lib.Utf8Tabs 3 4 w) :
  Calls Tryz.prog 210 #[.string s] w fun e w'=>e=.returned (.tuple #[.int .i32 (Lib.decodeGo s).1,.int .i64 (Lib.decodeGo s).2])∧Below w.heap.size w w':=Any.utf8_DecodeRuneInString Tryz.lays197 s w hT
end Go.Proofs
namespace Go.Vs.U8
open Go
abbrev Str:=List UInt8
def tl(l:Str)(k lo hi:Nat):Bool:=match l[k]? with
 |some b=>decide (lo≤b.toNat)&&decide (b.toNat≤hi)
 |none=>false
def UI(n:Nat):Nat:=if n=224 then 160 else if n=240 then 144 else 128
def Nr(n:Nat):Nat:=if n=237 then 159 else if n=244 then 143 else 191
def fc:Str→Nat
 |[]=>0
 |c::r=>
  if c.toNat<128 then 1
  else if (decide (194≤c.toNat)&&decide (c.toNat≤223)&&tl r 0 128 191)=true then 2
  else if (decide (224≤c.toNat)&&decide (c.toNat≤239)&&tl r 0 (UI c.toNat) (Nr c.toNat)&&tl r 1 128 191)=true then 3
  else if (decide (240≤c.toNat)&&decide (c.toNat≤244)&&tl r 0 (UI c.toNat) (Nr c.toNat)&&tl r 1 128 191&&tl r 2 128 191)=true then 4
  else 0
theorem Xv{l:Str}{k lo hi:Nat}(h:tl l k lo hi=true):∃b,l[k]?=some b∧lo≤b.toNat∧b.toNat≤hi:=by
 unfold tl at h;split at h
 ·next b hb=>simp at h;exact⟨b,hb,h.1,h.2⟩
 ·simp at h
theorem Fh{l:Str}{k lo hi:Nat}(h:tl l k lo hi=true):k<l.length:=by
 obtain⟨b,hb,_⟩:=Xv h;exact(List.getElem?_eq_some_iff.1 hb).1
theorem Ns(l:Str):fc l≤l.length:=by
 cases l with
 |nil=>simp[fc]
 |cons c r=>
  simp only[fc,List.length_cons];split
  ·omega
  ·split
   ·next h=>simp only[Bool.and_eq_true]at h;have:=Fh h.2;omega
   ·split
    ·next h=>simp only[Bool.and_eq_true]at h;have:=Fh h.2;omega
    ·split
     ·next h=>simp only[Bool.and_eq_true]at h;have:=Fh h.2;omega
     ·omega
def nH(l:Str):Bool:=match l with
 |[]=>false
 |c::_=>fc l==0||(decide (c.toNat<32)&&!decide (c.toNat=9))||decide (c.toNat=127)
def Se:Nat→Str→Option Nat
 |0,_=>none
 |f+1,l=>match l with
  |[]=>none
  |_::_=>if nH l then some 0 else (Se f (l.drop (fc l))).map (· + fc l)
theorem yM{l:Str}(h:nH l=false)(hne:l≠[]):1≤fc l:=by
 cases l with
 |nil=>exact absurd rfl hne
 |cons c r=>simp only[nH,Bool.or_eq_false_iff,beq_eq_false_iff_ne]at h;omega
theorem JG:∀(f g:Nat) (l:Str),l.length≤f→l.length≤g→Se f l=Se g l
 |0,0,_,_,_=>rfl
 |0,g+1,l,h,_=>by obtain rfl:l=[]:=List.length_eq_zero_iff.1 (by omega);rfl
 |f+1,0,l,_,h=>by obtain rfl:l=[]:=List.length_eq_zero_iff.1 (by omega);rfl
 |f+1,g+1,l,hf,hg=>by
  cases l with
  |nil=>rfl
  |cons c r=>
   simp only[Se];split
   ·rfl
   ·next h=>
    have h1:=yM (by simpa using h) (by simp);rw[JG f g _ (by rw[List.length_drop];omega) (by rw[List.length_drop];omega)]
def BQ(l:Str):Option Nat:=Se l.length l
@[simp] theorem abL:BQ []=none:=rfl
theorem zZ{l:Str}(hne:l≠[]):BQ l=if nH l then some 0 else (BQ (l.drop (fc l))).map (· + fc l):=by
 cases l with
 |nil=>exact absurd rfl hne
 |cons c r=>
  unfold BQ;simp only[List.length_cons,Se];split
  ·rfl
  ·next h=>
   have h1:=yM (by simpa using h) (by simp);rw[JG r.length ((c::r).drop (fc (c::r))).length _ (by rw[List.length_drop];simp;omega) (Nat.le_refl _)]
theorem ZX{s:Str}{i:Nat}(hi:i<s.length)(h:BQ s=(BQ (s.drop i)).map (· + i)):BQ s=if nH (s.drop i)then some i else (BQ (s.drop (i+fc (s.drop i)))).map (· + (i+fc (s.drop i))):=by
 rw[h,zZ (by intro e;have:=congrArg List.length e;simp at this;omega)];split
 ·simp
 ·rw[List.drop_drop];cases BQ (s.drop (i+fc (s.drop i)))with
  |none=>rfl
  |some k=>simp;omega
def Nt(o:Option Nat):Int:=match o with
 |some k=>k
 |none=>-1
def dec(l:Str):Nat×Nat:=Utf8.decode ⟨l.toArray⟩ 0
theorem get_drop(s:Str)(p k:Nat):(⟨(s.drop p).toArray⟩:ByteArray).get! (0+k)=(⟨s.toArray⟩:ByteArray).get! (p+k):=by
 show(s.drop p).toArray[0+k]! = s.toArray[p+k]!;simp[List.getElem?_drop,getElem!_def]
theorem Nv(s:Str)(p:Nat)(hp:p≤s.length):Utf8.decode ⟨s.toArray⟩ p=dec (s.drop p):=by
 unfold dec Utf8.decode
 have hsz:∀k,(decide (0+k<(⟨(s.drop p).toArray⟩:ByteArray).size))=decide (p+k<(⟨s.toArray⟩:ByteArray).size):=by
  intro k;simp only[ByteArray.size,List.size_toArray,List.length_drop];congr 1;apply propext;omega
 simp only[get_drop,hsz]
def Mj(l:Str)(k:Nat):Nat:=match l[k]? with
 |some b=>b.toNat
 |none=>0
theorem ZY(l:Str)(k:Nat):((⟨l.toArray⟩:ByteArray).get! k).toNat=Mj l k:=by
 show(l.toArray[k]!).toNat=_;unfold Mj;simp only[getElem!_def,List.getElem?_toArray];cases l[k]?<;>rfl
theorem UJ(l:Str)(k:Nat):Mj l k<256:=by
 unfold Mj;split
 ·next b _=>exact b.toNat_lt
 ·omega
theorem Qv(l:Str)(k lo hi:Nat)(hlo:0<lo):tl l k lo hi=(decide (k<l.length)&&decide (lo≤Mj l k)&&decide (Mj l k≤hi)):=by
 unfold tl Mj;cases h:l[k]? with
 |none=>
  have:¬k<l.length:=by rw[List.getElem?_eq_none_iff]at h;omega
  simp[this]
 |some b=>
  have:k<l.length:=(List.getElem?_eq_some_iff.1 h).1;simp[this]
theorem Sf(x0 x1 x2 x3 n:Nat)(b1:x1<256)(b2:x2<256)(b3:x3<256)(b0:x0<256)(D:Nat×Nat)(S:Nat)
  (hD:D=if x0<128 then (x0,1)else if x0/32=6∧1<n+1∧x1/64=2 then if 128≤x0%32*64+x1%64 then (x0%32*64+x1%64,2)else (65533,1)
    else if (x0/16=14∧1<n+1∧x1/64=2)∧2<n+1∧x2/64=2 then
     if 2048≤x0%16*4096+x1%64*64+x2%64∧(0≤((x0%16*4096+x1%64*64+x2%64:Nat):Int)∧((x0%16*4096+x1%64*64+x2%64:Nat):Int)<55296∨57344≤((x0%16*4096+x1%64*64+x2%64:Nat):Int)∧((x0%16*4096+x1%64*64+x2%64:Nat):Int)≤1114111)then (x0%16*4096+x1%64*64+x2%64,3)else (65533,1)
    else if ((x0/8=30∧1<n+1∧x1/64=2)∧2<n+1∧x2/64=2)∧3<n+1∧x3/64=2 then
     if 65536≤x0%8*262144+x1%64*4096+x2%64*64+x3%64∧(0≤((x0%8*262144+x1%64*4096+x2%64*64+x3%64:Nat):Int)∧((x0%8*262144+x1%64*4096+x2%64*64+x3%64:Nat):Int)<55296∨57344≤((x0%8*262144+x1%64*4096+x2%64*64+x3%64:Nat):Int)∧((x0%8*262144+x1%64*4096+x2%64*64+x3%64:Nat):Int)≤1114111)then (x0%8*262144+x1%64*4096+x2%64*64+x3%64,4)else (65533,1)
    else (65533,1))
  (lo hi:Nat) (hlo:lo=UI x0) (hhi:hi=Nr x0)
  (hS:S=if x0<128 then 1 else if (194≤x0∧x0≤223)∧(0<n∧128≤x1)∧x1≤191 then 2
    else if ((224≤x0∧x0≤239)∧(0<n∧lo≤x1)∧x1≤hi)∧(1<n∧128≤x2)∧x2≤191 then 3
    else if (((240≤x0∧x0≤244)∧(0<n∧lo≤x1)∧x1≤hi)∧(1<n∧128≤x2)∧x2≤191)∧(2<n∧128≤x3)∧x3≤191 then 4 else 0) :
  (x0<128∧D=(x0,1)∧S=1)∨(¬x0<128∧S=0∧D=(65533,1))∨(¬x0<128∧2≤S∧128≤D.1∧D.2=S):=by
 have hlo':(x0=224∧lo=160)∨(x0=240∧lo=144)∨(x0≠224∧x0≠240∧lo=128):=by
  rw[hlo];unfold UI;split
  ·next h=>exact .inl ⟨h,rfl⟩
  ·split
   ·next h=>exact .inr (.inl ⟨h,rfl⟩)
   ·next h1 h2=>exact .inr (.inr ⟨h1,h2,rfl⟩)
 have hhi':(x0=237∧hi=159)∨(x0=244∧hi=143)∨(x0≠237∧x0≠244∧hi=191):=by
  rw[hhi];unfold Nr;split
  ·next h=>exact .inl ⟨h,rfl⟩
  ·split
   ·next h=>exact .inr (.inl ⟨h,rfl⟩)
   ·next h1 h2=>exact .inr (.inr ⟨h1,h2,rfl⟩)
 clear hlo hhi;by_cases h0:x0<128
 ·rw[if_pos h0]at hD hS;exact .inl ⟨h0,hD,hS⟩
 right;rw[if_neg h0]at hD hS;by_cases s2:(194≤x0∧x0≤223)∧(0<n∧128≤x1)∧x1≤191
 ·right;rw[if_pos s2]at hS;rw[if_pos (by omega),if_pos (by omega)]at hD;subst hD;subst hS;exact⟨h0,by omega,by show 128≤x0%32*64+x1%64;omega,rfl⟩
 rw[if_neg s2]at hS;by_cases s3:((224≤x0∧x0≤239)∧(0<n∧lo≤x1)∧x1≤hi)∧(1<n∧128≤x2)∧x2≤191
 ·right;rw[if_pos s3]at hS;rw[if_neg (by omega),if_pos (by omega),if_pos (by omega)]at hD;subst hD;subst hS;exact⟨h0,by omega,by show 128≤x0%16*4096+x1%64*64+x2%64;omega,rfl⟩
 rw[if_neg s3]at hS;by_cases s4:(((240≤x0∧x0≤244)∧(0<n∧lo≤x1)∧x1≤hi)∧(1<n∧128≤x2)∧x2≤191)∧(2<n∧128≤x3)∧x3≤191
 ·right;rw[if_pos s4]at hS;rw[if_neg (by omega),if_neg (by omega),if_pos (by omega),if_pos (by omega)]at hD;subst hD;subst hS;exact⟨h0,by omega,by show 128≤x0%8*262144+x1%64*4096+x2%64*64+x3%64;omega,rfl⟩
 rw[if_neg s4]at hS;left;refine⟨h0,hS,?_⟩;rw[hD];split
 ·rw[if_neg (by omega)]
 ·split
  ·rw[if_neg (by omega)]
  ·split
   ·rw[if_neg (by omega)]
   ·rfl
theorem Sg(c:UInt8)(r:Str):(c.toNat<128∧dec (c::r)=(c.toNat,1)∧fc (c::r)=1)∨(¬c.toNat<128∧fc (c::r)=0∧dec (c::r)=(65533,1))∨(¬c.toNat<128∧2≤fc (c::r)∧128≤(dec (c::r)).1∧(dec (c::r)).2=fc (c::r)):=by
 refine Sf c.toNat (Mj r 0) (Mj r 1) (Mj r 2) r.length (UJ _ _) (UJ _ _) (UJ _ _) c.toNat_lt _ _ ?_ _ _ rfl rfl ?_
 ·have hd:dec (c::r)=Utf8.decode ⟨(c::r).toArray⟩ 0:=rfl;unfold Utf8.decode at hd;simp only[Nat.zero_add,ZY,ByteArray.size,List.size_toArray,List.length_cons]at hd;rw[show Mj (c::r) 0=c.toNat from rfl,show Mj (c::r) 1=Mj r 0 from rfl,show Mj (c::r) 2=Mj r 1 from rfl,show Mj (c::r) 3=Mj r 2 from rfl]at hd;rw[hd];simp only[Utf8.valid,Utf8.runeError,Bool.and_eq_true,Bool.or_eq_true,decide_eq_true_eq,beq_iff_eq,ge_iff_le]
 ·have hl:0<UI c.toNat:=by
   unfold UI;split
   ·omega
   ·split<;>omega
  simp only[fc,Qv r 0 128 191 (by omega),Qv r 1 128 191 (by omega),Qv r 2 128 191 (by omega),Qv r 0 (UI c.toNat) (Nr c.toNat) hl,Bool.and_eq_true,decide_eq_true_eq]
end Go.Vs.U8
namespace Go.Vs.YtcjeehebikeghaaGreatDoor
open Go.Proofs Go.Proofs.YtcjeehebikeghaaGreatDoor Go.RowKit Go.Lib Go.Vs.U8
def nW(s:List UInt8)(c:UInt8):Int:=match s.findIdx? (· == c)with
 |some i=>i
 |none=>-1
theorem pz(s:List UInt8)(c:UInt8):(nW s c = -1∧c∉s)∨∃i,nW s c=(i:Nat)∧s[i]?=some c∧c∉s.take i:=by
 unfold nW;cases h:s.findIdx? (· == c)with
 |none=>
  left;rw[List.findIdx?_eq_none_iff]at h;exact⟨rfl,fun hc=>by have:=h c hc;simp at this⟩
 |some i=>
  right;rw[List.findIdx?_eq_some_iff_getElem]at h;obtain⟨h1,h2,h3⟩:=h;refine⟨i,rfl,?_,?_⟩
  ·rw[List.getElem?_eq_getElem h1];simpa using h2
  ·intro hc;obtain⟨j,hj,he⟩:=List.mem_iff_getElem.1 hc;rw[List.length_take]at hj;rw[List.getElem_take]at he;have:=h3 j (by omega);simp[he]at this
theorem KR{s:List UInt8}{c:UInt8}{i:Nat}(h1:s[i]?=some c)(h2:c∉s.take i):nW s c=i:=by
 rcases pz s c with⟨_,h⟩|⟨j,h,k1,k2⟩
 ·exact absurd (List.mem_of_getElem? h1) h
 ·rw[h];have a:¬i<j:=fun hl=>k2 (by rw[List.mem_take_iff_getElem];obtain⟨hi,e⟩:=List.getElem?_eq_some_iff.1 h1;exact⟨i,by omega,e⟩)
  have b:¬j<i:=fun hl=>h2 (by rw[List.mem_take_iff_getElem];obtain⟨hi,e⟩:=List.getElem?_eq_some_iff.1 k1;exact⟨j,by omega,e⟩)
  omega
theorem Si{s:List UInt8}{c:UInt8}(h:c∉s):nW s c = -1:=by
 rcases pz s c with⟨h1,_⟩|⟨j,_,k1,_⟩
 ·exact h1
 ·exact absurd (List.mem_of_getElem? k1) h
theorem Fi(s:List UInt8)(c:UInt8):nW s c<0↔c∉s:=by
 rcases pz s c with⟨h1,h⟩|⟨j,h,k1,_⟩
 ·rw[h1];exact⟨fun _=>h,fun _=>by omega⟩
 ·rw[h];exact⟨fun h=>by omega,fun h=>absurd (List.mem_of_getElem? k1) h⟩
theorem Nw(s:List UInt8)(c:UInt8):firstIdx ⟨s.toArray⟩ c=nW s c:=by
 unfold firstIdx;have hsz:(⟨s.toArray⟩:ByteArray).size=s.length:=by simp[ByteArray.size]
 have hget:∀i,i<s.length→(⟨s.toArray⟩:ByteArray)[i]! = s[i]?.getD 0:=by
  intro i hi;have h1:i<(⟨s.toArray⟩:ByteArray).size:=by rw[hsz];exact hi
  rw[getElem!_pos (⟨s.toArray⟩:ByteArray) i h1];show s.toArray[i]=_;simp[hi]
 rw[hsz];cases hf:(List.range s.length).find? fun i=>(⟨s.toArray⟩:ByteArray)[i]! == c with
 |none=>
  rw[List.find?_eq_none]at hf;refine(Si fun hc=>?_).symm;obtain⟨j,hj,he⟩:=List.mem_iff_getElem.1 hc;have:=hf j (List.mem_range.2 hj);rw[hget j hj,List.getElem?_eq_getElem hj]at this;simp[he]at this
 |some i=>
  obtain⟨h1,xs,ys,h2,h3⟩:=List.find?_eq_some_iff_append.1 hf;have hi:i<s.length:=List.mem_range.1 (by rw[h2];simp)
  have has:∀j,j<i→j∈xs:=by
   intro j hj;have e1:(List.range s.length)[xs.length]?=some i:=by rw[h2];simp
   have hlen:xs.length<s.length:=by
    have:=congrArg List.length h2;simp at this;omega
   rw[List.getElem?_range hlen]at e1;have e2:xs.length=i:=Option.some.inj e1;have e3:(List.range s.length)[j]?=xs[j]?:=by rw[h2,List.getElem?_append_left (by omega)]
   rw[List.getElem?_range (by omega)]at e3;exact List.mem_of_getElem? e3.symm
  rw[hget i hi]at h1;refine(KR ?_ ?_).symm
  ·rw[List.getElem?_eq_getElem hi]at h1 ⊢;simpa using h1
  ·intro hc;obtain⟨j,hj,he⟩:=List.mem_iff_getElem.1 hc;rw[List.length_take]at hj;rw[List.getElem_take]at he;have:=h3 j (has j (by omega));rw[hget j (by omega),List.getElem?_eq_getElem (by omega)]at this;simp[he]at this
theorem yN(s:List UInt8)(c:UInt8):Fn G Tryz.prog fp [.str s,.int .u8 c.toNat] (.int .i64 (nW s c)):=by
 refine Jt ⟨Tryz.f316,Tryz.func316,by decide⟩ ?_;rintro w S vs ⟨v1,_,rfl,h1,v2,_,rfl,h2,h3⟩;have h1:v1=.string ⟨s.toArray⟩:=h1;have h2:v2=.int .u8 c.toNat:=h2;have h3:_=[]:=h3;subst h1;subst h2;subst h3;refine⟨.int .i64 (nW s c),?_,rfl⟩;have hr:=run_callFunc_extern (P:=Tryz.prog) Tryz.func316 (by kernel_rfl) (by kernel_rfl) (by kernel_rfl) (e:=Extern.BytealgIndexByte.indexByte) (by kernel_rfl) #[.string ⟨s.toArray⟩,.int .u8 c.toNat] w;rw[run_indexByte_string]at hr;have e1:((c.toNat:Int)).toNat.toUInt8=c:=by simp
 rw[e1,Nw]at hr;exact hr

theorem lO{w:World}{S:aK} : ∀ {l:List IV} {blk off j:Nat} {x:IV},aJ w S l blk off→l[j]?=some x→∃v,w.cell? ⟨blk,off+j,none⟩=some v∧od w S x v
 |[],_,_,_,_,_,h=>by simp at h
 |y::r,blk,off,0,x,⟨_,_,⟨v,h1,h2⟩,_⟩,h=>by
  simp only[List.getElem?_cons_zero,Option.some.injEq]at h;subst h;exact⟨v,h1,h2⟩
 |y::r,blk,off,j+1,x,⟨_,_,_,h3⟩,h=>by
  obtain⟨v,h1,h2⟩:=lO (j:=j) h3 (by simpa using h);exact⟨v,by rw[show off+(j+1)=off+1+j by omega];exact h1,h2⟩
theorem JH:((List.range 256).all fun c=>yK.getD c 0==(firstT c:Int))=true:=by kernel_rfl
theorem KS:((List.range 16).all fun i=>Pv.getD (2*i) 0==(accLo i:Int)&&Pv.getD (2*i+1) 0==(accHi i:Int))=true:=by kernel_rfl
theorem BR:yK.length=256:=by simp[yK]
theorem DX:Pv.length=32:=rfl
theorem uV{zs:List Int}{j:Nat}(h:j<zs.length):(zs.map (IV.int .u8 ·))[j]?=some (.int .u8 (zs.getD j 0)):=by
 simp[h]
theorem ZZ{w:World}{S:aK}(h:∀p,p∈G→io w S p):Utf8Tabs 3 4 w:=by
 have h1:=h (3,yK.map (.int .u8 ·)) (by simp[G]);have h2:=h (4,Pv.map (.int .u8 ·)) (by simp[G]);refine⟨fun c hc=>?_,fun i hi=>⟨?_,?_⟩⟩
 ·obtain⟨v,k1,k2⟩:=lO h1.1 (uV (j:=c) (by rw[BR];exact hc));have k2:v=_:=k2;have ht:=List.all_eq_true.1 JH c (List.mem_range.2 hc);rw[beq_iff_eq]at ht;rw[k2,ht,Nat.zero_add]at k1;exact k1
 ·obtain⟨v,k1,k2⟩:=lO h2.1 (uV (j:=2*i) (by rw[DX];omega));have k2:v=_:=k2;have ht:=List.all_eq_true.1 KS i (List.mem_range.2 hi);rw[Bool.and_eq_true,beq_iff_eq,beq_iff_eq]at ht;rw[k2,ht.1,Nat.zero_add]at k1;exact k1
 ·obtain⟨v,k1,k2⟩:=lO h2.1 (uV (j:=2*i+1) (by rw[DX];omega));have k2:v=_:=k2;have ht:=List.all_eq_true.1 KS i (List.mem_range.2 hi);rw[Bool.and_eq_true,beq_iff_eq,beq_iff_eq]at ht;rw[k2,ht.2,Nat.zero_add]at k1;exact k1
theorem HA(s:List UInt8)(hs:s≠[]):Fn G Tryz.prog fN [.str s] (.tuple [.int .i32 (dec s).1,.int .i64 (dec s).2]):=by
 refine F1 ⟨Tryz.f210,Tryz.func210,by decide⟩ ?_;rintro w S vs hS hgl ⟨v1,_,rfl,h1,h3⟩;have h1:v1=.string ⟨s.toArray⟩:=h1;have h3:_=[]:=h3;subst h1;subst h3;refine dI Tryz.func210 (by decide) ((Tryz.utf8_DecodeRuneInString ⟨s.toArray⟩ w (ZZ hgl)).mono ?_);rintro e w' ⟨rfl,hb⟩
 have hd:decodeGo ⟨s.toArray⟩=dec s:=by
  unfold decodeGo dec;rw[if_neg];have:(⟨s.toArray⟩:ByteArray).size=s.length:=by simp[ByteArray.size]
  rw[this];exact fun h=>hs (List.length_eq_zero_iff.1 h)
 rw[hd];exact⟨_,rfl,hb,#[.int .i32 (dec s).1,.int .i64 (dec s).2],rfl,_,_,rfl,rfl,_,_,rfl,rfl,rfl⟩

def ts(l:List (List UInt8)):List (List IV):=l.map fun s=>[.str s]
end Go.Vs.YtcjeehebikeghaaGreatDoor
namespace Go.Vs.YtcjeehebikeghaaGreatDoor
open Go.Proofs
def iG:Nat:=15
def qZ:Nat:=16
def bH:Nat:=38
def sP:Nat:=57
def wI:Nat:=93
def nI:Nat:=141
def sQ:Nat:=144
def gL:Nat:=200
def yO:Nat:=220
def bX:Nat:=266
def sR:VCode:=
 r_ [j_ 2 0] [] (r_ [o1 3 (.alloc [.val (.int (.i64) 0)])] [] (.seq (r_ [m_ 4 0,o1 5 (.eqN false (tm 4)),m_ 6 5,M_ 7 0 6 false,o2 8 (.mkIface 112 (tm 3)) 6 false,o2 9 (.callM lg [tm 7,tm 8]) 6 false,o2 10 (.un (.not) (tm 9)) 6 false,q_ 11 6 10] [4,10] (c_ 11 (r_ [j_ 2 0] [] (.ret)) (.skip))) (r_ [l_ 12 3,m_ 2 12] [12,12] (.ret))))
def sS:List VRes:=[.tmp 2]
theorem xl:FnOk Tryz.prog iG sR sS 13:=
 ⟨⟨Tryz.f15,_,Tryz.func15,by decide,rfl,by kernel_rfl,by kernel_rfl,by kernel_rfl,rfl⟩⟩

def xm:VCode:=
 r_ [j_ 2 0] [] (r_ [m_ 6 0,o1 7 (.call sP [tm 6]),m_ 5 7,e_ 8 5 0,e_ 9 5 1,m_ 3 8,m_ 4 9] [4,9] (r_ [m_ 10 3,m_ 2 10] [10,10] (.ret)))
def xn:List VRes:=[.tmp 2]
theorem Fj:FnOk Tryz.prog qZ xm xn 11:=
 ⟨⟨Tryz.f16,_,Tryz.func16,by decide,rfl,by kernel_rfl,by kernel_rfl,by kernel_rfl,rfl⟩⟩

def CL:VCode:=
 r_ [o1 4 (.move (.const (.val (.nili))))] [] (.seq (r_ [m_ 5 0,i_ 6 .eql 5 0] [5,5] (c_ 6 (r_ [o1 4 (.move (.const (.val (.nili))))] [] (.ret)) (.skip))) (r_ [m_ 7 1,m_ 8 0,o1 9 (.mkIface 54 (tm 8)),o1 10 (.build [.val (.int (.i64) 0),.val (.nili)] [(0,1,tm 7),(1,1,tm 9)]),o1 11 (.box (tm 10)),o1 12 (.mkIface 156 (tm 11)),m_ 4 12] [7,12] (.ret)))
def CM:List VRes:=[.tmp 4]
theorem KT:FnOk Tryz.prog bH CL CM 13:=
 ⟨⟨Tryz.f38,_,Tryz.func38,by decide,rfl,by kernel_rfl,by kernel_rfl,by kernel_rfl,rfl⟩⟩

def A1:VCode:=
 r_ [j_ 2 0,j_ 3 0] [] (r_ [j_ 4 0,j_ 5 0] [] (.seq (.block 0 (.loop (.seq (r_ [m_ 7 0,o1 8 (.eqN true (tm 7))] [7,7] (c_ 8 (.skip) (.exit 0))) (.block 1 (r_ [o1 6 (.alloc [.val (.nilp)])] [] (.seq (r_ [m_ 9 0,o1 10 (.mkIface 199 (tm 6)),o1 11 (.callM lg [tm 9,tm 10]),u_ 12 11,m_ 13 12,L_ 14 6 13 false,o2 15 (.eqP false (tm 14)) 13 false,q_ 16 13 15] [9,15] (c_ 16 (.exit 0) (.skip))) (.region [m_ 17 4,l_ 18 6,n_ 19 18,f_ 20 0 19,l_ 21 20,b_ 22 .add 17 21,m_ 23 5,i_ 24 .add 23 1,l_ 25 6,n_ 26 25,f_ 27 1 26,l_ 28 27,m_ 4 22,m_ 5 24,m_ 0 28] (.calm) [17,28]))))))) (r_ [m_ 29 4,m_ 30 5,m_ 2 29,m_ 3 30] [29,30] (.ret))))
def A2:List VRes:=[.tmp 2,.tmp 3]
theorem HB:FnOk Tryz.prog sP A1 A2 31:=
 ⟨⟨Tryz.f57,_,Tryz.func57,by decide,rfl,by kernel_rfl,by kernel_rfl,by kernel_rfl,rfl⟩⟩

def JI:VCode:=
 r_ [j_ 2 0] [] (.seq (r_ [m_ 5 0,o1 6 (.rangeS (tm 5))] [5,5] (.block 0 (.loop (r_ [o1 7 (.nextS (tm 6)),e_ 8 7 0] [] (.seq (c_ 8 (.skip) (.exit 0)) (.block 1 (r_ [e_ 9 7 1,e_ 10 7 2,m_ 3 9,m_ 4 10] [9,10] (r_ [m_ 11 0,m_ 12 3,m_ 13 4,o1 14 (.call sQ [tm 11,tm 12,tm 13]),m_ 15 14,M_ 16 4 15 false,o2 17 (.bin (.lss) (tm 16) (.const (.val (.int (.i32) 32)))) 15 false,M_ 18 17 15 false,M_ 19 4 18 true,o2 20 (.bin (.neq) (tm 19) (.const (.val (.int (.i32) 9)))) 18 true,o2 21 (.pick (tm 18) (tm 20) (cb false)) 15 false,q_ 22 15 21,m_ 23 22,M_ 24 4 23 false,o2 25 (.bin (.eql) (tm 24) (.const (.val (.int (.i32) 127)))) 23 false,q_ 26 23 25] [11,25] (c_ 26 (r_ [m_ 27 3,m_ 2 27] [27,27] (.ret)) (.skip)))))))))) (r_ [j_ 2 (-1)] [] (.ret)))
def JJ:List VRes:=[.tmp 2]
theorem Pw:FnOk Tryz.prog wI JI JJ 28:=
 ⟨⟨Tryz.f93,_,Tryz.func93,by decide,rfl,by kernel_rfl,by kernel_rfl,by kernel_rfl,rfl⟩⟩

def CN:VCode:=
 r_ [o1 2 (.move (cs []))] [] (r_ [o1 3 (.allocB 309)] [] (.seq (r_ [j_ 4 0] [] (.block 0 (.loop (.seq (r_ [m_ 6 4,m_ 7 0,o1 8 (.lenS (tm 7)),b_ 9 .lss 6 8] [6,8] (c_ 9 (.skip) (.exit 0))) (.seq (.block 1 (r_ [m_ 12 0,m_ 13 4,o1 14 (.indexS (tm 12) (tm 13)),m_ 5 14] [12,14] (.seq (r_ [m_ 15 5,o1 16 (.bin (.leq) (cu 97) (tm 15)),m_ 17 16,M_ 18 5 17 true,o2 19 (.bin (.leq) (tm 18) (cu 122)) 17 true,p_ 20 17 19] [15,19] (c_ 20 (rt [m_ 21 5,o1 22 (.bin (.sub) (tm 21) (cu 97)),o1 23 (.bin (.add) (tm 22) (cu 65)),m_ 5 23] [21,23]) (.skip))) (rt [m_ 24 5,o1 25 (.callM cD [tm 3,tm 24])] [24,25])))) (rt [m_ 10 4,i_ 11 .add 10 1,m_ 4 11] [10,11])))))) (r_ [o1 26 (.callM dO [tm 3]),m_ 2 26] [26,26] (.ret))))
def CO:List VRes:=[.tmp 2]
theorem KU:FnOk Tryz.prog nI CN CO 27:=
 ⟨⟨Tryz.f141,_,Tryz.func141,by decide,rfl,by kernel_rfl,by kernel_rfl,by kernel_rfl,rfl⟩⟩

def sU:VCode:=
 r_ [k_ 6 false] [] (.seq (r_ [m_ 9 2,o1 10 (.bin (.neq) (tm 9) (.const (.val (.int (.i32) 65533))))] [9,9] (c_ 10 (r_ [k_ 6 false] [] (.ret)) (.skip))) (r_ [m_ 12 0,m_ 13 1,o1 14 (.subS (tm 12) (some (tm 13)) none),o1 15 (.call fN [tm 14]),m_ 11 15,e_ 16 11 0,e_ 17 11 1,m_ 7 16,m_ 8 17] [7,7,11,17] (r_ [m_ 18 8,i_ 19 .eql 18 1,m_ 6 19] [18,19] (.ret))))
def sV:List VRes:=[.tmp 6]
theorem HD:FnOk Tryz.prog sQ sU sV 20:=
 ⟨⟨Tryz.f144,_,Tryz.func144,by decide,rfl,by kernel_rfl,by kernel_rfl,by kernel_rfl,rfl⟩⟩

def oh:VCode:=
 r_ [j_ 4 0] [] (r_ [m_ 5 0,m_ 6 1,o1 7 (.call bX [tm 5,tm 6]),m_ 4 7] [5,7] (.ret))
def om:List VRes:=[.tmp 4]
theorem uW:FnOk Tryz.prog gL oh om 8:=
 ⟨⟨Tryz.f200,_,Tryz.func200,by decide,rfl,by kernel_rfl,by kernel_rfl,by kernel_rfl,rfl⟩⟩

def Fk:VCode:=
 r_ [o1 4 (.move (.const (.val (.nili))))] [] (.seq (r_ [m_ 5 0,o1 6 (.eqN false (tm 5))] [5,5] (c_ 6 (r_ [o1 4 (.move (.const (.val (.nili))))] [] (.ret)) (.skip))) (r_ [m_ 7 1,m_ 8 0,o1 9 (.build [.val (.int (.i64) 0),.val (.nili)] [(0,1,tm 7),(1,1,tm 8)]),o1 10 (.box (tm 9)),o1 11 (.mkIface 156 (tm 10)),m_ 4 11] [7,11] (.ret)))
def Fl:List VRes:=[.tmp 4]
theorem Nx:FnOk Tryz.prog yO Fk Fl 12:=
 ⟨⟨Tryz.f220,_,Tryz.func220,by decide,rfl,by kernel_rfl,by kernel_rfl,by kernel_rfl,rfl⟩⟩

def gg:VCode:=
 r_ [j_ 4 0] [] (r_ [m_ 5 0,m_ 6 1,o1 7 (.call fp [tm 5,tm 6]),m_ 4 7] [5,7] (.ret))
def gh:List VRes:=[.tmp 4]
theorem lx:FnOk Tryz.prog bX gg gh 8:=
 ⟨⟨Tryz.f266,_,Tryz.func266,by decide,rfl,by kernel_rfl,by kernel_rfl,by kernel_rfl,rfl⟩⟩
abbrev Str:=List UInt8
def upB(c:UInt8):UInt8:=if 97≤c∧c≤122 then c-32 else c
def upper(s:Str):Str:=s.map upB
@[simp] theorem aaS:upper []=[]:=rfl
theorem JK(s:Str):(upper s).length=s.length:=by simp[upper]
theorem Px{s:Str}{i:Nat}(h:i<s.length):upper (s.take (i+1))=upper (s.take i)++[upB s[i]]:=by
 unfold upper;rw[List.take_succ_eq_append_getElem h,List.map_append];rfl
theorem upB_yes{c:UInt8}(h1:97≤c.toNat)(h2:c.toNat≤122):(upB c).toNat=c.toNat-32:=by
 have a:(97:UInt8)≤c∧c≤122:=⟨by rw[UInt8.le_iff_toNat_le];simpa using h1,by rw[UInt8.le_iff_toNat_le];simpa using h2⟩;rw[upB,if_pos a,UInt8.toNat_sub_of_le]
 ·rfl
 ·rw[UInt8.le_iff_toNat_le];simp;omega
theorem upB_no{c:UInt8}(h:¬(97≤c.toNat∧c.toNat≤122)):upB c=c:=by
 rw[upB,if_neg];rintro⟨a,b⟩;rw[UInt8.le_iff_toNat_le]at a b;exact h ⟨by simpa using a,by simpa using b⟩
theorem UK(c:UInt8):c.toNat<256:=by have:=c.toNat_lt;simpa using this
theorem BS{i n:Nat}(h:i<n)(hn:n<1000000):IntKind.i64.wrap ((i:Int)+1)=((i+1:Nat):Int):=by rw[IntKind.wrap_i64];omega
theorem Fm(s:Str)(hs:s.length<1000000):Fn G Tryz.prog nI [.str s] (.str (upper s)):=by
 refine ag hm KU (by simp) ?_;simp[CN,CO];refine bS hm [] (fun i:Nat=>[(4,.val (.int .i64 i))]) (fun i=>[(3,.box [.selfN 3 309 false,.ownT 1 i 5]),(1,.arr i 1 (az (upper (s.take i))))]) (fun i=>i≤s.length) (fun i=>s.length-i) 0 (by omega) ?_ ?_
 ·exact d5.trans (Nd (k:=3) (d:=3) (t:=309) 1 5 (by simp) (by simp) (by simp[aC,ac]) (by simp[ac]) (by simp)) (ap rfl rfl (by simp[St.bld,bv,aC,ac,put,dJ,SV.erase]) (by simp[St.bld,cC,ac,put,cK,iB,Ob.erase,SV.erase,az]) (by simp[St.bld,ct]))
 intro i hi;simp;refine brd (fun h=>?_) (fun h=>?_)
 ·obtain⟨c,hc⟩:∃c,c=s[i]:=⟨_,rfl⟩;have ht:=Px h;rw[←hc]at ht;have hc':s[i]?=some c:=by rw[hc];exact List.getElem?_eq_getElem h
  have hlt:=UK c;have hwb:=xk i (upper (s.take i)) (upB c) (by rw[JK,List.length_take];omega);simp[hc'];refine brd (fun h1=>?_) (fun h1=>?_)
  ·simp;refine brd (fun h2=>?_) (fun h2=>?_)
   ·have hw:IntKind.u8.wrap (IntKind.u8.wrap ((c.toNat:Int)-97)+65)=((upB c).toNat:Int):=by
     rw[upB_yes (by omega) (by omega),wrap_u8 (x:=(c.toNat:Int)-97) (by omega) (by omega),wrap_u8 (by omega) (by omega)];omega
    simp[hw];refine callM [(1000,3),(1001,1)] [] hwb rfl rfl ⟨rfl,rfl,trivial⟩ ⟨rfl,_,_,rfl,rfl,rfl⟩ rfl ?_;simp[gW,BS h hs];refine aq (i+1) (by omega) (by omega) ?_;simp[ht];exact bT
   ·have hw:=upB_no (c:=c) (by omega);rw[hw]at hwb ht;simp;refine callM [(1000,3),(1001,1)] [] hwb rfl rfl ⟨rfl,rfl,trivial⟩ ⟨rfl,_,_,rfl,rfl,rfl⟩ rfl ?_;simp[gW,BS h hs];refine aq (i+1) (by omega) (by omega) ?_;simp[ht];exact bT
  ·have hw:=upB_no (c:=c) (by omega);rw[hw]at hwb ht;simp;refine callM [(1000,3),(1001,1)] [] hwb rfl rfl ⟨rfl,rfl,trivial⟩ ⟨rfl,_,_,rfl,rfl,rfl⟩ rfl ?_;simp[gW,BS h hs];refine aq (i+1) (by omega) (by omega) ?_;simp[ht];exact bT
 ·obtain rfl:i=s.length:=by omega
  simp;refine callM [(1000,3),(1001,1)] [] (yL s.length (upper s) (by rw[JK];omega)) rfl rfl (by simp[xe,gW,Vs.ren,ac,Ob.ren,SV.ren]) ⟨rfl,rfl⟩ rfl ?_;simp
theorem sW(l:Str):nj (az l)=some l:=by
 induction l with
 |nil=>rfl
 |cons c r ih=>
  simp only[az,List.map_cons,nj]at ih ⊢;rw[ih];simp
/-! faults -/
theorem fQ(e a:Int):Fn G Tryz.prog bH [.int .i64 e,.int .i64 a] (if e=0 then .nili else dp e [a]):=by
 refine ag hm KT (by simp) ?_;simp[CL,CM];refine brd (fun h=>?_) (fun h=>?_)
 ·simp[h]
 ·simp[h,dp]
theorem cH(n:Int)(ps:List Int):∃t v,dp n ps=.iface t v:=by
 cases ps with
 |nil=>exact⟨_,_,rfl⟩
 |cons p r=>exact⟨_,_,rfl⟩
theorem YT(n:Int)(ps:List Int)(a:Int):Fn G Tryz.prog yO [dp n ps,.int .i64 a] (dp n (a::ps)):=by
 refine ag hm Nx (by simp) ?_;obtain⟨t,v,h⟩:=cH n ps;simp only[dp,h];simp[Fk,Fl]
theorem CP:Fn G Tryz.prog iG [.nili] (.int .i64 0):=by
 refine ag hm xl (by simp) ?_;simp[sR,sS]
theorem wJ(n:Int)(ps:List Int):Fn G Tryz.prog iG [dp n ps] (.int .i64 n):=by
 refine ag hm xl (by simp) ?_;have hA:=Ff n 0 ps;obtain⟨t,v,h⟩:=cH n ps;rw[h]at hA ⊢;simp[sR,sS];refine callM [(1000,3)] [] hA rfl rfl ⟨rfl,trivial⟩ ⟨[],[],rfl,⟨rfl,rfl⟩,rfl⟩ rfl ?_;simp
end Go.Vs.YtcjeehebikeghaaGreatDoor
