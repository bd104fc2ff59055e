/-
  DERIVED: THE SHELF's CONTRACTS AT THIS DUMP, IN PLAIN WORDS (tools/lay-plain.mjs out of 'TryzShelf.lean', which tools/lay-shelf.mjs lV): THE SAME DECLARATIONS UNDER THE SAME NAMES: 'import', 'namespace', 'open', 'def', 'theorem' AND NOTHING ELSE: no command of the shelf's: FOR A HAND-IN. Each laying: the table of numbers ('.._ren') and one theorem, a field a fact of the dump's own or the kernel's comparison; each contract: ONE APPLICATION.
-/
import Derived.Shelf.Strings.Builder1
import Derived.Shelf.Strings.OnBuilder
import Derived.Shelf.LaysM
import Derived.Shelf.Strings.IndexAnyAll
import Derived.Shelf.Unicode.DecodeSlow
import Derived.Shelf.Unicode.DecodeAny
import Derived.Test.YtmaenhgipojmfaaGreatDoorProg
import GoSem.Core.Utf8
import Derived.KernelRfl
import Derived.Test.YtmaenhgipojmfaaGreatDoorBG
import Derived.Laws.Externs
import Derived.Test.YtmaenhgipojmfaaGreatDoorRows
import Derived.Test.YtmaenhgipojmfaaGreatDoorBD
set_option linter.unusedVariables false
set_option linter.unusedSimpArgs false
namespace Go.Vs.U8
end Go.Vs.U8
namespace Go.Proofs
open Go.Shelf
def Tryz.lays156_ren:Go.Shelf.Ren:=⟨fun | 156=>119 | 165=>134 | 166=>82 | 169=>84 | 240=>104 | 241=>139 | 276=>120 | 277=>147 | n=>n,fun | 31=>100 | 9=>9 | 3=>3 | 4=>4 | 0=>0 | 20=>20 | 72=>151 | 76=>152 | 70=>149 | 37=>142 | 75=>25 | 127=>188 | 164=>112 | 5=>5 | 80=>154 | n=>n,fun | n=>n⟩
theorem Tryz.lays156:Go.Proofs.Lays.n156 Tryz.prog Tryz.lays156_ren:={
 mixed:=by kernel_rfl
 f156:=Tryz.func119.trans (congrArg some (by kernel_rfl))
 f165:=Tryz.func134.trans (congrArg some (by kernel_rfl))
 f166:=Tryz.func82.trans (congrArg some (by kernel_rfl))
 f169:=Tryz.func84.trans (congrArg some (by kernel_rfl))
 f240:=Tryz.func104.trans (congrArg some (by kernel_rfl))
 f241:=Tryz.func139.trans (congrArg some (by kernel_rfl))
 f276:=Tryz.func120.trans (congrArg some (by kernel_rfl))
 f277:=Tryz.func147.trans (congrArg some (by kernel_rfl))
 t0:=Tryz.underlying0
 a0:=Tryz.isAgg0
 z0:=Tryz.sizeOf0
 v0:=Tryz.zeroValue0
 t3:=Tryz.underlying3
 a3:=Tryz.isAgg3
 z3:=Tryz.sizeOf3
 v3:=Tryz.zeroValue3
 t4:=Tryz.underlying4
 a4:=Tryz.isAgg4
 z4:=Tryz.sizeOf4
 v4:=Tryz.zeroValue4
 t9:=Tryz.underlying9
 a9:=Tryz.isAgg9
 z9:=Tryz.sizeOf9
 v9:=Tryz.zeroValue9
 t20:=Tryz.underlying20
 a20:=Tryz.isAgg20
 z20:=Tryz.sizeOf20
 v20:=Tryz.zeroValue20
 t31:=Tryz.underlying100
 a31:=Tryz.isAgg100
 z31:=Tryz.sizeOf100
 v31:=Tryz.zeroValue100
 t37:=Tryz.underlying142
 a37:=Tryz.isAgg142
 z37:=Tryz.sizeOf142
 v37:=Tryz.zeroValue142
 t70:=Tryz.underlying149
 a70:=Tryz.isAgg149
 z70:=Tryz.sizeOf149
 v70:=Tryz.zeroValue149
 t72:=Tryz.underlying151
 a72:=Tryz.isAgg151
 z72:=Tryz.sizeOf151
 v72:=Tryz.zeroValue151
 t75:=Tryz.underlying25
 a75:=Tryz.isAgg25
 z75:=Tryz.sizeOf25
 v75:=Tryz.zeroValue25
 t76:=Tryz.underlying152
 a76:=Tryz.isAgg152
 z76:=Tryz.sizeOf152
 v76:=Tryz.zeroValue152
 t127:=Tryz.underlying188
 a127:=Tryz.isAgg188
 z127:=Tryz.sizeOf188
 v127:=Tryz.zeroValue188
 t164:=Tryz.underlying112
 a164:=Tryz.isAgg112
 z164:=Tryz.sizeOf112
 v164:=Tryz.zeroValue112 }
theorem Tryz.Builder_Extra_156:Builder.Extra Tryz.prog Tryz.lays156_ren:={
 sizeBuilder:=by kernel_rfl
 liesBuilder:=by kernel_rfl
 t5:=Tryz.underlying5
 a5:=Tryz.isAgg5
 z5:=Tryz.sizeOf5
 v5:=Tryz.zeroValue5
 infoByte:=by kernel_rfl
 cellsByte:=by kernel_rfl
 sizeByte:=by kernel_rfl
 neB5:=by decide }
open Go.RowKit in
theorem Tryz.strings_Join_none (a:Option Addr) (c:Nat) (sep:ByteArray) (w:World) :
  Calls Tryz.prog 119 #[.slice a 0 c,.string sep] w fun e w'=>e=.returned (.string ⟨#[]⟩)∧w'=w:=Any.strings_Join_none Tryz.lays156 Tryz.Builder_Extra_156 a c sep w
open Go.RowKit in
theorem Tryz.strings_Join (bk o c:Nat) (xs:List ByteArray) (sep:ByteArray) (w:World) (hcells:∀ (j:Nat) x,xs[j]?=some x→w.cell? ⟨bk,o+j,none⟩=some (.string x)) (hbk:bk < w.heap.size) (hN:xs.length≤140737488355328) (hcap:xs.length≤c) (hlen:(Lib.join (xs.map (·.data.toList)) sep.data.toList).length≤140737488355328) :
  Calls Tryz.prog 119 #[.slice (some ⟨bk,o,none⟩) xs.length c,.string sep] w fun e w'=>e=.returned (.string ⟨(Lib.join (xs.map (·.data.toList)) sep.data.toList).toArray⟩)∧Below w.heap.size w w':=Any.strings_Join Tryz.lays156 Tryz.Builder_Extra_156 bk o c xs sep w hcells hbk hN hcap hlen
def Tryz.lays197_ren:Go.Shelf.Ren:=⟨fun | 197=>114 | 260=>130 | n=>n,fun | 9=>9 | 21=>21 | 3=>3 | 4=>4 | 5=>5 | 105=>197 | 119=>213 | 0=>0 | 46=>214 | 139=>217 | 138=>216 | n=>n,fun | 3=>2 | 4=>3 | n=>n⟩
theorem Tryz.lays197:Go.Proofs.Lays.n197 Tryz.prog Tryz.lays197_ren:={
 mixed:=by kernel_rfl
 f197:=Tryz.func114.trans (congrArg some (by kernel_rfl))
 f260:=Tryz.func130.trans (congrArg some (by kernel_rfl))
 t0:=Tryz.underlying0
 a0:=Tryz.isAgg0
 z0:=Tryz.sizeOf0
 v0:=Tryz.zeroValue0
 t3:=Tryz.underlying3
 a3:=Tryz.isAgg3
 z3:=Tryz.sizeOf3
 v3:=Tryz.zeroValue3
 t4:=Tryz.underlying4
 a4:=Tryz.isAgg4
 z4:=Tryz.sizeOf4
 v4:=Tryz.zeroValue4
 t5:=Tryz.underlying5
 a5:=Tryz.isAgg5
 z5:=Tryz.sizeOf5
 v5:=Tryz.zeroValue5
 t9:=Tryz.underlying9
 a9:=Tryz.isAgg9
 z9:=Tryz.sizeOf9
 v9:=Tryz.zeroValue9
 t21:=Tryz.underlying21
 a21:=Tryz.isAgg21
 z21:=Tryz.sizeOf21
 v21:=Tryz.zeroValue21
 t46:=Tryz.underlying214
 a46:=Tryz.isAgg214
 z46:=Tryz.sizeOf214
 v46:=Tryz.zeroValue214
 t105:=Tryz.underlying197
 a105:=Tryz.isAgg197
 z105:=Tryz.sizeOf197
 v105:=Tryz.zeroValue197
 t119:=Tryz.underlying213
 a119:=Tryz.isAgg213
 z119:=Tryz.sizeOf213
 t138:=Tryz.underlying216
 a138:=Tryz.isAgg216
 z138:=Tryz.sizeOf216
 v138:=Tryz.zeroValue216
 t139:=Tryz.underlying217
 a139:=Tryz.isAgg217
 z139:=Tryz.sizeOf217
 v139:=Tryz.zeroValue217
 g3:=by kernel_rfl
 g4:=by kernel_rfl }
open Go.RowKit Go.Lib in
theorem Tryz.utf8_DecodeRuneInString (s:ByteArray) (w:World) (hT:Lib.Utf8Tabs 2 3 w) :
  Calls Tryz.prog 114 #[.string s] w fun e w'=>e=.returned (.tuple #[.int .i32 (Lib.decodeGo s).1,.int .i64 (Lib.decodeGo s).2])∧Below w.heap.size w w':=Any.utf8_DecodeRuneInString Tryz.lays197 s w hT
end Go.Proofs
set_option linter.unusedVariables false
set_option linter.unusedSimpArgs false
namespace Go.Vs.U8
open Go
abbrev Str:=List UInt8
def tl (l:Str) (k lo hi:Nat):Bool:=match l[k]? with
 | some b=>decide (lo≤b.toNat)&&decide (b.toNat≤hi)
 | none=>false
def D0 (n:Nat):Nat:=if n=224 then 160 else if n=240 then 144 else 128
def zy (n:Nat):Nat:=if n=237 then 159 else if n=244 then 143 else 191
def bD:Str→Nat
 | []=>0
 | c::r=>
  if c.toNat < 128 then 1
  else if (decide (194≤c.toNat)&&decide (c.toNat≤223)&&tl r 0 128 191)=true then 2
  else if (decide (224≤c.toNat)&&decide (c.toNat≤239)&&tl r 0 (D0 c.toNat) (zy c.toNat)&&tl r 1 128 191)=true then 3
  else if (decide (240≤c.toNat)&&decide (c.toNat≤244)&&tl r 0 (D0 c.toNat) (zy c.toNat)&&tl r 1 128 191&&tl r 2 128 191)=true then 4
  else 0
theorem l6 {l:Str} {k lo hi:Nat} (h:tl l k lo hi=true):∃ b,l[k]?=some b∧lo≤b.toNat∧b.toNat≤hi:=by
 unfold tl at h
 split at h
 ·next b hb=>simp at h;exact ⟨b,hb,h.1,h.2⟩
 ·simp at h
theorem y9 {l:Str} {k lo hi:Nat} (h:tl l k lo hi=true):k < l.length:=by
 obtain ⟨b,hb,_⟩:=l6 h
 exact (List.getElem?_eq_some_iff.1 hb).1
theorem m4 (l:Str):bD l≤l.length:=by
 cases l with
 | nil=>simp[bD]
 | cons c r=>
  simp only[bD,List.length_cons]
  split
  ·omega
  ·split
   ·next h=>simp only[Bool.and_eq_true] at h;have:=y9 h.2;omega
   ·split
    ·next h=>simp only[Bool.and_eq_true] at h;have:=y9 h.2;omega
    ·split
     ·next h=>simp only[Bool.and_eq_true] at h;have:=y9 h.2;omega
     ·omega
def eM (l:Str):Bool:=match l with
 | []=>false
 | c::_=>bD l==0||(decide (c.toNat < 32)&&!decide (c.toNat=9))||decide (c.toNat=127)
def HR:Nat→Str→Option Nat
 | 0,_=>none
 | f+1,l=>match l with
  | []=>none
  | _::_=>if eM l then some 0 else (HR f (l.drop (bD l))).map (· + bD l)
theorem ko {l:Str} (h:eM l=false) (hne:l≠[]):1≤bD l:=by
 cases l with
 | nil=>exact absurd rfl hne
 | cons c r=>simp only[eM,Bool.or_eq_false_iff,beq_eq_false_iff_ne] at h;omega
theorem AW:∀ (f g:Nat) (l:Str),l.length≤f→l.length≤g→HR f l=HR g l
 | 0,0,_,_,_=>rfl
 | 0,g+1,l,h,_=>by obtain rfl:l=[]:=List.length_eq_zero_iff.1 (by omega);rfl
 | f+1,0,l,_,h=>by obtain rfl:l=[]:=List.length_eq_zero_iff.1 (by omega);rfl
 | f+1,g+1,l,hf,hg=>by
  cases l with
  | nil=>rfl
  | cons c r=>
   simp only[HR]
   split
   ·rfl
   ·next h=>
    have h1:=ko (by simpa using h) (by simp)
    rw[AW f g _ (by rw[List.length_drop];omega) (by rw[List.length_drop];omega)]
def fp (l:Str):Option Nat:=HR l.length l
@[simp] theorem O1:fp []=none:=rfl
theorem kp {l:Str} (hne:l≠[]):fp l=if eM l then some 0 else (fp (l.drop (bD l))).map (· + bD l):=by
 cases l with
 | nil=>exact absurd rfl hne
 | cons c r=>
  unfold fp
  simp only[List.length_cons,HR]
  split
  ·rfl
  ·next h=>
   have h1:=ko (by simpa using h) (by simp)
   rw[AW r.length ((c::r).drop (bD (c::r))).length _ (by rw[List.length_drop];simp;omega) (Nat.le_refl _)]
theorem JL {s:Str} {i:Nat} (hi:i < s.length) (h:fp s=(fp (s.drop i)).map (· + i)):fp s=if eM (s.drop i) then some i else (fp (s.drop (i+bD (s.drop i)))).map (· + (i+bD (s.drop i))):=by
 rw[h,kp (by intro e;have:=congrArg List.length e;simp at this;omega)]
 split
 ·simp
 ·rw[List.drop_drop]
  cases fp (s.drop (i+bD (s.drop i))) with
  | none=>rfl
  | some k=>simp;omega
def eN (o:Option Nat):Int:=match o with
 | some k=>k
 | none=>-1
def AX (l:Str):Nat×Nat:=Utf8.decode ⟨l.toArray⟩ 0
theorem JM (s:Str) (p k:Nat):(⟨(s.drop p).toArray⟩:ByteArray).get! (0+k)=(⟨s.toArray⟩:ByteArray).get! (p+k):=by
 show (s.drop p).toArray[0+k]! = s.toArray[p+k]!
 simp[List.getElem?_drop,getElem!_def]
theorem oR (s:Str) (p:Nat) (hp:p≤s.length):Utf8.decode ⟨s.toArray⟩ p=AX (s.drop p):=by
 unfold AX Utf8.decode
 have hsz:∀ k,(decide (0+k < (⟨(s.drop p).toArray⟩:ByteArray).size))=decide (p+k < (⟨s.toArray⟩:ByteArray).size):=by
  intro k
  simp only[ByteArray.size,List.size_toArray,List.length_drop]
  congr 1
  apply propext
  omega
 simp only[JM,hsz]
def DS (l:Str) (k:Nat):Nat:=match l[k]? with
 | some b=>b.toNat
 | none=>0
theorem Nb (l:Str) (k:Nat):((⟨l.toArray⟩:ByteArray).get! k).toNat=DS l k:=by
 show (l.toArray[k]!).toNat=_
 unfold DS
 simp only[getElem!_def,List.getElem?_toArray]
 cases l[k]? <;> rfl
theorem JN (l:Str) (k:Nat):DS l k < 256:=by
 unfold DS
 split
 ·next b _=>exact b.toNat_lt
 ·omega
theorem Gs (l:Str) (k lo hi:Nat) (hlo:0 < lo):tl l k lo hi=(decide (k < l.length)&&decide (lo≤DS l k)&&decide (DS l k≤hi)):=by
 unfold tl DS
 cases h:l[k]? with
 | none=>
  have:¬k < l.length:=by rw[List.getElem?_eq_none_iff] at h;omega
  simp[this]
 | some b=>
  have:k < l.length:=(List.getElem?_eq_some_iff.1 h).1
  simp[this]
theorem HS (x0 x1 x2 x3 n:Nat) (b1:x1 < 256) (b2:x2 < 256) (b3:x3 < 256) (b0:x0 < 256) (D:Nat×Nat) (S:Nat)
  (hD:D=if x0 < 128 then (x0,1) else if x0 / 32=6∧1 < n+1∧x1 / 64=2 then if 128≤x0 % 32*64+x1 % 64 then (x0 % 32*64+x1 % 64,2) else (65533,1)
    else if (x0 / 16=14∧1 < n+1∧x1 / 64=2)∧2 < n+1∧x2 / 64=2 then
     if 2048≤x0 % 16*4096+x1 % 64*64+x2 % 64∧(0≤((x0 % 16*4096+x1 % 64*64+x2 % 64:Nat):Int)∧((x0 % 16*4096+x1 % 64*64+x2 % 64:Nat):Int) < 55296∨57344≤((x0 % 16*4096+x1 % 64*64+x2 % 64:Nat):Int)∧((x0 % 16*4096+x1 % 64*64+x2 % 64:Nat):Int)≤1114111) then (x0 % 16*4096+x1 % 64*64+x2 % 64,3) else (65533,1)
    else if ((x0 / 8=30∧1 < n+1∧x1 / 64=2)∧2 < n+1∧x2 / 64=2)∧3 < n+1∧x3 / 64=2 then
     if 65536≤x0 % 8*262144+x1 % 64*4096+x2 % 64*64+x3 % 64∧(0≤((x0 % 8*262144+x1 % 64*4096+x2 % 64*64+x3 % 64:Nat):Int)∧((x0 % 8*262144+x1 % 64*4096+x2 % 64*64+x3 % 64:Nat):Int) < 55296∨57344≤((x0 % 8*262144+x1 % 64*4096+x2 % 64*64+x3 % 64:Nat):Int)∧((x0 % 8*262144+x1 % 64*4096+x2 % 64*64+x3 % 64:Nat):Int)≤1114111) then (x0 % 8*262144+x1 % 64*4096+x2 % 64*64+x3 % 64,4) else (65533,1)
    else (65533,1))
  (lo hi:Nat) (hlo:lo=D0 x0) (hhi:hi=zy x0)
  (hS:S=if x0 < 128 then 1 else if (194≤x0∧x0≤223)∧(0 < n∧128≤x1)∧x1≤191 then 2
    else if ((224≤x0∧x0≤239)∧(0 < n∧lo≤x1)∧x1≤hi)∧(1 < n∧128≤x2)∧x2≤191 then 3
    else if (((240≤x0∧x0≤244)∧(0 < n∧lo≤x1)∧x1≤hi)∧(1 < n∧128≤x2)∧x2≤191)∧(2 < n∧128≤x3)∧x3≤191 then 4 else 0) :
  (x0 < 128∧D=(x0,1)∧S=1)∨(¬x0 < 128∧S=0∧D=(65533,1))∨(¬x0 < 128∧2≤S∧128≤D.1∧D.2=S):=by
 have hlo':(x0=224∧lo=160)∨(x0=240∧lo=144)∨(x0≠224∧x0≠240∧lo=128):=by
  rw[hlo];unfold D0;split
  ·next h=>exact .inl ⟨h,rfl⟩
  ·split
   ·next h=>exact .inr (.inl ⟨h,rfl⟩)
   ·next h1 h2=>exact .inr (.inr ⟨h1,h2,rfl⟩)
 have hhi':(x0=237∧hi=159)∨(x0=244∧hi=143)∨(x0≠237∧x0≠244∧hi=191):=by
  rw[hhi];unfold zy;split
  ·next h=>exact .inl ⟨h,rfl⟩
  ·split
   ·next h=>exact .inr (.inl ⟨h,rfl⟩)
   ·next h1 h2=>exact .inr (.inr ⟨h1,h2,rfl⟩)
 clear hlo hhi
 by_cases h0:x0 < 128
 ·rw[if_pos h0] at hD hS
  exact .inl ⟨h0,hD,hS⟩
 right
 rw[if_neg h0] at hD hS
 by_cases s2:(194≤x0∧x0≤223)∧(0 < n∧128≤x1)∧x1≤191
 ·right
  rw[if_pos s2] at hS
  rw[if_pos (by omega),if_pos (by omega)] at hD
  subst hD;subst hS
  exact ⟨h0,by omega,by show 128≤x0 % 32*64+x1 % 64;omega,rfl⟩
 rw[if_neg s2] at hS
 by_cases s3:((224≤x0∧x0≤239)∧(0 < n∧lo≤x1)∧x1≤hi)∧(1 < n∧128≤x2)∧x2≤191
 ·right
  rw[if_pos s3] at hS
  rw[if_neg (by omega),if_pos (by omega),if_pos (by omega)] at hD
  subst hD;subst hS
  exact ⟨h0,by omega,by show 128≤x0 % 16*4096+x1 % 64*64+x2 % 64;omega,rfl⟩
 rw[if_neg s3] at hS
 by_cases s4:(((240≤x0∧x0≤244)∧(0 < n∧lo≤x1)∧x1≤hi)∧(1 < n∧128≤x2)∧x2≤191)∧(2 < n∧128≤x3)∧x3≤191
 ·right
  rw[if_pos s4] at hS
  rw[if_neg (by omega),if_neg (by omega),if_pos (by omega),if_pos (by omega)] at hD
  subst hD;subst hS
  exact ⟨h0,by omega,by show 128≤x0 % 8*262144+x1 % 64*4096+x2 % 64*64+x3 % 64;omega,rfl⟩
 rw[if_neg s4] at hS
 left
 refine ⟨h0,hS,?_⟩
 rw[hD]
 split
 ·rw[if_neg (by omega)]
 ·split
  ·rw[if_neg (by omega)]
  ·split
   ·rw[if_neg (by omega)]
   ·rfl
theorem uZ (c:UInt8) (r:Str):(c.toNat < 128∧AX (c::r)=(c.toNat,1)∧bD (c::r)=1)∨(¬c.toNat < 128∧bD (c::r)=0∧AX (c::r)=(65533,1))∨(¬c.toNat < 128∧2≤bD (c::r)∧128≤(AX (c::r)).1∧(AX (c::r)).2=bD (c::r)):=by
 refine HS c.toNat (DS r 0) (DS r 1) (DS r 2) r.length (JN _ _) (JN _ _) (JN _ _) c.toNat_lt _ _ ?_ _ _ rfl rfl ?_
 ·have hd:AX (c::r)=Utf8.decode ⟨(c::r).toArray⟩ 0:=rfl
  unfold Utf8.decode at hd
  simp only[Nat.zero_add,Nb,ByteArray.size,List.size_toArray,List.length_cons] at hd
  rw[show DS (c::r) 0=c.toNat from rfl,show DS (c::r) 1=DS r 0 from rfl,show DS (c::r) 2=DS r 1 from rfl,show DS (c::r) 3=DS r 2 from rfl] at hd
  rw[hd]
  simp only[Utf8.valid,Utf8.runeError,Bool.and_eq_true,Bool.or_eq_true,decide_eq_true_eq,beq_iff_eq,ge_iff_le]
 ·have hl:0 < D0 c.toNat:=by
   unfold D0
   split
   ·omega
   ·split <;> omega
  simp only[bD,Gs r 0 128 191 (by omega),Gs r 1 128 191 (by omega),Gs r 2 128 191 (by omega),Gs r 0 (D0 c.toNat) (zy c.toNat) hl,Bool.and_eq_true,decide_eq_true_eq]
end Go.Vs.U8
set_option linter.unusedSimpArgs false
set_option linter.unusedVariables false
namespace Go.Vs.YtmaenhgipojmfaaGreatDoor
open Go.Proofs Go.Proofs.YtmaenhgipojmfaaGreatDoor Go.RowKit Go.Lib Go.Vs.U8
set_option maxRecDepth 100000

def jb (s:List UInt8) (c:UInt8):Int:=match s.findIdx? (· == c) with
 | some i=>i
 | none=>-1
theorem kq (s:List UInt8) (c:UInt8):(jb s c = -1∧c∉s)∨∃ i,jb s c=(i:Nat)∧s[i]?=some c∧c∉s.take i:=by
 unfold jb
 cases h:s.findIdx? (· == c) with
 | none=>
  left
  rw[List.findIdx?_eq_none_iff] at h
  exact ⟨rfl,fun hc=>by have:=h c hc;simp at this⟩
 | some i=>
  right
  rw[List.findIdx?_eq_some_iff_getElem] at h
  obtain ⟨h1,h2,h3⟩:=h
  refine ⟨i,rfl,?_,?_⟩
  ·rw[List.getElem?_eq_getElem h1];simpa using h2
  ·intro hc
   obtain ⟨j,hj,he⟩:=List.mem_iff_getElem.1 hc
   rw[List.length_take] at hj
   rw[List.getElem_take] at he
   have:=h3 j (by omega)
   simp[he] at this
theorem sZ {s:List UInt8} {c:UInt8} {i:Nat} (h1:s[i]?=some c) (h2:c∉s.take i):jb s c=i:=by
 rcases kq s c with ⟨_,h⟩ | ⟨j,h,k1,k2⟩
 ·exact absurd (List.mem_of_getElem? h1) h
 ·rw[h]
  have a:¬i < j:=fun hl=>k2 (by rw[List.mem_take_iff_getElem];obtain ⟨hi,e⟩:=List.getElem?_eq_some_iff.1 h1;exact ⟨i,by omega,e⟩)
  have b:¬j < i:=fun hl=>h2 (by rw[List.mem_take_iff_getElem];obtain ⟨hi,e⟩:=List.getElem?_eq_some_iff.1 k1;exact ⟨j,by omega,e⟩)
  omega
theorem ir {s:List UInt8} {c:UInt8} (h:c∉s):jb s c = -1:=by
 rcases kq s c with ⟨h1,_⟩ | ⟨j,_,k1,_⟩
 ·exact h1
 ·exact absurd (List.mem_of_getElem? k1) h
theorem JO (s:List UInt8) (c:UInt8):jb s c < 0↔c∉s:=by
 rcases kq s c with ⟨h1,h⟩ | ⟨j,h,k1,_⟩
 ·rw[h1];exact ⟨fun _=>h,fun _=>by omega⟩
 ·rw[h];exact ⟨fun h=>by omega,fun h=>absurd (List.mem_of_getElem? k1) h⟩
theorem DT (s:List UInt8) (c:UInt8):firstIdx ⟨s.toArray⟩ c=jb s c:=by
 unfold firstIdx
 have hsz:(⟨s.toArray⟩:ByteArray).size=s.length:=by simp[ByteArray.size]
 have hget:∀ i,i < s.length→(⟨s.toArray⟩:ByteArray)[i]! = s[i]?.getD 0:=by
  intro i hi
  have h1:i < (⟨s.toArray⟩:ByteArray).size:=by rw[hsz];exact hi
  rw[getElem!_pos (⟨s.toArray⟩:ByteArray) i h1]
  show s.toArray[i]=_
  simp[hi]
 rw[hsz]
 cases hf:(List.range s.length).find? fun i=>(⟨s.toArray⟩:ByteArray)[i]! == c with
 | none=>
  rw[List.find?_eq_none] at hf
  refine (ir fun hc=>?_).symm
  obtain ⟨j,hj,he⟩:=List.mem_iff_getElem.1 hc
  have:=hf j (List.mem_range.2 hj)
  rw[hget j hj,List.getElem?_eq_getElem hj] at this
  simp[he] at this
 | some i=>
  obtain ⟨h1,xs,ys,h2,h3⟩:=List.find?_eq_some_iff_append.1 hf
  have hi:i < s.length:=List.mem_range.1 (by rw[h2];simp)
  have has:∀ j,j < i→j∈xs:=by
   intro j hj
   have e1:(List.range s.length)[xs.length]?=some i:=by rw[h2];simp
   have hlen:xs.length < s.length:=by
    have:=congrArg List.length h2
    simp at this
    omega
   rw[List.getElem?_range hlen] at e1
   have e2:xs.length=i:=Option.some.inj e1
   have e3:(List.range s.length)[j]?=xs[j]?:=by rw[h2,List.getElem?_append_left (by omega)]
   rw[List.getElem?_range (by omega)] at e3
   exact List.mem_of_getElem? e3.symm
  rw[hget i hi] at h1
  refine (sZ ?_ ?_).symm
  ·rw[List.getElem?_eq_getElem hi] at h1 ⊢
   simpa using h1
  ·intro hc
   obtain ⟨j,hj,he⟩:=List.mem_iff_getElem.1 hc
   rw[List.length_take] at hj
   rw[List.getElem_take] at he
   have:=h3 j (has j (by omega))
   rw[hget j (by omega),List.getElem?_eq_getElem (by omega)] at this
   simp[he] at this
theorem sd (s:List UInt8) (c:UInt8):Fn G Tryz.prog cR [.str s,.int .u8 c.toNat] (.int .i64 (jb s c)):=by
 refine AT ⟨Tryz.f110,Tryz.func110,by decide⟩ ?_
 rintro w S vs ⟨v1,_,rfl,h1,v2,_,rfl,h2,h3⟩
 have h1:v1=.string ⟨s.toArray⟩:=h1
 have h2:v2=.int .u8 c.toNat:=h2
 have h3:_=[]:=h3
 subst h1;subst h2;subst h3
 refine ⟨.int .i64 (jb s c),?_,rfl⟩
 have hr:=run_callFunc_extern (P:=Tryz.prog) Tryz.func110 (by kernel_rfl) (by kernel_rfl) (by kernel_rfl) (e:=Extern.BytealgIndexByte.indexByte) (by kernel_rfl) #[.string ⟨s.toArray⟩,.int .u8 c.toNat] w
 rw[run_indexByte_string] at hr
 have e1:((c.toNat:Int)).toNat.toUInt8=c:=by simp
 rw[e1,DT] at hr
 exact hr

theorem jC {w:World} {S:aC} : ∀ {l:List IV} {blk off j:Nat} {x:IV},ar w S l blk off→l[j]?=some x→∃ v,w.cell? ⟨blk,off+j,none⟩=some v∧jq w S x v
 | [],_,_,_,_,_,h=>by simp at h
 | y::r,blk,off,0,x,⟨_,_,⟨v,h1,h2⟩,_⟩,h=>by
  simp only[List.getElem?_cons_zero,Option.some.injEq] at h
  subst h
  exact ⟨v,h1,h2⟩
 | y::r,blk,off,j+1,x,⟨_,_,_,h3⟩,h=>by
  obtain ⟨v,h1,h2⟩:=jC (j:=j) h3 (by simpa using h)
  exact ⟨v,by rw[show off+(j+1)=off+1+j by omega];exact h1,h2⟩
theorem AY:((List.range 256).all fun c=>sb.getD c 0==(firstT c:Int))=true:=by kernel_rfl
theorem Cd:((List.range 16).all fun i=>FF.getD (2*i) 0==(accLo i:Int)&&FF.getD (2*i+1) 0==(accHi i:Int))=true:=by kernel_rfl
theorem v6:sb.length=256:=by simp[sb]
theorem wV:FF.length=32:=rfl
theorem oS {zs:List Int} {j:Nat} (h:j < zs.length):(zs.map (IV.int .u8 ·))[j]?=some (.int .u8 (zs.getD j 0)):=by
 simp[h]
theorem Nc {w:World} {S:aC} (h:∀ p,p∈G→fG w S p):Utf8Tabs 2 3 w:=by
 have h1:=h (2,sb.map (.int .u8 ·)) (by simp[G])
 have h2:=h (3,FF.map (.int .u8 ·)) (by simp[G])
 refine ⟨fun c hc=>?_,fun i hi=>⟨?_,?_⟩⟩
 ·obtain ⟨v,k1,k2⟩:=jC h1.1 (oS (j:=c) (by rw[v6];exact hc))
  have k2:v=_:=k2
  have ht:=List.all_eq_true.1 AY c (List.mem_range.2 hc)
  rw[beq_iff_eq] at ht
  rw[k2,ht,Nat.zero_add] at k1
  exact k1
 ·obtain ⟨v,k1,k2⟩:=jC h2.1 (oS (j:=2*i) (by rw[wV];omega))
  have k2:v=_:=k2
  have ht:=List.all_eq_true.1 Cd i (List.mem_range.2 hi)
  rw[Bool.and_eq_true,beq_iff_eq,beq_iff_eq] at ht
  rw[k2,ht.1,Nat.zero_add] at k1
  exact k1
 ·obtain ⟨v,k1,k2⟩:=jC h2.1 (oS (j:=2*i+1) (by rw[wV];omega))
  have k2:v=_:=k2
  have ht:=List.all_eq_true.1 Cd i (List.mem_range.2 hi)
  rw[Bool.and_eq_true,beq_iff_eq,beq_iff_eq] at ht
  rw[k2,ht.2,Nat.zero_add] at k1
  exact k1
theorem zM (s:List UInt8) (hs:s≠[]):Fn G Tryz.prog cY [.str s] (.tuple [.int .i32 (AX s).1,.int .i64 (AX s).2]):=by
 refine sX ⟨Tryz.f114,Tryz.func114,by decide⟩ ?_
 rintro w S vs hS k9 ⟨v1,_,rfl,h1,h3⟩
 have h1:v1=.string ⟨s.toArray⟩:=h1
 have h3:_=[]:=h3
 subst h1;subst h3
 refine bS Tryz.func114 (by decide) ((Tryz.utf8_DecodeRuneInString ⟨s.toArray⟩ w (Nc k9)).mono ?_)
 rintro e w' ⟨rfl,hb⟩
 have hd:decodeGo ⟨s.toArray⟩=AX s:=by
  unfold decodeGo AX
  rw[if_neg]
  have:(⟨s.toArray⟩:ByteArray).size=s.length:=by simp[ByteArray.size]
  rw[this]
  exact fun h=>hs (List.length_eq_zero_iff.1 h)
 rw[hd]
 exact ⟨_,rfl,hb,#[.int .i32 (AX s).1,.int .i64 (AX s).2],rfl,_,_,rfl,rfl,_,_,rfl,rfl,rfl⟩

def ts (l:List (List UInt8)):List (List IV):=l.map fun s=>[.str s]
theorem DU {w:World} {S:aC} {blk:Nat} : ∀ {l:List (List UInt8)} {s off:Nat},aJ w S (ts l) s blk off→∀ (j:Nat) x,(l.map fun x=>(⟨x.toArray⟩:ByteArray))[j]?=some x→w.cell? ⟨blk,off+j,none⟩=some (.string x)
 | [],_,_,_,j,x,h=>by simp at h
 | y::r,s,off,⟨h1,⟨_,_,⟨v,h2,h3⟩,_⟩,h4⟩,0,x,h=>by
  simp only[List.map_cons,List.getElem?_cons_zero,Option.some.injEq] at h
  subst h
  have h3:v=_:=h3
  rw[h3] at h2
  exact h2
 | y::r,s,off,⟨h1,⟨_,_,_,_⟩,h4⟩,j+1,x,h=>by
  have hs:s=1:=by rw[←h1];rfl
  have:=DU (l:=r) h4 j x (by simpa using h)
  rw[hs] at this
  rw[show off+(j+1)=off+1+j by omega]
  exact this
theorem LL (l:List (List UInt8)) (sep:List UInt8) (hl:l.length < 1000000) (hlen:(join l sep).length < 1000000):Fn G Tryz.prog oQ [.slice (ts l),.str sep] (.str (join l sep)):=by
 refine sX ⟨Tryz.f119,Tryz.func119,by decide⟩ ?_
 rintro w S vs hS k9 ⟨v1,_,rfl,⟨a,cap,rfl,hcap,hrows⟩,v2,_,rfl,h2,h3⟩
 have h2:v2=.string ⟨sep.toArray⟩:=h2
 have h3:_=[]:=h3
 subst h2;subst h3
 have hlen0:(ts l).length=l.length:=by simp[ts]
 rw[hlen0] at hcap ⊢
 by_cases hl0:l=[]
 ·subst hl0
  refine bS Tryz.func119 (by decide) ((Tryz.strings_Join_none a cap ⟨sep.toArray⟩ w).mono ?_)
  rintro e w' ⟨rfl,rfl⟩
  exact ⟨_,rfl,Below.refl _ _,rfl⟩
 ·obtain ⟨blk,off,s,rfl,hr⟩:=hrows (by simpa[ts] using hl0)
  have hc:=DU hr
  have hbk:blk < w.heap.size:=by
   obtain ⟨y,r,rfl⟩:=List.exists_cons_of_ne_nil hl0
   exact (m0 (hc 0 _ rfl)).1
  have e1:(l.map fun x=>(⟨x.toArray⟩:ByteArray)).map (·.data.toList)=l:=by simp[Function.comp_def]
  have hm:(l.map fun x=>(⟨x.toArray⟩:ByteArray)).length=l.length:=by simp
  have:=Tryz.strings_Join blk off cap (l.map fun x=>⟨x.toArray⟩) ⟨sep.toArray⟩ w hc hbk (by omega) (by omega) (by rw[e1];simp only;omega)
  rw[e1,hm] at this
  refine bS Tryz.func119 (by decide) (this.mono ?_)
  rintro e w' ⟨rfl,hb⟩
  exact ⟨_,rfl,hb,rfl⟩
end Go.Vs.YtmaenhgipojmfaaGreatDoor
namespace Go.Vs.YtmaenhgipojmfaaGreatDoor
set_option linter.unusedSimpArgs false
set_option linter.unusedVariables false
open Go.Proofs
set_option maxRecDepth 100000
set_option maxHeartbeats 4000000

def dT:Nat:=13
def cK:Nat:=14
def aX:Nat:=31
def dm:Nat:=36
def jD:Nat:=40
def aZ:Nat:=60
def jV:Nat:=66
def dP:Nat:=67
def mX:Nat:=68
def gx:Nat:=74
def bm:Nat:=94
def mY:Nat:=97
def gU:Nat:=101
def dd:Nat:=116
def mZ:VCode:=
 .seq (rt [o1 2 (.move (ci 0))] []) (.seq (rt [o1 3 (.alloc [.val (.int (.i64) 0)])] []) (.seq (.seq (rt [o1 4 (.move (tm 0)),o1 5 (.eqN false (tm 4)),o1 6 (.move (tm 5)),o2 7 (.move (tm 0)) 6 false,o2 8 (.mkIface 95 (tm 3)) 6 false,o2 9 (.callM eL [tm 7,tm 8]) 6 false,o2 10 (.un (.not) (tm 9)) 6 false,o1 11 (.pick (tm 6) (cb true) (tm 10))] [4,10]) (.cond (tm 11) (.seq (rt [o1 2 (.move (ci 0))] []) (.ret)) (.skip))) (.seq (rt [o1 12 (.load none (tm 3)),o1 2 (.move (tm 12))] [12,12]) (.ret))))
def n5:List VRes:=[.tmp 2]
theorem qB:FnOk Tryz.prog dT mZ n5 13:=
 ⟨⟨Tryz.f13,_,Tryz.func13,by decide,rfl,by kernel_rfl,by kernel_rfl,by kernel_rfl,rfl⟩⟩

def lw:VCode:=
 .seq (rt [o1 2 (.move (ci 0))] []) (.seq (rt [o1 6 (.move (tm 0)),o1 7 (.call jD [tm 6]),o1 5 (.move (tm 7)),o1 8 (.extract (tm 5) 0),o1 9 (.extract (tm 5) 1),o1 3 (.move (tm 8)),o1 4 (.move (tm 9))] [4,9]) (.seq (rt [o1 10 (.move (tm 3)),o1 2 (.move (tm 10))] [10,10]) (.ret)))
def lx:List VRes:=[.tmp 2]
theorem oT:FnOk Tryz.prog cK lw lx 11:=
 ⟨⟨Tryz.f14,_,Tryz.func14,by decide,rfl,by kernel_rfl,by kernel_rfl,by kernel_rfl,rfl⟩⟩

def vM:VCode:=
 .seq (rt [o1 4 (.move (.const (.val (.nili))))] []) (.seq (.seq (rt [o1 5 (.move (tm 0)),o1 6 (.bin (.eql) (tm 5) (ci 0))] [5,5]) (.cond (tm 6) (.seq (rt [o1 4 (.move (.const (.val (.nili))))] []) (.ret)) (.skip))) (.seq (rt [o1 7 (.move (tm 1)),o1 8 (.move (tm 0)),o1 9 (.mkIface 33 (tm 8)),o1 10 (.build [.val (.int (.i64) 0),.val (.nili)] [(0,1,tm 7),(1,1,tm 9)]),o1 11 (.box (tm 10)),o1 12 (.mkIface 54 (tm 11)),o1 4 (.move (tm 12))] [7,12]) (.ret)))
def vN:List VRes:=[.tmp 4]
theorem Ce:FnOk Tryz.prog aX vM vN 13:=
 ⟨⟨Tryz.f31,_,Tryz.func31,by decide,rfl,by kernel_rfl,by kernel_rfl,by kernel_rfl,rfl⟩⟩

def qC:VCode:=
 .seq (rt [o1 2 (.move (cs []))] []) (.seq (rt [o1 3 (.move (.const (.nils)))] []) (.seq (.seq (rt [o1 4 (.move (ci 0))] []) (.block 0 (.loop (.seq (.seq (rt [o1 6 (.move (tm 4)),o1 7 (.move (tm 0)),o1 8 (.lenS (tm 7)),o1 9 (.bin (.lss) (tm 6) (tm 8))] [6,8]) (.cond (tm 9) (.skip) (.exit 0))) (.seq (.block 1 (.seq (rt [o1 12 (.move (tm 0)),o1 13 (.move (tm 4)),o1 14 (.indexS (tm 12) (tm 13)),o1 5 (.move (tm 14))] [12,14]) (.seq (.seq (rt [o1 15 (.move (tm 5)),o1 16 (.bin (.geq) (tm 15) (cu 97)),o1 17 (.move (tm 16)),o2 18 (.move (tm 5)) 17 true,o2 19 (.bin (.leq) (tm 18) (cu 122)) 17 true,o1 20 (.pick (tm 17) (tm 19) (cb false))] [15,19]) (.cond (tm 20) (rt [o1 21 (.move (tm 5)),o1 22 (.bin (.sub) (tm 21) (cu 32)),o1 5 (.move (tm 22))] [21,22]) (.skip))) (rt [o1 23 (.move (tm 3)),o1 24 (.move (tm 5)),o1 25 (.buildSlice 1 1 [.val (.int (.u8) 0)] [(0,1,tm 24)]),o1 26 (.append 5 1 1 (tm 23) (tm 25)),o1 3 (.move (tm 26))] [23,26])))) (rt [o1 10 (.move (tm 4)),o1 11 (.bin (.add) (tm 10) (ci 1)),o1 4 (.move (tm 11))] [10,11])))))) (.seq (rt [o1 27 (.move (tm 3)),o1 28 (.convB (tm 27)),o1 2 (.move (tm 28))] [27,28]) (.ret))))
def qD:List VRes:=[.tmp 2]
theorem ya:FnOk Tryz.prog dm qC qD 29:=
 ⟨⟨Tryz.f36,_,Tryz.func36,by decide,rfl,by kernel_rfl,by kernel_rfl,by kernel_rfl,rfl⟩⟩

def n6:VCode:=
 .seq (rt [o1 2 (.move (ci 0)),o1 3 (.move (ci 0))] []) (.seq (rt [o1 4 (.move (ci 0)),o1 5 (.move (ci 0))] []) (.seq (.block 0 (.loop (.seq (.seq (rt [o1 7 (.move (tm 0)),o1 8 (.eqN true (tm 7))] [7,7]) (.cond (tm 8) (.skip) (.exit 0))) (.block 1 (.seq (rt [o1 6 (.alloc [.val (.nilp)])] []) (.seq (.seq (rt [o1 9 (.move (tm 0)),o1 10 (.mkIface 56 (tm 6)),o1 11 (.callM eL [tm 9,tm 10]),o1 12 (.un (.not) (tm 11)),o1 13 (.move (tm 12)),o2 14 (.load none (tm 6)) 13 false,o2 15 (.eqP false (tm 14)) 13 false,o1 16 (.pick (tm 13) (cb true) (tm 15))] [9,15]) (.cond (tm 16) (.exit 0) (.skip))) (.region [o1 17 (.move (tm 4)),o1 18 (.load none (tm 6)),o1 19 (.nilCheck (tm 18)),o1 20 (.fieldAddr 0 (tm 19)),o1 21 (.load none (tm 20)),o1 22 (.bin (.add) (tm 17) (tm 21)),o1 23 (.move (tm 5)),o1 24 (.bin (.add) (tm 23) (ci 1)),o1 25 (.load none (tm 6)),o1 26 (.nilCheck (tm 25)),o1 27 (.fieldAddr 1 (tm 26)),o1 28 (.load none (tm 27)),o1 4 (.move (tm 22)),o1 5 (.move (tm 24)),o1 0 (.move (tm 28))] (.calm) [17,28]))))))) (.seq (rt [o1 29 (.move (tm 4)),o1 30 (.move (tm 5)),o1 2 (.move (tm 29)),o1 3 (.move (tm 30))] [29,30]) (.ret))))
def n7:List VRes:=[.tmp 2,.tmp 3]
theorem qE:FnOk Tryz.prog jD n6 n7 31:=
 ⟨⟨Tryz.f40,_,Tryz.func40,by decide,rfl,by kernel_rfl,by kernel_rfl,by kernel_rfl,rfl⟩⟩

def jn:VCode:=
 .seq (rt [o1 4 (.move (ci 0))] []) (.seq (rt [o1 5 (.move (tm 0)),o1 6 (.move (tm 1)),o1 7 (.call bm [tm 5,tm 6]),o1 4 (.move (tm 7))] [5,7]) (.ret))
def jo:List VRes:=[.tmp 4]
theorem oU:FnOk Tryz.prog aZ jn jo 8:=
 ⟨⟨Tryz.f60,_,Tryz.func60,by decide,rfl,by kernel_rfl,by kernel_rfl,by kernel_rfl,rfl⟩⟩

def AZ:VCode:=
 .seq (rt [o1 2 (.move (ci 0))] []) (.seq (.seq (rt [o1 5 (.move (tm 0)),o1 6 (.rangeS (tm 5))] [5,5]) (.block 0 (.loop (.seq (rt [o1 7 (.nextS (tm 6)),o1 8 (.extract (tm 7) 0)] []) (.seq (.cond (tm 8) (.skip) (.exit 0)) (.block 1 (.seq (rt [o1 9 (.extract (tm 7) 1),o1 10 (.extract (tm 7) 2),o1 3 (.move (tm 9)),o1 4 (.move (tm 10))] [9,10]) (.seq (rt [o1 11 (.move (tm 0)),o1 12 (.move (tm 3)),o1 13 (.move (tm 4)),o1 14 (.call mY [tm 11,tm 12,tm 13]),o1 15 (.move (tm 14)),o2 16 (.move (tm 4)) 15 false,o2 17 (.bin (.lss) (tm 16) (.const (.val (.int (.i32) 32)))) 15 false,o2 18 (.move (tm 17)) 15 false,o2 19 (.move (tm 4)) 18 true,o2 20 (.bin (.neq) (tm 19) (.const (.val (.int (.i32) 9)))) 18 true,o2 21 (.pick (tm 18) (tm 20) (cb false)) 15 false,o1 22 (.pick (tm 15) (cb true) (tm 21)),o1 23 (.move (tm 22)),o2 24 (.move (tm 4)) 23 false,o2 25 (.bin (.eql) (tm 24) (.const (.val (.int (.i32) 127)))) 23 false,o1 26 (.pick (tm 23) (cb true) (tm 25))] [11,25]) (.cond (tm 26) (.seq (rt [o1 27 (.move (tm 3)),o1 2 (.move (tm 27))] [27,27]) (.ret)) (.skip)))))))))) (.seq (rt [o1 2 (.move (ci (-1)))] []) (.ret)))
def B0:List VRes:=[.tmp 2]
theorem FH:FnOk Tryz.prog jV AZ B0 28:=
 ⟨⟨Tryz.f66,_,Tryz.func66,by decide,rfl,by kernel_rfl,by kernel_rfl,by kernel_rfl,rfl⟩⟩

def vO:VCode:=
 .seq (rt [o1 2 (.move (cs []))] []) (.seq (rt [o1 3 (.allocB 151)] []) (.seq (.seq (rt [o1 4 (.move (ci 0))] []) (.block 0 (.loop (.seq (.seq (rt [o1 6 (.move (tm 4)),o1 7 (.move (tm 0)),o1 8 (.lenS (tm 7)),o1 9 (.bin (.lss) (tm 6) (tm 8))] [6,8]) (.cond (tm 9) (.skip) (.exit 0))) (.seq (.block 1 (.seq (rt [o1 12 (.move (tm 0)),o1 13 (.move (tm 4)),o1 14 (.indexS (tm 12) (tm 13)),o1 5 (.move (tm 14))] [12,14]) (.seq (.seq (rt [o1 15 (.move (tm 5)),o1 16 (.bin (.leq) (cu 97) (tm 15)),o1 17 (.move (tm 16)),o2 18 (.move (tm 5)) 17 true,o2 19 (.bin (.leq) (tm 18) (cu 122)) 17 true,o1 20 (.pick (tm 17) (tm 19) (cb false))] [15,19]) (.cond (tm 20) (rt [o1 21 (.move (tm 5)),o1 22 (.bin (.sub) (tm 21) (cu 97)),o1 23 (.bin (.add) (tm 22) (cu 65)),o1 5 (.move (tm 23))] [21,23]) (.skip))) (rt [o1 24 (.move (tm 5)),o1 25 (.callM aH [tm 3,tm 24])] [24,25])))) (rt [o1 10 (.move (tm 4)),o1 11 (.bin (.add) (tm 10) (ci 1)),o1 4 (.move (tm 11))] [10,11])))))) (.seq (rt [o1 26 (.callM bg [tm 3]),o1 2 (.move (tm 26))] [26,26]) (.ret))))
def vP:List VRes:=[.tmp 2]
theorem Cf:FnOk Tryz.prog dP vO vP 27:=
 ⟨⟨Tryz.f67,_,Tryz.func67,by decide,rfl,by kernel_rfl,by kernel_rfl,by kernel_rfl,rfl⟩⟩

def yb:VCode:=
 .seq (rt [o1 4 (.move (.const (.val (.nili))))] []) (.seq (.seq (rt [o1 5 (.move (tm 0)),o1 6 (.eqN false (tm 5))] [5,5]) (.cond (tm 6) (.seq (rt [o1 4 (.move (.const (.val (.nili))))] []) (.ret)) (.skip))) (.seq (rt [o1 7 (.move (tm 1)),o1 8 (.move (tm 0)),o1 9 (.build [.val (.int (.i64) 0),.val (.nili)] [(0,1,tm 7),(1,1,tm 8)]),o1 10 (.box (tm 9)),o1 11 (.mkIface 54 (tm 10)),o1 4 (.move (tm 11))] [7,11]) (.ret)))
def yc:List VRes:=[.tmp 4]
theorem DV:FnOk Tryz.prog mX yb yc 12:=
 ⟨⟨Tryz.f68,_,Tryz.func68,by decide,rfl,by kernel_rfl,by kernel_rfl,by kernel_rfl,rfl⟩⟩

def vQ:VCode:=
 .seq (rt [o1 2 (.move (ci 0))] []) (.seq (.seq (rt [o1 3 (.move (ci 0))] []) (.block 0 (.loop (.seq (.seq (rt [o1 4 (.move (tm 3)),o1 5 (.move (tm 0)),o1 6 (.lenS (tm 5)),o1 7 (.bin (.lss) (tm 4) (tm 6))] [4,6]) (.cond (tm 7) (.skip) (.exit 0))) (.seq (.block 1 (.seq (rt [o1 13 (.move (tm 0)),o1 14 (.move (tm 3)),o1 15 (.call gU [tm 13,tm 14]),o1 16 (.bin (.eql) (tm 15) (ci 0)),o1 17 (.move (tm 16)),o2 18 (.move (tm 0)) 17 false,o2 19 (.move (tm 3)) 17 false,o2 20 (.indexS (tm 18) (tm 19)) 17 false,o2 21 (.bin (.lss) (tm 20) (cu 32)) 17 false,o2 22 (.move (tm 21)) 17 false,o2 23 (.move (tm 0)) 22 true,o2 24 (.move (tm 3)) 22 true,o2 25 (.indexS (tm 23) (tm 24)) 22 true,o2 26 (.bin (.neq) (tm 25) (cu 9)) 22 true,o2 27 (.pick (tm 22) (tm 26) (cb false)) 17 false,o1 28 (.pick (tm 17) (cb true) (tm 27)),o1 29 (.move (tm 28)),o2 30 (.move (tm 0)) 29 false,o2 31 (.move (tm 3)) 29 false,o2 32 (.indexS (tm 30) (tm 31)) 29 false,o2 33 (.bin (.eql) (tm 32) (cu 127)) 29 false,o1 34 (.pick (tm 29) (cb true) (tm 33))] [13,33]) (.cond (tm 34) (.seq (rt [o1 35 (.move (tm 3)),o1 2 (.move (tm 35))] [35,35]) (.ret)) (.skip)))) (rt [o1 8 (.move (tm 3)),o1 9 (.move (tm 0)),o1 10 (.move (tm 3)),o1 11 (.call gU [tm 9,tm 10]),o1 12 (.bin (.add) (tm 8) (tm 11)),o1 3 (.move (tm 12))] [8,12])))))) (.seq (rt [o1 2 (.move (ci (-1)))] []) (.ret)))
def vR:List VRes:=[.tmp 2]
theorem Cg:FnOk Tryz.prog gx vQ vR 36:=
 ⟨⟨Tryz.f74,_,Tryz.func74,by decide,rfl,by kernel_rfl,by kernel_rfl,by kernel_rfl,rfl⟩⟩

def de:VCode:=
 .seq (rt [o1 4 (.move (ci 0))] []) (.seq (rt [o1 5 (.move (tm 0)),o1 6 (.move (tm 1)),o1 7 (.call cR [tm 5,tm 6]),o1 4 (.move (tm 7))] [5,7]) (.ret))
def df:List VRes:=[.tmp 4]
theorem gJ:FnOk Tryz.prog bm de df 8:=
 ⟨⟨Tryz.f94,_,Tryz.func94,by decide,rfl,by kernel_rfl,by kernel_rfl,by kernel_rfl,rfl⟩⟩

def n9:VCode:=
 .seq (rt [o1 6 (.move (cb false))] []) (.seq (.seq (rt [o1 9 (.move (tm 2)),o1 10 (.bin (.neq) (tm 9) (.const (.val (.int (.i32) 65533))))] [9,9]) (.cond (tm 10) (.seq (rt [o1 6 (.move (cb false))] []) (.ret)) (.skip))) (.seq (rt [o1 12 (.move (tm 0)),o1 13 (.move (tm 1)),o1 14 (.subS (tm 12) (some (tm 13)) none),o1 15 (.call cY [tm 14]),o1 11 (.move (tm 15)),o1 16 (.extract (tm 11) 0),o1 17 (.extract (tm 11) 1),o1 7 (.move (tm 16)),o1 8 (.move (tm 17))] [7,7,11,17]) (.seq (rt [o1 18 (.move (tm 8)),o1 19 (.bin (.eql) (tm 18) (ci 1)),o1 6 (.move (tm 19))] [18,19]) (.ret))))
def nc:List VRes:=[.tmp 6]
theorem zN:FnOk Tryz.prog mY n9 nc 20:=
 ⟨⟨Tryz.f97,_,Tryz.func97,by decide,rfl,by kernel_rfl,by kernel_rfl,by kernel_rfl,rfl⟩⟩

def aT:VCode:=
 .seq (rt [o1 4 (.move (ci 0))] []) (.seq (rt [o1 8 (.move (tm 0)),o1 9 (.move (tm 1)),o1 10 (.indexS (tm 8) (tm 9)),o1 5 (.move (tm 10))] [8,10]) (.seq (.seq (rt [o1 11 (.move (tm 5)),o1 12 (.bin (.lss) (tm 11) (cu 128))] [11,11]) (.cond (tm 12) (.seq (rt [o1 4 (.move (ci 1))] []) (.ret)) (.skip))) (.seq (.seq (rt [o1 13 (.move (tm 5)),o1 14 (.bin (.geq) (tm 13) (cu 194)),o1 15 (.move (tm 14)),o2 16 (.move (tm 5)) 15 true,o2 17 (.bin (.leq) (tm 16) (cu 223)) 15 true,o1 18 (.pick (tm 15) (tm 17) (cb false)),o1 19 (.move (tm 18)),o2 20 (.move (tm 0)) 19 true,o2 21 (.move (tm 1)) 19 true,o2 22 (.bin (.add) (tm 21) (ci 1)) 19 true,o2 23 (.call dd [tm 20,tm 22,cu 128,cu 191]) 19 true,o1 24 (.pick (tm 19) (tm 23) (cb false))] [13,23]) (.cond (tm 24) (.seq (rt [o1 4 (.move (ci 2))] []) (.ret)) (.skip))) (.seq (rt [o1 6 (.move (cu 128)),o1 7 (.move (cu 191))] []) (.seq (.seq (rt [o1 25 (.move (tm 5)),o1 26 (.bin (.eql) (tm 25) (cu 224))] [25,25]) (.cond (tm 26) (rt [o1 6 (.move (cu 160))] []) (.skip))) (.seq (.seq (rt [o1 27 (.move (tm 5)),o1 28 (.bin (.eql) (tm 27) (cu 237))] [27,27]) (.cond (tm 28) (rt [o1 7 (.move (cu 159))] []) (.skip))) (.seq (.seq (rt [o1 29 (.move (tm 5)),o1 30 (.bin (.eql) (tm 29) (cu 240))] [29,29]) (.cond (tm 30) (rt [o1 6 (.move (cu 144))] []) (.skip))) (.seq (.seq (rt [o1 31 (.move (tm 5)),o1 32 (.bin (.eql) (tm 31) (cu 244))] [31,31]) (.cond (tm 32) (rt [o1 7 (.move (cu 143))] []) (.skip))) (.seq (.seq (rt [o1 33 (.move (tm 5)),o1 34 (.bin (.geq) (tm 33) (cu 224)),o1 35 (.move (tm 34)),o2 36 (.move (tm 5)) 35 true,o2 37 (.bin (.leq) (tm 36) (cu 239)) 35 true,o1 38 (.pick (tm 35) (tm 37) (cb false)),o1 39 (.move (tm 38)),o2 40 (.move (tm 0)) 39 true,o2 41 (.move (tm 1)) 39 true,o2 42 (.bin (.add) (tm 41) (ci 1)) 39 true,o2 43 (.move (tm 6)) 39 true,o2 44 (.move (tm 7)) 39 true,o2 45 (.call dd [tm 40,tm 42,tm 43,tm 44]) 39 true,o1 46 (.pick (tm 39) (tm 45) (cb false)),o1 47 (.move (tm 46)),o2 48 (.move (tm 0)) 47 true,o2 49 (.move (tm 1)) 47 true,o2 50 (.bin (.add) (tm 49) (ci 2)) 47 true,o2 51 (.call dd [tm 48,tm 50,cu 128,cu 191]) 47 true,o1 52 (.pick (tm 47) (tm 51) (cb false))] [33,51]) (.cond (tm 52) (.seq (rt [o1 4 (.move (ci 3))] []) (.ret)) (.skip))) (.seq (.seq (rt [o1 53 (.move (tm 5)),o1 54 (.bin (.geq) (tm 53) (cu 240)),o1 55 (.move (tm 54)),o2 56 (.move (tm 5)) 55 true,o2 57 (.bin (.leq) (tm 56) (cu 244)) 55 true,o1 58 (.pick (tm 55) (tm 57) (cb false)),o1 59 (.move (tm 58)),o2 60 (.move (tm 0)) 59 true,o2 61 (.move (tm 1)) 59 true,o2 62 (.bin (.add) (tm 61) (ci 1)) 59 true,o2 63 (.move (tm 6)) 59 true,o2 64 (.move (tm 7)) 59 true,o2 65 (.call dd [tm 60,tm 62,tm 63,tm 64]) 59 true,o1 66 (.pick (tm 59) (tm 65) (cb false)),o1 67 (.move (tm 66)),o2 68 (.move (tm 0)) 67 true,o2 69 (.move (tm 1)) 67 true,o2 70 (.bin (.add) (tm 69) (ci 2)) 67 true,o2 71 (.call dd [tm 68,tm 70,cu 128,cu 191]) 67 true,o1 72 (.pick (tm 67) (tm 71) (cb false)),o1 73 (.move (tm 72)),o2 74 (.move (tm 0)) 73 true,o2 75 (.move (tm 1)) 73 true,o2 76 (.bin (.add) (tm 75) (ci 3)) 73 true,o2 77 (.call dd [tm 74,tm 76,cu 128,cu 191]) 73 true,o1 78 (.pick (tm 73) (tm 77) (cb false))] [53,77]) (.cond (tm 78) (.seq (rt [o1 4 (.move (ci 4))] []) (.ret)) (.skip))) (.seq (rt [o1 4 (.move (ci 0))] []) (.ret))))))))))))
def aU:List VRes:=[.tmp 4]
theorem zO:FnOk Tryz.prog gU aT aU 79:=
 ⟨⟨Tryz.f101,_,Tryz.func101,by decide,rfl,by kernel_rfl,by kernel_rfl,by kernel_rfl,rfl⟩⟩

def t6:VCode:=
 .seq (rt [o1 8 (.move (cb false))] []) (.seq (rt [o1 9 (.move (tm 1)),o1 10 (.move (tm 0)),o1 11 (.lenS (tm 10)),o1 12 (.bin (.lss) (tm 9) (tm 11)),o1 13 (.move (tm 12)),o2 14 (.move (tm 0)) 13 true,o2 15 (.move (tm 1)) 13 true,o2 16 (.indexS (tm 14) (tm 15)) 13 true,o2 17 (.move (tm 2)) 13 true,o2 18 (.bin (.geq) (tm 16) (tm 17)) 13 true,o1 19 (.pick (tm 13) (tm 18) (cb false)),o1 20 (.move (tm 19)),o2 21 (.move (tm 0)) 20 true,o2 22 (.move (tm 1)) 20 true,o2 23 (.indexS (tm 21) (tm 22)) 20 true,o2 24 (.move (tm 3)) 20 true,o2 25 (.bin (.leq) (tm 23) (tm 24)) 20 true,o1 26 (.pick (tm 20) (tm 25) (cb false)),o1 8 (.move (tm 26))] [9,26]) (.ret))
def t7:List VRes:=[.tmp 8]
theorem zP:FnOk Tryz.prog dd t6 t7 27:=
 ⟨⟨Tryz.f116,_,Tryz.func116,by decide,rfl,by kernel_rfl,by kernel_rfl,by kernel_rfl,rfl⟩⟩

end Go.Vs.YtmaenhgipojmfaaGreatDoor
namespace Go.Vs.YtmaenhgipojmfaaGreatDoor
set_option linter.unusedSimpArgs false
set_option linter.unusedVariables false
open Go.Proofs
set_option maxRecDepth 100000
set_option maxHeartbeats 4000000
abbrev Str:=List UInt8
def upB (c:UInt8):UInt8:=if 97≤c∧c≤122 then c-32 else c
def upper (s:Str):Str:=s.map upB
@[simp] theorem Ny:upper []=[]:=rfl
theorem gy (s:Str):(upper s).length=s.length:=by simp[upper]
theorem yd {s:Str} {i:Nat} (h:i < s.length):upper (s.take (i+1))=upper (s.take i)++[upB s[i]]:=by
 unfold upper;rw[List.take_succ_eq_append_getElem h,List.map_append];rfl
theorem upB_yes {c:UInt8} (h1:97≤c.toNat) (h2:c.toNat≤122):(upB c).toNat=c.toNat-32:=by
 have a:(97:UInt8)≤c∧c≤122:=⟨by rw[UInt8.le_iff_toNat_le];simpa using h1,by rw[UInt8.le_iff_toNat_le];simpa using h2⟩
 rw[upB,if_pos a,UInt8.toNat_sub_of_le]
 ·rfl
 ·rw[UInt8.le_iff_toNat_le];simp;omega
theorem upB_no {c:UInt8} (h:¬(97≤c.toNat∧c.toNat≤122)):upB c=c:=by
 rw[upB,if_neg]
 rintro ⟨a,b⟩
 rw[UInt8.le_iff_toNat_le] at a b
 exact h ⟨by simpa using a,by simpa using b⟩
theorem l7 (c:UInt8):c.toNat < 256:=by have:=c.toNat_lt;simpa using this
theorem jW {i n:Nat} (h:i < n) (hn:n < 1000000):IntKind.i64.wrap ((i:Int)+1)=((i+1:Nat):Int):=by rw[IntKind.wrap_i64];omega
theorem m5 (s:Str) (hs:s.length < 1000000):Fn G Tryz.prog dP [.str s] (.str (upper s)):=by
 refine ac hm Cf (by simp) ?_
 simp[vO,vP]
 refine aA hm [] (fun i:Nat=>[(4,.val (.int .i64 i))]) (fun i=>[(3,.box [.selfN 3 151 false,.ownT 1 i 5]),(1,.arr i 1 (av (upper (s.take i))))]) (fun i=>i≤s.length) (fun i=>s.length-i) 0 (by omega) ?_ ?_
 ·exact aS.trans (m3 (k:=3) (d:=3) (t:=151) 1 5 (by simp) (by simp) (by simp[ap,a8]) (by simp[a8]) (by simp)) (an rfl rfl (by simp[St.bld,aR,ap,a8,put,ba,SV.erase]) (by simp[St.bld,bM,a8,put,aE,cc,Ob.erase,SV.erase,av]) (by simp[St.bld,bQ]))
 intro i hi
 simp
 refine Iv (fun h=>?_) (fun h=>?_)
 ·obtain ⟨c,hc⟩:∃ c,c=s[i]:=⟨_,rfl⟩
  have ht:=yd h
  rw[←hc] at ht
  have hc':s[i]?=some c:=by rw[hc];exact List.getElem?_eq_getElem h
  have hlt:=l7 c
  have hwb:=em i (upper (s.take i)) (upB c) (by rw[gy,List.length_take];omega)
  simp[hc']
  refine Iv (fun h1=>?_) (fun h1=>?_)
  ·simp
   refine Iv (fun h2=>?_) (fun h2=>?_)
   ·have hw:IntKind.u8.wrap (IntKind.u8.wrap ((c.toNat:Int)-97)+65)=((upB c).toNat:Int):=by
     rw[upB_yes (by omega) (by omega),wrap_u8 (x:=(c.toNat:Int)-97) (by omega) (by omega),wrap_u8 (by omega) (by omega)];omega
    simp[hw]
    refine callM [(1000,3),(1001,1)] [] hwb rfl rfl ⟨rfl,rfl,trivial⟩ ⟨rfl,_,_,rfl,rfl,rfl⟩ rfl ?_
    simp[bb,jW h hs]
    refine ae (i+1) (by omega) (by omega) ?_
    simp[ht]
    exact aQ
   ·have hw:=upB_no (c:=c) (by omega)
    rw[hw] at hwb ht
    simp
    refine callM [(1000,3),(1001,1)] [] hwb rfl rfl ⟨rfl,rfl,trivial⟩ ⟨rfl,_,_,rfl,rfl,rfl⟩ rfl ?_
    simp[bb,jW h hs]
    refine ae (i+1) (by omega) (by omega) ?_
    simp[ht]
    exact aQ
  ·have hw:=upB_no (c:=c) (by omega)
   rw[hw] at hwb ht
   simp
   refine callM [(1000,3),(1001,1)] [] hwb rfl rfl ⟨rfl,rfl,trivial⟩ ⟨rfl,_,_,rfl,rfl,rfl⟩ rfl ?_
   simp[bb,jW h hs]
   refine ae (i+1) (by omega) (by omega) ?_
   simp[ht]
   exact aQ
 ·obtain rfl:i=s.length:=by omega
  simp
  refine callM [(1000,3),(1001,1)] [] (iq s.length (upper s) (by rw[gy];omega)) rfl rfl (by simp[oK,bb,Vs.ren,a8,Ob.ren,SV.ren]) ⟨rfl,rfl⟩ rfl ?_
  simp
theorem t8 (l:Str):mM (av l)=some l:=by
 induction l with
 | nil=>rfl
 | cons c r ih=>
  simp only[av,List.map_cons,mM] at ih ⊢
  rw[ih]
  simp
theorem m6 (s:Str) (hs:s.length < 1000000):Fn G Tryz.prog dm [.str s] (.str (upper s)):=by
 refine ac hm ya (by simp) ?_
 simp[qC,qD]
 refine aA hm [] (fun i:Nat=>[(4,.val (.int .i64 i)),(3,.own 3 i)]) (fun i=>[(3,.arr i 1 (av (upper (s.take i))))]) (fun i=>i≤s.length) (fun i=>s.length-i) 0 (by omega) ?_ ?_
 ·simp[av]
  exact aS.trans (ce (k:=3) 3 1 (by simp) (by simp[ap,a8])) (an rfl rfl (by simp[St.adopt,aR,ap,a8,put,ba,SV.erase]) (by simp[St.adopt,bM,a8,put,aE,Ob.erase]) (by simp[St.adopt,bQ]))
 intro i hi
 simp
 refine Iv (fun h=>?_) (fun h=>?_)
 ·obtain ⟨c,hc⟩:∃ c,c=s[i]:=⟨_,rfl⟩
  have ht:=yd h
  rw[←hc] at ht
  have hc':s[i]?=some c:=by rw[hc];exact List.getElem?_eq_getElem h
  have hlt:=l7 c
  have hb:(av (upper (s.take i))).length≤1000000:=by simp[av,gy];omega
  simp[hc']
  refine Iv (fun h1=>?_) (fun h1=>?_)
  ·simp
   refine Iv (fun h2=>?_) (fun h2=>?_)
   ·have hw:IntKind.u8.wrap ((c.toNat:Int)-32)=((upB c).toNat:Int):=by
     rw[upB_yes (by omega) (by omega),wrap_u8 (by omega) (by omega)];omega
    simp[hw,jW h hs]
    refine ⟨by omega,?_⟩
    refine ae (i+1) (by omega) (by omega) ?_
    simp[ht,cJ]
    exact aQ
   ·have hw:=upB_no (c:=c) (by omega)
    rw[hw] at ht
    simp[jW h hs]
    refine ⟨by omega,?_⟩
    refine ae (i+1) (by omega) (by omega) ?_
    simp[ht,cJ]
    exact aQ
  ·have hw:=upB_no (c:=c) (by omega)
   rw[hw] at ht
   simp[jW h hs]
   refine ⟨by omega,?_⟩
   refine ae (i+1) (by omega) (by omega) ?_
   simp[ht,cJ]
   exact aQ
 ·obtain rfl:i=s.length:=by omega
  simp[t8]

/-! faults -/
theorem dF (e a:Int):Fn G Tryz.prog aX [.int .i64 e,.int .i64 a] (if e=0 then .nili else cl e [a]):=by
 refine ac hm Ce (by simp) ?_
 simp[vM,vN]
 refine Iv (fun h=>?_) (fun h=>?_)
 ·simp[h]
 ·simp[h,cl]
theorem aV (n:Int) (ps:List Int):∃ t v,cl n ps=.iface t v:=by
 cases ps with
 | nil=>exact ⟨_,_,rfl⟩
 | cons p r=>exact ⟨_,_,rfl⟩
theorem Mr (n:Int) (ps:List Int) (a:Int):Fn G Tryz.prog mX [cl n ps,.int .i64 a] (cl n (a::ps)):=by
 refine ac hm DV (by simp) ?_
 obtain ⟨t,v,h⟩:=aV n ps
 simp only[cl,h]
 simp[yb,yc]
theorem DW:Fn G Tryz.prog dT [.nili] (.int .i64 0):=by
 refine ac hm qB (by simp) ?_
 simp[mZ,n5]
theorem wW (n:Int) (ps:List Int):Fn G Tryz.prog dT [cl n ps] (.int .i64 n):=by
 refine ac hm qB (by simp) ?_
 have hA:=FG n 0 ps
 obtain ⟨t,v,h⟩:=aV n ps
 rw[h] at hA ⊢
 simp[mZ,n5]
 refine callM [(1000,3)] [] hA rfl rfl ⟨rfl,trivial⟩ ⟨[],[],rfl,⟨rfl,rfl⟩,rfl⟩ rfl ?_
 simp
end Go.Vs.YtmaenhgipojmfaaGreatDoor
