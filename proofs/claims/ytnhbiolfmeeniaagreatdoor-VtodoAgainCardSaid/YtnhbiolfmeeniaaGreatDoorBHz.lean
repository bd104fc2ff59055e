/- A part of a proof. No conditions. -/
import Derived.Shelf.Strings.Builder1
import Derived.Shelf.Strings.OnBuilder
import Derived.Shelf.LaysM
import Derived.Shelf.Strconv.Itoa3
import Derived.Shelf.Unicode.DecodeSlow
import Derived.Shelf.Unicode.DecodeAny
import Derived.Test.YtnhbiolfmeeniaaGreatDoorProg
import GoSem.Core.Utf8
import Derived.Test.YtnhbiolfmeeniaaGreatDoorBGz
import Derived.Laws.Externs
set_option linter.all false
set_option maxRecDepth 100000
set_option maxHeartbeats 4000000
namespace Go.Proofs
open Go.Shelf
def Tryz.lays156_ren:Go.Shelf.Ren:=⟨fun|156=>119|165=>168|166=>169|169=>133|240=>189|241=>217|276=>230|277=>255|n=>n,fun|31=>90|9=>9|3=>3|4=>4|0=>0|20=>20|72=>223|76=>171|70=>221|37=>133|75=>40|127=>281|164=>142|5=>5|80=>225|n=>n,fun|n=>n⟩
theorem Tryz.lays156:Go.Proofs.Lays.n156 Tryz.prog Tryz.lays156_ren:={
 mixed:=by kernel_rfl
 f156:=Tryz.func119.trans (congrArg some (by kernel_rfl))
 f165:=Tryz.func168.trans (congrArg some (by kernel_rfl))
 f166:=Tryz.func169.trans (congrArg some (by kernel_rfl))
 f169:=Tryz.func133.trans (congrArg some (by kernel_rfl))
 f240:=Tryz.func189.trans (congrArg some (by kernel_rfl))
 f241:=Tryz.func217.trans (congrArg some (by kernel_rfl))
 f276:=Tryz.func230.trans (congrArg some (by kernel_rfl))
 f277:=Tryz.func255.trans (congrArg some (by kernel_rfl))
 t0:=Tryz.underlying0
 a0:=Tryz.isAgg0
 z0:=Tryz.sizeOf0
 v0:=Tryz.zeroValue0
 t3:=Tryz.underlying3
 a3:=Tryz.isAgg3
 z3:=Tryz.sizeOf3
 v3:=Tryz.zeroValue3
 t4:=Tryz.underlying4
 a4:=Tryz.isAgg4
 z4:=Tryz.sizeOf4
 v4:=Tryz.zeroValue4
 t9:=Tryz.underlying9
 a9:=Tryz.isAgg9
 z9:=Tryz.sizeOf9
 v9:=Tryz.zeroValue9
 t20:=Tryz.underlying20
 a20:=Tryz.isAgg20
 z20:=Tryz.sizeOf20
 v20:=Tryz.zeroValue20
 t31:=Tryz.underlying90
 a31:=Tryz.isAgg90
 z31:=Tryz.sizeOf90
 v31:=Tryz.zeroValue90
 t37:=Tryz.underlying133
 a37:=Tryz.isAgg133
 z37:=Tryz.sizeOf133
 v37:=Tryz.zeroValue133
 t70:=Tryz.underlying221
 a70:=Tryz.isAgg221
 z70:=Tryz.sizeOf221
 v70:=Tryz.zeroValue221
 t72:=Tryz.underlying223
 a72:=Tryz.isAgg223
 z72:=Tryz.sizeOf223
 v72:=Tryz.zeroValue223
 t75:=Tryz.underlying40
 a75:=Tryz.isAgg40
 z75:=Tryz.sizeOf40
 v75:=Tryz.zeroValue40
 t76:=Tryz.underlying171
 a76:=Tryz.isAgg171
 z76:=Tryz.sizeOf171
 v76:=Tryz.zeroValue171
 t127:=Tryz.underlying281
 a127:=Tryz.isAgg281
 z127:=Tryz.sizeOf281
 v127:=Tryz.zeroValue281
 t164:=Tryz.underlying142
 a164:=Tryz.isAgg142
 z164:=Tryz.sizeOf142
 v164:=Tryz.zeroValue142 }
theorem Tryz.Builder_Extra_156:Builder.Extra Tryz.prog Tryz.lays156_ren:={
 sizeBuilder:=by kernel_rfl
 liesBuilder:=by kernel_rfl
 t5:=Tryz.underlying5
 a5:=Tryz.isAgg5
 z5:=Tryz.sizeOf5
 v5:=Tryz.zeroValue5
 infoByte:=by kernel_rfl
 cellsByte:=by kernel_rfl
 sizeByte:=by kernel_rfl
 neB5:=by decide }
open Go.RowKit in
theorem Tryz.strings_Join_none(a:Option Addr)(c:Nat)(b:ByteArray)(w:World) :
  Calls Tryz.prog 119 #[.slice a 0 c,.string b] w fun e d=>e=.returned (.string ⟨#[]⟩)/\d=w:=Any.strings_Join_none Tryz.lays156 Tryz.Builder_Extra_156 a c b w
open Go.RowKit in
theorem Tryz.strings_Join(h o c:Nat)(d:List ByteArray)(a:ByteArray)(w:World)(b:∀(j:Nat) x,d[j]?=some x->w.cell? ⟨h,o+j,none⟩=some (.string x))(i:h<w.heap.size)(k:d.length<=140737488355328)(f:d.length<=c)(g:(Lib.join (d.map (·.data.toList)) a.data.toList).length<=140737488355328) :
  Calls Tryz.prog 119 #[.slice (some ⟨h,o,none⟩) d.length c,.string a] w fun e l=>e=.returned (.string ⟨(Lib.join (d.map (·.data.toList)) a.data.toList).toArray⟩)/\Below w.heap.size w l:=Any.strings_Join Tryz.lays156 Tryz.Builder_Extra_156 h o c d a w b i k f g
def Tryz.lays197_ren:Go.Shelf.Ren:=⟨fun|197=>135|260=>191|n=>n,fun|9=>9|21=>21|3=>3|4=>4|5=>5|105=>227|119=>320|0=>0|46=>204|139=>323|138=>322|n=>n,fun|3=>3|4=>4|n=>n⟩
theorem Tryz.lays197:Go.Proofs.Lays.n197 Tryz.prog Tryz.lays197_ren:={
 mixed:=by kernel_rfl
 f197:=Tryz.func135.trans (congrArg some (by kernel_rfl))
 f260:=Tryz.func191.trans (congrArg some (by kernel_rfl))
 t0:=Tryz.underlying0
 a0:=Tryz.isAgg0
 z0:=Tryz.sizeOf0
 v0:=Tryz.zeroValue0
 t3:=Tryz.underlying3
 a3:=Tryz.isAgg3
 z3:=Tryz.sizeOf3
 v3:=Tryz.zeroValue3
 t4:=Tryz.underlying4
 a4:=Tryz.isAgg4
 z4:=Tryz.sizeOf4
 v4:=Tryz.zeroValue4
 t5:=Tryz.underlying5
 a5:=Tryz.isAgg5
 z5:=Tryz.sizeOf5
 v5:=Tryz.zeroValue5
 t9:=Tryz.underlying9
 a9:=Tryz.isAgg9
 z9:=Tryz.sizeOf9
 v9:=Tryz.zeroValue9
 t21:=Tryz.underlying21
 a21:=Tryz.isAgg21
 z21:=Tryz.sizeOf21
 v21:=Tryz.zeroValue21
 t46:=Tryz.underlying204
 a46:=Tryz.isAgg204
 z46:=Tryz.sizeOf204
 v46:=Tryz.zeroValue204
 t105:=Tryz.underlying227
 a105:=Tryz.isAgg227
 z105:=Tryz.sizeOf227
 v105:=Tryz.zeroValue227
 t119:=Tryz.underlying320
 a119:=Tryz.isAgg320
 z119:=Tryz.sizeOf320
 t138:=Tryz.underlying322
 a138:=Tryz.isAgg322
 z138:=Tryz.sizeOf322
 v138:=Tryz.zeroValue322
 t139:=Tryz.underlying323
 a139:=Tryz.isAgg323
 z139:=Tryz.sizeOf323
 v139:=Tryz.zeroValue323
 g3:=by kernel_rfl
 g4:=by kernel_rfl }
open Go.RowKit Go.Lib in
theorem Tryz.utf8_DecodeRuneInString(s:ByteArray)(w:World)(hT:Lib.Utf8Tabs 3 4 w) :
  Calls Tryz.prog 135 #[.string s] w fun e a=>e=.returned (.tuple #[.int .i32 (Lib.decodeGo s).1,.int .i64 (Lib.decodeGo s).2])/\Below w.heap.size w a:=Any.utf8_DecodeRuneInString Tryz.lays197 s w hT
end Go.Proofs
namespace Go.Vs.U8
open Go
abbrev Str:=List UInt8
def tl(l:Str)(k lo hi:Nat):Bool:=match l[k]? with
 |some b=>decide (lo<=b.toNat)&&decide (b.toNat<=hi)
 |none=>false
def lo1(n:Nat):Nat:=if n=224 then 160 else if n=240 then 144 else 128
def Ng(n:Nat):Nat:=if n=237 then 159 else if n=244 then 143 else 191
def gh:Str->Nat
 |[]=>0
 |c::r=>
  if c.toNat<128 then 1
  else if (decide (194<=c.toNat)&&decide (c.toNat<=223)&&tl r 0 128 191)=true then 2
  else if (decide (224<=c.toNat)&&decide (c.toNat<=239)&&tl r 0 (lo1 c.toNat) (Ng c.toNat)&&tl r 1 128 191)=true then 3
  else if (decide (240<=c.toNat)&&decide (c.toNat<=244)&&tl r 0 (lo1 c.toNat) (Ng c.toNat)&&tl r 1 128 191&&tl r 2 128 191)=true then 4
  else 0
theorem ae9{l:Str}{k a c:Nat}(h:tl l k a c=true):∃b,l[k]?=some b/\a<=b.toNat/\b.toNat<=c:=by
 unfold tl at h;split at h
 .next b d=>simp at h;exact⟨b,d,h.1,h.2⟩
 simp at h
theorem Kr{l:Str}{k lo hi:Nat}(h:tl l k lo hi=true):k<l.length:=by
 obtain⟨b,a,_⟩:=ae9 h;exact(List.getElem?_eq_some_iff.1 a).1
theorem T5(l:Str):gh l<=l.length:=by
 cases l with
 |nil=>simp[gh]
 |cons c r=>
  simp only[gh,List.length_cons];split
  .omega
  split
  .next h=>simp only[Bool.and_eq_true]at h;have:=Kr h.2;omega
  split
  .next h=>simp only[Bool.and_eq_true]at h;have:=Kr h.2;omega
  split
  .next h=>simp only[Bool.and_eq_true]at h;have:=Kr h.2;omega
  omega
def rr(l:Str):Bool:=match l with
 |[]=>false
 |c::_=>gh l==0||(decide (c.toNat<32)&&!decide (c.toNat=9))||decide (c.toNat=127)
def Z8:Nat->Str->Option Nat
 |0,_=>none
 |f+1,l=>match l with
  |[]=>none
  |_::_=>if rr l then some 0 else (Z8 f (l.drop (gh l))).map (· + gh l)
theorem D7{l:Str}(h:rr l=false)(a:l≠[]):1<=gh l:=by
 cases l with
 |nil=>exact absurd rfl a
 |cons c r=>simp only[rr,Bool.or_eq_false_iff,beq_eq_false_iff_ne]at h;omega
theorem P0:∀(f g:Nat) (l:Str),l.length<=f->l.length<=g->Z8 f l=Z8 g l
 |0,0,_,_,_=>rfl
 |0,g+1,l,h,_=>by obtain rfl:l=[]:=List.length_eq_zero_iff.1 (by omega);rfl
 |f+1,0,l,_,h=>by obtain rfl:l=[]:=List.length_eq_zero_iff.1 (by omega);rfl
 |f+1,g+1,l,a,b=>by
  cases l with
  |nil=>rfl
  |cons c r=>
   simp only[Z8];split
   .rfl
   next h=>
   have d:=D7 (by simpa using h) (by simp);rw[P0 f g _ (by rw[List.length_drop];omega) (by rw[List.length_drop];omega)]
def Hx(l:Str):Option Nat:=Z8 l.length l
@[simp] theorem ajM:Hx []=none:=rfl
theorem Ei{l:Str}(a:l≠[]):Hx l=if rr l then some 0 else (Hx (l.drop (gh l))).map (· + gh l):=by
 cases l with
 |nil=>exact absurd rfl a
 |cons c r=>
  unfold Hx;simp only[List.length_cons,Z8];split
  .rfl
  next h=>
  have b:=D7 (by simpa using h) (by simp);rw[P0 r.length ((c::r).drop (gh (c::r))).length _ (by rw[List.length_drop];simp;omega) (Nat.le_refl _)]
theorem ahU{s:Str}{i:Nat}(a:i<s.length)(h:Hx s=(Hx (s.drop i)).map (· + i)):Hx s=if rr (s.drop i)then some i else (Hx (s.drop (i+gh (s.drop i)))).map (· + (i+gh (s.drop i))):=by
 rw[h,Ei (by intro e;have:=congrArg List.length e;simp at this;omega)];split
 .simp
 rw[List.drop_drop];cases Hx (s.drop (i+gh (s.drop i)))with
 |none=>rfl
 |some k=>simp;omega
def T6(o:Option Nat):Int:=match o with
 |some k=>k
 |none=>-1
def dec(l:Str):Nat×Nat:=Utf8.decode ⟨l.toArray⟩ 0
theorem get_drop(s:Str)(p k:Nat):(⟨(s.drop p).toArray⟩:ByteArray).get! (0+k)=(⟨s.toArray⟩:ByteArray).get! (p+k):=by
 show(s.drop p).toArray[0+k]! = s.toArray[p+k]!;simp[List.getElem?_drop,getElem!_def]
theorem T7(s:Str)(p:Nat)(b:p<=s.length):Utf8.decode ⟨s.toArray⟩ p=dec (s.drop p):=by
 unfold dec Utf8.decode
 have a:∀k,(decide (0+k<(⟨(s.drop p).toArray⟩:ByteArray).size))=decide (p+k<(⟨s.toArray⟩:ByteArray).size):=by
  intro k;simp only[ByteArray.size,List.size_toArray,List.length_drop];congr 1;apply propext;omega
 simp only[get_drop,a]
def S7(l:Str)(k:Nat):Nat:=match l[k]? with
 |some b=>b.toNat
 |none=>0
theorem ahV(l:Str)(k:Nat):((⟨l.toArray⟩:ByteArray).get! k).toNat=S7 l k:=by
 show(l.toArray[k]!).toNat=_;unfold S7;simp only[getElem!_def,List.getElem?_toArray];cases l[k]?<;>rfl
theorem abW(l:Str)(k:Nat):S7 l k<256:=by
 unfold S7;split
 .next b _=>exact b.toNat_lt
 omega
theorem Xk(l:Str)(k a c:Nat)(d:0<a):tl l k a c=(decide (k<l.length)&&decide (a<=S7 l k)&&decide (S7 l k<=c)):=by
 unfold tl S7;cases h:l[k]? with
 |none=>
  have:¬k<l.length:=by rw[List.getElem?_eq_none_iff]at h;omega
  simp[this]
 |some b=>
  have:k<l.length:=(List.getElem?_eq_some_iff.1 h).1;simp[this]
theorem Z9(a b c d n:Nat)(w:b<256)(x:c<256)(y:d<256)(z:a<256)(D:Nat×Nat)(S:Nat)
  (f:D=if a<128 then (a,1)else if a/32=6/\1<n+1/\b/64=2 then if 128<=a%32*64+b%64 then (a%32*64+b%64,2)else (65533,1)
    else if (a/16=14/\1<n+1/\b/64=2)/\2<n+1/\c/64=2 then
     if 2048<=a%16*4096+b%64*64+c%64/\(0<=((a%16*4096+b%64*64+c%64:Nat):Int)/\((a%16*4096+b%64*64+c%64:Nat):Int)<55296\/57344<=((a%16*4096+b%64*64+c%64:Nat):Int)/\((a%16*4096+b%64*64+c%64:Nat):Int)<=1114111)then (a%16*4096+b%64*64+c%64,3)else (65533,1)
    else if ((a/8=30/\1<n+1/\b/64=2)/\2<n+1/\c/64=2)/\3<n+1/\d/64=2 then
     if 65536<=a%8*262144+b%64*4096+c%64*64+d%64/\(0<=((a%8*262144+b%64*4096+c%64*64+d%64:Nat):Int)/\((a%8*262144+b%64*4096+c%64*64+d%64:Nat):Int)<55296\/57344<=((a%8*262144+b%64*4096+c%64*64+d%64:Nat):Int)/\((a%8*262144+b%64*4096+c%64*64+d%64:Nat):Int)<=1114111)then (a%8*262144+b%64*4096+c%64*64+d%64,4)else (65533,1)
    else (65533,1))
  (g i:Nat) (k:g=lo1 a) (l:i=Ng a)
  (e:S=if a<128 then 1 else if (194<=a/\a<=223)/\(0<n/\128<=b)/\b<=191 then 2
    else if ((224<=a/\a<=239)/\(0<n/\g<=b)/\b<=i)/\(1<n/\128<=c)/\c<=191 then 3
    else if (((240<=a/\a<=244)/\(0<n/\g<=b)/\b<=i)/\(1<n/\128<=c)/\c<=191)/\(2<n/\128<=d)/\d<=191 then 4 else 0) :
  (a<128/\D=(a,1)/\S=1)\/(¬a<128/\S=0/\D=(65533,1))\/(¬a<128/\2<=S/\128<=D.1/\D.2=S):=by
 have p:(a=224/\g=160)\/(a=240/\g=144)\/(a≠224/\a≠240/\g=128):=by
  rw[k];unfold lo1;split
  .next h=>exact .inl ⟨h,rfl⟩
  split
  .next h=>exact .inr (.inl ⟨h,rfl⟩)
  next m o=>exact .inr (.inr ⟨m,o,rfl⟩)
 have q:(a=237/\i=159)\/(a=244/\i=143)\/(a≠237/\a≠244/\i=191):=by
  rw[l];unfold Ng;split
  .next h=>exact .inl ⟨h,rfl⟩
  split
  .next h=>exact .inr (.inl ⟨h,rfl⟩)
  next m o=>exact .inr (.inr ⟨m,o,rfl⟩)
 clear k l;by_cases j:a<128
 .rw[if_pos j]at f e;exact .inl ⟨j,f,e⟩
 right;rw[if_neg j]at f e;by_cases s:(194<=a/\a<=223)/\(0<n/\128<=b)/\b<=191
 .right;rw[if_pos s]at e;rw[if_pos (by omega),if_pos (by omega)]at f;subst f;subst e;exact⟨j,by omega,by show 128<=a%32*64+b%64;omega,rfl⟩
 rw[if_neg s]at e;by_cases u:((224<=a/\a<=239)/\(0<n/\g<=b)/\b<=i)/\(1<n/\128<=c)/\c<=191
 .right;rw[if_pos u]at e;rw[if_neg (by omega),if_pos (by omega),if_pos (by omega)]at f;subst f;subst e;exact⟨j,by omega,by show 128<=a%16*4096+b%64*64+c%64;omega,rfl⟩
 rw[if_neg u]at e;by_cases v:(((240<=a/\a<=244)/\(0<n/\g<=b)/\b<=i)/\(1<n/\128<=c)/\c<=191)/\(2<n/\128<=d)/\d<=191
 .right;rw[if_pos v]at e;rw[if_neg (by omega),if_neg (by omega),if_pos (by omega),if_pos (by omega)]at f;subst f;subst e;exact⟨j,by omega,by show 128<=a%8*262144+b%64*4096+c%64*64+d%64;omega,rfl⟩
 rw[if_neg v]at e;left;refine⟨j,e,?_⟩;rw[f];split
 .rw[if_neg (by omega)]
 split
 .rw[if_neg (by omega)]
 split
 .rw[if_neg (by omega)]
 rfl
theorem Za(c:UInt8)(r:Str):(c.toNat<128/\dec (c::r)=(c.toNat,1)/\gh (c::r)=1)\/(¬c.toNat<128/\gh (c::r)=0/\dec (c::r)=(65533,1))\/(¬c.toNat<128/\2<=gh (c::r)/\128<=(dec (c::r)).1/\(dec (c::r)).2=gh (c::r)):=by
 refine Z9 c.toNat (S7 r 0) (S7 r 1) (S7 r 2) r.length (abW _ _) (abW _ _) (abW _ _) c.toNat_lt _ _ ?_ _ _ rfl rfl ?_
 .have a:dec (c::r)=Utf8.decode ⟨(c::r).toArray⟩ 0:=rfl;unfold Utf8.decode at a;simp only[Nat.zero_add,ahV,ByteArray.size,List.size_toArray,List.length_cons]at a;rw[show S7 (c::r) 0=c.toNat from rfl,show S7 (c::r) 1=S7 r 0 from rfl,show S7 (c::r) 2=S7 r 1 from rfl,show S7 (c::r) 3=S7 r 2 from rfl]at a;rw[a];simp only[Utf8.valid,Utf8.runeError,Bool.and_eq_true,Bool.or_eq_true,decide_eq_true_eq,beq_iff_eq,ge_iff_le]
 have b:0<lo1 c.toNat:=by
  unfold lo1;split
  .omega
  split<;>omega
 simp only[gh,Xk r 0 128 191 (by omega),Xk r 1 128 191 (by omega),Xk r 2 128 191 (by omega),Xk r 0 (lo1 c.toNat) (Ng c.toNat) b,Bool.and_eq_true,decide_eq_true_eq]
end Go.Vs.U8
namespace Go.Vs.Y
open Go.Proofs Go.Proofs.YtnhbiolfmeeniaaGreatDoor Go.RowKit Go.Lib Go.Vs.U8
def qT(s:List UInt8)(c:UInt8):Int:=match s.findIdx? (· == c)with
 |some i=>i
 |none=>-1
theorem th(s:List UInt8)(c:UInt8):(qT s c = -1/\c∉s)\/∃i,qT s c=(i:Nat)/\s[i]?=some c/\c∉s.take i:=by
 unfold qT;cases h:s.findIdx? (· == c)with
 |none=>
  left;rw[List.findIdx?_eq_none_iff]at h;exact⟨rfl,fun a=>by have:=h c a;simp at this⟩
 |some i=>
  right;rw[List.findIdx?_eq_some_iff_getElem]at h;obtain⟨d,e,f⟩:=h;refine⟨i,rfl,?_,?_⟩
  .rw[List.getElem?_eq_getElem d];simpa using e
  intro a;obtain⟨j,g,b⟩:=List.mem_iff_getElem.1 a;rw[List.length_take]at g;rw[List.getElem_take]at b;have:=f j (by omega);simp[b]at this
theorem Qx{s:List UInt8}{c:UInt8}{i:Nat}(d:s[i]?=some c)(f:c∉s.take i):qT s c=i:=by
 rcases th s c with⟨_,h⟩|⟨j,h,g,k⟩
 .exact absurd (List.mem_of_getElem? d) h
 rw[h];have a:¬i<j:=fun l=>k (by rw[List.mem_take_iff_getElem];obtain⟨m,e⟩:=List.getElem?_eq_some_iff.1 d;exact⟨i,by omega,e⟩)
 have b:¬j<i:=fun l=>f (by rw[List.mem_take_iff_getElem];obtain⟨m,e⟩:=List.getElem?_eq_some_iff.1 g;exact⟨j,by omega,e⟩)
 omega
theorem Zc{s:List UInt8}{c:UInt8}(h:c∉s):qT s c = -1:=by
 rcases th s c with⟨a,_⟩|⟨j,_,b,_⟩
 .exact a
 exact absurd (List.mem_of_getElem? b) h
theorem Ks(s:List UInt8)(c:UInt8):qT s c<0↔c∉s:=by
 rcases th s c with⟨a,h⟩|⟨j,h,b,_⟩
 .rw[a];exact⟨fun _=>h,fun _=>by omega⟩
 rw[h];exact⟨fun h=>by omega,fun h=>absurd (List.mem_of_getElem? b) h⟩
theorem T8(s:List UInt8)(c:UInt8):firstIdx ⟨s.toArray⟩ c=qT s c:=by
 unfold firstIdx;have d:(⟨s.toArray⟩:ByteArray).size=s.length:=by simp[ByteArray.size]
 have a:∀i,i<s.length->(⟨s.toArray⟩:ByteArray)[i]! = s[i]?.getD 0:=by
  intro i f;have g:i<(⟨s.toArray⟩:ByteArray).size:=by rw[d];exact f
  rw[getElem!_pos (⟨s.toArray⟩:ByteArray) i g];show s.toArray[i]=_;simp[f]
 rw[d];cases n:(List.range s.length).find? fun i=>(⟨s.toArray⟩:ByteArray)[i]! == c with
 |none=>
  rw[List.find?_eq_none]at n;refine(Zc fun o=>?_).symm;obtain⟨j,b,l⟩:=List.mem_iff_getElem.1 o;have:=n j (List.mem_range.2 b);rw[a j b,List.getElem?_eq_getElem b]at this;simp[l]at this
 |some i=>
  obtain⟨g,h,u,m,q⟩:=List.find?_eq_some_iff_append.1 n;have f:i<s.length:=List.mem_range.1 (by rw[m];simp)
  have has:∀j,j<i->j∈h:=by
   intro j b;have e1:(List.range s.length)[h.length]?=some i:=by rw[m];simp
   have k:h.length<s.length:=by
    have:=congrArg List.length m;simp at this;omega
   rw[List.getElem?_range k]at e1;have e2:h.length=i:=Option.some.inj e1;have p:(List.range s.length)[j]?=h[j]?:=by rw[m,List.getElem?_append_left (by omega)]
   rw[List.getElem?_range (by omega)]at p;exact List.mem_of_getElem? p.symm
  rw[a i f]at g;refine(Qx ?_ ?_).symm
  .rw[List.getElem?_eq_getElem f]at g |-;simpa using g
  intro o;obtain⟨j,b,l⟩:=List.mem_iff_getElem.1 o;rw[List.length_take]at b;rw[List.getElem_take]at l;have:=q j (has j (by omega));rw[a j (by omega),List.getElem?_eq_getElem (by omega)]at this;simp[l]at this
theorem D8(s:List UInt8)(c:UInt8):Fn G Tryz.prog 216 [.str s,.int .u8 c.toNat] (.int .i64 (qT s c)):=by
 refine ON ⟨Tryz.f216,Tryz.func216,by decide⟩ ?_;rintro w S i ⟨g,_,rfl,a,h,_,rfl,b,d⟩;have a:g=.string ⟨s.toArray⟩:=a;have b:h=.int .u8 c.toNat:=b;have d:_=[]:=d;subst a;subst b;subst d;refine⟨.int .i64 (qT s c),?_,rfl⟩;have f:=run_callFunc_extern (P:=Tryz.prog) Tryz.func216 (by kernel_rfl) (by kernel_rfl) (by kernel_rfl) (e:=Extern.BytealgIndexByte.indexByte) (by kernel_rfl) #[.string ⟨s.toArray⟩,.int .u8 c.toNat] w;rw[run_indexByte_string]at f;have e1:((c.toNat:Int)).toNat.toUInt8=c:=by simp
 rw[e1,T8]at f;exact f
theorem ox{w:World}{S:bb} : ∀ {l:List IV} {b a j:Nat} {x:IV},aQ w S l b a->l[j]?=some x->∃v,w.cell? ⟨b,a+j,none⟩=some v/\sI w S x v
 |[],_,_,_,_,_,h=>by simp at h
 |y::r,b,a,0,x,⟨_,_,⟨v,c,d⟩,_⟩,h=>by
  simp only[List.getElem?_cons_zero,Option.some.injEq]at h;subst h;exact⟨v,c,d⟩
 |y::r,b,a,j+1,x,⟨_,_,_,e⟩,h=>by
  obtain⟨v,c,d⟩:=ox (j:=j) e (by simpa using h);exact⟨v,by rw[show a+(j+1)=a+1+j by omega];exact c,d⟩
theorem P5:((List.range 256).all fun c=>D6.getD c 0==(firstT c:Int))=true:=by kernel_rfl
theorem Qy:((List.range 16).all fun i=>VI.getD (2*i) 0==(accLo i:Int)&&VI.getD (2*i+1) 0==(accHi i:Int))=true:=by kernel_rfl
theorem Gp:D6.length=256:=by simp[D6]
theorem J7:VI.length=32:=rfl
theorem zg{zs:List Int}{j:Nat}(h:j<zs.length):(zs.map (IV.int .u8 ·))[j]?=some (.int .u8 (zs.getD j 0)):=by
 simp[h]
theorem ahW{w:World}{S:bb}(h:∀p,p∈G->jt w S p):Utf8Tabs 3 4 w:=by
 have k:=h (3,D6.map (.int .u8 ·)) (by simp[G]);have e:=h (4,VI.map (.int .u8 ·)) (by simp[G]);refine⟨fun c f=>?_,fun i g=>⟨?_,?_⟩⟩
 .obtain⟨v,b,a⟩:=ox k.1 (zg (j:=c) (by rw[Gp];exact f));have a:v=_:=a;have d:=List.all_eq_true.1 P5 c (List.mem_range.2 f);rw[beq_iff_eq]at d;rw[a,d,Nat.zero_add]at b;exact b
 .obtain⟨v,b,a⟩:=ox e.1 (zg (j:=2*i) (by rw[J7];omega));have a:v=_:=a;have d:=List.all_eq_true.1 Qy i (List.mem_range.2 g);rw[Bool.and_eq_true,beq_iff_eq,beq_iff_eq]at d;rw[a,d.1,Nat.zero_add]at b;exact b
 obtain⟨v,b,a⟩:=ox e.1 (zg (j:=2*i+1) (by rw[J7];omega));have a:v=_:=a;have d:=List.all_eq_true.1 Qy i (List.mem_range.2 g);rw[Bool.and_eq_true,beq_iff_eq,beq_iff_eq]at d;rw[a,d.2,Nat.zero_add]at b;exact b
theorem Nh(s:List UInt8)(d:s≠[]):Fn G Tryz.prog 135 [.str s] (.tuple [.int .i32 (dec s).1,.int .i64 (dec s).2]):=by
 refine E7 ⟨Tryz.f135,Tryz.func135,by decide⟩ ?_;rintro w S j k a ⟨f,_,rfl,b,c⟩;have b:f=.string ⟨s.toArray⟩:=b;have c:_=[]:=c;subst b;subst c;refine dq Tryz.func135 (by decide) ((Tryz.utf8_DecodeRuneInString ⟨s.toArray⟩ w (ahW a)).mono ?_);rintro e l ⟨rfl,g⟩
 have i:decodeGo ⟨s.toArray⟩=dec s:=by
  unfold decodeGo dec;rw[if_neg];have:(⟨s.toArray⟩:ByteArray).size=s.length:=by simp[ByteArray.size]
  rw[this];exact fun h=>d (List.length_eq_zero_iff.1 h)
 rw[i];exact⟨_,rfl,g,#[.int .i32 (dec s).1,.int .i64 (dec s).2],rfl,_,_,rfl,rfl,_,_,rfl,rfl,rfl⟩
def ts(l:List (List UInt8)):List (List IV):=l.map fun s=>[.str s]
theorem T9{w:World}{S:bb}{b:Nat} : ∀ {l:List (List UInt8)} {s a:Nat},bB w S (ts l) s b a->∀(j:Nat) x,(l.map fun x=>(⟨x.toArray⟩:ByteArray))[j]?=some x->w.cell? ⟨b,a+j,none⟩=some (.string x)
 |[],_,_,_,j,x,h=>by simp at h
 |y::r,s,a,⟨d,⟨_,_,⟨v,e,c⟩,_⟩,f⟩,0,x,h=>by
  simp only[List.map_cons,List.getElem?_cons_zero,Option.some.injEq]at h;subst h;have c:v=_:=c;rw[c]at e;exact e
 |y::r,s,a,⟨d,⟨_,_,_,_⟩,f⟩,j+1,x,h=>by
  have g:s=1:=by rw[<-d];rfl
  have:=T9 (l:=r) f j x (by simpa using h);rw[g]at this;rw[show a+(j+1)=a+1+j by omega];exact this
theorem afa(l:List (List UInt8))(b:List UInt8)(D:l.length<1000000)(q:(join l b).length<1000000):Fn G Tryz.prog 119 [.slice (ts l),.str b] (.str (join l b)):=by
 refine E7 ⟨Tryz.f119,Tryz.func119,by decide⟩ ?_;rintro w S E F v ⟨H,_,rfl,⟨a,g,rfl,h,c⟩,z,_,rfl,j,m⟩;have j:z=.string ⟨b.toArray⟩:=j;have m:_=[]:=m;subst j;subst m;have d:(ts l).length=l.length:=by simp[ts]
 rw[d]at h |-;by_cases f:l=[]
 .subst f;refine dq Tryz.func119 (by decide) ((Tryz.strings_Join_none a g ⟨b.toArray⟩ w).mono ?_);rintro e A ⟨rfl,rfl⟩;exact⟨_,rfl,Below.refl _ _,rfl⟩
 obtain⟨i,o,s,rfl,B⟩:=c (by simpa[ts]using f);have u:=T9 B
 have p:i<w.heap.size:=by
  obtain⟨y,r,rfl⟩:=List.exists_cons_of_ne_nil f;exact(sZ (u 0 _ rfl)).1
 have e1:(l.map fun x=>(⟨x.toArray⟩:ByteArray)).map (·.data.toList)=l:=by simp[Function.comp_def]
 have hm:(l.map fun x=>(⟨x.toArray⟩:ByteArray)).length=l.length:=by simp
 have:=Tryz.strings_Join i o g (l.map fun x=>⟨x.toArray⟩) ⟨b.toArray⟩ w u p (by omega) (by omega) (by rw[e1];simp only;omega);rw[e1,hm]at this;refine dq Tryz.func119 (by decide) (this.mono ?_);rintro e A ⟨rfl,C⟩;exact⟨_,rfl,C,rfl⟩
end Go.Vs.Y
namespace Go.Vs.Y
open Go.Proofs
def xi:VCode:=Q_ 2 [.n 0] (Q_ 3 [.Z (z_ [.i])] (.seq (C_ 4 10 [.m 0,.g (.eqN false (tm 4)),.w,.m 0,.g (.mkIface 107 (tm 3)),.g (.callM 49 [tm 7,tm 8]),.u,.O] (Q_ 2 [.n 0] .ret) .skip) (R_ 12 12 [.g (.load none (tm 3)),.a 2] .ret)))
theorem Bo:FnOk Tryz.prog 19 xi [.tmp 2] 13:=fK_ Tryz.func19
def Bp:VCode:=Q_ 2 [.n 0] (G_ 6 [.m 0,.c1 50,.a 5,.e 5 0,.e 5 1,.M 3 8,.a 4] [4,9] (R_ 10 10 [.m 3,.a 2] .ret))
theorem Kt:FnOk Tryz.prog 20 Bp [.tmp 2] 11:=fK_ Tryz.func20
def Hy:VCode:=Q_ 4 [.K (.const (.val .nili))] (.seq (C_ 5 5 [.m 0,.E 0] (Q_ 4 [.K (.const (.val .nili))] .ret) .skip) (R_ 7 12 [.m 1,.m 0,.g (.mkIface 43 (tm 8)),.g (.build [.val (.int .i64 0),.val .nili] [(0,1,tm 7),(1,1,tm 9)]),.X 10,.g (.mkIface 110 (tm 11)),.a 4] .ret))
theorem Qz:FnOk Tryz.prog 22 Hy [.tmp 4] 13:=fK_ Tryz.func22
def Ej:VCode:=Q_ 2 [.n 0,.n 0] (Q_ 4 [.n 0,.n 0] (.seq (.block 0 (.loop (.seq (C_ 7 7 [.m 0,.g (.eqN true (tm 7))] .skip (.exit 0)) (.block 1 (Q_ 6 [.Z [.val .nilp]] (.seq (C_ 9 15 [.m 0,.g (.mkIface 154 (tm 6)),.g (.callM 49 [tm 9,tm 10]),.u,.w,.g (.load none (tm 6)),.g (.eqP false (tm 14)),.O] (.exit 0) .skip) (.region (D_ [.m 4,.g (.load none (tm 6)),.k,.f 0,.l,.b .add,.m 5,.P 1,.g (.load none (tm 6)),.k,.f 1,.l,.M 4 22,.M 5 24,.a 0] 17) .calm [17,28]))))))) (R_ 29 30 [.m 4,.m 5,.M 2 29,.a 3] .ret)))
theorem Ni:FnOk Tryz.prog 50 Ej [.tmp 2,.tmp 3] 31:=fK_ Tryz.func50
def P6:VCode:=Q_ 2 [.n 0] (.seq (G_ 5 [.m 0,.g (.rangeS (tm 5))] [5,5] (.block 0 (.loop (Q_ 7 [.g (.nextS (tm 6)),.e 7 0] (.seq (c_ 8 .skip (.exit 0)) (.block 1 (R_ 9 10 [.e 7 1,.e 7 2,.M 3 9,.a 4] (C_ 11 25 [.m 0,.m 3,.m 4,.c3 88,.w,.m 4,.g (.bin .lss (tm 16) (.const (.val (.int .i32 32)))),.z,.m 4,.g (.bin .neq (tm 19) (.const (.val (.int .i32 9)))),.A,.O,.w,.m 4,.g (.bin .eql (tm 24) (.const (.val (.int .i32 127)))),.O] (R_ 27 27 [.m 3,.a 2] .ret) .skip)))))))) (Q_ 2 [.n (-1)] .ret))
theorem VJ:FnOk Tryz.prog 53 P6 [.tmp 2] 28:=fK_ Tryz.func53
def HA:VCode:=Q_ 2 [.K (cs [])] (Q_ 3 [.g (.allocB 223)] (.seq (Q_ 4 [.n 0] (.block 0 (.loop (.seq (C_ 6 8 [.m 4,.m 0,.h,.b .lss] .skip (.exit 0)) (.seq (.block 1 (R_ 12 14 [.m 0,.m 4,.y,.a 5] (.seq (C_ 15 19 [.m 5,.g (.bin .leq (cu 97) (tm 15)),.z,.m 5,.U .leq 122,.A] (X_ 21 23 [.m 5,.U .sub 97,.U .add 65,.a 5]) .skip) (X_ 24 25 [.m 5,.g (.callM 132 [tm 3,tm 24])])))) (X_ 10 11 [.m 4,.P 1,.a 4])))))) (R_ 26 26 [.g (.callM 133 [tm 3]),.a 2] .ret)))
theorem QA:FnOk Tryz.prog 85 HA [.tmp 2] 27:=fK_ Tryz.func85
def xk:VCode:=Q_ 6 [.K (cb false)] (.seq (C_ 9 9 [.m 2,.g (.bin .neq (tm 9) (.const (.val (.int .i32 65533))))] (Q_ 6 [.K (cb false)] .ret) .skip) (G_ 12 [.m 0,.m 1,.g (.subS (tm 12) (some (tm 13)) none),.c1 135,.a 11,.e 11 0,.e 11 1,.M 7 16,.a 8] [7,7,11,17] (R_ 18 19 [.m 8,.E 1,.a 6] .ret)))
theorem Nj:FnOk Tryz.prog 88 xk [.tmp 6] 20:=fK_ Tryz.func88
def rx:VCode:=Q_ 4 [.n 0] (R_ 5 7 [.m 0,.m 1,.c2 163,.a 4] .ret)
theorem zh:FnOk Tryz.prog 109 rx [.tmp 4] 8:=fK_ Tryz.func109
def Ku:VCode:=Q_ 4 [.K (.const (.val .nili))] (.seq (C_ 5 5 [.m 0,.g (.eqN false (tm 5))] (Q_ 4 [.K (.const (.val .nili))] .ret) .skip) (R_ 7 11 [.m 1,.m 0,.g (.build [.val (.int .i64 0),.val .nili] [(0,1,tm 7),(1,1,tm 8)]),.X 9,.g (.mkIface 110 (tm 10)),.a 4] .ret))
theorem Ta:FnOk Tryz.prog 145 Ku [.tmp 4] 12:=fK_ Tryz.func145
def ig:VCode:=Q_ 4 [.n 0] (R_ 5 7 [.m 0,.m 1,.c2 216,.a 4] .ret)
theorem o0:FnOk Tryz.prog 163 ig [.tmp 4] 8:=fK_ Tryz.func163
abbrev Str:=List UInt8
def upB(c:UInt8):UInt8:=if 97<=c/\c<=122 then c-32 else c
def upper(s:Str):Str:=s.map upB
@[simp] theorem aiP:upper []=[]:=rfl
theorem P8(s:Str):(upper s).length=s.length:=by simp[upper]
theorem VK{s:Str}{i:Nat}(h:i<s.length):upper (s.take (i+1))=upper (s.take i)++[upB s[i]]:=by
 unfold upper;rw[List.take_succ_eq_append_getElem h,List.map_append];rfl
theorem upB_yes{c:UInt8}(b:97<=c.toNat)(e:c.toNat<=122):(upB c).toNat=c.toNat-32:=by
 have a:(97:UInt8)<=c/\c<=122:=⟨by rw[UInt8.le_iff_toNat_le];simpa using b,by rw[UInt8.le_iff_toNat_le];simpa using e⟩;rw[upB,if_pos a,UInt8.toNat_sub_of_le]
 .rfl
 rw[UInt8.le_iff_toNat_le];simp;omega
theorem upB_no{c:UInt8}(h:¬(97<=c.toNat/\c.toNat<=122)):upB c=c:=by
 rw[upB,if_neg];rintro⟨a,b⟩;rw[UInt8.le_iff_toNat_le]at a b;exact h ⟨by simpa using a,by simpa using b⟩
theorem abX(c:UInt8):c.toNat<256:=by have:=c.toNat_lt;simpa using this
theorem Gq{i n:Nat}(h:i<n)(a:n<1000000):IntKind.i64.wrap ((i:Int)+1)=((i+1:Nat):Int):=by rw[IntKind.wrap_i64];omega
theorem Kw(s:Str)(f:s.length<1000000):Fn G Tryz.prog 85 [.str s] (.str (upper s)):=by
 refine ae hm QA (by simp) ?_;simp[HA];refine bx hm [] (fun i:Nat=>[(4,.val (.int .i64 i))]) (fun i=>[(3,.box [.selfN 3 223 false,.ownT 1 i 5]),(1,.arr i 1 (av (upper (s.take i))))]) (fun i=>i<=s.length) (fun i=>s.length-i) 0 (by omega) ?_ ?_
 .exact cJ.trans (E6 (k:=3) (d:=3) (t:=223) 1 5 (by simp) (by simp) (by simp[aE,ac]) (by simp[ac]) (by simp)) (an rfl rfl (by simp[St.bld,bj,aE,ac,put,dB,SV.erase]) (by simp[St.bld,bZ,ac,put,cp,fJ,Ob.erase,SV.erase,av]) (by simp[St.bld,bX]))
 intro i o;simp;refine brd (fun h=>?_) (fun h=>?_)
 .obtain⟨c,j⟩:∃c,c=s[i]:=⟨_,rfl⟩;have b:=VK h;rw[<-j]at b;have g:s[i]?=some c:=by rw[j];exact List.getElem?_eq_getElem h
  have l:=abX c;have a:=qe i (upper (s.take i)) (upB c) (by rw[P8,List.length_take];omega);simp[g];refine brd (fun m=>?_) (fun m=>?_)
  .simp;refine brd (fun n=>?_) (fun n=>?_)
   .have e:IntKind.u8.wrap (IntKind.u8.wrap ((c.toNat:Int)-97)+65)=((upB c).toNat:Int):=by
     rw[upB_yes (by omega) (by omega),wrap_u8 (x:=(c.toNat:Int)-97) (by omega) (by omega),wrap_u8 (by omega) (by omega)];omega
    simp[e];refine callM [(1000,3),(1001,1)] [] a rfl rfl ⟨rfl,rfl,trivial⟩ ⟨rfl,_,_,rfl,rfl,rfl⟩ rfl ?_;simp[de,Gq h f];refine aj (i+1) (by omega) (by omega) ?_;simp[b];exact bA
   have e:=upB_no (c:=c) (by omega);rw[e]at a b;simp;refine callM [(1000,3),(1001,1)] [] a rfl rfl ⟨rfl,rfl,trivial⟩ ⟨rfl,_,_,rfl,rfl,rfl⟩ rfl ?_;simp[de,Gq h f];refine aj (i+1) (by omega) (by omega) ?_;simp[b];exact bA
  have e:=upB_no (c:=c) (by omega);rw[e]at a b;simp;refine callM [(1000,3),(1001,1)] [] a rfl rfl ⟨rfl,rfl,trivial⟩ ⟨rfl,_,_,rfl,rfl,rfl⟩ rfl ?_;simp[de,Gq h f];refine aj (i+1) (by omega) (by omega) ?_;simp[b];exact bA
 obtain rfl:i=s.length:=by omega
 simp;refine callM [(1000,3),(1001,1)] [] (tf s.length (upper s) (by rw[P8];omega)) rfl rfl (by simp[gI,de,Vs.ren,ac,Ob.ren,SV.ren]) ⟨rfl,rfl⟩ rfl ?_;simp
theorem xm(l:Str):pZ (av l)=some l:=by
 induction l with
 |nil=>rfl
 |cons c r a=>
  simp only[av,List.map_cons,pZ]at a |-;rw[a];simp
theorem gQ(e a:Int):Fn G Tryz.prog 22 [.int .i64 e,.int .i64 a] (if e=0 then .nili else dD e [a]):=by
 refine ae hm Qz (by simp) ?_;simp[Hy];refine brd (fun h=>?_) (fun h=>?_)
 .simp[h]
 simp[h,dD]
theorem dQ(n:Int)(ps:List Int):∃t v,dD n ps=.iface t v:=by
 cases ps with
 |nil=>exact⟨_,_,rfl⟩
 |cons p r=>exact⟨_,_,rfl⟩
theorem agU(n:Int)(ps:List Int)(a:Int):Fn G Tryz.prog 145 [dD n ps,.int .i64 a] (dD n (a::ps)):=by
 refine ae hm Ta (by simp) ?_;obtain⟨t,v,h⟩:=dQ n ps;simp only[dD,h];simp[Ku]
theorem HD:Fn G Tryz.prog 19 [.nili] (.int .i64 0):=by
 refine ae hm Bo (by simp) ?_;simp[xi]
theorem AM(n:Int)(ps:List Int):Fn G Tryz.prog 19 [dD n ps] (.int .i64 n):=by
 refine ae hm Bo (by simp) ?_;have a:=Kp n 0 ps;obtain⟨t,v,h⟩:=dQ n ps;rw[h]at a |-;simp[xi];refine callM [(1000,3)] [] a rfl rfl ⟨rfl,trivial⟩ ⟨[],[],rfl,⟨rfl,rfl⟩,rfl⟩ rfl ?_;simp
end Go.Vs.Y
