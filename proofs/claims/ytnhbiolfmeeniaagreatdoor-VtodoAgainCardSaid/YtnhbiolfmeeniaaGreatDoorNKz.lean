/- A part of a proof. No conditions. -/
import Derived.Test.YtnhbiolfmeeniaaGreatDoorBWz
import Derived.Lib.LaidTab
set_option linter.all false
set_option maxRecDepth 100000
set_option maxHeartbeats 8000000
namespace Go.Vs.Y
open Go.Proofs Go.Vs.U8 Go.Vs.Pa Go.Vs.Nu Go.Lib
theorem Zn{u:Nat}(h:u<10):decDigits u=[UInt8.ofNat (48+u)]:=by rw[decDigits,dif_pos h]
theorem Xr{u:Nat}(h:¬u<10):decDigits u=decDigits (u/10)++[UInt8.ofNat (48+u%10)]:=by rw[decDigits,dif_neg h]
theorem afo{u:Nat}(h:u<10000000000000000000):(decDigits u).length<=19:=xo 18 u (by simpa using h)
def i64(n:Int):Prop:=-9223372036854775808<=n/\n<=9223372036854775807
theorem De{n:Int}(h:i64 n):(itoa n).length<=20:=by
 have:=afo (u:=n.natAbs) (by unfold i64 at h;omega);unfold itoa;split
 .simp;omega
 rw[show n.toNat=n.natAbs by omega];omega
end Go.Vs.Y
namespace Go.Proofs
open Go.Shelf
def Tryz.laysM171_ren:Go.Shelf.Ren:=⟨fun|171=>47|243=>79|246=>128|283=>185|284=>186|285=>187|286=>188|129=>184|317=>226|318=>227|319=>228|320=>229|337=>257|338=>258|n=>n,fun|3=>3|9=>9|2=>2|4=>4|171=>277|0=>0|53=>23|37=>133|5=>5|173=>279|212=>315|51=>275|20=>20|213=>316|46=>204|232=>353|233=>354|n=>n,fun|17=>2|18=>6|19=>7|n=>n⟩
theorem Tryz.laysM171:Go.Proofs.LaysM.n171 Tryz.prog Tryz.laysM171_ren:={
 mixed:=by kernel_rfl
 f129:=Tryz.func184.trans (congrArg some (by kernel_rfl))
 f171:=Tryz.func47.trans (congrArg some (by kernel_rfl))
 f243:=Tryz.func79.trans (congrArg some (by kernel_rfl))
 f246:=Tryz.func128.trans (congrArg some (by kernel_rfl))
 f283:=Tryz.func185.trans (congrArg some (by kernel_rfl))
 f284:=Tryz.func186.trans (congrArg some (by kernel_rfl))
 f285:=Tryz.func187.trans (congrArg some (by kernel_rfl))
 f286:=Tryz.func188.trans (congrArg some (by kernel_rfl))
 f317:=Tryz.func226.trans (congrArg some (by kernel_rfl))
 f318:=Tryz.func227.trans (congrArg some (by kernel_rfl))
 f319:=Tryz.func228.trans (congrArg some (by kernel_rfl))
 f320:=Tryz.func229.trans (congrArg some (by kernel_rfl))
 f337:=Tryz.func257.trans (congrArg some (by kernel_rfl))
 f338:=Tryz.func258.trans (congrArg some (by kernel_rfl))
 t0:=Tryz.underlying0
 a0:=Tryz.isAgg0
 z0:=Tryz.sizeOf0
 v0:=Tryz.zeroValue0
 t2:=Tryz.underlying2
 a2:=Tryz.isAgg2
 z2:=Tryz.sizeOf2
 v2:=Tryz.zeroValue2
 t3:=Tryz.underlying3
 a3:=Tryz.isAgg3
 z3:=Tryz.sizeOf3
 v3:=Tryz.zeroValue3
 t4:=Tryz.underlying4
 a4:=Tryz.isAgg4
 z4:=Tryz.sizeOf4
 v4:=Tryz.zeroValue4
 t5:=Tryz.underlying5
 a5:=Tryz.isAgg5
 z5:=Tryz.sizeOf5
 v5:=Tryz.zeroValue5
 t9:=Tryz.underlying9
 a9:=Tryz.isAgg9
 z9:=Tryz.sizeOf9
 v9:=Tryz.zeroValue9
 t20:=Tryz.underlying20
 a20:=Tryz.isAgg20
 z20:=Tryz.sizeOf20
 v20:=Tryz.zeroValue20
 t37:=Tryz.underlying133
 a37:=Tryz.isAgg133
 z37:=Tryz.sizeOf133
 v37:=Tryz.zeroValue133
 t46:=Tryz.underlying204
 a46:=Tryz.isAgg204
 z46:=Tryz.sizeOf204
 v46:=Tryz.zeroValue204
 t51:=Tryz.underlying275
 a51:=Tryz.isAgg275
 z51:=Tryz.sizeOf275
 v51:=Tryz.zeroValue275
 t53:=Tryz.underlying23
 a53:=Tryz.isAgg23
 z53:=Tryz.sizeOf23
 v53:=Tryz.zeroValue23
 t171:=Tryz.underlying277
 a171:=Tryz.isAgg277
 z171:=Tryz.sizeOf277
 v171:=Tryz.zeroValue277
 t173:=Tryz.underlying279
 a173:=Tryz.isAgg279
 z173:=Tryz.sizeOf279
 v173:=Tryz.zeroValue279
 t212:=Tryz.underlying315
 a212:=Tryz.isAgg315
 z212:=Tryz.sizeOf315
 v212:=Tryz.zeroValue315
 t213:=Tryz.underlying316
 a213:=Tryz.isAgg316
 z213:=Tryz.sizeOf316
 t232:=Tryz.underlying353
 a232:=Tryz.isAgg353
 z232:=Tryz.sizeOf353
 v232:=Tryz.zeroValue353
 t233:=Tryz.underlying354
 a233:=Tryz.isAgg354
 z233:=Tryz.sizeOf354
 v233:=Tryz.zeroValue354
 g17:=by kernel_rfl
 g18:=by kernel_rfl
 g19:=by kernel_rfl
 i0:=by kernel_rfl
 i2:=by kernel_rfl
 i3:=by kernel_rfl
 i4:=by kernel_rfl
 i5:=by kernel_rfl
 i9:=by kernel_rfl
 i20:=by kernel_rfl
 i37:=by kernel_rfl
 i46:=by kernel_rfl
 i51:=by kernel_rfl
 i53:=by kernel_rfl
 i171:=by kernel_rfl
 i173:=by kernel_rfl
 i212:=by kernel_rfl
 i232:=by kernel_rfl
 i233:=by kernel_rfl
 m17:=by kernel_rfl
 m18:=by kernel_rfl
 m19:=by kernel_rfl }
open Go.RowKit Go.Sort Go.Lib in
theorem Tryz.strconv_Itoa(n:Int)(b:-9223372036854775808<=n)(c:n<=9223372036854775807)(w:World)(a:Lib.TabIs Tryz.prog w "internal/strconv.uint64pow10" .u64 Lib.pow10Tab) :
  Calls Tryz.prog 47 #[.int .i64 n] w fun e d=>e=.returned (.string ⟨(Lib.itoa n).toArray⟩)/\∃k f,d=grow (w.drewN k) f:=Any.strconv_Itoa Tryz.laysM171 n b c w a
end Go.Proofs
namespace Go.Vs.Y
open Go.Proofs Go.Proofs.YtnhbiolfmeeniaaGreatDoor Go.RowKit Go.Lib
theorem ah3{P:Program}{w:World}{S:bb}{a:String}{g:Nat}{k:IntKind}{zs:List Int}(m:P.globalNamed a=some g)(h:jt w S (g,zs.map (.int k ·))):TabIs P w a k zs:=by
 obtain⟨d,t,b⟩:=h;simp only[List.length_map]at d b;unfold World.shape? at b;split at b
 .next cs e p f=>
  simp only[Option.some.injEq,Prod.mk.injEq]at b;unfold TabIs World.var?;rw[m];simp only[Option.bind_some,f,Option.some.injEq];apply Array.ext
  .simpa using b.2
  intro i Ng n;have o:i<zs.length:=by omega
  obtain⟨v,l,c⟩:=ox (j:=i) (x:=.int k zs[i]) d (by simp[o]);have c:v=_:=c;subst c;simp only[World.cell?,f,Nat.zero_add]at l;have:cs[i]?=some (.int k zs[i]):=by simpa using l
  rw[Array.getElem?_eq_getElem Ng]at this;simpa using this
 cases b
theorem Ex(n:Int)(f:-9223372036854775808<=n)(h:n<=9223372036854775807):Fn G Tryz.prog 47 [.int .i64 n] (.str (itoa n)):=by
 refine E7 ⟨Tryz.f47,Tryz.func47,by decide⟩ ?_;rintro w S o p b ⟨i,_,rfl,c,d⟩;have c:i=.int .i64 n:=c;have d:_=[]:=d;subst c;subst d;have a:TabIs Tryz.prog w "internal/strconv.uint64pow10" .u64 pow10Tab:=ah3 (g:=2) (by kernel_rfl) (b (2,abJ.map (.int .u64 ·)) (by simp[G]));refine dq Tryz.func47 (by decide) ((Tryz.strconv_Itoa n f h w a).mono ?_);rintro e q ⟨rfl,k,s,rfl⟩;refine⟨_,rfl,?_,rfl⟩;exact⟨rfl,rfl,rfl,by simp[Go.Sort.grow,World.drewN],fun j m=>by rw[Go.Sort.grow];exact Array.getElem?_append_left m⟩
end Go.Vs.Y
namespace Go.Vs.Y
open Go.Proofs Go.Vs.U8 Go.Vs.Pa Go.Vs.Nu Go.Lib
theorem Xs{b:Nat}{c:UInt8} : ∀ {l:List Str},(∀x∈l,x.length<=b)->(join l [c]).length<=l.length*(b+1)
 |[],_=>by rw[join_nil];simp
 |[x],h=>by rw[join_one];have:=h x (by simp);simp;omega
 |x::y::r,h=>by
  have d:=Xs (c:=c) (l:=y::r) (fun z a=>h z (by simp at a |-;exact .inr a));have f:=h x (by simp)
  have e:join (x::y::r) [c]=x++c::join (y::r) [c]:=by
   rw[join_cons,join_cons];simp[joinTail]
  rw[e,List.length_append,List.length_cons];simp only[List.length_cons]at d |-;have:(r.length+1+1)*(b+1)=(r.length+1)*(b+1)+(b+1):=Nat.succ_mul _ _;omega
def nP{a:Type}(f:a->Str)(l:List a):Str:=join (l.map f) [44]
theorem Pg{a:Type}(f:a->Str):nP f []=[]:=rfl
theorem Ph{a:Type}(f:a->Str){l:List a}{i:Nat}{x:a}(h:i<l.length)(c:l[i]=x)(e:i=0):nP f (l.take (i+1))=f x/\nP f (l.take i)=[]:=by
 subst e;rw[List.take_succ_eq_append_getElem h,c];exact⟨by simp[nP,join_one],by simp[nP,join_nil]⟩
theorem KS{a:Type}(f:a->Str){l:List a}{i:Nat}{x:a}(h:i<l.length)(g:l[i]=x)(j:0<i):nP f (l.take (i+1))=nP f (l.take i)++44::f x:=by
 have c:(l.take i).map f≠[]:=by
  intro e;have:=congrArg List.length e;rw[List.length_map,List.length_take,List.length_nil]at this;omega
 rw[List.take_succ_eq_append_getElem h,g];unfold nP;rw[List.map_append,List.map_cons,List.map_nil,Zh c];rfl
theorem Tu{a:Type}{f:a->Str}{l:List a}{b:Nat}(h:∀x∈l,(f x).length<=b)(i:Nat):(nP f (l.take i)).length<=l.length*(b+1):=by
 have:=Xs (c:=44) (l:=(l.take i).map f) (b:=b) (fun x e=>by
  obtain⟨n,g,rfl⟩:=List.mem_map.1 e
  exact h n (List.mem_of_mem_take g))
 rw[List.length_map]at this;have j:(l.take i).length<=l.length:=by rw[List.length_take];omega
 have:=Nat.mul_le_mul_right (b+1) j;unfold nP;omega
def ah4(x:Dn):Prop:=i64 x.1/\i64 x.2
theorem Tv(d:Int):(yB d).length<=2:=by
 unfold yB;split
 .simp
 rw[List.length_take];omega
theorem VW{x:Dn}(h:ah4 x):(dayT x).length<=22:=by
 have a:=De h.1;have b:=Tv x.2;simp only[dayT,List.length_append];split
 .simp;omega
 omega
theorem No(l:List Int)(w:Nat)(c:List IV)(a:Int->Str)(E:l.length<=1000)(y:∀n∈l,(a n).length<=30)(z:∀n∈l,Fn G Tryz.prog w (.int .i64 n::c) (.str (a n))):Fn G Tryz.prog 167 [.slice (is l),.fn w c] (.str (nP a l)):=by
 refine ae hm ur (by simp) ?_;have g:=fun i=>Tu (f:=a) (l:=l) (b:=30) y i
 simp[mr,is_len];refine bx hm [] (fun x:Nat×Nat=>[(10,.val (.int .i64 x.1))]) (fun x=>[(5,.box [.selfN 5 223 false,.ownT 1 x.2 5]),(1,.arr x.2 1 (av (nP a (l.take x.1))))]) (fun x=>x.1<=l.length) (fun x=>l.length-x.1) (0,0) (by simp) ?_ ?_
 .simp[Pg];exact cJ.trans (E6 (k:=5) (d:=5) (t:=223) 1 5 (by simp) (by simp) (by simp[aE,ac]) (by simp[ac]) (by simp)) (an rfl rfl (by simp[St.bld,bj,aE,ac,put,dB,SV.erase]) (by simp[St.bld,bZ,ac,put,cp,fJ,Ob.erase,SV.erase,av]) (by simp[St.bld,bX]))
 rintro⟨i,v⟩ A;simp only at A;simp[is_len];by_cases h:i<l.length
 .obtain⟨x,o⟩:∃x,l[i]=x:=⟨_,rfl⟩;have j:x∈l:=o▸List.getElem_mem h;have hT:=z x j;have s:=vv h o;have B:=y x j;have e:=g i;by_cases p:i=0
  .obtain⟨q,C⟩:=Ph a h o p;rw[C];have m:=s;rw[p]at m;simp(disch:=omega)[wl,is_len,s,m,p];refine aa hT ?_;simp(disch:=omega)[wl];refine callM [(1000,5),(1001,1)] [] (nc v [] (a x) (by simp;omega)) rfl rfl ⟨rfl,rfl,trivial⟩ ⟨rfl,_,_,rfl,rfl,rfl⟩ rfl ?_;simp[de];simp(disch:=omega)[wl];refine aj (i+1,v+1) (by simp;omega) (by simp;omega) ?_;simp[q];exact an rfl rfl (by simp[bj,aE,ac,p]) (by simp[bZ,ac]) (by simp[bX])
  have q:=KS a h o (by omega);obtain⟨J,D⟩:∃J,nP a (l.take i)=J:=⟨_,rfl⟩;rw[D]at q e |-;have u:=qe v J 44 (by omega);simp(disch:=omega)[wl,is_len,s];refine callM [(1000,5),(1001,1)] [] u rfl rfl ⟨rfl,rfl,trivial⟩ ⟨rfl,_,_,rfl,rfl,rfl⟩ rfl ?_;simp[de];refine aa hT ?_;simp(disch:=omega)[wl];refine callM [(1000,5),(1001,1)] [] (nc (v+1) (J++[44]) (a x) (by simp;omega)) rfl rfl ⟨rfl,rfl,trivial⟩ ⟨rfl,_,_,rfl,rfl,rfl⟩ rfl ?_;simp[de];simp(disch:=omega)[wl];refine aj (i+1,v+1+1) (by simp;omega) (by simp;omega) ?_;simp[q];exact bA
 obtain rfl:i=l.length:=by omega
 have e:=g l.length;rw[List.take_length]at e |-;simp(disch:=omega)[wl,is_len];refine callM [(1000,5),(1001,1)] [] (tf v (nP a l) (by omega)) rfl rfl (by simp[gI,de,Vs.ren,ac,Ob.ren,SV.ren]) ⟨rfl,rfl⟩ rfl ?_;simp
theorem QP(l:List Dn)(w:Nat)(c:List IV)(a:Dn->Str)(E:l.length<=1000)(y:∀n∈l,(a n).length<=30)(z:∀n∈l,Fn G Tryz.prog w (.agg [.int .i64 n.1,.int .i64 n.2]::c) (.str (a n))):Fn G Tryz.prog 165 [.slice (B4 l),.fn w c] (.str (nP a l)):=by
 refine ae hm qV (by simp) ?_;have g:=fun i=>Tu (f:=a) (l:=l) (b:=30) y i
 simp[km,aJ];refine bx hm [] (fun x:Nat×Nat=>[(10,.val (.int .i64 x.1))]) (fun x=>[(5,.box [.selfN 5 223 false,.ownT 1 x.2 5]),(1,.arr x.2 1 (av (nP a (l.take x.1))))]) (fun x=>x.1<=l.length) (fun x=>l.length-x.1) (0,0) (by simp) ?_ ?_
 .simp[Pg];exact cJ.trans (E6 (k:=5) (d:=5) (t:=223) 1 5 (by simp) (by simp) (by simp[aE,ac]) (by simp[ac]) (by simp)) (an rfl rfl (by simp[St.bld,bj,aE,ac,put,dB,SV.erase]) (by simp[St.bld,bZ,ac,put,cp,fJ,Ob.erase,SV.erase,av]) (by simp[St.bld,bX]))
 rintro⟨i,v⟩ A;simp only at A;simp[aJ];by_cases h:i<l.length
 .obtain⟨x,o⟩:∃x,l[i]=x:=⟨_,rfl⟩;have j:x∈l:=o▸List.getElem_mem h;have hT:=z x j;have s:=AO h o;have B:=y x j;have e:=g i;by_cases p:i=0
  .obtain⟨q,C⟩:=Ph a h o p;rw[C];have m:=s;rw[p]at m;simp(disch:=omega)[wl,aJ,s,m,p];refine aa hT ?_;simp(disch:=omega)[wl];refine callM [(1000,5),(1001,1)] [] (nc v [] (a x) (by simp;omega)) rfl rfl ⟨rfl,rfl,trivial⟩ ⟨rfl,_,_,rfl,rfl,rfl⟩ rfl ?_;simp[de];simp(disch:=omega)[wl];refine aj (i+1,v+1) (by simp;omega) (by simp;omega) ?_;simp[q];exact an rfl rfl (by simp[bj,aE,ac,p]) (by simp[bZ,ac]) (by simp[bX])
  have q:=KS a h o (by omega);obtain⟨J,D⟩:∃J,nP a (l.take i)=J:=⟨_,rfl⟩;rw[D]at q e |-;have u:=qe v J 44 (by omega);simp(disch:=omega)[wl,aJ,s];refine callM [(1000,5),(1001,1)] [] u rfl rfl ⟨rfl,rfl,trivial⟩ ⟨rfl,_,_,rfl,rfl,rfl⟩ rfl ?_;simp[de];refine aa hT ?_;simp(disch:=omega)[wl];refine callM [(1000,5),(1001,1)] [] (nc (v+1) (J++[44]) (a x) (by simp;omega)) rfl rfl ⟨rfl,rfl,trivial⟩ ⟨rfl,_,_,rfl,rfl,rfl⟩ rfl ?_;simp[de];simp(disch:=omega)[wl];refine aj (i+1,v+1+1) (by simp;omega) (by simp;omega) ?_;simp[q];exact bA
 obtain rfl:i=l.length:=by omega
 have e:=g l.length;rw[List.take_length]at e |-;simp(disch:=omega)[wl,aJ];refine callM [(1000,5),(1001,1)] [] (tf v (nP a l) (by omega)) rfl rfl (by simp[gI,de,Vs.ren,ac,Ob.ren,SV.ren]) ⟨rfl,rfl⟩ rfl ?_;simp
theorem Zp(l:List Int)(c:l.length<=1000)(b:∀n∈l,i64 n):Fn G Tryz.prog 116 [.slice (is l)] (.str (m6 l)):=by
 refine ae hm Nm (by simp) ?_;have d:=No l 47 [] itoa c (fun n a=>by have:=De (b n a);omega) (fun n a=>Ex n (b n a).1 (b n a).2);rw[show m6 l=nP itoa l from rfl];simp[Eu];refine aa d ?_;simp
theorem KT(x:Dn)(h:ah4 x):Fn G Tryz.prog 166 [.agg [.int .i64 x.1,.int .i64 x.2]] (.str (dayT x)):=by
 refine ae hm B3 (by simp) ?_;obtain⟨n,d⟩:=x;have e:=Ex n h.1.1 h.1.2;have c:=oE d;have b:=De h.1;have f:=Tv d;simp only at b;simp[tC];by_cases a:n=0
 .simp(disch:=omega)[wl,a];refine aa c ?_;simp(disch:=omega)[wl,dayT,a]
 simp(disch:=omega)[wl,a];refine aa e ?_;simp(disch:=omega)[wl];refine aa c ?_;simp(disch:=omega)[wl,dayT,a];refine⟨by omega,?_⟩;rfl
theorem Zq(l:List Dn)(c:l.length<=1000)(b:∀n∈l,ah4 n):Fn G Tryz.prog 115 [.slice (B4 l)] (.str (m7 l)):=by
 refine ae hm Et (by simp) ?_;have d:=QP l 166 [] dayT c (fun n a=>by have:=VW (b n a);omega) (fun n a=>KT n (b n a));rw[show m7 l=nP dayT l from rfl];simp[wx];refine aa d ?_;simp
end Go.Vs.Y
