/- A part of a proof. No conditions. -/
import Derived.Test.YtcjeehebikeghaaGreatDoorBW
import Derived.Lib.LaidTab
set_option linter.unusedVariables false
set_option linter.unusedSimpArgs false
set_option maxRecDepth 100000
set_option maxHeartbeats 8000000
namespace Go.Vs.YtcjeehebikeghaaGreatDoor
open Go.Proofs Go.Vs.U8 Go.Vs.Pa Go.Vs.Nu Go.Lib
theorem O3{u:Nat}(h:u<10):decDigits u=[UInt8.ofNat (48+u)]:=by rw[decDigits,dif_pos h]
theorem Mp{u:Nat}(h:¬u<10):decDigits u=decDigits (u/10)++[UInt8.ofNat (48+u%10)]:=by rw[decDigits,dif_neg h]
def i64(n:Int):Prop:=-9223372036854775808<=n/\n<=9223372036854775807
end Go.Vs.YtcjeehebikeghaaGreatDoor
namespace Go.Proofs
open Go.Shelf
def Tryz.laysM171_ren:Go.Shelf.Ren:=⟨fun|171=>65|243=>124|246=>181|283=>242|284=>243|285=>244|286=>245|129=>301|317=>300|318=>302|319=>303|320=>304|337=>336|338=>337|n=>n,fun|3=>3|9=>9|2=>2|4=>4|171=>338|0=>0|53=>339|37=>204|5=>5|173=>342|212=>392|51=>393|20=>20|213=>394|46=>395|232=>448|233=>449|n=>n,fun|17=>2|18=>6|19=>7|n=>n⟩
theorem Tryz.laysM171:Go.Proofs.LaysM.n171 Tryz.prog Tryz.laysM171_ren:={
 mixed:=by kernel_rfl
 f129:=Tryz.func301.trans (congrArg some (by kernel_rfl))
 f171:=Tryz.func65.trans (congrArg some (by kernel_rfl))
 f243:=Tryz.func124.trans (congrArg some (by kernel_rfl))
 f246:=Tryz.func181.trans (congrArg some (by kernel_rfl))
 f283:=Tryz.func242.trans (congrArg some (by kernel_rfl))
 f284:=Tryz.func243.trans (congrArg some (by kernel_rfl))
 f285:=Tryz.func244.trans (congrArg some (by kernel_rfl))
 f286:=Tryz.func245.trans (congrArg some (by kernel_rfl))
 f317:=Tryz.func300.trans (congrArg some (by kernel_rfl))
 f318:=Tryz.func302.trans (congrArg some (by kernel_rfl))
 f319:=Tryz.func303.trans (congrArg some (by kernel_rfl))
 f320:=Tryz.func304.trans (congrArg some (by kernel_rfl))
 f337:=Tryz.func336.trans (congrArg some (by kernel_rfl))
 f338:=Tryz.func337.trans (congrArg some (by kernel_rfl))
 t0:=Tryz.underlying0
 a0:=Tryz.isAgg0
 z0:=Tryz.sizeOf0
 v0:=Tryz.zeroValue0
 t2:=Tryz.underlying2
 a2:=Tryz.isAgg2
 z2:=Tryz.sizeOf2
 v2:=Tryz.zeroValue2
 t3:=Tryz.underlying3
 a3:=Tryz.isAgg3
 z3:=Tryz.sizeOf3
 v3:=Tryz.zeroValue3
 t4:=Tryz.underlying4
 a4:=Tryz.isAgg4
 z4:=Tryz.sizeOf4
 v4:=Tryz.zeroValue4
 t5:=Tryz.underlying5
 a5:=Tryz.isAgg5
 z5:=Tryz.sizeOf5
 v5:=Tryz.zeroValue5
 t9:=Tryz.underlying9
 a9:=Tryz.isAgg9
 z9:=Tryz.sizeOf9
 v9:=Tryz.zeroValue9
 t20:=Tryz.underlying20
 a20:=Tryz.isAgg20
 z20:=Tryz.sizeOf20
 v20:=Tryz.zeroValue20
 t37:=Tryz.underlying204
 a37:=Tryz.isAgg204
 z37:=Tryz.sizeOf204
 v37:=Tryz.zeroValue204
 t46:=Tryz.underlying395
 a46:=Tryz.isAgg395
 z46:=Tryz.sizeOf395
 v46:=Tryz.zeroValue395
 t51:=Tryz.underlying393
 a51:=Tryz.isAgg393
 z51:=Tryz.sizeOf393
 v51:=Tryz.zeroValue393
 t53:=Tryz.underlying339
 a53:=Tryz.isAgg339
 z53:=Tryz.sizeOf339
 v53:=Tryz.zeroValue339
 t171:=Tryz.underlying338
 a171:=Tryz.isAgg338
 z171:=Tryz.sizeOf338
 v171:=Tryz.zeroValue338
 t173:=Tryz.underlying342
 a173:=Tryz.isAgg342
 z173:=Tryz.sizeOf342
 v173:=Tryz.zeroValue342
 t212:=Tryz.underlying392
 a212:=Tryz.isAgg392
 z212:=Tryz.sizeOf392
 v212:=Tryz.zeroValue392
 t213:=Tryz.underlying394
 a213:=Tryz.isAgg394
 z213:=Tryz.sizeOf394
 t232:=Tryz.underlying448
 a232:=Tryz.isAgg448
 z232:=Tryz.sizeOf448
 v232:=Tryz.zeroValue448
 t233:=Tryz.underlying449
 a233:=Tryz.isAgg449
 z233:=Tryz.sizeOf449
 v233:=Tryz.zeroValue449
 g17:=by kernel_rfl
 g18:=by kernel_rfl
 g19:=by kernel_rfl
 i0:=by kernel_rfl
 i2:=by kernel_rfl
 i3:=by kernel_rfl
 i4:=by kernel_rfl
 i5:=by kernel_rfl
 i9:=by kernel_rfl
 i20:=by kernel_rfl
 i37:=by kernel_rfl
 i46:=by kernel_rfl
 i51:=by kernel_rfl
 i53:=by kernel_rfl
 i171:=by kernel_rfl
 i173:=by kernel_rfl
 i212:=by kernel_rfl
 i232:=by kernel_rfl
 i233:=by kernel_rfl
 m17:=by kernel_rfl
 m18:=by kernel_rfl
 m19:=by kernel_rfl }
open Go.RowKit Go.Sort Go.Lib in
theorem Tryz.strconv_Itoa(n:Int)(h0:-9223372036854775808<=n)(h1:n<=9223372036854775807)(w:World)(htab:Lib.TabIs Tryz.prog w "internal/strconv.uint64pow10" .u64 Lib.pow10Tab) :
  Calls Tryz.prog 65 #[.int .i64 n] w fun e w'=>e=.returned (.string ⟨(Lib.itoa n).toArray⟩)/\∃k os,w'=grow (w.drewN k) os:=Any.strconv_Itoa Tryz.laysM171 n h0 h1 w htab
end Go.Proofs
namespace Go.Vs.YtcjeehebikeghaaGreatDoor
open Go.Proofs Go.Proofs.YtcjeehebikeghaaGreatDoor Go.RowKit Go.Lib
theorem Vr{P:Program}{w:World}{S:aO}{name:String}{g:Nat}{k:IntKind}{zs:List Int}(hg:P.globalNamed name=some g)(h:gG w S (g,zs.map (.int k ·))):TabIs P w name k zs:=by
 obtain⟨h1,t,h2⟩:=h;simp only[List.length_map]at h1 h2;unfold World.shape? at h2;split at h2
 ·next cs e fr hh=>
  simp only[Option.some.injEq,Prod.mk.injEq]at h2;unfold TabIs World.var?;rw[hg];simp only[Option.bind_some,hh,Option.some.injEq];apply Array.ext
  ·simpa using h2.2
  ·intro i Jl hi2;have hi:i<zs.length:=by omega
   obtain⟨v,k1,k2⟩:=kE (j:=i) (x:=.int k zs[i]) h1 (by simp[hi]);have k2:v=_:=k2;subst k2;simp only[World.cell?,hh,Nat.zero_add]at k1;have:cs[i]?=some (.int k zs[i]):=by simpa using k1
   rw[Array.getElem?_eq_getElem Jl]at this;simpa using this
 ·cases h2
theorem Td(n:Int)(h0:-9223372036854775808<=n)(h1:n<=9223372036854775807):Fn G Tryz.prog 65 [.int .i64 n] (.str (itoa n)):=by
 refine Cs ⟨Tryz.f65,Tryz.func65,by decide⟩ ?_;rintro w S vs hS hgl ⟨v1,_,rfl,h2,h3⟩;have h2:v1=.int .i64 n:=h2;have h3:_=[]:=h3;subst h2;subst h3;have htab:TabIs Tryz.prog w "internal/strconv.uint64pow10" .u64 pow10Tab:=Vr (g:=2) (by kernel_rfl) (hgl (2,Q6.map (.int .u64 ·)) (by simp[G]));refine dp Tryz.func65 (by decide) ((Tryz.strconv_Itoa n h0 h1 w htab).mono ?_);rintro e w' ⟨rfl,k,os,rfl⟩;refine⟨_,rfl,?_,rfl⟩;exact⟨rfl,rfl,rfl,by simp[Go.Sort.grow,World.drewN],fun j hj=>by rw[Go.Sort.grow];exact Array.getElem?_append_left hj⟩
end Go.Vs.YtcjeehebikeghaaGreatDoor
