/- A part of a proof. No conditions. -/
import Derived.Test.YtcjeehebikeghaaGreatDoorBEz
import Derived.Lib.Builder
import Derived.Lib.UnsafeStr
import Derived.Lib.FrozenHead
import Derived.RegionTactic
import Derived.ChangeAlike
import Derived.BigRegion
set_option linter.unusedVariables false
set_option linter.unusedSimpArgs false
set_option maxRecDepth 1000000
set_option maxHeartbeats 4000000
namespace Go.Vs.YtcjeehebikeghaaGreatDoor.E
open Go.Proofs Go.Proofs.YtcjeehebikeghaaGreatDoor Go.RowKit Go.Extern.Stop Go.Stop Go.Extern
theorem ErrV.iface{W:World}{n:Int}{ps:List Int}{E:Value}(h:ErrV W n ps E):∃T v,E=.iface T v:=by
 cases ps with
 |nil=>exact⟨_,_,h⟩
 |cons p l=>obtain⟨b,c,h,_⟩:=h;exact⟨_,_,h⟩
set_option maxHeartbeats 4000000 in
theorem As_eno(n:Int)(ps:List Int)(E:Value)(t:Addr)(g:Value)(w:World)(j:ErrV w n ps E)(m:w.cell? ⟨0,0,none⟩=some (.iface 271 (.agg #[.pointer (some ⟨8,37,none⟩)])))(c:w.cell? t=some g)(h:w.frozen? t=false) :
  Calls T_ 56 #[E,.iface 112 (.pointer (some t))] w fun ev o=>ev=.returned (.bool true)/\o=((((w.alloc (.cells #[.pointer (some t)] 112)).alloc (.cells #[.pointer (some ⟨8,112,none⟩),.pointer (some ⟨w.heap.size,0,none⟩),.int .u64 150] 190)).alloc (.cells #[.pointer (some ⟨8,112,none⟩),.pointer (some ⟨w.heap.size,0,none⟩),.int .u64 150] 190)).alloc (.cells #[.int .i64 n] 54)).setCell t (.int .i64 n):=by
 obtain⟨T,v,rfl⟩:=j.iface;have y:=@run_callFunc_extern T_ 116 _ (fun args=>ReflectliteValue.unpack (args.getD 0 (.tuple #[]))) Tryz.func116 (by kernel_rfl) (by kernel_rfl) (by kernel_rfl) (by kernel_rfl);have z:=@run_callFunc_extern T_ 117 _ (ReflectliteValue.methodAny (ReflectliteValue.valueError "reflectlite.Value.Type" 0) (fun t _ _ _=>ReflectliteType.toType t)) Tryz.func117 (by kernel_rfl) (by kernel_rfl) (by kernel_rfl) (by kernel_rfl);have A:=@run_callFunc_extern T_ 118 _ (ReflectliteValue.method (ReflectliteValue.valueError "reflectlite.Value.IsNil" 0) ReflectliteValue.isNil) Tryz.func118 (by kernel_rfl) (by kernel_rfl) (by kernel_rfl) (by kernel_rfl);have q:=@run_callFunc_extern T_ 405 _ (ReflectliteType.abiMethod fun t=>do pure (.int .u8 (<-Rtype.kind t))) Tryz.func405 (by kernel_rfl) (by kernel_rfl) (by kernel_rfl) (by kernel_rfl);have s:=@run_callFunc_extern T_ 418 _ (ReflectliteType.method ReflectliteType.elem) Tryz.func418 (by kernel_rfl) (by kernel_rfl) (by kernel_rfl) (by kernel_rfl);have u:=@run_callFunc_extern T_ 419 _ (ReflectliteType.relation "Implements" ReflectliteType.implements_) Tryz.func419 (by kernel_rfl) (by kernel_rfl) (by kernel_rfl) (by kernel_rfl);have B:=vo2;have C:=ty2;have D:=XD;have F:=XE;have H:=acN;have I:=ad2;have J:=ad3;have e1:=ad4;have K:=aeP;have k:0<w.heap.size:=ui (a:=⟨0,0,none⟩) m;have i:t.block<w.heap.size:=ui c;obtain⟨f,b⟩:∃f,f=(w.alloc (.cells #[.pointer (some t)] 112)).alloc (.cells #[.pointer (some ⟨8,112,none⟩),.pointer (some ⟨w.heap.size,0,none⟩),.int .u64 150] 190):=⟨_,rfl⟩;have d:f.cell? ⟨w.heap.size,0,none⟩=some (.pointer (some t)):=by rw[b];simp
 have x:=acO ⟨w.heap.size,0,none⟩ t f d;have l:f.cell? ⟨0,0,none⟩=some (.iface 271 (.agg #[.pointer (some ⟨8,37,none⟩)])):=by rw[b];exact cR _ _ (cR _ _ m)
 have p:=acR n ps (.iface T v) f ⟨w.heap.size,0,none⟩ t g (by rw[b];exact ErrV.mono cR (ErrV.mono cR j)) d (by rw[b];exact cR _ _ (cR _ _ c)) (by rw[b];exact gb (by simp;omega) (gb i h));rw[b]at x l p;clear j d b c h k i;go_enter Tryz.func56,Tryz.ntmps56;go_wp2_with (go_at_call 119;refine p.mono ?_;rintro e o ⟨rfl,rfl⟩);go_ret;exact⟨rfl,rfl⟩
set_option maxHeartbeats 4000000 in
theorem As_pf(e0:Addr)(t:Addr)(g:Value)(w:World)(l:w.cell? ⟨0,0,none⟩=some (.iface 271 (.agg #[.pointer (some ⟨8,37,none⟩)])))(c:w.cell? t=some g)(h:w.frozen? t=false) :
  Calls T_ 56 #[.iface 156 (.pointer (some e0)),.iface 199 (.pointer (some t))] w fun ev m=>ev=.returned (.bool true)/\m=((((w.alloc (.cells #[.pointer (some t)] 199)).alloc (.cells #[.pointer (some ⟨8,199,none⟩),.pointer (some ⟨w.heap.size,0,none⟩),.int .u64 150] 190)).alloc (.cells #[.pointer (some ⟨8,199,none⟩),.pointer (some ⟨w.heap.size,0,none⟩),.int .u64 150] 190)).alloc (.cells #[.pointer (some e0)] 156)).setCell t (.pointer (some e0)):=by
 have u:=@run_callFunc_extern T_ 116 _ (fun args=>ReflectliteValue.unpack (args.getD 0 (.tuple #[]))) Tryz.func116 (by kernel_rfl) (by kernel_rfl) (by kernel_rfl) (by kernel_rfl);have v:=@run_callFunc_extern T_ 117 _ (ReflectliteValue.methodAny (ReflectliteValue.valueError "reflectlite.Value.Type" 0) (fun t _ _ _=>ReflectliteType.toType t)) Tryz.func117 (by kernel_rfl) (by kernel_rfl) (by kernel_rfl) (by kernel_rfl);have x:=@run_callFunc_extern T_ 118 _ (ReflectliteValue.method (ReflectliteValue.valueError "reflectlite.Value.IsNil" 0) ReflectliteValue.isNil) Tryz.func118 (by kernel_rfl) (by kernel_rfl) (by kernel_rfl) (by kernel_rfl);have o:=@run_callFunc_extern T_ 405 _ (ReflectliteType.abiMethod fun t=>do pure (.int .u8 (<-Rtype.kind t))) Tryz.func405 (by kernel_rfl) (by kernel_rfl) (by kernel_rfl) (by kernel_rfl);have p:=@run_callFunc_extern T_ 418 _ (ReflectliteType.method ReflectliteType.elem) Tryz.func418 (by kernel_rfl) (by kernel_rfl) (by kernel_rfl) (by kernel_rfl);have q:=@run_callFunc_extern T_ 419 _ (ReflectliteType.relation "Implements" ReflectliteType.implements_) Tryz.func419 (by kernel_rfl) (by kernel_rfl) (by kernel_rfl) (by kernel_rfl);have y:=vo1;have z:=ty1;have A:=XD;have B:=XE;have C:=acN;have D:=abV;have E:=abW;have e1:=abX;have F:=ad5;have j:0<w.heap.size:=ui (a:=⟨0,0,none⟩) l;have i:t.block<w.heap.size:=ui c;obtain⟨f,b⟩:∃f,f=(w.alloc (.cells #[.pointer (some t)] 199)).alloc (.cells #[.pointer (some ⟨8,199,none⟩),.pointer (some ⟨w.heap.size,0,none⟩),.int .u64 150] 190):=⟨_,rfl⟩;have d:f.cell? ⟨w.heap.size,0,none⟩=some (.pointer (some t)):=by rw[b];simp
 have s:=XH ⟨w.heap.size,0,none⟩ t f d;have k:f.cell? ⟨0,0,none⟩=some (.iface 271 (.agg #[.pointer (some ⟨8,37,none⟩)])):=by rw[b];exact cR _ _ (cR _ _ l)
 have n:=ad6 e0 ⟨w.heap.size,0,none⟩ t g f d (by rw[b];exact cR _ _ (cR _ _ c)) (by rw[b];exact gb (by simp;omega) (gb i h));rw[b]at s k n;clear d b c h j i;go_enter Tryz.func56,Tryz.ntmps56;go_wp2_with (go_at_call 119;refine n.mono ?_;rintro e m ⟨rfl,rfl⟩);go_ret;exact⟨rfl,rfl⟩
set_option maxHeartbeats 4000000 in
theorem As_pf_no(n:Int)(t:Addr)(w:World)(h:w.cell? ⟨0,0,none⟩=some (.iface 271 (.agg #[.pointer (some ⟨8,37,none⟩)]))) :
  Calls T_ 56 #[.iface 54 (.int .i64 n),.iface 199 (.pointer (some t))] w fun ev i=>ev=.returned (.bool false)/\i=((w.alloc (.cells #[.pointer (some t)] 199)).alloc (.cells #[.pointer (some ⟨8,199,none⟩),.pointer (some ⟨w.heap.size,0,none⟩),.int .u64 150] 190)).alloc (.cells #[.pointer (some ⟨8,199,none⟩),.pointer (some ⟨w.heap.size,0,none⟩),.int .u64 150] 190):=by
 have p:=@run_callFunc_extern T_ 116 _ (fun args=>ReflectliteValue.unpack (args.getD 0 (.tuple #[]))) Tryz.func116 (by kernel_rfl) (by kernel_rfl) (by kernel_rfl) (by kernel_rfl);have q:=@run_callFunc_extern T_ 117 _ (ReflectliteValue.methodAny (ReflectliteValue.valueError "reflectlite.Value.Type" 0) (fun t _ _ _=>ReflectliteType.toType t)) Tryz.func117 (by kernel_rfl) (by kernel_rfl) (by kernel_rfl) (by kernel_rfl);have s:=@run_callFunc_extern T_ 118 _ (ReflectliteValue.method (ReflectliteValue.valueError "reflectlite.Value.IsNil" 0) ReflectliteValue.isNil) Tryz.func118 (by kernel_rfl) (by kernel_rfl) (by kernel_rfl) (by kernel_rfl);have k:=@run_callFunc_extern T_ 405 _ (ReflectliteType.abiMethod fun t=>do pure (.int .u8 (<-Rtype.kind t))) Tryz.func405 (by kernel_rfl) (by kernel_rfl) (by kernel_rfl) (by kernel_rfl);have l:=@run_callFunc_extern T_ 418 _ (ReflectliteType.method ReflectliteType.elem) Tryz.func418 (by kernel_rfl) (by kernel_rfl) (by kernel_rfl) (by kernel_rfl);have m:=@run_callFunc_extern T_ 419 _ (ReflectliteType.relation "Implements" ReflectliteType.implements_) Tryz.func419 (by kernel_rfl) (by kernel_rfl) (by kernel_rfl) (by kernel_rfl);have u:=vo1;have v:=ty1;have x:=XD;have y:=XE;have z:=acN;have A:=abV;have B:=abW;have e1:=abX;have C:=ad5;have f:0<w.heap.size:=ui (a:=⟨0,0,none⟩) h;obtain⟨c,b⟩:∃c,c=(w.alloc (.cells #[.pointer (some t)] 199)).alloc (.cells #[.pointer (some ⟨8,199,none⟩),.pointer (some ⟨w.heap.size,0,none⟩),.int .u64 150] 190):=⟨_,rfl⟩;have d:c.cell? ⟨w.heap.size,0,none⟩=some (.pointer (some t)):=by rw[b];simp
 have o:=XH ⟨w.heap.size,0,none⟩ t c d;have g:c.cell? ⟨0,0,none⟩=some (.iface 271 (.agg #[.pointer (some ⟨8,37,none⟩)])):=by rw[b];exact cR _ _ (cR _ _ h)
 have j:=XI n ⟨w.heap.size,0,none⟩ t c;rw[b]at o g j;clear d b f;go_enter Tryz.func56,Tryz.ntmps56;go_wp2_with (go_at_call 119;refine j.mono ?_;rintro e i ⟨rfl,rfl⟩);go_ret;exact⟨rfl,rfl⟩
end Go.Vs.YtcjeehebikeghaaGreatDoor.E
namespace Go.Vs.YtcjeehebikeghaaGreatDoor
open Go.Proofs
def iy:VCode:=Q_ 4 [.K (.const (.val .nili))] (R_ 5 6 [.m 0,.g (.callM 272 [tm 5])] (R_ 7 16 [.m 0,.m 0,.k,.f 1,.l,.m 1,.g (.buildSlice 1 1 (z_ [.u]) [(0,1,tm 12)]),.g (.append 5 1 1 (tm 11) (tm 13)),.g (.nilCheck (tm 7)),.f 1,.T 1 16 14] (Q_ 4 [.K (.const (.val .nili))] .ret)))
theorem nO:FnOk T_ 207 iy [.tmp 4] 17:=fK_ Tryz.func207
open Go.Proofs.YtcjeehebikeghaaGreatDoor Go.RowKit Go.Lib
def dq(n:Int):List Int->IV
 |[]=>.iface 54 (.int .i64 n)
 |p::ps=>.iface 156 (.ref [.int .i64 p,dq n ps])
theorem TG{w:World}{S:ba}{n:Int} : ∀ {ps:List Int} {v:Value},pJ w S (dq n ps) v->E.ErrV w n ps v
 |[],v,⟨u,b,a⟩=>by
  have a:u=.int .i64 n:=a;subst a;exact b
 |p::ps,v,⟨u,b,c,off,a,_,_,⟨u0,g,h⟩,_,_,⟨u1,d,f⟩,_⟩=>by
  subst a;subst b;exact⟨c,off,rfl,u1,d,TG f⟩
theorem XJ{w:World}{S:ba}(h:∀p,p∈G->gX w S p):w.cell? ⟨0,0,none⟩=some (.iface 271 (.agg #[.pointer (some ⟨8,37,none⟩)])):=by
 obtain⟨⟨_,_,⟨v,b,a⟩,_⟩,_⟩:=h (0,[.handle 271 8 37]) (by simp[G]);have a:v=_:=a;subst a;exact b
theorem Ny:sZ T_ 56:=⟨Tryz.f56,Tryz.func56,by decide⟩
theorem I2(n m:Int)(ps:List Int):jL G T_ 56
  {args:=[.val (dq n ps),.ifc 112 (.loc 1000 0)],objs:=[(1000,.box [.val (.int .i64 m)])],res:=.val (.bool true),objs':=[(1000,.box [.val (.int .i64 n)])],ro':=[] }:=by
 refine y9 (id:=1000) (cells:=[.val (.int .i64 m)]) (cells':=[.val (.int .i64 n)]) Ny rfl ?_;rintro w S C D F b cs e fr h ⟨v,_,rfl,x,_,_,rfl,⟨u,rfl,y⟩,rfl⟩ p q H i a j ⟨s,_,c,_,z,d⟩;obtain⟨A,g,rfl⟩:=y _ rfl;rw[i]at g;obtain rfl:b=A:=by simpa using g
 have B:cs.size=1:=by
  have:=congrArg List.length c;have k:_=[]:=d;subst k;simpa using this
 have f:w.cell? ⟨b,0,none⟩=some s:=HO a (by rw[<-Array.getElem?_toList,c];rfl);have o:b<w.heap.size:=(Array.getElem?_eq_some_iff.1 a).1;refine dP Tryz.func56 (by decide) ((E.As_eno n ps v ⟨b,0,none⟩ s w (TG x) (XJ h) f (Si a j (by omega))).mono ?_);rintro ev I ⟨rfl,rfl⟩;refine⟨.bool true,_,cs.setIfInBounds 0 (.int .i64 n),rfl,?_,nl (off:=0) (e:=e) (fr:=fr) ?_ _,by simp,?_,rfl⟩
 ·exact((((Below.refl _ w).alloc (Nat.le_refl _) _).alloc (by simp) _).alloc (by simp;omega) _).alloc (by simp;omega) _
 ·rw[Below.heap_alloc _ _ _ (by simp;omega),Below.heap_alloc _ _ _ (by simp;omega),Below.heap_alloc _ _ _ (by simp;omega),Below.heap_alloc _ _ _ o];exact a
 ·obtain⟨l⟩:=cs;have k:_=[]:=d;subst k;simp only at c;subst c;exact⟨_,[],rfl,rfl,rfl,rfl⟩
theorem Vf(m:IV)(cells:List IV):jL G T_ 56
  {args:=[.val (.iface 156 (.ref cells)),.ifc 199 (.loc 1000 0)],objs:=[(1000,.box [.val m])],res:=.val (.bool true),objs':=[(1000,.box [.val (.ref cells)])],ro':=[] }:=by
 refine y9 (id:=1000) (cells:=[.val m]) (cells':=[.val (.ref cells)]) Ny rfl ?_;rintro w S C D F b cs e fr i ⟨H,_,rfl,x,_,_,rfl,⟨u,rfl,y⟩,rfl⟩ q s I j a k ⟨v,_,c,_,z,d⟩;obtain⟨A,h,rfl⟩:=y _ rfl;rw[j]at h;obtain rfl:b=A:=by simpa using h
 obtain⟨J,rfl,f,off,rfl,n⟩:=x
 have B:cs.size=1:=by
  have:=congrArg List.length c;have o:_=[]:=d;subst o;simpa using this
 have g:w.cell? ⟨b,0,none⟩=some v:=HO a (by rw[<-Array.getElem?_toList,c];rfl);have p:b<w.heap.size:=(Array.getElem?_eq_some_iff.1 a).1;refine dP Tryz.func56 (by decide) ((E.As_pf ⟨f,off,none⟩ ⟨b,0,none⟩ v w (XJ i) g (Si a k (by omega))).mono ?_);rintro ev K ⟨rfl,rfl⟩;refine⟨.bool true,_,cs.setIfInBounds 0 (.pointer (some ⟨f,off,none⟩)),rfl,?_,nl (off:=0) (e:=e) (fr:=fr) ?_ _,by simp,?_,rfl⟩
 ·exact((((Below.refl _ w).alloc (Nat.le_refl _) _).alloc (by simp) _).alloc (by simp;omega) _).alloc (by simp;omega) _
 ·rw[Below.heap_alloc _ _ _ (by simp;omega),Below.heap_alloc _ _ _ (by simp;omega),Below.heap_alloc _ _ _ (by simp;omega),Below.heap_alloc _ _ _ p];exact a
 ·obtain⟨l⟩:=cs;have o:_=[]:=d;subst o;simp only at c;subst c;exact⟨_,[],rfl,rfl,⟨f,off,rfl,n⟩,rfl⟩
theorem Vg(n:Int)(m:IV):jL G T_ 56
  {args:=[.val (.iface 54 (.int .i64 n)),.ifc 199 (.loc 1000 0)],objs:=[(1000,.box [.val m])],res:=.val (.bool false),objs':=[(1000,.box [.val m])],ro':=[] }:=by
 refine y9 (id:=1000) (cells:=[.val m]) (cells':=[.val m]) Ny rfl ?_;rintro w S x y z b cs e A d ⟨B,_,rfl,o,_,_,rfl,⟨u,rfl,p⟩,rfl⟩ k l C f a q g;obtain⟨s,c,rfl⟩:=p _ rfl;rw[f]at c;obtain rfl:b=s:=by simpa using c
 obtain⟨v,rfl,i⟩:=o;have i:v=.int .i64 n:=i;subst i;have j:b<w.heap.size:=(Array.getElem?_eq_some_iff.1 a).1;refine dP Tryz.func56 (by decide) ((E.As_pf_no n ⟨b,0,none⟩ w (XJ d)).mono ?_);rintro ev D ⟨rfl,rfl⟩;refine⟨.bool false,_,cs,rfl,(((Below.refl _ w).alloc (Nat.le_refl _) _).alloc (by simp) _).alloc (by simp;omega) _,⟨rfl,rfl,rfl,rfl,fun _ _=>rfl,?_,fun _ _ h=>h⟩,rfl,g,rfl⟩;rw[Below.heap_alloc _ _ _ (by simp;omega),Below.heap_alloc _ _ _ (by simp;omega),Below.heap_alloc _ _ _ j];exact a
theorem XK:(T_.info? 309).map (·.size)=some 2:=by kernel_rfl
theorem acS:liesAt T_ T_.depth 309 (2/T_.cellsOf 309) 0 309 1=true:=by kernel_rfl
theorem aay(b:Nat)(w:World)(d:w.cell? ⟨b,0,none⟩=some (.pointer (some ⟨b,0,none⟩))) :
  Calls T_ 272 #[.pointer (some ⟨b,0,none⟩)] w fun e a=>e=.returned (.tuple #[])/\a=w:=by
 obtain⟨j,c,_⟩:=Option.map_eq_some_iff.1 XK;go_enter Tryz.func272,Tryz.ntmps272;go_wp2;rw[Lib.run_neq_ptr_same w _ Tryz.underlying307 c];go_wp2;go_end0;exact⟨rfl,rfl⟩
theorem XL(b:Nat)(w:World)(h:w.cell? ⟨b,0,none⟩=some (.pointer none))(a:w.shape? b=some (309,2))(f:w.frozen? ⟨b,0,none⟩=false) :
  Calls T_ 272 #[.pointer (some ⟨b,0,none⟩)] w fun e g=>e=.returned (.tuple #[])/\g=w.setCell ⟨b,0,none⟩ (.pointer (some ⟨b,0,none⟩)):=by
 obtain⟨j,d,c⟩:=Option.map_eq_some_iff.1 XK;go_enter Tryz.func272,Tryz.ntmps272;go_wp2;rw[Lib.run_to_unsafe w ⟨b,0,none⟩ Tryz.underlying307 Tryz.underlying187 d (by rw[c];decide) a (Nat.zero_lt_succ 1)];simp only[Result.andThen];rw[Oper.upon_value];go_wp2;rw[run_callFunc_extern Tryz.func318 (by kernel_rfl) (by kernel_rfl) (by kernel_rfl) (e:=Extern.AbiNoEscape.same) (by kernel_rfl)];rw[Lib.run_noEscape];simp only[Result.andThen];rw[Oper.upon_value];go_wp2;rw[Lib.run_from_unsafe w ⟨b,0,none⟩ Tryz.underlying187 Tryz.underlying307 d a acS];simp only[Result.andThen];rw[Oper.upon_value];go_wp2;go_end0;exact⟨rfl,rfl⟩
def gO(v:Nat)(l:List UInt8):List (Nat×Ob):=[(1000,.box [.selfN 1000 309 false,.ownT 1001 v 5]),(1001,.arr v 1 (an l))]
theorem Kk(v:Nat)(f:List (List IV)):jL G T_ 272
  {args:=[.selfN 1000 309 true],objs:=[(1000,.box [.selfN 1000 309 false,.ownT 1001 v 5]),(1001,.arr v 1 f)],res:=.val (.tuple []),
   objs':=[(1000,.box [.selfN 1000 309 false,.ownT 1001 v 5]),(1001,.arr v 1 f)],ro':=[] }:=by
 refine y9 (id:=1000) (cells:=[.selfN 1000 309 false,.ownT 1001 v 5]) (cells':=[.selfN 1000 309 false,.ownT 1001 v 5]) ⟨Tryz.f272,Tryz.func272,by decide⟩ rfl ?_;rintro w S H I J b cs e fr B ⟨u,_,rfl,C,rfl⟩ x y K g a n z;have o:=z;obtain⟨D,_,d,_,i,L,_,rfl,_,p,rfl⟩:=z;obtain⟨q,j,k,⟨h,_⟩|s⟩:=C _ rfl
 ·cases h
 rw[g]at j;obtain rfl:b=q:=by simpa using j
 subst s;obtain⟨q,m,A,i⟩:=i _ rfl;rw[g]at m;obtain rfl:b=q:=by simpa using m
 have c:w.cell? ⟨b,0,none⟩=some D:=HO a (by rw[<-Array.getElem?_toList,d];rfl)
 have E:cs.size=2:=by
  have:=congrArg List.length d;simpa using this
 obtain⟨l⟩:=cs;simp only at d;subst d;rcases i with⟨_,rfl⟩|rfl
 ·refine dP Tryz.func272 (by decide) ((XL b w c k (Si a n (by omega))).mono ?_);rintro ev F ⟨rfl,rfl⟩;refine⟨.tuple #[],_,_,rfl,Below.refl _ _,nl (off:=0) (e:=e) (fr:=fr) a _,by simp,?_,⟨#[],rfl,rfl⟩⟩;exact⟨_,_,rfl,rfl,fun cells M=>⟨b,g,k,.inr rfl⟩,_,_,rfl,by assumption,p,rfl⟩
 ·refine dP Tryz.func272 (by decide) ((aay b w c).mono ?_);rintro ev F ⟨rfl,rfl⟩;exact⟨.tuple #[],_,_,rfl,Below.refl _ _,⟨rfl,rfl,rfl,rfl,fun _ _=>rfl,a,fun _ _ h=>h⟩,rfl,o,⟨#[],rfl,rfl⟩⟩
theorem Gr(a b:List UInt8):an (a++b)=an a++an b:=by simp[an]
theorem fe(a:List UInt8)(c:UInt8):an (a++[c])=an a++[[.int .u8 c.toNat]]:=by simp[an]
theorem yW(v:Nat)(l:List UInt8)(c:UInt8)(a:l.length<100000000):jL G T_ 207
  {args:=[.selfN 1000 309 true,.val (.int .u8 c.toNat)],objs:=gO v l,res:=.val .nili,objs':=gO (v+1) (l++[c]),ro':=[] }:=by
 refine aN hm nO (by simp) rfl ?_;simp[iy,gO,ji];refine callM [] [] (Kk v _) rfl rfl ⟨rfl,rfl,trivial⟩ ⟨rfl,rfl⟩ rfl ?_;simp;refine⟨by simp[an];omega,?_⟩;simp[dc,fe];exact⟨⟨[(4,.val .nili)],gO (v+1) (l++[c]),[],17,G⟩,(by simp only[gO,fe];exact bp),by simp[gO,fe],[],rfl,rfl,rfl⟩
theorem Vh:T_.cellsOf 5=1:=by kernel_rfl
theorem XM(b g a:Nat)(p:Value)(d:Array Value)(l:List UInt8)(w:World)(h:l≠[])(f:w.cell? ⟨b,1,none⟩=some (.slice (some ⟨g,0,none⟩) l.length a))(i:l.length<=a)(q:w.heap[g]?=some (.cells d 5 (0,0)))(k:d.size=a)(m:l.length<100000000)
  (c:∀j x,l[j]?=some x->w.cell? ((⟨g,0,none⟩:Addr).add j)=some (.int .u8 x.toNat)) :
  Calls T_ 208 #[.pointer (some ⟨b,0,none⟩)] w fun e s=>e=.returned (.string ⟨l.toArray⟩)/\s=w.drew.freeze ⟨g,0,none⟩ l.length:=by
 have n:l.length≠0:=by simpa using h
 have z:w.drew.cell? ⟨b,1,none⟩=some (.slice (some ⟨g,0,none⟩) l.length a):=f
 have u:(Builtin.unsafeSliceData_ #[204] 365 #[.slice (some ⟨g,0,none⟩) l.length a]).run T_ w.drew=.ok (.pointer (some ⟨g,0,none⟩)) w.drew:=
  Lib.run_unsafeSliceData_row _ _ _ _ _ _ (by omega)
 have v:(Builtin.unsafeString_ #[365,3] 9 #[.pointer (some ⟨g,0,none⟩),.int .i64 l.length]).run T_ w.drew=.ok (.string ⟨l.toArray⟩) (w.drew.freeze ⟨g,0,none⟩ l.length):=by
  refine Lib.run_unsafeString_row w.drew 365 3 9 5 Tryz.underlying365 Vh g d.size (by have o:w.drew.heap[g]?=some (.cells d 5 (0,0)):=q;simp[World.shape?,o]) l h (by omega) (by omega) ?_;intro j x y;exact c j x y
 clear f q k i c h n m;go_enter Tryz.func208,Tryz.ntmps208;go_wp2;go_region
 all_goals (go_wp2;go_ret;exact⟨rfl,rfl⟩)
theorem Nz(W:World)(q:Option Addr):(Builtin.unsafeString_ #[365,3] 9 #[.pointer q,.int .i64 0]).run T_ W=.ok (.string .empty) W:=
 Lib.run_unsafeString_none W _ _ _ q
theorem aaz(b:Nat)(w:World)(a:w.cell? ⟨b,1,none⟩=some (.slice none 0 0)) :
  Calls T_ 208 #[.pointer (some ⟨b,0,none⟩)] w fun e c=>e=.returned (.string ⟨#[]⟩)/\c=w.drew:=by
 have d:=Nz;have g:w.drew.cell? ⟨b,1,none⟩=some (.slice none 0 0):=a;have f:(Builtin.unsafeSliceData_ #[204] 365 #[.slice none 0 0]).run T_ w.drew=.ok (.pointer none) w.drew:=rfl;clear a;go_enter Tryz.func208,Tryz.ntmps208;go_wp2;go_region
 all_goals (go_wp2;go_ret;exact⟨rfl,rfl⟩)
theorem XN(b:Nat)(a:Addr)(c:Nat)(d:c≠0)(w:World)(f:w.cell? ⟨b,1,none⟩=some (.slice (some a) 0 c)) :
  Calls T_ 208 #[.pointer (some ⟨b,0,none⟩)] w fun e g=>e=.returned (.string ⟨#[]⟩)/\g=w.drew:=by
 have h:=Nz;have j:w.drew.cell? ⟨b,1,none⟩=some (.slice (some a) 0 c):=f;have i:(Builtin.unsafeSliceData_ #[204] 365 #[.slice (some a) 0 c]).run T_ w.drew=.ok (.pointer (some a)) w.drew:=Lib.run_unsafeSliceData_row _ _ _ _ _ _ d;clear f d;go_enter Tryz.func208,Tryz.ntmps208;go_wp2;go_region
 all_goals (go_wp2;go_ret;exact⟨rfl,rfl⟩)
theorem I3(b:Nat)(a:Addr)(m:Nat)(w:World)(c:w.cell? ⟨b,1,none⟩=some (.slice (some a) 0 0))(d:w.shape? a.block=some (5,m)) :
  Calls T_ 208 #[.pointer (some ⟨b,0,none⟩)] w fun e h=>e=.returned (.string ⟨#[]⟩)/\h=w.drew.alloc (.view a 5):=by
 have i:=Nz;have k:w.drew.cell? ⟨b,1,none⟩=some (.slice (some a) 0 0):=c
 have f:b<w.heap.size:=by
  rcases Nat.lt_or_ge b w.heap.size with g|g
  ·exact g
  ·simp[World.cell?,Array.getElem?_eq_none g]at c
 have j:(Builtin.unsafeSliceData_ #[204] 365 #[.slice (some a) 0 0]).run T_ w.drew=.ok (.pointer (some ⟨w.drew.heap.size,0,none⟩)) (w.drew.alloc (.view a 5)):=
  Lib.run_unsafeSliceData_zero w.drew _ _ 5 Tryz.underlying365 a 0 (5,m) d
 have l:(w.alloc (.view a 5)).cell? ⟨b,1,none⟩=some (.slice (some a) 0 0):=by
  rw[World.cell?_of_block (a:=⟨b,1,none⟩) (Below.heap_alloc w _ b f)];exact c
 clear c f d;go_enter Tryz.func208,Tryz.ntmps208;go_wp2;go_region
 all_goals (go_wp2;go_ret;exact⟨rfl,rfl⟩)
theorem B7(v:Nat)(l:List UInt8)(hl:l.length<100000000):jL G T_ 208
  {args:=[.selfN 1000 309 true],objs:=gO v l,res:=.val (.str l),objs':=[(1000,.box [.selfN 1000 309 false,.ownT 1001 v 5]),(1001,.arr (v+1) 1 [])],ro':=[] }:=by
 refine⟨⟨Tryz.f208,Tryz.func208,by decide⟩,fun w S μ β vs hS Q' k' Z l' c'=>?_⟩;obtain⟨u,_,rfl,hu,rfl⟩:=k';obtain⟨b,cs,e,fr,hb,Q,C,B',hc⟩:=Z 1000 _ rfl;obtain⟨v0,_,m',C',D',v1,_,rfl,E',⟨n',F⟩,rfl⟩:=hc;obtain⟨O,p',R',⟨h,_⟩|F'⟩:=hu _ rfl
 ·cases h
 rw[Q]at p';obtain rfl:b=O:=by simpa using p'
 subst F';have q':=(n' _ _ _ rfl).2 rfl;clear n';have f:w.cell? ⟨b,1,none⟩=some v1:=HO C (by rw[<-Array.getElem?_toList,m'];rfl);have r':b<w.heap.size:=(Array.getElem?_eq_some_iff.1 C).1
 have H:∀p,p.os=w.os->p.tape=w.tape->p.output=w.output->w.heap.size<=p.heap.size->(∀k,k<w.heap.size->(∀g,β 1001=some g->k≠g)->p.heap[k]?=w.heap[k]?)->(∀a,p.cell? a=w.cell? a\/w.heap.size<=a.block)->(∀k x,w.shape? k=some x->p.shape? k=some x)->
   ∃(v':Value) (S':ba) (R:Nat->Value) (I:Nat->Option Nat),Ending.returned (Value.string ⟨l.toArray⟩)=.returned v'/\au p S' R [(1000,.box [.selfN 1000 309 false,.ownT 1001 v 5]),(1001,.arr (v+1) 1 [])] (.val (.str l)) v'/\
   (∀id o,ac [(1000,.box [.selfN 1000 309 false,.ownT 1001 v 5]),(1001,.arr (v+1) 1 [])] id=some o->bZ p S' R [(1000,.box [.selfN 1000 309 false,.ownT 1001 v 5]),(1001,.arr (v+1) 1 [])] (I id) (R id) o)/\
   (∀id J o o' b,ac [(1000,Ob.box [.selfN 1000 309 false,.ownT 1001 v 5]),(1001,.arr (v+1) 1 [])] id=some o->ac [(1000,Ob.box [.selfN 1000 309 false,.ownT 1001 v 5]),(1001,.arr (v+1) 1 [])] J=some o'->I id=some b->I J=some b->id=J)/\
   (∀id o b,ac [(1000,Ob.box [.selfN 1000 309 false,.ownT 1001 v 5]),(1001,.arr (v+1) 1 [])] id=some o->I id=some b->w.heap.size<=b\/∃i x,ac (gO v l) i=some x/\β i=some b)/\
   (∀id o b U,ac [(1000,Ob.box [.selfN 1000 309 false,.ownT 1001 v 5]),(1001,.arr (v+1) 1 [])] id=some o->I id=some b->S' b U->id∈([]:List Nat)/\∀G' s q,o=.arr G' s q->U<q.length*s)/\
   (∀b o,S' b o->b<p.heap.size)/\(∀b o,S b o->S' b o)/\(∀b o,S' b o->S b o\/w.heap.size<=b\/∃i x,ac (gO v l) i=some x/\β i=some b)/\
   Kept (fun b=>∃i x,ac (gO v l) i=some x/\β i=some b) w p/\
   (∀id o,ac (gO v l) id=some o->au p S' R [(1000,.box [.selfN 1000 309 false,.ownT 1001 v 5]),(1001,.arr (v+1) 1 [])] (Ef id o) (μ id))/\
   (∀b o,S b o->p.cell? ⟨b,o,none⟩=w.cell? ⟨b,o,none⟩):=by
  intro p q1 q2 q3 q4 q5 q6 q7
  have two:∀id (o:Ob),ac [(1000,Ob.box [.selfN 1000 309 false,.ownT 1001 v 5]),(1001,.arr (v+1) 1 [])] id=some o->(id=1000/\o=.box [.selfN 1000 309 false,.ownT 1001 v 5])\/(id=1001/\o=.arr (v+1) 1 []):=by
   intro id o z;simp only[ac]at z;cases D:(1000:Nat)==id with
   |true=>rw[D]at z;left;exact⟨(by simpa using D:1000=id).symm,(O_ z).symm⟩
   |false=>
    rw[D]at z;cases A:(1001:Nat)==id with
    |true=>rw[A]at z;right;exact⟨(by simpa using A:1001=id).symm,(O_ z).symm⟩
    |false=>rw[A]at z;simp at z
  have H':∀g,β 1001=some g->b≠g:=fun g hg e1=>by
   have:=l' 1000 1001 _ _ b rfl rfl hb (by rw[hg,e1]);cases this
  have s':p.heap[b]?=some (.cells cs e fr):=(q5 b r' H').trans C
  have t':∀x,au p S (fun i=>if i=1001 then .slice none 0 0 else μ i) [(1000,.box [.selfN 1000 309 false,.ownT 1001 v 5]),(1001,.arr (v+1) 1 [])] (.ownT 1001 v 5) x↔∀a n c,x=.slice (some a) n c->∃m,p.shape? a.block=some (5,m):=by
   intro x;refine⟨fun h=>h.2,fun h=>⟨?_,h⟩⟩;intro cv s q d';obtain⟨rfl,rfl,rfl⟩:v+1=cv/\1=s/\[]=q:=by simpa[ac]using d'
   exact⟨by omega,fun e1=>by omega⟩
  refine⟨_,S,(fun i=>if i=1001 then .slice none 0 0 else μ i),(fun i=>if i=1001 then none else β i),rfl,rfl,?_,?_,?_,?_,fun O o e'=>Nat.lt_of_lt_of_le (hS O o e') q4,fun _ _ h=>h,fun _ _ h=>.inl h,?_,?_,fun O o e'=>(q6 ⟨O,o,none⟩).elim (fun h=>h) (fun h=>absurd (hS O o e') (Nat.not_lt.2 h))⟩
  ·intro id o z;rcases two id o z with⟨rfl,rfl⟩|⟨rfl,rfl⟩
   ·refine⟨b,cs,e,fr,hb,Q,s',B',?_⟩;rw[m'];refine⟨_,_,rfl,C',?_,_,_,rfl,E',?_,rfl⟩
    ·intro f' _;obtain⟨b2,I',u',hv⟩:=D' _ rfl;exact⟨b2,I',q7 _ _ u',hv⟩
    ·exact(t' _).2 fun a n c hh=>let ⟨m,hm⟩:=F a n c hh;⟨m,q7 _ _ hm⟩
   ·exact .inl ⟨rfl,rfl,none,rfl⟩
  ·intro id J o o' O D A h3 h4;rcases two id o D with⟨rfl,_⟩|⟨rfl,_⟩<;>rcases two J o' A with⟨rfl,_⟩|⟨rfl,_⟩<;>first|rfl|(simp at h3;done)|(simp at h4;done)
  ·intro id o O D A;right;rcases two id o D with⟨rfl,_⟩|⟨rfl,_⟩
   ·exact⟨1000,_,rfl,by simpa using A⟩
   ·simp at A
  ·intro id o O U D A h3;exfalso;rcases two id o D with⟨rfl,_⟩|⟨rfl,_⟩
   ·exact absurd (c' 1000 _ O U rfl (by simpa using A) h3).1 (by simp)
   ·simp at A
  ·exact⟨q1,q2,q3,q4,fun k P hm=>q5 k P (fun g hg e1=>hm ⟨1001,_,rfl,by rw[e1];exact hg⟩),q7⟩
  ·intro id o z
   have J':(id=1000/\o=.box [.selfN 1000 309 false,.ownT 1001 v 5])\/(id=1001/\o=.arr v 1 (an l)):=by
    simp only[gO,ac]at z;cases D:(1000:Nat)==id with
    |true=>rw[D]at z;left;exact⟨(by simpa using D:1000=id).symm,(O_ z).symm⟩
    |false=>
     rw[D]at z;cases A:(1001:Nat)==id with
     |true=>rw[A]at z;right;exact⟨(by simpa using A:1001=id).symm,(O_ z).symm⟩
     |false=>rw[A]at z;simp at z
   rcases J' with⟨rfl,rfl⟩|⟨rfl,rfl⟩
   ·intro f' _;exact⟨b,by simpa using Q,Q⟩
   ·intro cv s q d';obtain⟨rfl,rfl,rfl⟩:v+1=cv/\1=s/\[]=q:=by simpa[ac]using d'
    exact⟨by omega,fun e1=>by omega⟩
 have x':l=[]->∃(v':Value),v'=Value.string ⟨#[]⟩:=fun _=>⟨_,rfl⟩
 rcases Z 1001 _ rfl with⟨K',y',base,K⟩|⟨g,V,vs,e1,L',y',K,B,g',O',a',_,L⟩
 ·have M:l=[]:=by simpa[an]using K'
  subst M;have N:v1=.slice base 0 0:=q'.trans K;subst N;cases base with
  |none=>
   refine dP Tryz.func208 (by decide) ((aaz b w f).mono ?_);rintro ev p ⟨rfl,rfl⟩;exact H w.drew rfl rfl rfl (Nat.le_refl _) (fun _ _ _=>rfl) (fun _=>.inl rfl) (fun _ _ h=>h)
  |some a=>
   obtain⟨m,hm⟩:=F a 0 0 rfl;refine dP Tryz.func208 (by decide) ((I3 b a m w f hm).mono ?_);rintro ev p ⟨rfl,rfl⟩
   exact H (w.drew.alloc _) rfl rfl rfl (by simp) (fun k P _=>Below.heap_alloc w.drew _ k P) (fun a=>by
    rcases Nat.lt_or_ge a.block w.heap.size with h|h
    ·exact .inl (World.cell?_of_block (Below.heap_alloc w.drew _ a.block h))
    ·exact .inr h) (fun k x E=>(dp (Below.heap_alloc w.drew _ k (pK E))).trans E)
 ·have N:v1=.slice (some ⟨g,0,none⟩) (an l).length V:=q'.trans K;subst N;have z':(an l).length=l.length:=by simp[an]
  obtain⟨m,hm⟩:=F ⟨g,0,none⟩ _ _ rfl;simp only[World.shape?,B,E_,Prod.mk.injEq]at hm;obtain⟨rfl,rfl⟩:=hm;have g':L'=(0,0):=g';subst g';rw[z']at f a' L;have P':g<w.heap.size:=(Array.getElem?_eq_some_iff.1 B).1;by_cases M:l=[]
  ·subst M;by_cases A':V=0
   ·subst A';refine dP Tryz.func208 (by decide) ((I3 b ⟨g,0,none⟩ vs.size w f (by simp[World.shape?,B])).mono ?_);rintro ev p ⟨rfl,rfl⟩
    exact H (w.drew.alloc _) rfl rfl rfl (by simp) (fun k P _=>Below.heap_alloc w.drew _ k P) (fun a=>by
     rcases Nat.lt_or_ge a.block w.heap.size with h|h
     ·exact .inl (World.cell?_of_block (Below.heap_alloc w.drew _ a.block h))
     ·exact .inr h) (fun k x E=>(dp (Below.heap_alloc w.drew _ k (pK E))).trans E)
   ·refine dP Tryz.func208 (by decide) ((XN b ⟨g,0,none⟩ V A' w f).mono ?_);rintro ev p ⟨rfl,rfl⟩;exact H w.drew rfl rfl rfl (Nat.le_refl _) (fun _ _ _=>rfl) (fun _=>.inl rfl) (fun _ _ h=>h)
  ·have W:∀j x,l[j]?=some x->w.cell? ((⟨g,0,none⟩:Addr).add j)=some (.int .u8 x.toNat):=by
    intro j x E;have hj:j<l.length:=(List.getElem?_eq_some_iff.1 E).1
    have M':∀(l:List UInt8) (us:List Value) (j:Nat) (x:UInt8),aj w S (an l).flatten us->l[j]?=some x->us[j]?=some (.int .u8 x.toNat):=by
     intro l
     induction l with
     |nil=>intro us j x _ h;simp at h
     |cons y r ih=>
      rintro us j x ⟨u,N',rfl,_,hu,hr⟩ h;cases j with
      |zero=>
       simp only[List.getElem?_cons_zero,E_]at h;subst h;have hu:u=_:=hu;simp[hu]
      |succ j=>simpa using ih N' j x hr (by simpa using h)
    have:=M' l _ j x L E;rw[Nat.mul_one,List.getElem?_take,if_pos hj,Array.getElem?_toList]at this;rw[HL rfl];simpa using HO B this
   refine dP Tryz.func208 (by decide) ((XM b g V v0 vs l w M f a' B (by omega) hl W).mono ?_);rintro ev p ⟨rfl,rfl⟩;have h':¬l.length=0:=by simpa using M
   have i':∀k,k≠g->(w.drew.freeze ⟨g,0,none⟩ l.length).heap[k]?=w.heap[k]?:=by
    intro k P;unfold World.freeze;rw[if_neg h'];show(w.heap.modify g _)[k]?=_;rw[Array.getElem?_modify,if_neg (fun e=>P e.symm)]
   have X:∃j',(w.drew.freeze ⟨g,0,none⟩ l.length).heap[g]?=some (.cells vs 5 j'):=by
    unfold World.freeze;rw[if_neg h'];show ∃j',(w.heap.modify g _)[g]?=_;rw[Array.getElem?_modify,if_pos rfl,B];exact⟨_,rfl⟩
   obtain⟨j',X⟩:=X
   have Y:(w.drew.freeze ⟨g,0,none⟩ l.length).os=w.os/\(w.drew.freeze ⟨g,0,none⟩ l.length).tape=w.tape/\(w.drew.freeze ⟨g,0,none⟩ l.length).output=w.output/\w.heap.size<=(w.drew.freeze ⟨g,0,none⟩ l.length).heap.size:=by
    unfold World.freeze;rw[if_neg h'];refine⟨rfl,rfl,rfl,?_⟩;show _<=(w.heap.modify g _).size;simp
   refine H (w.drew.freeze ⟨g,0,none⟩ l.length) Y.1 Y.2.1 Y.2.2.1 Y.2.2.2 (fun k _ A=>i' k (A g y')) (fun a=>.inl ?_) (fun k x E=>?_)
   ·by_cases ha:a.block=g
    ·simp only[World.cell?,ha,X,B]
    ·exact World.cell?_of_block (i' _ ha)
   ·by_cases P:k=g
    ·subst P;simp only[World.shape?,X,B]at E |-;exact E
    ·exact(dp (i' k P)).trans E
end Go.Vs.YtcjeehebikeghaaGreatDoor
