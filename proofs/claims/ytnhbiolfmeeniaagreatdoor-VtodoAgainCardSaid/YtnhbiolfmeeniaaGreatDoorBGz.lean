/- A part of a proof. No conditions. -/
import Derived.Test.YtnhbiolfmeeniaaGreatDoorBEz
import Derived.Lib.Builder
import Derived.Lib.UnsafeStr
import Derived.Lib.FrozenHead
import Derived.RegionTactic
import Derived.ChangeAlike
import Derived.BigRegion
set_option linter.all false
set_option maxRecDepth 1000000
set_option maxHeartbeats 4000000
namespace Go.Vs.Y.E
open Go.Proofs Go.Proofs.YtnhbiolfmeeniaaGreatDoor Go.RowKit Go.Extern.Stop Go.Stop Go.Extern
theorem ErrV.iface{W:World}{n:Int}{ps:List Int}{E:Value}(h:ErrV W n ps E):∃T v,E=.iface T v:=by
 cases ps with
 |nil=>exact⟨_,_,h⟩
 |cons p l=>obtain⟨b,c,h,_⟩:=h;exact⟨_,_,h⟩
set_option maxHeartbeats 4000000 in
theorem As_eno(n:Int)(ps:List Int)(E:Value)(t:Addr)(f:Value)(w:World)(j:ErrV w n ps E)(m:w.cell? ⟨0,0,none⟩=some (.iface 208 (.agg #[.pointer (some ⟨8,40,none⟩)])))(c:w.cell? t=some f)(g:w.frozen? t=false) :
  Calls T_ 49 #[E,.iface 107 (.pointer (some t))] w fun ev o=>ev=.returned (.bool true)/\o=((((w.alloc (.cells #[.pointer (some t)] 107)).alloc (.cells #[.pointer (some ⟨8,107,none⟩),.pointer (some ⟨w.heap.size,0,none⟩),.int .u64 150] 145)).alloc (.cells #[.pointer (some ⟨8,107,none⟩),.pointer (some ⟨w.heap.size,0,none⟩),.int .u64 150] 145)).alloc (.cells #[.int .i64 n] 43)).setCell t (.int .i64 n):=by
 obtain⟨T,v,rfl⟩:=j.iface;have y:=@run_callFunc_extern T_ 80 _ (fun args=>ReflectliteValue.unpack (args.getD 0 (.tuple #[]))) Tryz.func80 (by kernel_rfl) (by kernel_rfl) (by kernel_rfl) (by kernel_rfl);have z:=@run_callFunc_extern T_ 81 _ (ReflectliteValue.methodAny (ReflectliteValue.valueError "reflectlite.Value.Type" 0) (fun t _ _ _=>ReflectliteType.toType t)) Tryz.func81 (by kernel_rfl) (by kernel_rfl) (by kernel_rfl) (by kernel_rfl);have A:=@run_callFunc_extern T_ 82 _ (ReflectliteValue.method (ReflectliteValue.valueError "reflectlite.Value.IsNil" 0) ReflectliteValue.isNil) Tryz.func82 (by kernel_rfl) (by kernel_rfl) (by kernel_rfl) (by kernel_rfl);have q:=@run_callFunc_extern T_ 299 _ (ReflectliteType.abiMethod fun t=>do pure (.int .u8 (<-Rtype.kind t))) Tryz.func299 (by kernel_rfl) (by kernel_rfl) (by kernel_rfl) (by kernel_rfl);have s:=@run_callFunc_extern T_ 312 _ (ReflectliteType.method ReflectliteType.elem) Tryz.func312 (by kernel_rfl) (by kernel_rfl) (by kernel_rfl) (by kernel_rfl);have u:=@run_callFunc_extern T_ 313 _ (ReflectliteType.relation "Implements" ReflectliteType.implements_) Tryz.func313 (by kernel_rfl) (by kernel_rfl) (by kernel_rfl) (by kernel_rfl);have B:=vo2;have C:=ty2;have D:=abK;have F:=abL;have H:=ahO;have I:=ajb;have J:=ajc;have e1:=ajd;have i1:=ajZ;have k:0<w.heap.size:=xf (a:=⟨0,0,none⟩) m;have h:t.block<w.heap.size:=xf c;obtain⟨i,b⟩:=B_ ((w.alloc (.cells #[.pointer (some t)] 107)).alloc (.cells #[.pointer (some ⟨8,107,none⟩),.pointer (some ⟨w.heap.size,0,none⟩),.int .u64 150] 145));have d:i.cell? ⟨w.heap.size,0,none⟩=some (.pointer (some t)):=by rw[b];simp
 have x:=ahP ⟨w.heap.size,0,none⟩ t i d;have l:i.cell? ⟨0,0,none⟩=some (.iface 208 (.agg #[.pointer (some ⟨8,40,none⟩)])):=by rw[b];exact cE _ _ (cE _ _ m)
 have p:=ahS n ps (.iface T v) i ⟨w.heap.size,0,none⟩ t f (by rw[b];exact ErrV.mono cE (ErrV.mono cE j)) d (by rw[b];exact cE _ _ (cE _ _ c)) (by rw[b];exact ie (by simp;omega) (ie h g));rw[b]at x l p;clear j d b c g k h;go_enter Tryz.func49,Tryz.ntmps49;go_wp2_with (go_at_call 83;refine p.mono ?_;rintro e o ⟨rfl,rfl⟩);go_ret;exact⟨rfl,rfl⟩
set_option maxHeartbeats 4000000 in
theorem As_pf(e0:Addr)(t:Addr)(f:Value)(w:World)(l:w.cell? ⟨0,0,none⟩=some (.iface 208 (.agg #[.pointer (some ⟨8,40,none⟩)])))(c:w.cell? t=some f)(g:w.frozen? t=false) :
  Calls T_ 49 #[.iface 110 (.pointer (some e0)),.iface 154 (.pointer (some t))] w fun ev m=>ev=.returned (.bool true)/\m=((((w.alloc (.cells #[.pointer (some t)] 154)).alloc (.cells #[.pointer (some ⟨8,154,none⟩),.pointer (some ⟨w.heap.size,0,none⟩),.int .u64 150] 145)).alloc (.cells #[.pointer (some ⟨8,154,none⟩),.pointer (some ⟨w.heap.size,0,none⟩),.int .u64 150] 145)).alloc (.cells #[.pointer (some e0)] 110)).setCell t (.pointer (some e0)):=by
 have u:=@run_callFunc_extern T_ 80 _ (fun args=>ReflectliteValue.unpack (args.getD 0 (.tuple #[]))) Tryz.func80 (by kernel_rfl) (by kernel_rfl) (by kernel_rfl) (by kernel_rfl);have v:=@run_callFunc_extern T_ 81 _ (ReflectliteValue.methodAny (ReflectliteValue.valueError "reflectlite.Value.Type" 0) (fun t _ _ _=>ReflectliteType.toType t)) Tryz.func81 (by kernel_rfl) (by kernel_rfl) (by kernel_rfl) (by kernel_rfl);have x:=@run_callFunc_extern T_ 82 _ (ReflectliteValue.method (ReflectliteValue.valueError "reflectlite.Value.IsNil" 0) ReflectliteValue.isNil) Tryz.func82 (by kernel_rfl) (by kernel_rfl) (by kernel_rfl) (by kernel_rfl);have o:=@run_callFunc_extern T_ 299 _ (ReflectliteType.abiMethod fun t=>do pure (.int .u8 (<-Rtype.kind t))) Tryz.func299 (by kernel_rfl) (by kernel_rfl) (by kernel_rfl) (by kernel_rfl);have p:=@run_callFunc_extern T_ 312 _ (ReflectliteType.method ReflectliteType.elem) Tryz.func312 (by kernel_rfl) (by kernel_rfl) (by kernel_rfl) (by kernel_rfl);have q:=@run_callFunc_extern T_ 313 _ (ReflectliteType.relation "Implements" ReflectliteType.implements_) Tryz.func313 (by kernel_rfl) (by kernel_rfl) (by kernel_rfl) (by kernel_rfl);have y:=vo1;have z:=ty1;have A:=abK;have B:=abL;have C:=ahO;have D:=agR;have E:=agS;have e1:=agT;have i1:=aje;have j:0<w.heap.size:=xf (a:=⟨0,0,none⟩) l;have h:t.block<w.heap.size:=xf c;obtain⟨i,b⟩:=B_ ((w.alloc (.cells #[.pointer (some t)] 154)).alloc (.cells #[.pointer (some ⟨8,154,none⟩),.pointer (some ⟨w.heap.size,0,none⟩),.int .u64 150] 145));have d:i.cell? ⟨w.heap.size,0,none⟩=some (.pointer (some t)):=by rw[b];simp
 have s:=abO ⟨w.heap.size,0,none⟩ t i d;have k:i.cell? ⟨0,0,none⟩=some (.iface 208 (.agg #[.pointer (some ⟨8,40,none⟩)])):=by rw[b];exact cE _ _ (cE _ _ l)
 have n:=ajf e0 ⟨w.heap.size,0,none⟩ t f i d (by rw[b];exact cE _ _ (cE _ _ c)) (by rw[b];exact ie (by simp;omega) (ie h g));rw[b]at s k n;clear d b c g j h;go_enter Tryz.func49,Tryz.ntmps49;go_wp2_with (go_at_call 83;refine n.mono ?_;rintro e m ⟨rfl,rfl⟩);go_ret;exact⟨rfl,rfl⟩
set_option maxHeartbeats 4000000 in
theorem As_pf_no(n:Int)(t:Addr)(w:World)(h:w.cell? ⟨0,0,none⟩=some (.iface 208 (.agg #[.pointer (some ⟨8,40,none⟩)]))) :
  Calls T_ 49 #[.iface 43 (.int .i64 n),.iface 154 (.pointer (some t))] w fun ev i=>ev=.returned (.bool false)/\i=((w.alloc (.cells #[.pointer (some t)] 154)).alloc (.cells #[.pointer (some ⟨8,154,none⟩),.pointer (some ⟨w.heap.size,0,none⟩),.int .u64 150] 145)).alloc (.cells #[.pointer (some ⟨8,154,none⟩),.pointer (some ⟨w.heap.size,0,none⟩),.int .u64 150] 145):=by
 have p:=@run_callFunc_extern T_ 80 _ (fun args=>ReflectliteValue.unpack (args.getD 0 (.tuple #[]))) Tryz.func80 (by kernel_rfl) (by kernel_rfl) (by kernel_rfl) (by kernel_rfl);have q:=@run_callFunc_extern T_ 81 _ (ReflectliteValue.methodAny (ReflectliteValue.valueError "reflectlite.Value.Type" 0) (fun t _ _ _=>ReflectliteType.toType t)) Tryz.func81 (by kernel_rfl) (by kernel_rfl) (by kernel_rfl) (by kernel_rfl);have s:=@run_callFunc_extern T_ 82 _ (ReflectliteValue.method (ReflectliteValue.valueError "reflectlite.Value.IsNil" 0) ReflectliteValue.isNil) Tryz.func82 (by kernel_rfl) (by kernel_rfl) (by kernel_rfl) (by kernel_rfl);have k:=@run_callFunc_extern T_ 299 _ (ReflectliteType.abiMethod fun t=>do pure (.int .u8 (<-Rtype.kind t))) Tryz.func299 (by kernel_rfl) (by kernel_rfl) (by kernel_rfl) (by kernel_rfl);have l:=@run_callFunc_extern T_ 312 _ (ReflectliteType.method ReflectliteType.elem) Tryz.func312 (by kernel_rfl) (by kernel_rfl) (by kernel_rfl) (by kernel_rfl);have m:=@run_callFunc_extern T_ 313 _ (ReflectliteType.relation "Implements" ReflectliteType.implements_) Tryz.func313 (by kernel_rfl) (by kernel_rfl) (by kernel_rfl) (by kernel_rfl);have u:=vo1;have v:=ty1;have x:=abK;have y:=abL;have z:=ahO;have A:=agR;have B:=agS;have e1:=agT;have i1:=aje;have f:0<w.heap.size:=xf (a:=⟨0,0,none⟩) h;obtain⟨d,b⟩:=B_ ((w.alloc (.cells #[.pointer (some t)] 154)).alloc (.cells #[.pointer (some ⟨8,154,none⟩),.pointer (some ⟨w.heap.size,0,none⟩),.int .u64 150] 145));have c:d.cell? ⟨w.heap.size,0,none⟩=some (.pointer (some t)):=by rw[b];simp
 have o:=abO ⟨w.heap.size,0,none⟩ t d c;have g:d.cell? ⟨0,0,none⟩=some (.iface 208 (.agg #[.pointer (some ⟨8,40,none⟩)])):=by rw[b];exact cE _ _ (cE _ _ h)
 have j:=abP n ⟨w.heap.size,0,none⟩ t d;rw[b]at o g j;clear c b f;go_enter Tryz.func49,Tryz.ntmps49;go_wp2_with (go_at_call 83;refine j.mono ?_;rintro e i ⟨rfl,rfl⟩);go_ret;exact⟨rfl,rfl⟩
end Go.Vs.Y.E
namespace Go.Vs.Y
open Go.Proofs
def jO:VCode:=Q_ 4 [.K (.const (.val .nili))] (R_ 5 6 [.m 0,.g (.callM 189 [tm 5])] (R_ 7 16 [.m 0,.m 0,.k,.f 1,.l,.m 1,.g (.buildSlice 1 1 (z_ [.u]) [(0,1,tm 12)]),.g (.append 5 1 1 (tm 11) (tm 13)),.g (.nilCheck (tm 7)),.f 1,.T 1 16 14] (Q_ 4 [.K (.const (.val .nili))] .ret)))
theorem qw:FnOk T_ 132 jO [.tmp 4] 17:=fK_ Tryz.func132
def jc:VCode:=Q_ 4 [.n 0,.K (.const (.val .nili))] (R_ 6 7 [.m 0,.g (.callM 189 [tm 6])] (R_ 8 16 [.m 0,.m 0,.k,.f 1,.l,.m 1,.g (.appendS 5 1 (tm 12) (tm 13)),.g (.nilCheck (tm 8)),.f 1,.T 1 16 14] (R_ 17 18 [.m 1,.h,.a 4,.J 5 (.const (.val .nili))] .ret)))
theorem p8:FnOk T_ 169 jc [.tmp 4,.tmp 5] 19:=fK_ Tryz.func169
open Go.Proofs.YtnhbiolfmeeniaaGreatDoor Go.RowKit Go.Lib
def dD(n:Int):List Int->IV
 |[]=>.iface 43 (.int .i64 n)
 |p::ps=>.iface 110 (.ref [.int .i64 p,dD n ps])
theorem Xj{w:World}{S:bb}{n:Int} : ∀ {ps:List Int} {v:Value},sI w S (dD n ps) v->E.ErrV w n ps v
 |[],v,⟨u,b,a⟩=>by
  have a:u=.int .i64 n:=a;subst a;exact b
 |p::ps,v,⟨u,b,c,off,a,_,_,⟨u0,g,h⟩,_,_,⟨u1,d,f⟩,_⟩=>by
  subst a;subst b;exact⟨c,off,rfl,u1,d,Xj f⟩
theorem abQ{w:World}{S:bb}(h:∀p,p∈G->jt w S p):w.cell? ⟨0,0,none⟩=some (.iface 208 (.agg #[.pointer (some ⟨8,40,none⟩)])):=by
 obtain⟨⟨_,_,⟨v,b,a⟩,_⟩,_⟩:=h (0,[.handle 208 8 40]) (by simp[G]);have a:v=_:=a;subst a;exact b
theorem Qv:wg T_ 49:=⟨Tryz.f49,Tryz.func49,by decide⟩
theorem Kp(n m:Int)(ps:List Int):lB G T_ 49
  {args:=[.val (dD n ps),.ifc 107 (.loc 1000 0)],objs:=[(1000,.box [.val (.int .i64 m)])],res:=.val (.bool true),objs':=[(1000,.box [.val (.int .i64 n)])],ro':=[] }:=by
 refine AJ (id:=1000) (cells:=[.val (.int .i64 m)]) (cells':=[.val (.int .i64 n)]) Qv rfl ?_;rintro w S C D F b cs e fr h ⟨v,_,rfl,x,_,_,rfl,⟨u,rfl,y⟩,rfl⟩ p q H i a j ⟨s,_,c,_,z,d⟩;obtain⟨A,g,rfl⟩:=y _ rfl;rw[i]at g;obtain rfl:b=A:=by simpa using g
 have B:cs.size=1:=by
  have:=congrArg List.length c;have k:_=[]:=d;subst k;simpa using this
 have f:w.cell? ⟨b,0,none⟩=some s:=Ke a (by rw[<-Array.getElem?_toList,c];rfl);have o:b<w.heap.size:=(Array.getElem?_eq_some_iff.1 a).1;refine dq Tryz.func49 (by decide) ((E.As_eno n ps v ⟨b,0,none⟩ s w (Xj x) (abQ h) f (Vx a j (by omega))).mono ?_);rintro ev I ⟨rfl,rfl⟩;refine⟨.bool true,_,cs.setIfInBounds 0 (.int .i64 n),rfl,?_,qa (off:=0) (e:=e) (fr:=fr) ?_ _,by simp,?_,rfl⟩
 .exact((((Below.refl _ w).alloc (Nat.le_refl _) _).alloc (by simp) _).alloc (by simp;omega) _).alloc (by simp;omega) _
 .rw[Below.heap_alloc _ _ _ (by simp;omega),Below.heap_alloc _ _ _ (by simp;omega),Below.heap_alloc _ _ _ (by simp;omega),Below.heap_alloc _ _ _ o];exact a
 obtain⟨l⟩:=cs;have k:_=[]:=d;subst k;simp only at c;subst c;exact⟨_,[],rfl,rfl,rfl,rfl⟩
theorem Z6(m:IV)(cells:List IV):lB G T_ 49
  {args:=[.val (.iface 110 (.ref cells)),.ifc 154 (.loc 1000 0)],objs:=[(1000,.box [.val m])],res:=.val (.bool true),objs':=[(1000,.box [.val (.ref cells)])],ro':=[] }:=by
 refine AJ (id:=1000) (cells:=[.val m]) (cells':=[.val (.ref cells)]) Qv rfl ?_;rintro w S C D F b cs e fr i ⟨H,_,rfl,x,_,_,rfl,⟨u,rfl,y⟩,rfl⟩ q s I j a k ⟨v,_,c,_,z,d⟩;obtain⟨A,h,rfl⟩:=y _ rfl;rw[j]at h;obtain rfl:b=A:=by simpa using h
 obtain⟨J,rfl,f,off,rfl,n⟩:=x
 have B:cs.size=1:=by
  have:=congrArg List.length c;have o:_=[]:=d;subst o;simpa using this
 have g:w.cell? ⟨b,0,none⟩=some v:=Ke a (by rw[<-Array.getElem?_toList,c];rfl);have p:b<w.heap.size:=(Array.getElem?_eq_some_iff.1 a).1;refine dq Tryz.func49 (by decide) ((E.As_pf ⟨f,off,none⟩ ⟨b,0,none⟩ v w (abQ i) g (Vx a k (by omega))).mono ?_);rintro ev K ⟨rfl,rfl⟩;refine⟨.bool true,_,cs.setIfInBounds 0 (.pointer (some ⟨f,off,none⟩)),rfl,?_,qa (off:=0) (e:=e) (fr:=fr) ?_ _,by simp,?_,rfl⟩
 .exact((((Below.refl _ w).alloc (Nat.le_refl _) _).alloc (by simp) _).alloc (by simp;omega) _).alloc (by simp;omega) _
 .rw[Below.heap_alloc _ _ _ (by simp;omega),Below.heap_alloc _ _ _ (by simp;omega),Below.heap_alloc _ _ _ (by simp;omega),Below.heap_alloc _ _ _ p];exact a
 obtain⟨l⟩:=cs;have o:_=[]:=d;subst o;simp only at c;subst c;exact⟨_,[],rfl,rfl,⟨f,off,rfl,n⟩,rfl⟩
theorem Z7(n:Int)(m:IV):lB G T_ 49
  {args:=[.val (.iface 43 (.int .i64 n)),.ifc 154 (.loc 1000 0)],objs:=[(1000,.box [.val m])],res:=.val (.bool false),objs':=[(1000,.box [.val m])],ro':=[] }:=by
 refine AJ (id:=1000) (cells:=[.val m]) (cells':=[.val m]) Qv rfl ?_;rintro w S x y z b cs e A d ⟨B,_,rfl,o,_,_,rfl,⟨u,rfl,p⟩,rfl⟩ k l C f a q g;obtain⟨s,c,rfl⟩:=p _ rfl;rw[f]at c;obtain rfl:b=s:=by simpa using c
 obtain⟨v,rfl,i⟩:=o;have i:v=.int .i64 n:=i;subst i;have j:b<w.heap.size:=(Array.getElem?_eq_some_iff.1 a).1;refine dq Tryz.func49 (by decide) ((E.As_pf_no n ⟨b,0,none⟩ w (abQ d)).mono ?_);rintro ev D ⟨rfl,rfl⟩;refine⟨.bool false,_,cs,rfl,(((Below.refl _ w).alloc (Nat.le_refl _) _).alloc (by simp) _).alloc (by simp;omega) _,⟨rfl,rfl,rfl,rfl,fun _ _=>rfl,?_,fun _ _ h=>h⟩,rfl,g,rfl⟩;rw[Below.heap_alloc _ _ _ (by simp;omega),Below.heap_alloc _ _ _ (by simp;omega),Below.heap_alloc _ _ _ j];exact a
theorem abR:(T_.info? 223).map (·.size)=some 2:=by kernel_rfl
theorem ahT:liesAt T_ T_.depth 223 (2/T_.cellsOf 223) 0 223 1=true:=by kernel_rfl
theorem ae7(b:Nat)(w:World)(d:w.cell? ⟨b,0,none⟩=some (.pointer (some ⟨b,0,none⟩))) :
  Calls T_ 189 #[.pointer (some ⟨b,0,none⟩)] w fun e a=>e=.returned (.tuple #[])/\a=w:=by
 obtain⟨j,c,_⟩:=Option.map_eq_some_iff.1 abR;go_enter Tryz.func189,Tryz.ntmps189;go_wp2;rw[Lib.run_neq_ptr_same w _ Tryz.underlying221 c];go_wp2;go_end0;exact⟨rfl,rfl⟩
theorem abS(b:Nat)(w:World)(h:w.cell? ⟨b,0,none⟩=some (.pointer none))(a:w.shape? b=some (223,2))(f:w.frozen? ⟨b,0,none⟩=false) :
  Calls T_ 189 #[.pointer (some ⟨b,0,none⟩)] w fun e g=>e=.returned (.tuple #[])/\g=w.setCell ⟨b,0,none⟩ (.pointer (some ⟨b,0,none⟩)):=by
 obtain⟨j,d,c⟩:=Option.map_eq_some_iff.1 abR;go_enter Tryz.func189,Tryz.ntmps189;go_wp2;rw[Lib.run_to_unsafe w ⟨b,0,none⟩ Tryz.underlying221 Tryz.underlying142 d (by rw[c];decide) a (Nat.zero_lt_succ 1)];simp only[Result.andThen];rw[Oper.upon_value];go_wp2;rw[run_callFunc_extern Tryz.func230 (by kernel_rfl) (by kernel_rfl) (by kernel_rfl) (e:=Extern.AbiNoEscape.same) (by kernel_rfl)];rw[Lib.run_noEscape];simp only[Result.andThen];rw[Oper.upon_value];go_wp2;rw[Lib.run_from_unsafe w ⟨b,0,none⟩ Tryz.underlying142 Tryz.underlying221 d a ahT];simp only[Result.andThen];rw[Oper.upon_value];go_wp2;go_end0;exact⟨rfl,rfl⟩
def de(v:Nat)(l:List UInt8):List (Nat×Ob):=[(1000,.box [.selfN 1000 223 false,.ownT 1001 v 5]),(1001,.arr v 1 (av l))]
theorem Bn(v:Nat)(f:List (List IV)):lB G T_ 189
  {args:=[.selfN 1000 223 true],objs:=[(1000,.box [.selfN 1000 223 false,.ownT 1001 v 5]),(1001,.arr v 1 f)],res:=.val (.tuple []),
   objs':=[(1000,.box [.selfN 1000 223 false,.ownT 1001 v 5]),(1001,.arr v 1 f)],ro':=[] }:=by
 refine AJ (id:=1000) (cells:=[.selfN 1000 223 false,.ownT 1001 v 5]) (cells':=[.selfN 1000 223 false,.ownT 1001 v 5]) ⟨Tryz.f189,Tryz.func189,by decide⟩ rfl ?_;rintro w S H I J b cs e fr B ⟨u,_,rfl,C,rfl⟩ x y K g a n z;have o:=z;obtain⟨D,_,d,_,i,L,_,rfl,_,p,rfl⟩:=z;obtain⟨q,j,k,⟨h,_⟩|s⟩:=C _ rfl
 .cases h
 rw[g]at j;obtain rfl:b=q:=by simpa using j
 subst s;obtain⟨q,m,A,i⟩:=i _ rfl;rw[g]at m;obtain rfl:b=q:=by simpa using m
 have c:w.cell? ⟨b,0,none⟩=some D:=Ke a (by rw[<-Array.getElem?_toList,d];rfl)
 have E:cs.size=2:=by
  have:=congrArg List.length d;simpa using this
 obtain⟨l⟩:=cs;simp only at d;subst d;rcases i with⟨_,rfl⟩|rfl
 .refine dq Tryz.func189 (by decide) ((abS b w c k (Vx a n (by omega))).mono ?_);rintro ev F ⟨rfl,rfl⟩;refine⟨.tuple #[],_,_,rfl,Below.refl _ _,qa (off:=0) (e:=e) (fr:=fr) a _,by simp,?_,⟨#[],rfl,rfl⟩⟩;exact⟨_,_,rfl,rfl,fun cells M=>⟨b,g,k,.inr rfl⟩,_,_,rfl,by assumption,p,rfl⟩
 refine dq Tryz.func189 (by decide) ((ae7 b w c).mono ?_);rintro ev F ⟨rfl,rfl⟩;exact⟨.tuple #[],_,_,rfl,Below.refl _ _,⟨rfl,rfl,rfl,rfl,fun _ _=>rfl,a,fun _ _ h=>h⟩,rfl,o,⟨#[],rfl,rfl⟩⟩
theorem n9(a b:List UInt8):av (a++b)=av a++av b:=by simp[av]
theorem vh(a:List UInt8)(c:UInt8):av (a++[c])=av a++[[.int .u8 c.toNat]]:=by simp[av]
theorem qe(v:Nat)(l:List UInt8)(c:UInt8)(a:l.length<100000000):lB G T_ 132
  {args:=[.selfN 1000 223 true,.val (.int .u8 c.toNat)],objs:=de v l,res:=.val .nili,objs':=de (v+1) (l++[c]),ro':=[] }:=by
 refine aK hm qw (by simp) rfl ?_;simp[jO,de,rq];refine callM [] [] (Bn v _) rfl rfl ⟨rfl,rfl,trivial⟩ ⟨rfl,rfl⟩ rfl ?_;simp;refine⟨by simp[av];omega,?_⟩;simp[cI,vh];exact⟨⟨[(4,.val .nili)],de (v+1) (l++[c]),[],17,G⟩,(by simp only[de,vh];exact bA),by simp[de,vh],[],rfl,rfl,rfl⟩
theorem nc(v:Nat)(l s:List UInt8)(a:l.length+s.length<100000000):lB G T_ 169
  {args:=[.selfN 1000 223 true,.val (.str s)],objs:=de v l,res:=.val (.tuple [.int .i64 s.length,.nili]),objs':=de (v+1) (l++s),ro':=[] }:=by
 refine aK hm p8 (by simp) rfl ?_;simp[jc,de,rq];refine callM [] [] (Bn v _) rfl rfl ⟨rfl,rfl,trivial⟩ ⟨rfl,rfl⟩ rfl ?_;simp;refine⟨by simp[av];omega,?_⟩;simp[cI,n9];exact⟨⟨[(4,.val (.int .i64 s.length)),(5,.val .nili)],de (v+1) (l++s),[],19,G⟩,(by simp only[de,n9];exact bA),by simp[de,n9],[],rfl,rfl,rfl⟩
theorem cellsByte:T_.cellsOf 5=1:=by kernel_rfl
theorem abT(b g a:Nat)(p:Value)(d:Array Value)(l:List UInt8)(w:World)(h:l≠[])(f:w.cell? ⟨b,1,none⟩=some (.slice (some ⟨g,0,none⟩) l.length a))(i:l.length<=a)(q:w.heap[g]?=some (.cells d 5 (0,0)))(k:d.size=a)(m:l.length<100000000)
  (c:∀j x,l[j]?=some x->w.cell? ((⟨g,0,none⟩:Addr).add j)=some (.int .u8 x.toNat)) :
  Calls T_ 133 #[.pointer (some ⟨b,0,none⟩)] w fun e s=>e=.returned (.string ⟨l.toArray⟩)/\s=w.drew.freeze ⟨g,0,none⟩ l.length:=by
 have n:l.length≠0:=by simpa using h
 have z:w.drew.cell? ⟨b,1,none⟩=some (.slice (some ⟨g,0,none⟩) l.length a):=f
 have u:(Builtin.unsafeSliceData_ #[133] 281 #[.slice (some ⟨g,0,none⟩) l.length a]).run T_ w.drew=.ok (.pointer (some ⟨g,0,none⟩)) w.drew:=
  Lib.run_unsafeSliceData_row _ _ _ _ _ _ (by omega)
 have v:(Builtin.unsafeString_ #[281,3] 9 #[.pointer (some ⟨g,0,none⟩),.int .i64 l.length]).run T_ w.drew=.ok (.string ⟨l.toArray⟩) (w.drew.freeze ⟨g,0,none⟩ l.length):=by
  refine Lib.run_unsafeString_row w.drew 281 3 9 5 Tryz.underlying281 cellsByte g d.size (by have o:w.drew.heap[g]?=some (.cells d 5 (0,0)):=q;simp[World.shape?,o]) l h (by omega) (by omega) ?_;intro j x y;exact c j x y
 clear f q k i c h n m;go_enter Tryz.func133,Tryz.ntmps133;go_wp2;go_region
 all_goals (go_wp2;go_ret;exact⟨rfl,rfl⟩)
theorem Qw(W:World)(q:Option Addr):(Builtin.unsafeString_ #[281,3] 9 #[.pointer q,.int .i64 0]).run T_ W=.ok (.string .empty) W:=
 Lib.run_unsafeString_none W _ _ _ q
theorem ae8(b:Nat)(w:World)(a:w.cell? ⟨b,1,none⟩=some (.slice none 0 0)) :
  Calls T_ 133 #[.pointer (some ⟨b,0,none⟩)] w fun e c=>e=.returned (.string ⟨#[]⟩)/\c=w.drew:=by
 have d:=Qw;have g:w.drew.cell? ⟨b,1,none⟩=some (.slice none 0 0):=a;have f:(Builtin.unsafeSliceData_ #[133] 281 #[.slice none 0 0]).run T_ w.drew=.ok (.pointer none) w.drew:=rfl;clear a;go_enter Tryz.func133,Tryz.ntmps133;go_wp2;go_region
 all_goals (go_wp2;go_ret;exact⟨rfl,rfl⟩)
theorem abU(b:Nat)(a:Addr)(c:Nat)(d:c≠0)(w:World)(f:w.cell? ⟨b,1,none⟩=some (.slice (some a) 0 c)) :
  Calls T_ 133 #[.pointer (some ⟨b,0,none⟩)] w fun e g=>e=.returned (.string ⟨#[]⟩)/\g=w.drew:=by
 have h:=Qw;have j:w.drew.cell? ⟨b,1,none⟩=some (.slice (some a) 0 c):=f;have i:(Builtin.unsafeSliceData_ #[133] 281 #[.slice (some a) 0 c]).run T_ w.drew=.ok (.pointer (some a)) w.drew:=Lib.run_unsafeSliceData_row _ _ _ _ _ _ d;clear f d;go_enter Tryz.func133,Tryz.ntmps133;go_wp2;go_region
 all_goals (go_wp2;go_ret;exact⟨rfl,rfl⟩)
theorem Kq(b:Nat)(a:Addr)(m:Nat)(w:World)(c:w.cell? ⟨b,1,none⟩=some (.slice (some a) 0 0))(d:w.shape? a.block=some (5,m)) :
  Calls T_ 133 #[.pointer (some ⟨b,0,none⟩)] w fun e h=>e=.returned (.string ⟨#[]⟩)/\h=w.drew.alloc (.view a 5):=by
 have i:=Qw;have k:w.drew.cell? ⟨b,1,none⟩=some (.slice (some a) 0 0):=c
 have f:b<w.heap.size:=by
  rcases Nat.lt_or_ge b w.heap.size with g|g
  .exact g
  simp[World.cell?,Array.getElem?_eq_none g]at c
 have j:(Builtin.unsafeSliceData_ #[133] 281 #[.slice (some a) 0 0]).run T_ w.drew=.ok (.pointer (some ⟨w.drew.heap.size,0,none⟩)) (w.drew.alloc (.view a 5)):=
  Lib.run_unsafeSliceData_zero w.drew _ _ 5 Tryz.underlying281 a 0 (5,m) d
 have l:(w.alloc (.view a 5)).cell? ⟨b,1,none⟩=some (.slice (some a) 0 0):=by
  rw[World.cell?_of_block (a:=⟨b,1,none⟩) (Below.heap_alloc w _ b f)];exact c
 clear c f d;go_enter Tryz.func133,Tryz.ntmps133;go_wp2;go_region
 all_goals (go_wp2;go_ret;exact⟨rfl,rfl⟩)
theorem tf(v:Nat)(l:List UInt8)(hl:l.length<100000000):lB G T_ 133
  {args:=[.selfN 1000 223 true],objs:=de v l,res:=.val (.str l),objs':=[(1000,.box [.selfN 1000 223 false,.ownT 1001 v 5]),(1001,.arr (v+1) 1 [])],ro':=[] }:=by
 refine⟨⟨Tryz.f133,Tryz.func133,by decide⟩,fun w S μ β vs hS R' l' a' m' d'=>?_⟩;obtain⟨u,_,rfl,hu,rfl⟩:=l';obtain⟨b,cs,e,fr,hb,R,D,C',hc⟩:=a' 1000 _ rfl;obtain⟨v0,_,n',D',E',v1,_,rfl,F',⟨p',H⟩,rfl⟩:=hc;obtain⟨P,q',T',⟨h,_⟩|G'⟩:=hu _ rfl
 .cases h
 rw[R]at q';obtain rfl:b=P:=by simpa using q'
 subst G';have r':=(p' _ _ _ rfl).2 rfl;clear p';have p:w.cell? ⟨b,1,none⟩=some v1:=Ke D (by rw[<-Array.getElem?_toList,n'];rfl);have s':b<w.heap.size:=(Array.getElem?_eq_some_iff.1 D).1
 have I:∀q,q.os=w.os->q.tape=w.tape->q.output=w.output->w.heap.size<=q.heap.size->(∀k,k<w.heap.size->(∀g,β 1001=some g->k≠g)->q.heap[k]?=w.heap[k]?)->(∀a,q.cell? a=w.cell? a\/w.heap.size<=a.block)->(∀k x,w.shape? k=some x->q.shape? k=some x)->
   ∃(v':Value) (S':bb) (U:Nat->Value) (J:Nat->Option Nat),Ending.returned (Value.string ⟨l.toArray⟩)=.returned v'/\au q S' U [(1000,.box [.selfN 1000 223 false,.ownT 1001 v 5]),(1001,.arr (v+1) 1 [])] (.val (.str l)) v'/\
   (∀id o,ac [(1000,.box [.selfN 1000 223 false,.ownT 1001 v 5]),(1001,.arr (v+1) 1 [])] id=some o->bI q S' U [(1000,.box [.selfN 1000 223 false,.ownT 1001 v 5]),(1001,.arr (v+1) 1 [])] (J id) (U id) o)/\
   (∀id K o o' b,ac [(1000,Ob.box [.selfN 1000 223 false,.ownT 1001 v 5]),(1001,.arr (v+1) 1 [])] id=some o->ac [(1000,Ob.box [.selfN 1000 223 false,.ownT 1001 v 5]),(1001,.arr (v+1) 1 [])] K=some o'->J id=some b->J K=some b->id=K)/\
   (∀id o b,ac [(1000,Ob.box [.selfN 1000 223 false,.ownT 1001 v 5]),(1001,.arr (v+1) 1 [])] id=some o->J id=some b->w.heap.size<=b\/∃i x,ac (de v l) i=some x/\β i=some b)/\
   (∀id o b V,ac [(1000,Ob.box [.selfN 1000 223 false,.ownT 1001 v 5]),(1001,.arr (v+1) 1 [])] id=some o->J id=some b->S' b V->id∈([]:List Nat)/\∀H' s z,o=.arr H' s z->V<z.length*s)/\
   (∀b o,S' b o->b<q.heap.size)/\(∀b o,S b o->S' b o)/\(∀b o,S' b o->S b o\/w.heap.size<=b\/∃i x,ac (de v l) i=some x/\β i=some b)/\
   Kept (fun b=>∃i x,ac (de v l) i=some x/\β i=some b) w q/\
   (∀id o,ac (de v l) id=some o->au q S' U [(1000,.box [.selfN 1000 223 false,.ownT 1001 v 5]),(1001,.arr (v+1) 1 [])] (N7 id o) (μ id))/\
   (∀b o,S b o->q.cell? ⟨b,o,none⟩=w.cell? ⟨b,o,none⟩):=by
  intro q q1 q2 q3 q4 q5 q6 q7
  have two:∀id (o:Ob),ac [(1000,Ob.box [.selfN 1000 223 false,.ownT 1001 v 5]),(1001,.arr (v+1) 1 [])] id=some o->(id=1000/\o=.box [.selfN 1000 223 false,.ownT 1001 v 5])\/(id=1001/\o=.arr (v+1) 1 []):=by
   intro id o A;simp only[ac]at A;cases E:(1000:Nat)==id with
   |true=>rw[E]at A;left;exact⟨(by simpa using E:1000=id).symm,(O_ A).symm⟩
   |false=>
    rw[E]at A;cases B:(1001:Nat)==id with
    |true=>rw[B]at A;right;exact⟨(by simpa using B:1001=id).symm,(O_ A).symm⟩
    |false=>rw[B]at A;simp at A
  have I':∀g,β 1001=some g->b≠g:=fun g hg e1=>by
   have:=m' 1000 1001 _ _ b rfl rfl hb (by rw[hg,e1]);cases this
  have t':q.heap[b]?=some (.cells cs e fr):=(q5 b s' I').trans D
  have u':∀x,au q S (fun i=>if i=1001 then .slice none 0 0 else μ i) [(1000,.box [.selfN 1000 223 false,.ownT 1001 v 5]),(1001,.arr (v+1) 1 [])] (.ownT 1001 v 5) x↔∀a n c,x=.slice (some a) n c->∃m,q.shape? a.block=some (5,m):=by
   intro x;refine⟨fun h=>h.2,fun h=>⟨?_,h⟩⟩;intro cv s z e';obtain⟨rfl,rfl,rfl⟩:v+1=cv/\1=s/\[]=z:=by simpa[ac]using e'
   exact⟨by omega,fun e1=>by omega⟩
  refine⟨_,S,(fun i=>if i=1001 then .slice none 0 0 else μ i),(fun i=>if i=1001 then none else β i),rfl,rfl,?_,?_,?_,?_,fun P o f'=>Nat.lt_of_lt_of_le (hS P o f') q4,fun _ _ h=>h,fun _ _ h=>.inl h,?_,?_,fun P o f'=>(q6 ⟨P,o,none⟩).elim (fun h=>h) (fun h=>absurd (hS P o f') (Nat.not_lt.2 h))⟩
  .intro id o A;rcases two id o A with⟨rfl,rfl⟩|⟨rfl,rfl⟩
   .refine⟨b,cs,e,fr,hb,R,t',C',?_⟩;rw[n'];refine⟨_,_,rfl,D',?_,_,_,rfl,F',?_,rfl⟩
    .intro g' _;obtain⟨b2,J',x',hv⟩:=E' _ rfl;exact⟨b2,J',q7 _ _ x',hv⟩
    exact(u' _).2 fun a n c hh=>let ⟨m,hm⟩:=H a n c hh;⟨m,q7 _ _ hm⟩
   exact .inl ⟨rfl,rfl,none,rfl⟩
  .intro id K o o' P E B h3 h4;rcases two id o E with⟨rfl,_⟩|⟨rfl,_⟩<;>rcases two K o' B with⟨rfl,_⟩|⟨rfl,_⟩<;>first|rfl|(simp at h3;done)|(simp at h4;done)
  .intro id o P E B;right;rcases two id o E with⟨rfl,_⟩|⟨rfl,_⟩
   .exact⟨1000,_,rfl,by simpa using B⟩
   simp at B
  .intro id o P V E B h3;exfalso;rcases two id o E with⟨rfl,_⟩|⟨rfl,_⟩
   .exact absurd (d' 1000 _ P V rfl (by simpa using B) h3).1 (by simp)
   simp at B
  .exact⟨q1,q2,q3,q4,fun k Q hm=>q5 k Q (fun g hg e1=>hm ⟨1001,_,rfl,by rw[e1];exact hg⟩),q7⟩
  intro id o A
  have K':(id=1000/\o=.box [.selfN 1000 223 false,.ownT 1001 v 5])\/(id=1001/\o=.arr v 1 (av l)):=by
   simp only[de,ac]at A;cases E:(1000:Nat)==id with
   |true=>rw[E]at A;left;exact⟨(by simpa using E:1000=id).symm,(O_ A).symm⟩
   |false=>
    rw[E]at A;cases B:(1001:Nat)==id with
    |true=>rw[B]at A;right;exact⟨(by simpa using B:1001=id).symm,(O_ A).symm⟩
    |false=>rw[B]at A;simp at A
  rcases K' with⟨rfl,rfl⟩|⟨rfl,rfl⟩
  .intro g' _;exact⟨b,by simpa using R,R⟩
  intro cv s z e';obtain⟨rfl,rfl,rfl⟩:v+1=cv/\1=s/\[]=z:=by simpa[ac]using e'
  exact⟨by omega,fun e1=>by omega⟩
 have y':l=[]->∃(v':Value),v'=Value.string ⟨#[]⟩:=fun _=>⟨_,rfl⟩
 rcases a' 1001 _ rfl with⟨L',z',base,L⟩|⟨g,W,vs,e1,M',z',L,C,h',P',c',_,M⟩
 .have N:l=[]:=by simpa[av]using L'
  subst N;have O:v1=.slice base 0 0:=r'.trans L;subst O;cases base with
  |none=>
   refine dq Tryz.func133 (by decide) ((ae8 b w p).mono ?_);rintro ev q ⟨rfl,rfl⟩;exact I w.drew rfl rfl rfl (Nat.le_refl _) (fun _ _ _=>rfl) (fun _=>.inl rfl) (fun _ _ h=>h)
  |some a=>
   obtain⟨m,hm⟩:=H a 0 0 rfl;refine dq Tryz.func133 (by decide) ((Kq b a m w p hm).mono ?_);rintro ev q ⟨rfl,rfl⟩
   exact I (w.drew.alloc _) rfl rfl rfl (by simp) (fun k Q _=>Below.heap_alloc w.drew _ k Q) (fun a=>by
    rcases Nat.lt_or_ge a.block w.heap.size with h|h
    .exact .inl (World.cell?_of_block (Below.heap_alloc w.drew _ a.block h))
    exact .inr h) (fun k x F=>(dA (Below.heap_alloc w.drew _ k (sJ F))).trans F)
 have O:v1=.slice (some ⟨g,0,none⟩) (av l).length W:=r'.trans L;subst O;have A':(av l).length=l.length:=by simp[av]
 obtain⟨m,hm⟩:=H ⟨g,0,none⟩ _ _ rfl;simp only[World.shape?,C,E_,Prod.mk.injEq]at hm;obtain⟨rfl,rfl⟩:=hm;have h':M'=(0,0):=h';subst h';rw[A']at p c' M;have Q':g<w.heap.size:=(Array.getElem?_eq_some_iff.1 C).1;by_cases N:l=[]
 .subst N;by_cases B':W=0
  .subst B';refine dq Tryz.func133 (by decide) ((Kq b ⟨g,0,none⟩ vs.size w p (by simp[World.shape?,C])).mono ?_);rintro ev q ⟨rfl,rfl⟩
   exact I (w.drew.alloc _) rfl rfl rfl (by simp) (fun k Q _=>Below.heap_alloc w.drew _ k Q) (fun a=>by
    rcases Nat.lt_or_ge a.block w.heap.size with h|h
    .exact .inl (World.cell?_of_block (Below.heap_alloc w.drew _ a.block h))
    exact .inr h) (fun k x F=>(dA (Below.heap_alloc w.drew _ k (sJ F))).trans F)
  refine dq Tryz.func133 (by decide) ((abU b ⟨g,0,none⟩ W B' w p).mono ?_);rintro ev q ⟨rfl,rfl⟩;exact I w.drew rfl rfl rfl (Nat.le_refl _) (fun _ _ _=>rfl) (fun _=>.inl rfl) (fun _ _ h=>h)
 have X:∀j x,l[j]?=some x->w.cell? ((⟨g,0,none⟩:Addr).add j)=some (.int .u8 x.toNat):=by
  intro j x F;have hj:j<l.length:=(List.getElem?_eq_some_iff.1 F).1
  have N':∀(l:List UInt8) (us:List Value) (j:Nat) (x:UInt8),ag w S (av l).flatten us->l[j]?=some x->us[j]?=some (.int .u8 x.toNat):=by
   intro l
   induction l with
   |nil=>intro us j x _ h;simp at h
   |cons y r ih=>
    rintro us j x ⟨u,O',rfl,_,hu,hr⟩ h;cases j with
    |zero=>
     simp only[List.getElem?_cons_zero,E_]at h;subst h;have hu:u=_:=hu;simp[hu]
    |succ j=>simpa using ih O' j x hr (by simpa using h)
  have:=N' l _ j x M F;rw[Nat.mul_one,List.getElem?_take,if_pos hj,Array.getElem?_toList]at this;rw[Kc rfl];simpa using Ke C this
 refine dq Tryz.func133 (by decide) ((abT b g W v0 vs l w N p c' C (by omega) hl X).mono ?_);rintro ev q ⟨rfl,rfl⟩;have i':¬l.length=0:=by simpa using N
 have j':∀k,k≠g->(w.drew.freeze ⟨g,0,none⟩ l.length).heap[k]?=w.heap[k]?:=by
  intro k Q;unfold World.freeze;rw[if_neg i'];show(w.heap.modify g _)[k]?=_;rw[Array.getElem?_modify,if_neg (fun e=>Q e.symm)]
 have Y:∃k',(w.drew.freeze ⟨g,0,none⟩ l.length).heap[g]?=some (.cells vs 5 k'):=by
  unfold World.freeze;rw[if_neg i'];show ∃k',(w.heap.modify g _)[g]?=_;rw[Array.getElem?_modify,if_pos rfl,C];exact⟨_,rfl⟩
 obtain⟨k',Y⟩:=Y
 have Z:(w.drew.freeze ⟨g,0,none⟩ l.length).os=w.os/\(w.drew.freeze ⟨g,0,none⟩ l.length).tape=w.tape/\(w.drew.freeze ⟨g,0,none⟩ l.length).output=w.output/\w.heap.size<=(w.drew.freeze ⟨g,0,none⟩ l.length).heap.size:=by
  unfold World.freeze;rw[if_neg i'];refine⟨rfl,rfl,rfl,?_⟩;show _<=(w.heap.modify g _).size;simp
 refine I (w.drew.freeze ⟨g,0,none⟩ l.length) Z.1 Z.2.1 Z.2.2.1 Z.2.2.2 (fun k _ B=>j' k (B g z')) (fun a=>.inl ?_) (fun k x F=>?_)
 .by_cases ha:a.block=g
  .simp only[World.cell?,ha,Y,C]
  exact World.cell?_of_block (j' _ ha)
 by_cases Q:k=g
 .subst Q;simp only[World.shape?,Y,C]at F |-;exact F
 exact(dA (j' k Q)).trans F
end Go.Vs.Y
