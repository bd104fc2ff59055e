/- What this seat's listed variables hold, as known globals. No conditions. -/
import Derived.Test.YtcjeehebikeghaaGreatDoorRows
import Derived.Test.YtcjeehebikeghaaGreatDoorBD
import Derived.KernelRfl
import Derived.Stop.Asserts
import Derived.RowKitTokens
import Derived.LoopTactic
import Derived.Lib.Hide
set_option linter.unusedVariables false
set_option linter.unusedSimpArgs false
set_option maxRecDepth 1000000
set_option pp.deepTerms true
namespace Go.Vs.YtcjeehebikeghaaGreatDoor
open Go.Proofs Go.Proofs.YtcjeehebikeghaaGreatDoor
theorem hm:Tryz.prog.follows .mixedOrders=true:=by kernel_rfl
def yK:List Int:=(List.range 256).map fun c=>if c<128 then 240 else if c<194 then 241 else if c<224 then 2 else if c=224 then 19 else if c<237 then 3 else if c=237 then 35 else if c<240 then 3 else if c=240 then 52 else if c<244 then 4 else if c=244 then 68 else 241
def Pv:List Int:=[128,191,160,191,128,159,144,191,128,143,0,0,0,0,0,0,0,0,0,0,0,0,0,0,0,0,0,0,0,0,0,0]
def Uw:List Int:=(List.range 20).map fun i=>((10 ^ i:Nat):Int)
def G:List (Nat×List IV):=[(0,[.handle 271 8 37]),(3,yK.map (.int .u8 ·)),(4,Pv.map (.int .u8 ·)),(2,Uw.map (.int .u64 ·))]
end Go.Vs.YtcjeehebikeghaaGreatDoor
namespace Go.Vs.YtcjeehebikeghaaGreatDoor.E
open Go.Proofs Go.Proofs.YtcjeehebikeghaaGreatDoor Go.RowKit Go.Extern.Stop Go.Stop Go.Extern
theorem YO(v:Value)(w:World):(ReflectliteType.typeOf #[.iface 156 v]).run Tryz.prog w=.ok (.iface 271 (.agg #[.pointer (some ⟨8,156,none⟩)])) w:=by kernel_rfl
theorem YP(v:Value)(w:World):(ReflectliteType.typeOf #[.iface 54 v]).run Tryz.prog w=.ok (.iface 271 (.agg #[.pointer (some ⟨8,54,none⟩)])) w:=by kernel_rfl
theorem ZP(h:Value)(w:World):(Go.method 591 271 (.agg #[h]) "AssignableTo").run Tryz.prog w=.ok (416,.agg #[h]) w:=by kernel_rfl
theorem aa8(w:World):(ReflectliteType.relation "AssignableTo" ReflectliteType.assignableTo #[.agg #[.pointer (some ⟨8,156,none⟩)],.iface 271 (.agg #[.pointer (some ⟨8,54,none⟩)])]).run Tryz.prog w=.ok (.bool false) w:=by kernel_rfl
theorem aa9(w:World):(ReflectliteType.relation "AssignableTo" ReflectliteType.assignableTo #[.agg #[.pointer (some ⟨8,54,none⟩)],.iface 271 (.agg #[.pointer (some ⟨8,156,none⟩)])]).run Tryz.prog w=.ok (.bool false) w:=by kernel_rfl
theorem aba(w:World):(ReflectliteType.relation "AssignableTo" ReflectliteType.assignableTo #[.agg #[.pointer (some ⟨8,156,none⟩)],.iface 271 (.agg #[.pointer (some ⟨8,156,none⟩)])]).run Tryz.prog w=.ok (.bool true) w:=by kernel_rfl
theorem abb(w:World):(ReflectliteType.relation "AssignableTo" ReflectliteType.assignableTo #[.agg #[.pointer (some ⟨8,54,none⟩)],.iface 271 (.agg #[.pointer (some ⟨8,54,none⟩)])]).run Tryz.prog w=.ok (.bool true) w:=by kernel_rfl
theorem abc(v:Value)(xT:TypeId)(w:World):(Instr.typeAssert (.iface 156 v) xT 276 true).run Tryz.prog w=.ok (.tuple #[.nilIface,.bool false]) w:=run_typeAssert_lacksB Tryz.underlying276 (by kernel_rfl) (by kernel_rfl) v xT w
theorem abd(v:Value)(xT:TypeId)(w:World):(Instr.typeAssert (.iface 54 v) xT 276 true).run Tryz.prog w=.ok (.tuple #[.nilIface,.bool false]) w:=run_typeAssert_lacksB Tryz.underlying276 (by kernel_rfl) (by kernel_rfl) v xT w
theorem abU(v:Value)(xT:TypeId)(w:World):(Instr.typeAssert (.iface 156 v) xT 279 true).run Tryz.prog w=.ok (.tuple #[.iface 156 v,.bool true]) w:=run_typeAssert_hasB Tryz.underlying279 (by kernel_rfl) v xT w
theorem ZQ(v:Value)(xT:TypeId)(w:World):(Instr.typeAssert (.iface 54 v) xT 279 true).run Tryz.prog w=.ok (.tuple #[.nilIface,.bool false]) w:=run_typeAssert_lacksB Tryz.underlying279 (by kernel_rfl) (by kernel_rfl) v xT w
theorem Xm(v:Value)(xT:TypeId)(w:World):(Instr.typeAssert (.iface 54 v) xT 281 true).run Tryz.prog w=.ok (.tuple #[.nilIface,.bool false]) w:=run_typeAssert_lacksB Tryz.underlying281 (by kernel_rfl) (by kernel_rfl) v xT w
theorem abV(v:Value)(w:World):(Go.method 591 156 v "Unwrap").run Tryz.prog w=.ok (410,v) w:=by kernel_rfl

/-! the targets -/
theorem vo1(t:Addr)(w:World):(ReflectliteValue.unpack (.iface 199 (.pointer (some t)))).run Tryz.prog w
  = .ok (.agg #[.pointer (some ⟨8,199,none⟩),.pointer (some ⟨w.heap.size,0,none⟩),.int .u64 150]) (w.alloc (.cells #[.pointer (some t)] 199)):=by kernel_rfl
theorem vo2(t:Addr)(w:World):(ReflectliteValue.unpack (.iface 112 (.pointer (some t)))).run Tryz.prog w
  = .ok (.agg #[.pointer (some ⟨8,112,none⟩),.pointer (some ⟨w.heap.size,0,none⟩),.int .u64 150]) (w.alloc (.cells #[.pointer (some t)] 112)):=by kernel_rfl
theorem ty1(a:Addr)(w:World):(ReflectliteValue.methodAny (ReflectliteValue.valueError "reflectlite.Value.Type" 0) (fun t _ _ _=>ReflectliteType.toType t) #[.agg #[.pointer (some ⟨8,199,none⟩),.pointer (some a),.int .u64 150]]).run Tryz.prog w
  = .ok (.iface 271 (.agg #[.pointer (some ⟨8,199,none⟩)])) w:=by kernel_rfl
theorem ty2(a:Addr)(w:World):(ReflectliteValue.methodAny (ReflectliteValue.valueError "reflectlite.Value.Type" 0) (fun t _ _ _=>ReflectliteType.toType t) #[.agg #[.pointer (some ⟨8,112,none⟩),.pointer (some a),.int .u64 150]]).run Tryz.prog w
  = .ok (.iface 271 (.agg #[.pointer (some ⟨8,112,none⟩)])) w:=by kernel_rfl
theorem Ux(h:Value)(w:World):(Go.method 591 271 (.agg #[h]) "Kind").run Tryz.prog w=.ok (405,h) w:=by kernel_rfl
theorem YQ(w:World):((ReflectliteType.abiMethod fun t=>(fun a:Nat=>Value.int IntKind.u8 (a:Int)) <$> Rtype.kind t) #[.pointer (some ⟨8,199,none⟩)]).run Tryz.prog w=.ok (.int .u8 22) w:=by kernel_rfl
theorem abe(w:World):((ReflectliteType.abiMethod fun t=>(fun a:Nat=>Value.int IntKind.u8 (a:Int)) <$> Rtype.kind t) #[.pointer (some ⟨8,112,none⟩)]).run Tryz.prog w=.ok (.int .u8 22) w:=by kernel_rfl
theorem YR(w:World):((ReflectliteType.abiMethod fun t=>(fun a:Nat=>Value.int IntKind.u8 (a:Int)) <$> Rtype.kind t) #[.pointer (some ⟨8,156,none⟩)]).run Tryz.prog w=.ok (.int .u8 22) w:=by kernel_rfl
theorem abf(w:World):((ReflectliteType.abiMethod fun t=>(fun a:Nat=>Value.int IntKind.u8 (a:Int)) <$> Rtype.kind t) #[.pointer (some ⟨8,54,none⟩)]).run Tryz.prog w=.ok (.int .u8 2) w:=by kernel_rfl
theorem Uy(h:Value)(w:World):(Go.method 591 271 (.agg #[h]) "Elem").run Tryz.prog w=.ok (418,.agg #[h]) w:=by kernel_rfl
theorem ZR(h:Value)(w:World):(Go.method 591 271 (.agg #[h]) "Implements").run Tryz.prog w=.ok (419,.agg #[h]) w:=by kernel_rfl
theorem YS(w:World):(ReflectliteType.method ReflectliteType.elem #[.agg #[.pointer (some ⟨8,199,none⟩)]]).run Tryz.prog w=.ok (.iface 271 (.agg #[.pointer (some ⟨8,156,none⟩)])) w:=by kernel_rfl
theorem abg(w:World):(ReflectliteType.method ReflectliteType.elem #[.agg #[.pointer (some ⟨8,112,none⟩)]]).run Tryz.prog w=.ok (.iface 271 (.agg #[.pointer (some ⟨8,54,none⟩)])) w:=by kernel_rfl
theorem abh(w:World):(ReflectliteType.relation "Implements" ReflectliteType.implements_ #[.agg #[.pointer (some ⟨8,156,none⟩)],.iface 271 (.agg #[.pointer (some ⟨8,37,none⟩)])]).run Tryz.prog w=.ok (.bool true) w:=by kernel_rfl
theorem abW(w:World):(ReflectliteType.relation "Implements" ReflectliteType.implements_ #[.agg #[.pointer (some ⟨8,54,none⟩)],.iface 271 (.agg #[.pointer (some ⟨8,37,none⟩)])]).run Tryz.prog w=.ok (.bool true) w:=by kernel_rfl
theorem voF(e:Addr)(w:World):(ReflectliteValue.unpack (.iface 156 (.pointer (some e)))).run Tryz.prog w
  = .ok (.agg #[.pointer (some ⟨8,156,none⟩),.pointer (some ⟨w.heap.size,0,none⟩),.int .u64 150]) (w.alloc (.cells #[.pointer (some e)] 156)):=by kernel_rfl
theorem voE(n:Int)(w:World):(ReflectliteValue.unpack (.iface 54 (.int .i64 n))).run Tryz.prog w
  = .ok (.agg #[.pointer (some ⟨8,54,none⟩),.pointer (some ⟨w.heap.size,0,none⟩),.int .u64 130]) (w.alloc (.cells #[.int .i64 n] 54)):=by kernel_rfl
theorem Xn(w:World):(Rtype.elem? 199).run Tryz.prog w=.ok (some 156) w:=by kernel_rfl
theorem Xo(w:World):(Rtype.elem? 112).run Tryz.prog w=.ok (some 54) w:=by kernel_rfl
theorem mk1(p:Addr)(w:World):(ReflectliteValue.mk 156 p ReflectliteValue.flagAddr).run Tryz.prog w=.ok (.agg #[.pointer (some ⟨8,156,none⟩),.pointer (some p),.int .u64 406]) w:=by kernel_rfl
theorem mk2(p:Addr)(w:World):(ReflectliteValue.mk 54 p ReflectliteValue.flagAddr).run Tryz.prog w=.ok (.agg #[.pointer (some ⟨8,54,none⟩),.pointer (some p),.int .u64 386]) w:=by kernel_rfl
theorem rlm(z:Sem Value)(f:TypeId→Addr→Nat→Nat→Sem Value)(v:Value) :
  ReflectliteValue.method z f #[v]=(do match ←ReflectliteValue.parts v with|none=>z|some (t,a,fl)=>f t a fl (fl%32)):=rfl
theorem Uz(a:Addr)(w:World):(ReflectliteValue.parts (.agg #[.pointer (some ⟨8,199,none⟩),.pointer (some a),.int .u64 150])).run Tryz.prog w=.ok (some (199,a,150)) w:=by kernel_rfl
theorem UA(a:Addr)(w:World):(ReflectliteValue.parts (.agg #[.pointer (some ⟨8,112,none⟩),.pointer (some a),.int .u64 150])).run Tryz.prog w=.ok (some (112,a,150)) w:=by kernel_rfl
theorem UB(a p:Addr)(W:World)(ha:W.cell? a=some (.pointer (some p))) :
  (ReflectliteValue.method (ReflectliteValue.valueError "reflectlite.Value.IsNil" 0) ReflectliteValue.isNil #[.agg #[.pointer (some ⟨8,199,none⟩),.pointer (some a),.int .u64 150]]).run Tryz.prog W=.ok (.bool false) W:=by
 rw[rlm];simp only[Sem.run_bind,Uz,Result.andThen];simp[ReflectliteValue.isNil,loadVar,isAgg,underlying,Tryz.underlying199,ha,Result.andThen]
theorem ZS(a p:Addr)(W:World)(ha:W.cell? a=some (.pointer (some p))) :
  (ReflectliteValue.method (ReflectliteValue.valueError "reflectlite.Value.IsNil" 0) ReflectliteValue.isNil #[.agg #[.pointer (some ⟨8,112,none⟩),.pointer (some a),.int .u64 150]]).run Tryz.prog W=.ok (.bool false) W:=by
 rw[rlm];simp only[Sem.run_bind,UA,Result.andThen];simp[ReflectliteValue.isNil,loadVar,isAgg,underlying,Tryz.underlying112,ha,Result.andThen]
theorem ZT(a p:Addr)(W:World)(ha:W.cell? a=some (.pointer (some p))) :
  (ReflectliteValue.method (ReflectliteValue.valueError "reflectlite.Value.Elem" 0) ReflectliteValue.elem #[.agg #[.pointer (some ⟨8,199,none⟩),.pointer (some a),.int .u64 150]]).run Tryz.prog W
    = .ok (.agg #[.pointer (some ⟨8,156,none⟩),.pointer (some p),.int .u64 406]) W:=by
 rw[rlm];simp only[Sem.run_bind,Uz,Result.andThen];simp[ReflectliteValue.elem,loadVar,isAgg,underlying,Tryz.underlying199,ha,Result.andThen,Xn,mk1]
theorem ZU(a p:Addr)(W:World)(ha:W.cell? a=some (.pointer (some p))) :
  (ReflectliteValue.method (ReflectliteValue.valueError "reflectlite.Value.Elem" 0) ReflectliteValue.elem #[.agg #[.pointer (some ⟨8,112,none⟩),.pointer (some a),.int .u64 150]]).run Tryz.prog W
    = .ok (.agg #[.pointer (some ⟨8,54,none⟩),.pointer (some p),.int .u64 386]) W:=by
 rw[rlm];simp only[Sem.run_bind,UA,Result.andThen];simp[ReflectliteValue.elem,loadVar,isAgg,underlying,Tryz.underlying112,ha,Result.andThen,Xo,mk2]
theorem rls(v x:Value):ReflectliteValue.set #[v,x]=(do
  let (some (dst,a,fl),some (src,b,_)):=(←ReflectliteValue.parts v,←ReflectliteValue.parts x)
   |unsupported (.noEntry "extern/(internal/reflectlite.Value).Set.zeroValue")
  if fl/ReflectliteValue.flagAddr%2==0 then unsupported (.noEntry "extern/(internal/reflectlite.Value).Set.unaddressable")
  let val ←loadVar src b
  if ←Rtype.directlyAssignable dst src then storeVar dst a val
  else if ←Rtype.implements dst src then
   if (←Rtype.kind src)==20 then
    match val with
    |.nilIface=>unsupported (.noEntry "extern/reflectlite: a nil value of one interface type handed on as a value of another")
    |_=>storeVar dst a val
   else storeVar dst a (.iface src val)
  else panicString ("reflectlite.Set: value of type "++(←Rtype.spelt src)++ " is not assignable to type "++(←Rtype.spelt dst))
  pure (.tuple #[])):=rfl
theorem Xp(a:Addr)(w:World):(ReflectliteValue.parts (.agg #[.pointer (some ⟨8,156,none⟩),.pointer (some a),.int .u64 406])).run Tryz.prog w=.ok (some (156,a,406)) w:=by kernel_rfl
theorem Xq(a:Addr)(w:World):(ReflectliteValue.parts (.agg #[.pointer (some ⟨8,156,none⟩),.pointer (some a),.int .u64 150])).run Tryz.prog w=.ok (some (156,a,150)) w:=by kernel_rfl
theorem Xr(a:Addr)(w:World):(ReflectliteValue.parts (.agg #[.pointer (some ⟨8,54,none⟩),.pointer (some a),.int .u64 386])).run Tryz.prog w=.ok (some (54,a,386)) w:=by kernel_rfl
theorem Xs(a:Addr)(w:World):(ReflectliteValue.parts (.agg #[.pointer (some ⟨8,54,none⟩),.pointer (some a),.int .u64 130])).run Tryz.prog w=.ok (some (54,a,130)) w:=by kernel_rfl
theorem abX(w:World):(Rtype.directlyAssignable 156 156).run Tryz.prog w=.ok true w:=by kernel_rfl
theorem abY(w:World):(Rtype.directlyAssignable 54 54).run Tryz.prog w=.ok true w:=by kernel_rfl
theorem abZ(ta b e:Addr)(old:Value)(W:World)(hb:W.cell? b=some (.pointer (some e)))(ht:W.cell? ta=some old)(hf:W.frozen? ta=false) :
  (ReflectliteValue.set #[.agg #[.pointer (some ⟨8,156,none⟩),.pointer (some ta),.int .u64 406],.agg #[.pointer (some ⟨8,156,none⟩),.pointer (some b),.int .u64 150]]).run Tryz.prog W
    = .ok (.tuple #[]) (W.setCell ta (.pointer (some e))):=by
 rw[rls];simp only[Sem.run_bind,Xp,Xq,Result.andThen];simp[ReflectliteValue.flagAddr,loadVar,isAgg,underlying,Tryz.underlying156,hb,Result.andThen,abX,storeVar,Value.cells,storeCells,Addr.add];rw[run_store Tryz.prog W ta _ _ (by rfl)];simp[ht,hf]
theorem ab0(ta b:Addr)(n:Int)(old:Value)(W:World)(hb:W.cell? b=some (.int .i64 n))(ht:W.cell? ta=some old)(hf:W.frozen? ta=false) :
  (ReflectliteValue.set #[.agg #[.pointer (some ⟨8,54,none⟩),.pointer (some ta),.int .u64 386],.agg #[.pointer (some ⟨8,54,none⟩),.pointer (some b),.int .u64 130]]).run Tryz.prog W
    = .ok (.tuple #[]) (W.setCell ta (.int .i64 n)):=by
 rw[rls];simp only[Sem.run_bind,Xr,Xs,Result.andThen];simp[ReflectliteValue.flagAddr,loadVar,isAgg,underlying,Tryz.underlying54,hb,Result.andThen,abY,storeVar,Value.cells,storeCells,Addr.add];rw[run_store Tryz.prog W ta _ _ (by rfl)];simp[ht,hf]
def ErrV(W:World)(n:Int):List Int→Value→Prop
 |[],E=>E=.iface 54 (.int .i64 n)
 |p::ps,E=>∃pb po,E=.iface 156 (.pointer (some ⟨pb,po,none⟩))∧∃E',W.cell? ⟨pb,po+1,none⟩=some E'∧ErrV W n ps E'
theorem ErrV.unique{W:World}{n:Int} : ∀ {ps qs:List Int} {E:Value},ErrV W n ps E→ErrV W n qs E→ps.length=qs.length
 |[],[],_,_,_=>rfl
 |[],_::_,_,h,⟨_,_,h',_⟩=>by have h:_=_:=h;rw[h]at h';simp at h'
 |_::_,[],_,⟨_,_,h',_⟩,h=>by have h:_=_:=h;rw[h]at h';simp at h'
 |_::ps,_::qs,_,⟨pb,po,h1,E1,h2,h3⟩,⟨pb',po',k1,E2,k2,k3⟩=>by
  subst h1;simp only[Value.iface.injEq,Value.pointer.injEq,E_,Addr.mk.injEq,true_and,and_true]at k1;obtain⟨rfl,rfl⟩:=k1;rw[h2]at k2;obtain rfl:=O_ k2;simp[ErrV.unique h3 k3]
theorem ErrV.mono{W W':World}{n:Int}(hk:∀a v,W.cell? a=some v→W'.cell? a=some v):∀ {ps:List Int} {E:Value},ErrV W n ps E→ErrV W' n ps E
 |[],_,h=>h
 |_::ps,_,⟨pb,po,h1,E1,h2,h3⟩=>⟨pb,po,h1,E1,hk _ _ h2,ErrV.mono hk h3⟩
open Classical in
noncomputable def KO(W:World)(n:Int)(E:Value):Nat:=if h:∃l,ErrV W n l E then h.choose.length else 0
theorem JF{W:World}{n:Int}{E:Value}{l:List Int}(h:ErrV W n l E):KO W n E=l.length:=by
 unfold KO;have hx:∃l,ErrV W n l E:=⟨l,h⟩;rw[dif_pos hx];exact ErrV.unique hx.choose_spec h
theorem cw{w:World}{o:Obj} : ∀a v,w.cell? a=some v→(w.alloc o).cell? a=some v:=by
 intro a v h
 have hlt:a.block<w.heap.size:=by
  rcases Nat.lt_or_ge a.block w.heap.size with h'|h'
  ·exact h'
  ·simp[World.cell?,Array.getElem?_eq_none h']at h
 rw[World.cell?_alloc_lt _ _ a hlt];exact h
theorem sO{w:World}{a:Addr}{v:Value}(h:w.cell? a=some v):a.block<w.heap.size:=by
 rcases Nat.lt_or_ge a.block w.heap.size with h'|h'
 ·exact h'
 ·simp[World.cell?,Array.getElem?_eq_none h']at h
theorem gf{w:World}{o:Obj}{a:Addr}(h:a.block<w.heap.size)(hf:w.frozen? a=false):(w.alloc o).frozen? a=false:=by
 rw[World.frozen?_alloc_old _ _ a (Nat.ne_of_lt h)];exact hf

theorem unw(pb po:Nat)(E:Value)(w:World)(h:w.cell? ⟨pb,po+1,none⟩=some E) :
  Calls Tryz.prog 410 #[.pointer (some ⟨pb,po,none⟩)] w fun e w'=>e=.returned E∧w'=w:=by
 go_enter Tryz.func410,Tryz.ntmps410;go_wp2;go_ret;exact⟨rfl,rfl⟩

set_option maxHeartbeats 4000000 in
theorem ZV(n:Int)(ps:List Int)(E:Value)(W:World)(a t:Addr)(old:Value)(hE:ErrV W n ps E)(ha:W.cell? a=some (.pointer (some t)))(ht:W.cell? t=some old)(hf:W.frozen? t=false) :
  Calls Tryz.prog 119 #[E,.iface 112 (.pointer (some t)),.agg #[.pointer (some ⟨8,112,none⟩),.pointer (some a),.int .u64 150],.iface 271 (.agg #[.pointer (some ⟨8,54,none⟩)])] W
   fun e w'=>e=.returned (.bool true)∧w'=((W.alloc (.cells #[.pointer (some ⟨8,112,none⟩),.pointer (some a),.int .u64 150] 190)).alloc (.cells #[.int .i64 n] 54)).setCell t (.int .i64 n):=by
 have hTO:=@run_callFunc_extern Tryz.prog 175 _ ReflectliteType.typeOf Tryz.func175 (by kernel_rfl) (by kernel_rfl) (by kernel_rfl) (by kernel_rfl);have hAss:=@run_callFunc_extern Tryz.prog 416 _ (ReflectliteType.relation "AssignableTo" ReflectliteType.assignableTo) Tryz.func416 (by kernel_rfl) (by kernel_rfl) (by kernel_rfl) (by kernel_rfl);have hVE:=@run_callFunc_extern Tryz.prog 176 _ (ReflectliteValue.method (ReflectliteValue.valueError "reflectlite.Value.Elem" 0) ReflectliteValue.elem) Tryz.func176 (by kernel_rfl) (by kernel_rfl) (by kernel_rfl) (by kernel_rfl);have hVO:=@run_callFunc_extern Tryz.prog 116 _ (fun args=>ReflectliteValue.unpack (args.getD 0 (.tuple #[]))) Tryz.func116 (by kernel_rfl) (by kernel_rfl) (by kernel_rfl) (by kernel_rfl);have hVS:=@run_callFunc_extern Tryz.prog 177 _ ReflectliteValue.set Tryz.func177 (by kernel_rfl) (by kernel_rfl) (by kernel_rfl) (by kernel_rfl);have q1:=YO;have q2:=YP;have q3:=ZP;have q4:=aa8;have q5:=abb;have q6:=abc;have q7:=abU;have q8:=abV;have q9:=voE;have hE1:=ErrV.mono (cw (o:=.cells #[.pointer (some ⟨8,112,none⟩),.pointer (some a),.int .u64 150] 190)) hE;obtain⟨W1,hW1⟩:∃W1,W1=W.alloc (.cells #[.pointer (some ⟨8,112,none⟩),.pointer (some a),.int .u64 150] 190):=⟨_,rfl⟩;rw[←hW1]at hE1;have el:=ZU a t W1 (by rw[hW1];exact cw _ _ ha);have hlt:t.block<W.heap.size:=sO ht
 have st:=ab0 t ⟨W1.heap.size,0,none⟩ n old (W1.alloc (.cells #[.int .i64 n] 54)) (by rw[World.cell?_alloc_at _ _ _ _ (by simp)];rfl) (by rw[hW1];exact cw _ _ (cw _ _ ht))
  (by rw[hW1];exact gf (by simp;omega) (gf hlt hf))
 have box:⟨W.heap.size,0,none⟩=(⟨W.heap.size,0,none⟩:Addr):=rfl;have c0:W1.cell? ⟨W.heap.size,0,none⟩=some (.pointer (some ⟨8,112,none⟩)):=by rw[hW1];simp
 have c1:W1.cell? ⟨W.heap.size,1,none⟩=some (.pointer (some a)):=by rw[hW1];simp
 have c2:W1.cell? ⟨W.heap.size,2,none⟩=some (.int .u64 150):=by rw[hW1];simp
 have HW:=Lib.hid hW1;clear hW1 hE ha ht hf hlt box;go_enter Tryz.func119,Tryz.ntmps119;go_wp2;go_loopw [0] (fun E' wl=>wl=W1∧∃l',ErrV W1 n l' E') (fun E' _=>KO W1 n E')
 case atStart=>exact⟨HW.out.symm,ps,hE1⟩
 case round=>
  obtain⟨hwl,l',hc'⟩:=hrel;subst hwl;cases l' with
  |nil=>
   obtain rfl:_=_:=hc';go_wp2;go_ret;exact⟨rfl,by rw[HW.out]⟩
  |cons p l'=>
   obtain⟨pb,po,rfl,E1,h2,h3⟩:=hc';have m1:=JF h3;have m2:KO _ n (.iface 156 (.pointer (some ⟨pb,po,none⟩)))=l'.length+1:=JF (l:=p::l') ⟨pb,po,rfl,E1,h2,h3⟩
   have hne:∃T v,E1=.iface T v:=by
    cases l' with
    |nil=>exact⟨_,_,h3⟩
    |cons p l'=>obtain⟨pb,po,h,_⟩:=h3;exact⟨_,_,h⟩
   obtain⟨T,v,rfl⟩:=hne;have M1:=Lib.hid m1;have M2:=Lib.hid m2;have H3:=Lib.hid h3;clear m1 m2 h3;go_wp2_with (go_at_call 410;refine(unw pb po _ _ h2).mono ?_;rintro e w' ⟨rfl,rfl⟩);go_roundw
   case rel=>exact⟨trivial,l',H3.out⟩
   case measure=>rw[M1.out,M2.out];omega

theorem abi(e a t:Addr)(old:Value)(W:World)(ha:W.cell? a=some (.pointer (some t)))(ht:W.cell? t=some old)(hf:W.frozen? t=false) :
  Calls Tryz.prog 119 #[.iface 156 (.pointer (some e)),.iface 199 (.pointer (some t)),.agg #[.pointer (some ⟨8,199,none⟩),.pointer (some a),.int .u64 150],.iface 271 (.agg #[.pointer (some ⟨8,156,none⟩)])] W
   fun ev w'=>ev=.returned (.bool true)∧w'=((W.alloc (.cells #[.pointer (some ⟨8,199,none⟩),.pointer (some a),.int .u64 150] 190)).alloc (.cells #[.pointer (some e)] 156)).setCell t (.pointer (some e)):=by
 have hTO:=@run_callFunc_extern Tryz.prog 175 _ ReflectliteType.typeOf Tryz.func175 (by kernel_rfl) (by kernel_rfl) (by kernel_rfl) (by kernel_rfl);have hAss:=@run_callFunc_extern Tryz.prog 416 _ (ReflectliteType.relation "AssignableTo" ReflectliteType.assignableTo) Tryz.func416 (by kernel_rfl) (by kernel_rfl) (by kernel_rfl) (by kernel_rfl);have hVE:=@run_callFunc_extern Tryz.prog 176 _ (ReflectliteValue.method (ReflectliteValue.valueError "reflectlite.Value.Elem" 0) ReflectliteValue.elem) Tryz.func176 (by kernel_rfl) (by kernel_rfl) (by kernel_rfl) (by kernel_rfl);have hVO:=@run_callFunc_extern Tryz.prog 116 _ (fun args=>ReflectliteValue.unpack (args.getD 0 (.tuple #[]))) Tryz.func116 (by kernel_rfl) (by kernel_rfl) (by kernel_rfl) (by kernel_rfl);have hVS:=@run_callFunc_extern Tryz.prog 177 _ ReflectliteValue.set Tryz.func177 (by kernel_rfl) (by kernel_rfl) (by kernel_rfl) (by kernel_rfl);have q1:=YO;have q3:=ZP;have q4:=aba;have q9:=voF;obtain⟨W1,hW1⟩:∃W1,W1=W.alloc (.cells #[.pointer (some ⟨8,199,none⟩),.pointer (some a),.int .u64 150] 190):=⟨_,rfl⟩;have el:=ZT a t W1 (by rw[hW1];exact cw _ _ ha);have hlt:t.block<W.heap.size:=sO ht
 have st:=abZ t ⟨W.heap.size+1,0,none⟩ e old (W1.alloc (.cells #[.pointer (some e)] 156)) (by rw[World.cell?_alloc_at _ _ _ _ (by simp[hW1])];rfl) (by rw[hW1];exact cw _ _ (cw _ _ ht))
  (by rw[hW1];exact gf (by simp;omega) (gf hlt hf))
 rw[hW1]at el st;clear hW1 ha ht hf hlt;go_enter Tryz.func119,Tryz.ntmps119;go_wp2;refine wp_loop_rounds 1 ?_;rw[rounds_succ];go_wp2;go_ret;exact⟨rfl,rfl⟩

theorem UC(n:Int)(a t:Addr)(W:World) :
  Calls Tryz.prog 119 #[.iface 54 (.int .i64 n),.iface 199 (.pointer (some t)),.agg #[.pointer (some ⟨8,199,none⟩),.pointer (some a),.int .u64 150],.iface 271 (.agg #[.pointer (some ⟨8,156,none⟩)])] W
   fun ev w'=>ev=.returned (.bool false)∧w'=W.alloc (.cells #[.pointer (some ⟨8,199,none⟩),.pointer (some a),.int .u64 150] 190):=by
 have hTO:=@run_callFunc_extern Tryz.prog 175 _ ReflectliteType.typeOf Tryz.func175 (by kernel_rfl) (by kernel_rfl) (by kernel_rfl) (by kernel_rfl);have hAss:=@run_callFunc_extern Tryz.prog 416 _ (ReflectliteType.relation "AssignableTo" ReflectliteType.assignableTo) Tryz.func416 (by kernel_rfl) (by kernel_rfl) (by kernel_rfl) (by kernel_rfl);have q1:=YP;have q3:=ZP;have q4:=aa9;have q5:=abd;have q6:=ZQ;have q7:=Xm;go_enter Tryz.func119,Tryz.ntmps119;go_wp2;refine wp_loop_rounds 1 ?_;rw[rounds_succ];go_wp2;go_ret;exact⟨rfl,rfl⟩
end Go.Vs.YtcjeehebikeghaaGreatDoor.E
