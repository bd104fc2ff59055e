/- A part of a proof. No conditions. -/
import Derived.Test.YtcjeehebikeghaaGreatDoorRows
import Derived.Test.YtcjeehebikeghaaGreatDoorBD
import Derived.KernelRfl
import Derived.Stop.Asserts
import Derived.RowKitTokens
import Derived.LoopTactic
import Derived.Lib.Hide
set_option linter.unusedVariables false
set_option linter.unusedSimpArgs false
set_option maxRecDepth 1000000
set_option pp.deepTerms true
namespace Go.Vs.YtcjeehebikeghaaGreatDoor
open Go.Proofs Go.Proofs.YtcjeehebikeghaaGreatDoor
noncomputable abbrev _root_.Go.Vs.T_:=Tryz.prog
theorem hm:T_.follows .mixedOrders=true:=by kernel_rfl
def wQ:List Int:=(List.range 256).map fun c=>if c<128 then 240 else if c<194 then 241 else if c<224 then 2 else if c=224 then 19 else if c<237 then 3 else if c=237 then 35 else if c<240 then 3 else if c=240 then 52 else if c<244 then 4 else if c=244 then 68 else 241
def Lb:List Int:=[128,191,160,191,128,159,144,191,128,143,0,0,0,0,0,0,0,0,0,0,0,0,0,0,0,0,0,0,0,0,0,0]
def Q6:List Int:=(List.range 20).map fun i=>((10 ^ i:Nat):Int)
def G:List (Nat×List IV):=[(0,[.handle 271 8 37]),(3,wQ.map (.int .u8 ·)),(4,Lb.map (.int .u8 ·)),(2,Q6.map (.int .u64 ·))]
end Go.Vs.YtcjeehebikeghaaGreatDoor
namespace Go.Vs.YtcjeehebikeghaaGreatDoor.E
open Go.Proofs Go.Proofs.YtcjeehebikeghaaGreatDoor Go.RowKit Go.Extern.Stop Go.Stop Go.Extern
theorem Ui(v:Value)(w:World):(ReflectliteType.typeOf #[.iface 156 v]).run T_ w=.ok (.iface 271 (.agg #[.pointer (some ⟨8,156,none⟩)])) w:=by kernel_rfl
theorem Uj(v:Value)(w:World):(ReflectliteType.typeOf #[.iface 54 v]).run T_ w=.ok (.iface 271 (.agg #[.pointer (some ⟨8,54,none⟩)])) w:=by kernel_rfl
theorem V9(h:Value)(w:World):(Go.method 591 271 (.agg #[h]) "AssignableTo").run T_ w=.ok (416,.agg #[h]) w:=by kernel_rfl
theorem Ws(w:World):(ReflectliteType.relation "AssignableTo" ReflectliteType.assignableTo #[.agg #[.pointer (some ⟨8,156,none⟩)],.iface 271 (.agg #[.pointer (some ⟨8,54,none⟩)])]).run T_ w=.ok (.bool false) w:=by kernel_rfl
theorem Wt(w:World):(ReflectliteType.relation "AssignableTo" ReflectliteType.assignableTo #[.agg #[.pointer (some ⟨8,54,none⟩)],.iface 271 (.agg #[.pointer (some ⟨8,156,none⟩)])]).run T_ w=.ok (.bool false) w:=by kernel_rfl
theorem Wu(w:World):(ReflectliteType.relation "AssignableTo" ReflectliteType.assignableTo #[.agg #[.pointer (some ⟨8,156,none⟩)],.iface 271 (.agg #[.pointer (some ⟨8,156,none⟩)])]).run T_ w=.ok (.bool true) w:=by kernel_rfl
theorem Wv(w:World):(ReflectliteType.relation "AssignableTo" ReflectliteType.assignableTo #[.agg #[.pointer (some ⟨8,54,none⟩)],.iface 271 (.agg #[.pointer (some ⟨8,54,none⟩)])]).run T_ w=.ok (.bool true) w:=by kernel_rfl
theorem Ww(v:Value)(xT:TypeId)(w:World):(Instr.typeAssert (.iface 156 v) xT 276 true).run T_ w=.ok (.tuple #[.nilIface,.bool false]) w:=run_typeAssert_lacksB Tryz.underlying276 (by kernel_rfl) (by kernel_rfl) v xT w
theorem Wx(v:Value)(xT:TypeId)(w:World):(Instr.typeAssert (.iface 54 v) xT 276 true).run T_ w=.ok (.tuple #[.nilIface,.bool false]) w:=run_typeAssert_lacksB Tryz.underlying276 (by kernel_rfl) (by kernel_rfl) v xT w
theorem Xe(v:Value)(xT:TypeId)(w:World):(Instr.typeAssert (.iface 156 v) xT 279 true).run T_ w=.ok (.tuple #[.iface 156 v,.bool true]) w:=run_typeAssert_hasB Tryz.underlying279 (by kernel_rfl) v xT w
theorem Va(v:Value)(xT:TypeId)(w:World):(Instr.typeAssert (.iface 54 v) xT 279 true).run T_ w=.ok (.tuple #[.nilIface,.bool false]) w:=run_typeAssert_lacksB Tryz.underlying279 (by kernel_rfl) (by kernel_rfl) v xT w
theorem SO(v:Value)(xT:TypeId)(w:World):(Instr.typeAssert (.iface 54 v) xT 281 true).run T_ w=.ok (.tuple #[.nilIface,.bool false]) w:=run_typeAssert_lacksB Tryz.underlying281 (by kernel_rfl) (by kernel_rfl) v xT w
theorem Xf(v:Value)(w:World):(Go.method 591 156 v "Unwrap").run T_ w=.ok (410,v) w:=by kernel_rfl

/-! the targets -/
theorem XB(t:Addr)(w:World):(ReflectliteValue.unpack (.iface 199 (.pointer (some t)))).run T_ w
  = .ok (.agg #[.pointer (some ⟨8,199,none⟩),.pointer (some ⟨w.heap.size,0,none⟩),.int .u64 150]) (w.alloc (.cells #[.pointer (some t)] 199)):=by kernel_rfl
theorem XI(t:Addr)(w:World):(ReflectliteValue.unpack (.iface 112 (.pointer (some t)))).run T_ w
  = .ok (.agg #[.pointer (some ⟨8,112,none⟩),.pointer (some ⟨w.heap.size,0,none⟩),.int .u64 150]) (w.alloc (.cells #[.pointer (some t)] 112)):=by kernel_rfl
theorem XC(a:Addr)(w:World):(ReflectliteValue.methodAny (ReflectliteValue.valueError "reflectlite.Value.Type" 0) (fun t _ _ _=>ReflectliteType.toType t) #[.agg #[.pointer (some ⟨8,199,none⟩),.pointer (some a),.int .u64 150]]).run T_ w
  = .ok (.iface 271 (.agg #[.pointer (some ⟨8,199,none⟩)])) w:=by kernel_rfl
theorem XJ(a:Addr)(w:World):(ReflectliteValue.methodAny (ReflectliteValue.valueError "reflectlite.Value.Type" 0) (fun t _ _ _=>ReflectliteType.toType t) #[.agg #[.pointer (some ⟨8,112,none⟩),.pointer (some a),.int .u64 150]]).run T_ w
  = .ok (.iface 271 (.agg #[.pointer (some ⟨8,112,none⟩)])) w:=by kernel_rfl
theorem Q7(h:Value)(w:World):(Go.method 591 271 (.agg #[h]) "Kind").run T_ w=.ok (405,h) w:=by kernel_rfl
theorem Uk(w:World):((ReflectliteType.abiMethod fun t=>(fun a:Nat=>Value.int IntKind.u8 (a:Int)) <$> Rtype.kind t) #[.pointer (some ⟨8,199,none⟩)]).run T_ w=.ok (.int .u8 22) w:=by kernel_rfl
theorem Wy(w:World):((ReflectliteType.abiMethod fun t=>(fun a:Nat=>Value.int IntKind.u8 (a:Int)) <$> Rtype.kind t) #[.pointer (some ⟨8,112,none⟩)]).run T_ w=.ok (.int .u8 22) w:=by kernel_rfl
theorem Ul(w:World):((ReflectliteType.abiMethod fun t=>(fun a:Nat=>Value.int IntKind.u8 (a:Int)) <$> Rtype.kind t) #[.pointer (some ⟨8,156,none⟩)]).run T_ w=.ok (.int .u8 22) w:=by kernel_rfl
theorem Wz(w:World):((ReflectliteType.abiMethod fun t=>(fun a:Nat=>Value.int IntKind.u8 (a:Int)) <$> Rtype.kind t) #[.pointer (some ⟨8,54,none⟩)]).run T_ w=.ok (.int .u8 2) w:=by kernel_rfl
theorem Q8(h:Value)(w:World):(Go.method 591 271 (.agg #[h]) "Elem").run T_ w=.ok (418,.agg #[h]) w:=by kernel_rfl
theorem Vb(h:Value)(w:World):(Go.method 591 271 (.agg #[h]) "Implements").run T_ w=.ok (419,.agg #[h]) w:=by kernel_rfl
theorem Um(w:World):(ReflectliteType.method ReflectliteType.elem #[.agg #[.pointer (some ⟨8,199,none⟩)]]).run T_ w=.ok (.iface 271 (.agg #[.pointer (some ⟨8,156,none⟩)])) w:=by kernel_rfl
theorem WA(w:World):(ReflectliteType.method ReflectliteType.elem #[.agg #[.pointer (some ⟨8,112,none⟩)]]).run T_ w=.ok (.iface 271 (.agg #[.pointer (some ⟨8,54,none⟩)])) w:=by kernel_rfl
theorem WB(w:World):(ReflectliteType.relation "Implements" ReflectliteType.implements_ #[.agg #[.pointer (some ⟨8,156,none⟩)],.iface 271 (.agg #[.pointer (some ⟨8,37,none⟩)])]).run T_ w=.ok (.bool true) w:=by kernel_rfl
theorem Xg(w:World):(ReflectliteType.relation "Implements" ReflectliteType.implements_ #[.agg #[.pointer (some ⟨8,54,none⟩)],.iface 271 (.agg #[.pointer (some ⟨8,37,none⟩)])]).run T_ w=.ok (.bool true) w:=by kernel_rfl
theorem XK(e:Addr)(w:World):(ReflectliteValue.unpack (.iface 156 (.pointer (some e)))).run T_ w
  = .ok (.agg #[.pointer (some ⟨8,156,none⟩),.pointer (some ⟨w.heap.size,0,none⟩),.int .u64 150]) (w.alloc (.cells #[.pointer (some e)] 156)):=by kernel_rfl
theorem XL(n:Int)(w:World):(ReflectliteValue.unpack (.iface 54 (.int .i64 n))).run T_ w
  = .ok (.agg #[.pointer (some ⟨8,54,none⟩),.pointer (some ⟨w.heap.size,0,none⟩),.int .u64 130]) (w.alloc (.cells #[.int .i64 n] 54)):=by kernel_rfl
theorem SP(w:World):(Rtype.elem? 199).run T_ w=.ok (some 156) w:=by kernel_rfl
theorem SQ(w:World):(Rtype.elem? 112).run T_ w=.ok (some 54) w:=by kernel_rfl
theorem XM(p:Addr)(w:World):(ReflectliteValue.mk 156 p ReflectliteValue.flagAddr).run T_ w=.ok (.agg #[.pointer (some ⟨8,156,none⟩),.pointer (some p),.int .u64 406]) w:=by kernel_rfl
theorem XN(p:Addr)(w:World):(ReflectliteValue.mk 54 p ReflectliteValue.flagAddr).run T_ w=.ok (.agg #[.pointer (some ⟨8,54,none⟩),.pointer (some p),.int .u64 386]) w:=by kernel_rfl
theorem X2(z:Sem Value)(f:TypeId->Addr->Nat->Nat->Sem Value)(v:Value) :
  ReflectliteValue.method z f #[v]=(do match <-ReflectliteValue.parts v with|none=>z|some (t,a,fl)=>f t a fl (fl%32)):=rfl
theorem Q9(a:Addr)(w:World):(ReflectliteValue.parts (.agg #[.pointer (some ⟨8,199,none⟩),.pointer (some a),.int .u64 150])).run T_ w=.ok (some (199,a,150)) w:=by kernel_rfl
theorem Qa(a:Addr)(w:World):(ReflectliteValue.parts (.agg #[.pointer (some ⟨8,112,none⟩),.pointer (some a),.int .u64 150])).run T_ w=.ok (some (112,a,150)) w:=by kernel_rfl
theorem Qb(a p:Addr)(W:World)(ha:W.cell? a=some (.pointer (some p))) :
  (ReflectliteValue.method (ReflectliteValue.valueError "reflectlite.Value.IsNil" 0) ReflectliteValue.isNil #[.agg #[.pointer (some ⟨8,199,none⟩),.pointer (some a),.int .u64 150]]).run T_ W=.ok (.bool false) W:=by
 rw[X2];simp only[Sem.run_bind,Q9,Result.andThen];simp[ReflectliteValue.isNil,loadVar,isAgg,underlying,Tryz.underlying199,ha,Result.andThen]
theorem Vc(a p:Addr)(W:World)(ha:W.cell? a=some (.pointer (some p))) :
  (ReflectliteValue.method (ReflectliteValue.valueError "reflectlite.Value.IsNil" 0) ReflectliteValue.isNil #[.agg #[.pointer (some ⟨8,112,none⟩),.pointer (some a),.int .u64 150]]).run T_ W=.ok (.bool false) W:=by
 rw[X2];simp only[Sem.run_bind,Qa,Result.andThen];simp[ReflectliteValue.isNil,loadVar,isAgg,underlying,Tryz.underlying112,ha,Result.andThen]
theorem Vd(a p:Addr)(W:World)(ha:W.cell? a=some (.pointer (some p))) :
  (ReflectliteValue.method (ReflectliteValue.valueError "reflectlite.Value.Elem" 0) ReflectliteValue.elem #[.agg #[.pointer (some ⟨8,199,none⟩),.pointer (some a),.int .u64 150]]).run T_ W
    = .ok (.agg #[.pointer (some ⟨8,156,none⟩),.pointer (some p),.int .u64 406]) W:=by
 rw[X2];simp only[Sem.run_bind,Q9,Result.andThen];simp[ReflectliteValue.elem,loadVar,isAgg,underlying,Tryz.underlying199,ha,Result.andThen,SP,XM]
theorem Ve(a p:Addr)(W:World)(ha:W.cell? a=some (.pointer (some p))) :
  (ReflectliteValue.method (ReflectliteValue.valueError "reflectlite.Value.Elem" 0) ReflectliteValue.elem #[.agg #[.pointer (some ⟨8,112,none⟩),.pointer (some a),.int .u64 150]]).run T_ W
    = .ok (.agg #[.pointer (some ⟨8,54,none⟩),.pointer (some p),.int .u64 386]) W:=by
 rw[X2];simp only[Sem.run_bind,Qa,Result.andThen];simp[ReflectliteValue.elem,loadVar,isAgg,underlying,Tryz.underlying112,ha,Result.andThen,SQ,XN]
theorem XD(v x:Value):ReflectliteValue.set #[v,x]=(do
  let (some (dst,a,fl),some (src,b,_)):=(<-ReflectliteValue.parts v,<-ReflectliteValue.parts x)
   |unsupported (.noEntry "extern/(internal/reflectlite.Value).Set.zeroValue")
  if fl/ReflectliteValue.flagAddr%2==0 then unsupported (.noEntry "extern/(internal/reflectlite.Value).Set.unaddressable")
  let val <-loadVar src b
  if <-Rtype.directlyAssignable dst src then storeVar dst a val
  else if <-Rtype.implements dst src then
   if (<-Rtype.kind src)==20 then
    match val with
    |.nilIface=>unsupported (.noEntry "extern/reflectlite: a nil value of one interface type handed on as a value of another")
    |_=>storeVar dst a val
   else storeVar dst a (.iface src val)
  else panicString ("reflectlite.Set: value of type "++(<-Rtype.spelt src)++ " is not assignable to type "++(<-Rtype.spelt dst))
  pure (.tuple #[])):=rfl
theorem SR(a:Addr)(w:World):(ReflectliteValue.parts (.agg #[.pointer (some ⟨8,156,none⟩),.pointer (some a),.int .u64 406])).run T_ w=.ok (some (156,a,406)) w:=by kernel_rfl
theorem SS(a:Addr)(w:World):(ReflectliteValue.parts (.agg #[.pointer (some ⟨8,156,none⟩),.pointer (some a),.int .u64 150])).run T_ w=.ok (some (156,a,150)) w:=by kernel_rfl
theorem ST(a:Addr)(w:World):(ReflectliteValue.parts (.agg #[.pointer (some ⟨8,54,none⟩),.pointer (some a),.int .u64 386])).run T_ w=.ok (some (54,a,386)) w:=by kernel_rfl
theorem SU(a:Addr)(w:World):(ReflectliteValue.parts (.agg #[.pointer (some ⟨8,54,none⟩),.pointer (some a),.int .u64 130])).run T_ w=.ok (some (54,a,130)) w:=by kernel_rfl
theorem Xh(w:World):(Rtype.directlyAssignable 156 156).run T_ w=.ok true w:=by kernel_rfl
theorem Xi(w:World):(Rtype.directlyAssignable 54 54).run T_ w=.ok true w:=by kernel_rfl
theorem Xj(ta b e:Addr)(old:Value)(W:World)(hb:W.cell? b=some (.pointer (some e)))(ht:W.cell? ta=some old)(hf:W.frozen? ta=false) :
  (ReflectliteValue.set #[.agg #[.pointer (some ⟨8,156,none⟩),.pointer (some ta),.int .u64 406],.agg #[.pointer (some ⟨8,156,none⟩),.pointer (some b),.int .u64 150]]).run T_ W
    = .ok (.tuple #[]) (W.setCell ta (.pointer (some e))):=by
 rw[XD];simp only[Sem.run_bind,SR,SS,Result.andThen];simp[ReflectliteValue.flagAddr,loadVar,isAgg,underlying,Tryz.underlying156,hb,Result.andThen,Xh,storeVar,Value.cells,storeCells,Addr.add];rw[run_store T_ W ta _ _ (by rfl)];simp[ht,hf]
theorem Xk(ta b:Addr)(n:Int)(old:Value)(W:World)(hb:W.cell? b=some (.int .i64 n))(ht:W.cell? ta=some old)(hf:W.frozen? ta=false) :
  (ReflectliteValue.set #[.agg #[.pointer (some ⟨8,54,none⟩),.pointer (some ta),.int .u64 386],.agg #[.pointer (some ⟨8,54,none⟩),.pointer (some b),.int .u64 130]]).run T_ W
    = .ok (.tuple #[]) (W.setCell ta (.int .i64 n)):=by
 rw[XD];simp only[Sem.run_bind,ST,SU,Result.andThen];simp[ReflectliteValue.flagAddr,loadVar,isAgg,underlying,Tryz.underlying54,hb,Result.andThen,Xi,storeVar,Value.cells,storeCells,Addr.add];rw[run_store T_ W ta _ _ (by rfl)];simp[ht,hf]
def ErrV(W:World)(n:Int):List Int->Value->Prop
 |[],E=>E=.iface 54 (.int .i64 n)
 |p::ps,E=>∃pb po,E=.iface 156 (.pointer (some ⟨pb,po,none⟩))/\∃E',W.cell? ⟨pb,po+1,none⟩=some E'/\ErrV W n ps E'
theorem ErrV.unique{W:World}{n:Int} : ∀ {ps qs:List Int} {E:Value},ErrV W n ps E->ErrV W n qs E->ps.length=qs.length
 |[],[],_,_,_=>rfl
 |[],_::_,_,h,⟨_,_,h',_⟩=>by have h:_=_:=h;rw[h]at h';simp at h'
 |_::_,[],_,⟨_,_,h',_⟩,h=>by have h:_=_:=h;rw[h]at h';simp at h'
 |_::ps,_::qs,_,⟨pb,po,h1,E1,h2,h3⟩,⟨pb',po',k1,E2,k2,k3⟩=>by
  subst h1;simp only[Value.iface.injEq,Value.pointer.injEq,E_,Addr.mk.injEq,true_and,and_true]at k1;obtain⟨rfl,rfl⟩:=k1;rw[h2]at k2;obtain rfl:=O_ k2;simp[ErrV.unique h3 k3]
theorem ErrV.mono{W W':World}{n:Int}(hk:∀a v,W.cell? a=some v->W'.cell? a=some v):∀ {ps:List Int} {E:Value},ErrV W n ps E->ErrV W' n ps E
 |[],_,h=>h
 |_::ps,_,⟨pb,po,h1,E1,h2,h3⟩=>⟨pb,po,h1,E1,hk _ _ h2,ErrV.mono hk h3⟩
open Classical in
noncomputable def Hb(W:World)(n:Int)(E:Value):Nat:=if h:∃l,ErrV W n l E then h.choose.length else 0
theorem G0{W:World}{n:Int}{E:Value}{l:List Int}(h:ErrV W n l E):Hb W n E=l.length:=by
 unfold Hb;have hx:∃l,ErrV W n l E:=⟨l,h⟩;rw[dif_pos hx];exact ErrV.unique hx.choose_spec h
theorem bW{w:World}{o:Obj} : ∀a v,w.cell? a=some v->(w.alloc o).cell? a=some v:=by
 intro a v h
 have hlt:a.block<w.heap.size:=by
  rcases Nat.lt_or_ge a.block w.heap.size with h'|h'
  ·exact h'
  ·simp[World.cell?,Array.getElem?_eq_none h']at h
 rw[World.cell?_alloc_lt _ _ a hlt];exact h
theorem qU{w:World}{a:Addr}{v:Value}(h:w.cell? a=some v):a.block<w.heap.size:=by
 rcases Nat.lt_or_ge a.block w.heap.size with h'|h'
 ·exact h'
 ·simp[World.cell?,Array.getElem?_eq_none h']at h
theorem fB{w:World}{o:Obj}{a:Addr}(h:a.block<w.heap.size)(hf:w.frozen? a=false):(w.alloc o).frozen? a=false:=by
 rw[World.frozen?_alloc_old _ _ a (Nat.ne_of_lt h)];exact hf

theorem XO(pb po:Nat)(E:Value)(w:World)(h:w.cell? ⟨pb,po+1,none⟩=some E) :
  Calls T_ 410 #[.pointer (some ⟨pb,po,none⟩)] w fun e w'=>e=.returned E/\w'=w:=by
 go_enter Tryz.func410,Tryz.ntmps410;go_wp2;go_ret;exact⟨rfl,rfl⟩

set_option maxHeartbeats 4000000 in
theorem Vf(n:Int)(ps:List Int)(E:Value)(W:World)(a t:Addr)(old:Value)(hE:ErrV W n ps E)(ha:W.cell? a=some (.pointer (some t)))(ht:W.cell? t=some old)(hf:W.frozen? t=false) :
  Calls T_ 119 #[E,.iface 112 (.pointer (some t)),.agg #[.pointer (some ⟨8,112,none⟩),.pointer (some a),.int .u64 150],.iface 271 (.agg #[.pointer (some ⟨8,54,none⟩)])] W
   fun e w'=>e=.returned (.bool true)/\w'=((W.alloc (.cells #[.pointer (some ⟨8,112,none⟩),.pointer (some a),.int .u64 150] 190)).alloc (.cells #[.int .i64 n] 54)).setCell t (.int .i64 n):=by
 have hTO:=@run_callFunc_extern T_ 175 _ ReflectliteType.typeOf Tryz.func175 (by kernel_rfl) (by kernel_rfl) (by kernel_rfl) (by kernel_rfl);have hAss:=@run_callFunc_extern T_ 416 _ (ReflectliteType.relation "AssignableTo" ReflectliteType.assignableTo) Tryz.func416 (by kernel_rfl) (by kernel_rfl) (by kernel_rfl) (by kernel_rfl);have hVE:=@run_callFunc_extern T_ 176 _ (ReflectliteValue.method (ReflectliteValue.valueError "reflectlite.Value.Elem" 0) ReflectliteValue.elem) Tryz.func176 (by kernel_rfl) (by kernel_rfl) (by kernel_rfl) (by kernel_rfl);have hVO:=@run_callFunc_extern T_ 116 _ (fun args=>ReflectliteValue.unpack (args.getD 0 (.tuple #[]))) Tryz.func116 (by kernel_rfl) (by kernel_rfl) (by kernel_rfl) (by kernel_rfl);have hVS:=@run_callFunc_extern T_ 177 _ ReflectliteValue.set Tryz.func177 (by kernel_rfl) (by kernel_rfl) (by kernel_rfl) (by kernel_rfl);have q1:=Ui;have q2:=Uj;have q3:=V9;have q4:=Ws;have q5:=Wv;have q6:=Ww;have q7:=Xe;have q8:=Xf;have q9:=XL;have hE1:=ErrV.mono (bW (o:=.cells #[.pointer (some ⟨8,112,none⟩),.pointer (some a),.int .u64 150] 190)) hE;obtain⟨W1,hW1⟩:∃W1,W1=W.alloc (.cells #[.pointer (some ⟨8,112,none⟩),.pointer (some a),.int .u64 150] 190):=⟨_,rfl⟩;rw[<-hW1]at hE1;have el:=Ve a t W1 (by rw[hW1];exact bW _ _ ha);have hlt:t.block<W.heap.size:=qU ht
 have st:=Xk t ⟨W1.heap.size,0,none⟩ n old (W1.alloc (.cells #[.int .i64 n] 54)) (by rw[World.cell?_alloc_at _ _ _ _ (by simp)];rfl) (by rw[hW1];exact bW _ _ (bW _ _ ht))
  (by rw[hW1];exact fB (by simp;omega) (fB hlt hf))
 have box:⟨W.heap.size,0,none⟩=(⟨W.heap.size,0,none⟩:Addr):=rfl;have c0:W1.cell? ⟨W.heap.size,0,none⟩=some (.pointer (some ⟨8,112,none⟩)):=by rw[hW1];simp
 have c1:W1.cell? ⟨W.heap.size,1,none⟩=some (.pointer (some a)):=by rw[hW1];simp
 have c2:W1.cell? ⟨W.heap.size,2,none⟩=some (.int .u64 150):=by rw[hW1];simp
 have HW:=Lib.hid hW1;clear hW1 hE ha ht hf hlt box;go_enter Tryz.func119,Tryz.ntmps119;go_wp2;go_loopw [0] (fun E' wl=>wl=W1/\∃l',ErrV W1 n l' E') (fun E' _=>Hb W1 n E')
 case atStart=>exact⟨HW.out.symm,ps,hE1⟩
 case round=>
  obtain⟨hwl,l',hc'⟩:=hrel;subst hwl;cases l' with
  |nil=>
   obtain rfl:_=_:=hc';go_wp2;go_ret;exact⟨rfl,by rw[HW.out]⟩
  |cons p l'=>
   obtain⟨pb,po,rfl,E1,h2,h3⟩:=hc';have m1:=G0 h3;have m2:Hb _ n (.iface 156 (.pointer (some ⟨pb,po,none⟩)))=l'.length+1:=G0 (l:=p::l') ⟨pb,po,rfl,E1,h2,h3⟩
   have hne:∃T v,E1=.iface T v:=by
    cases l' with
    |nil=>exact⟨_,_,h3⟩
    |cons p l'=>obtain⟨pb,po,h,_⟩:=h3;exact⟨_,_,h⟩
   obtain⟨T,v,rfl⟩:=hne;have M1:=Lib.hid m1;have M2:=Lib.hid m2;have H3:=Lib.hid h3;clear m1 m2 h3;go_wp2_with (go_at_call 410;refine(XO pb po _ _ h2).mono ?_;rintro e w' ⟨rfl,rfl⟩);go_roundw
   case rel=>exact⟨trivial,l',H3.out⟩
   case measure=>rw[M1.out,M2.out];omega

theorem WC(e a t:Addr)(old:Value)(W:World)(ha:W.cell? a=some (.pointer (some t)))(ht:W.cell? t=some old)(hf:W.frozen? t=false) :
  Calls T_ 119 #[.iface 156 (.pointer (some e)),.iface 199 (.pointer (some t)),.agg #[.pointer (some ⟨8,199,none⟩),.pointer (some a),.int .u64 150],.iface 271 (.agg #[.pointer (some ⟨8,156,none⟩)])] W
   fun ev w'=>ev=.returned (.bool true)/\w'=((W.alloc (.cells #[.pointer (some ⟨8,199,none⟩),.pointer (some a),.int .u64 150] 190)).alloc (.cells #[.pointer (some e)] 156)).setCell t (.pointer (some e)):=by
 have hTO:=@run_callFunc_extern T_ 175 _ ReflectliteType.typeOf Tryz.func175 (by kernel_rfl) (by kernel_rfl) (by kernel_rfl) (by kernel_rfl);have hAss:=@run_callFunc_extern T_ 416 _ (ReflectliteType.relation "AssignableTo" ReflectliteType.assignableTo) Tryz.func416 (by kernel_rfl) (by kernel_rfl) (by kernel_rfl) (by kernel_rfl);have hVE:=@run_callFunc_extern T_ 176 _ (ReflectliteValue.method (ReflectliteValue.valueError "reflectlite.Value.Elem" 0) ReflectliteValue.elem) Tryz.func176 (by kernel_rfl) (by kernel_rfl) (by kernel_rfl) (by kernel_rfl);have hVO:=@run_callFunc_extern T_ 116 _ (fun args=>ReflectliteValue.unpack (args.getD 0 (.tuple #[]))) Tryz.func116 (by kernel_rfl) (by kernel_rfl) (by kernel_rfl) (by kernel_rfl);have hVS:=@run_callFunc_extern T_ 177 _ ReflectliteValue.set Tryz.func177 (by kernel_rfl) (by kernel_rfl) (by kernel_rfl) (by kernel_rfl);have q1:=Ui;have q3:=V9;have q4:=Wu;have q9:=XK;obtain⟨W1,hW1⟩:∃W1,W1=W.alloc (.cells #[.pointer (some ⟨8,199,none⟩),.pointer (some a),.int .u64 150] 190):=⟨_,rfl⟩;have el:=Vd a t W1 (by rw[hW1];exact bW _ _ ha);have hlt:t.block<W.heap.size:=qU ht
 have st:=Xj t ⟨W.heap.size+1,0,none⟩ e old (W1.alloc (.cells #[.pointer (some e)] 156)) (by rw[World.cell?_alloc_at _ _ _ _ (by simp[hW1])];rfl) (by rw[hW1];exact bW _ _ (bW _ _ ht))
  (by rw[hW1];exact fB (by simp;omega) (fB hlt hf))
 rw[hW1]at el st;clear hW1 ha ht hf hlt;go_enter Tryz.func119,Tryz.ntmps119;go_wp2;refine wp_loop_rounds 1 ?_;rw[rounds_succ];go_wp2;go_ret;exact⟨rfl,rfl⟩

theorem Qc(n:Int)(a t:Addr)(W:World) :
  Calls T_ 119 #[.iface 54 (.int .i64 n),.iface 199 (.pointer (some t)),.agg #[.pointer (some ⟨8,199,none⟩),.pointer (some a),.int .u64 150],.iface 271 (.agg #[.pointer (some ⟨8,156,none⟩)])] W
   fun ev w'=>ev=.returned (.bool false)/\w'=W.alloc (.cells #[.pointer (some ⟨8,199,none⟩),.pointer (some a),.int .u64 150] 190):=by
 have hTO:=@run_callFunc_extern T_ 175 _ ReflectliteType.typeOf Tryz.func175 (by kernel_rfl) (by kernel_rfl) (by kernel_rfl) (by kernel_rfl);have hAss:=@run_callFunc_extern T_ 416 _ (ReflectliteType.relation "AssignableTo" ReflectliteType.assignableTo) Tryz.func416 (by kernel_rfl) (by kernel_rfl) (by kernel_rfl) (by kernel_rfl);have q1:=Uj;have q3:=V9;have q4:=Wt;have q5:=Wx;have q6:=Va;have q7:=SO;go_enter Tryz.func119,Tryz.ntmps119;go_wp2;refine wp_loop_rounds 1 ?_;rw[rounds_succ];go_wp2;go_ret;exact⟨rfl,rfl⟩
end Go.Vs.YtcjeehebikeghaaGreatDoor.E
