/- What this seat's listed variables hold, as known globals. No conditions. -/
import Derived.Test.YtmaenhgipojmfaaGreatDoorRows
import Derived.Test.YtmaenhgipojmfaaGreatDoorBD
import Derived.KernelRfl
import Derived.WalkKit
import Derived.LaidEql
import Derived.Stop.Asserts
import Derived.RowKitTokens
import Derived.Below
set_option linter.unusedVariables false
set_option linter.unusedSimpArgs false
namespace Go.Vs.YtmaenhgipojmfaaGreatDoor
open Go.Proofs Go.Proofs.YtmaenhgipojmfaaGreatDoor
theorem hm:Tryz.prog.follows .mixedOrders=true:=by kernel_rfl
def sb:List Int:=(List.range 256).map fun c=>if c < 128 then 240 else if c < 194 then 241 else if c < 224 then 2 else if c=224 then 19 else if c < 237 then 3 else if c=237 then 35 else if c < 240 then 3 else if c=240 then 52 else if c < 244 then 4 else if c=244 then 68 else 241
def FF:List Int:=[128,191,160,191,128,159,144,191,128,143,0,0,0,0,0,0,0,0,0,0,0,0,0,0,0,0,0,0,0,0,0,0]
def G:List (Nat×List IV):=[(0,[.handle 161 4 25]),(2,sb.map (.int .u8 ·)),(3,FF.map (.int .u8 ·))]
end Go.Vs.YtmaenhgipojmfaaGreatDoor
set_option linter.unusedSimpArgs false
set_option linter.unusedVariables false
namespace Go.Vs.YtmaenhgipojmfaaGreatDoor.E
open Go.Proofs Go.Proofs.YtmaenhgipojmfaaGreatDoor Go.RowKit Go.Extern.Stop Go.Stop Go.Extern
set_option maxRecDepth 100000

theorem Mm (v:Value) (w:World):(ReflectliteType.typeOf #[.iface 54 v]).run Tryz.prog w=.ok (.iface 161 (.agg #[.pointer (some ⟨4,54,none⟩)])) w:=by kernel_rfl
theorem Mn (v:Value) (w:World):(ReflectliteType.typeOf #[.iface 33 v]).run Tryz.prog w=.ok (.iface 161 (.agg #[.pointer (some ⟨4,33,none⟩)])) w:=by kernel_rfl
theorem N3 (h:Value) (w:World):(Go.method 360 161 (.agg #[h]) "AssignableTo").run Tryz.prog w=.ok (182,.agg #[h]) w:=by kernel_rfl
theorem NF (w:World):(ReflectliteType.relation "AssignableTo" ReflectliteType.assignableTo #[.agg #[.pointer (some ⟨4,54,none⟩)],.iface 161 (.agg #[.pointer (some ⟨4,33,none⟩)])]).run Tryz.prog w=.ok (.bool false) w:=by kernel_rfl
theorem NG (w:World):(ReflectliteType.relation "AssignableTo" ReflectliteType.assignableTo #[.agg #[.pointer (some ⟨4,33,none⟩)],.iface 161 (.agg #[.pointer (some ⟨4,54,none⟩)])]).run Tryz.prog w=.ok (.bool false) w:=by kernel_rfl
theorem NH (w:World):(ReflectliteType.relation "AssignableTo" ReflectliteType.assignableTo #[.agg #[.pointer (some ⟨4,54,none⟩)],.iface 161 (.agg #[.pointer (some ⟨4,54,none⟩)])]).run Tryz.prog w=.ok (.bool true) w:=by kernel_rfl
theorem NI (w:World):(ReflectliteType.relation "AssignableTo" ReflectliteType.assignableTo #[.agg #[.pointer (some ⟨4,33,none⟩)],.iface 161 (.agg #[.pointer (some ⟨4,33,none⟩)])]).run Tryz.prog w=.ok (.bool true) w:=by kernel_rfl
theorem NJ (v:Value) (xT:TypeId) (w:World):(Instr.typeAssert (.iface 54 v) xT 166 true).run Tryz.prog w=.ok (.tuple #[.nilIface,.bool false]) w:=run_typeAssert_lacksB Tryz.underlying166 (by kernel_rfl) (by kernel_rfl) v xT w
theorem NK (v:Value) (xT:TypeId) (w:World):(Instr.typeAssert (.iface 33 v) xT 166 true).run Tryz.prog w=.ok (.tuple #[.nilIface,.bool false]) w:=run_typeAssert_lacksB Tryz.underlying166 (by kernel_rfl) (by kernel_rfl) v xT w
theorem O6 (v:Value) (xT:TypeId) (w:World):(Instr.typeAssert (.iface 54 v) xT 169 true).run Tryz.prog w=.ok (.tuple #[.iface 54 v,.bool true]) w:=run_typeAssert_hasB Tryz.underlying169 (by kernel_rfl) v xT w
theorem N4 (v:Value) (xT:TypeId) (w:World):(Instr.typeAssert (.iface 33 v) xT 169 true).run Tryz.prog w=.ok (.tuple #[.nilIface,.bool false]) w:=run_typeAssert_lacksB Tryz.underlying169 (by kernel_rfl) (by kernel_rfl) v xT w
theorem LB (v:Value) (xT:TypeId) (w:World):(Instr.typeAssert (.iface 33 v) xT 171 true).run Tryz.prog w=.ok (.tuple #[.nilIface,.bool false]) w:=run_typeAssert_lacksB Tryz.underlying171 (by kernel_rfl) (by kernel_rfl) v xT w
theorem O7 (v:Value) (w:World):(Go.method 360 54 v "Unwrap").run Tryz.prog w=.ok (175,v) w:=by kernel_rfl

/-! the targets -/
theorem Oi (t:Addr) (w:World):(ReflectliteValue.unpack (.iface 56 (.pointer (some t)))).run Tryz.prog w
  = .ok (.agg #[.pointer (some ⟨4,56,none⟩),.pointer (some ⟨w.heap.size,0,none⟩),.int .u64 150]) (w.alloc (.cells #[.pointer (some t)] 56)):=by kernel_rfl
theorem Om (t:Addr) (w:World):(ReflectliteValue.unpack (.iface 95 (.pointer (some t)))).run Tryz.prog w
  = .ok (.agg #[.pointer (some ⟨4,95,none⟩),.pointer (some ⟨w.heap.size,0,none⟩),.int .u64 150]) (w.alloc (.cells #[.pointer (some t)] 95)):=by kernel_rfl
theorem Oj (a:Addr) (w:World):(ReflectliteValue.methodAny (ReflectliteValue.valueError "reflectlite.Value.Type" 0) (fun t _ _ _=>ReflectliteType.toType t) #[.agg #[.pointer (some ⟨4,56,none⟩),.pointer (some a),.int .u64 150]]).run Tryz.prog w
  = .ok (.iface 161 (.agg #[.pointer (some ⟨4,56,none⟩)])) w:=by kernel_rfl
theorem On (a:Addr) (w:World):(ReflectliteValue.methodAny (ReflectliteValue.valueError "reflectlite.Value.Type" 0) (fun t _ _ _=>ReflectliteType.toType t) #[.agg #[.pointer (some ⟨4,95,none⟩),.pointer (some a),.int .u64 150]]).run Tryz.prog w
  = .ok (.iface 161 (.agg #[.pointer (some ⟨4,95,none⟩)])) w:=by kernel_rfl
theorem JA (h:Value) (w:World):(Go.method 360 161 (.agg #[h]) "Kind").run Tryz.prog w=.ok (170,h) w:=by kernel_rfl
theorem Mo (w:World):((ReflectliteType.abiMethod fun t=>(fun a:Nat=>Value.int IntKind.u8 (a:Int)) <$> Rtype.kind t) #[.pointer (some ⟨4,56,none⟩)]).run Tryz.prog w=.ok (.int .u8 22) w:=by kernel_rfl
theorem NL (w:World):((ReflectliteType.abiMethod fun t=>(fun a:Nat=>Value.int IntKind.u8 (a:Int)) <$> Rtype.kind t) #[.pointer (some ⟨4,95,none⟩)]).run Tryz.prog w=.ok (.int .u8 22) w:=by kernel_rfl
theorem Mp (w:World):((ReflectliteType.abiMethod fun t=>(fun a:Nat=>Value.int IntKind.u8 (a:Int)) <$> Rtype.kind t) #[.pointer (some ⟨4,54,none⟩)]).run Tryz.prog w=.ok (.int .u8 22) w:=by kernel_rfl
theorem NM (w:World):((ReflectliteType.abiMethod fun t=>(fun a:Nat=>Value.int IntKind.u8 (a:Int)) <$> Rtype.kind t) #[.pointer (some ⟨4,33,none⟩)]).run Tryz.prog w=.ok (.int .u8 2) w:=by kernel_rfl
theorem JB (h:Value) (w:World):(Go.method 360 161 (.agg #[h]) "Elem").run Tryz.prog w=.ok (184,.agg #[h]) w:=by kernel_rfl
theorem N5 (h:Value) (w:World):(Go.method 360 161 (.agg #[h]) "Implements").run Tryz.prog w=.ok (185,.agg #[h]) w:=by kernel_rfl
theorem Mq (w:World):(ReflectliteType.method ReflectliteType.elem #[.agg #[.pointer (some ⟨4,56,none⟩)]]).run Tryz.prog w=.ok (.iface 161 (.agg #[.pointer (some ⟨4,54,none⟩)])) w:=by kernel_rfl
theorem NN (w:World):(ReflectliteType.method ReflectliteType.elem #[.agg #[.pointer (some ⟨4,95,none⟩)]]).run Tryz.prog w=.ok (.iface 161 (.agg #[.pointer (some ⟨4,33,none⟩)])) w:=by kernel_rfl
theorem NO (w:World):(ReflectliteType.relation "Implements" ReflectliteType.implements_ #[.agg #[.pointer (some ⟨4,54,none⟩)],.iface 161 (.agg #[.pointer (some ⟨4,25,none⟩)])]).run Tryz.prog w=.ok (.bool true) w:=by kernel_rfl
theorem O8 (w:World):(ReflectliteType.relation "Implements" ReflectliteType.implements_ #[.agg #[.pointer (some ⟨4,33,none⟩)],.iface 161 (.agg #[.pointer (some ⟨4,25,none⟩)])]).run Tryz.prog w=.ok (.bool true) w:=by kernel_rfl
theorem Oo (e:Addr) (w:World):(ReflectliteValue.unpack (.iface 54 (.pointer (some e)))).run Tryz.prog w
  = .ok (.agg #[.pointer (some ⟨4,54,none⟩),.pointer (some ⟨w.heap.size,0,none⟩),.int .u64 150]) (w.alloc (.cells #[.pointer (some e)] 54)):=by kernel_rfl
theorem Oq (n:Int) (w:World):(ReflectliteValue.unpack (.iface 33 (.int .i64 n))).run Tryz.prog w
  = .ok (.agg #[.pointer (some ⟨4,33,none⟩),.pointer (some ⟨w.heap.size,0,none⟩),.int .u64 130]) (w.alloc (.cells #[.int .i64 n] 33)):=by kernel_rfl
theorem LC (w:World):(Rtype.elem? 56).run Tryz.prog w=.ok (some 54) w:=by kernel_rfl
theorem LD (w:World):(Rtype.elem? 95).run Tryz.prog w=.ok (some 33) w:=by kernel_rfl
theorem Ot (p:Addr) (w:World):(ReflectliteValue.mk 54 p ReflectliteValue.flagAddr).run Tryz.prog w=.ok (.agg #[.pointer (some ⟨4,54,none⟩),.pointer (some p),.int .u64 406]) w:=by kernel_rfl
theorem Ou (p:Addr) (w:World):(ReflectliteValue.mk 33 p ReflectliteValue.flagAddr).run Tryz.prog w=.ok (.agg #[.pointer (some ⟨4,33,none⟩),.pointer (some p),.int .u64 386]) w:=by kernel_rfl
theorem O0 (z:Sem Value) (f:TypeId→Addr→Nat→Nat→Sem Value) (v:Value) :
  ReflectliteValue.method z f #[v]=(do match ←ReflectliteValue.parts v with | none=>z | some (t,a,fl)=>f t a fl (fl % 32)):=rfl
theorem JC (a:Addr) (w:World):(ReflectliteValue.parts (.agg #[.pointer (some ⟨4,56,none⟩),.pointer (some a),.int .u64 150])).run Tryz.prog w=.ok (some (56,a,150)) w:=by kernel_rfl
theorem JD (a:Addr) (w:World):(ReflectliteValue.parts (.agg #[.pointer (some ⟨4,95,none⟩),.pointer (some a),.int .u64 150])).run Tryz.prog w=.ok (some (95,a,150)) w:=by kernel_rfl
theorem JE (a p:Addr) (W:World) (ha:W.cell? a=some (.pointer (some p))) :
  (ReflectliteValue.method (ReflectliteValue.valueError "reflectlite.Value.IsNil" 0) ReflectliteValue.isNil #[.agg #[.pointer (some ⟨4,56,none⟩),.pointer (some a),.int .u64 150]]).run Tryz.prog W=.ok (.bool false) W:=by
 rw[O0]
 simp only[Sem.run_bind,JC,Result.andThen]
 simp[ReflectliteValue.isNil,loadVar,isAgg,underlying,Tryz.underlying56,ha,Result.andThen]
theorem N6 (a p:Addr) (W:World) (ha:W.cell? a=some (.pointer (some p))) :
  (ReflectliteValue.method (ReflectliteValue.valueError "reflectlite.Value.IsNil" 0) ReflectliteValue.isNil #[.agg #[.pointer (some ⟨4,95,none⟩),.pointer (some a),.int .u64 150]]).run Tryz.prog W=.ok (.bool false) W:=by
 rw[O0]
 simp only[Sem.run_bind,JD,Result.andThen]
 simp[ReflectliteValue.isNil,loadVar,isAgg,underlying,Tryz.underlying95,ha,Result.andThen]
theorem N7 (a p:Addr) (W:World) (ha:W.cell? a=some (.pointer (some p))) :
  (ReflectliteValue.method (ReflectliteValue.valueError "reflectlite.Value.Elem" 0) ReflectliteValue.elem #[.agg #[.pointer (some ⟨4,56,none⟩),.pointer (some a),.int .u64 150]]).run Tryz.prog W
    = .ok (.agg #[.pointer (some ⟨4,54,none⟩),.pointer (some p),.int .u64 406]) W:=by
 rw[O0]
 simp only[Sem.run_bind,JC,Result.andThen]
 simp[ReflectliteValue.elem,loadVar,isAgg,underlying,Tryz.underlying56,ha,Result.andThen,LC,Ot]
theorem N8 (a p:Addr) (W:World) (ha:W.cell? a=some (.pointer (some p))) :
  (ReflectliteValue.method (ReflectliteValue.valueError "reflectlite.Value.Elem" 0) ReflectliteValue.elem #[.agg #[.pointer (some ⟨4,95,none⟩),.pointer (some a),.int .u64 150]]).run Tryz.prog W
    = .ok (.agg #[.pointer (some ⟨4,33,none⟩),.pointer (some p),.int .u64 386]) W:=by
 rw[O0]
 simp only[Sem.run_bind,JD,Result.andThen]
 simp[ReflectliteValue.elem,loadVar,isAgg,underlying,Tryz.underlying95,ha,Result.andThen,LD,Ou]
theorem Ok (v x:Value):ReflectliteValue.set #[v,x]=(do
  let (some (dst,a,fl),some (src,b,_)):=(←ReflectliteValue.parts v,←ReflectliteValue.parts x)
   | unsupported (.noEntry "extern/(internal/reflectlite.Value).Set.zeroValue")
  if fl / ReflectliteValue.flagAddr % 2==0 then unsupported (.noEntry "extern/(internal/reflectlite.Value).Set.unaddressable")
  let val ←loadVar src b
  if ←Rtype.directlyAssignable dst src then storeVar dst a val
  else if ←Rtype.implements dst src then
   if (←Rtype.kind src)==20 then
    match val with
    | .nilIface=>unsupported (.noEntry "extern/reflectlite: a nil value of one interface type handed on as a value of another")
    | _=>storeVar dst a val
   else storeVar dst a (.iface src val)
  else panicString ("reflectlite.Set: value of type "++(←Rtype.spelt src)++ " is not assignable to type "++(←Rtype.spelt dst))
  pure (.tuple #[])):=rfl
theorem LE (a:Addr) (w:World):(ReflectliteValue.parts (.agg #[.pointer (some ⟨4,54,none⟩),.pointer (some a),.int .u64 406])).run Tryz.prog w=.ok (some (54,a,406)) w:=by kernel_rfl
theorem LF (a:Addr) (w:World):(ReflectliteValue.parts (.agg #[.pointer (some ⟨4,54,none⟩),.pointer (some a),.int .u64 150])).run Tryz.prog w=.ok (some (54,a,150)) w:=by kernel_rfl
theorem LG (a:Addr) (w:World):(ReflectliteValue.parts (.agg #[.pointer (some ⟨4,33,none⟩),.pointer (some a),.int .u64 386])).run Tryz.prog w=.ok (some (33,a,386)) w:=by kernel_rfl
theorem LH (a:Addr) (w:World):(ReflectliteValue.parts (.agg #[.pointer (some ⟨4,33,none⟩),.pointer (some a),.int .u64 130])).run Tryz.prog w=.ok (some (33,a,130)) w:=by kernel_rfl
theorem O9 (w:World):(Rtype.directlyAssignable 54 54).run Tryz.prog w=.ok true w:=by kernel_rfl
theorem Oa (w:World):(Rtype.directlyAssignable 33 33).run Tryz.prog w=.ok true w:=by kernel_rfl
theorem Oc (ta b e:Addr) (old:Value) (W:World) (hb:W.cell? b=some (.pointer (some e))) (ht:W.cell? ta=some old) (hf:W.frozen? ta=false) :
  (ReflectliteValue.set #[.agg #[.pointer (some ⟨4,54,none⟩),.pointer (some ta),.int .u64 406],.agg #[.pointer (some ⟨4,54,none⟩),.pointer (some b),.int .u64 150]]).run Tryz.prog W
    = .ok (.tuple #[]) (W.setCell ta (.pointer (some e))):=by
 rw[Ok]
 simp only[Sem.run_bind,LE,LF,Result.andThen]
 simp[ReflectliteValue.flagAddr,loadVar,isAgg,underlying,Tryz.underlying54,hb,Result.andThen,O9,storeVar,Value.cells,storeCells,Addr.add]
 rw[run_store Tryz.prog W ta _ _ (by rfl)]
 simp[ht,hf]
theorem Od (ta b:Addr) (n:Int) (old:Value) (W:World) (hb:W.cell? b=some (.int .i64 n)) (ht:W.cell? ta=some old) (hf:W.frozen? ta=false) :
  (ReflectliteValue.set #[.agg #[.pointer (some ⟨4,33,none⟩),.pointer (some ta),.int .u64 386],.agg #[.pointer (some ⟨4,33,none⟩),.pointer (some b),.int .u64 130]]).run Tryz.prog W
    = .ok (.tuple #[]) (W.setCell ta (.int .i64 n)):=by
 rw[Ok]
 simp only[Sem.run_bind,LG,LH,Result.andThen]
 simp[ReflectliteValue.flagAddr,loadVar,isAgg,underlying,Tryz.underlying33,hb,Result.andThen,Oa,storeVar,Value.cells,storeCells,Addr.add]
 rw[run_store Tryz.prog W ta _ _ (by rfl)]
 simp[ht,hf]
end Go.Vs.YtmaenhgipojmfaaGreatDoor.E
