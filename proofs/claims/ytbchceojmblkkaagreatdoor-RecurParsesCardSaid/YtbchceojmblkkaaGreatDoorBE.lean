/- What this seat's listed variables hold, as known globals. No conditions. -/
import Derived.Test.YtbchceojmblkkaaGreatDoorRows
import Derived.Test.YtbchceojmblkkaaGreatDoorBD
import Derived.KernelRfl
import Derived.WalkKit
import Derived.LaidEql
import Derived.Stop.Asserts
import Derived.RowKitTokens
import Derived.Below
set_option linter.unusedVariables false
set_option linter.unusedSimpArgs false
namespace Go.Vs.YtbchceojmblkkaaGreatDoor
open Go.Proofs Go.Proofs.YtbchceojmblkkaaGreatDoor
theorem hm : Tryz.prog.follows .mixedOrders = true := by kernel_rfl
def firstZ : List Int := (List.range 256).map fun c => if c < 128 then 240 else if c < 194 then 241 else if c < 224 then 2 else if c = 224 then 19 else if c < 237 then 3 else if c = 237 then 35 else if c < 240 then 3 else if c = 240 then 52 else if c < 244 then 4 else if c = 244 then 68 else 241
def accZ : List Int := [128, 191, 160, 191, 128, 159, 144, 191, 128, 143, 0, 0, 0, 0, 0, 0, 0, 0, 0, 0, 0, 0, 0, 0, 0, 0, 0, 0, 0, 0, 0, 0]
def powZ : List Int := (List.range 20).map fun i => ((10 ^ i : Nat) : Int)
def G : List (Nat × List IV) := [(0, [.handle 245 8 27]), (4, firstZ.map (.int .u8 ·)), (5, accZ.map (.int .u8 ·)), (3, powZ.map (.int .u64 ·))]
end Go.Vs.YtbchceojmblkkaaGreatDoor
set_option linter.unusedSimpArgs false
set_option linter.unusedVariables false
namespace Go.Vs.YtbchceojmblkkaaGreatDoor.E
open Go.Proofs Go.Proofs.YtbchceojmblkkaaGreatDoor Go.RowKit Go.Extern.Stop Go.Stop Go.Extern
set_option maxRecDepth 100000

theorem typeF (v : Value) (w : World) : (ReflectliteType.typeOf #[.iface 114 v]).run Tryz.prog w = .ok (.iface 245 (.agg #[.pointer (some ⟨8, 114, none⟩)])) w := by kernel_rfl
theorem typeE (v : Value) (w : World) : (ReflectliteType.typeOf #[.iface 37 v]).run Tryz.prog w = .ok (.iface 245 (.agg #[.pointer (some ⟨8, 37, none⟩)])) w := by kernel_rfl
theorem mAss (h : Value) (w : World) : (Go.method 446 245 (.agg #[h]) "AssignableTo").run Tryz.prog w = .ok (277, .agg #[h]) w := by kernel_rfl
theorem assFE (w : World) : (ReflectliteType.relation "AssignableTo" ReflectliteType.assignableTo #[.agg #[.pointer (some ⟨8, 114, none⟩)], .iface 245 (.agg #[.pointer (some ⟨8, 37, none⟩)])]).run Tryz.prog w = .ok (.bool false) w := by kernel_rfl
theorem assEF (w : World) : (ReflectliteType.relation "AssignableTo" ReflectliteType.assignableTo #[.agg #[.pointer (some ⟨8, 37, none⟩)], .iface 245 (.agg #[.pointer (some ⟨8, 114, none⟩)])]).run Tryz.prog w = .ok (.bool false) w := by kernel_rfl
theorem assFF (w : World) : (ReflectliteType.relation "AssignableTo" ReflectliteType.assignableTo #[.agg #[.pointer (some ⟨8, 114, none⟩)], .iface 245 (.agg #[.pointer (some ⟨8, 114, none⟩)])]).run Tryz.prog w = .ok (.bool true) w := by kernel_rfl
theorem assEE (w : World) : (ReflectliteType.relation "AssignableTo" ReflectliteType.assignableTo #[.agg #[.pointer (some ⟨8, 37, none⟩)], .iface 245 (.agg #[.pointer (some ⟨8, 37, none⟩)])]).run Tryz.prog w = .ok (.bool true) w := by kernel_rfl
theorem noAsF (v : Value) (xT : TypeId) (w : World) : (Instr.typeAssert (.iface 114 v) xT 250 true).run Tryz.prog w = .ok (.tuple #[.nilIface, .bool false]) w := run_typeAssert_lacksB Tryz.underlying250 (by kernel_rfl) (by kernel_rfl) v xT w
theorem noAsE (v : Value) (xT : TypeId) (w : World) : (Instr.typeAssert (.iface 37 v) xT 250 true).run Tryz.prog w = .ok (.tuple #[.nilIface, .bool false]) w := run_typeAssert_lacksB Tryz.underlying250 (by kernel_rfl) (by kernel_rfl) v xT w
theorem unwF (v : Value) (xT : TypeId) (w : World) : (Instr.typeAssert (.iface 114 v) xT 253 true).run Tryz.prog w = .ok (.tuple #[.iface 114 v, .bool true]) w := run_typeAssert_hasB Tryz.underlying253 (by kernel_rfl) v xT w
theorem noUnwE (v : Value) (xT : TypeId) (w : World) : (Instr.typeAssert (.iface 37 v) xT 253 true).run Tryz.prog w = .ok (.tuple #[.nilIface, .bool false]) w := run_typeAssert_lacksB Tryz.underlying253 (by kernel_rfl) (by kernel_rfl) v xT w
theorem noUnwsE (v : Value) (xT : TypeId) (w : World) : (Instr.typeAssert (.iface 37 v) xT 255 true).run Tryz.prog w = .ok (.tuple #[.nilIface, .bool false]) w := run_typeAssert_lacksB Tryz.underlying255 (by kernel_rfl) (by kernel_rfl) v xT w
theorem mUnw (v : Value) (w : World) : (Go.method 446 114 v "Unwrap").run Tryz.prog w = .ok (271, v) w := by kernel_rfl

/-! the targets -/
theorem vo1 (t : Addr) (w : World) : (ReflectliteValue.unpack (.iface 116 (.pointer (some t)))).run Tryz.prog w
  = .ok (.agg #[.pointer (some ⟨8, 116, none⟩), .pointer (some ⟨w.heap.size, 0, none⟩), .int .u64 150]) (w.alloc (.cells #[.pointer (some t)] 116)) := by kernel_rfl
theorem vo2 (t : Addr) (w : World) : (ReflectliteValue.unpack (.iface 126 (.pointer (some t)))).run Tryz.prog w
  = .ok (.agg #[.pointer (some ⟨8, 126, none⟩), .pointer (some ⟨w.heap.size, 0, none⟩), .int .u64 150]) (w.alloc (.cells #[.pointer (some t)] 126)) := by kernel_rfl
theorem ty1 (a : Addr) (w : World) : (ReflectliteValue.methodAny (ReflectliteValue.valueError "reflectlite.Value.Type" 0) (fun t _ _ _ => ReflectliteType.toType t) #[.agg #[.pointer (some ⟨8, 116, none⟩), .pointer (some a), .int .u64 150]]).run Tryz.prog w
  = .ok (.iface 245 (.agg #[.pointer (some ⟨8, 116, none⟩)])) w := by kernel_rfl
theorem ty2 (a : Addr) (w : World) : (ReflectliteValue.methodAny (ReflectliteValue.valueError "reflectlite.Value.Type" 0) (fun t _ _ _ => ReflectliteType.toType t) #[.agg #[.pointer (some ⟨8, 126, none⟩), .pointer (some a), .int .u64 150]]).run Tryz.prog w
  = .ok (.iface 245 (.agg #[.pointer (some ⟨8, 126, none⟩)])) w := by kernel_rfl
theorem mKind (h : Value) (w : World) : (Go.method 446 245 (.agg #[h]) "Kind").run Tryz.prog w = .ok (265, h) w := by kernel_rfl
theorem kind1 (w : World) : ((ReflectliteType.abiMethod fun t => (fun a : Nat => Value.int IntKind.u8 (a : Int)) <$> Rtype.kind t) #[.pointer (some ⟨8, 116, none⟩)]).run Tryz.prog w = .ok (.int .u8 22) w := by kernel_rfl
theorem kind2 (w : World) : ((ReflectliteType.abiMethod fun t => (fun a : Nat => Value.int IntKind.u8 (a : Int)) <$> Rtype.kind t) #[.pointer (some ⟨8, 126, none⟩)]).run Tryz.prog w = .ok (.int .u8 22) w := by kernel_rfl
theorem kind3 (w : World) : ((ReflectliteType.abiMethod fun t => (fun a : Nat => Value.int IntKind.u8 (a : Int)) <$> Rtype.kind t) #[.pointer (some ⟨8, 114, none⟩)]).run Tryz.prog w = .ok (.int .u8 22) w := by kernel_rfl
theorem kind4 (w : World) : ((ReflectliteType.abiMethod fun t => (fun a : Nat => Value.int IntKind.u8 (a : Int)) <$> Rtype.kind t) #[.pointer (some ⟨8, 37, none⟩)]).run Tryz.prog w = .ok (.int .u8 2) w := by kernel_rfl
theorem mElem (h : Value) (w : World) : (Go.method 446 245 (.agg #[h]) "Elem").run Tryz.prog w = .ok (279, .agg #[h]) w := by kernel_rfl
theorem mImp (h : Value) (w : World) : (Go.method 446 245 (.agg #[h]) "Implements").run Tryz.prog w = .ok (280, .agg #[h]) w := by kernel_rfl
theorem elem1 (w : World) : (ReflectliteType.method ReflectliteType.elem #[.agg #[.pointer (some ⟨8, 116, none⟩)]]).run Tryz.prog w = .ok (.iface 245 (.agg #[.pointer (some ⟨8, 114, none⟩)])) w := by kernel_rfl
theorem elem2 (w : World) : (ReflectliteType.method ReflectliteType.elem #[.agg #[.pointer (some ⟨8, 126, none⟩)]]).run Tryz.prog w = .ok (.iface 245 (.agg #[.pointer (some ⟨8, 37, none⟩)])) w := by kernel_rfl
theorem imp1 (w : World) : (ReflectliteType.relation "Implements" ReflectliteType.implements_ #[.agg #[.pointer (some ⟨8, 114, none⟩)], .iface 245 (.agg #[.pointer (some ⟨8, 27, none⟩)])]).run Tryz.prog w = .ok (.bool true) w := by kernel_rfl
theorem imp2 (w : World) : (ReflectliteType.relation "Implements" ReflectliteType.implements_ #[.agg #[.pointer (some ⟨8, 37, none⟩)], .iface 245 (.agg #[.pointer (some ⟨8, 27, none⟩)])]).run Tryz.prog w = .ok (.bool true) w := by kernel_rfl
theorem voF (e : Addr) (w : World) : (ReflectliteValue.unpack (.iface 114 (.pointer (some e)))).run Tryz.prog w
  = .ok (.agg #[.pointer (some ⟨8, 114, none⟩), .pointer (some ⟨w.heap.size, 0, none⟩), .int .u64 150]) (w.alloc (.cells #[.pointer (some e)] 114)) := by kernel_rfl
theorem voE (n : Int) (w : World) : (ReflectliteValue.unpack (.iface 37 (.int .i64 n))).run Tryz.prog w
  = .ok (.agg #[.pointer (some ⟨8, 37, none⟩), .pointer (some ⟨w.heap.size, 0, none⟩), .int .u64 130]) (w.alloc (.cells #[.int .i64 n] 37)) := by kernel_rfl
theorem elemOf1 (w : World) : (Rtype.elem? 116).run Tryz.prog w = .ok (some 114) w := by kernel_rfl
theorem elemOf2 (w : World) : (Rtype.elem? 126).run Tryz.prog w = .ok (some 37) w := by kernel_rfl
theorem mk1 (p : Addr) (w : World) : (ReflectliteValue.mk 114 p ReflectliteValue.flagAddr).run Tryz.prog w = .ok (.agg #[.pointer (some ⟨8, 114, none⟩), .pointer (some p), .int .u64 406]) w := by kernel_rfl
theorem mk2 (p : Addr) (w : World) : (ReflectliteValue.mk 37 p ReflectliteValue.flagAddr).run Tryz.prog w = .ok (.agg #[.pointer (some ⟨8, 37, none⟩), .pointer (some p), .int .u64 386]) w := by kernel_rfl
theorem rlm (z : Sem Value) (f : TypeId → Addr → Nat → Nat → Sem Value) (v : Value) :
  ReflectliteValue.method z f #[v] = (do match ← ReflectliteValue.parts v with | none => z | some (t, a, fl) => f t a fl (fl % 32)) := rfl
theorem parts1 (a : Addr) (w : World) : (ReflectliteValue.parts (.agg #[.pointer (some ⟨8, 116, none⟩), .pointer (some a), .int .u64 150])).run Tryz.prog w = .ok (some (116, a, 150)) w := by kernel_rfl
theorem parts2 (a : Addr) (w : World) : (ReflectliteValue.parts (.agg #[.pointer (some ⟨8, 126, none⟩), .pointer (some a), .int .u64 150])).run Tryz.prog w = .ok (some (126, a, 150)) w := by kernel_rfl
theorem isNil1 (a p : Addr) (W : World) (ha : W.cell? a = some (.pointer (some p))) :
  (ReflectliteValue.method (ReflectliteValue.valueError "reflectlite.Value.IsNil" 0) ReflectliteValue.isNil #[.agg #[.pointer (some ⟨8, 116, none⟩), .pointer (some a), .int .u64 150]]).run Tryz.prog W = .ok (.bool false) W := by
 rw [rlm]
 simp only [Sem.run_bind, parts1, Result.andThen]
 simp [ReflectliteValue.isNil, loadVar, isAgg, underlying, Tryz.underlying116, ha, Result.andThen]
theorem isNil2 (a p : Addr) (W : World) (ha : W.cell? a = some (.pointer (some p))) :
  (ReflectliteValue.method (ReflectliteValue.valueError "reflectlite.Value.IsNil" 0) ReflectliteValue.isNil #[.agg #[.pointer (some ⟨8, 126, none⟩), .pointer (some a), .int .u64 150]]).run Tryz.prog W = .ok (.bool false) W := by
 rw [rlm]
 simp only [Sem.run_bind, parts2, Result.andThen]
 simp [ReflectliteValue.isNil, loadVar, isAgg, underlying, Tryz.underlying126, ha, Result.andThen]
theorem elemV1 (a p : Addr) (W : World) (ha : W.cell? a = some (.pointer (some p))) :
  (ReflectliteValue.method (ReflectliteValue.valueError "reflectlite.Value.Elem" 0) ReflectliteValue.elem #[.agg #[.pointer (some ⟨8, 116, none⟩), .pointer (some a), .int .u64 150]]).run Tryz.prog W
    = .ok (.agg #[.pointer (some ⟨8, 114, none⟩), .pointer (some p), .int .u64 406]) W := by
 rw [rlm]
 simp only [Sem.run_bind, parts1, Result.andThen]
 simp [ReflectliteValue.elem, loadVar, isAgg, underlying, Tryz.underlying116, ha, Result.andThen, elemOf1, mk1]
theorem elemV2 (a p : Addr) (W : World) (ha : W.cell? a = some (.pointer (some p))) :
  (ReflectliteValue.method (ReflectliteValue.valueError "reflectlite.Value.Elem" 0) ReflectliteValue.elem #[.agg #[.pointer (some ⟨8, 126, none⟩), .pointer (some a), .int .u64 150]]).run Tryz.prog W
    = .ok (.agg #[.pointer (some ⟨8, 37, none⟩), .pointer (some p), .int .u64 386]) W := by
 rw [rlm]
 simp only [Sem.run_bind, parts2, Result.andThen]
 simp [ReflectliteValue.elem, loadVar, isAgg, underlying, Tryz.underlying126, ha, Result.andThen, elemOf2, mk2]
theorem rls (v x : Value) : ReflectliteValue.set #[v, x] = (do
  let (some (dst, a, fl), some (src, b, _)) := (← ReflectliteValue.parts v, ← ReflectliteValue.parts x)
   | unsupported (.noEntry "extern/(internal/reflectlite.Value).Set.zeroValue")
  if fl / ReflectliteValue.flagAddr % 2 == 0 then unsupported (.noEntry "extern/(internal/reflectlite.Value).Set.unaddressable")
  let val ← loadVar src b
  if ← Rtype.directlyAssignable dst src then storeVar dst a val
  else if ← Rtype.implements dst src then
   if (← Rtype.kind src) == 20 then
    match val with
    | .nilIface => unsupported (.noEntry "extern/reflectlite: a nil value of one interface type handed on as a value of another")
    | _ => storeVar dst a val
   else storeVar dst a (.iface src val)
  else panicString ("reflectlite.Set: value of type " ++ (← Rtype.spelt src) ++ " is not assignable to type " ++ (← Rtype.spelt dst))
  pure (.tuple #[])) := rfl
theorem parts1a (a : Addr) (w : World) : (ReflectliteValue.parts (.agg #[.pointer (some ⟨8, 114, none⟩), .pointer (some a), .int .u64 406])).run Tryz.prog w = .ok (some (114, a, 406)) w := by kernel_rfl
theorem parts1b (a : Addr) (w : World) : (ReflectliteValue.parts (.agg #[.pointer (some ⟨8, 114, none⟩), .pointer (some a), .int .u64 150])).run Tryz.prog w = .ok (some (114, a, 150)) w := by kernel_rfl
theorem parts2a (a : Addr) (w : World) : (ReflectliteValue.parts (.agg #[.pointer (some ⟨8, 37, none⟩), .pointer (some a), .int .u64 386])).run Tryz.prog w = .ok (some (37, a, 386)) w := by kernel_rfl
theorem parts2b (a : Addr) (w : World) : (ReflectliteValue.parts (.agg #[.pointer (some ⟨8, 37, none⟩), .pointer (some a), .int .u64 130])).run Tryz.prog w = .ok (some (37, a, 130)) w := by kernel_rfl
theorem dir1 (w : World) : (Rtype.directlyAssignable 114 114).run Tryz.prog w = .ok true w := by kernel_rfl
theorem dir2 (w : World) : (Rtype.directlyAssignable 37 37).run Tryz.prog w = .ok true w := by kernel_rfl
theorem set1 (ta b e : Addr) (old : Value) (W : World) (hb : W.cell? b = some (.pointer (some e))) (ht : W.cell? ta = some old) (hf : W.frozen? ta = false) :
  (ReflectliteValue.set #[.agg #[.pointer (some ⟨8, 114, none⟩), .pointer (some ta), .int .u64 406], .agg #[.pointer (some ⟨8, 114, none⟩), .pointer (some b), .int .u64 150]]).run Tryz.prog W
    = .ok (.tuple #[]) (W.setCell ta (.pointer (some e))) := by
 rw [rls]
 simp only [Sem.run_bind, parts1a, parts1b, Result.andThen]
 simp [ReflectliteValue.flagAddr, loadVar, isAgg, underlying, Tryz.underlying114, hb, Result.andThen, dir1, storeVar, Value.cells, storeCells, Addr.add]
 rw [run_store Tryz.prog W ta _ _ (by rfl)]
 simp [ht, hf]
theorem set2 (ta b : Addr) (n : Int) (old : Value) (W : World) (hb : W.cell? b = some (.int .i64 n)) (ht : W.cell? ta = some old) (hf : W.frozen? ta = false) :
  (ReflectliteValue.set #[.agg #[.pointer (some ⟨8, 37, none⟩), .pointer (some ta), .int .u64 386], .agg #[.pointer (some ⟨8, 37, none⟩), .pointer (some b), .int .u64 130]]).run Tryz.prog W
    = .ok (.tuple #[]) (W.setCell ta (.int .i64 n)) := by
 rw [rls]
 simp only [Sem.run_bind, parts2a, parts2b, Result.andThen]
 simp [ReflectliteValue.flagAddr, loadVar, isAgg, underlying, Tryz.underlying37, hb, Result.andThen, dir2, storeVar, Value.cells, storeCells, Addr.add]
 rw [run_store Tryz.prog W ta _ _ (by rfl)]
 simp [ht, hf]
end Go.Vs.YtbchceojmblkkaaGreatDoor.E
