/- A part of a proof. No conditions. -/
import Derived.Test.YtnhbiolfmeeniaaGreatDoorRows
import Derived.Test.YtnhbiolfmeeniaaGreatDoorBDz
import Derived.KernelRfl
import Derived.Stop.Asserts
import Derived.RowKitTokens
import Derived.LoopTactic
import Derived.Lib.Hide
set_option linter.all false
set_option maxRecDepth 1000000
namespace Go.Vs.Y
open Go.Proofs Go.Proofs.YtnhbiolfmeeniaaGreatDoor
noncomputable abbrev _root_.Go.Vs.T_:=Tryz.prog
theorem hm:T_.follows .mixedOrders=true:=by kernel_rfl
def D6:List Int:=(List.range 256).map fun c=>if c<128 then 240 else if c<194 then 241 else if c<224 then 2 else if c=224 then 19 else if c<237 then 3 else if c=237 then 35 else if c<240 then 3 else if c=240 then 52 else if c<244 then 4 else if c=244 then 68 else 241
def VI:List Int:=[128,191,160,191,128,159,144,191,128,143,0,0,0,0,0,0,0,0,0,0,0,0,0,0,0,0,0,0,0,0,0,0]
def abJ:List Int:=(List.range 20).map fun i=>((10 ^ i:Nat):Int)
def G:List (Nat×List IV):=[(0,[.handle 208 8 40]),(3,D6.map (.int .u8 ·)),(4,VI.map (.int .u8 ·)),(2,abJ.map (.int .u64 ·))]
end Go.Vs.Y
namespace Go.Vs.Y.E
open Go.Proofs Go.Proofs.YtnhbiolfmeeniaaGreatDoor Go.RowKit Go.Extern.Stop Go.Stop Go.Extern
theorem agP(v:Value)(w:World):(ReflectliteType.typeOf #[.iface 110 v]).run T_ w=.ok (.iface 208 (.agg #[.pointer (some ⟨8,110,none⟩)])) w:=by kernel_rfl
theorem agQ(v:Value)(w:World):(ReflectliteType.typeOf #[.iface 43 v]).run T_ w=.ok (.iface 208 (.agg #[.pointer (some ⟨8,43,none⟩)])) w:=by kernel_rfl
theorem ahM(h:Value)(w:World):(Go.method 485 208 (.agg #[h]) "AssignableTo").run T_ w=.ok (310,.agg #[h]) w:=by kernel_rfl
theorem ai5(w:World):(ReflectliteType.relation "AssignableTo" ReflectliteType.assignableTo #[.agg #[.pointer (some ⟨8,110,none⟩)],.iface 208 (.agg #[.pointer (some ⟨8,43,none⟩)])]).run T_ w=.ok (.bool false) w:=by kernel_rfl
theorem ai6(w:World):(ReflectliteType.relation "AssignableTo" ReflectliteType.assignableTo #[.agg #[.pointer (some ⟨8,43,none⟩)],.iface 208 (.agg #[.pointer (some ⟨8,110,none⟩)])]).run T_ w=.ok (.bool false) w:=by kernel_rfl
theorem ai7(w:World):(ReflectliteType.relation "AssignableTo" ReflectliteType.assignableTo #[.agg #[.pointer (some ⟨8,110,none⟩)],.iface 208 (.agg #[.pointer (some ⟨8,110,none⟩)])]).run T_ w=.ok (.bool true) w:=by kernel_rfl
theorem ai8(w:World):(ReflectliteType.relation "AssignableTo" ReflectliteType.assignableTo #[.agg #[.pointer (some ⟨8,43,none⟩)],.iface 208 (.agg #[.pointer (some ⟨8,43,none⟩)])]).run T_ w=.ok (.bool true) w:=by kernel_rfl
theorem ai9(v:Value)(xT:TypeId)(w:World):(Instr.typeAssert (.iface 110 v) xT 213 true).run T_ w=.ok (.tuple #[.nilIface,.bool false]) w:=run_typeAssert_lacksB Tryz.underlying213 (by kernel_rfl) (by kernel_rfl) v xT w
theorem aja(v:Value)(xT:TypeId)(w:World):(Instr.typeAssert (.iface 43 v) xT 213 true).run T_ w=.ok (.tuple #[.nilIface,.bool false]) w:=run_typeAssert_lacksB Tryz.underlying213 (by kernel_rfl) (by kernel_rfl) v xT w
theorem ajX(v:Value)(xT:TypeId)(w:World):(Instr.typeAssert (.iface 110 v) xT 216 true).run T_ w=.ok (.tuple #[.iface 110 v,.bool true]) w:=run_typeAssert_hasB Tryz.underlying216 (by kernel_rfl) v xT w
theorem ahN(v:Value)(xT:TypeId)(w:World):(Instr.typeAssert (.iface 43 v) xT 216 true).run T_ w=.ok (.tuple #[.nilIface,.bool false]) w:=run_typeAssert_lacksB Tryz.underlying216 (by kernel_rfl) (by kernel_rfl) v xT w
theorem ae0(v:Value)(xT:TypeId)(w:World):(Instr.typeAssert (.iface 43 v) xT 218 true).run T_ w=.ok (.tuple #[.nilIface,.bool false]) w:=run_typeAssert_lacksB Tryz.underlying218 (by kernel_rfl) (by kernel_rfl) v xT w
theorem ajY(v:Value)(w:World):(Go.method 485 110 v "Unwrap").run T_ w=.ok (304,v) w:=by kernel_rfl
theorem vo1(t:Addr)(w:World):(ReflectliteValue.unpack (.iface 154 (.pointer (some t)))).run T_ w
  = .ok (.agg #[.pointer (some ⟨8,154,none⟩),.pointer (some ⟨w.heap.size,0,none⟩),.int .u64 150]) (w.alloc (.cells #[.pointer (some t)] 154)):=by kernel_rfl
theorem vo2(t:Addr)(w:World):(ReflectliteValue.unpack (.iface 107 (.pointer (some t)))).run T_ w
  = .ok (.agg #[.pointer (some ⟨8,107,none⟩),.pointer (some ⟨w.heap.size,0,none⟩),.int .u64 150]) (w.alloc (.cells #[.pointer (some t)] 107)):=by kernel_rfl
theorem ty1(a:Addr)(w:World):(ReflectliteValue.methodAny (ReflectliteValue.valueError "reflectlite.Value.Type" 0) (fun t _ _ _=>ReflectliteType.toType t) #[.agg #[.pointer (some ⟨8,154,none⟩),.pointer (some a),.int .u64 150]]).run T_ w
  = .ok (.iface 208 (.agg #[.pointer (some ⟨8,154,none⟩)])) w:=by kernel_rfl
theorem ty2(a:Addr)(w:World):(ReflectliteValue.methodAny (ReflectliteValue.valueError "reflectlite.Value.Type" 0) (fun t _ _ _=>ReflectliteType.toType t) #[.agg #[.pointer (some ⟨8,107,none⟩),.pointer (some a),.int .u64 150]]).run T_ w
  = .ok (.iface 208 (.agg #[.pointer (some ⟨8,107,none⟩)])) w:=by kernel_rfl
theorem abK(h:Value)(w:World):(Go.method 485 208 (.agg #[h]) "Kind").run T_ w=.ok (299,h) w:=by kernel_rfl
theorem agR(w:World):((ReflectliteType.abiMethod fun t=>(fun a:Nat=>Value.int IntKind.u8 (a:Int)) <$> Rtype.kind t) #[.pointer (some ⟨8,154,none⟩)]).run T_ w=.ok (.int .u8 22) w:=by kernel_rfl
theorem ajb(w:World):((ReflectliteType.abiMethod fun t=>(fun a:Nat=>Value.int IntKind.u8 (a:Int)) <$> Rtype.kind t) #[.pointer (some ⟨8,107,none⟩)]).run T_ w=.ok (.int .u8 22) w:=by kernel_rfl
theorem agS(w:World):((ReflectliteType.abiMethod fun t=>(fun a:Nat=>Value.int IntKind.u8 (a:Int)) <$> Rtype.kind t) #[.pointer (some ⟨8,110,none⟩)]).run T_ w=.ok (.int .u8 22) w:=by kernel_rfl
theorem ajc(w:World):((ReflectliteType.abiMethod fun t=>(fun a:Nat=>Value.int IntKind.u8 (a:Int)) <$> Rtype.kind t) #[.pointer (some ⟨8,43,none⟩)]).run T_ w=.ok (.int .u8 2) w:=by kernel_rfl
theorem abL(h:Value)(w:World):(Go.method 485 208 (.agg #[h]) "Elem").run T_ w=.ok (312,.agg #[h]) w:=by kernel_rfl
theorem ahO(h:Value)(w:World):(Go.method 485 208 (.agg #[h]) "Implements").run T_ w=.ok (313,.agg #[h]) w:=by kernel_rfl
theorem agT(w:World):(ReflectliteType.method ReflectliteType.elem #[.agg #[.pointer (some ⟨8,154,none⟩)]]).run T_ w=.ok (.iface 208 (.agg #[.pointer (some ⟨8,110,none⟩)])) w:=by kernel_rfl
theorem ajd(w:World):(ReflectliteType.method ReflectliteType.elem #[.agg #[.pointer (some ⟨8,107,none⟩)]]).run T_ w=.ok (.iface 208 (.agg #[.pointer (some ⟨8,43,none⟩)])) w:=by kernel_rfl
theorem aje(w:World):(ReflectliteType.relation "Implements" ReflectliteType.implements_ #[.agg #[.pointer (some ⟨8,110,none⟩)],.iface 208 (.agg #[.pointer (some ⟨8,40,none⟩)])]).run T_ w=.ok (.bool true) w:=by kernel_rfl
theorem ajZ(w:World):(ReflectliteType.relation "Implements" ReflectliteType.implements_ #[.agg #[.pointer (some ⟨8,43,none⟩)],.iface 208 (.agg #[.pointer (some ⟨8,40,none⟩)])]).run T_ w=.ok (.bool true) w:=by kernel_rfl
theorem voF(e:Addr)(w:World):(ReflectliteValue.unpack (.iface 110 (.pointer (some e)))).run T_ w
  = .ok (.agg #[.pointer (some ⟨8,110,none⟩),.pointer (some ⟨w.heap.size,0,none⟩),.int .u64 150]) (w.alloc (.cells #[.pointer (some e)] 110)):=by kernel_rfl
theorem voE(n:Int)(w:World):(ReflectliteValue.unpack (.iface 43 (.int .i64 n))).run T_ w
  = .ok (.agg #[.pointer (some ⟨8,43,none⟩),.pointer (some ⟨w.heap.size,0,none⟩),.int .u64 130]) (w.alloc (.cells #[.int .i64 n] 43)):=by kernel_rfl
theorem ae1(w:World):(Rtype.elem? 154).run T_ w=.ok (some 110) w:=by kernel_rfl
theorem ae2(w:World):(Rtype.elem? 107).run T_ w=.ok (some 43) w:=by kernel_rfl
theorem mk1(p:Addr)(w:World):(ReflectliteValue.mk 110 p ReflectliteValue.flagAddr).run T_ w=.ok (.agg #[.pointer (some ⟨8,110,none⟩),.pointer (some p),.int .u64 406]) w:=by kernel_rfl
theorem mk2(p:Addr)(w:World):(ReflectliteValue.mk 43 p ReflectliteValue.flagAddr).run T_ w=.ok (.agg #[.pointer (some ⟨8,43,none⟩),.pointer (some p),.int .u64 386]) w:=by kernel_rfl
theorem rlm(z:Sem Value)(f:TypeId->Addr->Nat->Nat->Sem Value)(v:Value) :
  ReflectliteValue.method z f #[v]=(do match <-ReflectliteValue.parts v with|none=>z|some (t,a,b)=>f t a b (b%32)):=rfl
theorem abM(a:Addr)(w:World):(ReflectliteValue.parts (.agg #[.pointer (some ⟨8,154,none⟩),.pointer (some a),.int .u64 150])).run T_ w=.ok (some (154,a,150)) w:=by kernel_rfl
theorem abN(a:Addr)(w:World):(ReflectliteValue.parts (.agg #[.pointer (some ⟨8,107,none⟩),.pointer (some a),.int .u64 150])).run T_ w=.ok (some (107,a,150)) w:=by kernel_rfl
theorem abO(a p:Addr)(W:World)(b:W.cell? a=some (.pointer (some p))) :
  (ReflectliteValue.method (ReflectliteValue.valueError "reflectlite.Value.IsNil" 0) ReflectliteValue.isNil #[.agg #[.pointer (some ⟨8,154,none⟩),.pointer (some a),.int .u64 150]]).run T_ W=.ok (.bool false) W:=by
 rw[rlm];simp only[Sem.run_bind,abM,Result.andThen];simp[ReflectliteValue.isNil,loadVar,isAgg,underlying,Tryz.underlying154,b,Result.andThen]
theorem ahP(a p:Addr)(W:World)(b:W.cell? a=some (.pointer (some p))) :
  (ReflectliteValue.method (ReflectliteValue.valueError "reflectlite.Value.IsNil" 0) ReflectliteValue.isNil #[.agg #[.pointer (some ⟨8,107,none⟩),.pointer (some a),.int .u64 150]]).run T_ W=.ok (.bool false) W:=by
 rw[rlm];simp only[Sem.run_bind,abN,Result.andThen];simp[ReflectliteValue.isNil,loadVar,isAgg,underlying,Tryz.underlying107,b,Result.andThen]
theorem ahQ(a p:Addr)(W:World)(b:W.cell? a=some (.pointer (some p))) :
  (ReflectliteValue.method (ReflectliteValue.valueError "reflectlite.Value.Elem" 0) ReflectliteValue.elem #[.agg #[.pointer (some ⟨8,154,none⟩),.pointer (some a),.int .u64 150]]).run T_ W
    = .ok (.agg #[.pointer (some ⟨8,110,none⟩),.pointer (some p),.int .u64 406]) W:=by
 rw[rlm];simp only[Sem.run_bind,abM,Result.andThen];simp[ReflectliteValue.elem,loadVar,isAgg,underlying,Tryz.underlying154,b,Result.andThen,ae1,mk1]
theorem ahR(a p:Addr)(W:World)(b:W.cell? a=some (.pointer (some p))) :
  (ReflectliteValue.method (ReflectliteValue.valueError "reflectlite.Value.Elem" 0) ReflectliteValue.elem #[.agg #[.pointer (some ⟨8,107,none⟩),.pointer (some a),.int .u64 150]]).run T_ W
    = .ok (.agg #[.pointer (some ⟨8,43,none⟩),.pointer (some p),.int .u64 386]) W:=by
 rw[rlm];simp only[Sem.run_bind,abN,Result.andThen];simp[ReflectliteValue.elem,loadVar,isAgg,underlying,Tryz.underlying107,b,Result.andThen,ae2,mk2]
theorem rls(v x:Value):ReflectliteValue.set #[v,x]=(do
  let (some (c,a,e),some (d,b,_)):=(<-ReflectliteValue.parts v,<-ReflectliteValue.parts x)
   |unsupported (.noEntry "extern/(internal/reflectlite.Value).Set.zeroValue")
  if e/ReflectliteValue.flagAddr%2==0 then unsupported (.noEntry "extern/(internal/reflectlite.Value).Set.unaddressable")
  let val <-loadVar d b
  if <-Rtype.directlyAssignable c d then storeVar c a val
  else if <-Rtype.implements c d then
   if (<-Rtype.kind d)==20 then
    match val with
    |.nilIface=>unsupported (.noEntry "extern/reflectlite: a nil value of one interface type handed on as a value of another")
    |_=>storeVar c a val
   else storeVar c a (.iface d val)
  else panicString ("reflectlite.Set: value of type "++(<-Rtype.spelt d)++ " is not assignable to type "++(<-Rtype.spelt c))
  pure (.tuple #[])):=rfl
theorem ae3(a:Addr)(w:World):(ReflectliteValue.parts (.agg #[.pointer (some ⟨8,110,none⟩),.pointer (some a),.int .u64 406])).run T_ w=.ok (some (110,a,406)) w:=by kernel_rfl
theorem ae4(a:Addr)(w:World):(ReflectliteValue.parts (.agg #[.pointer (some ⟨8,110,none⟩),.pointer (some a),.int .u64 150])).run T_ w=.ok (some (110,a,150)) w:=by kernel_rfl
theorem ae5(a:Addr)(w:World):(ReflectliteValue.parts (.agg #[.pointer (some ⟨8,43,none⟩),.pointer (some a),.int .u64 386])).run T_ w=.ok (some (43,a,386)) w:=by kernel_rfl
theorem ae6(a:Addr)(w:World):(ReflectliteValue.parts (.agg #[.pointer (some ⟨8,43,none⟩),.pointer (some a),.int .u64 130])).run T_ w=.ok (some (43,a,130)) w:=by kernel_rfl
theorem aj0(w:World):(Rtype.directlyAssignable 110 110).run T_ w=.ok true w:=by kernel_rfl
theorem aj1(w:World):(Rtype.directlyAssignable 43 43).run T_ w=.ok true w:=by kernel_rfl
theorem aj2(a b e:Addr)(c:Value)(W:World)(d:W.cell? b=some (.pointer (some e)))(f:W.cell? a=some c)(g:W.frozen? a=false) :
  (ReflectliteValue.set #[.agg #[.pointer (some ⟨8,110,none⟩),.pointer (some a),.int .u64 406],.agg #[.pointer (some ⟨8,110,none⟩),.pointer (some b),.int .u64 150]]).run T_ W
    = .ok (.tuple #[]) (W.setCell a (.pointer (some e))):=by
 rw[rls];simp only[Sem.run_bind,ae3,ae4,Result.andThen];simp[ReflectliteValue.flagAddr,loadVar,isAgg,underlying,Tryz.underlying110,d,Result.andThen,aj0,storeVar,Value.cells,storeCells,Addr.add];rw[run_store T_ W a _ _ (by rfl)];simp[f,g]
theorem aj3(a b:Addr)(n:Int)(c:Value)(W:World)(d:W.cell? b=some (.int .i64 n))(e:W.cell? a=some c)(f:W.frozen? a=false) :
  (ReflectliteValue.set #[.agg #[.pointer (some ⟨8,43,none⟩),.pointer (some a),.int .u64 386],.agg #[.pointer (some ⟨8,43,none⟩),.pointer (some b),.int .u64 130]]).run T_ W
    = .ok (.tuple #[]) (W.setCell a (.int .i64 n)):=by
 rw[rls];simp only[Sem.run_bind,ae5,ae6,Result.andThen];simp[ReflectliteValue.flagAddr,loadVar,isAgg,underlying,Tryz.underlying43,d,Result.andThen,aj1,storeVar,Value.cells,storeCells,Addr.add];rw[run_store T_ W a _ _ (by rfl)];simp[e,f]
def ErrV(W:World)(n:Int):List Int->Value->Prop
 |[],E=>E=.iface 43 (.int .i64 n)
 |p::ps,E=>∃b c,E=.iface 110 (.pointer (some ⟨b,c,none⟩))/\∃d,W.cell? ⟨b,c+1,none⟩=some d/\ErrV W n ps d
theorem ErrV.unique{W:World}{n:Int} : ∀ {ps b:List Int} {E:Value},ErrV W n ps E->ErrV W n b E->ps.length=b.length
 |[],[],_,_,_=>rfl
 |[],_::_,_,h,⟨_,_,a,_⟩=>by have h:_=_:=h;rw[h]at a;simp at a
 |_::_,[],_,⟨_,_,a,_⟩,h=>by have h:_=_:=h;rw[h]at a;simp at a
 |_::ps,_::b,_,⟨l,m,e,o,f,g⟩,⟨i,j,c,p,d,k⟩=>by
  subst e;simp only[Value.iface.injEq,Value.pointer.injEq,E_,Addr.mk.injEq,true_and,and_true]at c;obtain⟨rfl,rfl⟩:=c;rw[f]at d;obtain rfl:=O_ d;simp[ErrV.unique g k]
theorem ErrV.mono{W d:World}{n:Int}(f:∀a v,W.cell? a=some v->d.cell? a=some v):∀ {ps:List Int} {E:Value},ErrV W n ps E->ErrV d n ps E
 |[],_,h=>h
 |_::ps,_,⟨k,u,x,y,B,C⟩=>⟨k,u,x,y,f _ _ B,ErrV.mono f C⟩
open Classical in
noncomputable def Qu(W:World)(n:Int)(E:Value):Nat:=if h:∃l,ErrV W n l E then h.choose.length else 0
theorem OY{W:World}{n:Int}{E:Value}{l:List Int}(h:ErrV W n l E):Qu W n E=l.length:=by
 unfold Qu;have a:∃l,ErrV W n l E:=⟨l,h⟩;rw[dif_pos a];exact ErrV.unique a.choose_spec h
theorem cE{w:World}{o:Obj} : ∀a v,w.cell? a=some v->(w.alloc o).cell? a=some v:=by
 intro a v h
 have b:a.block<w.heap.size:=by
  rcases Nat.lt_or_ge a.block w.heap.size with c|c
  .exact c
  simp[World.cell?,Array.getElem?_eq_none c]at h
 rw[World.cell?_alloc_lt _ _ a b];exact h
theorem xf{w:World}{a:Addr}{v:Value}(h:w.cell? a=some v):a.block<w.heap.size:=by
 rcases Nat.lt_or_ge a.block w.heap.size with b|b
 .exact b
 simp[World.cell?,Array.getElem?_eq_none b]at h
theorem ie{w:World}{o:Obj}{a:Addr}(h:a.block<w.heap.size)(b:w.frozen? a=false):(w.alloc o).frozen? a=false:=by
 rw[World.frozen?_alloc_old _ _ a (Nat.ne_of_lt h)];exact b
theorem unw(a b:Nat)(E:Value)(w:World)(h:w.cell? ⟨a,b+1,none⟩=some E) :
  Calls T_ 304 #[.pointer (some ⟨a,b,none⟩)] w fun e c=>e=.returned E/\c=w:=by
 go_enter Tryz.func304,Tryz.ntmps304;go_wp2;go_ret;exact⟨rfl,rfl⟩
set_option maxHeartbeats 4000000 in
theorem ahS(n:Int)(ps:List Int)(E:Value)(W:World)(a t:Addr)(g:Value)(A:ErrV W n ps E)(B:W.cell? a=some (.pointer (some t)))(u:W.cell? t=some g)(C:W.frozen? t=false) :
  Calls T_ 83 #[E,.iface 107 (.pointer (some t)),.agg #[.pointer (some ⟨8,107,none⟩),.pointer (some a),.int .u64 150],.iface 208 (.agg #[.pointer (some ⟨8,43,none⟩)])] W
   fun e D=>e=.returned (.bool true)/\D=((W.alloc (.cells #[.pointer (some ⟨8,107,none⟩),.pointer (some a),.int .u64 150] 145)).alloc (.cells #[.int .i64 n] 43)).setCell t (.int .i64 n):=by
 have M:=@run_callFunc_extern T_ 129 _ ReflectliteType.typeOf Tryz.func129 (by kernel_rfl) (by kernel_rfl) (by kernel_rfl) (by kernel_rfl);have F:=@run_callFunc_extern T_ 310 _ (ReflectliteType.relation "AssignableTo" ReflectliteType.assignableTo) Tryz.func310 (by kernel_rfl) (by kernel_rfl) (by kernel_rfl) (by kernel_rfl);have N:=@run_callFunc_extern T_ 130 _ (ReflectliteValue.method (ReflectliteValue.valueError "reflectlite.Value.Elem" 0) ReflectliteValue.elem) Tryz.func130 (by kernel_rfl) (by kernel_rfl) (by kernel_rfl) (by kernel_rfl);have O:=@run_callFunc_extern T_ 80 _ (fun i=>ReflectliteValue.unpack (i.getD 0 (.tuple #[]))) Tryz.func80 (by kernel_rfl) (by kernel_rfl) (by kernel_rfl) (by kernel_rfl);have P:=@run_callFunc_extern T_ 131 _ ReflectliteValue.set Tryz.func131 (by kernel_rfl) (by kernel_rfl) (by kernel_rfl) (by kernel_rfl);have U:=agP;have V:=agQ;have X:=ahM;have Y:=ai5;have Z:=ai8;have q6:=ai9;have q7:=ajX;have q8:=ajY;have q9:=voE;have j:=ErrV.mono (cE (o:=.cells #[.pointer (some ⟨8,107,none⟩),.pointer (some a),.int .u64 150] 145)) A;obtain⟨c,b⟩:=B_ (W.alloc (.cells #[.pointer (some ⟨8,107,none⟩),.pointer (some a),.int .u64 150] 145));rw[<-b]at j;have el:=ahR a t c (by rw[b];exact cE _ _ B);have k:t.block<W.heap.size:=xf u
 have st:=aj3 t ⟨c.heap.size,0,none⟩ n g (c.alloc (.cells #[.int .i64 n] 43)) (by rw[World.cell?_alloc_at _ _ _ _ (by simp)];rfl) (by rw[b];exact cE _ _ (cE _ _ u))
  (by rw[b];exact ie (by simp;omega) (ie k C))
 have w:⟨W.heap.size,0,none⟩=(⟨W.heap.size,0,none⟩:Addr):=rfl;have c0:c.cell? ⟨W.heap.size,0,none⟩=some (.pointer (some ⟨8,107,none⟩)):=by rw[b];simp
 have c1:c.cell? ⟨W.heap.size,1,none⟩=some (.pointer (some a)):=by rw[b];simp
 have c2:c.cell? ⟨W.heap.size,2,none⟩=some (.int .u64 150):=by rw[b];simp
 have H:=Lib.hid b;clear b A B u C k w;go_enter Tryz.func83,Tryz.ntmps83;go_wp2;go_loopw [0] (fun x wl=>wl=c/\∃d,ErrV c n d x) (fun x _=>Qu c n x)
 case atStart=>exact⟨H.out.symm,ps,j⟩
 case round=>
  obtain⟨y,d,m⟩:=hrel;subst y;cases d with
  |nil=>
   obtain rfl:_=_:=m;go_wp2;go_ret;exact⟨rfl,by rw[H.out]⟩
  |cons p d=>
   obtain⟨q,s,rfl,I,J,f⟩:=m;have K:=OY f;have L:Qu _ n (.iface 110 (.pointer (some ⟨q,s,none⟩)))=d.length+1:=OY (l:=p::d) ⟨q,s,rfl,I,J,f⟩
   have z:∃T v,I=.iface T v:=by
    cases d with
    |nil=>exact⟨_,_,f⟩
    |cons p d=>obtain⟨q,s,h,_⟩:=f;exact⟨_,_,h⟩
   obtain⟨T,v,rfl⟩:=z;have Q:=Lib.hid K;have R:=Lib.hid L;have S:=Lib.hid f;clear K L f;go_wp2_with (go_at_call 304;refine(unw q s _ _ J).mono ?_;rintro e D ⟨rfl,rfl⟩);go_roundw
   case rel=>exact⟨trivial,d,S.out⟩
   case measure=>rw[Q.out,R.out];omega
theorem ajf(e a t:Addr)(c:Value)(W:World)(h:W.cell? a=some (.pointer (some t)))(g:W.cell? t=some c)(i:W.frozen? t=false) :
  Calls T_ 83 #[.iface 110 (.pointer (some e)),.iface 154 (.pointer (some t)),.agg #[.pointer (some ⟨8,154,none⟩),.pointer (some a),.int .u64 150],.iface 208 (.agg #[.pointer (some ⟨8,110,none⟩)])] W
   fun ev l=>ev=.returned (.bool true)/\l=((W.alloc (.cells #[.pointer (some ⟨8,154,none⟩),.pointer (some a),.int .u64 150] 145)).alloc (.cells #[.pointer (some e)] 110)).setCell t (.pointer (some e)):=by
 have m:=@run_callFunc_extern T_ 129 _ ReflectliteType.typeOf Tryz.func129 (by kernel_rfl) (by kernel_rfl) (by kernel_rfl) (by kernel_rfl);have j:=@run_callFunc_extern T_ 310 _ (ReflectliteType.relation "AssignableTo" ReflectliteType.assignableTo) Tryz.func310 (by kernel_rfl) (by kernel_rfl) (by kernel_rfl) (by kernel_rfl);have n:=@run_callFunc_extern T_ 130 _ (ReflectliteValue.method (ReflectliteValue.valueError "reflectlite.Value.Elem" 0) ReflectliteValue.elem) Tryz.func130 (by kernel_rfl) (by kernel_rfl) (by kernel_rfl) (by kernel_rfl);have o:=@run_callFunc_extern T_ 80 _ (fun d=>ReflectliteValue.unpack (d.getD 0 (.tuple #[]))) Tryz.func80 (by kernel_rfl) (by kernel_rfl) (by kernel_rfl) (by kernel_rfl);have p:=@run_callFunc_extern T_ 131 _ ReflectliteValue.set Tryz.func131 (by kernel_rfl) (by kernel_rfl) (by kernel_rfl) (by kernel_rfl);have u:=agP;have v:=ahM;have w:=ai7;have x:=voF;obtain⟨k,b⟩:=B_ (W.alloc (.cells #[.pointer (some ⟨8,154,none⟩),.pointer (some a),.int .u64 150] 145));have q:=ahQ a t k (by rw[b];exact cE _ _ h);have f:t.block<W.heap.size:=xf g
 have s:=aj2 t ⟨W.heap.size+1,0,none⟩ e c (k.alloc (.cells #[.pointer (some e)] 110)) (by rw[World.cell?_alloc_at _ _ _ _ (by simp[b])];rfl) (by rw[b];exact cE _ _ (cE _ _ g))
  (by rw[b];exact ie (by simp;omega) (ie f i))
 rw[b]at q s;clear b h g i f;go_enter Tryz.func83,Tryz.ntmps83;go_wp2;refine wp_loop_rounds 1 ?_;rw[rounds_succ];go_wp2;go_ret;exact⟨rfl,rfl⟩
theorem abP(n:Int)(a t:Addr)(W:World) :
  Calls T_ 83 #[.iface 43 (.int .i64 n),.iface 154 (.pointer (some t)),.agg #[.pointer (some ⟨8,154,none⟩),.pointer (some a),.int .u64 150],.iface 208 (.agg #[.pointer (some ⟨8,110,none⟩)])] W
   fun ev c=>ev=.returned (.bool false)/\c=W.alloc (.cells #[.pointer (some ⟨8,154,none⟩),.pointer (some a),.int .u64 150] 145):=by
 have d:=@run_callFunc_extern T_ 129 _ ReflectliteType.typeOf Tryz.func129 (by kernel_rfl) (by kernel_rfl) (by kernel_rfl) (by kernel_rfl);have b:=@run_callFunc_extern T_ 310 _ (ReflectliteType.relation "AssignableTo" ReflectliteType.assignableTo) Tryz.func310 (by kernel_rfl) (by kernel_rfl) (by kernel_rfl) (by kernel_rfl);have e:=agQ;have f:=ahM;have g:=ai6;have h:=aja;have i:=ahN;have j:=ae0;go_enter Tryz.func83,Tryz.ntmps83;go_wp2;refine wp_loop_rounds 1 ?_;rw[rounds_succ];go_wp2;go_ret;exact⟨rfl,rfl⟩
end Go.Vs.Y.E
