/- A part of a proof. No conditions. -/
import Derived.Test.YtcjeehebikeghaaGreatDoorRows
import Derived.Test.YtcjeehebikeghaaGreatDoorBDz
import Derived.KernelRfl
import Derived.Stop.Asserts
import Derived.RowKitTokens
import Derived.LoopTactic
import Derived.Lib.Hide
set_option linter.unusedVariables false
set_option linter.unusedSimpArgs false
set_option maxRecDepth 1000000
set_option pp.deepTerms true
namespace Go.Vs.YtcjeehebikeghaaGreatDoor
open Go.Proofs Go.Proofs.YtcjeehebikeghaaGreatDoor
noncomputable abbrev _root_.Go.Vs.T_:=Tryz.prog
theorem hm:T_.follows .mixedOrders=true:=by kernel_rfl
def B6:List Int:=(List.range 256).map fun c=>if c<128 then 240 else if c<194 then 241 else if c<224 then 2 else if c=224 then 19 else if c<237 then 3 else if c=237 then 35 else if c<240 then 3 else if c=240 then 52 else if c<244 then 4 else if c=244 then 68 else 241
def Sq:List Int:=[128,191,160,191,128,159,144,191,128,143,0,0,0,0,0,0,0,0,0,0,0,0,0,0,0,0,0,0,0,0,0,0]
def XC:List Int:=(List.range 20).map fun i=>((10 ^ i:Nat):Int)
def G:List (Nat×List IV):=[(0,[.handle 271 8 37]),(3,B6.map (.int .u8 ·)),(4,Sq.map (.int .u8 ·)),(2,XC.map (.int .u64 ·))]
end Go.Vs.YtcjeehebikeghaaGreatDoor
namespace Go.Vs.YtcjeehebikeghaaGreatDoor.E
open Go.Proofs Go.Proofs.YtcjeehebikeghaaGreatDoor Go.RowKit Go.Extern.Stop Go.Stop Go.Extern
theorem abT(v:Value)(w:World):(ReflectliteType.typeOf #[.iface 156 v]).run T_ w=.ok (.iface 271 (.agg #[.pointer (some ⟨8,156,none⟩)])) w:=by kernel_rfl
theorem abU(v:Value)(w:World):(ReflectliteType.typeOf #[.iface 54 v]).run T_ w=.ok (.iface 271 (.agg #[.pointer (some ⟨8,54,none⟩)])) w:=by kernel_rfl
theorem acL(h:Value)(w:World):(Go.method 591 271 (.agg #[h]) "AssignableTo").run T_ w=.ok (416,.agg #[h]) w:=by kernel_rfl
theorem adW(w:World):(ReflectliteType.relation "AssignableTo" ReflectliteType.assignableTo #[.agg #[.pointer (some ⟨8,156,none⟩)],.iface 271 (.agg #[.pointer (some ⟨8,54,none⟩)])]).run T_ w=.ok (.bool false) w:=by kernel_rfl
theorem adX(w:World):(ReflectliteType.relation "AssignableTo" ReflectliteType.assignableTo #[.agg #[.pointer (some ⟨8,54,none⟩)],.iface 271 (.agg #[.pointer (some ⟨8,156,none⟩)])]).run T_ w=.ok (.bool false) w:=by kernel_rfl
theorem adY(w:World):(ReflectliteType.relation "AssignableTo" ReflectliteType.assignableTo #[.agg #[.pointer (some ⟨8,156,none⟩)],.iface 271 (.agg #[.pointer (some ⟨8,156,none⟩)])]).run T_ w=.ok (.bool true) w:=by kernel_rfl
theorem adZ(w:World):(ReflectliteType.relation "AssignableTo" ReflectliteType.assignableTo #[.agg #[.pointer (some ⟨8,54,none⟩)],.iface 271 (.agg #[.pointer (some ⟨8,54,none⟩)])]).run T_ w=.ok (.bool true) w:=by kernel_rfl
theorem ad0(v:Value)(xT:TypeId)(w:World):(Instr.typeAssert (.iface 156 v) xT 276 true).run T_ w=.ok (.tuple #[.nilIface,.bool false]) w:=run_typeAssert_lacksB Tryz.underlying276 (by kernel_rfl) (by kernel_rfl) v xT w
theorem ad1(v:Value)(xT:TypeId)(w:World):(Instr.typeAssert (.iface 54 v) xT 276 true).run T_ w=.ok (.tuple #[.nilIface,.bool false]) w:=run_typeAssert_lacksB Tryz.underlying276 (by kernel_rfl) (by kernel_rfl) v xT w
theorem aeN(v:Value)(xT:TypeId)(w:World):(Instr.typeAssert (.iface 156 v) xT 279 true).run T_ w=.ok (.tuple #[.iface 156 v,.bool true]) w:=run_typeAssert_hasB Tryz.underlying279 (by kernel_rfl) v xT w
theorem acM(v:Value)(xT:TypeId)(w:World):(Instr.typeAssert (.iface 54 v) xT 279 true).run T_ w=.ok (.tuple #[.nilIface,.bool false]) w:=run_typeAssert_lacksB Tryz.underlying279 (by kernel_rfl) (by kernel_rfl) v xT w
theorem aar(v:Value)(xT:TypeId)(w:World):(Instr.typeAssert (.iface 54 v) xT 281 true).run T_ w=.ok (.tuple #[.nilIface,.bool false]) w:=run_typeAssert_lacksB Tryz.underlying281 (by kernel_rfl) (by kernel_rfl) v xT w
theorem aeO(v:Value)(w:World):(Go.method 591 156 v "Unwrap").run T_ w=.ok (410,v) w:=by kernel_rfl
theorem vo1(t:Addr)(w:World):(ReflectliteValue.unpack (.iface 199 (.pointer (some t)))).run T_ w
  = .ok (.agg #[.pointer (some ⟨8,199,none⟩),.pointer (some ⟨w.heap.size,0,none⟩),.int .u64 150]) (w.alloc (.cells #[.pointer (some t)] 199)):=by kernel_rfl
theorem vo2(t:Addr)(w:World):(ReflectliteValue.unpack (.iface 112 (.pointer (some t)))).run T_ w
  = .ok (.agg #[.pointer (some ⟨8,112,none⟩),.pointer (some ⟨w.heap.size,0,none⟩),.int .u64 150]) (w.alloc (.cells #[.pointer (some t)] 112)):=by kernel_rfl
theorem ty1(a:Addr)(w:World):(ReflectliteValue.methodAny (ReflectliteValue.valueError "reflectlite.Value.Type" 0) (fun t _ _ _=>ReflectliteType.toType t) #[.agg #[.pointer (some ⟨8,199,none⟩),.pointer (some a),.int .u64 150]]).run T_ w
  = .ok (.iface 271 (.agg #[.pointer (some ⟨8,199,none⟩)])) w:=by kernel_rfl
theorem ty2(a:Addr)(w:World):(ReflectliteValue.methodAny (ReflectliteValue.valueError "reflectlite.Value.Type" 0) (fun t _ _ _=>ReflectliteType.toType t) #[.agg #[.pointer (some ⟨8,112,none⟩),.pointer (some a),.int .u64 150]]).run T_ w
  = .ok (.iface 271 (.agg #[.pointer (some ⟨8,112,none⟩)])) w:=by kernel_rfl
theorem XD(h:Value)(w:World):(Go.method 591 271 (.agg #[h]) "Kind").run T_ w=.ok (405,h) w:=by kernel_rfl
theorem abV(w:World):((ReflectliteType.abiMethod fun t=>(fun a:Nat=>Value.int IntKind.u8 (a:Int)) <$> Rtype.kind t) #[.pointer (some ⟨8,199,none⟩)]).run T_ w=.ok (.int .u8 22) w:=by kernel_rfl
theorem ad2(w:World):((ReflectliteType.abiMethod fun t=>(fun a:Nat=>Value.int IntKind.u8 (a:Int)) <$> Rtype.kind t) #[.pointer (some ⟨8,112,none⟩)]).run T_ w=.ok (.int .u8 22) w:=by kernel_rfl
theorem abW(w:World):((ReflectliteType.abiMethod fun t=>(fun a:Nat=>Value.int IntKind.u8 (a:Int)) <$> Rtype.kind t) #[.pointer (some ⟨8,156,none⟩)]).run T_ w=.ok (.int .u8 22) w:=by kernel_rfl
theorem ad3(w:World):((ReflectliteType.abiMethod fun t=>(fun a:Nat=>Value.int IntKind.u8 (a:Int)) <$> Rtype.kind t) #[.pointer (some ⟨8,54,none⟩)]).run T_ w=.ok (.int .u8 2) w:=by kernel_rfl
theorem XE(h:Value)(w:World):(Go.method 591 271 (.agg #[h]) "Elem").run T_ w=.ok (418,.agg #[h]) w:=by kernel_rfl
theorem acN(h:Value)(w:World):(Go.method 591 271 (.agg #[h]) "Implements").run T_ w=.ok (419,.agg #[h]) w:=by kernel_rfl
theorem abX(w:World):(ReflectliteType.method ReflectliteType.elem #[.agg #[.pointer (some ⟨8,199,none⟩)]]).run T_ w=.ok (.iface 271 (.agg #[.pointer (some ⟨8,156,none⟩)])) w:=by kernel_rfl
theorem ad4(w:World):(ReflectliteType.method ReflectliteType.elem #[.agg #[.pointer (some ⟨8,112,none⟩)]]).run T_ w=.ok (.iface 271 (.agg #[.pointer (some ⟨8,54,none⟩)])) w:=by kernel_rfl
theorem ad5(w:World):(ReflectliteType.relation "Implements" ReflectliteType.implements_ #[.agg #[.pointer (some ⟨8,156,none⟩)],.iface 271 (.agg #[.pointer (some ⟨8,37,none⟩)])]).run T_ w=.ok (.bool true) w:=by kernel_rfl
theorem aeP(w:World):(ReflectliteType.relation "Implements" ReflectliteType.implements_ #[.agg #[.pointer (some ⟨8,54,none⟩)],.iface 271 (.agg #[.pointer (some ⟨8,37,none⟩)])]).run T_ w=.ok (.bool true) w:=by kernel_rfl
theorem voF(e:Addr)(w:World):(ReflectliteValue.unpack (.iface 156 (.pointer (some e)))).run T_ w
  = .ok (.agg #[.pointer (some ⟨8,156,none⟩),.pointer (some ⟨w.heap.size,0,none⟩),.int .u64 150]) (w.alloc (.cells #[.pointer (some e)] 156)):=by kernel_rfl
theorem voE(n:Int)(w:World):(ReflectliteValue.unpack (.iface 54 (.int .i64 n))).run T_ w
  = .ok (.agg #[.pointer (some ⟨8,54,none⟩),.pointer (some ⟨w.heap.size,0,none⟩),.int .u64 130]) (w.alloc (.cells #[.int .i64 n] 54)):=by kernel_rfl
theorem aas(w:World):(Rtype.elem? 199).run T_ w=.ok (some 156) w:=by kernel_rfl
theorem aat(w:World):(Rtype.elem? 112).run T_ w=.ok (some 54) w:=by kernel_rfl
theorem mk1(p:Addr)(w:World):(ReflectliteValue.mk 156 p ReflectliteValue.flagAddr).run T_ w=.ok (.agg #[.pointer (some ⟨8,156,none⟩),.pointer (some p),.int .u64 406]) w:=by kernel_rfl
theorem mk2(p:Addr)(w:World):(ReflectliteValue.mk 54 p ReflectliteValue.flagAddr).run T_ w=.ok (.agg #[.pointer (some ⟨8,54,none⟩),.pointer (some p),.int .u64 386]) w:=by kernel_rfl
theorem rlm(z:Sem Value)(f:TypeId->Addr->Nat->Nat->Sem Value)(v:Value) :
  ReflectliteValue.method z f #[v]=(do match <-ReflectliteValue.parts v with|none=>z|some (t,a,b)=>f t a b (b%32)):=rfl
theorem XF(a:Addr)(w:World):(ReflectliteValue.parts (.agg #[.pointer (some ⟨8,199,none⟩),.pointer (some a),.int .u64 150])).run T_ w=.ok (some (199,a,150)) w:=by kernel_rfl
theorem XG(a:Addr)(w:World):(ReflectliteValue.parts (.agg #[.pointer (some ⟨8,112,none⟩),.pointer (some a),.int .u64 150])).run T_ w=.ok (some (112,a,150)) w:=by kernel_rfl
theorem XH(a p:Addr)(W:World)(b:W.cell? a=some (.pointer (some p))) :
  (ReflectliteValue.method (ReflectliteValue.valueError "reflectlite.Value.IsNil" 0) ReflectliteValue.isNil #[.agg #[.pointer (some ⟨8,199,none⟩),.pointer (some a),.int .u64 150]]).run T_ W=.ok (.bool false) W:=by
 rw[rlm];simp only[Sem.run_bind,XF,Result.andThen];simp[ReflectliteValue.isNil,loadVar,isAgg,underlying,Tryz.underlying199,b,Result.andThen]
theorem acO(a p:Addr)(W:World)(b:W.cell? a=some (.pointer (some p))) :
  (ReflectliteValue.method (ReflectliteValue.valueError "reflectlite.Value.IsNil" 0) ReflectliteValue.isNil #[.agg #[.pointer (some ⟨8,112,none⟩),.pointer (some a),.int .u64 150]]).run T_ W=.ok (.bool false) W:=by
 rw[rlm];simp only[Sem.run_bind,XG,Result.andThen];simp[ReflectliteValue.isNil,loadVar,isAgg,underlying,Tryz.underlying112,b,Result.andThen]
theorem acP(a p:Addr)(W:World)(b:W.cell? a=some (.pointer (some p))) :
  (ReflectliteValue.method (ReflectliteValue.valueError "reflectlite.Value.Elem" 0) ReflectliteValue.elem #[.agg #[.pointer (some ⟨8,199,none⟩),.pointer (some a),.int .u64 150]]).run T_ W
    = .ok (.agg #[.pointer (some ⟨8,156,none⟩),.pointer (some p),.int .u64 406]) W:=by
 rw[rlm];simp only[Sem.run_bind,XF,Result.andThen];simp[ReflectliteValue.elem,loadVar,isAgg,underlying,Tryz.underlying199,b,Result.andThen,aas,mk1]
theorem acQ(a p:Addr)(W:World)(b:W.cell? a=some (.pointer (some p))) :
  (ReflectliteValue.method (ReflectliteValue.valueError "reflectlite.Value.Elem" 0) ReflectliteValue.elem #[.agg #[.pointer (some ⟨8,112,none⟩),.pointer (some a),.int .u64 150]]).run T_ W
    = .ok (.agg #[.pointer (some ⟨8,54,none⟩),.pointer (some p),.int .u64 386]) W:=by
 rw[rlm];simp only[Sem.run_bind,XG,Result.andThen];simp[ReflectliteValue.elem,loadVar,isAgg,underlying,Tryz.underlying112,b,Result.andThen,aat,mk2]
theorem rls(v x:Value):ReflectliteValue.set #[v,x]=(do
  let (some (c,a,e),some (d,b,_)):=(<-ReflectliteValue.parts v,<-ReflectliteValue.parts x)
   |unsupported (.noEntry "extern/(internal/reflectlite.Value).Set.zeroValue")
  if e/ReflectliteValue.flagAddr%2==0 then unsupported (.noEntry "extern/(internal/reflectlite.Value).Set.unaddressable")
  let val <-loadVar d b
  if <-Rtype.directlyAssignable c d then storeVar c a val
  else if <-Rtype.implements c d then
   if (<-Rtype.kind d)==20 then
    match val with
    |.nilIface=>unsupported (.noEntry "extern/reflectlite: a nil value of one interface type handed on as a value of another")
    |_=>storeVar c a val
   else storeVar c a (.iface d val)
  else panicString ("reflectlite.Set: value of type "++(<-Rtype.spelt d)++ " is not assignable to type "++(<-Rtype.spelt c))
  pure (.tuple #[])):=rfl
theorem aau(a:Addr)(w:World):(ReflectliteValue.parts (.agg #[.pointer (some ⟨8,156,none⟩),.pointer (some a),.int .u64 406])).run T_ w=.ok (some (156,a,406)) w:=by kernel_rfl
theorem aav(a:Addr)(w:World):(ReflectliteValue.parts (.agg #[.pointer (some ⟨8,156,none⟩),.pointer (some a),.int .u64 150])).run T_ w=.ok (some (156,a,150)) w:=by kernel_rfl
theorem aaw(a:Addr)(w:World):(ReflectliteValue.parts (.agg #[.pointer (some ⟨8,54,none⟩),.pointer (some a),.int .u64 386])).run T_ w=.ok (some (54,a,386)) w:=by kernel_rfl
theorem aax(a:Addr)(w:World):(ReflectliteValue.parts (.agg #[.pointer (some ⟨8,54,none⟩),.pointer (some a),.int .u64 130])).run T_ w=.ok (some (54,a,130)) w:=by kernel_rfl
theorem aeQ(w:World):(Rtype.directlyAssignable 156 156).run T_ w=.ok true w:=by kernel_rfl
theorem aeR(w:World):(Rtype.directlyAssignable 54 54).run T_ w=.ok true w:=by kernel_rfl
theorem aeS(a b e:Addr)(c:Value)(W:World)(d:W.cell? b=some (.pointer (some e)))(f:W.cell? a=some c)(g:W.frozen? a=false) :
  (ReflectliteValue.set #[.agg #[.pointer (some ⟨8,156,none⟩),.pointer (some a),.int .u64 406],.agg #[.pointer (some ⟨8,156,none⟩),.pointer (some b),.int .u64 150]]).run T_ W
    = .ok (.tuple #[]) (W.setCell a (.pointer (some e))):=by
 rw[rls];simp only[Sem.run_bind,aau,aav,Result.andThen];simp[ReflectliteValue.flagAddr,loadVar,isAgg,underlying,Tryz.underlying156,d,Result.andThen,aeQ,storeVar,Value.cells,storeCells,Addr.add];rw[run_store T_ W a _ _ (by rfl)];simp[f,g]
theorem aeT(a b:Addr)(n:Int)(c:Value)(W:World)(d:W.cell? b=some (.int .i64 n))(e:W.cell? a=some c)(f:W.frozen? a=false) :
  (ReflectliteValue.set #[.agg #[.pointer (some ⟨8,54,none⟩),.pointer (some a),.int .u64 386],.agg #[.pointer (some ⟨8,54,none⟩),.pointer (some b),.int .u64 130]]).run T_ W
    = .ok (.tuple #[]) (W.setCell a (.int .i64 n)):=by
 rw[rls];simp only[Sem.run_bind,aaw,aax,Result.andThen];simp[ReflectliteValue.flagAddr,loadVar,isAgg,underlying,Tryz.underlying54,d,Result.andThen,aeR,storeVar,Value.cells,storeCells,Addr.add];rw[run_store T_ W a _ _ (by rfl)];simp[e,f]
def ErrV(W:World)(n:Int):List Int->Value->Prop
 |[],E=>E=.iface 54 (.int .i64 n)
 |p::ps,E=>∃b c,E=.iface 156 (.pointer (some ⟨b,c,none⟩))/\∃d,W.cell? ⟨b,c+1,none⟩=some d/\ErrV W n ps d
theorem ErrV.unique{W:World}{n:Int} : ∀ {ps b:List Int} {E:Value},ErrV W n ps E->ErrV W n b E->ps.length=b.length
 |[],[],_,_,_=>rfl
 |[],_::_,_,h,⟨_,_,a,_⟩=>by have h:_=_:=h;rw[h]at a;simp at a
 |_::_,[],_,⟨_,_,a,_⟩,h=>by have h:_=_:=h;rw[h]at a;simp at a
 |_::ps,_::b,_,⟨l,m,e,o,f,g⟩,⟨i,j,c,p,d,k⟩=>by
  subst e;simp only[Value.iface.injEq,Value.pointer.injEq,E_,Addr.mk.injEq,true_and,and_true]at c;obtain⟨rfl,rfl⟩:=c;rw[f]at d;obtain rfl:=O_ d;simp[ErrV.unique g k]
theorem ErrV.mono{W c:World}{n:Int}(d:∀a v,W.cell? a=some v->c.cell? a=some v):∀ {ps:List Int} {E:Value},ErrV W n ps E->ErrV c n ps E
 |[],_,h=>h
 |_::ps,_,⟨f,k,u,x,y,B⟩=>⟨f,k,u,x,d _ _ y,ErrV.mono d B⟩
open Classical in
noncomputable def Nx(W:World)(n:Int)(E:Value):Nat:=if h:∃l,ErrV W n l E then h.choose.length else 0
theorem Mq{W:World}{n:Int}{E:Value}{l:List Int}(h:ErrV W n l E):Nx W n E=l.length:=by
 unfold Nx;have a:∃l,ErrV W n l E:=⟨l,h⟩;rw[dif_pos a];exact ErrV.unique a.choose_spec h
theorem cR{w:World}{o:Obj} : ∀a v,w.cell? a=some v->(w.alloc o).cell? a=some v:=by
 intro a v h
 have b:a.block<w.heap.size:=by
  rcases Nat.lt_or_ge a.block w.heap.size with c|c
  ·exact c
  ·simp[World.cell?,Array.getElem?_eq_none c]at h
 rw[World.cell?_alloc_lt _ _ a b];exact h
theorem ui{w:World}{a:Addr}{v:Value}(h:w.cell? a=some v):a.block<w.heap.size:=by
 rcases Nat.lt_or_ge a.block w.heap.size with b|b
 ·exact b
 ·simp[World.cell?,Array.getElem?_eq_none b]at h
theorem gb{w:World}{o:Obj}{a:Addr}(h:a.block<w.heap.size)(b:w.frozen? a=false):(w.alloc o).frozen? a=false:=by
 rw[World.frozen?_alloc_old _ _ a (Nat.ne_of_lt h)];exact b
theorem unw(a b:Nat)(E:Value)(w:World)(h:w.cell? ⟨a,b+1,none⟩=some E) :
  Calls T_ 410 #[.pointer (some ⟨a,b,none⟩)] w fun e c=>e=.returned E/\c=w:=by
 go_enter Tryz.func410,Tryz.ntmps410;go_wp2;go_ret;exact⟨rfl,rfl⟩
set_option maxHeartbeats 4000000 in
theorem acR(n:Int)(ps:List Int)(E:Value)(W:World)(a t:Addr)(g:Value)(A:ErrV W n ps E)(B:W.cell? a=some (.pointer (some t)))(u:W.cell? t=some g)(C:W.frozen? t=false) :
  Calls T_ 119 #[E,.iface 112 (.pointer (some t)),.agg #[.pointer (some ⟨8,112,none⟩),.pointer (some a),.int .u64 150],.iface 271 (.agg #[.pointer (some ⟨8,54,none⟩)])] W
   fun e D=>e=.returned (.bool true)/\D=((W.alloc (.cells #[.pointer (some ⟨8,112,none⟩),.pointer (some a),.int .u64 150] 190)).alloc (.cells #[.int .i64 n] 54)).setCell t (.int .i64 n):=by
 have M:=@run_callFunc_extern T_ 175 _ ReflectliteType.typeOf Tryz.func175 (by kernel_rfl) (by kernel_rfl) (by kernel_rfl) (by kernel_rfl);have F:=@run_callFunc_extern T_ 416 _ (ReflectliteType.relation "AssignableTo" ReflectliteType.assignableTo) Tryz.func416 (by kernel_rfl) (by kernel_rfl) (by kernel_rfl) (by kernel_rfl);have N:=@run_callFunc_extern T_ 176 _ (ReflectliteValue.method (ReflectliteValue.valueError "reflectlite.Value.Elem" 0) ReflectliteValue.elem) Tryz.func176 (by kernel_rfl) (by kernel_rfl) (by kernel_rfl) (by kernel_rfl);have O:=@run_callFunc_extern T_ 116 _ (fun i=>ReflectliteValue.unpack (i.getD 0 (.tuple #[]))) Tryz.func116 (by kernel_rfl) (by kernel_rfl) (by kernel_rfl) (by kernel_rfl);have P:=@run_callFunc_extern T_ 177 _ ReflectliteValue.set Tryz.func177 (by kernel_rfl) (by kernel_rfl) (by kernel_rfl) (by kernel_rfl);have U:=abT;have V:=abU;have X:=acL;have Y:=adW;have Z:=adZ;have q6:=ad0;have q7:=aeN;have q8:=aeO;have q9:=voE;have j:=ErrV.mono (cR (o:=.cells #[.pointer (some ⟨8,112,none⟩),.pointer (some a),.int .u64 150] 190)) A;obtain⟨c,b⟩:∃c,c=W.alloc (.cells #[.pointer (some ⟨8,112,none⟩),.pointer (some a),.int .u64 150] 190):=⟨_,rfl⟩;rw[<-b]at j;have el:=acQ a t c (by rw[b];exact cR _ _ B);have k:t.block<W.heap.size:=ui u
 have st:=aeT t ⟨c.heap.size,0,none⟩ n g (c.alloc (.cells #[.int .i64 n] 54)) (by rw[World.cell?_alloc_at _ _ _ _ (by simp)];rfl) (by rw[b];exact cR _ _ (cR _ _ u))
  (by rw[b];exact gb (by simp;omega) (gb k C))
 have w:⟨W.heap.size,0,none⟩=(⟨W.heap.size,0,none⟩:Addr):=rfl;have c0:c.cell? ⟨W.heap.size,0,none⟩=some (.pointer (some ⟨8,112,none⟩)):=by rw[b];simp
 have c1:c.cell? ⟨W.heap.size,1,none⟩=some (.pointer (some a)):=by rw[b];simp
 have c2:c.cell? ⟨W.heap.size,2,none⟩=some (.int .u64 150):=by rw[b];simp
 have H:=Lib.hid b;clear b A B u C k w;go_enter Tryz.func119,Tryz.ntmps119;go_wp2;go_loopw [0] (fun x wl=>wl=c/\∃d,ErrV c n d x) (fun x _=>Nx c n x)
 case atStart=>exact⟨H.out.symm,ps,j⟩
 case round=>
  obtain⟨y,d,m⟩:=hrel;subst y;cases d with
  |nil=>
   obtain rfl:_=_:=m;go_wp2;go_ret;exact⟨rfl,by rw[H.out]⟩
  |cons p d=>
   obtain⟨q,s,rfl,I,J,f⟩:=m;have K:=Mq f;have L:Nx _ n (.iface 156 (.pointer (some ⟨q,s,none⟩)))=d.length+1:=Mq (l:=p::d) ⟨q,s,rfl,I,J,f⟩
   have z:∃T v,I=.iface T v:=by
    cases d with
    |nil=>exact⟨_,_,f⟩
    |cons p d=>obtain⟨q,s,h,_⟩:=f;exact⟨_,_,h⟩
   obtain⟨T,v,rfl⟩:=z;have Q:=Lib.hid K;have R:=Lib.hid L;have S:=Lib.hid f;clear K L f;go_wp2_with (go_at_call 410;refine(unw q s _ _ J).mono ?_;rintro e D ⟨rfl,rfl⟩);go_roundw
   case rel=>exact⟨trivial,d,S.out⟩
   case measure=>rw[Q.out,R.out];omega
theorem ad6(e a t:Addr)(c:Value)(W:World)(i:W.cell? a=some (.pointer (some t)))(h:W.cell? t=some c)(j:W.frozen? t=false) :
  Calls T_ 119 #[.iface 156 (.pointer (some e)),.iface 199 (.pointer (some t)),.agg #[.pointer (some ⟨8,199,none⟩),.pointer (some a),.int .u64 150],.iface 271 (.agg #[.pointer (some ⟨8,156,none⟩)])] W
   fun ev l=>ev=.returned (.bool true)/\l=((W.alloc (.cells #[.pointer (some ⟨8,199,none⟩),.pointer (some a),.int .u64 150] 190)).alloc (.cells #[.pointer (some e)] 156)).setCell t (.pointer (some e)):=by
 have m:=@run_callFunc_extern T_ 175 _ ReflectliteType.typeOf Tryz.func175 (by kernel_rfl) (by kernel_rfl) (by kernel_rfl) (by kernel_rfl);have k:=@run_callFunc_extern T_ 416 _ (ReflectliteType.relation "AssignableTo" ReflectliteType.assignableTo) Tryz.func416 (by kernel_rfl) (by kernel_rfl) (by kernel_rfl) (by kernel_rfl);have n:=@run_callFunc_extern T_ 176 _ (ReflectliteValue.method (ReflectliteValue.valueError "reflectlite.Value.Elem" 0) ReflectliteValue.elem) Tryz.func176 (by kernel_rfl) (by kernel_rfl) (by kernel_rfl) (by kernel_rfl);have o:=@run_callFunc_extern T_ 116 _ (fun d=>ReflectliteValue.unpack (d.getD 0 (.tuple #[]))) Tryz.func116 (by kernel_rfl) (by kernel_rfl) (by kernel_rfl) (by kernel_rfl);have p:=@run_callFunc_extern T_ 177 _ ReflectliteValue.set Tryz.func177 (by kernel_rfl) (by kernel_rfl) (by kernel_rfl) (by kernel_rfl);have u:=abT;have v:=acL;have w:=adY;have x:=voF;obtain⟨g,b⟩:∃g,g=W.alloc (.cells #[.pointer (some ⟨8,199,none⟩),.pointer (some a),.int .u64 150] 190):=⟨_,rfl⟩;have q:=acP a t g (by rw[b];exact cR _ _ i);have f:t.block<W.heap.size:=ui h
 have s:=aeS t ⟨W.heap.size+1,0,none⟩ e c (g.alloc (.cells #[.pointer (some e)] 156)) (by rw[World.cell?_alloc_at _ _ _ _ (by simp[b])];rfl) (by rw[b];exact cR _ _ (cR _ _ h))
  (by rw[b];exact gb (by simp;omega) (gb f j))
 rw[b]at q s;clear b i h j f;go_enter Tryz.func119,Tryz.ntmps119;go_wp2;refine wp_loop_rounds 1 ?_;rw[rounds_succ];go_wp2;go_ret;exact⟨rfl,rfl⟩
theorem XI(n:Int)(a t:Addr)(W:World) :
  Calls T_ 119 #[.iface 54 (.int .i64 n),.iface 199 (.pointer (some t)),.agg #[.pointer (some ⟨8,199,none⟩),.pointer (some a),.int .u64 150],.iface 271 (.agg #[.pointer (some ⟨8,156,none⟩)])] W
   fun ev c=>ev=.returned (.bool false)/\c=W.alloc (.cells #[.pointer (some ⟨8,199,none⟩),.pointer (some a),.int .u64 150] 190):=by
 have d:=@run_callFunc_extern T_ 175 _ ReflectliteType.typeOf Tryz.func175 (by kernel_rfl) (by kernel_rfl) (by kernel_rfl) (by kernel_rfl);have b:=@run_callFunc_extern T_ 416 _ (ReflectliteType.relation "AssignableTo" ReflectliteType.assignableTo) Tryz.func416 (by kernel_rfl) (by kernel_rfl) (by kernel_rfl) (by kernel_rfl);have e:=abU;have f:=acL;have g:=adX;have h:=ad1;have i:=acM;have j:=aar;go_enter Tryz.func119,Tryz.ntmps119;go_wp2;refine wp_loop_rounds 1 ?_;rw[rounds_succ];go_wp2;go_ret;exact⟨rfl,rfl⟩
end Go.Vs.YtcjeehebikeghaaGreatDoor.E
