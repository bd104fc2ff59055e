/- Value semantics, part 4: the small typed code, how the model's code becomes it, and its evaluator. No conditions. -/
import Derived.Test.YtjfleklkloohgaaVs3
set_option linter.unusedVariables false
set_option linter.unusedSimpArgs false
namespace Go.Vs

inductive Opd where
  | tmp (t : Nat)
  | const (v : SV)
  | func (f : Nat)
  | glob (g : Nat)
  deriving Inhabited, Repr

inductive LK where
  | b | i | s
  deriving Inhabited, Repr, DecidableEq

inductive VOp where
  | move (x : Opd)
  | pick (c a b : Opd)
  | alloc (zero : List SV)
  | box (x : Opd)
  | build (zero : List SV) (parts : List (Nat × Nat × Opd))
  | buildSlice (s n : Nat) (zero : List SV) (parts : List (Nat × Nat × Opd))
  | load (agg : Option Nat) (x : Opd)
  | store (n : Nat) (a x : Opd)
  | nilCheck (x : Opd)
  | bin (op : BinOp) (x y : Opd)
  | eqB (neg : Bool) (x y : Opd)
  | eqN (neg : Bool) (x : Opd)
  | eqP (neg : Bool) (x : Opd)
  | eqS (neg : Bool) (x : Opd)
  | eqA (neg : Bool) (ks : List LK) (x y : Opd)
  | un (op : UnOp) (x : Opd)
  | convI (k : IntKind) (x : Opd)
  | convS (x : Opd)
  | mkIface (t : Nat) (x : Opd)
  | mkFunc (f : Nat) (caps : List Opd)
  | mkSlice (s bytes : Nat) (zero : List SV) (len cap : Opd)
  | subS (x : Opd) (lo hi : Option Opd)
  | subV (s : Nat) (x : Opd) (lo hi mx : Option Opd)
  | fieldAddr (off : Nat) (x : Opd)
  | field (off : Nat) (agg : Option Nat) (x : Opd)
  | indexAddr (s : Nat) (x i : Opd)
  | indexArr (len s : Nat) (x i : Opd)
  | indexS (x i : Opd)
  | indexA (len s : Nat) (agg : Option Nat) (x i : Opd)
  | extract (x : Opd) (i : Nat)
  | lenS (x : Opd)
  | lenV (x : Opd)
  | lenC (n : Nat) (x : Opd)
  | maxI (x y : Opd)
  | minI (x y : Opd)
  | append (s bytes : Nat) (x y : Opd)
  | clear (zero : List SV) (x : Opd)
  | copy (s : Nat) (x y : Opd)
  | call (f : Nat) (args : List Opd)
  | callV (f : Opd) (args : List Opd)
  | callM (f : Nat) (args : List Opd)
  | callMV (f : Opd) (args : List Opd)
  deriving Inhabited, Repr

structure VOper where
  dst : Option Nat
  op : VOp
  guard : Option (Nat × Bool)
  deriving Inhabited, Repr

inductive RMode where
  | text
  | calm
  | drawn (pairs makes : List (Nat × Nat))
  deriving Inhabited, Repr

inductive VCode where
  | skip
  | region (ops : List VOper) (mode : RMode) (dead : List Nat)
  | seq (a b : VCode)
  | cond (c : Opd) (thn els : VCode)
  | block (id : Nat) (body : VCode)
  | loop (body : VCode)
  | exit (id : Nat)
  | scope (body : VCode)
  | label (l : Nat)
  | goto (l : Nat)
  | ret
  deriving Inhabited, Repr

/-- The same, where it is not told that objects turn. -/
def VOp.strip : VOp → VOp
  | .callM f args => .call f args
  | .callMV f args => .callV f args
  | op => op
def VOper.strip (o : VOper) : VOper := { o with op := o.op.strip }
def stripOps : List VOper → List VOper
  | [] => []
  | o :: r => o.strip :: stripOps r
/-- The same code, dead slots not named. -/
def VCode.strip : VCode → VCode
  | .region ops pairs _ => .region (stripOps ops) pairs []
  | .seq a b => .seq a.strip b.strip
  | .cond c a b => .cond c a.strip b.strip
  | .block id a => .block id a.strip
  | .loop a => .loop a.strip
  | .scope a => .scope a.strip
  | c => c

/- HOW THE MODEL'S CODE BECOMES IT -/
def constSV1 : Value → Option SV
  | .bool b => some (.val (.bool b))
  | .int k n => some (.val (.int k n))
  | .string s => some (.val (.str s.data.toList))
  | .pointer none => some (.val .nilp)
  | .slice none 0 0 => some .nils
  | .nilFunc => some (.val .nilf)
  | .nilIface => some (.val .nili)
  | _ => none
def constSVs : List Value → Option (List SV)
  | [] => some []
  | v :: r => match constSV1 v, constSVs r with
    | some x, some xs => some (x :: xs)
    | _, _ => none
def mkAgg (cells : List SV) : SV := match allVal cells with
  | some vs => .val (.agg vs)
  | none => .agg cells
def constSV : Value → Option SV
  | .agg cs => match constSVs cs.toList with
    | some xs => some (.agg xs)
    | none => none
  | v => constSV1 v

def compOpd : Operand → Option Opd
  | .tmp t => some (.tmp t)
  | .const v => (constSV v).map .const
  | .global g => some (.glob g)
  | .func f => some (.func f)
def compOpds : List Operand → Option (List Opd)
  | [] => some []
  | x :: r => match compOpd x, compOpds r with
    | some y, some ys => some (y :: ys)
    | _, _ => none
def compOpt : Option Operand → Option (Option Opd)
  | none => some none
  | some x => (compOpd x).map some

def isAggD : TypeDesc → Bool
  | .struct _ => true
  | .array _ _ => true
  | _ => false
/-- How many cells, and whether they stand in one value. -/
def aggOf (P : Program) (t : TypeId) : Option (Option Nat) :=
  match P.underlying t, P.info? t with
  | some (.struct _), some i => some (some i.size)
  | some (.array _ _), some i => some (some i.size)
  | some _, some i => if i.size = 1 then some none else none
  | _, _ => none
def sizeT (P : Program) (t : TypeId) : Option Nat := (P.info? t).map (·.size)
def zeroT (P : Program) (t : TypeId) : Option (List SV) := match (P.info? t).bind (·.zero) with
  | some z => constSVs z.cells.toList
  | none => none

def leavesFields (leaf : TypeId → Option (List LK)) (off : Nat) : List Field → Option (List LK)
  | [] => some []
  | f :: r => if f.name = "_" then none else if f.offset ≠ off then none else
    match leaf f.type with
    | some ks => match leavesFields leaf (off + ks.length) r with
      | some rs => some (ks ++ rs)
      | none => none
    | none => none
/-- The kinds of the cells of a type that is compared cell by cell. -/
def leaves (P : Program) : Nat → TypeId → Option (List LK)
  | 0, _ => none
  | d + 1, t => match P.underlying t with
    | some .bool => if sizeT P t = some 1 then some [.b] else none
    | some (.int _) => if sizeT P t = some 1 then some [.i] else none
    | some .string => if sizeT P t = some 1 then some [.s] else none
    | some (.struct fs) => if P.stoodInHeld t then none else
      match leavesFields (leaves P d) 0 fs.toList with
      | some ks => if sizeT P t = some ks.length then some ks else none
      | none => none
    | _ => none

def nilI : Operand → Bool
  | .const .nilIface => true
  | _ => false
def nilP : Operand → Bool
  | .const (.pointer none) => true
  | _ => false
theorem nilI_eq {x : Operand} (h : nilI x = true) : x = .const .nilIface := by
  unfold nilI at h; split at h
  · rfl
  · simp at h
theorem nilP_eq {x : Operand} (h : nilP x = true) : x = .const (.pointer none) := by
  unfold nilP at h; split at h
  · rfl
  · simp at h

def nilS : Operand → Bool
  | .const (.slice none 0 0) => true
  | _ => false
theorem nilS_eq {x : Operand} (h : nilS x = true) : x = .const (.slice none 0 0) := by
  unfold nilS at h; split at h
  · rfl
  · simp at h

def compEq (P : Program) (neg : Bool) (op : BinOp) (t : TypeId) (y : Operand) (u v : Opd) : Option VOp :=
  match P.underlying t with
  | some .bool => some (.eqB neg u v)
  | some (.int _) => some (.bin op u v)
  | some .string => some (.bin op u v)
  | some (.interface _) => if nilI y then some (.eqN neg u) else none
  | some (.pointer _) => if nilP y then some (.eqP neg u) else none
  | some (.slice _) => if nilS y then some (.eqS neg u) else none
  | some (.struct _) => if P.eqGuardType P.depth t then none else (leaves P 10 t).map (.eqA neg · u v)
  | _ => none
def compBin (P : Program) (op : BinOp) (t : TypeId) (x y : Operand) : Option VOp :=
  match compOpd x, compOpd y with
  | some u, some v =>
    match op with
    | .eql => compEq P false .eql t y u v
    | .neq => compEq P true .neq t y u v
    | _ => some (.bin op u v)
  | _, _ => none

def compFn (fn : Fn) (first caps : Array Operand) : Option VOp :=
  match fn with
  | .func f => if first.size = 0 then (compOpds caps.toList).map (.mkFunc f) else none
  | _ => none

def compParts (place : Nat → Option (Nat × Nat)) : List (Nat × Operand) → Option (List (Nat × Nat × Opd))
  | [] => some []
  | (i, x) :: r => match place i, compOpd x, compParts place r with
    | some (o, s), some y, some ys => some ((o, s, y) :: ys)
    | _, _, _ => none

def placesF (P : Program) (fs : Array Field) (i : Nat) : Option (Nat × Nat) := match fs[i]? with
  | some f => (sizeT P f.type).map (f.offset, ·)
  | none => none

def compCall (P : Program) (c : Call) : Option VOp :=
  match c.callee with
  | .value (.func f) => match P.funcs[f]? with
    | some fn => if fn.name = "runtime.NumGoroutine" ∨ fn.body.isNone then none else (compOpds c.args.toList).map (.call f)
    | none => none
  | .value f => match compOpd f, compOpds c.args.toList with
    | some u, some vs => some (.callV u vs)
    | _, _ => none
  | .builtin .len => match c.argTypes[0]?, c.args.toList with
    | some t, [x] => match P.underlying t, compOpd x with
      | some .string, some u => some (.lenS u)
      | some (.slice _), some u => some (.lenV u)
      | some (.array n _), some u => some (.lenC n u)
      | _, _ => none
    | _, _ => none
  | .builtin .max => match c.args.toList with
    | [x, y] => match compOpd x, compOpd y with
      | some u, some v => some (.maxI u v)
      | _, _ => none
    | _ => none
  | .builtin .min => match c.args.toList with
    | [x, y] => match compOpd x, compOpd y with
      | some u, some v => some (.minI u v)
      | _, _ => none
    | _ => none
  | .builtin .append => match c.argTypes[0]?, c.argTypes[1]?, c.args.toList with
    | some t, some t', [x, y] => match P.underlying t, P.underlying t', compOpd x, compOpd y with
      | some (.slice e), some (.slice _), some u, some v => match P.info? e with
        | some i => if 0 < i.size ∧ 0 < i.bytes ∧ i.zero.any (fun z => z.cells.size == i.size) then some (.append i.size i.bytes u v) else none
        | none => none
      | _, _, _, _ => none
    | _, _, _ => none
  | .builtin .clear => match c.argTypes[0]?, c.args.toList with
    | some t, [x] => match P.underlying t, compOpd x with
      | some (.slice e), some u => (zeroT P e).map (.clear · u)
      | _, _ => none
    | _, _ => none
  | .builtin .copy => match c.argTypes[0]?, c.argTypes[1]?, c.args.toList with
    | some t, some t', [x, y] => match P.underlying t, P.underlying t', compOpd x, compOpd y with
      | some (.slice e), some (.slice _), some u, some v => (sizeT P e).map (.copy · u v)
      | _, _, _, _ => none
    | _, _, _ => none
  | _ => none

def compOp (P : Program) : Op → Option VOp
  | .move x => (compOpd x).map .move
  | .assign x => (compOpd x).map .move
  | .pick c a b => match compOpd c, compOpd a, compOpd b with
    | some c, some a, some b => some (.pick c a b)
    | _, _, _ => none
  | .alloc t => (zeroT P t).map .alloc
  | .box _ x => (compOpd x).map .box
  | .build t parts => match P.underlying t, zeroT P t with
    | some (.struct fs), some z => if fs.toList.all (fun f => (sizeT P f.type).isSome) then (compParts (placesF P fs) parts.toList).map (.build z) else none
    | some (.array _ e), some z => match sizeT P e with
      | some s => (compParts (fun i => some (i * s, s)) parts.toList).map (.build z)
      | none => none
    | _, _ => none
  | .buildSlice t n parts => match P.underlying t with
    | some (.slice e) => match sizeT P e, zeroT P e with
      | some s, some z => if 0 < s ∧ z.length = s ∧ n * s ≤ 16777216 then (compParts (fun i => some (i * s, s)) parts.toList).map (.buildSlice s n z) else none
      | _, _ => none
    | _ => none
  | .load t x => match aggOf P t, compOpd x with
    | some g, some u => some (.load g u)
    | _, _ => none
  | .store t x y => match sizeT P t, compOpd x, compOpd y with
    | some n, some u, some v => some (.store n u v)
    | _, _, _ => none
  | .nilCheck x => (compOpd x).map .nilCheck
  | .binOp op t x y _ => compBin P op t x y
  | .unOp op _ x => (compOpd x).map (.un op)
  | .convert s d x => match P.underlying s, P.underlying d, compOpd x with
    | some (.int _), some (.int k), some u => some (.convI k u)
    | some .string, some .string, some u => some (.convS u)
    | _, _, _ => none
  | .makeInterface t x => match P.underlying t with
    | some (.interface _) => none
    | some _ => (compOpd x).map (.mkIface t)
    | none => none
  | .makeFunc fn first caps => compFn fn first caps
  | .makeSlice t l c => match P.underlying t with
    | some (.slice e) => match P.info? e, zeroT P e, compOpd l, compOpd c with
      | some i, some z, some u, some v => if 0 < i.size ∧ z.length = i.size then some (.mkSlice i.size i.bytes z u v) else none
      | _, _, _, _ => none
    | _ => none
  | .slice t x lo hi mx => match P.underlying t, compOpd x, compOpt lo, compOpt hi, compOpt mx with
    | some .string, some u, some l, some h, some none => some (.subS u l h)
    | some (.slice e), some u, some l, some h, some m => (sizeT P e).map (.subV · u l h m)
    | _, _, _, _, _ => none
  | .fieldAddr t x f => match P.underlying t with
    | some (.struct fs) => match fs[f]?, compOpd x with
      | some g, some u => match sizeT P g.type with
        | some n => if n = 0 then none else some (.fieldAddr g.offset u)
        | none => none
      | _, _ => none
    | _ => none
  | .field t x f => match P.underlying t with
    | some (.struct fs) => match fs[f]?, compOpd x with
      | some g, some u => (aggOf P g.type).map (.field g.offset · u)
      | _, _ => none
    | _ => none
  | .indexAddr t x i => match P.underlying t with
    | some (.slice e) => match sizeT P e, compOpd x, compOpd i with
      | some s, some u, some v => some (.indexAddr s u v)
      | _, _, _ => none
    | some (.array n e) => match sizeT P e, compOpd x, compOpd i with
      | some s, some u, some v => some (.indexArr n s u v)
      | _, _, _ => none
    | _ => none
  | .index t x i => match P.underlying t with
    | some .string => match compOpd x, compOpd i with
      | some u, some v => some (.indexS u v)
      | _, _ => none
    | some (.array n e) => match aggOf P e, sizeT P e, compOpd x, compOpd i with
      | some g, some s, some u, some v => some (.indexA n s g u v)
      | _, _, _, _ => none
    | _ => none
  | .extract x i => (compOpd x).map (.extract · i)
  | .call c => compCall P c
  | _ => none

def compGuard (ops : Array Oper) : Option (Nat × Bool) → Option (Option (Nat × Bool))
  | none => some none
  | some (j, b) => match (ops[j]?).bind (·.dst) with
    | some d => some (some (d, b))
    | none => none
def compOper (P : Program) (ops : Array Oper) (o : Oper) : Option VOper :=
  match compOp P o.op, compGuard ops o.guard with
  | some v, some g => some ⟨o.dst, v, g⟩
  | _, _ => none
def compOpers (P : Program) (ops : Array Oper) : List Oper → Option (List VOper)
  | [] => some []
  | o :: r => match compOper P ops o, compOpers P ops r with
    | some v, some vs => some (v :: vs)
    | _, _ => none

/-- Does an operation look at objects? -/
def VOp.acts : VOp → Bool
  | .box _ | .buildSlice _ _ _ _ | .load _ _ | .store _ _ _ | .append _ _ _ _ | .clear _ _ | .copy _ _ _ | .call _ _ | .callV _ _ | .lenV _ | .subV _ _ _ _ _ | .indexAddr _ _ _
  | .build _ _ | .nilCheck _ | .eqP _ _ | .eqS _ _ | .indexArr _ _ _ _ | .fieldAddr _ _ => true
  | _ => false
/-- May it write an object? -/
def VOp.writes : VOp → Bool
  | .store _ _ _ | .append _ _ _ _ | .clear _ _ | .copy _ _ _ => true
  | _ => false
/-- May it make one? -/
def VOp.makes : VOp → Bool
  | .alloc _ | .box _ | .buildSlice _ _ _ _ | .mkSlice _ _ _ _ _ | .append _ _ _ _ | .call _ _ | .callV _ _ => true
  | _ => false
def VOp.flagged (x y : VOp) : Bool := (x.writes && y.acts) || (y.writes && x.acts) || x.makes || y.makes

/-- The pairs of operations that no edge orders, and that are looked at as they are met; which may not name what another one makes: none where an edge goes up, or where two that no edge orders name one slot that one of them writes. -/
def pairsOf (ops : Array Oper) (vs : Array VOper) : Option (List (Nat × Nat) × List (Nat × Nat)) :=
  let before := Region.before ops
  if (List.range ops.size).all (fun j => match ops[j]? with
      | some o => o.after.toList.all fun e => !Region.binds .any e || decide (e.on < j)
      | none => false) &&
    (List.range ops.size).all (fun j => (List.range j).all fun i => (before.getD j 0).testBit i ||
      match ops[i]?, ops[j]? with
      | some oi, some oj => oi.apart ops oj
      | _, _ => false)
  then some (
    (List.range ops.size).flatMap (fun j => (List.range j).filterMap fun i => if (before.getD j 0).testBit i then none else
      match vs[i]?, vs[j]? with
      | some vi, some vj => if vi.op.flagged vj.op then some (i, j) else none
      | _, _ => none),
    (List.range ops.size).flatMap (fun k => match vs[k]? with
      | some vk => if vk.op.makes then (List.range ops.size).filterMap (fun j => if j = k then none else if (before.getD j 0).testBit k then none else some (j, k)) else []
      | none => []))
  else none

def comp (P : Program) : Code → Option VCode
  | .skip => some .skip
  | .region _ ops draw => match compOpers P ops ops.toList with
    | some vs => if draw then match pairsOf ops vs.toArray with
        | some (ps, ms) => if ps.isEmpty && vs.all (fun v => !v.op.makes) then some (.region vs .calm []) else some (.region vs (.drawn ps ms) [])
        | none => none
      else some (.region vs .text [])
    | none => none
  | .seq a b => match comp P a, comp P b with
    | some x, some y => some (.seq x y)
    | _, _ => none
  | .cond c a b => match compOpd c, comp P a, comp P b with
    | some u, some x, some y => some (.cond u x y)
    | _, _, _ => none
  | .block id a => (comp P a).map (.block id)
  | .loop a => (comp P a).map .loop
  | .exit id => some (.exit id)
  | .scope a => (comp P a).map .scope
  | .label l => some (.label l)
  | .goto l => some (.goto l)
  | .ret => some .ret
  | _ => none

/- THE EVALUATOR -/
def val (σ : St) : Opd → SV
  | .tmp t => getE σ.env t
  | .const v => v
  | .func f => .val (.fn f [])
  | .glob g => match look σ.gl g with
    | some cells => .val (.ref cells)
    | none => .undef

structure Upd where
  v : SV := .undef
  side : Prop := True
  new : Option Ob := none
  wr : Option (Nat × Ob) := none
  fz : List Nat := []

def putD (env : List (Nat × SV)) : Option Nat → SV → List (Nat × SV)
  | some d, v => put env d v
  | none, _ => env
def putW (objs : List (Nat × Ob)) : Option (Nat × Ob) → List (Nat × Ob)
  | some (id, o) => put objs id o
  | none => objs
/-- What an operation leaves. -/
def St.apply (σ : St) (dst : Option Nat) (u : Upd) : St :=
  match u.new, dst with
  | some o, some d => ⟨put (eraseE d σ.env) d u.v, eraseO d (put σ.objs d o), u.fz ++ σ.ro, σ.n, σ.gl⟩
  | _, _ => ⟨putD σ.env dst u.v, putW σ.objs u.wr, u.fz ++ σ.ro, σ.n, σ.gl⟩

/-- A value of one cell that may be kept. -/
def okCell (objs : List (Nat × Ob)) : SV → Bool
  | .val v => v.one
  | .nils => true
  | .full _ => true
  | .own id ver => match look objs id with
    | some (.arr cv _ _) => ver == cv
    | _ => false
  | .view id ver _ _ => match look objs id with
    | some (.arr cv _ _) => ver == cv
    | _ => false
  | .loc id _ => match look objs id with
    | some (.box _) => true
    | _ => false
  | .clo _ _ => true
  | .ifc _ _ => true
  | _ => false
def okCells (objs : List (Nat × Ob)) : List SV → Bool
  | [] => true
  | x :: r => okCell objs x && okCells objs r
/-- The cells of a value that is stored. -/
def cellsOf (objs : List (Nat × Ob)) : SV → Option (List SV)
  | .val (.agg cs) => some (cs.map .val)
  | .agg cells => some cells
  | v => if okCell objs v then some [v] else none

/-- The immutable value that stands in a slot; the objects that are frozen by it. -/
def toIV0 (objs : List (Nat × Ob)) : SV → Option (IV × List Nat)
  | .val v => some (v, [])
  | .nils => some (.slice [], [])
  | .full rows => some (.slice rows, [])
  | .own id ver => match look objs id with
    | some (.arr cv _ rows) => if ver == cv then some (.slice rows, [id]) else none
    | _ => none
  | .view id ver lo hi => match look objs id with
    | some (.arr cv _ rows) => if ver == cv then some (.slice ((rows.take hi).drop lo), [id]) else none
    | _ => none
  | _ => none
def toIVs0 (objs : List (Nat × Ob)) : List SV → Option (List IV × List Nat)
  | [] => some ([], [])
  | x :: r => match toIV0 objs x, toIVs0 objs r with
    | some (v, f), some (vs, fs) => some (v :: vs, f ++ fs)
    | _, _ => none
def toIV1 (objs : List (Nat × Ob)) : SV → Option (IV × List Nat)
  | .loc id off => match look objs id with
    | some (.box cells) => match toIVs0 objs cells with
      | some (vs, fs) => some (.ref (vs.drop off), id :: fs)
      | none => none
    | _ => none
  | x => toIV0 objs x
def toIVs1 (objs : List (Nat × Ob)) : List SV → Option (List IV × List Nat)
  | [] => some ([], [])
  | x :: r => match toIV1 objs x, toIVs1 objs r with
    | some (v, f), some (vs, fs) => some (v :: vs, f ++ fs)
    | _, _ => none
def toIV (objs : List (Nat × Ob)) : SV → Option (IV × List Nat)
  | .ifc t x => match toIV1 objs x with
    | some (v, f) => some (.iface t v, f)
    | none => none
  | .agg cells => match toIVs1 objs cells with
    | some (vs, fs) => some (.agg vs, fs)
    | none => none
  | .clo f caps => match toIVs1 objs caps with
    | some (vs, fs) => some (.fn f vs, fs)
    | none => none
  | x => toIV1 objs x
def toIVs (objs : List (Nat × Ob)) : List SV → Option (List IV × List Nat)
  | [] => some ([], [])
  | x :: r => match toIV objs x, toIVs objs r with
    | some (v, f), some (vs, fs) => some (v :: vs, f ++ fs)
    | _, _ => none

/-- No memory behind it. -/
def IV.flat : IV → Bool
  | .int _ _ | .bool _ | .str _ | .nilp | .nilf | .nili => true
  | .agg cs => flats cs
  | .tuple vs => flats vs
  | .iface _ v => v.flat
  | _ => false
where flats : List IV → Bool
  | [] => true
  | x :: xs => x.flat && flats xs

def binI (op : BinOp) (k : IntKind) (a b : Int) : Option Upd :=
  match op with
  | .add => some { v := .val (.int k (k.wrap (a + b))) }
  | .sub => some { v := .val (.int k (k.wrap (a - b))) }
  | .mul => some { v := .val (.int k (k.wrap (a * b))) }
  | .quo => some { v := .val (.int k (k.wrap (a.tdiv b))), side := b ≠ 0 }
  | .rem => some { v := .val (.int k (a.tmod b)), side := b ≠ 0 }
  | .eql => some { v := .val (.bool (decide (a = b))) }
  | .neq => some { v := .val (.bool (!decide (a = b))) }
  | .lss => some { v := .val (.bool (decide (a < b))) }
  | .leq => some { v := .val (.bool (decide (a ≤ b))) }
  | .gtr => some { v := .val (.bool (decide (a > b))) }
  | .geq => some { v := .val (.bool (decide (a ≥ b))) }
  | .shl => some { v := .val (.int k (k.wrap (a * 2 ^ (min b.toNat k.bits)))), side := 0 ≤ b }
  | .shr => some { v := .val (.int k (a.fdiv (2 ^ (min b.toNat k.bits)))), side := 0 ≤ b }
  | _ => none
def binS (op : BinOp) (a b : List UInt8) : Option Upd :=
  match op with
  | .add => some { v := .val (.str (a ++ b)), side := a.length + b.length ≤ 9223372036854775807 }
  | .eql => some { v := .val (.bool (decide (a = b))) }
  | .neq => some { v := .val (.bool (!decide (a = b))) }
  | .lss => some { v := .val (.bool (Op.bytesLess a b)) }
  | .leq => some { v := .val (.bool (Op.bytesLess a b || decide (a = b))) }
  | .gtr => some { v := .val (.bool (!(Op.bytesLess a b || decide (a = b)))) }
  | .geq => some { v := .val (.bool (!Op.bytesLess a b)) }
  | _ => none
def eqC : LK → IV → IV → Option Bool
  | .b, .bool a, .bool b => some (decide (a = b))
  | .i, .int k a, .int k' b => if k = k' then some (decide (a = b)) else none
  | .s, .str a, .str b => some (decide (a = b))
  | _, _, _ => none
def eqL : List LK → List IV → List IV → Option Bool
  | [], [], [] => some true
  | k :: ks, x :: xs, y :: ys => match eqC k x y, eqL ks xs ys with
    | some a, some b => some (a && b)
    | _, _ => none
  | _, _, _ => none

/-- The parts laid into the cells. -/
def fillSV (objs : List (Nat × Ob)) (σ : St) (cells : List SV) : List (Nat × Nat × Opd) → Option (List SV)
  | [] => some cells
  | (off, size, x) :: r => match cellsOf objs (val σ x) with
    | some cs => if cs.length = size ∧ off + size ≤ cells.length then fillSV objs σ (cells.take off ++ cs ++ cells.drop (off + size)) r else none
    | none => none
def chunks {α : Type} (s : Nat) : Nat → List α → List (List α)
  | 0, _ => []
  | n + 1, l => l.take s :: chunks s n (l.drop s)
def repeatL {α : Type} (l : List α) : Nat → List α
  | 0 => []
  | n + 1 => l ++ repeatL l n

def rowsOf (objs : List (Nat × Ob)) : SV → Option (List (List IV) × List Nat)
  | .nils => some ([], [])
  | .full rows => some (rows, [])
  | .val (.slice rows) => some (rows, [])
  | .own id ver => match look objs id with
    | some (.arr cv _ rows) => if ver == cv then some (rows, [id]) else none
    | _ => none
  | .view id ver lo hi => match look objs id with
    | some (.arr cv _ rows) => if ver == cv then some ((rows.take hi).drop lo, [id]) else none
    | _ => none
  | _ => none

def intOf : SV → Option Int
  | .val (.int _ n) => some n
  | _ => none
def bound (σ : St) (dflt : Nat) : Option Opd → Option Int
  | none => some dflt
  | some x => intOf (val σ x)

def evLoad (σ : St) (g : Option Nat) : SV → Option Upd
  | .val (.ref cells) => match g with
    | some n => some { v := .val (.agg (cells.take n)), side := n ≤ cells.length }
    | none => match cells with
      | c :: _ => some { v := .val c }
      | [] => none
  | .loc id off => match look σ.objs id with
    | some (.box cells) => match g with
      | some n => some { v := mkAgg ((cells.drop off).take n), side := off + n ≤ cells.length }
      | none => match cells[off]? with
        | some c => some { v := c }
        | none => none
    | _ => none
  | .eloc id ver i off => match look σ.objs id with
    | some (.arr cv _ rows) => if ver == cv then match rows[i]? with
      | some row => match g with
        | some n => some { v := .val (.agg ((row.drop off).take n)), side := off + n ≤ row.length }
        | none => match row[off]? with
          | some c => some { v := .val c }
          | none => none
      | none => none else none
    | _ => none
  | _ => none
def evStore (σ : St) (n : Nat) (a x : SV) : Option Upd :=
  match cellsOf σ.objs x with
  | none => none
  | some cs => match a with
    | .loc id off => match look σ.objs id with
      | some (.box cells) => if σ.ro.contains id then none else
          some { side := cs.length = n ∧ off + n ≤ cells.length, wr := some (id, .box (cells.take off ++ cs ++ cells.drop (off + n))) }
      | _ => none
    | .eloc id ver i off => match look σ.objs id, toIVs1 σ.objs cs with
      | some (.arr cv s rows), some (vs, fz) => if σ.ro.contains id || fz.contains id then none else if ver == cv then match rows[i]? with
        | some row => some { side := cs.length = n ∧ off + n ≤ row.length, wr := some (id, .arr cv s (rows.set i (row.take off ++ vs ++ row.drop (off + n)))), fz := fz }
        | none => none else none
      | _, _ => none
    | _ => none

def evPart (off : Nat) (g : Option Nat) : SV → Option Upd
  | .val (.agg cells) => match g with
    | some n => some { v := .val (.agg ((cells.drop off).take n)), side := off + n ≤ cells.length }
    | none => match cells[off]? with
      | some c => some { v := .val c }
      | none => none
  | .agg cells => match g with
    | some n => some { v := mkAgg ((cells.drop off).take n), side := off + n ≤ cells.length }
    | none => match cells[off]? with
      | some c => some { v := c }
      | none => none
  | _ => none

/-- A piece of an array of the call's own. -/
def evSub (σ : St) (s id ver s' lo0 hi0 len : Nat) (lo hi mx : Option Opd) : Option Upd :=
  match bound σ 0 lo, bound σ (hi0 - lo0) hi with
  | some l, some h => match mx with
    | none => some { v := .view id ver (lo0 + l.toNat) (lo0 + h.toNat), side := (0 ≤ l ∧ l ≤ h ∧ h ≤ (len - lo0 : Nat)) ∧ s' = s }
    | some m => match intOf (val σ m) with
      | some m => some { v := .undef, side := 0 ≤ l ∧ l ≤ h ∧ h ≤ m ∧ m ≤ (hi0 - lo0 : Nat) ∧ hi.isSome = true }
      | none => none
  | _, _ => none

/-- What an operation does, that calls nothing. -/
def ev (σ : St) (dst : Option Nat) : VOp → Option Upd
  | .move x => some { v := val σ x }
  | .pick c a b => match val σ c with
    | .val (.bool t) => some { v := bif t then val σ a else val σ b }
    | _ => none
  | .alloc zero => match dst with
    | some d => some { v := .loc d 0, new := some (.box zero) }
    | none => none
  | .box x => match dst, cellsOf σ.objs (val σ x) with
    | some d, some cs => some { v := .loc d 0, new := some (.box cs) }
    | _, _ => none
  | .build zero parts => match fillSV σ.objs σ zero parts with
    | some cells => some { v := mkAgg cells }
    | none => none
  | .buildSlice s n zero parts => match dst, fillSV σ.objs σ (repeatL zero n) parts with
    | some d, some cells => match toIVs1 σ.objs cells with
      | some (vs, fz) => some { v := .own d 0, new := some (.arr 0 s (chunks s n vs)), fz := fz }
      | none => none
    | _, _ => none
  | .load g x => evLoad σ g (val σ x)
  | .store n a x => evStore σ n (val σ a) (val σ x)
  | .nilCheck x => match val σ x with
    | .val (.ref cs) => some { v := .val (.ref cs) }
    | .loc id off => match look σ.objs id with
      | some (.box _) => some { v := .loc id off }
      | _ => none
    | .val (.fn f cs) => some { v := .val (.fn f cs) }
    | .clo f cs => some { v := .clo f cs }
    | _ => none
  | .bin op x y => match val σ x, val σ y with
    | .val (.int k a), .val (.int k' b) => if k = k' then binI op k a b else none
    | .val (.str a), .val (.str b) => binS op a b
    | _, _ => none
  | .eqB neg x y => match val σ x, val σ y with
    | .val (.bool a), .val (.bool b) => some { v := .val (.bool (neg ^^ (a == b))) }
    | _, _ => none
  | .eqN neg x => match val σ x with
    | .val .nili => some { v := .val (.bool (!neg)) }
    | .val (.iface _ _) => some { v := .val (.bool neg) }
    | .ifc _ _ => some { v := .val (.bool neg) }
    | _ => none
  | .eqP neg x => match val σ x with
    | .val .nilp => some { v := .val (.bool (!neg)) }
    | .val (.ref _) => some { v := .val (.bool neg) }
    | .loc id _ => match look σ.objs id with
      | some (.box _) => some { v := .val (.bool neg) }
      | _ => none
    | _ => none
  | .eqS neg x => match rowsOf σ.objs (val σ x) with
    | some ([], _) => some { v := .anyB }
    | some (_ :: _, _) => some { v := .val (.bool neg) }
    | none => none
  | .eqA neg ks x y => match val σ x, val σ y with
    | .val (.agg xs), .val (.agg ys) => match eqL ks xs ys with
      | some b => some { v := .val (.bool (neg ^^ b)) }
      | none => none
    | _, _ => none
  | .un op x => match op, val σ x with
    | .neg, .val (.int k n) => some { v := .val (.int k (k.wrap (0 - n))) }
    | .not, .val (.bool b) => some { v := .val (.bool (!b)) }
    | _, _ => none
  | .convI k x => match val σ x with
    | .val (.int _ n) => some { v := .val (.int k (k.wrap n)) }
    | _ => none
  | .convS x => match val σ x with
    | .val (.str s) => some { v := .val (.str s) }
    | _ => none
  | .mkIface t x => match val σ x with
    | .val v => some { v := .val (.iface t v) }
    | .loc id off => some { v := .ifc t (.loc id off) }
    | _ => none
  | .mkFunc f caps => match caps with
    | [] => some { v := .val (.fn f []) }
    | _ => some { v := .clo f (caps.map (val σ)) }
  | .mkSlice s bytes zero len cap => match dst, val σ len, val σ cap, allVal zero with
    | some d, .val (.int .i64 l), .val (.int .i64 c), some z =>
      some { v := .own d 0, new := some (.arr 0 s (List.replicate l.toNat z)), side := 0 ≤ l ∧ l ≤ c ∧ c * bytes ≤ 281474976710656 ∧ c ≤ 9223372036854775807 }
    | _, _, _, _ => none
  | .subS x lo hi => match val σ x with
    | .val (.str s) => match bound σ 0 lo, bound σ s.length hi with
      | some l, some h => some { v := .val (.str ((s.take h.toNat).drop l.toNat)), side := 0 ≤ l ∧ l ≤ h ∧ h ≤ s.length }
      | _, _ => none
    | _ => none
  | .subV s x lo hi mx => match val σ x with
    | .own id ver => match look σ.objs id with
      | some (.arr cv s' rows) => if ver == cv then evSub σ s id ver s' 0 rows.length rows.length lo hi mx else none
      | _ => none
    | .view id ver lo0 hi0 => match look σ.objs id with
      | some (.arr cv s' rows) => if ver == cv then evSub σ s id ver s' lo0 hi0 rows.length lo hi mx else none
      | _ => none
    | _ => match rowsOf σ.objs (val σ x) with
    | some (rows, rd) => match bound σ 0 lo, bound σ rows.length hi with
      | some l, some h => match mx with
        | none => some { v := .val (.slice ((rows.take h.toNat).drop l.toNat)), side := (0 ≤ l ∧ l ≤ h ∧ h ≤ rows.length) ∧ ∀ row ∈ rows, row.length = s, fz := rd }
        | some m => match intOf (val σ m) with
          | some m => if m = 0 then some { v := .nils, side := l = 0 ∧ h = 0 ∧ hi.isSome = true } else some { v := .full ((rows.take h.toNat).drop l.toNat), side := (0 ≤ l ∧ l ≤ h ∧ h = m ∧ h ≤ rows.length ∧ hi.isSome = true) ∧ ∀ row ∈ rows, row.length = s, fz := rd }
          | none => none
      | _, _ => none
    | _ => none
  | .fieldAddr off x => match val σ x with
    | .val (.ref cells) => some { v := .val (.ref (cells.drop off))  }
    | .loc id o => match look σ.objs id with
      | some (.box _) => some { v := .loc id (o + off) }
      | _ => none
    | .eloc id ver i o => match look σ.objs id with
      | some (.arr cv _ _) => if ver == cv then some { v := .eloc id ver i (o + off) } else none
      | _ => none
    | _ => none
  | .field off g x => evPart off g (val σ x)
  | .indexAddr s x i => match val σ i with
    | .val (.int _ i) => if 0 ≤ i then match val σ x with
      | .val (.slice rows) => match rows[i.toNat]? with
        | some row => some { v := .val (.ref row), side := row.length = s }
        | none => none
      | .own id ver => match look σ.objs id with
        | some (.arr cv s' rows) => if ver == cv then some { v := .eloc id ver i.toNat 0, side := i.toNat < rows.length ∧ s' = s } else none
        | _ => none
      | .view id ver lo hi => match look σ.objs id with
        | some (.arr cv s' rows) => if ver == cv then some { v := .eloc id ver (lo + i.toNat) 0, side := i.toNat < hi - lo ∧ s' = s } else none
        | _ => none
      | _ => none else none
    | _ => none
  | .indexArr len s x i => match val σ x, val σ i with
    | .loc id o, .val (.int _ i) => match look σ.objs id with
      | some (.box _) => some { v := .loc id (o + i.toNat * s), side := 0 ≤ i ∧ i < len }
      | _ => none
    | .val (.ref cells), .val (.int _ i) => some { v := .val (.ref (cells.drop (i.toNat * s))), side := 0 ≤ i ∧ i < len }
    | _, _ => none
  | .indexS x i => match val σ x, val σ i with
    | .val (.str s), .val (.int _ i) => if 0 ≤ i then match s[i.toNat]? with
      | some b => some { v := .val (.int .u8 b.toNat) }
      | none => none else none
    | _, _ => none
  | .indexA len s g x i => match val σ i with
    | .val (.int _ i) => if 0 ≤ i ∧ i < len then evPart (i.toNat * s) g (val σ x) else none
    | _ => none
  | .extract x i => match val σ x with
    | .val (.tuple vs) => match vs[i]? with
      | some v => some { v := .val v }
      | none => none
    | _ => none
  | .lenS x => match val σ x with
    | .val (.str s) => some { v := .val (.int .i64 s.length) }
    | _ => none
  | .lenV x => match val σ x with
    | .view id ver lo hi => match look σ.objs id with
      | some (.arr cv _ rows) => if ver == cv then some { v := .val (.int .i64 (hi - lo : Nat)) } else none
      | _ => none
    | _ => match rowsOf σ.objs (val σ x) with
    | some (rows, rd) => some { v := .val (.int .i64 rows.length) }
    | none => none
  | .lenC n _ => some { v := .val (.int .i64 n) }
  | .maxI x y => match val σ x, val σ y with
    | .val (.int k a), .val (.int k' b) => if k = k' then some { v := .val (.int k (max a b)) } else none
    | _, _ => none
  | .minI x y => match val σ x, val σ y with
    | .val (.int k a), .val (.int k' b) => if k = k' then some { v := .val (.int k (min a b)) } else none
    | _, _ => none
  | .append s bytes x y => match rowsOf σ.objs (val σ y) with
    | none => none
    | some (new, rd) => match val σ x with
      | .nils => match dst with
        | some d => some { v := .own d 0, new := some (.arr 0 s new), side := new.length * bytes ≤ 35184372088832 ∧ ∀ r ∈ new, r.length = s }
        | none => none
      | .full rows => match dst with
        | some d => some { v := .own d 0, new := some (.arr 0 s (rows ++ new)), side := new ≠ [] ∧ (rows.length + new.length) * bytes ≤ 35184372088832 ∧ (∀ r ∈ rows, r.length = s) ∧ ∀ r ∈ new, r.length = s }
        | none => none
      | .own id ver => match look σ.objs id with
        | some (.arr cv s' rows) => if ver == cv && !rd.contains id then
            some { v := .own id (cv + 1), wr := some (id, .arr (cv + 1) s (rows ++ new)), side := s' = s ∧ (rows.length + new.length) * bytes ≤ 35184372088832 ∧ ∀ r ∈ new, r.length = s } else none
        | _ => none
      | .view id ver lo hi => match look σ.objs id with
        | some (.arr cv s' rows) => if ver == cv && lo == 0 && !σ.ro.contains id then
            if rd.contains id then match val σ y with
              | .view id2 _ lo2 hi2 => if id2 == id then some { v := .view id cv 0 (hi + (hi2 - lo2)), wr := some (id, .arr cv s (rows.take hi ++ ((rows.take hi2).drop lo2 ++ rows.drop (hi + (hi2 - lo2))))), side := s' = s ∧ hi ≤ lo2 ∧ lo2 ≤ hi2 } else none
              | _ => none
            else some { v := .own id (cv + 2), wr := some (id, .arr (cv + 2) s (rows.take hi ++ new)), side := s' = s ∧ (hi + new.length) * bytes ≤ 35184372088832 ∧ ∀ r ∈ new, r.length = s }
          else none
        | _ => none
      | _ => none
  | .clear zero x => match allVal zero with
    | none => none
    | some z => match val σ x with
      | .nils => some { v := .val (.tuple []) }
      | .own id ver => match look σ.objs id with
        | some (.arr cv s rows) => if ver == cv && !σ.ro.contains id then some { v := .val (.tuple []), wr := some (id, .arr cv s (List.replicate rows.length z)), side := z.length = s ∧ 0 < s } else none
        | _ => none
      | .view id ver lo hi => match look σ.objs id with
        | some (.arr cv s rows) => if ver == cv && !σ.ro.contains id then some { v := .val (.tuple []), wr := some (id, .arr cv s (rows.take lo ++ (List.replicate (hi - lo) z ++ rows.drop hi))), side := z.length = s ∧ 0 < s } else none
        | _ => none
      | _ => none
  | .copy s x y => match rowsOf σ.objs (val σ y) with
    | none => none
    | some (new, _) => match val σ x with
      | .nils => some { v := .val (.int .i64 0) }
      | .own id ver => match look σ.objs id with
        | some (.arr cv s' rows) => if ver == cv && !σ.ro.contains id then some { v := .val (.int .i64 (min new.length rows.length : Nat)), wr := some (id, .arr cv s (new.take rows.length ++ rows.drop (min new.length rows.length))), side := s' = s ∧ (∀ r ∈ new, r.length = s) ∧ 0 < s } else none
        | _ => none
      | .view id ver lo hi => match look σ.objs id with
        | some (.arr cv s' rows) => if ver == cv && !σ.ro.contains id then some { v := .val (.int .i64 (min new.length (hi - lo) : Nat)), wr := some (id, .arr cv s (rows.take lo ++ (new.take (hi - lo) ++ rows.drop (lo + min new.length (hi - lo))))), side := s' = s ∧ (∀ r ∈ new, r.length = s) ∧ 0 < s } else none
        | _ => none
      | _ => none
  | _ => none

end Go.Vs
