/- Value semantics, part 22: how a proof steps through the small code by 'simp'. No conditions. -/
import Derived.Test.YtjfleklkloohgaaVs21
namespace Go.Vs

universe u
/-- What 'simp' is to leave alone: it does not look into an argument of a class. -/
class Hold (α : Sort u) where
  val : α

/-- A call, its rest held back. -/
def CallW (P : Program) (g : FuncId) (ivs : List IV) [k : Hold (Res → Prop)] : Prop := ∃ r, FnR P g ivs r ∧ k.val r
theorem callW_imm {P : Program} {g : FuncId} {ivs : List IV} {k : Res → Prop} {v : IV} (h : Fn P g ivs v) (hk : k (.imm v)) : @CallW P g ivs ⟨k⟩ := ⟨_, h, hk⟩
theorem callW_own {P : Program} {g : FuncId} {ivs : List IV} {k : Res → Prop} {s : Nat} {rows : List (List IV)} (h : FnR P g ivs (.own s rows)) (hk : k (.own s rows)) : @CallW P g ivs ⟨k⟩ := ⟨_, h, hk⟩
def CallA (P : Program) (a : Option (FuncId × List IV × List Nat)) [k : Hold (List Nat → Res → Prop)] : Prop := match a with
  | some (g, ivs, fz) => @CallW P g ivs ⟨k.val fz⟩
  | none => False
theorem callA_some {P : Program} {g : FuncId} {ivs : List IV} {fz : List Nat} {k : List Nat → Res → Prop} : @CallA P (some (g, ivs, fz)) ⟨k⟩ = @CallW P g ivs ⟨fun r => k fz r⟩ := _root_.id rfl
/-- One operation, its rest held back. -/
def OpK (o : Option Upd) [k : Hold (Upd → Prop)] : Prop := match o with
  | some u => u.side ∧ k.val u
  | none => False
theorem opK_some {u : Upd} {k : Upd → Prop} : @OpK (some u) ⟨k⟩ = (u.side ∧ k u) := _root_.id rfl
def CallU (o : Option Upd) [k : Hold (Upd → Prop)] : Prop := match o with
  | some u => k.val u
  | none => False
theorem callU_some {u : Upd} {k : Upd → Prop} : @CallU (some u) ⟨k⟩ = k u := _root_.id rfl
theorem opW_call {P : Program} {σ : St} {dst : Option Nat} {k : Upd → Prop} {f : Nat} {args : List Opd} : opW P σ dst k (.call f args) = @CallA P (callArgs σ (.val (.fn f [])) args) ⟨fun fz r => @CallU (callUpd dst fz r) ⟨k⟩⟩ := by
  simp only [opW, CallA, CallU, CallW]; rfl
theorem opW_callV {P : Program} {σ : St} {dst : Option Nat} {k : Upd → Prop} {f : Opd} {args : List Opd} : opW P σ dst k (.callV f args) = @CallA P (callArgs σ (val σ f) args) ⟨fun fz r => @CallU (callUpd dst fz r) ⟨k⟩⟩ := by
  simp only [opW, CallA, CallU, CallW]; rfl
section
variable {P : Program} {σ : St} {dst : Option Nat} {k : Upd → Prop}
theorem opW_move {q0 : Opd} : opW P σ dst k (.move q0) = @OpK (ev σ dst (.move q0)) ⟨k⟩ := _root_.id rfl
theorem opW_pick {q0 : Opd} {q1 : Opd} {q2 : Opd} : opW P σ dst k (.pick q0 q1 q2) = @OpK (ev σ dst (.pick q0 q1 q2)) ⟨k⟩ := _root_.id rfl
theorem opW_alloc {q0 : List SV} : opW P σ dst k (.alloc q0) = @OpK (ev σ dst (.alloc q0)) ⟨k⟩ := _root_.id rfl
theorem opW_box {q0 : Opd} : opW P σ dst k (.box q0) = @OpK (ev σ dst (.box q0)) ⟨k⟩ := _root_.id rfl
theorem opW_build {q0 : List SV} {q1 : List (Nat × Nat × Opd)} : opW P σ dst k (.build q0 q1) = @OpK (ev σ dst (.build q0 q1)) ⟨k⟩ := _root_.id rfl
theorem opW_buildSlice {q0 : Nat} {q1 : Nat} {q2 : List SV} {q3 : List (Nat × Nat × Opd)} : opW P σ dst k (.buildSlice q0 q1 q2 q3) = @OpK (ev σ dst (.buildSlice q0 q1 q2 q3)) ⟨k⟩ := _root_.id rfl
theorem opW_load {q0 : Option Nat} {q1 : Opd} : opW P σ dst k (.load q0 q1) = @OpK (ev σ dst (.load q0 q1)) ⟨k⟩ := _root_.id rfl
theorem opW_store {q0 : Nat} {q1 : Opd} {q2 : Opd} : opW P σ dst k (.store q0 q1 q2) = @OpK (ev σ dst (.store q0 q1 q2)) ⟨k⟩ := _root_.id rfl
theorem opW_nilCheck {q0 : Opd} : opW P σ dst k (.nilCheck q0) = @OpK (ev σ dst (.nilCheck q0)) ⟨k⟩ := _root_.id rfl
theorem opW_bin {q0 : BinOp} {q1 : Opd} {q2 : Opd} : opW P σ dst k (.bin q0 q1 q2) = @OpK (ev σ dst (.bin q0 q1 q2)) ⟨k⟩ := _root_.id rfl
theorem opW_eqB {q0 : Bool} {q1 : Opd} {q2 : Opd} : opW P σ dst k (.eqB q0 q1 q2) = @OpK (ev σ dst (.eqB q0 q1 q2)) ⟨k⟩ := _root_.id rfl
theorem opW_eqN {q0 : Bool} {q1 : Opd} : opW P σ dst k (.eqN q0 q1) = @OpK (ev σ dst (.eqN q0 q1)) ⟨k⟩ := _root_.id rfl
theorem opW_eqP {q0 : Bool} {q1 : Opd} : opW P σ dst k (.eqP q0 q1) = @OpK (ev σ dst (.eqP q0 q1)) ⟨k⟩ := _root_.id rfl
theorem opW_eqA {q0 : Bool} {q1 : List LK} {q2 : Opd} {q3 : Opd} : opW P σ dst k (.eqA q0 q1 q2 q3) = @OpK (ev σ dst (.eqA q0 q1 q2 q3)) ⟨k⟩ := _root_.id rfl
theorem opW_un {q0 : UnOp} {q1 : Opd} : opW P σ dst k (.un q0 q1) = @OpK (ev σ dst (.un q0 q1)) ⟨k⟩ := _root_.id rfl
theorem opW_convI {q0 : IntKind} {q1 : Opd} : opW P σ dst k (.convI q0 q1) = @OpK (ev σ dst (.convI q0 q1)) ⟨k⟩ := _root_.id rfl
theorem opW_convS {q0 : Opd} : opW P σ dst k (.convS q0) = @OpK (ev σ dst (.convS q0)) ⟨k⟩ := _root_.id rfl
theorem opW_mkIface {q0 : Nat} {q1 : Opd} : opW P σ dst k (.mkIface q0 q1) = @OpK (ev σ dst (.mkIface q0 q1)) ⟨k⟩ := _root_.id rfl
theorem opW_mkFunc {q0 : Nat} {q1 : List Opd} : opW P σ dst k (.mkFunc q0 q1) = @OpK (ev σ dst (.mkFunc q0 q1)) ⟨k⟩ := _root_.id rfl
theorem opW_mkSlice {q0 : Nat} {q1 : Nat} {q2 : List SV} {q3 : Opd} {q4 : Opd} : opW P σ dst k (.mkSlice q0 q1 q2 q3 q4) = @OpK (ev σ dst (.mkSlice q0 q1 q2 q3 q4)) ⟨k⟩ := _root_.id rfl
theorem opW_subS {q0 : Opd} {q1 : Option Opd} {q2 : Option Opd} : opW P σ dst k (.subS q0 q1 q2) = @OpK (ev σ dst (.subS q0 q1 q2)) ⟨k⟩ := _root_.id rfl
theorem opW_subV {q0 : Nat} {q1 : Opd} {q2 : Option Opd} {q3 : Option Opd} {q4 : Option Opd} : opW P σ dst k (.subV q0 q1 q2 q3 q4) = @OpK (ev σ dst (.subV q0 q1 q2 q3 q4)) ⟨k⟩ := _root_.id rfl
theorem opW_fieldAddr {q0 : Nat} {q1 : Opd} : opW P σ dst k (.fieldAddr q0 q1) = @OpK (ev σ dst (.fieldAddr q0 q1)) ⟨k⟩ := _root_.id rfl
theorem opW_field {q0 : Nat} {q1 : Option Nat} {q2 : Opd} : opW P σ dst k (.field q0 q1 q2) = @OpK (ev σ dst (.field q0 q1 q2)) ⟨k⟩ := _root_.id rfl
theorem opW_indexAddr {q0 : Nat} {q1 : Opd} {q2 : Opd} : opW P σ dst k (.indexAddr q0 q1 q2) = @OpK (ev σ dst (.indexAddr q0 q1 q2)) ⟨k⟩ := _root_.id rfl
theorem opW_indexArr {q0 : Nat} {q1 : Nat} {q2 : Opd} {q3 : Opd} : opW P σ dst k (.indexArr q0 q1 q2 q3) = @OpK (ev σ dst (.indexArr q0 q1 q2 q3)) ⟨k⟩ := _root_.id rfl
theorem opW_indexS {q0 : Opd} {q1 : Opd} : opW P σ dst k (.indexS q0 q1) = @OpK (ev σ dst (.indexS q0 q1)) ⟨k⟩ := _root_.id rfl
theorem opW_indexA {q0 : Nat} {q1 : Nat} {q2 : Option Nat} {q3 : Opd} {q4 : Opd} : opW P σ dst k (.indexA q0 q1 q2 q3 q4) = @OpK (ev σ dst (.indexA q0 q1 q2 q3 q4)) ⟨k⟩ := _root_.id rfl
theorem opW_extract {q0 : Opd} {q1 : Nat} : opW P σ dst k (.extract q0 q1) = @OpK (ev σ dst (.extract q0 q1)) ⟨k⟩ := _root_.id rfl
theorem opW_lenS {q0 : Opd} : opW P σ dst k (.lenS q0) = @OpK (ev σ dst (.lenS q0)) ⟨k⟩ := _root_.id rfl
theorem opW_lenV {q0 : Opd} : opW P σ dst k (.lenV q0) = @OpK (ev σ dst (.lenV q0)) ⟨k⟩ := _root_.id rfl
theorem opW_lenC {q0 : Nat} {q1 : Opd} : opW P σ dst k (.lenC q0 q1) = @OpK (ev σ dst (.lenC q0 q1)) ⟨k⟩ := _root_.id rfl
theorem opW_maxI {q0 : Opd} {q1 : Opd} : opW P σ dst k (.maxI q0 q1) = @OpK (ev σ dst (.maxI q0 q1)) ⟨k⟩ := _root_.id rfl
theorem opW_minI {q0 : Opd} {q1 : Opd} : opW P σ dst k (.minI q0 q1) = @OpK (ev σ dst (.minI q0 q1)) ⟨k⟩ := _root_.id rfl
theorem opW_append {q0 : Nat} {q1 : Nat} {q2 : Opd} {q3 : Opd} : opW P σ dst k (.append q0 q1 q2 q3) = @OpK (ev σ dst (.append q0 q1 q2 q3)) ⟨k⟩ := _root_.id rfl
end
/-- A slot's value in its place. -/
def setE : List (Nat × SV) → Nat → SV → List (Nat × SV)
  | [], _, _ => []
  | (j, v) :: r, k, x => bif j == k then (j, x) :: r else (j, v) :: setE r k x
theorem setE_self : ∀ {env : List (Nat × SV)} {k : Nat} {v : SV}, look env k = some v → setE env k v = env
  | [], _, _, h => rfl
  | (j, v) :: r, k, x, h => by
    simp only [look] at h
    simp only [setE]
    cases hj : j == k with
    | true => rw [hj] at h; simp only [cond_true, Option.some.injEq] at h ⊢; rw [h]
    | false => rw [hj] at h; simp only [cond_false] at h ⊢; rw [setE_self h]
def St.setB (σ : St) (g : Nat) (b : Bool) : St := { σ with env := setE σ.env g (.val (.bool b)) }
theorem St.setB_self {σ : St} {g : Nat} {b : Bool} (h : getE σ.env g = .val (.bool b)) : σ.setB g b = σ := by
  unfold St.setB
  rw [setE_self]
  unfold getE at h
  cases hl : look σ.env g with
  | none => rw [hl] at h; simp at h
  | some v => rw [hl] at h; simp only [Option.getD_some] at h; rw [h]
/-- The state is brought to its form ahead of what follows. -/
def NS (σ : St) [k : Hold (St → Prop)] : Prop := k.val σ
theorem nS_mk {a : List (Nat × SV)} {b : List (Nat × Ob)} {c : List Nat} {n : Nat} {k : St → Prop} : @NS ⟨a, b, c, n⟩ ⟨k⟩ = k ⟨a, b, c, n⟩ := _root_.id rfl
/-- A branch, its arms held back. -/
def Br (c : Bool) [A : Hold Prop] [B : Hold Prop] : Prop := (c = true → A.val) ∧ (c = false → B.val)
theorem br_true {A B : Prop} : @Br true ⟨A⟩ ⟨B⟩ = A := by simp [Br]
theorem br_false {A B : Prop} : @Br false ⟨A⟩ ⟨B⟩ = B := by simp [Br]
theorem br_not {c : Bool} {A B : Prop} : @Br (!c) ⟨A⟩ ⟨B⟩ = @Br c ⟨B⟩ ⟨A⟩ := by cases c <;> simp [Br]
theorem br_decide {p : Prop} [Decidable p] {A B : Prop} : @Br (decide p) ⟨A⟩ ⟨B⟩ = ((p → A) ∧ (¬ p → B)) := by
  by_cases h : p <;> simp [Br, h]
theorem br_eqB {a b : Bool} {A B : Prop} : @Br (a == b) ⟨A⟩ ⟨B⟩ = @Br (decide (a = b)) ⟨A⟩ ⟨B⟩ := by cases a <;> cases b <;> rfl
theorem br_and {a b : Bool} {A B : Prop} : @Br (a && b) ⟨A⟩ ⟨B⟩ = @Br a ⟨@Br b ⟨A⟩ ⟨B⟩⟩ ⟨B⟩ := by cases a <;> cases b <;> simp [Br]
theorem br_or {a b : Bool} {A B : Prop} : @Br (a || b) ⟨A⟩ ⟨B⟩ = @Br a ⟨A⟩ ⟨@Br b ⟨A⟩ ⟨B⟩⟩ := by cases a <;> cases b <;> simp [Br]
theorem br_intro {c : Bool} {A B : Prop} (h1 : c = true → A) (h2 : c = false → B) : @Br c ⟨A⟩ ⟨B⟩ := ⟨h1, h2⟩
theorem brd {p : Prop} [Decidable p] {A B : Prop} (h1 : p → A) (h2 : ¬ p → B) : @Br (decide p) ⟨A⟩ ⟨B⟩ := by rw [br_decide]; exact ⟨h1, h2⟩
/-- By what a slot holds. -/
def BrS (v : SV) [A : Hold Prop] [B : Hold Prop] [C : Hold Prop] : Prop := match v with
  | .val (.bool c) => @Br c A B
  | .val (.tuple []) => C.val
  | _ => False
theorem brS_bool {c : Bool} {A B C : Prop} : @BrS (.val (.bool c)) ⟨A⟩ ⟨B⟩ ⟨C⟩ = @Br c ⟨A⟩ ⟨B⟩ := _root_.id rfl
theorem brS_skip {A B C : Prop} : @BrS (.val (.tuple [])) ⟨A⟩ ⟨B⟩ ⟨C⟩ = C := _root_.id rfl
/-- A loop, held back. -/
def TVW (P : Program) (σ : St) [v : Hold VCode] [Q : Hold (Exit → St → Prop)] : Prop := TV P v.val Q.val σ
theorem tvw {P : Program} {σ : St} {v : VCode} {Q : Exit → St → Prop} (h : TV P v Q σ) : @TVW P σ ⟨v⟩ ⟨Q⟩ := h

theorem runT_nil {P : Program} {K : St → Prop} {σ : St} : runT P K [] σ = K σ := _root_.id rfl
theorem runT_none {P : Program} {K : St → Prop} {σ : St} {d : Option Nat} {op : VOp} {r : List VOper} : runT P K (⟨d, op, none⟩ :: r) σ = opW P σ d (fun u => @NS (σ.apply d u) ⟨runT P K r⟩) op := _root_.id rfl
theorem runT_t {P : Program} {K : St → Prop} {σ : St} {d : Option Nat} {op : VOp} {g : Nat} {r : List VOper} : runT P K (⟨d, op, some (g, true)⟩ :: r) σ =
    @BrS (getE σ.env g) ⟨@NS (σ.setB g true) ⟨fun σ' => opW P σ' d (fun u => @NS (σ'.apply d u) ⟨runT P K r⟩) op⟩⟩ ⟨@NS ((σ.setB g false).apply d skipU) ⟨runT P K r⟩⟩ ⟨@NS (σ.apply d skipU) ⟨runT P K r⟩⟩ := by
  simp only [runT]
  cases hg : getE σ.env g with
  | val v =>
    cases v with
    | bool c => cases c <;> simp [gval, BrS, Br, NS, St.setB_self hg]
    | tuple vs => cases vs <;> simp [gval, BrS, NS]
    | _ => simp [gval, BrS]
  | _ => simp [gval, BrS]
theorem runT_f {P : Program} {K : St → Prop} {σ : St} {d : Option Nat} {op : VOp} {g : Nat} {r : List VOper} : runT P K (⟨d, op, some (g, false)⟩ :: r) σ =
    @BrS (getE σ.env g) ⟨@NS ((σ.setB g true).apply d skipU) ⟨runT P K r⟩⟩ ⟨@NS (σ.setB g false) ⟨fun σ' => opW P σ' d (fun u => @NS (σ'.apply d u) ⟨runT P K r⟩) op⟩⟩ ⟨@NS (σ.apply d skipU) ⟨runT P K r⟩⟩ := by
  simp only [runT]
  cases hg : getE σ.env g with
  | val v =>
    cases v with
    | bool c => cases c <;> simp [gval, BrS, Br, NS, St.setB_self hg]
    | tuple vs => cases vs <;> simp [gval, BrS, NS]
    | _ => simp [gval, BrS]
  | _ => simp [gval, BrS]
section
variable {P : Program} {a b : VCode} {Q : Exit → St → Prop} {σ : St}
theorem pw_cond {c : Opd} : pw P (.cond c a b) Q σ = @BrS (val σ c) ⟨pw P a Q σ⟩ ⟨pw P b Q σ⟩ ⟨False⟩ := by
  simp only [pw]
  cases val σ c with
  | val v =>
    cases v with
    | tuple vs => cases vs <;> rfl
    | _ => rfl
  | _ => rfl
theorem pw_skip : pw P .skip Q σ = Q .normal σ := _root_.id rfl
theorem pw_text {ops : List VOper} {dead : List Nat} : pw P (.region ops .text dead) Q σ = runT P (fun σ' => @NS (σ'.drop dead) ⟨Q .normal⟩) ops σ := _root_.id rfl
theorem pw_calm {ops : List VOper} {dead : List Nat} : pw P (.region ops .calm dead) Q σ = runT P (fun σ' => @NS (σ'.drop dead) ⟨Q .normal⟩) ops σ := _root_.id rfl
theorem pw_drawn {ops : List VOper} {dead : List Nat} {ps ms : List (Nat × Nat)} : pw P (.region ops (.drawn ps ms) dead) Q σ = runD P (fun es σ' => chkD σ ps ms es = true ∧ @NS (σ'.drop dead) ⟨Q .normal⟩) ops σ [] := _root_.id rfl
theorem pw_seq : pw P (.seq a b) Q σ = pw P a (fun e σ' => match e with
    | .normal => pw P b Q σ'
    | e => Q e σ') σ := _root_.id rfl
theorem pw_block {id : Nat} : pw P (.block id a) Q σ = pw P a (fun e σ' => match e with
    | .exit i => if i = id then Q .normal σ' else Q (.exit i) σ'
    | e => Q e σ') σ := _root_.id rfl
theorem pw_loop : pw P (.loop a) Q σ = @TVW P σ ⟨.loop a⟩ ⟨Q⟩ := _root_.id rfl
theorem pw_exit {id : Nat} : pw P (.exit id) Q σ = Q (.exit id) σ := _root_.id rfl
theorem pw_scope : pw P (.scope a) Q σ = @TVW P σ ⟨.scope a⟩ ⟨Q⟩ := _root_.id rfl
theorem pw_label {l : Nat} : pw P (.label l) Q σ = Q .normal σ := _root_.id rfl
theorem pw_goto {l : Nat} : pw P (.goto l) Q σ = Q (.goto l) σ := _root_.id rfl
theorem pw_ret : pw P .ret Q σ = Q .ret σ := _root_.id rfl
end
/-- The same, with what was done so far. -/
def NSD (σ : St) (es : List Eff) [k : Hold (St → List Eff → Prop)] : Prop := k.val σ es
theorem nSD_mk {a : List (Nat × SV)} {b : List (Nat × Ob)} {c : List Nat} {n : Nat} {es : List Eff} {k : St → List Eff → Prop} : @NSD ⟨a, b, c, n⟩ es ⟨k⟩ = k ⟨a, b, c, n⟩ es := _root_.id rfl
section
variable {P : Program} {K : List Eff → St → Prop} {σ : St} {d : Option Nat} {op : VOp} {g : Nat} {r : List VOper} {es : List Eff}
theorem runD_nil : runD P K [] σ es = K es σ := _root_.id rfl
theorem runD_none : runD P K (⟨d, op, none⟩ :: r) σ es = opW P σ d (fun u => @NSD (σ.apply d u) (es ++ [⟨idsOf σ op u, d, u⟩]) ⟨runD P K r⟩) op := _root_.id rfl
theorem runD_t : runD P K (⟨d, op, some (g, true)⟩ :: r) σ es =
    @BrS (getE σ.env g) ⟨@NS (σ.setB g true) ⟨fun σ' => opW P σ' d (fun u => @NSD (σ'.apply d u) (es ++ [⟨idsOf σ' op u, d, u⟩]) ⟨runD P K r⟩) op⟩⟩ ⟨@NSD ((σ.setB g false).apply d skipU) (es ++ [⟨[], d, skipU⟩]) ⟨runD P K r⟩⟩ ⟨@NSD (σ.apply d skipU) (es ++ [⟨[], d, skipU⟩]) ⟨runD P K r⟩⟩ := by
  simp only [runD]
  cases hg : getE σ.env g with
  | val v =>
    cases v with
    | bool c => cases c <;> simp [gval, BrS, Br, NS, NSD, St.setB_self hg]
    | tuple vs => cases vs <;> simp [gval, BrS, NSD]
    | _ => simp [gval, BrS]
  | _ => simp [gval, BrS]
theorem runD_f : runD P K (⟨d, op, some (g, false)⟩ :: r) σ es =
    @BrS (getE σ.env g) ⟨@NSD ((σ.setB g true).apply d skipU) (es ++ [⟨[], d, skipU⟩]) ⟨runD P K r⟩⟩ ⟨@NS (σ.setB g false) ⟨fun σ' => opW P σ' d (fun u => @NSD (σ'.apply d u) (es ++ [⟨idsOf σ' op u, d, u⟩]) ⟨runD P K r⟩) op⟩⟩ ⟨@NSD (σ.apply d skipU) (es ++ [⟨[], d, skipU⟩]) ⟨runD P K r⟩⟩ := by
  simp only [runD]
  cases hg : getE σ.env g with
  | val v =>
    cases v with
    | bool c => cases c <;> simp [gval, BrS, Br, NS, NSD, St.setB_self hg]
    | tuple vs => cases vs <;> simp [gval, BrS, NSD]
    | _ => simp [gval, BrS]
  | _ => simp [gval, BrS]
end
attribute [simp ↓] runD_nil runD_none runD_t runD_f
attribute [simp] nSD_mk idsOf VOp.acts VOp.opds refsL SV.refs callFz
attribute [simp ↓] pw_skip pw_text pw_calm pw_drawn pw_seq pw_cond pw_block pw_loop pw_exit pw_scope pw_label pw_goto pw_ret runT_nil runT_none runT_t runT_f opW_call opW_callV opW_move opW_pick opW_alloc opW_box opW_build opW_buildSlice opW_load opW_store opW_nilCheck opW_bin opW_eqB opW_eqN opW_eqP opW_eqA opW_un opW_convI opW_convS opW_mkIface opW_mkFunc opW_mkSlice opW_subS opW_subV opW_fieldAddr opW_field opW_indexAddr opW_indexArr opW_indexS opW_indexA opW_extract opW_lenS opW_lenV opW_lenC opW_maxI opW_minI opW_append
attribute [simp] br_true br_false br_not br_and br_or br_eqB brS_bool brS_skip nS_mk opK_some callU_some callA_some
attribute [simp] setE St.setB
attribute [simp] ev val getE look put putD putW eraseE eraseO St.apply St.drop dropKeys inDead okCell okCells cellsOf toIV0 toIVs0 toIV1 toIVs1 toIV toIVs IV.flat IV.flat.flats IV.one binI binS eqC eqL fillSV chunks repeatL rowsOf intOf bound evLoad evStore evPart flatRows callUpd callArgs mkAgg allVal fnPost resAll resIVs resIV resOwn env0 st0 SV.noRef SV.noRefs Ob.noRef noRefE noRefO SV.erase eraseL Ob.erase Op.bytesLess

end Go.Vs
