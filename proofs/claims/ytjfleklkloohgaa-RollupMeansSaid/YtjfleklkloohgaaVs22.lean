/- Value semantics, part 22: how a proof steps through the small code by 'simp'. No conditions. -/
import Derived.Test.YtjfleklkloohgaaVm3
set_option linter.unusedVariables false
set_option linter.unusedSimpArgs false
namespace Go.Vs

universe u
/-- What 'simp' is to leave alone: it does not look into an argument of a class. -/
class Hold (α : Sort u) where
  val : α

/-- A call, its rest held back. -/
def CallW (gl : List (Nat × List IV)) (P : Program) (g : FuncId) (ivs : List IV) [k : Hold (Res → Prop)] : Prop := ∃ r, FnR gl P g ivs r ∧ k.val r
theorem callW_imm {gl : List (Nat × List IV)} {P : Program} {g : FuncId} {ivs : List IV} {k : Res → Prop} {v : IV} (h : Fn gl P g ivs v) (hk : k (.imm v)) : @CallW gl P g ivs ⟨k⟩ := ⟨_, h, hk⟩
theorem callW_own {gl : List (Nat × List IV)} {P : Program} {g : FuncId} {ivs : List IV} {k : Res → Prop} {s : Nat} {rows : List (List IV)} (h : FnR gl P g ivs (.own s rows)) (hk : k (.own s rows)) : @CallW gl P g ivs ⟨k⟩ := ⟨_, h, hk⟩
def CallA (gl : List (Nat × List IV)) (P : Program) (a : Option (FuncId × List IV × List Nat)) [k : Hold (List Nat → Res → Prop)] : Prop := match a with
  | some (g, ivs, fz) => @CallW gl P g ivs ⟨k.val fz⟩
  | none => False
theorem callA_some {gl : List (Nat × List IV)} {P : Program} {g : FuncId} {ivs : List IV} {fz : List Nat} {k : List Nat → Res → Prop} : @CallA gl P (some (g, ivs, fz)) ⟨k⟩ = @CallW gl P g ivs ⟨fun r => k fz r⟩ := _root_.id rfl
/-- One operation, its rest held back. -/
def OpK (o : Option Upd) [k : Hold (Upd → Prop)] : Prop := match o with
  | some u => u.side ∧ k.val u
  | none => False
theorem opK_some {u : Upd} {k : Upd → Prop} : @OpK (some u) ⟨k⟩ = (u.side ∧ k u) := _root_.id rfl
def CallU (o : Option Upd) [k : Hold (Upd → Prop)] : Prop := match o with
  | some u => k.val u
  | none => False
theorem callU_some {u : Upd} {k : Upd → Prop} : @CallU (some u) ⟨k⟩ = k u := _root_.id rfl
theorem opW_call {P : Program} {σ : St} {dst : Option Nat} {k : Upd → Prop} {f : Nat} {args : List Opd} : opW P σ dst k (.call f args) = @CallA σ.gl P (callArgs σ (.val (.fn f [])) args) ⟨fun fz r => @CallU (callUpd dst fz r) ⟨k⟩⟩ := by
  simp only [opW, CallA, CallU, CallW]; rfl
theorem opW_callV {P : Program} {σ : St} {dst : Option Nat} {k : Upd → Prop} {f : Opd} {args : List Opd} : opW P σ dst k (.callV f args) = @CallA σ.gl P (callArgs σ (val σ f) args) ⟨fun fz r => @CallU (callUpd dst fz r) ⟨k⟩⟩ := by
  simp only [opW, CallA, CallU, CallW]; rfl
section
variable {P : Program} {σ : St} {dst : Option Nat} {k : Upd → Prop}
theorem opW_move {q0 : Opd} : opW P σ dst k (.move q0) = @OpK (ev σ dst (.move q0)) ⟨k⟩ := _root_.id rfl
theorem opW_pick {q0 : Opd} {q1 : Opd} {q2 : Opd} : opW P σ dst k (.pick q0 q1 q2) = @OpK (ev σ dst (.pick q0 q1 q2)) ⟨k⟩ := _root_.id rfl
theorem opW_alloc {q0 : List SV} : opW P σ dst k (.alloc q0) = @OpK (ev σ dst (.alloc q0)) ⟨k⟩ := _root_.id rfl
theorem opW_box {q0 : Opd} : opW P σ dst k (.box q0) = @OpK (ev σ dst (.box q0)) ⟨k⟩ := _root_.id rfl
theorem opW_build {q0 : List SV} {q1 : List (Nat × Nat × Opd)} : opW P σ dst k (.build q0 q1) = @OpK (ev σ dst (.build q0 q1)) ⟨k⟩ := _root_.id rfl
theorem opW_buildSlice {q0 : Nat} {q1 : Nat} {q2 : List SV} {q3 : List (Nat × Nat × Opd)} : opW P σ dst k (.buildSlice q0 q1 q2 q3) = @OpK (ev σ dst (.buildSlice q0 q1 q2 q3)) ⟨k⟩ := _root_.id rfl
theorem opW_load {q0 : Option Nat} {q1 : Opd} : opW P σ dst k (.load q0 q1) = @OpK (ev σ dst (.load q0 q1)) ⟨k⟩ := _root_.id rfl
theorem opW_store {q0 : Nat} {q1 : Opd} {q2 : Opd} : opW P σ dst k (.store q0 q1 q2) = @OpK (ev σ dst (.store q0 q1 q2)) ⟨k⟩ := _root_.id rfl
theorem opW_nilCheck {q0 : Opd} : opW P σ dst k (.nilCheck q0) = @OpK (ev σ dst (.nilCheck q0)) ⟨k⟩ := _root_.id rfl
theorem opW_bin {q0 : BinOp} {q1 : Opd} {q2 : Opd} : opW P σ dst k (.bin q0 q1 q2) = @OpK (ev σ dst (.bin q0 q1 q2)) ⟨k⟩ := _root_.id rfl
theorem opW_eqB {q0 : Bool} {q1 : Opd} {q2 : Opd} : opW P σ dst k (.eqB q0 q1 q2) = @OpK (ev σ dst (.eqB q0 q1 q2)) ⟨k⟩ := _root_.id rfl
theorem opW_eqN {q0 : Bool} {q1 : Opd} : opW P σ dst k (.eqN q0 q1) = @OpK (ev σ dst (.eqN q0 q1)) ⟨k⟩ := _root_.id rfl
theorem opW_eqP {q0 : Bool} {q1 : Opd} : opW P σ dst k (.eqP q0 q1) = @OpK (ev σ dst (.eqP q0 q1)) ⟨k⟩ := _root_.id rfl
theorem opW_eqS {q0 : Bool} {q1 : Opd} : opW P σ dst k (.eqS q0 q1) = @OpK (ev σ dst (.eqS q0 q1)) ⟨k⟩ := _root_.id rfl
theorem opW_eqA {q0 : Bool} {q1 : List LK} {q2 : Opd} {q3 : Opd} : opW P σ dst k (.eqA q0 q1 q2 q3) = @OpK (ev σ dst (.eqA q0 q1 q2 q3)) ⟨k⟩ := _root_.id rfl
theorem opW_un {q0 : UnOp} {q1 : Opd} : opW P σ dst k (.un q0 q1) = @OpK (ev σ dst (.un q0 q1)) ⟨k⟩ := _root_.id rfl
theorem opW_convI {q0 : IntKind} {q1 : Opd} : opW P σ dst k (.convI q0 q1) = @OpK (ev σ dst (.convI q0 q1)) ⟨k⟩ := _root_.id rfl
theorem opW_convS {q0 : Opd} : opW P σ dst k (.convS q0) = @OpK (ev σ dst (.convS q0)) ⟨k⟩ := _root_.id rfl
theorem opW_mkIface {q0 : Nat} {q1 : Opd} : opW P σ dst k (.mkIface q0 q1) = @OpK (ev σ dst (.mkIface q0 q1)) ⟨k⟩ := _root_.id rfl
theorem opW_mkFunc {q0 : Nat} {q1 : List Opd} : opW P σ dst k (.mkFunc q0 q1) = @OpK (ev σ dst (.mkFunc q0 q1)) ⟨k⟩ := _root_.id rfl
theorem opW_mkSlice {q0 : Nat} {q1 : Nat} {q2 : List SV} {q3 : Opd} {q4 : Opd} : opW P σ dst k (.mkSlice q0 q1 q2 q3 q4) = @OpK (ev σ dst (.mkSlice q0 q1 q2 q3 q4)) ⟨k⟩ := _root_.id rfl
theorem opW_subS {q0 : Opd} {q1 : Option Opd} {q2 : Option Opd} : opW P σ dst k (.subS q0 q1 q2) = @OpK (ev σ dst (.subS q0 q1 q2)) ⟨k⟩ := _root_.id rfl
theorem opW_subV {q0 : Nat} {q1 : Opd} {q2 : Option Opd} {q3 : Option Opd} {q4 : Option Opd} : opW P σ dst k (.subV q0 q1 q2 q3 q4) = @OpK (ev σ dst (.subV q0 q1 q2 q3 q4)) ⟨k⟩ := _root_.id rfl
theorem opW_fieldAddr {q0 : Nat} {q1 : Opd} : opW P σ dst k (.fieldAddr q0 q1) = @OpK (ev σ dst (.fieldAddr q0 q1)) ⟨k⟩ := _root_.id rfl
theorem opW_field {q0 : Nat} {q1 : Option Nat} {q2 : Opd} : opW P σ dst k (.field q0 q1 q2) = @OpK (ev σ dst (.field q0 q1 q2)) ⟨k⟩ := _root_.id rfl
theorem opW_indexAddr {q0 : Nat} {q1 : Opd} {q2 : Opd} : opW P σ dst k (.indexAddr q0 q1 q2) = @OpK (ev σ dst (.indexAddr q0 q1 q2)) ⟨k⟩ := _root_.id rfl
theorem opW_indexArr {q0 : Nat} {q1 : Nat} {q2 : Opd} {q3 : Opd} : opW P σ dst k (.indexArr q0 q1 q2 q3) = @OpK (ev σ dst (.indexArr q0 q1 q2 q3)) ⟨k⟩ := _root_.id rfl
theorem opW_indexS {q0 : Opd} {q1 : Opd} : opW P σ dst k (.indexS q0 q1) = @OpK (ev σ dst (.indexS q0 q1)) ⟨k⟩ := _root_.id rfl
theorem opW_indexA {q0 : Nat} {q1 : Nat} {q2 : Option Nat} {q3 : Opd} {q4 : Opd} : opW P σ dst k (.indexA q0 q1 q2 q3 q4) = @OpK (ev σ dst (.indexA q0 q1 q2 q3 q4)) ⟨k⟩ := _root_.id rfl
theorem opW_extract {q0 : Opd} {q1 : Nat} : opW P σ dst k (.extract q0 q1) = @OpK (ev σ dst (.extract q0 q1)) ⟨k⟩ := _root_.id rfl
theorem opW_lenS {q0 : Opd} : opW P σ dst k (.lenS q0) = @OpK (ev σ dst (.lenS q0)) ⟨k⟩ := _root_.id rfl
theorem opW_lenV {q0 : Opd} : opW P σ dst k (.lenV q0) = @OpK (ev σ dst (.lenV q0)) ⟨k⟩ := _root_.id rfl
theorem opW_lenC {q0 : Nat} {q1 : Opd} : opW P σ dst k (.lenC q0 q1) = @OpK (ev σ dst (.lenC q0 q1)) ⟨k⟩ := _root_.id rfl
theorem opW_maxI {q0 : Opd} {q1 : Opd} : opW P σ dst k (.maxI q0 q1) = @OpK (ev σ dst (.maxI q0 q1)) ⟨k⟩ := _root_.id rfl
theorem opW_minI {q0 : Opd} {q1 : Opd} : opW P σ dst k (.minI q0 q1) = @OpK (ev σ dst (.minI q0 q1)) ⟨k⟩ := _root_.id rfl
theorem opW_clear {q0 : List SV} {q1 : Opd} : opW P σ dst k (.clear q0 q1) = @OpK (ev σ dst (.clear q0 q1)) ⟨k⟩ := _root_.id rfl
theorem opW_copy {q0 : Nat} {q1 : Opd} {q2 : Opd} : opW P σ dst k (.copy q0 q1 q2) = @OpK (ev σ dst (.copy q0 q1 q2)) ⟨k⟩ := _root_.id rfl
theorem opW_append {q0 : Nat} {q1 : Nat} {q2 : Opd} {q3 : Opd} : opW P σ dst k (.append q0 q1 q2 q3) = @OpK (ev σ dst (.append q0 q1 q2 q3)) ⟨k⟩ := _root_.id rfl
end
/-- A slot's value in its place. -/
def setE : List (Nat × SV) → Nat → SV → List (Nat × SV)
  | [], _, _ => []
  | (j, v) :: r, k, x => bif j == k then (j, x) :: r else (j, v) :: setE r k x
theorem setE_self : ∀ {env : List (Nat × SV)} {k : Nat} {v : SV}, look env k = some v → setE env k v = env
  | [], _, _, h => rfl
  | (j, v) :: r, k, x, h => by
    simp only [look] at h
    simp only [setE]
    cases hj : j == k with
    | true => rw [hj] at h; simp only [cond_true, Option.some.injEq] at h ⊢; rw [h]
    | false => rw [hj] at h; simp only [cond_false] at h ⊢; rw [setE_self h]
def St.setB (σ : St) (g : Nat) (b : Bool) : St := { σ with env := setE σ.env g (.val (.bool b)) }
theorem St.setB_self {σ : St} {g : Nat} {b : Bool} (h : getE σ.env g = .val (.bool b)) : σ.setB g b = σ := by
  unfold St.setB
  rw [setE_self]
  unfold getE at h
  cases hl : look σ.env g with
  | none => rw [hl] at h; simp at h
  | some v => rw [hl] at h; simp only [Option.getD_some] at h; rw [h]
/-- The state is brought to its form ahead of what follows. -/
def NS (σ : St) [k : Hold (St → Prop)] : Prop := k.val σ
theorem nS_mk {a : List (Nat × SV)} {b : List (Nat × Ob)} {c : List Nat} {n : Nat} {gl : List (Nat × List IV)} {k : St → Prop} : @NS ⟨a, b, c, n, gl⟩ ⟨k⟩ = k ⟨a, b, c, n, gl⟩ := _root_.id rfl
/-- A branch, its arms held back. -/
def Br (c : Bool) [A : Hold Prop] [B : Hold Prop] : Prop := (c = true → A.val) ∧ (c = false → B.val)
theorem br_true {A B : Prop} : @Br true ⟨A⟩ ⟨B⟩ = A := by simp [Br]
theorem br_false {A B : Prop} : @Br false ⟨A⟩ ⟨B⟩ = B := by simp [Br]
theorem br_not {c : Bool} {A B : Prop} : @Br (!c) ⟨A⟩ ⟨B⟩ = @Br c ⟨B⟩ ⟨A⟩ := by cases c <;> simp [Br]
theorem br_decide {p : Prop} [Decidable p] {A B : Prop} : @Br (decide p) ⟨A⟩ ⟨B⟩ = ((p → A) ∧ (¬ p → B)) := by
  by_cases h : p <;> simp [Br, h]
theorem br_eqB {a b : Bool} {A B : Prop} : @Br (a == b) ⟨A⟩ ⟨B⟩ = @Br (decide (a = b)) ⟨A⟩ ⟨B⟩ := by cases a <;> cases b <;> rfl
theorem br_and {a b : Bool} {A B : Prop} : @Br (a && b) ⟨A⟩ ⟨B⟩ = @Br a ⟨@Br b ⟨A⟩ ⟨B⟩⟩ ⟨B⟩ := by cases a <;> cases b <;> simp [Br]
theorem br_or {a b : Bool} {A B : Prop} : @Br (a || b) ⟨A⟩ ⟨B⟩ = @Br a ⟨A⟩ ⟨@Br b ⟨A⟩ ⟨B⟩⟩ := by cases a <;> cases b <;> simp [Br]
theorem br_intro {c : Bool} {A B : Prop} (h1 : c = true → A) (h2 : c = false → B) : @Br c ⟨A⟩ ⟨B⟩ := ⟨h1, h2⟩
theorem brd {p : Prop} [Decidable p] {A B : Prop} (h1 : p → A) (h2 : ¬ p → B) : @Br (decide p) ⟨A⟩ ⟨B⟩ := by rw [br_decide]; exact ⟨h1, h2⟩
/-- By what a slot holds. -/
def BrS (v : SV) [A : Hold Prop] [B : Hold Prop] [C : Hold Prop] : Prop := match v with
  | .val (.bool c) => @Br c A B
  | .val (.tuple []) => C.val
  | _ => False
theorem brS_bool {c : Bool} {A B C : Prop} : @BrS (.val (.bool c)) ⟨A⟩ ⟨B⟩ ⟨C⟩ = @Br c ⟨A⟩ ⟨B⟩ := _root_.id rfl
theorem brS_skip {A B C : Prop} : @BrS (.val (.tuple [])) ⟨A⟩ ⟨B⟩ ⟨C⟩ = C := _root_.id rfl
/-- By a condition; one that is not known goes both ways. -/
def BrC (v : SV) [A : Hold Prop] [B : Hold Prop] : Prop := match v with
  | .val (.bool c) => @Br c A B
  | .anyB => A.val ∧ B.val
  | _ => False
theorem brC_bool {c : Bool} {A B : Prop} : @BrC (.val (.bool c)) ⟨A⟩ ⟨B⟩ = @Br c ⟨A⟩ ⟨B⟩ := _root_.id rfl
theorem brC_any {A B : Prop} : @BrC .anyB ⟨A⟩ ⟨B⟩ = (A ∧ B) := _root_.id rfl
/-- A loop, held back. -/
def TVW (P : Program) (σ : St) [v : Hold VCode] [Q : Hold (Exit → St → Prop)] : Prop := TV P v.val Q.val σ
theorem tvw {P : Program} {σ : St} {v : VCode} {Q : Exit → St → Prop} (h : TV P v Q σ) : @TVW P σ ⟨v⟩ ⟨Q⟩ := h

theorem runT_nil {P : Program} {K : St → Prop} {σ : St} : runT P K [] σ = K σ := _root_.id rfl
theorem runT_none {P : Program} {K : St → Prop} {σ : St} {d : Option Nat} {op : VOp} {r : List VOper} : runT P K (⟨d, op, none⟩ :: r) σ = opW P σ d (fun u => @NS (σ.apply d u) ⟨runT P K r⟩) op := _root_.id rfl
theorem runT_t {P : Program} {K : St → Prop} {σ : St} {d : Option Nat} {op : VOp} {g : Nat} {r : List VOper} : runT P K (⟨d, op, some (g, true)⟩ :: r) σ =
    @BrS (getE σ.env g) ⟨@NS (σ.setB g true) ⟨fun σ' => opW P σ' d (fun u => @NS (σ'.apply d u) ⟨runT P K r⟩) op⟩⟩ ⟨@NS ((σ.setB g false).apply d skipU) ⟨runT P K r⟩⟩ ⟨@NS (σ.apply d skipU) ⟨runT P K r⟩⟩ := by
  simp only [runT]
  cases hg : getE σ.env g with
  | val v =>
    cases v with
    | bool c => cases c <;> simp [gval, BrS, Br, NS, St.setB_self hg]
    | tuple vs => cases vs <;> simp [gval, BrS, NS]
    | _ => simp [gval, BrS]
  | _ => simp [gval, BrS]
theorem runT_f {P : Program} {K : St → Prop} {σ : St} {d : Option Nat} {op : VOp} {g : Nat} {r : List VOper} : runT P K (⟨d, op, some (g, false)⟩ :: r) σ =
    @BrS (getE σ.env g) ⟨@NS ((σ.setB g true).apply d skipU) ⟨runT P K r⟩⟩ ⟨@NS (σ.setB g false) ⟨fun σ' => opW P σ' d (fun u => @NS (σ'.apply d u) ⟨runT P K r⟩) op⟩⟩ ⟨@NS (σ.apply d skipU) ⟨runT P K r⟩⟩ := by
  simp only [runT]
  cases hg : getE σ.env g with
  | val v =>
    cases v with
    | bool c => cases c <;> simp [gval, BrS, Br, NS, St.setB_self hg]
    | tuple vs => cases vs <;> simp [gval, BrS, NS]
    | _ => simp [gval, BrS]
  | _ => simp [gval, BrS]
/-- A call that turns objects, its rest held back. -/
def MCallW (P : Program) (σ : St) (dst : Option Nat) (fv : SV) (args : List Opd) [K : Hold (St → Prop)] : Prop := MCall P σ dst fv args K.val
theorem callM {P : Program} {σ : St} {dst : Option Nat} {fv : SV} {args : List Opd} {K : St → Prop} {k : FuncId} {vals : List SV} {c : MC} (ρ : List (Nat × Nat)) (fz : List Nat) (h2 : FnM σ.gl P k c) (h1 : mVals σ fv args = some (k, vals)) (h3 : mOk σ ρ c = true) (h4 : mObjs σ.objs ρ c.objs)
    (h5 : mArgs σ.objs ρ vals c.args fz) (h6 : mFz ρ fz c.objs = true) (h7 : @NS (σ.mapply dst ρ c fz) ⟨K⟩) : @MCallW P σ dst fv args ⟨K⟩ := ⟨k, vals, c, ρ, fz, h1, h2, h3, h4, h5, h6, h7⟩
section
variable {P : Program} {σ : St} {dst : Option Nat} {K : St → Prop}
theorem opM_move {q0 : Opd} : opM P σ dst K (.move q0) = opW P σ dst (fun u => @NS (σ.apply dst u) ⟨K⟩) (.move q0) := _root_.id rfl
theorem opM_pick {q0 : Opd} {q1 : Opd} {q2 : Opd} : opM P σ dst K (.pick q0 q1 q2) = opW P σ dst (fun u => @NS (σ.apply dst u) ⟨K⟩) (.pick q0 q1 q2) := _root_.id rfl
theorem opM_alloc {q0 : List SV} : opM P σ dst K (.alloc q0) = opW P σ dst (fun u => @NS (σ.apply dst u) ⟨K⟩) (.alloc q0) := _root_.id rfl
theorem opM_box {q0 : Opd} : opM P σ dst K (.box q0) = opW P σ dst (fun u => @NS (σ.apply dst u) ⟨K⟩) (.box q0) := _root_.id rfl
theorem opM_build {q0 : List SV} {q1 : List (Nat × Nat × Opd)} : opM P σ dst K (.build q0 q1) = opW P σ dst (fun u => @NS (σ.apply dst u) ⟨K⟩) (.build q0 q1) := _root_.id rfl
theorem opM_buildSlice {q0 : Nat} {q1 : Nat} {q2 : List SV} {q3 : List (Nat × Nat × Opd)} : opM P σ dst K (.buildSlice q0 q1 q2 q3) = opW P σ dst (fun u => @NS (σ.apply dst u) ⟨K⟩) (.buildSlice q0 q1 q2 q3) := _root_.id rfl
theorem opM_load {q0 : Option Nat} {q1 : Opd} : opM P σ dst K (.load q0 q1) = opW P σ dst (fun u => @NS (σ.apply dst u) ⟨K⟩) (.load q0 q1) := _root_.id rfl
theorem opM_store {q0 : Nat} {q1 : Opd} {q2 : Opd} : opM P σ dst K (.store q0 q1 q2) = opW P σ dst (fun u => @NS (σ.apply dst u) ⟨K⟩) (.store q0 q1 q2) := _root_.id rfl
theorem opM_nilCheck {q0 : Opd} : opM P σ dst K (.nilCheck q0) = opW P σ dst (fun u => @NS (σ.apply dst u) ⟨K⟩) (.nilCheck q0) := _root_.id rfl
theorem opM_bin {q0 : BinOp} {q1 : Opd} {q2 : Opd} : opM P σ dst K (.bin q0 q1 q2) = opW P σ dst (fun u => @NS (σ.apply dst u) ⟨K⟩) (.bin q0 q1 q2) := _root_.id rfl
theorem opM_eqB {q0 : Bool} {q1 : Opd} {q2 : Opd} : opM P σ dst K (.eqB q0 q1 q2) = opW P σ dst (fun u => @NS (σ.apply dst u) ⟨K⟩) (.eqB q0 q1 q2) := _root_.id rfl
theorem opM_eqN {q0 : Bool} {q1 : Opd} : opM P σ dst K (.eqN q0 q1) = opW P σ dst (fun u => @NS (σ.apply dst u) ⟨K⟩) (.eqN q0 q1) := _root_.id rfl
theorem opM_eqP {q0 : Bool} {q1 : Opd} : opM P σ dst K (.eqP q0 q1) = opW P σ dst (fun u => @NS (σ.apply dst u) ⟨K⟩) (.eqP q0 q1) := _root_.id rfl
theorem opM_eqS {q0 : Bool} {q1 : Opd} : opM P σ dst K (.eqS q0 q1) = opW P σ dst (fun u => @NS (σ.apply dst u) ⟨K⟩) (.eqS q0 q1) := _root_.id rfl
theorem opM_eqA {q0 : Bool} {q1 : List LK} {q2 : Opd} {q3 : Opd} : opM P σ dst K (.eqA q0 q1 q2 q3) = opW P σ dst (fun u => @NS (σ.apply dst u) ⟨K⟩) (.eqA q0 q1 q2 q3) := _root_.id rfl
theorem opM_un {q0 : UnOp} {q1 : Opd} : opM P σ dst K (.un q0 q1) = opW P σ dst (fun u => @NS (σ.apply dst u) ⟨K⟩) (.un q0 q1) := _root_.id rfl
theorem opM_convI {q0 : IntKind} {q1 : Opd} : opM P σ dst K (.convI q0 q1) = opW P σ dst (fun u => @NS (σ.apply dst u) ⟨K⟩) (.convI q0 q1) := _root_.id rfl
theorem opM_convS {q0 : Opd} : opM P σ dst K (.convS q0) = opW P σ dst (fun u => @NS (σ.apply dst u) ⟨K⟩) (.convS q0) := _root_.id rfl
theorem opM_mkIface {q0 : Nat} {q1 : Opd} : opM P σ dst K (.mkIface q0 q1) = opW P σ dst (fun u => @NS (σ.apply dst u) ⟨K⟩) (.mkIface q0 q1) := _root_.id rfl
theorem opM_mkFunc {q0 : Nat} {q1 : List Opd} : opM P σ dst K (.mkFunc q0 q1) = opW P σ dst (fun u => @NS (σ.apply dst u) ⟨K⟩) (.mkFunc q0 q1) := _root_.id rfl
theorem opM_mkSlice {q0 : Nat} {q1 : Nat} {q2 : List SV} {q3 : Opd} {q4 : Opd} : opM P σ dst K (.mkSlice q0 q1 q2 q3 q4) = opW P σ dst (fun u => @NS (σ.apply dst u) ⟨K⟩) (.mkSlice q0 q1 q2 q3 q4) := _root_.id rfl
theorem opM_subS {q0 : Opd} {q1 : Option Opd} {q2 : Option Opd} : opM P σ dst K (.subS q0 q1 q2) = opW P σ dst (fun u => @NS (σ.apply dst u) ⟨K⟩) (.subS q0 q1 q2) := _root_.id rfl
theorem opM_subV {q0 : Nat} {q1 : Opd} {q2 : Option Opd} {q3 : Option Opd} {q4 : Option Opd} : opM P σ dst K (.subV q0 q1 q2 q3 q4) = opW P σ dst (fun u => @NS (σ.apply dst u) ⟨K⟩) (.subV q0 q1 q2 q3 q4) := _root_.id rfl
theorem opM_fieldAddr {q0 : Nat} {q1 : Opd} : opM P σ dst K (.fieldAddr q0 q1) = opW P σ dst (fun u => @NS (σ.apply dst u) ⟨K⟩) (.fieldAddr q0 q1) := _root_.id rfl
theorem opM_field {q0 : Nat} {q1 : Option Nat} {q2 : Opd} : opM P σ dst K (.field q0 q1 q2) = opW P σ dst (fun u => @NS (σ.apply dst u) ⟨K⟩) (.field q0 q1 q2) := _root_.id rfl
theorem opM_indexAddr {q0 : Nat} {q1 : Opd} {q2 : Opd} : opM P σ dst K (.indexAddr q0 q1 q2) = opW P σ dst (fun u => @NS (σ.apply dst u) ⟨K⟩) (.indexAddr q0 q1 q2) := _root_.id rfl
theorem opM_indexArr {q0 : Nat} {q1 : Nat} {q2 : Opd} {q3 : Opd} : opM P σ dst K (.indexArr q0 q1 q2 q3) = opW P σ dst (fun u => @NS (σ.apply dst u) ⟨K⟩) (.indexArr q0 q1 q2 q3) := _root_.id rfl
theorem opM_indexS {q0 : Opd} {q1 : Opd} : opM P σ dst K (.indexS q0 q1) = opW P σ dst (fun u => @NS (σ.apply dst u) ⟨K⟩) (.indexS q0 q1) := _root_.id rfl
theorem opM_indexA {q0 : Nat} {q1 : Nat} {q2 : Option Nat} {q3 : Opd} {q4 : Opd} : opM P σ dst K (.indexA q0 q1 q2 q3 q4) = opW P σ dst (fun u => @NS (σ.apply dst u) ⟨K⟩) (.indexA q0 q1 q2 q3 q4) := _root_.id rfl
theorem opM_extract {q0 : Opd} {q1 : Nat} : opM P σ dst K (.extract q0 q1) = opW P σ dst (fun u => @NS (σ.apply dst u) ⟨K⟩) (.extract q0 q1) := _root_.id rfl
theorem opM_lenS {q0 : Opd} : opM P σ dst K (.lenS q0) = opW P σ dst (fun u => @NS (σ.apply dst u) ⟨K⟩) (.lenS q0) := _root_.id rfl
theorem opM_lenV {q0 : Opd} : opM P σ dst K (.lenV q0) = opW P σ dst (fun u => @NS (σ.apply dst u) ⟨K⟩) (.lenV q0) := _root_.id rfl
theorem opM_lenC {q0 : Nat} {q1 : Opd} : opM P σ dst K (.lenC q0 q1) = opW P σ dst (fun u => @NS (σ.apply dst u) ⟨K⟩) (.lenC q0 q1) := _root_.id rfl
theorem opM_maxI {q0 : Opd} {q1 : Opd} : opM P σ dst K (.maxI q0 q1) = opW P σ dst (fun u => @NS (σ.apply dst u) ⟨K⟩) (.maxI q0 q1) := _root_.id rfl
theorem opM_minI {q0 : Opd} {q1 : Opd} : opM P σ dst K (.minI q0 q1) = opW P σ dst (fun u => @NS (σ.apply dst u) ⟨K⟩) (.minI q0 q1) := _root_.id rfl
theorem opM_clear {q0 : List SV} {q1 : Opd} : opM P σ dst K (.clear q0 q1) = opW P σ dst (fun u => @NS (σ.apply dst u) ⟨K⟩) (.clear q0 q1) := _root_.id rfl
theorem opM_copy {q0 : Nat} {q1 : Opd} {q2 : Opd} : opM P σ dst K (.copy q0 q1 q2) = opW P σ dst (fun u => @NS (σ.apply dst u) ⟨K⟩) (.copy q0 q1 q2) := _root_.id rfl
theorem opM_append {q0 : Nat} {q1 : Nat} {q2 : Opd} {q3 : Opd} : opM P σ dst K (.append q0 q1 q2 q3) = opW P σ dst (fun u => @NS (σ.apply dst u) ⟨K⟩) (.append q0 q1 q2 q3) := _root_.id rfl
theorem opM_call {f : Nat} {args : List Opd} : opM P σ dst K (.call f args) = opW P σ dst (fun u => @NS (σ.apply dst u) ⟨K⟩) (.call f args) := _root_.id rfl
theorem opM_callV {f : Opd} {args : List Opd} : opM P σ dst K (.callV f args) = opW P σ dst (fun u => @NS (σ.apply dst u) ⟨K⟩) (.callV f args) := _root_.id rfl
theorem opM_callM {f : Nat} {args : List Opd} : opM P σ dst K (.callM f args) = @MCallW P σ dst (.val (.fn f [])) args ⟨K⟩ := _root_.id rfl
theorem opM_callMV {f : Opd} {args : List Opd} : opM P σ dst K (.callMV f args) = @MCallW P σ dst (val σ f) args ⟨K⟩ := _root_.id rfl
end
theorem runM_nil {P : Program} {K : St → Prop} {σ : St} : runM P K [] σ = K σ := _root_.id rfl
theorem runM_none {P : Program} {K : St → Prop} {σ : St} {d : Option Nat} {op : VOp} {r : List VOper} : runM P K (⟨d, op, none⟩ :: r) σ = opM P σ d (runM P K r) op := _root_.id rfl
theorem runM_t {P : Program} {K : St → Prop} {σ : St} {d : Option Nat} {op : VOp} {g : Nat} {r : List VOper} : runM P K (⟨d, op, some (g, true)⟩ :: r) σ =
    @BrS (getE σ.env g) ⟨@NS (σ.setB g true) ⟨fun σ' => opM P σ' d (runM P K r) op⟩⟩ ⟨@NS ((σ.setB g false).apply d skipU) ⟨runM P K r⟩⟩ ⟨@NS (σ.apply d skipU) ⟨runM P K r⟩⟩ := by
  simp only [runM]
  cases hg : getE σ.env g with
  | val v =>
    cases v with
    | bool c => cases c <;> simp [gval, BrS, Br, NS, St.setB_self hg]
    | tuple vs => cases vs <;> simp [gval, BrS, NS]
    | _ => simp [gval, BrS]
  | _ => simp [gval, BrS]
theorem runM_f {P : Program} {K : St → Prop} {σ : St} {d : Option Nat} {op : VOp} {g : Nat} {r : List VOper} : runM P K (⟨d, op, some (g, false)⟩ :: r) σ =
    @BrS (getE σ.env g) ⟨@NS ((σ.setB g true).apply d skipU) ⟨runM P K r⟩⟩ ⟨@NS (σ.setB g false) ⟨fun σ' => opM P σ' d (runM P K r) op⟩⟩ ⟨@NS (σ.apply d skipU) ⟨runM P K r⟩⟩ := by
  simp only [runM]
  cases hg : getE σ.env g with
  | val v =>
    cases v with
    | bool c => cases c <;> simp [gval, BrS, Br, NS, St.setB_self hg]
    | tuple vs => cases vs <;> simp [gval, BrS, NS]
    | _ => simp [gval, BrS]
  | _ => simp [gval, BrS]
section
variable {P : Program} {a b : VCode} {Q : Exit → St → Prop} {σ : St}
theorem pw_cond {c : Opd} : pw P (.cond c a b) Q σ = @BrC (val σ c) ⟨pw P a Q σ⟩ ⟨pw P b Q σ⟩ := by
  simp only [pw]
  cases val σ c with
  | val v => cases v <;> rfl
  | _ => rfl
theorem pw_skip : pw P .skip Q σ = Q .normal σ := _root_.id rfl
theorem pw_text {ops : List VOper} {dead : List Nat} : pw P (.region ops .text dead) Q σ = runM P (fun σ' => @NS (σ'.drop dead) ⟨Q .normal⟩) ops σ := _root_.id rfl
theorem pw_calm {ops : List VOper} {dead : List Nat} : pw P (.region ops .calm dead) Q σ = runT P (fun σ' => @NS (σ'.drop dead) ⟨Q .normal⟩) ops σ := _root_.id rfl
theorem pw_drawn {ops : List VOper} {dead : List Nat} {ps ms : List (Nat × Nat)} : pw P (.region ops (.drawn ps ms) dead) Q σ = runD P (fun es σ' => chkD σ ps ms es = true ∧ @NS (σ'.drop dead) ⟨Q .normal⟩) ops σ [] := _root_.id rfl
theorem pw_seq : pw P (.seq a b) Q σ = pw P a (fun e σ' => match e with
    | .normal => pw P b Q σ'
    | e => Q e σ') σ := _root_.id rfl
theorem pw_block {id : Nat} : pw P (.block id a) Q σ = pw P a (fun e σ' => match e with
    | .exit i => if i = id then Q .normal σ' else Q (.exit i) σ'
    | e => Q e σ') σ := _root_.id rfl
theorem pw_loop : pw P (.loop a) Q σ = @TVW P σ ⟨.loop a⟩ ⟨Q⟩ := _root_.id rfl
theorem pw_exit {id : Nat} : pw P (.exit id) Q σ = Q (.exit id) σ := _root_.id rfl
theorem pw_scope : pw P (.scope a) Q σ = @TVW P σ ⟨.scope a⟩ ⟨Q⟩ := _root_.id rfl
theorem pw_label {l : Nat} : pw P (.label l) Q σ = Q .normal σ := _root_.id rfl
theorem pw_goto {l : Nat} : pw P (.goto l) Q σ = Q (.goto l) σ := _root_.id rfl
theorem pw_ret : pw P .ret Q σ = Q .ret σ := _root_.id rfl
end
/-- The same, with what was done so far. -/
def NSD (σ : St) (es : List Eff) [k : Hold (St → List Eff → Prop)] : Prop := k.val σ es
theorem nSD_mk {a : List (Nat × SV)} {b : List (Nat × Ob)} {c : List Nat} {n : Nat} {gl : List (Nat × List IV)} {es : List Eff} {k : St → List Eff → Prop} : @NSD ⟨a, b, c, n, gl⟩ es ⟨k⟩ = k ⟨a, b, c, n, gl⟩ es := _root_.id rfl
section
variable {P : Program} {K : List Eff → St → Prop} {σ : St} {d : Option Nat} {op : VOp} {g : Nat} {r : List VOper} {es : List Eff}
theorem runD_nil : runD P K [] σ es = K es σ := _root_.id rfl
theorem runD_none : runD P K (⟨d, op, none⟩ :: r) σ es = opW P σ d (fun u => @NSD (σ.apply d u) (es ++ [⟨idsOf σ op u, d, u⟩]) ⟨runD P K r⟩) op := _root_.id rfl
theorem runD_t : runD P K (⟨d, op, some (g, true)⟩ :: r) σ es =
    @BrS (getE σ.env g) ⟨@NS (σ.setB g true) ⟨fun σ' => opW P σ' d (fun u => @NSD (σ'.apply d u) (es ++ [⟨idsOf σ' op u, d, u⟩]) ⟨runD P K r⟩) op⟩⟩ ⟨@NSD ((σ.setB g false).apply d skipU) (es ++ [⟨[], d, skipU⟩]) ⟨runD P K r⟩⟩ ⟨@NSD (σ.apply d skipU) (es ++ [⟨[], d, skipU⟩]) ⟨runD P K r⟩⟩ := by
  simp only [runD]
  cases hg : getE σ.env g with
  | val v =>
    cases v with
    | bool c => cases c <;> simp [gval, BrS, Br, NS, NSD, St.setB_self hg]
    | tuple vs => cases vs <;> simp [gval, BrS, NSD]
    | _ => simp [gval, BrS]
  | _ => simp [gval, BrS]
theorem runD_f : runD P K (⟨d, op, some (g, false)⟩ :: r) σ es =
    @BrS (getE σ.env g) ⟨@NSD ((σ.setB g true).apply d skipU) (es ++ [⟨[], d, skipU⟩]) ⟨runD P K r⟩⟩ ⟨@NS (σ.setB g false) ⟨fun σ' => opW P σ' d (fun u => @NSD (σ'.apply d u) (es ++ [⟨idsOf σ' op u, d, u⟩]) ⟨runD P K r⟩) op⟩⟩ ⟨@NSD (σ.apply d skipU) (es ++ [⟨[], d, skipU⟩]) ⟨runD P K r⟩⟩ := by
  simp only [runD]
  cases hg : getE σ.env g with
  | val v =>
    cases v with
    | bool c => cases c <;> simp [gval, BrS, Br, NS, NSD, St.setB_self hg]
    | tuple vs => cases vs <;> simp [gval, BrS, NSD]
    | _ => simp [gval, BrS]
  | _ => simp [gval, BrS]
end
/-- At a loop's end: a state that the loop may begin with again, lower. -/
def LoopEnd {ι : Type} (σ : St) (k : Nat) [I : Hold (ι → St)] [A : Hold (ι → Prop)] [m : Hold (ι → Nat)] : Prop := ∃ j, A.val j ∧ m.val j < k ∧ Weak σ (I.val j)
theorem loopEnd {ι : Type} {σ : St} {k : Nat} {I : ι → St} {A : ι → Prop} {m : ι → Nat} (j : ι) (h1 : A j) (h2 : m j < k) (h3 : Weak σ (I j)) : @LoopEnd ι σ k ⟨I⟩ ⟨A⟩ ⟨m⟩ := ⟨j, h1, h2, h3⟩
theorem loopW {P : Program} (hm : P.follows .mixedOrders = true) {ι : Type} (I : ι → St) (A : ι → Prop) (m : ι → Nat) (i0 : ι) {b : VCode} {Q : Exit → St → Prop} {σ : St} (hA : A i0) (h0 : Weak σ (I i0)) (hn : ∀ i, (I i).n = σ.n)
    (round : ∀ i, A i → pw P b (fun e σ' => match e with
      | .normal => @LoopEnd ι σ' (m i) ⟨I⟩ ⟨A⟩ ⟨m⟩
      | e => Q e σ') (I i)) : @TVW P σ ⟨.loop b⟩ ⟨Q⟩ := tv_loop hm I A m i0 hA h0 hn round
/-- At a jump back. -/
def JumpEnd {ι : Type} (σ : St) (l' l : Nat) (k : Option Nat) [I : Hold (ι → St)] [A : Hold (ι → Prop)] [m : Hold (ι → Nat)] : Prop := l' = l ∧ ∃ j, A.val j ∧ (∀ k', k = some k' → m.val j < k') ∧ Weak σ (I.val j)
theorem jumpEnd {ι : Type} {σ : St} {l : Nat} {k : Nat} {I : ι → St} {A : ι → Prop} {m : ι → Nat} (j : ι) (h1 : A j) (h2 : m j < k) (h3 : Weak σ (I j)) : @JumpEnd ι σ l l (some k) ⟨I⟩ ⟨A⟩ ⟨m⟩ := ⟨rfl, j, h1, fun k' e => by simp only [Option.some.injEq] at e; subst e; exact h2, h3⟩
theorem jumpIn {ι : Type} {σ : St} {l : Nat} {I : ι → St} {A : ι → Prop} {m : ι → Nat} (j : ι) (h1 : A j) (h3 : Weak σ (I j)) : @JumpEnd ι σ l l none ⟨I⟩ ⟨A⟩ ⟨m⟩ := ⟨rfl, j, h1, fun k' e => by simp at e, h3⟩
theorem scopeW {P : Program} (hm : P.follows .mixedOrders = true) {ι : Type} (l : Nat) (I : ι → St) (A : ι → Prop) (m : ι → Nat) {b r : VCode} {Q : Exit → St → Prop} {σ : St} (hf : vfind b l = some r) (hn : ∀ i, (I i).n = σ.n)
    (first : pw P b (fun e σ' => match e with
      | .goto l' => @JumpEnd ι σ' l' l none ⟨I⟩ ⟨A⟩ ⟨m⟩
      | e => Q e σ') σ)
    (round : ∀ i, A i → pw P r (fun e σ' => match e with
      | .goto l' => @JumpEnd ι σ' l' l (some (m i)) ⟨I⟩ ⟨A⟩ ⟨m⟩
      | e => Q e σ') (I i)) : @TVW P σ ⟨.scope b⟩ ⟨Q⟩ :=
  tv_scope hm l I A m hf hn
    (pw_mono b (fun e σ' h => by
      cases e <;> first | exact h | (obtain ⟨h1, j, h2, _, h3⟩ := h; exact ⟨h1, j, h2, h3⟩)) first)
    (fun i hi => pw_mono r (fun e σ' h => by
      cases e <;> first | exact h | (obtain ⟨h1, j, h2, h4, h3⟩ := h; exact ⟨h1, j, h2, h4 _ rfl, h3⟩)) (round i hi))
attribute [simp ↓] runD_nil runD_none runD_t runD_f
attribute [simp] nSD_mk idsOf VOp.acts VOp.opds refsL SV.refs callFz
attribute [simp ↓] runM_nil runM_none runM_t runM_f opW_clear opW_copy opM_move opM_pick opM_alloc opM_box opM_build opM_buildSlice opM_load opM_store opM_nilCheck opM_bin opM_eqB opM_eqN opM_eqP opM_eqS opM_eqA opM_un opM_convI opM_convS opM_mkIface opM_mkFunc opM_mkSlice opM_subS opM_subV opM_fieldAddr opM_field opM_indexAddr opM_indexArr opM_indexS opM_indexA opM_extract opM_lenS opM_lenV opM_lenC opM_maxI opM_minI opM_clear opM_copy opM_append opM_call opM_callV opM_callM opM_callMV
attribute [simp ↓] pw_skip pw_text pw_calm pw_drawn pw_seq pw_cond pw_block pw_loop pw_exit pw_scope pw_label pw_goto pw_ret runT_nil runT_none runT_t runT_f opW_call opW_callV opW_move opW_pick opW_alloc opW_box opW_build opW_buildSlice opW_load opW_store opW_nilCheck opW_bin opW_eqB opW_eqN opW_eqP opW_eqS opW_eqA opW_un opW_convI opW_convS opW_mkIface opW_mkFunc opW_mkSlice opW_subS opW_subV opW_fieldAddr opW_field opW_indexAddr opW_indexArr opW_indexS opW_indexA opW_extract opW_lenS opW_lenV opW_lenC opW_maxI opW_minI opW_append
attribute [simp] br_true br_false br_not br_and br_or br_eqB brS_bool brC_bool brC_any brS_skip nS_mk opK_some callU_some callA_some
attribute [simp] setE St.setB
attribute [simp] evSub Vs.ren SV.ren renL Ob.ren renO mPut St.mapply mFlat SV.flat SV.flatL Ob.flat flatO stM envS
attribute [simp] ev val getE look put putD putW eraseE eraseO St.apply St.drop dropKeys inDead okCell okCells cellsOf toIV0 toIVs0 toIV1 toIVs1 toIV toIVs IV.flat IV.flat.flats IV.one binI binS eqC eqL fillSV chunks repeatL rowsOf intOf bound evLoad evStore evPart flatRows callUpd callArgs mkAgg allVal fnPost resAll resIVs resIV resOwn env0 st0 SV.noRef SV.noRefs Ob.noRef noRefE noRefO SV.erase eraseL Ob.erase Op.bytesLess

end Go.Vs
