/- Value semantics: calls that turn objects. Names of objects, the contract, what a caller sees of it. No conditions. -/
import Derived.Test.YtjfleklkloohgaaVs18
set_option linter.unusedVariables false
set_option linter.unusedSimpArgs false
namespace Go.Vs

/-- An object's name at the caller. -/
def ren (ρ : List (Nat × Nat)) (i : Nat) : Nat := (look ρ i).getD i
mutual
def SV.ren (ρ : List (Nat × Nat)) : SV → SV
  | .undef => .undef
  | .val v => .val v
  | .nils => .nils
  | .full rows => .full rows
  | .own id ver => .own (Vs.ren ρ id) ver
  | .loc id off => .loc (Vs.ren ρ id) off
  | .eloc id ver i off => .eloc (Vs.ren ρ id) ver i off
  | .view id ver lo hi => .view (Vs.ren ρ id) ver lo hi
  | .agg cells => .agg (renL ρ cells)
  | .clo f caps => .clo f (renL ρ caps)
  | .ifc t v => .ifc t (v.ren ρ)
  | .anyB => .anyB
def renL (ρ : List (Nat × Nat)) : List SV → List SV
  | [] => []
  | x :: r => x.ren ρ :: renL ρ r
end
def Ob.ren (ρ : List (Nat × Nat)) : Ob → Ob
  | .box cells => .box (renL ρ cells)
  | .arr ver s rows => .arr ver s rows
def renO (ρ : List (Nat × Nat)) : List (Nat × Ob) → List (Nat × Ob)
  | [] => []
  | (i, o) :: r => (Vs.ren ρ i, o.ren ρ) :: renO ρ r

/- The names that a value holds, all in a list of them. -/
mutual
def SV.inKeys {α : Type} (l : List (Nat × α)) : SV → Bool
  | .own id _ => (look l id).isSome
  | .loc id _ => (look l id).isSome
  | .eloc id _ _ _ => (look l id).isSome
  | .view id _ _ _ => (look l id).isSome
  | .agg cells => inKeysL l cells
  | .clo _ caps => inKeysL l caps
  | .ifc _ v => v.inKeys l
  | _ => true
def inKeysL {α : Type} (l : List (Nat × α)) : List SV → Bool
  | [] => true
  | x :: r => x.inKeys l && inKeysL l r
end
def Ob.inKeys {α : Type} (l : List (Nat × α)) : Ob → Bool
  | .box cells => inKeysL l cells
  | .arr _ _ _ => true
def inKeysO {α : Type} (l : List (Nat × α)) : List (Nat × Ob) → Bool
  | [] => true
  | (_, o) :: r => o.inKeys l && inKeysO l r

section
variable {w : World} {S : Stab} {μ μ' : Nat → Value} {objs objs' : List (Nat × Ob)} {ρ : List (Nat × Nat)}

/- From the caller's names to the callee's. -/
mutual
theorem SVRel.unren (hl : ∀ i o, look objs' i = some o → look objs (Vs.ren ρ i) = some (o.ren ρ)) (hm : ∀ i o, look objs' i = some o → μ' i = μ (Vs.ren ρ i)) : ∀ (x : SV) (v : Value), SVRel w S μ objs (x.ren ρ) v → SVRel w S μ' objs' x v
  | .undef, _, h => h
  | .val _, _, h => h
  | .nils, _, h => h
  | .full _, _, h => h
  | .own id ver, v, h => by
    intro cv s rows hc
    have := h cv s rows (hl _ _ hc)
    rw [hm _ _ hc]
    exact this
  | .loc id off, v, h => by
    intro cells hc
    have := h _ (hl _ _ hc)
    rw [hm _ _ hc]
    exact this
  | .eloc id ver i off, v, h => by
    intro cv s rows hc
    have := h cv s rows (hl _ _ hc)
    rw [hm _ _ hc]
    exact this
  | .view id ver lo hi, v, h => by
    intro cv s rows hc
    have := h cv s rows (hl _ _ hc)
    rw [hm _ _ hc]
    exact this
  | .agg cells, v, ⟨vs, h1, h2⟩ => ⟨vs, h1, SVOnes.unren hl hm cells _ h2⟩
  | .clo f caps, v, ⟨vs, h1, h2⟩ => ⟨vs, h1, SVList.unren hl hm caps _ h2⟩
  | .ifc t x, v, ⟨u, h1, h2⟩ => ⟨u, h1, SVRel.unren hl hm x u h2⟩
  | .anyB, v, h => h
theorem SVList.unren (hl : ∀ i o, look objs' i = some o → look objs (Vs.ren ρ i) = some (o.ren ρ)) (hm : ∀ i o, look objs' i = some o → μ' i = μ (Vs.ren ρ i)) : ∀ (x : List SV) (v : List Value), SVList w S μ objs (renL ρ x) v → SVList w S μ' objs' x v
  | [], _, h => h
  | x :: xs, v, ⟨u, us, h1, h2, h3⟩ => ⟨u, us, h1, SVRel.unren hl hm x u h2, SVList.unren hl hm xs us h3⟩
theorem SVOnes.unren (hl : ∀ i o, look objs' i = some o → look objs (Vs.ren ρ i) = some (o.ren ρ)) (hm : ∀ i o, look objs' i = some o → μ' i = μ (Vs.ren ρ i)) : ∀ (x : List SV) (v : List Value), SVOnes w S μ objs (renL ρ x) v → SVOnes w S μ' objs' x v
  | [], _, h => h
  | x :: xs, v, ⟨u, us, h1, h0, h2, h3⟩ => ⟨u, us, h1, h0, SVRel.unren hl hm x u h2, SVOnes.unren hl hm xs us h3⟩
end

/- And back: the callee's are 'objs', the caller's 'objs''. -/
mutual
theorem SVRel.renamed (hl : ∀ i o, look objs i = some o → look objs' (Vs.ren ρ i) = some (o.ren ρ)) (hm : ∀ i o, look objs i = some o → μ' (Vs.ren ρ i) = μ i) : ∀ (x : SV) (v : Value), x.inKeys objs = true → SVRel w S μ objs x v → SVRel w S μ' objs' (x.ren ρ) v
  | .undef, _, _, h => h
  | .val _, _, _, h => h
  | .nils, _, _, h => h
  | .full _, _, _, h => h
  | .own id ver, v, hk, h => by
    obtain ⟨o, ho⟩ := Option.isSome_iff_exists.1 hk
    intro cv s rows hc
    have h1 := hl _ _ ho
    rw [hc] at h1
    have h2 := hm _ _ ho
    cases o with
    | box c => simp [Ob.ren] at h1
    | arr a b c =>
      simp only [Ob.ren, Option.some.injEq, Ob.arr.injEq] at h1
      obtain ⟨rfl, rfl, rfl⟩ := h1
      rw [h2]
      exact h _ _ _ ho
  | .loc id off, v, hk, h => by
    obtain ⟨o, ho⟩ := Option.isSome_iff_exists.1 hk
    intro cells hc
    have h1 := hl _ _ ho
    rw [hc] at h1
    have h2 := hm _ _ ho
    cases o with
    | box c => rw [h2]; exact h _ ho
    | arr a b c => simp [Ob.ren] at h1
  | .eloc id ver i off, v, hk, h => by
    obtain ⟨o, ho⟩ := Option.isSome_iff_exists.1 hk
    intro cv s rows hc
    have h1 := hl _ _ ho
    rw [hc] at h1
    have h2 := hm _ _ ho
    cases o with
    | box c => simp [Ob.ren] at h1
    | arr a b c =>
      simp only [Ob.ren, Option.some.injEq, Ob.arr.injEq] at h1
      obtain ⟨rfl, rfl, rfl⟩ := h1
      rw [h2]
      exact h _ _ _ ho
  | .view id ver lo hi, v, hk, h => by
    obtain ⟨o, ho⟩ := Option.isSome_iff_exists.1 hk
    intro cv s rows hc
    have h1 := hl _ _ ho
    rw [hc] at h1
    have h2 := hm _ _ ho
    cases o with
    | box c => simp [Ob.ren] at h1
    | arr a b c =>
      simp only [Ob.ren, Option.some.injEq, Ob.arr.injEq] at h1
      obtain ⟨rfl, rfl, rfl⟩ := h1
      rw [h2]
      exact h _ _ _ ho
  | .agg cells, v, hk, ⟨vs, h1, h2⟩ => ⟨vs, h1, SVOnes.renamed hl hm cells _ hk h2⟩
  | .clo f caps, v, hk, ⟨vs, h1, h2⟩ => ⟨vs, h1, SVList.renamed hl hm caps _ hk h2⟩
  | .ifc t x, v, hk, ⟨u, h1, h2⟩ => ⟨u, h1, SVRel.renamed hl hm x u hk h2⟩
  | .anyB, v, _, h => h
theorem SVList.renamed (hl : ∀ i o, look objs i = some o → look objs' (Vs.ren ρ i) = some (o.ren ρ)) (hm : ∀ i o, look objs i = some o → μ' (Vs.ren ρ i) = μ i) : ∀ (x : List SV) (v : List Value), inKeysL objs x = true → SVList w S μ objs x v → SVList w S μ' objs' (renL ρ x) v
  | [], _, _, h => h
  | x :: xs, v, hk, ⟨u, us, h1, h2, h3⟩ => by
    simp only [inKeysL, Bool.and_eq_true] at hk
    exact ⟨u, us, h1, SVRel.renamed hl hm x u hk.1 h2, SVList.renamed hl hm xs us hk.2 h3⟩
theorem SVOnes.renamed (hl : ∀ i o, look objs i = some o → look objs' (Vs.ren ρ i) = some (o.ren ρ)) (hm : ∀ i o, look objs i = some o → μ' (Vs.ren ρ i) = μ i) : ∀ (x : List SV) (v : List Value), inKeysL objs x = true → SVOnes w S μ objs x v → SVOnes w S μ' objs' (renL ρ x) v
  | [], _, _, h => h
  | x :: xs, v, hk, ⟨u, us, h1, h0, h2, h3⟩ => by
    simp only [inKeysL, Bool.and_eq_true] at hk
    exact ⟨u, us, h1, h0, SVRel.renamed hl hm x u hk.1 h2, SVOnes.renamed hl hm xs us hk.2 h3⟩
end

/- What the caller holds itself: objects have turned as far as 'SVRel.same' lets them, and new names have come. -/
mutual
def SV.clear (D : Nat → Bool) : SV → Bool
  | .own id _ => !D id
  | .loc id _ => !D id
  | .eloc id _ _ _ => !D id
  | .view id _ _ _ => !D id
  | .agg cells => clearL D cells
  | .clo _ caps => clearL D caps
  | .ifc _ v => v.clear D
  | _ => true
def clearL (D : Nat → Bool) : List SV → Bool
  | [] => true
  | x :: r => x.clear D && clearL D r
end
def clearE (D : Nat → Bool) : List (Nat × SV) → Bool
  | [] => true
  | (_, x) :: r => x.clear D && clearE D r
def Ob.clear (D : Nat → Bool) : Ob → Bool
  | .box cells => clearL D cells
  | .arr _ _ _ => true
def clearO (D : Nat → Bool) : List (Nat × Ob) → Bool
  | [] => true
  | (_, x) :: r => x.clear D && clearO D r
theorem clearE_get {D : Nat → Bool} : ∀ {l : List (Nat × SV)}, clearE D l = true → ∀ k, (getE l k).clear D = true
  | [], _, _ => rfl
  | (j, x) :: r, h, k => by
    simp only [clearE, Bool.and_eq_true] at h
    simp only [getE, look]
    cases j == k
    · exact clearE_get h.2 k
    · exact h.1
theorem clearO_get {D : Nat → Bool} : ∀ {l : List (Nat × Ob)}, clearO D l = true → ∀ k o, look l k = some o → o.clear D = true
  | [], _, _, _, h => by simp [look] at h
  | (j, x) :: r, h, k, o, hl => by
    simp only [clearO, Bool.and_eq_true] at h
    simp only [look] at hl
    cases hj : j == k
    · rw [hj] at hl; exact clearO_get h.2 k o hl
    · rw [hj] at hl; simp at hl; subst hl; exact h.1
mutual
theorem SVRel.step {D : Nat → Bool}
    (hb : ∀ id cells, D id = false → look objs' id = some (.box cells) → ∃ cells', look objs id = some (.box cells') ∧ μ' id = μ id)
    (ha : ∀ id cv s rows, D id = false → look objs' id = some (.arr cv s rows) → ∃ cv' rows', look objs id = some (.arr cv' s rows') ∧ cv' ≤ cv ∧ (cv' = cv → rows'.length = rows.length ∧ μ' id = μ id)) :
    ∀ (x : SV) (v : Value), x.clear D = true → SVRel w S μ objs x v → SVRel w S μ' objs' x v
  | .undef, v, _, h => h
  | .val x, v, _, h => h
  | .nils, v, _, h => h
  | .full rows, v, _, h => h
  | .own id ver, v, hd, h => by
    have hd : D id = false := by simpa [SV.clear] using hd
    intro cv s rows hl
    obtain ⟨cv', rows', h1, h2, h5⟩ := ha id cv s rows hd hl
    obtain ⟨h3, h4⟩ := h _ _ _ h1
    exact ⟨Nat.le_trans h3 h2, fun e => by rw [(h5 (by omega)).2]; exact h4 (by omega)⟩
  | .loc id off, v, hd, h => by
    have hd : D id = false := by simpa [SV.clear] using hd
    intro cells hl
    obtain ⟨cells', h1, h2⟩ := hb id cells hd hl
    rw [h2]
    exact h _ h1
  | .eloc id ver i off, v, hd, h => by
    have hd : D id = false := by simpa [SV.clear] using hd
    intro cv s rows hl
    obtain ⟨cv', rows', h1, h2, h5⟩ := ha id cv s rows hd hl
    obtain ⟨h3, h4⟩ := h _ _ _ h1
    refine ⟨Nat.le_trans h3 h2, fun e => ?_⟩
    obtain ⟨b, cap, h6, h7⟩ := h4 (by omega)
    obtain ⟨h8, h9⟩ := h5 (by omega)
    exact ⟨b, cap, by rw [h9, h6, h8], h7⟩
  | .view id ver lo hi, v, hd, h => by
    have hd : D id = false := by simpa [SV.clear] using hd
    intro cv s rows hl
    obtain ⟨cv', rows', h1, h2, h5⟩ := ha id cv s rows hd hl
    obtain ⟨h3, h4⟩ := h _ _ _ h1
    refine ⟨Nat.le_trans h3 h2, fun e => ?_⟩
    obtain ⟨g1, g2, x, cap, y, g3, g4⟩ := h4 (by omega)
    obtain ⟨h8, h9⟩ := h5 (by omega)
    exact ⟨g1, by omega, x, cap, y, by rw [h9, g3, h8], by rw [← h8]; exact g4⟩
  | .agg cells, v, hd, ⟨vs, h1, h2⟩ => ⟨vs, h1, SVOnes.step hb ha cells _ hd h2⟩
  | .clo f caps, v, hd, ⟨vs, h1, h2⟩ => ⟨vs, h1, SVList.step hb ha caps _ hd h2⟩
  | .ifc t x, v, hd, ⟨u, h1, h2⟩ => ⟨u, h1, SVRel.step hb ha x u hd h2⟩
  | .anyB, v, _, h => h
theorem SVList.step {D : Nat → Bool}
    (hb : ∀ id cells, D id = false → look objs' id = some (.box cells) → ∃ cells', look objs id = some (.box cells') ∧ μ' id = μ id)
    (ha : ∀ id cv s rows, D id = false → look objs' id = some (.arr cv s rows) → ∃ cv' rows', look objs id = some (.arr cv' s rows') ∧ cv' ≤ cv ∧ (cv' = cv → rows'.length = rows.length ∧ μ' id = μ id)) :
    ∀ (x : List SV) (v : List Value), clearL D x = true → SVList w S μ objs x v → SVList w S μ' objs' x v
  | [], v, _, h => h
  | x :: xs, v, hd, ⟨u, us, h1, h2, h3⟩ => by
    simp only [clearL, Bool.and_eq_true] at hd
    exact ⟨u, us, h1, SVRel.step hb ha x u hd.1 h2, SVList.step hb ha xs us hd.2 h3⟩
theorem SVOnes.step {D : Nat → Bool}
    (hb : ∀ id cells, D id = false → look objs' id = some (.box cells) → ∃ cells', look objs id = some (.box cells') ∧ μ' id = μ id)
    (ha : ∀ id cv s rows, D id = false → look objs' id = some (.arr cv s rows) → ∃ cv' rows', look objs id = some (.arr cv' s rows') ∧ cv' ≤ cv ∧ (cv' = cv → rows'.length = rows.length ∧ μ' id = μ id)) :
    ∀ (x : List SV) (v : List Value), clearL D x = true → SVOnes w S μ objs x v → SVOnes w S μ' objs' x v
  | [], v, _, h => h
  | x :: xs, v, hd, ⟨u, us, h1, h0, h2, h3⟩ => by
    simp only [clearL, Bool.and_eq_true] at hd
    exact ⟨u, us, h1, h0, SVRel.step hb ha x u hd.1 h2, SVOnes.step hb ha xs us hd.2 h3⟩
end
end

/- No memory behind a value, but objects that are named. -/
mutual
def SV.flat : SV → Bool
  | .val v => v.flat
  | .full _ => false
  | .agg cells => SV.flatL cells
  | .clo _ caps => SV.flatL caps
  | .ifc _ v => v.flat
  | _ => true
def SV.flatL : List SV → Bool
  | [] => true
  | x :: r => x.flat && SV.flatL r
end
def Ob.flat : Ob → Bool
  | .box cells => SV.flatL cells
  | .arr _ _ rows => flatRows rows
def flatO : List (Nat × Ob) → Bool
  | [] => true
  | (_, o) :: r => o.flat && flatO r
theorem flatO_get : ∀ {l : List (Nat × Ob)}, flatO l = true → ∀ k o, look l k = some o → o.flat = true
  | [], _, _, _, h => by simp [look] at h
  | (j, x) :: r, h, k, o, hl => by
    simp only [flatO, Bool.and_eq_true] at h
    simp only [look] at hl
    cases hj : j == k
    · rw [hj] at hl; exact flatO_get h.2 k o hl
    · rw [hj] at hl; simp at hl; subst hl; exact h.1
mutual
theorem SV.flat_rel {w w' : World} {S S' : Stab} {μ : Nat → Value} {objs : List (Nat × Ob)} : ∀ (x : SV) (v : Value), x.flat = true → SVRel w S μ objs x v → SVRel w' S' μ objs x v
  | .undef, _, _, h => h
  | .val x, v, hf, h => IV.flat_rep x v hf h
  | .nils, _, _, h => h
  | .full rows, _, hf, _ => by simp [SV.flat] at hf
  | .own _ _, _, _, h => h
  | .loc _ _, _, _, h => h
  | .eloc _ _ _ _, _, _, h => h
  | .view _ _ _ _, _, _, h => h
  | .agg cells, v, hf, ⟨vs, h1, h2⟩ => ⟨vs, h1, SV.flat_ones cells _ hf h2⟩
  | .clo f caps, v, hf, ⟨vs, h1, h2⟩ => ⟨vs, h1, SV.flat_list caps _ hf h2⟩
  | .ifc t x, v, hf, ⟨u, h1, h2⟩ => ⟨u, h1, SV.flat_rel x u hf h2⟩
  | .anyB, v, _, h => h
theorem SV.flat_list {w w' : World} {S S' : Stab} {μ : Nat → Value} {objs : List (Nat × Ob)} : ∀ (x : List SV) (v : List Value), SV.flatL x = true → SVList w S μ objs x v → SVList w' S' μ objs x v
  | [], _, _, h => h
  | x :: xs, v, hf, ⟨u, us, h1, h2, h3⟩ => by
    simp only [SV.flatL, Bool.and_eq_true] at hf
    exact ⟨u, us, h1, SV.flat_rel x u hf.1 h2, SV.flat_list xs us hf.2 h3⟩
theorem SV.flat_ones {w w' : World} {S S' : Stab} {μ : Nat → Value} {objs : List (Nat × Ob)} : ∀ (x : List SV) (v : List Value), SV.flatL x = true → SVOnes w S μ objs x v → SVOnes w' S' μ objs x v
  | [], _, _, h => h
  | x :: xs, v, hf, ⟨u, us, h1, h0, h2, h3⟩ => by
    simp only [SV.flatL, Bool.and_eq_true] at hf
    exact ⟨u, us, h1, h0, SV.flat_rel x u hf.1 h2, SV.flat_ones xs us hf.2 h3⟩
end
theorem ObRel.flat {w' : World} {S S' : Stab} {μ : Nat → Value} {objs : List (Nat × Ob)} {blk : Option Nat} {mu : Value} : ∀ {o : Ob}, o.flat = true → ObRel w' S μ objs blk mu o → ObRel w' S' μ objs blk mu o
  | .box cells, hf, ⟨b, vs, e, fr, h1, h2, h3, h4, h5⟩ => ⟨b, vs, e, fr, h1, h2, h3, h4, SV.flat_ones cells _ hf h5⟩
  | .arr _ _ rows, _, .inl h => .inl h
  | .arr _ _ rows, hf, .inr ⟨b, cap, vs, e, fr, k1, k2, k3, k4, k5, k6, k7, k8⟩ => .inr ⟨b, cap, vs, e, fr, k1, k2, k3, k4, k5, k6, k7, flats_ones _ _ (flatRows_flatten hf) k8⟩

/-- The handle on an object, at the least. -/
def hdl (i : Nat) : Ob → SV
  | .box _ => .loc i 0
  | .arr ver _ _ => .own i ver

/-- A contract of a call that turns objects: what comes in, with the objects that it names; what comes out; which are frozen then. -/
structure MC where
  args : List SV
  objs : List (Nat × Ob)
  res : SV
  objs' : List (Nat × Ob)
  ro' : List Nat

/-- THE CONTRACT: in whatever memory, wherever the objects lie: the call returns; the objects have turned so; of what was there besides nothing has. -/
def FnM (gl : List (Nat × List IV)) (P : Program) (k : FuncId) (c : MC) : Prop :=
  Callable P k ∧ ∀ (w : World) (S : Stab) (μ : Nat → Value) (β : Nat → Option Nat) (vs : List Value), (∀ b o, S b o → b < w.heap.size) → (∀ p, p ∈ gl → RepCells w S p.2 p.1 0) →
    SVList w S μ c.objs c.args vs → (∀ id o, look c.objs id = some o → ObRel w S μ c.objs (β id) (μ id) o) →
    (∀ id id' o o' b, look c.objs id = some o → look c.objs id' = some o' → β id = some b → β id' = some b → id = id') →
    (∀ id o b off, look c.objs id = some o → β id = some b → ¬ S b off) →
    Calls P k vs.toArray w fun e w' => ∃ (v : Value) (S' : Stab) (μ' : Nat → Value) (β' : Nat → Option Nat), e = .returned v ∧ SVRel w' S' μ' c.objs' c.res v ∧
      (∀ id o, look c.objs' id = some o → ObRel w' S' μ' c.objs' (β' id) (μ' id) o) ∧
      (∀ id id' o o' b, look c.objs' id = some o → look c.objs' id' = some o' → β' id = some b → β' id' = some b → id = id') ∧
      (∀ id o b, look c.objs' id = some o → β' id = some b → w.heap.size ≤ b ∨ ∃ i x, look c.objs i = some x ∧ β i = some b) ∧
      (∀ id o b off, look c.objs' id = some o → β' id = some b → S' b off → id ∈ c.ro' ∧ ∀ ver s rows, o = .arr ver s rows → off < rows.length * s) ∧
      (∀ b o, S' b o → b < w'.heap.size) ∧ (∀ b o, S b o → S' b o) ∧ (∀ b o, S' b o → S b o ∨ w.heap.size ≤ b ∨ ∃ i x, look c.objs i = some x ∧ β i = some b) ∧
      Kept (fun b => ∃ i x, look c.objs i = some x ∧ β i = some b) w w' ∧
      (∀ id o, look c.objs id = some o → SVRel w' S' μ' c.objs' (hdl id o) (μ id))
end Go.Vs
