/- Value semantics: of a call that turns objects, some may be forgotten. No conditions. -/
import Derived.Test.YtjfleklkloohgaaVs22
set_option linter.unusedVariables false
set_option linter.unusedSimpArgs false
namespace Go.Vs
theorem FnM.forget {gl : List (Nat × List IV)} {P : Program} {k : FuncId} {c : MC} (h : FnM gl P k c) {objs'' : List (Nat × Ob)} {ro'' : List Nat} (ho : ∀ i o, look objs'' i = some o → look c.objs' i = some o)
    (hr : ∀ i o, look objs'' i = some o → i ∈ c.ro' → i ∈ ro'') : FnM gl P k { c with objs' := objs'', ro' := ro'' } := by
  obtain ⟨hc, h⟩ := h
  refine ⟨hc, fun w S μ β vs hS hgl hrep hobj hinj hunst => ?_⟩
  refine (h w S μ β vs hS hgl hrep hobj hinj hunst).mono ?_
  rintro e w' ⟨v, S', μ', β', h1, h2, h3, h4, h5, h6, h7, h8, h9, h10, h11⟩
  have sm : ∀ (x : SV) (v : Value), SVRel w' S' μ' c.objs' x v → SVRel w' S' μ' objs'' x v := fun x v hx =>
    SVRel.same (fun id cells hc => ⟨cells, ho _ _ hc, rfl⟩) (fun id cv s rows hc => ⟨cv, rows, ho _ _ hc, Nat.le_refl _, fun _ => ⟨rfl, rfl⟩⟩) _ _ hx
  refine ⟨v, S', μ', β', h1, sm _ _ h2, ?_, ?_, ?_, ?_, h7, h8, h9, h10, ?_⟩
  · intro id o hl
    exact ObRel.same (fun id cells hc => ⟨cells, ho _ _ hc, rfl⟩) (fun id cv s rows hc => ⟨cv, rows, ho _ _ hc, Nat.le_refl _, fun _ => ⟨rfl, rfl⟩⟩) (h3 id o (ho _ _ hl))
  · exact fun id id' o o' b q1 q2 => h4 id id' o o' b (ho _ _ q1) (ho _ _ q2)
  · exact fun id o b q1 => h5 id o b (ho _ _ q1)
  · exact fun id o b off q1 q2 q3 => let ⟨a, b⟩ := h6 id o b off (ho _ _ q1) q2 q3; ⟨hr _ _ q1 a, b⟩
  · exact fun id o q1 => sm _ _ (h11 id o q1)
end Go.Vs
