/- The arguments of the statement ParamTells, of whatever shape they come. No conditions. -/
import Derived.Test.YthcljcjkfhiicaaGreatDoorBR
import Derived.Test.YthcljcjkfhiicaaGreatDoorBD
set_option linter.unusedVariables false
set_option linter.unusedSimpArgs false
namespace Go.Vs.YthcljcjkfhiicaaGreatDoor
set_option linter.unusedSimpArgs false
set_option linter.unusedVariables false
open Go.Proofs Go.Vs.U8 Go.Vs.Pa
theorem strs_ts : ∀ {rows : List (List IV)}, (∀ row ∈ rows, Sh .str row) → ∃ v, rows = ts v
  | [], _ => ⟨[], rfl⟩
  | r :: rs, h => by
    obtain ⟨s, hs, _⟩ := h r (by simp)
    obtain ⟨v, hv⟩ := strs_ts (rows := rs) (fun x hx => h x (by simp [hx]))
    exact ⟨s :: v, by rw [hs, hv]; rfl⟩
theorem params_ps : ∀ {rows : List (List IV)}, (∀ row ∈ rows, Sh (.struct [.str, .slice .str]) row) → ∃ l, rows = ps l
  | [], _ => ⟨[], rfl⟩
  | r :: rs, h => by
    obtain ⟨a, b, rfl, ⟨s, rfl, _⟩, c, d, rfl, ⟨rows', rfl, _, hr⟩, hd⟩ := h r (by simp)
    have hd : d = [] := hd
    subst hd
    obtain ⟨v, rfl⟩ := strs_ts hr
    obtain ⟨l, hl⟩ := params_ps (rows := rs) (fun x hx => h x (by simp [hx]))
    exact ⟨⟨s, v⟩ :: l, by rw [hl]; rfl⟩
def scTells : List Sc := [.arr 2 (.slice (.struct [.str, .slice .str])), .str]
theorem ParamTells_true (args : List IV) (h : Args scTells args) : Fn G Tryz.prog k_law17_ParamTells args (.bool true) := by
  obtain ⟨v, b, rfl, ⟨l, rfl, q, rfl, hq, hp⟩, w, c, rfl, ⟨s, hs, _⟩, hc⟩ := h
  have hc : c = [] := hc
  subst hc
  simp only [List.cons.injEq, and_true] at hs
  subst hs
  match q, hq with
  | [q0, q1], _ =>
    obtain ⟨r0, rfl, _, h0⟩ := hp q0 (by simp)
    obtain ⟨r1, rfl, _, h1⟩ := hp q1 (by simp)
    obtain ⟨l0, rfl⟩ := params_ps h0
    obtain ⟨l1, rfl⟩ := params_ps h1
    exact fn_ParamTells l0 l1 s
end Go.Vs.YthcljcjkfhiicaaGreatDoor
