/- The statements of the layer forest hold at every input, part 1. No conditions. -/
import Derived.Test.YtjfleklkloohgaaVs24
import Derived.Test.YtjfleklkloohgaaRows
import Derived.Test.YtjfleklkloohgaaFoLaws1
namespace Go.Proofs.Ytjfleklkloohgaa
open Go.Vs Go.Vs.Ytjfleklkloohgaa
set_option maxRecDepth 100000
set_option maxHeartbeats 4000000

theorem own_knob : ownKnob Try.prog.godebug = none := by kernel_rfl
theorem laid_out : laidOutB Try.prog = true := by kernel_rfl

theorem rows_ps : ∀ {rows : List (List IV)}, (∀ r ∈ rows, ∃ a b, r = [.str a, .str b]) → ∃ l, rows = ps l
  | [], _ => ⟨[], rfl⟩
  | r :: rs, h => by
    obtain ⟨a, b, rfl⟩ := h r (by simp)
    obtain ⟨l, rfl⟩ := rows_ps (rows := rs) (fun q hq => h q (by simp [hq]))
    exact ⟨(a, b) :: l, rfl⟩
theorem rows_of {rows : List (List IV)} (h : ∀ r ∈ rows, Shs [.str, .str] r) : ∃ l, rows = ps l := by
  refine rows_ps (fun r hr => ?_)
  obtain ⟨_, _, rfl, ⟨a, rfl, _⟩, _, _, rfl, ⟨b, rfl, _⟩, rfl⟩ := h r hr
  exact ⟨a, b, rfl⟩

theorem forestTells_lifted (os : Os) (started : os.Started) (H : Type) (enc : TypeId × Value → H) :
    ReturnsInHanded {} Try.checked os 7 .any (Rows.forestTellsSpec.pre6 enc Try.prog Try.f7 [] false) (Rows.forestTellsSpec.post enc Try.prog Try.f7 false true false false) :=
  law_lifted own_knob started (by kernel_rfl) Try.func7
    (ChangeSpec.witness6 (enc := enc) (C := Try.checked) false ⟨#[], #[.slice none 0 0, .string ⟨#[]⟩], []⟩ 8 (by kernel_rfl) (by kernel_rfl) (by kernel_rfl) (by kernel_rfl))
    [.slice (.struct [.str, .str]), .str] (by kernel_rfl) _ rfl (by kernel_rfl) rfl
    (fun ds h => by
      match ds, h with
      | [_, _], _ => rfl) laid_out (by kernel_rfl) (by
      rintro args ⟨_, _, rfl, ⟨rows, hx, hxl, hrows⟩, _, _, rfl, ⟨n, hn, hnl⟩, rfl⟩
      simp only [List.cons.injEq, and_true] at hx hn
      subst hx hn
      obtain ⟨l, rfl⟩ := rows_of hrows
      exact fn_ForestTells l n)
theorem forestTells_holds : Rows.ForestTellsSaid :=
  OpenClaim.holds_of_wide (p := Try.pinned) (s := Rows.forestTellsSpec) (c := Rows.forestTellsRow) 7 Try.f7 rfl rfl rfl rfl rfl rfl rfl ⟨rfl, rfl, rfl, rfl, rfl⟩ rfl rfl rfl rfl rfl (by kernel_rfl) Try.func7 (by kernel_rfl)
    (of_decide_eq_true (by kernel_rfl)) (by unfold Func.isWrapper; first | (rw [if_pos (by decide +kernel)]; kernel_rfl) | (rw [if_neg (by decide +kernel)]; exact ⟨rfl, rfl⟩))
    (fun os started H enc _ => forestTells_lifted os started H enc)
theorem forestChanges_lifted (os : Os) (started : os.Started) (H : Type) (enc : TypeId × Value → H) :
    ReturnsInHanded {} Try.checked os 8 .any (Rows.forestChangesSpec.pre6 enc Try.prog Try.f8 [] false) (Rows.forestChangesSpec.post enc Try.prog Try.f8 false true false false) :=
  law_lifted own_knob started (by kernel_rfl) Try.func8
    (ChangeSpec.witness6 (enc := enc) (C := Try.checked) false ⟨#[], #[.slice none 0 0, .agg #[.string ⟨#[]⟩, .string ⟨#[]⟩]], []⟩ 8 (by kernel_rfl) (by kernel_rfl) (by kernel_rfl) (by kernel_rfl))
    [.slice (.struct [.str, .str]), .struct [.str, .str]] (by kernel_rfl) _ rfl (by kernel_rfl) rfl
    (fun ds h => by
      match ds, h with
      | [_, _], _ => rfl) laid_out (by kernel_rfl) (by
      rintro args ⟨_, _, rfl, ⟨rows, hx, hxl, hrows⟩, _, _, rfl, ⟨_, rfl, _, _, rfl, ⟨a, rfl, _⟩, _, _, rfl, ⟨b, rfl, _⟩, rfl⟩, rfl⟩
      simp only [List.cons.injEq, and_true] at hx
      subst hx
      obtain ⟨l, rfl⟩ := rows_of hrows
      exact fn_ForestChanges l (a, b))
theorem forestChanges_holds : Rows.ForestChangesSaid :=
  OpenClaim.holds_of_wide (p := Try.pinned) (s := Rows.forestChangesSpec) (c := Rows.forestChangesRow) 8 Try.f8 rfl rfl rfl rfl rfl rfl rfl ⟨rfl, rfl, rfl, rfl, rfl⟩ rfl rfl rfl rfl rfl (by kernel_rfl) Try.func8 (by kernel_rfl)
    (of_decide_eq_true (by kernel_rfl)) (by unfold Func.isWrapper; first | (rw [if_pos (by decide +kernel)]; kernel_rfl) | (rw [if_neg (by decide +kernel)]; exact ⟨rfl, rfl⟩))
    (fun os started H enc _ => forestChanges_lifted os started H enc)
end Go.Proofs.Ytjfleklkloohgaa
