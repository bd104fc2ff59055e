/- The statements of the layer forest hold at every input, part 2. No conditions. -/
import Derived.Test.YtjfleklkloohgaaVs24
import Derived.Test.YtjfleklkloohgaaRows
import Derived.Test.YtjfleklkloohgaaFoLaws2
namespace Go.Proofs.Ytjfleklkloohgaa
open Go.Vs Go.Vs.Ytjfleklkloohgaa
set_option maxRecDepth 100000
set_option linter.unusedSimpArgs false
set_option linter.unusedVariables false
set_option maxHeartbeats 4000000

theorem own_knob : ownKnob Try.prog.godebug = none := by kernel_rfl
theorem laid_out : laidOutB Try.prog = true := by kernel_rfl

theorem rows_ps : ∀ {rows : List (List IV)}, (∀ r ∈ rows, ∃ a b, r = [.str a, .str b]) → ∃ l, rows = ps l
  | [], _ => ⟨[], rfl⟩
  | r :: rs, h => by
    obtain ⟨a, b, rfl⟩ := h r (by simp)
    obtain ⟨l, rfl⟩ := rows_ps (rows := rs) (fun q hq => h q (by simp [hq]))
    exact ⟨(a, b) :: l, rfl⟩
theorem rows_of {rows : List (List IV)} (h : ∀ r ∈ rows, Shs [.str, .str] r) : ∃ l, rows = ps l := by
  refine rows_ps (fun r hr => ?_)
  obtain ⟨_, _, rfl, ⟨a, rfl, _⟩, _, _, rfl, ⟨b, rfl, _⟩, rfl⟩ := h r hr
  exact ⟨a, b, rfl⟩

theorem forestUnder_lifted (os : Os) (started : os.Started) (H : Type) (enc : TypeId × Value → H) :
    ReturnsInHanded {} Try.checked os 10 .any (Rows.forestUnderSpec.pre6 enc Try.prog Try.f10 [] false) (Rows.forestUnderSpec.post enc Try.prog Try.f10 false true false false) :=
  law_lifted own_knob started (by kernel_rfl) Try.func10
    (ChangeSpec.witness6 (enc := enc) (C := Try.checked) false ⟨#[], #[.slice none 0 0, .string ⟨#[]⟩, .string ⟨#[]⟩], []⟩ 8 (by kernel_rfl) (by kernel_rfl) (by kernel_rfl) (by kernel_rfl))
    [.slice (.struct [.str, .str]), .str, .str] (by kernel_rfl) _ rfl (by kernel_rfl) rfl
    (fun ds h => by
      match ds, h with
      | [_, _, _], _ => rfl) laid_out (by kernel_rfl) (by
      rintro args ⟨_, _, rfl, ⟨rows, hx, hxl, hrows⟩, _, _, rfl, ⟨a, ha, hal⟩, _, _, rfl, ⟨b, hb, hbl⟩, rfl⟩
      simp only [List.cons.injEq, and_true] at hx ha hb
      subst hx ha hb
      obtain ⟨l, rfl⟩ := rows_of hrows
      exact fn_ForestUnder l a b)
theorem forestUnder_holds : Rows.ForestUnderSaid :=
  OpenClaim.holds_of_wide (p := Try.pinned) (s := Rows.forestUnderSpec) (c := Rows.forestUnderRow) 10 Try.f10 rfl rfl rfl rfl rfl rfl rfl ⟨rfl, rfl, rfl, rfl, rfl⟩ rfl rfl rfl rfl rfl (by kernel_rfl) Try.func10 (by kernel_rfl)
    (of_decide_eq_true (by kernel_rfl)) (by unfold Func.isWrapper; first | (rw [if_pos (by decide +kernel)]; kernel_rfl) | (rw [if_neg (by decide +kernel)]; exact ⟨rfl, rfl⟩))
    (fun os started H enc _ => forestUnder_lifted os started H enc)
theorem forestKeeps_lifted (os : Os) (started : os.Started) (H : Type) (enc : TypeId × Value → H) :
    ReturnsInHanded {} Try.checked os 9 .any (Rows.forestKeepsSpec.pre6 enc Try.prog Try.f9 [] false) (Rows.forestKeepsSpec.post enc Try.prog Try.f9 false true false false) :=
  law_lifted own_knob started (by kernel_rfl) Try.func9
    (ChangeSpec.witness6 (enc := enc) (C := Try.checked) false ⟨#[], #[.slice none 0 0], []⟩ 8 (by kernel_rfl) (by kernel_rfl) (by kernel_rfl) (by kernel_rfl))
    [.slice (.struct [.bool, .str, .str])] (by kernel_rfl) _ rfl (by kernel_rfl) rfl
    (fun ds h => by
      match ds, h with
      | [_], _ => rfl) laid_out (by kernel_rfl) (by
      rintro args ⟨_, _, rfl, ⟨rows, hx, hxl, hrows⟩, rfl⟩
      simp only [List.cons.injEq, and_true] at hx
      subst hx
      refine fn_ForestKeeps rows (fun r hr => ?_)
      obtain ⟨_, _, rfl, ⟨k, rfl, _⟩, _, _, rfl, ⟨a, rfl, _⟩, _, _, rfl, ⟨b, rfl, _⟩, rfl⟩ := hrows r hr
      exact ⟨k, a, b, rfl⟩)
theorem forestKeeps_holds : Rows.ForestKeepsSaid :=
  OpenClaim.holds_of_wide (p := Try.pinned) (s := Rows.forestKeepsSpec) (c := Rows.forestKeepsRow) 9 Try.f9 rfl rfl rfl rfl rfl rfl rfl ⟨rfl, rfl, rfl, rfl, rfl⟩ rfl rfl rfl rfl rfl (by kernel_rfl) Try.func9 (by kernel_rfl)
    (of_decide_eq_true (by kernel_rfl)) (by unfold Func.isWrapper; first | (rw [if_pos (by decide +kernel)]; kernel_rfl) | (rw [if_neg (by decide +kernel)]; exact ⟨rfl, rfl⟩))
    (fun os started H enc _ => forestKeeps_lifted os started H enc)
end Go.Proofs.Ytjfleklkloohgaa
