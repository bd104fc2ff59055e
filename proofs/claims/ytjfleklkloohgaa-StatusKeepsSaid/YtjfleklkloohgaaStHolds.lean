/- The statements of the layer status hold at every input. No conditions. -/
import Derived.Test.YtjfleklkloohgaaVs24
import Derived.Test.YtjfleklkloohgaaRows
import Derived.Test.YtjfleklkloohgaaStKeeps
namespace Go.Proofs.Ytjfleklkloohgaa
open Go.Vs Go.Vs.Ytjfleklkloohgaa
set_option maxRecDepth 100000
set_option maxHeartbeats 4000000

theorem own_knob : ownKnob Try.prog.godebug = none := by kernel_rfl
theorem laid_out : laidOutB Try.prog = true := by kernel_rfl

theorem statusActs_lifted (os : Os) (started : os.Started) (H : Type) (enc : TypeId × Value → H) :
    ReturnsInHanded {} Try.checked os 3 .any (Rows.statusActsSpec.pre6 enc Try.prog Try.f3 [] false) (Rows.statusActsSpec.post enc Try.prog Try.f3 false true false false) :=
  law_lifted own_knob started (by kernel_rfl) Try.func3
    (ChangeSpec.witness6 (enc := enc) (C := Try.checked) false ⟨#[], #[.agg #[.int .u8 0, .int .i64 0, .int .i64 0], .int .i64 0], []⟩ 8 (by kernel_rfl) (by kernel_rfl) (by kernel_rfl) (by kernel_rfl))
    [.struct [.int .u8, .int .i64, .int .i64], .int .i64] (by kernel_rfl) _ rfl (by kernel_rfl) rfl
    (fun ds h => by
      match ds, h with
      | [_, _], _ => rfl) laid_out (by kernel_rfl) (by
      rintro args ⟨_, _, rfl, ⟨_, rfl, _, _, rfl, ⟨s, rfl, hs⟩, _, _, rfl, ⟨p, rfl, hp⟩, _, _, rfl, ⟨d, rfl, hd⟩, rfl⟩, _, _, rfl, ⟨n, hn, hnw⟩, rfl⟩
      simp only [List.cons.injEq, and_true] at hn
      subst hn
      exact fn_StatusActs s p d n (wf_u8 hs).1)
theorem statusActs_holds : Rows.StatusActsSaid :=
  OpenClaim.holds_of_wide (p := Try.pinned) (s := Rows.statusActsSpec) (c := Rows.statusActsRow) 3 Try.f3 rfl rfl rfl rfl rfl rfl rfl ⟨rfl, rfl, rfl, rfl, rfl⟩ rfl rfl rfl rfl rfl (by kernel_rfl) Try.func3 (by kernel_rfl)
    (of_decide_eq_true (by kernel_rfl)) (by unfold Func.isWrapper; first | (rw [if_pos (by decide +kernel)]; kernel_rfl) | (rw [if_neg (by decide +kernel)]; exact ⟨rfl, rfl⟩))
    (fun os started H enc _ => statusActs_lifted os started H enc)
theorem statusTells_lifted (os : Os) (started : os.Started) (H : Type) (enc : TypeId × Value → H) :
    ReturnsInHanded {} Try.checked os 4 .any (Rows.statusTellsSpec.pre6 enc Try.prog Try.f4 [] false) (Rows.statusTellsSpec.post enc Try.prog Try.f4 false true false false) :=
  law_lifted own_knob started (by kernel_rfl) Try.func4
    (ChangeSpec.witness6 (enc := enc) (C := Try.checked) false ⟨#[], #[.agg #[.int .u8 0, .int .i64 0, .int .i64 0], .string ⟨#[]⟩], []⟩ 8 (by kernel_rfl) (by kernel_rfl) (by kernel_rfl) (by kernel_rfl))
    [.struct [.int .u8, .int .i64, .int .i64], .str] (by kernel_rfl) _ rfl (by kernel_rfl) rfl
    (fun ds h => by
      match ds, h with
      | [_, _], _ => rfl) laid_out (by kernel_rfl) (by
      rintro args ⟨_, _, rfl, ⟨_, rfl, _, _, rfl, ⟨s, rfl, hs⟩, _, _, rfl, ⟨p, rfl, hp⟩, _, _, rfl, ⟨d, rfl, hd⟩, rfl⟩, _, _, rfl, ⟨x, hx, hxl⟩, rfl⟩
      simp only [List.cons.injEq, and_true] at hx
      subst hx
      exact fn_StatusTells s p d x (wf_u8 hs).1)
theorem statusTells_holds : Rows.StatusTellsSaid :=
  OpenClaim.holds_of_wide (p := Try.pinned) (s := Rows.statusTellsSpec) (c := Rows.statusTellsRow) 4 Try.f4 rfl rfl rfl rfl rfl rfl rfl ⟨rfl, rfl, rfl, rfl, rfl⟩ rfl rfl rfl rfl rfl (by kernel_rfl) Try.func4 (by kernel_rfl)
    (of_decide_eq_true (by kernel_rfl)) (by unfold Func.isWrapper; first | (rw [if_pos (by decide +kernel)]; kernel_rfl) | (rw [if_neg (by decide +kernel)]; exact ⟨rfl, rfl⟩))
    (fun os started H enc _ => statusTells_lifted os started H enc)
theorem statusNames_lifted (os : Os) (started : os.Started) (H : Type) (enc : TypeId × Value → H) :
    ReturnsInHanded {} Try.checked os 6 .any (Rows.statusNamesSpec.pre6 enc Try.prog Try.f6 [] false) (Rows.statusNamesSpec.post enc Try.prog Try.f6 false true false false) :=
  law_lifted own_knob started (by kernel_rfl) Try.func6
    (ChangeSpec.witness6 (enc := enc) (C := Try.checked) false ⟨#[], #[.string ⟨#[]⟩, .int .u8 0], []⟩ 8 (by kernel_rfl) (by kernel_rfl) (by kernel_rfl) (by kernel_rfl))
    [.str, .int .u8] (by kernel_rfl) _ rfl (by kernel_rfl) rfl
    (fun ds h => by
      match ds, h with
      | [_, _], _ => rfl) laid_out (by kernel_rfl) (by
      rintro args ⟨_, _, rfl, ⟨x, hx, hxl⟩, _, _, rfl, ⟨n, hn, hnw⟩, rfl⟩
      simp only [List.cons.injEq, and_true] at hn hx
      subst hn hx
      exact fn_StatusNames x n (wf_u8 hnw).1)
theorem statusNames_holds : Rows.StatusNamesSaid :=
  OpenClaim.holds_of_wide (p := Try.pinned) (s := Rows.statusNamesSpec) (c := Rows.statusNamesRow) 6 Try.f6 rfl rfl rfl rfl rfl rfl rfl ⟨rfl, rfl, rfl, rfl, rfl⟩ rfl rfl rfl rfl rfl (by kernel_rfl) Try.func6 (by kernel_rfl)
    (of_decide_eq_true (by kernel_rfl)) (by unfold Func.isWrapper; first | (rw [if_pos (by decide +kernel)]; kernel_rfl) | (rw [if_neg (by decide +kernel)]; exact ⟨rfl, rfl⟩))
    (fun os started H enc _ => statusNames_lifted os started H enc)
theorem statusKeeps_lifted (os : Os) (started : os.Started) (H : Type) (enc : TypeId × Value → H) :
    ReturnsInHanded {} Try.checked os 5 .any (Rows.statusKeepsSpec.pre6 enc Try.prog Try.f5 [] false) (Rows.statusKeepsSpec.post enc Try.prog Try.f5 false true false false) :=
  law_lifted own_knob started (by kernel_rfl) Try.func5
    (ChangeSpec.witness6 (enc := enc) (C := Try.checked) false ⟨#[], #[.slice none 0 0], []⟩ 8 (by kernel_rfl) (by kernel_rfl) (by kernel_rfl) (by kernel_rfl))
    [.slice (.struct [.int .u8, .int .u16])] (by kernel_rfl) _ rfl (by kernel_rfl) rfl
    (fun ds h => by
      match ds, h with
      | [_], _ => rfl) laid_out (by kernel_rfl) (by
      rintro args ⟨_, _, rfl, ⟨rows, hx, hxl, hrows⟩, rfl⟩
      simp only [List.cons.injEq, and_true] at hx
      subst hx
      refine fn_StatusKeeps rows (fun r hr => ?_)
      obtain ⟨_, _, rfl, ⟨k, rfl, hk⟩, _, _, rfl, ⟨n, rfl, hn⟩, rfl⟩ := hrows r hr
      exact ⟨k, n, rfl, (wf_u8 hk).1, (wf_u8 hk).2, (wf_u16 hn).1, (wf_u16 hn).2⟩)
theorem statusKeeps_holds : Rows.StatusKeepsSaid :=
  OpenClaim.holds_of_wide (p := Try.pinned) (s := Rows.statusKeepsSpec) (c := Rows.statusKeepsRow) 5 Try.f5 rfl rfl rfl rfl rfl rfl rfl ⟨rfl, rfl, rfl, rfl, rfl⟩ rfl rfl rfl rfl rfl (by kernel_rfl) Try.func5 (by kernel_rfl)
    (of_decide_eq_true (by kernel_rfl)) (by unfold Func.isWrapper; first | (rw [if_pos (by decide +kernel)]; kernel_rfl) | (rw [if_neg (by decide +kernel)]; exact ⟨rfl, rfl⟩))
    (fun os started H enc _ => statusKeeps_lifted os started H enc)
end Go.Proofs.Ytjfleklkloohgaa
