/- The statements of the layer rollup hold at every input, part 2. No conditions. -/
import Derived.Test.YtjfleklkloohgaaVs24
import Derived.Test.YtjfleklkloohgaaRows
import Derived.Test.YtjfleklkloohgaaRoLaws2
namespace Go.Proofs.Ytjfleklkloohgaa
open Go.Vs Go.Vs.Ytjfleklkloohgaa
set_option maxRecDepth 100000
set_option linter.unusedSimpArgs false
set_option linter.unusedVariables false
set_option maxHeartbeats 4000000

theorem own_knob : ownKnob Try.prog.godebug = none := by kernel_rfl
theorem laid_out : laidOutB Try.prog = true := by kernel_rfl

theorem rows_ns : ∀ {rows : List (List IV)}, (∀ r ∈ rows, ∃ n : R.Nd, r = [.str n.uid, .str n.up, .int .u8 n.s, .int .i64 n.p, .int .i64 n.d] ∧ 0 ≤ n.s) → ∃ l, rows = R.ns l ∧ ∀ n ∈ l, 0 ≤ n.s
  | [], _ => ⟨[], rfl, by simp⟩
  | r :: rs, h => by
    obtain ⟨n, rfl, hn⟩ := h r (by simp)
    obtain ⟨l, rfl, hl⟩ := rows_ns (rows := rs) (fun q hq => h q (by simp [hq]))
    refine ⟨n :: l, rfl, fun m hm => ?_⟩
    rcases List.mem_cons.1 hm with rfl | hm
    · exact hn
    · exact hl m hm
theorem rows_of {rows : List (List IV)} (h : ∀ r ∈ rows, Shs [.str, .str, .struct [.int .u8, .int .i64, .int .i64]] r) : ∃ l, rows = R.ns l ∧ ∀ n ∈ l, 0 ≤ n.s := by
  refine rows_ns (fun r hr => ?_)
  obtain ⟨_, _, rfl, ⟨a, rfl, _⟩, _, _, rfl, ⟨b, rfl, _⟩, _, _, rfl, ⟨_, _, rfl, ⟨s, rfl, hs⟩, _, _, rfl, ⟨p, rfl, _⟩, _, _, rfl, ⟨d, rfl, _⟩, rfl⟩, rfl⟩ := h r hr
  exact ⟨⟨a, b, s, p, d⟩, rfl, (wf_u8 hs).1⟩
theorem rows_is : ∀ {rows : List (List IV)}, (∀ r ∈ rows, ∃ n, r = [.int .i64 n]) → ∃ l, rows = R.is l
  | [], _ => ⟨[], rfl⟩
  | r :: rs, h => by
    obtain ⟨n, rfl⟩ := h r (by simp)
    obtain ⟨l, rfl⟩ := rows_is (rows := rs) (fun q hq => h q (by simp [hq]))
    exact ⟨n :: l, rfl⟩

theorem rollupFloor_lifted (os : Os) (started : os.Started) (H : Type) (enc : TypeId × Value → H) :
    ReturnsInHanded {} Try.checked os 13 .any (Rows.rollupFloorSpec.pre6 enc Try.prog Try.f13 [] false) (Rows.rollupFloorSpec.post enc Try.prog Try.f13 false true false false) :=
  law_lifted own_knob started (by kernel_rfl) Try.func13
    (ChangeSpec.witness6 (enc := enc) (C := Try.checked) false ⟨#[], #[.slice none 0 0], []⟩ 8 (by kernel_rfl) (by kernel_rfl) (by kernel_rfl) (by kernel_rfl))
    [.slice (.struct [.str, .str, .struct [.int .u8, .int .i64, .int .i64]])] (by kernel_rfl) _ rfl (by kernel_rfl) rfl
    (fun ds h => by
      match ds, h with
      | [_], _ => rfl) laid_out (by kernel_rfl) (by
      rintro args ⟨_, _, rfl, ⟨rows, hx, hxl, hrows⟩, rfl⟩
      simp only [List.cons.injEq, and_true] at hx
      subst hx
      obtain ⟨l, rfl, hl⟩ := rows_of hrows
      exact R.fn_RollupFloor l hl)
theorem rollupFloor_holds : Rows.RollupFloorSaid :=
  OpenClaim.holds_of_wide (p := Try.pinned) (s := Rows.rollupFloorSpec) (c := Rows.rollupFloorRow) 13 Try.f13 rfl rfl rfl rfl rfl rfl rfl ⟨rfl, rfl, rfl, rfl, rfl⟩ rfl rfl rfl rfl rfl (by kernel_rfl) Try.func13 (by kernel_rfl)
    (of_decide_eq_true (by kernel_rfl)) (by unfold Func.isWrapper; first | (rw [if_pos (by decide +kernel)]; kernel_rfl) | (rw [if_neg (by decide +kernel)]; exact ⟨rfl, rfl⟩))
    (fun os started H enc _ => rollupFloor_lifted os started H enc)
theorem rollupDone_lifted (os : Os) (started : os.Started) (H : Type) (enc : TypeId × Value → H) :
    ReturnsInHanded {} Try.checked os 14 .any (Rows.rollupDoneSpec.pre6 enc Try.prog Try.f14 [] false) (Rows.rollupDoneSpec.post enc Try.prog Try.f14 false true false false) :=
  law_lifted own_knob started (by kernel_rfl) Try.func14
    (ChangeSpec.witness6 (enc := enc) (C := Try.checked) false ⟨#[], #[.slice none 0 0], []⟩ 8 (by kernel_rfl) (by kernel_rfl) (by kernel_rfl) (by kernel_rfl))
    [.slice (.struct [.str, .str, .struct [.int .u8, .int .i64, .int .i64]])] (by kernel_rfl) _ rfl (by kernel_rfl) rfl
    (fun ds h => by
      match ds, h with
      | [_], _ => rfl) laid_out (by kernel_rfl) (by
      rintro args ⟨_, _, rfl, ⟨rows, hx, hxl, hrows⟩, rfl⟩
      simp only [List.cons.injEq, and_true] at hx
      subst hx
      obtain ⟨l, rfl, hl⟩ := rows_of hrows
      exact R.fn_RollupDone l hl)
theorem rollupDone_holds : Rows.RollupDoneSaid :=
  OpenClaim.holds_of_wide (p := Try.pinned) (s := Rows.rollupDoneSpec) (c := Rows.rollupDoneRow) 14 Try.f14 rfl rfl rfl rfl rfl rfl rfl ⟨rfl, rfl, rfl, rfl, rfl⟩ rfl rfl rfl rfl rfl (by kernel_rfl) Try.func14 (by kernel_rfl)
    (of_decide_eq_true (by kernel_rfl)) (by unfold Func.isWrapper; first | (rw [if_pos (by decide +kernel)]; kernel_rfl) | (rw [if_neg (by decide +kernel)]; exact ⟨rfl, rfl⟩))
    (fun os started H enc _ => rollupDone_lifted os started H enc)
theorem rollupOrder_lifted (os : Os) (started : os.Started) (H : Type) (enc : TypeId × Value → H) :
    ReturnsInHanded {} Try.checked os 15 .any (Rows.rollupOrderSpec.pre6 enc Try.prog Try.f15 [] false) (Rows.rollupOrderSpec.post enc Try.prog Try.f15 false true false false) :=
  law_lifted own_knob started (by kernel_rfl) Try.func15
    (ChangeSpec.witness6 (enc := enc) (C := Try.checked) false ⟨#[], #[.slice none 0 0, .int .u8 0], []⟩ 8 (by kernel_rfl) (by kernel_rfl) (by kernel_rfl) (by kernel_rfl))
    [.slice (.struct [.str, .str, .struct [.int .u8, .int .i64, .int .i64]]), .int .u8] (by kernel_rfl) _ rfl (by kernel_rfl) rfl
    (fun ds h => by
      match ds, h with
      | [_, _], _ => rfl) laid_out (by kernel_rfl) (by
      rintro args ⟨_, _, rfl, ⟨rows, hx, hxl, hrows⟩, _, _, rfl, ⟨n, hn, hnl⟩, rfl⟩
      simp only [List.cons.injEq, and_true] at hx hn
      subst hx hn
      obtain ⟨l, rfl, hl⟩ := rows_of hrows
      exact R.fn_RollupOrder l n hl (wf_u8 hnl).1 (wf_u8 hnl).2)
theorem rollupOrder_holds : Rows.RollupOrderSaid :=
  OpenClaim.holds_of_wide (p := Try.pinned) (s := Rows.rollupOrderSpec) (c := Rows.rollupOrderRow) 15 Try.f15 rfl rfl rfl rfl rfl rfl rfl ⟨rfl, rfl, rfl, rfl, rfl⟩ rfl rfl rfl rfl rfl (by kernel_rfl) Try.func15 (by kernel_rfl)
    (of_decide_eq_true (by kernel_rfl)) (by unfold Func.isWrapper; first | (rw [if_pos (by decide +kernel)]; kernel_rfl) | (rw [if_neg (by decide +kernel)]; exact ⟨rfl, rfl⟩))
    (fun os started H enc _ => rollupOrder_lifted os started H enc)
end Go.Proofs.Ytjfleklkloohgaa
