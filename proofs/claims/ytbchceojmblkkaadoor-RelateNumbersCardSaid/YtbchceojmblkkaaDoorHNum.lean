/- The statement RelateNumbers holds at every input: the row and its tied card. No conditions. -/
import Derived.Test.YtbchceojmblkkaaDoorBU
import Derived.Test.YtbchceojmblkkaaDoorED
set_option linter.unusedVariables false
set_option linter.unusedSimpArgs false
set_option linter.unusedSimpArgs false
set_option linter.unusedVariables false
set_option maxRecDepth 100000
set_option maxHeartbeats 4000000
namespace Go.Proofs.YtbchceojmblkkaaDoor
open Go.Vs Go.Vs.YtbchceojmblkkaaDoor Go.RowKit Go.ChangeShapes Go.WideShapes
theorem relateNumbers_lifted (os : Os) (started : os.Started) (H : Type) (enc : TypeId × Value → H) :
    ReturnsInHanded {} Tryd.checked os 3 .any (fun w args => (Rows.relateNumbersSpec.pre enc Tryd.prog Tryd.f3 [] false w args ∧ laidMetH Tryd.prog La w) ∧ sizedMet enc Tryd.prog Tryd.f3 (OpenSpec.ofChange Rows.relateNumbersSpec) false w args) (Rows.relateNumbersSpec.post enc Tryd.prog Tryd.f3 false true false false) :=
  law_lifted_laid own_knob started (by kernel_rfl) Tryd.func3 (by decide) (by kernel_rfl)
    (ChangeSpec.witness_at (enc := enc) (C := Tryd.checked) (os := os) (X := fun w _ => laidMetH Tryd.prog La w) false (laidWorld os) #[.string ⟨#[]⟩, .int .u16 0, .int .u16 0] 12 rfl (by kernel_rfl) (by kernel_rfl) (by kernel_rfl) (by kernel_rfl) (by kernel_rfl) (laidWorld_met os _))
    (fun W h => hgl h)
    [.str, .int .u16, .int .u16] (by kernel_rfl) _ rfl (by kernel_rfl) rfl
    (fun ds h => by
      match ds, h with
      | [_, _, _], _ => rfl) laid_out (by kernel_rfl) RelateNumbers_true
theorem relateNumbers_holds : Rows.RelateNumbersSaid :=
  OpenClaim.holds_of_wide (p := Tryd.pinned) (s := Rows.relateNumbersSpec) (c := Rows.relateNumbersRow) 3 Tryd.f3 rfl rfl rfl rfl rfl rfl rfl ⟨rfl, rfl, rfl, rfl, rfl⟩ rfl rfl rfl rfl rfl (by kernel_rfl) Tryd.func3 (by kernel_rfl)
    (of_decide_eq_true (by kernel_rfl)) (by unfold Func.isWrapper; first | (rw [if_pos (by decide +kernel)]; kernel_rfl) | (rw [if_neg (by decide +kernel)]; exact ⟨rfl, rfl⟩))
    (fun os started H enc _ => relateNumbers_lifted os started H enc)
theorem relateNumbers_card : Rows.RelateNumbersCardSaid :=
  Claim7.holds_tied_plain_at .later [] _ _ _ _ relateNumbers_holds (fun _ h => by cases h) (by kernel_rfl) (fun _ h => by cases h) relateNumbers_row_tie rfl ⟨rfl, rfl⟩ (by kernel_rfl) rfl
    (fun f fn hf hfn => by
      obtain rfl : f = 3 := Option.some.inj ((show Tryd.prog.funcNamed "errand/errandlaw28.RelateNumbers" = some 3 by kernel_rfl).symm.trans hf) |>.symm
      obtain rfl : fn = Tryd.f3 := (Option.some.inj (Tryd.func3.symm.trans hfn)).symm
      refine ⟨by kernel_rfl, fun j t ht => ?_⟩
      have hall : Tryd.f3.params.all (fun t => !Tryd.prog.wantsStandIn t) = true := by kernel_rfl
      have := Array.all_eq_true_iff_forall_mem.1 hall t (Array.mem_of_getElem? ht)
      exact (by simpa using this : Tryd.prog.wantsStandIn t = false))
    (by kernel_rfl)
end Go.Proofs.YtbchceojmblkkaaDoor
