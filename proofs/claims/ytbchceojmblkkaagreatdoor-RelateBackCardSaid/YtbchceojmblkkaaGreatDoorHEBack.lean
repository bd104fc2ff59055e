/- The statement RelateBack holds at every input: the row and its tied card. No conditions. -/
import Derived.Test.YtbchceojmblkkaaGreatDoorBU
import Derived.Test.YtbchceojmblkkaaGreatDoorEE
set_option linter.unusedVariables false
set_option linter.unusedSimpArgs false
set_option linter.unusedSimpArgs false
set_option linter.unusedVariables false
set_option maxRecDepth 100000
set_option maxHeartbeats 4000000
namespace Go.Proofs.YtbchceojmblkkaaGreatDoor
open Go.Vs Go.Vs.YtbchceojmblkkaaGreatDoor Go.RowKit Go.ChangeShapes Go.WideShapes
theorem relateBack_lifted (os : Os) (started : os.Started) (H : Type) (enc : TypeId × Value → H) :
    ReturnsInHanded {} Tryz.checked os 7 .any (fun w args => (Rows.relateBackSpec.pre enc Tryz.prog Tryz.f7 [] false w args ∧ laidMetH Tryz.prog La w) ∧ sizedMet enc Tryz.prog Tryz.f7 (OpenSpec.ofChange Rows.relateBackSpec) false w args) (Rows.relateBackSpec.post enc Tryz.prog Tryz.f7 false true false false) :=
  law_lifted_laid own_knob started (by kernel_rfl) Tryz.func7 (by decide) (by kernel_rfl)
    (ChangeSpec.witness_at (enc := enc) (C := Tryz.checked) (os := os) (X := fun w _ => laidMetH Tryz.prog La w) false (laidWorld os) #[.slice none 0 0, .agg #[.int .u8 0, .string ⟨#[]⟩]] 12 rfl (by kernel_rfl) (by kernel_rfl) (by kernel_rfl) (by kernel_rfl) (by kernel_rfl) (laidWorld_met os _))
    (fun W h => hgl h)
    [.slice scL, scR] (by kernel_rfl) _ rfl (by kernel_rfl) rfl
    (fun ds h => by
      match ds, h with
      | [_, _], _ => rfl) laid_out (by kernel_rfl) RelateBack_true
theorem relateBack_holds : Rows.RelateBackSaid :=
  OpenClaim.holds_of_wide (p := Tryz.pinned) (s := Rows.relateBackSpec) (c := Rows.relateBackRow) 7 Tryz.f7 rfl rfl rfl rfl rfl rfl rfl ⟨rfl, rfl, rfl, rfl, rfl⟩ rfl rfl rfl rfl rfl (by kernel_rfl) Tryz.func7 (by kernel_rfl)
    (of_decide_eq_true (by kernel_rfl)) (by unfold Func.isWrapper; first | (rw [if_pos (by decide +kernel)]; kernel_rfl) | (rw [if_neg (by decide +kernel)]; exact ⟨rfl, rfl⟩))
    (fun os started H enc _ => relateBack_lifted os started H enc)
theorem relateBack_card : Rows.RelateBackCardSaid :=
  Claim7.holds_tied_plain_at .later [] _ _ _ _ relateBack_holds (fun _ h => by cases h) (by kernel_rfl) (fun _ h => by cases h) relateBack_row_tie rfl ⟨rfl, rfl⟩ (by kernel_rfl) rfl
    (fun f fn hf hfn => by
      obtain rfl : f = 7 := Option.some.inj ((show Tryz.prog.funcNamed "errand/errandlaw28.RelateBack" = some 7 by kernel_rfl).symm.trans hf) |>.symm
      obtain rfl : fn = Tryz.f7 := (Option.some.inj (Tryz.func7.symm.trans hfn)).symm
      refine ⟨by kernel_rfl, fun j t ht => ?_⟩
      have hall : Tryz.f7.params.all (fun t => !Tryz.prog.wantsStandIn t) = true := by kernel_rfl
      have := Array.all_eq_true_iff_forall_mem.1 hall t (Array.mem_of_getElem? ht)
      exact (by simpa using this : Tryz.prog.wantsStandIn t = false))
    (by kernel_rfl)
end Go.Proofs.YtbchceojmblkkaaGreatDoor
