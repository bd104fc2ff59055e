/- The statement AgendaClips holds at every input: the row. No conditions. -/
import Derived.Test.YtcohndmpimkjpaaGreatDoorKBq
import Derived.Test.YtcohndmpimkjpaaGreatDoorKDq
import Derived.Test.YtcohndmpimkjpaaGreatDoorKCq
set_option linter.unusedVariables false
set_option linter.unusedSimpArgs false
set_option linter.unusedSimpArgs false
set_option linter.unusedVariables false
set_option maxRecDepth 100000
set_option maxHeartbeats 4000000
namespace Go.Proofs.YtcohndmpimkjpaaGreatDoor
open Go.Vs Go.Vs.YtcohndmpimkjpaaGreatDoor Go.RowKit Go.ChangeShapes Go.WideShapes
theorem agendaClips_holds : Rows.AgendaClipsSaid :=
  OpenClaim.holds_of_wide (p := Tryz.pinned) (s := Rows.agendaClipsSpec) (c := Rows.agendaClipsRow) 3 Tryz.f3 rfl rfl rfl rfl rfl rfl rfl ⟨rfl, rfl, rfl, rfl, rfl⟩ rfl rfl rfl rfl rfl (by kernel_rfl) Tryz.func3 (by
      unfold joinedFacts
      simp only [Bool.and_eq_true]
      and_intros
      · exact agendaClips_g0
      · exact agendaClips_g1
      · exact agendaClips_g2
      · exact agendaClips_g3
      · exact agendaClips_g4
      · exact agendaClips_g5
      · exact agendaClips_g6
      · exact agendaClips_g7
      · exact agendaClips_g8
      · exact agendaClips_f1
      · exact agendaClips_f2
      · exact agendaClips_f3
      · exact agendaClips_f4
      · exact agendaClips_g13
      · exact agendaClips_g14
      · exact agendaClips_g15
      · exact agendaClips_g16
      · exact agendaClips_g17
      · exact agendaClips_g18
      · exact agendaClips_g19
      · exact agendaClips_g20
      · exact agendaClips_g21
      · exact agendaClips_g22
      · exact agendaClips_g23
      · exact agendaClips_g24
      · exact agendaClips_g25
      · exact agendaClips_g26
      · exact agendaClips_g27
      · kernel_rfl
      · exact agendaClips_g29
      · exact agendaClips_g30
      · exact agendaClips_g31)
    (of_decide_eq_true (by kernel_rfl)) (by unfold Func.isWrapper; first | (rw [if_pos (by decide +kernel)]; kernel_rfl) | (rw [if_neg (by decide +kernel)]; exact ⟨rfl, rfl⟩))
    (fun os started H enc _ => agendaClips_lifted os started H enc)
end Go.Proofs.YtcohndmpimkjpaaGreatDoor
set_option linter.unusedSimpArgs false
set_option linter.unusedVariables false
set_option maxRecDepth 100000
set_option maxHeartbeats 4000000
namespace Go.Proofs.YtcohndmpimkjpaaGreatDoor
open Go.Vs Go.Vs.YtcohndmpimkjpaaGreatDoor Go.RowKit Go.ChangeShapes Go.WideShapes
theorem agendaClips_card : Rows.AgendaClipsCardSaid :=
  Claim7.holds_tied_plain_at .later [] _ _ _ _ agendaClips_holds (fun _ h => by cases h) agendaClips_h1 (fun _ h => by cases h) agendaClips_row_tie rfl ⟨rfl, rfl⟩ agendaClips_h2 rfl
    (fun f fn hf hfn => by
      obtain rfl : f = 3 := Option.some.inj (agendaClips_h5.symm.trans hf) |>.symm
      obtain rfl : fn = Tryz.f3 := (Option.some.inj (Tryz.func3.symm.trans hfn)).symm
      refine ⟨agendaClips_h3, fun j t ht => ?_⟩
      have hall : Tryz.f3.params.all (fun t => !Tryz.prog.wantsStandIn t) = true := by kernel_rfl
      have := Array.all_eq_true_iff_forall_mem.1 hall t (Array.mem_of_getElem? ht)
      exact (by simpa using this : Tryz.prog.wantsStandIn t = false))
    agendaClips_h4
end Go.Proofs.YtcohndmpimkjpaaGreatDoor
