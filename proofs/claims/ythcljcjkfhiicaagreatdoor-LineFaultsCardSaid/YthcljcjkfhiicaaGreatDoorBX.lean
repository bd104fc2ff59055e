/- The walk of what the statements ask of every right program. No conditions. -/
import Derived.Test.YthcljcjkfhiicaaGreatDoorBQ
set_option linter.unusedVariables false
set_option linter.unusedSimpArgs false
namespace Go.Vs.YthcljcjkfhiicaaGreatDoor
set_option linter.unusedSimpArgs false
set_option linter.unusedVariables false
open Go.Proofs Go.Vs.U8 Go.Vs.Pa
set_option maxRecDepth 100000
set_option maxHeartbeats 8000000
def awS : Str := [59, 120, 61, 97, 44, 34, 98, 59, 99, 34, 59, 89, 45, 50, 61, 94, 94, 94, 110, 94, 39, 94, 120, 58, 118]
def awL : List Pm := [⟨[88], [[97], [98, 59, 99]]⟩, ⟨[89, 45, 50], [[94, 10, 34, 94, 120]]⟩]
theorem aw_parse : parseR awS 6 0 [] = .ok awL 23 := by kernel_rfl
theorem aw_cut : parseR [59, 88, 61, 34, 97] 6 0 [] = .no 3 5 := by kernel_rfl
theorem aw_check : checkAll awL = 0 := by kernel_rfl
theorem aw_print : printsP awL = [59, 88, 61, 97, 44, 34, 98, 59, 99, 34, 59, 89, 45, 50, 61, 94, 94, 94, 110, 94, 39, 94, 94, 120] := by kernel_rfl
theorem aw_find : findP awL [89, 45, 50] = some ⟨[89, 45, 50], [[94, 10, 34, 94, 120]]⟩ := by kernel_rfl
theorem fn_awake : Fn G Tryz.prog k_law17_awake [] (.bool true) := by
  refine fn_intro hm ok_law17_awake (by simp) ?_
  have hP1 := fn_Parse awS (by decide)
  rw [aw_parse] at hP1
  have hP2 := fn_Parse [59, 88, 61, 34, 97] (by decide)
  rw [aw_cut] at hP2
  have hfit : Sml awL := by
    intro p hp
    simp [awL] at hp
    rcases hp with rfl | rfl <;> simp
  have hPA := fn_PrintAll awL (by decide) hfit.fit
  simp only [printsI, aw_check, aw_print, if_true] at hPA
  have hF := fn_Find awL [89, 45, 50] (by decide) (fun p hp => by have := hfit.fit.v p hp; omega)
  rw [aw_find] at hF
  have hCode := fn_Code 3 [5]
  have hPlace := fn_Place 3 [5] (by simp) (by simp)
  have hS1 := fn_Same awL awL (by decide) (by decide) hfit.fit hfit.fit
  have hS2 := fn_Same awL [] (by decide) (by decide) hfit.fit ⟨by simp, by simp, by simp⟩
  have hC := fn_Check ⟨[88], []⟩ (by decide)
  have hC' : checkP ⟨[88], []⟩ = 20 := by kernel_rfl
  rw [hC'] at hC
  have hps : ps awL = [[.str [88], .slice [[.str [97]], [.str [98, 59, 99]]]], [.str [89, 45, 50], .slice [[.str [94, 10, 34, 94, 120]]]]] := rfl
  simp only [parseI, hps] at hP1 hP2 hPA hF hS1 hS2
  obtain ⟨et, ev, he⟩ := errIV_not_nil 3 [5]
  rw [he] at hP2 hCode hPlace
  simp [c_law17_awake, r_law17_awake]
  refine callW_imm hP1 ?_
  simp (disch := omega) [br_yes, br_no, wrap_i64, wrap_u8, wrap_i32, List.getElem?_cons_zero, List.getElem?_cons_succ]
  refine callW_imm hPA ?_
  simp (disch := omega) [br_yes, br_no, wrap_i64, wrap_u8, wrap_i32, List.getElem?_cons_zero, List.getElem?_cons_succ]
  refine callW_imm hP2 ?_
  simp (disch := omega) [br_yes, br_no, wrap_i64, wrap_u8, wrap_i32, List.getElem?_cons_zero, List.getElem?_cons_succ]
  refine callW_imm hF ?_
  simp (disch := omega) [br_yes, br_no, wrap_i64, wrap_u8, wrap_i32, List.getElem?_cons_zero, List.getElem?_cons_succ, foundI, Pm.iv, ts]
  refine callW_imm hCode ?_
  simp (disch := omega) [br_yes, br_no, wrap_i64, wrap_u8, wrap_i32, List.getElem?_cons_zero, List.getElem?_cons_succ]
  refine callW_imm hPlace ?_
  simp (disch := omega) [br_yes, br_no, wrap_i64, wrap_u8, wrap_i32, List.getElem?_cons_zero, List.getElem?_cons_succ]
  refine callW_imm hS1 ?_
  simp (disch := omega) [br_yes, br_no, wrap_i64, wrap_u8, wrap_i32, List.getElem?_cons_zero, List.getElem?_cons_succ]
  refine callW_imm hS2 ?_
  simp (disch := omega) [br_yes, br_no, wrap_i64, wrap_u8, wrap_i32, List.getElem?_cons_zero, List.getElem?_cons_succ, awL]
  refine callW_imm hC ?_
  simp (disch := omega) [br_yes, br_no, wrap_i64, wrap_u8, wrap_i32, List.getElem?_cons_zero, List.getElem?_cons_succ]
end Go.Vs.YthcljcjkfhiicaaGreatDoor
