/- The walk of what the line statements ask of every right program. No conditions. -/
import Derived.Test.YthcljcjkfhiicaaGreatDoorCE
set_option linter.unusedVariables false
set_option linter.unusedSimpArgs false
namespace Go.Vs.YthcljcjkfhiicaaGreatDoor
set_option linter.unusedSimpArgs false
set_option linter.unusedVariables false
open Go.Proofs Go.Vs.U8 Go.Vs.Pa
set_option maxRecDepth 100000
set_option maxHeartbeats 8000000
def lwS : Str := [115, 117, 109, 109, 97, 114, 121, 59, 108, 97, 110, 103, 117, 97, 103, 101, 61, 101, 110, 58, 77, 105, 108, 107, 59, 32, 98, 114, 101, 97, 100]
def lwX : Ln := ⟨[83, 85, 77, 77, 65, 82, 89], [⟨[76, 65, 78, 71, 85, 65, 71, 69], [[101, 110]]⟩], [77, 105, 108, 107, 59, 32, 98, 114, 101, 97, 100]⟩
def lwA : Ln := ⟨[65], [], []⟩
def lwV : Ln := ⟨[83, 85, 77, 77, 65, 82, 89], [], [118]⟩
theorem lw_parse : lineR lwS = .ok lwX := by kernel_rfl
theorem lw_cut : lineR [65, 59, 66, 61, 34, 99, 58, 100] = .no 3 [1, 7] := by kernel_rfl
theorem lw_check : checkX lwX = 0 := by kernel_rfl
theorem lw_print : printX lwX = [83, 85, 77, 77, 65, 82, 89, 59, 76, 65, 78, 71, 85, 65, 71, 69, 61, 101, 110, 58, 77, 105, 108, 107, 59, 32, 98, 114, 101, 97, 100] := by kernel_rfl
theorem lw_set : setL [lwX, lwA] lwV = [lwV, lwA] := by kernel_rfl
theorem lw_get : getL [lwV, lwA] [65] = some lwA := by kernel_rfl
theorem lw_count : countL [lwV, lwA] [83, 85, 77, 77, 65, 82, 89] = 1 := by kernel_rfl
theorem lw_drop : dropL [lwV, lwA] [65] = [lwV] := by kernel_rfl
theorem lw_check0 : checkX ln0 = 4 := by kernel_rfl
theorem fit_lwX : FitX lwX := ⟨by decide, by decide, ⟨by simp [lwX], by simp [lwX], by simp [lwX]⟩, by decide⟩
theorem fit_lwA : FitX lwA := ⟨by decide, by decide, ⟨by simp [lwA], by simp [lwA], by simp [lwA]⟩, by decide⟩
theorem fit_lwV : FitX lwV := ⟨by decide, by decide, ⟨by simp [lwV], by simp [lwV], by simp [lwV]⟩, by decide⟩
theorem fit_ln0 : FitX ln0 := ⟨by decide, by decide, ⟨by simp [ln0], by simp [ln0], by simp [ln0]⟩, by decide⟩
theorem fitL2 {a b : Ln} (ha : FitX a) (hb : FitX b) : FitL [a, b] := by
  intro x hx
  simp at hx
  rcases hx with rfl | rfl
  · exact ha
  · exact hb
theorem fn_lawake : Fn G Tryz.prog k_law18_awake [] (.bool true) := by
  refine fn_intro hm ok_law18_awake (by simp) ?_
  have hP1 := fn_lParse lwS (by decide)
  rw [lw_parse] at hP1
  have hP2 := fn_lParse [65, 59, 66, 61, 34, 99, 58, 100] (by decide)
  rw [lw_cut] at hP2
  have hPr := fn_lPrint lwX fit_lwX
  simp only [printXI, lw_check, lw_print, if_true] at hPr
  have hSet := fn_lSet [lwX, lwA] lwV (by decide) (fitL2 fit_lwX fit_lwA) fit_lwV
  rw [lw_set] at hSet
  have fVA : FitL [lwV, lwA] := fitL2 fit_lwV fit_lwA
  have hGet := fn_lGet [lwV, lwA] [65] (by decide) fVA
  rw [lw_get] at hGet
  have hCode := fn_Code 3 [1, 7]
  have hPlace := fn_Place 3 [1, 7] (by simp) (by simp)
  have hCount := fn_lCount [lwV, lwA] [83, 85, 77, 77, 65, 82, 89] (by decide)
  rw [lw_count] at hCount
  have hDrop := fn_lDrop [lwV, lwA] [65] (by decide) fVA
  rw [lw_drop] at hDrop
  have hS1 := fn_lSame [lwV, lwA] [lwV, lwA] (by decide) (by decide) fVA fVA
  have hS2 := fn_lSame [lwV, lwA] [] (by decide) (by decide) fVA (by intro x hx; simp at hx)
  have hC0 := fn_lCheck ln0 fit_ln0
  rw [lw_check0] at hC0
  obtain ⟨et, ev, he⟩ := errIV_not_nil 3 [1, 7]
  have e1 : lwX.iv = .agg [.str [83, 85, 77, 77, 65, 82, 89], .slice [[.str [76, 65, 78, 71, 85, 65, 71, 69], .slice [[.str [101, 110]]]]], .str [77, 105, 108, 107, 59, 32, 98, 114, 101, 97, 100]] := rfl
  have e2 : lwA.iv = .agg [.str [65], .slice [], .str []] := rfl
  have e3 : lwV.iv = .agg [.str [83, 85, 77, 77, 65, 82, 89], .slice [], .str [118]] := rfl
  have e0 : ln0.iv = .agg [.str [], .slice [], .str []] := rfl
  have e4 : ls [lwX, lwA] = [[.str [83, 85, 77, 77, 65, 82, 89], .slice [[.str [76, 65, 78, 71, 85, 65, 71, 69], .slice [[.str [101, 110]]]]], .str [77, 105, 108, 107, 59, 32, 98, 114, 101, 97, 100]], [.str [65], .slice [], .str []]] := rfl
  have e5 : ls [lwV, lwA] = [[.str [83, 85, 77, 77, 65, 82, 89], .slice [], .str [118]], [.str [65], .slice [], .str []]] := rfl
  have e6 : ls [lwV] = [[.str [83, 85, 77, 77, 65, 82, 89], .slice [], .str [118]]] := rfl
  have e7 : ls [] = [] := rfl
  simp only [lineI, gotI, e0, e1, e2, e3, e4, e5, e6, e7, he] at hP1 hP2 hPr hSet hGet hCode hPlace hCount hDrop hS1 hS2 hC0
  simp [c_law18_awake, r_law18_awake]
  refine callW_imm hP1 ?_
  simp (disch := omega) [br_yes, br_no, wrap_i64, wrap_u8, wrap_i32, List.getElem?_cons_zero, List.getElem?_cons_succ]
  refine callW_imm hPr ?_
  simp (disch := omega) [br_yes, br_no, wrap_i64, wrap_u8, wrap_i32, List.getElem?_cons_zero, List.getElem?_cons_succ]
  refine callW_imm hP2 ?_
  simp (disch := omega) [br_yes, br_no, wrap_i64, wrap_u8, wrap_i32, List.getElem?_cons_zero, List.getElem?_cons_succ]
  refine callW_imm hSet ?_
  simp (disch := omega) [br_yes, br_no, wrap_i64, wrap_u8, wrap_i32, List.getElem?_cons_zero, List.getElem?_cons_succ]
  refine callW_imm hGet ?_
  simp (disch := omega) [br_yes, br_no, wrap_i64, wrap_u8, wrap_i32, List.getElem?_cons_zero, List.getElem?_cons_succ]
  refine callW_imm hCode ?_
  simp (disch := omega) [br_yes, br_no, wrap_i64, wrap_u8, wrap_i32, List.getElem?_cons_zero, List.getElem?_cons_succ]
  refine callW_imm hPlace ?_
  simp (disch := omega) [br_yes, br_no, wrap_i64, wrap_u8, wrap_i32, List.getElem?_cons_zero, List.getElem?_cons_succ]
  refine callW_imm hCount ?_
  simp (disch := omega) [br_yes, br_no, wrap_i64, wrap_u8, wrap_i32, List.getElem?_cons_zero, List.getElem?_cons_succ]
  refine callW_imm hDrop ?_
  simp (disch := omega) [br_yes, br_no, wrap_i64, wrap_u8, wrap_i32, List.getElem?_cons_zero, List.getElem?_cons_succ]
  refine callW_imm hS1 ?_
  simp (disch := omega) [br_yes, br_no, wrap_i64, wrap_u8, wrap_i32, List.getElem?_cons_zero, List.getElem?_cons_succ]
  refine callW_imm hS2 ?_
  simp (disch := omega) [br_yes, br_no, wrap_i64, wrap_u8, wrap_i32, List.getElem?_cons_zero, List.getElem?_cons_succ, lwV]
  refine callW_imm hC0 ?_
  simp (disch := omega) [br_yes, br_no, wrap_i64, wrap_u8, wrap_i32, List.getElem?_cons_zero, List.getElem?_cons_succ]
end Go.Vs.YthcljcjkfhiicaaGreatDoor
