/- The walk of line, part 4: whether lines may be; their text. No conditions. -/
import Derived.Test.YtbchceojmblkkaaGreatDoorCB
set_option linter.unusedVariables false
set_option linter.unusedSimpArgs false
namespace Go.Vs.YtbchceojmblkkaaGreatDoor
set_option linter.unusedSimpArgs false
set_option linter.unusedVariables false
open Go.Proofs Go.Vs.U8 Go.Vs.Pa
set_option maxRecDepth 100000
set_option maxHeartbeats 8000000
def checkX (x : Ln) : Int := if nameB x.n then (if checkAll x.p = 0 then (if 200 < x.v.length then 5 else if (odd x.v).isSome then 10 else 0) else checkAll x.p) else 4
def printX (x : Ln) : Str := x.n ++ printsP x.p ++ [58] ++ x.v
def printXI (x : Ln) : IV := .tuple [.str (if checkX x = 0 then printX x else []), .int .i64 (checkX x)]
theorem fn_lCheck (x : Ln) (fx : FitX x) : Fn G Tryz.prog k_line_Check [x.iv] (.int .i64 (checkX x)) := by
  refine fn_intro hm ok_line_Check (by simp) ?_
  simp [c_line_Check, r_line_Check, Ln.iv]
  refine callW_imm (fn_Name x.n (by have := fx.n; omega)) ?_
  cases h1 : nameB x.n with
  | false => simp (disch := omega) [br_yes, br_no, wrap_i64, wrap_u8, wrap_i32, List.getElem?_cons_zero, List.getElem?_cons_succ, checkX, h1]
  | true =>
    simp (disch := omega) [br_yes, br_no, wrap_i64, wrap_u8, wrap_i32, List.getElem?_cons_zero, List.getElem?_cons_succ]
    refine callW_imm (fn_CheckAll x.p fx.p fx.f) ?_
    by_cases h2 : checkAll x.p = 0
    · by_cases h3 : 200 < x.v.length
      · simp (disch := omega) [br_yes, br_no, wrap_i64, wrap_u8, wrap_i32, List.getElem?_cons_zero, List.getElem?_cons_succ, checkX, h1, h2, h3]
      · simp (disch := omega) [br_yes, br_no, wrap_i64, wrap_u8, wrap_i32, List.getElem?_cons_zero, List.getElem?_cons_succ, h2]
        refine callW_imm (fn_Odd x.v (by have := fx.v; omega)) ?_
        cases h4 : odd x.v with
        | none => simp [checkX, h1, h2, h3, h4, oddI]
        | some k => simp [checkX, h1, h2, h3, h4, oddI]
    · simp (disch := omega) [br_yes, br_no, wrap_i64, wrap_u8, wrap_i32, List.getElem?_cons_zero, List.getElem?_cons_succ, checkX, h1, h2]
theorem checkX_iff (x : Ln) : checkX x = 0 ↔ nameB x.n = true ∧ checkAll x.p = 0 ∧ x.v.length ≤ 200 ∧ odd x.v = none := by
  simp only [checkX]
  constructor
  · intro h
    split at h
    · next h1 =>
      split at h
      · next h2 =>
        split at h
        · cases h
        · split at h
          · cases h
          · next h3 h4 => exact ⟨h1, h2, by omega, by simpa using h4⟩
      · next h2 => exact absurd h h2
    · cases h
  · rintro ⟨h1, h2, h3, h4⟩
    rw [if_pos h1, if_pos h2, if_neg (by omega), h4]
    rfl
theorem prints_bd {l : List Pm} (h : checkAll l = 0) : (printsP l).length ≤ 4584 := by
  obtain ⟨h1, h2⟩ := checkAll_le h
  have := prints_len l h2
  omega
theorem fn_lPrint (x : Ln) (fx : FitX x) : Fn G Tryz.prog k_line_Print [x.iv] (printXI x) := by
  refine fn_intro hm ok_line_Print (by simp) ?_
  have hC := fn_lCheck x fx
  simp only [Ln.iv] at hC
  simp [c_line_Print, r_line_Print, Ln.iv]
  refine callW_imm hC ?_
  by_cases h : checkX x = 0
  · obtain ⟨h1, h2, h3, h4⟩ := (checkX_iff x).1 h
    have hpl := prints_bd h2
    have hn := fx.n
    simp (disch := omega) [br_yes, br_no, wrap_i64, wrap_u8, wrap_i32, List.getElem?_cons_zero, List.getElem?_cons_succ, h]
    refine callW_imm (fn_PrintAll x.p fx.p fx.f) ?_
    simp [printsI, h2]
    refine ⟨by omega, by omega, by omega, ?_⟩
    simp [printXI, h, printX]
  · simp (disch := omega) [br_yes, br_no, wrap_i64, wrap_u8, wrap_i32, List.getElem?_cons_zero, List.getElem?_cons_succ, h, printXI]
end Go.Vs.YtbchceojmblkkaaGreatDoor
