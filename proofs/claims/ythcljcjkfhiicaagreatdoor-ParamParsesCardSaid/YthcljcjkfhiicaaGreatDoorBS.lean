/- The walk of the statement ParamParses. No conditions. -/
import Derived.Test.YthcljcjkfhiicaaGreatDoorBP
import Derived.Test.YthcljcjkfhiicaaGreatDoorBX
import Derived.Test.YthcljcjkfhiicaaGreatDoorBY
set_option linter.unusedVariables false
set_option linter.unusedSimpArgs false
namespace Go.Vs.YthcljcjkfhiicaaGreatDoor
set_option linter.unusedSimpArgs false
set_option linter.unusedVariables false
open Go.Proofs Go.Vs.U8 Go.Vs.Pa
set_option maxRecDepth 100000
set_option maxHeartbeats 8000000
theorem fn_ParamParses (s : Str) : Fn G Tryz.prog k_law17_ParamParses [.str s] (.bool true) := by
  refine fn_intro hm ok_law17_ParamParses (by simp) ?_
  have hA := fn_awake
  simp [c_law17_ParamParses, r_law17_ParamParses]
  by_cases h5 : 500 < s.length
  · simp (disch := omega) [br_yes, br_no, wrap_i64, wrap_u8, wrap_i32, List.getElem?_cons_zero, List.getElem?_cons_succ]
    refine callW_imm hA ?_
    simp
  · have hP := fn_Parse s (by omega)
    have hQ := fn_rParse s (by omega)
    simp (disch := omega) [br_yes, br_no, wrap_i64, wrap_u8, wrap_i32, List.getElem?_cons_zero, List.getElem?_cons_succ]
    refine callW_imm hP ?_
    cases hR : parseR s 6 0 [] with
    | no e p =>
      obtain ⟨h1, h2, h3⟩ := parseR_no s 6 0 [] e p (by omega) hR
      rw [hR] at hQ
      simp (disch := omega) [br_yes, br_no, wrap_i64, wrap_u8, wrap_i32, List.getElem?_cons_zero, List.getElem?_cons_succ, parseI]
      refine callW_imm hQ ?_
      simp (disch := omega) [br_yes, br_no, wrap_i64, wrap_u8, wrap_i32, List.getElem?_cons_zero, List.getElem?_cons_succ, parseJ]
      refine callW_imm (fn_Back [] (by simp)) ?_
      simp (disch := omega) [br_yes, br_no, wrap_i64, wrap_u8, wrap_i32, List.getElem?_cons_zero, List.getElem?_cons_succ]
      have fe : Fit [] := ⟨by simp, by simp, by simp⟩
      refine callW_imm (fn_rSame [] [] (by simp) (by simp) fe fe) ?_
      simp (disch := omega) [br_yes, br_no, wrap_i64, wrap_u8, wrap_i32, List.getElem?_cons_zero, List.getElem?_cons_succ]
      refine callW_imm (fn_Code e [p]) ?_
      have hPl := fn_Place e [p] (by simp; omega) (by simp)
      obtain ⟨et, ev, he⟩ := errIV_not_nil e [p]
      rw [he] at hPl ⊢
      simp (disch := omega) [br_yes, br_no, wrap_i64, wrap_u8, wrap_i32, List.getElem?_cons_zero, List.getElem?_cons_succ, h1]
      refine callW_imm hPl ?_
      simp (disch := omega) [br_yes, br_no, wrap_i64, wrap_u8, wrap_i32, List.getElem?_cons_zero, List.getElem?_cons_succ]
      refine callW_imm hA ?_
      simp
    | ok l n =>
      obtain ⟨h1, h2, h3⟩ := parseR_ok s 6 0 [] l n (by omega) (by intro p hp; simp at hp) hR
      simp at h3
      rw [hR] at hQ
      simp (disch := omega) [br_yes, br_no, wrap_i64, wrap_u8, wrap_i32, List.getElem?_cons_zero, List.getElem?_cons_succ, parseI]
      refine callW_imm hQ ?_
      simp (disch := omega) [br_yes, br_no, wrap_i64, wrap_u8, wrap_i32, List.getElem?_cons_zero, List.getElem?_cons_succ, parseJ]
      refine callW_imm (fn_Back l (by omega)) ?_
      simp (disch := omega) [br_yes, br_no, wrap_i64, wrap_u8, wrap_i32, List.getElem?_cons_zero, List.getElem?_cons_succ]
      refine callW_imm (fn_rSame l l (by omega) (by omega) h2.fit h2.fit) ?_
      simp (disch := omega) [br_yes, br_no, wrap_i64, wrap_u8, wrap_i32, List.getElem?_cons_zero, List.getElem?_cons_succ]
      refine callW_imm fn_Code_nil ?_
      simp (disch := omega) [br_yes, br_no, wrap_i64, wrap_u8, wrap_i32, List.getElem?_cons_zero, List.getElem?_cons_succ]
      refine callW_imm hA ?_
      simp
theorem ParamParses_true (args : List IV) (h : Args [.str] args) : Fn G Tryz.prog k_law17_ParamParses args (.bool true) := by
  obtain ⟨w, c, rfl, ⟨s, hs, _⟩, hc⟩ := h
  have hc : c = [] := hc
  subst hc
  simp only [List.cons.injEq, and_true] at hs
  subst hs
  exact fn_ParamParses s
end Go.Vs.YthcljcjkfhiicaaGreatDoor
