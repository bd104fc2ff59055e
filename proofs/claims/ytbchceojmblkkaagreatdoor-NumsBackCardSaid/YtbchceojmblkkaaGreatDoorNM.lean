/- The walk of the statements of nums: awake; what is read. No conditions. -/
import Derived.Test.YtbchceojmblkkaaGreatDoorNL
import Derived.Test.YtbchceojmblkkaaGreatDoorNK
import Derived.Test.YtbchceojmblkkaaGreatDoorRC
set_option linter.unusedVariables false
set_option linter.unusedSimpArgs false
namespace Go.Vs.YtbchceojmblkkaaGreatDoor
set_option linter.unusedSimpArgs false
set_option linter.unusedVariables false
open Go.Proofs Go.Vs.U8 Go.Vs.Pa Go.Vs.Nu Go.Lib
set_option maxRecDepth 100000
set_option maxHeartbeats 16000000
theorem aw1 : everyR (numR 5 1 31 true) [49, 44, 45, 48, 55, 44, 51, 49] = .ok [1, -7, 31] := by rfl
theorem aw2 : everyR (numR 5 1 31 true) [49, 44, 44, 50] = .no 4 2 := by rfl
theorem aw3 : everyR (numR 5 0 9 false) [53, 44, 48, 53] = .no 19 2 := by rfl
theorem aw4 : everyR dayR [77, 79, 44, 45, 49, 70, 82, 44, 43, 50, 83, 85] = .ok [(0, 0), (-1, 4), (2, 6)] := by rfl
theorem aw5 : numR 5 0 42 false [48, 48, 52, 50] = (42, 0) := by rfl
theorem itoa_k {n : Int} {k : Nat} (h : n = (k : Int)) (hk : k < 10) : itoa n = [UInt8.ofNat (48 + k)] := by rw [h, itoa_nat, dec_small hk]
theorem aw6 : printN [1, -7, 31] = [49, 44, 45, 55, 44, 51, 49] := by
  have e1 : itoa 1 = [49] := by rw [itoa_k (n := 1) (k := 1) rfl (by omega)]; rfl
  have e2 : itoa (-7) = [45, 55] := by rw [show (-7 : Int) = -((7 : Nat) : Int) by rfl, itoa_minus 7 (by omega), dec_small (by omega)]; rfl
  have e3 : itoa 31 = [51, 49] := by rw [show (31 : Int) = ((31 : Nat) : Int) by rfl, itoa_nat, dec_big (by omega), dec_small (by omega)]; rfl
  simp only [printN, List.map_cons, List.map_nil, e1, e2, e3]
  rfl
theorem aw7 : printD [(0, 0), (-1, 4), (2, 6)] = [77, 79, 44, 45, 49, 70, 82, 44, 50, 83, 85] := by
  have e1 : itoa 2 = [50] := by rw [itoa_k (n := 2) (k := 2) rfl (by omega)]; rfl
  have e2 : itoa (-1) = [45, 49] := by rw [show (-1 : Int) = -((1 : Nat) : Int) by rfl, itoa_minus 1 (by omega), dec_small (by omega)]; rfl
  simp only [printD, List.map_cons, List.map_nil, dayT, e1, e2]
  rfl
theorem fn_nawake : Fn G Tryz.prog k_law20_awake [] (.bool true) := by
  refine fn_intro hm ok_law20_awake (by simp) ?_
  have h1 := fn_List 1 31 true [49, 44, 45, 48, 55, 44, 51, 49] (by decide)
  have h2 := fn_List 1 31 true [49, 44, 44, 50] (by decide)
  have h3 := fn_List 0 9 false [53, 44, 48, 53] (by decide)
  have h4 := fn_Days [77, 79, 44, 45, 49, 70, 82, 44, 43, 50, 83, 85] (by decide)
  have h5 := fn_nOne 0 42 false [48, 48, 52, 50] (by decide)
  rw [aw1] at h1; rw [aw2] at h2; rw [aw3] at h3; rw [aw4] at h4; rw [aw5] at h5
  have g1 := fn_SameInts [1, -7, 31] [1, -7, 31] (by decide) (by decide)
  have g2 := fn_Code 4 [2]
  have g3 := fn_Place 4 [2] (by simp) (by simp)
  have g4 := fn_Code 19 [2]
  have g5 := fn_Place 19 [2] (by simp) (by simp)
  have g6 := fn_nBack [(0, 0), (-1, 4), (2, 6)] (by decide)
  have g7 := fn_SameDays [(0, 0), (-1, 4), (2, 6)] [(0, 0), (-1, 4), (2, 6)] (by decide) (by decide)
  have g8 := fn_PrintN [1, -7, 31] (by decide) (by simp [i64])
  have g9 := fn_PrintD [(0, 0), (-1, 4), (2, 6)] (by decide) (by simp [dn64, i64])
  rw [aw6] at g8; rw [aw7] at g9
  have g10 := fn_Weekday [83, 85]
  have g11 := fn_Weekday [115, 117]
  have g12 := fn_WeekdayName 4
  rw [show wkD [83, 85] = 6 from rfl] at g10
  rw [show wkD [115, 117] = -1 from rfl] at g11
  rw [show wkN 4 = [70, 82] from rfl] at g12
  have g13 := fn_Has [1, -7, 31] 31 (by decide)
  have g14 := fn_Has [1, -7, 31] 7 (by decide)
  rw [show decide (31 ∈ ([1, -7, 31] : List Int)) = true from rfl] at g13
  rw [show decide (7 ∈ ([1, -7, 31] : List Int)) = false from rfl] at g14
  simp only [gotEI, gotDI, oneI, is, dns, List.map_cons, List.map_nil, Int.cast_ofNat_Int, decide_true, if_true, List.sum_cons, List.sum_nil, Int.add_zero] at h1 h2 h3 h4 h5 g1 g3 g5 g6 g7 g8 g9 g13 g14
  obtain ⟨t2, v2, e2⟩ := errIV_not_nil 4 [2]
  obtain ⟨t3, v3, e3⟩ := errIV_not_nil 19 [2]
  rw [e2] at h2 g2 g3
  rw [e3] at h3 g4 g5
  simp [c_law20_awake, r_law20_awake]
  refine callW_imm h1 ?_
  simp (disch := omega) [br_yes, br_no, wrap_i64, wrap_u8, wrap_i32, List.getElem?_cons_zero, List.getElem?_cons_succ]
  refine callW_imm h2 ?_
  simp (disch := omega) [br_yes, br_no, wrap_i64, wrap_u8, wrap_i32, List.getElem?_cons_zero, List.getElem?_cons_succ]
  refine callW_imm h3 ?_
  simp (disch := omega) [br_yes, br_no, wrap_i64, wrap_u8, wrap_i32, List.getElem?_cons_zero, List.getElem?_cons_succ]
  refine callW_imm h4 ?_
  simp (disch := omega) [br_yes, br_no, wrap_i64, wrap_u8, wrap_i32, List.getElem?_cons_zero, List.getElem?_cons_succ]
  refine callW_imm h5 ?_
  simp (disch := omega) [br_yes, br_no, wrap_i64, wrap_u8, wrap_i32, List.getElem?_cons_zero, List.getElem?_cons_succ]
  refine callW_imm g1 ?_
  simp (disch := omega) [br_yes, br_no, wrap_i64, wrap_u8, wrap_i32, List.getElem?_cons_zero, List.getElem?_cons_succ]
  refine callW_imm g2 ?_
  simp (disch := omega) [br_yes, br_no, wrap_i64, wrap_u8, wrap_i32, List.getElem?_cons_zero, List.getElem?_cons_succ]
  refine callW_imm g3 ?_
  simp (disch := omega) [br_yes, br_no, wrap_i64, wrap_u8, wrap_i32, List.getElem?_cons_zero, List.getElem?_cons_succ]
  refine callW_imm g4 ?_
  simp (disch := omega) [br_yes, br_no, wrap_i64, wrap_u8, wrap_i32, List.getElem?_cons_zero, List.getElem?_cons_succ]
  refine callW_imm g5 ?_
  simp (disch := omega) [br_yes, br_no, wrap_i64, wrap_u8, wrap_i32, List.getElem?_cons_zero, List.getElem?_cons_succ]
  refine callW_imm g6 ?_
  simp (disch := omega) [br_yes, br_no, wrap_i64, wrap_u8, wrap_i32, List.getElem?_cons_zero, List.getElem?_cons_succ]
  refine callW_imm g7 ?_
  simp (disch := omega) [br_yes, br_no, wrap_i64, wrap_u8, wrap_i32, List.getElem?_cons_zero, List.getElem?_cons_succ]
  refine callW_imm g8 ?_
  simp (disch := omega) [br_yes, br_no, wrap_i64, wrap_u8, wrap_i32, List.getElem?_cons_zero, List.getElem?_cons_succ]
  refine callW_imm g9 ?_
  simp (disch := omega) [br_yes, br_no, wrap_i64, wrap_u8, wrap_i32, List.getElem?_cons_zero, List.getElem?_cons_succ]
  refine callW_imm g10 ?_
  simp (disch := omega) [br_yes, br_no, wrap_i64, wrap_u8, wrap_i32, List.getElem?_cons_zero, List.getElem?_cons_succ]
  refine callW_imm g11 ?_
  simp (disch := omega) [br_yes, br_no, wrap_i64, wrap_u8, wrap_i32, List.getElem?_cons_zero, List.getElem?_cons_succ]
  refine callW_imm g12 ?_
  simp (disch := omega) [br_yes, br_no, wrap_i64, wrap_u8, wrap_i32, List.getElem?_cons_zero, List.getElem?_cons_succ]
  refine callW_imm g13 ?_
  simp (disch := omega) [br_yes, br_no, wrap_i64, wrap_u8, wrap_i32, List.getElem?_cons_zero, List.getElem?_cons_succ]
  refine callW_imm g14 ?_
  simp (disch := omega) [br_yes, br_no, wrap_i64, wrap_u8, wrap_i32, List.getElem?_cons_zero, List.getElem?_cons_succ]
end Go.Vs.YtbchceojmblkkaaGreatDoor
