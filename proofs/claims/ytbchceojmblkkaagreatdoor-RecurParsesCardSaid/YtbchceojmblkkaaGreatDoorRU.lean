/- The code of the seat's functions in the small typed code; printed by a program of the prover's. -/
import Derived.Test.YtbchceojmblkkaaGreatDoorRI
import Derived.Test.YtbchceojmblkkaaGreatDoorRows
import Derived.KernelRfl
import Derived.Test.YtbchceojmblkkaaGreatDoorRR
import Derived.Test.YtbchceojmblkkaaGreatDoorRO
import Derived.Test.YtbchceojmblkkaaGreatDoorRN
set_option linter.unusedVariables false
set_option linter.unusedSimpArgs false
namespace Go.Vs.U8
end Go.Vs.U8
namespace Go.Vs.Pa
end Go.Vs.Pa
namespace Go.Vs.Cv
end Go.Vs.Cv
namespace Go.Vs.Mo
end Go.Vs.Mo
namespace Go.Vs.Nu
end Go.Vs.Nu
namespace Go.Vs.YtbchceojmblkkaaGreatDoor
set_option linter.unusedSimpArgs false
set_option linter.unusedVariables false
open Go.Proofs
set_option maxRecDepth 100000
set_option maxHeartbeats 4000000

def k_law21_RecurParses : Nat := 8
def k_law21_awake : Nat := 48
def c_law21_RecurParses : VCode :=
 .seq (rt [o1 2 (.move (cb false))] []) (.seq (.seq (rt [o1 8 (.move (tm 0)), o1 9 (.lenS (tm 8)), o1 10 (.bin (.gtr) (tm 9) (ci 400))] [8, 9]) (.cond (tm 10) (.seq (rt [o1 11 (.call k_law21_awake []), o1 2 (.move (tm 11))] [11, 11]) (.ret)) (.skip))) (.seq (rt [o1 13 (.move (tm 0)), o1 14 (.call k_recur_Parse [tm 13]), o1 12 (.move (tm 14)), o1 15 (.extract (tm 12) 0), o1 16 (.extract (tm 12) 1), o1 3 (.alloc [.val (.int (.u8) 0), .val (.int (.i64) 0), .val (.int (.i64) 0), .val (.int (.u8) 0), .val (.int (.i64) 0), .nils, .nils, .nils, .nils, .nils, .nils, .nils, .nils, .nils, .val (.int (.i64) 0)]), o3 (.store 15 (tm 3) (tm 15)), o1 4 (.move (tm 16))] [12, 16]) (.seq (rt [o1 18 (.move (tm 0)), o1 19 (.call k_ref21_Parse [tm 18]), o1 17 (.move (tm 19)), o1 20 (.extract (tm 17) 0), o1 21 (.extract (tm 17) 1), o1 22 (.extract (tm 17) 2), o1 5 (.alloc [.val (.int (.u8) 0), .val (.int (.i64) 0), .val (.int (.i64) 0), .val (.int (.u8) 0), .val (.int (.i64) 0), .nils, .nils, .nils, .nils, .nils, .nils, .nils, .nils, .nils, .val (.int (.i64) 0)]), o3 (.store 15 (tm 5) (tm 20)), o1 6 (.move (tm 21)), o1 7 (.move (tm 22))] [17, 22]) (.seq (.region [o1 23 (.load (some 15) (tm 3)), o1 24 (.call k_law21_Back [tm 23]), o1 25 (.load (some 15) (tm 5)), o1 26 (.call k_ref21_Same [tm 24, tm 25]), o1 27 (.move (tm 26)), o2 28 (.move (tm 4)) 27 true, o2 29 (.call k_fault_Code [tm 28]) 27 true, o2 30 (.move (tm 6)) 27 true, o2 31 (.bin (.eql) (tm 29) (tm 30)) 27 true, o1 32 (.pick (tm 27) (tm 31) (cb false)), o1 33 (.move (tm 32)), o2 34 (.move (tm 4)) 33 true, o2 35 (.call k_fault_Place [tm 34]) 33 true, o2 36 (.move (tm 7)) 33 true, o2 37 (.bin (.eql) (tm 35) (tm 36)) 33 true, o1 38 (.pick (tm 33) (tm 37) (cb false)), o1 39 (.move (tm 38)), o2 40 (.move (tm 4)) 39 true, o2 41 (.eqN false (tm 40)) 39 true, o2 42 (.move (tm 6)) 39 true, o2 43 (.bin (.eql) (tm 42) (ci 0)) 39 true, o2 44 (.eqB false (tm 41) (tm 43)) 39 true, o1 45 (.pick (tm 39) (tm 44) (cb false)), o1 46 (.move (tm 45)), o2 47 (.call k_law21_awake []) 46 true, o1 48 (.pick (tm 46) (tm 47) (cb false)), o1 2 (.move (tm 48))] (.drawn [(1, 2), (6, 7), (12, 13)] (prs [(1, [(0, 0), (2, 2)]), (3, [(0, 2)]), (6, [(0, 5), (7, 7)]), (12, [(0, 11), (13, 13)]), (24, [(0, 23)])])) [23, 48]) (.ret)))))
def r_law21_RecurParses : List VRes := [.tmp 2]
theorem ok_law21_RecurParses : FnOk Tryz.prog k_law21_RecurParses c_law21_RecurParses r_law21_RecurParses 49 :=
 ⟨⟨Tryz.f8, _, Tryz.func8, by decide, rfl, by kernel_rfl, by kernel_rfl, by kernel_rfl, rfl⟩⟩

def c_law21_awake : VCode :=
 .seq (rt [o1 0 (.move (cb false))] []) (.seq (rt [o1 11 (.call k_recur_Parse [cs [66, 89, 68, 65, 89, 61, 45, 49, 70, 82, 44, 77, 79, 59, 70, 82, 69, 81, 61, 77, 79, 78, 84, 72, 76, 89, 59, 67, 79, 85, 78, 84, 61, 51, 59, 66, 89, 83, 69, 84, 80, 79, 83, 61, 49, 59, 87, 75, 83, 84, 61, 83, 85]]), o1 10 (.move (tm 11)), o1 12 (.extract (tm 10) 0), o1 13 (.extract (tm 10) 1), o1 1 (.alloc [.val (.int (.u8) 0), .val (.int (.i64) 0), .val (.int (.i64) 0), .val (.int (.u8) 0), .val (.int (.i64) 0), .nils, .nils, .nils, .nils, .nils, .nils, .nils, .nils, .nils, .val (.int (.i64) 0)]), o3 (.store 15 (tm 1) (tm 12)), o1 2 (.move (tm 13))] [10, 13]) (.seq (rt [o1 15 (.load (some 15) (tm 1)), o1 16 (.call k_recur_Print [tm 15]), o1 14 (.move (tm 16)), o1 17 (.extract (tm 14) 0), o1 18 (.extract (tm 14) 1), o1 3 (.move (tm 17)), o1 4 (.move (tm 18))] [14, 18]) (.seq (rt [o1 20 (.call k_recur_Parse [cs [70, 82, 69, 81, 61, 68, 65, 73, 76, 89, 59, 66, 89, 72, 79, 85, 82, 61, 49, 44, 50, 52]]), o1 19 (.move (tm 20)), o1 21 (.extract (tm 19) 0), o1 22 (.extract (tm 19) 1), o1 5 (.alloc [.val (.int (.u8) 0), .val (.int (.i64) 0), .val (.int (.i64) 0), .val (.int (.u8) 0), .val (.int (.i64) 0), .nils, .nils, .nils, .nils, .nils, .nils, .nils, .nils, .nils, .val (.int (.i64) 0)]), o3 (.store 15 (tm 5) (tm 21)), o1 6 (.move (tm 22))] [5, 5, 19, 22]) (.seq (rt [o1 24 (.call k_recur_Parse [cs [70, 82, 69, 81, 61, 68, 65, 73, 76, 89, 59, 66, 89, 68, 65, 89, 61, 49, 77, 79]]), o1 23 (.move (tm 24)), o1 25 (.extract (tm 23) 0), o1 26 (.extract (tm 23) 1), o1 7 (.alloc [.val (.int (.u8) 0), .val (.int (.i64) 0), .val (.int (.i64) 0), .val (.int (.u8) 0), .val (.int (.i64) 0), .nils, .nils, .nils, .nils, .nils, .nils, .nils, .nils, .nils, .val (.int (.i64) 0)]), o3 (.store 15 (tm 7) (tm 25)), o1 8 (.move (tm 26))] [7, 7, 23, 26]) (.seq (rt [o1 27 (.build [.val (.int (.i64) 0), .val (.int (.i64) 0)] [(0, 1, ci (-1)), (1, 1, ci 4)]), o1 28 (.build [.val (.int (.i64) 0), .val (.int (.i64) 0)] [(0, 1, ci 0), (1, 1, ci 0)]), o1 29 (.buildSlice 2 2 [.val (.int (.i64) 0), .val (.int (.i64) 0)] [(0, 2, tm 27), (2, 2, tm 28)]), o1 30 (.buildSlice 1 1 [.val (.int (.i64) 0)] [(0, 1, ci 1)]), o1 31 (.build [.val (.int (.u8) 0), .val (.int (.i64) 0), .val (.int (.i64) 0), .val (.int (.u8) 0), .val (.int (.i64) 0), .nils, .nils, .nils, .nils, .nils, .nils, .nils, .nils, .nils, .val (.int (.i64) 0)] [(0, 1, cu 5), (1, 1, ci 1), (2, 1, ci 3), (8, 1, tm 29), (13, 1, tm 30), (14, 1, ci 6)]), o1 9 (.alloc [.val (.int (.u8) 0), .val (.int (.i64) 0), .val (.int (.i64) 0), .val (.int (.u8) 0), .val (.int (.i64) 0), .nils, .nils, .nils, .nils, .nils, .nils, .nils, .nils, .nils, .val (.int (.i64) 0)]), o3 (.store 15 (tm 9) (tm 31))] [27, 31]) (.seq (.region [o1 32 (.move (tm 2)), o1 33 (.eqN false (tm 32)), o1 34 (.move (tm 33)), o2 35 (.load (some 15) (tm 1)) 34 true, o2 36 (.call k_law21_Back [tm 35]) 34 true, o2 37 (.load (some 15) (tm 9)) 34 true, o2 38 (.call k_ref21_Same [tm 36, tm 37]) 34 true, o1 39 (.pick (tm 34) (tm 38) (cb false)), o1 40 (.move (tm 39)), o2 41 (.move (tm 4)) 40 true, o2 42 (.bin (.eql) (tm 41) (ci 0)) 40 true, o1 43 (.pick (tm 40) (tm 42) (cb false)), o1 44 (.move (tm 43)), o2 45 (.move (tm 3)) 44 true, o2 46 (.bin (.eql) (tm 45) (cs [70, 82, 69, 81, 61, 77, 79, 78, 84, 72, 76, 89, 59, 67, 79, 85, 78, 84, 61, 51, 59, 66, 89, 68, 65, 89, 61, 45, 49, 70, 82, 44, 77, 79, 59, 66, 89, 83, 69, 84, 80, 79, 83, 61, 49, 59, 87, 75, 83, 84, 61, 83, 85])) 44 true, o1 47 (.pick (tm 44) (tm 46) (cb false)), o1 48 (.move (tm 47)), o2 49 (.move (tm 6)) 48 true, o2 50 (.call k_fault_Code [tm 49]) 48 true, o2 51 (.bin (.eql) (tm 50) (ci 8)) 48 true, o1 52 (.pick (tm 48) (tm 51) (cb false)), o1 53 (.move (tm 52)), o2 54 (.move (tm 6)) 53 true, o2 55 (.call k_fault_Place [tm 54]) 53 true, o2 56 (.bin (.eql) (tm 55) (ci 20)) 53 true, o1 57 (.pick (tm 53) (tm 56) (cb false)), o1 58 (.move (tm 57)), o2 59 (.move (tm 8)) 58 true, o2 60 (.call k_fault_Code [tm 59]) 58 true, o2 61 (.bin (.eql) (tm 60) (ci 9)) 58 true, o1 62 (.pick (tm 58) (tm 61) (cb false)), o1 63 (.move (tm 62)), o2 64 (.move (tm 8)) 63 true, o2 65 (.call k_fault_Place [tm 64]) 63 true, o2 66 (.bin (.eql) (tm 65) (ci 20)) 63 true, o1 67 (.pick (tm 63) (tm 66) (cb false)), o1 68 (.move (tm 67)), o2 69 (.load (some 15) (tm 1)) 68 true, o2 70 (.call k_recur_Check [tm 69]) 68 true, o2 71 (.bin (.eql) (tm 70) (ci 0)) 68 true, o1 72 (.pick (tm 68) (tm 71) (cb false)), o1 73 (.move (tm 72)), o2 74 (.build [.val (.int (.u8) 0), .val (.int (.i64) 0), .val (.int (.i64) 0), .val (.int (.u8) 0), .val (.int (.i64) 0), .nils, .nils, .nils, .nils, .nils, .nils, .nils, .nils, .nils, .val (.int (.i64) 0)] []) 73 true, o2 75 (.call k_recur_Check [tm 74]) 73 true, o2 76 (.bin (.eql) (tm 75) (ci 8)) 73 true, o1 77 (.pick (tm 73) (tm 76) (cb false)), o1 78 (.move (tm 77)), o2 79 (.load (some 15) (tm 1)) 78 true, o2 80 (.load (some 15) (tm 1)) 78 true, o2 81 (.call k_recur_Same [tm 79, tm 80]) 78 true, o1 82 (.pick (tm 78) (tm 81) (cb false)), o1 83 (.move (tm 82)), o2 84 (.load (some 15) (tm 1)) 83 true, o2 85 (.build [.val (.int (.u8) 0), .val (.int (.i64) 0), .val (.int (.i64) 0), .val (.int (.u8) 0), .val (.int (.i64) 0), .nils, .nils, .nils, .nils, .nils, .nils, .nils, .nils, .nils, .val (.int (.i64) 0)] []) 83 true, o2 86 (.call k_recur_Same [tm 84, tm 85]) 83 true, o2 87 (.un (.not) (tm 86)) 83 true, o1 88 (.pick (tm 83) (tm 87) (cb false)), o1 89 (.move (tm 88)), o1 90 (.pick (tm 89) (cb true) (cb false)), o1 91 (.move (tm 90)), o1 92 (.pick (tm 91) (cb true) (cb false)), o1 93 (.move (tm 92)), o1 94 (.pick (tm 93) (cb true) (cb false)), o1 95 (.move (tm 94)), o1 96 (.pick (tm 95) (cb true) (cb false)), o1 0 (.move (tm 96))] (.drawn [(4, 5)] (prs [(4, [(0, 3), (5, 5)]), (6, [(0, 5)]), (18, [(0, 17)]), (23, [(0, 22)]), (28, [(0, 27)]), (33, [(0, 32)]), (38, [(0, 37)]), (43, [(0, 42)]), (49, [(0, 48)]), (54, [(0, 53)])])) [32, 96]) (.ret)))))))
def r_law21_awake : List VRes := [.tmp 0]
theorem ok_law21_awake : FnOk Tryz.prog k_law21_awake c_law21_awake r_law21_awake 97 :=
 ⟨⟨Tryz.f48, _, Tryz.func48, by decide, rfl, by kernel_rfl, by kernel_rfl, by kernel_rfl, rfl⟩⟩

end Go.Vs.YtbchceojmblkkaaGreatDoor
namespace Go.Vs.YtbchceojmblkkaaGreatDoor.Rc
set_option linter.unusedSimpArgs false
set_option linter.unusedVariables false
open Go.Proofs Go.Vs.U8 Go.Vs.Pa Go.Vs.Cv Go.Vs.Mo Go.Vs.Nu Go.Lib
set_option maxRecDepth 100000
set_option maxHeartbeats 32000000
def awR : Ru := ⟨5, 1, 3, ⟨0, 0⟩, [], [], [], [(-1, 4), (0, 0)], [], [], [], [], [1], 6⟩
theorem aw1 : parseRu [66, 89, 68, 65, 89, 61, 45, 49, 70, 82, 44, 77, 79, 59, 70, 82, 69, 81, 61, 77, 79, 78, 84, 72, 76, 89, 59, 67, 79, 85, 78, 84, 61, 51, 59, 66, 89, 83, 69, 84, 80, 79, 83, 61, 49, 59, 87, 75, 83, 84, 61, 83, 85] = .ok awR := by kernel_rfl
theorem aw2 : parseRu [70, 82, 69, 81, 61, 68, 65, 73, 76, 89, 59, 66, 89, 72, 79, 85, 82, 61, 49, 44, 50, 52] = .no 8 [18, 2] := by kernel_rfl
theorem aw3 : parseRu [70, 82, 69, 81, 61, 68, 65, 73, 76, 89, 59, 66, 89, 68, 65, 89, 61, 49, 77, 79] = .no 9 [20] := by kernel_rfl
theorem aw4 : checkR awR = 0 := by kernel_rfl
theorem aw5 : checkR ru0 = 8 := by kernel_rfl
theorem aw6 : printR awR = [70, 82, 69, 81, 61, 77, 79, 78, 84, 72, 76, 89, 59, 67, 79, 85, 78, 84, 61, 51, 59, 66, 89, 68, 65, 89, 61, 45, 49, 70, 82, 44, 77, 79, 59, 66, 89, 83, 69, 84, 80, 79, 83, 61, 49, 59, 87, 75, 83, 84, 61, 83, 85] := by
 have e1 : itoa 1 = [49] := by rw [show (1 : Int) = ((1 : Nat) : Int) by rfl, itoa_nat, dec_small (by omega)]; rfl
 have e3 : itoa 3 = [51] := by rw [show (3 : Int) = ((3 : Nat) : Int) by rfl, itoa_nat, dec_small (by omega)]; rfl
 have em : itoa (-1) = [45, 49] := by rw [show (-1 : Int) = -((1 : Nat) : Int) by rfl, itoa_minus 1 (by omega), dec_small (by omega)]; rfl
 have d1 : printD [(-1, 4), (0, 0)] = [45, 49, 70, 82, 44, 77, 79] := by
  simp only [printD, List.map_cons, List.map_nil, Go.Vs.YtbchceojmblkkaaGreatDoor.dayT, em]
  rfl
 have n1 : printN [1] = [49] := by simp only [printN, List.map_cons, List.map_nil, e1]; rfl
 have n0 : printN [] = [] := rfl
 have t : texts awR = [[70, 82, 69, 81, 61, 77, 79, 78, 84, 72, 76, 89], [67, 79, 85, 78, 84, 61, 51], [66, 89, 68, 65, 89, 61, 45, 49, 70, 82, 44, 77, 79], [66, 89, 83, 69, 84, 80, 79, 83, 61, 49], [87, 75, 83, 84, 61, 83, 85]] := by
  simp only [texts, pairs, awR, listPs, listKs, valP, lst, d1, n1, n0, e3, e1, optP]
  rfl
 rw [printR, t]
 rfl
theorem aw7 : decide (awR = awR) = true := by simp
theorem aw8 : decide (awR = ru0) = false := by
 rw [decide_eq_false_iff_not]
 intro h
 have : awR.f = ru0.f := by rw [h]
 exact absurd this (by decide)
theorem aw_fit : FitR awR := by simp [FitR, awR]
theorem fn_rawake : Fn G2 Tryz.prog k_law21_awake [] (.bool true) := by
 refine fn_intro hm ok_law21_awake (by simp) ?_
 have h1 := fn_rcParse [66, 89, 68, 65, 89, 61, 45, 49, 70, 82, 44, 77, 79, 59, 70, 82, 69, 81, 61, 77, 79, 78, 84, 72, 76, 89, 59, 67, 79, 85, 78, 84, 61, 51, 59, 66, 89, 83, 69, 84, 80, 79, 83, 61, 49, 59, 87, 75, 83, 84, 61, 83, 85] (by decide)
 have h2 := fn_rcParse [70, 82, 69, 81, 61, 68, 65, 73, 76, 89, 59, 66, 89, 72, 79, 85, 82, 61, 49, 44, 50, 52] (by decide)
 have h3 := fn_rcParse [70, 82, 69, 81, 61, 68, 65, 73, 76, 89, 59, 66, 89, 68, 65, 89, 61, 49, 77, 79] (by decide)
 have h4 := fn_recPrint awR aw_fit (by simp [awR]) (by simp [awR])
 have h5 := fn_rBack awR aw_fit
 have h6 := fn_dSameR awR awR aw_fit aw_fit
 have h7 := fn_Check' awR aw_fit (by simp [awR])
 have h8 := fn_Check' ru0 (by simp [FitR, ru0]) (by simp [ru0])
 have h9 := fn_recSame awR awR aw_fit aw_fit
 have h10 := fn_recSame awR ru0 aw_fit (by simp [FitR, ru0])
 have g2 := up (fn_Code 8 [18, 2])
 have g3 := up (fn_Place 8 [18, 2] (by simp) (by simp))
 have g4 := up (fn_Code 9 [20])
 have g5 := up (fn_Place 9 [20] (by simp) (by simp))
 rw [aw1] at h1
 rw [aw2] at h2
 rw [aw3] at h3
 unfold rtI at h4
 rw [aw4, if_pos rfl, aw6] at h4
 rw [aw4] at h7
 rw [aw5] at h8
 rw [aw7] at h6 h9
 rw [aw8] at h10
 simp only [ruI, Ru.iv, cells, awR, ru0, is, dns, List.map_cons, List.map_nil, List.sum_cons, List.sum_nil, Int.add_zero, Int.reduceAdd, errIV] at h1 h2 h3 h4 h5 h6 h7 h8 h9 h10 g2 g3 g4 g5
 simp [c_law21_awake, r_law21_awake]
 refine callW_imm h1 ?_
 simp (disch := omega) [wl]
 refine callW_imm h4 ?_
 simp (disch := omega) [wl]
 refine callW_imm h2 ?_
 simp (disch := omega) [wl]
 refine callW_imm h3 ?_
 simp (disch := omega) [wl]
 refine callW_imm h5 ?_
 simp (disch := omega) [wl]
 refine callW_imm h6 ?_
 simp (disch := omega) [wl]
 refine callW_imm g2 ?_
 simp (disch := omega) [wl]
 refine callW_imm g3 ?_
 simp (disch := omega) [wl]
 refine callW_imm g4 ?_
 simp (disch := omega) [wl]
 refine callW_imm g5 ?_
 simp (disch := omega) [wl]
 refine callW_imm h7 ?_
 simp (disch := omega) [wl]
 refine callW_imm h8 ?_
 simp (disch := omega) [wl]
 refine callW_imm h9 ?_
 simp (disch := omega) [wl]
 refine callW_imm h10 ?_
 simp (disch := omega) [wl]
 rfl
end Go.Vs.YtbchceojmblkkaaGreatDoor.Rc
