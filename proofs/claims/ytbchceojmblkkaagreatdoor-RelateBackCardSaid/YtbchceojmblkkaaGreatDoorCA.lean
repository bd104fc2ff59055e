/- The code of the seat's functions in the small typed code; printed by a program of the prover's. -/
import Derived.Test.YtbchceojmblkkaaGreatDoorBX
import Derived.Test.YtbchceojmblkkaaGreatDoorRows
import Derived.KernelRfl
set_option linter.unusedVariables false
set_option linter.unusedSimpArgs false
namespace Go.Vs.YtbchceojmblkkaaGreatDoor
set_option linter.unusedSimpArgs false
set_option linter.unusedVariables false
open Go.Proofs
set_option maxRecDepth 100000
set_option maxHeartbeats 4000000

def k_law18_Small : Nat := 36
def k_line_Print : Nat := 41
def k_line_Parse : Nat := 42
def k_law18_Own : Nat := 43
def k_line_Check : Nat := 44
def k_line_Same : Nat := 45
def k_line_head : Nat := 89
def k_line_moved : Nat := 91
def k_slices_EqualFunc_Line : Nat := 97
def k__errand_line_Line_same : Nat := 98
/-- function 36 -/
def c_law18_Small : VCode :=
  .seq (rt [o1 2 (.move (cb false))] []) (.seq (.seq (rt [o1 4 (.move (tm 0)), o1 5 (.lenV (tm 4)), o1 6 (.bin (.gtr) (tm 5) (ci 30))] [4, 5]) (.cond (tm 6) (.seq (rt [o1 2 (.move (cb false))] []) (.ret)) (.skip))) (.seq (.seq (rt [o1 3 (.move (ci 0))] []) (.block 0 (.loop (.seq (.seq (rt [o1 7 (.move (tm 3)), o1 8 (.move (tm 0)), o1 9 (.lenV (tm 8)), o1 10 (.bin (.lss) (tm 7) (tm 9))] [7, 9]) (.cond (tm 10) (.skip) (.exit 0))) (.seq (.block 1 (.seq (rt [o1 13 (.move (tm 0)), o1 14 (.move (tm 3)), o1 15 (.indexAddr 3 (tm 13) (tm 14)), o1 16 (.fieldAddr 0 (tm 15)), o1 17 (.load none (tm 16)), o1 18 (.lenS (tm 17)), o1 19 (.bin (.gtr) (tm 18) (ci 40)), o1 20 (.move (tm 19)), o2 21 (.move (tm 0)) 20 false, o2 22 (.move (tm 3)) 20 false, o2 23 (.indexAddr 3 (tm 21) (tm 22)) 20 false, o2 24 (.fieldAddr 2 (tm 23)) 20 false, o2 25 (.load none (tm 24)) 20 false, o2 26 (.lenS (tm 25)) 20 false, o2 27 (.bin (.gtr) (tm 26) (ci 250)) 20 false, o1 28 (.pick (tm 20) (cb true) (tm 27)), o1 29 (.move (tm 28)), o2 30 (.move (tm 0)) 29 false, o2 31 (.move (tm 3)) 29 false, o2 32 (.indexAddr 3 (tm 30) (tm 31)) 29 false, o2 33 (.fieldAddr 1 (tm 32)) 29 false, o2 34 (.load none (tm 33)) 29 false, o2 35 (.call k_law17_Small [tm 34]) 29 false, o2 36 (.un (.not) (tm 35)) 29 false, o1 37 (.pick (tm 29) (cb true) (tm 36))] [13, 36]) (.cond (tm 37) (.seq (rt [o1 2 (.move (cb false))] []) (.ret)) (.skip)))) (rt [o1 11 (.move (tm 3)), o1 12 (.bin (.add) (tm 11) (ci 1)), o1 3 (.move (tm 12))] [11, 12])))))) (.seq (rt [o1 2 (.move (cb true))] []) (.ret))))
def r_law18_Small : List VRes := [.tmp 2]
theorem ok_law18_Small : FnOk Tryz.prog k_law18_Small c_law18_Small r_law18_Small 38 :=
  ⟨⟨Tryz.f36, _, Tryz.func36, by decide, rfl, by kernel_rfl, by kernel_rfl, by kernel_rfl, rfl⟩⟩

/-- function 41 -/
def c_line_Print : VCode :=
  .seq (rt [o1 1 (.box (tm 0)), o1 2 (.move (cs [])), o1 3 (.move (ci 0))] []) (.seq (.seq (rt [o1 7 (.load (some 3) (tm 1)), o1 8 (.call k_line_Check [tm 7]), o1 4 (.move (tm 8))] [7, 8]) (.seq (rt [o1 9 (.move (tm 4)), o1 10 (.bin (.neq) (tm 9) (ci 0))] [9, 9]) (.cond (tm 10) (.seq (rt [o1 11 (.move (tm 4)), o1 2 (.move (cs [])), o1 3 (.move (tm 11))] [11, 11]) (.ret)) (.skip)))) (.seq (rt [o1 13 (.fieldAddr 1 (tm 1)), o1 14 (.load none (tm 13)), o1 15 (.call k_param_PrintAll [tm 14]), o1 12 (.move (tm 15)), o1 16 (.extract (tm 12) 0), o1 17 (.extract (tm 12) 1), o1 5 (.move (tm 16)), o1 6 (.move (tm 17))] [12, 17]) (.seq (.seq (rt [o1 18 (.move (tm 6)), o1 19 (.bin (.neq) (tm 18) (ci 0))] [18, 18]) (.cond (tm 19) (.seq (rt [o1 20 (.move (tm 6)), o1 2 (.move (cs [])), o1 3 (.move (tm 20))] [20, 20]) (.ret)) (.skip))) (.seq (rt [o1 21 (.fieldAddr 0 (tm 1)), o1 22 (.load none (tm 21)), o1 23 (.move (tm 5)), o1 24 (.bin (.add) (tm 22) (tm 23)), o1 25 (.bin (.add) (tm 24) (cs [58])), o1 26 (.fieldAddr 2 (tm 1)), o1 27 (.load none (tm 26)), o1 28 (.bin (.add) (tm 25) (tm 27)), o1 2 (.move (tm 28)), o1 3 (.move (ci 0))] [21, 28]) (.ret)))))
def r_line_Print : List VRes := [.tmp 2, .tmp 3]
theorem ok_line_Print : FnOk Tryz.prog k_line_Print c_line_Print r_line_Print 29 :=
  ⟨⟨Tryz.f41, _, Tryz.func41, by decide, rfl, by kernel_rfl, by kernel_rfl, by kernel_rfl, rfl⟩⟩

/-- function 42 -/
def c_line_Parse : VCode :=
  .seq (rt [o1 2 (.alloc [.val (.str []), .nils, .val (.str [])]), o1 3 (.move (.const (.val (.nili))))] []) (.seq (rt [o1 11 (.move (tm 0)), o1 12 (.call k_line_head [tm 11]), o1 4 (.move (tm 12))] [11, 12]) (.seq (.seq (rt [o1 13 (.move (tm 4)), o1 14 (.bin (.eql) (tm 13) (ci 0)), o1 15 (.move (tm 14)), o2 16 (.move (tm 4)) 15 false, o2 17 (.bin (.gtr) (tm 16) (ci 24)) 15 false, o1 18 (.pick (tm 15) (cb true) (tm 17))] [13, 17]) (.cond (tm 18) (.seq (rt [o1 19 (.build [.val (.str []), .nils, .val (.str [])] []), o1 20 (.call k_fault_New [ci 4, ci 0]), o3 (.store 3 (tm 2) (tm 19)), o1 3 (.move (tm 20))] [19, 20]) (.ret)) (.skip))) (.seq (rt [o1 22 (.move (tm 0)), o1 23 (.move (tm 4)), o1 24 (.subS (tm 22) (some (tm 23)) none), o1 25 (.call k_param_Parse [tm 24]), o1 21 (.move (tm 25)), o1 26 (.extract (tm 21) 0), o1 27 (.extract (tm 21) 1), o1 28 (.extract (tm 21) 2), o1 5 (.move (tm 26)), o1 6 (.move (tm 27)), o1 7 (.move (tm 28))] [21, 28]) (.seq (.seq (rt [o1 29 (.move (tm 7)), o1 30 (.eqN true (tm 29))] [29, 29]) (.cond (tm 30) (.seq (rt [o1 31 (.build [.val (.str []), .nils, .val (.str [])] []), o1 32 (.move (tm 7)), o1 33 (.move (tm 4)), o1 34 (.call k_line_moved [tm 32, tm 33]), o3 (.store 3 (tm 2) (tm 31)), o1 3 (.move (tm 34))] [31, 34]) (.ret)) (.skip))) (.seq (rt [o1 35 (.move (tm 4)), o1 36 (.move (tm 6)), o1 37 (.bin (.add) (tm 35) (tm 36)), o1 8 (.move (tm 37))] [35, 37]) (.seq (.seq (rt [o1 38 (.move (tm 8)), o1 39 (.move (tm 0)), o1 40 (.lenS (tm 39)), o1 41 (.bin (.eql) (tm 38) (tm 40)), o1 42 (.move (tm 41)), o2 43 (.move (tm 0)) 42 false, o2 44 (.move (tm 8)) 42 false, o2 45 (.indexS (tm 43) (tm 44)) 42 false, o2 46 (.bin (.neq) (tm 45) (cu 58)) 42 false, o1 47 (.pick (tm 42) (cb true) (tm 46))] [38, 46]) (.cond (tm 47) (.seq (rt [o1 48 (.build [.val (.str []), .nils, .val (.str [])] []), o1 49 (.move (tm 8)), o1 50 (.call k_fault_New [ci 4, tm 49]), o3 (.store 3 (tm 2) (tm 48)), o1 3 (.move (tm 50))] [48, 50]) (.ret)) (.skip))) (.seq (rt [o1 51 (.move (tm 8)), o1 52 (.bin (.add) (tm 51) (ci 1)), o1 8 (.move (tm 52))] [51, 52]) (.seq (rt [o1 53 (.move (tm 0)), o1 54 (.move (tm 8)), o1 55 (.subS (tm 53) (some (tm 54)) none), o1 9 (.move (tm 55))] [53, 55]) (.seq (.seq (rt [o1 56 (.move (tm 9)), o1 57 (.lenS (tm 56)), o1 58 (.bin (.gtr) (tm 57) (ci 200))] [56, 57]) (.cond (tm 58) (.seq (rt [o1 59 (.build [.val (.str []), .nils, .val (.str [])] []), o1 60 (.move (tm 8)), o1 61 (.call k_fault_New [ci 5, tm 60]), o3 (.store 3 (tm 2) (tm 59)), o1 3 (.move (tm 61))] [59, 61]) (.ret)) (.skip))) (.seq (.seq (rt [o1 62 (.move (tm 9)), o1 63 (.call k_utf_Odd [tm 62]), o1 10 (.move (tm 63))] [62, 63]) (.seq (rt [o1 64 (.move (tm 10)), o1 65 (.bin (.geq) (tm 64) (ci 0))] [64, 64]) (.cond (tm 65) (.seq (rt [o1 66 (.build [.val (.str []), .nils, .val (.str [])] []), o1 67 (.move (tm 8)), o1 68 (.move (tm 10)), o1 69 (.bin (.add) (tm 67) (tm 68)), o1 70 (.call k_fault_New [ci 10, tm 69]), o3 (.store 3 (tm 2) (tm 66)), o1 3 (.move (tm 70))] [66, 70]) (.ret)) (.skip)))) (.seq (rt [o1 71 (.move (tm 0)), o1 72 (.move (tm 4)), o1 73 (.subS (tm 71) none (some (tm 72))), o1 74 (.call k_utf_Upper [tm 73]), o1 75 (.move (tm 5)), o1 76 (.move (tm 9)), o1 77 (.build [.val (.str []), .nils, .val (.str [])] [(0, 1, tm 74), (1, 1, tm 75), (2, 1, tm 76)]), o3 (.store 3 (tm 2) (tm 77)), o1 3 (.move (.const (.val (.nili))))] [71, 77]) (.ret))))))))))))
def r_line_Parse : List VRes := [.cell 2 (some 3), .tmp 3]
theorem ok_line_Parse : FnOk Tryz.prog k_line_Parse c_line_Parse r_line_Parse 78 :=
  ⟨⟨Tryz.f42, _, Tryz.func42, by decide, rfl, by kernel_rfl, by kernel_rfl, by kernel_rfl, rfl⟩⟩

/-- function 43 -/
def c_law18_Own : VCode :=
  .seq (rt [o1 2 (.move (.const (.nils)))] []) (.seq (rt [o1 3 (.move (.const (.nils)))] []) (.seq (.seq (rt [o1 4 (.move (ci 0))] []) (.block 0 (.loop (.seq (.seq (rt [o1 5 (.move (tm 4)), o1 6 (.move (tm 0)), o1 7 (.lenV (tm 6)), o1 8 (.bin (.lss) (tm 5) (tm 7))] [5, 7]) (.cond (tm 8) (.skip) (.exit 0))) (.seq (.block 1 (.region [o1 11 (.move (tm 3)), o1 12 (.move (tm 0)), o1 13 (.move (tm 4)), o1 14 (.indexAddr 3 (tm 12) (tm 13)), o1 15 (.fieldAddr 0 (tm 14)), o1 16 (.load none (tm 15)), o1 17 (.move (tm 0)), o1 18 (.move (tm 4)), o1 19 (.indexAddr 3 (tm 17) (tm 18)), o1 20 (.fieldAddr 1 (tm 19)), o1 21 (.load none (tm 20)), o1 22 (.call k_law17_Own [tm 21]), o1 23 (.move (tm 0)), o1 24 (.move (tm 4)), o1 25 (.indexAddr 3 (tm 23) (tm 24)), o1 26 (.fieldAddr 2 (tm 25)), o1 27 (.load none (tm 26)), o1 28 (.build [.val (.str []), .nils, .val (.str [])] [(0, 1, tm 16), (1, 1, tm 22), (2, 1, tm 27)]), o1 29 (.buildSlice 3 1 [.val (.str []), .nils, .val (.str [])] [(0, 3, tm 28)]), o1 30 (.append 72 3 56 (tm 11) (tm 29)), o1 3 (.move (tm 30))] (.drawn [(0, 11), (1, 11), (2, 11), (3, 11), (4, 11), (5, 11), (11, 12), (11, 13), (11, 14), (11, 15), (11, 16), (0, 18)] (prs [(11, [(0, 10), (12, 16)]), (18, [(0, 17)]), (19, [(0, 18)])])) [11, 30])) (rt [o1 9 (.move (tm 4)), o1 10 (.bin (.add) (tm 9) (ci 1)), o1 4 (.move (tm 10))] [9, 10])))))) (.seq (rt [o1 31 (.move (tm 3)), o1 2 (.move (tm 31))] [31, 31]) (.ret))))
def r_law18_Own : List VRes := [.tmp 2]
theorem ok_law18_Own : FnOk Tryz.prog k_law18_Own c_law18_Own r_law18_Own 32 :=
  ⟨⟨Tryz.f43, _, Tryz.func43, by decide, rfl, by kernel_rfl, by kernel_rfl, by kernel_rfl, rfl⟩⟩

/-- function 44 -/
def c_line_Check : VCode :=
  .seq (rt [o1 1 (.box (tm 0)), o1 2 (.move (ci 0))] []) (.seq (.seq (rt [o1 4 (.fieldAddr 0 (tm 1)), o1 5 (.load none (tm 4)), o1 6 (.call k_param_Name [tm 5]), o1 7 (.un (.not) (tm 6))] [4, 6]) (.cond (tm 7) (.seq (rt [o1 2 (.move (ci 4))] []) (.ret)) (.skip))) (.seq (.seq (rt [o1 8 (.fieldAddr 1 (tm 1)), o1 9 (.load none (tm 8)), o1 10 (.call k_param_CheckAll [tm 9]), o1 3 (.move (tm 10))] [8, 10]) (.seq (rt [o1 11 (.move (tm 3)), o1 12 (.bin (.neq) (tm 11) (ci 0))] [11, 11]) (.cond (tm 12) (.seq (rt [o1 13 (.move (tm 3)), o1 2 (.move (tm 13))] [13, 13]) (.ret)) (.skip)))) (.seq (.seq (rt [o1 14 (.fieldAddr 2 (tm 1)), o1 15 (.load none (tm 14)), o1 16 (.lenS (tm 15)), o1 17 (.bin (.gtr) (tm 16) (ci 200))] [14, 16]) (.cond (tm 17) (.seq (rt [o1 2 (.move (ci 5))] []) (.ret)) (.skip))) (.seq (.seq (rt [o1 18 (.fieldAddr 2 (tm 1)), o1 19 (.load none (tm 18)), o1 20 (.call k_utf_Odd [tm 19]), o1 21 (.bin (.geq) (tm 20) (ci 0))] [18, 20]) (.cond (tm 21) (.seq (rt [o1 2 (.move (ci 10))] []) (.ret)) (.skip))) (.seq (rt [o1 2 (.move (ci 0))] []) (.ret))))))
def r_line_Check : List VRes := [.tmp 2]
theorem ok_line_Check : FnOk Tryz.prog k_line_Check c_line_Check r_line_Check 22 :=
  ⟨⟨Tryz.f44, _, Tryz.func44, by decide, rfl, by kernel_rfl, by kernel_rfl, by kernel_rfl, rfl⟩⟩

/-- function 45 -/
def c_line_Same : VCode :=
  .seq (rt [o1 4 (.move (cb false))] []) (.seq (rt [o1 5 (.move (tm 0)), o1 6 (.move (tm 1)), o1 7 (.call k_slices_EqualFunc_Line [tm 5, tm 6, .func k__errand_line_Line_same]), o1 4 (.move (tm 7))] [5, 7]) (.ret))
def r_line_Same : List VRes := [.tmp 4]
theorem ok_line_Same : FnOk Tryz.prog k_line_Same c_line_Same r_line_Same 8 :=
  ⟨⟨Tryz.f45, _, Tryz.func45, by decide, rfl, by kernel_rfl, by kernel_rfl, by kernel_rfl, rfl⟩⟩

/-- function 89 -/
def c_line_head : VCode :=
  .seq (rt [o1 2 (.move (ci 0))] []) (.seq (.seq (rt [o1 4 (.move (tm 0)), o1 5 (.lenS (tm 4)), o1 6 (.move (ci 0))] [4, 4]) (.block 0 (.loop (.seq (rt [o1 7 (.bin (.lss) (tm 6) (tm 5))] []) (.seq (.cond (tm 7) (.skip) (.exit 0)) (.seq (.block 1 (.seq (rt [o1 8 (.move (tm 6)), o1 3 (.move (tm 8))] [8, 8]) (.seq (rt [o1 9 (.move (tm 0)), o1 10 (.move (tm 3)), o1 11 (.move (tm 3)), o1 12 (.bin (.add) (tm 11) (ci 1)), o1 13 (.subS (tm 9) (some (tm 10)) (some (tm 12))), o1 14 (.call k_utf_Upper [tm 13]), o1 15 (.call k_param_Name [tm 14]), o1 16 (.un (.not) (tm 15))] [9, 15]) (.cond (tm 16) (.seq (rt [o1 17 (.move (tm 3)), o1 2 (.move (tm 17))] [17, 17]) (.ret)) (.skip))))) (rt [o1 18 (.bin (.add) (tm 6) (ci 1)), o1 6 (.move (tm 18))] [18, 18]))))))) (.seq (rt [o1 19 (.move (tm 0)), o1 20 (.lenS (tm 19)), o1 2 (.move (tm 20))] [19, 20]) (.ret)))
def r_line_head : List VRes := [.tmp 2]
theorem ok_line_head : FnOk Tryz.prog k_line_head c_line_head r_line_head 21 :=
  ⟨⟨Tryz.f89, _, Tryz.func89, by decide, rfl, by kernel_rfl, by kernel_rfl, by kernel_rfl, rfl⟩⟩

/-- function 91 -/
def c_line_moved : VCode :=
  .seq (rt [o1 4 (.move (.const (.val (.nili))))] []) (.seq (rt [o1 5 (.alloc [.val (.nilp)])] []) (.seq (.seq (rt [o1 6 (.move (tm 0)), o1 7 (.mkIface 116 (tm 5)), o1 8 (.callM k_errors_As [tm 6, tm 7]), o1 9 (.un (.not) (tm 8))] [6, 8]) (.cond (tm 9) (.seq (rt [o1 10 (.move (tm 1)), o1 11 (.call k_fault_New [ci 4, tm 10]), o1 4 (.move (tm 11))] [10, 11]) (.ret)) (.skip))) (.seq (rt [o1 12 (.load none (tm 5)), o1 13 (.mkIface 114 (tm 12)), o1 14 (.move (tm 1)), o1 15 (.call k_fault_In [tm 13, tm 14]), o1 4 (.move (tm 15))] [12, 15]) (.ret))))
def r_line_moved : List VRes := [.tmp 4]
theorem ok_line_moved : FnOk Tryz.prog k_line_moved c_line_moved r_line_moved 16 :=
  ⟨⟨Tryz.f91, _, Tryz.func91, by decide, rfl, by kernel_rfl, by kernel_rfl, by kernel_rfl, rfl⟩⟩

/-- function 97 -/
def c_slices_EqualFunc_Line : VCode :=
  .seq (rt [o1 6 (.move (cb false))] []) (.seq (.seq (rt [o1 10 (.move (tm 0)), o1 11 (.lenV (tm 10)), o1 12 (.move (tm 1)), o1 13 (.lenV (tm 12)), o1 14 (.bin (.neq) (tm 11) (tm 13))] [10, 13]) (.cond (tm 14) (.seq (rt [o1 6 (.move (cb false))] []) (.ret)) (.skip))) (.seq (.seq (rt [o1 15 (.move (tm 0)), o1 16 (.lenV (tm 15)), o1 17 (.move (ci 0))] []) (.block 0 (.loop (.seq (rt [o1 18 (.bin (.lss) (tm 17) (tm 16))] []) (.seq (.cond (tm 18) (.skip) (.exit 0)) (.seq (.block 1 (.seq (rt [o1 19 (.move (tm 17)), o1 20 (.indexAddr 3 (tm 15) (tm 17)), o1 21 (.load (some 3) (tm 20)), o1 8 (.alloc [.val (.str []), .nils, .val (.str [])]), o1 7 (.move (tm 19)), o3 (.store 3 (tm 8) (tm 21))] [19, 21]) (.seq (rt [o1 22 (.move (tm 1)), o1 23 (.move (tm 7)), o1 24 (.indexAddr 3 (tm 22) (tm 23)), o1 25 (.load (some 3) (tm 24)), o1 9 (.alloc [.val (.str []), .nils, .val (.str [])]), o3 (.store 3 (tm 9) (tm 25))] [22, 25]) (.seq (rt [o1 26 (.move (tm 2)), o1 27 (.load (some 3) (tm 8)), o1 28 (.load (some 3) (tm 9)), o1 29 (.callV (tm 26) [tm 27, tm 28]), o1 30 (.un (.not) (tm 29))] [26, 29]) (.cond (tm 30) (.seq (rt [o1 6 (.move (cb false))] []) (.ret)) (.skip)))))) (rt [o1 31 (.bin (.add) (tm 17) (ci 1)), o1 17 (.move (tm 31))] [31, 31]))))))) (.seq (rt [o1 6 (.move (cb true))] []) (.ret))))
def r_slices_EqualFunc_Line : List VRes := [.tmp 6]
theorem ok_slices_EqualFunc_Line : FnOk Tryz.prog k_slices_EqualFunc_Line c_slices_EqualFunc_Line r_slices_EqualFunc_Line 32 :=
  ⟨⟨Tryz.f97, _, Tryz.func97, by decide, rfl, by kernel_rfl, by kernel_rfl, by kernel_rfl, rfl⟩⟩

/-- function 98 -/
def c__errand_line_Line_same : VCode :=
  .seq (rt [o1 2 (.box (tm 0)), o1 3 (.box (tm 1)), o1 4 (.move (cb false))] []) (.seq (rt [o1 5 (.fieldAddr 0 (tm 2)), o1 6 (.load none (tm 5)), o1 7 (.fieldAddr 0 (tm 3)), o1 8 (.load none (tm 7)), o1 9 (.bin (.eql) (tm 6) (tm 8)), o1 10 (.move (tm 9)), o2 11 (.fieldAddr 2 (tm 2)) 10 true, o2 12 (.load none (tm 11)) 10 true, o2 13 (.fieldAddr 2 (tm 3)) 10 true, o2 14 (.load none (tm 13)) 10 true, o2 15 (.bin (.eql) (tm 12) (tm 14)) 10 true, o1 16 (.pick (tm 10) (tm 15) (cb false)), o1 17 (.move (tm 16)), o2 18 (.fieldAddr 1 (tm 2)) 17 true, o2 19 (.load none (tm 18)) 17 true, o2 20 (.fieldAddr 1 (tm 3)) 17 true, o2 21 (.load none (tm 20)) 17 true, o2 22 (.call k_param_Same [tm 19, tm 21]) 17 true, o1 23 (.pick (tm 17) (tm 22) (cb false)), o1 4 (.move (tm 23))] [5, 23]) (.ret))
def r__errand_line_Line_same : List VRes := [.tmp 4]
theorem ok__errand_line_Line_same : FnOk Tryz.prog k__errand_line_Line_same c__errand_line_Line_same r__errand_line_Line_same 24 :=
  ⟨⟨Tryz.f98, _, Tryz.func98, by decide, rfl, by kernel_rfl, by kernel_rfl, by kernel_rfl, rfl⟩⟩

-- NOT 269
end Go.Vs.YtbchceojmblkkaaGreatDoor
