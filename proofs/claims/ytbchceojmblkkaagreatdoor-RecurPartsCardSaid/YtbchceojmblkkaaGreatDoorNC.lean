/- The code of the seat's functions in the small typed code; printed by a program of the prover's. -/
import Derived.Test.YtbchceojmblkkaaGreatDoorNA
import Derived.Test.YtbchceojmblkkaaGreatDoorNB
import Derived.Test.YtbchceojmblkkaaGreatDoorRows
import Derived.KernelRfl
set_option linter.unusedVariables false
set_option linter.unusedSimpArgs false
namespace Go.Vs.YtbchceojmblkkaaGreatDoor
set_option linter.unusedSimpArgs false
set_option linter.unusedVariables false
open Go.Proofs
set_option maxRecDepth 100000
set_option maxHeartbeats 4000000

def k_nums_List : Nat := 14
def k_nums_One : Nat := 16
def k_ref20_SameInts : Nat := 18
def k_nums_Days : Nat := 23
def k_ref20_SameDays : Nat := 25
def k_law20_Back : Nat := 26
def k_nums_Weekday : Nat := 27
def k_nums_WeekdayName : Nat := 29
def k_nums_Print : Nat := 31
def k_nums_PrintDays : Nat := 33
def k_law20_Own : Nat := 34
def k_errand_nums_every_int : Nat := 62
def k_nums_List_1 : Nat := 63
def k_nums_number : Nat := 64
def k_slices_Contains_int : Nat := 68
def k_errand_nums_every_DayNum : Nat := 69
def k_nums_day : Nat := 70
def k_errand_nums_joined_int : Nat := 72
def k_errand_nums_joined_DayNum : Nat := 75
def k_nums_PrintDays_1 : Nat := 76
def k_strings_Trim : Nat := 135
def k_slices_Index_int : Nat := 136
def k_slices_Contains_DayNum : Nat := 137
def k_strings_trimLeftASCII : Nat := 177
def k_strings_trimRightASCII : Nat := 178
def k_slices_Index_DayNum : Nat := 181
def c_nums_List : VCode :=
 .seq (rt [o1 5 (.box (tm 1)), o1 6 (.box (tm 2)), o1 7 (.box (tm 3)), o1 8 (.move (.const (.nils))), o1 9 (.move (.const (.val (.nili))))] []) (.seq (rt [o1 10 (.move (tm 0)), o1 11 (.mkFunc k_nums_List_1 [tm 5, tm 6, tm 7]), o1 12 (.call k_errand_nums_every_int [tm 10, tm 11]), o1 13 (.extract (tm 12) 0), o1 14 (.extract (tm 12) 1), o1 8 (.move (tm 13)), o1 9 (.move (tm 14))] [10, 14]) (.ret))
def r_nums_List : List VRes := [.tmp 8, .tmp 9]
theorem ok_nums_List : FnOk Tryz.prog k_nums_List c_nums_List r_nums_List 15 :=
 ⟨⟨Tryz.f14, _, Tryz.func14, by decide, rfl, by kernel_rfl, by kernel_rfl, by kernel_rfl, rfl⟩⟩

def c_nums_One : VCode :=
 .seq (rt [o1 8 (.move (ci 0)), o1 9 (.move (.const (.val (.nili))))] []) (.seq (rt [o1 13 (.move (tm 0)), o1 14 (.move (tm 1)), o1 15 (.move (tm 2)), o1 16 (.move (tm 3)), o1 17 (.call k_nums_number [tm 13, ci 5, tm 14, tm 15, tm 16]), o1 12 (.move (tm 17)), o1 18 (.extract (tm 12) 0), o1 19 (.extract (tm 12) 1), o1 10 (.move (tm 18)), o1 11 (.move (tm 19))] [12, 19]) (.seq (rt [o1 20 (.move (tm 10)), o1 21 (.move (tm 11)), o1 22 (.call k_fault_New [tm 21, ci 0]), o1 8 (.move (tm 20)), o1 9 (.move (tm 22))] [20, 22]) (.ret)))
def r_nums_One : List VRes := [.tmp 8, .tmp 9]
theorem ok_nums_One : FnOk Tryz.prog k_nums_One c_nums_One r_nums_One 23 :=
 ⟨⟨Tryz.f16, _, Tryz.func16, by decide, rfl, by kernel_rfl, by kernel_rfl, by kernel_rfl, rfl⟩⟩

def c_ref20_SameInts : VCode :=
 .seq (rt [o1 4 (.move (cb false))] []) (.seq (.seq (rt [o1 6 (.move (tm 0)), o1 7 (.lenV (tm 6)), o1 8 (.move (tm 1)), o1 9 (.lenV (tm 8)), o1 10 (.bin (.neq) (tm 7) (tm 9))] [6, 9]) (.cond (tm 10) (.seq (rt [o1 4 (.move (cb false))] []) (.ret)) (.skip))) (.seq (.seq (rt [o1 5 (.move (ci 0))] []) (.block 0 (.loop (.seq (.seq (rt [o1 11 (.move (tm 5)), o1 12 (.move (tm 0)), o1 13 (.lenV (tm 12)), o1 14 (.bin (.lss) (tm 11) (tm 13))] [11, 13]) (.cond (tm 14) (.skip) (.exit 0))) (.seq (.block 1 (.seq (.region [o1 17 (.move (tm 0)), o1 18 (.move (tm 5)), o1 19 (.indexAddr 1 (tm 17) (tm 18)), o1 20 (.load none (tm 19)), o1 21 (.move (tm 1)), o1 22 (.move (tm 5)), o1 23 (.indexAddr 1 (tm 21) (tm 22)), o1 24 (.load none (tm 23)), o1 25 (.bin (.neq) (tm 20) (tm 24))] (.calm) [17, 24]) (.cond (tm 25) (.seq (rt [o1 4 (.move (cb false))] []) (.ret)) (.skip)))) (rt [o1 15 (.move (tm 5)), o1 16 (.bin (.add) (tm 15) (ci 1)), o1 5 (.move (tm 16))] [15, 16])))))) (.seq (rt [o1 4 (.move (cb true))] []) (.ret))))
def r_ref20_SameInts : List VRes := [.tmp 4]
theorem ok_ref20_SameInts : FnOk Tryz.prog k_ref20_SameInts c_ref20_SameInts r_ref20_SameInts 26 :=
 ⟨⟨Tryz.f18, _, Tryz.func18, by decide, rfl, by kernel_rfl, by kernel_rfl, by kernel_rfl, rfl⟩⟩

def c_nums_Days : VCode :=
 .seq (rt [o1 2 (.move (.const (.nils))), o1 3 (.move (.const (.val (.nili))))] []) (.seq (rt [o1 4 (.move (tm 0)), o1 5 (.call k_errand_nums_every_DayNum [tm 4, .func k_nums_day]), o1 6 (.extract (tm 5) 0), o1 7 (.extract (tm 5) 1), o1 2 (.move (tm 6)), o1 3 (.move (tm 7))] [4, 7]) (.ret))
def r_nums_Days : List VRes := [.tmp 2, .tmp 3]
theorem ok_nums_Days : FnOk Tryz.prog k_nums_Days c_nums_Days r_nums_Days 8 :=
 ⟨⟨Tryz.f23, _, Tryz.func23, by decide, rfl, by kernel_rfl, by kernel_rfl, by kernel_rfl, rfl⟩⟩

def c_ref20_SameDays : VCode :=
 .seq (rt [o1 4 (.move (cb false))] []) (.seq (.seq (rt [o1 6 (.move (tm 0)), o1 7 (.lenV (tm 6)), o1 8 (.move (tm 1)), o1 9 (.lenV (tm 8)), o1 10 (.bin (.neq) (tm 7) (tm 9))] [6, 9]) (.cond (tm 10) (.seq (rt [o1 4 (.move (cb false))] []) (.ret)) (.skip))) (.seq (.seq (rt [o1 5 (.move (ci 0))] []) (.block 0 (.loop (.seq (.seq (rt [o1 11 (.move (tm 5)), o1 12 (.move (tm 0)), o1 13 (.lenV (tm 12)), o1 14 (.bin (.lss) (tm 11) (tm 13))] [11, 13]) (.cond (tm 14) (.skip) (.exit 0))) (.seq (.block 1 (.seq (.region [o1 17 (.move (tm 0)), o1 18 (.move (tm 5)), o1 19 (.indexAddr 2 (tm 17) (tm 18)), o1 20 (.load (some 2) (tm 19)), o1 21 (.move (tm 1)), o1 22 (.move (tm 5)), o1 23 (.indexAddr 2 (tm 21) (tm 22)), o1 24 (.load (some 2) (tm 23)), o1 25 (.eqA true [.i, .i] (tm 20) (tm 24))] (.calm) [17, 24]) (.cond (tm 25) (.seq (rt [o1 4 (.move (cb false))] []) (.ret)) (.skip)))) (rt [o1 15 (.move (tm 5)), o1 16 (.bin (.add) (tm 15) (ci 1)), o1 5 (.move (tm 16))] [15, 16])))))) (.seq (rt [o1 4 (.move (cb true))] []) (.ret))))
def r_ref20_SameDays : List VRes := [.tmp 4]
theorem ok_ref20_SameDays : FnOk Tryz.prog k_ref20_SameDays c_ref20_SameDays r_ref20_SameDays 26 :=
 ⟨⟨Tryz.f25, _, Tryz.func25, by decide, rfl, by kernel_rfl, by kernel_rfl, by kernel_rfl, rfl⟩⟩

def c_law20_Back : VCode :=
 .seq (rt [o1 2 (.move (.const (.nils)))] []) (.seq (rt [o1 3 (.move (.const (.nils)))] []) (.seq (.seq (rt [o1 4 (.move (ci 0))] []) (.block 0 (.loop (.seq (.seq (rt [o1 5 (.move (tm 4)), o1 6 (.move (tm 0)), o1 7 (.lenV (tm 6)), o1 8 (.bin (.lss) (tm 5) (tm 7))] [5, 7]) (.cond (tm 8) (.skip) (.exit 0))) (.seq (.block 1 (rt [o1 11 (.move (tm 3)), o1 12 (.move (tm 0)), o1 13 (.move (tm 4)), o1 14 (.indexAddr 2 (tm 12) (tm 13)), o1 15 (.load (some 2) (tm 14)), o1 16 (.buildSlice 2 1 [.val (.int (.i64) 0), .val (.int (.i64) 0)] [(0, 2, tm 15)]), o1 17 (.append 54 2 16 (tm 11) (tm 16)), o1 3 (.move (tm 17))] [11, 17])) (rt [o1 9 (.move (tm 4)), o1 10 (.bin (.add) (tm 9) (ci 1)), o1 4 (.move (tm 10))] [9, 10])))))) (.seq (rt [o1 18 (.move (tm 3)), o1 2 (.move (tm 18))] [18, 18]) (.ret))))
def r_law20_Back : List VRes := [.tmp 2]
theorem ok_law20_Back : FnOk Tryz.prog k_law20_Back c_law20_Back r_law20_Back 19 :=
 ⟨⟨Tryz.f26, _, Tryz.func26, by decide, rfl, by kernel_rfl, by kernel_rfl, by kernel_rfl, rfl⟩⟩

def c_nums_Weekday : VCode :=
 .seq (rt [o1 2 (.move (ci 0))] []) (.seq (.seq (rt [o1 3 (.move (tm 0))] []) (.block 0 (.seq (rt [o1 5 (.bin (.eql) (tm 3) (cs [77, 79])), o1 4 (.move (tm 5))] [5, 5]) (.cond (tm 4) (.seq (rt [o1 2 (.move (ci 0))] []) (.ret)) (.seq (rt [o1 7 (.bin (.eql) (tm 3) (cs [84, 85])), o1 6 (.move (tm 7))] [7, 7]) (.cond (tm 6) (.seq (rt [o1 2 (.move (ci 1))] []) (.ret)) (.seq (rt [o1 9 (.bin (.eql) (tm 3) (cs [87, 69])), o1 8 (.move (tm 9))] [9, 9]) (.cond (tm 8) (.seq (rt [o1 2 (.move (ci 2))] []) (.ret)) (.seq (rt [o1 11 (.bin (.eql) (tm 3) (cs [84, 72])), o1 10 (.move (tm 11))] [11, 11]) (.cond (tm 10) (.seq (rt [o1 2 (.move (ci 3))] []) (.ret)) (.seq (rt [o1 13 (.bin (.eql) (tm 3) (cs [70, 82])), o1 12 (.move (tm 13))] [13, 13]) (.cond (tm 12) (.seq (rt [o1 2 (.move (ci 4))] []) (.ret)) (.seq (rt [o1 15 (.bin (.eql) (tm 3) (cs [83, 65])), o1 14 (.move (tm 15))] [15, 15]) (.cond (tm 14) (.seq (rt [o1 2 (.move (ci 5))] []) (.ret)) (.seq (rt [o1 17 (.bin (.eql) (tm 3) (cs [83, 85])), o1 16 (.move (tm 17))] [17, 17]) (.cond (tm 16) (.seq (rt [o1 2 (.move (ci 6))] []) (.ret)) (.skip))))))))))))))))) (.seq (rt [o1 2 (.move (ci (-1)))] []) (.ret)))
def r_nums_Weekday : List VRes := [.tmp 2]
theorem ok_nums_Weekday : FnOk Tryz.prog k_nums_Weekday c_nums_Weekday r_nums_Weekday 18 :=
 ⟨⟨Tryz.f27, _, Tryz.func27, by decide, rfl, by kernel_rfl, by kernel_rfl, by kernel_rfl, rfl⟩⟩

def c_nums_WeekdayName : VCode :=
 .seq (rt [o1 2 (.move (cs []))] []) (.seq (.seq (rt [o1 3 (.move (tm 0)), o1 4 (.bin (.lss) (tm 3) (ci 0)), o1 5 (.move (tm 4)), o2 6 (.move (tm 0)) 5 false, o2 7 (.bin (.gtr) (tm 6) (ci 6)) 5 false, o1 8 (.pick (tm 5) (cb true) (tm 7))] [3, 7]) (.cond (tm 8) (.seq (rt [o1 2 (.move (cs []))] []) (.ret)) (.skip))) (.seq (rt [o1 9 (.move (tm 0)), o1 10 (.bin (.mul) (ci 2) (tm 9)), o1 11 (.subS (cs [77, 79, 84, 85, 87, 69, 84, 72, 70, 82, 83, 65, 83, 85]) (some (tm 10)) none), o1 12 (.subS (tm 11) none (some (ci 2))), o1 2 (.move (tm 12))] [9, 12]) (.ret)))
def r_nums_WeekdayName : List VRes := [.tmp 2]
theorem ok_nums_WeekdayName : FnOk Tryz.prog k_nums_WeekdayName c_nums_WeekdayName r_nums_WeekdayName 13 :=
 ⟨⟨Tryz.f29, _, Tryz.func29, by decide, rfl, by kernel_rfl, by kernel_rfl, by kernel_rfl, rfl⟩⟩

def c_nums_Print : VCode :=
 .seq (rt [o1 2 (.move (cs []))] []) (.seq (rt [o1 3 (.move (tm 0)), o1 4 (.call k_errand_nums_joined_int [tm 3, .func k_strconv_Itoa]), o1 2 (.move (tm 4))] [3, 4]) (.ret))
def r_nums_Print : List VRes := [.tmp 2]
theorem ok_nums_Print : FnOk Tryz.prog k_nums_Print c_nums_Print r_nums_Print 5 :=
 ⟨⟨Tryz.f31, _, Tryz.func31, by decide, rfl, by kernel_rfl, by kernel_rfl, by kernel_rfl, rfl⟩⟩

def c_nums_PrintDays : VCode :=
 .seq (rt [o1 2 (.move (cs []))] []) (.seq (rt [o1 3 (.move (tm 0)), o1 4 (.call k_errand_nums_joined_DayNum [tm 3, .func k_nums_PrintDays_1]), o1 2 (.move (tm 4))] [3, 4]) (.ret))
def r_nums_PrintDays : List VRes := [.tmp 2]
theorem ok_nums_PrintDays : FnOk Tryz.prog k_nums_PrintDays c_nums_PrintDays r_nums_PrintDays 5 :=
 ⟨⟨Tryz.f33, _, Tryz.func33, by decide, rfl, by kernel_rfl, by kernel_rfl, by kernel_rfl, rfl⟩⟩

def c_law20_Own : VCode :=
 .seq (rt [o1 2 (.move (.const (.nils)))] []) (.seq (rt [o1 3 (.move (.const (.nils)))] []) (.seq (.seq (rt [o1 4 (.move (ci 0))] []) (.block 0 (.loop (.seq (.seq (rt [o1 5 (.move (tm 4)), o1 6 (.move (tm 0)), o1 7 (.lenV (tm 6)), o1 8 (.bin (.lss) (tm 5) (tm 7))] [5, 7]) (.cond (tm 8) (.skip) (.exit 0))) (.seq (.block 1 (rt [o1 11 (.move (tm 3)), o1 12 (.move (tm 0)), o1 13 (.move (tm 4)), o1 14 (.indexAddr 2 (tm 12) (tm 13)), o1 15 (.load (some 2) (tm 14)), o1 16 (.buildSlice 2 1 [.val (.int (.i64) 0), .val (.int (.i64) 0)] [(0, 2, tm 15)]), o1 17 (.append 64 2 16 (tm 11) (tm 16)), o1 3 (.move (tm 17))] [11, 17])) (rt [o1 9 (.move (tm 4)), o1 10 (.bin (.add) (tm 9) (ci 1)), o1 4 (.move (tm 10))] [9, 10])))))) (.seq (rt [o1 18 (.move (tm 3)), o1 2 (.move (tm 18))] [18, 18]) (.ret))))
def r_law20_Own : List VRes := [.tmp 2]
theorem ok_law20_Own : FnOk Tryz.prog k_law20_Own c_law20_Own r_law20_Own 19 :=
 ⟨⟨Tryz.f34, _, Tryz.func34, by decide, rfl, by kernel_rfl, by kernel_rfl, by kernel_rfl, rfl⟩⟩

def c_errand_nums_every_int : VCode :=
 .seq (rt [o1 4 (.move (.const (.nils))), o1 5 (.move (.const (.val (.nili))))] []) (.seq (rt [o1 6 (.move (.const (.nils)))] []) (.seq (rt [o1 7 (.move (ci 0))] []) (.seq (.seq (rt [o1 12 (.move (tm 0)), o1 13 (.call k_strings_Split [tm 12, cs [44]]), o1 14 (.lenV (tm 13)), o1 15 (.move (ci 0))] [12, 12]) (.block 0 (.loop (.seq (rt [o1 16 (.bin (.lss) (tm 15) (tm 14))] []) (.seq (.cond (tm 16) (.skip) (.exit 0)) (.seq (.block 1 (.seq (rt [o1 17 (.indexAddr 1 (tm 13) (tm 15)), o1 18 (.load none (tm 17)), o1 9 (.move (tm 18))] [17, 18]) (.seq (.seq (rt [o1 19 (.move (tm 6)), o1 20 (.lenV (tm 19)), o1 21 (.bin (.eql) (tm 20) (ci 12))] [19, 20]) (.cond (tm 21) (.seq (rt [o1 22 (.move (tm 7)), o1 23 (.call k_fault_New [ci 20, tm 22]), o1 4 (.move (.const (.nils))), o1 5 (.move (tm 23))] [22, 23]) (.ret)) (.skip))) (.seq (rt [o1 25 (.move (tm 1)), o1 26 (.move (tm 9)), o1 27 (.callV (tm 25) [tm 26]), o1 24 (.move (tm 27)), o1 28 (.extract (tm 24) 0), o1 29 (.extract (tm 24) 1), o1 10 (.move (tm 28)), o1 11 (.move (tm 29))] [24, 29]) (.seq (.seq (rt [o1 30 (.move (tm 11)), o1 31 (.bin (.eql) (tm 30) (ci 0)), o1 32 (.move (tm 31)), o2 33 (.move (tm 6)) 32 true, o2 34 (.move (tm 10)) 32 true, o2 35 (.call k_slices_Contains_int [tm 33, tm 34]) 32 true, o1 36 (.pick (tm 32) (tm 35) (cb false))] [30, 35]) (.cond (tm 36) (rt [o1 11 (.move (ci 19))] []) (.skip))) (.seq (.seq (rt [o1 37 (.move (tm 11)), o1 38 (.bin (.neq) (tm 37) (ci 0))] [37, 37]) (.cond (tm 38) (.seq (rt [o1 39 (.move (tm 11)), o1 40 (.move (tm 7)), o1 41 (.call k_fault_New [tm 39, tm 40]), o1 4 (.move (.const (.nils))), o1 5 (.move (tm 41))] [39, 41]) (.ret)) (.skip))) (.seq (rt [o1 42 (.move (tm 6)), o1 43 (.move (tm 10)), o1 44 (.buildSlice 1 1 [.val (.int (.i64) 0)] [(0, 1, tm 43)]), o1 45 (.append 3 1 8 (tm 42) (tm 44)), o1 6 (.move (tm 45))] [42, 45]) (rt [o1 46 (.move (tm 7)), o1 47 (.move (tm 9)), o1 48 (.lenS (tm 47)), o1 49 (.bin (.add) (tm 48) (ci 1)), o1 50 (.bin (.add) (tm 46) (tm 49)), o1 7 (.move (tm 50))] [46, 50])))))))) (rt [o1 51 (.bin (.add) (tm 15) (ci 1)), o1 15 (.move (tm 51))] [51, 51]))))))) (.seq (rt [o1 52 (.move (tm 6)), o1 4 (.move (tm 52)), o1 5 (.move (.const (.val (.nili))))] [52, 52]) (.ret)))))
def r_errand_nums_every_int : List VRes := [.tmp 4, .tmp 5]
theorem ok_errand_nums_every_int : FnOk Tryz.prog k_errand_nums_every_int c_errand_nums_every_int r_errand_nums_every_int 53 :=
 ⟨⟨Tryz.f62, _, Tryz.func62, by decide, rfl, by kernel_rfl, by kernel_rfl, by kernel_rfl, rfl⟩⟩

def c_nums_List_1 : VCode :=
 .seq (rt [o1 5 (.move (ci 0)), o1 6 (.move (ci 0))] []) (.seq (rt [o1 7 (.move (tm 0)), o1 8 (.load none (tm 1)), o1 9 (.load none (tm 2)), o1 10 (.load none (tm 3)), o1 11 (.call k_nums_number [tm 7, ci 5, tm 8, tm 9, tm 10]), o1 12 (.extract (tm 11) 0), o1 13 (.extract (tm 11) 1), o1 5 (.move (tm 12)), o1 6 (.move (tm 13))] [7, 13]) (.ret))
def r_nums_List_1 : List VRes := [.tmp 5, .tmp 6]
theorem ok_nums_List_1 : FnOk Tryz.prog k_nums_List_1 c_nums_List_1 r_nums_List_1 14 :=
 ⟨⟨Tryz.f63, _, Tryz.func63, by decide, rfl, by kernel_rfl, by kernel_rfl, by kernel_rfl, rfl⟩⟩

def c_nums_number : VCode :=
 .seq (rt [o1 10 (.move (ci 0)), o1 11 (.move (ci 0))] []) (.seq (rt [o1 12 (.move (cb false))] []) (.cut (.seq (.seq (rt [o1 15 (.move (tm 4)), o1 16 (.move (tm 15)), o2 17 (.move (tm 0)) 16 true, o2 18 (.bin (.neq) (tm 17) (cs [])) 16 true, o1 19 (.pick (tm 16) (tm 18) (cb false)), o1 20 (.move (tm 19)), o2 21 (.move (tm 0)) 20 true, o2 22 (.indexS (tm 21) (ci 0)) 20 true, o2 23 (.call k_strings_IndexByte [cs [43, 45], tm 22]) 20 true, o2 24 (.bin (.geq) (tm 23) (ci 0)) 20 true, o1 25 (.pick (tm 20) (tm 24) (cb false))] [15, 24]) (.cond (tm 25) (.region [o1 26 (.move (tm 0)), o1 27 (.indexS (tm 26) (ci 0)), o1 28 (.bin (.eql) (tm 27) (cu 45)), o1 29 (.move (tm 0)), o1 30 (.subS (tm 29) (some (ci 1)) none), o1 12 (.move (tm 28)), o1 0 (.move (tm 30))] (.calm) [26, 30]) (.skip))) (.seq (.seq (rt [o1 31 (.move (tm 0)), o1 32 (.bin (.eql) (tm 31) (cs [])), o1 33 (.move (tm 32)), o2 34 (.move (tm 0)) 33 false, o2 35 (.lenS (tm 34)) 33 false, o2 36 (.move (tm 1)) 33 false, o2 37 (.bin (.gtr) (tm 35) (tm 36)) 33 false, o1 38 (.pick (tm 33) (cb true) (tm 37)), o1 39 (.move (tm 38)), o2 40 (.move (tm 0)) 39 false, o2 41 (.call k_strings_Trim [tm 40, cs [48, 49, 50, 51, 52, 53, 54, 55, 56, 57]]) 39 false, o2 42 (.bin (.neq) (tm 41) (cs [])) 39 false, o1 43 (.pick (tm 39) (cb true) (tm 42))] [31, 42]) (.cond (tm 43) (.seq (rt [o1 10 (.move (ci 0)), o1 11 (.move (ci 4))] []) (.ret)) (.skip))) (.seq (rt [o1 13 (.move (ci 0))] []) (.cut (.seq (.seq (rt [o1 14 (.move (ci 0))] []) (.block 0 (.loop (.seq (.seq (rt [o1 44 (.move (tm 14)), o1 45 (.move (tm 0)), o1 46 (.lenS (tm 45)), o1 47 (.bin (.lss) (tm 44) (tm 46))] [44, 46]) (.cond (tm 47) (.skip) (.exit 0))) (.seq (.block 1 (rt [o1 50 (.move (tm 13)), o1 51 (.bin (.mul) (ci 10) (tm 50)), o1 52 (.move (tm 0)), o1 53 (.move (tm 14)), o1 54 (.indexS (tm 52) (tm 53)), o1 55 (.bin (.sub) (tm 54) (cu 48)), o1 56 (.convI (.i64) (tm 55)), o1 57 (.bin (.add) (tm 51) (tm 56)), o1 13 (.move (tm 57))] [50, 57])) (rt [o1 48 (.move (tm 14)), o1 49 (.bin (.add) (tm 48) (ci 1)), o1 14 (.move (tm 49))] [48, 49])))))) (.seq (.seq (rt [o1 58 (.move (tm 13)), o1 59 (.move (tm 2)), o1 60 (.bin (.lss) (tm 58) (tm 59)), o1 61 (.move (tm 60)), o2 62 (.move (tm 13)) 61 false, o2 63 (.move (tm 3)) 61 false, o2 64 (.bin (.gtr) (tm 62) (tm 63)) 61 false, o1 65 (.pick (tm 61) (cb true) (tm 64))] [58, 64]) (.cond (tm 65) (.seq (rt [o1 10 (.move (ci 0)), o1 11 (.move (ci 8))] []) (.ret)) (.skip))) (.cut (.seq (.seq (rt [o1 66 (.move (tm 12))] []) (.cond (tm 66) (rt [o1 67 (.move (tm 13)), o1 68 (.un (.neg) (tm 67)), o1 13 (.move (tm 68))] [67, 68]) (.skip))) (.seq (rt [o1 69 (.move (tm 13)), o1 10 (.move (tm 69)), o1 11 (.move (ci 0))] [69, 69]) (.ret))))))))))))
def r_nums_number : List VRes := [.tmp 10, .tmp 11]
theorem ok_nums_number : FnOk Tryz.prog k_nums_number c_nums_number r_nums_number 70 :=
 ⟨⟨Tryz.f64, _, Tryz.func64, by decide, rfl, by kernel_rfl, by kernel_rfl, by kernel_rfl, rfl⟩⟩

def c_slices_Contains_int : VCode :=
 .seq (rt [o1 4 (.move (cb false))] []) (.seq (rt [o1 5 (.move (tm 0)), o1 6 (.move (tm 1)), o1 7 (.call k_slices_Index_int [tm 5, tm 6]), o1 8 (.bin (.geq) (tm 7) (ci 0)), o1 4 (.move (tm 8))] [5, 8]) (.ret))
def r_slices_Contains_int : List VRes := [.tmp 4]
theorem ok_slices_Contains_int : FnOk Tryz.prog k_slices_Contains_int c_slices_Contains_int r_slices_Contains_int 9 :=
 ⟨⟨Tryz.f68, _, Tryz.func68, by decide, rfl, by kernel_rfl, by kernel_rfl, by kernel_rfl, rfl⟩⟩

def c_errand_nums_every_DayNum : VCode :=
 .seq (rt [o1 4 (.move (.const (.nils))), o1 5 (.move (.const (.val (.nili))))] []) (.seq (rt [o1 6 (.move (.const (.nils)))] []) (.seq (rt [o1 7 (.move (ci 0))] []) (.seq (.seq (rt [o1 12 (.move (tm 0)), o1 13 (.call k_strings_Split [tm 12, cs [44]]), o1 14 (.lenV (tm 13)), o1 15 (.move (ci 0))] [12, 12]) (.block 0 (.loop (.seq (rt [o1 16 (.bin (.lss) (tm 15) (tm 14))] []) (.seq (.cond (tm 16) (.skip) (.exit 0)) (.seq (.block 1 (.seq (rt [o1 17 (.indexAddr 1 (tm 13) (tm 15)), o1 18 (.load none (tm 17)), o1 9 (.move (tm 18))] [17, 18]) (.seq (.seq (rt [o1 19 (.move (tm 6)), o1 20 (.lenV (tm 19)), o1 21 (.bin (.eql) (tm 20) (ci 12))] [19, 20]) (.cond (tm 21) (.seq (rt [o1 22 (.move (tm 7)), o1 23 (.call k_fault_New [ci 20, tm 22]), o1 4 (.move (.const (.nils))), o1 5 (.move (tm 23))] [22, 23]) (.ret)) (.skip))) (.seq (rt [o1 25 (.move (tm 1)), o1 26 (.move (tm 9)), o1 27 (.callV (tm 25) [tm 26]), o1 24 (.move (tm 27)), o1 28 (.extract (tm 24) 0), o1 29 (.extract (tm 24) 1), o1 10 (.alloc [.val (.int (.i64) 0), .val (.int (.i64) 0)]), o3 (.store 2 (tm 10) (tm 28)), o1 11 (.move (tm 29))] [24, 29]) (.seq (.seq (rt [o1 30 (.move (tm 11)), o1 31 (.bin (.eql) (tm 30) (ci 0)), o1 32 (.move (tm 31)), o2 33 (.move (tm 6)) 32 true, o2 34 (.load (some 2) (tm 10)) 32 true, o2 35 (.call k_slices_Contains_DayNum [tm 33, tm 34]) 32 true, o1 36 (.pick (tm 32) (tm 35) (cb false))] [30, 35]) (.cond (tm 36) (rt [o1 11 (.move (ci 19))] []) (.skip))) (.seq (.seq (rt [o1 37 (.move (tm 11)), o1 38 (.bin (.neq) (tm 37) (ci 0))] [37, 37]) (.cond (tm 38) (.seq (rt [o1 39 (.move (tm 11)), o1 40 (.move (tm 7)), o1 41 (.call k_fault_New [tm 39, tm 40]), o1 4 (.move (.const (.nils))), o1 5 (.move (tm 41))] [39, 41]) (.ret)) (.skip))) (.seq (rt [o1 42 (.move (tm 6)), o1 43 (.load (some 2) (tm 10)), o1 44 (.buildSlice 2 1 [.val (.int (.i64) 0), .val (.int (.i64) 0)] [(0, 2, tm 43)]), o1 45 (.append 64 2 16 (tm 42) (tm 44)), o1 6 (.move (tm 45))] [42, 45]) (rt [o1 46 (.move (tm 7)), o1 47 (.move (tm 9)), o1 48 (.lenS (tm 47)), o1 49 (.bin (.add) (tm 48) (ci 1)), o1 50 (.bin (.add) (tm 46) (tm 49)), o1 7 (.move (tm 50))] [46, 50])))))))) (rt [o1 51 (.bin (.add) (tm 15) (ci 1)), o1 15 (.move (tm 51))] [51, 51]))))))) (.seq (rt [o1 52 (.move (tm 6)), o1 4 (.move (tm 52)), o1 5 (.move (.const (.val (.nili))))] [52, 52]) (.ret)))))
def r_errand_nums_every_DayNum : List VRes := [.tmp 4, .tmp 5]
theorem ok_errand_nums_every_DayNum : FnOk Tryz.prog k_errand_nums_every_DayNum c_errand_nums_every_DayNum r_errand_nums_every_DayNum 53 :=
 ⟨⟨Tryz.f69, _, Tryz.func69, by decide, rfl, by kernel_rfl, by kernel_rfl, by kernel_rfl, rfl⟩⟩

def c_nums_day : VCode :=
 .seq (rt [o1 2 (.alloc [.val (.int (.i64) 0), .val (.int (.i64) 0)]), o1 3 (.move (ci 0))] []) (.seq (rt [o1 8 (.move (tm 0)), o1 9 (.lenS (tm 8)), o1 10 (.bin (.sub) (tm 9) (ci 2)), o1 4 (.move (tm 10))] [8, 10]) (.seq (.seq (rt [o1 11 (.move (tm 4)), o1 12 (.bin (.lss) (tm 11) (ci 0))] [11, 11]) (.cond (tm 12) (.seq (rt [o1 13 (.build [.val (.int (.i64) 0), .val (.int (.i64) 0)] []), o3 (.store 2 (tm 2) (tm 13)), o1 3 (.move (ci 4))] [13, 13]) (.ret)) (.skip))) (.seq (rt [o1 14 (.move (tm 0)), o1 15 (.move (tm 4)), o1 16 (.subS (tm 14) (some (tm 15)) none), o1 17 (.call k_nums_Weekday [tm 16]), o1 5 (.move (tm 17))] [14, 17]) (.seq (.seq (rt [o1 18 (.move (tm 5)), o1 19 (.bin (.lss) (tm 18) (ci 0))] [18, 18]) (.cond (tm 19) (.seq (rt [o1 20 (.build [.val (.int (.i64) 0), .val (.int (.i64) 0)] []), o3 (.store 2 (tm 2) (tm 20)), o1 3 (.move (ci 4))] [20, 20]) (.ret)) (.skip))) (.seq (.seq (rt [o1 21 (.move (tm 4)), o1 22 (.bin (.eql) (tm 21) (ci 0))] [21, 21]) (.cond (tm 22) (.seq (rt [o1 23 (.move (tm 5)), o1 24 (.build [.val (.int (.i64) 0), .val (.int (.i64) 0)] [(1, 1, tm 23)]), o3 (.store 2 (tm 2) (tm 24)), o1 3 (.move (ci 0))] [23, 24]) (.ret)) (.skip))) (.seq (rt [o1 26 (.move (tm 0)), o1 27 (.move (tm 4)), o1 28 (.subS (tm 26) none (some (tm 27))), o1 29 (.call k_nums_number [tm 28, ci 2, ci 1, ci 53, cb true]), o1 25 (.move (tm 29)), o1 30 (.extract (tm 25) 0), o1 31 (.extract (tm 25) 1), o1 6 (.move (tm 30)), o1 7 (.move (tm 31))] [25, 31]) (.seq (.seq (rt [o1 32 (.move (tm 7)), o1 33 (.bin (.neq) (tm 32) (ci 0))] [32, 32]) (.cond (tm 33) (.seq (rt [o1 34 (.build [.val (.int (.i64) 0), .val (.int (.i64) 0)] []), o1 35 (.move (tm 7)), o3 (.store 2 (tm 2) (tm 34)), o1 3 (.move (tm 35))] [34, 35]) (.ret)) (.skip))) (.seq (rt [o1 36 (.move (tm 6)), o1 37 (.move (tm 5)), o1 38 (.build [.val (.int (.i64) 0), .val (.int (.i64) 0)] [(0, 1, tm 36), (1, 1, tm 37)]), o3 (.store 2 (tm 2) (tm 38)), o1 3 (.move (ci 0))] [36, 38]) (.ret)))))))))
def r_nums_day : List VRes := [.cell 2 (some 2), .tmp 3]
theorem ok_nums_day : FnOk Tryz.prog k_nums_day c_nums_day r_nums_day 39 :=
 ⟨⟨Tryz.f70, _, Tryz.func70, by decide, rfl, by kernel_rfl, by kernel_rfl, by kernel_rfl, rfl⟩⟩

def c_errand_nums_joined_int : VCode :=
 .seq (rt [o1 4 (.move (cs []))] []) (.seq (rt [o1 5 (.allocB 208)] []) (.seq (.seq (rt [o1 8 (.move (tm 0)), o1 9 (.lenV (tm 8)), o1 10 (.move (ci 0))] []) (.block 0 (.loop (.seq (rt [o1 11 (.bin (.lss) (tm 10) (tm 9))] []) (.seq (.cond (tm 11) (.skip) (.exit 0)) (.seq (.block 1 (.seq (rt [o1 12 (.move (tm 10)), o1 13 (.indexAddr 1 (tm 8) (tm 10)), o1 14 (.load none (tm 13)), o1 6 (.move (tm 12)), o1 7 (.move (tm 14))] [12, 14]) (.seq (.seq (rt [o1 15 (.move (tm 6)), o1 16 (.bin (.gtr) (tm 15) (ci 0))] [15, 15]) (.cond (tm 16) (rt [o1 17 (.callM k__strings_Builder_WriteByte [tm 5, cu 44])] [17, 17]) (.skip))) (rt [o1 18 (.move (tm 1)), o1 19 (.move (tm 7)), o1 20 (.callV (tm 18) [tm 19]), o1 21 (.callM k__strings_Builder_WriteString [tm 5, tm 20])] [18, 21])))) (rt [o1 22 (.bin (.add) (tm 10) (ci 1)), o1 10 (.move (tm 22))] [22, 22]))))))) (.seq (rt [o1 23 (.callM k__strings_Builder_String [tm 5]), o1 4 (.move (tm 23))] [23, 23]) (.ret))))
def r_errand_nums_joined_int : List VRes := [.tmp 4]
theorem ok_errand_nums_joined_int : FnOk Tryz.prog k_errand_nums_joined_int c_errand_nums_joined_int r_errand_nums_joined_int 24 :=
 ⟨⟨Tryz.f72, _, Tryz.func72, by decide, rfl, by kernel_rfl, by kernel_rfl, by kernel_rfl, rfl⟩⟩

def c_errand_nums_joined_DayNum : VCode :=
 .seq (rt [o1 4 (.move (cs []))] []) (.seq (rt [o1 5 (.allocB 208)] []) (.seq (.seq (rt [o1 8 (.move (tm 0)), o1 9 (.lenV (tm 8)), o1 10 (.move (ci 0))] []) (.block 0 (.loop (.seq (rt [o1 11 (.bin (.lss) (tm 10) (tm 9))] []) (.seq (.cond (tm 11) (.skip) (.exit 0)) (.seq (.block 1 (.seq (rt [o1 12 (.move (tm 10)), o1 13 (.indexAddr 2 (tm 8) (tm 10)), o1 14 (.load (some 2) (tm 13)), o1 7 (.alloc [.val (.int (.i64) 0), .val (.int (.i64) 0)]), o1 6 (.move (tm 12)), o3 (.store 2 (tm 7) (tm 14))] [12, 14]) (.seq (.seq (rt [o1 15 (.move (tm 6)), o1 16 (.bin (.gtr) (tm 15) (ci 0))] [15, 15]) (.cond (tm 16) (rt [o1 17 (.callM k__strings_Builder_WriteByte [tm 5, cu 44])] [17, 17]) (.skip))) (rt [o1 18 (.move (tm 1)), o1 19 (.load (some 2) (tm 7)), o1 20 (.callV (tm 18) [tm 19]), o1 21 (.callM k__strings_Builder_WriteString [tm 5, tm 20])] [18, 21])))) (rt [o1 22 (.bin (.add) (tm 10) (ci 1)), o1 10 (.move (tm 22))] [22, 22]))))))) (.seq (rt [o1 23 (.callM k__strings_Builder_String [tm 5]), o1 4 (.move (tm 23))] [23, 23]) (.ret))))
def r_errand_nums_joined_DayNum : List VRes := [.tmp 4]
theorem ok_errand_nums_joined_DayNum : FnOk Tryz.prog k_errand_nums_joined_DayNum c_errand_nums_joined_DayNum r_errand_nums_joined_DayNum 24 :=
 ⟨⟨Tryz.f75, _, Tryz.func75, by decide, rfl, by kernel_rfl, by kernel_rfl, by kernel_rfl, rfl⟩⟩

def c_nums_PrintDays_1 : VCode :=
 .seq (rt [o1 1 (.box (tm 0)), o1 2 (.move (cs []))] []) (.seq (.seq (rt [o1 3 (.fieldAddr 0 (tm 1)), o1 4 (.load none (tm 3)), o1 5 (.bin (.eql) (tm 4) (ci 0))] [3, 4]) (.cond (tm 5) (.seq (rt [o1 6 (.fieldAddr 1 (tm 1)), o1 7 (.load none (tm 6)), o1 8 (.call k_nums_WeekdayName [tm 7]), o1 2 (.move (tm 8))] [6, 8]) (.ret)) (.skip))) (.seq (.region [o1 9 (.fieldAddr 0 (tm 1)), o1 10 (.load none (tm 9)), o1 11 (.call k_strconv_Itoa [tm 10]), o1 12 (.fieldAddr 1 (tm 1)), o1 13 (.load none (tm 12)), o1 14 (.call k_nums_WeekdayName [tm 13]), o1 15 (.bin (.add) (tm 11) (tm 14)), o1 2 (.move (tm 15))] (.drawn [(2, 3), (2, 4)] (prs [(2, [(0, 1), (3, 4)]), (5, [(0, 4)])])) [9, 15]) (.ret)))
def r_nums_PrintDays_1 : List VRes := [.tmp 2]
theorem ok_nums_PrintDays_1 : FnOk Tryz.prog k_nums_PrintDays_1 c_nums_PrintDays_1 r_nums_PrintDays_1 16 :=
 ⟨⟨Tryz.f76, _, Tryz.func76, by decide, rfl, by kernel_rfl, by kernel_rfl, by kernel_rfl, rfl⟩⟩

def c_strings_Trim : VCode :=
 .seq (rt [o1 4 (.move (cs []))] []) (.seq (.seq (rt [o1 7 (.move (tm 0)), o1 8 (.bin (.eql) (tm 7) (cs [])), o1 9 (.move (tm 8)), o2 10 (.move (tm 1)) 9 false, o2 11 (.bin (.eql) (tm 10) (cs [])) 9 false, o1 12 (.pick (tm 9) (cb true) (tm 11))] [7, 11]) (.cond (tm 12) (.seq (rt [o1 13 (.move (tm 0)), o1 4 (.move (tm 13))] [13, 13]) (.ret)) (.skip))) (.seq (.seq (rt [o1 14 (.move (tm 1)), o1 15 (.lenS (tm 14)), o1 16 (.bin (.eql) (tm 15) (ci 1)), o1 17 (.move (tm 16)), o2 18 (.move (tm 1)) 17 true, o2 19 (.indexS (tm 18) (ci 0)) 17 true, o2 20 (.bin (.lss) (tm 19) (cu 128)) 17 true, o1 21 (.pick (tm 17) (tm 20) (cb false))] [14, 20]) (.cond (tm 21) (.seq (.region [o1 22 (.move (tm 0)), o1 23 (.move (tm 1)), o1 24 (.indexS (tm 23) (ci 0)), o1 25 (.call 175 [tm 22, tm 24]), o1 26 (.move (tm 1)), o1 27 (.indexS (tm 26) (ci 0)), o1 28 (.call 174 [tm 25, tm 27]), o1 4 (.move (tm 28))] (.drawn [(3, 4), (3, 5)] (prs [(3, [(0, 2), (4, 5)]), (6, [(0, 5)])])) [22, 28]) (.ret)) (.skip))) (.seq (.seq (rt [o1 30 (.move (tm 1)), o1 31 (.call k_strings_makeASCIISet [tm 30]), o1 29 (.move (tm 31)), o1 32 (.extract (tm 29) 0), o1 33 (.extract (tm 29) 1), o1 5 (.alloc fz256), o3 (.store 256 (tm 5) (tm 32)), o1 6 (.move (tm 33))] [29, 33]) (.seq (rt [o1 34 (.move (tm 6))] []) (.cond (tm 34) (.seq (rt [o1 35 (.move (tm 0)), o1 36 (.call k_strings_trimRightASCII [tm 35, tm 5]), o1 37 (.call k_strings_trimLeftASCII [tm 36, tm 5]), o1 4 (.move (tm 37))] [35, 37]) (.ret)) (.skip)))) (.seq (rt [o1 38 (.move (tm 0)), o1 39 (.move (tm 1)), o1 40 (.call 180 [tm 38, tm 39]), o1 41 (.move (tm 1)), o1 42 (.call 179 [tm 40, tm 41]), o1 4 (.move (tm 42))] [38, 42]) (.ret)))))
def r_strings_Trim : List VRes := [.tmp 4]
theorem ok_strings_Trim : FnOk Tryz.prog k_strings_Trim c_strings_Trim r_strings_Trim 43 :=
 ⟨⟨Tryz.f135, _, Tryz.func135, by decide, rfl, by kernel_rfl, by kernel_rfl, by kernel_rfl, rfl⟩⟩

def c_slices_Index_int : VCode :=
 .seq (rt [o1 4 (.move (ci 0))] []) (.seq (.seq (rt [o1 6 (.move (tm 0)), o1 7 (.lenV (tm 6)), o1 8 (.move (ci 0))] [6, 6]) (.block 0 (.loop (.seq (rt [o1 9 (.bin (.lss) (tm 8) (tm 7))] []) (.seq (.cond (tm 9) (.skip) (.exit 0)) (.seq (.block 1 (.seq (rt [o1 10 (.move (tm 8)), o1 5 (.move (tm 10))] [10, 10]) (.seq (rt [o1 11 (.move (tm 1)), o1 12 (.move (tm 0)), o1 13 (.move (tm 5)), o1 14 (.indexAddr 1 (tm 12) (tm 13)), o1 15 (.load none (tm 14)), o1 16 (.bin (.eql) (tm 11) (tm 15))] [11, 15]) (.cond (tm 16) (.seq (rt [o1 17 (.move (tm 5)), o1 4 (.move (tm 17))] [17, 17]) (.ret)) (.skip))))) (rt [o1 18 (.bin (.add) (tm 8) (ci 1)), o1 8 (.move (tm 18))] [18, 18]))))))) (.seq (rt [o1 4 (.move (ci (-1)))] []) (.ret)))
def r_slices_Index_int : List VRes := [.tmp 4]
theorem ok_slices_Index_int : FnOk Tryz.prog k_slices_Index_int c_slices_Index_int r_slices_Index_int 19 :=
 ⟨⟨Tryz.f136, _, Tryz.func136, by decide, rfl, by kernel_rfl, by kernel_rfl, by kernel_rfl, rfl⟩⟩

def c_slices_Contains_DayNum : VCode :=
 .seq (rt [o1 3 (.box (tm 1)), o1 4 (.move (cb false))] []) (.seq (rt [o1 5 (.move (tm 0)), o1 6 (.load (some 2) (tm 3)), o1 7 (.call k_slices_Index_DayNum [tm 5, tm 6]), o1 8 (.bin (.geq) (tm 7) (ci 0)), o1 4 (.move (tm 8))] [5, 8]) (.ret))
def r_slices_Contains_DayNum : List VRes := [.tmp 4]
theorem ok_slices_Contains_DayNum : FnOk Tryz.prog k_slices_Contains_DayNum c_slices_Contains_DayNum r_slices_Contains_DayNum 9 :=
 ⟨⟨Tryz.f137, _, Tryz.func137, by decide, rfl, by kernel_rfl, by kernel_rfl, by kernel_rfl, rfl⟩⟩

def c_strings_trimLeftASCII : VCode :=
 .seq (rt [o1 4 (.move (cs []))] []) (.seq (.block 0 (.loop (.seq (.seq (rt [o1 5 (.move (tm 0)), o1 6 (.lenS (tm 5)), o1 7 (.bin (.gtr) (tm 6) (ci 0))] [5, 6]) (.cond (tm 7) (.skip) (.exit 0))) (.block 1 (.seq (.seq (rt [o1 8 (.move (tm 1)), o1 9 (.move (tm 0)), o1 10 (.indexS (tm 9) (ci 0)), o1 11 (.call k__strings_asciiSet_contains [tm 8, tm 10]), o1 12 (.un (.not) (tm 11))] [8, 11]) (.cond (tm 12) (.exit 0) (.skip))) (rt [o1 13 (.move (tm 0)), o1 14 (.subS (tm 13) (some (ci 1)) none), o1 0 (.move (tm 14))] [13, 14])))))) (.seq (rt [o1 15 (.move (tm 0)), o1 4 (.move (tm 15))] [15, 15]) (.ret)))
def r_strings_trimLeftASCII : List VRes := [.tmp 4]
theorem ok_strings_trimLeftASCII : FnOk Tryz.prog k_strings_trimLeftASCII c_strings_trimLeftASCII r_strings_trimLeftASCII 16 :=
 ⟨⟨Tryz.f177, _, Tryz.func177, by decide, rfl, by kernel_rfl, by kernel_rfl, by kernel_rfl, rfl⟩⟩

def c_strings_trimRightASCII : VCode :=
 .seq (rt [o1 4 (.move (cs []))] []) (.seq (.block 0 (.loop (.seq (.seq (rt [o1 5 (.move (tm 0)), o1 6 (.lenS (tm 5)), o1 7 (.bin (.gtr) (tm 6) (ci 0))] [5, 6]) (.cond (tm 7) (.skip) (.exit 0))) (.block 1 (.seq (.seq (rt [o1 8 (.move (tm 1)), o1 9 (.move (tm 0)), o1 10 (.move (tm 0)), o1 11 (.lenS (tm 10)), o1 12 (.bin (.sub) (tm 11) (ci 1)), o1 13 (.indexS (tm 9) (tm 12)), o1 14 (.call k__strings_asciiSet_contains [tm 8, tm 13]), o1 15 (.un (.not) (tm 14))] [8, 14]) (.cond (tm 15) (.exit 0) (.skip))) (rt [o1 16 (.move (tm 0)), o1 17 (.move (tm 0)), o1 18 (.lenS (tm 17)), o1 19 (.bin (.sub) (tm 18) (ci 1)), o1 20 (.subS (tm 16) none (some (tm 19))), o1 0 (.move (tm 20))] [16, 20])))))) (.seq (rt [o1 21 (.move (tm 0)), o1 4 (.move (tm 21))] [21, 21]) (.ret)))
def r_strings_trimRightASCII : List VRes := [.tmp 4]
theorem ok_strings_trimRightASCII : FnOk Tryz.prog k_strings_trimRightASCII c_strings_trimRightASCII r_strings_trimRightASCII 22 :=
 ⟨⟨Tryz.f178, _, Tryz.func178, by decide, rfl, by kernel_rfl, by kernel_rfl, by kernel_rfl, rfl⟩⟩

def c_slices_Index_DayNum : VCode :=
 .seq (rt [o1 3 (.box (tm 1)), o1 4 (.move (ci 0))] []) (.seq (.seq (rt [o1 6 (.move (tm 0)), o1 7 (.lenV (tm 6)), o1 8 (.move (ci 0))] [6, 6]) (.block 0 (.loop (.seq (rt [o1 9 (.bin (.lss) (tm 8) (tm 7))] []) (.seq (.cond (tm 9) (.skip) (.exit 0)) (.seq (.block 1 (.seq (rt [o1 10 (.move (tm 8)), o1 5 (.move (tm 10))] [10, 10]) (.seq (.region [o1 11 (.load (some 2) (tm 3)), o1 12 (.move (tm 0)), o1 13 (.move (tm 5)), o1 14 (.indexAddr 2 (tm 12) (tm 13)), o1 15 (.load (some 2) (tm 14)), o1 16 (.eqA false [.i, .i] (tm 11) (tm 15))] (.calm) [11, 15]) (.cond (tm 16) (.seq (rt [o1 17 (.move (tm 5)), o1 4 (.move (tm 17))] [17, 17]) (.ret)) (.skip))))) (rt [o1 18 (.bin (.add) (tm 8) (ci 1)), o1 8 (.move (tm 18))] [18, 18]))))))) (.seq (rt [o1 4 (.move (ci (-1)))] []) (.ret)))
def r_slices_Index_DayNum : List VRes := [.tmp 4]
theorem ok_slices_Index_DayNum : FnOk Tryz.prog k_slices_Index_DayNum c_slices_Index_DayNum r_slices_Index_DayNum 19 :=
 ⟨⟨Tryz.f181, _, Tryz.func181, by decide, rfl, by kernel_rfl, by kernel_rfl, by kernel_rfl, rfl⟩⟩

end Go.Vs.YtbchceojmblkkaaGreatDoor
