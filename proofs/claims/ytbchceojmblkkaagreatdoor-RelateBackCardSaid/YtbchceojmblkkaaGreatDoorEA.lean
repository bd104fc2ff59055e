/- The code of the seat's functions in the small typed code; printed by a program of the prover's. -/
import Derived.Test.YtbchceojmblkkaaGreatDoorNI
import Derived.Test.YtbchceojmblkkaaGreatDoorNC
import Derived.Test.YtbchceojmblkkaaGreatDoorCA
import Derived.Test.YtbchceojmblkkaaGreatDoorRows
import Derived.KernelRfl
import Derived.Test.YtbchceojmblkkaaGreatDoorCB
import Derived.Test.YtbchceojmblkkaaGreatDoorNA
set_option linter.unusedVariables false
set_option linter.unusedSimpArgs false
namespace Go.Vs.YtbchceojmblkkaaGreatDoor
set_option linter.unusedSimpArgs false
set_option linter.unusedVariables false
open Go.Proofs
set_option maxRecDepth 100000
set_option maxHeartbeats 4000000

def k_relate_Write : Nat := 38
def k_relate_UID : Nat := 39
def k_relate_Read : Nat := 40
def k_relate_Has : Nat := 46
def k_relate_Remove : Nat := 47
def k_ref28_SameTexts : Nat := 78
def k_relate_All : Nat := 79
def k_relate_Forget : Nat := 80
def k_relate_Base : Nat := 81
def k_relate_Numbered : Nat := 82
def k_relate_kindName : Nat := 83
def k_relate_isDigit : Nat := 84
def k_relate_kindOf : Nat := 87
def k_slices_ContainsFunc_Line : Nat := 99
def k__errand_relate_Rel_told : Nat := 100
def k_relate_without : Nat := 101
def k_relate_Forget_1 : Nat := 143
def k_slices_IndexFunc_Line : Nat := 154
/-- function 38 -/
def c_relate_Write : VCode :=
  .seq (rt [o1 1 (.box (tm 0)), o1 2 (.alloc [.val (.str []), .nils, .val (.str [])]), o1 3 (.move (ci 0))] []) (.seq (.seq (rt [o1 4 (.fieldAddr 0 (tm 1)), o1 5 (.load none (tm 4)), o1 6 (.bin (.geq) (tm 5) (cu 4))] [4, 5]) (.cond (tm 6) (.seq (rt [o1 7 (.build [.val (.str []), .nils, .val (.str [])] []), o3 (.store 3 (tm 2) (tm 7)), o1 3 (.move (ci 11))] [7, 7]) (.ret)) (.skip))) (.seq (.seq (rt [o1 8 (.fieldAddr 1 (tm 1)), o1 9 (.load none (tm 8)), o1 10 (.call k_relate_UID [tm 9]), o1 11 (.un (.not) (tm 10))] [8, 10]) (.cond (tm 11) (.seq (rt [o1 12 (.build [.val (.str []), .nils, .val (.str [])] []), o3 (.store 3 (tm 2) (tm 12)), o1 3 (.move (ci 4))] [12, 12]) (.ret)) (.skip))) (.seq (.region [o1 13 (.fieldAddr 0 (tm 1)), o1 14 (.load none (tm 13)), o1 15 (.call k_relate_kindName [tm 14]), o1 16 (.buildSlice 1 1 [.val (.str [])] [(0, 1, tm 15)]), o1 17 (.build [.val (.str []), .nils] [(0, 1, cs [82, 69, 76, 84, 89, 80, 69]), (1, 1, tm 16)]), o1 18 (.buildSlice 2 1 [.val (.str []), .nils] [(0, 2, tm 17)]), o1 19 (.fieldAddr 1 (tm 1)), o1 20 (.load none (tm 19)), o1 21 (.build [.val (.str []), .nils, .val (.str [])] [(0, 1, cs [82, 69, 76, 65, 84, 69, 68, 45, 84, 79]), (1, 1, tm 18), (2, 1, tm 20)]), o3 (.store 3 (tm 2) (tm 21)), o1 3 (.move (ci 0))] (.drawn [(2, 6), (3, 6), (5, 6), (2, 7), (3, 7), (5, 7)] (prs [(2, [(0, 1), (6, 7)]), (3, [(0, 2), (6, 7)]), (5, [(0, 4), (6, 7)])])) [13, 21]) (.ret))))
def r_relate_Write : List VRes := [.cell 2 (some 3), .tmp 3]
theorem ok_relate_Write : FnOk Tryz.prog k_relate_Write c_relate_Write r_relate_Write 22 :=
  ⟨⟨Tryz.f38, _, Tryz.func38, by decide, rfl, by kernel_rfl, by kernel_rfl, by kernel_rfl, rfl⟩⟩

/-- function 39 -/
def c_relate_UID : VCode :=
  .seq (rt [o1 2 (.move (cb false))] []) (.seq (.seq (rt [o1 6 (.move (tm 0)), o1 7 (.bin (.eql) (tm 6) (cs [])), o1 8 (.move (tm 7)), o2 9 (.move (tm 0)) 8 false, o2 10 (.lenS (tm 9)) 8 false, o2 11 (.bin (.gtr) (tm 10) (ci 24)) 8 false, o1 12 (.pick (tm 8) (cb true) (tm 11))] [6, 11]) (.cond (tm 12) (.seq (rt [o1 2 (.move (cb false))] []) (.ret)) (.skip))) (.seq (.seq (rt [o1 3 (.move (ci 0))] []) (.block 0 (.loop (.seq (.seq (rt [o1 13 (.move (tm 3)), o1 14 (.move (tm 0)), o1 15 (.lenS (tm 14)), o1 16 (.bin (.lss) (tm 13) (tm 15))] [13, 15]) (.cond (tm 16) (.skip) (.exit 0))) (.seq (.block 1 (.seq (rt [o1 19 (.move (tm 0)), o1 20 (.move (tm 3)), o1 21 (.indexS (tm 19) (tm 20)), o1 4 (.move (tm 21))] [19, 21]) (.seq (rt [o1 22 (.move (tm 4)), o1 23 (.bin (.geq) (tm 22) (cu 97)), o1 24 (.move (tm 23)), o2 25 (.move (tm 4)) 24 true, o2 26 (.bin (.leq) (tm 25) (cu 122)) 24 true, o1 27 (.pick (tm 24) (tm 26) (cb false)), o1 28 (.move (tm 27)), o2 29 (.move (tm 4)) 28 false, o2 30 (.bin (.geq) (tm 29) (cu 65)) 28 false, o2 31 (.move (tm 30)) 28 false, o2 32 (.move (tm 4)) 31 true, o2 33 (.bin (.leq) (tm 32) (cu 90)) 31 true, o2 34 (.pick (tm 31) (tm 33) (cb false)) 28 false, o1 35 (.pick (tm 28) (cb true) (tm 34)), o1 5 (.move (tm 35))] [22, 35]) (.seq (rt [o1 36 (.move (tm 5)), o1 37 (.un (.not) (tm 36)), o1 38 (.move (tm 37)), o2 39 (.move (tm 4)) 38 true, o2 40 (.call k_relate_isDigit [tm 39]) 38 true, o2 41 (.un (.not) (tm 40)) 38 true, o1 42 (.pick (tm 38) (tm 41) (cb false)), o1 43 (.move (tm 42)), o2 44 (.move (tm 4)) 43 true, o2 45 (.call k_strings_IndexByte [cs [45, 46, 95, 64], tm 44]) 43 true, o2 46 (.bin (.lss) (tm 45) (ci 0)) 43 true, o1 47 (.pick (tm 43) (tm 46) (cb false))] [36, 46]) (.cond (tm 47) (.seq (rt [o1 2 (.move (cb false))] []) (.ret)) (.skip)))))) (rt [o1 17 (.move (tm 3)), o1 18 (.bin (.add) (tm 17) (ci 1)), o1 3 (.move (tm 18))] [17, 18])))))) (.seq (rt [o1 2 (.move (cb true))] []) (.ret))))
def r_relate_UID : List VRes := [.tmp 2]
theorem ok_relate_UID : FnOk Tryz.prog k_relate_UID c_relate_UID r_relate_UID 48 :=
  ⟨⟨Tryz.f39, _, Tryz.func39, by decide, rfl, by kernel_rfl, by kernel_rfl, by kernel_rfl, rfl⟩⟩

/-- function 40 -/
def c_relate_Read : VCode :=
  .seq (rt [o1 1 (.box (tm 0)), o1 2 (.alloc [.val (.int (.u8) 0), .val (.str [])]), o1 3 (.move (ci 0))] []) (.seq (.seq (rt [o1 7 (.fieldAddr 0 (tm 1)), o1 8 (.load none (tm 7)), o1 9 (.bin (.neq) (tm 8) (cs [82, 69, 76, 65, 84, 69, 68, 45, 84, 79]))] [7, 8]) (.cond (tm 9) (.seq (rt [o1 10 (.build [.val (.int (.u8) 0), .val (.str [])] []), o3 (.store 2 (tm 2) (tm 10)), o1 3 (.move (ci 11))] [10, 10]) (.ret)) (.skip))) (.seq (rt [o1 12 (.fieldAddr 1 (tm 1)), o1 13 (.load none (tm 12)), o1 14 (.call k_param_Find [tm 13, cs [82, 69, 76, 84, 89, 80, 69]]), o1 11 (.move (tm 14)), o1 15 (.extract (tm 11) 0), o1 16 (.extract (tm 11) 1), o1 4 (.alloc [.val (.str []), .nils]), o3 (.store 2 (tm 4) (tm 15)), o1 5 (.move (tm 16))] [11, 16]) (.seq (.seq (rt [o1 17 (.move (tm 5)), o1 18 (.move (tm 17)), o2 19 (.fieldAddr 1 (tm 4)) 18 true, o2 20 (.load none (tm 19)) 18 true, o2 21 (.lenV (tm 20)) 18 true, o2 22 (.bin (.neq) (tm 21) (ci 1)) 18 true, o1 23 (.pick (tm 18) (tm 22) (cb false))] [17, 22]) (.cond (tm 23) (.seq (rt [o1 24 (.build [.val (.int (.u8) 0), .val (.str [])] []), o3 (.store 2 (tm 2) (tm 24)), o1 3 (.move (ci 20))] [24, 24]) (.ret)) (.skip))) (.seq (.seq (rt [o1 25 (.fieldAddr 2 (tm 1)), o1 26 (.load none (tm 25)), o1 27 (.call k_relate_UID [tm 26]), o1 28 (.un (.not) (tm 27))] [25, 27]) (.cond (tm 28) (.seq (rt [o1 29 (.build [.val (.int (.u8) 0), .val (.str [])] []), o3 (.store 2 (tm 2) (tm 29)), o1 3 (.move (ci 4))] [29, 29]) (.ret)) (.skip))) (.seq (rt [o1 30 (.fieldAddr 2 (tm 1)), o1 31 (.load none (tm 30)), o1 32 (.build [.val (.int (.u8) 0), .val (.str [])] [(0, 1, cu 0), (1, 1, tm 31)]), o1 6 (.alloc [.val (.int (.u8) 0), .val (.str [])]), o3 (.store 2 (tm 6) (tm 32))] [30, 32]) (.seq (.seq (rt [o1 33 (.move (tm 5))] []) (.cond (tm 33) (rt [o1 34 (.fieldAddr 1 (tm 4)), o1 35 (.load none (tm 34)), o1 36 (.indexAddr 1 (tm 35) (ci 0)), o1 37 (.load none (tm 36)), o1 38 (.call k_relate_kindOf [tm 37]), o1 39 (.fieldAddr 0 (tm 6)), o3 (.store 1 (tm 39) (tm 38))] [34, 39]) (.skip))) (.seq (rt [o1 40 (.load (some 2) (tm 6)), o3 (.store 2 (tm 2) (tm 40)), o1 3 (.move (ci 0))] [40, 40]) (.ret))))))))
def r_relate_Read : List VRes := [.cell 2 (some 2), .tmp 3]
theorem ok_relate_Read : FnOk Tryz.prog k_relate_Read c_relate_Read r_relate_Read 41 :=
  ⟨⟨Tryz.f40, _, Tryz.func40, by decide, rfl, by kernel_rfl, by kernel_rfl, by kernel_rfl, rfl⟩⟩

/-- function 46 -/
def c_relate_Has : VCode :=
  .seq (rt [o1 3 (.box (tm 1)), o1 4 (.move (cb false))] []) (.seq (rt [o1 5 (.move (tm 0)), o1 6 (.load (some 2) (tm 3)), o1 7 (.mkBound k__errand_relate_Rel_told [tm 6]), o1 8 (.call k_slices_ContainsFunc_Line [tm 5, tm 7]), o1 4 (.move (tm 8))] [5, 8]) (.ret))
def r_relate_Has : List VRes := [.tmp 4]
theorem ok_relate_Has : FnOk Tryz.prog k_relate_Has c_relate_Has r_relate_Has 9 :=
  ⟨⟨Tryz.f46, _, Tryz.func46, by decide, rfl, by kernel_rfl, by kernel_rfl, by kernel_rfl, rfl⟩⟩

/-- function 47 -/
def c_relate_Remove : VCode :=
  .seq (rt [o1 3 (.box (tm 1)), o1 4 (.move (.const (.nils)))] []) (.seq (rt [o1 5 (.move (tm 0)), o1 6 (.load (some 2) (tm 3)), o1 7 (.mkBound k__errand_relate_Rel_told [tm 6]), o1 8 (.call k_relate_without [tm 5, tm 7]), o1 4 (.move (tm 8))] [5, 8]) (.ret))
def r_relate_Remove : List VRes := [.tmp 4]
theorem ok_relate_Remove : FnOk Tryz.prog k_relate_Remove c_relate_Remove r_relate_Remove 9 :=
  ⟨⟨Tryz.f47, _, Tryz.func47, by decide, rfl, by kernel_rfl, by kernel_rfl, by kernel_rfl, rfl⟩⟩

/-- function 78 -/
def c_ref28_SameTexts : VCode :=
  .seq (rt [o1 4 (.move (cb false))] []) (.seq (.seq (rt [o1 6 (.move (tm 0)), o1 7 (.lenV (tm 6)), o1 8 (.move (tm 1)), o1 9 (.lenV (tm 8)), o1 10 (.bin (.neq) (tm 7) (tm 9))] [6, 9]) (.cond (tm 10) (.seq (rt [o1 4 (.move (cb false))] []) (.ret)) (.skip))) (.seq (.seq (rt [o1 5 (.move (ci 0))] []) (.block 0 (.loop (.seq (.seq (rt [o1 11 (.move (tm 5)), o1 12 (.move (tm 0)), o1 13 (.lenV (tm 12)), o1 14 (.bin (.lss) (tm 11) (tm 13))] [11, 13]) (.cond (tm 14) (.skip) (.exit 0))) (.seq (.block 1 (.seq (.region [o1 17 (.move (tm 0)), o1 18 (.move (tm 5)), o1 19 (.indexAddr 1 (tm 17) (tm 18)), o1 20 (.load none (tm 19)), o1 21 (.move (tm 1)), o1 22 (.move (tm 5)), o1 23 (.indexAddr 1 (tm 21) (tm 22)), o1 24 (.load none (tm 23)), o1 25 (.bin (.neq) (tm 20) (tm 24))] (.calm) [17, 24]) (.cond (tm 25) (.seq (rt [o1 4 (.move (cb false))] []) (.ret)) (.skip)))) (rt [o1 15 (.move (tm 5)), o1 16 (.bin (.add) (tm 15) (ci 1)), o1 5 (.move (tm 16))] [15, 16])))))) (.seq (rt [o1 4 (.move (cb true))] []) (.ret))))
def r_ref28_SameTexts : List VRes := [.tmp 4]
theorem ok_ref28_SameTexts : FnOk Tryz.prog k_ref28_SameTexts c_ref28_SameTexts r_ref28_SameTexts 26 :=
  ⟨⟨Tryz.f78, _, Tryz.func78, by decide, rfl, by kernel_rfl, by kernel_rfl, by kernel_rfl, rfl⟩⟩

/-- function 79 -/
def c_relate_All : VCode :=
  .seq (rt [o1 4 (.move (.const (.nils)))] []) (.seq (rt [o1 5 (.move (.const (.nils)))] []) (.seq (.seq (rt [o1 10 (.move (tm 0)), o1 11 (.lenV (tm 10)), o1 12 (.move (ci 0))] []) (.block 0 (.loop (.seq (rt [o1 13 (.bin (.lss) (tm 12) (tm 11))] []) (.seq (.cond (tm 13) (.skip) (.exit 0)) (.seq (.block 1 (.seq (rt [o1 14 (.indexAddr 3 (tm 10) (tm 12)), o1 15 (.load (some 3) (tm 14)), o1 7 (.alloc [.val (.str []), .nils, .val (.str [])]), o3 (.store 3 (tm 7) (tm 15))] [14, 15]) (.seq (rt [o1 17 (.load (some 3) (tm 7)), o1 18 (.call k_relate_Read [tm 17]), o1 16 (.move (tm 18)), o1 19 (.extract (tm 16) 0), o1 20 (.extract (tm 16) 1), o1 8 (.alloc [.val (.int (.u8) 0), .val (.str [])]), o3 (.store 2 (tm 8) (tm 19)), o1 9 (.move (tm 20))] [16, 20]) (.seq (rt [o1 21 (.move (tm 9)), o1 22 (.bin (.eql) (tm 21) (ci 0)), o1 23 (.move (tm 22)), o2 24 (.fieldAddr 0 (tm 8)) 23 true, o2 25 (.load none (tm 24)) 23 true, o2 26 (.move (tm 1)) 23 true, o2 27 (.bin (.eql) (tm 25) (tm 26)) 23 true, o1 28 (.pick (tm 23) (tm 27) (cb false))] [21, 27]) (.cond (tm 28) (rt [o1 29 (.move (tm 5)), o1 30 (.fieldAddr 1 (tm 8)), o1 31 (.load none (tm 30)), o1 32 (.buildSlice 1 1 [.val (.str [])] [(0, 1, tm 31)]), o1 33 (.append 9 1 16 (tm 29) (tm 32)), o1 5 (.move (tm 33))] [29, 33]) (.skip)))))) (rt [o1 34 (.bin (.add) (tm 12) (ci 1)), o1 12 (.move (tm 34))] [34, 34]))))))) (.seq (rt [o1 35 (.move (tm 5)), o1 4 (.move (tm 35))] [35, 35]) (.ret))))
def r_relate_All : List VRes := [.tmp 4]
theorem ok_relate_All : FnOk Tryz.prog k_relate_All c_relate_All r_relate_All 36 :=
  ⟨⟨Tryz.f79, _, Tryz.func79, by decide, rfl, by kernel_rfl, by kernel_rfl, by kernel_rfl, rfl⟩⟩

/-- function 80 -/
def c_relate_Forget : VCode :=
  .seq (rt [o1 4 (.move (.const (.nils)))] []) (.seq (rt [o1 7 (.move (tm 1)), o1 8 (.build [.val (.int (.u8) 0), .val (.str [])] [(0, 1, cu 0), (1, 1, tm 7)]), o1 9 (.move (tm 1)), o1 10 (.build [.val (.int (.u8) 0), .val (.str [])] [(0, 1, cu 3), (1, 1, tm 9)]), o1 5 (.alloc [.val (.int (.u8) 0), .val (.str [])]), o1 6 (.alloc [.val (.int (.u8) 0), .val (.str [])]), o3 (.store 2 (tm 5) (tm 8)), o3 (.store 2 (tm 6) (tm 10))] [7, 10]) (.seq (rt [o1 11 (.move (tm 0)), o1 12 (.mkFunc k_relate_Forget_1 [tm 5, tm 6]), o1 13 (.call k_relate_without [tm 11, tm 12]), o1 4 (.move (tm 13))] [11, 13]) (.ret)))
def r_relate_Forget : List VRes := [.tmp 4]
theorem ok_relate_Forget : FnOk Tryz.prog k_relate_Forget c_relate_Forget r_relate_Forget 14 :=
  ⟨⟨Tryz.f80, _, Tryz.func80, by decide, rfl, by kernel_rfl, by kernel_rfl, by kernel_rfl, rfl⟩⟩

/-- function 81 -/
def c_relate_Base : VCode :=
  .seq (rt [o1 2 (.move (cs []))] []) (.seq (rt [o1 6 (.move (tm 0)), o1 7 (.call k_strings_TrimRight [tm 6, cs [48, 49, 50, 51, 52, 53, 54, 55, 56, 57]]), o1 3 (.move (tm 7))] [6, 7]) (.seq (rt [o1 9 (.move (tm 3)), o1 10 (.call k_strings_CutSuffix [tm 9, cs [46]]), o1 8 (.move (tm 10)), o1 11 (.extract (tm 8) 0), o1 12 (.extract (tm 8) 1), o1 4 (.move (tm 11)), o1 5 (.move (tm 12))] [8, 12]) (.seq (.seq (rt [o1 13 (.move (tm 0)), o1 14 (.call k_relate_UID [tm 13]), o1 15 (.un (.not) (tm 14)), o1 16 (.move (tm 15)), o2 17 (.move (tm 3)) 16 false, o2 18 (.lenS (tm 17)) 16 false, o2 19 (.move (tm 0)) 16 false, o2 20 (.lenS (tm 19)) 16 false, o2 21 (.bin (.eql) (tm 18) (tm 20)) 16 false, o1 22 (.pick (tm 16) (cb true) (tm 21)), o1 23 (.move (tm 22)), o2 24 (.move (tm 5)) 23 false, o2 25 (.un (.not) (tm 24)) 23 false, o1 26 (.pick (tm 23) (cb true) (tm 25)), o1 27 (.move (tm 26)), o2 28 (.move (tm 4)) 27 false, o2 29 (.bin (.eql) (tm 28) (cs [])) 27 false, o1 30 (.pick (tm 27) (cb true) (tm 29))] [13, 29]) (.cond (tm 30) (.seq (rt [o1 31 (.move (tm 0)), o1 2 (.move (tm 31))] [31, 31]) (.ret)) (.skip))) (.seq (rt [o1 32 (.move (tm 4)), o1 2 (.move (tm 32))] [32, 32]) (.ret)))))
def r_relate_Base : List VRes := [.tmp 2]
theorem ok_relate_Base : FnOk Tryz.prog k_relate_Base c_relate_Base r_relate_Base 33 :=
  ⟨⟨Tryz.f81, _, Tryz.func81, by decide, rfl, by kernel_rfl, by kernel_rfl, by kernel_rfl, rfl⟩⟩

/-- function 82 -/
def c_relate_Numbered : VCode :=
  .seq (rt [o1 4 (.move (cs []))] []) (.seq (rt [o1 5 (.move (tm 0)), o1 6 (.bin (.add) (tm 5) (cs [46])), o1 7 (.move (tm 1)), o1 8 (.call k_strconv_Itoa [tm 7]), o1 9 (.bin (.add) (tm 6) (tm 8)), o1 4 (.move (tm 9))] [5, 9]) (.ret))
def r_relate_Numbered : List VRes := [.tmp 4]
theorem ok_relate_Numbered : FnOk Tryz.prog k_relate_Numbered c_relate_Numbered r_relate_Numbered 10 :=
  ⟨⟨Tryz.f82, _, Tryz.func82, by decide, rfl, by kernel_rfl, by kernel_rfl, by kernel_rfl, rfl⟩⟩

/-- function 83 -/
def c_relate_kindName : VCode :=
  .seq (rt [o1 2 (.move (cs []))] []) (.seq (.seq (rt [o1 3 (.move (tm 0))] []) (.block 0 (.seq (rt [o1 5 (.bin (.eql) (tm 3) (cu 0)), o1 4 (.move (tm 5))] [5, 5]) (.cond (tm 4) (.seq (rt [o1 2 (.move (cs [80, 65, 82, 69, 78, 84]))] []) (.ret)) (.seq (rt [o1 7 (.bin (.eql) (tm 3) (cu 1)), o1 6 (.move (tm 7))] [7, 7]) (.cond (tm 6) (.seq (rt [o1 2 (.move (cs [67, 72, 73, 76, 68]))] []) (.ret)) (.seq (rt [o1 9 (.bin (.eql) (tm 3) (cu 2)), o1 8 (.move (tm 9))] [9, 9]) (.cond (tm 8) (.seq (rt [o1 2 (.move (cs [83, 73, 66, 76, 73, 78, 71]))] []) (.ret)) (.skip))))))))) (.seq (rt [o1 2 (.move (cs [68, 69, 80, 69, 78, 68, 83, 45, 79, 78]))] []) (.ret)))
def r_relate_kindName : List VRes := [.tmp 2]
theorem ok_relate_kindName : FnOk Tryz.prog k_relate_kindName c_relate_kindName r_relate_kindName 10 :=
  ⟨⟨Tryz.f83, _, Tryz.func83, by decide, rfl, by kernel_rfl, by kernel_rfl, by kernel_rfl, rfl⟩⟩

/-- function 84 -/
def c_relate_isDigit : VCode :=
  .seq (rt [o1 2 (.move (cb false))] []) (.seq (rt [o1 3 (.move (tm 0)), o1 4 (.bin (.geq) (tm 3) (cu 48)), o1 5 (.move (tm 4)), o2 6 (.move (tm 0)) 5 true, o2 7 (.bin (.leq) (tm 6) (cu 57)) 5 true, o1 8 (.pick (tm 5) (tm 7) (cb false)), o1 2 (.move (tm 8))] [3, 8]) (.ret))
def r_relate_isDigit : List VRes := [.tmp 2]
theorem ok_relate_isDigit : FnOk Tryz.prog k_relate_isDigit c_relate_isDigit r_relate_isDigit 9 :=
  ⟨⟨Tryz.f84, _, Tryz.func84, by decide, rfl, by kernel_rfl, by kernel_rfl, by kernel_rfl, rfl⟩⟩

/-- function 87 -/
def c_relate_kindOf : VCode :=
  .seq (rt [o1 2 (.move (cu 0))] []) (.seq (rt [o1 4 (.move (tm 0)), o1 5 (.call k_utf_Upper [tm 4]), o1 0 (.move (tm 5))] [4, 5]) (.seq (.seq (rt [o1 3 (.move (cu 0))] []) (.block 0 (.loop (.seq (.seq (rt [o1 6 (.move (tm 3)), o1 7 (.bin (.lss) (tm 6) (cu 4))] [6, 6]) (.cond (tm 7) (.skip) (.exit 0))) (.seq (.block 1 (.seq (rt [o1 10 (.move (tm 3)), o1 11 (.call k_relate_kindName [tm 10]), o1 12 (.move (tm 0)), o1 13 (.bin (.eql) (tm 11) (tm 12))] [10, 12]) (.cond (tm 13) (.seq (rt [o1 14 (.move (tm 3)), o1 2 (.move (tm 14))] [14, 14]) (.ret)) (.skip)))) (rt [o1 8 (.move (tm 3)), o1 9 (.bin (.add) (tm 8) (cu 1)), o1 3 (.move (tm 9))] [8, 9])))))) (.seq (rt [o1 2 (.move (cu 4))] []) (.ret))))
def r_relate_kindOf : List VRes := [.tmp 2]
theorem ok_relate_kindOf : FnOk Tryz.prog k_relate_kindOf c_relate_kindOf r_relate_kindOf 15 :=
  ⟨⟨Tryz.f87, _, Tryz.func87, by decide, rfl, by kernel_rfl, by kernel_rfl, by kernel_rfl, rfl⟩⟩

/-- function 99 -/
def c_slices_ContainsFunc_Line : VCode :=
  .seq (rt [o1 4 (.move (cb false))] []) (.seq (rt [o1 5 (.move (tm 0)), o1 6 (.move (tm 1)), o1 7 (.call k_slices_IndexFunc_Line [tm 5, tm 6]), o1 8 (.bin (.geq) (tm 7) (ci 0)), o1 4 (.move (tm 8))] [5, 8]) (.ret))
def r_slices_ContainsFunc_Line : List VRes := [.tmp 4]
theorem ok_slices_ContainsFunc_Line : FnOk Tryz.prog k_slices_ContainsFunc_Line c_slices_ContainsFunc_Line r_slices_ContainsFunc_Line 9 :=
  ⟨⟨Tryz.f99, _, Tryz.func99, by decide, rfl, by kernel_rfl, by kernel_rfl, by kernel_rfl, rfl⟩⟩

/-- function 100 -/
def c__errand_relate_Rel_told : VCode :=
  .seq (rt [o1 2 (.box (tm 0)), o1 3 (.box (tm 1)), o1 4 (.move (cb false))] []) (.seq (rt [o1 8 (.load (some 3) (tm 3)), o1 9 (.call k_relate_Read [tm 8]), o1 7 (.move (tm 9)), o1 10 (.extract (tm 7) 0), o1 11 (.extract (tm 7) 1), o1 5 (.alloc [.val (.int (.u8) 0), .val (.str [])]), o3 (.store 2 (tm 5) (tm 10)), o1 6 (.move (tm 11))] [7, 11]) (.seq (rt [o1 12 (.move (tm 6)), o1 13 (.bin (.eql) (tm 12) (ci 0)), o1 14 (.move (tm 13)), o2 15 (.load (some 2) (tm 5)) 14 true, o2 16 (.load (some 2) (tm 2)) 14 true, o2 17 (.eqA false [.i, .s] (tm 15) (tm 16)) 14 true, o1 18 (.pick (tm 14) (tm 17) (cb false)), o1 4 (.move (tm 18))] [12, 18]) (.ret)))
def r__errand_relate_Rel_told : List VRes := [.tmp 4]
theorem ok__errand_relate_Rel_told : FnOk Tryz.prog k__errand_relate_Rel_told c__errand_relate_Rel_told r__errand_relate_Rel_told 19 :=
  ⟨⟨Tryz.f100, _, Tryz.func100, by decide, rfl, by kernel_rfl, by kernel_rfl, by kernel_rfl, rfl⟩⟩

/-- function 101 -/
def c_relate_without : VCode :=
  .seq (rt [o1 4 (.move (.const (.nils)))] []) (.seq (rt [o1 5 (.move (.const (.nils)))] []) (.seq (.seq (rt [o1 11 (.move (tm 0)), o1 12 (.lenV (tm 11)), o1 13 (.move (ci 0))] []) (.block 0 (.loop (.seq (rt [o1 14 (.bin (.lss) (tm 13) (tm 12))] []) (.seq (.cond (tm 14) (.skip) (.exit 0)) (.seq (.block 1 (.seq (rt [o1 15 (.indexAddr 3 (tm 11) (tm 13)), o1 16 (.load (some 3) (tm 15)), o1 7 (.alloc [.val (.str []), .nils, .val (.str [])]), o3 (.store 3 (tm 7) (tm 16))] [15, 16]) (.seq (.seq (rt [o1 17 (.move (tm 1)), o1 18 (.load (some 3) (tm 7)), o1 19 (.callV (tm 17) [tm 18])] [17, 18]) (.cond (tm 19) (.exit 1) (.skip))) (.seq (rt [o1 20 (.fieldAddr 0 (tm 7)), o1 21 (.load none (tm 20)), o1 22 (.fieldAddr 2 (tm 7)), o1 23 (.load none (tm 22)), o1 24 (.build [.val (.str []), .nils, .val (.str [])] [(0, 1, tm 21), (2, 1, tm 23)]), o1 8 (.alloc [.val (.str []), .nils, .val (.str [])]), o3 (.store 3 (tm 8) (tm 24))] [20, 24]) (.seq (.seq (rt [o1 25 (.fieldAddr 1 (tm 7)), o1 26 (.load none (tm 25)), o1 27 (.lenV (tm 26)), o1 28 (.move (ci 0))] [25, 25]) (.block 2 (.loop (.seq (rt [o1 29 (.bin (.lss) (tm 28) (tm 27))] []) (.seq (.cond (tm 29) (.skip) (.exit 2)) (.seq (.block 3 (.seq (rt [o1 30 (.indexAddr 2 (tm 26) (tm 28)), o1 31 (.load (some 2) (tm 30)), o1 10 (.alloc [.val (.str []), .nils]), o3 (.store 2 (tm 10) (tm 31))] [30, 31]) (.region [o1 32 (.fieldAddr 1 (tm 8)), o1 33 (.load none (tm 32)), o1 34 (.fieldAddr 0 (tm 10)), o1 35 (.load none (tm 34)), o1 36 (.fieldAddr 1 (tm 10)), o1 37 (.load none (tm 36)), o1 38 (.call k_slices_Clone_string [tm 37]), o1 39 (.build [.val (.str []), .nils] [(0, 1, tm 35), (1, 1, tm 38)]), o1 40 (.buildSlice 2 1 [.val (.str []), .nils] [(0, 2, tm 39)]), o1 41 (.append 140 2 40 (tm 33) (tm 40)), o1 42 (.fieldAddr 1 (tm 8)), o3 (.store 1 (tm 42) (tm 41))] (.drawn [(0, 6), (1, 6), (2, 6), (3, 6), (0, 8), (1, 8)] (prs [(6, [(0, 5)]), (8, [(0, 7)]), (9, [(0, 8)])])) [32, 42]))) (rt [o1 43 (.bin (.add) (tm 28) (ci 1)), o1 28 (.move (tm 43))] [43, 43]))))))) (rt [o1 44 (.move (tm 5)), o1 45 (.load (some 3) (tm 8)), o1 46 (.buildSlice 3 1 [.val (.str []), .nils, .val (.str [])] [(0, 3, tm 45)]), o1 47 (.append 72 3 56 (tm 44) (tm 46)), o1 5 (.move (tm 47))] [44, 47])))))) (rt [o1 48 (.bin (.add) (tm 13) (ci 1)), o1 13 (.move (tm 48))] [48, 48]))))))) (.seq (rt [o1 49 (.move (tm 5)), o1 4 (.move (tm 49))] [49, 49]) (.ret))))
def r_relate_without : List VRes := [.tmp 4]
theorem ok_relate_without : FnOk Tryz.prog k_relate_without c_relate_without r_relate_without 50 :=
  ⟨⟨Tryz.f101, _, Tryz.func101, by decide, rfl, by kernel_rfl, by kernel_rfl, by kernel_rfl, rfl⟩⟩

/-- function 143 -/
def c_relate_Forget_1 : VCode :=
  .seq (rt [o1 3 (.box (tm 0)), o1 4 (.move (cb false))] []) (.seq (rt [o1 5 (.load (some 2) (tm 1)), o1 6 (.load (some 3) (tm 3)), o1 7 (.call k__errand_relate_Rel_told [tm 5, tm 6]), o1 8 (.move (tm 7)), o2 9 (.load (some 2) (tm 2)) 8 false, o2 10 (.load (some 3) (tm 3)) 8 false, o2 11 (.call k__errand_relate_Rel_told [tm 9, tm 10]) 8 false, o1 12 (.pick (tm 8) (cb true) (tm 11)), o1 4 (.move (tm 12))] [5, 12]) (.ret))
def r_relate_Forget_1 : List VRes := [.tmp 4]
theorem ok_relate_Forget_1 : FnOk Tryz.prog k_relate_Forget_1 c_relate_Forget_1 r_relate_Forget_1 13 :=
  ⟨⟨Tryz.f143, _, Tryz.func143, by decide, rfl, by kernel_rfl, by kernel_rfl, by kernel_rfl, rfl⟩⟩

/-- function 154 -/
def c_slices_IndexFunc_Line : VCode :=
  .seq (rt [o1 4 (.move (ci 0))] []) (.seq (.seq (rt [o1 6 (.move (tm 0)), o1 7 (.lenV (tm 6)), o1 8 (.move (ci 0))] [6, 6]) (.block 0 (.loop (.seq (rt [o1 9 (.bin (.lss) (tm 8) (tm 7))] []) (.seq (.cond (tm 9) (.skip) (.exit 0)) (.seq (.block 1 (.seq (rt [o1 10 (.move (tm 8)), o1 5 (.move (tm 10))] [10, 10]) (.seq (rt [o1 11 (.move (tm 1)), o1 12 (.move (tm 0)), o1 13 (.move (tm 5)), o1 14 (.indexAddr 3 (tm 12) (tm 13)), o1 15 (.load (some 3) (tm 14)), o1 16 (.callV (tm 11) [tm 15])] [11, 15]) (.cond (tm 16) (.seq (rt [o1 17 (.move (tm 5)), o1 4 (.move (tm 17))] [17, 17]) (.ret)) (.skip))))) (rt [o1 18 (.bin (.add) (tm 8) (ci 1)), o1 8 (.move (tm 18))] [18, 18]))))))) (.seq (rt [o1 4 (.move (ci (-1)))] []) (.ret)))
def r_slices_IndexFunc_Line : List VRes := [.tmp 4]
theorem ok_slices_IndexFunc_Line : FnOk Tryz.prog k_slices_IndexFunc_Line c_slices_IndexFunc_Line r_slices_IndexFunc_Line 19 :=
  ⟨⟨Tryz.f154, _, Tryz.func154, by decide, rfl, by kernel_rfl, by kernel_rfl, by kernel_rfl, rfl⟩⟩

end Go.Vs.YtbchceojmblkkaaGreatDoor
namespace Go.Vs.YtbchceojmblkkaaGreatDoor
set_option linter.unusedSimpArgs false
set_option linter.unusedVariables false
open Go.Proofs Go.Vs.U8 Go.Vs.Pa Go.Vs.Nu
abbrev Rl := Int × Str
def rtName : Str := [82, 69, 76, 65, 84, 69, 68, 45, 84, 79]
def ptName : Str := [82, 69, 76, 84, 89, 80, 69]
def kinds : List Str := [[80, 65, 82, 69, 78, 84], [67, 72, 73, 76, 68], [83, 73, 66, 76, 73, 78, 71], [68, 69, 80, 69, 78, 68, 83, 45, 79, 78]]
def kindOf (s : Str) : Int := (kinds.idxOf (upper s) : Nat)
def kindN (k : Int) : Str := if k = 0 then [80, 65, 82, 69, 78, 84] else if k = 1 then [67, 72, 73, 76, 68] else if k = 2 then [83, 73, 66, 76, 73, 78, 71] else [68, 69, 80, 69, 78, 68, 83, 45, 79, 78]
def relK (x : Ln) : Int := match findP x.p ptName with
  | some p => kindOf (p.v.getD 0 [])
  | none => 0
def relE (x : Ln) : Int := if x.n ≠ rtName then 11 else match findP x.p ptName with
  | some p => if p.v.length ≠ 1 then 20 else if uidB x.v = true then 0 else 4
  | none => if uidB x.v = true then 0 else 4
def relR (x : Ln) : Rl × Int := if relE x = 0 then ((relK x, x.v), 0) else ((0, []), relE x)
def writE (r : Rl) : Int := if 4 ≤ r.1 then 11 else if uidB r.2 = true then 0 else 4
def relL (r : Rl) : Ln := ⟨rtName, [⟨ptName, [kindN r.1]⟩], r.2⟩
def lnO : Ln := ⟨[], [], []⟩
def writR (r : Rl) : Ln × Int := if writE r = 0 then (relL r, 0) else (lnO, writE r)
def toldB (r : Rl) (x : Ln) : Bool := decide (relR x = (r, 0))
def allR (l : List Ln) (k : Int) : List Str := (l.filter fun x => decide ((relR x).2 = 0 ∧ (relR x).1.1 = k)).map fun x => (relR x).1.2
def hasR (l : List Ln) (r : Rl) : Bool := l.any (toldB r)
def dropR (l : List Ln) (r : Rl) : List Ln := l.filter fun x => !toldB r x
def forgR (l : List Ln) (u : Str) : List Ln := l.filter fun x => !(toldB (0, u) x || toldB (3, u) x)
theorem kind_back {k : Int} (h0 : 0 ≤ k) (h : k < 4) : kindOf (kindN k) = k := by
  have : k = 0 ∨ k = 1 ∨ k = 2 ∨ k = 3 := by omega
  rcases this with rfl | rfl | rfl | rfl <;> decide
theorem writE_zero {r : Rl} (h : writE r = 0) : r.1 < 4 ∧ uidB r.2 = true := by
  unfold writE at h
  split at h
  · cases h
  · split at h
    · next h1 h2 => exact ⟨by omega, h2⟩
    · cases h
/-- A relation that is written is read as it was. -/
theorem rel_back {r : Rl} (h0 : 0 ≤ r.1) (h : writE r = 0) : relR (relL r) = (r, 0) := by
  obtain ⟨h1, h2⟩ := writE_zero h
  have hf : findP (relL r).p ptName = some ⟨ptName, [kindN r.1]⟩ := by simp [relL, findP]
  have he : relE (relL r) = 0 := by
    unfold relE
    rw [hf, if_neg (by simp [relL])]
    simp [relL, h2]
  have hk : relK (relL r) = r.1 := by
    unfold relK
    rw [hf]
    exact kind_back h0 h1
  unfold relR
  rw [if_pos he, hk]
  rfl
theorem hasR_drop (l : List Ln) (r : Rl) : hasR (dropR l r) r = false := by
  unfold hasR dropR
  rw [List.any_eq_false]
  intro x hx
  have := (List.mem_filter.1 hx).2
  simpa using this
theorem dropR_snoc {l : List Ln} {r : Rl} {x : Ln} (h : toldB r x = true) : dropR (l ++ [x]) r = dropR l r := by
  simp [dropR, List.filter_append, h]
theorem hasR_snoc {l : List Ln} {r : Rl} {x : Ln} (h : toldB r x = true) : hasR (l ++ [x]) r = true := by
  simp [hasR, h]
end Go.Vs.YtbchceojmblkkaaGreatDoor
