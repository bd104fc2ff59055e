/- The known globals with civil's own table; contracts that do not know it hold with it too. No conditions. -/
import Derived.Test.YtbchceojmblkkaaGreatDoorBE
import Derived.Test.YtbchceojmblkkaaGreatDoorBD
import Derived.Test.YtbchceojmblkkaaGreatDoorRows
import Derived.KernelRfl
import Derived.Test.YtbchceojmblkkaaGreatDoorRA
set_option linter.unusedVariables false
set_option linter.unusedSimpArgs false
namespace Go.Vs.Cv
end Go.Vs.Cv
namespace Go.Vs.YtbchceojmblkkaaGreatDoor
open Go.Proofs
set_option linter.unusedSimpArgs false
set_option linter.unusedVariables false
def befZ : List Int := [0, 31, 59, 90, 120, 151, 181, 212, 243, 273, 304, 334, 365]
def G2 : List (Nat × List IV) := (2, befZ.map (.int .i64 ·)) :: G
theorem upR {k : Nat} {args : List IV} {r : Res} (h : FnR G Tryz.prog k args r) : FnR G2 Tryz.prog k args r :=
 ⟨h.1, fun w S vs hS hr hg => h.2 w S vs hS hr (fun p hp => hg p (List.mem_cons_of_mem _ hp))⟩
theorem up {k : Nat} {args : List IV} {v : IV} (h : Fn G Tryz.prog k args v) : Fn G2 Tryz.prog k args v := upR h
theorem bef_drop {m : Nat} (h1 : 1 ≤ m) (h2 : m ≤ 13) : ∃ r, (befZ.map (IV.int .i64 ·)).drop (m - 1) = .int .i64 (befZ.getD (m - 1) 0) :: r := by
 have : m = 1 ∨ m = 2 ∨ m = 3 ∨ m = 4 ∨ m = 5 ∨ m = 6 ∨ m = 7 ∨ m = 8 ∨ m = 9 ∨ m = 10 ∨ m = 11 ∨ m = 12 ∨ m = 13 := by omega
 rcases this with rfl | rfl | rfl | rfl | rfl | rfl | rfl | rfl | rfl | rfl | rfl | rfl | rfl <;> exact ⟨_, rfl⟩
end Go.Vs.YtbchceojmblkkaaGreatDoor
namespace Go.Vs.YtbchceojmblkkaaGreatDoor
set_option linter.unusedSimpArgs false
set_option linter.unusedVariables false
open Go.Proofs
set_option maxRecDepth 100000
set_option maxHeartbeats 4000000

def k_moment_Print : Nat := 113
def k_moment_Parse : Nat := 158
def k_ref11_Parse : Nat := 159
def k_moment_Check : Nat := 160
def k_moment_Split : Nat := 161
def k_civil_Date : Nat := 162
def k_moment_lay : Nat := 163
def k_ref11_Check : Nat := 165
def k_moment_form : Nat := 196
def k_moment_fields : Nat := 197
def k_civil_Day : Nat := 198
def k_ref11_digits : Nat := 199
def k_ref09_Day : Nat := 200
def k_ref11_number : Nat := 201
def k_moment_At : Nat := 202
def k_civil_isDay : Nat := 203
def k_civil_split : Nat := 204
def k_civil_until : Nat := 205
def k_ref09_ahead : Nat := 207
def k_ref09_Len : Nat := 208
def k_civil_Len : Nat := 230
def k_moment_sound : Nat := 231
def k_civil_Leap : Nat := 232
def k_ref09_Days : Nat := 234
def k_civil_isYear : Nat := 245
def k_ref09_Leap : Nat := 246
def c_moment_Print : VCode :=
 .seq (rt [o1 1 (.box (tm 0)), o1 2 (.move (cs [])), o1 3 (.move (ci 0))] []) (.seq (.seq (rt [o1 12 (.load (some 2) (tm 1)), o1 13 (.call k_moment_Check [tm 12]), o1 4 (.move (tm 13))] [12, 13]) (.seq (rt [o1 14 (.move (tm 4)), o1 15 (.bin (.neq) (tm 14) (ci 0))] [14, 14]) (.cond (tm 15) (.seq (rt [o1 16 (.move (tm 4)), o1 2 (.move (cs [])), o1 3 (.move (tm 16))] [16, 16]) (.ret)) (.skip)))) (.seq (rt [o1 18 (.load (some 2) (tm 1)), o1 19 (.call k_moment_Split [tm 18]), o1 17 (.move (tm 19)), o1 20 (.extract (tm 17) 0), o1 21 (.extract (tm 17) 1), o1 5 (.move (tm 20)), o1 6 (.move (tm 21))] [17, 21]) (.seq (rt [o1 23 (.move (tm 5)), o1 24 (.call k_civil_Date [tm 23]), o1 22 (.move (tm 24)), o1 25 (.extract (tm 22) 0), o1 26 (.extract (tm 22) 1), o1 27 (.extract (tm 22) 2), o1 28 (.extract (tm 22) 3), o1 7 (.move (tm 25)), o1 8 (.move (tm 26)), o1 9 (.move (tm 27)), o1 10 (.move (tm 28))] [22, 28]) (.seq (.seq (rt [o1 29 (.move (tm 10)), o1 30 (.bin (.neq) (tm 29) (ci 0))] [29, 29]) (.cond (tm 30) (.seq (rt [o1 31 (.move (tm 10)), o1 2 (.move (cs [])), o1 3 (.move (tm 31))] [31, 31]) (.ret)) (.skip))) (.seq (rt [o1 32 (.move (tm 7)), o1 33 (.callM k_moment_lay [.const (.nils), tm 32, ci 4]), o1 34 (.move (tm 8)), o1 35 (.callM k_moment_lay [tm 33, tm 34, ci 2]), o1 36 (.move (tm 9)), o1 37 (.callM k_moment_lay [tm 35, tm 36, ci 2]), o1 11 (.move (tm 37))] [32, 37]) (.seq (.seq (rt [o1 38 (.fieldAddr 0 (tm 1)), o1 39 (.load none (tm 38)), o1 40 (.bin (.neq) (tm 39) (cu 1))] [38, 39]) (.cond (tm 40) (.seq (rt [o1 41 (.move (tm 11)), o1 42 (.buildSlice 1 1 [.val (.int (.u8) 0)] [(0, 1, cu 84)]), o1 43 (.append 5 1 1 (tm 41) (tm 42)), o1 11 (.move (tm 43))] [41, 43]) (rt [o1 44 (.move (tm 11)), o1 45 (.move (tm 6)), o1 46 (.bin (.quo) (tm 45) (ci 3600)), o1 47 (.callM k_moment_lay [tm 44, tm 46, ci 2]), o1 48 (.move (tm 6)), o1 49 (.bin (.quo) (tm 48) (ci 60)), o1 50 (.bin (.rem) (tm 49) (ci 60)), o1 51 (.callM k_moment_lay [tm 47, tm 50, ci 2]), o1 52 (.move (tm 6)), o1 53 (.bin (.rem) (tm 52) (ci 60)), o1 54 (.callM k_moment_lay [tm 51, tm 53, ci 2]), o1 11 (.move (tm 54))] [44, 54])) (.skip))) (.seq (.seq (rt [o1 55 (.fieldAddr 0 (tm 1)), o1 56 (.load none (tm 55)), o1 57 (.bin (.eql) (tm 56) (cu 3))] [55, 56]) (.cond (tm 57) (rt [o1 58 (.move (tm 11)), o1 59 (.buildSlice 1 1 [.val (.int (.u8) 0)] [(0, 1, cu 90)]), o1 60 (.append 5 1 1 (tm 58) (tm 59)), o1 11 (.move (tm 60))] [58, 60]) (.skip))) (.seq (rt [o1 61 (.move (tm 11)), o1 62 (.convB (tm 61)), o1 2 (.move (tm 62)), o1 3 (.move (ci 0))] [61, 62]) (.ret)))))))))
def r_moment_Print : List VRes := [.tmp 2, .tmp 3]
theorem ok_moment_Print : FnOk Tryz.prog k_moment_Print c_moment_Print r_moment_Print 63 :=
 ⟨⟨Tryz.f113, _, Tryz.func113, by decide, rfl, by kernel_rfl, by kernel_rfl, by kernel_rfl, rfl⟩⟩

def c_moment_Parse : VCode :=
 .seq (rt [o1 2 (.alloc [.val (.int (.u8) 0), .val (.int (.i64) 0)]), o1 3 (.move (ci 0))] []) (.seq (rt [o1 13 (.move (tm 0)), o1 14 (.call k_moment_form [tm 13]), o1 12 (.move (tm 14)), o1 15 (.extract (tm 12) 0), o1 16 (.extract (tm 12) 1), o1 17 (.extract (tm 12) 2), o1 18 (.extract (tm 12) 3), o1 4 (.move (tm 15)), o1 5 (.move (tm 16)), o1 6 (.move (tm 17)), o1 7 (.move (tm 18))] [12, 18]) (.seq (.seq (rt [o1 19 (.move (tm 7)), o1 20 (.un (.not) (tm 19))] [19, 19]) (.cond (tm 20) (.seq (rt [o1 21 (.build [.val (.int (.u8) 0), .val (.int (.i64) 0)] []), o3 (.store 2 (tm 2) (tm 21)), o1 3 (.move (ci 4))] [21, 21]) (.ret)) (.skip))) (.seq (rt [o1 23 (.move (tm 5)), o1 24 (.buildSlice 1 3 [.val (.int (.i64) 0)] [(0, 1, ci 4), (1, 1, ci 2), (2, 1, ci 2)]), o1 25 (.call k_moment_fields [tm 23, tm 24]), o1 22 (.move (tm 25)), o1 26 (.extract (tm 22) 0), o1 27 (.extract (tm 22) 1), o1 8 (.move (tm 26)), o1 7 (.move (tm 27))] [22, 27]) (.seq (.seq (rt [o1 28 (.move (tm 7)), o1 29 (.un (.not) (tm 28))] [28, 28]) (.cond (tm 29) (.seq (rt [o1 30 (.build [.val (.int (.u8) 0), .val (.int (.i64) 0)] []), o3 (.store 2 (tm 2) (tm 30)), o1 3 (.move (ci 4))] [30, 30]) (.ret)) (.skip))) (.seq (rt [o1 32 (.move (tm 6)), o1 33 (.buildSlice 1 3 [.val (.int (.i64) 0)] [(0, 1, ci 2), (1, 1, ci 2), (2, 1, ci 2)]), o1 34 (.call k_moment_fields [tm 32, tm 33]), o1 31 (.move (tm 34)), o1 35 (.extract (tm 31) 0), o1 36 (.extract (tm 31) 1), o1 9 (.move (tm 35)), o1 7 (.move (tm 36))] [31, 36]) (.seq (.seq (rt [o1 37 (.move (tm 7)), o1 38 (.un (.not) (tm 37))] [37, 37]) (.cond (tm 38) (.seq (rt [o1 39 (.build [.val (.int (.u8) 0), .val (.int (.i64) 0)] []), o3 (.store 2 (tm 2) (tm 39)), o1 3 (.move (ci 4))] [39, 39]) (.ret)) (.skip))) (.seq (.region [o1 41 (.move (tm 8)), o1 42 (.indexAddr 1 (tm 41) (ci 0)), o1 43 (.load none (tm 42)), o1 44 (.move (tm 8)), o1 45 (.indexAddr 1 (tm 44) (ci 1)), o1 46 (.load none (tm 45)), o1 47 (.move (tm 8)), o1 48 (.indexAddr 1 (tm 47) (ci 2)), o1 49 (.load none (tm 48)), o1 50 (.call k_civil_Day [tm 43, tm 46, tm 49]), o1 40 (.move (tm 50)), o1 51 (.extract (tm 40) 0), o1 52 (.extract (tm 40) 1), o1 10 (.move (tm 51)), o1 11 (.move (tm 52))] (.drawn [] (prs [(9, [(0, 8)])])) [40, 52]) (.seq (.seq (rt [o1 53 (.move (tm 11)), o1 54 (.bin (.neq) (tm 53) (ci 0)), o1 55 (.move (tm 54)), o2 56 (.move (tm 9)) 55 false, o2 57 (.indexAddr 1 (tm 56) (ci 0)) 55 false, o2 58 (.load none (tm 57)) 55 false, o2 59 (.bin (.gtr) (tm 58) (ci 23)) 55 false, o1 60 (.pick (tm 55) (cb true) (tm 59)), o1 61 (.move (tm 60)), o2 62 (.move (tm 9)) 61 false, o2 63 (.indexAddr 1 (tm 62) (ci 1)) 61 false, o2 64 (.load none (tm 63)) 61 false, o2 65 (.bin (.gtr) (tm 64) (ci 59)) 61 false, o1 66 (.pick (tm 61) (cb true) (tm 65)), o1 67 (.move (tm 66)), o2 68 (.move (tm 9)) 67 false, o2 69 (.indexAddr 1 (tm 68) (ci 2)) 67 false, o2 70 (.load none (tm 69)) 67 false, o2 71 (.bin (.gtr) (tm 70) (ci 59)) 67 false, o1 72 (.pick (tm 67) (cb true) (tm 71))] [53, 71]) (.cond (tm 72) (.seq (rt [o1 73 (.build [.val (.int (.u8) 0), .val (.int (.i64) 0)] []), o3 (.store 2 (tm 2) (tm 73)), o1 3 (.move (ci 8))] [73, 73]) (.ret)) (.skip))) (.seq (.region [o1 74 (.move (tm 4)), o1 75 (.move (tm 10)), o1 76 (.bin (.mul) (tm 75) (ci 86400)), o1 77 (.move (tm 9)), o1 78 (.indexAddr 1 (tm 77) (ci 0)), o1 79 (.load none (tm 78)), o1 80 (.bin (.mul) (tm 79) (ci 60)), o1 81 (.move (tm 9)), o1 82 (.indexAddr 1 (tm 81) (ci 1)), o1 83 (.load none (tm 82)), o1 84 (.bin (.add) (tm 80) (tm 83)), o1 85 (.bin (.mul) (tm 84) (ci 60)), o1 86 (.bin (.add) (tm 76) (tm 85)), o1 87 (.move (tm 9)), o1 88 (.indexAddr 1 (tm 87) (ci 2)), o1 89 (.load none (tm 88)), o1 90 (.bin (.add) (tm 86) (tm 89)), o1 91 (.build [.val (.int (.u8) 0), .val (.int (.i64) 0)] [(0, 1, tm 74), (1, 1, tm 90)]), o3 (.store 2 (tm 2) (tm 91)), o1 3 (.move (ci 0))] (.calm) [74, 91]) (.ret))))))))))
def r_moment_Parse : List VRes := [.cell 2 (some 2), .tmp 3]
theorem ok_moment_Parse : FnOk Tryz.prog k_moment_Parse c_moment_Parse r_moment_Parse 92 :=
 ⟨⟨Tryz.f158, _, Tryz.func158, by decide, rfl, by kernel_rfl, by kernel_rfl, by kernel_rfl, rfl⟩⟩

def c_ref11_Parse : VCode :=
 .seq (rt [o1 2 (.alloc [.val (.int (.u8) 0), .val (.int (.i64) 0)]), o1 3 (.move (ci 0))] []) (.seq (rt [o1 4 (.move (cu 3))] []) (.seq (.seq (rt [o1 10 (.move (tm 0)), o1 11 (.lenS (tm 10)), o1 12 (.bin (.eql) (tm 11) (ci 8))] [10, 11]) (.cond (tm 12) (rt [o1 4 (.move (cu 1))] []) (.seq (rt [o1 13 (.move (tm 0)), o1 14 (.lenS (tm 13)), o1 15 (.bin (.eql) (tm 14) (ci 15))] [13, 14]) (.cond (tm 15) (rt [o1 4 (.move (cu 2))] []) (.skip))))) (.seq (.seq (rt [o1 16 (.move (tm 0)), o1 17 (.lenS (tm 16)), o1 18 (.bin (.neq) (tm 17) (ci 8)), o1 19 (.move (tm 18)), o2 20 (.move (tm 0)) 19 true, o2 21 (.lenS (tm 20)) 19 true, o2 22 (.bin (.neq) (tm 21) (ci 15)) 19 true, o1 23 (.pick (tm 19) (tm 22) (cb false)), o1 24 (.move (tm 23)), o2 25 (.move (tm 0)) 24 true, o2 26 (.lenS (tm 25)) 24 true, o2 27 (.bin (.neq) (tm 26) (ci 16)) 24 true, o2 28 (.move (tm 27)) 24 true, o2 29 (.move (tm 0)) 28 false, o2 30 (.indexS (tm 29) (ci 15)) 28 false, o2 31 (.bin (.neq) (tm 30) (cu 90)) 28 false, o2 32 (.pick (tm 28) (cb true) (tm 31)) 24 true, o1 33 (.pick (tm 24) (tm 32) (cb false)), o1 34 (.move (tm 33)), o2 35 (.move (tm 0)) 34 false, o2 36 (.subS (tm 35) none (some (ci 8))) 34 false, o2 37 (.call k_ref11_digits [tm 36]) 34 false, o2 38 (.un (.not) (tm 37)) 34 false, o1 39 (.pick (tm 34) (cb true) (tm 38)), o1 40 (.move (tm 39)), o2 41 (.move (tm 4)) 40 false, o2 42 (.bin (.neq) (tm 41) (cu 1)) 40 false, o2 43 (.move (tm 42)) 40 false, o2 44 (.move (tm 0)) 43 true, o2 45 (.indexS (tm 44) (ci 8)) 43 true, o2 46 (.bin (.neq) (tm 45) (cu 84)) 43 true, o2 47 (.move (tm 46)) 43 true, o2 48 (.move (tm 0)) 47 false, o2 49 (.subS (tm 48) (some (ci 9)) (some (ci 15))) 47 false, o2 50 (.call k_ref11_digits [tm 49]) 47 false, o2 51 (.un (.not) (tm 50)) 47 false, o2 52 (.pick (tm 47) (cb true) (tm 51)) 43 true, o2 53 (.pick (tm 43) (tm 52) (cb false)) 40 false, o1 54 (.pick (tm 40) (cb true) (tm 53))] [16, 53]) (.cond (tm 54) (.seq (rt [o1 55 (.build [.val (.int (.u8) 0), .val (.int (.i64) 0)] []), o3 (.store 2 (tm 2) (tm 55)), o1 3 (.move (ci 4))] [55, 55]) (.ret)) (.skip))) (.seq (.region [o1 57 (.move (tm 0)), o1 58 (.subS (tm 57) none (some (ci 4))), o1 59 (.call k_ref11_number [tm 58]), o1 60 (.move (tm 0)), o1 61 (.subS (tm 60) (some (ci 4)) (some (ci 6))), o1 62 (.call k_ref11_number [tm 61]), o1 63 (.move (tm 0)), o1 64 (.subS (tm 63) (some (ci 6)) (some (ci 8))), o1 65 (.call k_ref11_number [tm 64]), o1 66 (.call k_ref09_Day [tm 59, tm 62, tm 65]), o1 56 (.move (tm 66)), o1 67 (.extract (tm 56) 0), o1 68 (.extract (tm 56) 1), o1 5 (.move (tm 67)), o1 6 (.move (tm 68))] (.drawn [(2, 3), (2, 4), (2, 6), (5, 6), (2, 7), (5, 7)] (prs [(2, [(0, 1), (3, 4), (6, 7)]), (5, [(0, 4), (6, 7)]), (8, [(0, 7)]), (9, [(0, 8)])])) [56, 68]) (.seq (.seq (rt [o1 69 (.move (tm 6)), o1 70 (.bin (.neq) (tm 69) (ci 0))] [69, 69]) (.cond (tm 70) (.seq (rt [o1 71 (.build [.val (.int (.u8) 0), .val (.int (.i64) 0)] []), o3 (.store 2 (tm 2) (tm 71)), o1 3 (.move (ci 8))] [71, 71]) (.ret)) (.skip))) (.seq (.seq (rt [o1 72 (.move (tm 4)), o1 73 (.bin (.eql) (tm 72) (cu 1))] [72, 72]) (.cond (tm 73) (.seq (rt [o1 74 (.move (tm 4)), o1 75 (.move (tm 5)), o1 76 (.bin (.mul) (tm 75) (ci 86400)), o1 77 (.build [.val (.int (.u8) 0), .val (.int (.i64) 0)] [(0, 1, tm 74), (1, 1, tm 76)]), o3 (.store 2 (tm 2) (tm 77)), o1 3 (.move (ci 0))] [74, 77]) (.ret)) (.skip))) (.seq (.region [o1 78 (.move (tm 0)), o1 79 (.subS (tm 78) (some (ci 9)) (some (ci 11))), o1 80 (.call k_ref11_number [tm 79]), o1 81 (.move (tm 0)), o1 82 (.subS (tm 81) (some (ci 11)) (some (ci 13))), o1 83 (.call k_ref11_number [tm 82]), o1 84 (.move (tm 0)), o1 85 (.subS (tm 84) (some (ci 13)) (some (ci 15))), o1 86 (.call k_ref11_number [tm 85]), o1 7 (.move (tm 80)), o1 8 (.move (tm 83)), o1 9 (.move (tm 86))] (.drawn [(2, 3), (2, 4), (2, 6), (5, 6), (2, 7), (5, 7)] (prs [(2, [(0, 1), (3, 4), (6, 7)]), (5, [(0, 4), (6, 7)]), (8, [(0, 7)])])) [78, 86]) (.seq (.seq (rt [o1 87 (.move (tm 7)), o1 88 (.bin (.gtr) (tm 87) (ci 23)), o1 89 (.move (tm 88)), o2 90 (.move (tm 8)) 89 false, o2 91 (.bin (.gtr) (tm 90) (ci 59)) 89 false, o1 92 (.pick (tm 89) (cb true) (tm 91)), o1 93 (.move (tm 92)), o2 94 (.move (tm 9)) 93 false, o2 95 (.bin (.gtr) (tm 94) (ci 59)) 93 false, o1 96 (.pick (tm 93) (cb true) (tm 95))] [87, 95]) (.cond (tm 96) (.seq (rt [o1 97 (.build [.val (.int (.u8) 0), .val (.int (.i64) 0)] []), o3 (.store 2 (tm 2) (tm 97)), o1 3 (.move (ci 8))] [97, 97]) (.ret)) (.skip))) (.seq (rt [o1 98 (.move (tm 4)), o1 99 (.move (tm 5)), o1 100 (.bin (.mul) (tm 99) (ci 86400)), o1 101 (.move (tm 7)), o1 102 (.bin (.mul) (tm 101) (ci 3600)), o1 103 (.bin (.add) (tm 100) (tm 102)), o1 104 (.move (tm 8)), o1 105 (.bin (.mul) (tm 104) (ci 60)), o1 106 (.bin (.add) (tm 103) (tm 105)), o1 107 (.move (tm 9)), o1 108 (.bin (.add) (tm 106) (tm 107)), o1 109 (.build [.val (.int (.u8) 0), .val (.int (.i64) 0)] [(0, 1, tm 98), (1, 1, tm 108)]), o3 (.store 2 (tm 2) (tm 109)), o1 3 (.move (ci 0))] [98, 109]) (.ret))))))))))
def r_ref11_Parse : List VRes := [.cell 2 (some 2), .tmp 3]
theorem ok_ref11_Parse : FnOk Tryz.prog k_ref11_Parse c_ref11_Parse r_ref11_Parse 110 :=
 ⟨⟨Tryz.f159, _, Tryz.func159, by decide, rfl, by kernel_rfl, by kernel_rfl, by kernel_rfl, rfl⟩⟩

def c_moment_Check : VCode :=
 .seq (rt [o1 1 (.box (tm 0)), o1 2 (.move (ci 0))] []) (.seq (rt [o1 6 (.fieldAddr 0 (tm 1)), o1 7 (.load none (tm 6)), o1 8 (.fieldAddr 1 (tm 1)), o1 9 (.load none (tm 8)), o1 10 (.call k_moment_At [tm 7, tm 9]), o1 5 (.move (tm 10)), o1 11 (.extract (tm 5) 0), o1 12 (.extract (tm 5) 1), o1 3 (.alloc [.val (.int (.u8) 0), .val (.int (.i64) 0)]), o3 (.store 2 (tm 3) (tm 11)), o1 4 (.move (tm 12))] [5, 12]) (.seq (.seq (rt [o1 13 (.move (tm 4)), o1 14 (.bin (.neq) (tm 13) (ci 0))] [13, 13]) (.cond (tm 14) (.seq (rt [o1 15 (.move (tm 4)), o1 2 (.move (tm 15))] [15, 15]) (.ret)) (.skip))) (.seq (.seq (rt [o1 16 (.load (some 2) (tm 3)), o1 17 (.load (some 2) (tm 1)), o1 18 (.eqA true [.i, .i] (tm 16) (tm 17))] [16, 17]) (.cond (tm 18) (.seq (rt [o1 2 (.move (ci 2))] []) (.ret)) (.skip))) (.seq (rt [o1 2 (.move (ci 0))] []) (.ret)))))
def r_moment_Check : List VRes := [.tmp 2]
theorem ok_moment_Check : FnOk Tryz.prog k_moment_Check c_moment_Check r_moment_Check 19 :=
 ⟨⟨Tryz.f160, _, Tryz.func160, by decide, rfl, by kernel_rfl, by kernel_rfl, by kernel_rfl, rfl⟩⟩

def c_moment_Split : VCode :=
 .seq (rt [o1 1 (.box (tm 0)), o1 2 (.move (ci 0)), o1 3 (.move (ci 0))] []) (.seq (.seq (rt [o1 4 (.load (some 2) (tm 1)), o1 5 (.call k_moment_Check [tm 4]), o1 6 (.bin (.neq) (tm 5) (ci 0))] [4, 5]) (.cond (tm 6) (.seq (rt [o1 2 (.move (ci 0)), o1 3 (.move (ci 0))] []) (.ret)) (.skip))) (.seq (.region [o1 7 (.fieldAddr 1 (tm 1)), o1 8 (.load none (tm 7)), o1 9 (.bin (.quo) (tm 8) (ci 86400)), o1 10 (.fieldAddr 1 (tm 1)), o1 11 (.load none (tm 10)), o1 12 (.bin (.rem) (tm 11) (ci 86400)), o1 2 (.move (tm 9)), o1 3 (.move (tm 12))] (.calm) [7, 12]) (.ret)))
def r_moment_Split : List VRes := [.tmp 2, .tmp 3]
theorem ok_moment_Split : FnOk Tryz.prog k_moment_Split c_moment_Split r_moment_Split 13 :=
 ⟨⟨Tryz.f161, _, Tryz.func161, by decide, rfl, by kernel_rfl, by kernel_rfl, by kernel_rfl, rfl⟩⟩

def c_civil_Date : VCode :=
 .seq (rt [o1 2 (.move (ci 0)), o1 3 (.move (ci 0)), o1 4 (.move (ci 0)), o1 5 (.move (ci 0))] []) (.seq (.seq (rt [o1 9 (.move (tm 0)), o1 10 (.call k_civil_isDay [tm 9]), o1 11 (.un (.not) (tm 10))] [9, 10]) (.cond (tm 11) (.seq (rt [o1 2 (.move (ci 0)), o1 3 (.move (ci 0)), o1 4 (.move (ci 0)), o1 5 (.move (ci 8))] []) (.ret)) (.skip))) (.seq (rt [o1 13 (.move (tm 0)), o1 14 (.call k_civil_split [tm 13]), o1 12 (.move (tm 14)), o1 15 (.extract (tm 12) 0), o1 16 (.extract (tm 12) 1), o1 6 (.move (tm 15)), o1 7 (.move (tm 16))] [12, 16]) (.seq (rt [o1 17 (.move (tm 7)), o1 18 (.bin (.quo) (tm 17) (ci 32)), o1 19 (.bin (.add) (tm 18) (ci 1)), o1 8 (.move (tm 19))] [17, 19]) (.seq (.seq (rt [o1 20 (.move (tm 7)), o1 21 (.move (tm 6)), o1 22 (.move (tm 8)), o1 23 (.bin (.add) (tm 22) (ci 1)), o1 24 (.call k_civil_until [tm 21, tm 23]), o1 25 (.bin (.geq) (tm 20) (tm 24))] [20, 24]) (.cond (tm 25) (rt [o1 26 (.move (tm 8)), o1 27 (.bin (.add) (tm 26) (ci 1)), o1 8 (.move (tm 27))] [26, 27]) (.skip))) (.seq (rt [o1 28 (.move (tm 6)), o1 29 (.move (tm 8)), o1 30 (.move (tm 7)), o1 31 (.move (tm 6)), o1 32 (.move (tm 8)), o1 33 (.call k_civil_until [tm 31, tm 32]), o1 34 (.bin (.sub) (tm 30) (tm 33)), o1 35 (.bin (.add) (tm 34) (ci 1)), o1 2 (.move (tm 28)), o1 3 (.move (tm 29)), o1 4 (.move (tm 35)), o1 5 (.move (ci 0))] [28, 35]) (.ret))))))
def r_civil_Date : List VRes := [.tmp 2, .tmp 3, .tmp 4, .tmp 5]
theorem ok_civil_Date : FnOk Tryz.prog k_civil_Date c_civil_Date r_civil_Date 36 :=
 ⟨⟨Tryz.f162, _, Tryz.func162, by decide, rfl, by kernel_rfl, by kernel_rfl, by kernel_rfl, rfl⟩⟩

def c_moment_lay : VCode :=
 .cut (.seq (rt [o1 6 (.move (.const (.nils)))] []) (.seq (rt [o1 9 (.move (tm 0)), o1 10 (.lenV (tm 9)), o1 7 (.move (tm 10))] [9, 10]) (.seq (rt [o1 11 (.move (tm 0)), o1 12 (.move (tm 2)), o1 13 (.subS (cs [48, 48, 48, 48]) none (some (tm 12))), o1 14 (.appendS 5 1 (tm 11) (tm 13)), o1 0 (.move (tm 14))] [11, 14]) (.seq (.seq (rt [o1 15 (.move (tm 7)), o1 16 (.move (tm 2)), o1 17 (.bin (.add) (tm 15) (tm 16)), o1 18 (.bin (.sub) (tm 17) (ci 1)), o1 8 (.move (tm 18))] [15, 18]) (.block 0 (.loop (.seq (.seq (rt [o1 19 (.move (tm 8)), o1 20 (.move (tm 7)), o1 21 (.bin (.geq) (tm 19) (tm 20))] [19, 20]) (.cond (tm 21) (.skip) (.exit 0))) (.seq (.block 1 (.seq (rt [o1 24 (.move (tm 0)), o1 25 (.move (tm 8)), o1 26 (.move (tm 1)), o1 27 (.bin (.rem) (tm 26) (ci 10)), o1 28 (.convI (.u8) (tm 27)), o1 29 (.bin (.add) (cu 48) (tm 28)), o1 30 (.indexAddr 1 (tm 24) (tm 25)), o3 (.store 1 (tm 30) (tm 29))] [24, 30]) (rt [o1 31 (.move (tm 1)), o1 32 (.bin (.quo) (tm 31) (ci 10)), o1 1 (.move (tm 32))] [31, 32]))) (rt [o1 22 (.move (tm 8)), o1 23 (.bin (.sub) (tm 22) (ci 1)), o1 8 (.move (tm 23))] [22, 23])))))) (.seq (rt [o1 33 (.move (tm 0)), o1 6 (.move (tm 33))] [33, 33]) (.ret))))))
def r_moment_lay : List VRes := [.tmp 6]
theorem ok_moment_lay : FnOk Tryz.prog k_moment_lay c_moment_lay r_moment_lay 34 :=
 ⟨⟨Tryz.f163, _, Tryz.func163, by decide, rfl, by kernel_rfl, by kernel_rfl, by kernel_rfl, rfl⟩⟩

def c_ref11_Check : VCode :=
 .seq (rt [o1 1 (.box (tm 0)), o1 2 (.move (ci 0))] []) (.seq (.seq (rt [o1 3 (.fieldAddr 0 (tm 1)), o1 4 (.load none (tm 3)), o1 5 (.bin (.lss) (tm 4) (cu 1)), o1 6 (.move (tm 5)), o2 7 (.fieldAddr 0 (tm 1)) 6 false, o2 8 (.load none (tm 7)) 6 false, o2 9 (.bin (.gtr) (tm 8) (cu 3)) 6 false, o1 10 (.pick (tm 6) (cb true) (tm 9))] [3, 9]) (.cond (tm 10) (.seq (rt [o1 2 (.move (ci 11))] []) (.ret)) (.skip))) (.seq (.seq (rt [o1 11 (.fieldAddr 1 (tm 1)), o1 12 (.load none (tm 11)), o1 13 (.bin (.lss) (tm 12) (ci 0)), o1 14 (.move (tm 13)), o2 15 (.fieldAddr 1 (tm 1)) 14 false, o2 16 (.load none (tm 15)) 14 false, o2 17 (.bin (.gtr) (tm 16) (ci 315537897599)) 14 false, o1 18 (.pick (tm 14) (cb true) (tm 17))] [11, 17]) (.cond (tm 18) (.seq (rt [o1 2 (.move (ci 8))] []) (.ret)) (.skip))) (.seq (.seq (rt [o1 19 (.fieldAddr 0 (tm 1)), o1 20 (.load none (tm 19)), o1 21 (.bin (.eql) (tm 20) (cu 1)), o1 22 (.move (tm 21)), o2 23 (.fieldAddr 1 (tm 1)) 22 true, o2 24 (.load none (tm 23)) 22 true, o2 25 (.bin (.rem) (tm 24) (ci 86400)) 22 true, o2 26 (.bin (.neq) (tm 25) (ci 0)) 22 true, o1 27 (.pick (tm 22) (tm 26) (cb false))] [19, 26]) (.cond (tm 27) (.seq (rt [o1 2 (.move (ci 2))] []) (.ret)) (.skip))) (.seq (rt [o1 2 (.move (ci 0))] []) (.ret)))))
def r_ref11_Check : List VRes := [.tmp 2]
theorem ok_ref11_Check : FnOk Tryz.prog k_ref11_Check c_ref11_Check r_ref11_Check 28 :=
 ⟨⟨Tryz.f165, _, Tryz.func165, by decide, rfl, by kernel_rfl, by kernel_rfl, by kernel_rfl, rfl⟩⟩

def c_moment_form : VCode :=
 .seq (rt [o1 2 (.move (cu 0)), o1 3 (.move (cs [])), o1 4 (.move (cs [])), o1 5 (.move (cb false))] []) (.seq (.block 0 (.seq (rt [o1 7 (.move (tm 0)), o1 8 (.lenS (tm 7)), o1 9 (.bin (.eql) (tm 8) (ci 8)), o1 6 (.move (tm 9))] [7, 9]) (.cond (tm 6) (.seq (rt [o1 10 (.move (tm 0)), o1 2 (.move (cu 1)), o1 3 (.move (tm 10)), o1 4 (.move (cs [48, 48, 48, 48, 48, 48])), o1 5 (.move (cb true))] [10, 10]) (.ret)) (.seq (rt [o1 12 (.move (tm 0)), o1 13 (.lenS (tm 12)), o1 14 (.bin (.eql) (tm 13) (ci 15)), o1 15 (.move (tm 14)), o2 16 (.move (tm 0)) 15 true, o2 17 (.indexS (tm 16) (ci 8)) 15 true, o2 18 (.bin (.eql) (tm 17) (cu 84)) 15 true, o1 19 (.pick (tm 15) (tm 18) (cb false)), o1 11 (.move (tm 19))] [12, 19]) (.cond (tm 11) (.seq (.region [o1 20 (.move (tm 0)), o1 21 (.subS (tm 20) none (some (ci 8))), o1 22 (.move (tm 0)), o1 23 (.subS (tm 22) (some (ci 9)) none), o1 2 (.move (cu 2)), o1 3 (.move (tm 21)), o1 4 (.move (tm 23)), o1 5 (.move (cb true))] (.calm) [20, 23]) (.ret)) (.seq (rt [o1 25 (.move (tm 0)), o1 26 (.lenS (tm 25)), o1 27 (.bin (.eql) (tm 26) (ci 16)), o1 28 (.move (tm 27)), o2 29 (.move (tm 0)) 28 true, o2 30 (.indexS (tm 29) (ci 8)) 28 true, o2 31 (.bin (.eql) (tm 30) (cu 84)) 28 true, o1 32 (.pick (tm 28) (tm 31) (cb false)), o1 33 (.move (tm 32)), o2 34 (.move (tm 0)) 33 true, o2 35 (.indexS (tm 34) (ci 15)) 33 true, o2 36 (.bin (.eql) (tm 35) (cu 90)) 33 true, o1 37 (.pick (tm 33) (tm 36) (cb false)), o1 24 (.move (tm 37))] [25, 37]) (.cond (tm 24) (.seq (.region [o1 38 (.move (tm 0)), o1 39 (.subS (tm 38) none (some (ci 8))), o1 40 (.move (tm 0)), o1 41 (.subS (tm 40) (some (ci 9)) (some (ci 15))), o1 2 (.move (cu 3)), o1 3 (.move (tm 39)), o1 4 (.move (tm 41)), o1 5 (.move (cb true))] (.calm) [38, 41]) (.ret)) (.skip)))))))) (.seq (rt [o1 2 (.move (cu 0)), o1 3 (.move (cs [])), o1 4 (.move (cs [])), o1 5 (.move (cb false))] []) (.ret)))
def r_moment_form : List VRes := [.tmp 2, .tmp 3, .tmp 4, .tmp 5]
theorem ok_moment_form : FnOk Tryz.prog k_moment_form c_moment_form r_moment_form 42 :=
 ⟨⟨Tryz.f196, _, Tryz.func196, by decide, rfl, by kernel_rfl, by kernel_rfl, by kernel_rfl, rfl⟩⟩

def c_moment_fields : VCode :=
 .seq (rt [o1 4 (.move (.const (.nils))), o1 5 (.move (cb false))] []) (.seq (rt [o1 6 (.move (.const (.nils)))] []) (.seq (.seq (rt [o1 10 (.move (tm 1)), o1 11 (.lenV (tm 10)), o1 12 (.move (ci 0))] []) (.block 0 (.loop (.seq (rt [o1 13 (.bin (.lss) (tm 12) (tm 11))] []) (.seq (.cond (tm 13) (.skip) (.exit 0)) (.seq (.block 1 (.seq (rt [o1 14 (.indexAddr 1 (tm 10) (tm 12)), o1 15 (.load none (tm 14)), o1 8 (.move (tm 15))] [14, 15]) (.seq (rt [o1 9 (.move (ci 0))] []) (.seq (.block 2 (.loop (.seq (.seq (rt [o1 16 (.move (tm 8)), o1 17 (.bin (.gtr) (tm 16) (ci 0))] [16, 16]) (.cond (tm 17) (.skip) (.exit 2))) (.seq (.block 3 (.seq (.seq (rt [o1 20 (.move (tm 0)), o1 21 (.bin (.eql) (tm 20) (cs [])), o1 22 (.move (tm 21)), o2 23 (.move (tm 0)) 22 false, o2 24 (.indexS (tm 23) (ci 0)) 22 false, o2 25 (.bin (.lss) (tm 24) (cu 48)) 22 false, o1 26 (.pick (tm 22) (cb true) (tm 25)), o1 27 (.move (tm 26)), o2 28 (.move (tm 0)) 27 false, o2 29 (.indexS (tm 28) (ci 0)) 27 false, o2 30 (.bin (.gtr) (tm 29) (cu 57)) 27 false, o1 31 (.pick (tm 27) (cb true) (tm 30))] [20, 30]) (.cond (tm 31) (.seq (rt [o1 4 (.move (.const (.nils))), o1 5 (.move (cb false))] []) (.ret)) (.skip))) (.region [o1 32 (.move (tm 9)), o1 33 (.bin (.mul) (tm 32) (ci 10)), o1 34 (.move (tm 0)), o1 35 (.indexS (tm 34) (ci 0)), o1 36 (.bin (.sub) (tm 35) (cu 48)), o1 37 (.convI (.i64) (tm 36)), o1 38 (.bin (.add) (tm 33) (tm 37)), o1 39 (.move (tm 0)), o1 40 (.subS (tm 39) (some (ci 1)) none), o1 9 (.move (tm 38)), o1 0 (.move (tm 40))] (.calm) [32, 40]))) (rt [o1 18 (.move (tm 8)), o1 19 (.bin (.sub) (tm 18) (ci 1)), o1 8 (.move (tm 19))] [18, 19]))))) (rt [o1 41 (.move (tm 6)), o1 42 (.move (tm 9)), o1 43 (.buildSlice 1 1 [.val (.int (.i64) 0)] [(0, 1, tm 42)]), o1 44 (.append 3 1 8 (tm 41) (tm 43)), o1 6 (.move (tm 44))] [41, 44]))))) (rt [o1 45 (.bin (.add) (tm 12) (ci 1)), o1 12 (.move (tm 45))] [45, 45]))))))) (.seq (rt [o1 46 (.move (tm 6)), o1 47 (.move (tm 0)), o1 48 (.bin (.eql) (tm 47) (cs [])), o1 4 (.move (tm 46)), o1 5 (.move (tm 48))] [46, 48]) (.ret))))
def r_moment_fields : List VRes := [.tmp 4, .tmp 5]
theorem ok_moment_fields : FnOk Tryz.prog k_moment_fields c_moment_fields r_moment_fields 49 :=
 ⟨⟨Tryz.f197, _, Tryz.func197, by decide, rfl, by kernel_rfl, by kernel_rfl, by kernel_rfl, rfl⟩⟩

def c_civil_Day : VCode :=
 .seq (rt [o1 6 (.move (ci 0)), o1 7 (.move (ci 0))] []) (.seq (.seq (rt [o1 9 (.move (tm 2)), o1 10 (.bin (.lss) (tm 9) (ci 1)), o1 11 (.move (tm 10)), o2 12 (.move (tm 2)) 11 false, o2 13 (.move (tm 0)) 11 false, o2 14 (.move (tm 1)) 11 false, o2 15 (.call k_civil_Len [tm 13, tm 14]) 11 false, o2 16 (.bin (.gtr) (tm 12) (tm 15)) 11 false, o1 17 (.pick (tm 11) (cb true) (tm 16))] [9, 16]) (.cond (tm 17) (.seq (rt [o1 6 (.move (ci 0)), o1 7 (.move (ci 8))] []) (.ret)) (.skip))) (.seq (rt [o1 18 (.move (tm 0)), o1 19 (.bin (.sub) (tm 18) (ci 1)), o1 8 (.move (tm 19))] [18, 19]) (.seq (rt [o1 20 (.move (tm 8)), o1 21 (.bin (.mul) (tm 20) (ci 365)), o1 22 (.move (tm 8)), o1 23 (.bin (.quo) (tm 22) (ci 4)), o1 24 (.bin (.add) (tm 21) (tm 23)), o1 25 (.move (tm 8)), o1 26 (.bin (.quo) (tm 25) (ci 100)), o1 27 (.bin (.sub) (tm 24) (tm 26)), o1 28 (.move (tm 8)), o1 29 (.bin (.quo) (tm 28) (ci 400)), o1 30 (.bin (.add) (tm 27) (tm 29)), o1 31 (.move (tm 0)), o1 32 (.move (tm 1)), o1 33 (.call k_civil_until [tm 31, tm 32]), o1 34 (.bin (.add) (tm 30) (tm 33)), o1 35 (.move (tm 2)), o1 36 (.bin (.add) (tm 34) (tm 35)), o1 37 (.bin (.sub) (tm 36) (ci 1)), o1 6 (.move (tm 37)), o1 7 (.move (ci 0))] [20, 37]) (.ret))))
def r_civil_Day : List VRes := [.tmp 6, .tmp 7]
theorem ok_civil_Day : FnOk Tryz.prog k_civil_Day c_civil_Day r_civil_Day 38 :=
 ⟨⟨Tryz.f198, _, Tryz.func198, by decide, rfl, by kernel_rfl, by kernel_rfl, by kernel_rfl, rfl⟩⟩

def c_ref11_digits : VCode :=
 .seq (rt [o1 2 (.move (cb false))] []) (.seq (.seq (rt [o1 3 (.move (ci 0))] []) (.block 0 (.loop (.seq (.seq (rt [o1 4 (.move (tm 3)), o1 5 (.move (tm 0)), o1 6 (.lenS (tm 5)), o1 7 (.bin (.lss) (tm 4) (tm 6))] [4, 6]) (.cond (tm 7) (.skip) (.exit 0))) (.seq (.block 1 (.seq (rt [o1 10 (.move (tm 0)), o1 11 (.move (tm 3)), o1 12 (.indexS (tm 10) (tm 11)), o1 13 (.bin (.lss) (tm 12) (cu 48)), o1 14 (.move (tm 13)), o2 15 (.move (tm 0)) 14 false, o2 16 (.move (tm 3)) 14 false, o2 17 (.indexS (tm 15) (tm 16)) 14 false, o2 18 (.bin (.gtr) (tm 17) (cu 57)) 14 false, o1 19 (.pick (tm 14) (cb true) (tm 18))] [10, 18]) (.cond (tm 19) (.seq (rt [o1 2 (.move (cb false))] []) (.ret)) (.skip)))) (rt [o1 8 (.move (tm 3)), o1 9 (.bin (.add) (tm 8) (ci 1)), o1 3 (.move (tm 9))] [8, 9])))))) (.seq (rt [o1 2 (.move (cb true))] []) (.ret)))
def r_ref11_digits : List VRes := [.tmp 2]
theorem ok_ref11_digits : FnOk Tryz.prog k_ref11_digits c_ref11_digits r_ref11_digits 20 :=
 ⟨⟨Tryz.f199, _, Tryz.func199, by decide, rfl, by kernel_rfl, by kernel_rfl, by kernel_rfl, rfl⟩⟩

def c_ref09_Day : VCode :=
 .seq (rt [o1 6 (.move (ci 0)), o1 7 (.move (ci 0))] []) (.seq (.seq (rt [o1 10 (.move (tm 2)), o1 11 (.bin (.lss) (tm 10) (ci 1)), o1 12 (.move (tm 11)), o2 13 (.move (tm 2)) 12 false, o2 14 (.move (tm 0)) 12 false, o2 15 (.move (tm 1)) 12 false, o2 16 (.call k_ref09_Len [tm 14, tm 15]) 12 false, o2 17 (.bin (.gtr) (tm 13) (tm 16)) 12 false, o1 18 (.pick (tm 12) (cb true) (tm 17))] [10, 17]) (.cond (tm 18) (.seq (rt [o1 6 (.move (ci 0)), o1 7 (.move (ci 8))] []) (.ret)) (.skip))) (.seq (rt [o1 19 (.move (tm 0)), o1 20 (.call k_ref09_ahead [tm 19]), o1 21 (.move (tm 2)), o1 22 (.bin (.add) (tm 20) (tm 21)), o1 23 (.bin (.sub) (tm 22) (ci 1)), o1 8 (.move (tm 23))] [19, 23]) (.seq (.seq (rt [o1 9 (.move (ci 1))] []) (.block 0 (.loop (.seq (.seq (rt [o1 24 (.move (tm 9)), o1 25 (.move (tm 1)), o1 26 (.bin (.lss) (tm 24) (tm 25))] [24, 25]) (.cond (tm 26) (.skip) (.exit 0))) (.seq (.block 1 (rt [o1 29 (.move (tm 8)), o1 30 (.move (tm 0)), o1 31 (.move (tm 9)), o1 32 (.call k_ref09_Len [tm 30, tm 31]), o1 33 (.bin (.add) (tm 29) (tm 32)), o1 8 (.move (tm 33))] [29, 33])) (rt [o1 27 (.move (tm 9)), o1 28 (.bin (.add) (tm 27) (ci 1)), o1 9 (.move (tm 28))] [27, 28])))))) (.seq (rt [o1 34 (.move (tm 8)), o1 6 (.move (tm 34)), o1 7 (.move (ci 0))] [34, 34]) (.ret)))))
def r_ref09_Day : List VRes := [.tmp 6, .tmp 7]
theorem ok_ref09_Day : FnOk Tryz.prog k_ref09_Day c_ref09_Day r_ref09_Day 35 :=
 ⟨⟨Tryz.f200, _, Tryz.func200, by decide, rfl, by kernel_rfl, by kernel_rfl, by kernel_rfl, rfl⟩⟩

def c_ref11_number : VCode :=
 .seq (rt [o1 2 (.move (ci 0))] []) (.seq (rt [o1 3 (.move (ci 0))] []) (.seq (.seq (rt [o1 4 (.move (ci 0))] []) (.block 0 (.loop (.seq (.seq (rt [o1 5 (.move (tm 4)), o1 6 (.move (tm 0)), o1 7 (.lenS (tm 6)), o1 8 (.bin (.lss) (tm 5) (tm 7))] [5, 7]) (.cond (tm 8) (.skip) (.exit 0))) (.seq (.block 1 (rt [o1 11 (.move (tm 3)), o1 12 (.bin (.mul) (tm 11) (ci 10)), o1 13 (.move (tm 0)), o1 14 (.move (tm 4)), o1 15 (.indexS (tm 13) (tm 14)), o1 16 (.bin (.sub) (tm 15) (cu 48)), o1 17 (.convI (.i64) (tm 16)), o1 18 (.bin (.add) (tm 12) (tm 17)), o1 3 (.move (tm 18))] [11, 18])) (rt [o1 9 (.move (tm 4)), o1 10 (.bin (.add) (tm 9) (ci 1)), o1 4 (.move (tm 10))] [9, 10])))))) (.seq (rt [o1 19 (.move (tm 3)), o1 2 (.move (tm 19))] [19, 19]) (.ret))))
def r_ref11_number : List VRes := [.tmp 2]
theorem ok_ref11_number : FnOk Tryz.prog k_ref11_number c_ref11_number r_ref11_number 20 :=
 ⟨⟨Tryz.f201, _, Tryz.func201, by decide, rfl, by kernel_rfl, by kernel_rfl, by kernel_rfl, rfl⟩⟩

def c_moment_At : VCode :=
 .seq (rt [o1 4 (.alloc [.val (.int (.u8) 0), .val (.int (.i64) 0)]), o1 5 (.move (ci 0))] []) (.seq (.seq (rt [o1 7 (.move (tm 0)), o1 8 (.move (tm 1)), o1 9 (.call k_moment_sound [tm 7, tm 8]), o1 6 (.move (tm 9))] [7, 9]) (.seq (rt [o1 10 (.move (tm 6)), o1 11 (.bin (.neq) (tm 10) (ci 0))] [10, 10]) (.cond (tm 11) (.seq (rt [o1 12 (.build [.val (.int (.u8) 0), .val (.int (.i64) 0)] []), o1 13 (.move (tm 6)), o3 (.store 2 (tm 4) (tm 12)), o1 5 (.move (tm 13))] [12, 13]) (.ret)) (.skip)))) (.seq (.seq (rt [o1 14 (.move (tm 0)), o1 15 (.bin (.eql) (tm 14) (cu 1))] [14, 14]) (.cond (tm 15) (rt [o1 16 (.move (tm 1)), o1 17 (.move (tm 1)), o1 18 (.bin (.rem) (tm 17) (ci 86400)), o1 19 (.bin (.sub) (tm 16) (tm 18)), o1 1 (.move (tm 19))] [16, 19]) (.skip))) (.seq (rt [o1 20 (.move (tm 0)), o1 21 (.move (tm 1)), o1 22 (.build [.val (.int (.u8) 0), .val (.int (.i64) 0)] [(0, 1, tm 20), (1, 1, tm 21)]), o3 (.store 2 (tm 4) (tm 22)), o1 5 (.move (ci 0))] [20, 22]) (.ret))))
def r_moment_At : List VRes := [.cell 4 (some 2), .tmp 5]
theorem ok_moment_At : FnOk Tryz.prog k_moment_At c_moment_At r_moment_At 23 :=
 ⟨⟨Tryz.f202, _, Tryz.func202, by decide, rfl, by kernel_rfl, by kernel_rfl, by kernel_rfl, rfl⟩⟩

def c_civil_isDay : VCode :=
 .seq (rt [o1 2 (.move (cb false))] []) (.seq (rt [o1 3 (.move (tm 0)), o1 4 (.bin (.geq) (tm 3) (ci 0)), o1 5 (.move (tm 4)), o2 6 (.move (tm 0)) 5 true, o2 7 (.bin (.leq) (tm 6) (ci 3652058)) 5 true, o1 8 (.pick (tm 5) (tm 7) (cb false)), o1 2 (.move (tm 8))] [3, 8]) (.ret))
def r_civil_isDay : List VRes := [.tmp 2]
theorem ok_civil_isDay : FnOk Tryz.prog k_civil_isDay c_civil_isDay r_civil_isDay 9 :=
 ⟨⟨Tryz.f203, _, Tryz.func203, by decide, rfl, by kernel_rfl, by kernel_rfl, by kernel_rfl, rfl⟩⟩

def c_civil_split : VCode :=
 .seq (rt [o1 2 (.move (ci 0)), o1 3 (.move (ci 0))] []) (.seq (rt [o1 8 (.move (tm 0)), o1 9 (.bin (.quo) (tm 8) (ci 146097)), o1 10 (.bin (.mul) (tm 9) (ci 400)), o1 11 (.bin (.add) (ci 1) (tm 10)), o1 4 (.move (tm 11))] [8, 11]) (.seq (rt [o1 12 (.move (tm 0)), o1 13 (.bin (.rem) (tm 12) (ci 146097)), o1 0 (.move (tm 13))] [12, 13]) (.seq (rt [o1 14 (.move (tm 0)), o1 15 (.bin (.quo) (tm 14) (ci 36524)), o1 16 (.minI (tm 15) (ci 3)), o1 5 (.move (tm 16))] [14, 16]) (.seq (rt [o1 17 (.move (tm 0)), o1 18 (.move (tm 5)), o1 19 (.bin (.mul) (tm 18) (ci 36524)), o1 20 (.bin (.sub) (tm 17) (tm 19)), o1 0 (.move (tm 20))] [17, 20]) (.seq (rt [o1 21 (.move (tm 0)), o1 22 (.bin (.quo) (tm 21) (ci 1461)), o1 6 (.move (tm 22))] [21, 22]) (.seq (rt [o1 23 (.move (tm 0)), o1 24 (.bin (.rem) (tm 23) (ci 1461)), o1 0 (.move (tm 24))] [23, 24]) (.seq (rt [o1 25 (.move (tm 0)), o1 26 (.bin (.quo) (tm 25) (ci 365)), o1 27 (.minI (tm 26) (ci 3)), o1 7 (.move (tm 27))] [25, 27]) (.seq (rt [o1 28 (.move (tm 4)), o1 29 (.move (tm 5)), o1 30 (.bin (.mul) (ci 100) (tm 29)), o1 31 (.bin (.add) (tm 28) (tm 30)), o1 32 (.move (tm 6)), o1 33 (.bin (.mul) (ci 4) (tm 32)), o1 34 (.bin (.add) (tm 31) (tm 33)), o1 35 (.move (tm 7)), o1 36 (.bin (.add) (tm 34) (tm 35)), o1 37 (.move (tm 0)), o1 38 (.move (tm 7)), o1 39 (.bin (.mul) (tm 38) (ci 365)), o1 40 (.bin (.sub) (tm 37) (tm 39)), o1 2 (.move (tm 36)), o1 3 (.move (tm 40))] [28, 40]) (.ret)))))))))
def r_civil_split : List VRes := [.tmp 2, .tmp 3]
theorem ok_civil_split : FnOk Tryz.prog k_civil_split c_civil_split r_civil_split 41 :=
 ⟨⟨Tryz.f204, _, Tryz.func204, by decide, rfl, by kernel_rfl, by kernel_rfl, by kernel_rfl, rfl⟩⟩

def c_civil_until : VCode :=
 .seq (rt [o1 4 (.move (ci 0))] []) (.seq (rt [o1 6 (.move (tm 1)), o1 7 (.bin (.sub) (tm 6) (ci 1)), o1 8 (.indexArr 13 1 (.glob 2) (tm 7)), o1 9 (.load none (tm 8)), o1 5 (.move (tm 9))] [6, 9]) (.seq (.seq (rt [o1 10 (.move (tm 1)), o1 11 (.bin (.gtr) (tm 10) (ci 2)), o1 12 (.move (tm 11)), o2 13 (.move (tm 0)) 12 true, o2 14 (.call k_civil_Leap [tm 13]) 12 true, o1 15 (.pick (tm 12) (tm 14) (cb false))] [10, 14]) (.cond (tm 15) (rt [o1 16 (.move (tm 5)), o1 17 (.bin (.add) (tm 16) (ci 1)), o1 5 (.move (tm 17))] [16, 17]) (.skip))) (.seq (rt [o1 18 (.move (tm 5)), o1 4 (.move (tm 18))] [18, 18]) (.ret))))
def r_civil_until : List VRes := [.tmp 4]
theorem ok_civil_until : FnOk Tryz.prog k_civil_until c_civil_until r_civil_until 19 :=
 ⟨⟨Tryz.f205, _, Tryz.func205, by decide, rfl, by kernel_rfl, by kernel_rfl, by kernel_rfl, rfl⟩⟩

def c_ref09_ahead : VCode :=
 .seq (rt [o1 2 (.move (ci 0))] []) (.seq (rt [o1 4 (.move (tm 0)), o1 5 (.bin (.sub) (tm 4) (ci 1)), o1 3 (.move (tm 5))] [4, 5]) (.seq (rt [o1 6 (.move (tm 3)), o1 7 (.bin (.mul) (tm 6) (ci 365)), o1 8 (.move (tm 3)), o1 9 (.bin (.quo) (tm 8) (ci 4)), o1 10 (.bin (.add) (tm 7) (tm 9)), o1 11 (.move (tm 3)), o1 12 (.bin (.quo) (tm 11) (ci 100)), o1 13 (.bin (.sub) (tm 10) (tm 12)), o1 14 (.move (tm 3)), o1 15 (.bin (.quo) (tm 14) (ci 400)), o1 16 (.bin (.add) (tm 13) (tm 15)), o1 2 (.move (tm 16))] [6, 16]) (.ret)))
def r_ref09_ahead : List VRes := [.tmp 2]
theorem ok_ref09_ahead : FnOk Tryz.prog k_ref09_ahead c_ref09_ahead r_ref09_ahead 17 :=
 ⟨⟨Tryz.f207, _, Tryz.func207, by decide, rfl, by kernel_rfl, by kernel_rfl, by kernel_rfl, rfl⟩⟩

def c_ref09_Len : VCode :=
 .seq (rt [o1 4 (.move (ci 0))] []) (.seq (.seq (rt [o1 5 (.move (tm 0)), o1 6 (.call k_ref09_Days [tm 5]), o1 7 (.bin (.eql) (tm 6) (ci 0)), o1 8 (.move (tm 7)), o2 9 (.move (tm 1)) 8 false, o2 10 (.bin (.lss) (tm 9) (ci 1)) 8 false, o1 11 (.pick (tm 8) (cb true) (tm 10)), o1 12 (.move (tm 11)), o2 13 (.move (tm 1)) 12 false, o2 14 (.bin (.gtr) (tm 13) (ci 12)) 12 false, o1 15 (.pick (tm 12) (cb true) (tm 14))] [5, 14]) (.cond (tm 15) (.seq (rt [o1 4 (.move (ci 0))] []) (.ret)) (.skip))) (.seq (.seq (rt [o1 16 (.move (tm 1)), o1 17 (.bin (.eql) (tm 16) (ci 2))] [16, 16]) (.cond (tm 17) (.seq (rt [o1 18 (.move (tm 0)), o1 19 (.call k_ref09_Days [tm 18]), o1 20 (.bin (.sub) (tm 19) (ci 337)), o1 4 (.move (tm 20))] [18, 20]) (.ret)) (.skip))) (.seq (.seq (rt [o1 21 (.move (tm 1)), o1 22 (.bin (.eql) (tm 21) (ci 4)), o1 23 (.move (tm 22)), o2 24 (.move (tm 1)) 23 false, o2 25 (.bin (.eql) (tm 24) (ci 6)) 23 false, o1 26 (.pick (tm 23) (cb true) (tm 25)), o1 27 (.move (tm 26)), o2 28 (.move (tm 1)) 27 false, o2 29 (.bin (.eql) (tm 28) (ci 9)) 27 false, o1 30 (.pick (tm 27) (cb true) (tm 29)), o1 31 (.move (tm 30)), o2 32 (.move (tm 1)) 31 false, o2 33 (.bin (.eql) (tm 32) (ci 11)) 31 false, o1 34 (.pick (tm 31) (cb true) (tm 33))] [21, 33]) (.cond (tm 34) (.seq (rt [o1 4 (.move (ci 30))] []) (.ret)) (.skip))) (.seq (rt [o1 4 (.move (ci 31))] []) (.ret)))))
def r_ref09_Len : List VRes := [.tmp 4]
theorem ok_ref09_Len : FnOk Tryz.prog k_ref09_Len c_ref09_Len r_ref09_Len 35 :=
 ⟨⟨Tryz.f208, _, Tryz.func208, by decide, rfl, by kernel_rfl, by kernel_rfl, by kernel_rfl, rfl⟩⟩

def c_civil_Len : VCode :=
 .seq (rt [o1 4 (.move (ci 0))] []) (.seq (.seq (rt [o1 5 (.move (tm 0)), o1 6 (.call k_civil_isYear [tm 5]), o1 7 (.un (.not) (tm 6)), o1 8 (.move (tm 7)), o2 9 (.move (tm 1)) 8 false, o2 10 (.bin (.lss) (tm 9) (ci 1)) 8 false, o1 11 (.pick (tm 8) (cb true) (tm 10)), o1 12 (.move (tm 11)), o2 13 (.move (tm 1)) 12 false, o2 14 (.bin (.gtr) (tm 13) (ci 12)) 12 false, o1 15 (.pick (tm 12) (cb true) (tm 14))] [5, 14]) (.cond (tm 15) (.seq (rt [o1 4 (.move (ci 0))] []) (.ret)) (.skip))) (.seq (rt [o1 16 (.move (tm 0)), o1 17 (.move (tm 1)), o1 18 (.bin (.add) (tm 17) (ci 1)), o1 19 (.call k_civil_until [tm 16, tm 18]), o1 20 (.move (tm 0)), o1 21 (.move (tm 1)), o1 22 (.call k_civil_until [tm 20, tm 21]), o1 23 (.bin (.sub) (tm 19) (tm 22)), o1 4 (.move (tm 23))] [16, 23]) (.ret)))
def r_civil_Len : List VRes := [.tmp 4]
theorem ok_civil_Len : FnOk Tryz.prog k_civil_Len c_civil_Len r_civil_Len 24 :=
 ⟨⟨Tryz.f230, _, Tryz.func230, by decide, rfl, by kernel_rfl, by kernel_rfl, by kernel_rfl, rfl⟩⟩

def c_moment_sound : VCode :=
 .seq (rt [o1 4 (.move (ci 0))] []) (.seq (.seq (rt [o1 5 (.move (tm 0)), o1 6 (.bin (.eql) (tm 5) (cu 0)), o1 7 (.move (tm 6)), o2 8 (.move (tm 0)) 7 false, o2 9 (.bin (.gtr) (tm 8) (cu 3)) 7 false, o1 10 (.pick (tm 7) (cb true) (tm 9))] [5, 9]) (.cond (tm 10) (.seq (rt [o1 4 (.move (ci 11))] []) (.ret)) (.skip))) (.seq (.seq (rt [o1 11 (.move (tm 1)), o1 12 (.bin (.lss) (tm 11) (ci 0)), o1 13 (.move (tm 12)), o2 14 (.move (tm 1)) 13 false, o2 15 (.bin (.gtr) (tm 14) (ci 315537897599)) 13 false, o1 16 (.pick (tm 13) (cb true) (tm 15))] [11, 15]) (.cond (tm 16) (.seq (rt [o1 4 (.move (ci 8))] []) (.ret)) (.skip))) (.seq (rt [o1 4 (.move (ci 0))] []) (.ret))))
def r_moment_sound : List VRes := [.tmp 4]
theorem ok_moment_sound : FnOk Tryz.prog k_moment_sound c_moment_sound r_moment_sound 17 :=
 ⟨⟨Tryz.f231, _, Tryz.func231, by decide, rfl, by kernel_rfl, by kernel_rfl, by kernel_rfl, rfl⟩⟩

def c_civil_Leap : VCode :=
 .seq (rt [o1 2 (.move (cb false))] []) (.seq (rt [o1 3 (.move (tm 0)), o1 4 (.call k_civil_isYear [tm 3]), o1 5 (.move (tm 4)), o2 6 (.move (tm 0)) 5 true, o2 7 (.bin (.rem) (tm 6) (ci 4)) 5 true, o2 8 (.bin (.eql) (tm 7) (ci 0)) 5 true, o1 9 (.pick (tm 5) (tm 8) (cb false)), o1 10 (.move (tm 9)), o2 11 (.move (tm 0)) 10 true, o2 12 (.bin (.rem) (tm 11) (ci 100)) 10 true, o2 13 (.bin (.neq) (tm 12) (ci 0)) 10 true, o2 14 (.move (tm 13)) 10 true, o2 15 (.move (tm 0)) 14 false, o2 16 (.bin (.rem) (tm 15) (ci 400)) 14 false, o2 17 (.bin (.eql) (tm 16) (ci 0)) 14 false, o2 18 (.pick (tm 14) (cb true) (tm 17)) 10 true, o1 19 (.pick (tm 10) (tm 18) (cb false)), o1 2 (.move (tm 19))] [3, 19]) (.ret))
def r_civil_Leap : List VRes := [.tmp 2]
theorem ok_civil_Leap : FnOk Tryz.prog k_civil_Leap c_civil_Leap r_civil_Leap 20 :=
 ⟨⟨Tryz.f232, _, Tryz.func232, by decide, rfl, by kernel_rfl, by kernel_rfl, by kernel_rfl, rfl⟩⟩

def c_ref09_Days : VCode :=
 .seq (rt [o1 2 (.move (ci 0))] []) (.seq (.seq (rt [o1 3 (.move (tm 0)), o1 4 (.bin (.lss) (tm 3) (ci 1)), o1 5 (.move (tm 4)), o2 6 (.move (tm 0)) 5 false, o2 7 (.bin (.gtr) (tm 6) (ci 9999)) 5 false, o1 8 (.pick (tm 5) (cb true) (tm 7))] [3, 7]) (.cond (tm 8) (.seq (rt [o1 2 (.move (ci 0))] []) (.ret)) (.skip))) (.seq (.seq (rt [o1 9 (.move (tm 0)), o1 10 (.call k_ref09_Leap [tm 9])] [9, 9]) (.cond (tm 10) (.seq (rt [o1 2 (.move (ci 366))] []) (.ret)) (.skip))) (.seq (rt [o1 2 (.move (ci 365))] []) (.ret))))
def r_ref09_Days : List VRes := [.tmp 2]
theorem ok_ref09_Days : FnOk Tryz.prog k_ref09_Days c_ref09_Days r_ref09_Days 11 :=
 ⟨⟨Tryz.f234, _, Tryz.func234, by decide, rfl, by kernel_rfl, by kernel_rfl, by kernel_rfl, rfl⟩⟩

def c_civil_isYear : VCode :=
 .seq (rt [o1 2 (.move (cb false))] []) (.seq (rt [o1 3 (.move (tm 0)), o1 4 (.bin (.geq) (tm 3) (ci 1)), o1 5 (.move (tm 4)), o2 6 (.move (tm 0)) 5 true, o2 7 (.bin (.leq) (tm 6) (ci 9999)) 5 true, o1 8 (.pick (tm 5) (tm 7) (cb false)), o1 2 (.move (tm 8))] [3, 8]) (.ret))
def r_civil_isYear : List VRes := [.tmp 2]
theorem ok_civil_isYear : FnOk Tryz.prog k_civil_isYear c_civil_isYear r_civil_isYear 9 :=
 ⟨⟨Tryz.f245, _, Tryz.func245, by decide, rfl, by kernel_rfl, by kernel_rfl, by kernel_rfl, rfl⟩⟩

def c_ref09_Leap : VCode :=
 .seq (rt [o1 2 (.move (cb false))] []) (.seq (rt [o1 3 (.move (tm 0)), o1 4 (.bin (.geq) (tm 3) (ci 1)), o1 5 (.move (tm 4)), o2 6 (.move (tm 0)) 5 true, o2 7 (.bin (.leq) (tm 6) (ci 9999)) 5 true, o1 8 (.pick (tm 5) (tm 7) (cb false)), o1 9 (.move (tm 8)), o2 10 (.move (tm 0)) 9 true, o2 11 (.bin (.rem) (tm 10) (ci 4)) 9 true, o2 12 (.bin (.eql) (tm 11) (ci 0)) 9 true, o2 13 (.move (tm 12)) 9 true, o2 14 (.move (tm 0)) 13 true, o2 15 (.bin (.rem) (tm 14) (ci 100)) 13 true, o2 16 (.bin (.neq) (tm 15) (ci 0)) 13 true, o2 17 (.pick (tm 13) (tm 16) (cb false)) 9 true, o2 18 (.move (tm 17)) 9 true, o2 19 (.move (tm 0)) 18 false, o2 20 (.bin (.rem) (tm 19) (ci 400)) 18 false, o2 21 (.bin (.eql) (tm 20) (ci 0)) 18 false, o2 22 (.pick (tm 18) (cb true) (tm 21)) 9 true, o1 23 (.pick (tm 9) (tm 22) (cb false)), o1 2 (.move (tm 23))] [3, 23]) (.ret))
def r_ref09_Leap : List VRes := [.tmp 2]
theorem ok_ref09_Leap : FnOk Tryz.prog k_ref09_Leap c_ref09_Leap r_ref09_Leap 24 :=
 ⟨⟨Tryz.f246, _, Tryz.func246, by decide, rfl, by kernel_rfl, by kernel_rfl, by kernel_rfl, rfl⟩⟩

end Go.Vs.YtbchceojmblkkaaGreatDoor
namespace Go.Vs.YtbchceojmblkkaaGreatDoor.Rc
set_option linter.unusedSimpArgs false
set_option linter.unusedVariables false
open Go.Proofs Go.Vs.Cv
set_option maxRecDepth 100000
set_option maxHeartbeats 8000000
def yr (y : Nat) : Bool := decide (1 ≤ y ∧ y ≤ 9999)
theorem yr_yes {y : Nat} (h : 1 ≤ y ∧ y ≤ 9999) : yr y = true := by simp [yr]; omega
theorem yr_no {y : Nat} (h : ¬ (1 ≤ y ∧ y ≤ 9999)) : yr y = false := by simp [yr]; omega
theorem fn_isYear (y : Nat) (h : y < 1000000) : Fn G2 Tryz.prog k_civil_isYear [.int .i64 y] (.bool (yr y)) := by
 refine fn_intro hm ok_civil_isYear (by simp) ?_
 simp [c_civil_isYear, r_civil_isYear]
 by_cases h1 : 1 ≤ y
 ·by_cases h2 : y ≤ 9999
  ·rw [yr_yes ⟨h1, h2⟩]
   simp (disch := omega) [wl]
   omega
  ·rw [yr_no (by omega)]
   simp (disch := omega) [wl]
   omega
 ·rw [yr_no (by omega)]
  simp (disch := omega) [wl]
theorem tm4 (y k : Nat) (hk : 0 < k) : (y : Int).tmod (k : Int) = ((y % k : Nat) : Int) := by
 rw [Int.tmod_eq_emod_of_nonneg (by omega)]
 exact (Int.natCast_emod y k).symm
theorem td4 (y k : Nat) (hk : 0 < k) : (y : Int).tdiv (k : Int) = ((y / k : Nat) : Int) := by
 rw [Int.tdiv_eq_ediv_of_nonneg (by omega)]
 exact (Int.natCast_ediv y k).symm
theorem fn_Leap (y : Nat) (h : y < 1000000) : Fn G2 Tryz.prog k_civil_Leap [.int .i64 y] (.bool (yr y && leap y)) := by
 refine fn_intro hm ok_civil_Leap (by simp) ?_
 have hY := fn_isYear y h
 have e1 : (y : Int).tmod 4 = ((y % 4 : Nat) : Int) := tm4 y 4 (by omega)
 have e2 : (y : Int).tmod 100 = ((y % 100 : Nat) : Int) := tm4 y 100 (by omega)
 have e3 : (y : Int).tmod 400 = ((y % 400 : Nat) : Int) := tm4 y 400 (by omega)
 obtain ⟨a, ha⟩ : ∃ a, y % 4 = a := ⟨_, rfl⟩
 obtain ⟨b, hb⟩ : ∃ b, y % 100 = b := ⟨_, rfl⟩
 obtain ⟨c, hc⟩ : ∃ c, y % 400 = c := ⟨_, rfl⟩
 have hac : c = 0 → a = 0 := by omega
 have hl : leap y = ((decide (a = 0) && decide (b ≠ 0)) || decide (c = 0)) := by unfold leap; rw [ha, hb, hc]
 rw [ha] at e1; rw [hb] at e2; rw [hc] at e3
 rw [hl]
 simp [c_civil_Leap, r_civil_Leap]
 refine callW_imm hY ?_
 cases hy : yr y with
 | false => simp (disch := omega) [wl]
 | true =>
  by_cases q1 : a = 0
  ·by_cases q2 : b = 0
   ·by_cases q3 : c = 0
    ·simp (disch := omega) [wl, e1, e2, e3, q1, q2, q3]
    ·simp (disch := omega) [wl, e1, e2, e3, q1, q2, q3]
   ·simp (disch := omega) [wl, e1, e2, e3, q1, q2]
  ·have q3 : ¬ c = 0 := fun e => q1 (hac e)
   simp (disch := omega) [wl, e1, e2, e3, q1, q3]
theorem fn_rLeap (y : Nat) (h : y < 1000000) : Fn G2 Tryz.prog k_ref09_Leap [.int .i64 y] (.bool (yr y && leap y)) := by
 refine fn_intro hm ok_ref09_Leap (by simp) ?_
 have e1 : (y : Int).tmod 4 = ((y % 4 : Nat) : Int) := tm4 y 4 (by omega)
 have e2 : (y : Int).tmod 100 = ((y % 100 : Nat) : Int) := tm4 y 100 (by omega)
 have e3 : (y : Int).tmod 400 = ((y % 400 : Nat) : Int) := tm4 y 400 (by omega)
 obtain ⟨a, ha⟩ : ∃ a, y % 4 = a := ⟨_, rfl⟩
 obtain ⟨b, hb⟩ : ∃ b, y % 100 = b := ⟨_, rfl⟩
 obtain ⟨c, hc⟩ : ∃ c, y % 400 = c := ⟨_, rfl⟩
 have hl : leap y = ((decide (a = 0) && decide (b ≠ 0)) || decide (c = 0)) := by unfold leap; rw [ha, hb, hc]
 rw [ha] at e1; rw [hb] at e2; rw [hc] at e3
 rw [hl]
 simp [c_ref09_Leap, r_ref09_Leap]
 by_cases h1 : 1 ≤ y
 ·by_cases h2 : y ≤ 9999
  ·rw [yr_yes ⟨h1, h2⟩]
   by_cases q1 : a = 0
   ·by_cases q2 : b = 0
    ·by_cases q3 : c = 0
     ·simp (disch := omega) [wl, e1, e2, e3, q1, q2, q3]
     ·simp (disch := omega) [wl, e1, e2, e3, q1, q2, q3]
    ·simp (disch := omega) [wl, e1, e2, e3, q1, q2]
   ·by_cases q3 : c = 0
    ·simp (disch := omega) [wl, e1, e2, e3, q1, q3]
    ·simp (disch := omega) [wl, e1, e2, e3, q1, q3]
  ·rw [yr_no (by omega)]
   simp (disch := omega) [wl]
 ·rw [yr_no (by omega)]
  simp (disch := omega) [wl]
theorem fn_until (y m : Nat) (hy : 1 ≤ y ∧ y ≤ 9999) (h1 : 1 ≤ m) (h2 : m ≤ 13) : Fn G2 Tryz.prog k_civil_until [.int .i64 y, .int .i64 m] (.int .i64 (upTo y m : Nat)) := by
 refine fn_intro hm ok_civil_until (by simp) ?_
 have hL := fn_Leap y (by omega)
 rw [yr_yes hy, Bool.true_and] at hL
 obtain ⟨r, hr⟩ := bef_drop h1 h2
 have hb : befZ.getD (m - 1) 0 = ((before m : Nat) : Int) := by
  have : m = 1 ∨ m = 2 ∨ m = 3 ∨ m = 4 ∨ m = 5 ∨ m = 6 ∨ m = 7 ∨ m = 8 ∨ m = 9 ∨ m = 10 ∨ m = 11 ∨ m = 12 ∨ m = 13 := by omega
  rcases this with rfl | rfl | rfl | rfl | rfl | rfl | rfl | rfl | rfl | rfl | rfl | rfl | rfl <;> rfl
 have hbl : before m ≤ 365 := by
  unfold before; split <;> omega
 rw [hb] at hr
 have e0 : ((m : Int) - 1).toNat = m - 1 := by omega
 have e1 : (0 : Int) ≤ (m : Int) - 1 := by omega
 obtain ⟨B, hB⟩ : ∃ B, before m = B := ⟨_, rfl⟩
 rw [hB] at hr hbl
 simp [c_civil_until, r_civil_until, G2]
 by_cases q1 : 2 < m
 ·cases q2 : leap y with
  | true =>
   have hU : upTo y m = B + 1 := by unfold upTo; rw [hB, if_pos ⟨q1, q2⟩]
   rw [q2] at hL
   rw [hU]
   simp (disch := omega) [wl, e0, e1, hr]
   refine ⟨by omega, ?_⟩
   refine callW_imm hL ?_
   simp (disch := omega) [wl]
  | false =>
   have hU : upTo y m = B := by unfold upTo; rw [hB, if_neg (by simp [q2])]; rfl
   rw [q2] at hL
   rw [hU]
   simp (disch := omega) [wl, e0, e1, hr]
   refine ⟨by omega, ?_⟩
   refine callW_imm hL ?_
   simp (disch := omega) [wl]
 ·have hU : upTo y m = B := by unfold upTo; rw [hB, if_neg (fun h => q1 h.1)]; rfl
  rw [hU]
  simp (disch := omega) [wl, e0, e1, hr]
  omega
def lenN (y m : Nat) : Nat := if 1 ≤ y ∧ y ≤ 9999 ∧ 1 ≤ m ∧ m ≤ 12 then mlen y m else 0
theorem upTo_bd (y m : Nat) : upTo y m ≤ 366 := by
 have : before m ≤ 365 := by unfold before; split <;> omega
 unfold upTo
 split <;> omega
theorem mlen_bd (y m : Nat) : mlen y m ≤ 31 := by
 unfold mlen ylen
 repeat' split
 all_goals omega
theorem lenN_bd (y m : Nat) : lenN y m ≤ 31 := by
 unfold lenN
 split
 ·exact mlen_bd y m
 ·omega
theorem fn_Len (y m : Nat) (hy : y < 1000000) (hm' : m < 1000000) : Fn G2 Tryz.prog k_civil_Len [.int .i64 y, .int .i64 m] (.int .i64 (lenN y m : Nat)) := by
 refine fn_intro hm ok_civil_Len (by simp) ?_
 have hY := fn_isYear y hy
 simp [c_civil_Len, r_civil_Len]
 refine callW_imm hY ?_
 by_cases q0 : 1 ≤ y ∧ y ≤ 9999
 ·rw [yr_yes q0]
  by_cases q1 : 1 ≤ m
  ·by_cases q2 : m ≤ 12
   ·have hL : lenN y m = mlen y m := by unfold lenN; rw [if_pos ⟨q0.1, q0.2, q1, q2⟩]
    have hu := upTo_succ y q1 q2
    have b1 := upTo_bd y m
    have b2 := upTo_bd y (m + 1)
    have h1 := fn_until y (m + 1) q0 (by omega) (by omega)
    have h2 := fn_until y m q0 q1 (by omega)
    rw [show ((m + 1 : Nat) : Int) = (m : Int) + 1 by omega] at h1
    obtain ⟨a, ha⟩ : ∃ a, upTo y (m + 1) = a := ⟨_, rfl⟩
    obtain ⟨b, hb⟩ : ∃ b, upTo y m = b := ⟨_, rfl⟩
    rw [ha] at h1 hu b2; rw [hb] at h2 hu b1
    have e : ((a : Int) - (b : Int)) = ((mlen y m : Nat) : Int) := by omega
    rw [hL]
    simp (disch := omega) [wl]
    refine callW_imm h1 ?_
    simp (disch := omega) [wl]
    refine callW_imm h2 ?_
    simp (disch := omega) [wl, e]
   ·have hL : lenN y m = 0 := by unfold lenN; rw [if_neg (by omega)]
    rw [hL]
    simp (disch := omega) [wl]
  ·have hL : lenN y m = 0 := by unfold lenN; rw [if_neg (by omega)]
   rw [hL]
   simp (disch := omega) [wl]
 ·have hL : lenN y m = 0 := by unfold lenN; rw [if_neg (by omega)]
  rw [yr_no q0, hL]
  simp (disch := omega) [wl]
def dayO (y m d : Nat) : Nat × Int := if d < 1 ∨ lenN y m < d then (0, 8) else (dayN y m d, 0)
def dayOI (p : Nat × Int) : IV := .tuple [.int .i64 (p.1 : Nat), .int .i64 p.2]
theorem fn_Day (y m d : Nat) (hy : y < 1000000) (hm' : m < 1000000) (hd : d < 1000000) : Fn G2 Tryz.prog k_civil_Day [.int .i64 y, .int .i64 m, .int .i64 d] (dayOI (dayO y m d)) := by
 refine fn_intro hm ok_civil_Day (by simp) ?_
 have hL := fn_Len y m hy hm'
 obtain ⟨R, hR⟩ : ∃ R, dayO y m d = R := ⟨_, rfl⟩
 rw [hR]
 unfold dayO at hR
 simp [c_civil_Day, r_civil_Day]
 by_cases q1 : d < 1
 ·rw [if_pos (.inl q1)] at hR
  subst hR
  simp (disch := omega) [wl, dayOI]
 ·by_cases q2 : lenN y m < d
  ·rw [if_pos (.inr q2)] at hR
   subst hR
   simp (disch := omega) [wl]
   refine callW_imm hL ?_
   simp (disch := omega) [wl, dayOI]
  ·rw [if_neg (fun h => h.elim q1 q2)] at hR
   subst hR
   have q3 : 1 ≤ y ∧ y ≤ 9999 ∧ 1 ≤ m ∧ m ≤ 12 := by
    by_cases h : 1 ≤ y ∧ y ≤ 9999 ∧ 1 ≤ m ∧ m ≤ 12
    ·exact h
    ·unfold lenN at q2; rw [if_neg h] at q2; omega
   have hU := fn_until y m ⟨q3.1, q3.2.1⟩ q3.2.2.1 (by omega)
   have bU := upTo_bd y m
   have bL := lenN_bd y m
   obtain ⟨p, hp⟩ : ∃ p, y = p + 1 := ⟨y - 1, by omega⟩
   have e0 : (y : Int) - 1 = (p : Int) := by omega
   have t1 : (p : Int).tdiv 4 = ((p / 4 : Nat) : Int) := td4 p 4 (by omega)
   have t2 : (p : Int).tdiv 100 = ((p / 100 : Nat) : Int) := td4 p 100 (by omega)
   have t3 : (p : Int).tdiv 400 = ((p / 400 : Nat) : Int) := td4 p 400 (by omega)
   obtain ⟨U, hUv⟩ : ∃ U, upTo y m = U := ⟨_, rfl⟩
   have hv : dayN y m d = p * 365 + p / 4 - p / 100 + p / 400 + U + d - 1 := by
    unfold dayN Cv.ahead
    rw [hUv, show y - 1 = p by omega]
   rw [hUv] at hU bU
   obtain ⟨a, ha⟩ : ∃ a, p / 4 = a := ⟨_, rfl⟩
   obtain ⟨b, hb⟩ : ∃ b, p / 100 = b := ⟨_, rfl⟩
   obtain ⟨c, hc⟩ : ∃ c, p / 400 = c := ⟨_, rfl⟩
   rw [ha] at t1; rw [hb] at t2; rw [hc] at t3; rw [ha, hb, hc] at hv
   have hab : b ≤ a ∧ a ≤ p ∧ c ≤ p := by omega
   rw [hv]
   simp (disch := omega) [wl]
   refine callW_imm hL ?_
   simp (disch := omega) [wl, e0, t1, t2, t3]
   refine callW_imm hU ?_
   simp (disch := omega) [wl, dayOI]
   omega
theorem fn_isDay (n : Nat) (h : n ≤ 3652058) : Fn G2 Tryz.prog k_civil_isDay [.int .i64 n] (.bool true) := by
 refine fn_intro hm ok_civil_isDay (by simp) ?_
 simp [c_civil_isDay, r_civil_isDay]
 omega
theorem fn_split (n : Nat) (h : n ≤ 3652058) : Fn G2 Tryz.prog k_civil_split [.int .i64 n] (.tuple [.int .i64 ((splitN n).1 : Nat), .int .i64 ((splitN n).2 : Nat)]) := by
 refine fn_intro hm ok_civil_split (by simp) ?_
 obtain ⟨a, ha⟩ : ∃ a, n / 146097 = a := ⟨_, rfl⟩
 obtain ⟨n1, h1⟩ : ∃ n1, n % 146097 = n1 := ⟨_, rfl⟩
 obtain ⟨c0, hc0⟩ : ∃ c0, n1 / 36524 = c0 := ⟨_, rfl⟩
 obtain ⟨c, hc⟩ : ∃ c, min c0 3 = c := ⟨_, rfl⟩
 obtain ⟨n2, h2⟩ : ∃ n2, n1 - c * 36524 = n2 := ⟨_, rfl⟩
 obtain ⟨q, hq⟩ : ∃ q, n2 / 1461 = q := ⟨_, rfl⟩
 obtain ⟨n3, h3⟩ : ∃ n3, n2 % 1461 = n3 := ⟨_, rfl⟩
 obtain ⟨k0, hk0⟩ : ∃ k0, n3 / 365 = k0 := ⟨_, rfl⟩
 obtain ⟨k, hk⟩ : ∃ k, min k0 3 = k := ⟨_, rfl⟩
 have hs : splitN n = (1 + a * 400 + 100 * c + 4 * q + k, n3 - k * 365) := by
  unfold splitN
  simp only [ha, h1, hc0, hc, h2, hq, h3, hk0, hk]
 have t1 : (n : Int).tdiv 146097 = (a : Int) := by rw [← ha]; exact td4 n 146097 (by omega)
 have t2 : (n : Int).tmod 146097 = (n1 : Int) := by rw [← h1]; exact tm4 n 146097 (by omega)
 have t3 : (n1 : Int).tdiv 36524 = (c0 : Int) := by rw [← hc0]; exact td4 n1 36524 (by omega)
 have t4 : min (c0 : Int) 3 = (c : Int) := by omega
 have t5 : (n1 : Int) - (c : Int) * 36524 = (n2 : Int) := by omega
 have t6 : (n2 : Int).tdiv 1461 = (q : Int) := by rw [← hq]; exact td4 n2 1461 (by omega)
 have t7 : (n2 : Int).tmod 1461 = (n3 : Int) := by rw [← h3]; exact tm4 n2 1461 (by omega)
 have t8 : (n3 : Int).tdiv 365 = (k0 : Int) := by rw [← hk0]; exact td4 n3 365 (by omega)
 have t9 : min (k0 : Int) 3 = (k : Int) := by omega
 have t10 : (n3 : Int) - (k : Int) * 365 = ((n3 - k * 365 : Nat) : Int) := by omega
 have b1 : a ≤ 25 ∧ c ≤ 3 ∧ q ≤ 100 ∧ k ≤ 3 := by omega
 rw [hs]
 simp only
 simp [c_civil_split, r_civil_split]
 simp (disch := omega) [wl, t1, t2, t3, t4, t5, t6, t7, t8, t9, t10]
 omega
theorem fn_Date (n : Nat) (h : n ≤ 3652058) : Fn G2 Tryz.prog k_civil_Date [.int .i64 n] (.tuple [.int .i64 ((dateN n).1 : Nat), .int .i64 ((dateN n).2.1 : Nat), .int .i64 ((dateN n).2.2 : Nat), .int .i64 0]) := by
 refine fn_intro hm ok_civil_Date (by simp) ?_
 have hD := fn_isDay n h
 have hS := fn_split n h
 obtain ⟨y, m, d, g1, g2, g3, g4, g5, g6, g7, g8⟩ := day_date h
 obtain ⟨⟨Y, t⟩, hs⟩ : ∃ p, splitN n = p := ⟨_, rfl⟩
 have hY : Y = y := by
  have := congrArg Prod.fst g8
  unfold dateN at this
  rw [hs] at this
  exact this
 have hm2 : monthN Y t = m := by
  have := congrArg (fun p => p.2.1) g8
  unfold dateN at this
  rw [hs] at this
  exact this
 have hd2 : t - upTo Y m + 1 = d := by
  have := congrArg (fun p => p.2.2) g8
  unfold dateN at this
  rw [hs] at this
  simp only [hm2] at this
  exact this
 subst hY
 rw [hs] at hS
 simp only at hS
 have bu := upTo_bd Y m
 have bm := mlen_bd Y m
 have hul := upTo_le Y g3 g4
 have hus := upTo_succ Y g3 g4
 have hyl : ylen Y ≤ 366 := by unfold ylen; split <;> omega
 have htl : upTo Y m ≤ t ∧ t < 366 := by
  have hsa : splitN n = (Y, upTo Y m + d - 1) := by
   have e : n = Cv.ahead Y + (upTo Y m + d - 1) := by rw [← g7]; unfold dayN; omega
   rw [e]
   exact split_ahead g1 (by omega)
  rw [hs] at hsa
  have := congrArg Prod.snd hsa
  simp only at this
  omega
 have t32 : (t : Int).tdiv 32 = ((t / 32 : Nat) : Int) := td4 t 32 (by omega)
 have h1 := fn_until Y (t / 32 + 2) ⟨g1, g2⟩ (by omega) (by omega)
 rw [show ((t / 32 + 2 : Nat) : Int) = ((t / 32 : Nat) : Int) + 1 + 1 by omega] at h1
 have h2 := fn_until Y m ⟨g1, g2⟩ g3 (by omega)
 rw [g8]
 simp only
 unfold monthN at hm2
 obtain ⟨k, hk⟩ : ∃ k, t / 32 = k := ⟨_, rfl⟩
 rw [hk] at t32 h1 hm2
 obtain ⟨u, hu⟩ : ∃ u, upTo Y (k + 2) = u := ⟨_, rfl⟩
 obtain ⟨v, hv⟩ : ∃ v, upTo Y m = v := ⟨_, rfl⟩
 rw [hu] at h1 hm2
 rw [hv] at h2 htl hd2
 have hub : u ≤ 366 := by rw [← hu]; exact upTo_bd _ _
 simp [c_civil_Date, r_civil_Date]
 refine callW_imm hD ?_
 simp (disch := omega) [wl]
 refine callW_imm hS ?_
 simp (disch := omega) [wl, t32]
 refine callW_imm h1 ?_
 by_cases q : u ≤ t
 ·rw [if_pos q] at hm2
  have e : (k : Int) + 1 + 1 = (m : Int) := by omega
  simp (disch := omega) [wl, e]
  refine callW_imm h2 ?_
  simp (disch := omega) [wl]
  omega
 ·rw [if_neg q] at hm2
  have e : (k : Int) + 1 = (m : Int) := by omega
  simp (disch := omega) [wl, e]
  refine callW_imm h2 ?_
  simp (disch := omega) [wl]
  omega
end Go.Vs.YtbchceojmblkkaaGreatDoor.Rc
namespace Go.Vs.YtbchceojmblkkaaGreatDoor.Rc
set_option linter.unusedSimpArgs false
set_option linter.unusedVariables false
open Go.Proofs Go.Vs.Cv
set_option maxRecDepth 100000
set_option maxHeartbeats 8000000
theorem fn_dDays (y : Nat) (h : y < 1000000) : Fn G2 Tryz.prog k_ref09_Days [.int .i64 y] (.int .i64 ((if 1 ≤ y ∧ y ≤ 9999 then ylen y else 0 : Nat) : Nat)) := by
 refine fn_intro hm ok_ref09_Days (by simp) ?_
 have hL := fn_rLeap y h
 simp [c_ref09_Days, r_ref09_Days]
 by_cases h1 : 1 ≤ y
 ·by_cases h2 : y ≤ 9999
  ·rw [yr_yes ⟨h1, h2⟩, Bool.true_and] at hL
   rw [if_pos ⟨h1, h2⟩]
   unfold ylen
   simp (disch := omega) [wl]
   refine callW_imm hL ?_
   cases leap y with
   | true => simp (disch := omega) [wl]
   | false => simp (disch := omega) [wl]
  ·rw [if_neg (by omega)]
   simp (disch := omega) [wl]
 ·rw [if_neg (by omega)]
  simp (disch := omega) [wl]
theorem fn_dLen (y m : Nat) (hy : y < 1000000) (hm' : m < 1000000) : Fn G2 Tryz.prog k_ref09_Len [.int .i64 y, .int .i64 m] (.int .i64 (lenN y m : Nat)) := by
 refine fn_intro hm ok_ref09_Len (by simp) ?_
 have hD := fn_dDays y hy
 have hyl : 365 ≤ ylen y ∧ ylen y ≤ 366 := by unfold ylen; split <;> omega
 simp [c_ref09_Len, r_ref09_Len]
 refine callW_imm hD ?_
 by_cases q0 : 1 ≤ y ∧ y ≤ 9999
 ·rw [if_pos q0]
  obtain ⟨Y, hY⟩ : ∃ Y, ylen y = Y := ⟨_, rfl⟩
  rw [if_pos q0] at hD
  rw [hY] at hD hyl ⊢
  have hY0 : ¬ Y = 0 := by omega
  by_cases q1 : 1 ≤ m
  ·by_cases q2 : m ≤ 12
   ·have hL : lenN y m = mlen y m := by unfold lenN; rw [if_pos ⟨q0.1, q0.2, q1, q2⟩]
    rw [hL]
    by_cases m2 : m = 2
    ·have : mlen y m = Y - 337 := by unfold mlen; rw [if_pos m2, hY]
     rw [this]
     simp (disch := omega) [wl, hY0, m2]
     refine callW_imm hD ?_
     simp (disch := omega) [wl]
     omega
    ·by_cases m30 : m = 4 ∨ m = 6 ∨ m = 9 ∨ m = 11
     ·have : mlen y m = 30 := by unfold mlen; rw [if_neg m2, if_pos m30]
      rw [this]
      rcases m30 with e | e | e | e
      ·simp (disch := omega) [wl, hY0, m2, e]
      ·simp (disch := omega) [wl, hY0, m2, e]
      ·simp (disch := omega) [wl, hY0, m2, e]
      ·simp (disch := omega) [wl, hY0, m2, e]
     ·have : mlen y m = 31 := by unfold mlen; rw [if_neg m2, if_neg m30]
      have e1 : ¬ m = 4 := fun e => m30 (.inl e)
      have e2 : ¬ m = 6 := fun e => m30 (.inr (.inl e))
      have e3 : ¬ m = 9 := fun e => m30 (.inr (.inr (.inl e)))
      have e4 : ¬ m = 11 := fun e => m30 (.inr (.inr (.inr e)))
      rw [this]
      simp (disch := omega) [wl, hY0, m2, e1, e2, e3, e4]
   ·have hL : lenN y m = 0 := by unfold lenN; rw [if_neg (by omega)]
    rw [hL]
    simp (disch := omega) [wl, hY0]
  ·have hL : lenN y m = 0 := by unfold lenN; rw [if_neg (by omega)]
   rw [hL]
   simp (disch := omega) [wl, hY0]
 ·have hL : lenN y m = 0 := by unfold lenN; rw [if_neg (by omega)]
  rw [if_neg q0, hL]
  simp (disch := omega) [wl]
theorem ahead_bd (y : Nat) : Cv.ahead y ≤ y * 366 := by unfold Cv.ahead; omega
theorem fn_dahead (y : Nat) (h1 : 1 ≤ y) (h2 : y ≤ 1000000) : Fn G2 Tryz.prog k_ref09_ahead [.int .i64 y] (.int .i64 (Cv.ahead y : Nat)) := by
 refine fn_intro hm ok_ref09_ahead (by simp) ?_
 obtain ⟨p, hp⟩ : ∃ p, y = p + 1 := ⟨y - 1, by omega⟩
 have e0 : (y : Int) - 1 = (p : Int) := by omega
 have t1 : (p : Int).tdiv 4 = ((p / 4 : Nat) : Int) := td4 p 4 (by omega)
 have t2 : (p : Int).tdiv 100 = ((p / 100 : Nat) : Int) := td4 p 100 (by omega)
 have t3 : (p : Int).tdiv 400 = ((p / 400 : Nat) : Int) := td4 p 400 (by omega)
 have hv : Cv.ahead y = p * 365 + p / 4 - p / 100 + p / 400 := by
  unfold Cv.ahead
  rw [show y - 1 = p by omega]
 obtain ⟨a, ha⟩ : ∃ a, p / 4 = a := ⟨_, rfl⟩
 obtain ⟨b, hb⟩ : ∃ b, p / 100 = b := ⟨_, rfl⟩
 obtain ⟨c, hc⟩ : ∃ c, p / 400 = c := ⟨_, rfl⟩
 have hab : b ≤ a ∧ a ≤ p ∧ c ≤ p := by omega
 rw [ha] at t1; rw [hb] at t2; rw [hc] at t3; rw [ha, hb, hc] at hv
 rw [hv]
 simp [c_ref09_ahead, r_ref09_ahead]
 simp (disch := omega) [wl, e0, t1, t2, t3]
 omega
theorem fn_dDay (y m d : Nat) (hy : y < 1000000) (hm' : m < 1000000) (hd : d < 1000000) : Fn G2 Tryz.prog k_ref09_Day [.int .i64 y, .int .i64 m, .int .i64 d] (dayOI (dayO y m d)) := by
 refine fn_intro hm ok_ref09_Day (by simp) ?_
 have hL := fn_dLen y m hy hm'
 obtain ⟨R, hR⟩ : ∃ R, dayO y m d = R := ⟨_, rfl⟩
 rw [hR]
 unfold dayO at hR
 simp [c_ref09_Day, r_ref09_Day]
 by_cases q1 : d < 1
 ·rw [if_pos (.inl q1)] at hR
  subst hR
  simp (disch := omega) [wl, dayOI]
 ·by_cases q2 : lenN y m < d
  ·rw [if_pos (.inr q2)] at hR
   subst hR
   simp (disch := omega) [wl]
   refine callW_imm hL ?_
   simp (disch := omega) [wl, dayOI]
  ·rw [if_neg (fun h => h.elim q1 q2)] at hR
   subst hR
   have q3 : 1 ≤ y ∧ y ≤ 9999 ∧ 1 ≤ m ∧ m ≤ 12 := by
    by_cases h : 1 ≤ y ∧ y ≤ 9999 ∧ 1 ≤ m ∧ m ≤ 12
    ·exact h
    ·unfold lenN at q2; rw [if_neg h] at q2; omega
   have hA := fn_dahead y q3.1 (by omega)
   have bA := ahead_bd y
   have bL := lenN_bd y m
   have u1 : upTo y 1 = 0 := by unfold upTo; rw [if_neg (by omega)]; rfl
   obtain ⟨A, hAv⟩ : ∃ A, Cv.ahead y = A := ⟨_, rfl⟩
   rw [hAv] at hA bA
   simp (disch := omega) [wl]
   refine callW_imm hL ?_
   simp (disch := omega) [wl]
   refine callW_imm hA ?_
   simp (disch := omega) [wl]
   refine loopU hm [] (fun i : Nat => [(9, .val (.int .i64 i)), (8, .val (.int .i64 ((A + d - 1 + upTo y i : Nat) : Nat)))]) (fun _ => []) (fun i => 1 ≤ i ∧ i ≤ m) (fun i => m - i) 1 ⟨by omega, by omega⟩ ?_ ?_
   ·simp [u1]
    exact weak_drop rfl rfl (by simp [EnvLe, getE, look]; omega) (by simp [ObLe, look]) (by simp [roOk])
   rintro i ⟨hi1, hi2⟩
   simp
   by_cases h : i < m
   ·have hLi := fn_dLen y i hy (by omega)
    have e : lenN y i = mlen y i := by unfold lenN; rw [if_pos ⟨q3.1, q3.2.1, hi1, by omega⟩]
    have hus := upTo_succ y hi1 (by omega : i ≤ 12)
    have b1 := upTo_bd y i
    have b2 := mlen_bd y i
    rw [e] at hLi
    simp (disch := omega) [wl]
    refine callW_imm hLi ?_
    obtain ⟨u, hu⟩ : ∃ u, upTo y i = u := ⟨_, rfl⟩
    obtain ⟨v, hv⟩ : ∃ v, mlen y i = v := ⟨_, rfl⟩
    rw [hu] at hus b1 ⊢
    rw [hv] at hus b2 ⊢
    simp (disch := omega) [wl]
    refine loopEnd (i + 1) ⟨by omega, by omega⟩ (by omega) ?_
    simp [hus]
    exact weak_drop rfl rfl (by simp [EnvLe, getE, look]; omega) (by simp [ObLe, look]) (by simp [roOk])
   ·obtain rfl : i = m := by omega
    have hv : dayN y i d = A + d - 1 + upTo y i := by unfold dayN; rw [hAv]; omega
    rw [hv]
    simp (disch := omega) [wl, dayOI]
end Go.Vs.YtbchceojmblkkaaGreatDoor.Rc
