/- The code of the seat's functions in the small typed code; printed by a program of the prover's. -/
import Derived.Test.YtbchceojmblkkaaGreatDoorRI
import Derived.Test.YtbchceojmblkkaaGreatDoorRows
import Derived.KernelRfl
import Derived.Test.YtbchceojmblkkaaGreatDoorRR
import Derived.Test.YtbchceojmblkkaaGreatDoorRO
import Derived.Test.YtbchceojmblkkaaGreatDoorRL
set_option linter.unusedVariables false
set_option linter.unusedSimpArgs false
namespace Go.Vs.U8
end Go.Vs.U8
namespace Go.Vs.Pa
end Go.Vs.Pa
namespace Go.Vs.Cv
end Go.Vs.Cv
namespace Go.Vs.Mo
end Go.Vs.Mo
namespace Go.Vs.Nu
end Go.Vs.Nu
namespace Go.Vs.YtbchceojmblkkaaGreatDoor
set_option linter.unusedSimpArgs false
set_option linter.unusedVariables false
open Go.Proofs
set_option maxRecDepth 100000
set_option maxHeartbeats 4000000

def k_law21_RecurBack : Nat := 10
def k_law21_RecurParts : Nat := 11
def k_law21_RecurFaults : Nat := 12
def k_law21_awake : Nat := 48
def c_law21_RecurBack : VCode :=
 .seq (rt [o1 2 (.box (tm 0)), o1 4 (.move (cb false))] []) (.seq (.seq (rt [o1 16 (.load (some 15) (tm 2)), o1 17 (.call k_law21_Small [tm 16]), o1 18 (.un (.not) (tm 17)), o1 19 (.move (tm 18)), o2 20 (.move (tm 1)) 19 false, o2 21 (.lenS (tm 20)) 19 false, o2 22 (.bin (.gtr) (tm 21) (ci 400)) 19 false, o1 23 (.pick (tm 19) (cb true) (tm 22))] [16, 22]) (.cond (tm 23) (.seq (rt [o1 24 (.call k_law21_awake []), o1 4 (.move (tm 24))] [24, 24]) (.ret)) (.skip))) (.seq (rt [o1 25 (.load (some 15) (tm 2)), o1 26 (.call k_law21_Own [tm 25]), o1 5 (.alloc [.val (.int (.u8) 0), .val (.int (.i64) 0), .val (.int (.i64) 0), .val (.int (.u8) 0), .val (.int (.i64) 0), .nils, .nils, .nils, .nils, .nils, .nils, .nils, .nils, .nils, .val (.int (.i64) 0)]), o3 (.store 15 (tm 5) (tm 26))] [25, 26]) (.seq (rt [o1 28 (.load (some 15) (tm 5)), o1 29 (.call k_recur_Print [tm 28]), o1 27 (.move (tm 29)), o1 30 (.extract (tm 27) 0), o1 31 (.extract (tm 27) 1), o1 6 (.move (tm 30)), o1 7 (.move (tm 31))] [27, 31]) (.seq (.seq (rt [o1 32 (.move (tm 7)), o1 33 (.bin (.eql) (tm 32) (ci 0)), o1 34 (.load (some 15) (tm 5)), o1 35 (.call k_recur_Check [tm 34]), o1 36 (.bin (.eql) (tm 35) (ci 0)), o1 37 (.eqB true (tm 33) (tm 36))] [32, 36]) (.cond (tm 37) (.seq (rt [o1 4 (.move (cb false))] []) (.ret)) (.skip))) (.cut (.seq (.seq (rt [o1 38 (.move (tm 7)), o1 39 (.bin (.eql) (tm 38) (ci 0))] [38, 38]) (.cond (tm 39) (.seq (rt [o1 41 (.move (tm 6)), o1 42 (.call k_recur_Parse [tm 41]), o1 40 (.move (tm 42)), o1 43 (.extract (tm 40) 0), o1 44 (.extract (tm 40) 1), o1 8 (.alloc [.val (.int (.u8) 0), .val (.int (.i64) 0), .val (.int (.i64) 0), .val (.int (.u8) 0), .val (.int (.i64) 0), .nils, .nils, .nils, .nils, .nils, .nils, .nils, .nils, .nils, .val (.int (.i64) 0)]), o3 (.store 15 (tm 8) (tm 43)), o1 9 (.move (tm 44))] [40, 44]) (.seq (rt [o1 45 (.move (tm 9)), o1 46 (.eqN true (tm 45)), o1 47 (.move (tm 46)), o2 48 (.load (some 15) (tm 5)) 47 false, o2 49 (.load (some 15) (tm 8)) 47 false, o2 50 (.call k_recur_Same [tm 48, tm 49]) 47 false, o2 51 (.un (.not) (tm 50)) 47 false, o1 52 (.pick (tm 47) (cb true) (tm 51))] [45, 51]) (.cond (tm 52) (.seq (rt [o1 4 (.move (cb false))] []) (.ret)) (.skip)))) (.skip))) (.seq (rt [o1 54 (.move (tm 1)), o1 55 (.call k_recur_Parse [tm 54]), o1 53 (.move (tm 55)), o1 56 (.extract (tm 53) 0), o1 57 (.extract (tm 53) 1), o1 10 (.alloc [.val (.int (.u8) 0), .val (.int (.i64) 0), .val (.int (.i64) 0), .val (.int (.u8) 0), .val (.int (.i64) 0), .nils, .nils, .nils, .nils, .nils, .nils, .nils, .nils, .nils, .val (.int (.i64) 0)]), o3 (.store 15 (tm 10) (tm 56)), o1 11 (.move (tm 57))] [53, 57]) (.seq (.seq (rt [o1 58 (.move (tm 11)), o1 59 (.eqN true (tm 58))] [58, 58]) (.cond (tm 59) (.seq (rt [o1 60 (.call k_law21_awake []), o1 4 (.move (tm 60))] [60, 60]) (.ret)) (.skip))) (.seq (rt [o1 62 (.load (some 15) (tm 10)), o1 63 (.call k_recur_Print [tm 62]), o1 61 (.move (tm 63)), o1 64 (.extract (tm 61) 0), o1 65 (.extract (tm 61) 1), o1 12 (.move (tm 64)), o1 13 (.move (tm 65))] [61, 65]) (.seq (rt [o1 67 (.move (tm 12)), o1 68 (.call k_recur_Parse [tm 67]), o1 66 (.move (tm 68)), o1 69 (.extract (tm 66) 0), o1 70 (.extract (tm 66) 1), o1 14 (.alloc [.val (.int (.u8) 0), .val (.int (.i64) 0), .val (.int (.i64) 0), .val (.int (.u8) 0), .val (.int (.i64) 0), .nils, .nils, .nils, .nils, .nils, .nils, .nils, .nils, .nils, .val (.int (.i64) 0)]), o3 (.store 15 (tm 14) (tm 69)), o1 15 (.move (tm 70))] [66, 70]) (.seq (rt [o1 71 (.load (some 15) (tm 10)), o1 72 (.call k_recur_Check [tm 71]), o1 73 (.bin (.eql) (tm 72) (ci 0)), o1 74 (.move (tm 73)), o2 75 (.move (tm 13)) 74 true, o2 76 (.bin (.eql) (tm 75) (ci 0)) 74 true, o1 77 (.pick (tm 74) (tm 76) (cb false)), o1 78 (.move (tm 77)), o2 79 (.move (tm 15)) 78 true, o2 80 (.eqN false (tm 79)) 78 true, o1 81 (.pick (tm 78) (tm 80) (cb false)), o1 82 (.move (tm 81)), o2 83 (.load (some 15) (tm 10)) 82 true, o2 84 (.load (some 15) (tm 14)) 82 true, o2 85 (.call k_recur_Same [tm 83, tm 84]) 82 true, o1 86 (.pick (tm 82) (tm 85) (cb false)), o1 87 (.move (tm 86)), o2 88 (.call k_law21_awake []) 87 true, o1 89 (.pick (tm 87) (tm 88) (cb false)), o1 4 (.move (tm 89))] [71, 89]) (.ret))))))))))))
def r_law21_RecurBack : List VRes := [.tmp 4]
theorem ok_law21_RecurBack : FnOk Tryz.prog k_law21_RecurBack c_law21_RecurBack r_law21_RecurBack 90 :=
 ⟨⟨Tryz.f10, _, Tryz.func10, by decide, rfl, by kernel_rfl, by kernel_rfl, by kernel_rfl, rfl⟩⟩

def c_law21_RecurParts : VCode :=
 .seq (rt [o1 2 (.box (tm 0)), o1 4 (.move (cb false))] []) (.seq (.seq (rt [o1 11 (.load (some 15) (tm 2)), o1 12 (.call k_law21_Small [tm 11]), o1 13 (.un (.not) (tm 12))] [11, 12]) (.cond (tm 13) (.seq (rt [o1 14 (.call k_law21_awake []), o1 4 (.move (tm 14))] [14, 14]) (.ret)) (.skip))) (.seq (rt [o1 16 (.load (some 15) (tm 2)), o1 17 (.call k_law21_Own [tm 16]), o1 18 (.call k_recur_Print [tm 17]), o1 15 (.move (tm 18)), o1 19 (.extract (tm 15) 0), o1 20 (.extract (tm 15) 1), o1 5 (.move (tm 19)), o1 6 (.move (tm 20))] [15, 20]) (.seq (.seq (rt [o1 21 (.move (tm 6)), o1 22 (.bin (.neq) (tm 21) (ci 0))] [21, 21]) (.cond (tm 22) (.seq (rt [o1 23 (.call k_law21_awake []), o1 4 (.move (tm 23))] [23, 23]) (.ret)) (.skip))) (.seq (rt [o1 7 (.move (ci 0))] []) (.seq (.seq (rt [o1 8 (.move (ci 0))] []) (.block 0 (.loop (.seq (.seq (rt [o1 24 (.move (tm 8)), o1 25 (.move (tm 5)), o1 26 (.lenS (tm 25)), o1 27 (.bin (.lss) (tm 24) (tm 26))] [24, 26]) (.cond (tm 27) (.skip) (.exit 0))) (.seq (.block 1 (.seq (rt [o1 30 (.move (tm 5)), o1 31 (.move (tm 8)), o1 32 (.indexS (tm 30) (tm 31)), o1 33 (.bin (.eql) (tm 32) (cu 59))] [30, 32]) (.cond (tm 33) (.seq (rt [o1 34 (.move (tm 7)), o1 35 (.bin (.add) (tm 34) (ci 1)), o1 7 (.move (tm 35))] [34, 35]) (.seq (rt [o1 36 (.move (tm 7)), o1 37 (.move (tm 1)), o1 38 (.convI (.i64) (tm 37)), o1 39 (.bin (.eql) (tm 36) (tm 38))] [36, 38]) (.cond (tm 39) (.seq (.region [o1 41 (.move (tm 5)), o1 42 (.move (tm 8)), o1 43 (.bin (.add) (tm 42) (ci 1)), o1 44 (.subS (tm 41) (some (tm 43)) none), o1 45 (.bin (.add) (tm 44) (cs [59])), o1 46 (.move (tm 5)), o1 47 (.move (tm 8)), o1 48 (.subS (tm 46) none (some (tm 47))), o1 49 (.bin (.add) (tm 45) (tm 48)), o1 50 (.call k_recur_Parse [tm 49]), o1 40 (.move (tm 50)), o1 51 (.extract (tm 40) 0), o1 52 (.extract (tm 40) 1), o1 9 (.alloc [.val (.int (.u8) 0), .val (.int (.i64) 0), .val (.int (.i64) 0), .val (.int (.u8) 0), .val (.int (.i64) 0), .nils, .nils, .nils, .nils, .nils, .nils, .nils, .nils, .nils, .val (.int (.i64) 0)]), o3 (.store 15 (tm 9) (tm 51)), o1 10 (.move (tm 52))] (.drawn [(0, 13), (1, 13), (2, 13), (3, 13), (4, 13), (5, 13), (6, 13), (7, 13), (8, 13), (9, 13), (10, 13), (11, 13), (12, 13)] (prs [(9, [(0, 8), (13, 13)]), (13, [(0, 12)])])) [40, 52]) (.seq (.region [o1 53 (.move (tm 10)), o1 54 (.eqN false (tm 53)), o1 55 (.move (tm 54)), o2 56 (.load (some 15) (tm 9)) 55 true, o2 57 (.load (some 15) (tm 2)) 55 true, o2 58 (.call k_law21_Own [tm 57]) 55 true, o2 59 (.call k_recur_Same [tm 56, tm 58]) 55 true, o1 60 (.pick (tm 55) (tm 59) (cb false)), o1 61 (.move (tm 60)), o2 62 (.call k_law21_awake []) 61 true, o1 63 (.pick (tm 61) (tm 62) (cb false)), o1 4 (.move (tm 63))] (.drawn [(3, 5)] (prs [(5, [(0, 4)]), (6, [(0, 5)]), (9, [(0, 8)])])) [53, 63]) (.ret))) (.skip)))) (.skip)))) (rt [o1 28 (.move (tm 8)), o1 29 (.bin (.add) (tm 28) (ci 1)), o1 8 (.move (tm 29))] [28, 29])))))) (.seq (rt [o1 64 (.call k_law21_awake []), o1 4 (.move (tm 64))] [64, 64]) (.ret)))))))
def r_law21_RecurParts : List VRes := [.tmp 4]
theorem ok_law21_RecurParts : FnOk Tryz.prog k_law21_RecurParts c_law21_RecurParts r_law21_RecurParts 65 :=
 ⟨⟨Tryz.f11, _, Tryz.func11, by decide, rfl, by kernel_rfl, by kernel_rfl, by kernel_rfl, rfl⟩⟩

def c_law21_RecurFaults : VCode :=
 .seq (rt [o1 2 (.move (cb false))] []) (.seq (.seq (rt [o1 7 (.move (tm 0)), o1 8 (.lenS (tm 7)), o1 9 (.bin (.gtr) (tm 8) (ci 300))] [7, 8]) (.cond (tm 9) (.seq (rt [o1 10 (.call k_law21_awake []), o1 2 (.move (tm 10))] [10, 10]) (.ret)) (.skip))) (.seq (rt [o1 12 (.move (tm 0)), o1 13 (.call k_recur_Parse [tm 12]), o1 11 (.move (tm 13)), o1 14 (.extract (tm 11) 0), o1 15 (.extract (tm 11) 1), o1 3 (.alloc [.val (.int (.u8) 0), .val (.int (.i64) 0), .val (.int (.i64) 0), .val (.int (.u8) 0), .val (.int (.i64) 0), .nils, .nils, .nils, .nils, .nils, .nils, .nils, .nils, .nils, .val (.int (.i64) 0)]), o3 (.store 15 (tm 3) (tm 14)), o1 4 (.move (tm 15))] [3, 3, 11, 15]) (.seq (.seq (rt [o1 16 (.move (tm 4)), o1 17 (.eqN false (tm 16))] [16, 16]) (.cond (tm 17) (.seq (rt [o1 18 (.call k_law21_awake []), o1 2 (.move (tm 18))] [18, 18]) (.ret)) (.skip))) (.seq (rt [o1 5 (.alloc [.val (.nilp)])] []) (.seq (.seq (rt [o1 19 (.move (tm 4)), o1 20 (.mkIface 116 (tm 5)), o1 21 (.callM k_errors_As [tm 19, tm 20]), o1 22 (.un (.not) (tm 21)), o1 23 (.move (tm 22)), o2 24 (.load none (tm 5)) 23 false, o2 25 (.eqP false (tm 24)) 23 false, o1 26 (.pick (tm 23) (cb true) (tm 25))] [19, 25]) (.cond (tm 26) (.seq (rt [o1 2 (.move (cb false))] []) (.ret)) (.skip))) (.seq (rt [o1 27 (.move (tm 4)), o1 28 (.call k_fault_Place [tm 27]), o1 6 (.move (tm 28))] [27, 28]) (.seq (rt [o1 29 (.move (tm 6)), o1 30 (.bin (.geq) (tm 29) (ci 0)), o1 31 (.move (tm 30)), o2 32 (.move (tm 6)) 31 true, o2 33 (.move (tm 0)) 31 true, o2 34 (.lenS (tm 33)) 31 true, o2 35 (.bin (.leq) (tm 32) (tm 34)) 31 true, o1 36 (.pick (tm 31) (tm 35) (cb false)), o1 37 (.move (tm 36)), o2 38 (.move (tm 4)) 37 true, o2 39 (.call k_fault_Code [tm 38]) 37 true, o2 40 (.bin (.neq) (tm 39) (ci 0)) 37 true, o1 41 (.pick (tm 37) (tm 40) (cb false)), o1 42 (.move (tm 41)), o2 43 (.move (tm 4)) 42 true, o2 44 (.call k_fault_Depth [tm 43]) 42 true, o2 45 (.bin (.eql) (tm 44) (ci 1)) 42 true, o2 46 (.move (tm 45)) 42 true, o2 47 (.move (tm 4)) 46 false, o2 48 (.call k_fault_Depth [tm 47]) 46 false, o2 49 (.bin (.eql) (tm 48) (ci 2)) 46 false, o2 50 (.move (tm 49)) 46 false, o2 51 (.load none (tm 5)) 50 true, o2 52 (.nilCheck (tm 51)) 50 true, o2 53 (.fieldAddr 0 (tm 52)) 50 true, o2 54 (.load none (tm 53)) 50 true, o2 55 (.bin (.gtr) (tm 54) (ci 0)) 50 true, o2 56 (.pick (tm 50) (tm 55) (cb false)) 46 false, o2 57 (.move (tm 56)) 46 false, o2 58 (.load none (tm 5)) 57 true, o2 59 (.nilCheck (tm 58)) 57 true, o2 60 (.fieldAddr 0 (tm 59)) 57 true, o2 61 (.load none (tm 60)) 57 true, o2 62 (.move (tm 0)) 57 true, o2 63 (.lenS (tm 62)) 57 true, o2 64 (.bin (.leq) (tm 61) (tm 63)) 57 true, o2 65 (.pick (tm 57) (tm 64) (cb false)) 46 false, o2 66 (.move (tm 65)) 46 false, o2 67 (.move (tm 0)) 66 true, o2 68 (.load none (tm 5)) 66 true, o2 69 (.nilCheck (tm 68)) 66 true, o2 70 (.fieldAddr 0 (tm 69)) 66 true, o2 71 (.load none (tm 70)) 66 true, o2 72 (.bin (.sub) (tm 71) (ci 1)) 66 true, o2 73 (.indexS (tm 67) (tm 72)) 66 true, o2 74 (.bin (.eql) (tm 73) (cu 61)) 66 true, o2 75 (.pick (tm 66) (tm 74) (cb false)) 46 false, o2 76 (.pick (tm 46) (cb true) (tm 75)) 42 true, o1 77 (.pick (tm 42) (tm 76) (cb false)), o1 78 (.move (tm 77)), o2 79 (.call k_law21_awake []) 78 true, o1 80 (.pick (tm 78) (tm 79) (cb false)), o1 2 (.move (tm 80))] [29, 80]) (.ret))))))))
def r_law21_RecurFaults : List VRes := [.tmp 2]
theorem ok_law21_RecurFaults : FnOk Tryz.prog k_law21_RecurFaults c_law21_RecurFaults r_law21_RecurFaults 81 :=
 ⟨⟨Tryz.f12, _, Tryz.func12, by decide, rfl, by kernel_rfl, by kernel_rfl, by kernel_rfl, rfl⟩⟩

def c_law21_awake : VCode :=
 .seq (rt [o1 0 (.move (cb false))] []) (.seq (rt [o1 11 (.call k_recur_Parse [cs [66, 89, 68, 65, 89, 61, 45, 49, 70, 82, 44, 77, 79, 59, 70, 82, 69, 81, 61, 77, 79, 78, 84, 72, 76, 89, 59, 67, 79, 85, 78, 84, 61, 51, 59, 66, 89, 83, 69, 84, 80, 79, 83, 61, 49, 59, 87, 75, 83, 84, 61, 83, 85]]), o1 10 (.move (tm 11)), o1 12 (.extract (tm 10) 0), o1 13 (.extract (tm 10) 1), o1 1 (.alloc [.val (.int (.u8) 0), .val (.int (.i64) 0), .val (.int (.i64) 0), .val (.int (.u8) 0), .val (.int (.i64) 0), .nils, .nils, .nils, .nils, .nils, .nils, .nils, .nils, .nils, .val (.int (.i64) 0)]), o3 (.store 15 (tm 1) (tm 12)), o1 2 (.move (tm 13))] [10, 13]) (.seq (rt [o1 15 (.load (some 15) (tm 1)), o1 16 (.call k_recur_Print [tm 15]), o1 14 (.move (tm 16)), o1 17 (.extract (tm 14) 0), o1 18 (.extract (tm 14) 1), o1 3 (.move (tm 17)), o1 4 (.move (tm 18))] [14, 18]) (.seq (rt [o1 20 (.call k_recur_Parse [cs [70, 82, 69, 81, 61, 68, 65, 73, 76, 89, 59, 66, 89, 72, 79, 85, 82, 61, 49, 44, 50, 52]]), o1 19 (.move (tm 20)), o1 21 (.extract (tm 19) 0), o1 22 (.extract (tm 19) 1), o1 5 (.alloc [.val (.int (.u8) 0), .val (.int (.i64) 0), .val (.int (.i64) 0), .val (.int (.u8) 0), .val (.int (.i64) 0), .nils, .nils, .nils, .nils, .nils, .nils, .nils, .nils, .nils, .val (.int (.i64) 0)]), o3 (.store 15 (tm 5) (tm 21)), o1 6 (.move (tm 22))] [5, 5, 19, 22]) (.seq (rt [o1 24 (.call k_recur_Parse [cs [70, 82, 69, 81, 61, 68, 65, 73, 76, 89, 59, 66, 89, 68, 65, 89, 61, 49, 77, 79]]), o1 23 (.move (tm 24)), o1 25 (.extract (tm 23) 0), o1 26 (.extract (tm 23) 1), o1 7 (.alloc [.val (.int (.u8) 0), .val (.int (.i64) 0), .val (.int (.i64) 0), .val (.int (.u8) 0), .val (.int (.i64) 0), .nils, .nils, .nils, .nils, .nils, .nils, .nils, .nils, .nils, .val (.int (.i64) 0)]), o3 (.store 15 (tm 7) (tm 25)), o1 8 (.move (tm 26))] [7, 7, 23, 26]) (.seq (rt [o1 27 (.build [.val (.int (.i64) 0), .val (.int (.i64) 0)] [(0, 1, ci (-1)), (1, 1, ci 4)]), o1 28 (.build [.val (.int (.i64) 0), .val (.int (.i64) 0)] [(0, 1, ci 0), (1, 1, ci 0)]), o1 29 (.buildSlice 2 2 [.val (.int (.i64) 0), .val (.int (.i64) 0)] [(0, 2, tm 27), (2, 2, tm 28)]), o1 30 (.buildSlice 1 1 [.val (.int (.i64) 0)] [(0, 1, ci 1)]), o1 31 (.build [.val (.int (.u8) 0), .val (.int (.i64) 0), .val (.int (.i64) 0), .val (.int (.u8) 0), .val (.int (.i64) 0), .nils, .nils, .nils, .nils, .nils, .nils, .nils, .nils, .nils, .val (.int (.i64) 0)] [(0, 1, cu 5), (1, 1, ci 1), (2, 1, ci 3), (8, 1, tm 29), (13, 1, tm 30), (14, 1, ci 6)]), o1 9 (.alloc [.val (.int (.u8) 0), .val (.int (.i64) 0), .val (.int (.i64) 0), .val (.int (.u8) 0), .val (.int (.i64) 0), .nils, .nils, .nils, .nils, .nils, .nils, .nils, .nils, .nils, .val (.int (.i64) 0)]), o3 (.store 15 (tm 9) (tm 31))] [27, 31]) (.seq (.region [o1 32 (.move (tm 2)), o1 33 (.eqN false (tm 32)), o1 34 (.move (tm 33)), o2 35 (.load (some 15) (tm 1)) 34 true, o2 36 (.call k_law21_Back [tm 35]) 34 true, o2 37 (.load (some 15) (tm 9)) 34 true, o2 38 (.call k_ref21_Same [tm 36, tm 37]) 34 true, o1 39 (.pick (tm 34) (tm 38) (cb false)), o1 40 (.move (tm 39)), o2 41 (.move (tm 4)) 40 true, o2 42 (.bin (.eql) (tm 41) (ci 0)) 40 true, o1 43 (.pick (tm 40) (tm 42) (cb false)), o1 44 (.move (tm 43)), o2 45 (.move (tm 3)) 44 true, o2 46 (.bin (.eql) (tm 45) (cs [70, 82, 69, 81, 61, 77, 79, 78, 84, 72, 76, 89, 59, 67, 79, 85, 78, 84, 61, 51, 59, 66, 89, 68, 65, 89, 61, 45, 49, 70, 82, 44, 77, 79, 59, 66, 89, 83, 69, 84, 80, 79, 83, 61, 49, 59, 87, 75, 83, 84, 61, 83, 85])) 44 true, o1 47 (.pick (tm 44) (tm 46) (cb false)), o1 48 (.move (tm 47)), o2 49 (.move (tm 6)) 48 true, o2 50 (.call k_fault_Code [tm 49]) 48 true, o2 51 (.bin (.eql) (tm 50) (ci 8)) 48 true, o1 52 (.pick (tm 48) (tm 51) (cb false)), o1 53 (.move (tm 52)), o2 54 (.move (tm 6)) 53 true, o2 55 (.call k_fault_Place [tm 54]) 53 true, o2 56 (.bin (.eql) (tm 55) (ci 20)) 53 true, o1 57 (.pick (tm 53) (tm 56) (cb false)), o1 58 (.move (tm 57)), o2 59 (.move (tm 8)) 58 true, o2 60 (.call k_fault_Code [tm 59]) 58 true, o2 61 (.bin (.eql) (tm 60) (ci 9)) 58 true, o1 62 (.pick (tm 58) (tm 61) (cb false)), o1 63 (.move (tm 62)), o2 64 (.move (tm 8)) 63 true, o2 65 (.call k_fault_Place [tm 64]) 63 true, o2 66 (.bin (.eql) (tm 65) (ci 20)) 63 true, o1 67 (.pick (tm 63) (tm 66) (cb false)), o1 68 (.move (tm 67)), o2 69 (.load (some 15) (tm 1)) 68 true, o2 70 (.call k_recur_Check [tm 69]) 68 true, o2 71 (.bin (.eql) (tm 70) (ci 0)) 68 true, o1 72 (.pick (tm 68) (tm 71) (cb false)), o1 73 (.move (tm 72)), o2 74 (.build [.val (.int (.u8) 0), .val (.int (.i64) 0), .val (.int (.i64) 0), .val (.int (.u8) 0), .val (.int (.i64) 0), .nils, .nils, .nils, .nils, .nils, .nils, .nils, .nils, .nils, .val (.int (.i64) 0)] []) 73 true, o2 75 (.call k_recur_Check [tm 74]) 73 true, o2 76 (.bin (.eql) (tm 75) (ci 8)) 73 true, o1 77 (.pick (tm 73) (tm 76) (cb false)), o1 78 (.move (tm 77)), o2 79 (.load (some 15) (tm 1)) 78 true, o2 80 (.load (some 15) (tm 1)) 78 true, o2 81 (.call k_recur_Same [tm 79, tm 80]) 78 true, o1 82 (.pick (tm 78) (tm 81) (cb false)), o1 83 (.move (tm 82)), o2 84 (.load (some 15) (tm 1)) 83 true, o2 85 (.build [.val (.int (.u8) 0), .val (.int (.i64) 0), .val (.int (.i64) 0), .val (.int (.u8) 0), .val (.int (.i64) 0), .nils, .nils, .nils, .nils, .nils, .nils, .nils, .nils, .nils, .val (.int (.i64) 0)] []) 83 true, o2 86 (.call k_recur_Same [tm 84, tm 85]) 83 true, o2 87 (.un (.not) (tm 86)) 83 true, o1 88 (.pick (tm 83) (tm 87) (cb false)), o1 89 (.move (tm 88)), o1 90 (.pick (tm 89) (cb true) (cb false)), o1 91 (.move (tm 90)), o1 92 (.pick (tm 91) (cb true) (cb false)), o1 93 (.move (tm 92)), o1 94 (.pick (tm 93) (cb true) (cb false)), o1 95 (.move (tm 94)), o1 96 (.pick (tm 95) (cb true) (cb false)), o1 0 (.move (tm 96))] (.drawn [(4, 5)] (prs [(4, [(0, 3), (5, 5)]), (6, [(0, 5)]), (18, [(0, 17)]), (23, [(0, 22)]), (28, [(0, 27)]), (33, [(0, 32)]), (38, [(0, 37)]), (43, [(0, 42)]), (49, [(0, 48)]), (54, [(0, 53)])])) [32, 96]) (.ret)))))))
def r_law21_awake : List VRes := [.tmp 0]
theorem ok_law21_awake : FnOk Tryz.prog k_law21_awake c_law21_awake r_law21_awake 97 :=
 ⟨⟨Tryz.f48, _, Tryz.func48, by decide, rfl, by kernel_rfl, by kernel_rfl, by kernel_rfl, rfl⟩⟩

end Go.Vs.YtbchceojmblkkaaGreatDoor
namespace Go.Vs.YtbchceojmblkkaaGreatDoor.Rc
set_option linter.unusedSimpArgs false
set_option linter.unusedVariables false
open Go.Proofs Go.Vs.U8 Go.Vs.Pa Go.Vs.Cv Go.Vs.Mo Go.Vs.Nu Go.Lib
set_option maxRecDepth 100000
set_option maxHeartbeats 32000000
def awR : Ru := ⟨5, 1, 3, ⟨0, 0⟩, [], [], [], [(-1, 4), (0, 0)], [], [], [], [], [1], 6⟩
theorem aw1 : parseRu [66, 89, 68, 65, 89, 61, 45, 49, 70, 82, 44, 77, 79, 59, 70, 82, 69, 81, 61, 77, 79, 78, 84, 72, 76, 89, 59, 67, 79, 85, 78, 84, 61, 51, 59, 66, 89, 83, 69, 84, 80, 79, 83, 61, 49, 59, 87, 75, 83, 84, 61, 83, 85] = .ok awR := by kernel_rfl
theorem aw2 : parseRu [70, 82, 69, 81, 61, 68, 65, 73, 76, 89, 59, 66, 89, 72, 79, 85, 82, 61, 49, 44, 50, 52] = .no 8 [18, 2] := by kernel_rfl
theorem aw3 : parseRu [70, 82, 69, 81, 61, 68, 65, 73, 76, 89, 59, 66, 89, 68, 65, 89, 61, 49, 77, 79] = .no 9 [20] := by kernel_rfl
theorem aw4 : checkR awR = 0 := by kernel_rfl
theorem aw5 : checkR ru0 = 8 := by kernel_rfl
theorem aw6 : printR awR = [70, 82, 69, 81, 61, 77, 79, 78, 84, 72, 76, 89, 59, 67, 79, 85, 78, 84, 61, 51, 59, 66, 89, 68, 65, 89, 61, 45, 49, 70, 82, 44, 77, 79, 59, 66, 89, 83, 69, 84, 80, 79, 83, 61, 49, 59, 87, 75, 83, 84, 61, 83, 85] := by
 have e1 : itoa 1 = [49] := by rw [show (1 : Int) = ((1 : Nat) : Int) by rfl, itoa_nat, dec_small (by omega)]; rfl
 have e3 : itoa 3 = [51] := by rw [show (3 : Int) = ((3 : Nat) : Int) by rfl, itoa_nat, dec_small (by omega)]; rfl
 have em : itoa (-1) = [45, 49] := by rw [show (-1 : Int) = -((1 : Nat) : Int) by rfl, itoa_minus 1 (by omega), dec_small (by omega)]; rfl
 have d1 : printD [(-1, 4), (0, 0)] = [45, 49, 70, 82, 44, 77, 79] := by
  simp only [printD, List.map_cons, List.map_nil, Go.Vs.YtbchceojmblkkaaGreatDoor.dayT, em]
  rfl
 have n1 : printN [1] = [49] := by simp only [printN, List.map_cons, List.map_nil, e1]; rfl
 have n0 : printN [] = [] := rfl
 have t : texts awR = [[70, 82, 69, 81, 61, 77, 79, 78, 84, 72, 76, 89], [67, 79, 85, 78, 84, 61, 51], [66, 89, 68, 65, 89, 61, 45, 49, 70, 82, 44, 77, 79], [66, 89, 83, 69, 84, 80, 79, 83, 61, 49], [87, 75, 83, 84, 61, 83, 85]] := by
  simp only [texts, pairs, awR, listPs, listKs, valP, lst, d1, n1, n0, e3, e1, optP]
  rfl
 rw [printR, t]
 rfl
theorem aw7 : decide (awR = awR) = true := by simp
theorem aw8 : decide (awR = ru0) = false := by
 rw [decide_eq_false_iff_not]
 intro h
 have : awR.f = ru0.f := by rw [h]
 exact absurd this (by decide)
theorem aw_fit : FitR awR := by simp [FitR, awR]
theorem fn_rawake : Fn G2 Tryz.prog k_law21_awake [] (.bool true) := by
 refine fn_intro hm ok_law21_awake (by simp) ?_
 have h1 := fn_rcParse [66, 89, 68, 65, 89, 61, 45, 49, 70, 82, 44, 77, 79, 59, 70, 82, 69, 81, 61, 77, 79, 78, 84, 72, 76, 89, 59, 67, 79, 85, 78, 84, 61, 51, 59, 66, 89, 83, 69, 84, 80, 79, 83, 61, 49, 59, 87, 75, 83, 84, 61, 83, 85] (by decide)
 have h2 := fn_rcParse [70, 82, 69, 81, 61, 68, 65, 73, 76, 89, 59, 66, 89, 72, 79, 85, 82, 61, 49, 44, 50, 52] (by decide)
 have h3 := fn_rcParse [70, 82, 69, 81, 61, 68, 65, 73, 76, 89, 59, 66, 89, 68, 65, 89, 61, 49, 77, 79] (by decide)
 have h4 := fn_recPrint awR aw_fit (by simp [awR]) (by simp [awR])
 have h5 := fn_rBack awR aw_fit
 have h6 := fn_dSameR awR awR aw_fit aw_fit
 have h7 := fn_Check' awR aw_fit (by simp [awR])
 have h8 := fn_Check' ru0 (by simp [FitR, ru0]) (by simp [ru0])
 have h9 := fn_recSame awR awR aw_fit aw_fit
 have h10 := fn_recSame awR ru0 aw_fit (by simp [FitR, ru0])
 have g2 := up (fn_Code 8 [18, 2])
 have g3 := up (fn_Place 8 [18, 2] (by simp) (by simp))
 have g4 := up (fn_Code 9 [20])
 have g5 := up (fn_Place 9 [20] (by simp) (by simp))
 rw [aw1] at h1
 rw [aw2] at h2
 rw [aw3] at h3
 unfold rtI at h4
 rw [aw4, if_pos rfl, aw6] at h4
 rw [aw4] at h7
 rw [aw5] at h8
 rw [aw7] at h6 h9
 rw [aw8] at h10
 simp only [ruI, Ru.iv, cells, awR, ru0, is, dns, List.map_cons, List.map_nil, List.sum_cons, List.sum_nil, Int.add_zero, Int.reduceAdd, errIV] at h1 h2 h3 h4 h5 h6 h7 h8 h9 h10 g2 g3 g4 g5
 simp [c_law21_awake, r_law21_awake]
 refine callW_imm h1 ?_
 simp (disch := omega) [br_yes, br_no, wrap_i64, wrap_u8, wrap_i32, List.getElem?_cons_zero, List.getElem?_cons_succ]
 refine callW_imm h4 ?_
 simp (disch := omega) [br_yes, br_no, wrap_i64, wrap_u8, wrap_i32, List.getElem?_cons_zero, List.getElem?_cons_succ]
 refine callW_imm h2 ?_
 simp (disch := omega) [br_yes, br_no, wrap_i64, wrap_u8, wrap_i32, List.getElem?_cons_zero, List.getElem?_cons_succ]
 refine callW_imm h3 ?_
 simp (disch := omega) [br_yes, br_no, wrap_i64, wrap_u8, wrap_i32, List.getElem?_cons_zero, List.getElem?_cons_succ]
 refine callW_imm h5 ?_
 simp (disch := omega) [br_yes, br_no, wrap_i64, wrap_u8, wrap_i32, List.getElem?_cons_zero, List.getElem?_cons_succ]
 refine callW_imm h6 ?_
 simp (disch := omega) [br_yes, br_no, wrap_i64, wrap_u8, wrap_i32, List.getElem?_cons_zero, List.getElem?_cons_succ]
 refine callW_imm g2 ?_
 simp (disch := omega) [br_yes, br_no, wrap_i64, wrap_u8, wrap_i32, List.getElem?_cons_zero, List.getElem?_cons_succ]
 refine callW_imm g3 ?_
 simp (disch := omega) [br_yes, br_no, wrap_i64, wrap_u8, wrap_i32, List.getElem?_cons_zero, List.getElem?_cons_succ]
 refine callW_imm g4 ?_
 simp (disch := omega) [br_yes, br_no, wrap_i64, wrap_u8, wrap_i32, List.getElem?_cons_zero, List.getElem?_cons_succ]
 refine callW_imm g5 ?_
 simp (disch := omega) [br_yes, br_no, wrap_i64, wrap_u8, wrap_i32, List.getElem?_cons_zero, List.getElem?_cons_succ]
 refine callW_imm h7 ?_
 simp (disch := omega) [br_yes, br_no, wrap_i64, wrap_u8, wrap_i32, List.getElem?_cons_zero, List.getElem?_cons_succ]
 refine callW_imm h8 ?_
 simp (disch := omega) [br_yes, br_no, wrap_i64, wrap_u8, wrap_i32, List.getElem?_cons_zero, List.getElem?_cons_succ]
 refine callW_imm h9 ?_
 simp (disch := omega) [br_yes, br_no, wrap_i64, wrap_u8, wrap_i32, List.getElem?_cons_zero, List.getElem?_cons_succ]
 refine callW_imm h10 ?_
 simp (disch := omega) [br_yes, br_no, wrap_i64, wrap_u8, wrap_i32, List.getElem?_cons_zero, List.getElem?_cons_succ]
 rfl
end Go.Vs.YtbchceojmblkkaaGreatDoor.Rc
namespace Go.Vs.YtbchceojmblkkaaGreatDoor.Rc
set_option linter.unusedSimpArgs false
set_option linter.unusedVariables false
open Go.Proofs Go.Vs.U8 Go.Vs.Pa Go.Vs.Cv Go.Vs.Mo Go.Vs.Nu Go.Lib
set_option maxRecDepth 100000
set_option maxHeartbeats 32000000
theorem fit_small {r : Ru} (h : smallR r = true) : FitR r := by
 simp only [smallR, decide_eq_true_eq] at h
 unfold FitR
 omega
end Go.Vs.YtbchceojmblkkaaGreatDoor.Rc
namespace Go.Vs.YtbchceojmblkkaaGreatDoor.Rc
set_option linter.unusedSimpArgs false
set_option linter.unusedVariables false
open Go.Proofs Go.Vs.U8 Go.Vs.Pa Go.Vs.Cv Go.Vs.Mo Go.Vs.Nu Go.Lib
set_option maxRecDepth 100000
set_option maxHeartbeats 4000000
theorem rints : ∀ {rows : List (List IV)}, (∀ row ∈ rows, Sh (.int .i64) row) → ∃ l, rows = is l
 | [], _ => ⟨[], rfl⟩
 | r :: rs, h => by
  obtain ⟨n, rfl, _⟩ := h r (by simp)
  obtain ⟨l, rfl⟩ := rints (rows := rs) (fun x hx => h x (by simp [hx]))
  exact ⟨n :: l, rfl⟩
def scDn : Sc := .struct [.int .i64, .int .i64]
theorem rdays : ∀ {rows : List (List IV)}, (∀ row ∈ rows, Sh scDn row) → ∃ l, rows = dns l
 | [], _ => ⟨[], rfl⟩
 | r :: rs, h => by
  obtain ⟨a, b, rfl, ⟨n, rfl, _⟩, c, e, rfl, ⟨m, rfl, _⟩, he⟩ := h r (by simp)
  have he : e = [] := he
  subst he
  obtain ⟨l, rfl⟩ := rdays (rows := rs) (fun x hx => h x (by simp [hx]))
  exact ⟨(n, m) :: l, rfl⟩
def scRu : Sc := .struct [.int .u8, .int .i64, .int .i64, .struct [.int .u8, .int .i64], .slice (.int .i64), .slice (.int .i64), .slice (.int .i64), .slice scDn, .slice (.int .i64), .slice (.int .i64), .slice (.int .i64), .slice (.int .i64), .slice (.int .i64), .int .i64]
theorem u8_pos {n : Int} (h : (Lit.int .u8 n).wf = true) : 0 ≤ n := by
 simp [Lit.wf] at h
 have h1 : IntKind.u8.min = 0 := by rfl
 simp only [h1] at h
 exact h.1
theorem rule_of {l : List IV} (h : Sh scRu l) : ∃ r : Ru, l = cells r ∧ 0 ≤ r.f ∧ 0 ≤ r.u.k := by
 obtain ⟨_, _, rfl, ⟨f, rfl, hf⟩, _, _, rfl, ⟨i, rfl, _⟩, _, _, rfl, ⟨c, rfl, _⟩, _, _, rfl, hu, _, _, rfl, ⟨r4, rfl, _, h4⟩, _, _, rfl, ⟨r5, rfl, _, h5⟩, _, _, rfl, ⟨r6, rfl, _, h6⟩, _, _, rfl, ⟨r7, rfl, _, h7⟩, _, _, rfl, ⟨r8, rfl, _, h8⟩, _, _, rfl, ⟨r9, rfl, _, h9⟩, _, _, rfl, ⟨r10, rfl, _, h10⟩, _, _, rfl, ⟨r11, rfl, _, h11⟩, _, _, rfl, ⟨r12, rfl, _, h12⟩, _, e, rfl, ⟨w, rfl, _⟩, he⟩ := h
 have he : e = [] := he
 subst he
 obtain ⟨_, _, rfl, ⟨uk, rfl, hk⟩, _, e2, rfl, ⟨us, rfl, _⟩, he2⟩ := hu
 have he2 : e2 = [] := he2
 subst he2
 obtain ⟨l4, rfl⟩ := rints h4
 obtain ⟨l5, rfl⟩ := rints h5
 obtain ⟨l6, rfl⟩ := rints h6
 obtain ⟨l7, rfl⟩ := rdays h7
 obtain ⟨l8, rfl⟩ := rints h8
 obtain ⟨l9, rfl⟩ := rints h9
 obtain ⟨l10, rfl⟩ := rints h10
 obtain ⟨l11, rfl⟩ := rints h11
 obtain ⟨l12, rfl⟩ := rints h12
 exact ⟨⟨f, i, c, ⟨uk, us⟩, l4, l5, l6, l7, l8, l9, l10, l11, l12, w⟩, rfl, u8_pos hf, u8_pos hk⟩
end Go.Vs.YtbchceojmblkkaaGreatDoor.Rc
