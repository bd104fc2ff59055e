/-
  DERIVED: THE SHELF's CONTRACTS AT THIS DUMP, IN PLAIN WORDS (tools/lay-plain.mjs out of 'TryzShelf.lean', which tools/lay-shelf.mjs wrote): THE SAME DECLARATIONS UNDER THE SAME NAMES: 'import', 'namespace', 'open', 'def', 'theorem' AND NOTHING ELSE: no command of the shelf's: FOR A HAND-IN. Each laying: the table of numbers ('.._ren') and one theorem, a field a fact of the dump's own or the kernel's comparison; each contract: ONE APPLICATION.
-/
import Derived.Shelf.Strings.Builder1
import Derived.Shelf.Strings.OnBuilder
import Derived.Shelf.LaysM
import Derived.Shelf.Strconv.Itoa3
import Derived.Shelf.Strings.IndexAnyAll
import Derived.Shelf.Unicode.DecodeSlow
import Derived.Shelf.Unicode.DecodeAny
import Derived.Test.YtbchceojmblkkaaGreatDoorProg
import Derived.Test.YtbchceojmblkkaaGreatDoorNA
import Derived.Test.YtbchceojmblkkaaGreatDoorBI
import Derived.Test.YtbchceojmblkkaaGreatDoorRows
import Derived.KernelRfl
set_option linter.unusedVariables false
set_option linter.unusedSimpArgs false
namespace Go.Proofs
open Go.Shelf
def Tryz.lays150_ren : Go.Shelf.Ren := ⟨fun | 150 => 220 | 153 => 242 | 152 => 235 | 226 => 250 | 227 => 176 | 228 => 210 | 137 => 85 | 119 => 247 | 224 => 228 | 225 => 227 | 217 => 146 | 266 => 185 | n => n, fun | 9 => 9 | 4 => 4 | 3 => 3 | 5 => 5 | 21 => 21 | 117 => 261 | 116 => 260 | 0 => 0 | 46 => 300 | 124 => 264 | n => n, fun | n => n⟩
theorem Tryz.lays150 : Go.Proofs.Lays.n150 Tryz.prog Tryz.lays150_ren := {
  mixed := by kernel_rfl
  f119 := Tryz.func247.trans (congrArg some (by kernel_rfl))
  f137 := Tryz.func85.trans (congrArg some (by kernel_rfl))
  f150 := Tryz.func220.trans (congrArg some (by kernel_rfl))
  f152 := Tryz.func235.trans (congrArg some (by kernel_rfl))
  f153 := Tryz.func242.trans (congrArg some (by kernel_rfl))
  f217 := Tryz.func146.trans (congrArg some (by kernel_rfl))
  f224 := Tryz.func228.trans (congrArg some (by kernel_rfl))
  f225 := Tryz.func227.trans (congrArg some (by kernel_rfl))
  f226 := Tryz.func250.trans (congrArg some (by kernel_rfl))
  f227 := Tryz.func176.trans (congrArg some (by kernel_rfl))
  f228 := Tryz.func210.trans (congrArg some (by kernel_rfl))
  f266 := Tryz.func185.trans (congrArg some (by kernel_rfl))
  t0 := Tryz.underlying0
  a0 := Tryz.isAgg0
  z0 := Tryz.sizeOf0
  v0 := Tryz.zeroValue0
  t3 := Tryz.underlying3
  a3 := Tryz.isAgg3
  z3 := Tryz.sizeOf3
  v3 := Tryz.zeroValue3
  t4 := Tryz.underlying4
  a4 := Tryz.isAgg4
  z4 := Tryz.sizeOf4
  v4 := Tryz.zeroValue4
  t5 := Tryz.underlying5
  a5 := Tryz.isAgg5
  z5 := Tryz.sizeOf5
  v5 := Tryz.zeroValue5
  t9 := Tryz.underlying9
  a9 := Tryz.isAgg9
  z9 := Tryz.sizeOf9
  v9 := Tryz.zeroValue9
  t21 := Tryz.underlying21
  a21 := Tryz.isAgg21
  z21 := Tryz.sizeOf21
  v21 := Tryz.zeroValue21
  t46 := Tryz.underlying300
  a46 := Tryz.isAgg300
  z46 := Tryz.sizeOf300
  v46 := Tryz.zeroValue300
  t116 := Tryz.underlying260
  a116 := Tryz.isAgg260
  z116 := Tryz.sizeOf260
  t117 := Tryz.underlying261
  a117 := Tryz.isAgg261
  z117 := Tryz.sizeOf261
  v117 := Tryz.zeroValue261
  t124 := Tryz.underlying264
  a124 := Tryz.isAgg264
  z124 := Tryz.sizeOf264
  v124 := Tryz.zeroValue264 }
end Go.Proofs
namespace Go.Vs.YtbchceojmblkkaaGreatDoor
set_option linter.unusedSimpArgs false
set_option linter.unusedVariables false
open Go.Proofs
set_option maxRecDepth 100000
set_option maxHeartbeats 4000000

def k_law17_Small : Nat := 77
def k_param_Find : Nat := 86
def k_param_PrintAll : Nat := 88
def k_param_Parse : Nat := 90
def k_law17_Own : Nat := 94
def k_param_Name : Nat := 95
def k_param_CheckAll : Nat := 96
def k_strings_Split : Nat := 102
def k_slices_Clone_string : Nat := 147
def k_param_Print : Nat := 148
def k_param_one : Nat := 149
def k_param_named : Nat := 151
def k_param_Check : Nat := 152
def k_param_Same : Nat := 153
def k_strings_genSplit : Nat := 155
def k_strings_makeASCIISet : Nat := 176
def k_param_written : Nat := 186
def k_param_value : Nat := 187
def k_slices_EqualFunc_Param : Nat := 189
def k_param_Same_1 : Nat := 190
def k_slices_Equal_string : Nat := 191
def k_strings_Count : Nat := 193
def k_strings_Index : Nat := 194
def k_internal_stringslite_Index : Nat := 195
def k__strings_asciiSet_contains : Nat := 210
def k_param_written_1 : Nat := 219
def k_strings_ContainsAny : Nat := 220
def k_param_quoted : Nat := 221
def k_param_stop : Nat := 222
def k_param_checked : Nat := 223
def k_strings_IndexRune : Nat := 235
def k_strings_IndexAny : Nat := 242
def k_param_meant : Nat := 243
def k_unicode_utf8_ValidRune : Nat := 247
def k_strings_shouldUseASCIISet : Nat := 250
/-- function 77 -/
def c_law17_Small : VCode :=
  .seq (rt [o1 2 (.move (cb false))] []) (.seq (.seq (rt [o1 5 (.move (tm 0)), o1 6 (.lenV (tm 5)), o1 7 (.bin (.gtr) (tm 6) (ci 10))] [5, 6]) (.cond (tm 7) (.seq (rt [o1 2 (.move (cb false))] []) (.ret)) (.skip))) (.seq (.seq (rt [o1 3 (.move (ci 0))] []) (.block 0 (.loop (.seq (.seq (rt [o1 8 (.move (tm 3)), o1 9 (.move (tm 0)), o1 10 (.lenV (tm 9)), o1 11 (.bin (.lss) (tm 8) (tm 10))] [8, 10]) (.cond (tm 11) (.skip) (.exit 0))) (.seq (.block 1 (.seq (.seq (rt [o1 14 (.move (tm 0)), o1 15 (.move (tm 3)), o1 16 (.indexAddr 2 (tm 14) (tm 15)), o1 17 (.fieldAddr 0 (tm 16)), o1 18 (.load none (tm 17)), o1 19 (.lenS (tm 18)), o1 20 (.bin (.gtr) (tm 19) (ci 40)), o1 21 (.move (tm 20)), o2 22 (.move (tm 0)) 21 false, o2 23 (.move (tm 3)) 21 false, o2 24 (.indexAddr 2 (tm 22) (tm 23)) 21 false, o2 25 (.fieldAddr 1 (tm 24)) 21 false, o2 26 (.load none (tm 25)) 21 false, o2 27 (.lenV (tm 26)) 21 false, o2 28 (.bin (.gtr) (tm 27) (ci 10)) 21 false, o1 29 (.pick (tm 21) (cb true) (tm 28))] [14, 28]) (.cond (tm 29) (.seq (rt [o1 2 (.move (cb false))] []) (.ret)) (.skip))) (.seq (rt [o1 4 (.move (ci 0))] []) (.block 2 (.loop (.seq (.seq (rt [o1 30 (.move (tm 4)), o1 31 (.move (tm 0)), o1 32 (.move (tm 3)), o1 33 (.indexAddr 2 (tm 31) (tm 32)), o1 34 (.fieldAddr 1 (tm 33)), o1 35 (.load none (tm 34)), o1 36 (.lenV (tm 35)), o1 37 (.bin (.lss) (tm 30) (tm 36))] [30, 36]) (.cond (tm 37) (.skip) (.exit 2))) (.seq (.block 3 (.seq (rt [o1 40 (.move (tm 0)), o1 41 (.move (tm 3)), o1 42 (.indexAddr 2 (tm 40) (tm 41)), o1 43 (.fieldAddr 1 (tm 42)), o1 44 (.load none (tm 43)), o1 45 (.move (tm 4)), o1 46 (.indexAddr 1 (tm 44) (tm 45)), o1 47 (.load none (tm 46)), o1 48 (.lenS (tm 47)), o1 49 (.bin (.gtr) (tm 48) (ci 80))] [40, 48]) (.cond (tm 49) (.seq (rt [o1 2 (.move (cb false))] []) (.ret)) (.skip)))) (rt [o1 38 (.move (tm 4)), o1 39 (.bin (.add) (tm 38) (ci 1)), o1 4 (.move (tm 39))] [38, 39])))))))) (rt [o1 12 (.move (tm 3)), o1 13 (.bin (.add) (tm 12) (ci 1)), o1 3 (.move (tm 13))] [12, 13])))))) (.seq (rt [o1 2 (.move (cb true))] []) (.ret))))
def r_law17_Small : List VRes := [.tmp 2]
theorem ok_law17_Small : FnOk Tryz.prog k_law17_Small c_law17_Small r_law17_Small 50 :=
  ⟨⟨Tryz.f77, _, Tryz.func77, by decide, rfl, by kernel_rfl, by kernel_rfl, by kernel_rfl, rfl⟩⟩

/-- function 86 -/
def c_param_Find : VCode :=
  .seq (rt [o1 4 (.alloc [.val (.str []), .nils]), o1 5 (.move (cb false))] []) (.seq (.seq (rt [o1 8 (.move (tm 0)), o1 9 (.lenV (tm 8)), o1 10 (.move (ci 0))] []) (.block 0 (.loop (.seq (rt [o1 11 (.bin (.lss) (tm 10) (tm 9))] []) (.seq (.cond (tm 11) (.skip) (.exit 0)) (.seq (.block 1 (.seq (rt [o1 12 (.indexAddr 2 (tm 8) (tm 10)), o1 13 (.load (some 2) (tm 12)), o1 7 (.alloc [.val (.str []), .nils]), o3 (.store 2 (tm 7) (tm 13))] [12, 13]) (.seq (rt [o1 14 (.fieldAddr 0 (tm 7)), o1 15 (.load none (tm 14)), o1 16 (.move (tm 1)), o1 17 (.bin (.eql) (tm 15) (tm 16))] [14, 16]) (.cond (tm 17) (.seq (.region [o1 18 (.fieldAddr 0 (tm 7)), o1 19 (.load none (tm 18)), o1 20 (.fieldAddr 1 (tm 7)), o1 21 (.load none (tm 20)), o1 22 (.call k_slices_Clone_string [tm 21]), o1 23 (.build [.val (.str []), .nils] [(0, 1, tm 19), (1, 1, tm 22)]), o3 (.store 2 (tm 4) (tm 23)), o1 5 (.move (cb true))] (.drawn [(0, 4), (1, 4)] (prs [(4, [(0, 3)])])) [18, 23]) (.ret)) (.skip))))) (rt [o1 24 (.bin (.add) (tm 10) (ci 1)), o1 10 (.move (tm 24))] [24, 24]))))))) (.seq (rt [o1 25 (.build [.val (.str []), .nils] []), o3 (.store 2 (tm 4) (tm 25)), o1 5 (.move (cb false))] [25, 25]) (.ret)))
def r_param_Find : List VRes := [.cell 4 (some 2), .tmp 5]
theorem ok_param_Find : FnOk Tryz.prog k_param_Find c_param_Find r_param_Find 26 :=
  ⟨⟨Tryz.f86, _, Tryz.func86, by decide, rfl, by kernel_rfl, by kernel_rfl, by kernel_rfl, rfl⟩⟩

/-- function 88 -/
def c_param_PrintAll : VCode :=
  .seq (rt [o1 2 (.move (cs [])), o1 3 (.move (ci 0))] []) (.seq (.seq (rt [o1 10 (.move (tm 0)), o1 11 (.call k_param_CheckAll [tm 10]), o1 4 (.move (tm 11))] [10, 11]) (.seq (rt [o1 12 (.move (tm 4)), o1 13 (.bin (.neq) (tm 12) (ci 0))] [12, 12]) (.cond (tm 13) (.seq (rt [o1 14 (.move (tm 4)), o1 2 (.move (cs [])), o1 3 (.move (tm 14))] [14, 14]) (.ret)) (.skip)))) (.seq (rt [o1 5 (.allocB 208)] []) (.seq (.seq (rt [o1 15 (.move (tm 0)), o1 16 (.lenV (tm 15)), o1 17 (.move (ci 0))] []) (.block 0 (.loop (.seq (rt [o1 18 (.bin (.lss) (tm 17) (tm 16))] []) (.seq (.cond (tm 18) (.skip) (.exit 0)) (.seq (.block 1 (.seq (rt [o1 19 (.indexAddr 2 (tm 15) (tm 17)), o1 20 (.load (some 2) (tm 19)), o1 7 (.alloc [.val (.str []), .nils]), o3 (.store 2 (tm 7) (tm 20))] [19, 20]) (.seq (rt [o1 22 (.load (some 2) (tm 7)), o1 23 (.call k_param_Print [tm 22]), o1 21 (.move (tm 23)), o1 24 (.extract (tm 21) 0), o1 25 (.extract (tm 21) 1), o1 8 (.move (tm 24)), o1 9 (.move (tm 25))] [9, 9, 21, 25]) (rt [o1 26 (.move (tm 8)), o1 27 (.callM k__strings_Builder_WriteString [tm 5, tm 26])] [26, 27])))) (rt [o1 28 (.bin (.add) (tm 17) (ci 1)), o1 17 (.move (tm 28))] [28, 28]))))))) (.seq (rt [o1 29 (.callM k__strings_Builder_String [tm 5]), o1 2 (.move (tm 29)), o1 3 (.move (ci 0))] [29, 29]) (.ret)))))
def r_param_PrintAll : List VRes := [.tmp 2, .tmp 3]
theorem ok_param_PrintAll : FnOk Tryz.prog k_param_PrintAll c_param_PrintAll r_param_PrintAll 30 :=
  ⟨⟨Tryz.f88, _, Tryz.func88, by decide, rfl, by kernel_rfl, by kernel_rfl, by kernel_rfl, rfl⟩⟩

/-- function 90 -/
def c_param_Parse : VCode :=
  .seq (rt [o1 2 (.move (.const (.nils))), o1 3 (.move (ci 0)), o1 4 (.move (.const (.val (.nili))))] []) (.seq (rt [o1 5 (.move (.const (.nils)))] []) (.seq (rt [o1 6 (.move (ci 0))] []) (.seq (.block 0 (.loop (.seq (.seq (rt [o1 10 (.move (tm 6)), o1 11 (.move (tm 0)), o1 12 (.lenS (tm 11)), o1 13 (.bin (.lss) (tm 10) (tm 12)), o1 14 (.move (tm 13)), o2 15 (.move (tm 0)) 14 true, o2 16 (.move (tm 6)) 14 true, o2 17 (.indexS (tm 15) (tm 16)) 14 true, o2 18 (.bin (.eql) (tm 17) (cu 59)) 14 true, o1 19 (.pick (tm 14) (tm 18) (cb false))] [10, 18]) (.cond (tm 19) (.skip) (.exit 0))) (.block 1 (.seq (.seq (rt [o1 20 (.move (tm 5)), o1 21 (.lenV (tm 20)), o1 22 (.bin (.eql) (tm 21) (ci 6))] [20, 21]) (.cond (tm 22) (.seq (rt [o1 23 (.move (tm 6)), o1 24 (.call k_fault_New [ci 20, tm 23]), o1 2 (.move (.const (.nils))), o1 3 (.move (ci 0)), o1 4 (.move (tm 24))] [23, 24]) (.ret)) (.skip))) (.seq (rt [o1 26 (.move (tm 0)), o1 27 (.move (tm 6)), o1 28 (.bin (.add) (tm 27) (ci 1)), o1 29 (.move (tm 5)), o1 30 (.call k_param_one [tm 26, tm 28, tm 29]), o1 25 (.move (tm 30)), o1 31 (.extract (tm 25) 0), o1 32 (.extract (tm 25) 1), o1 33 (.extract (tm 25) 2), o1 7 (.alloc [.val (.str []), .nils]), o3 (.store 2 (tm 7) (tm 31)), o1 8 (.move (tm 32)), o1 9 (.move (tm 33))] [25, 33]) (.seq (.seq (rt [o1 34 (.move (tm 9)), o1 35 (.eqN true (tm 34))] [34, 34]) (.cond (tm 35) (.seq (rt [o1 36 (.move (tm 9)), o1 2 (.move (.const (.nils))), o1 3 (.move (ci 0)), o1 4 (.move (tm 36))] [36, 36]) (.ret)) (.skip))) (.seq (rt [o1 37 (.move (tm 5)), o1 38 (.load (some 2) (tm 7)), o1 39 (.buildSlice 2 1 [.val (.str []), .nils] [(0, 2, tm 38)]), o1 40 (.append 140 2 40 (tm 37) (tm 39)), o1 5 (.move (tm 40))] [37, 40]) (rt [o1 41 (.move (tm 8)), o1 6 (.move (tm 41))] [41, 41]))))))))) (.seq (rt [o1 42 (.move (tm 5)), o1 43 (.move (tm 6)), o1 2 (.move (tm 42)), o1 3 (.move (tm 43)), o1 4 (.move (.const (.val (.nili))))] [42, 43]) (.ret)))))
def r_param_Parse : List VRes := [.tmp 2, .tmp 3, .tmp 4]
theorem ok_param_Parse : FnOk Tryz.prog k_param_Parse c_param_Parse r_param_Parse 44 :=
  ⟨⟨Tryz.f90, _, Tryz.func90, by decide, rfl, by kernel_rfl, by kernel_rfl, by kernel_rfl, rfl⟩⟩

/-- function 94 -/
def c_law17_Own : VCode :=
  .seq (rt [o1 2 (.move (.const (.nils)))] []) (.seq (rt [o1 3 (.move (.const (.nils)))] []) (.seq (.seq (rt [o1 4 (.move (ci 0))] []) (.block 0 (.loop (.seq (.seq (rt [o1 6 (.move (tm 4)), o1 7 (.move (tm 0)), o1 8 (.lenV (tm 7)), o1 9 (.bin (.lss) (tm 6) (tm 8))] [6, 8]) (.cond (tm 9) (.skip) (.exit 0))) (.seq (.block 1 (.seq (rt [o1 12 (.move (tm 0)), o1 13 (.move (tm 4)), o1 14 (.indexAddr 2 (tm 12) (tm 13)), o1 15 (.fieldAddr 0 (tm 14)), o1 16 (.load none (tm 15)), o1 17 (.build [.val (.str []), .nils] [(0, 1, tm 16)]), o1 5 (.alloc [.val (.str []), .nils]), o3 (.store 2 (tm 5) (tm 17))] [12, 17]) (.seq (.region [o1 18 (.fieldAddr 1 (tm 5)), o1 19 (.load none (tm 18)), o1 20 (.move (tm 0)), o1 21 (.move (tm 4)), o1 22 (.indexAddr 2 (tm 20) (tm 21)), o1 23 (.fieldAddr 1 (tm 22)), o1 24 (.load none (tm 23)), o1 25 (.append 9 1 16 (tm 19) (tm 24)), o1 26 (.fieldAddr 1 (tm 5)), o3 (.store 1 (tm 26) (tm 25))] (.drawn [] (prs [(7, [(0, 6)])])) [18, 26]) (rt [o1 27 (.move (tm 3)), o1 28 (.load (some 2) (tm 5)), o1 29 (.buildSlice 2 1 [.val (.str []), .nils] [(0, 2, tm 28)]), o1 30 (.append 140 2 40 (tm 27) (tm 29)), o1 3 (.move (tm 30))] [27, 30])))) (rt [o1 10 (.move (tm 4)), o1 11 (.bin (.add) (tm 10) (ci 1)), o1 4 (.move (tm 11))] [10, 11])))))) (.seq (rt [o1 31 (.move (tm 3)), o1 2 (.move (tm 31))] [31, 31]) (.ret))))
def r_law17_Own : List VRes := [.tmp 2]
theorem ok_law17_Own : FnOk Tryz.prog k_law17_Own c_law17_Own r_law17_Own 32 :=
  ⟨⟨Tryz.f94, _, Tryz.func94, by decide, rfl, by kernel_rfl, by kernel_rfl, by kernel_rfl, rfl⟩⟩

/-- function 95 -/
def c_param_Name : VCode :=
  .seq (rt [o1 2 (.move (cb false))] []) (.seq (rt [o1 3 (.move (tm 0)), o1 4 (.bin (.neq) (tm 3) (cs [])), o1 5 (.move (tm 4)), o2 6 (.move (tm 0)) 5 true, o2 7 (.lenS (tm 6)) 5 true, o2 8 (.bin (.leq) (tm 7) (ci 24)) 5 true, o1 9 (.pick (tm 5) (tm 8) (cb false)), o1 10 (.move (tm 9)), o2 11 (.move (tm 0)) 10 true, o2 12 (.call k_param_named [tm 11]) 10 true, o2 13 (.move (tm 0)) 10 true, o2 14 (.lenS (tm 13)) 10 true, o2 15 (.bin (.eql) (tm 12) (tm 14)) 10 true, o1 16 (.pick (tm 10) (tm 15) (cb false)), o1 17 (.move (tm 16)), o2 18 (.move (tm 0)) 17 true, o2 19 (.call k_utf_Upper [tm 18]) 17 true, o2 20 (.move (tm 0)) 17 true, o2 21 (.bin (.eql) (tm 19) (tm 20)) 17 true, o1 22 (.pick (tm 17) (tm 21) (cb false)), o1 2 (.move (tm 22))] [3, 22]) (.ret))
def r_param_Name : List VRes := [.tmp 2]
theorem ok_param_Name : FnOk Tryz.prog k_param_Name c_param_Name r_param_Name 23 :=
  ⟨⟨Tryz.f95, _, Tryz.func95, by decide, rfl, by kernel_rfl, by kernel_rfl, by kernel_rfl, rfl⟩⟩

/-- function 96 -/
def c_param_CheckAll : VCode :=
  .seq (rt [o1 2 (.move (ci 0))] []) (.seq (.seq (rt [o1 10 (.move (tm 0)), o1 11 (.lenV (tm 10)), o1 12 (.bin (.gtr) (tm 11) (ci 6))] [10, 11]) (.cond (tm 12) (.seq (rt [o1 2 (.move (ci 20))] []) (.ret)) (.skip))) (.seq (.seq (rt [o1 13 (.move (tm 0)), o1 14 (.lenV (tm 13)), o1 15 (.move (ci 0))] []) (.block 0 (.loop (.seq (rt [o1 16 (.bin (.lss) (tm 15) (tm 14))] []) (.seq (.cond (tm 16) (.skip) (.exit 0)) (.seq (.block 1 (.seq (rt [o1 17 (.indexAddr 2 (tm 13) (tm 15)), o1 18 (.load (some 2) (tm 17)), o1 4 (.alloc [.val (.str []), .nils]), o3 (.store 2 (tm 4) (tm 18))] [17, 18]) (.seq (rt [o1 19 (.load (some 2) (tm 4)), o1 20 (.call k_param_Check [tm 19]), o1 5 (.move (tm 20))] [19, 20]) (.seq (rt [o1 21 (.move (tm 5)), o1 22 (.bin (.neq) (tm 21) (ci 0))] [21, 21]) (.cond (tm 22) (.seq (rt [o1 23 (.move (tm 5)), o1 2 (.move (tm 23))] [23, 23]) (.ret)) (.skip)))))) (rt [o1 24 (.bin (.add) (tm 15) (ci 1)), o1 15 (.move (tm 24))] [24, 24]))))))) (.seq (.seq (rt [o1 25 (.move (tm 0)), o1 26 (.lenV (tm 25)), o1 27 (.move (ci 0))] []) (.block 2 (.loop (.seq (rt [o1 28 (.bin (.lss) (tm 27) (tm 26))] []) (.seq (.cond (tm 28) (.skip) (.exit 2)) (.seq (.block 3 (.seq (rt [o1 29 (.move (tm 27)), o1 30 (.indexAddr 2 (tm 25) (tm 27)), o1 31 (.load (some 2) (tm 30)), o1 7 (.alloc [.val (.str []), .nils]), o1 6 (.move (tm 29)), o3 (.store 2 (tm 7) (tm 31))] [29, 31]) (.seq (.region [o1 33 (.move (tm 0)), o1 34 (.move (tm 6)), o1 35 (.subV 2 (tm 33) none (some (tm 34)) none), o1 36 (.fieldAddr 0 (tm 7)), o1 37 (.load none (tm 36)), o1 38 (.call k_param_Find [tm 35, tm 37]), o1 32 (.move (tm 38)), o1 39 (.extract (tm 32) 0), o1 40 (.extract (tm 32) 1), o1 8 (.alloc [.val (.str []), .nils]), o3 (.store 2 (tm 8) (tm 39)), o1 9 (.move (tm 40))] (.drawn [(0, 9), (1, 9), (2, 9), (3, 9), (4, 9), (5, 9), (6, 9), (7, 9), (8, 9)] (prs [(5, [(0, 4), (9, 9)]), (9, [(0, 8)])])) [8, 8, 32, 40]) (.seq (rt [o1 41 (.move (tm 9))] []) (.cond (tm 41) (.seq (rt [o1 2 (.move (ci 19))] []) (.ret)) (.skip)))))) (rt [o1 42 (.bin (.add) (tm 27) (ci 1)), o1 27 (.move (tm 42))] [42, 42]))))))) (.seq (rt [o1 2 (.move (ci 0))] []) (.ret)))))
def r_param_CheckAll : List VRes := [.tmp 2]
theorem ok_param_CheckAll : FnOk Tryz.prog k_param_CheckAll c_param_CheckAll r_param_CheckAll 43 :=
  ⟨⟨Tryz.f96, _, Tryz.func96, by decide, rfl, by kernel_rfl, by kernel_rfl, by kernel_rfl, rfl⟩⟩

/-- function 102 -/
def c_strings_Split : VCode :=
  .seq (rt [o1 4 (.move (.const (.nils)))] []) (.seq (rt [o1 5 (.move (tm 0)), o1 6 (.move (tm 1)), o1 7 (.call k_strings_genSplit [tm 5, tm 6, ci 0, ci (-1)]), o1 4 (.move (tm 7))] [5, 7]) (.ret))
def r_strings_Split : List VRes := [.tmp 4]
theorem ok_strings_Split : FnOk Tryz.prog k_strings_Split c_strings_Split r_strings_Split 8 :=
  ⟨⟨Tryz.f102, _, Tryz.func102, by decide, rfl, by kernel_rfl, by kernel_rfl, by kernel_rfl, rfl⟩⟩

/-- function 147 -/
def c_slices_Clone_string : VCode :=
  .seq (rt [o1 2 (.move (.const (.nils)))] []) (.seq (.seq (rt [o1 3 (.move (tm 0)), o1 4 (.eqS false (tm 3))] [3, 3]) (.cond (tm 4) (.seq (rt [o1 2 (.move (.const (.nils)))] []) (.ret)) (.skip))) (.seq (rt [o1 5 (.buildSlice 1 0 [.val (.str [])] []), o1 6 (.move (tm 0)), o1 7 (.append 9 1 16 (tm 5) (tm 6)), o1 2 (.move (tm 7))] [5, 7]) (.ret)))
def r_slices_Clone_string : List VRes := [.tmp 2]
theorem ok_slices_Clone_string : FnOk Tryz.prog k_slices_Clone_string c_slices_Clone_string r_slices_Clone_string 8 :=
  ⟨⟨Tryz.f147, _, Tryz.func147, by decide, rfl, by kernel_rfl, by kernel_rfl, by kernel_rfl, rfl⟩⟩

/-- function 148 -/
def c_param_Print : VCode :=
  .seq (rt [o1 1 (.box (tm 0)), o1 2 (.move (cs [])), o1 3 (.move (ci 0))] []) (.seq (.seq (rt [o1 8 (.load (some 2) (tm 1)), o1 9 (.call k_param_Check [tm 8]), o1 4 (.move (tm 9))] [8, 9]) (.seq (rt [o1 10 (.move (tm 4)), o1 11 (.bin (.neq) (tm 10) (ci 0))] [10, 10]) (.cond (tm 11) (.seq (rt [o1 12 (.move (tm 4)), o1 2 (.move (cs [])), o1 3 (.move (tm 12))] [12, 12]) (.ret)) (.skip)))) (.seq (rt [o1 13 (.fieldAddr 1 (tm 1)), o1 14 (.load none (tm 13)), o1 15 (.lenV (tm 14)), o1 16 (.mkSlice 1 16 [.val (.str [])] (tm 15) (tm 15)), o1 5 (.move (tm 16))] [13, 16]) (.seq (.seq (rt [o1 17 (.fieldAddr 1 (tm 1)), o1 18 (.load none (tm 17)), o1 19 (.lenV (tm 18)), o1 20 (.move (ci 0))] [17, 17]) (.block 0 (.loop (.seq (rt [o1 21 (.bin (.lss) (tm 20) (tm 19))] []) (.seq (.cond (tm 21) (.skip) (.exit 0)) (.seq (.block 1 (.seq (rt [o1 22 (.move (tm 20)), o1 23 (.indexAddr 1 (tm 18) (tm 20)), o1 24 (.load none (tm 23)), o1 6 (.move (tm 22)), o1 7 (.move (tm 24))] [22, 24]) (rt [o1 25 (.move (tm 5)), o1 26 (.move (tm 6)), o1 27 (.move (tm 7)), o1 28 (.call k_param_written [tm 27]), o1 29 (.indexAddr 1 (tm 25) (tm 26)), o3 (.store 1 (tm 29) (tm 28))] [25, 29]))) (rt [o1 30 (.bin (.add) (tm 20) (ci 1)), o1 20 (.move (tm 30))] [30, 30]))))))) (.seq (.region [o1 31 (.fieldAddr 0 (tm 1)), o1 32 (.load none (tm 31)), o1 33 (.bin (.add) (cs [59]) (tm 32)), o1 34 (.bin (.add) (tm 33) (cs [61])), o1 35 (.move (tm 5)), o1 36 (.call k_strings_Join [tm 35, cs [44]]), o1 37 (.bin (.add) (tm 34) (tm 36)), o1 2 (.move (tm 37)), o1 3 (.move (ci 0))] (.drawn [(0, 5), (1, 5), (2, 5), (3, 5)] (prs [(5, [(0, 4)])])) [31, 37]) (.ret)))))
def r_param_Print : List VRes := [.tmp 2, .tmp 3]
theorem ok_param_Print : FnOk Tryz.prog k_param_Print c_param_Print r_param_Print 38 :=
  ⟨⟨Tryz.f148, _, Tryz.func148, by decide, rfl, by kernel_rfl, by kernel_rfl, by kernel_rfl, rfl⟩⟩

/-- function 149 -/
def c_param_one : VCode :=
  .seq (rt [o1 6 (.alloc [.val (.str []), .nils]), o1 7 (.move (ci 0)), o1 8 (.move (.const (.val (.nili))))] []) (.seq (rt [o1 17 (.move (tm 0)), o1 18 (.move (tm 1)), o1 19 (.subS (tm 17) (some (tm 18)) none), o1 20 (.call k_param_named [tm 19]), o1 9 (.move (tm 20))] [17, 20]) (.seq (.seq (rt [o1 21 (.move (tm 9)), o1 22 (.bin (.eql) (tm 21) (ci 0)), o1 23 (.move (tm 22)), o2 24 (.move (tm 9)) 23 false, o2 25 (.bin (.gtr) (tm 24) (ci 24)) 23 false, o1 26 (.pick (tm 23) (cb true) (tm 25))] [21, 25]) (.cond (tm 26) (.seq (rt [o1 27 (.build [.val (.str []), .nils] []), o1 28 (.move (tm 1)), o1 29 (.call k_fault_New [ci 4, tm 28]), o3 (.store 2 (tm 6) (tm 27)), o1 7 (.move (ci 0)), o1 8 (.move (tm 29))] [27, 29]) (.ret)) (.skip))) (.seq (rt [o1 30 (.move (tm 0)), o1 31 (.move (tm 1)), o1 32 (.subS (tm 30) (some (tm 31)) none), o1 33 (.move (tm 9)), o1 34 (.subS (tm 32) none (some (tm 33))), o1 35 (.call k_utf_Upper [tm 34]), o1 36 (.build [.val (.str []), .nils] [(0, 1, tm 35)]), o1 10 (.alloc [.val (.str []), .nils]), o3 (.store 2 (tm 10) (tm 36))] [30, 36]) (.seq (.seq (rt [o1 38 (.move (tm 2)), o1 39 (.fieldAddr 0 (tm 10)), o1 40 (.load none (tm 39)), o1 41 (.call k_param_Find [tm 38, tm 40]), o1 37 (.move (tm 41)), o1 42 (.extract (tm 37) 0), o1 43 (.extract (tm 37) 1), o1 11 (.alloc [.val (.str []), .nils]), o3 (.store 2 (tm 11) (tm 42)), o1 12 (.move (tm 43))] [11, 11, 37, 43]) (.seq (rt [o1 44 (.move (tm 12))] []) (.cond (tm 44) (.seq (rt [o1 45 (.build [.val (.str []), .nils] []), o1 46 (.move (tm 1)), o1 47 (.call k_fault_New [ci 19, tm 46]), o3 (.store 2 (tm 6) (tm 45)), o1 7 (.move (ci 0)), o1 8 (.move (tm 47))] [45, 47]) (.ret)) (.skip)))) (.seq (rt [o1 48 (.move (tm 1)), o1 49 (.move (tm 9)), o1 50 (.bin (.add) (tm 48) (tm 49)), o1 1 (.move (tm 50))] [48, 50]) (.seq (.seq (rt [o1 51 (.move (tm 1)), o1 52 (.move (tm 0)), o1 53 (.lenS (tm 52)), o1 54 (.bin (.eql) (tm 51) (tm 53)), o1 55 (.move (tm 54)), o2 56 (.move (tm 0)) 55 false, o2 57 (.move (tm 1)) 55 false, o2 58 (.indexS (tm 56) (tm 57)) 55 false, o2 59 (.bin (.neq) (tm 58) (cu 61)) 55 false, o1 60 (.pick (tm 55) (cb true) (tm 59))] [51, 59]) (.cond (tm 60) (.seq (rt [o1 61 (.build [.val (.str []), .nils] []), o1 62 (.move (tm 1)), o1 63 (.call k_fault_New [ci 4, tm 62]), o3 (.store 2 (tm 6) (tm 61)), o1 7 (.move (ci 0)), o1 8 (.move (tm 63))] [61, 63]) (.ret)) (.skip))) (.seq (.seq (rt [o1 13 (.move (cb true))] []) (.block 0 (.loop (.seq (.seq (rt [o1 64 (.move (tm 13)), o1 65 (.move (tm 64)), o2 66 (.move (tm 1)) 65 false, o2 67 (.move (tm 0)) 65 false, o2 68 (.lenS (tm 67)) 65 false, o2 69 (.bin (.lss) (tm 66) (tm 68)) 65 false, o2 70 (.move (tm 69)) 65 false, o2 71 (.move (tm 0)) 70 true, o2 72 (.move (tm 1)) 70 true, o2 73 (.indexS (tm 71) (tm 72)) 70 true, o2 74 (.bin (.eql) (tm 73) (cu 44)) 70 true, o2 75 (.pick (tm 70) (tm 74) (cb false)) 65 false, o1 76 (.pick (tm 65) (cb true) (tm 75))] [64, 75]) (.cond (tm 76) (.skip) (.exit 0))) (.seq (.block 1 (.seq (rt [o1 77 (.move (tm 1)), o1 78 (.bin (.add) (tm 77) (ci 1)), o1 1 (.move (tm 78))] [77, 78]) (.seq (.seq (rt [o1 79 (.fieldAddr 1 (tm 10)), o1 80 (.load none (tm 79)), o1 81 (.lenV (tm 80)), o1 82 (.bin (.eql) (tm 81) (ci 6))] [79, 81]) (.cond (tm 82) (.seq (rt [o1 83 (.build [.val (.str []), .nils] []), o1 84 (.move (tm 1)), o1 85 (.call k_fault_New [ci 20, tm 84]), o3 (.store 2 (tm 6) (tm 83)), o1 7 (.move (ci 0)), o1 8 (.move (tm 85))] [83, 85]) (.ret)) (.skip))) (.seq (rt [o1 87 (.move (tm 0)), o1 88 (.move (tm 1)), o1 89 (.call k_param_value [tm 87, tm 88]), o1 86 (.move (tm 89)), o1 90 (.extract (tm 86) 0), o1 91 (.extract (tm 86) 1), o1 92 (.extract (tm 86) 2), o1 14 (.move (tm 90)), o1 15 (.move (tm 91)), o1 16 (.move (tm 92))] [86, 92]) (.seq (.seq (rt [o1 93 (.move (tm 16)), o1 94 (.eqN true (tm 93))] [93, 93]) (.cond (tm 94) (.seq (rt [o1 95 (.build [.val (.str []), .nils] []), o1 96 (.move (tm 16)), o3 (.store 2 (tm 6) (tm 95)), o1 7 (.move (ci 0)), o1 8 (.move (tm 96))] [95, 96]) (.ret)) (.skip))) (.seq (rt [o1 97 (.fieldAddr 1 (tm 10)), o1 98 (.load none (tm 97)), o1 99 (.move (tm 14)), o1 100 (.buildSlice 1 1 [.val (.str [])] [(0, 1, tm 99)]), o1 101 (.append 9 1 16 (tm 98) (tm 100)), o1 102 (.fieldAddr 1 (tm 10)), o3 (.store 1 (tm 102) (tm 101))] [97, 102]) (rt [o1 103 (.move (tm 15)), o1 1 (.move (tm 103))] [103, 103]))))))) (rt [o1 13 (.move (cb false))] [])))))) (.seq (rt [o1 104 (.load (some 2) (tm 10)), o1 105 (.move (tm 1)), o3 (.store 2 (tm 6) (tm 104)), o1 7 (.move (tm 105)), o1 8 (.move (.const (.val (.nili))))] [104, 105]) (.ret)))))))))
def r_param_one : List VRes := [.cell 6 (some 2), .tmp 7, .tmp 8]
theorem ok_param_one : FnOk Tryz.prog k_param_one c_param_one r_param_one 106 :=
  ⟨⟨Tryz.f149, _, Tryz.func149, by decide, rfl, by kernel_rfl, by kernel_rfl, by kernel_rfl, rfl⟩⟩

/-- function 151 -/
def c_param_named : VCode :=
  .seq (rt [o1 2 (.move (ci 0))] []) (.seq (.seq (rt [o1 3 (.move (ci 0))] []) (.block 0 (.loop (.seq (.seq (rt [o1 5 (.move (tm 3)), o1 6 (.move (tm 0)), o1 7 (.lenS (tm 6)), o1 8 (.bin (.lss) (tm 5) (tm 7))] [5, 7]) (.cond (tm 8) (.skip) (.exit 0))) (.seq (.block 1 (.seq (rt [o1 11 (.move (tm 0)), o1 12 (.move (tm 3)), o1 13 (.indexS (tm 11) (tm 12)), o1 4 (.move (tm 13))] [11, 13]) (.seq (rt [o1 14 (.move (tm 4)), o1 15 (.bin (.geq) (tm 14) (cu 65)), o1 16 (.move (tm 15)), o2 17 (.move (tm 4)) 16 true, o2 18 (.bin (.leq) (tm 17) (cu 90)) 16 true, o1 19 (.pick (tm 16) (tm 18) (cb false)), o1 20 (.move (tm 19)), o2 21 (.move (tm 4)) 20 false, o2 22 (.bin (.geq) (tm 21) (cu 97)) 20 false, o2 23 (.move (tm 22)) 20 false, o2 24 (.move (tm 4)) 23 true, o2 25 (.bin (.leq) (tm 24) (cu 122)) 23 true, o2 26 (.pick (tm 23) (tm 25) (cb false)) 20 false, o1 27 (.pick (tm 20) (cb true) (tm 26)), o1 28 (.move (tm 27)), o2 29 (.move (tm 4)) 28 false, o2 30 (.bin (.geq) (tm 29) (cu 48)) 28 false, o2 31 (.move (tm 30)) 28 false, o2 32 (.move (tm 4)) 31 true, o2 33 (.bin (.leq) (tm 32) (cu 57)) 31 true, o2 34 (.pick (tm 31) (tm 33) (cb false)) 28 false, o1 35 (.pick (tm 28) (cb true) (tm 34)), o1 36 (.move (tm 35)), o2 37 (.move (tm 4)) 36 false, o2 38 (.bin (.eql) (tm 37) (cu 45)) 36 false, o1 39 (.pick (tm 36) (cb true) (tm 38)), o1 40 (.un (.not) (tm 39))] [14, 39]) (.cond (tm 40) (.seq (rt [o1 41 (.move (tm 3)), o1 2 (.move (tm 41))] [41, 41]) (.ret)) (.skip))))) (rt [o1 9 (.move (tm 3)), o1 10 (.bin (.add) (tm 9) (ci 1)), o1 3 (.move (tm 10))] [9, 10])))))) (.seq (rt [o1 42 (.move (tm 0)), o1 43 (.lenS (tm 42)), o1 2 (.move (tm 43))] [42, 43]) (.ret)))
def r_param_named : List VRes := [.tmp 2]
theorem ok_param_named : FnOk Tryz.prog k_param_named c_param_named r_param_named 44 :=
  ⟨⟨Tryz.f151, _, Tryz.func151, by decide, rfl, by kernel_rfl, by kernel_rfl, by kernel_rfl, rfl⟩⟩

/-- function 152 -/
def c_param_Check : VCode :=
  .seq (rt [o1 1 (.box (tm 0)), o1 2 (.move (ci 0))] []) (.seq (.seq (rt [o1 8 (.fieldAddr 0 (tm 1)), o1 9 (.load none (tm 8)), o1 10 (.call k_param_Name [tm 9]), o1 11 (.un (.not) (tm 10))] [8, 10]) (.cond (tm 11) (.seq (rt [o1 2 (.move (ci 4))] []) (.ret)) (.skip))) (.seq (.seq (rt [o1 12 (.fieldAddr 1 (tm 1)), o1 13 (.load none (tm 12)), o1 14 (.lenV (tm 13)), o1 3 (.move (tm 14))] [12, 14]) (.seq (rt [o1 15 (.move (tm 3)), o1 16 (.bin (.eql) (tm 15) (ci 0)), o1 17 (.move (tm 16)), o2 18 (.move (tm 3)) 17 false, o2 19 (.bin (.gtr) (tm 18) (ci 6)) 17 false, o1 20 (.pick (tm 17) (cb true) (tm 19))] [15, 19]) (.cond (tm 20) (.seq (rt [o1 2 (.move (ci 20))] []) (.ret)) (.skip)))) (.seq (.seq (rt [o1 21 (.fieldAddr 1 (tm 1)), o1 22 (.load none (tm 21)), o1 23 (.lenV (tm 22)), o1 24 (.move (ci 0))] [21, 21]) (.block 0 (.loop (.seq (rt [o1 25 (.bin (.lss) (tm 24) (tm 23))] []) (.seq (.cond (tm 25) (.skip) (.exit 0)) (.seq (.block 1 (.seq (rt [o1 26 (.indexAddr 1 (tm 22) (tm 24)), o1 27 (.load none (tm 26)), o1 5 (.move (tm 27))] [26, 27]) (.seq (.seq (rt [o1 28 (.move (tm 5)), o1 29 (.lenS (tm 28)), o1 30 (.bin (.gtr) (tm 29) (ci 60))] [28, 29]) (.cond (tm 30) (.seq (rt [o1 2 (.move (ci 5))] []) (.ret)) (.skip))) (.seq (rt [o1 31 (.move (tm 5)), o1 32 (.call k_strings_Split [tm 31, cs [10]]), o1 33 (.lenV (tm 32)), o1 34 (.move (ci 0))] [31, 31]) (.block 2 (.loop (.seq (rt [o1 35 (.bin (.lss) (tm 34) (tm 33))] []) (.seq (.cond (tm 35) (.skip) (.exit 2)) (.seq (.block 3 (.seq (rt [o1 36 (.indexAddr 1 (tm 32) (tm 34)), o1 37 (.load none (tm 36)), o1 7 (.move (tm 37))] [36, 37]) (.seq (rt [o1 38 (.move (tm 7)), o1 39 (.call k_utf_Odd [tm 38]), o1 40 (.bin (.geq) (tm 39) (ci 0))] [38, 39]) (.cond (tm 40) (.seq (rt [o1 2 (.move (ci 10))] []) (.ret)) (.skip))))) (rt [o1 41 (.bin (.add) (tm 34) (ci 1)), o1 34 (.move (tm 41))] [41, 41])))))))))) (rt [o1 42 (.bin (.add) (tm 24) (ci 1)), o1 24 (.move (tm 42))] [42, 42]))))))) (.seq (rt [o1 2 (.move (ci 0))] []) (.ret)))))
def r_param_Check : List VRes := [.tmp 2]
theorem ok_param_Check : FnOk Tryz.prog k_param_Check c_param_Check r_param_Check 43 :=
  ⟨⟨Tryz.f152, _, Tryz.func152, by decide, rfl, by kernel_rfl, by kernel_rfl, by kernel_rfl, rfl⟩⟩

/-- function 153 -/
def c_param_Same : VCode :=
  .seq (rt [o1 4 (.move (cb false))] []) (.seq (rt [o1 5 (.move (tm 0)), o1 6 (.move (tm 1)), o1 7 (.call k_slices_EqualFunc_Param [tm 5, tm 6, .func k_param_Same_1]), o1 4 (.move (tm 7))] [5, 7]) (.ret))
def r_param_Same : List VRes := [.tmp 4]
theorem ok_param_Same : FnOk Tryz.prog k_param_Same c_param_Same r_param_Same 8 :=
  ⟨⟨Tryz.f153, _, Tryz.func153, by decide, rfl, by kernel_rfl, by kernel_rfl, by kernel_rfl, rfl⟩⟩

/-- function 155 -/
def c_strings_genSplit : VCode :=
  .seq (rt [o1 8 (.move (.const (.nils)))] []) (.seq (.seq (rt [o1 12 (.move (tm 3)), o1 13 (.bin (.eql) (tm 12) (ci 0))] [12, 12]) (.cond (tm 13) (.seq (rt [o1 8 (.move (.const (.nils)))] []) (.ret)) (.skip))) (.seq (.seq (rt [o1 14 (.move (tm 1)), o1 15 (.bin (.eql) (tm 14) (cs []))] [14, 14]) (.cond (tm 15) (.seq (rt [o1 16 (.move (tm 0)), o1 17 (.move (tm 3)), o1 18 (.call 192 [tm 16, tm 17]), o1 8 (.move (tm 18))] [16, 18]) (.ret)) (.skip))) (.seq (.seq (rt [o1 19 (.move (tm 3)), o1 20 (.bin (.lss) (tm 19) (ci 0))] [19, 19]) (.cond (tm 20) (rt [o1 21 (.move (tm 0)), o1 22 (.move (tm 1)), o1 23 (.call k_strings_Count [tm 21, tm 22]), o1 24 (.bin (.add) (tm 23) (ci 1)), o1 3 (.move (tm 24))] [21, 24]) (.skip))) (.seq (rt [o1 25 (.move (tm 3)), o1 26 (.move (tm 0)), o1 27 (.lenS (tm 26)), o1 28 (.bin (.add) (tm 27) (ci 1)), o1 29 (.minI (tm 25) (tm 28)), o1 3 (.move (tm 29))] [25, 29]) (.seq (rt [o1 30 (.move (tm 3)), o1 31 (.mkSlice 1 16 [.val (.str [])] (tm 30) (tm 30)), o1 9 (.move (tm 31))] [30, 31]) (.seq (rt [o1 32 (.move (tm 3)), o1 33 (.bin (.sub) (tm 32) (ci 1)), o1 3 (.move (tm 33))] [32, 33]) (.seq (rt [o1 10 (.move (ci 0))] []) (.seq (.block 0 (.loop (.seq (.seq (rt [o1 34 (.move (tm 10)), o1 35 (.move (tm 3)), o1 36 (.bin (.lss) (tm 34) (tm 35))] [34, 35]) (.cond (tm 36) (.skip) (.exit 0))) (.block 1 (.seq (rt [o1 37 (.move (tm 0)), o1 38 (.move (tm 1)), o1 39 (.call k_strings_Index [tm 37, tm 38]), o1 11 (.move (tm 39))] [37, 39]) (.seq (.seq (rt [o1 40 (.move (tm 11)), o1 41 (.bin (.lss) (tm 40) (ci 0))] [40, 40]) (.cond (tm 41) (.exit 0) (.skip))) (.seq (rt [o1 42 (.move (tm 9)), o1 43 (.move (tm 10)), o1 44 (.move (tm 0)), o1 45 (.move (tm 11)), o1 46 (.move (tm 2)), o1 47 (.bin (.add) (tm 45) (tm 46)), o1 48 (.subS (tm 44) none (some (tm 47))), o1 49 (.indexAddr 1 (tm 42) (tm 43)), o3 (.store 1 (tm 49) (tm 48))] [42, 49]) (.seq (rt [o1 50 (.move (tm 0)), o1 51 (.move (tm 11)), o1 52 (.move (tm 1)), o1 53 (.lenS (tm 52)), o1 54 (.bin (.add) (tm 51) (tm 53)), o1 55 (.subS (tm 50) (some (tm 54)) none), o1 0 (.move (tm 55))] [50, 55]) (rt [o1 56 (.move (tm 10)), o1 57 (.bin (.add) (tm 56) (ci 1)), o1 10 (.move (tm 57))] [56, 57]))))))))) (.seq (rt [o1 58 (.move (tm 9)), o1 59 (.move (tm 10)), o1 60 (.move (tm 0)), o1 61 (.indexAddr 1 (tm 58) (tm 59)), o3 (.store 1 (tm 61) (tm 60))] [58, 61]) (.seq (rt [o1 62 (.move (tm 9)), o1 63 (.move (tm 10)), o1 64 (.bin (.add) (tm 63) (ci 1)), o1 65 (.subV 1 (tm 62) none (some (tm 64)) none), o1 8 (.move (tm 65))] [62, 65]) (.ret)))))))))))
def r_strings_genSplit : List VRes := [.tmp 8]
theorem ok_strings_genSplit : FnOk Tryz.prog k_strings_genSplit c_strings_genSplit r_strings_genSplit 66 :=
  ⟨⟨Tryz.f155, _, Tryz.func155, by decide, rfl, by kernel_rfl, by kernel_rfl, by kernel_rfl, rfl⟩⟩

/-- function 176 -/
def c_strings_makeASCIISet : VCode :=
  .seq (rt [o1 2 (.alloc fz256), o1 3 (.move (cb false))] []) (.seq (.seq (rt [o1 4 (.move (ci 0))] []) (.block 0 (.loop (.seq (.seq (rt [o1 6 (.move (tm 4)), o1 7 (.move (tm 0)), o1 8 (.lenS (tm 7)), o1 9 (.bin (.lss) (tm 6) (tm 8))] [6, 8]) (.cond (tm 9) (.skip) (.exit 0))) (.seq (.block 1 (.seq (rt [o1 12 (.move (tm 0)), o1 13 (.move (tm 4)), o1 14 (.indexS (tm 12) (tm 13)), o1 5 (.move (tm 14))] [12, 14]) (.seq (.seq (rt [o1 15 (.move (tm 5)), o1 16 (.bin (.geq) (tm 15) (cu 128))] [15, 15]) (.cond (tm 16) (.seq (rt [o1 17 (.load (some 256) (tm 2)), o3 (.store 256 (tm 2) (tm 17)), o1 3 (.move (cb false))] [17, 17]) (.ret)) (.skip))) (rt [o1 18 (.move (tm 5)), o1 19 (.indexArr 256 1 (tm 2) (tm 18)), o3 (.store 1 (tm 19) (cb true))] [18, 19])))) (rt [o1 10 (.move (tm 4)), o1 11 (.bin (.add) (tm 10) (ci 1)), o1 4 (.move (tm 11))] [10, 11])))))) (.seq (rt [o1 20 (.load (some 256) (tm 2)), o3 (.store 256 (tm 2) (tm 20)), o1 3 (.move (cb true))] [20, 20]) (.ret)))
def r_strings_makeASCIISet : List VRes := [.cell 2 (some 256), .tmp 3]
theorem ok_strings_makeASCIISet : FnOk Tryz.prog k_strings_makeASCIISet c_strings_makeASCIISet r_strings_makeASCIISet 21 :=
  ⟨⟨Tryz.f176, _, Tryz.func176, by decide, rfl, by kernel_rfl, by kernel_rfl, by kernel_rfl, rfl⟩⟩

/-- function 186 -/
def c_param_written : VCode :=
  .seq (rt [o1 2 (.move (cs []))] []) (.seq (rt [o1 3 (.allocB 208)] []) (.seq (rt [o1 7 (.mkFunc k_param_written_1 [tm 3]), o1 4 (.move (tm 7))] [7, 7]) (.seq (.seq (rt [o1 5 (.move (ci 0))] []) (.block 0 (.loop (.seq (.seq (rt [o1 8 (.move (tm 5)), o1 9 (.move (tm 0)), o1 10 (.lenS (tm 9)), o1 11 (.bin (.lss) (tm 8) (tm 10))] [8, 10]) (.cond (tm 11) (.skip) (.exit 0))) (.seq (.block 1 (.seq (rt [o1 14 (.move (tm 0)), o1 15 (.move (tm 5)), o1 16 (.indexS (tm 14) (tm 15))] [14, 15]) (.block 2 (.seq (rt [o1 22 (.bin (.eql) (tm 16) (cu 94)), o1 21 (.move (tm 22))] [22, 22]) (.cond (tm 21) (rt [o1 23 (.move (tm 4)), o1 24 (.callMV (tm 23) [cu 94])] [23, 24]) (.seq (rt [o1 26 (.bin (.eql) (tm 16) (cu 10)), o1 25 (.move (tm 26))] [26, 26]) (.cond (tm 25) (rt [o1 27 (.move (tm 4)), o1 28 (.callMV (tm 27) [cu 110])] [27, 28]) (.seq (rt [o1 30 (.bin (.eql) (tm 16) (cu 34)), o1 29 (.move (tm 30))] [30, 30]) (.cond (tm 29) (rt [o1 31 (.move (tm 4)), o1 32 (.callMV (tm 31) [cu 39])] [31, 32]) (rt [o1 17 (.move (tm 0)), o1 18 (.move (tm 5)), o1 19 (.indexS (tm 17) (tm 18)), o1 20 (.callM k__strings_Builder_WriteByte [tm 3, tm 19])] [17, 20])))))))))) (rt [o1 12 (.move (tm 5)), o1 13 (.bin (.add) (tm 12) (ci 1)), o1 5 (.move (tm 13))] [12, 13])))))) (.seq (rt [o1 33 (.callM k__strings_Builder_String [tm 3]), o1 6 (.move (tm 33))] [33, 33]) (.seq (.seq (rt [o1 34 (.move (tm 0)), o1 35 (.call k_strings_ContainsAny [tm 34, cs [44, 58, 59]])] [34, 34]) (.cond (tm 35) (.seq (rt [o1 36 (.move (tm 6)), o1 37 (.bin (.add) (cs [34]) (tm 36)), o1 38 (.bin (.add) (tm 37) (cs [34])), o1 2 (.move (tm 38))] [36, 38]) (.ret)) (.skip))) (.seq (rt [o1 39 (.move (tm 6)), o1 2 (.move (tm 39))] [39, 39]) (.ret)))))))
def r_param_written : List VRes := [.tmp 2]
theorem ok_param_written : FnOk Tryz.prog k_param_written c_param_written r_param_written 40 :=
  ⟨⟨Tryz.f186, _, Tryz.func186, by decide, rfl, by kernel_rfl, by kernel_rfl, by kernel_rfl, rfl⟩⟩

/-- function 187 -/
def c_param_value : VCode :=
  .seq (rt [o1 4 (.move (cs [])), o1 5 (.move (ci 0)), o1 6 (.move (.const (.val (.nili))))] []) (.seq (.seq (rt [o1 10 (.move (tm 1)), o1 11 (.move (tm 0)), o1 12 (.lenS (tm 11)), o1 13 (.bin (.lss) (tm 10) (tm 12)), o1 14 (.move (tm 13)), o2 15 (.move (tm 0)) 14 true, o2 16 (.move (tm 1)) 14 true, o2 17 (.indexS (tm 15) (tm 16)) 14 true, o2 18 (.bin (.eql) (tm 17) (cu 34)) 14 true, o1 19 (.pick (tm 14) (tm 18) (cb false))] [10, 18]) (.cond (tm 19) (.seq (rt [o1 20 (.move (tm 0)), o1 21 (.move (tm 1)), o1 22 (.call k_param_quoted [tm 20, tm 21]), o1 23 (.extract (tm 22) 0), o1 24 (.extract (tm 22) 1), o1 25 (.extract (tm 22) 2), o1 4 (.move (tm 23)), o1 5 (.move (tm 24)), o1 6 (.move (tm 25))] [20, 25]) (.ret)) (.skip))) (.seq (rt [o1 26 (.move (tm 1)), o1 7 (.move (tm 26))] [26, 26]) (.seq (.block 0 (.loop (.seq (.seq (rt [o1 27 (.move (tm 0)), o1 28 (.move (tm 7)), o1 29 (.call k_param_stop [tm 27, tm 28]), o1 30 (.un (.not) (tm 29))] [27, 29]) (.cond (tm 30) (.skip) (.exit 0))) (.block 1 (.seq (.seq (rt [o1 31 (.move (tm 0)), o1 32 (.move (tm 7)), o1 33 (.indexS (tm 31) (tm 32)), o1 34 (.bin (.eql) (tm 33) (cu 34))] [31, 33]) (.cond (tm 34) (.seq (rt [o1 35 (.move (tm 7)), o1 36 (.call k_fault_New [ci 4, tm 35]), o1 4 (.move (cs [])), o1 5 (.move (ci 0)), o1 6 (.move (tm 36))] [35, 36]) (.ret)) (.skip))) (rt [o1 37 (.move (tm 7)), o1 38 (.bin (.add) (tm 37) (ci 1)), o1 7 (.move (tm 38))] [37, 38])))))) (.seq (rt [o1 40 (.move (tm 0)), o1 41 (.move (tm 1)), o1 42 (.move (tm 7)), o1 43 (.subS (tm 40) (some (tm 41)) (some (tm 42))), o1 44 (.move (tm 1)), o1 45 (.move (tm 1)), o1 46 (.call k_param_checked [tm 43, tm 44, tm 45]), o1 39 (.move (tm 46)), o1 47 (.extract (tm 39) 0), o1 48 (.extract (tm 39) 1), o1 8 (.move (tm 47)), o1 9 (.move (tm 48))] [39, 48]) (.seq (rt [o1 49 (.move (tm 8)), o1 50 (.move (tm 7)), o1 51 (.move (tm 9)), o1 4 (.move (tm 49)), o1 5 (.move (tm 50)), o1 6 (.move (tm 51))] [49, 51]) (.ret))))))
def r_param_value : List VRes := [.tmp 4, .tmp 5, .tmp 6]
theorem ok_param_value : FnOk Tryz.prog k_param_value c_param_value r_param_value 52 :=
  ⟨⟨Tryz.f187, _, Tryz.func187, by decide, rfl, by kernel_rfl, by kernel_rfl, by kernel_rfl, rfl⟩⟩

/-- function 189 -/
def c_slices_EqualFunc_Param : VCode :=
  .seq (rt [o1 6 (.move (cb false))] []) (.seq (.seq (rt [o1 10 (.move (tm 0)), o1 11 (.lenV (tm 10)), o1 12 (.move (tm 1)), o1 13 (.lenV (tm 12)), o1 14 (.bin (.neq) (tm 11) (tm 13))] [10, 13]) (.cond (tm 14) (.seq (rt [o1 6 (.move (cb false))] []) (.ret)) (.skip))) (.seq (.seq (rt [o1 15 (.move (tm 0)), o1 16 (.lenV (tm 15)), o1 17 (.move (ci 0))] []) (.block 0 (.loop (.seq (rt [o1 18 (.bin (.lss) (tm 17) (tm 16))] []) (.seq (.cond (tm 18) (.skip) (.exit 0)) (.seq (.block 1 (.seq (rt [o1 19 (.move (tm 17)), o1 20 (.indexAddr 2 (tm 15) (tm 17)), o1 21 (.load (some 2) (tm 20)), o1 8 (.alloc [.val (.str []), .nils]), o1 7 (.move (tm 19)), o3 (.store 2 (tm 8) (tm 21))] [19, 21]) (.seq (rt [o1 22 (.move (tm 1)), o1 23 (.move (tm 7)), o1 24 (.indexAddr 2 (tm 22) (tm 23)), o1 25 (.load (some 2) (tm 24)), o1 9 (.alloc [.val (.str []), .nils]), o3 (.store 2 (tm 9) (tm 25))] [22, 25]) (.seq (rt [o1 26 (.move (tm 2)), o1 27 (.load (some 2) (tm 8)), o1 28 (.load (some 2) (tm 9)), o1 29 (.callV (tm 26) [tm 27, tm 28]), o1 30 (.un (.not) (tm 29))] [26, 29]) (.cond (tm 30) (.seq (rt [o1 6 (.move (cb false))] []) (.ret)) (.skip)))))) (rt [o1 31 (.bin (.add) (tm 17) (ci 1)), o1 17 (.move (tm 31))] [31, 31]))))))) (.seq (rt [o1 6 (.move (cb true))] []) (.ret))))
def r_slices_EqualFunc_Param : List VRes := [.tmp 6]
theorem ok_slices_EqualFunc_Param : FnOk Tryz.prog k_slices_EqualFunc_Param c_slices_EqualFunc_Param r_slices_EqualFunc_Param 32 :=
  ⟨⟨Tryz.f189, _, Tryz.func189, by decide, rfl, by kernel_rfl, by kernel_rfl, by kernel_rfl, rfl⟩⟩

/-- function 190 -/
def c_param_Same_1 : VCode :=
  .seq (rt [o1 2 (.box (tm 0)), o1 3 (.box (tm 1)), o1 4 (.move (cb false))] []) (.seq (rt [o1 5 (.fieldAddr 0 (tm 2)), o1 6 (.load none (tm 5)), o1 7 (.fieldAddr 0 (tm 3)), o1 8 (.load none (tm 7)), o1 9 (.bin (.eql) (tm 6) (tm 8)), o1 10 (.move (tm 9)), o2 11 (.fieldAddr 1 (tm 2)) 10 true, o2 12 (.load none (tm 11)) 10 true, o2 13 (.fieldAddr 1 (tm 3)) 10 true, o2 14 (.load none (tm 13)) 10 true, o2 15 (.call k_slices_Equal_string [tm 12, tm 14]) 10 true, o1 16 (.pick (tm 10) (tm 15) (cb false)), o1 4 (.move (tm 16))] [5, 16]) (.ret))
def r_param_Same_1 : List VRes := [.tmp 4]
theorem ok_param_Same_1 : FnOk Tryz.prog k_param_Same_1 c_param_Same_1 r_param_Same_1 17 :=
  ⟨⟨Tryz.f190, _, Tryz.func190, by decide, rfl, by kernel_rfl, by kernel_rfl, by kernel_rfl, rfl⟩⟩

/-- function 191 -/
def c_slices_Equal_string : VCode :=
  .seq (rt [o1 4 (.move (cb false))] []) (.seq (.seq (rt [o1 6 (.move (tm 0)), o1 7 (.lenV (tm 6)), o1 8 (.move (tm 1)), o1 9 (.lenV (tm 8)), o1 10 (.bin (.neq) (tm 7) (tm 9))] [6, 9]) (.cond (tm 10) (.seq (rt [o1 4 (.move (cb false))] []) (.ret)) (.skip))) (.seq (.seq (rt [o1 11 (.move (tm 0)), o1 12 (.lenV (tm 11)), o1 13 (.move (ci 0))] [11, 11]) (.block 0 (.loop (.seq (rt [o1 14 (.bin (.lss) (tm 13) (tm 12))] []) (.seq (.cond (tm 14) (.skip) (.exit 0)) (.seq (.block 1 (.seq (rt [o1 15 (.move (tm 13)), o1 5 (.move (tm 15))] [15, 15]) (.seq (.region [o1 16 (.move (tm 0)), o1 17 (.move (tm 5)), o1 18 (.indexAddr 1 (tm 16) (tm 17)), o1 19 (.load none (tm 18)), o1 20 (.move (tm 1)), o1 21 (.move (tm 5)), o1 22 (.indexAddr 1 (tm 20) (tm 21)), o1 23 (.load none (tm 22)), o1 24 (.bin (.neq) (tm 19) (tm 23))] (.calm) [16, 23]) (.cond (tm 24) (.seq (rt [o1 4 (.move (cb false))] []) (.ret)) (.skip))))) (rt [o1 25 (.bin (.add) (tm 13) (ci 1)), o1 13 (.move (tm 25))] [25, 25]))))))) (.seq (rt [o1 4 (.move (cb true))] []) (.ret))))
def r_slices_Equal_string : List VRes := [.tmp 4]
theorem ok_slices_Equal_string : FnOk Tryz.prog k_slices_Equal_string c_slices_Equal_string r_slices_Equal_string 26 :=
  ⟨⟨Tryz.f191, _, Tryz.func191, by decide, rfl, by kernel_rfl, by kernel_rfl, by kernel_rfl, rfl⟩⟩

/-- function 193 -/
def c_strings_Count : VCode :=
  .seq (rt [o1 4 (.move (ci 0))] []) (.seq (.seq (rt [o1 7 (.move (tm 1)), o1 8 (.lenS (tm 7)), o1 9 (.bin (.eql) (tm 8) (ci 0))] [7, 8]) (.cond (tm 9) (.seq (rt [o1 10 (.move (tm 0)), o1 11 (.call k_unicode_utf8_RuneCountInString [tm 10]), o1 12 (.bin (.add) (tm 11) (ci 1)), o1 4 (.move (tm 12))] [10, 12]) (.ret)) (.skip))) (.seq (.seq (rt [o1 13 (.move (tm 1)), o1 14 (.lenS (tm 13)), o1 15 (.bin (.eql) (tm 14) (ci 1))] [13, 14]) (.cond (tm 15) (.seq (rt [o1 16 (.move (tm 0)), o1 17 (.move (tm 1)), o1 18 (.indexS (tm 17) (ci 0)), o1 19 (.call k_internal_bytealg_CountString [tm 16, tm 18]), o1 4 (.move (tm 19))] [16, 19]) (.ret)) (.skip))) (.seq (rt [o1 5 (.move (ci 0))] []) (.block 0 (.loop (.block 1 (.seq (rt [o1 20 (.move (tm 0)), o1 21 (.move (tm 1)), o1 22 (.call k_strings_Index [tm 20, tm 21]), o1 6 (.move (tm 22))] [20, 22]) (.seq (.seq (rt [o1 23 (.move (tm 6)), o1 24 (.bin (.eql) (tm 23) (ci (-1)))] [23, 23]) (.cond (tm 24) (.seq (rt [o1 25 (.move (tm 5)), o1 4 (.move (tm 25))] [25, 25]) (.ret)) (.skip))) (.seq (rt [o1 26 (.move (tm 5)), o1 27 (.bin (.add) (tm 26) (ci 1)), o1 5 (.move (tm 27))] [26, 27]) (rt [o1 28 (.move (tm 0)), o1 29 (.move (tm 6)), o1 30 (.move (tm 1)), o1 31 (.lenS (tm 30)), o1 32 (.bin (.add) (tm 29) (tm 31)), o1 33 (.subS (tm 28) (some (tm 32)) none), o1 0 (.move (tm 33))] [28, 33]))))))))))
def r_strings_Count : List VRes := [.tmp 4]
theorem ok_strings_Count : FnOk Tryz.prog k_strings_Count c_strings_Count r_strings_Count 34 :=
  ⟨⟨Tryz.f193, _, Tryz.func193, by decide, rfl, by kernel_rfl, by kernel_rfl, by kernel_rfl, rfl⟩⟩

/-- function 194 -/
def c_strings_Index : VCode :=
  .seq (rt [o1 4 (.move (ci 0))] []) (.seq (rt [o1 5 (.move (tm 0)), o1 6 (.move (tm 1)), o1 7 (.call k_internal_stringslite_Index [tm 5, tm 6]), o1 4 (.move (tm 7))] [5, 7]) (.ret))
def r_strings_Index : List VRes := [.tmp 4]
theorem ok_strings_Index : FnOk Tryz.prog k_strings_Index c_strings_Index r_strings_Index 8 :=
  ⟨⟨Tryz.f194, _, Tryz.func194, by decide, rfl, by kernel_rfl, by kernel_rfl, by kernel_rfl, rfl⟩⟩

/-- function 195 -/
def c_internal_stringslite_Index : VCode :=
  .seq (rt [o1 4 (.move (ci 0))] []) (.seq (rt [o1 14 (.move (tm 1)), o1 15 (.lenS (tm 14)), o1 5 (.move (tm 15))] [14, 15]) (.seq (.block 0 (.seq (rt [o1 17 (.move (tm 5)), o1 18 (.bin (.eql) (tm 17) (ci 0)), o1 19 (.move (tm 18)), o2 20 (.move (tm 1)) 19 false, o2 21 (.move (tm 0)) 19 false, o2 22 (.bin (.eql) (tm 20) (tm 21)) 19 false, o1 23 (.pick (tm 19) (cb true) (tm 22)), o1 16 (.move (tm 23))] [17, 23]) (.cond (tm 16) (.seq (rt [o1 4 (.move (ci 0))] []) (.ret)) (.seq (rt [o1 25 (.move (tm 5)), o1 26 (.bin (.eql) (tm 25) (ci 1)), o1 24 (.move (tm 26))] [25, 26]) (.cond (tm 24) (.seq (rt [o1 27 (.move (tm 0)), o1 28 (.move (tm 1)), o1 29 (.indexS (tm 28) (ci 0)), o1 30 (.call k_internal_stringslite_IndexByte [tm 27, tm 29]), o1 4 (.move (tm 30))] [27, 30]) (.ret)) (.seq (rt [o1 32 (.move (tm 5)), o1 33 (.move (tm 0)), o1 34 (.lenS (tm 33)), o1 35 (.bin (.geq) (tm 32) (tm 34)), o1 31 (.move (tm 35))] [32, 35]) (.cond (tm 31) (.seq (rt [o1 4 (.move (ci (-1)))] []) (.ret)) (.seq (rt [o1 37 (.move (tm 5)), o1 38 (.load none (.glob 1)), o1 39 (.bin (.leq) (tm 37) (tm 38)), o1 40 (.move (tm 39)), o2 41 (.move (tm 0)) 40 true, o2 42 (.lenS (tm 41)) 40 true, o2 43 (.bin (.leq) (tm 42) (ci 64)) 40 true, o1 44 (.pick (tm 40) (tm 43) (cb false)), o1 36 (.move (tm 44))] [37, 44]) (.cond (tm 36) (.seq (rt [o1 45 (.move (tm 0)), o1 46 (.move (tm 1)), o1 47 (.call 227 [tm 45, tm 46]), o1 4 (.move (tm 47))] [45, 47]) (.ret)) (.skip)))))))))) (.seq (rt [o1 48 (.move (tm 1)), o1 49 (.indexS (tm 48) (ci 0)), o1 6 (.move (tm 49))] [48, 49]) (.seq (rt [o1 50 (.move (tm 1)), o1 51 (.indexS (tm 50) (ci 1)), o1 7 (.move (tm 51))] [50, 51]) (.seq (rt [o1 8 (.move (ci 0))] []) (.seq (rt [o1 52 (.move (tm 0)), o1 53 (.lenS (tm 52)), o1 54 (.move (tm 5)), o1 55 (.bin (.sub) (tm 53) (tm 54)), o1 56 (.bin (.add) (tm 55) (ci 1)), o1 9 (.move (tm 56))] [52, 56]) (.seq (rt [o1 10 (.move (ci 0))] []) (.seq (.block 1 (.loop (.seq (.seq (rt [o1 57 (.move (tm 8)), o1 58 (.move (tm 9)), o1 59 (.bin (.lss) (tm 57) (tm 58))] [57, 58]) (.cond (tm 59) (.skip) (.exit 1))) (.block 2 (.seq (.seq (rt [o1 60 (.move (tm 0)), o1 61 (.move (tm 8)), o1 62 (.indexS (tm 60) (tm 61)), o1 63 (.move (tm 6)), o1 64 (.bin (.neq) (tm 62) (tm 63))] [60, 63]) (.cond (tm 64) (.seq (rt [o1 65 (.move (tm 0)), o1 66 (.move (tm 8)), o1 67 (.bin (.add) (tm 66) (ci 1)), o1 68 (.move (tm 9)), o1 69 (.subS (tm 65) (some (tm 67)) (some (tm 68))), o1 70 (.move (tm 6)), o1 71 (.call k_internal_stringslite_IndexByte [tm 69, tm 70]), o1 11 (.move (tm 71))] [65, 71]) (.seq (.seq (rt [o1 72 (.move (tm 11)), o1 73 (.bin (.lss) (tm 72) (ci 0))] [72, 72]) (.cond (tm 73) (.seq (rt [o1 4 (.move (ci (-1)))] []) (.ret)) (.skip))) (rt [o1 74 (.move (tm 8)), o1 75 (.move (tm 11)), o1 76 (.bin (.add) (tm 75) (ci 1)), o1 77 (.bin (.add) (tm 74) (tm 76)), o1 8 (.move (tm 77))] [74, 77]))) (.skip))) (.seq (.seq (rt [o1 78 (.move (tm 0)), o1 79 (.move (tm 8)), o1 80 (.bin (.add) (tm 79) (ci 1)), o1 81 (.indexS (tm 78) (tm 80)), o1 82 (.move (tm 7)), o1 83 (.bin (.eql) (tm 81) (tm 82)), o1 84 (.move (tm 83)), o2 85 (.move (tm 0)) 84 true, o2 86 (.move (tm 8)) 84 true, o2 87 (.move (tm 8)) 84 true, o2 88 (.move (tm 5)) 84 true, o2 89 (.bin (.add) (tm 87) (tm 88)) 84 true, o2 90 (.subS (tm 85) (some (tm 86)) (some (tm 89))) 84 true, o2 91 (.move (tm 1)) 84 true, o2 92 (.bin (.eql) (tm 90) (tm 91)) 84 true, o1 93 (.pick (tm 84) (tm 92) (cb false))] [78, 92]) (.cond (tm 93) (.seq (rt [o1 94 (.move (tm 8)), o1 4 (.move (tm 94))] [94, 94]) (.ret)) (.skip))) (.seq (rt [o1 95 (.move (tm 8)), o1 96 (.bin (.add) (tm 95) (ci 1)), o1 8 (.move (tm 96))] [95, 96]) (.seq (rt [o1 97 (.move (tm 10)), o1 98 (.bin (.add) (tm 97) (ci 1)), o1 10 (.move (tm 98))] [97, 98]) (.seq (rt [o1 99 (.move (tm 5)), o1 100 (.load none (.glob 1)), o1 101 (.bin (.leq) (tm 99) (tm 100)), o1 102 (.move (tm 101)), o2 103 (.move (tm 10)) 102 true, o2 104 (.move (tm 8)) 102 true, o2 105 (.call 228 [tm 104]) 102 true, o2 106 (.bin (.gtr) (tm 103) (tm 105)) 102 true, o1 107 (.pick (tm 102) (tm 106) (cb false))] [99, 106]) (.cond (tm 107) (.seq (rt [o1 108 (.move (tm 0)), o1 109 (.move (tm 8)), o1 110 (.subS (tm 108) (some (tm 109)) none), o1 111 (.move (tm 1)), o1 112 (.call 227 [tm 110, tm 111]), o1 12 (.move (tm 112))] [108, 112]) (.seq (.seq (rt [o1 113 (.move (tm 12)), o1 114 (.bin (.geq) (tm 113) (ci 0))] [113, 113]) (.cond (tm 114) (.seq (rt [o1 115 (.move (tm 12)), o1 116 (.move (tm 8)), o1 117 (.bin (.add) (tm 115) (tm 116)), o1 4 (.move (tm 117))] [115, 117]) (.ret)) (.skip))) (.seq (rt [o1 4 (.move (ci (-1)))] []) (.ret)))) (.seq (rt [o1 118 (.move (tm 5)), o1 119 (.load none (.glob 1)), o1 120 (.bin (.gtr) (tm 118) (tm 119)), o1 121 (.move (tm 120)), o2 122 (.move (tm 10)) 121 true, o2 123 (.move (tm 8)) 121 true, o2 124 (.bin (.shr) (tm 123) (.const (.val (.int (.u64) 4)))) 121 true, o2 125 (.bin (.add) (ci 4) (tm 124)) 121 true, o2 126 (.bin (.geq) (tm 122) (tm 125)) 121 true, o1 127 (.pick (tm 121) (tm 126) (cb false)), o1 128 (.move (tm 127)), o2 129 (.move (tm 8)) 128 true, o2 130 (.move (tm 9)) 128 true, o2 131 (.bin (.lss) (tm 129) (tm 130)) 128 true, o1 132 (.pick (tm 128) (tm 131) (cb false))] [118, 131]) (.cond (tm 132) (.seq (rt [o1 133 (.move (tm 0)), o1 134 (.move (tm 8)), o1 135 (.subS (tm 133) (some (tm 134)) none), o1 136 (.move (tm 1)), o1 137 (.call 229 [tm 135, tm 136]), o1 13 (.move (tm 137))] [133, 137]) (.seq (.seq (rt [o1 138 (.move (tm 13)), o1 139 (.bin (.lss) (tm 138) (ci 0))] [138, 138]) (.cond (tm 139) (.seq (rt [o1 4 (.move (ci (-1)))] []) (.ret)) (.skip))) (.seq (rt [o1 140 (.move (tm 8)), o1 141 (.move (tm 13)), o1 142 (.bin (.add) (tm 140) (tm 141)), o1 4 (.move (tm 142))] [140, 142]) (.ret)))) (.skip))))))))))))) (.seq (rt [o1 4 (.move (ci (-1)))] []) (.ret))))))))))
def r_internal_stringslite_Index : List VRes := [.tmp 4]
theorem ok_internal_stringslite_Index : FnOk Tryz.prog k_internal_stringslite_Index c_internal_stringslite_Index r_internal_stringslite_Index 143 :=
  ⟨⟨Tryz.f195, _, Tryz.func195, by decide, rfl, by kernel_rfl, by kernel_rfl, by kernel_rfl, rfl⟩⟩

/-- function 210 -/
def c__strings_asciiSet_contains : VCode :=
  .seq (rt [o1 4 (.move (cb false))] []) (.seq (rt [o1 5 (.move (tm 0)), o1 6 (.move (tm 1)), o1 7 (.nilCheck (tm 5)), o1 8 (.indexArr 256 1 (tm 7) (tm 6)), o1 9 (.load none (tm 8)), o1 4 (.move (tm 9))] [5, 9]) (.ret))
def r__strings_asciiSet_contains : List VRes := [.tmp 4]
theorem ok__strings_asciiSet_contains : FnOk Tryz.prog k__strings_asciiSet_contains c__strings_asciiSet_contains r__strings_asciiSet_contains 10 :=
  ⟨⟨Tryz.f210, _, Tryz.func210, by decide, rfl, by kernel_rfl, by kernel_rfl, by kernel_rfl, rfl⟩⟩

/-- function 219 -/
def c_param_written_1 : VCode :=
  .seq (rt [o1 3 (.callM k__strings_Builder_WriteByte [tm 1, cu 94])] [3, 3]) (rt [o1 4 (.move (tm 0)), o1 5 (.callM k__strings_Builder_WriteByte [tm 1, tm 4])] [4, 5])
def r_param_written_1 : List VRes := []
theorem ok_param_written_1 : FnOk Tryz.prog k_param_written_1 c_param_written_1 r_param_written_1 6 :=
  ⟨⟨Tryz.f219, _, Tryz.func219, by decide, rfl, by kernel_rfl, by kernel_rfl, by kernel_rfl, rfl⟩⟩

/-- function 220 -/
def c_strings_ContainsAny : VCode :=
  .seq (rt [o1 4 (.move (cb false))] []) (.seq (rt [o1 5 (.move (tm 0)), o1 6 (.move (tm 1)), o1 7 (.call k_strings_IndexAny [tm 5, tm 6]), o1 8 (.bin (.geq) (tm 7) (ci 0)), o1 4 (.move (tm 8))] [5, 8]) (.ret))
def r_strings_ContainsAny : List VRes := [.tmp 4]
theorem ok_strings_ContainsAny : FnOk Tryz.prog k_strings_ContainsAny c_strings_ContainsAny r_strings_ContainsAny 9 :=
  ⟨⟨Tryz.f220, _, Tryz.func220, by decide, rfl, by kernel_rfl, by kernel_rfl, by kernel_rfl, rfl⟩⟩

/-- function 221 -/
def c_param_quoted : VCode :=
  .seq (rt [o1 4 (.move (cs [])), o1 5 (.move (ci 0)), o1 6 (.move (.const (.val (.nili))))] []) (.seq (rt [o1 11 (.move (tm 0)), o1 12 (.move (tm 1)), o1 13 (.bin (.add) (tm 12) (ci 1)), o1 14 (.subS (tm 11) (some (tm 13)) none), o1 15 (.call k_strings_IndexByte [tm 14, cu 34]), o1 7 (.move (tm 15))] [11, 15]) (.seq (.seq (rt [o1 16 (.move (tm 7)), o1 17 (.bin (.lss) (tm 16) (ci 0))] [16, 16]) (.cond (tm 17) (.seq (rt [o1 18 (.move (tm 0)), o1 19 (.lenS (tm 18)), o1 20 (.call k_fault_New [ci 3, tm 19]), o1 4 (.move (cs [])), o1 5 (.move (ci 0)), o1 6 (.move (tm 20))] [18, 20]) (.ret)) (.skip))) (.seq (rt [o1 22 (.move (tm 0)), o1 23 (.move (tm 1)), o1 24 (.bin (.add) (tm 23) (ci 1)), o1 25 (.subS (tm 22) (some (tm 24)) none), o1 26 (.move (tm 7)), o1 27 (.subS (tm 25) none (some (tm 26))), o1 28 (.move (tm 1)), o1 29 (.move (tm 1)), o1 30 (.bin (.add) (tm 29) (ci 1)), o1 31 (.call k_param_checked [tm 27, tm 28, tm 30]), o1 21 (.move (tm 31)), o1 32 (.extract (tm 21) 0), o1 33 (.extract (tm 21) 1), o1 8 (.move (tm 32)), o1 9 (.move (tm 33))] [21, 33]) (.seq (.seq (rt [o1 34 (.move (tm 9)), o1 35 (.eqN true (tm 34))] [34, 34]) (.cond (tm 35) (.seq (rt [o1 36 (.move (tm 9)), o1 4 (.move (cs [])), o1 5 (.move (ci 0)), o1 6 (.move (tm 36))] [36, 36]) (.ret)) (.skip))) (.seq (rt [o1 37 (.move (tm 1)), o1 38 (.move (tm 7)), o1 39 (.bin (.add) (tm 37) (tm 38)), o1 40 (.bin (.add) (tm 39) (ci 2)), o1 10 (.move (tm 40))] [37, 40]) (.seq (.seq (rt [o1 41 (.move (tm 0)), o1 42 (.move (tm 10)), o1 43 (.call k_param_stop [tm 41, tm 42]), o1 44 (.un (.not) (tm 43))] [41, 43]) (.cond (tm 44) (.seq (rt [o1 45 (.move (tm 10)), o1 46 (.call k_fault_New [ci 4, tm 45]), o1 4 (.move (cs [])), o1 5 (.move (ci 0)), o1 6 (.move (tm 46))] [45, 46]) (.ret)) (.skip))) (.seq (rt [o1 47 (.move (tm 8)), o1 48 (.move (tm 10)), o1 4 (.move (tm 47)), o1 5 (.move (tm 48)), o1 6 (.move (.const (.val (.nili))))] [47, 48]) (.ret))))))))
def r_param_quoted : List VRes := [.tmp 4, .tmp 5, .tmp 6]
theorem ok_param_quoted : FnOk Tryz.prog k_param_quoted c_param_quoted r_param_quoted 49 :=
  ⟨⟨Tryz.f221, _, Tryz.func221, by decide, rfl, by kernel_rfl, by kernel_rfl, by kernel_rfl, rfl⟩⟩

/-- function 222 -/
def c_param_stop : VCode :=
  .seq (rt [o1 4 (.move (cb false))] []) (.seq (rt [o1 5 (.move (tm 1)), o1 6 (.move (tm 0)), o1 7 (.lenS (tm 6)), o1 8 (.bin (.eql) (tm 5) (tm 7)), o1 9 (.move (tm 8)), o2 10 (.move (tm 0)) 9 false, o2 11 (.move (tm 1)) 9 false, o2 12 (.indexS (tm 10) (tm 11)) 9 false, o2 13 (.call k_strings_IndexByte [cs [44, 58, 59], tm 12]) 9 false, o2 14 (.bin (.geq) (tm 13) (ci 0)) 9 false, o1 15 (.pick (tm 9) (cb true) (tm 14)), o1 4 (.move (tm 15))] [5, 15]) (.ret))
def r_param_stop : List VRes := [.tmp 4]
theorem ok_param_stop : FnOk Tryz.prog k_param_stop c_param_stop r_param_stop 16 :=
  ⟨⟨Tryz.f222, _, Tryz.func222, by decide, rfl, by kernel_rfl, by kernel_rfl, by kernel_rfl, rfl⟩⟩

/-- function 223 -/
def c_param_checked : VCode :=
  .seq (rt [o1 6 (.move (cs [])), o1 7 (.move (.const (.val (.nili))))] []) (.seq (.seq (rt [o1 10 (.move (tm 0)), o1 11 (.call k_utf_Odd [tm 10]), o1 8 (.move (tm 11))] [10, 11]) (.seq (rt [o1 12 (.move (tm 8)), o1 13 (.bin (.geq) (tm 12) (ci 0))] [12, 12]) (.cond (tm 13) (.seq (rt [o1 14 (.move (tm 2)), o1 15 (.move (tm 8)), o1 16 (.bin (.add) (tm 14) (tm 15)), o1 17 (.call k_fault_New [ci 10, tm 16]), o1 6 (.move (cs [])), o1 7 (.move (tm 17))] [14, 17]) (.ret)) (.skip)))) (.seq (rt [o1 18 (.move (tm 0)), o1 19 (.call k_param_meant [tm 18]), o1 9 (.move (tm 19))] [18, 19]) (.seq (.seq (rt [o1 20 (.move (tm 9)), o1 21 (.lenS (tm 20)), o1 22 (.bin (.gtr) (tm 21) (ci 60))] [20, 21]) (.cond (tm 22) (.seq (rt [o1 23 (.move (tm 1)), o1 24 (.call k_fault_New [ci 5, tm 23]), o1 6 (.move (cs [])), o1 7 (.move (tm 24))] [23, 24]) (.ret)) (.skip))) (.seq (rt [o1 25 (.move (tm 9)), o1 6 (.move (tm 25)), o1 7 (.move (.const (.val (.nili))))] [25, 25]) (.ret)))))
def r_param_checked : List VRes := [.tmp 6, .tmp 7]
theorem ok_param_checked : FnOk Tryz.prog k_param_checked c_param_checked r_param_checked 26 :=
  ⟨⟨Tryz.f223, _, Tryz.func223, by decide, rfl, by kernel_rfl, by kernel_rfl, by kernel_rfl, rfl⟩⟩

/-- function 235 -/
def c_strings_IndexRune : VCode :=
  .seq (rt [o1 4 (.move (ci 0))] []) (.block 0 (.seq (rt [o1 161 (.move (tm 1)), o1 162 (.bin (.leq) (.const (.val (.int (.i32) 0))) (tm 161)), o1 163 (.move (tm 162)), o2 164 (.move (tm 1)) 163 true, o2 165 (.bin (.lss) (tm 164) (.const (.val (.int (.i32) 128)))) 163 true, o1 166 (.pick (tm 163) (tm 165) (cb false)), o1 160 (.move (tm 166))] [161, 166]) (.cond (tm 160) (.seq (rt [o1 167 (.move (tm 0)), o1 168 (.move (tm 1)), o1 169 (.convI (.u8) (tm 168)), o1 170 (.call k_strings_IndexByte [tm 167, tm 169]), o1 4 (.move (tm 170))] [167, 170]) (.ret)) (.seq (rt [o1 172 (.move (tm 1)), o1 173 (.bin (.eql) (tm 172) (.const (.val (.int (.i32) 65533)))), o1 171 (.move (tm 173))] [172, 173]) (.cond (tm 171) (.seq (.seq (rt [o1 174 (.move (tm 0)), o1 175 (.rangeS (tm 174))] [174, 174]) (.block 9 (.loop (.seq (rt [o1 176 (.nextS (tm 175)), o1 177 (.extract (tm 176) 0)] []) (.seq (.cond (tm 177) (.skip) (.exit 9)) (.block 10 (.seq (rt [o1 178 (.extract (tm 176) 1), o1 179 (.extract (tm 176) 2), o1 5 (.move (tm 178)), o1 6 (.move (tm 179))] [178, 179]) (.seq (rt [o1 180 (.move (tm 6)), o1 181 (.bin (.eql) (tm 180) (.const (.val (.int (.i32) 65533))))] [180, 180]) (.cond (tm 181) (.seq (rt [o1 182 (.move (tm 5)), o1 4 (.move (tm 182))] [182, 182]) (.ret)) (.skip)))))))))) (.seq (rt [o1 4 (.move (ci (-1)))] []) (.ret))) (.seq (rt [o1 184 (.move (tm 1)), o1 185 (.call k_unicode_utf8_ValidRune [tm 184]), o1 186 (.un (.not) (tm 185)), o1 183 (.move (tm 186))] [184, 186]) (.cond (tm 183) (.seq (rt [o1 4 (.move (ci (-1)))] []) (.ret)) (.scope (.seq (rt [o1 17 (.move (tm 1)), o1 18 (.convR (tm 17)), o1 7 (.move (tm 18))] [17, 18]) (.seq (rt [o1 19 (.move (tm 7)), o1 20 (.lenS (tm 19)), o1 21 (.bin (.sub) (tm 20) (ci 1)), o1 8 (.move (tm 21))] [19, 21]) (.seq (rt [o1 22 (.move (tm 8)), o1 9 (.move (tm 22))] [22, 22]) (.seq (rt [o1 10 (.move (ci 0))] []) (.seq (.block 1 (.loop (.seq (.seq (rt [o1 23 (.move (tm 9)), o1 24 (.move (tm 0)), o1 25 (.lenS (tm 24)), o1 26 (.bin (.lss) (tm 23) (tm 25))] [23, 25]) (.cond (tm 26) (.skip) (.exit 1))) (.block 2 (.scope (.seq (.seq (.region [o1 27 (.move (tm 0)), o1 28 (.move (tm 9)), o1 29 (.indexS (tm 27) (tm 28)), o1 30 (.move (tm 7)), o1 31 (.move (tm 8)), o1 32 (.indexS (tm 30) (tm 31)), o1 33 (.bin (.neq) (tm 29) (tm 32))] (.calm) [27, 32]) (.cond (tm 33) (.seq (.region [o1 34 (.move (tm 0)), o1 35 (.move (tm 9)), o1 36 (.bin (.add) (tm 35) (ci 1)), o1 37 (.subS (tm 34) (some (tm 36)) none), o1 38 (.move (tm 7)), o1 39 (.move (tm 8)), o1 40 (.indexS (tm 38) (tm 39)), o1 41 (.call k_strings_IndexByte [tm 37, tm 40]), o1 11 (.move (tm 41))] (.drawn [] (prs [(7, [(0, 6)])])) [34, 41]) (.seq (.seq (rt [o1 42 (.move (tm 11)), o1 43 (.bin (.lss) (tm 42) (ci 0))] [42, 42]) (.cond (tm 43) (.seq (rt [o1 4 (.move (ci (-1)))] []) (.ret)) (.skip))) (rt [o1 44 (.move (tm 9)), o1 45 (.move (tm 11)), o1 46 (.bin (.add) (tm 45) (ci 1)), o1 47 (.bin (.add) (tm 44) (tm 46)), o1 9 (.move (tm 47))] [44, 47]))) (.skip))) (.seq (.seq (rt [o1 12 (.move (ci 1))] []) (.block 3 (.loop (.seq (.seq (rt [o1 48 (.move (tm 12)), o1 49 (.move (tm 7)), o1 50 (.lenS (tm 49)), o1 51 (.bin (.lss) (tm 48) (tm 50))] [48, 50]) (.cond (tm 51) (.skip) (.exit 3))) (.seq (.block 4 (.seq (.region [o1 54 (.move (tm 0)), o1 55 (.move (tm 9)), o1 56 (.move (tm 12)), o1 57 (.bin (.sub) (tm 55) (tm 56)), o1 58 (.indexS (tm 54) (tm 57)), o1 59 (.move (tm 7)), o1 60 (.move (tm 8)), o1 61 (.move (tm 12)), o1 62 (.bin (.sub) (tm 60) (tm 61)), o1 63 (.indexS (tm 59) (tm 62)), o1 64 (.bin (.neq) (tm 58) (tm 63))] (.calm) [54, 63]) (.cond (tm 64) (.goto 0) (.skip)))) (rt [o1 52 (.move (tm 12)), o1 53 (.bin (.add) (tm 52) (ci 1)), o1 12 (.move (tm 53))] [52, 53])))))) (.seq (.seq (rt [o1 65 (.move (tm 9)), o1 66 (.move (tm 8)), o1 67 (.bin (.sub) (tm 65) (tm 66)), o1 4 (.move (tm 67))] [65, 67]) (.ret)) (.seq (.label 0) (.seq (rt [o1 68 (.move (tm 10)), o1 69 (.bin (.add) (tm 68) (ci 1)), o1 10 (.move (tm 69))] [68, 69]) (.seq (rt [o1 70 (.move (tm 9)), o1 71 (.bin (.add) (tm 70) (ci 1)), o1 9 (.move (tm 71))] [70, 71]) (.seq (rt [o1 72 (.move (cb true)), o2 73 (.move (tm 10)) 72 true, o2 74 (.move (tm 9)) 72 true, o2 75 (.call 228 [tm 74]) 72 true, o2 76 (.bin (.gtr) (tm 73) (tm 75)) 72 true, o1 77 (.pick (tm 72) (tm 76) (cb false)), o1 78 (.move (tm 77)), o2 79 (.move (tm 9)) 78 true, o2 80 (.move (tm 0)) 78 true, o2 81 (.lenS (tm 80)) 78 true, o2 82 (.bin (.lss) (tm 79) (tm 81)) 78 true, o1 83 (.pick (tm 78) (tm 82) (cb false)), o1 84 (.move (tm 83)), o2 85 (.move (cb false)) 84 false, o2 86 (.move (tm 10)) 85 true, o2 87 (.move (tm 9)) 85 true, o2 88 (.bin (.shr) (tm 87) (.const (.val (.int (.u64) 4)))) 85 true, o2 89 (.bin (.add) (ci 4) (tm 88)) 85 true, o2 90 (.bin (.geq) (tm 86) (tm 89)) 85 true, o2 91 (.pick (tm 85) (tm 90) (cb false)) 84 false, o2 92 (.move (tm 91)) 84 false, o2 93 (.move (tm 9)) 92 true, o2 94 (.move (tm 0)) 92 true, o2 95 (.lenS (tm 94)) 92 true, o2 96 (.bin (.lss) (tm 93) (tm 95)) 92 true, o2 97 (.pick (tm 92) (tm 96) (cb false)) 84 false, o1 98 (.pick (tm 84) (cb true) (tm 97))] [72, 97]) (.cond (tm 98) (.goto 1) (.skip)))))))))))))) (.seq (.seq (rt [o1 4 (.move (ci (-1)))] []) (.ret)) (.seq (.label 1) (.seq (.cond (cb true) (.seq (rt [o1 99 (.move (tm 0)), o1 100 (.move (tm 9)), o1 101 (.move (tm 8)), o1 102 (.bin (.sub) (tm 100) (tm 101)), o1 103 (.subS (tm 99) (some (tm 102)) none), o1 104 (.move (tm 1)), o1 105 (.convR (tm 104)), o1 106 (.call 227 [tm 103, tm 105]), o1 13 (.move (tm 106))] [99, 106]) (.seq (rt [o1 107 (.move (tm 13)), o1 108 (.bin (.geq) (tm 107) (ci 0))] [107, 107]) (.cond (tm 108) (.seq (rt [o1 109 (.move (tm 9)), o1 110 (.move (tm 13)), o1 111 (.bin (.add) (tm 109) (tm 110)), o1 112 (.move (tm 8)), o1 113 (.bin (.sub) (tm 111) (tm 112)), o1 4 (.move (tm 113))] [109, 113]) (.ret)) (.skip)))) (.scope (.seq (rt [o1 114 (.move (tm 7)), o1 115 (.move (tm 8)), o1 116 (.indexS (tm 114) (tm 115)), o1 14 (.move (tm 116))] [114, 116]) (.seq (rt [o1 117 (.move (tm 7)), o1 118 (.move (tm 8)), o1 119 (.bin (.sub) (tm 118) (ci 1)), o1 120 (.indexS (tm 117) (tm 119)), o1 15 (.move (tm 120))] [117, 120]) (.seq (.label 2) (.block 5 (.loop (.seq (.seq (rt [o1 121 (.move (tm 9)), o1 122 (.move (tm 0)), o1 123 (.lenS (tm 122)), o1 124 (.bin (.lss) (tm 121) (tm 123))] [121, 123]) (.cond (tm 124) (.skip) (.exit 5))) (.seq (.block 6 (.seq (rt [o1 127 (.move (tm 0)), o1 128 (.move (tm 9)), o1 129 (.indexS (tm 127) (tm 128)), o1 130 (.move (tm 14)), o1 131 (.bin (.eql) (tm 129) (tm 130)), o1 132 (.move (tm 131)), o2 133 (.move (tm 0)) 132 true, o2 134 (.move (tm 9)) 132 true, o2 135 (.bin (.sub) (tm 134) (ci 1)) 132 true, o2 136 (.indexS (tm 133) (tm 135)) 132 true, o2 137 (.move (tm 15)) 132 true, o2 138 (.bin (.eql) (tm 136) (tm 137)) 132 true, o1 139 (.pick (tm 132) (tm 138) (cb false))] [127, 138]) (.cond (tm 139) (.seq (.seq (rt [o1 16 (.move (ci 2))] []) (.block 7 (.loop (.seq (.seq (rt [o1 140 (.move (tm 16)), o1 141 (.move (tm 7)), o1 142 (.lenS (tm 141)), o1 143 (.bin (.lss) (tm 140) (tm 142))] [140, 142]) (.cond (tm 143) (.skip) (.exit 7))) (.seq (.block 8 (.seq (.region [o1 146 (.move (tm 0)), o1 147 (.move (tm 9)), o1 148 (.move (tm 16)), o1 149 (.bin (.sub) (tm 147) (tm 148)), o1 150 (.indexS (tm 146) (tm 149)), o1 151 (.move (tm 7)), o1 152 (.move (tm 8)), o1 153 (.move (tm 16)), o1 154 (.bin (.sub) (tm 152) (tm 153)), o1 155 (.indexS (tm 151) (tm 154)), o1 156 (.bin (.neq) (tm 150) (tm 155))] (.calm) [146, 155]) (.cond (tm 156) (.exit 6) (.skip)))) (rt [o1 144 (.move (tm 16)), o1 145 (.bin (.add) (tm 144) (ci 1)), o1 16 (.move (tm 145))] [144, 145])))))) (.seq (rt [o1 157 (.move (tm 9)), o1 158 (.move (tm 8)), o1 159 (.bin (.sub) (tm 157) (tm 158)), o1 4 (.move (tm 159))] [157, 159]) (.ret))) (.skip)))) (rt [o1 125 (.move (tm 9)), o1 126 (.bin (.add) (tm 125) (ci 1)), o1 9 (.move (tm 126))] [125, 126])))))))))) (.seq (rt [o1 4 (.move (ci (-1)))] []) (.ret))))))))))))))))))
def r_strings_IndexRune : List VRes := [.tmp 4]
theorem ok_strings_IndexRune : FnOk Tryz.prog k_strings_IndexRune c_strings_IndexRune r_strings_IndexRune 187 :=
  ⟨⟨Tryz.f235, _, Tryz.func235, by decide, rfl, by kernel_rfl, by kernel_rfl, by kernel_rfl, rfl⟩⟩

/-- function 242 -/
def c_strings_IndexAny : VCode :=
  .seq (rt [o1 4 (.move (ci 0))] []) (.seq (.seq (rt [o1 11 (.move (tm 1)), o1 12 (.bin (.eql) (tm 11) (cs []))] [11, 11]) (.cond (tm 12) (.seq (rt [o1 4 (.move (ci (-1)))] []) (.ret)) (.skip))) (.seq (.seq (rt [o1 13 (.move (tm 1)), o1 14 (.lenS (tm 13)), o1 15 (.bin (.eql) (tm 14) (ci 1))] [13, 14]) (.cond (tm 15) (.seq (rt [o1 16 (.move (tm 1)), o1 17 (.indexS (tm 16) (ci 0)), o1 18 (.convI (.i32) (tm 17)), o1 5 (.move (tm 18))] [16, 18]) (.seq (.seq (rt [o1 19 (.move (tm 5)), o1 20 (.bin (.geq) (tm 19) (.const (.val (.int (.i32) 128))))] [19, 19]) (.cond (tm 20) (rt [o1 5 (.move (.const (.val (.int (.i32) 65533))))] []) (.skip))) (.seq (rt [o1 21 (.move (tm 0)), o1 22 (.move (tm 5)), o1 23 (.call k_strings_IndexRune [tm 21, tm 22]), o1 4 (.move (tm 23))] [21, 23]) (.ret)))) (.skip))) (.seq (.seq (rt [o1 24 (.move (tm 0)), o1 25 (.lenS (tm 24)), o1 26 (.call k_strings_shouldUseASCIISet [tm 25])] [24, 25]) (.cond (tm 26) (.seq (rt [o1 28 (.move (tm 1)), o1 29 (.call k_strings_makeASCIISet [tm 28]), o1 27 (.move (tm 29)), o1 30 (.extract (tm 27) 0), o1 31 (.extract (tm 27) 1), o1 6 (.alloc fz256), o3 (.store 256 (tm 6) (tm 30)), o1 7 (.move (tm 31))] [27, 31]) (.seq (rt [o1 32 (.move (tm 7))] []) (.cond (tm 32) (.seq (.seq (rt [o1 8 (.move (ci 0))] []) (.block 0 (.loop (.seq (.seq (rt [o1 33 (.move (tm 8)), o1 34 (.move (tm 0)), o1 35 (.lenS (tm 34)), o1 36 (.bin (.lss) (tm 33) (tm 35))] [33, 35]) (.cond (tm 36) (.skip) (.exit 0))) (.seq (.block 1 (.seq (rt [o1 39 (.move (tm 0)), o1 40 (.move (tm 8)), o1 41 (.indexS (tm 39) (tm 40)), o1 42 (.call k__strings_asciiSet_contains [tm 6, tm 41])] [39, 41]) (.cond (tm 42) (.seq (rt [o1 43 (.move (tm 8)), o1 4 (.move (tm 43))] [43, 43]) (.ret)) (.skip)))) (rt [o1 37 (.move (tm 8)), o1 38 (.bin (.add) (tm 37) (ci 1)), o1 8 (.move (tm 38))] [37, 38])))))) (.seq (rt [o1 4 (.move (ci (-1)))] []) (.ret))) (.skip)))) (.skip))) (.seq (.seq (rt [o1 44 (.move (tm 0)), o1 45 (.rangeS (tm 44))] [44, 44]) (.block 2 (.loop (.seq (rt [o1 46 (.nextS (tm 45)), o1 47 (.extract (tm 46) 0)] []) (.seq (.cond (tm 47) (.skip) (.exit 2)) (.block 3 (.seq (rt [o1 48 (.extract (tm 46) 1), o1 49 (.extract (tm 46) 2), o1 9 (.move (tm 48)), o1 10 (.move (tm 49))] [48, 49]) (.seq (rt [o1 50 (.move (tm 1)), o1 51 (.move (tm 10)), o1 52 (.call k_strings_IndexRune [tm 50, tm 51]), o1 53 (.bin (.geq) (tm 52) (ci 0))] [50, 52]) (.cond (tm 53) (.seq (rt [o1 54 (.move (tm 9)), o1 4 (.move (tm 54))] [54, 54]) (.ret)) (.skip)))))))))) (.seq (rt [o1 4 (.move (ci (-1)))] []) (.ret))))))
def r_strings_IndexAny : List VRes := [.tmp 4]
theorem ok_strings_IndexAny : FnOk Tryz.prog k_strings_IndexAny c_strings_IndexAny r_strings_IndexAny 55 :=
  ⟨⟨Tryz.f242, _, Tryz.func242, by decide, rfl, by kernel_rfl, by kernel_rfl, by kernel_rfl, rfl⟩⟩

/-- function 243 -/
def c_param_meant : VCode :=
  .seq (rt [o1 2 (.move (cs []))] []) (.seq (rt [o1 3 (.allocB 208)] []) (.seq (.seq (rt [o1 4 (.move (ci 0))] []) (.block 0 (.loop (.seq (.seq (rt [o1 6 (.move (tm 4)), o1 7 (.move (tm 0)), o1 8 (.lenS (tm 7)), o1 9 (.bin (.lss) (tm 6) (tm 8))] [6, 8]) (.cond (tm 9) (.skip) (.exit 0))) (.seq (.block 1 (.seq (rt [o1 12 (.move (tm 0)), o1 13 (.move (tm 4)), o1 14 (.indexS (tm 12) (tm 13)), o1 5 (.move (tm 14))] [12, 14]) (.seq (.seq (rt [o1 15 (.move (tm 5)), o1 16 (.bin (.eql) (tm 15) (cu 94)), o1 17 (.move (tm 16)), o2 18 (.move (tm 4)) 17 true, o2 19 (.bin (.add) (tm 18) (ci 1)) 17 true, o2 20 (.move (tm 0)) 17 true, o2 21 (.lenS (tm 20)) 17 true, o2 22 (.bin (.lss) (tm 19) (tm 21)) 17 true, o1 23 (.pick (tm 17) (tm 22) (cb false))] [15, 22]) (.cond (tm 23) (.seq (rt [o1 24 (.move (tm 0)), o1 25 (.move (tm 4)), o1 26 (.bin (.add) (tm 25) (ci 1)), o1 27 (.indexS (tm 24) (tm 26))] [24, 26]) (.block 2 (.seq (rt [o1 29 (.bin (.eql) (tm 27) (cu 94)), o1 28 (.move (tm 29))] [29, 29]) (.cond (tm 28) (rt [o1 30 (.move (tm 4)), o1 31 (.bin (.add) (tm 30) (ci 1)), o1 4 (.move (tm 31))] [30, 31]) (.seq (rt [o1 33 (.bin (.eql) (tm 27) (cu 110)), o1 32 (.move (tm 33))] [33, 33]) (.cond (tm 32) (.seq (rt [o1 5 (.move (cu 10))] []) (rt [o1 34 (.move (tm 4)), o1 35 (.bin (.add) (tm 34) (ci 1)), o1 4 (.move (tm 35))] [34, 35])) (.seq (rt [o1 37 (.bin (.eql) (tm 27) (cu 39)), o1 36 (.move (tm 37))] [37, 37]) (.cond (tm 36) (.seq (rt [o1 5 (.move (cu 34))] []) (rt [o1 38 (.move (tm 4)), o1 39 (.bin (.add) (tm 38) (ci 1)), o1 4 (.move (tm 39))] [38, 39])) (.skip))))))))) (.skip))) (rt [o1 40 (.move (tm 5)), o1 41 (.callM k__strings_Builder_WriteByte [tm 3, tm 40])] [40, 41])))) (rt [o1 10 (.move (tm 4)), o1 11 (.bin (.add) (tm 10) (ci 1)), o1 4 (.move (tm 11))] [10, 11])))))) (.seq (rt [o1 42 (.callM k__strings_Builder_String [tm 3]), o1 2 (.move (tm 42))] [42, 42]) (.ret))))
def r_param_meant : List VRes := [.tmp 2]
theorem ok_param_meant : FnOk Tryz.prog k_param_meant c_param_meant r_param_meant 43 :=
  ⟨⟨Tryz.f243, _, Tryz.func243, by decide, rfl, by kernel_rfl, by kernel_rfl, by kernel_rfl, rfl⟩⟩

/-- function 247 -/
def c_unicode_utf8_ValidRune : VCode :=
  .seq (rt [o1 2 (.move (cb false))] []) (.seq (.block 0 (.seq (rt [o1 4 (.move (tm 0)), o1 5 (.bin (.leq) (.const (.val (.int (.i32) 0))) (tm 4)), o1 6 (.move (tm 5)), o2 7 (.move (tm 0)) 6 true, o2 8 (.bin (.lss) (tm 7) (.const (.val (.int (.i32) 55296)))) 6 true, o1 9 (.pick (tm 6) (tm 8) (cb false)), o1 3 (.move (tm 9))] [4, 9]) (.cond (tm 3) (.seq (rt [o1 2 (.move (cb true))] []) (.ret)) (.seq (rt [o1 11 (.move (tm 0)), o1 12 (.bin (.lss) (.const (.val (.int (.i32) 57343))) (tm 11)), o1 13 (.move (tm 12)), o2 14 (.move (tm 0)) 13 true, o2 15 (.bin (.leq) (tm 14) (.const (.val (.int (.i32) 1114111)))) 13 true, o1 16 (.pick (tm 13) (tm 15) (cb false)), o1 10 (.move (tm 16))] [11, 16]) (.cond (tm 10) (.seq (rt [o1 2 (.move (cb true))] []) (.ret)) (.skip)))))) (.seq (rt [o1 2 (.move (cb false))] []) (.ret)))
def r_unicode_utf8_ValidRune : List VRes := [.tmp 2]
theorem ok_unicode_utf8_ValidRune : FnOk Tryz.prog k_unicode_utf8_ValidRune c_unicode_utf8_ValidRune r_unicode_utf8_ValidRune 17 :=
  ⟨⟨Tryz.f247, _, Tryz.func247, by decide, rfl, by kernel_rfl, by kernel_rfl, by kernel_rfl, rfl⟩⟩

/-- function 250 -/
def c_strings_shouldUseASCIISet : VCode :=
  .seq (rt [o1 2 (.move (cb false))] []) (.seq (rt [o1 3 (.move (tm 0)), o1 4 (.bin (.gtr) (tm 3) (ci 8)), o1 2 (.move (tm 4))] [3, 4]) (.ret))
def r_strings_shouldUseASCIISet : List VRes := [.tmp 2]
theorem ok_strings_shouldUseASCIISet : FnOk Tryz.prog k_strings_shouldUseASCIISet c_strings_shouldUseASCIISet r_strings_shouldUseASCIISet 5 :=
  ⟨⟨Tryz.f250, _, Tryz.func250, by decide, rfl, by kernel_rfl, by kernel_rfl, by kernel_rfl, rfl⟩⟩

end Go.Vs.YtbchceojmblkkaaGreatDoor
