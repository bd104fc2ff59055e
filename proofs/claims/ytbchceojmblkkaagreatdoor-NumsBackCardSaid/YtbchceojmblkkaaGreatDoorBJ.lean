/-
  DERIVED: THE SHELF's CONTRACTS AT THIS DUMP, IN PLAIN WORDS (tools/lay-plain.mjs out of 'TryzShelf.lean', which tools/lay-shelf.mjs wrote): THE SAME DECLARATIONS UNDER THE SAME NAMES: 'import', 'namespace', 'open', 'def', 'theorem' AND NOTHING ELSE: no command of the shelf's: FOR A HAND-IN. Each laying: the table of numbers ('.._ren') and one theorem, a field a fact of the dump's own or the kernel's comparison; each contract: ONE APPLICATION.
-/
import Derived.Shelf.Strings.Builder1
import Derived.Shelf.Strings.OnBuilder
import Derived.Shelf.LaysM
import Derived.Shelf.Strconv.Itoa3
import Derived.Shelf.Strings.IndexAnyAll
import Derived.Shelf.Unicode.DecodeSlow
import Derived.Shelf.Unicode.DecodeAny
import Derived.Test.YtbchceojmblkkaaGreatDoorProg
import Derived.Test.YtbchceojmblkkaaGreatDoorNA
import Derived.Test.YtbchceojmblkkaaGreatDoorBI
import Derived.Test.YtbchceojmblkkaaGreatDoorRows
import Derived.KernelRfl
set_option linter.unusedVariables false
set_option linter.unusedSimpArgs false
namespace Go.Proofs
open Go.Shelf
end Go.Proofs
namespace Go.Vs.YtbchceojmblkkaaGreatDoor
set_option linter.unusedSimpArgs false
set_option linter.unusedVariables false
open Go.Proofs
set_option maxRecDepth 100000
set_option maxHeartbeats 4000000

def k_strings_Split : Nat := 102
def k_strings_genSplit : Nat := 155
def k_strings_makeASCIISet : Nat := 176
def k_strings_Count : Nat := 193
def k_strings_Index : Nat := 194
def k_internal_stringslite_Index : Nat := 195
def k__strings_asciiSet_contains : Nat := 210
/-- function 102 -/
def c_strings_Split : VCode :=
  .seq (rt [o1 4 (.move (.const (.nils)))] []) (.seq (rt [o1 5 (.move (tm 0)), o1 6 (.move (tm 1)), o1 7 (.call k_strings_genSplit [tm 5, tm 6, ci 0, ci (-1)]), o1 4 (.move (tm 7))] [5, 7]) (.ret))
def r_strings_Split : List VRes := [.tmp 4]
theorem ok_strings_Split : FnOk Tryz.prog k_strings_Split c_strings_Split r_strings_Split 8 :=
  ⟨⟨Tryz.f102, _, Tryz.func102, by decide, rfl, by kernel_rfl, by kernel_rfl, by kernel_rfl, rfl⟩⟩

/-- function 155 -/
def c_strings_genSplit : VCode :=
  .seq (rt [o1 8 (.move (.const (.nils)))] []) (.seq (.seq (rt [o1 12 (.move (tm 3)), o1 13 (.bin (.eql) (tm 12) (ci 0))] [12, 12]) (.cond (tm 13) (.seq (rt [o1 8 (.move (.const (.nils)))] []) (.ret)) (.skip))) (.seq (.seq (rt [o1 14 (.move (tm 1)), o1 15 (.bin (.eql) (tm 14) (cs []))] [14, 14]) (.cond (tm 15) (.seq (rt [o1 16 (.move (tm 0)), o1 17 (.move (tm 3)), o1 18 (.call 192 [tm 16, tm 17]), o1 8 (.move (tm 18))] [16, 18]) (.ret)) (.skip))) (.seq (.seq (rt [o1 19 (.move (tm 3)), o1 20 (.bin (.lss) (tm 19) (ci 0))] [19, 19]) (.cond (tm 20) (rt [o1 21 (.move (tm 0)), o1 22 (.move (tm 1)), o1 23 (.call k_strings_Count [tm 21, tm 22]), o1 24 (.bin (.add) (tm 23) (ci 1)), o1 3 (.move (tm 24))] [21, 24]) (.skip))) (.seq (rt [o1 25 (.move (tm 3)), o1 26 (.move (tm 0)), o1 27 (.lenS (tm 26)), o1 28 (.bin (.add) (tm 27) (ci 1)), o1 29 (.minI (tm 25) (tm 28)), o1 3 (.move (tm 29))] [25, 29]) (.seq (rt [o1 30 (.move (tm 3)), o1 31 (.mkSlice 1 16 [.val (.str [])] (tm 30) (tm 30)), o1 9 (.move (tm 31))] [30, 31]) (.seq (rt [o1 32 (.move (tm 3)), o1 33 (.bin (.sub) (tm 32) (ci 1)), o1 3 (.move (tm 33))] [32, 33]) (.seq (rt [o1 10 (.move (ci 0))] []) (.seq (.block 0 (.loop (.seq (.seq (rt [o1 34 (.move (tm 10)), o1 35 (.move (tm 3)), o1 36 (.bin (.lss) (tm 34) (tm 35))] [34, 35]) (.cond (tm 36) (.skip) (.exit 0))) (.block 1 (.seq (rt [o1 37 (.move (tm 0)), o1 38 (.move (tm 1)), o1 39 (.call k_strings_Index [tm 37, tm 38]), o1 11 (.move (tm 39))] [37, 39]) (.seq (.seq (rt [o1 40 (.move (tm 11)), o1 41 (.bin (.lss) (tm 40) (ci 0))] [40, 40]) (.cond (tm 41) (.exit 0) (.skip))) (.seq (rt [o1 42 (.move (tm 9)), o1 43 (.move (tm 10)), o1 44 (.move (tm 0)), o1 45 (.move (tm 11)), o1 46 (.move (tm 2)), o1 47 (.bin (.add) (tm 45) (tm 46)), o1 48 (.subS (tm 44) none (some (tm 47))), o1 49 (.indexAddr 1 (tm 42) (tm 43)), o3 (.store 1 (tm 49) (tm 48))] [42, 49]) (.seq (rt [o1 50 (.move (tm 0)), o1 51 (.move (tm 11)), o1 52 (.move (tm 1)), o1 53 (.lenS (tm 52)), o1 54 (.bin (.add) (tm 51) (tm 53)), o1 55 (.subS (tm 50) (some (tm 54)) none), o1 0 (.move (tm 55))] [50, 55]) (rt [o1 56 (.move (tm 10)), o1 57 (.bin (.add) (tm 56) (ci 1)), o1 10 (.move (tm 57))] [56, 57]))))))))) (.seq (rt [o1 58 (.move (tm 9)), o1 59 (.move (tm 10)), o1 60 (.move (tm 0)), o1 61 (.indexAddr 1 (tm 58) (tm 59)), o3 (.store 1 (tm 61) (tm 60))] [58, 61]) (.seq (rt [o1 62 (.move (tm 9)), o1 63 (.move (tm 10)), o1 64 (.bin (.add) (tm 63) (ci 1)), o1 65 (.subV 1 (tm 62) none (some (tm 64)) none), o1 8 (.move (tm 65))] [62, 65]) (.ret)))))))))))
def r_strings_genSplit : List VRes := [.tmp 8]
theorem ok_strings_genSplit : FnOk Tryz.prog k_strings_genSplit c_strings_genSplit r_strings_genSplit 66 :=
  ⟨⟨Tryz.f155, _, Tryz.func155, by decide, rfl, by kernel_rfl, by kernel_rfl, by kernel_rfl, rfl⟩⟩

/-- function 176 -/
def c_strings_makeASCIISet : VCode :=
  .seq (rt [o1 2 (.alloc fz256), o1 3 (.move (cb false))] []) (.seq (.seq (rt [o1 4 (.move (ci 0))] []) (.block 0 (.loop (.seq (.seq (rt [o1 6 (.move (tm 4)), o1 7 (.move (tm 0)), o1 8 (.lenS (tm 7)), o1 9 (.bin (.lss) (tm 6) (tm 8))] [6, 8]) (.cond (tm 9) (.skip) (.exit 0))) (.seq (.block 1 (.seq (rt [o1 12 (.move (tm 0)), o1 13 (.move (tm 4)), o1 14 (.indexS (tm 12) (tm 13)), o1 5 (.move (tm 14))] [12, 14]) (.seq (.seq (rt [o1 15 (.move (tm 5)), o1 16 (.bin (.geq) (tm 15) (cu 128))] [15, 15]) (.cond (tm 16) (.seq (rt [o1 17 (.load (some 256) (tm 2)), o3 (.store 256 (tm 2) (tm 17)), o1 3 (.move (cb false))] [17, 17]) (.ret)) (.skip))) (rt [o1 18 (.move (tm 5)), o1 19 (.indexArr 256 1 (tm 2) (tm 18)), o3 (.store 1 (tm 19) (cb true))] [18, 19])))) (rt [o1 10 (.move (tm 4)), o1 11 (.bin (.add) (tm 10) (ci 1)), o1 4 (.move (tm 11))] [10, 11])))))) (.seq (rt [o1 20 (.load (some 256) (tm 2)), o3 (.store 256 (tm 2) (tm 20)), o1 3 (.move (cb true))] [20, 20]) (.ret)))
def r_strings_makeASCIISet : List VRes := [.cell 2 (some 256), .tmp 3]
theorem ok_strings_makeASCIISet : FnOk Tryz.prog k_strings_makeASCIISet c_strings_makeASCIISet r_strings_makeASCIISet 21 :=
  ⟨⟨Tryz.f176, _, Tryz.func176, by decide, rfl, by kernel_rfl, by kernel_rfl, by kernel_rfl, rfl⟩⟩

/-- function 193 -/
def c_strings_Count : VCode :=
  .seq (rt [o1 4 (.move (ci 0))] []) (.seq (.seq (rt [o1 7 (.move (tm 1)), o1 8 (.lenS (tm 7)), o1 9 (.bin (.eql) (tm 8) (ci 0))] [7, 8]) (.cond (tm 9) (.seq (rt [o1 10 (.move (tm 0)), o1 11 (.call k_unicode_utf8_RuneCountInString [tm 10]), o1 12 (.bin (.add) (tm 11) (ci 1)), o1 4 (.move (tm 12))] [10, 12]) (.ret)) (.skip))) (.seq (.seq (rt [o1 13 (.move (tm 1)), o1 14 (.lenS (tm 13)), o1 15 (.bin (.eql) (tm 14) (ci 1))] [13, 14]) (.cond (tm 15) (.seq (rt [o1 16 (.move (tm 0)), o1 17 (.move (tm 1)), o1 18 (.indexS (tm 17) (ci 0)), o1 19 (.call k_internal_bytealg_CountString [tm 16, tm 18]), o1 4 (.move (tm 19))] [16, 19]) (.ret)) (.skip))) (.seq (rt [o1 5 (.move (ci 0))] []) (.block 0 (.loop (.block 1 (.seq (rt [o1 20 (.move (tm 0)), o1 21 (.move (tm 1)), o1 22 (.call k_strings_Index [tm 20, tm 21]), o1 6 (.move (tm 22))] [20, 22]) (.seq (.seq (rt [o1 23 (.move (tm 6)), o1 24 (.bin (.eql) (tm 23) (ci (-1)))] [23, 23]) (.cond (tm 24) (.seq (rt [o1 25 (.move (tm 5)), o1 4 (.move (tm 25))] [25, 25]) (.ret)) (.skip))) (.seq (rt [o1 26 (.move (tm 5)), o1 27 (.bin (.add) (tm 26) (ci 1)), o1 5 (.move (tm 27))] [26, 27]) (rt [o1 28 (.move (tm 0)), o1 29 (.move (tm 6)), o1 30 (.move (tm 1)), o1 31 (.lenS (tm 30)), o1 32 (.bin (.add) (tm 29) (tm 31)), o1 33 (.subS (tm 28) (some (tm 32)) none), o1 0 (.move (tm 33))] [28, 33]))))))))))
def r_strings_Count : List VRes := [.tmp 4]
theorem ok_strings_Count : FnOk Tryz.prog k_strings_Count c_strings_Count r_strings_Count 34 :=
  ⟨⟨Tryz.f193, _, Tryz.func193, by decide, rfl, by kernel_rfl, by kernel_rfl, by kernel_rfl, rfl⟩⟩

/-- function 194 -/
def c_strings_Index : VCode :=
  .seq (rt [o1 4 (.move (ci 0))] []) (.seq (rt [o1 5 (.move (tm 0)), o1 6 (.move (tm 1)), o1 7 (.call k_internal_stringslite_Index [tm 5, tm 6]), o1 4 (.move (tm 7))] [5, 7]) (.ret))
def r_strings_Index : List VRes := [.tmp 4]
theorem ok_strings_Index : FnOk Tryz.prog k_strings_Index c_strings_Index r_strings_Index 8 :=
  ⟨⟨Tryz.f194, _, Tryz.func194, by decide, rfl, by kernel_rfl, by kernel_rfl, by kernel_rfl, rfl⟩⟩

/-- function 195 -/
def c_internal_stringslite_Index : VCode :=
  .seq (rt [o1 4 (.move (ci 0))] []) (.seq (rt [o1 14 (.move (tm 1)), o1 15 (.lenS (tm 14)), o1 5 (.move (tm 15))] [14, 15]) (.seq (.block 0 (.seq (rt [o1 17 (.move (tm 5)), o1 18 (.bin (.eql) (tm 17) (ci 0)), o1 19 (.move (tm 18)), o2 20 (.move (tm 1)) 19 false, o2 21 (.move (tm 0)) 19 false, o2 22 (.bin (.eql) (tm 20) (tm 21)) 19 false, o1 23 (.pick (tm 19) (cb true) (tm 22)), o1 16 (.move (tm 23))] [17, 23]) (.cond (tm 16) (.seq (rt [o1 4 (.move (ci 0))] []) (.ret)) (.seq (rt [o1 25 (.move (tm 5)), o1 26 (.bin (.eql) (tm 25) (ci 1)), o1 24 (.move (tm 26))] [25, 26]) (.cond (tm 24) (.seq (rt [o1 27 (.move (tm 0)), o1 28 (.move (tm 1)), o1 29 (.indexS (tm 28) (ci 0)), o1 30 (.call k_internal_stringslite_IndexByte [tm 27, tm 29]), o1 4 (.move (tm 30))] [27, 30]) (.ret)) (.seq (rt [o1 32 (.move (tm 5)), o1 33 (.move (tm 0)), o1 34 (.lenS (tm 33)), o1 35 (.bin (.geq) (tm 32) (tm 34)), o1 31 (.move (tm 35))] [32, 35]) (.cond (tm 31) (.seq (rt [o1 4 (.move (ci (-1)))] []) (.ret)) (.seq (rt [o1 37 (.move (tm 5)), o1 38 (.load none (.glob 1)), o1 39 (.bin (.leq) (tm 37) (tm 38)), o1 40 (.move (tm 39)), o2 41 (.move (tm 0)) 40 true, o2 42 (.lenS (tm 41)) 40 true, o2 43 (.bin (.leq) (tm 42) (ci 64)) 40 true, o1 44 (.pick (tm 40) (tm 43) (cb false)), o1 36 (.move (tm 44))] [37, 44]) (.cond (tm 36) (.seq (rt [o1 45 (.move (tm 0)), o1 46 (.move (tm 1)), o1 47 (.call 227 [tm 45, tm 46]), o1 4 (.move (tm 47))] [45, 47]) (.ret)) (.skip)))))))))) (.seq (rt [o1 48 (.move (tm 1)), o1 49 (.indexS (tm 48) (ci 0)), o1 6 (.move (tm 49))] [48, 49]) (.seq (rt [o1 50 (.move (tm 1)), o1 51 (.indexS (tm 50) (ci 1)), o1 7 (.move (tm 51))] [50, 51]) (.seq (rt [o1 8 (.move (ci 0))] []) (.seq (rt [o1 52 (.move (tm 0)), o1 53 (.lenS (tm 52)), o1 54 (.move (tm 5)), o1 55 (.bin (.sub) (tm 53) (tm 54)), o1 56 (.bin (.add) (tm 55) (ci 1)), o1 9 (.move (tm 56))] [52, 56]) (.seq (rt [o1 10 (.move (ci 0))] []) (.seq (.block 1 (.loop (.seq (.seq (rt [o1 57 (.move (tm 8)), o1 58 (.move (tm 9)), o1 59 (.bin (.lss) (tm 57) (tm 58))] [57, 58]) (.cond (tm 59) (.skip) (.exit 1))) (.block 2 (.seq (.seq (rt [o1 60 (.move (tm 0)), o1 61 (.move (tm 8)), o1 62 (.indexS (tm 60) (tm 61)), o1 63 (.move (tm 6)), o1 64 (.bin (.neq) (tm 62) (tm 63))] [60, 63]) (.cond (tm 64) (.seq (rt [o1 65 (.move (tm 0)), o1 66 (.move (tm 8)), o1 67 (.bin (.add) (tm 66) (ci 1)), o1 68 (.move (tm 9)), o1 69 (.subS (tm 65) (some (tm 67)) (some (tm 68))), o1 70 (.move (tm 6)), o1 71 (.call k_internal_stringslite_IndexByte [tm 69, tm 70]), o1 11 (.move (tm 71))] [65, 71]) (.seq (.seq (rt [o1 72 (.move (tm 11)), o1 73 (.bin (.lss) (tm 72) (ci 0))] [72, 72]) (.cond (tm 73) (.seq (rt [o1 4 (.move (ci (-1)))] []) (.ret)) (.skip))) (rt [o1 74 (.move (tm 8)), o1 75 (.move (tm 11)), o1 76 (.bin (.add) (tm 75) (ci 1)), o1 77 (.bin (.add) (tm 74) (tm 76)), o1 8 (.move (tm 77))] [74, 77]))) (.skip))) (.seq (.seq (rt [o1 78 (.move (tm 0)), o1 79 (.move (tm 8)), o1 80 (.bin (.add) (tm 79) (ci 1)), o1 81 (.indexS (tm 78) (tm 80)), o1 82 (.move (tm 7)), o1 83 (.bin (.eql) (tm 81) (tm 82)), o1 84 (.move (tm 83)), o2 85 (.move (tm 0)) 84 true, o2 86 (.move (tm 8)) 84 true, o2 87 (.move (tm 8)) 84 true, o2 88 (.move (tm 5)) 84 true, o2 89 (.bin (.add) (tm 87) (tm 88)) 84 true, o2 90 (.subS (tm 85) (some (tm 86)) (some (tm 89))) 84 true, o2 91 (.move (tm 1)) 84 true, o2 92 (.bin (.eql) (tm 90) (tm 91)) 84 true, o1 93 (.pick (tm 84) (tm 92) (cb false))] [78, 92]) (.cond (tm 93) (.seq (rt [o1 94 (.move (tm 8)), o1 4 (.move (tm 94))] [94, 94]) (.ret)) (.skip))) (.seq (rt [o1 95 (.move (tm 8)), o1 96 (.bin (.add) (tm 95) (ci 1)), o1 8 (.move (tm 96))] [95, 96]) (.seq (rt [o1 97 (.move (tm 10)), o1 98 (.bin (.add) (tm 97) (ci 1)), o1 10 (.move (tm 98))] [97, 98]) (.seq (rt [o1 99 (.move (tm 5)), o1 100 (.load none (.glob 1)), o1 101 (.bin (.leq) (tm 99) (tm 100)), o1 102 (.move (tm 101)), o2 103 (.move (tm 10)) 102 true, o2 104 (.move (tm 8)) 102 true, o2 105 (.call 228 [tm 104]) 102 true, o2 106 (.bin (.gtr) (tm 103) (tm 105)) 102 true, o1 107 (.pick (tm 102) (tm 106) (cb false))] [99, 106]) (.cond (tm 107) (.seq (rt [o1 108 (.move (tm 0)), o1 109 (.move (tm 8)), o1 110 (.subS (tm 108) (some (tm 109)) none), o1 111 (.move (tm 1)), o1 112 (.call 227 [tm 110, tm 111]), o1 12 (.move (tm 112))] [108, 112]) (.seq (.seq (rt [o1 113 (.move (tm 12)), o1 114 (.bin (.geq) (tm 113) (ci 0))] [113, 113]) (.cond (tm 114) (.seq (rt [o1 115 (.move (tm 12)), o1 116 (.move (tm 8)), o1 117 (.bin (.add) (tm 115) (tm 116)), o1 4 (.move (tm 117))] [115, 117]) (.ret)) (.skip))) (.seq (rt [o1 4 (.move (ci (-1)))] []) (.ret)))) (.seq (rt [o1 118 (.move (tm 5)), o1 119 (.load none (.glob 1)), o1 120 (.bin (.gtr) (tm 118) (tm 119)), o1 121 (.move (tm 120)), o2 122 (.move (tm 10)) 121 true, o2 123 (.move (tm 8)) 121 true, o2 124 (.bin (.shr) (tm 123) (.const (.val (.int (.u64) 4)))) 121 true, o2 125 (.bin (.add) (ci 4) (tm 124)) 121 true, o2 126 (.bin (.geq) (tm 122) (tm 125)) 121 true, o1 127 (.pick (tm 121) (tm 126) (cb false)), o1 128 (.move (tm 127)), o2 129 (.move (tm 8)) 128 true, o2 130 (.move (tm 9)) 128 true, o2 131 (.bin (.lss) (tm 129) (tm 130)) 128 true, o1 132 (.pick (tm 128) (tm 131) (cb false))] [118, 131]) (.cond (tm 132) (.seq (rt [o1 133 (.move (tm 0)), o1 134 (.move (tm 8)), o1 135 (.subS (tm 133) (some (tm 134)) none), o1 136 (.move (tm 1)), o1 137 (.call 229 [tm 135, tm 136]), o1 13 (.move (tm 137))] [133, 137]) (.seq (.seq (rt [o1 138 (.move (tm 13)), o1 139 (.bin (.lss) (tm 138) (ci 0))] [138, 138]) (.cond (tm 139) (.seq (rt [o1 4 (.move (ci (-1)))] []) (.ret)) (.skip))) (.seq (rt [o1 140 (.move (tm 8)), o1 141 (.move (tm 13)), o1 142 (.bin (.add) (tm 140) (tm 141)), o1 4 (.move (tm 142))] [140, 142]) (.ret)))) (.skip))))))))))))) (.seq (rt [o1 4 (.move (ci (-1)))] []) (.ret))))))))))
def r_internal_stringslite_Index : List VRes := [.tmp 4]
theorem ok_internal_stringslite_Index : FnOk Tryz.prog k_internal_stringslite_Index c_internal_stringslite_Index r_internal_stringslite_Index 143 :=
  ⟨⟨Tryz.f195, _, Tryz.func195, by decide, rfl, by kernel_rfl, by kernel_rfl, by kernel_rfl, rfl⟩⟩

/-- function 210 -/
def c__strings_asciiSet_contains : VCode :=
  .seq (rt [o1 4 (.move (cb false))] []) (.seq (rt [o1 5 (.move (tm 0)), o1 6 (.move (tm 1)), o1 7 (.nilCheck (tm 5)), o1 8 (.indexArr 256 1 (tm 7) (tm 6)), o1 9 (.load none (tm 8)), o1 4 (.move (tm 9))] [5, 9]) (.ret))
def r__strings_asciiSet_contains : List VRes := [.tmp 4]
theorem ok__strings_asciiSet_contains : FnOk Tryz.prog k__strings_asciiSet_contains c__strings_asciiSet_contains r__strings_asciiSet_contains 10 :=
  ⟨⟨Tryz.f210, _, Tryz.func210, by decide, rfl, by kernel_rfl, by kernel_rfl, by kernel_rfl, rfl⟩⟩

end Go.Vs.YtbchceojmblkkaaGreatDoor
