/- The code of the seat's functions in the small typed code; printed by a program of the prover's. -/
import Derived.Test.YtbchceojmblkkaaGreatDoorNA
import Derived.Test.YtbchceojmblkkaaGreatDoorNB
import Derived.Test.YtbchceojmblkkaaGreatDoorRows
import Derived.KernelRfl
set_option linter.unusedVariables false
set_option linter.unusedSimpArgs false
namespace Go.Vs.YtbchceojmblkkaaGreatDoor
set_option linter.unusedSimpArgs false
set_option linter.unusedVariables false
open Go.Proofs
set_option maxRecDepth 100000
set_option maxHeartbeats 4000000

def k_strings_TrimRight : Nat := 144
def k_strings_CutSuffix : Nat := 145
def k_strings_trimRightASCII : Nat := 178
def k_internal_stringslite_CutSuffix : Nat := 184
def k_internal_stringslite_HasSuffix : Nat := 218
/-- function 144 -/
def c_strings_TrimRight : VCode :=
  .seq (rt [o1 4 (.move (cs []))] []) (.seq (.seq (rt [o1 7 (.move (tm 0)), o1 8 (.bin (.eql) (tm 7) (cs [])), o1 9 (.move (tm 8)), o2 10 (.move (tm 1)) 9 false, o2 11 (.bin (.eql) (tm 10) (cs [])) 9 false, o1 12 (.pick (tm 9) (cb true) (tm 11))] [7, 11]) (.cond (tm 12) (.seq (rt [o1 13 (.move (tm 0)), o1 4 (.move (tm 13))] [13, 13]) (.ret)) (.skip))) (.seq (.seq (rt [o1 14 (.move (tm 1)), o1 15 (.lenS (tm 14)), o1 16 (.bin (.eql) (tm 15) (ci 1)), o1 17 (.move (tm 16)), o2 18 (.move (tm 1)) 17 true, o2 19 (.indexS (tm 18) (ci 0)) 17 true, o2 20 (.bin (.lss) (tm 19) (cu 128)) 17 true, o1 21 (.pick (tm 17) (tm 20) (cb false))] [14, 20]) (.cond (tm 21) (.seq (rt [o1 22 (.move (tm 0)), o1 23 (.move (tm 1)), o1 24 (.indexS (tm 23) (ci 0)), o1 25 (.call 175 [tm 22, tm 24]), o1 4 (.move (tm 25))] [22, 25]) (.ret)) (.skip))) (.seq (.seq (rt [o1 27 (.move (tm 1)), o1 28 (.call k_strings_makeASCIISet [tm 27]), o1 26 (.move (tm 28)), o1 29 (.extract (tm 26) 0), o1 30 (.extract (tm 26) 1), o1 5 (.alloc fz256), o3 (.store 256 (tm 5) (tm 29)), o1 6 (.move (tm 30))] [26, 30]) (.seq (rt [o1 31 (.move (tm 6))] []) (.cond (tm 31) (.seq (rt [o1 32 (.move (tm 0)), o1 33 (.call k_strings_trimRightASCII [tm 32, tm 5]), o1 4 (.move (tm 33))] [32, 33]) (.ret)) (.skip)))) (.seq (rt [o1 34 (.move (tm 0)), o1 35 (.move (tm 1)), o1 36 (.call 180 [tm 34, tm 35]), o1 4 (.move (tm 36))] [34, 36]) (.ret)))))
def r_strings_TrimRight : List VRes := [.tmp 4]
theorem ok_strings_TrimRight : FnOk Tryz.prog k_strings_TrimRight c_strings_TrimRight r_strings_TrimRight 37 :=
  ⟨⟨Tryz.f144, _, Tryz.func144, by decide, rfl, by kernel_rfl, by kernel_rfl, by kernel_rfl, rfl⟩⟩

/-- function 145 -/
def c_strings_CutSuffix : VCode :=
  .seq (rt [o1 4 (.move (cs [])), o1 5 (.move (cb false))] []) (.seq (rt [o1 6 (.move (tm 0)), o1 7 (.move (tm 1)), o1 8 (.call k_internal_stringslite_CutSuffix [tm 6, tm 7]), o1 9 (.extract (tm 8) 0), o1 10 (.extract (tm 8) 1), o1 4 (.move (tm 9)), o1 5 (.move (tm 10))] [6, 10]) (.ret))
def r_strings_CutSuffix : List VRes := [.tmp 4, .tmp 5]
theorem ok_strings_CutSuffix : FnOk Tryz.prog k_strings_CutSuffix c_strings_CutSuffix r_strings_CutSuffix 11 :=
  ⟨⟨Tryz.f145, _, Tryz.func145, by decide, rfl, by kernel_rfl, by kernel_rfl, by kernel_rfl, rfl⟩⟩

/-- function 178 -/
def c_strings_trimRightASCII : VCode :=
  .seq (rt [o1 4 (.move (cs []))] []) (.seq (.block 0 (.loop (.seq (.seq (rt [o1 5 (.move (tm 0)), o1 6 (.lenS (tm 5)), o1 7 (.bin (.gtr) (tm 6) (ci 0))] [5, 6]) (.cond (tm 7) (.skip) (.exit 0))) (.block 1 (.seq (.seq (rt [o1 8 (.move (tm 1)), o1 9 (.move (tm 0)), o1 10 (.move (tm 0)), o1 11 (.lenS (tm 10)), o1 12 (.bin (.sub) (tm 11) (ci 1)), o1 13 (.indexS (tm 9) (tm 12)), o1 14 (.call k__strings_asciiSet_contains [tm 8, tm 13]), o1 15 (.un (.not) (tm 14))] [8, 14]) (.cond (tm 15) (.exit 0) (.skip))) (rt [o1 16 (.move (tm 0)), o1 17 (.move (tm 0)), o1 18 (.lenS (tm 17)), o1 19 (.bin (.sub) (tm 18) (ci 1)), o1 20 (.subS (tm 16) none (some (tm 19))), o1 0 (.move (tm 20))] [16, 20])))))) (.seq (rt [o1 21 (.move (tm 0)), o1 4 (.move (tm 21))] [21, 21]) (.ret)))
def r_strings_trimRightASCII : List VRes := [.tmp 4]
theorem ok_strings_trimRightASCII : FnOk Tryz.prog k_strings_trimRightASCII c_strings_trimRightASCII r_strings_trimRightASCII 22 :=
  ⟨⟨Tryz.f178, _, Tryz.func178, by decide, rfl, by kernel_rfl, by kernel_rfl, by kernel_rfl, rfl⟩⟩

/-- function 184 -/
def c_internal_stringslite_CutSuffix : VCode :=
  .seq (rt [o1 4 (.move (cs [])), o1 5 (.move (cb false))] []) (.seq (.seq (rt [o1 6 (.move (tm 0)), o1 7 (.move (tm 1)), o1 8 (.call k_internal_stringslite_HasSuffix [tm 6, tm 7]), o1 9 (.un (.not) (tm 8))] [6, 8]) (.cond (tm 9) (.seq (rt [o1 10 (.move (tm 0)), o1 4 (.move (tm 10)), o1 5 (.move (cb false))] [10, 10]) (.ret)) (.skip))) (.seq (rt [o1 11 (.move (tm 0)), o1 12 (.move (tm 0)), o1 13 (.lenS (tm 12)), o1 14 (.move (tm 1)), o1 15 (.lenS (tm 14)), o1 16 (.bin (.sub) (tm 13) (tm 15)), o1 17 (.subS (tm 11) none (some (tm 16))), o1 4 (.move (tm 17)), o1 5 (.move (cb true))] [11, 17]) (.ret)))
def r_internal_stringslite_CutSuffix : List VRes := [.tmp 4, .tmp 5]
theorem ok_internal_stringslite_CutSuffix : FnOk Tryz.prog k_internal_stringslite_CutSuffix c_internal_stringslite_CutSuffix r_internal_stringslite_CutSuffix 18 :=
  ⟨⟨Tryz.f184, _, Tryz.func184, by decide, rfl, by kernel_rfl, by kernel_rfl, by kernel_rfl, rfl⟩⟩

/-- function 218 -/
def c_internal_stringslite_HasSuffix : VCode :=
  .seq (rt [o1 4 (.move (cb false))] []) (.seq (rt [o1 5 (.move (tm 0)), o1 6 (.lenS (tm 5)), o1 7 (.move (tm 1)), o1 8 (.lenS (tm 7)), o1 9 (.bin (.geq) (tm 6) (tm 8)), o1 10 (.move (tm 9)), o2 11 (.move (tm 0)) 10 true, o2 12 (.move (tm 0)) 10 true, o2 13 (.lenS (tm 12)) 10 true, o2 14 (.move (tm 1)) 10 true, o2 15 (.lenS (tm 14)) 10 true, o2 16 (.bin (.sub) (tm 13) (tm 15)) 10 true, o2 17 (.subS (tm 11) (some (tm 16)) none) 10 true, o2 18 (.move (tm 1)) 10 true, o2 19 (.bin (.eql) (tm 17) (tm 18)) 10 true, o1 20 (.pick (tm 10) (tm 19) (cb false)), o1 4 (.move (tm 20))] [5, 20]) (.ret))
def r_internal_stringslite_HasSuffix : List VRes := [.tmp 4]
theorem ok_internal_stringslite_HasSuffix : FnOk Tryz.prog k_internal_stringslite_HasSuffix c_internal_stringslite_HasSuffix r_internal_stringslite_HasSuffix 21 :=
  ⟨⟨Tryz.f218, _, Tryz.func218, by decide, rfl, by kernel_rfl, by kernel_rfl, by kernel_rfl, rfl⟩⟩

end Go.Vs.YtbchceojmblkkaaGreatDoor
