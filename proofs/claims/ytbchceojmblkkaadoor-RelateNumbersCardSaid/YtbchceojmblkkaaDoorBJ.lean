/- Nothing of the shelf's is needed here. No conditions. -/
import Derived.Test.YtbchceojmblkkaaDoorRows
import Derived.Shelf.Strings.IndexAnyAll
import Derived.Lib.Join
import Derived.Test.YtbchceojmblkkaaDoorNA
import Derived.Test.YtbchceojmblkkaaDoorBI
import Derived.KernelRfl
set_option linter.unusedVariables false
set_option linter.unusedSimpArgs false

namespace Go.Vs.YtbchceojmblkkaaDoor
set_option linter.unusedSimpArgs false
set_option linter.unusedVariables false
open Go.Proofs
set_option maxRecDepth 100000
set_option maxHeartbeats 4000000

def k_param_Find : Nat := 21
def k_strings_makeASCIISet : Nat := 29
def k_slices_Clone_string : Nat := 34
def k__strings_asciiSet_contains : Nat := 38
/-- function 21 -/
def c_param_Find : VCode :=
  .seq (rt [o1 4 (.alloc [.val (.str []), .nils]), o1 5 (.move (cb false))] []) (.seq (.seq (rt [o1 8 (.move (tm 0)), o1 9 (.lenV (tm 8)), o1 10 (.move (ci 0))] []) (.block 0 (.loop (.seq (rt [o1 11 (.bin (.lss) (tm 10) (tm 9))] []) (.seq (.cond (tm 11) (.skip) (.exit 0)) (.seq (.block 1 (.seq (rt [o1 12 (.indexAddr 2 (tm 8) (tm 10)), o1 13 (.load (some 2) (tm 12)), o1 7 (.alloc [.val (.str []), .nils]), o3 (.store 2 (tm 7) (tm 13))] [12, 13]) (.seq (rt [o1 14 (.fieldAddr 0 (tm 7)), o1 15 (.load none (tm 14)), o1 16 (.move (tm 1)), o1 17 (.bin (.eql) (tm 15) (tm 16))] [14, 16]) (.cond (tm 17) (.seq (.region [o1 18 (.fieldAddr 0 (tm 7)), o1 19 (.load none (tm 18)), o1 20 (.fieldAddr 1 (tm 7)), o1 21 (.load none (tm 20)), o1 22 (.call k_slices_Clone_string [tm 21]), o1 23 (.build [.val (.str []), .nils] [(0, 1, tm 19), (1, 1, tm 22)]), o3 (.store 2 (tm 4) (tm 23)), o1 5 (.move (cb true))] (.drawn [(0, 4), (1, 4)] (prs [(4, [(0, 3)])])) [18, 23]) (.ret)) (.skip))))) (rt [o1 24 (.bin (.add) (tm 10) (ci 1)), o1 10 (.move (tm 24))] [24, 24]))))))) (.seq (rt [o1 25 (.build [.val (.str []), .nils] []), o3 (.store 2 (tm 4) (tm 25)), o1 5 (.move (cb false))] [25, 25]) (.ret)))
def r_param_Find : List VRes := [.cell 4 (some 2), .tmp 5]
theorem ok_param_Find : FnOk Tryd.prog k_param_Find c_param_Find r_param_Find 26 :=
  ⟨⟨Tryd.f21, _, Tryd.func21, by decide, rfl, by kernel_rfl, by kernel_rfl, by kernel_rfl, rfl⟩⟩

/-- function 29 -/
def c_strings_makeASCIISet : VCode :=
  .seq (rt [o1 2 (.alloc fz256), o1 3 (.move (cb false))] []) (.seq (.seq (rt [o1 4 (.move (ci 0))] []) (.block 0 (.loop (.seq (.seq (rt [o1 6 (.move (tm 4)), o1 7 (.move (tm 0)), o1 8 (.lenS (tm 7)), o1 9 (.bin (.lss) (tm 6) (tm 8))] [6, 8]) (.cond (tm 9) (.skip) (.exit 0))) (.seq (.block 1 (.seq (rt [o1 12 (.move (tm 0)), o1 13 (.move (tm 4)), o1 14 (.indexS (tm 12) (tm 13)), o1 5 (.move (tm 14))] [12, 14]) (.seq (.seq (rt [o1 15 (.move (tm 5)), o1 16 (.bin (.geq) (tm 15) (cu 128))] [15, 15]) (.cond (tm 16) (.seq (rt [o1 17 (.load (some 256) (tm 2)), o3 (.store 256 (tm 2) (tm 17)), o1 3 (.move (cb false))] [17, 17]) (.ret)) (.skip))) (rt [o1 18 (.move (tm 5)), o1 19 (.indexArr 256 1 (tm 2) (tm 18)), o3 (.store 1 (tm 19) (cb true))] [18, 19])))) (rt [o1 10 (.move (tm 4)), o1 11 (.bin (.add) (tm 10) (ci 1)), o1 4 (.move (tm 11))] [10, 11])))))) (.seq (rt [o1 20 (.load (some 256) (tm 2)), o3 (.store 256 (tm 2) (tm 20)), o1 3 (.move (cb true))] [20, 20]) (.ret)))
def r_strings_makeASCIISet : List VRes := [.cell 2 (some 256), .tmp 3]
theorem ok_strings_makeASCIISet : FnOk Tryd.prog k_strings_makeASCIISet c_strings_makeASCIISet r_strings_makeASCIISet 21 :=
  ⟨⟨Tryd.f29, _, Tryd.func29, by decide, rfl, by kernel_rfl, by kernel_rfl, by kernel_rfl, rfl⟩⟩

/-- function 34 -/
def c_slices_Clone_string : VCode :=
  .seq (rt [o1 2 (.move (.const (.nils)))] []) (.seq (.seq (rt [o1 3 (.move (tm 0)), o1 4 (.eqS false (tm 3))] [3, 3]) (.cond (tm 4) (.seq (rt [o1 2 (.move (.const (.nils)))] []) (.ret)) (.skip))) (.seq (rt [o1 5 (.buildSlice 1 0 [.val (.str [])] []), o1 6 (.move (tm 0)), o1 7 (.append 9 1 16 (tm 5) (tm 6)), o1 2 (.move (tm 7))] [5, 7]) (.ret)))
def r_slices_Clone_string : List VRes := [.tmp 2]
theorem ok_slices_Clone_string : FnOk Tryd.prog k_slices_Clone_string c_slices_Clone_string r_slices_Clone_string 8 :=
  ⟨⟨Tryd.f34, _, Tryd.func34, by decide, rfl, by kernel_rfl, by kernel_rfl, by kernel_rfl, rfl⟩⟩

/-- function 38 -/
def c__strings_asciiSet_contains : VCode :=
  .seq (rt [o1 4 (.move (cb false))] []) (.seq (rt [o1 5 (.move (tm 0)), o1 6 (.move (tm 1)), o1 7 (.nilCheck (tm 5)), o1 8 (.indexArr 256 1 (tm 7) (tm 6)), o1 9 (.load none (tm 8)), o1 4 (.move (tm 9))] [5, 9]) (.ret))
def r__strings_asciiSet_contains : List VRes := [.tmp 4]
theorem ok__strings_asciiSet_contains : FnOk Tryd.prog k__strings_asciiSet_contains c__strings_asciiSet_contains r__strings_asciiSet_contains 10 :=
  ⟨⟨Tryd.f38, _, Tryd.func38, by decide, rfl, by kernel_rfl, by kernel_rfl, by kernel_rfl, rfl⟩⟩

end Go.Vs.YtbchceojmblkkaaDoor
