/- The code of the seat's functions in the small typed code; printed by a program of the prover's. -/
import Derived.Test.YtjfleklkloohgaaFoGen2
import Derived.Test.YtjfleklkloohgaaRows
import Derived.KernelRfl
namespace Go.Vs.Ytjfleklkloohgaa
set_option linter.unusedSimpArgs false
set_option linter.unusedVariables false
open Go.Proofs
set_option maxRecDepth 100000
set_option maxHeartbeats 4000000

def k_forest_Cut : Nat := 53
/-- function 53 -/
def c_forest_Cut : VCode :=
  .seq (.region [{ dst := some 3, op := .box (.tmp 1), guard := none }, { dst := some 4, op := .move (.const (.nils)), guard := none }, { dst := some 5, op := .move (.const (.val (.int (.i64) 0))), guard := none }] (.text) []) (.seq (.seq (.region [{ dst := some 8, op := .move (.tmp 0), guard := none }, { dst := some 9, op := .call k_forest_Check [.tmp 8], guard := none }, { dst := some 6, op := .move (.tmp 9), guard := none }] (.text) [8, 9]) (.seq (.region [{ dst := some 10, op := .move (.tmp 6), guard := none }, { dst := some 11, op := .bin (.neq) (.tmp 10) (.const (.val (.int (.i64) 0))), guard := none }] (.text) [10, 10]) (.cond (.tmp 11) (.seq (.region [{ dst := some 12, op := .move (.tmp 0), guard := none }, { dst := some 13, op := .move (.tmp 6), guard := none }, { dst := some 4, op := .move (.tmp 12), guard := none }, { dst := some 5, op := .move (.tmp 13), guard := none }] (.text) [12, 13]) (.ret)) (.skip)))) (.seq (.region [{ dst := some 14, op := .move (.tmp 0), guard := none }, { dst := some 15, op := .mkFunc k_forest_Cut_1 [.tmp 3], guard := none }, { dst := some 16, op := .call k_slices_IndexFunc_Pair [.tmp 14, .tmp 15], guard := none }, { dst := some 7, op := .move (.tmp 16), guard := none }] (.text) [14, 16]) (.seq (.seq (.region [{ dst := some 17, op := .move (.tmp 7), guard := none }, { dst := some 18, op := .bin (.lss) (.tmp 17) (.const (.val (.int (.i64) 0))), guard := none }] (.text) [17, 17]) (.cond (.tmp 18) (.seq (.region [{ dst := some 19, op := .move (.tmp 0), guard := none }, { dst := some 4, op := .move (.tmp 19), guard := none }, { dst := some 5, op := .move (.const (.val (.int (.i64) 6))), guard := none }] (.text) [19, 19]) (.ret)) (.skip))) (.seq (.region [{ dst := some 20, op := .move (.tmp 0), guard := none }, { dst := some 21, op := .call k_slices_Clone_Pair [.tmp 20], guard := none }, { dst := some 22, op := .move (.tmp 7), guard := none }, { dst := some 23, op := .move (.tmp 7), guard := none }, { dst := some 24, op := .bin (.add) (.tmp 23) (.const (.val (.int (.i64) 1))), guard := none }, { dst := some 25, op := .callM k_slices_Delete_Pair [.tmp 21, .tmp 22, .tmp 24], guard := none }, { dst := some 4, op := .move (.tmp 25), guard := none }, { dst := some 5, op := .move (.const (.val (.int (.i64) 0))), guard := none }] (.text) [20, 25]) (.ret)))))
def r_forest_Cut : List VRes := [.tmp 4, .tmp 5]
theorem ok_forest_Cut : FnOk Try.prog k_forest_Cut c_forest_Cut r_forest_Cut 26 :=
  ⟨⟨Try.f53, _, Try.func53, by decide, rfl, by kernel_rfl, by kernel_rfl, by kernel_rfl, rfl⟩⟩

end Go.Vs.Ytjfleklkloohgaa
