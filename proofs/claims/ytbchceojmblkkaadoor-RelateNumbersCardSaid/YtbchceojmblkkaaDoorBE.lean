/- What this seat's listed variables hold, as known globals. No conditions. -/
import Derived.Test.YtbchceojmblkkaaDoorRows
import Derived.Test.YtbchceojmblkkaaDoorBD
import Derived.KernelRfl
import Derived.WalkKit
import Derived.LaidEql
import Derived.Stop.Asserts
import Derived.RowKitTokens
import Derived.Below
set_option linter.unusedVariables false
set_option linter.unusedSimpArgs false
namespace Go.Vs.YtbchceojmblkkaaDoor
open Go.Proofs Go.Proofs.YtbchceojmblkkaaDoor
theorem hm : Tryd.prog.follows .mixedOrders = true := by kernel_rfl
/-- Go's own table unicode/utf8.first, as numbers. -/
def firstZ : List Int := (List.range 256).map fun c => if c < 128 then 240 else if c < 194 then 241 else if c < 224 then 2 else if c = 224 then 19 else if c < 237 then 3 else if c = 237 then 35 else if c < 240 then 3 else if c = 240 then 52 else if c < 244 then 4 else if c = 244 then 68 else 241
def accZ : List Int := [128, 191, 160, 191, 128, 159, 144, 191, 128, 143, 0, 0, 0, 0, 0, 0, 0, 0, 0, 0, 0, 0, 0, 0, 0, 0, 0, 0, 0, 0, 0, 0]
/-- Go's own table of the powers of ten, as numbers. -/
def powZ : List Int := (List.range 20).map fun i => ((10 ^ i : Nat) : Int)
/-- The known globals. -/
def G : List (Nat × List IV) := [(2, firstZ.map (.int .u8 ·)), (3, accZ.map (.int .u8 ·)), (1, powZ.map (.int .u64 ·))]
end Go.Vs.YtbchceojmblkkaaDoor
set_option linter.unusedSimpArgs false
set_option linter.unusedVariables false
namespace Go.Vs.YtbchceojmblkkaaDoor.E
open Go.Proofs Go.Proofs.YtbchceojmblkkaaDoor Go.RowKit Go.Extern.Stop Go.Stop Go.Extern
set_option maxRecDepth 100000

end Go.Vs.YtbchceojmblkkaaDoor.E
