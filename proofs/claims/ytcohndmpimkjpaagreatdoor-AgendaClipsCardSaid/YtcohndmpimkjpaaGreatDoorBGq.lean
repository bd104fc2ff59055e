/- What this seat's listed variables hold, as known globals. No conditions. -/
import Derived.Test.YtcohndmpimkjpaaGreatDoorRows
import Derived.Test.YtcohndmpimkjpaaGreatDoorBEq
import Derived.KernelRfl
import Derived.WalkKit
import Derived.LaidEql
import Derived.Stop.Asserts
import Derived.RowKitTokens
import Derived.Below
import Derived.LoopTactic
import Derived.Lib.Hide
set_option linter.unusedVariables false
set_option linter.unusedSimpArgs false
namespace Go.Vs.YtcohndmpimkjpaaGreatDoor
open Go.Proofs Go.Proofs.YtcohndmpimkjpaaGreatDoor
theorem hm : Tryz.prog.follows .mixedOrders = true := by kernel_rfl
/-- Go's own table unicode/utf8.first, as numbers. -/
def firstZ : List Int := (List.range 256).map fun c => if c < 128 then 240 else if c < 194 then 241 else if c < 224 then 2 else if c = 224 then 19 else if c < 237 then 3 else if c = 237 then 35 else if c < 240 then 3 else if c = 240 then 52 else if c < 244 then 4 else if c = 244 then 68 else 241
def accZ : List Int := [128, 191, 160, 191, 128, 159, 144, 191, 128, 143, 0, 0, 0, 0, 0, 0, 0, 0, 0, 0, 0, 0, 0, 0, 0, 0, 0, 0, 0, 0, 0, 0]
/-- The known globals. -/
def G : List (Nat × List IV) := [(0, [.handle 296 5 37]), (2, firstZ.map (.int .u8 ·)), (3, accZ.map (.int .u8 ·))]
end Go.Vs.YtcohndmpimkjpaaGreatDoor
set_option linter.unusedSimpArgs false
set_option linter.unusedVariables false
namespace Go.Vs.YtcohndmpimkjpaaGreatDoor.E
open Go.Proofs Go.Proofs.YtcohndmpimkjpaaGreatDoor Go.RowKit Go.Extern.Stop Go.Stop Go.Extern
set_option maxRecDepth 100000

/-! the targets -/
end Go.Vs.YtcohndmpimkjpaaGreatDoor.E
set_option linter.unusedSimpArgs false
set_option linter.unusedVariables false
namespace Go.Vs.YtcohndmpimkjpaaGreatDoor.E
open Go.Proofs Go.Proofs.YtcohndmpimkjpaaGreatDoor Go.RowKit Go.Extern.Stop Go.Stop Go.Extern
set_option maxRecDepth 1000000

/-- A chain of faults in a world, around a number. -/
def ErrV (W : World) (n : Int) : List Int → Value → Prop
  | [], E => E = .iface 40 (.int .i64 n)
  | p :: ps, E => ∃ pb po, E = .iface 80 (.pointer (some ⟨pb, po, none⟩)) ∧ ∃ E', W.cell? ⟨pb, po + 1, none⟩ = some E' ∧ ErrV W n ps E'
theorem ErrV.mono {W W' : World} {n : Int} (hk : ∀ a v, W.cell? a = some v → W'.cell? a = some v) : ∀ {ps : List Int} {E : Value}, ErrV W n ps E → ErrV W' n ps E
  | [], _, h => h
  | _ :: ps, _, ⟨pb, po, h1, E1, h2, h3⟩ => ⟨pb, po, h1, E1, hk _ _ h2, ErrV.mono hk h3⟩
end Go.Vs.YtcohndmpimkjpaaGreatDoor.E
