/- The seconds of a day of a rule. No conditions. -/
import Derived.Test.YtcohndmpimkjpaaGreatDoorYCq
import Derived.Test.YtcohndmpimkjpaaGreatDoorZBq
set_option linter.unusedVariables false
set_option linter.unusedSimpArgs false
namespace Go.Vs.YtcohndmpimkjpaaGreatDoor.Ag
set_option linter.unusedSimpArgs false
set_option linter.unusedVariables false
open Go.Proofs Go.Vs.U8 Go.Vs.YtcohndmpimkjpaaGreatDoor Go.Vs.YtcohndmpimkjpaaGreatDoor.Vt
set_option maxRecDepth 100000
set_option maxHeartbeats 16000000
def aR : Ru := ⟨.int .u8 3, .int .i64 1, .int .i64 0, .int .u8 0, .int .i64 0, .slice [], .slice [], .slice [], .slice [], .slice [], .slice [], .slice [], .slice [], .slice [], .int .i64 0⟩
def aT : Tm := ⟨[8], 0, [0], 0, [0], 0, 0, 86400⟩
def eS : Ent := ⟨287, [aR.iv, .int .i64 63839692800], .imm (.tuple [.agg aT.cells, .bool true])⟩
theorem yS : FnR G2 Tryz.prog eS.k eS.args eS.r := yRun (es := [e17]) (by
  intro e he
  rw [List.mem_singleton.1 he]
  exact y17) 300 (by kernel_rfl)
def e24 : Ent := ⟨nTOf, [aR.iv, .int .i64 63839692800, .int .i64 0, .int .i64 86400], .own 1 [[.int .i64 28800]]⟩
theorem fit_aT : FitT aT := ⟨by decide, by decide, by decide, by decide, by decide, by decide, by decide, by decide, by decide, by decide, by decide⟩
theorem y24 : FnR G2 Tryz.prog e24.k e24.args e24.r := by
  have h := fn_tOf aR 63839692800 aT fit_aT (by decide) (by decide) (by decide) (by rw [show allT aT = [28800] by kernel_rfl]; decide) yS
  rwa [show tRows (allT aT) = [[.int .i64 28800]] by kernel_rfl] at h
end Go.Vs.YtcohndmpimkjpaaGreatDoor.Ag
