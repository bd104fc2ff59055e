/- What a set has in three windows. No conditions. -/
import Derived.Test.YtcohndmpimkjpaaGreatDoorYFq
set_option linter.unusedVariables false
set_option linter.unusedSimpArgs false
namespace Go.Vs.YtcohndmpimkjpaaGreatDoor.Ag
set_option linter.unusedSimpArgs false
set_option linter.unusedVariables false
open Go.Proofs Go.Vs.U8 Go.Vs.YtcohndmpimkjpaaGreatDoor
set_option maxRecDepth 100000
set_option maxHeartbeats 16000000
def e25 : Ent := ⟨40, [wSet, .int .i64 63839692800, .int .i64 63839880000, .int .i64 100], .imm (.tuple [.slice [[.int .i64 63839692800], [.int .i64 63839779200], [.int .i64 63839865600]], .int .i64 6, .int .i64 0])⟩
theorem y25 : FnR G2 Tryz.prog e25.k e25.args e25.r := yRun (es := [e17, e24]) (by
  intro e he
  simp only [List.mem_cons, List.not_mem_nil, or_false] at he
  rcases he with rfl | rfl
  · exact y17
  · exact y24) 600 (by kernel_rfl)
def e27 : Ent := ⟨40, [wSet, .int .i64 63839692800, .int .i64 63839692801, .int .i64 100], .imm (.tuple [.slice [[.int .i64 63839692800]], .int .i64 2, .int .i64 0])⟩
theorem y27 : FnR G2 Tryz.prog e27.k e27.args e27.r := yRun (es := [e17, e24]) (by
  intro e he
  simp only [List.mem_cons, List.not_mem_nil, or_false] at he
  rcases he with rfl | rfl
  · exact y17
  · exact y24) 600 (by kernel_rfl)
def e33 : Ent := ⟨40, [wSet, .int .i64 63839692800, .int .i64 63839880000, .int .i64 5], .imm (.tuple [.slice [], .int .i64 0, .int .i64 13])⟩
theorem y33 : FnR G2 Tryz.prog e33.k e33.args e33.r := yRun (es := [e17, e24]) (by
  intro e he
  simp only [List.mem_cons, List.not_mem_nil, or_false] at he
  rcases he with rfl | rfl
  · exact y17
  · exact y24) 600 (by kernel_rfl)
end Go.Vs.YtcohndmpimkjpaaGreatDoor.Ag
