/- A state of two tasks. No conditions. -/
import Derived.Test.YtcohndmpimkjpaaGreatDoorYBq
import Derived.Test.YtcohndmpimkjpaaGreatDoorYDq
set_option linter.unusedVariables false
set_option linter.unusedSimpArgs false
namespace Go.Vs.YtcohndmpimkjpaaGreatDoor.Ag
set_option linter.unusedSimpArgs false
set_option linter.unusedVariables false
open Go.Proofs Go.Vs.U8 Go.Vs.YtcohndmpimkjpaaGreatDoor
set_option maxRecDepth 100000
set_option maxHeartbeats 16000000
def e0 : Ent := ⟨14, [.agg [.slice []]], .imm (.int .i64 0)⟩
theorem y0 : FnR G2 Tryz.prog e0.k e0.args e0.r := yRun noE 300 (by kernel_rfl)
def e21 : Ent := ⟨14, [wSt], .imm (.int .i64 0)⟩
theorem y21 : FnR G2 Tryz.prog e21.k e21.args e21.r := yRun (es := [e19, e20]) (by
  intro e he
  simp only [List.mem_cons, List.not_mem_nil, or_false] at he
  rcases he with rfl | rfl
  · exact y19
  · exact y20) 400 (by kernel_rfl)
def e22 : Ent := ⟨17, [.agg [.slice []], wNodes], .imm (.tuple [wSt, .int .i64 0])⟩
theorem y22 : FnR G2 Tryz.prog e22.k e22.args e22.r := yRun (es := [e19, e20, e21]) (by
  intro e he
  simp only [List.mem_cons, List.not_mem_nil, or_false] at he
  rcases he with rfl | rfl | rfl
  · exact y19
  · exact y20
  · exact y21) 400 (by kernel_rfl)
def e23 : Ent := ⟨9, [.agg [.slice []], wTxt], .imm (.tuple [wSt, .nili])⟩
theorem y23 : FnR G2 Tryz.prog e23.k e23.args e23.r := yRun (es := [e0, e14, e22]) (by
  intro e he
  simp only [List.mem_cons, List.not_mem_nil, or_false] at he
  rcases he with rfl | rfl | rfl
  · exact y0
  · exact y14
  · exact y22) 300 (by kernel_rfl)
end Go.Vs.YtcohndmpimkjpaaGreatDoor.Ag
