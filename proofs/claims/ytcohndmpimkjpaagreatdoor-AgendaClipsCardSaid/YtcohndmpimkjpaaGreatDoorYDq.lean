/- Two tasks, read. No conditions. -/
import Derived.Test.YtcohndmpimkjpaaGreatDoorYCq
set_option linter.unusedVariables false
set_option linter.unusedSimpArgs false
namespace Go.Vs.YtcohndmpimkjpaaGreatDoor.Ag
set_option linter.unusedSimpArgs false
set_option linter.unusedVariables false
open Go.Proofs Go.Vs.U8 Go.Vs.YtcohndmpimkjpaaGreatDoor
set_option maxRecDepth 100000
set_option maxHeartbeats 16000000
def e19 : Ent := ⟨31, [wLa], .imm (.tuple [wFa, .nili])⟩
theorem y19 : FnR G2 Tryz.prog e19.k e19.args e19.r := yRun (es := [e15, e16, e18, e17]) (by
  intro e he
  simp only [List.mem_cons, List.not_mem_nil, or_false] at he
  rcases he with rfl | rfl | rfl | rfl
  · exact y15
  · exact y16
  · exact y18
  · exact y17) 400 (by kernel_rfl)
def e20 : Ent := ⟨31, [wLb], .imm (.tuple [wFb, .nili])⟩
theorem y20 : FnR G2 Tryz.prog e20.k e20.args e20.r := yRun (es := [e15, e16, e18, e17]) (by
  intro e he
  simp only [List.mem_cons, List.not_mem_nil, or_false] at he
  rcases he with rfl | rfl | rfl | rfl
  · exact y15
  · exact y16
  · exact y18
  · exact y17) 400 (by kernel_rfl)
end Go.Vs.YtcohndmpimkjpaaGreatDoor.Ag
