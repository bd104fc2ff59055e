/- A text, read. No conditions. -/
import Derived.Test.YtcohndmpimkjpaaGreatDoorYAq
set_option linter.unusedVariables false
set_option linter.unusedSimpArgs false
namespace Go.Vs.YtcohndmpimkjpaaGreatDoor.Ag
set_option linter.unusedSimpArgs false
set_option linter.unusedVariables false
open Go.Proofs Go.Vs.U8 Go.Vs.YtcohndmpimkjpaaGreatDoor
set_option maxRecDepth 100000
set_option maxHeartbeats 16000000
def e1 : Ent := ⟨25, [wTxt], .imm (.tuple [wRows, .nili])⟩
theorem y1 : FnR G2 Tryz.prog e1.k e1.args e1.r := yRun noE 400 (by kernel_rfl)
def e14 : Ent := ⟨16, [wTxt], .imm (.tuple [wNodes, .nili])⟩
theorem y14 : FnR G2 Tryz.prog e14.k e14.args e14.r := yRun (es := [e2, e3, e4, e5, e6, e7, e8, e9, e10, e11, e12, e13, e1]) (by
  intro e he
  simp only [List.mem_cons, List.not_mem_nil, or_false] at he
  rcases he with rfl | rfl | rfl | rfl | rfl | rfl | rfl | rfl | rfl | rfl | rfl | rfl | rfl
  · exact y2
  · exact y3
  · exact y4
  · exact y5
  · exact y6
  · exact y7
  · exact y8
  · exact y9
  · exact y10
  · exact y11
  · exact y12
  · exact y13
  · exact y1) 400 (by kernel_rfl)
end Go.Vs.YtcohndmpimkjpaaGreatDoor.Ag
