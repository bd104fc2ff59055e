/- What is due. No conditions. -/
import Derived.Test.YtcohndmpimkjpaaGreatDoorYEq
import Derived.Test.YtcohndmpimkjpaaGreatDoorYGq
set_option linter.unusedVariables false
set_option linter.unusedSimpArgs false
namespace Go.Vs.YtcohndmpimkjpaaGreatDoor.Ag
set_option linter.unusedSimpArgs false
set_option linter.unusedVariables false
open Go.Proofs Go.Vs.U8 Go.Vs.YtcohndmpimkjpaaGreatDoor
set_option maxRecDepth 100000
set_option maxHeartbeats 16000000
def e26 : Ent := ⟨10, [wSt, .int .i64 63839664000, .int .i64 63839923200, .int .i64 100], .imm (.tuple [.slice [[.int .i64 63839736000, .str [98], .int .i64 63839692800], [.int .i64 63839822400, .str [97], .int .i64 0], [.int .i64 63839822400, .str [98], .int .i64 63839779200], [.int .i64 63839908800, .str [98], .int .i64 63839865600]], .int .i64 0])⟩
theorem y26 : FnR G2 Tryz.prog e26.k e26.args e26.r := yRun (es := [e21, e19, e20, e25, e27, e33]) (by
  intro e he
  simp only [List.mem_cons, List.not_mem_nil, or_false] at he
  rcases he with rfl | rfl | rfl | rfl | rfl | rfl
  · exact y21
  · exact y19
  · exact y20
  · exact y25
  · exact y27
  · exact y33) 600 (by kernel_rfl)
def e28 : Ent := ⟨10, [wSt, .int .i64 0, .int .i64 63839736001, .int .i64 100], .imm (.tuple [.slice [[.int .i64 63839736000, .str [98], .int .i64 63839692800]], .int .i64 0])⟩
theorem y28 : FnR G2 Tryz.prog e28.k e28.args e28.r := yRun (es := [e21, e19, e20, e25, e27, e33]) (by
  intro e he
  simp only [List.mem_cons, List.not_mem_nil, or_false] at he
  rcases he with rfl | rfl | rfl | rfl | rfl | rfl
  · exact y21
  · exact y19
  · exact y20
  · exact y25
  · exact y27
  · exact y33) 600 (by kernel_rfl)
def e34 : Ent := ⟨10, [wSt, .int .i64 63839664000, .int .i64 63839923200, .int .i64 5], .imm (.tuple [.slice [], .int .i64 13])⟩
theorem y34 : FnR G2 Tryz.prog e34.k e34.args e34.r := yRun (es := [e21, e19, e20, e25, e27, e33]) (by
  intro e he
  simp only [List.mem_cons, List.not_mem_nil, or_false] at he
  rcases he with rfl | rfl | rfl | rfl | rfl | rfl
  · exact y21
  · exact y19
  · exact y20
  · exact y25
  · exact y27
  · exact y33) 600 (by kernel_rfl)
def e29 : Ent := ⟨11, [wSt, .int .i64 63839736001, .int .i64 100], .imm (.tuple [.slice [[.int .i64 63839736000, .str [98], .int .i64 63839692800]], .int .i64 0])⟩
theorem y29 : FnR G2 Tryz.prog e29.k e29.args e29.r := yRun (es := [e21, e26, e28, e34]) (by
  intro e he
  simp only [List.mem_cons, List.not_mem_nil, or_false] at he
  rcases he with rfl | rfl | rfl | rfl
  · exact y21
  · exact y26
  · exact y28
  · exact y34) 300 (by kernel_rfl)
def e32 : Ent := ⟨12, [wSt], .imm (.tuple [.agg [.int .i64 63839736000, .str [98], .int .i64 63839692800], .bool true])⟩
theorem y32 : FnR G2 Tryz.prog e32.k e32.args e32.r := yRun (es := [e21, e19, e20]) (by
  intro e he
  simp only [List.mem_cons, List.not_mem_nil, or_false] at he
  rcases he with rfl | rfl | rfl
  · exact y21
  · exact y19
  · exact y20) 600 (by kernel_rfl)
end Go.Vs.YtcohndmpimkjpaaGreatDoor.Ag
namespace Go.Vs.YtcohndmpimkjpaaGreatDoor.Ag
set_option linter.unusedSimpArgs false
set_option linter.unusedVariables false
open Go.Proofs Go.Vs.U8 Go.Vs.YtcohndmpimkjpaaGreatDoor
set_option maxRecDepth 100000
set_option maxHeartbeats 16000000
def e39 : Ent := ⟨4, [], .imm (.bool true)⟩
theorem y39 : FnR G2 Tryz.prog e39.k e39.args e39.r := yRun (es := [e23, e26, e28, e34, e29, e32]) (by
  intro e he
  simp only [List.mem_cons, List.not_mem_nil, or_false] at he
  rcases he with rfl | rfl | rfl | rfl | rfl | rfl
  · exact y23
  · exact y26
  · exact y28
  · exact y34
  · exact y29
  · exact y32) 600 (by kernel_rfl)
theorem fn_awake : FnR G2 Tryz.prog 4 [] (.imm (.bool true)) := y39
end Go.Vs.YtcohndmpimkjpaaGreatDoor.Ag
