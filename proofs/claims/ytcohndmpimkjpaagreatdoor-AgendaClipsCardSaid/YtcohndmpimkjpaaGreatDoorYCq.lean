/- What parts of two tasks tell. No conditions. -/
import Derived.Test.YtcohndmpimkjpaaGreatDoorYAq
set_option linter.unusedVariables false
set_option linter.unusedSimpArgs false
namespace Go.Vs.YtcohndmpimkjpaaGreatDoor.Ag
set_option linter.unusedSimpArgs false
set_option linter.unusedVariables false
open Go.Proofs Go.Vs.U8 Go.Vs.YtcohndmpimkjpaaGreatDoor
set_option maxRecDepth 100000
set_option maxHeartbeats 16000000
def e17 : Ent := ⟨133, [wRu], .imm (.int .i64 0)⟩
def mcB : List Nat := mcY.filter fun k => !(k == 185)
theorem y17 : FnR G2 Tryz.prog e17.k e17.args e17.r := fn_run hm mcB mvY (tabY_ok noE) 300 (by kernel_rfl)
def e15 : Ent := ⟨221, [.str [50, 48, 50, 52, 48, 49, 48, 49, 84, 48, 48, 48, 48, 48, 48, 90]], .imm (.tuple [.agg [.int .u8 3, .int .i64 63839664000], .int .i64 0])⟩
theorem y15 : FnR G2 Tryz.prog e15.k e15.args e15.r := yRun noE 300 (by kernel_rfl)
def e16 : Ent := ⟨164, [.str [80, 84, 49, 50, 72]], .imm (.tuple [.int .i64 43200, .int .i64 0])⟩
theorem y16 : FnR G2 Tryz.prog e16.k e16.args e16.r := yRun noE 300 (by kernel_rfl)
def e18 : Ent := ⟨168, [.str [70, 82, 69, 81, 61, 68, 65, 73, 76, 89]], .imm (.tuple [wRu, .nili])⟩
theorem y18 : FnR G2 Tryz.prog e18.k e18.args e18.r := yRun (es := [e17]) (by
  intro e he
  simp only [List.mem_cons, List.not_mem_nil, or_false] at he
  subst he
  exact y17) 300 (by kernel_rfl)
end Go.Vs.YtcohndmpimkjpaaGreatDoor.Ag
