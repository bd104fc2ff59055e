/- The walk of the statements of nums: what is printed, and read back. No conditions. -/
import Derived.Test.YtbchceojmblkkaaGreatDoorNM
import Derived.Test.YtbchceojmblkkaaGreatDoorBD
set_option linter.unusedVariables false
set_option linter.unusedSimpArgs false
namespace Go.Vs.YtbchceojmblkkaaGreatDoor
set_option linter.unusedSimpArgs false
set_option linter.unusedVariables false
open Go.Proofs Go.Vs.U8 Go.Vs.Pa Go.Vs.Nu Go.Lib
set_option maxRecDepth 100000
set_option maxHeartbeats 16000000
theorem wf_i64 {n : Int} (h : (Lit.int .i64 n).wf = true) : i64 n := by
  simp [Lit.wf] at h
  have h1 : IntKind.i64.min = -9223372036854775808 := by rfl
  rw [h1] at h
  exact h
def scEnds : Sc := .struct [.int .i64, .int .i64, .bool]
theorem NumsReads_true (args : List IV) (h : Args [.str, scEnds] args) : Fn G Tryz.prog k_law20_NumsReads args (.bool true) := by
  obtain ⟨v, b, rfl, ⟨s, hs, _⟩, w, c, rfl, ⟨r1, rfl, h1⟩, hc⟩ := h
  have hc : c = [] := hc
  subst hc
  simp only [List.cons.injEq, and_true] at hs
  subst hs
  obtain ⟨a, b, rfl, ⟨lo, rfl, _⟩, c, e, rfl, ⟨hi, rfl, _⟩, f, g, rfl, ⟨sg, rfl⟩, hg⟩ := h1
  have hg : g = [] := hg
  subst hg
  exact fn_NumsReads s lo hi sg
end Go.Vs.YtbchceojmblkkaaGreatDoor
