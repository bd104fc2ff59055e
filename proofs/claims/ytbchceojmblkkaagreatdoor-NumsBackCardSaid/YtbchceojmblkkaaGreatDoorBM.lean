/- The walk of param, part 9: copies, finding. No conditions. -/
import Derived.Test.YtbchceojmblkkaaGreatDoorBL
set_option linter.unusedVariables false
set_option linter.unusedSimpArgs false
namespace Go.Vs.YtbchceojmblkkaaGreatDoor
set_option linter.unusedSimpArgs false
set_option linter.unusedVariables false
open Go.Proofs Go.Vs.U8 Go.Vs.Pa
set_option maxRecDepth 100000
set_option maxHeartbeats 4000000
end Go.Vs.YtbchceojmblkkaaGreatDoor
namespace Go.Vs.YtbchceojmblkkaaGreatDoor
set_option linter.unusedSimpArgs false
set_option linter.unusedVariables false
open Go.Proofs Go.Vs.U8 Go.Vs.Pa
set_option maxRecDepth 100000
set_option maxHeartbeats 4000000
theorem join_snoc {l : List Str} (h : l ≠ []) (x sep : Str) : Go.Lib.join (l ++ [x]) sep = Go.Lib.join l sep ++ (sep ++ x) := by
  obtain ⟨y, r, rfl⟩ := List.exists_cons_of_ne_nil h
  rw [List.cons_append, Go.Lib.join_cons, Go.Lib.join_cons]
  simp [Go.Lib.joinTail]
end Go.Vs.YtbchceojmblkkaaGreatDoor
