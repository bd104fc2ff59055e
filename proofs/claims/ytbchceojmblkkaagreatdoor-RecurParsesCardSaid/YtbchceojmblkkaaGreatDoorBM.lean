/- The walk of param, part 10: parameters printed. No conditions. -/
import Derived.Test.YtbchceojmblkkaaGreatDoorBL
set_option linter.unusedVariables false
set_option linter.unusedSimpArgs false
namespace Go.Vs.U8
end Go.Vs.U8
namespace Go.Vs.Pa
end Go.Vs.Pa
namespace Go.Vs.YtbchceojmblkkaaGreatDoor
set_option linter.unusedSimpArgs false
set_option linter.unusedVariables false
open Go.Proofs Go.Vs.U8 Go.Vs.Pa
set_option maxRecDepth 100000
set_option maxHeartbeats 4000000
theorem join_snoc {l : List Str} (h : l ≠ []) (x sep : Str) : Go.Lib.join (l ++ [x]) sep = Go.Lib.join l sep ++ (sep ++ x) := by
 obtain ⟨y, r, rfl⟩ := List.exists_cons_of_ne_nil h
 rw [List.cons_append, Go.Lib.join_cons, Go.Lib.join_cons]
 simp [Go.Lib.joinTail]
theorem join_len (k : Nat) : ∀ l : List Str, (∀ x ∈ l, x.length ≤ k) → (Go.Lib.join l [44]).length ≤ l.length * (k + 1) := by
 intro l h
 cases l with
 | nil => simp [Go.Lib.join_nil]
 | cons y r =>
  have hy := h y (by simp)
  have hr : ∀ x ∈ r, x.length ≤ k := fun x hx => h x (by simp [hx])
  clear h
  rw [Go.Lib.join_cons, List.length_append, List.length_cons, Nat.succ_mul]
  have : (Go.Lib.joinTail [44] r).length ≤ r.length * (k + 1) := by
   induction r with
   | nil => simp [Go.Lib.joinTail]
   | cons z t ih =>
    have hz := hr z (by simp)
    have := ih (fun x hx => hr x (by simp [hx]))
    simp only [Go.Lib.joinTail, List.map_cons, List.flatten_cons, List.length_append, List.length_cons, List.length_nil, Nat.succ_mul] at this ⊢
    omega
  omega
end Go.Vs.YtbchceojmblkkaaGreatDoor
