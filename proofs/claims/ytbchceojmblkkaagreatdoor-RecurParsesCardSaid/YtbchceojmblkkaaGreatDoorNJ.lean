/- The walk of nums: how numbers and weekdays are printed. No conditions. -/
import Derived.Test.YtbchceojmblkkaaGreatDoorNI
set_option linter.unusedVariables false
set_option linter.unusedSimpArgs false
namespace Go.Vs.U8
end Go.Vs.U8
namespace Go.Vs.Pa
end Go.Vs.Pa
namespace Go.Vs.Nu
end Go.Vs.Nu
namespace Go.Vs.YtbchceojmblkkaaGreatDoor
set_option linter.unusedSimpArgs false
set_option linter.unusedVariables false
open Go.Proofs Go.Vs.U8 Go.Vs.Pa Go.Vs.Nu Go.Lib
set_option maxRecDepth 100000
set_option maxHeartbeats 8000000
theorem join_bd {b : Nat} {c : UInt8} : ∀ {l : List Str}, (∀ x ∈ l, x.length ≤ b) → (join l [c]).length ≤ l.length * (b + 1)
 | [], _ => by rw [join_nil]; simp
 | [x], h => by rw [join_one]; have := h x (by simp); simp; omega
 | x :: y :: r, h => by
  have ih := join_bd (c := c) (l := y :: r) (fun z hz => h z (by simp at hz ⊢; exact .inr hz))
  have h1 := h x (by simp)
  have e : join (x :: y :: r) [c] = x ++ c :: join (y :: r) [c] := by
   rw [join_cons, join_cons]; simp [joinTail]
  rw [e, List.length_append, List.length_cons]
  simp only [List.length_cons] at ih ⊢
  have : (r.length + 1 + 1) * (b + 1) = (r.length + 1) * (b + 1) + (b + 1) := Nat.succ_mul _ _
  omega
def joinI {α : Type} (f : α → Str) (l : List α) : Str := join (l.map f) [44]
theorem joinI_nil {α : Type} (f : α → Str) : joinI f [] = [] := rfl
theorem joinI_one {α : Type} (f : α → Str) {l : List α} {i : Nat} {x : α} (h : i < l.length) (hx : l[i] = x) (h0 : i = 0) : joinI f (l.take (i + 1)) = f x ∧ joinI f (l.take i) = [] := by
 subst h0
 rw [List.take_succ_eq_append_getElem h, hx]
 exact ⟨by simp [joinI, join_one], by simp [joinI, join_nil]⟩
theorem joinI_more {α : Type} (f : α → Str) {l : List α} {i : Nat} {x : α} (h : i < l.length) (hx : l[i] = x) (h0 : 0 < i) : joinI f (l.take (i + 1)) = joinI f (l.take i) ++ 44 :: f x := by
 have hne : (l.take i).map f ≠ [] := by
  intro e
  have := congrArg List.length e
  rw [List.length_map, List.length_take, List.length_nil] at this
  omega
 rw [List.take_succ_eq_append_getElem h, hx]
 unfold joinI
 rw [List.map_append, List.map_cons, List.map_nil, join_snoc hne]
 rfl
theorem joinI_bd {α : Type} {f : α → Str} {l : List α} {b : Nat} (h : ∀ x ∈ l, (f x).length ≤ b) (i : Nat) : (joinI f (l.take i)).length ≤ l.length * (b + 1) := by
 have := join_bd (c := 44) (l := (l.take i).map f) (b := b) (fun x hx => by
  obtain ⟨n, hn, rfl⟩ := List.mem_map.1 hx
  exact h n (List.mem_of_mem_take hn))
 rw [List.length_map] at this
 have h2 : (l.take i).length ≤ l.length := by rw [List.length_take]; omega
 have := Nat.mul_le_mul_right (b + 1) h2
 unfold joinI
 omega
def dn64 (x : Dn) : Prop := i64 x.1 ∧ i64 x.2
theorem wkN_len2 (d : Int) : (wkN d).length ≤ 2 := by
 unfold wkN
 split
 ·simp
 ·rw [List.length_take]; omega
theorem dayT_len22 {x : Dn} (h : dn64 x) : (dayT x).length ≤ 22 := by
 have h1 := itoa_len20 h.1
 have h2 := wkN_len2 x.2
 simp only [dayT, List.length_append]
 split
 ·simp; omega
 ·omega
end Go.Vs.YtbchceojmblkkaaGreatDoor
