/- Plain mathematics of parameters: names; what values mean and how they are written. No conditions. -/
import Derived.Test.YtbchceojmblkkaaDoorBH
import Derived.Test.YtbchceojmblkkaaDoorBJ
set_option linter.unusedVariables false
set_option linter.unusedSimpArgs false
set_option linter.unusedVariables false
set_option linter.unusedSimpArgs false
namespace Go.Vs.Pa
open Go.Vs.U8
/-- .. or small letters. -/
def nmd (c : UInt8) : Bool := decide ((65 ≤ c.toNat ∧ c.toNat ≤ 90) ∨ (97 ≤ c.toNat ∧ c.toNat ≤ 122) ∨ (48 ≤ c.toNat ∧ c.toNat ≤ 57) ∨ c.toNat = 45)
/-- How many bytes of names a text begins with. -/
def named : Str → Nat
  | [] => 0
  | c :: r => if nmd c then named r + 1 else 0
/-- A small letter's capital. -/
def upB (c : UInt8) : UInt8 := if 97 ≤ c ∧ c ≤ 122 then c - 32 else c
def upper (s : Str) : Str := s.map upB
theorem upB_yes {c : UInt8} (h1 : 97 ≤ c.toNat) (h2 : c.toNat ≤ 122) : (upB c).toNat = c.toNat - 32 := by
  have a : (97 : UInt8) ≤ c ∧ c ≤ 122 := ⟨by rw [UInt8.le_iff_toNat_le]; simpa using h1, by rw [UInt8.le_iff_toNat_le]; simpa using h2⟩
  rw [upB, if_pos a, UInt8.toNat_sub_of_le]
  · rfl
  · rw [UInt8.le_iff_toNat_le]; simp; omega
theorem upB_no {c : UInt8} (h : ¬ (97 ≤ c.toNat ∧ c.toNat ≤ 122)) : upB c = c := by
  rw [upB, if_neg]
  rintro ⟨a, b⟩
  rw [UInt8.le_iff_toNat_le] at a b
  exact h ⟨by simpa using a, by simpa using b⟩
/-- What a value means. -/
def meant : Str → Str
  | [] => []
  | [c] => [c]
  | c :: d :: r => if c.toNat = 94 then (if d.toNat = 94 then 94 :: meant r else if d.toNat = 110 then 10 :: meant r else if d.toNat = 39 then 34 :: meant r else c :: meant (d :: r)) else c :: meant (d :: r)
/-- How a value is written, but for the marks about it. -/
def esc : Str → Str
  | [] => []
  | c :: r => (if c.toNat = 94 then [94, 94] else if c.toNat = 10 then [94, 110] else if c.toNat = 34 then [94, 39] else [c]) ++ esc r
/-- Is it a sign that ends a value? -/
def stp (c : UInt8) : Bool := decide (c.toNat = 44 ∨ c.toNat = 58 ∨ c.toNat = 59)
def write (s : Str) : Str := if s.any stp then 34 :: (esc s ++ [34]) else esc s
end Go.Vs.Pa
namespace Go.Vs.YtbchceojmblkkaaDoor
set_option linter.unusedSimpArgs false
set_option linter.unusedVariables false
open Go.Proofs Go.Vs.U8 Go.Vs.Pa
set_option maxRecDepth 100000
set_option maxHeartbeats 4000000
end Go.Vs.YtbchceojmblkkaaDoor
namespace Go.Vs.YtbchceojmblkkaaDoor
set_option linter.unusedSimpArgs false
set_option linter.unusedVariables false
open Go.Proofs Go.Vs.U8 Go.Vs.Pa
set_option maxRecDepth 100000
set_option maxHeartbeats 4000000
end Go.Vs.YtbchceojmblkkaaDoor
namespace Go.Vs.YtbchceojmblkkaaDoor
set_option linter.unusedSimpArgs false
set_option linter.unusedVariables false
open Go.Proofs Go.Vs.U8 Go.Vs.Pa
set_option maxRecDepth 100000
set_option maxHeartbeats 4000000
end Go.Vs.YtbchceojmblkkaaDoor
namespace Go.Vs.YtbchceojmblkkaaDoor
set_option linter.unusedSimpArgs false
set_option linter.unusedVariables false
open Go.Proofs Go.Vs.U8 Go.Vs.Pa
set_option maxRecDepth 100000
set_option maxHeartbeats 4000000
@[simp] theorem esc_nil : esc [] = [] := rfl
end Go.Vs.YtbchceojmblkkaaDoor
