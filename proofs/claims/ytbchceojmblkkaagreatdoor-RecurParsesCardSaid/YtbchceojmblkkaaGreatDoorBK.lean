/- Plain mathematics of parameters: names; what values mean and how they are written. No conditions. -/
import Derived.Test.YtbchceojmblkkaaGreatDoorBH
import Derived.Test.YtbchceojmblkkaaGreatDoorBJ
set_option linter.unusedVariables false
set_option linter.unusedSimpArgs false
namespace Go.Vs.U8
end Go.Vs.U8
namespace Go.Vs.Pa
end Go.Vs.Pa
set_option linter.unusedVariables false
set_option linter.unusedSimpArgs false
namespace Go.Vs.Pa
open Go.Vs.U8
def nmd (c : UInt8) : Bool := decide ((65 ≤ c.toNat ∧ c.toNat ≤ 90) ∨ (97 ≤ c.toNat ∧ c.toNat ≤ 122) ∨ (48 ≤ c.toNat ∧ c.toNat ≤ 57) ∨ c.toNat = 45)
def named : Str → Nat
 | [] => 0
 | c :: r => if nmd c then named r + 1 else 0
def upB (c : UInt8) : UInt8 := if 97 ≤ c ∧ c ≤ 122 then c - 32 else c
def upper (s : Str) : Str := s.map upB
def meant : Str → Str
 | [] => []
 | [c] => [c]
 | c :: d :: r => if c.toNat = 94 then (if d.toNat = 94 then 94 :: meant r else if d.toNat = 110 then 10 :: meant r else if d.toNat = 39 then 34 :: meant r else c :: meant (d :: r)) else c :: meant (d :: r)
def esc : Str → Str
 | [] => []
 | c :: r => (if c.toNat = 94 then [94, 94] else if c.toNat = 10 then [94, 110] else if c.toNat = 34 then [94, 39] else [c]) ++ esc r
def stp (c : UInt8) : Bool := decide (c.toNat = 44 ∨ c.toNat = 58 ∨ c.toNat = 59)
def write (s : Str) : Str := if s.any stp then 34 :: (esc s ++ [34]) else esc s
end Go.Vs.Pa
namespace Go.Vs.YtbchceojmblkkaaGreatDoor
set_option linter.unusedSimpArgs false
set_option linter.unusedVariables false
open Go.Proofs Go.Vs.U8 Go.Vs.Pa
set_option maxRecDepth 100000
set_option maxHeartbeats 4000000
@[simp] theorem esc_nil : esc [] = [] := rfl
end Go.Vs.YtbchceojmblkkaaGreatDoor
