/- Plain mathematics of lists of numbers and weekdays: how they are read and printed. No conditions. -/
import Derived.Test.YtbchceojmblkkaaGreatDoorBM
import Derived.Test.YtbchceojmblkkaaGreatDoorNA
import Derived.Test.YtbchceojmblkkaaGreatDoorBE
set_option linter.unusedVariables false
set_option linter.unusedSimpArgs false
namespace Go.Vs.YtbchceojmblkkaaGreatDoor
set_option linter.unusedSimpArgs false
set_option linter.unusedVariables false
open Go.Proofs Go.Vs.U8 Go.Vs.Pa Go.Vs.Nu Go.Lib
/-- A number read, or what is wrong. -/
def numR (digits : Nat) (lo hi : Int) (signed : Bool) (s : Str) : Int × Int :=
  let sg : Bool := signed && (decide (s[0]? = some 43) || decide (s[0]? = some 45))
  let b := if sg then s.drop 1 else s
  if b = [] ∨ digits < b.length ∨ b.all dig = false then (0, 4)
  else if (valD 0 b : Int) < lo ∨ hi < (valD 0 b : Int) then (0, 8)
  else (if sg = true ∧ s[0]? = some 45 then -(valD 0 b : Int) else (valD 0 b : Int), 0)
inductive GotE (α : Type) where
  | no (e : Int) (p : Nat)
  | ok (l : List α)
/-- A list's items, read one behind the other from a place on. -/
def everyGo {α : Type} [DecidableEq α] (one : Str → α × Int) : List Str → Nat → List α → GotE α
  | [], _, out => .ok out
  | x :: r, at', out => if out.length = 12 then .no 20 at' else
    if (one x).2 ≠ 0 then .no (one x).2 at'
    else if (one x).1 ∈ out then .no 19 at'
    else everyGo one r (at' + x.length + 1) (out ++ [(one x).1])
def everyR {α : Type} [DecidableEq α] (one : Str → α × Int) (s : Str) : GotE α := everyGo one (parts 44 s) 0 []
theorem itoa_nat (u : Nat) : itoa (u : Int) = decDigits u := by unfold itoa; rw [if_neg (by omega)]; simp
theorem itoa_minus (u : Nat) (h : 1 ≤ u) : itoa (-(u : Int)) = 45 :: decDigits u := by unfold itoa; rw [if_pos (by omega)]; simp
end Go.Vs.YtbchceojmblkkaaGreatDoor
namespace Go.Vs.YtbchceojmblkkaaGreatDoor
set_option linter.unusedSimpArgs false
set_option linter.unusedVariables false
open Go.Proofs Go.Vs.U8 Go.Vs.Pa Go.Vs.Nu Go.Lib
def wkD (s : Str) : Int :=
  if s = [77, 79] then 0 else if s = [84, 85] then 1 else if s = [87, 69] then 2 else if s = [84, 72] then 3 else if s = [70, 82] then 4 else if s = [83, 65] then 5 else if s = [83, 85] then 6 else -1
def wkAll : Str := [77, 79, 84, 85, 87, 69, 84, 72, 70, 82, 83, 65, 83, 85]
def wkN (d : Int) : Str := if d < 0 ∨ 6 < d then [] else (wkAll.drop (2 * d.toNat)).take 2
abbrev Dn := Int × Int
def dayR (s : Str) : Dn × Int :=
  if s.length < 2 then ((0, 0), 4)
  else if wkD (s.drop (s.length - 2)) < 0 then ((0, 0), 4)
  else if s.length = 2 then ((0, wkD (s.drop (s.length - 2))), 0)
  else if (numR 2 1 53 true (s.take (s.length - 2))).2 ≠ 0 then ((0, 0), (numR 2 1 53 true (s.take (s.length - 2))).2)
  else (((numR 2 1 53 true (s.take (s.length - 2))).1, wkD (s.drop (s.length - 2))), 0)
def dayT (x : Dn) : Str := (if x.1 = 0 then [] else itoa x.1) ++ wkN x.2
theorem wk_cases {d : Int} (h0 : 0 ≤ d) (h6 : d ≤ 6) : d = 0 ∨ d = 1 ∨ d = 2 ∨ d = 3 ∨ d = 4 ∨ d = 5 ∨ d = 6 := by omega
theorem wkD_range (s : Str) : -1 ≤ wkD s ∧ wkD s ≤ 6 := by
  unfold wkD
  repeat' split
  all_goals omega
def printN (l : List Int) : Str := join (l.map itoa) [44]
def printD (l : List Dn) : Str := join (l.map dayT) [44]
end Go.Vs.YtbchceojmblkkaaGreatDoor
namespace Go.Vs.YtbchceojmblkkaaGreatDoor
def k_strconv_Itoa : Nat := 73
end Go.Vs.YtbchceojmblkkaaGreatDoor
