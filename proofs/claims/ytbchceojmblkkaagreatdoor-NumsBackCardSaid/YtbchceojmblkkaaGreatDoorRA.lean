/- Plain mathematics of the calendar: days and dates are one another's. No conditions. -/
import Derived.Test.YtbchceojmblkkaaGreatDoorBH
import Derived.Test.YtbchceojmblkkaaGreatDoorNA
set_option linter.unusedVariables false
set_option linter.unusedSimpArgs false
set_option linter.unusedVariables false
set_option linter.unusedSimpArgs false
namespace Go.Vs.Cv
/-- Leap years. -/
def leap (y : Nat) : Bool := (decide (y % 4 = 0) && decide (y % 100 ≠ 0)) || decide (y % 400 = 0)
/-- The days ahead of a year. -/
def ahead (y : Nat) : Nat := (y - 1) * 365 + (y - 1) / 4 - (y - 1) / 100 + (y - 1) / 400
def before (m : Nat) : Nat := match m with
  | 0 => 0 | 1 => 0 | 2 => 31 | 3 => 59 | 4 => 90 | 5 => 120 | 6 => 151 | 7 => 181 | 8 => 212 | 9 => 243 | 10 => 273 | 11 => 304 | 12 => 334 | _ => 365
/-- The days of a year ahead of a month. -/
def upTo (y m : Nat) : Nat := before m + if 2 < m ∧ leap y = true then 1 else 0
/-- The year and the day of the year, by division. -/
def splitN (n : Nat) : Nat × Nat :=
  let a := n / 146097
  let n1 := n % 146097
  let c := min (n1 / 36524) 3
  let n2 := n1 - c * 36524
  let q := n2 / 1461
  let n3 := n2 % 1461
  let k := min (n3 / 365) 3
  (1 + a * 400 + 100 * c + 4 * q + k, n3 - k * 365)
def monthN (y at' : Nat) : Nat := if upTo y (at' / 32 + 2) ≤ at' then at' / 32 + 2 else at' / 32 + 1
def dateN (n : Nat) : Nat × Nat × Nat := ((splitN n).1, monthN (splitN n).1 (splitN n).2, (splitN n).2 - upTo (splitN n).1 (monthN (splitN n).1 (splitN n).2) + 1)
end Go.Vs.Cv
set_option linter.unusedVariables false
set_option linter.unusedSimpArgs false
namespace Go.Vs.Mo
open Go.Vs.U8 Go.Vs.Nu Go.Vs.Cv
/-- A number in so many digits. -/
def wide : Nat → Nat → Str
  | 0, _ => []
  | w + 1, n => wide w (n / 10) ++ [UInt8.ofNat (48 + n % 10)]
structure Mom where
  k : Int
  s : Int
  deriving DecidableEq
def dayT (n : Nat) : Str := wide 4 (dateN n).1 ++ (wide 2 (dateN n).2.1 ++ wide 2 (dateN n).2.2)
def timeT (t : Nat) : Str := wide 2 (t / 3600) ++ (wide 2 (t / 60 % 60) ++ wide 2 (t % 60))
def momT (v : Mom) : Str := dayT (v.s / 86400).toNat ++ (if v.k = 1 then [] else 84 :: (timeT (v.s % 86400).toNat ++ if v.k = 3 then [90] else []))
theorem two (n : Nat) : ∃ a b, wide 2 n = [a, b] := ⟨_, _, rfl⟩
theorem val_bd {s : Str} (h : s.all dig = true) : valD 0 s < 10 ^ s.length := by
  have := val_lt s 0 h
  omega
end Go.Vs.Mo
