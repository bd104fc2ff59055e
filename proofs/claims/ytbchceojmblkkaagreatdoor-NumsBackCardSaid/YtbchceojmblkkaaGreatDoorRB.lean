/- Plain mathematics of rules of recurrence: what is wrong with them, how they are printed, and read. No conditions. -/
import Derived.Test.YtbchceojmblkkaaGreatDoorNB
import Derived.Test.YtbchceojmblkkaaGreatDoorRA
set_option linter.unusedVariables false
set_option linter.unusedSimpArgs false
namespace Go.Vs.YtbchceojmblkkaaGreatDoor.Rc
set_option linter.unusedSimpArgs false
set_option linter.unusedVariables false
open Go.Proofs Go.Vs.U8 Go.Vs.Pa Go.Vs.Nu Go.Lib Go.Vs.Mo
structure Ru where
  f : Int
  i : Int
  c : Int
  u : Mom
  l4 : List Int
  l5 : List Int
  l6 : List Int
  l7 : List Dn
  l8 : List Int
  l9 : List Int
  l10 : List Int
  l11 : List Int
  l12 : List Int
  w : Int
  deriving DecidableEq
def lst (r : Ru) : Nat → List Int
  | 4 => r.l4
  | 5 => r.l5
  | 6 => r.l6
  | 8 => r.l8
  | 9 => r.l9
  | 10 => r.l10
  | 11 => r.l11
  | _ => r.l12
/- What the numbers of a part are within. -/
def numbered (l : List Dn) : Bool := l.any fun x => decide (x.1 ≠ 0)
def others (r : Ru) : Nat := r.l7.length + r.l4.length + r.l5.length + r.l6.length + r.l8.length + r.l9.length + r.l10.length + r.l11.length
def badF (r : Ru) : Prop := (numbered r.l7 = true ∧ (r.f < 5 ∨ 0 < r.l10.length)) ∨ (0 < r.l8.length ∧ r.f = 4) ∨ (0 < r.l10.length ∧ r.f ≠ 6) ∨ (0 < r.l9.length ∧ (r.f = 3 ∨ r.f = 4 ∨ r.f = 5)) ∨ (0 < r.l12.length ∧ others r = 0)
instance (r : Ru) : Decidable (badF r) := by unfold badF; infer_instance
def listKs : List Nat := [4, 5, 6, 7, 8, 9, 10, 11, 12]
def names : List Str := [[70, 82, 69, 81], [85, 78, 84, 73, 76], [67, 79, 85, 78, 84], [73, 78, 84, 69, 82, 86, 65, 76], [66, 89, 83, 69, 67, 79, 78, 68], [66, 89, 77, 73, 78, 85, 84, 69], [66, 89, 72, 79, 85, 82], [66, 89, 68, 65, 89], [66, 89, 77, 79, 78, 84, 72, 68, 65, 89], [66, 89, 89, 69, 65, 82, 68, 65, 89], [66, 89, 87, 69, 69, 75, 78, 79], [66, 89, 77, 79, 78, 84, 72], [66, 89, 83, 69, 84, 80, 79, 83], [87, 75, 83, 84]]
def words : List Str := [[83, 69, 67, 79, 78, 68, 76, 89], [77, 73, 78, 85, 84, 69, 76, 89], [72, 79, 85, 82, 76, 89], [68, 65, 73, 76, 89], [87, 69, 69, 75, 76, 89], [77, 79, 78, 84, 72, 76, 89], [89, 69, 65, 82, 76, 89]]
def nameK (k : Nat) : Str := names.getD k []
def wordK (k : Nat) : Str := words.getD k []
def eqS (k : Nat) (v : Str) : Str := nameK k ++ 61 :: v
def optP (b : Bool) (k : Nat) (v : Str) : List (Nat × Str) := if b = true then [(k, v)] else []
def valP (r : Ru) (k : Nat) : Str := if k = 7 then printD r.l7 else printN (lst r k)
def listPs (r : Ru) : List Nat → List (Nat × Str)
  | [] => []
  | k :: ks => optP (decide (valP r k ≠ [])) k (valP r k) ++ listPs r ks
def pairs (r : Ru) : List (Nat × Str) := (0, wordK r.f.toNat) :: (optP (decide (r.u.k ≠ 0)) 1 (momT r.u) ++ (optP (decide (r.c ≠ 0)) 2 (itoa r.c) ++ (optP (decide (r.i ≠ 1)) 3 (itoa r.i) ++ (listPs r listKs ++ optP (decide (r.w ≠ 0)) 13 (wkN r.w)))))
/- A RULE THAT IS PRINTED IS PARSED AS IT WAS -/
/-- Is a part of two rules one? -/
def same (x r : Ru) : Nat → Prop
  | 0 => x.f = r.f
  | 1 => x.u = r.u
  | 2 => x.c = r.c
  | 3 => x.i = r.i
  | 4 => x.l4 = r.l4
  | 5 => x.l5 = r.l5
  | 6 => x.l6 = r.l6
  | 7 => x.l7 = r.l7
  | 8 => x.l8 = r.l8
  | 9 => x.l9 = r.l9
  | 10 => x.l10 = r.l10
  | 11 => x.l11 = r.l11
  | 12 => x.l12 = r.l12
  | 13 => x.w = r.w
  | _ => True
end Go.Vs.YtbchceojmblkkaaGreatDoor.Rc
