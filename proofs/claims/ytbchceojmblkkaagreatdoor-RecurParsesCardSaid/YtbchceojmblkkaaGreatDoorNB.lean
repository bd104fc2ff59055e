/- Plain mathematics of lists of numbers and weekdays: how they are read and printed. No conditions. -/
import Derived.Test.YtbchceojmblkkaaGreatDoorBM
import Derived.Test.YtbchceojmblkkaaGreatDoorNA
import Derived.Test.YtbchceojmblkkaaGreatDoorBE
set_option linter.unusedVariables false
set_option linter.unusedSimpArgs false
namespace Go.Vs.U8
end Go.Vs.U8
namespace Go.Vs.Pa
end Go.Vs.Pa
namespace Go.Vs.Nu
end Go.Vs.Nu
namespace Go.Vs.YtbchceojmblkkaaGreatDoor
set_option linter.unusedSimpArgs false
set_option linter.unusedVariables false
open Go.Proofs Go.Vs.U8 Go.Vs.Pa Go.Vs.Nu Go.Lib
def numR (digits : Nat) (lo hi : Int) (signed : Bool) (s : Str) : Int × Int :=
 let sg : Bool := signed && (decide (s[0]? = some 43) || decide (s[0]? = some 45))
 let b := if sg then s.drop 1 else s
 if b = [] ∨ digits < b.length ∨ b.all dig = false then (0, 4)
 else if (valD 0 b : Int) < lo ∨ hi < (valD 0 b : Int) then (0, 8)
 else (if sg = true ∧ s[0]? = some 45 then -(valD 0 b : Int) else (valD 0 b : Int), 0)
inductive GotE (α : Type) where
 | no (e : Int) (p : Nat)
 | ok (l : List α)
def everyGo {α : Type} [DecidableEq α] (one : Str → α × Int) : List Str → Nat → List α → GotE α
 | [], _, out => .ok out
 | x :: r, at', out => if out.length = 12 then .no 20 at' else
  if (one x).2 ≠ 0 then .no (one x).2 at'
  else if (one x).1 ∈ out then .no 19 at'
  else everyGo one r (at' + x.length + 1) (out ++ [(one x).1])
def everyR {α : Type} [DecidableEq α] (one : Str → α × Int) (s : Str) : GotE α := everyGo one (parts 44 s) 0 []
theorem parts_glue {c : UInt8} {x : Str} (h : c ∉ x) (r : Str) : parts c (x ++ c :: r) = x :: parts c r := by
 have h1 : (x ++ c :: r)[x.length]? = some c := by rw [List.getElem?_append_right (Nat.le_refl _), Nat.sub_self]; rfl
 have := parts_at h1 (by rw [List.take_left]; exact h)
 rw [this, List.take_left]
 congr 2
 rw [show x.length + 1 = (x ++ [c]).length by simp, show x ++ c :: r = (x ++ [c]) ++ r by simp, List.drop_left]
theorem parts_join {c : UInt8} : ∀ {l : List Str}, l ≠ [] → (∀ x ∈ l, c ∉ x) → parts c (join l [c]) = l
 | [], h, _ => absurd rfl h
 | [x], _, h => by rw [join_one, parts_none (h x (by simp))]
 | x :: y :: r, _, h => by
  have ih := parts_join (c := c) (l := y :: r) (by simp) (fun z hz => h z (by simp at hz ⊢; exact .inr hz))
  have e : join (x :: y :: r) [c] = x ++ c :: join (y :: r) [c] := by
   rw [join_cons, join_cons]
   simp [joinTail]
  rw [e, parts_glue (h x (by simp)), ih]
theorem everyGo_ok {α : Type} [DecidableEq α] {one : Str → α × Int} {text : α → Str} : ∀ (l : List α) (k : Nat) (out : List α), (∀ x ∈ l, one (text x) = (x, 0)) → (out ++ l).Nodup → (out ++ l).length ≤ 12 → everyGo one (l.map text) k out = .ok (out ++ l)
 | [], k, out, _, _, _ => by simp [everyGo]
 | x :: r, k, out, h, hn, hl => by
  have h1 := h x (by simp)
  simp only [List.map_cons, everyGo, h1]
  have hx : x ∉ out := by
   intro hx
   rw [List.nodup_append] at hn
   exact hn.2.2 x hx x (by simp) rfl
  simp at hl
  rw [if_neg (by omega), if_neg (by simp), if_neg hx]
  have ih := everyGo_ok r (k + (text x).length + 1) (out ++ [x]) (fun y hy => h y (by simp [hy])) (by simpa using hn) (by simp; omega)
  rw [ih]
  simp
theorem dig_no {l : Str} (h : l.all dig = true) {c : UInt8} (hc : dig c = false) : c ∉ l := fun hm => by
 have := List.all_eq_true.1 h c hm
 rw [hc] at this; cases this
theorem itoa_nat (u : Nat) : itoa (u : Int) = decDigits u := by unfold itoa; rw [if_neg (by omega)]; simp
theorem itoa_minus (u : Nat) (h : 1 ≤ u) : itoa (-(u : Int)) = 45 :: decDigits u := by unfold itoa; rw [if_pos (by omega)]; simp
theorem itoa_no (n : Int) {c : UInt8} (hc : dig c = false) (h45 : c ≠ 45) : c ∉ itoa n := by
 unfold itoa
 split
 ·simp only [List.mem_cons, not_or]
  exact ⟨h45, dig_no (dec_all _) hc⟩
 ·exact dig_no (dec_all _) hc
theorem head_dig {l : Str} (h : l.all dig = true) : l[0]? ≠ some 43 ∧ l[0]? ≠ some 45 := by
 constructor <;> intro e <;>
 ·have := List.all_eq_true.1 h _ (List.mem_of_getElem? e)
  exact absurd this (by decide)
theorem num_back {digits : Nat} {lo hi : Int} {n : Int} (h1 : lo ≤ n.natAbs) (h2 : (n.natAbs : Int) ≤ hi) (hd : (decDigits n.natAbs).length ≤ digits) : numR digits lo hi true (itoa n) = (n, 0) := by
 obtain ⟨u, hu⟩ : ∃ u, n.natAbs = u := ⟨_, rfl⟩
 rw [hu] at h1 h2 hd
 have hall := dec_all u
 have hval := dec_back u
 have hne := dec_ne u
 by_cases hn : n < 0
 ·have e : n = -(u : Int) := by omega
  rw [e, itoa_minus u (by omega)]
  simp only [numR]
  have s0 : (45 :: decDigits u)[0]? = some 45 := rfl
  rw [s0]
  simp only [decide_true, Bool.or_true, Bool.and_self, Bool.true_and, if_true, List.drop_succ_cons, List.drop_zero]
  rw [if_neg (by rw [hall]; simp only [not_or]; exact ⟨hne, by omega, by simp⟩), hval, if_neg (by omega), if_pos ⟨trivial, trivial⟩]
 ·have e : n = (u : Int) := by omega
  rw [e, itoa_nat u]
  obtain ⟨g1, g2⟩ := head_dig hall
  simp only [numR]
  simp only [g1, g2, decide_false, Bool.or_false, Bool.and_false, Bool.false_eq_true, if_false, false_and]
  rw [if_neg (by rw [hall]; simp only [not_or]; exact ⟨hne, by omega, by simp⟩), hval, if_neg (by omega)]
end Go.Vs.YtbchceojmblkkaaGreatDoor
namespace Go.Vs.YtbchceojmblkkaaGreatDoor
set_option linter.unusedSimpArgs false
set_option linter.unusedVariables false
open Go.Proofs Go.Vs.U8 Go.Vs.Pa Go.Vs.Nu Go.Lib
def wkD (s : Str) : Int :=
 if s = [77, 79] then 0 else if s = [84, 85] then 1 else if s = [87, 69] then 2 else if s = [84, 72] then 3 else if s = [70, 82] then 4 else if s = [83, 65] then 5 else if s = [83, 85] then 6 else -1
def wkAll : Str := [77, 79, 84, 85, 87, 69, 84, 72, 70, 82, 83, 65, 83, 85]
def wkN (d : Int) : Str := if d < 0 ∨ 6 < d then [] else (wkAll.drop (2 * d.toNat)).take 2
abbrev Dn := Int × Int
def dayR (s : Str) : Dn × Int :=
 if s.length < 2 then ((0, 0), 4)
 else if wkD (s.drop (s.length - 2)) < 0 then ((0, 0), 4)
 else if s.length = 2 then ((0, wkD (s.drop (s.length - 2))), 0)
 else if (numR 2 1 53 true (s.take (s.length - 2))).2 ≠ 0 then ((0, 0), (numR 2 1 53 true (s.take (s.length - 2))).2)
 else (((numR 2 1 53 true (s.take (s.length - 2))).1, wkD (s.drop (s.length - 2))), 0)
def dayT (x : Dn) : Str := (if x.1 = 0 then [] else itoa x.1) ++ wkN x.2
theorem wk_cases {d : Int} (h0 : 0 ≤ d) (h6 : d ≤ 6) : d = 0 ∨ d = 1 ∨ d = 2 ∨ d = 3 ∨ d = 4 ∨ d = 5 ∨ d = 6 := by omega
theorem wk_back {d : Int} (h0 : 0 ≤ d) (h6 : d ≤ 6) : wkD (wkN d) = d ∧ (wkN d).length = 2 := by
 rcases wk_cases h0 h6 with rfl | rfl | rfl | rfl | rfl | rfl | rfl <;> decide
theorem wkD_range (s : Str) : -1 ≤ wkD s ∧ wkD s ≤ 6 := by
 unfold wkD
 repeat' split
 all_goals omega
theorem wkN_no {d : Int} : 44 ∉ wkN d := by
 unfold wkN
 split
 ·simp
 ·intro h
  have := List.mem_of_mem_take h
  have := List.mem_of_mem_drop this
  revert this
  decide
theorem itoa_two {n : Int} (h1 : -99 ≤ n) (h2 : n ≤ 99) : (decDigits n.natAbs).length ≤ 2 := dec_len 1 n.natAbs (by omega)
theorem itoa_pos (n : Int) : 1 ≤ (itoa n).length := by
 unfold itoa
 split
 ·simp
 ·exact dec_pos _
theorem day_back {x : Dn} (h1 : -53 ≤ x.1) (h2 : x.1 ≤ 53) (h3 : 0 ≤ x.2) (h4 : x.2 ≤ 6) : dayR (dayT x) = (x, 0) := by
 obtain ⟨n, d⟩ := x
 simp only at h1 h2 h3 h4
 obtain ⟨b1, b2⟩ := wk_back h3 h4
 by_cases h0 : n = 0
 ·subst h0
  have e : dayT (0, d) = wkN d := by simp [dayT]
  rw [e]
  simp only [dayR, b2]
  have : (wkN d).drop (2 - 2) = wkN d := rfl
  rw [this, b1, if_neg (by omega), if_neg (by omega), if_pos trivial]
 ·have e : dayT (n, d) = itoa n ++ wkN d := by simp [dayT, h0]
  have hp := itoa_pos n
  have hl : (itoa n ++ wkN d).length - 2 = (itoa n).length := by rw [List.length_append, b2]; omega
  have hL : (itoa n ++ wkN d).length = (itoa n).length + 2 := by rw [List.length_append, b2]
  rw [e]
  have hL2 : (itoa n).length + 2 - 2 = (itoa n).length := by omega
  simp only [dayR, hL, hL2, List.drop_left, List.take_left, b1]
  have hb := num_back (digits := 2) (lo := 1) (hi := 53) (n := n) (by omega) (by omega) (itoa_two (by omega) (by omega))
  rw [if_neg (by omega), if_neg (by omega), if_neg (by omega), hb]
  simp
theorem day_no (x : Dn) : 44 ∉ dayT x := by
 simp only [dayT, List.mem_append, not_or]
 refine ⟨?_, wkN_no⟩
 split
 ·simp
 ·exact itoa_no _ (by decide) (by decide)
def printN (l : List Int) : Str := join (l.map itoa) [44]
def printD (l : List Dn) : Str := join (l.map dayT) [44]
theorem days_back {l : List Dn} (hne : l ≠ []) (hn : l.Nodup) (hl : l.length ≤ 12) (h : ∀ x ∈ l, -53 ≤ x.1 ∧ x.1 ≤ 53 ∧ 0 ≤ x.2 ∧ x.2 ≤ 6) : everyR dayR (printD l) = .ok l := by
 unfold everyR printD
 rw [parts_join (by simp [hne]) (by
  intro x hx
  obtain ⟨n, _, rfl⟩ := List.mem_map.1 hx
  exact day_no _)]
 have := everyGo_ok (one := dayR) (text := dayT) l 0 [] (fun n hn' => day_back (h n hn').1 (h n hn').2.1 (h n hn').2.2.1 (h n hn').2.2.2) (by simpa using hn) (by simpa using hl)
 simpa using this
end Go.Vs.YtbchceojmblkkaaGreatDoor
namespace Go.Vs.YtbchceojmblkkaaGreatDoor
def k_strconv_Itoa : Nat := 73
end Go.Vs.YtbchceojmblkkaaGreatDoor
