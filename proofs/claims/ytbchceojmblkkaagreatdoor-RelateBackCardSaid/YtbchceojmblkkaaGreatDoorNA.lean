/- Plain mathematics of numerals and of UIDs. No conditions. -/
import Derived.Test.YtbchceojmblkkaaGreatDoorBH
import Derived.Lib.ItoaNum
import Derived.Test.YtbchceojmblkkaaGreatDoorBD
set_option linter.unusedVariables false
set_option linter.unusedSimpArgs false
set_option linter.unusedVariables false
set_option linter.unusedSimpArgs false
namespace Go.Vs.Nu
open Go.Vs.U8 Go.Lib
/-- Is it a digit? -/
def dig (c : UInt8) : Bool := decide (48 ≤ c.toNat ∧ c.toNat ≤ 57)
theorem dec_len : ∀ (k u : Nat), u < 10 ^ (k + 1) → (decDigits u).length ≤ k + 1
  | 0, u, h => by rw [decDigits, dif_pos (by omega)]; simp
  | k + 1, u, h => by
    rw [decDigits]
    split
    · simp
    · rw [List.length_append]
      have := dec_len k (u / 10) (by rw [Nat.pow_succ] at h; omega)
      simp; omega
/- TRAILING DIGITS -/
def trimD (s : Str) : Str := (s.reverse.dropWhile dig).reverse
theorem trimD_prefix (s : Str) : ∃ d, s = trimD s ++ d ∧ d.all dig = true := by
  refine ⟨(s.reverse.takeWhile dig).reverse, ?_, ?_⟩
  · unfold trimD
    rw [← List.reverse_append, List.takeWhile_append_dropWhile, List.reverse_reverse]
  · rw [List.all_reverse, List.all_eq_true]
    intro c hc
    exact List.all_eq_true.1 (List.all_takeWhile (l := s.reverse) (p := dig)) c hc
/- UIDs -/
def uidc (c : UInt8) : Bool := decide ((65 ≤ c.toNat ∧ c.toNat ≤ 90) ∨ (97 ≤ c.toNat ∧ c.toNat ≤ 122) ∨ (48 ≤ c.toNat ∧ c.toNat ≤ 57) ∨ c.toNat = 45 ∨ c.toNat = 46 ∨ c.toNat = 95 ∨ c.toNat = 64)
def uidB (s : Str) : Bool := decide (1 ≤ s.length) && (decide (s.length ≤ 24) && s.all uidc)
theorem dig_uidc {c : UInt8} (h : dig c = true) : uidc c = true := by simp [dig, uidc] at h ⊢; omega
theorem uidB_iff (s : Str) : uidB s = true ↔ 1 ≤ s.length ∧ s.length ≤ 24 ∧ s.all uidc = true := by simp [uidB]
/-- What a numbered UID was numbered from; a UID else. -/
def baseS (s : Str) : Str := if uidB s = true ∧ (trimD s).length ≠ s.length ∧ (trimD s).getLast? = some 46 ∧ (trimD s).dropLast ≠ [] then (trimD s).dropLast else s
def numS (s : Str) (n : Nat) : Str := s ++ [46] ++ decDigits n
end Go.Vs.Nu
set_option linter.unusedVariables false
set_option linter.unusedSimpArgs false
namespace Go.Vs
open Go.Vs.Nu
/-- The digits below so many. -/
def zv (i : Nat) : List IV := (List.range 256).map fun j => .bool (decide (48 ≤ j ∧ j < 48 + i))
def zs (i : Nat) : List SV := (zv i).map .val
def fz256 : List SV := List.replicate 256 (.val (.bool false))
theorem zv_len (i : Nat) : (zv i).length = 256 := by simp [zv]
theorem zs_len (i : Nat) : (zs i).length = 256 := by simp [zs, zv_len]
theorem zs_get (i j : Nat) (h : j < 256) : (zs i)[j]? = some (.val (.bool (decide (48 ≤ j ∧ j < 48 + i)))) := by
  simp [zs, zv, h]
theorem zs_map (i : Nat) : List.map SV.val (zv i) = zs i := rfl
theorem fz256_eq : fz256 = zs 0 := by
  refine List.ext_getElem? fun j => ?_
  have hf : fz256.length = 256 := by unfold fz256; exact List.length_replicate
  by_cases h : j < 256
  · rw [zs_get 0 j h, decide_eq_false (by omega)]
    unfold fz256
    rw [List.getElem?_replicate, if_pos h]
  · rw [List.getElem?_eq_none (by rw [hf]; omega), List.getElem?_eq_none (by rw [zs_len]; omega)]
theorem zs_take (i : Nat) : (zs i).take 256 = zs i := List.take_of_length_le (by rw [zs_len]; exact Nat.le_refl _)
theorem zv_take (i : Nat) : (zv i).take 256 = zv i := List.take_of_length_le (by rw [zv_len]; exact Nat.le_refl _)
theorem zs_drop (i : Nat) : (zs i).drop 256 = [] := List.drop_eq_nil_of_le (by rw [zs_len]; exact Nat.le_refl _)
theorem allVal_map : ∀ l : List IV, allVal (l.map .val) = some l
  | [] => rfl
  | x :: r => by rw [List.map_cons, allVal, allVal_map r]
theorem iv0_map (objs : List (Nat × Ob)) : ∀ l : List IV, toIVs0 objs (l.map .val) = some (l, [])
  | [] => rfl
  | x :: r => by rw [List.map_cons, toIVs0, iv0_map objs r]; rfl
theorem zs_all (i : Nat) : allVal (zs i) = some (zv i) := allVal_map _
theorem zs_iv0 (objs : List (Nat × Ob)) (i : Nat) : toIVs0 objs (zs i) = some (zv i, []) := iv0_map _ _
theorem erase_map (k : Nat) : ∀ l : List IV, eraseL k (l.map .val) = l.map .val
  | [] => rfl
  | x :: r => by rw [List.map_cons, eraseL, erase_map k r]; rfl
theorem zs_erase (k i : Nat) : eraseL k (zs i) = zs i := erase_map _ _
theorem zs_step (i : Nat) (h : i < 10) : (zs i).take (48 + i) ++ .val (.bool true) :: (zs i).drop (48 + i + 1) = zs (i + 1) := by
  refine List.ext_getElem? fun j => ?_
  have hl : ((zs i).take (48 + i)).length = 48 + i := by rw [List.length_take, zs_len]; omega
  by_cases h1 : j < 48 + i
  · rw [List.getElem?_append_left (by rw [hl]; exact h1), List.getElem?_take_of_lt h1, zs_get _ _ (by omega), zs_get _ _ (by omega)]
    congr 3
    rw [decide_eq_decide]; omega
  · rw [List.getElem?_append_right (by rw [hl]; omega), hl]
    by_cases h2 : j = 48 + i
    · subst h2
      rw [Nat.sub_self, List.getElem?_cons_zero, zs_get _ _ (by omega), decide_eq_true (by omega)]
    · obtain ⟨t, ht⟩ : ∃ t, j - (48 + i) = t + 1 := ⟨j - (48 + i) - 1, by omega⟩
      rw [ht, List.getElem?_cons_succ, List.getElem?_drop, show 48 + i + 1 + t = j by omega]
      by_cases h3 : j < 256
      · rw [zs_get _ _ h3, zs_get _ _ h3]
        congr 3
        rw [decide_eq_decide]; omega
      · rw [List.getElem?_eq_none (by rw [zs_len]; omega), List.getElem?_eq_none (by rw [zs_len]; omega)]
theorem zv_drop (c : UInt8) : ∃ r, (zv 10).drop c.toNat = .bool (dig c) :: r := by
  have hc : c.toNat < 256 := c.toNat_lt
  refine ⟨(zv 10).drop (c.toNat + 1), ?_⟩
  rw [List.drop_eq_getElem_cons (by rw [zv_len]; exact hc)]
  congr 1
  simp only [zv, List.getElem_map, List.getElem_range, dig]
  congr 1
  rw [decide_eq_decide]; omega
end Go.Vs
