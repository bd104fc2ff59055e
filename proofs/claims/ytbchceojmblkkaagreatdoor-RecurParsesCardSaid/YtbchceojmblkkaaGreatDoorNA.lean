/- Plain mathematics of numerals and of UIDs. No conditions. -/
import Derived.Test.YtbchceojmblkkaaGreatDoorBH
import Derived.Lib.ItoaNum
import Derived.Test.YtbchceojmblkkaaGreatDoorBD
set_option linter.unusedVariables false
set_option linter.unusedSimpArgs false
namespace Go.Vs.U8
end Go.Vs.U8
namespace Go.Vs.Nu
end Go.Vs.Nu
set_option linter.unusedVariables false
set_option linter.unusedSimpArgs false
namespace Go.Vs.Nu
open Go.Vs.U8 Go.Lib
def dig (c : UInt8) : Bool := decide (48 ≤ c.toNat ∧ c.toNat ≤ 57)
def valD : Nat → Str → Nat
 | n, [] => n
 | n, c :: r => valD (10 * n + (c.toNat - 48)) r
theorem valD_app (a b : Str) : ∀ n, valD n (a ++ b) = valD (valD n a) b := by
 induction a with
 | nil => intro n; rfl
 | cons c r ih => intro n; exact ih (10 * n + (c.toNat - 48))
theorem dig_of (k : Nat) (h : k < 10) : dig (UInt8.ofNat (48 + k)) = true ∧ (UInt8.ofNat (48 + k)).toNat - 48 = k := by
 have : ∀ k : Fin 10, dig (UInt8.ofNat (48 + k.1)) = true ∧ (UInt8.ofNat (48 + k.1)).toNat - 48 = k.1 := by decide
 exact this ⟨k, h⟩
theorem all_one {p : UInt8 → Bool} {c : UInt8} (h : p c = true) : [c].all p = true := by rw [List.all_cons, h]; rfl
theorem val_one (n : Nat) (c : UInt8) : valD n [c] = 10 * n + (c.toNat - 48) := rfl
theorem dec_dig : ∀ (n u : Nat), u ≤ n → (decDigits u).all dig = true
 | n, u, h => by
  rw [decDigits]
  split
  ·next h1 => exact all_one (dig_of u h1).1
  ·next h1 =>
   cases n with
   | zero => omega
   | succ n =>
    rw [List.all_append, dec_dig n (u / 10) (by omega), all_one (dig_of (u % 10) (by omega)).1]
    rfl
theorem dec_val : ∀ (n u : Nat), u ≤ n → valD 0 (decDigits u) = u
 | n, u, h => by
  rw [decDigits]
  split
  ·next h1 => rw [val_one, (dig_of u h1).2]; omega
  ·next h1 =>
   cases n with
   | zero => omega
   | succ n =>
    rw [valD_app, dec_val n (u / 10) (by omega)]
    rw [val_one, (dig_of (u % 10) (by omega)).2]
    omega
theorem dec_all (u : Nat) : (decDigits u).all dig = true := dec_dig u u (Nat.le_refl _)
theorem dec_back (u : Nat) : valD 0 (decDigits u) = u := dec_val u u (Nat.le_refl _)
theorem dec_ne (u : Nat) : decDigits u ≠ [] := by
 rw [decDigits]; split <;> simp
theorem dec_pos (u : Nat) : 1 ≤ (decDigits u).length := List.length_pos_iff.2 (dec_ne u)
theorem dec_len : ∀ (k u : Nat), u < 10 ^ (k + 1) → (decDigits u).length ≤ k + 1
 | 0, u, h => by rw [decDigits, dif_pos (by omega)]; simp
 | k + 1, u, h => by
  rw [decDigits]
  split
  ·simp
  ·rw [List.length_append]
   have := dec_len k (u / 10) (by rw [Nat.pow_succ] at h; omega)
   simp; omega
theorem val_lt : ∀ (l : Str) (n : Nat), l.all dig = true → valD n l < (n + 1) * 10 ^ l.length
 | [], n, _ => by
  show n < (n + 1) * 1
  omega
 | c :: r, n, h => by
  simp only [List.all_cons, Bool.and_eq_true] at h
  have h1 := val_lt r (10 * n + (c.toNat - 48)) h.2
  have h2 : c.toNat - 48 ≤ 9 := by have := h.1; simp [dig] at this; omega
  have e : valD n (c :: r) = valD (10 * n + (c.toNat - 48)) r := rfl
  rw [e, List.length_cons, Nat.pow_succ]
  have h3 : (10 * n + (c.toNat - 48) + 1) * 10 ^ r.length ≤ ((n + 1) * 10) * 10 ^ r.length := Nat.mul_le_mul_right _ (by omega)
  have h4 : (n + 1) * (10 ^ r.length * 10) = ((n + 1) * 10) * 10 ^ r.length := by rw [Nat.mul_comm (10 ^ r.length) 10, Nat.mul_assoc]
  omega
/- TRAILING DIGITS -/
def trimD (s : Str) : Str := (s.reverse.dropWhile dig).reverse
theorem trimD_digits (x : Str) {d : Str} (h : d.all dig = true) : trimD (x ++ d) = trimD x := by
 unfold trimD
 rw [List.reverse_append]
 have : ∀ (l r : Str), l.all dig = true → (l ++ r).dropWhile dig = r.dropWhile dig := by
  intro l
  induction l with
  | nil => intro r _; rfl
  | cons c l ih =>
   intro r hl
   simp only [List.all_cons, Bool.and_eq_true] at hl
   rw [List.cons_append, List.dropWhile_cons_of_pos hl.1, ih r hl.2]
 rw [this _ _ (by rw [List.all_reverse]; exact h)]
theorem trimD_prefix (s : Str) : ∃ d, s = trimD s ++ d ∧ d.all dig = true := by
 refine ⟨(s.reverse.takeWhile dig).reverse, ?_, ?_⟩
 ·unfold trimD
  rw [← List.reverse_append, List.takeWhile_append_dropWhile, List.reverse_reverse]
 ·rw [List.all_reverse, List.all_eq_true]
  intro c hc
  exact List.all_eq_true.1 (List.all_takeWhile (l := s.reverse) (p := dig)) c hc
/- UIDs -/
end Go.Vs.Nu
set_option linter.unusedVariables false
set_option linter.unusedSimpArgs false
namespace Go.Vs
open Go.Vs.Nu
def zv (i : Nat) : List IV := (List.range 256).map fun j => .bool (decide (48 ≤ j ∧ j < 48 + i))
def zs (i : Nat) : List SV := (zv i).map .val
def fz256 : List SV := List.replicate 256 (.val (.bool false))
theorem zv_len (i : Nat) : (zv i).length = 256 := by simp [zv]
theorem zs_len (i : Nat) : (zs i).length = 256 := by simp [zs, zv_len]
theorem zs_get (i j : Nat) (h : j < 256) : (zs i)[j]? = some (.val (.bool (decide (48 ≤ j ∧ j < 48 + i)))) := by
 simp [zs, zv, h]
theorem zs_map (i : Nat) : List.map SV.val (zv i) = zs i := rfl
theorem fz256_eq : fz256 = zs 0 := by
 refine List.ext_getElem? fun j => ?_
 have hf : fz256.length = 256 := by unfold fz256; exact List.length_replicate
 by_cases h : j < 256
 ·rw [zs_get 0 j h, decide_eq_false (by omega)]
  unfold fz256
  rw [List.getElem?_replicate, if_pos h]
 ·rw [List.getElem?_eq_none (by rw [hf]; omega), List.getElem?_eq_none (by rw [zs_len]; omega)]
theorem zs_take (i : Nat) : (zs i).take 256 = zs i := List.take_of_length_le (by rw [zs_len]; exact Nat.le_refl _)
theorem zv_take (i : Nat) : (zv i).take 256 = zv i := List.take_of_length_le (by rw [zv_len]; exact Nat.le_refl _)
theorem zs_drop (i : Nat) : (zs i).drop 256 = [] := List.drop_eq_nil_of_le (by rw [zs_len]; exact Nat.le_refl _)
theorem allVal_map : ∀ l : List IV, allVal (l.map .val) = some l
 | [] => rfl
 | x :: r => by rw [List.map_cons, allVal, allVal_map r]
theorem iv0_map (objs : List (Nat × Ob)) : ∀ l : List IV, toIVs0 objs (l.map .val) = some (l, [])
 | [] => rfl
 | x :: r => by rw [List.map_cons, toIVs0, iv0_map objs r]; rfl
theorem zs_all (i : Nat) : allVal (zs i) = some (zv i) := allVal_map _
theorem zs_iv0 (objs : List (Nat × Ob)) (i : Nat) : toIVs0 objs (zs i) = some (zv i, []) := iv0_map _ _
theorem erase_map (k : Nat) : ∀ l : List IV, eraseL k (l.map .val) = l.map .val
 | [] => rfl
 | x :: r => by rw [List.map_cons, eraseL, erase_map k r]; rfl
theorem zs_erase (k i : Nat) : eraseL k (zs i) = zs i := erase_map _ _
theorem zs_step (i : Nat) (h : i < 10) : (zs i).take (48 + i) ++ .val (.bool true) :: (zs i).drop (48 + i + 1) = zs (i + 1) := by
 refine List.ext_getElem? fun j => ?_
 have hl : ((zs i).take (48 + i)).length = 48 + i := by rw [List.length_take, zs_len]; omega
 by_cases h1 : j < 48 + i
 ·rw [List.getElem?_append_left (by rw [hl]; exact h1), List.getElem?_take_of_lt h1, zs_get _ _ (by omega), zs_get _ _ (by omega)]
  congr 3
  rw [decide_eq_decide]; omega
 ·rw [List.getElem?_append_right (by rw [hl]; omega), hl]
  by_cases h2 : j = 48 + i
  ·subst h2
   rw [Nat.sub_self, List.getElem?_cons_zero, zs_get _ _ (by omega), decide_eq_true (by omega)]
  ·obtain ⟨t, ht⟩ : ∃ t, j - (48 + i) = t + 1 := ⟨j - (48 + i) - 1, by omega⟩
   rw [ht, List.getElem?_cons_succ, List.getElem?_drop, show 48 + i + 1 + t = j by omega]
   by_cases h3 : j < 256
   ·rw [zs_get _ _ h3, zs_get _ _ h3]
    congr 3
    rw [decide_eq_decide]; omega
   ·rw [List.getElem?_eq_none (by rw [zs_len]; omega), List.getElem?_eq_none (by rw [zs_len]; omega)]
theorem zv_drop (c : UInt8) : ∃ r, (zv 10).drop c.toNat = .bool (dig c) :: r := by
 have hc : c.toNat < 256 := c.toNat_lt
 refine ⟨(zv 10).drop (c.toNat + 1), ?_⟩
 rw [List.drop_eq_getElem_cons (by rw [zv_len]; exact hc)]
 congr 1
 simp only [zv, List.getElem_map, List.getElem_range, dig]
 congr 1
 rw [decide_eq_decide]; omega
end Go.Vs
