/- Plain mathematics of the calendar: days and dates are one another's. No conditions. -/
import Derived.Test.YtbchceojmblkkaaGreatDoorBH
import Derived.Test.YtbchceojmblkkaaGreatDoorNA
import Derived.Test.YtbchceojmblkkaaGreatDoorNB
set_option linter.unusedVariables false
set_option linter.unusedSimpArgs false
namespace Go.Vs.U8
end Go.Vs.U8
namespace Go.Vs.Nu
end Go.Vs.Nu
namespace Go.Vs.Cv
end Go.Vs.Cv
namespace Go.Vs.Pa
end Go.Vs.Pa
namespace Go.Vs.Mo
end Go.Vs.Mo
set_option linter.unusedVariables false
set_option linter.unusedSimpArgs false
namespace Go.Vs.Cv
def leap (y : Nat) : Bool := (decide (y % 4 = 0) && decide (y % 100 ≠ 0)) || decide (y % 400 = 0)
def ylen (y : Nat) : Nat := if leap y then 366 else 365
def mlen (y m : Nat) : Nat := if m = 2 then ylen y - 337 else if m = 4 ∨ m = 6 ∨ m = 9 ∨ m = 11 then 30 else 31
def ahead (y : Nat) : Nat := (y - 1) * 365 + (y - 1) / 4 - (y - 1) / 100 + (y - 1) / 400
def before (m : Nat) : Nat := match m with
 | 0 => 0 | 1 => 0 | 2 => 31 | 3 => 59 | 4 => 90 | 5 => 120 | 6 => 151 | 7 => 181 | 8 => 212 | 9 => 243 | 10 => 273 | 11 => 304 | 12 => 334 | _ => 365
def upTo (y m : Nat) : Nat := before m + if 2 < m ∧ leap y = true then 1 else 0
def dayN (y m d : Nat) : Nat := ahead y + upTo y m + d - 1
def splitN (n : Nat) : Nat × Nat :=
 let a := n / 146097
 let n1 := n % 146097
 let c := min (n1 / 36524) 3
 let n2 := n1 - c * 36524
 let q := n2 / 1461
 let n3 := n2 % 1461
 let k := min (n3 / 365) 3
 (1 + a * 400 + 100 * c + 4 * q + k, n3 - k * 365)
def monthN (y at' : Nat) : Nat := if upTo y (at' / 32 + 2) ≤ at' then at' / 32 + 2 else at' / 32 + 1
def dateN (n : Nat) : Nat × Nat × Nat := ((splitN n).1, monthN (splitN n).1 (splitN n).2, (splitN n).2 - upTo (splitN n).1 (monthN (splitN n).1 (splitN n).2) + 1)
theorem leap_iff (y : Nat) : leap y = true ↔ (y % 4 = 0 ∧ y % 100 ≠ 0) ∨ y % 400 = 0 := by simp [leap]
theorem ahead_succ {y : Nat} (h : 1 ≤ y) : ahead (y + 1) = ahead y + ylen y := by
 obtain ⟨k, rfl⟩ : ∃ k, y = k + 1 := ⟨y - 1, by omega⟩
 have a4 : ((k + 1) % 4 = 0 ∧ (k + 1) / 4 = k / 4 + 1) ∨ ((k + 1) % 4 ≠ 0 ∧ (k + 1) / 4 = k / 4) := by omega
 have a100 : ((k + 1) % 100 = 0 ∧ (k + 1) / 100 = k / 100 + 1) ∨ ((k + 1) % 100 ≠ 0 ∧ (k + 1) / 100 = k / 100) := by omega
 have a400 : ((k + 1) % 400 = 0 ∧ (k + 1) / 400 = k / 400 + 1) ∨ ((k + 1) % 400 ≠ 0 ∧ (k + 1) / 400 = k / 400) := by omega
 have b1 : (k + 1) % 100 = 0 → (k + 1) % 4 = 0 := by omega
 have b2 : (k + 1) % 400 = 0 → (k + 1) % 100 = 0 := by omega
 have b3 : k / 100 ≤ k / 4 := by omega
 have e1 : ahead (k + 1 + 1) = (k + 1) * 365 + (k + 1) / 4 - (k + 1) / 100 + (k + 1) / 400 := rfl
 have e2 : ahead (k + 1) = k * 365 + k / 4 - k / 100 + k / 400 := rfl
 have hy : (leap (k + 1) = true ∧ ylen (k + 1) = 366) ∨ (leap (k + 1) = false ∧ ylen (k + 1) = 365) := by
  unfold ylen; cases leap (k + 1) <;> simp
 have hl : leap (k + 1) = true ↔ ((k + 1) % 4 = 0 ∧ (k + 1) % 100 ≠ 0) ∨ (k + 1) % 400 = 0 := leap_iff _
 rw [e1, e2]
 generalize (k + 1) / 4 = A at *
 generalize (k + 1) / 100 = B at *
 generalize (k + 1) / 400 = C at *
 generalize k / 4 = A' at *
 generalize k / 100 = B' at *
 generalize k / 400 = C' at *
 generalize (k + 1) % 4 = x at *
 generalize (k + 1) % 100 = y at *
 generalize (k + 1) % 400 = z at *
 rcases hy with ⟨h1, h2⟩ | ⟨h1, h2⟩
 ·have := hl.1 h1
  rw [h2]; omega
 ·have : ¬ ((x = 0 ∧ y ≠ 0) ∨ z = 0) := fun e => by rw [hl.2 e] at h1; cases h1
  rw [h2]; omega
theorem split_ahead {y t : Nat} (h1 : 1 ≤ y) (ht : t < ylen y) : splitN (ahead y + t) = (y, t) := by
 obtain ⟨p, rfl⟩ : ∃ p, y = p + 1 := ⟨y - 1, by omega⟩
 have hp : ahead (p + 1) = p * 365 + p / 4 - p / 100 + p / 400 := rfl
 obtain ⟨a, ha⟩ : ∃ a, p / 400 = a := ⟨_, rfl⟩
 obtain ⟨c, hc⟩ : ∃ c, p % 400 / 100 = c := ⟨_, rfl⟩
 obtain ⟨q, hq⟩ : ∃ q, p % 100 / 4 = q := ⟨_, rfl⟩
 obtain ⟨k, hk⟩ : ∃ k, p % 4 = k := ⟨_, rfl⟩
 have hpe : p = 400 * a + 100 * c + 4 * q + k := by omega
 have hc4 : c ≤ 3 := by omega
 have hq4 : q ≤ 24 := by omega
 have hk4 : k ≤ 3 := by omega
 have hah : ahead (p + 1) = 146097 * a + 36524 * c + 1461 * q + 365 * k := by rw [hp]; omega
 have ht2 : t < 365 ∨ (t = 365 ∧ k = 3 ∧ (q < 24 ∨ c = 3)) := by
  unfold ylen at ht
  cases hl : leap (p + 1) with
  | false => rw [hl] at ht; left; simpa using ht
  | true =>
   rw [hl] at ht
   have := (leap_iff _).1 hl
   simp at ht
   by_cases h365 : t < 365
   ·exact .inl h365
   ·right
    refine ⟨by omega, by omega, ?_⟩
    omega
 rw [hah]
 simp only [splitN]
 have e1 : (146097 * a + 36524 * c + 1461 * q + 365 * k + t) / 146097 = a := by omega
 have e2 : (146097 * a + 36524 * c + 1461 * q + 365 * k + t) % 146097 = 36524 * c + 1461 * q + 365 * k + t := by omega
 rw [e1, e2]
 have e3 : min ((36524 * c + 1461 * q + 365 * k + t) / 36524) 3 = c := by omega
 rw [e3]
 have e4 : 36524 * c + 1461 * q + 365 * k + t - c * 36524 = 1461 * q + 365 * k + t := by omega
 rw [e4]
 have e5 : (1461 * q + 365 * k + t) / 1461 = q := by omega
 have e6 : (1461 * q + 365 * k + t) % 1461 = 365 * k + t := by omega
 rw [e5, e6]
 have e7 : min ((365 * k + t) / 365) 3 = k := by omega
 rw [e7]
 exact Prod.ext (by show 1 + a * 400 + 100 * c + 4 * q + k = p + 1; omega) (by show 365 * k + t - k * 365 = t; omega)
theorem month_cases {m : Nat} (h1 : 1 ≤ m) (h2 : m ≤ 12) : m = 1 ∨ m = 2 ∨ m = 3 ∨ m = 4 ∨ m = 5 ∨ m = 6 ∨ m = 7 ∨ m = 8 ∨ m = 9 ∨ m = 10 ∨ m = 11 ∨ m = 12 := by omega
theorem upTo_succ (y : Nat) {m : Nat} (h1 : 1 ≤ m) (h2 : m ≤ 12) : upTo y (m + 1) = upTo y m + mlen y m := by
 cases hl : leap y <;> rcases month_cases h1 h2 with rfl | rfl | rfl | rfl | rfl | rfl | rfl | rfl | rfl | rfl | rfl | rfl <;> simp [upTo, before, mlen, ylen, hl]
theorem upTo_end (y : Nat) : upTo y 13 = ylen y := by cases hl : leap y <;> simp [upTo, before, ylen, hl]
theorem month_of {y m t : Nat} (h1 : 1 ≤ m) (h2 : m ≤ 12) (h3 : upTo y m ≤ t) (h4 : t < upTo y (m + 1)) : monthN y t = m := by
 unfold monthN
 cases hl : leap y <;> rcases month_cases h1 h2 with rfl | rfl | rfl | rfl | rfl | rfl | rfl | rfl | rfl | rfl | rfl | rfl <;> simp [upTo, before, hl] at h3 h4 <;>
 ·obtain ⟨z, hz⟩ : ∃ z, t / 32 = z := ⟨_, rfl⟩
  have hz12 : z ≤ 11 := by omega
  have hcs : z = 0 ∨ z = 1 ∨ z = 2 ∨ z = 3 ∨ z = 4 ∨ z = 5 ∨ z = 6 ∨ z = 7 ∨ z = 8 ∨ z = 9 ∨ z = 10 ∨ z = 11 := by omega
  rw [hz]
  rcases hcs with rfl | rfl | rfl | rfl | rfl | rfl | rfl | rfl | rfl | rfl | rfl | rfl <;> first | omega | (simp [upTo, before, hl]; omega)
theorem upTo_le (y : Nat) {m : Nat} (h1 : 1 ≤ m) (h2 : m ≤ 12) : upTo y (m + 1) ≤ ylen y := by
 cases hl : leap y <;> rcases month_cases h1 h2 with rfl | rfl | rfl | rfl | rfl | rfl | rfl | rfl | rfl | rfl | rfl | rfl <;> simp [upTo, before, ylen, hl]
theorem date_day {y m d : Nat} (hy : 1 ≤ y) (h1 : 1 ≤ m) (h2 : m ≤ 12) (hd : 1 ≤ d) (hl : d ≤ mlen y m) : dateN (dayN y m d) = (y, m, d) := by
 have hu := upTo_succ y h1 h2
 have hle := upTo_le y h1 h2
 have e : dayN y m d = ahead y + (upTo y m + (d - 1)) := by unfold dayN; omega
 have hs := split_ahead (t := upTo y m + (d - 1)) hy (by omega)
 have hmn := month_of (t := upTo y m + (d - 1)) (y := y) h1 h2 (by omega) (by omega)
 unfold dateN
 rw [e, hs]
 simp only [hmn]
 have : upTo y m + (d - 1) - upTo y m + 1 = d := by omega
 rw [this]
theorem year_upto (n : Nat) : ∀ Y, n < ahead (Y + 1) → ∃ y t, 1 ≤ y ∧ y ≤ Y ∧ t < ylen y ∧ n = ahead y + t := by
 intro Y
 induction Y with
 | zero =>
  intro h
  have e : ahead (0 + 1) = 0 := by decide
  omega
 | succ Y ih =>
  intro h
  by_cases h1 : n < ahead (Y + 1)
  ·obtain ⟨y, t, a, b, c, d⟩ := ih h1
   exact ⟨y, t, a, by omega, c, d⟩
  ·have := ahead_succ (y := Y + 1) (by omega)
   exact ⟨Y + 1, n - ahead (Y + 1), by omega, by omega, by omega, by omega⟩
theorem month_upto (y t : Nat) : ∀ M, t < upTo y (M + 1) → M ≤ 12 → ∃ m, 1 ≤ m ∧ m ≤ M ∧ upTo y m ≤ t ∧ t < upTo y (m + 1)
 | 0, h, _ => by simp [upTo, before] at h
 | M + 1, h, hM => by
  by_cases h1 : t < upTo y (M + 1)
  ·obtain ⟨m, a, b, c, d⟩ := month_upto y t M h1 (by omega)
   exact ⟨m, a, by omega, c, d⟩
  ·exact ⟨M + 1, by omega, by omega, by omega, h⟩
theorem day_date {n : Nat} (h : n ≤ 3652058) : ∃ y m d, 1 ≤ y ∧ y ≤ 9999 ∧ 1 ≤ m ∧ m ≤ 12 ∧ 1 ≤ d ∧ d ≤ mlen y m ∧ dayN y m d = n ∧ dateN n = (y, m, d) := by
 have e : ahead (9999 + 1) = 3652059 := by decide
 obtain ⟨y, t, a, b, c, hn⟩ := year_upto n 9999 (by omega)
 obtain ⟨m, a2, b2, c2, d2⟩ := month_upto y t 12 (by rw [upTo_end]; exact c) (by omega)
 have hu := upTo_succ y a2 b2
 have hd : dayN y m (t - upTo y m + 1) = n := by unfold dayN; omega
 refine ⟨y, m, t - upTo y m + 1, a, b, a2, b2, by omega, by omega, hd, ?_⟩
 have := date_day (y := y) (m := m) (d := t - upTo y m + 1) a a2 b2 (by omega) (by omega)
 rw [hd] at this
 exact this
theorem ahead_le {y : Nat} (h : y ≤ 9999) : ahead y + ylen y ≤ 3652059 := by
 have : ∀ k, y + k ≤ 10000 → 1 ≤ y → ahead y + ylen y ≤ ahead (y + 1 + k) := by
  intro k
  induction k with
  | zero => intro _ h1; rw [Nat.add_zero, ahead_succ h1]; exact Nat.le_refl _
  | succ k ih =>
   intro h2 h1
   have := ih (by omega) h1
   have h3 := ahead_succ (y := y + 1 + k) (by omega)
   rw [show y + 1 + (k + 1) = y + 1 + k + 1 by omega, h3]
   omega
 by_cases h0 : 1 ≤ y
 ·have := this (9999 - y) (by omega) h0
  rw [show y + 1 + (9999 - y) = 10000 by omega] at this
  have e : ahead 10000 = 3652059 := by decide
  omega
 ·obtain rfl : y = 0 := by omega
  decide
theorem day_le {y m d : Nat} (hy : 1 ≤ y) (hy2 : y ≤ 9999) (h1 : 1 ≤ m) (h2 : m ≤ 12) (hd : 1 ≤ d) (hl : d ≤ mlen y m) : dayN y m d ≤ 3652058 := by
 have hu := upTo_succ y h1 h2
 have hle := upTo_le y h1 h2
 have := ahead_le hy2
 unfold dayN
 omega
end Go.Vs.Cv
set_option linter.unusedVariables false
set_option linter.unusedSimpArgs false
namespace Go.Vs.Mo
open Go.Vs.U8 Go.Vs.Nu Go.Vs.Cv
def wide : Nat → Nat → Str
 | 0, _ => []
 | w + 1, n => wide w (n / 10) ++ [UInt8.ofNat (48 + n % 10)]
theorem wide_len : ∀ w n, (wide w n).length = w
 | 0, _ => rfl
 | w + 1, n => by simp only [wide, List.length_append, wide_len w]; rfl
theorem wide_all : ∀ w n, (wide w n).all dig = true
 | 0, _ => rfl
 | w + 1, n => by
  have := all_one (dig_of (n % 10) (by omega)).1
  simp only [wide, List.all_append, wide_all w, this]
  rfl
theorem wide_val : ∀ w n, n < 10 ^ w → valD 0 (wide w n) = n
 | 0, n, h => by
  have : n = 0 := by simpa using h
  rw [this]; rfl
 | w + 1, n, h => by
  have ih := wide_val w (n / 10) (by rw [Nat.pow_succ] at h; omega)
  simp only [wide]
  rw [valD_app, ih, val_one, (dig_of (n % 10) (by omega)).2]
  omega
structure Mom where
 k : Int
 s : Int
 deriving DecidableEq
def momC (v : Mom) : Int := if v.k < 1 ∨ 3 < v.k then 11 else if v.s < 0 ∨ 315537897599 < v.s then 8 else if v.k = 1 ∧ v.s % 86400 ≠ 0 then 2 else 0
def dayT (n : Nat) : Str := wide 4 (dateN n).1 ++ (wide 2 (dateN n).2.1 ++ wide 2 (dateN n).2.2)
def timeT (t : Nat) : Str := wide 2 (t / 3600) ++ (wide 2 (t / 60 % 60) ++ wide 2 (t % 60))
def momT (v : Mom) : Str := dayT (v.s / 86400).toNat ++ (if v.k = 1 then [] else 84 :: (timeT (v.s % 86400).toNat ++ if v.k = 3 then [90] else []))
def momK (s : Str) : Int := if s.length = 8 then 1 else if s.length = 15 ∧ s[8]? = some 84 then 2 else if s.length = 16 ∧ s[8]? = some 84 ∧ s[15]? = some 90 then 3 else 0
def secs (d t : Str) : Nat := dayN (valD 0 (d.take 4)) (valD 0 ((d.drop 4).take 2)) (valD 0 (d.drop 6)) * 86400 + (valD 0 (t.take 2) * 3600 + valD 0 ((t.drop 2).take 2) * 60 + valD 0 (t.drop 4))
def isDate (y m d : Nat) : Bool := decide (1 ≤ y ∧ 1 ≤ m ∧ m ≤ 12 ∧ 1 ≤ d ∧ d ≤ mlen y m)
def fine (d t : Str) : Bool := isDate (valD 0 (d.take 4)) (valD 0 ((d.drop 4).take 2)) (valD 0 (d.drop 6)) && decide (valD 0 (t.take 2) ≤ 23 ∧ valD 0 ((t.drop 2).take 2) ≤ 59 ∧ valD 0 (t.drop 4) ≤ 59)
def timeS (s : Str) : Str := if momK s = 1 then [48, 48, 48, 48, 48, 48] else (s.drop 9).take 6
def momR (s : Str) : Mom × Int :=
 if momK s = 0 ∨ (s.take 8).all dig = false ∨ (timeS s).all dig = false then (⟨0, 0⟩, 4)
 else if fine (s.take 8) (timeS s) = false then (⟨0, 0⟩, 8)
 else (⟨momK s, secs (s.take 8) (timeS s)⟩, 0)
theorem two (n : Nat) : ∃ a b, wide 2 n = [a, b] := ⟨_, _, rfl⟩
theorem four (n : Nat) : ∃ a b c d, wide 4 n = [a, b, c, d] := ⟨_, _, _, _, rfl⟩
theorem momC_zero {v : Mom} (h : momC v = 0) : 1 ≤ v.k ∧ v.k ≤ 3 ∧ 0 ≤ v.s ∧ v.s ≤ 315537897599 ∧ (v.k = 1 → v.s % 86400 = 0) := by
 unfold momC at h
 split at h
 ·cases h
 ·split at h
  ·cases h
  ·split at h
   ·cases h
   ·next h1 h2 h3 => refine ⟨by omega, by omega, by omega, by omega, fun e => ?_⟩; omega
theorem mom_back {v : Mom} (h : momC v = 0) : momR (momT v) = (v, 0) := by
 obtain ⟨h1, h2, h3, h4, h5⟩ := momC_zero h
 obtain ⟨k, s⟩ := v
 simp only at h1 h2 h3 h4 h5
 obtain ⟨n, hn⟩ : ∃ n, (s / 86400).toNat = n := ⟨_, rfl⟩
 obtain ⟨t, ht⟩ : ∃ t, (s % 86400).toNat = t := ⟨_, rfl⟩
 have hs : s = (n * 86400 + t : Nat) := by omega
 have ht2 : t < 86400 := by omega
 obtain ⟨y, m, d, g1, g2, g3, g4, g5, g6, g7, g8⟩ := day_date (n := n) (by omega)
 have hml : mlen y m ≤ 31 := by
  unfold mlen ylen
  repeat' split
  all_goals omega
 obtain ⟨a1, a2, a3, a4, ha⟩ := four y
 obtain ⟨b1, b2, hb⟩ := two m
 obtain ⟨c1, c2, hc⟩ := two d
 obtain ⟨d1, d2, hd⟩ := two (t / 3600)
 obtain ⟨e1, e2, he⟩ := two (t / 60 % 60)
 obtain ⟨f1, f2, hf⟩ := two (t % 60)
 have va := wide_val 4 y (by omega)
 have vb := wide_val 2 m (by omega)
 have vc := wide_val 2 d (by omega)
 have vd := wide_val 2 (t / 3600) (by omega)
 have ve := wide_val 2 (t / 60 % 60) (by omega)
 have vf := wide_val 2 (t % 60) (by omega)
 have la := wide_all 4 y
 have lb := wide_all 2 m
 have lc := wide_all 2 d
 have ld := wide_all 2 (t / 3600)
 have le := wide_all 2 (t / 60 % 60)
 have lf := wide_all 2 (t % 60)
 have hT : dayT n = [a1, a2, a3, a4, b1, b2, c1, c2] := by simp only [dayT, g8, ha, hb, hc]; rfl
 have hU : timeT t = [d1, d2, e1, e2, f1, f2] := by simp only [timeT, hd, he, hf]; rfl
 rw [ha] at va la; rw [hb] at vb lb; rw [hc] at vc lc; rw [hd] at vd ld; rw [he] at ve le; rw [hf] at vf lf
 have hday : ([a1, a2, a3, a4, b1, b2, c1, c2] : Str).all dig = true := by
  simp only [List.all_cons, List.all_nil, Bool.and_eq_true] at la lb lc ⊢
  exact ⟨la.1, la.2.1, la.2.2.1, la.2.2.2.1, lb.1, lb.2.1, lc.1, lc.2.1, trivial⟩
 have htime : ([d1, d2, e1, e2, f1, f2] : Str).all dig = true := by
  simp only [List.all_cons, List.all_nil, Bool.and_eq_true] at ld le lf ⊢
  exact ⟨ld.1, ld.2.1, le.1, le.2.1, lf.1, lf.2.1, trivial⟩
 have hfine : fine [a1, a2, a3, a4, b1, b2, c1, c2] [d1, d2, e1, e2, f1, f2] = true := by
  show (isDate (valD 0 [a1, a2, a3, a4]) (valD 0 [b1, b2]) (valD 0 [c1, c2]) && decide (valD 0 [d1, d2] ≤ 23 ∧ valD 0 [e1, e2] ≤ 59 ∧ valD 0 [f1, f2] ≤ 59)) = true
  rw [va, vb, vc, vd, ve, vf, Bool.and_eq_true, isDate, decide_eq_true_eq, decide_eq_true_eq]
  omega
 have hsecs : secs [a1, a2, a3, a4, b1, b2, c1, c2] [d1, d2, e1, e2, f1, f2] = n * 86400 + t := by
  show dayN (valD 0 [a1, a2, a3, a4]) (valD 0 [b1, b2]) (valD 0 [c1, c2]) * 86400 + (valD 0 [d1, d2] * 3600 + valD 0 [e1, e2] * 60 + valD 0 [f1, f2]) = n * 86400 + t
  rw [va, vb, vc, vd, ve, vf, g7]
  omega
 have hk : k = 1 ∨ k = 2 ∨ k = 3 := by omega
 rcases hk with rfl | rfl | rfl
 ·have ht0 : t = 0 := by have := h5 rfl; omega
  have e : momT ⟨1, s⟩ = [a1, a2, a3, a4, b1, b2, c1, c2] := by simp only [momT, hn, hT]; rfl
  have hk : momK [a1, a2, a3, a4, b1, b2, c1, c2] = 1 := rfl
  have hts : timeS [a1, a2, a3, a4, b1, b2, c1, c2] = [48, 48, 48, 48, 48, 48] := rfl
  have htk : ([a1, a2, a3, a4, b1, b2, c1, c2] : Str).take 8 = [a1, a2, a3, a4, b1, b2, c1, c2] := rfl
  have hf2 : fine [a1, a2, a3, a4, b1, b2, c1, c2] [48, 48, 48, 48, 48, 48] = true := by
   show (isDate (valD 0 [a1, a2, a3, a4]) (valD 0 [b1, b2]) (valD 0 [c1, c2]) && true) = true
   rw [va, vb, vc, Bool.and_true, isDate, decide_eq_true_eq]
   omega
  have hs2 : secs [a1, a2, a3, a4, b1, b2, c1, c2] [48, 48, 48, 48, 48, 48] = n * 86400 := by
   show dayN (valD 0 [a1, a2, a3, a4]) (valD 0 [b1, b2]) (valD 0 [c1, c2]) * 86400 + 0 = n * 86400
   rw [va, vb, vc, g7]; omega
  rw [e]
  simp only [momR, hk, hts, htk]
  rw [if_neg (by rw [hday]; decide), if_neg (by rw [hf2]; decide), hs2]
  rw [hs, ht0, Nat.add_zero]
 ·have e : momT ⟨2, s⟩ = [a1, a2, a3, a4, b1, b2, c1, c2, 84, d1, d2, e1, e2, f1, f2] := by simp only [momT, hn, ht, hT, hU]; rfl
  have hk : momK [a1, a2, a3, a4, b1, b2, c1, c2, 84, d1, d2, e1, e2, f1, f2] = 2 := rfl
  have hts : timeS [a1, a2, a3, a4, b1, b2, c1, c2, 84, d1, d2, e1, e2, f1, f2] = [d1, d2, e1, e2, f1, f2] := rfl
  have htk : ([a1, a2, a3, a4, b1, b2, c1, c2, 84, d1, d2, e1, e2, f1, f2] : Str).take 8 = [a1, a2, a3, a4, b1, b2, c1, c2] := rfl
  rw [e]
  simp only [momR, hk, hts, htk]
  rw [if_neg (by rw [hday, htime]; decide), if_neg (by rw [hfine]; decide), hsecs, ← hs]
 ·have e : momT ⟨3, s⟩ = [a1, a2, a3, a4, b1, b2, c1, c2, 84, d1, d2, e1, e2, f1, f2, 90] := by simp only [momT, hn, ht, hT, hU]; rfl
  have hk : momK [a1, a2, a3, a4, b1, b2, c1, c2, 84, d1, d2, e1, e2, f1, f2, 90] = 3 := rfl
  have hts : timeS [a1, a2, a3, a4, b1, b2, c1, c2, 84, d1, d2, e1, e2, f1, f2, 90] = [d1, d2, e1, e2, f1, f2] := rfl
  have htk : ([a1, a2, a3, a4, b1, b2, c1, c2, 84, d1, d2, e1, e2, f1, f2, 90] : Str).take 8 = [a1, a2, a3, a4, b1, b2, c1, c2] := rfl
  rw [e]
  simp only [momR, hk, hts, htk]
  rw [if_neg (by rw [hday, htime]; decide), if_neg (by rw [hfine]; decide), hsecs, ← hs]
theorem val_bd {s : Str} (h : s.all dig = true) : valD 0 s < 10 ^ s.length := by
 have := val_lt s 0 h
 omega
end Go.Vs.Mo
namespace Go.Vs.YtbchceojmblkkaaGreatDoor.Rc
set_option linter.unusedSimpArgs false
set_option linter.unusedVariables false
open Go.Proofs Go.Vs.U8 Go.Vs.Pa Go.Vs.Nu Go.Lib Go.Vs.Mo
structure Ru where
 f : Int
 i : Int
 c : Int
 u : Mom
 l4 : List Int
 l5 : List Int
 l6 : List Int
 l7 : List Dn
 l8 : List Int
 l9 : List Int
 l10 : List Int
 l11 : List Int
 l12 : List Int
 w : Int
 deriving DecidableEq
def ru0 : Ru := ⟨0, 0, 0, ⟨0, 0⟩, [], [], [], [], [], [], [], [], [], 0⟩
def ru1 : Ru := ⟨0, 1, 0, ⟨0, 0⟩, [], [], [], [], [], [], [], [], [], 0⟩
def lst (r : Ru) : Nat → List Int
 | 4 => r.l4
 | 5 => r.l5
 | 6 => r.l6
 | 8 => r.l8
 | 9 => r.l9
 | 10 => r.l10
 | 11 => r.l11
 | _ => r.l12
def setK (r : Ru) (k : Nat) (l : List Int) : Ru := match k with
 | 4 => { r with l4 := l }
 | 5 => { r with l5 := l }
 | 6 => { r with l6 := l }
 | 8 => { r with l8 := l }
 | 9 => { r with l9 := l }
 | 10 => { r with l10 := l }
 | 11 => { r with l11 := l }
 | _ => { r with l12 := l }
/- What the numbers of a part are within. -/
def wlo : Nat → Int
 | 4 => 0
 | 5 => 0
 | 6 => 0
 | _ => 1
def whi : Nat → Int
 | 4 => 59
 | 5 => 59
 | 6 => 23
 | 8 => 31
 | 9 => 366
 | 10 => 53
 | 11 => 12
 | 12 => 366
 | _ => 1000
def wsg : Nat → Bool
 | 8 => true
 | 9 => true
 | 10 => true
 | 12 => true
 | _ => false
def outL (lo hi : Int) (sg : Bool) (n : Int) : Bool := decide (n < -hi ∨ (n.natAbs : Int) < lo ∨ hi < (n.natAbs : Int) ∨ (n < 0 ∧ sg = false))
def soundL (lo hi : Int) (sg : Bool) (l : List Int) : Int := if 12 < l.length then 20 else if l.any (outL lo hi sg) = true then 8 else if l.Nodup then 0 else 19
def outD (x : Dn) : Bool := decide (x.2 < 0 ∨ 6 < x.2 ∨ x.1 < -53 ∨ 53 < x.1)
def soundD (l : List Dn) : Int := if 12 < l.length then 20 else if l.any outD = true then 8 else if l.Nodup then 0 else 19
def headR (r : Ru) : Int :=
 if 6 < r.f then 11
 else if r.i < 1 ∨ 1000 < r.i ∨ r.c < 0 ∨ 1000 < r.c ∨ r.w < 0 ∨ 6 < r.w then 8
 else if r.u = ⟨0, 0⟩ then 0
 else if r.u.k = 0 then 2
 else if momC r.u ≠ 0 then momC r.u
 else if 0 < r.c then 9 else 0
def sndAt (r : Ru) (k : Nat) : Int := if k = 7 then soundD r.l7 else soundL (wlo k) (whi k) (wsg k) (lst r k)
def firstE : List Int → Int
 | [] => 0
 | e :: r => if e = 0 then firstE r else e
def numbered (l : List Dn) : Bool := l.any fun x => decide (x.1 ≠ 0)
def others (r : Ru) : Nat := r.l7.length + r.l4.length + r.l5.length + r.l6.length + r.l8.length + r.l9.length + r.l10.length + r.l11.length
def badF (r : Ru) : Prop := (numbered r.l7 = true ∧ (r.f < 5 ∨ 0 < r.l10.length)) ∨ (0 < r.l8.length ∧ r.f = 4) ∨ (0 < r.l10.length ∧ r.f ≠ 6) ∨ (0 < r.l9.length ∧ (r.f = 3 ∨ r.f = 4 ∨ r.f = 5)) ∨ (0 < r.l12.length ∧ others r = 0)
instance (r : Ru) : Decidable (badF r) := by unfold badF; infer_instance
def listKs : List Nat := [4, 5, 6, 7, 8, 9, 10, 11, 12]
def checkR (r : Ru) : Int :=
 if headR r ≠ 0 then headR r
 else if firstE (listKs.map (sndAt r)) ≠ 0 then firstE (listKs.map (sndAt r))
 else if badF r then 9 else 0
def names : List Str := [[70, 82, 69, 81], [85, 78, 84, 73, 76], [67, 79, 85, 78, 84], [73, 78, 84, 69, 82, 86, 65, 76], [66, 89, 83, 69, 67, 79, 78, 68], [66, 89, 77, 73, 78, 85, 84, 69], [66, 89, 72, 79, 85, 82], [66, 89, 68, 65, 89], [66, 89, 77, 79, 78, 84, 72, 68, 65, 89], [66, 89, 89, 69, 65, 82, 68, 65, 89], [66, 89, 87, 69, 69, 75, 78, 79], [66, 89, 77, 79, 78, 84, 72], [66, 89, 83, 69, 84, 80, 79, 83], [87, 75, 83, 84]]
def words : List Str := [[83, 69, 67, 79, 78, 68, 76, 89], [77, 73, 78, 85, 84, 69, 76, 89], [72, 79, 85, 82, 76, 89], [68, 65, 73, 76, 89], [87, 69, 69, 75, 76, 89], [77, 79, 78, 84, 72, 76, 89], [89, 69, 65, 82, 76, 89]]
def nameK (k : Nat) : Str := names.getD k []
def wordK (k : Nat) : Str := words.getD k []
def eqS (k : Nat) (v : Str) : Str := nameK k ++ 61 :: v
def optP (b : Bool) (k : Nat) (v : Str) : List (Nat × Str) := if b = true then [(k, v)] else []
def valP (r : Ru) (k : Nat) : Str := if k = 7 then printD r.l7 else printN (lst r k)
def listPs (r : Ru) : List Nat → List (Nat × Str)
 | [] => []
 | k :: ks => optP (decide (valP r k ≠ [])) k (valP r k) ++ listPs r ks
def pairs (r : Ru) : List (Nat × Str) := (0, wordK r.f.toNat) :: (optP (decide (r.u.k ≠ 0)) 1 (momT r.u) ++ (optP (decide (r.c ≠ 0)) 2 (itoa r.c) ++ (optP (decide (r.i ≠ 1)) 3 (itoa r.i) ++ (listPs r listKs ++ optP (decide (r.w ≠ 0)) 13 (wkN r.w)))))
def texts (r : Ru) : List Str := (pairs r).map fun p => eqS p.1 p.2
def printR (r : Ru) : Str := join (texts r) [59]
inductive TkR where
 | no (e : Int) (p : List Int)
 | ok (r : Ru)
def takeR (r : Ru) (k : Nat) (v : Str) : TkR :=
 if k = 0 then (if words.idxOf v < 7 then .ok { r with f := words.idxOf v } else .no 11 [])
 else if k = 1 then (if (momR v).2 = 0 then .ok { r with u := (momR v).1 } else .no (momR v).2 [])
 else if k = 2 then (if (numR 5 1 1000 false v).2 = 0 then .ok { r with c := (numR 5 1 1000 false v).1 } else .no (numR 5 1 1000 false v).2 [])
 else if k = 3 then (if (numR 5 1 1000 false v).2 = 0 then .ok { r with i := (numR 5 1 1000 false v).1 } else .no (numR 5 1 1000 false v).2 [])
 else if k = 7 then (match everyR dayR v with
  | .ok l => .ok { r with l7 := l }
  | .no e p => .no e [(p : Int)])
 else if k = 13 then (if wkD v < 0 then .no 4 [] else .ok { r with w := wkD v })
 else match everyR (numR 5 (wlo k) (whi k) (wsg k)) v with
  | .ok l => .ok (setK r k l)
  | .no e p => .no e [(p : Int)]
inductive RuR where
 | no (e : Int) (p : List Int)
 | ok (r : Ru)
def endR (N : Nat) (was : List Nat) (r : Ru) : RuR := if 0 ∈ was then (if checkR r = 0 then .ok r else .no (checkR r) [(N : Int)]) else .no 6 [(N : Int)]
def partN (p : Str) : Str := p.take (p.idxOf 61)
def partV (p : Str) : Str := p.drop (p.idxOf 61 + 1)
def partK (p : Str) : Nat := names.idxOf (partN p)
def parseGo (N : Nat) : List Str → Nat → List Nat → Ru → RuR
 | [], _, was, r => endR N was r
 | p :: ps, a, was, r =>
  if 61 ∉ p then .no 4 [(a : Int)]
  else if ¬ partK p < 14 then .no 11 [(a : Int)]
  else if partK p ∈ was then .no 19 [(a : Int)]
  else match takeR r (partK p) (partV p) with
   | .no e q => .no e (((a + p.idxOf 61 + 1 : Nat) : Int) :: q)
   | .ok r' => parseGo N ps (a + p.length + 1) (partK p :: was) r'
def parseRu (s : Str) : RuR := parseGo s.length (parts 59 s) 0 [] ru1

/- A RULE THAT IS PRINTED IS PARSED AS IT WAS -/
def same (x r : Ru) : Nat → Prop
 | 0 => x.f = r.f
 | 1 => x.u = r.u
 | 2 => x.c = r.c
 | 3 => x.i = r.i
 | 4 => x.l4 = r.l4
 | 5 => x.l5 = r.l5
 | 6 => x.l6 = r.l6
 | 7 => x.l7 = r.l7
 | 8 => x.l8 = r.l8
 | 9 => x.l9 = r.l9
 | 10 => x.l10 = r.l10
 | 11 => x.l11 = r.l11
 | 12 => x.l12 = r.l12
 | 13 => x.w = r.w
 | _ => True
def setR (x r : Ru) : Nat → Ru
 | 0 => { x with f := r.f }
 | 1 => { x with u := r.u }
 | 2 => { x with c := r.c }
 | 3 => { x with i := r.i }
 | 4 => { x with l4 := r.l4 }
 | 5 => { x with l5 := r.l5 }
 | 6 => { x with l6 := r.l6 }
 | 7 => { x with l7 := r.l7 }
 | 8 => { x with l8 := r.l8 }
 | 9 => { x with l9 := r.l9 }
 | 10 => { x with l10 := r.l10 }
 | 11 => { x with l11 := r.l11 }
 | 12 => { x with l12 := r.l12 }
 | 13 => { x with w := r.w }
 | _ => x
theorem k14 {k : Nat} (h : k < 14) : k = 0 ∨ k = 1 ∨ k = 2 ∨ k = 3 ∨ k = 4 ∨ k = 5 ∨ k = 6 ∨ k = 7 ∨ k = 8 ∨ k = 9 ∨ k = 10 ∨ k = 11 ∨ k = 12 ∨ k = 13 := by omega
theorem name_no {k : Nat} (h : k < 14) : 61 ∉ nameK k ∧ 59 ∉ nameK k ∧ names.idxOf (nameK k) = k := by
 rcases k14 h with rfl | rfl | rfl | rfl | rfl | rfl | rfl | rfl | rfl | rfl | rfl | rfl | rfl | rfl <;> decide
theorem num_back0 {digits : Nat} {lo hi : Int} {n : Int} {sg : Bool} (h0 : sg = false → 0 ≤ n) (h1 : lo ≤ n.natAbs) (h2 : (n.natAbs : Int) ≤ hi) (hd : (decDigits n.natAbs).length ≤ digits) : numR digits lo hi sg (itoa n) = (n, 0) := by
 cases sg with
 | true => exact num_back h1 h2 hd
 | false =>
  obtain ⟨u, hu⟩ : ∃ u, n.natAbs = u := ⟨_, rfl⟩
  have e : n = (u : Int) := by have := h0 rfl; omega
  rw [hu] at h1 h2 hd
  have hall := dec_all u
  have hval := dec_back u
  have hne := dec_ne u
  rw [e, itoa_nat u]
  simp only [numR, Bool.false_and, Bool.false_eq_true, if_false, false_and]
  rw [if_neg (by rw [hall]; simp only [not_or]; exact ⟨hne, by omega, by simp⟩), hval, if_neg (by omega)]
theorem list_back0 {lo hi : Int} {sg : Bool} {l : List Int} (hne : l ≠ []) (hn : l.Nodup) (hl : l.length ≤ 12) (h : ∀ n ∈ l, (sg = false → 0 ≤ n) ∧ lo ≤ n.natAbs ∧ (n.natAbs : Int) ≤ hi ∧ (decDigits n.natAbs).length ≤ 5) : everyR (numR 5 lo hi sg) (printN l) = .ok l := by
 unfold everyR printN
 rw [parts_join (by simp [hne]) (by
  intro x hx
  obtain ⟨n, _, rfl⟩ := List.mem_map.1 hx
  exact itoa_no _ (by decide) (by decide))]
 have := everyGo_ok (one := numR 5 lo hi sg) (text := itoa) l 0 [] (fun n hn' => num_back0 (h n hn').1 (h n hn').2.1 (h n hn').2.2.1 (h n hn').2.2.2) (by simpa using hn) (by simpa using hl)
 simpa using this
theorem soundL_zero {lo hi : Int} {sg : Bool} {l : List Int} (h : soundL lo hi sg l = 0) : l.length ≤ 12 ∧ l.Nodup ∧ ∀ n ∈ l, (sg = false → 0 ≤ n) ∧ lo ≤ n.natAbs ∧ (n.natAbs : Int) ≤ hi := by
 unfold soundL at h
 split at h
 ·cases h
 ·split at h
  ·cases h
  ·next h1 =>
   split at h
   ·next h2 =>
    refine ⟨by omega, h2, fun n hn => ?_⟩
    have : outL lo hi sg n = false := by
     cases e : outL lo hi sg n with
     | false => rfl
     | true => exact absurd (List.any_eq_true.2 ⟨n, hn, e⟩) h1
    simp only [outL, decide_eq_false_iff_not, not_or, not_and] at this
    refine ⟨fun e => ?_, by omega, by omega⟩
    have := this.2.2.2
    by_cases hn0 : n < 0
    ·exact absurd e (this hn0)
    ·omega
   ·cases h
theorem soundD_zero {l : List Dn} (h : soundD l = 0) : l.length ≤ 12 ∧ l.Nodup ∧ ∀ x ∈ l, -53 ≤ x.1 ∧ x.1 ≤ 53 ∧ 0 ≤ x.2 ∧ x.2 ≤ 6 := by
 unfold soundD at h
 split at h
 ·cases h
 ·split at h
  ·cases h
  ·next h1 =>
   split at h
   ·next h2 =>
    refine ⟨by omega, h2, fun n hn => ?_⟩
    have : outD n = false := by
     cases e : outD n with
     | false => rfl
     | true => exact absurd (List.any_eq_true.2 ⟨n, hn, e⟩) h1
    simp only [outD, decide_eq_false_iff_not, not_or] at this
    omega
   ·cases h
theorem firstE_zero : ∀ {l : List Int}, firstE l = 0 → ∀ e ∈ l, e = 0
 | [], _, e, he => by cases he
 | x :: r, h, e, he => by
  simp only [firstE] at h
  split at h
  ·next hx =>
   rcases List.mem_cons.1 he with rfl | he
   ·exact hx
   ·exact firstE_zero h e he
  ·next hx => exact absurd h hx
theorem checkR_zero {r : Ru} (h : checkR r = 0) : headR r = 0 ∧ (∀ k ∈ listKs, sndAt r k = 0) ∧ ¬ badF r := by
 unfold checkR at h
 split at h
 ·next h1 => exact absurd h h1
 ·next h1 =>
  split at h
  ·next h2 => exact absurd h h2
  ·next h2 =>
   split at h
   ·cases h
   ·next h3 =>
    refine ⟨by simpa using h1, fun k hk => ?_, h3⟩
    exact firstE_zero (by simpa using h2) _ (List.mem_map_of_mem hk)
theorem headR_zero {r : Ru} (h : headR r = 0) : r.f ≤ 6 ∧ 1 ≤ r.i ∧ r.i ≤ 1000 ∧ 0 ≤ r.c ∧ r.c ≤ 1000 ∧ 0 ≤ r.w ∧ r.w ≤ 6 ∧ (r.u = ⟨0, 0⟩ ∨ (r.u.k ≠ 0 ∧ momC r.u = 0)) := by
 unfold headR at h
 split at h
 ·cases h
 ·split at h
  ·cases h
  ·split at h
   ·next h3 => refine ⟨by omega, by omega, by omega, by omega, by omega, by omega, by omega, .inl h3⟩
   ·split at h
    ·cases h
    ·next h4 =>
     split at h
     ·next h5 => exact absurd h h5
     ·next h5 => refine ⟨by omega, by omega, by omega, by omega, by omega, by omega, by omega, .inr ⟨h4, by simpa using h5⟩⟩
theorem digits_bd {n : Int} (h : n.natAbs ≤ 99999) : (decDigits n.natAbs).length ≤ 5 := dec_len 4 n.natAbs (by omega)
theorem printN_ne {l : List Int} (h : printN l ≠ []) : l ≠ [] := fun e => h (by rw [e]; rfl)
theorem printD_ne {l : List Dn} (h : printD l ≠ []) : l ≠ [] := fun e => h (by rw [e]; rfl)
theorem word_back {f : Int} (h0 : 0 ≤ f) (h : f ≤ 6) : words.idxOf (wordK f.toNat) = f.toNat ∧ f.toNat < 7 := by
 have : f = 0 ∨ f = 1 ∨ f = 2 ∨ f = 3 ∨ f = 4 ∨ f = 5 ∨ f = 6 := by omega
 rcases this with rfl | rfl | rfl | rfl | rfl | rfl | rfl <;> decide
theorem whi_le (k : Nat) : whi k ≤ 1000 := by
 unfold whi
 split <;> omega
theorem optP_mem {b : Bool} {k : Nat} {v : Str} {p : Nat × Str} (h : p ∈ optP b k v) : b = true ∧ p = (k, v) := by
 unfold optP at h
 split at h
 ·next hb => exact ⟨hb, by simpa using h⟩
 ·cases h
theorem listPs_mem {r : Ru} : ∀ {ks : List Nat} {p : Nat × Str}, p ∈ listPs r ks → p.1 ∈ ks ∧ p.2 = valP r p.1 ∧ valP r p.1 ≠ []
 | [], p, h => by cases h
 | k :: ks, p, h => by
  simp only [listPs, List.mem_append] at h
  rcases h with h | h
  ·obtain ⟨hb, rfl⟩ := optP_mem h
   exact ⟨by simp, rfl, by simpa using hb⟩
  ·obtain ⟨h1, h2⟩ := listPs_mem h
   exact ⟨by simp [h1], h2⟩
theorem take_list {r : Ru} {k : Nat} (hk : k ∈ listKs) (hs : sndAt r k = 0) (hv : valP r k ≠ []) (y : Ru) : takeR y k (valP r k) = .ok (setR y r k) := by
 have gen : ∀ {k : Nat}, k ∈ listKs → k ≠ 7 → soundL (wlo k) (whi k) (wsg k) (lst r k) = 0 → printN (lst r k) ≠ [] → everyR (numR 5 (wlo k) (whi k) (wsg k)) (printN (lst r k)) = .ok (lst r k) := by
  intro k hk h7 hs hv
  obtain ⟨a, b, c⟩ := soundL_zero hs
  refine list_back0 (printN_ne hv) b a fun n hn => ?_
  obtain ⟨c1, c2, c3⟩ := c n hn
  have := whi_le k
  exact ⟨c1, c2, c3, digits_bd (by omega)⟩
 by_cases h7 : k = 7
 ·subst h7
  have hs : soundD r.l7 = 0 := hs
  have hv : printD r.l7 ≠ [] := hv
  obtain ⟨a, b, c⟩ := soundD_zero hs
  have := days_back (printD_ne hv) b a c
  show (match everyR dayR (printD r.l7) with
  | .ok l => TkR.ok { y with l7 := l }
  | .no e p => .no e [(p : Int)]) = _
  rw [this]
  rfl
 ·have hs' : soundL (wlo k) (whi k) (wsg k) (lst r k) = 0 := by unfold sndAt at hs; rwa [if_neg h7] at hs
  have e : valP r k = printN (lst r k) := by unfold valP; rw [if_neg h7]
  rw [e] at hv ⊢
  have g := gen hk h7 hs' hv
  have hc : k = 4 ∨ k = 5 ∨ k = 6 ∨ k = 8 ∨ k = 9 ∨ k = 10 ∨ k = 11 ∨ k = 12 := by
   simp only [listKs, List.mem_cons, List.not_mem_nil, or_false] at hk
   omega
  unfold takeR
  rw [if_neg (by omega), if_neg (by omega), if_neg (by omega), if_neg (by omega), if_neg (by omega), if_neg (by omega), g]
  rcases hc with rfl | rfl | rfl | rfl | rfl | rfl | rfl | rfl <;> rfl
theorem pairs_take {r : Ru} (h0 : 0 ≤ r.f) (h : checkR r = 0) : ∀ p ∈ pairs r, p.1 < 14 ∧ ∀ y, takeR y p.1 p.2 = .ok (setR y r p.1) := by
 obtain ⟨c1, c2, _⟩ := checkR_zero h
 obtain ⟨d1, d2, d3, d4, d5, d6, d7, d8⟩ := headR_zero c1
 intro p hp
 simp only [pairs, List.mem_cons, List.mem_append] at hp
 rcases hp with rfl | hp | hp | hp | hp | hp
 ·refine ⟨by simp, fun y => ?_⟩
  obtain ⟨w1, w2⟩ := word_back h0 d1
  simp only [takeR, w1, if_true]
  rw [if_pos w2]
  simp only [setR]
  congr 2
  omega
 ·obtain ⟨hb, rfl⟩ := optP_mem hp
  refine ⟨by simp, fun y => ?_⟩
  have hk : r.u.k ≠ 0 := by simpa using hb
  have hm : momC r.u = 0 := by
   rcases d8 with e | e
   ·rw [e] at hk; exact absurd rfl hk
   ·exact e.2
  have := mom_back hm
  simp [takeR, this, setR]
 ·obtain ⟨hb, rfl⟩ := optP_mem hp
  refine ⟨by simp, fun y => ?_⟩
  have hk : r.c ≠ 0 := by simpa using hb
  have := num_back0 (digits := 5) (lo := 1) (hi := 1000) (n := r.c) (sg := false) (fun _ => d4) (by omega) (by omega) (digits_bd (by omega))
  simp [takeR, this, setR]
 ·obtain ⟨hb, rfl⟩ := optP_mem hp
  refine ⟨by simp, fun y => ?_⟩
  have := num_back0 (digits := 5) (lo := 1) (hi := 1000) (n := r.i) (sg := false) (fun _ => by omega) (by omega) (by omega) (digits_bd (by omega))
  simp [takeR, this, setR]
 ·obtain ⟨hk, hv, hne⟩ := listPs_mem hp
  refine ⟨?_, fun y => ?_⟩
  ·simp only [listKs, List.mem_cons, List.not_mem_nil, or_false] at hk
   omega
  ·rw [hv]
   exact take_list hk (c2 _ hk) hne y
 ·obtain ⟨hb, rfl⟩ := optP_mem hp
  refine ⟨by simp, fun y => ?_⟩
  obtain ⟨w1, _⟩ := wk_back d6 d7
  simp only [takeR, w1, setR]
  simp
  omega
theorem optP_sub (b : Bool) (k : Nat) (v : Str) (l : List Nat) : ((optP b k v).map (·.1) ++ l).Sublist (k :: l) := by
 unfold optP
 split
 ·exact List.Sublist.refl _
 ·exact List.sublist_cons_self _ _
theorem listPs_sub (r : Ru) (l : List Nat) : ∀ ks, ((listPs r ks).map (·.1) ++ l).Sublist (ks ++ l)
 | [] => List.Sublist.refl _
 | k :: ks => by
  simp only [listPs, List.map_append, List.append_assoc, List.cons_append]
  exact (optP_sub _ _ _ _).trans ((listPs_sub r l ks).cons_cons k)
theorem pairs_sub (r : Ru) : ((pairs r).map (·.1)).Sublist [0, 1, 2, 3, 4, 5, 6, 7, 8, 9, 10, 11, 12, 13] := by
 simp only [pairs, List.map_cons, List.map_append]
 refine List.Sublist.cons_cons 0 ((optP_sub _ _ _ _).trans (List.Sublist.cons_cons 1 ((optP_sub _ _ _ _).trans (List.Sublist.cons_cons 2 ((optP_sub _ _ _ _).trans (List.Sublist.cons_cons 3 ?_))))))
 refine (listPs_sub r _ listKs).trans ?_
 have : ((optP (decide (r.w ≠ 0)) 13 (wkN r.w)).map (·.1)).Sublist [13] := by
  have := optP_sub (decide (r.w ≠ 0)) 13 (wkN r.w) []
  simpa using this
 exact List.Sublist.append_left this listKs
end Go.Vs.YtbchceojmblkkaaGreatDoor.Rc
namespace Go.Vs.YtbchceojmblkkaaGreatDoor.Rc
set_option linter.unusedSimpArgs false
set_option linter.unusedVariables false
open Go.Proofs Go.Vs.U8 Go.Vs.Pa Go.Vs.Nu Go.Lib Go.Vs.Mo
theorem join_no {c s : UInt8} (hc : c ≠ s) : ∀ {l : List Str}, (∀ x ∈ l, c ∉ x) → c ∉ join l [s]
 | [], _ => by rw [join_nil]; simp
 | x :: r, h => by
  rw [join_cons, List.mem_append, not_or]
  refine ⟨h x (by simp), ?_⟩
  unfold joinTail
  simp only [List.mem_flatten, List.mem_map, not_exists, not_and]
  rintro y ⟨z, hz, rfl⟩
  simp only [List.cons_append, List.nil_append, List.mem_cons, not_or]
  exact ⟨hc, h z (by simp [hz])⟩
theorem join_len {b : Nat} {c : UInt8} : ∀ {l : List Str}, (∀ x ∈ l, x.length ≤ b) → (join l [c]).length ≤ l.length * (b + 1)
 | [], _ => by rw [join_nil]; simp
 | [x], h => by rw [join_one]; have := h x (by simp); simp; omega
 | x :: y :: r, h => by
  have ih := join_len (c := c) (l := y :: r) (fun z hz => h z (by simp at hz ⊢; exact .inr hz))
  have h1 := h x (by simp)
  have e : join (x :: y :: r) [c] = x ++ c :: join (y :: r) [c] := by
   rw [join_cons, join_cons]; simp [joinTail]
  rw [e, List.length_append, List.length_cons]
  simp only [List.length_cons] at ih ⊢
  have : (r.length + 1 + 1) * (b + 1) = (r.length + 1) * (b + 1) + (b + 1) := Nat.succ_mul _ _
  omega
theorem itoa_len {n : Int} (h : n.natAbs ≤ 99999) : (itoa n).length ≤ 6 := by
 have := digits_bd h
 unfold itoa
 split
 ·simp; omega
 ·have : n.toNat = n.natAbs := by omega
  rw [this]; omega
theorem wide_no {c : UInt8} (hc : dig c = false) (w n : Nat) : c ∉ wide w n := dig_no (wide_all w n) hc
theorem momT_no (v : Mom) : 59 ∉ momT v := by
 have h := fun w n => wide_no (c := 59) (by decide) w n
 unfold momT Mo.dayT timeT
 simp only [List.mem_append, not_or]
 refine ⟨⟨h _ _, h _ _, h _ _⟩, ?_⟩
 split
 ·simp
 ·simp only [List.mem_cons, List.mem_append, not_or]
  refine ⟨by decide, ⟨h _ _, h _ _, h _ _⟩, ?_⟩
  split <;> simp
theorem momT_len (v : Mom) : (momT v).length ≤ 16 := by
 unfold momT Mo.dayT timeT
 simp only [List.length_append, wide_len]
 split
 ·simp
 ·simp only [List.length_cons, List.length_append, wide_len]
  split <;> simp
theorem word_no (f : Nat) : 59 ∉ wordK f ∧ (wordK f).length ≤ 8 := by
 by_cases h : f < 7
 ·have : f = 0 ∨ f = 1 ∨ f = 2 ∨ f = 3 ∨ f = 4 ∨ f = 5 ∨ f = 6 := by omega
  rcases this with rfl | rfl | rfl | rfl | rfl | rfl | rfl <;> decide
 ·have e : wordK f = [] := by
   unfold wordK
   rw [List.getD_eq_getElem?_getD, List.getElem?_eq_none (by simp [words]; omega)]
   rfl
  rw [e]
  simp
theorem wkN_no59 (d : Int) : 59 ∉ wkN d := by
 unfold wkN
 split
 ·simp
 ·intro h
  have := List.mem_of_mem_take h
  have := List.mem_of_mem_drop this
  revert this
  decide
theorem wkN_len (d : Int) : (wkN d).length ≤ 2 := by
 unfold wkN
 split
 ·simp
 ·rw [List.length_take]; omega
theorem dayT_no (x : Dn) : 59 ∉ dayT x := by
 simp only [dayT, List.mem_append, not_or]
 refine ⟨?_, wkN_no59 _⟩
 split
 ·simp
 ·exact itoa_no _ (by decide) (by decide)
theorem dayT_len {x : Dn} (h : x.1.natAbs ≤ 99999) : (dayT x).length ≤ 8 := by
 have h1 := itoa_len h
 have h2 := wkN_len x.2
 simp only [dayT, List.length_append]
 split
 ·simp; omega
 ·omega
theorem printN_no (l : List Int) : 59 ∉ printN l := join_no (by decide) fun x hx => by
 obtain ⟨n, _, rfl⟩ := List.mem_map.1 hx
 exact itoa_no _ (by decide) (by decide)
theorem printD_no (l : List Dn) : 59 ∉ printD l := join_no (by decide) fun x hx => by
 obtain ⟨n, _, rfl⟩ := List.mem_map.1 hx
 exact dayT_no _
theorem printN_len {l : List Int} (h : ∀ n ∈ l, n.natAbs ≤ 99999) : (printN l).length ≤ l.length * 7 := by
 have := join_len (b := 6) (c := 44) (l := l.map itoa) (fun x hx => by
  obtain ⟨n, hn, rfl⟩ := List.mem_map.1 hx
  exact itoa_len (h n hn))
 simpa [printN] using this
theorem printD_len {l : List Dn} (h : ∀ n ∈ l, n.1.natAbs ≤ 99999) : (printD l).length ≤ l.length * 9 := by
 have := join_len (b := 8) (c := 44) (l := l.map dayT) (fun x hx => by
  obtain ⟨n, hn, rfl⟩ := List.mem_map.1 hx
  exact dayT_len (h n hn))
 simpa [printD] using this
theorem name_len {k : Nat} (h : k < 14) : (nameK k).length ≤ 10 := by
 rcases k14 h with rfl | rfl | rfl | rfl | rfl | rfl | rfl | rfl | rfl | rfl | rfl | rfl | rfl | rfl <;> decide
theorem val_is {r : Ru} (h0 : 0 ≤ r.f) (h : checkR r = 0) : ∀ p ∈ pairs r, p.1 < 14 ∧ 59 ∉ p.2 ∧ p.2.length ≤ 120 := by
 obtain ⟨c1, c2, _⟩ := checkR_zero h
 obtain ⟨d1, d2, d3, d4, d5, d6, d7, d8⟩ := headR_zero c1
 intro p hp
 have hlt := (pairs_take h0 h p hp).1
 refine ⟨hlt, ?_⟩
 simp only [pairs, List.mem_cons, List.mem_append] at hp
 rcases hp with rfl | hp | hp | hp | hp | hp
 ·have := word_no r.f.toNat
  exact ⟨this.1, by have := this.2; simp only; omega⟩
 ·obtain ⟨hb, rfl⟩ := optP_mem hp
  exact ⟨momT_no _, by have := momT_len r.u; simp only; omega⟩
 ·obtain ⟨hb, rfl⟩ := optP_mem hp
  exact ⟨itoa_no _ (by decide) (by decide), by have := itoa_len (n := r.c) (by omega); simp only; omega⟩
 ·obtain ⟨hb, rfl⟩ := optP_mem hp
  exact ⟨itoa_no _ (by decide) (by decide), by have := itoa_len (n := r.i) (by omega); simp only; omega⟩
 ·obtain ⟨hk, hv, hne⟩ := listPs_mem hp
  rw [hv]
  by_cases h7 : p.1 = 7
  ·have hs : soundD r.l7 = 0 := c2 7 (by simp [listKs])
   obtain ⟨a, b, c⟩ := soundD_zero hs
   have e : valP r p.1 = printD r.l7 := by unfold valP; rw [if_pos h7]
   rw [e]
   have := printD_len (l := r.l7) (fun x hx => by have := c x hx; omega)
   exact ⟨printD_no _, by omega⟩
  ·have hs := c2 _ hk
   unfold sndAt at hs
   rw [if_neg h7] at hs
   obtain ⟨a, b, c⟩ := soundL_zero hs
   have e : valP r p.1 = printN (lst r p.1) := by unfold valP; rw [if_neg h7]
   rw [e]
   have hw := whi_le p.1
   have := printN_len (l := lst r p.1) (fun x hx => by have := (c x hx).2.2; omega)
   exact ⟨printN_no _, by omega⟩
 ·obtain ⟨hb, rfl⟩ := optP_mem hp
  exact ⟨wkN_no59 _, by have := wkN_len r.w; simp only; omega⟩
theorem texts_is {r : Ru} (h0 : 0 ≤ r.f) (h : checkR r = 0) : ∀ x ∈ texts r, 59 ∉ x ∧ x.length ≤ 131 := by
 intro x hx
 obtain ⟨p, hp, rfl⟩ := List.mem_map.1 hx
 obtain ⟨h1, h2, h3⟩ := val_is h0 h p hp
 have hn := name_len h1
 obtain ⟨_, hn2, _⟩ := name_no h1
 unfold eqS
 refine ⟨?_, by rw [List.length_append, List.length_cons]; omega⟩
 simp only [List.mem_append, List.mem_cons, not_or]
 exact ⟨hn2, by decide, h2⟩
theorem texts_len (r : Ru) : (texts r).length ≤ 14 := by
 have := (pairs_sub r).length_le
 simpa [texts] using this
theorem printR_len {r : Ru} (h0 : 0 ≤ r.f) (h : checkR r = 0) : (printR r).length ≤ 1848 := by
 have h1 := join_len (c := 59) (fun x hx => (texts_is h0 h x hx).2)
 have h2 := texts_len r
 have := Nat.mul_le_mul_right 132 h2
 unfold printR
 omega
end Go.Vs.YtbchceojmblkkaaGreatDoor.Rc
namespace Go.Vs.YtbchceojmblkkaaGreatDoor.Rc
set_option linter.unusedSimpArgs false
set_option linter.unusedVariables false
open Go.Proofs Go.Vs.U8 Go.Vs.Pa Go.Vs.Nu Go.Lib Go.Vs.Mo
theorem parts_first (c : UInt8) (s : Str) : ∃ p ps, parts c s = p :: ps ∧ c ∉ p ∧ p.length ≤ s.length ∧ p = s.take p.length ∧ ((ps = [] ∧ p = s) ∨ (s[p.length]? = some c ∧ ps = parts c (s.drop (p.length + 1)))) := by
 by_cases h : c ∈ s
 ·have hl := List.idxOf_lt_length_iff.2 h
  have hg : s[s.idxOf c]? = some c := by rw [List.getElem?_eq_getElem hl, List.getElem_idxOf]
  have hn : c ∉ s.take (s.idxOf c) := by
   intro hm
   rw [List.mem_take_iff_getElem] at hm
   obtain ⟨j, hj, e⟩ := hm
   have := List.not_of_lt_findIdx (p := (· == c)) (xs := s) (i := j) (show j < s.idxOf c by omega)
   simp [e] at this
  have hpl : (s.take (s.idxOf c)).length = s.idxOf c := by rw [List.length_take]; omega
  refine ⟨s.take (s.idxOf c), parts c (s.drop (s.idxOf c + 1)), parts_at hg hn, hn, by omega, by rw [hpl], .inr ⟨by rw [hpl]; exact hg, by rw [hpl]⟩⟩
 ·exact ⟨s, [], parts_none h, h, Nat.le_refl _, by rw [List.take_length], .inl ⟨rfl, rfl⟩⟩
def lsum (l : List Str) : Nat := (l.map fun x => x.length + 1).sum
theorem lsum_cons (x : Str) (l : List Str) : lsum (x :: l) = x.length + 1 + lsum l := by simp [lsum]
theorem parts_sum (c : UInt8) : ∀ (n : Nat) (s : Str), s.length ≤ n → lsum (parts c s) = s.length + 1
 | n, s, hn => by
  obtain ⟨p, ps, h1, h2, h3, h4, h5⟩ := parts_first c s
  rw [h1, lsum_cons]
  rcases h5 with ⟨rfl, rfl⟩ | ⟨h5, h6⟩
  ·rfl
  ·obtain ⟨h7, _⟩ := List.getElem?_eq_some_iff.1 h5
   cases n with
   | zero => omega
   | succ n =>
    rw [h6, parts_sum c n _ (by rw [List.length_drop]; omega), List.length_drop]
    omega
theorem everyGo_no {α : Type} [DecidableEq α] {one : Str → α × Int} : ∀ {l : List Str} {a : Nat} {out : List α} {e : Int} {p : Nat}, everyGo one l a out = .no e p → e ≠ 0 ∧ p + 1 ≤ a + lsum l
 | [], a, out, e, p, h => by simp [everyGo] at h
 | x :: r, a, out, e, p, h => by
  rw [lsum_cons]
  simp only [everyGo] at h
  split at h
  ·simp only [GotE.no.injEq] at h; omega
  ·split at h
   ·next h1 => simp only [GotE.no.injEq] at h; obtain ⟨rfl, rfl⟩ := h; exact ⟨h1, by omega⟩
   ·split at h
    ·simp only [GotE.no.injEq] at h; omega
    ·have := everyGo_no h
     exact ⟨this.1, by omega⟩
theorem everyR_no {α : Type} [DecidableEq α] {one : Str → α × Int} {v : Str} {e : Int} {p : Nat} (h : everyR one v = .no e p) : e ≠ 0 ∧ p ≤ v.length := by
 have h1 := everyGo_no h
 rw [parts_sum 44 _ v (Nat.le_refl _)] at h1
 exact ⟨h1.1, by omega⟩
theorem takeR_no {x : Ru} {k : Nat} {v : Str} {e : Int} {q : List Int} (h : takeR x k v = .no e q) : e ≠ 0 ∧ (q = [] ∨ ∃ p : Nat, q = [(p : Int)] ∧ p ≤ v.length) := by
 unfold takeR at h
 split at h
 ·split at h
  ·cases h
  ·simp only [TkR.no.injEq] at h; obtain ⟨rfl, rfl⟩ := h; exact ⟨by omega, .inl rfl⟩
 ·split at h
  ·split at h
   ·cases h
   ·next h1 => simp only [TkR.no.injEq] at h; obtain ⟨rfl, rfl⟩ := h; exact ⟨h1, .inl rfl⟩
  ·split at h
   ·split at h
    ·cases h
    ·next h1 => simp only [TkR.no.injEq] at h; obtain ⟨rfl, rfl⟩ := h; exact ⟨h1, .inl rfl⟩
   ·split at h
    ·split at h
     ·cases h
     ·next h1 => simp only [TkR.no.injEq] at h; obtain ⟨rfl, rfl⟩ := h; exact ⟨h1, .inl rfl⟩
    ·split at h
     ·split at h
      ·cases h
      ·next p hp =>
       simp only [TkR.no.injEq] at h
       obtain ⟨rfl, rfl⟩ := h
       have := everyR_no hp
       exact ⟨this.1, .inr ⟨p, rfl, this.2⟩⟩
     ·split at h
      ·split at h
       ·simp only [TkR.no.injEq] at h; obtain ⟨rfl, rfl⟩ := h; exact ⟨by omega, .inl rfl⟩
       ·cases h
      ·split at h
       ·cases h
       ·next p hp =>
        simp only [TkR.no.injEq] at h
        obtain ⟨rfl, rfl⟩ := h
        have := everyR_no hp
        exact ⟨this.1, .inr ⟨p, rfl, this.2⟩⟩
def AtR (s : Str) (ps : List Str) (a : Nat) : Prop := (ps = [] ∧ a = s.length + 1) ∨ (a ≤ s.length ∧ ps = parts 59 (s.drop a))
theorem atR_zero (s : Str) : AtR s (parts 59 s) 0 := .inr ⟨by omega, by rw [List.drop_zero]⟩
theorem atR_step {s p : Str} {ps : List Str} {a : Nat} (h : AtR s (p :: ps) a) : a + p.length ≤ s.length ∧ p = (s.drop a).take p.length ∧ 59 ∉ p ∧ AtR s ps (a + p.length + 1) ∧ (s[a + p.length]? = some 59 ∨ (a + p.length = s.length ∧ ps = [])) := by
 rcases h with ⟨h, _⟩ | ⟨ha, h⟩
 ·cases h
 ·obtain ⟨q, qs, h1, h2, h3, h4, h5⟩ := parts_first 59 (s.drop a)
  rw [h1] at h
  simp only [List.cons.injEq] at h
  obtain ⟨rfl, rfl⟩ := h
  rw [List.length_drop] at h3
  refine ⟨by omega, h4, h2, ?_, ?_⟩
  ·rcases h5 with ⟨rfl, h5⟩ | ⟨h5, h6⟩
   ·have := congrArg List.length h5
    rw [List.length_drop] at this
    exact .inl ⟨rfl, by omega⟩
   ·rw [List.getElem?_drop] at h5
    obtain ⟨h7, _⟩ := List.getElem?_eq_some_iff.1 h5
    refine .inr ⟨by omega, ?_⟩
    rw [h6, List.drop_drop, Nat.add_assoc]
  ·rcases h5 with ⟨rfl, h5⟩ | ⟨h5, h6⟩
   ·have := congrArg List.length h5
    rw [List.length_drop] at this
    exact .inr ⟨by omega, rfl⟩
   ·rw [List.getElem?_drop] at h5
    exact .inl h5
theorem part_at {s p : Str} {a : Nat} (h1 : p = (s.drop a).take p.length) (h2 : 61 ∈ p) : p.idxOf 61 < p.length ∧ s[a + p.idxOf 61]? = some 61 := by
 have hl := List.idxOf_lt_length_iff.2 h2
 refine ⟨hl, ?_⟩
 have hg : p[p.idxOf 61]? = some 61 := by rw [List.getElem?_eq_getElem hl, List.getElem_idxOf]
 obtain ⟨n, hn⟩ : ∃ n, p.idxOf 61 = n := ⟨_, rfl⟩
 rw [hn] at hg hl ⊢
 rw [h1, List.getElem?_take_of_lt hl, List.getElem?_drop] at hg
 exact hg
theorem endR_no {N : Nat} {was : List Nat} {r : Ru} {e : Int} {q : List Int} (h : endR N was r = .no e q) : e ≠ 0 ∧ q = [(N : Int)] := by
 unfold endR at h
 split at h
 ·split at h
  ·cases h
  ·next h1 => simp only [RuR.no.injEq] at h; obtain ⟨rfl, rfl⟩ := h; exact ⟨h1, rfl⟩
 ·simp only [RuR.no.injEq] at h; obtain ⟨rfl, rfl⟩ := h; exact ⟨by omega, rfl⟩
def Told (s : Str) (q : List Int) : Prop := (∃ p : Nat, q = [(p : Int)] ∧ p ≤ s.length) ∨ ∃ f p : Nat, q = [(f : Int), (p : Int)] ∧ 0 < f ∧ f + p ≤ s.length ∧ s[f - 1]? = some 61
theorem parseGo_no {s : Str} : ∀ {ps : List Str} {a : Nat} {was : List Nat} {r : Ru} {e : Int} {q : List Int}, AtR s ps a → parseGo s.length ps a was r = .no e q → e ≠ 0 ∧ Told s q
 | [], a, was, r, e, q, _, h => by
  obtain ⟨h1, rfl⟩ := endR_no h
  exact ⟨h1, .inl ⟨s.length, rfl, Nat.le_refl _⟩⟩
 | p :: ps, a, was, r, e, q, hA, h => by
  obtain ⟨b1, b2, b3, b4, _⟩ := atR_step hA
  simp only [parseGo] at h
  split at h
  ·simp only [RuR.no.injEq] at h; obtain ⟨rfl, rfl⟩ := h; exact ⟨by omega, .inl ⟨a, rfl, by omega⟩⟩
  ·next h61 =>
   simp only [Decidable.not_not] at h61
   obtain ⟨c1, c2⟩ := part_at b2 h61
   split at h
   ·simp only [RuR.no.injEq] at h; obtain ⟨rfl, rfl⟩ := h; exact ⟨by omega, .inl ⟨a, rfl, by omega⟩⟩
   ·split at h
    ·simp only [RuR.no.injEq] at h; obtain ⟨rfl, rfl⟩ := h; exact ⟨by omega, .inl ⟨a, rfl, by omega⟩⟩
    ·split at h
     ·next e' q' ht =>
      simp only [RuR.no.injEq] at h
      obtain ⟨rfl, rfl⟩ := h
      obtain ⟨d1, d2⟩ := takeR_no ht
      refine ⟨d1, ?_⟩
      rcases d2 with rfl | ⟨n, rfl, d3⟩
      ·exact .inl ⟨a + p.idxOf 61 + 1, rfl, by omega⟩
      ·unfold partV at d3
       rw [List.length_drop] at d3
       exact .inr ⟨a + p.idxOf 61 + 1, n, rfl, by omega, by omega, by simpa using c2⟩
     ·exact parseGo_no b4 h
theorem parseRu_no {s : Str} {e : Int} {q : List Int} (h : parseRu s = .no e q) : e ≠ 0 ∧ Told s q := parseGo_no (atR_zero s) h
theorem told_bd {s : Str} {q : List Int} (h : Told s q) (hs : s.length < 900000) : (∀ p ∈ q, -1000000 < p ∧ p < 1000000) ∧ q.length < 1000 := by
 rcases h with ⟨p, rfl, hp⟩ | ⟨f, p, rfl, h1, h2, _⟩
 ·refine ⟨?_, by simp⟩
  intro x hx
  simp only [List.mem_cons, List.not_mem_nil, or_false] at hx
  omega
 ·refine ⟨?_, by simp⟩
  intro x hx
  simp only [List.mem_cons, List.not_mem_nil, or_false] at hx
  omega
theorem parseGo_ok : ∀ {N : Nat} {ps : List Str} {a : Nat} {was : List Nat} {r x : Ru}, parseGo N ps a was r = .ok x → checkR x = 0
 | N, [], a, was, r, x, h => by
  simp only [parseGo, endR] at h
  split at h
  ·split at h
   ·next h1 => simp only [RuR.ok.injEq] at h; rw [← h]; exact h1
   ·cases h
  ·cases h
 | N, p :: ps, a, was, r, x, h => by
  simp only [parseGo] at h
  split at h
  ·cases h
  ·split at h
   ·cases h
   ·split at h
    ·cases h
    ·split at h
     ·cases h
     ·exact parseGo_ok h
end Go.Vs.YtbchceojmblkkaaGreatDoor.Rc
