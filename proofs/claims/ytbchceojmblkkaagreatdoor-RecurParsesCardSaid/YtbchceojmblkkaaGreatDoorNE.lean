/- The walk of nums: weekdays, numbers with errors, lists' items. No conditions. -/
import Derived.Test.YtbchceojmblkkaaGreatDoorND
set_option linter.unusedVariables false
set_option linter.unusedSimpArgs false
namespace Go.Vs.U8
end Go.Vs.U8
namespace Go.Vs.Pa
end Go.Vs.Pa
namespace Go.Vs.Nu
end Go.Vs.Nu
namespace Go.Vs.YtbchceojmblkkaaGreatDoor
set_option linter.unusedSimpArgs false
set_option linter.unusedVariables false
open Go.Proofs Go.Vs.U8 Go.Vs.Pa Go.Vs.Nu Go.Lib
set_option maxRecDepth 100000
set_option maxHeartbeats 4000000
theorem fn_Weekday (s : Str) : Fn G Tryz.prog k_nums_Weekday [.str s] (.int .i64 (wkD s)) := by
 refine fn_intro hm ok_nums_Weekday (by simp) ?_
 simp [c_nums_Weekday, r_nums_Weekday]
 unfold wkD
 by_cases h0 : s = [77, 79]
 ·rw [if_pos h0]; simp (disch := omega) [wl, h0]
 rw [if_neg h0]
 by_cases h1 : s = [84, 85]
 ·rw [if_pos h1]; simp (disch := omega) [wl, h0, h1]
 rw [if_neg h1]
 by_cases h2 : s = [87, 69]
 ·rw [if_pos h2]; simp (disch := omega) [wl, h0, h1, h2]
 rw [if_neg h2]
 by_cases h3 : s = [84, 72]
 ·rw [if_pos h3]; simp (disch := omega) [wl, h0, h1, h2, h3]
 rw [if_neg h3]
 by_cases h4 : s = [70, 82]
 ·rw [if_pos h4]; simp (disch := omega) [wl, h0, h1, h2, h3, h4]
 rw [if_neg h4]
 by_cases h5 : s = [83, 65]
 ·rw [if_pos h5]; simp (disch := omega) [wl, h0, h1, h2, h3, h4, h5]
 rw [if_neg h5]
 by_cases h6 : s = [83, 85]
 ·rw [if_pos h6]; simp (disch := omega) [wl, h0, h1, h2, h3, h4, h5, h6]
 rw [if_neg h6]
 simp (disch := omega) [wl, h0, h1, h2, h3, h4, h5, h6]
theorem fn_WeekdayName (d : Int) : Fn G Tryz.prog k_nums_WeekdayName [.int .i64 d] (.str (wkN d)) := by
 refine fn_intro hm ok_nums_WeekdayName (by simp) ?_
 simp [c_nums_WeekdayName, r_nums_WeekdayName]
 by_cases h0 : d < 0
 ·have : wkN d = [] := by unfold wkN; rw [if_pos (.inl h0)]
  simp (disch := omega) [wl, this]
 ·by_cases h6 : 6 < d
  ·have : wkN d = [] := by unfold wkN; rw [if_pos (.inr h6)]
   simp (disch := omega) [wl, this]
  ·rcases wk_cases (d := d) (by omega) (by omega) with rfl | rfl | rfl | rfl | rfl | rfl | rfl <;>
   ·simp (disch := omega) [wl]
    rfl
theorem wkD_at (s : Str) : ∀ i : Nat, i < 7 → (∀ j : Nat, j < i → s ≠ (wkAll.drop (2 * j)).take 2) → s = (wkAll.drop (2 * i)).take 2 → wkD s = i := by
 intro i hi _ h
 have : i = 0 ∨ i = 1 ∨ i = 2 ∨ i = 3 ∨ i = 4 ∨ i = 5 ∨ i = 6 := by omega
 subst h
 rcases this with rfl | rfl | rfl | rfl | rfl | rfl | rfl <;> decide
theorem wkD_none (s : Str) (h : ∀ j : Nat, j < 7 → s ≠ (wkAll.drop (2 * j)).take 2) : wkD s = -1 := by
 have h0 : ¬ s = [77, 79] := fun e => h 0 (by omega) (e.trans rfl)
 have h1 : ¬ s = [84, 85] := fun e => h 1 (by omega) (e.trans rfl)
 have h2 : ¬ s = [87, 69] := fun e => h 2 (by omega) (e.trans rfl)
 have h3 : ¬ s = [84, 72] := fun e => h 3 (by omega) (e.trans rfl)
 have h4 : ¬ s = [70, 82] := fun e => h 4 (by omega) (e.trans rfl)
 have h5 : ¬ s = [83, 65] := fun e => h 5 (by omega) (e.trans rfl)
 have h6 : ¬ s = [83, 85] := fun e => h 6 (by omega) (e.trans rfl)
 unfold wkD
 rw [if_neg h0, if_neg h1, if_neg h2, if_neg h3, if_neg h4, if_neg h5, if_neg h6]
theorem fn_rWeekday (s : Str) : Fn G Tryz.prog k_ref20_Weekday [.str s] (.int .i64 (wkD s)) := by
 refine fn_intro hm ok_ref20_Weekday (by simp) ?_
 simp [c_ref20_Weekday, r_ref20_Weekday]
 refine loopU hm [] (fun i : Nat => [(3, .val (.int .i64 i))]) (fun _ => []) (fun i => i ≤ 7 ∧ ∀ j : Nat, j < i → s ≠ (wkAll.drop (2 * j)).take 2) (fun i => 7 - i) 0 ⟨by omega, fun j hj => by omega⟩ ?_ ?_
 ·simp
  exact wdr
 rintro i ⟨hi, hn⟩
 simp
 by_cases h : i < 7
 ·have hc : i = 0 ∨ i = 1 ∨ i = 2 ∨ i = 3 ∨ i = 4 ∨ i = 5 ∨ i = 6 := by omega
  by_cases he : s = (wkAll.drop (2 * i)).take 2
  ·have hw := wkD_at s i h hn he
   rw [hw]
   rcases hc with rfl | rfl | rfl | rfl | rfl | rfl | rfl <;>
   ·have he' := he
    simp [wkAll] at he'
    simp (disch := omega) [wl, he']
  ·have hn' : ∀ j : Nat, j < i + 1 → s ≠ (wkAll.drop (2 * j)).take 2 := fun j hj => by
    by_cases e : j = i
    ·rw [e]; exact he
    ·exact hn j (by omega)
   rcases hc with rfl | rfl | rfl | rfl | rfl | rfl | rfl <;>
   ·have he' := he
    simp [wkAll] at he'
    simp (disch := omega) [wl, he']
    refine loopEnd _ ⟨?_, hn'⟩ (by omega) ?_
    ·omega
    simp
    exact weak_drop rfl rfl (by simp [EnvLe, getE, look, he']) (by simp [ObLe, look, he']) (by simp [roOk])
 ·obtain rfl : i = 7 := by omega
  rw [wkD_none s hn]
  simp (disch := omega) [wl]
def oneI (p : Int × Int) : IV := .tuple [.int .i64 p.1, if p.2 = 0 then .nili else errIV p.2 [0]]
theorem fn_nOne (lo hi : Int) (sg : Bool) (s : Str) (hs : s.length < 1000000) : Fn G Tryz.prog k_nums_One [.str s, .int .i64 lo, .int .i64 hi, .bool sg] (oneI (numR 5 lo hi sg s)) := by
 refine fn_intro hm ok_nums_One (by simp) ?_
 obtain ⟨⟨n, e⟩, hR⟩ : ∃ p, numR 5 lo hi sg s = p := ⟨_, rfl⟩
 have hN := fn_number 5 lo hi sg s (by omega) hs
 rw [hR] at hN ⊢
 simp only [Int.cast_ofNat_Int, numI] at hN
 simp [c_nums_One, r_nums_One]
 refine callW_imm hN ?_
 simp
 refine callW_imm (fn_New e 0) ?_
 simp [oneI]
theorem fn_List_1 (lo hi : Int) (sg : Bool) (s : Str) (hs : s.length < 1000000) : Fn G Tryz.prog k_nums_List_1 [.str s, .ref [.int .i64 lo], .ref [.int .i64 hi], .ref [.bool sg]] (numI (numR 5 lo hi sg s)) := by
 refine fn_intro hm ok_nums_List_1 (by simp) ?_
 obtain ⟨⟨n, e⟩, hR⟩ : ∃ p, numR 5 lo hi sg s = p := ⟨_, rfl⟩
 have hN := fn_number 5 lo hi sg s (by omega) hs
 rw [hR] at hN ⊢
 simp only [Int.cast_ofNat_Int, numI] at hN
 simp [c_nums_List_1, r_nums_List_1]
 refine callW_imm hN ?_
 simp [numI]
def dayI (p : Dn × Int) : IV := .tuple [.agg [.int .i64 p.1.1, .int .i64 p.1.2], .int .i64 p.2]
theorem drop_all {s : Str} (k : Nat) : (s.drop k).take (s.length - k) = s.drop k := List.take_of_length_le (by rw [List.length_drop]; omega)
theorem fn_day (s : Str) (hs : s.length < 1000000) : Fn G Tryz.prog k_nums_day [.str s] (dayI (dayR s)) := by
 refine fn_intro hm ok_nums_day (by simp) ?_
 obtain ⟨R, hR⟩ : ∃ R, dayR s = R := ⟨_, rfl⟩
 rw [hR]
 unfold dayR at hR
 simp [c_nums_day, r_nums_day]
 by_cases h1 : s.length < 2
 ·rw [if_pos h1] at hR
  subst hR
  simp (disch := omega) [wl, dayI]
 ·rw [if_neg h1] at hR
  obtain ⟨k, hk⟩ : ∃ k, s.length = k + 2 := ⟨s.length - 2, by omega⟩
  have hk2 : s.length - 2 = k := by omega
  rw [hk2] at hR
  have e0 : ((s.length : Int) - 2) = (k : Int) := by omega
  have htk := drop_all (s := s) k
  obtain ⟨d, hd⟩ : ∃ d, wkD (s.drop k) = d := ⟨_, rfl⟩
  have hW := fn_Weekday (s.drop k)
  have hdr := wkD_range (s.drop k)
  rw [hd] at hW hR hdr
  simp (disch := omega) [wl, e0, htk]
  refine ⟨by omega, ?_⟩
  refine callW_imm hW ?_
  by_cases h2 : d < 0
  ·rw [if_pos h2] at hR
   subst hR
   simp (disch := omega) [wl, dayI]
  ·rw [if_neg h2] at hR
   by_cases h3 : k = 0
   ·rw [if_pos (by omega)] at hR
    subst hR
    simp (disch := omega) [wl, dayI, h3]
   ·rw [if_neg (by omega)] at hR
    obtain ⟨⟨n, e⟩, hN⟩ : ∃ p, numR 2 1 53 true (s.take k) = p := ⟨_, rfl⟩
    have hF := fn_number 2 1 53 true (s.take k) (by omega) (by rw [List.length_take]; omega)
    rw [hN] at hF hR
    simp only [Int.cast_ofNat_Int, numI] at hF
    simp only at hR
    simp (disch := omega) [wl, h3]
    refine ⟨by omega, ?_⟩
    refine callW_imm hF ?_
    by_cases h4 : e = 0
    ·rw [if_neg (by simp [h4])] at hR
     subst hR
     simp (disch := omega) [wl, dayI, h4]
    ·rw [if_pos h4] at hR
     subst hR
     simp (disch := omega) [wl, dayI, h4]
end Go.Vs.YtbchceojmblkkaaGreatDoor
