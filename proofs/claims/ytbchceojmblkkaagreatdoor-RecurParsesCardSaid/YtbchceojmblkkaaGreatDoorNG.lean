/- The walk of the document's nums, part 1: one number, weekdays, lists that are one. No conditions. -/
import Derived.Test.YtbchceojmblkkaaGreatDoorNF
set_option linter.unusedVariables false
set_option linter.unusedSimpArgs false
namespace Go.Vs.U8
end Go.Vs.U8
namespace Go.Vs.Pa
end Go.Vs.Pa
namespace Go.Vs.Nu
end Go.Vs.Nu
namespace Go.Vs.YtbchceojmblkkaaGreatDoor
set_option linter.unusedSimpArgs false
set_option linter.unusedVariables false
open Go.Proofs Go.Vs.U8 Go.Vs.Pa Go.Vs.Nu Go.Lib
set_option maxRecDepth 100000
set_option maxHeartbeats 8000000
theorem fn_rOne (lo hi : Int) (sg : Bool) (s : Str) (hs : s.length < 1000000) : Fn G Tryz.prog k_ref20_One [.str s, .int .i64 lo, .int .i64 hi, .bool sg] (numI (numR 5 lo hi sg s)) := by
 refine fn_intro hm ok_ref20_One (by simp) ?_
 rw [numR_eq]
 obtain ⟨k, hk⟩ : ∃ k, (if sgO sg s = true then 1 else 0 : Nat) = k := ⟨_, rfl⟩
 obtain ⟨mn, hmn⟩ : ∃ mn, minO sg s = mn := ⟨_, rfl⟩
 obtain ⟨z, hz⟩ : ∃ z : Int, (if mn = true then -1 else 1) = z := ⟨_, rfl⟩
 have hb : bodyO sg s = s.drop k := by
  rw [← hk]; unfold bodyO
  split <;> simp
 have hkl : k ≤ s.length ∧ k ≤ 1 := by
  rw [← hk]
  split
  ·next h =>
   cases s with
   | nil => simp [sgO] at h
   | cons c r => simp
  ·omega
 rw [hb, hmn]
 obtain ⟨b, hbe⟩ : ∃ b, s.drop k = b := ⟨_, rfl⟩
 have hbl : b.length = s.length - k := by rw [← hbe, List.length_drop]
 rw [hbe]
 obtain ⟨R, hR⟩ : ∃ R, (if b = [] ∨ 5 < b.length ∨ b.all dig = false then ((0, 4) : Int × Int) else if (valD 0 b : Int) < lo ∨ hi < (valD 0 b : Int) then (0, 8) else (if mn = true then -(valD 0 b : Int) else (valD 0 b : Int), 0)) = R := ⟨_, rfl⟩
 rw [hR]
 simp [c_ref20_One, r_ref20_One]
 refine cutU hm [] [] (fun _ : Unit => [(10, .val (.int .i64 z)), (11, .val (.int .i64 k))]) (fun _ => []) (fun _ => True) ?_ ?_
 ·have plain : sgO sg s = false → k = 0 ∧ z = 1 := fun h => by
   have hm0 : mn = false := by
    rw [← hmn]
    cases h2 : minO sg s with
    | false => rfl
    | true =>
     exfalso
     simp only [minO, Bool.and_eq_true] at h2
     simp [sgO, h2.1, h2.2] at h
   rw [hm0] at hz
   rw [h] at hk
   exact ⟨by simpa using hk.symm, by simpa using hz.symm⟩
  cases sg with
  | false =>
   obtain ⟨rfl, rfl⟩ := plain rfl
   simp (disch := omega) [wl]
   refine joinEnd () trivial ?_
   simp
   exact wdr
  | true =>
   cases s with
   | nil =>
    obtain ⟨rfl, rfl⟩ := plain rfl
    simp (disch := omega) [wl]
    refine joinEnd () trivial ?_
    simp
    exact wdr
   | cons c r =>
    by_cases h1 : c = 43
    ·subst h1
     have e1 : k = 1 := by rw [← hk]; rfl
     have e2 : z = 1 := by rw [← hz, ← hmn]; rfl
     rw [e1, e2]
     simp (disch := omega) [wl]
     refine joinEnd () trivial ?_
     simp
     exact wdr
    ·by_cases h2 : c = 45
     ·subst h2
      have e1 : k = 1 := by rw [← hk]; rfl
      have e2 : z = -1 := by rw [← hz, ← hmn]; rfl
      rw [e1, e2]
      simp (disch := omega) [wl]
      refine joinEnd () trivial ?_
      simp
      exact wdr
     ·have g1 : ¬ c.toNat = 43 := fun e => h1 (UInt8.toNat_inj.1 e)
      have g2 : ¬ c.toNat = 45 := fun e => h2 (UInt8.toNat_inj.1 e)
      obtain ⟨e1, e2⟩ := plain (by simp [sgO, h1, h2])
      rw [e1, e2]
      simp (disch := omega) [wl, g1, g2]
      refine joinEnd () trivial ?_
      simp
      exact weak_drop rfl rfl (by simp [EnvLe, getE, look, g1, g2]) (by simp [ObLe, look]) (by simp [roOk])
 ·rintro _ _
  simp
  by_cases h1 : b = []
  ·rw [if_pos (.inl h1)] at hR
   subst hR
   have : b.length = 0 := by rw [h1]; rfl
   simp (disch := omega) [wl]
   simp [numI]
  ·have hbp : 1 ≤ b.length := List.length_pos_iff.2 h1
   by_cases h2 : 5 < b.length
   ·rw [if_pos (.inr (.inl h2))] at hR
    subst hR
    simp (disch := omega) [wl]
    simp [numI]
   ·simp (disch := omega) [wl]
    have hv : ∀ i, (b.take i).all dig = true → valD 0 (b.take i) < 10 ^ 5 := fun i hi => val_bd hi (by rw [List.length_take]; omega)
    refine cutU hm [] [] (fun _ : Unit => [(12, .val (.int .i64 (valD 0 b : Nat)))]) (fun _ => []) (fun _ => b.all dig = true) ?_ ?_
    ·simp
     refine loopU hm [] (fun j : Nat => [(13, .val (.int .i64 (k + j : Nat))), (12, .val (.int .i64 (valD 0 (b.take j) : Nat)))]) (fun _ => []) (fun j => j ≤ b.length ∧ (b.take j).all dig = true) (fun j => b.length - j) 0 ⟨by omega, by simp⟩ ?_ ?_
     ·have e : valD 0 ([] : Str) = 0 := rfl
      simp [e]
      exact wdr
     rintro j ⟨hj, hall⟩
     simp
     by_cases h : j < b.length
     ·obtain ⟨c, hc⟩ : ∃ c, b[j] = c := ⟨_, rfl⟩
      have hsc : s[k + j]'(by omega) = c := by
       rw [← hc]
       simp only [← hbe, List.getElem_drop]
      have e0 : ((k : Int) + (j : Int)).toNat = k + j := by omega
      have e1 : (0 : Int) ≤ (k : Int) + (j : Int) := by omega
      have hta : b.take (j + 1) = b.take j ++ [c] := by rw [List.take_succ_eq_append_getElem h, hc]
      by_cases hd : dig c = true
      ·obtain ⟨d1, d2⟩ := dig_bd hd
       have hall' : (b.take (j + 1)).all dig = true := by rw [hta, List.all_append, hall, all_one hd]; rfl
       have ht : valD 0 (b.take (j + 1)) = 10 * valD 0 (b.take j) + (c.toNat - 48) := by rw [hta, val_snoc]
       have hv1 := hv (j + 1) hall'
       have hv0 := hv j hall
       have e : (((valD 0 (b.take j) : Nat) : Int) * 10 + ((c.toNat : Int) - 48) : Int) = (valD 0 (b.take (j + 1)) : Nat) := by omega
       obtain ⟨V, hV⟩ : ∃ V, valD 0 (b.take j) = V := ⟨_, rfl⟩
       obtain ⟨W, hW⟩ : ∃ W, valD 0 (b.take (j + 1)) = W := ⟨_, rfl⟩
       rw [hV, hW] at e ht
       rw [hV] at hv0 ⊢
       rw [hW] at hv1
       simp (disch := omega) [wl, e0, e1, hsc, e]
       refine loopEnd (j + 1) ⟨by omega, hall'⟩ (by omega) ?_
       simp [hW]
       exact weak_drop rfl rfl (by simp [EnvLe, getE, look]; omega) (by simp [ObLe, look]) (by simp [roOk])
      ·have hd2 : c.toNat < 48 ∨ 57 < c.toNat := by
        simp [dig] at hd
        omega
       have hbad : b.all dig = false := by
        cases e : b.all dig with
        | false => rfl
        | true => exact absurd (List.all_eq_true.1 e c (hc ▸ List.getElem_mem h)) hd
       rw [if_pos (.inr (.inr hbad))] at hR
       subst hR
       rcases hd2 with hd2 | hd2
       ·simp (disch := omega) [wl, e0, e1, hsc]
        simp [numI]
       ·simp (disch := omega) [wl, e0, e1, hsc]
        simp [numI]
     ·obtain rfl : j = b.length := by omega
      rw [List.take_length] at hall ⊢
      simp (disch := omega) [wl]
      refine joinEnd () hall ?_
      simp
      exact wdr
    ·rintro _ hall
     have hV0 := hv b.length (by rw [List.take_length]; exact hall)
     rw [List.take_length] at hV0
     obtain ⟨V, hV⟩ : ∃ V, valD 0 b = V := ⟨_, rfl⟩
     rw [hV] at hV0 ⊢
     simp
     rw [hV, if_neg (by rw [hall]; simp only [not_or]; exact ⟨h1, h2, by simp⟩)] at hR
     by_cases h4 : (V : Int) < lo
     ·rw [if_pos (.inl h4)] at hR
      subst hR
      simp (disch := omega) [wl]
      simp [numI]
     ·by_cases h5 : hi < (V : Int)
      ·rw [if_pos (.inr h5)] at hR
       subst hR
       simp (disch := omega) [wl]
       simp [numI]
      ·rw [if_neg (by omega)] at hR
       subst hR
       subst hz
       cases mn with
       | true =>
        simp (disch := omega) [wl]
        simp [numI]
       | false =>
        simp (disch := omega) [wl]
        simp [numI]
theorem fn_rHas (l : List Int) (x : Int) (hl : l.length < 1000000) : Fn G Tryz.prog k_ref20_Has [.slice (is l), .int .i64 x] (.bool (decide (x ∈ l))) := by
 refine fn_intro hm ok_ref20_Has (by simp) ?_
 simp [c_ref20_Has, r_ref20_Has, is_len]
 refine loopU hm [] (fun i : Nat => [(5, .val (.int .i64 i))]) (fun _ => []) (fun i => i ≤ l.length ∧ x ∉ l.take i) (fun i => l.length - i) 0 ⟨by omega, by simp⟩ ?_ ?_
 ·simp
  exact wdr
 rintro i ⟨hi, hn⟩
 simp [is_len]
 by_cases h : i < l.length
 ·obtain ⟨y, hy⟩ : ∃ y, l[i] = y := ⟨_, rfl⟩
  have hg := is_get h hy
  by_cases e : x = y
  ·have hmem : x ∈ l := by rw [e, ← hy]; exact List.getElem_mem h
   rw [decide_eq_true hmem]
   simp (disch := omega) [wl, is_len, hg, e]
  ·have e' : ¬ y = x := fun h => e h.symm
   simp (disch := omega) [wl, is_len, hg, e, e']
   refine loopEnd (i + 1) ⟨by omega, take_no h hy hn e⟩ (by omega) ?_
   simp
   exact weak_drop rfl rfl (by simp [EnvLe, getE, look, e, e']) (by simp [ObLe, look]) (by simp [roOk])
 ·obtain rfl : i = l.length := by omega
  rw [List.take_length] at hn
  rw [decide_eq_false hn]
  simp (disch := omega) [wl, is_len]
theorem take_eq_step {α : Type} {a b : List α} {i : Nat} (h : a.take i = b.take i) (ha : i < a.length) (hb : i < b.length) (e : a[i] = b[i]) : a.take (i + 1) = b.take (i + 1) := by
 rw [List.take_succ_eq_append_getElem ha, List.take_succ_eq_append_getElem hb, h, e]
theorem fn_SameInts (a b : List Int) (ha : a.length < 1000000) (hb : b.length < 1000000) : Fn G Tryz.prog k_ref20_SameInts [.slice (is a), .slice (is b)] (.bool (decide (a = b))) := by
 refine fn_intro hm ok_ref20_SameInts (by simp) ?_
 simp [c_ref20_SameInts, r_ref20_SameInts, is_len]
 by_cases hl : a.length = b.length
 ·simp (disch := omega) [wl, is_len, hl]
  refine loopU hm [] (fun i : Nat => [(5, .val (.int .i64 i))]) (fun _ => []) (fun i => i ≤ a.length ∧ a.take i = b.take i) (fun i => a.length - i) 0 ⟨by omega, by simp⟩ ?_ ?_
  ·simp
   exact wdr
  rintro i ⟨hi, hn⟩
  simp [is_len]
  by_cases h : i < a.length
  ·have h' : i < b.length := by omega
   obtain ⟨x, hx⟩ : ∃ x, a[i] = x := ⟨_, rfl⟩
   obtain ⟨y, hy⟩ : ∃ y, b[i] = y := ⟨_, rfl⟩
   have hg := is_get h hx
   have hg' := is_get h' hy
   by_cases e : x = y
   ·simp (disch := omega) [wl, is_len, hg, hg', e]
    refine loopEnd (i + 1) ⟨by omega, take_eq_step hn h h' (by rw [hx, hy, e])⟩ (by omega) ?_
    simp
    exact wdr
   ·have hne : ¬ a = b := fun he => e (by subst he; rw [← hx, ← hy])
    rw [decide_eq_false hne]
    simp (disch := omega) [wl, is_len, hg, hg', e]
  ·obtain rfl : i = a.length := by omega
   have : a = b := by
    rw [List.take_length, hl, List.take_length] at hn
    exact hn
   rw [decide_eq_true this]
   simp (disch := omega) [wl, is_len, hl]
 ·have hne : ¬ a = b := fun he => hl (by rw [he])
  rw [decide_eq_false hne]
  simp (disch := omega) [wl, is_len, hl]
theorem fn_SameDays (a b : List Dn) (ha : a.length < 1000000) (hb : b.length < 1000000) : Fn G Tryz.prog k_ref20_SameDays [.slice (dns a), .slice (dns b)] (.bool (decide (a = b))) := by
 refine fn_intro hm ok_ref20_SameDays (by simp) ?_
 simp [c_ref20_SameDays, r_ref20_SameDays, dns_len]
 by_cases hl : a.length = b.length
 ·simp (disch := omega) [wl, dns_len, hl]
  refine loopU hm [] (fun i : Nat => [(5, .val (.int .i64 i))]) (fun _ => []) (fun i => i ≤ a.length ∧ a.take i = b.take i) (fun i => a.length - i) 0 ⟨by omega, by simp⟩ ?_ ?_
  ·simp
   exact wdr
  rintro i ⟨hi, hn⟩
  simp [dns_len]
  by_cases h : i < a.length
  ·have h' : i < b.length := by omega
   obtain ⟨x, hx⟩ : ∃ x, a[i] = x := ⟨_, rfl⟩
   obtain ⟨y, hy⟩ : ∃ y, b[i] = y := ⟨_, rfl⟩
   have hg := dns_get h hx
   have hg' := dns_get h' hy
   by_cases e1 : x.1 = y.1
   ·by_cases e2 : x.2 = y.2
    ·have e : x = y := Prod.ext e1 e2
     simp (disch := omega) [wl, dns_len, hg, hg', e1, e2]
     refine loopEnd (i + 1) ⟨by omega, take_eq_step hn h h' (by rw [hx, hy, e])⟩ (by omega) ?_
     simp
     exact wdr
    ·have hne : ¬ a = b := fun he => e2 (by subst he; rw [← hx, ← hy])
     rw [decide_eq_false hne]
     simp (disch := omega) [wl, dns_len, hg, hg', e1, e2]
   ·have hne : ¬ a = b := fun he => e1 (by subst he; rw [← hx, ← hy])
    rw [decide_eq_false hne]
    simp (disch := omega) [wl, dns_len, hg, hg', e1]
  ·obtain rfl : i = a.length := by omega
   have : a = b := by
    rw [List.take_length, hl, List.take_length] at hn
    exact hn
   rw [decide_eq_true this]
   simp (disch := omega) [wl, dns_len, hl]
 ·have hne : ¬ a = b := fun he => hl (by rw [he])
  rw [decide_eq_false hne]
  simp (disch := omega) [wl, dns_len, hl]
theorem dns_take_succ {l : List Dn} {i : Nat} {x : Dn} (h : i < l.length) (hx : l[i] = x) : dns (l.take (i + 1)) = dns (l.take i) ++ [[.int .i64 x.1, .int .i64 x.2]] := by
 rw [List.take_succ_eq_append_getElem h, hx, dns_snoc]
theorem fn_nBack (l : List Dn) (hl : l.length < 100000) : Fn G Tryz.prog k_law20_Back [.slice (dns l)] (.slice (dns l)) := by
 refine fn_intro hm ok_law20_Back (by simp) ?_
 simp [c_law20_Back, r_law20_Back, dns_len]
 refine loopU hm [] (fun i : Nat => [(4, .val (.int .i64 i)), (3, .own 3 i)]) (fun i => [(3, .arr i 2 (dns (l.take i)))]) (fun i => i ≤ l.length) (fun i => l.length - i) 0 (by omega) ?_ ?_
 ·simp [dns]
  exact Weak.trans (weak_adopt (k := 3) 3 2 (by simp) (by simp [getE, look])) (weak_drop rfl rfl (by simp [St.adopt, EnvLe, getE, look, put, eraseE, SV.erase]) (by simp [St.adopt, ObLe, look, put, eraseO, Ob.erase]) (by simp [St.adopt, roOk]))
 intro i hi
 simp [dns_len]
 by_cases h : i < l.length
 ·obtain ⟨x, hx⟩ : ∃ x, l[i] = x := ⟨_, rfl⟩
  have hg := dns_get h hx
  have ht := dns_take_succ h hx
  simp (disch := omega) [wl, dns_len, hg]
  refine ⟨by omega, ?_⟩
  refine loopEnd (i + 1) (by omega) (by omega) ?_
  simp [ht]
  exact wdr
 ·obtain rfl : i = l.length := by omega
  simp (disch := omega) [wl, dns_len]
end Go.Vs.YtbchceojmblkkaaGreatDoor
