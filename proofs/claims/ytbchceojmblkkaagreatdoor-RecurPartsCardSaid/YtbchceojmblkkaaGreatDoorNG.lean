/- The walk of the document's nums, part 1: one number, weekdays, lists that are one. No conditions. -/
import Derived.Test.YtbchceojmblkkaaGreatDoorNF
set_option linter.unusedVariables false
set_option linter.unusedSimpArgs false
namespace Go.Vs.U8
end Go.Vs.U8
namespace Go.Vs.Pa
end Go.Vs.Pa
namespace Go.Vs.Nu
end Go.Vs.Nu
namespace Go.Vs.YtbchceojmblkkaaGreatDoor
set_option linter.unusedSimpArgs false
set_option linter.unusedVariables false
open Go.Proofs Go.Vs.U8 Go.Vs.Pa Go.Vs.Nu Go.Lib
set_option maxRecDepth 100000
set_option maxHeartbeats 8000000
theorem take_eq_step {α : Type} {a b : List α} {i : Nat} (h : a.take i = b.take i) (ha : i < a.length) (hb : i < b.length) (e : a[i] = b[i]) : a.take (i + 1) = b.take (i + 1) := by
 rw [List.take_succ_eq_append_getElem ha, List.take_succ_eq_append_getElem hb, h, e]
theorem fn_SameInts (a b : List Int) (ha : a.length < 1000000) (hb : b.length < 1000000) : Fn G Tryz.prog k_ref20_SameInts [.slice (is a), .slice (is b)] (.bool (decide (a = b))) := by
 refine fn_intro hm ok_ref20_SameInts (by simp) ?_
 simp [c_ref20_SameInts, r_ref20_SameInts, is_len]
 by_cases hl : a.length = b.length
 ·simp (disch := omega) [br_yes, br_no, wrap_i64, wrap_u8, wrap_i32, List.getElem?_cons_zero, List.getElem?_cons_succ, is_len, hl]
  refine loopU hm [] (fun i : Nat => [(5, .val (.int .i64 i))]) (fun _ => []) (fun i => i ≤ a.length ∧ a.take i = b.take i) (fun i => a.length - i) 0 ⟨by omega, by simp⟩ ?_ ?_
  ·simp
   exact weak_drop rfl rfl (by simp [EnvLe, getE, look]) (by simp [ObLe, look]) (by simp [roOk])
  rintro i ⟨hi, hn⟩
  simp [is_len]
  by_cases h : i < a.length
  ·have h' : i < b.length := by omega
   obtain ⟨x, hx⟩ : ∃ x, a[i] = x := ⟨_, rfl⟩
   obtain ⟨y, hy⟩ : ∃ y, b[i] = y := ⟨_, rfl⟩
   have hg := is_get h hx
   have hg' := is_get h' hy
   by_cases e : x = y
   ·simp (disch := omega) [br_yes, br_no, wrap_i64, wrap_u8, wrap_i32, List.getElem?_cons_zero, List.getElem?_cons_succ, is_len, hg, hg', e]
    refine loopEnd (i + 1) ⟨by omega, take_eq_step hn h h' (by rw [hx, hy, e])⟩ (by omega) ?_
    simp
    exact weak_drop rfl rfl (by simp [EnvLe, getE, look]) (by simp [ObLe, look]) (by simp [roOk])
   ·have hne : ¬ a = b := fun he => e (by subst he; rw [← hx, ← hy])
    rw [decide_eq_false hne]
    simp (disch := omega) [br_yes, br_no, wrap_i64, wrap_u8, wrap_i32, List.getElem?_cons_zero, List.getElem?_cons_succ, is_len, hg, hg', e]
  ·obtain rfl : i = a.length := by omega
   have : a = b := by
    rw [List.take_length, hl, List.take_length] at hn
    exact hn
   rw [decide_eq_true this]
   simp (disch := omega) [br_yes, br_no, wrap_i64, wrap_u8, wrap_i32, List.getElem?_cons_zero, List.getElem?_cons_succ, is_len, hl]
 ·have hne : ¬ a = b := fun he => hl (by rw [he])
  rw [decide_eq_false hne]
  simp (disch := omega) [br_yes, br_no, wrap_i64, wrap_u8, wrap_i32, List.getElem?_cons_zero, List.getElem?_cons_succ, is_len, hl]
theorem fn_SameDays (a b : List Dn) (ha : a.length < 1000000) (hb : b.length < 1000000) : Fn G Tryz.prog k_ref20_SameDays [.slice (dns a), .slice (dns b)] (.bool (decide (a = b))) := by
 refine fn_intro hm ok_ref20_SameDays (by simp) ?_
 simp [c_ref20_SameDays, r_ref20_SameDays, dns_len]
 by_cases hl : a.length = b.length
 ·simp (disch := omega) [br_yes, br_no, wrap_i64, wrap_u8, wrap_i32, List.getElem?_cons_zero, List.getElem?_cons_succ, dns_len, hl]
  refine loopU hm [] (fun i : Nat => [(5, .val (.int .i64 i))]) (fun _ => []) (fun i => i ≤ a.length ∧ a.take i = b.take i) (fun i => a.length - i) 0 ⟨by omega, by simp⟩ ?_ ?_
  ·simp
   exact weak_drop rfl rfl (by simp [EnvLe, getE, look]) (by simp [ObLe, look]) (by simp [roOk])
  rintro i ⟨hi, hn⟩
  simp [dns_len]
  by_cases h : i < a.length
  ·have h' : i < b.length := by omega
   obtain ⟨x, hx⟩ : ∃ x, a[i] = x := ⟨_, rfl⟩
   obtain ⟨y, hy⟩ : ∃ y, b[i] = y := ⟨_, rfl⟩
   have hg := dns_get h hx
   have hg' := dns_get h' hy
   by_cases e1 : x.1 = y.1
   ·by_cases e2 : x.2 = y.2
    ·have e : x = y := Prod.ext e1 e2
     simp (disch := omega) [br_yes, br_no, wrap_i64, wrap_u8, wrap_i32, List.getElem?_cons_zero, List.getElem?_cons_succ, dns_len, hg, hg', e1, e2]
     refine loopEnd (i + 1) ⟨by omega, take_eq_step hn h h' (by rw [hx, hy, e])⟩ (by omega) ?_
     simp
     exact weak_drop rfl rfl (by simp [EnvLe, getE, look]) (by simp [ObLe, look]) (by simp [roOk])
    ·have hne : ¬ a = b := fun he => e2 (by subst he; rw [← hx, ← hy])
     rw [decide_eq_false hne]
     simp (disch := omega) [br_yes, br_no, wrap_i64, wrap_u8, wrap_i32, List.getElem?_cons_zero, List.getElem?_cons_succ, dns_len, hg, hg', e1, e2]
   ·have hne : ¬ a = b := fun he => e1 (by subst he; rw [← hx, ← hy])
    rw [decide_eq_false hne]
    simp (disch := omega) [br_yes, br_no, wrap_i64, wrap_u8, wrap_i32, List.getElem?_cons_zero, List.getElem?_cons_succ, dns_len, hg, hg', e1]
  ·obtain rfl : i = a.length := by omega
   have : a = b := by
    rw [List.take_length, hl, List.take_length] at hn
    exact hn
   rw [decide_eq_true this]
   simp (disch := omega) [br_yes, br_no, wrap_i64, wrap_u8, wrap_i32, List.getElem?_cons_zero, List.getElem?_cons_succ, dns_len, hl]
 ·have hne : ¬ a = b := fun he => hl (by rw [he])
  rw [decide_eq_false hne]
  simp (disch := omega) [br_yes, br_no, wrap_i64, wrap_u8, wrap_i32, List.getElem?_cons_zero, List.getElem?_cons_succ, dns_len, hl]
theorem dns_take_succ {l : List Dn} {i : Nat} {x : Dn} (h : i < l.length) (hx : l[i] = x) : dns (l.take (i + 1)) = dns (l.take i) ++ [[.int .i64 x.1, .int .i64 x.2]] := by
 rw [List.take_succ_eq_append_getElem h, hx, dns_snoc]
theorem fn_nOwn (l : List Dn) (hl : l.length < 100000) : Fn G Tryz.prog k_law20_Own [.slice (dns l)] (.slice (dns l)) := by
 refine fn_intro hm ok_law20_Own (by simp) ?_
 simp [c_law20_Own, r_law20_Own, dns_len]
 refine loopU hm [] (fun i : Nat => [(4, .val (.int .i64 i)), (3, .own 3 i)]) (fun i => [(3, .arr i 2 (dns (l.take i)))]) (fun i => i ≤ l.length) (fun i => l.length - i) 0 (by omega) ?_ ?_
 ·simp [dns]
  exact Weak.trans (weak_adopt (k := 3) 3 2 (by simp) (by simp [getE, look])) (weak_drop rfl rfl (by simp [St.adopt, EnvLe, getE, look, put, eraseE, SV.erase]) (by simp [St.adopt, ObLe, look, put, eraseO, Ob.erase]) (by simp [St.adopt, roOk]))
 intro i hi
 simp [dns_len]
 by_cases h : i < l.length
 ·obtain ⟨x, hx⟩ : ∃ x, l[i] = x := ⟨_, rfl⟩
  have hg := dns_get h hx
  have ht := dns_take_succ h hx
  simp (disch := omega) [br_yes, br_no, wrap_i64, wrap_u8, wrap_i32, List.getElem?_cons_zero, List.getElem?_cons_succ, dns_len, hg]
  refine ⟨by omega, ?_⟩
  refine loopEnd (i + 1) (by omega) (by omega) ?_
  simp [ht]
  exact weak_drop rfl rfl (by simp [EnvLe, getE, look]) (by simp [ObLe, look]) (by simp [roOk])
 ·obtain rfl : i = l.length := by omega
  simp (disch := omega) [br_yes, br_no, wrap_i64, wrap_u8, wrap_i32, List.getElem?_cons_zero, List.getElem?_cons_succ, dns_len]
theorem fn_nBack (l : List Dn) (hl : l.length < 100000) : Fn G Tryz.prog k_law20_Back [.slice (dns l)] (.slice (dns l)) := by
 refine fn_intro hm ok_law20_Back (by simp) ?_
 simp [c_law20_Back, r_law20_Back, dns_len]
 refine loopU hm [] (fun i : Nat => [(4, .val (.int .i64 i)), (3, .own 3 i)]) (fun i => [(3, .arr i 2 (dns (l.take i)))]) (fun i => i ≤ l.length) (fun i => l.length - i) 0 (by omega) ?_ ?_
 ·simp [dns]
  exact Weak.trans (weak_adopt (k := 3) 3 2 (by simp) (by simp [getE, look])) (weak_drop rfl rfl (by simp [St.adopt, EnvLe, getE, look, put, eraseE, SV.erase]) (by simp [St.adopt, ObLe, look, put, eraseO, Ob.erase]) (by simp [St.adopt, roOk]))
 intro i hi
 simp [dns_len]
 by_cases h : i < l.length
 ·obtain ⟨x, hx⟩ : ∃ x, l[i] = x := ⟨_, rfl⟩
  have hg := dns_get h hx
  have ht := dns_take_succ h hx
  simp (disch := omega) [br_yes, br_no, wrap_i64, wrap_u8, wrap_i32, List.getElem?_cons_zero, List.getElem?_cons_succ, dns_len, hg]
  refine ⟨by omega, ?_⟩
  refine loopEnd (i + 1) (by omega) (by omega) ?_
  simp [ht]
  exact weak_drop rfl rfl (by simp [EnvLe, getE, look]) (by simp [ObLe, look]) (by simp [roOk])
 ·obtain rfl : i = l.length := by omega
  simp (disch := omega) [br_yes, br_no, wrap_i64, wrap_u8, wrap_i32, List.getElem?_cons_zero, List.getElem?_cons_succ, dns_len]
end Go.Vs.YtbchceojmblkkaaGreatDoor
