/- The walk of recur's small functions. No conditions. -/
import Derived.Test.YtbchceojmblkkaaGreatDoorRI
import Derived.Test.YtbchceojmblkkaaGreatDoorRF
import Derived.Test.YtbchceojmblkkaaGreatDoorNG
import Derived.Test.YtbchceojmblkkaaGreatDoorNI
import Derived.Test.YtbchceojmblkkaaGreatDoorNC
import Derived.Test.YtbchceojmblkkaaGreatDoorBM
import Derived.Test.YtbchceojmblkkaaGreatDoorBW
import Derived.Test.YtbchceojmblkkaaGreatDoorRows
import Derived.KernelRfl
import Derived.Test.YtbchceojmblkkaaGreatDoorCB
import Derived.Test.YtbchceojmblkkaaGreatDoorNA
import Derived.Test.YtbchceojmblkkaaGreatDoorND
import Derived.Test.YtbchceojmblkkaaGreatDoorRA
set_option linter.unusedVariables false
set_option linter.unusedSimpArgs false
namespace Go.Vs.U8
end Go.Vs.U8
namespace Go.Vs.Pa
end Go.Vs.Pa
namespace Go.Vs.Cv
end Go.Vs.Cv
namespace Go.Vs.Mo
end Go.Vs.Mo
namespace Go.Vs.Nu
end Go.Vs.Nu
namespace Go.Vs.YtbchceojmblkkaaGreatDoor.Rc
set_option linter.unusedSimpArgs false
set_option linter.unusedVariables false
open Go.Proofs Go.Vs.U8 Go.Vs.Pa Go.Vs.Cv Go.Vs.Mo Go.Vs.Nu
set_option maxRecDepth 100000
set_option maxHeartbeats 16000000
theorem fn_size (n : Int) (h : -1000000000000 ≤ n) : Fn G2 Tryz.prog k_recur_size [.int .i64 n] (.int .i64 (n.natAbs : Nat)) := by
 refine fn_intro hm ok_recur_size (by simp) ?_
 simp [c_recur_size, r_recur_size]
 by_cases h0 : n < 0
 ·have e : (n.natAbs : Int) = -n := by omega
  rw [e]
  simp (disch := omega) [wl, h0]
 ·have e : (n.natAbs : Int) = n := by omega
  rw [e]
  simp (disch := omega) [wl, h0]
def wiI (k : Nat) : IV := .agg [.int .i64 (wlo k), .int .i64 (whi k), .bool (wsg k)]
theorem fn_within (k : Nat) (h : k < 14) : Fn G2 Tryz.prog k_recur_within [.int .i64 k] (wiI k) := by
 refine fn_intro hm ok_recur_within (by simp) ?_
 simp [c_recur_within, r_recur_within]
 rcases k14 h with rfl | rfl | rfl | rfl | rfl | rfl | rfl | rfl | rfl | rfl | rfl | rfl | rfl | rfl <;>
 ·simp (disch := omega) [wl]
  rfl
theorem k7 {k : Nat} (h : k ≤ 6) : k = 0 ∨ k = 1 ∨ k = 2 ∨ k = 3 ∨ k = 4 ∨ k = 5 ∨ k = 6 := by omega
theorem fn_word (k : Nat) (h : k ≤ 6) : Fn G2 Tryz.prog k_recur_word [.int .u8 k] (.str (wordK k)) := by
 refine fn_intro hm ok_recur_word (by simp) ?_
 simp [c_recur_word, r_recur_word]
 rcases k7 h with rfl | rfl | rfl | rfl | rfl | rfl | rfl <;>
 ·simp (disch := omega) [wl]
  rfl
theorem fn_Word (k : Nat) (h : k ≤ 6) : Fn G2 Tryz.prog k_ref21_Word [.int .i64 k] (.str (wordK k)) := by
 refine fn_intro hm ok_ref21_Word (by simp) ?_
 simp [c_ref21_Word, r_ref21_Word]
 rcases k7 h with rfl | rfl | rfl | rfl | rfl | rfl | rfl <;>
 ·simp (disch := omega) [wl]
  rfl
theorem fn_Index_S (l : List Str) (x : Str) (hl : l.length < 1000000) : Fn G2 Tryz.prog k_slices_Index_string [.slice (ts l), .str x] (.int .i64 (ixZ l x)) := by
 refine fn_intro hm ok_slices_Index_string (by simp) ?_
 simp [c_slices_Index_string, r_slices_Index_string, ts_len]
 refine loopU hm [] (fun i : Nat => [(8, .val (.int .i64 i))]) (fun _ => []) (fun i => i ≤ l.length ∧ x ∉ l.take i) (fun i => l.length - i) 0 ⟨by omega, by simp⟩ ?_ ?_
 ·simp
  exact wdr
 rintro i ⟨hi, hn⟩
 simp [ts_len]
 by_cases h : i < l.length
 ·obtain ⟨y, hy⟩ : ∃ y, l[i] = y := ⟨_, rfl⟩
  have hg := ts_get h hy
  by_cases e : x = y
  ·have hq := ix_at h (hy.trans e.symm) hn
   rw [hq]
   simp (disch := omega) [wl, ts_len, hg, e]
  ·simp (disch := omega) [wl, ts_len, hg, e]
   refine loopEnd (i + 1) ⟨by omega, take_no h hy hn e⟩ (by omega) ?_
   simp
   exact wdr
 ·obtain rfl : i = l.length := by omega
  rw [List.take_length] at hn
  rw [ix_no hn]
  simp (disch := omega) [wl]
theorem fn_partOf (x : Str) : Fn G2 Tryz.prog k_recur_partOf [.str x] (.int .i64 (ixZ names x)) := by
 refine fn_intro hm ok_recur_partOf (by simp) ?_
 have hI := fn_Index_S names x (by decide)
 simp [c_recur_partOf, r_recur_partOf]
 refine callW_imm hI ?_
 simp (disch := omega) [wl]
theorem fn_names : Fn G2 Tryz.prog k_ref21_names [] (.slice (ts names)) := by
 refine fn_intro hm ok_ref21_names (by simp) ?_
 simp [c_ref21_names, r_ref21_names]
 rfl
def cutI (s : Str) : IV := if 61 ∈ s then .tuple [.str (s.take (s.idxOf 61)), .str (s.drop (s.idxOf 61 + 1)), .bool true] else .tuple [.str s, .str [], .bool false]
theorem idx_no {s : Str} {c : UInt8} (h : c ∉ s) : idxB s c < 0 := (idxB_neg s c).2 h
theorem idxB_mem {s : Str} {c : UInt8} (h : c ∈ s) : idxB s c = (s.idxOf c : Nat) := by
 have hlt := List.idxOf_lt_length_iff.2 h
 refine idxB_of (by rw [List.getElem?_eq_getElem hlt, List.getElem_idxOf hlt]) fun hm' => ?_
 rw [List.mem_take_iff_getElem] at hm'
 obtain ⟨j, hj, e⟩ := hm'
 have := List.not_of_lt_findIdx (p := (· == c)) (xs := s) (i := j) (by show j < s.idxOf c; omega)
 simp [e] at this
theorem fn_slCut (s : Str) (hs : s.length < 1000000) : Fn G2 Tryz.prog k_internal_stringslite_Cut [.str s, .str [61]] (cutI s) := by
 refine fn_intro hm ok_internal_stringslite_Cut (by simp) ?_
 have hI := up (fn_slIndex s 61)
 simp [c_internal_stringslite_Cut, r_internal_stringslite_Cut]
 refine callW_imm hI ?_
 unfold cutI
 by_cases h : (61 : UInt8) ∈ s
 ·have hlt := List.idxOf_lt_length_iff.2 h
  have e : idxB s 61 = (s.idxOf 61 : Nat) := idxB_mem h
  rw [if_pos h, e]
  obtain ⟨K, hK⟩ : ∃ K, s.idxOf 61 = K := ⟨_, rfl⟩
  rw [hK] at hlt ⊢
  simp (disch := omega) [wl]
  omega
 ·have e := idx_no h
  rw [if_neg h]
  simp (disch := omega) [wl]
theorem fn_Cut (s : Str) (hs : s.length < 1000000) : Fn G2 Tryz.prog k_strings_Cut [.str s, .str [61]] (cutI s) := by
 refine fn_intro hm ok_strings_Cut (by simp) ?_
 simp [c_strings_Cut, r_strings_Cut]
 refine callW_imm (fn_slCut s hs) ?_
 unfold cutI
 by_cases h : (61 : UInt8) ∈ s
 ·rw [if_pos h]
  simp (disch := omega) [wl]
 ·rw [if_neg h]
  simp (disch := omega) [wl]
theorem fn_next (s : Str) (a : Nat) (c : UInt8) (ha : a ≤ s.length) (hs : s.length < 1000000) : Fn G2 Tryz.prog k_ref21_next [.str s, .int .i64 a, .int .u8 c.toNat] (.int .i64 ((a + (s.drop a).idxOf c : Nat) : Nat)) := by
 refine fn_intro hm ok_ref21_next (by simp) ?_
 obtain ⟨R, hR⟩ : ∃ R, a + (s.drop a).idxOf c = R := ⟨_, rfl⟩
 rw [hR]
 simp [c_ref21_next, r_ref21_next]
 refine loopU hm [] (fun i : Nat => [(1, .val (.int .i64 i))]) (fun _ => []) (fun i => i ≤ s.length ∧ i + (s.drop i).idxOf c = R) (fun i => s.length - i) a ⟨by omega, hR⟩ ?_ ?_
 ·simp
  exact wdr
 rintro i ⟨hi, hc⟩
 simp
 by_cases h : i < s.length
 ·obtain ⟨x, hx⟩ : ∃ x, s[i] = x := ⟨_, rfl⟩
  have hd : s.drop i = x :: s.drop (i + 1) := by rw [← hx]; exact List.drop_eq_getElem_cons h
  rw [hd] at hc
  by_cases e : x = c
  ·subst e
   rw [List.idxOf_cons_self] at hc
   have hc' : i = R := hc
   subst hc'
   simp (disch := omega) [wl, hx]
  ·have e2 : ¬ x.toNat = c.toNat := fun h => e (UInt8.toNat_inj.1 h)
   rw [List.idxOf_cons, show (x == c) = false from by simpa using e, cond_false] at hc
   simp (disch := omega) [wl, hx, e2, e]
   refine loopEnd (i + 1) ⟨by omega, by omega⟩ (by omega) ?_
   simp
   exact wdr
 ·obtain rfl : i = s.length := by omega
  rw [List.drop_length] at hc
  have hc' : s.length = R := hc
  subst hc'
  simp (disch := omega) [wl]
end Go.Vs.YtbchceojmblkkaaGreatDoor.Rc
namespace Go.Vs.YtbchceojmblkkaaGreatDoor.Rc
set_option linter.unusedSimpArgs false
set_option linter.unusedVariables false
open Go.Proofs Go.Vs.U8 Go.Vs.Pa Go.Vs.Cv Go.Vs.Mo Go.Vs.Nu
set_option maxRecDepth 100000
set_option maxHeartbeats 16000000
theorem fn_EqualI (a b : List Int) (ha : a.length < 1000000) (hb : b.length < 1000000) : Fn G2 Tryz.prog k_slices_Equal_int [.slice (is a), .slice (is b)] (.bool (decide (a = b))) := by
 refine fn_intro hm ok_slices_Equal_int (by simp) ?_
 simp [c_slices_Equal_int, r_slices_Equal_int, is_len]
 by_cases hl : a.length = b.length
 ·simp (disch := omega) [wl, is_len, hl]
  refine loopU hm [] (fun i : Nat => [(13, .val (.int .i64 i))]) (fun i => []) (fun i => i ≤ a.length ∧ a.take i = b.take i) (fun i => a.length - i) 0 ⟨by omega, by simp⟩ ?_ ?_
  ·simp
   exact wdr
  rintro i ⟨hi, ht⟩
  simp [is_len]
  by_cases h : i < a.length
  ·have h' : i < b.length := by omega
   obtain ⟨x, hx⟩ : ∃ x, a[i] = x := ⟨_, rfl⟩
   obtain ⟨y, hy⟩ : ∃ y, b[i] = y := ⟨_, rfl⟩
   have g1 := is_get h hx
   have g2 := is_get h' hy
   by_cases e : x = y
   ·have hs := take_eq_step ht h h' (by rw [hx, hy, e])
    simp (disch := omega) [wl, is_len, g1, g2, e]
    refine loopEnd (i + 1) ⟨by omega, hs⟩ (by omega) ?_
    simp
    exact wdr
   ·have hne : ¬ a = b := fun hab => e (by subst hab; rw [← hx, ← hy])
    simp (disch := omega) [wl, is_len, g1, g2, e, hne]
  ·obtain rfl : i = a.length := by omega
   have : a = b := by rw [List.take_length, hl, List.take_length] at ht; exact ht
   simp (disch := omega) [wl, this]
 ·have hne : ¬ a = b := fun hab => hl (by rw [hab])
  simp (disch := omega) [wl, is_len, hl, hne]
theorem fn_EqualD (a b : List Dn) (ha : a.length < 1000000) (hb : b.length < 1000000) : Fn G2 Tryz.prog k_slices_Equal_DayNum [.slice (dns a), .slice (dns b)] (.bool (decide (a = b))) := by
 refine fn_intro hm ok_slices_Equal_DayNum (by simp) ?_
 simp [c_slices_Equal_DayNum, r_slices_Equal_DayNum, dns_len]
 by_cases hl : a.length = b.length
 ·simp (disch := omega) [wl, dns_len, hl]
  refine loopU hm [] (fun i : Nat => [(13, .val (.int .i64 i))]) (fun i => []) (fun i => i ≤ a.length ∧ a.take i = b.take i) (fun i => a.length - i) 0 ⟨by omega, by simp⟩ ?_ ?_
  ·simp
   exact wdr
  rintro i ⟨hi, ht⟩
  simp [dns_len]
  by_cases h : i < a.length
  ·have h' : i < b.length := by omega
   obtain ⟨x, hx⟩ : ∃ x, a[i] = x := ⟨_, rfl⟩
   obtain ⟨y, hy⟩ : ∃ y, b[i] = y := ⟨_, rfl⟩
   have hg := dns_get h hx
   have hg' := dns_get h' hy
   by_cases e1 : x.1 = y.1
   ·by_cases e2 : x.2 = y.2
    ·have e : x = y := Prod.ext e1 e2
     simp (disch := omega) [wl, dns_len, hg, hg', e1, e2]
     refine loopEnd (i + 1) ⟨by omega, take_eq_step ht h h' (by rw [hx, hy, e])⟩ (by omega) ?_
     simp
     exact wdr
    ·have hne : ¬ a = b := fun he => e2 (by subst he; rw [← hx, ← hy])
     rw [decide_eq_false hne]
     simp (disch := omega) [wl, dns_len, hg, hg', e1, e2]
   ·have hne : ¬ a = b := fun he => e1 (by subst he; rw [← hx, ← hy])
    rw [decide_eq_false hne]
    simp (disch := omega) [wl, dns_len, hg, hg', e1]
  ·obtain rfl : i = a.length := by omega
   have : a = b := by rw [List.take_length, hl, List.take_length] at ht; exact ht
   simp (disch := omega) [wl, this]
 ·have hne : ¬ a = b := fun hab => hl (by rw [hab])
  simp (disch := omega) [wl, dns_len, hl, hne]
theorem fn_fits1 (x : Dn) : Fn G2 Tryz.prog k__errand_recur_Rule_fits_1 [.agg [.int .i64 x.1, .int .i64 x.2]] (.bool (decide (x.1 ≠ 0))) := by
 refine fn_intro hm ok__errand_recur_Rule_fits_1 (by simp) ?_
 simp [c__errand_recur_Rule_fits_1, r__errand_recur_Rule_fits_1]
def numP (x : Dn) : Bool := decide (x.1 ≠ 0)
theorem numbered_at {l : List Dn} {i : Nat} {x : Dn} (h : i < l.length) (hx : l[i] = x) : numbered (l.drop i) = (numP x || numbered (l.drop (i + 1))) := by
 rw [List.drop_eq_getElem_cons h, hx]
 rfl
def ixD (l : List Dn) : Int := if l.findIdx numP < l.length then (l.findIdx numP : Nat) else -1
theorem ixD_any (l : List Dn) : 0 ≤ ixD l ↔ numbered l = true := by
 have he := List.findIdx_lt_length (p := numP) (xs := l)
 show _ ↔ l.any numP = true
 rw [List.any_eq_true]
 unfold ixD
 by_cases h : l.findIdx numP < l.length
 ·rw [if_pos h]
  exact ⟨fun _ => he.1 h, fun _ => by omega⟩
 ·rw [if_neg h]
  exact ⟨fun h' => by omega, fun h' => absurd (he.2 h') h⟩
theorem fn_IndexFuncD (l : List Dn) (hl : l.length < 1000000) : Fn G2 Tryz.prog k_slices_IndexFunc_DayNum [.slice (dns l), .fn k__errand_recur_Rule_fits_1 []] (.int .i64 (ixD l)) := by
 refine fn_intro hm ok_slices_IndexFunc_DayNum (by simp) ?_
 have hle := List.findIdx_le_length (p := numP) (xs := l)
 simp [c_slices_IndexFunc_DayNum, r_slices_IndexFunc_DayNum, dns_len]
 refine loopU hm [] (fun i : Nat => [(8, .val (.int .i64 i))]) (fun _ => []) (fun i => i ≤ l.findIdx numP) (fun i => l.length - i) 0 (by omega) ?_ ?_
 ·simp
  exact wdr
 intro i hi
 simp [dns_len]
 by_cases h : i < l.length
 ·obtain ⟨x, hx⟩ : ∃ x, l[i] = x := ⟨_, rfl⟩
  have hg := dns_get h hx
  have hF : Fn G2 Tryz.prog k__errand_recur_Rule_fits_1 [.agg [.int .i64 x.1, .int .i64 x.2]] (.bool (numP x)) := fn_fits1 x
  by_cases hp : numP x = true
  ·have e : l.findIdx numP = i := by
    have : ¬ i < l.findIdx numP := fun hlt => by
     have := List.not_of_lt_findIdx hlt
     rw [hx] at this
     simp [hp] at this
    omega
   have hR : ixD l = i := by unfold ixD; rw [e, if_pos h]
   rw [hR]
   rw [hp] at hF
   simp (disch := omega) [wl, dns_len, hg]
   refine callW_imm hF ?_
   simp (disch := omega) [wl]
  ·have e : l.findIdx numP ≠ i := fun e => by
    have := List.findIdx_getElem (p := numP) (xs := l) (w := by omega)
    simp only [e, hx] at this
    exact hp this
   have hp' : numP x = false := by simpa using hp
   rw [hp'] at hF
   simp (disch := omega) [wl, dns_len, hg]
   refine callW_imm hF ?_
   simp (disch := omega) [wl]
   refine loopEnd (i + 1) (by omega) (by omega) ?_
   simp
   exact wdr
 ·have hR : ixD l = -1 := by unfold ixD; rw [if_neg (by omega)]
  rw [hR]
  simp (disch := omega) [wl, dns_len]
theorem fn_ContainsFuncD (l : List Dn) (hl : l.length < 1000000) : Fn G2 Tryz.prog k_slices_ContainsFunc_DayNum [.slice (dns l), .fn k__errand_recur_Rule_fits_1 []] (.bool (numbered l)) := by
 refine fn_intro hm ok_slices_ContainsFunc_DayNum (by simp) ?_
 have hI := fn_IndexFuncD l hl
 have : numbered l = decide (0 ≤ ixD l) := by
  rw [Bool.eq_iff_iff, decide_eq_true_eq]
  exact (ixD_any l).symm
 rw [this]
 simp [c_slices_ContainsFunc_DayNum, r_slices_ContainsFunc_DayNum]
 refine callW_imm hI ?_
 simp
theorem fn_dnumbered (l : List Dn) (hl : l.length < 1000000) : Fn G2 Tryz.prog k_ref21_numbered [.slice (dns l)] (.bool (numbered l)) := by
 refine fn_intro hm ok_ref21_numbered (by simp) ?_
 obtain ⟨R, hR⟩ : ∃ R, numbered l = R := ⟨_, rfl⟩
 rw [hR]
 simp [c_ref21_numbered, r_ref21_numbered, dns_len]
 refine loopU hm [] (fun i : Nat => [(3, .val (.int .i64 i))]) (fun _ => []) (fun i => i ≤ l.length ∧ numbered (l.drop i) = R) (fun i => l.length - i) 0 ⟨by omega, by simpa using hR⟩ ?_ ?_
 ·simp
  exact wdr
 rintro i ⟨hi, hc⟩
 simp [dns_len]
 by_cases h : i < l.length
 ·obtain ⟨x, hx⟩ : ∃ x, l[i] = x := ⟨_, rfl⟩
  have hg := dns_get h hx
  rw [numbered_at h hx] at hc
  by_cases e : x.1 = 0
  ·have hp : numP x = false := by simp [numP, e]
   rw [hp, Bool.false_or] at hc
   simp (disch := omega) [wl, dns_len, hg, e]
   refine loopEnd (i + 1) ⟨by omega, hc⟩ (by omega) ?_
   simp
   exact wdr
  ·have hp : numP x = true := by simp [numP, e]
   rw [hp, Bool.true_or] at hc
   subst hc
   simp (disch := omega) [wl, dns_len, hg, e]
 ·obtain rfl : i = l.length := by omega
  rw [List.drop_length] at hc
  have hc' : false = R := hc
  subst hc'
  simp (disch := omega) [wl, dns_len]
theorem fn_first (l : List Int) (hl : l.length < 1000000) : Fn G2 Tryz.prog k_ref21_first [.slice (is l)] (.int .i64 (firstE l)) := by
 refine fn_intro hm ok_ref21_first (by simp) ?_
 obtain ⟨R, hR⟩ : ∃ R, firstE l = R := ⟨_, rfl⟩
 rw [hR]
 simp [c_ref21_first, r_ref21_first, is_len]
 refine loopU hm [] (fun i : Nat => [(3, .val (.int .i64 i))]) (fun _ => []) (fun i => i ≤ l.length ∧ firstE (l.drop i) = R) (fun i => l.length - i) 0 ⟨by omega, by simpa using hR⟩ ?_ ?_
 ·simp
  exact wdr
 rintro i ⟨hi, hc⟩
 simp [is_len]
 by_cases h : i < l.length
 ·obtain ⟨x, hx⟩ : ∃ x, l[i] = x := ⟨_, rfl⟩
  have hg := is_get h hx
  rw [List.drop_eq_getElem_cons h, hx, firstE] at hc
  by_cases e : x = 0
  ·rw [if_pos e] at hc
   simp (disch := omega) [wl, is_len, hg, e]
   refine loopEnd (i + 1) ⟨by omega, hc⟩ (by omega) ?_
   simp
   exact wdr
  ·rw [if_neg e] at hc
   subst hc
   simp (disch := omega) [wl, is_len, hg, e]
 ·obtain rfl : i = l.length := by omega
  rw [List.drop_length] at hc
  have hc' : 0 = R := hc
  subst hc'
  simp (disch := omega) [wl, is_len]
end Go.Vs.YtbchceojmblkkaaGreatDoor.Rc
namespace Go.Vs.YtbchceojmblkkaaGreatDoor.Rc
set_option linter.unusedSimpArgs false
set_option linter.unusedVariables false
open Go.Proofs Go.Vs.U8 Go.Vs.Pa Go.Vs.Cv Go.Vs.Mo Go.Vs.Nu
set_option maxRecDepth 100000
set_option maxHeartbeats 16000000
theorem nd_bad {α : Type} {l : List α} {i : Nat} {x : α} (h : i < l.length) (hx : l[i] = x) (hm' : x ∈ l.take i) : ¬ l.Nodup := fun hn => by
 have h1 := (List.take_sublist (i + 1) l).nodup hn
 rw [List.take_succ_eq_append_getElem h, hx] at h1
 exact (List.nodup_append.1 h1).2.2 x hm' x (by simp) rfl
theorem nd_step {α : Type} {l : List α} {i : Nat} {x : α} (h : i < l.length) (hx : l[i] = x) (hn : (l.take i).Nodup) (hm' : x ∉ l.take i) : (l.take (i + 1)).Nodup := by
 rw [List.take_succ_eq_append_getElem h, hx]
 refine List.nodup_append.2 ⟨hn, by simp, ?_⟩
 intro a ha b hb
 simp at hb
 subst hb
 exact fun e => hm' (e ▸ ha)
theorem any_at {α : Type} {l : List α} {p : α → Bool} {i : Nat} {x : α} (h : i < l.length) (hx : l[i] = x) : (l.drop i).any p = (p x || (l.drop (i + 1)).any p) := by
 rw [List.drop_eq_getElem_cons h, hx, List.any_cons]
theorem is_takeI (l : List Int) (i : Nat) : (is l).take i = is (l.take i) := by simp [is]
theorem dns_takeI (l : List Dn) (i : Nat) : (dns l).take i = dns (l.take i) := by simp [dns]
theorem is_row (l : List Int) : ∀ row ∈ is l, row.length = 1 := fun r hr => by
 simp only [is, List.mem_map] at hr
 obtain ⟨_, _, rfl⟩ := hr
 rfl
theorem dns_row (l : List Dn) : ∀ row ∈ dns l, row.length = 2 := fun r hr => by
 simp only [dns, List.mem_map] at hr
 obtain ⟨_, _, rfl⟩ := hr
 rfl
theorem fn_sound (l : List Int) (lo hi : Int) (sg : Bool) (hl : l.length < 1000000) (h1 : 0 ≤ lo) (h2 : lo ≤ 1) (h3 : 0 ≤ hi) (h4 : hi ≤ 1000) : Fn G2 Tryz.prog k_recur_sound [.slice (is l), .agg [.int .i64 lo, .int .i64 hi, .bool sg]] (.int .i64 (soundL lo hi sg l)) := by
 refine fn_intro hm ok_recur_sound (by simp) ?_
 obtain ⟨R, hR⟩ : ∃ R, soundL lo hi sg l = R := ⟨_, rfl⟩
 rw [hR]
 unfold soundL at hR
 simp [c_recur_sound, r_recur_sound, is_len]
 by_cases h0 : 12 < l.length
 ·rw [if_pos h0] at hR
  subst hR
  simp (disch := omega) [wl, is_len]
 ·rw [if_neg h0] at hR
  simp (disch := omega) [wl, is_len]
  refine loopU hm [] (fun i : Nat => [(14, .val (.int .i64 i))]) (fun _ => [(3, .box [.val (.int .i64 lo), .val (.int .i64 hi), .val (.bool sg)])]) (fun i => i ≤ l.length ∧ (l.drop i).any (outL lo hi sg) = l.any (outL lo hi sg)) (fun i => l.length - i) 0 ⟨by omega, by simp⟩ ?_ ?_
  ·simp
   exact wdr
  rintro i ⟨hq, hc⟩
  simp [is_len]
  by_cases h : i < l.length
  ·obtain ⟨n, hx⟩ : ∃ n, l[i] = n := ⟨_, rfl⟩
   have hg := is_get h hx
   rw [any_at h hx] at hc
   have next : outL lo hi sg n = false → (l.drop (i + 1)).any (outL lo hi sg) = l.any (outL lo hi sg) := fun e => by rw [← hc, e, Bool.false_or]
   have bad : outL lo hi sg n = true → R = 8 := fun e => by
    rw [← hc, e, Bool.true_or, if_pos rfl] at hR
    exact hR.symm
   by_cases a1 : n < -hi
   ·have := bad (by simp [outL]; omega)
    subst this
    simp (disch := omega) [wl, is_len, hg]
    rfl
   ·have hS := fn_size n (by omega)
    obtain ⟨u, hu⟩ : ∃ u, n.natAbs = u := ⟨_, rfl⟩
    rw [hu] at hS
    simp (disch := omega) [wl, is_len, hg]
    refine callW_imm hS ?_
    by_cases a2 : (u : Int) < lo
    ·have := bad (by simp [outL, hu]; omega)
     subst this
     simp (disch := omega) [wl]
     rfl
    ·simp (disch := omega) [wl]
     refine callW_imm hS ?_
     by_cases a3 : hi < (u : Int)
     ·have := bad (by simp [outL, hu]; omega)
      subst this
      simp (disch := omega) [wl]
      rfl
     ·by_cases a4 : n < 0
      ·cases sg with
       | false =>
        have := bad (by simp [outL, hu]; omega)
        subst this
        simp (disch := omega) [wl, a4]
        rfl
       | true =>
        have hn := next (by simp [outL, hu]; omega)
        simp (disch := omega) [wl, a4]
        refine ⟨rfl, ?_⟩
        refine loopEnd (i + 1) ⟨by omega, hn⟩ (by omega) ?_
        simp
        exact wdr
      ·have hn := next (by simp [outL, hu]; omega)
       simp (disch := omega) [wl, a4]
       refine ⟨rfl, ?_⟩
       refine loopEnd (i + 1) ⟨by omega, hn⟩ (by omega) ?_
       simp
       exact wdr
  ·obtain rfl : i = l.length := by omega
   rw [List.drop_length] at hc
   rw [← hc, if_neg (by simp)] at hR
   simp (disch := omega) [wl, is_len]
   refine loopU hm [] (fun i : Nat => [(49, .val (.int .i64 i))]) (fun _ => []) (fun i => i ≤ l.length ∧ (l.take i).Nodup) (fun i => l.length - i) 0 ⟨by omega, by simp⟩ ?_ ?_
   ·simp
    exact wdr
   rintro i ⟨hq, hc⟩
   simp [is_len]
   by_cases h : i < l.length
   ·obtain ⟨n, hx⟩ : ∃ n, l[i] = n := ⟨_, rfl⟩
    have hg := is_get h hx
    have hC := up (fn_Contains_int (l.take i) n (by rw [List.length_take]; omega))
    simp (disch := omega) [wl, is_len, hg, is_takeI]
    refine ⟨⟨by omega, is_row l⟩, ?_⟩
    refine callW_imm hC ?_
    by_cases hm' : n ∈ l.take i
    ·rw [if_neg (nd_bad h hx hm')] at hR
     subst hR
     simp (disch := omega) [wl, hm']
    ·simp (disch := omega) [wl, hm']
     refine loopEnd (i + 1) ⟨by omega, nd_step h hx hc hm'⟩ (by omega) ?_
     simp
     exact wdr
   ·obtain rfl : i = l.length := by omega
    rw [List.take_length] at hc
    rw [if_pos hc] at hR
    subst hR
    simp (disch := omega) [wl, is_len]
theorem wk_nil (d : Int) : wkN d = [] ↔ (d < 0 ∨ 6 < d) := by
 constructor
 ·intro h
  by_cases h1 : 0 ≤ d
  ·by_cases h2 : d ≤ 6
   ·have := (wk_back h1 h2).2
    rw [h] at this
    simp at this
   ·omega
  ·omega
 ·intro h
  have h0 : ¬ d = 0 := by omega
  have h1 : ¬ d = 1 := by omega
  have h2 : ¬ d = 2 := by omega
  have h3 : ¬ d = 3 := by omega
  have h4 : ¬ d = 4 := by omega
  have h5 : ¬ d = 5 := by omega
  have h6 : ¬ d = 6 := by omega
  simp [wkN, h0, h1, h2, h3, h4, h5, h6]
  intro a b
  omega
theorem fn_soundDays (l : List Dn) (hl : l.length < 1000000) : Fn G2 Tryz.prog k_recur_soundDays [.slice (dns l)] (.int .i64 (soundD l)) := by
 refine fn_intro hm ok_recur_soundDays (by simp) ?_
 obtain ⟨R, hR⟩ : ∃ R, soundD l = R := ⟨_, rfl⟩
 rw [hR]
 unfold soundD at hR
 simp [c_recur_soundDays, r_recur_soundDays, dns_len]
 by_cases h0 : 12 < l.length
 ·rw [if_pos h0] at hR
  subst hR
  simp (disch := omega) [wl, dns_len]
 ·rw [if_neg h0] at hR
  simp (disch := omega) [wl, dns_len]
  refine loopU hm [] (fun i : Nat => [(12, .val (.int .i64 i))]) (fun _ => []) (fun i => i ≤ l.length ∧ (l.drop i).any outD = l.any outD) (fun i => l.length - i) 0 ⟨by omega, by simp⟩ ?_ ?_
  ·simp
   exact wdr
  rintro i ⟨hq, hc⟩
  simp [dns_len]
  by_cases h : i < l.length
  ·obtain ⟨x, hx⟩ : ∃ x, l[i] = x := ⟨_, rfl⟩
   have hg := dns_get h hx
   rw [any_at h hx] at hc
   have next : outD x = false → (l.drop (i + 1)).any outD = l.any outD := fun e => by rw [← hc, e, Bool.false_or]
   have bad : outD x = true → R = 8 := fun e => by
    rw [← hc, e, Bool.true_or, if_pos rfl] at hR
    exact hR.symm
   have hW := up (fn_WeekdayName x.2)
   have hwn := wk_nil x.2
   obtain ⟨t, ht⟩ : ∃ t, wkN x.2 = t := ⟨_, rfl⟩
   rw [ht] at hW hwn
   simp (disch := omega) [wl, dns_len, hg]
   refine callW_imm hW ?_
   by_cases a1 : t = []
   ·have a1' := hwn.1 a1
    have := bad (by simp [outD]; omega)
    subst this
    simp (disch := omega) [wl, a1]
   ·have a1' : ¬ (x.2 < 0 ∨ 6 < x.2) := fun e => a1 (hwn.2 e)
    by_cases a2 : x.1 < -53
    ·have := bad (by simp [outD]; omega)
     subst this
     simp (disch := omega) [wl, a1]
    ·by_cases a3 : 53 < x.1
     ·have := bad (by simp [outD]; omega)
      subst this
      simp (disch := omega) [wl, a1]
     ·have hn := next (by simp [outD]; omega)
      simp (disch := omega) [wl, a1]
      refine loopEnd (i + 1) ⟨by omega, hn⟩ (by omega) ?_
      simp
      exact wdr
  ·obtain rfl : i = l.length := by omega
   rw [List.drop_length] at hc
   rw [← hc, if_neg (by simp)] at hR
   simp (disch := omega) [wl, dns_len]
   refine loopU hm [] (fun i : Nat => [(33, .val (.int .i64 i))]) (fun _ => []) (fun i => i ≤ l.length ∧ (l.take i).Nodup) (fun i => l.length - i) 0 ⟨by omega, by simp⟩ ?_ ?_
   ·simp
    exact wdr
   rintro i ⟨hq, hc⟩
   simp [dns_len]
   by_cases h : i < l.length
   ·obtain ⟨x, hx⟩ : ∃ x, l[i] = x := ⟨_, rfl⟩
    have hg := dns_get h hx
    have hC := up (fn_Contains_Dn (l.take i) x (by rw [List.length_take]; omega))
    simp (disch := omega) [wl, dns_len, hg, dns_takeI]
    refine ⟨⟨by omega, dns_row l⟩, ?_⟩
    refine callW_imm hC ?_
    by_cases hm' : x ∈ l.take i
    ·rw [if_neg (nd_bad h hx hm')] at hR
     subst hR
     simp (disch := omega) [wl, hm']
     rfl
    ·simp (disch := omega) [wl, hm']
     refine ⟨rfl, ?_⟩
     refine loopEnd (i + 1) ⟨by omega, nd_step h hx hc hm'⟩ (by omega) ?_
     simp
     exact wdr
   ·obtain rfl : i = l.length := by omega
    rw [List.take_length] at hc
    rw [if_pos hc] at hR
    subst hR
    simp (disch := omega) [wl, dns_len]
theorem fn_list (l : List Int) (lo hi : Int) (sg : Bool) (hl : l.length < 1000000) (h1 : 0 ≤ lo) (h2 : lo ≤ 1) (h3 : lo ≤ hi) (h4 : hi ≤ 1000) : Fn G2 Tryz.prog k_ref21_list [.slice (is l), .int .i64 lo, .int .i64 hi, .bool sg] (.int .i64 (soundL lo hi sg l)) := by
 refine fn_intro hm ok_ref21_list (by simp) ?_
 obtain ⟨R, hR⟩ : ∃ R, soundL lo hi sg l = R := ⟨_, rfl⟩
 rw [hR]
 unfold soundL at hR
 simp [c_ref21_list, r_ref21_list, is_len]
 by_cases h0 : 12 < l.length
 ·rw [if_pos h0] at hR
  subst hR
  simp (disch := omega) [wl, is_len]
 ·rw [if_neg h0] at hR
  simp (disch := omega) [wl, is_len]
  refine loopU hm [] (fun i : Nat => [(9, .val (.int .i64 i))]) (fun _ => []) (fun i => i ≤ l.length ∧ (l.drop i).any (outL lo hi sg) = l.any (outL lo hi sg)) (fun i => l.length - i) 0 ⟨by omega, by simp⟩ ?_ ?_
  ·simp
   exact wdr
  rintro i ⟨hq, hc⟩
  simp [is_len]
  by_cases h : i < l.length
  ·obtain ⟨n, hx⟩ : ∃ n, l[i] = n := ⟨_, rfl⟩
   have hg := is_get h hx
   have hgi : ∀ hh, (is l)[i]'hh = [.int .i64 n] := fun hh => by simp [is, hx]
   rw [any_at h hx] at hc
   have next : outL lo hi sg n = false → (l.drop (i + 1)).any (outL lo hi sg) = l.any (outL lo hi sg) := fun e => by rw [← hc, e, Bool.false_or]
   have bad : outL lo hi sg n = true → R = 8 := fun e => by
    rw [← hc, e, Bool.true_or, if_pos rfl] at hR
    exact hR.symm
   by_cases a1 : lo ≤ n ∧ n ≤ hi
   ·have hn := next (by simp [outL]; omega)
    obtain ⟨a2, a3⟩ := a1
    simp (disch := omega) [wl, is_len, hg]
    refine loopEnd (i + 1) ⟨by omega, hn⟩ (by omega) ?_
    simp
    exact wdr
   ·cases sg with
    | false =>
     have := bad (by simp [outL]; omega)
     subst this
     by_cases a2 : n < lo
     ·simp (disch := omega) [wl, is_len, hg, hgi, a2]
     ·have a3 : hi < n := by omega
      simp (disch := omega) [wl, is_len, hg, hgi, a2, a3]
    | true =>
     by_cases a4 : -hi ≤ n ∧ n ≤ -lo
     ·have hn := next (by simp [outL]; omega)
      obtain ⟨a5, a6⟩ := a4
      by_cases a2 : n < lo
      ·simp (disch := omega) [wl, is_len, hg, hgi, a2]
       refine loopEnd (i + 1) ⟨by omega, hn⟩ (by omega) ?_
       simp
       exact wdr
      ·exfalso
       omega
     ·have := bad (by simp [outL]; omega)
      subst this
      by_cases a2 : n < lo
      ·by_cases a5 : n < -hi
       ·simp (disch := omega) [wl, is_len, hg, hgi, a2, a5]
       ·have a6 : -lo < n := by omega
        simp (disch := omega) [wl, is_len, hg, hgi, a2, a5, a6]
      ·have a3 : hi < n := by omega
       by_cases a5 : n < -hi
       ·simp (disch := omega) [wl, is_len, hg, hgi, a2, a3, a5]
       ·have a6 : -lo < n := by omega
        simp (disch := omega) [wl, is_len, hg, hgi, a2, a3, a5, a6]
  ·obtain rfl : i = l.length := by omega
   rw [List.drop_length] at hc
   rw [← hc, if_neg (by simp)] at hR
   simp (disch := omega) [wl, is_len]
   refine loopU hm [] (fun i : Nat => [(10, .val (.int .i64 i))]) (fun _ => []) (fun i => i ≤ l.length ∧ (l.take i).Nodup) (fun i => l.length - i) 0 ⟨by omega, by simp⟩ ?_ ?_
   ·simp
    exact wdr
   rintro i ⟨hq, hc⟩
   simp [is_len]
   by_cases h : i < l.length
   ·obtain ⟨n, hx⟩ : ∃ n, l[i] = n := ⟨_, rfl⟩
    have hg := is_get h hx
    have hC := up (fn_rHas (l.take i) n (by rw [List.length_take]; omega))
    simp (disch := omega) [wl, is_len, hg, is_takeI]
    refine ⟨⟨by omega, is_row l⟩, ?_⟩
    refine callW_imm hC ?_
    by_cases hm' : n ∈ l.take i
    ·rw [if_neg (nd_bad h hx hm')] at hR
     subst hR
     simp (disch := omega) [wl, hm']
     try rfl
    ·simp (disch := omega) [wl, hm']
     refine ⟨rfl, ?_⟩
     refine loopEnd (i + 1) ⟨by omega, nd_step h hx hc hm'⟩ (by omega) ?_
     simp
     exact wdr
   ·obtain rfl : i = l.length := by omega
    rw [List.take_length] at hc
    rw [if_pos hc] at hR
    subst hR
    simp (disch := omega) [wl, is_len]
end Go.Vs.YtbchceojmblkkaaGreatDoor.Rc
