/- The walk of Go's trims of digits. No conditions. -/
import Derived.Test.YtbchceojmblkkaaGreatDoorNC
set_option linter.unusedVariables false
set_option linter.unusedSimpArgs false
namespace Go.Vs.U8
end Go.Vs.U8
namespace Go.Vs.Pa
end Go.Vs.Pa
namespace Go.Vs.Nu
end Go.Vs.Nu
namespace Go.Vs.YtbchceojmblkkaaGreatDoor
set_option linter.unusedSimpArgs false
set_option linter.unusedVariables false
open Go.Proofs Go.Vs.U8 Go.Vs.Pa Go.Vs.Nu Go.Lib
set_option maxRecDepth 100000
set_option maxHeartbeats 4000000
def dgs : Str := [48, 49, 50, 51, 52, 53, 54, 55, 56, 57]
theorem dgs_len : dgs.length = 10 := rfl
theorem dgs_ne : ¬ dgs = [] := by simp [dgs]
theorem dgs_at {i : Nat} (h : i < 10) : ∃ c, dgs[i]? = some c ∧ c.toNat = 48 + i := by
 have : i = 0 ∨ i = 1 ∨ i = 2 ∨ i = 3 ∨ i = 4 ∨ i = 5 ∨ i = 6 ∨ i = 7 ∨ i = 8 ∨ i = 9 := by omega
 rcases this with rfl | rfl | rfl | rfl | rfl | rfl | rfl | rfl | rfl | rfl <;> exact ⟨_, rfl, rfl⟩
theorem fn_makeASCII : Fn G Tryz.prog k_strings_makeASCIISet [.str dgs] (.tuple [.agg (zv 10), .bool true]) := by
 refine fn_intro hm ok_strings_makeASCIISet (by simp) ?_
 simp [c_strings_makeASCIISet, r_strings_makeASCIISet, fz256_eq, dgs_len]
 refine loopU hm [] (fun i : Nat => [(4, .val (.int .i64 i))]) (fun i => [(2, .box (zs i))]) (fun i => i ≤ 10) (fun i => 10 - i) 0 (by omega) ?_ ?_
 ·simp [zs_erase]
  exact wdr
 intro i hi
 simp [dgs_len, zs_erase]
 by_cases h : i < 10
 ·obtain ⟨c, hc, hcn⟩ := dgs_at h
  have hst := zs_step i h
  have e0 : (48 + (i : Int)).toNat = 48 + i := by omega
  simp (disch := omega) [wl, dgs_len, hc, hcn, zs_len, hst, e0]
  refine ⟨by omega, by omega, ?_⟩
  refine loopEnd (i + 1) (by omega) (by omega) ?_
  simp [hst]
  exact wdr
 ·obtain rfl : i = 10 := by omega
  simp (disch := omega) [wl, dgs_len, zs_len, zs_take, zs_drop, zs_all, zs_map, zv_take, zs_iv0, zv_len]
theorem fn_asciiContains (c : UInt8) : Fn G Tryz.prog k__strings_asciiSet_contains [.ref (zv 10), .int .u8 c.toNat] (.bool (dig c)) := by
 refine fn_intro hm ok__strings_asciiSet_contains (by simp) ?_
 obtain ⟨r, hr⟩ := zv_drop c
 have hc : c.toNat < 256 := c.toNat_lt
 simp [c__strings_asciiSet_contains, r__strings_asciiSet_contains, hr]
 omega
theorem trimD_snoc (x : Str) (c : UInt8) : trimD (x ++ [c]) = if dig c = true then trimD x else x ++ [c] := by
 unfold trimD
 rw [List.reverse_append]
 cases h : dig c <;> simp [h]
theorem fn_trimRightASCII (s : Str) (hs : s.length < 1000000) : Fn G Tryz.prog k_strings_trimRightASCII [.str s, .ref (zv 10)] (.str (trimD s)) := by
 refine fn_intro hm ok_strings_trimRightASCII (by simp) ?_
 simp [c_strings_trimRightASCII, r_strings_trimRightASCII]
 refine loopU hm [] (fun k : Nat => [(0, .val (.str (s.take k)))]) (fun _ => []) (fun k => k ≤ s.length ∧ trimD (s.take k) = trimD s) (fun k => k) s.length ⟨by omega, by simp⟩ ?_ ?_
 ·simp
  exact wdr
 rintro k ⟨hk, ht⟩
 have hl : (s.take k).length = k := by rw [List.length_take]; omega
 simp [hl]
 cases k with
 | zero =>
  have : trimD s = [] := by rw [← ht]; simp [trimD]
  simp (disch := omega) [wl, this]
 | succ k =>
  have h : k < s.length := by omega
  obtain ⟨c, hc⟩ : ∃ c, s[k] = c := ⟨_, rfl⟩
  have hx : s.take (k + 1) = s.take k ++ [c] := by rw [List.take_succ_eq_append_getElem h, hc]
  have hC := fn_asciiContains c
  have hg : (s.take (k + 1))[k]? = some c := by rw [List.getElem?_take_of_lt (by omega), List.getElem?_eq_getElem h, hc]
  have hkk : (s.take (k + 1)).take k = s.take k := by rw [List.take_take, Nat.min_eq_left (by omega)]
  rw [hx, trimD_snoc] at ht
  obtain ⟨S, hS⟩ : ∃ S, s.take (k + 1) = S := ⟨_, rfl⟩
  rw [hS] at hg hkk hl hx ⊢
  have hgc : S[k]'(by omega) = c := by
   rw [List.getElem?_eq_getElem (by omega)] at hg
   simpa using hg
  simp (disch := omega) [wl, hl, hgc]
  refine callW_imm hC ?_
  cases hd : dig c with
  | true =>
   rw [if_pos hd] at ht
   simp (disch := omega) [wl, hl, hkk]
   refine ⟨by omega, ?_⟩
   refine loopEnd k ⟨by omega, ht⟩ (by omega) ?_
   simp
   exact wdr
  | false =>
   rw [if_neg (by simp [hd]), ← hx] at ht
   simp (disch := omega) [wl, ht]
theorem fn_trimLeftASCII (s : Str) (hs : s.length < 1000000) : Fn G Tryz.prog k_strings_trimLeftASCII [.str s, .ref (zv 10)] (.str (s.dropWhile dig)) := by
 refine fn_intro hm ok_strings_trimLeftASCII (by simp) ?_
 simp [c_strings_trimLeftASCII, r_strings_trimLeftASCII]
 refine loopU hm [] (fun k : Nat => [(0, .val (.str (s.drop k)))]) (fun _ => []) (fun k => k ≤ s.length ∧ (s.drop k).dropWhile dig = s.dropWhile dig) (fun k => s.length - k) 0 ⟨by omega, by simp⟩ ?_ ?_
 ·simp
  exact wdr
 rintro k ⟨hk, ht⟩
 by_cases h : k < s.length
 ·obtain ⟨c, hc⟩ : ∃ c, s[k] = c := ⟨_, rfl⟩
  have hC := fn_asciiContains c
  have htk : (s.drop (k + 1)).take (s.length - (k + 1)) = s.drop (k + 1) := List.take_of_length_le (by rw [List.length_drop]; omega)
  have hd : s.drop k = c :: s.drop (k + 1) := by rw [← hc]; exact List.drop_eq_getElem_cons h
  rw [hd] at ht ⊢
  simp (disch := omega) [wl]
  refine callW_imm hC ?_
  cases hdc : dig c with
  | true =>
   rw [List.dropWhile_cons_of_pos hdc] at ht
   simp (disch := omega) [wl, htk]
   refine ⟨by omega, ?_⟩
   refine loopEnd (k + 1) ⟨by omega, ht⟩ (by omega) ?_
   simp
   exact wdr
  | false =>
   rw [List.dropWhile_cons_of_neg (by simp [hdc])] at ht
   simp (disch := omega) [wl, ← ht]
 ·obtain rfl : k = s.length := by omega
  have : s.dropWhile dig = [] := by rw [← ht, List.drop_length]; rfl
  simp (disch := omega) [wl, this]
def trim2 (s : Str) : Str := (trimD s).dropWhile dig
theorem trimD_len (s : Str) : (trimD s).length ≤ s.length := by
 obtain ⟨d, hd, _⟩ := trimD_prefix s
 have := congrArg List.length hd
 rw [List.length_append] at this
 omega
theorem trim2_nil (s : Str) : trim2 s = [] ↔ s.all dig = true := by
 unfold trim2
 obtain ⟨d, hd, hda⟩ := trimD_prefix s
 constructor
 ·intro h
  have : (trimD s).all dig = true := by
   rw [List.all_eq_true]
   have h2 := List.takeWhile_append_dropWhile (p := dig) (l := trimD s)
   rw [h, List.append_nil] at h2
   intro c hc
   rw [← h2] at hc
   exact List.all_eq_true.1 (List.all_takeWhile (l := trimD s) (p := dig)) c hc
  rw [hd, List.all_append, this, hda]; rfl
 ·intro h
  have h0 : trimD s = [] := by
   have := trimD_digits [] h
   simpa [trimD] using this
  rw [h0]; rfl
theorem fn_Trim (s : Str) (hs : s.length < 1000000) : Fn G Tryz.prog k_strings_Trim [.str s, .str dgs] (.str (trim2 s)) := by
 refine fn_intro hm ok_strings_Trim (by simp) ?_
 simp [c_strings_Trim, r_strings_Trim, fz256_eq, dgs_len, dgs_ne]
 by_cases h : s = []
 ·have : trim2 s = [] := by rw [h]; rfl
  simp (disch := omega) [wl, h]
  simp [trim2, trimD]
 ·simp (disch := omega) [wl, h, dgs_len, dgs_ne]
  refine callW_imm fn_makeASCII ?_
  simp (disch := omega) [wl, zs_erase, zs_len, zs_map, zv_take, zs_take, zs_drop, zs_iv0, zv_len]
  refine callW_imm (fn_trimRightASCII s hs) ?_
  simp (disch := omega) [wl, zs_erase, zs_iv0]
  refine callW_imm (fn_trimLeftASCII (trimD s) (by have := trimD_len s; omega)) ?_
  simp (disch := omega) [wl, trim2]
end Go.Vs.YtbchceojmblkkaaGreatDoor
namespace Go.Vs.YtbchceojmblkkaaGreatDoor
set_option linter.unusedSimpArgs false
set_option linter.unusedVariables false
open Go.Proofs Go.Vs.U8 Go.Vs.Pa Go.Vs.Nu Go.Lib
set_option maxRecDepth 100000
set_option maxHeartbeats 4000000
def is (l : List Int) : List (List IV) := l.map fun n => [.int .i64 n]
def dns (l : List Dn) : List (List IV) := l.map fun x => [.int .i64 x.1, .int .i64 x.2]
theorem is_len (l : List Int) : (is l).length = l.length := by simp [is]
theorem dns_len (l : List Dn) : (dns l).length = l.length := by simp [dns]
theorem is_get {l : List Int} {i : Nat} {n : Int} (h : i < l.length) (hx : l[i] = n) : (is l)[i]? = some [.int .i64 n] := by simp [is, h, hx]
theorem dns_get {l : List Dn} {i : Nat} {x : Dn} (h : i < l.length) (hx : l[i] = x) : (dns l)[i]? = some [.int .i64 x.1, .int .i64 x.2] := by simp [dns, h, hx]
theorem is_snoc (l : List Int) (n : Int) : is (l ++ [n]) = is l ++ [[.int .i64 n]] := by simp [is]
theorem dns_snoc (l : List Dn) (x : Dn) : dns (l ++ [x]) = dns l ++ [[.int .i64 x.1, .int .i64 x.2]] := by simp [dns]
def ixZ {α : Type} [DecidableEq α] (l : List α) (x : α) : Int := if x ∈ l then (l.idxOf x : Int) else -1
theorem ix_at {α : Type} [DecidableEq α] {l : List α} {i : Nat} {x : α} (h : i < l.length) (hx : l[i] = x) (hn : x ∉ l.take i) : ixZ l x = i := by
 have hm : x ∈ l := hx ▸ List.getElem_mem h
 unfold ixZ
 rw [if_pos hm]
 have h1 := List.idxOf_lt_length_iff.2 hm
 have h2 := List.getElem_idxOf h1
 have a : ¬ i < l.idxOf x := fun hl => by
  have := List.not_of_lt_findIdx (p := (· == x)) (xs := l) (i := i) hl
  simp [hx] at this
 have b : ¬ l.idxOf x < i := fun hl => hn (by
  rw [List.mem_take_iff_getElem]
  exact ⟨l.idxOf x, by omega, h2⟩)
 omega
theorem ix_no {α : Type} [DecidableEq α] {l : List α} {x : α} (h : x ∉ l) : ixZ l x = -1 := by unfold ixZ; rw [if_neg h]
theorem ix_pos {α : Type} [DecidableEq α] (l : List α) (x : α) : 0 ≤ ixZ l x ↔ x ∈ l := by
 unfold ixZ
 split
 ·next h => exact ⟨fun _ => h, fun _ => by omega⟩
 ·next h => exact ⟨fun h => by omega, fun h' => absurd h' h⟩
theorem take_no {α : Type} {l : List α} {i : Nat} {x y : α} (h : i < l.length) (hy : l[i] = y) (hn : x ∉ l.take i) (hxy : ¬ x = y) : x ∉ l.take (i + 1) := by
 rw [List.take_succ_eq_append_getElem h, hy]
 simp only [List.mem_append, List.mem_singleton, not_or]
 exact ⟨hn, hxy⟩
theorem fn_Index_int (l : List Int) (x : Int) (hl : l.length < 1000000) : Fn G Tryz.prog k_slices_Index_int [.slice (is l), .int .i64 x] (.int .i64 (ixZ l x)) := by
 refine fn_intro hm ok_slices_Index_int (by simp) ?_
 simp [c_slices_Index_int, r_slices_Index_int, is_len]
 refine loopU hm [] (fun i : Nat => [(8, .val (.int .i64 i))]) (fun _ => []) (fun i => i ≤ l.length ∧ x ∉ l.take i) (fun i => l.length - i) 0 ⟨by omega, by simp⟩ ?_ ?_
 ·simp
  exact wdr
 rintro i ⟨hi, hn⟩
 simp [is_len]
 by_cases h : i < l.length
 ·obtain ⟨y, hy⟩ : ∃ y, l[i] = y := ⟨_, rfl⟩
  have hg := is_get h hy
  by_cases e : x = y
  ·have hq := ix_at h (hy.trans e.symm) hn
   rw [hq]
   simp (disch := omega) [wl, is_len, hg, e]
  ·simp (disch := omega) [wl, is_len, hg, e]
   refine loopEnd (i + 1) ⟨by omega, take_no h hy hn e⟩ (by omega) ?_
   simp
   exact wdr
 ·obtain rfl : i = l.length := by omega
  rw [List.take_length] at hn
  rw [ix_no hn]
  simp (disch := omega) [wl]
theorem fn_Contains_int (l : List Int) (x : Int) (hl : l.length < 1000000) : Fn G Tryz.prog k_slices_Contains_int [.slice (is l), .int .i64 x] (.bool (decide (x ∈ l))) := by
 refine fn_intro hm ok_slices_Contains_int (by simp) ?_
 have : decide (x ∈ l) = decide (0 ≤ ixZ l x) := by rw [decide_eq_decide, ix_pos]
 rw [this]
 simp [c_slices_Contains_int, r_slices_Contains_int]
 refine callW_imm (fn_Index_int l x hl) ?_
 simp
theorem fn_Index_Dn (l : List Dn) (x : Dn) (hl : l.length < 1000000) : Fn G Tryz.prog k_slices_Index_DayNum [.slice (dns l), .agg [.int .i64 x.1, .int .i64 x.2]] (.int .i64 (ixZ l x)) := by
 refine fn_intro hm ok_slices_Index_DayNum (by simp) ?_
 simp [c_slices_Index_DayNum, r_slices_Index_DayNum, dns_len]
 refine loopU hm [] (fun i : Nat => [(8, .val (.int .i64 i))]) (fun _ => []) (fun i => i ≤ l.length ∧ x ∉ l.take i) (fun i => l.length - i) 0 ⟨by omega, by simp⟩ ?_ ?_
 ·simp
  exact wdr
 rintro i ⟨hi, hn⟩
 simp [dns_len]
 by_cases h : i < l.length
 ·obtain ⟨y, hy⟩ : ∃ y, l[i] = y := ⟨_, rfl⟩
  have hg := dns_get h hy
  by_cases e : x = y
  ·have hq := ix_at h (hy.trans e.symm) hn
   rw [hq]
   simp (disch := omega) [wl, dns_len, hg, e]
  ·have e2 : ¬ (x.1 = y.1 ∧ x.2 = y.2) := fun h => e (Prod.ext h.1 h.2)
   by_cases e3 : x.1 = y.1
   ·have e4 : ¬ x.2 = y.2 := fun h => e2 ⟨e3, h⟩
    simp (disch := omega) [wl, dns_len, hg, e3, e4]
    refine loopEnd (i + 1) ⟨by omega, take_no h hy hn e⟩ (by omega) ?_
    simp
    exact weak_drop rfl rfl (by simp [EnvLe, getE, look, e3]) (by simp [ObLe, look, e3]) (by simp [roOk])
   ·simp (disch := omega) [wl, dns_len, hg, e3]
    refine loopEnd (i + 1) ⟨by omega, take_no h hy hn e⟩ (by omega) ?_
    simp
    exact wdr
 ·obtain rfl : i = l.length := by omega
  rw [List.take_length] at hn
  rw [ix_no hn]
  simp (disch := omega) [wl]
theorem fn_Contains_Dn (l : List Dn) (x : Dn) (hl : l.length < 1000000) : Fn G Tryz.prog k_slices_Contains_DayNum [.slice (dns l), .agg [.int .i64 x.1, .int .i64 x.2]] (.bool (decide (x ∈ l))) := by
 refine fn_intro hm ok_slices_Contains_DayNum (by simp) ?_
 have : decide (x ∈ l) = decide (0 ≤ ixZ l x) := by rw [decide_eq_decide, ix_pos]
 rw [this]
 simp [c_slices_Contains_DayNum, r_slices_Contains_DayNum]
 refine callW_imm (fn_Index_Dn l x hl) ?_
 simp
def numI (p : Int × Int) : IV := .tuple [.int .i64 p.1, .int .i64 p.2]
theorem val_snoc (x : Str) (c : UInt8) : valD 0 (x ++ [c]) = 10 * valD 0 x + (c.toNat - 48) := by rw [valD_app, val_one]
theorem val_bd {s : Str} {d : Nat} (h : s.all dig = true) (hl : s.length ≤ d) : valD 0 s < 10 ^ d := by
 have h1 := val_lt s 0 h
 have h2 : 10 ^ s.length ≤ 10 ^ d := Nat.pow_le_pow_right (by omega) hl
 omega
theorem dig_bd {c : UInt8} (h : dig c = true) : 48 ≤ c.toNat ∧ c.toNat ≤ 57 := by simpa [dig] using h
def sgO (sg : Bool) (s : Str) : Bool := sg && (decide (s[0]? = some 43) || decide (s[0]? = some 45))
def bodyO (sg : Bool) (s : Str) : Str := if sgO sg s then s.drop 1 else s
def minO (sg : Bool) (s : Str) : Bool := sg && decide (s[0]? = some 45)
theorem numR_eq (digits : Nat) (lo hi : Int) (sg : Bool) (s : Str) : numR digits lo hi sg s = if bodyO sg s = [] ∨ digits < (bodyO sg s).length ∨ (bodyO sg s).all dig = false then (0, 4)
  else if (valD 0 (bodyO sg s) : Int) < lo ∨ hi < (valD 0 (bodyO sg s) : Int) then (0, 8) else (if minO sg s = true then -(valD 0 (bodyO sg s) : Int) else (valD 0 (bodyO sg s) : Int), 0) := by
 have e : (sgO sg s = true ∧ s[0]? = some 45) ↔ minO sg s = true := by
  simp only [sgO, minO, Bool.and_eq_true, Bool.or_eq_true, decide_eq_true_eq]
  exact ⟨fun h => ⟨h.1.1, h.2⟩, fun h => ⟨⟨h.1, .inr h.2⟩, h.2⟩⟩
 unfold numR
 simp only [← e]
 rfl
theorem ix_sign (c : UInt8) : (0 ≤ idxB [43, 45] c ↔ (c = 43 ∨ c = 45)) ∧ -1 ≤ idxB [43, 45] c := by
 have h1 := idxB_neg [43, 45] c
 simp only [List.mem_cons, List.not_mem_nil, or_false, not_or] at h1
 constructor
 ·constructor
  ·intro h
   by_cases h2 : c = 43 ∨ c = 45
   ·exact h2
   ·have := h1.2 ⟨fun e => h2 (.inl e), fun e => h2 (.inr e)⟩
    omega
  ·intro h
   by_cases h3 : idxB [43, 45] c < 0
   ·have := h1.1 h3
    rcases h with h | h
    ·exact absurd h this.1
    ·exact absurd h this.2
   ·omega
 ·rcases idxB_cases [43, 45] c with ⟨h, _⟩ | ⟨j, h, _, _⟩ <;> omega
theorem fn_number (digits : Nat) (lo hi : Int) (sg : Bool) (s : Str) (hd : digits ≤ 9) (hs : s.length < 1000000) : Fn G Tryz.prog k_nums_number [.str s, .int .i64 digits, .int .i64 lo, .int .i64 hi, .bool sg] (numI (numR digits lo hi sg s)) := by
 refine fn_intro hm ok_nums_number (by simp) ?_
 rw [numR_eq]
 obtain ⟨b, hb⟩ : ∃ b, bodyO sg s = b := ⟨_, rfl⟩
 obtain ⟨mn, hmn⟩ : ∃ mn, minO sg s = mn := ⟨_, rfl⟩
 have hbl : b.length < 1000000 := by
  rw [← hb]; unfold bodyO; split
  ·rw [List.length_drop]; omega
  ·exact hs
 rw [hb, hmn]
 obtain ⟨R, hR⟩ : ∃ R, (if b = [] ∨ digits < b.length ∨ b.all dig = false then ((0, 4) : Int × Int) else if (valD 0 b : Int) < lo ∨ hi < (valD 0 b : Int) then (0, 8) else (if mn = true then -(valD 0 b : Int) else (valD 0 b : Int), 0)) = R := ⟨_, rfl⟩
 rw [hR]
 simp [c_nums_number, r_nums_number]
 refine cutU hm [] [] (fun _ : Unit => [(0, .val (.str b)), (12, .val (.bool mn))]) (fun _ => []) (fun _ => True) ?_ ?_
 ·have plain : sgO sg s = false → b = s ∧ mn = false := fun h => by
   constructor
   ·rw [← hb, bodyO, h]; rfl
   ·rw [← hmn]
    cases h2 : minO sg s with
    | false => rfl
    | true =>
     exfalso
     simp only [minO, Bool.and_eq_true] at h2
     simp [sgO, h2.1, h2.2] at h
  cases sg with
  | false =>
   obtain ⟨rfl, rfl⟩ := plain rfl
   simp (disch := omega) [wl]
   refine joinEnd () trivial ?_
   simp
   exact wdr
  | true =>
   cases s with
   | nil =>
    obtain ⟨rfl, rfl⟩ := plain rfl
    simp (disch := omega) [wl]
    refine joinEnd () trivial ?_
    simp
    exact wdr
   | cons c r =>
    obtain ⟨hi1, hi2⟩ := ix_sign c
    have hI := fn_IndexByte [43, 45] c
    obtain ⟨q, hq⟩ : ∃ q, idxB [43, 45] c = q := ⟨_, rfl⟩
    rw [hq] at hI hi1 hi2
    simp (disch := omega) [wl]
    refine callW_imm hI ?_
    by_cases hc : c = 43 ∨ c = 45
    ·have hq0 := hi1.2 hc
     have e1 : b = r := by
      rw [← hb]
      rcases hc with rfl | rfl <;> rfl
     have e2 : mn = decide (c.toNat = 45) := by
      rw [← hmn]
      rcases hc with rfl | rfl <;> rfl
     rw [e1, e2]
     simp (disch := omega) [wl]
     refine ⟨by omega, ?_⟩
     refine joinEnd () trivial ?_
     simp
     exact weak_drop rfl rfl (by simp [EnvLe, getE, look]; omega) (by simp [ObLe, look]) (by simp [roOk])
    ·have hq0 : ¬ 0 ≤ q := fun h => hc (hi1.1 h)
     obtain ⟨e1, e2⟩ := plain (by
      have h1 : ¬ c = 43 := fun e => hc (.inl e)
      have h2 : ¬ c = 45 := fun e => hc (.inr e)
      simp [sgO, h1, h2])
     rw [e1, e2]
     simp (disch := omega) [wl]
     refine joinEnd () trivial ?_
     simp
     exact wdr
 ·rintro _ _
  simp
  by_cases h1 : b = []
  ·rw [if_pos (.inl h1)] at hR
   subst hR
   simp (disch := omega) [wl, h1]
   simp [numI]
  ·by_cases h2 : digits < b.length
   ·rw [if_pos (.inr (.inl h2))] at hR
    subst hR
    simp (disch := omega) [wl, h1]
    simp [numI]
   ·have hT := fn_Trim b hbl
    simp (disch := omega) [wl, h1]
    refine callW_imm hT ?_
    by_cases h3 : b.all dig = true
    ·have hall := h3
     have h3' := (trim2_nil b).2 h3
     have hv : ∀ i, i ≤ b.length → valD 0 (b.take i) < 10 ^ 9 := fun i hi => val_bd (by
      rw [List.all_eq_true] at hall ⊢
      exact fun c hc => hall c (List.mem_of_mem_take hc)) (by rw [List.length_take]; omega)
     simp (disch := omega) [wl, h3']
     refine cutU hm [] [] (fun _ : Unit => [(13, .val (.int .i64 (valD 0 b : Nat)))]) (fun _ => []) (fun _ => True) ?_ ?_
     ·simp
      refine loopU hm [] (fun i : Nat => [(14, .val (.int .i64 i)), (13, .val (.int .i64 (valD 0 (b.take i) : Nat)))]) (fun _ => []) (fun i => i ≤ b.length) (fun i => b.length - i) 0 (by omega) ?_ ?_
      ·have e : valD 0 ([] : Str) = 0 := rfl
       simp [e]
       exact wdr
      intro i hi
      simp
      by_cases h : i < b.length
      ·obtain ⟨c, hc⟩ : ∃ c, b[i] = c := ⟨_, rfl⟩
       obtain ⟨d1, d2⟩ := dig_bd (List.all_eq_true.1 hall c (hc ▸ List.getElem_mem h))
       have ht : valD 0 (b.take (i + 1)) = 10 * valD 0 (b.take i) + (c.toNat - 48) := by
        rw [List.take_succ_eq_append_getElem h, hc, val_snoc]
       have hv1 := hv (i + 1) (by omega)
       have hv0 := hv i hi
       have e : (10 * (valD 0 (b.take i) : Nat) + ((c.toNat : Int) - 48) : Int) = (valD 0 (b.take (i + 1)) : Nat) := by omega
       obtain ⟨V, hV⟩ : ∃ V, valD 0 (b.take i) = V := ⟨_, rfl⟩
       obtain ⟨W, hW⟩ : ∃ W, valD 0 (b.take (i + 1)) = W := ⟨_, rfl⟩
       rw [hV, hW] at e ht
       rw [hV] at hv0 ⊢
       rw [hW] at hv1
       simp (disch := omega) [wl, hc, e]
       refine loopEnd (i + 1) (by omega) (by omega) ?_
       simp [hW]
       exact wdr
      ·obtain rfl : i = b.length := by omega
       rw [List.take_length]
       simp (disch := omega) [wl]
       refine joinEnd () trivial ?_
       simp
       exact wdr
     ·rintro _ _
      have hV0 := hv b.length (Nat.le_refl _)
      rw [List.take_length] at hV0
      obtain ⟨V, hV⟩ : ∃ V, valD 0 b = V := ⟨_, rfl⟩
      rw [hV] at hV0 ⊢
      simp
      rw [hV, if_neg (by rw [hall]; simp only [not_or]; exact ⟨h1, h2, by simp⟩)] at hR
      by_cases h4 : (V : Int) < lo
      ·rw [if_pos (.inl h4)] at hR
       subst hR
       simp (disch := omega) [wl]
       simp [numI]
      ·by_cases h5 : hi < (V : Int)
       ·rw [if_pos (.inr h5)] at hR
        subst hR
        simp (disch := omega) [wl]
        simp [numI]
       ·rw [if_neg (by omega)] at hR
        subst hR
        simp (disch := omega) [wl]
        refine cut_not hm ?_
        cases mn with
        | true =>
         simp (disch := omega) [wl]
         simp [numI]
        | false =>
         simp (disch := omega) [wl]
         simp [numI]
    ·have h3' : ¬ trim2 b = [] := fun h => h3 ((trim2_nil b).1 h)
     have h3n : b.all dig = false := by simpa using h3
     rw [if_pos (.inr (.inr h3n))] at hR
     subst hR
     simp (disch := omega) [wl, h3']
     simp [numI]
end Go.Vs.YtbchceojmblkkaaGreatDoor
