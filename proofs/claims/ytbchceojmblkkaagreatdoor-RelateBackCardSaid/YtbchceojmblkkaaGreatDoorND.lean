/- The walk of Go's trims of digits. No conditions. -/
import Derived.Test.YtbchceojmblkkaaGreatDoorNC
set_option linter.unusedVariables false
set_option linter.unusedSimpArgs false
namespace Go.Vs.YtbchceojmblkkaaGreatDoor
set_option linter.unusedSimpArgs false
set_option linter.unusedVariables false
open Go.Proofs Go.Vs.U8 Go.Vs.Pa Go.Vs.Nu Go.Lib
set_option maxRecDepth 100000
set_option maxHeartbeats 4000000
def dgs : Str := [48, 49, 50, 51, 52, 53, 54, 55, 56, 57]
theorem dgs_len : dgs.length = 10 := rfl
theorem dgs_ne : ¬ dgs = [] := by simp [dgs]
theorem dgs_at {i : Nat} (h : i < 10) : ∃ c, dgs[i]? = some c ∧ c.toNat = 48 + i := by
  have : i = 0 ∨ i = 1 ∨ i = 2 ∨ i = 3 ∨ i = 4 ∨ i = 5 ∨ i = 6 ∨ i = 7 ∨ i = 8 ∨ i = 9 := by omega
  rcases this with rfl | rfl | rfl | rfl | rfl | rfl | rfl | rfl | rfl | rfl <;> exact ⟨_, rfl, rfl⟩
theorem fn_makeASCII : Fn G Tryz.prog k_strings_makeASCIISet [.str dgs] (.tuple [.agg (zv 10), .bool true]) := by
  refine fn_intro hm ok_strings_makeASCIISet (by simp) ?_
  simp [c_strings_makeASCIISet, r_strings_makeASCIISet, fz256_eq, dgs_len]
  refine loopU hm [] (fun i : Nat => [(4, .val (.int .i64 i))]) (fun i => [(2, .box (zs i))]) (fun i => i ≤ 10) (fun i => 10 - i) 0 (by omega) ?_ ?_
  · simp [zs_erase]
    exact weak_drop rfl rfl (by simp [EnvLe, getE, look]) (by simp [ObLe, look]) (by simp [roOk])
  intro i hi
  simp [dgs_len, zs_erase]
  by_cases h : i < 10
  · obtain ⟨c, hc, hcn⟩ := dgs_at h
    have hst := zs_step i h
    have e0 : (48 + (i : Int)).toNat = 48 + i := by omega
    simp (disch := omega) [br_yes, br_no, wrap_i64, wrap_u8, wrap_i32, List.getElem?_cons_zero, List.getElem?_cons_succ, dgs_len, hc, hcn, zs_len, hst, e0]
    refine ⟨by omega, by omega, ?_⟩
    refine loopEnd (i + 1) (by omega) (by omega) ?_
    simp [hst]
    exact weak_drop rfl rfl (by simp [EnvLe, getE, look]) (by simp [ObLe, look]) (by simp [roOk])
  · obtain rfl : i = 10 := by omega
    simp (disch := omega) [br_yes, br_no, wrap_i64, wrap_u8, wrap_i32, List.getElem?_cons_zero, List.getElem?_cons_succ, dgs_len, zs_len, zs_take, zs_drop, zs_all, zs_map, zv_take, zs_iv0, zv_len]
theorem fn_asciiContains (c : UInt8) : Fn G Tryz.prog k__strings_asciiSet_contains [.ref (zv 10), .int .u8 c.toNat] (.bool (dig c)) := by
  refine fn_intro hm ok__strings_asciiSet_contains (by simp) ?_
  obtain ⟨r, hr⟩ := zv_drop c
  have hc : c.toNat < 256 := c.toNat_lt
  simp [c__strings_asciiSet_contains, r__strings_asciiSet_contains, hr]
  omega
theorem trimD_snoc (x : Str) (c : UInt8) : trimD (x ++ [c]) = if dig c = true then trimD x else x ++ [c] := by
  unfold trimD
  rw [List.reverse_append]
  cases h : dig c <;> simp [h]
theorem fn_trimRightASCII (s : Str) (hs : s.length < 1000000) : Fn G Tryz.prog k_strings_trimRightASCII [.str s, .ref (zv 10)] (.str (trimD s)) := by
  refine fn_intro hm ok_strings_trimRightASCII (by simp) ?_
  simp [c_strings_trimRightASCII, r_strings_trimRightASCII]
  refine loopU hm [] (fun k : Nat => [(0, .val (.str (s.take k)))]) (fun _ => []) (fun k => k ≤ s.length ∧ trimD (s.take k) = trimD s) (fun k => k) s.length ⟨by omega, by simp⟩ ?_ ?_
  · simp
    exact weak_drop rfl rfl (by simp [EnvLe, getE, look]) (by simp [ObLe, look]) (by simp [roOk])
  rintro k ⟨hk, ht⟩
  have hl : (s.take k).length = k := by rw [List.length_take]; omega
  simp [hl]
  cases k with
  | zero =>
    have : trimD s = [] := by rw [← ht]; simp [trimD]
    simp (disch := omega) [br_yes, br_no, wrap_i64, wrap_u8, wrap_i32, List.getElem?_cons_zero, List.getElem?_cons_succ, this]
  | succ k =>
    have h : k < s.length := by omega
    obtain ⟨c, hc⟩ : ∃ c, s[k] = c := ⟨_, rfl⟩
    have hx : s.take (k + 1) = s.take k ++ [c] := by rw [List.take_succ_eq_append_getElem h, hc]
    have hC := fn_asciiContains c
    have hg : (s.take (k + 1))[k]? = some c := by rw [List.getElem?_take_of_lt (by omega), List.getElem?_eq_getElem h, hc]
    have hkk : (s.take (k + 1)).take k = s.take k := by rw [List.take_take, Nat.min_eq_left (by omega)]
    rw [hx, trimD_snoc] at ht
    obtain ⟨S, hS⟩ : ∃ S, s.take (k + 1) = S := ⟨_, rfl⟩
    rw [hS] at hg hkk hl hx ⊢
    have hgc : S[k]'(by omega) = c := by
      rw [List.getElem?_eq_getElem (by omega)] at hg
      simpa using hg
    simp (disch := omega) [br_yes, br_no, wrap_i64, wrap_u8, wrap_i32, List.getElem?_cons_zero, List.getElem?_cons_succ, hl, hgc]
    refine callW_imm hC ?_
    cases hd : dig c with
    | true =>
      rw [if_pos hd] at ht
      simp (disch := omega) [br_yes, br_no, wrap_i64, wrap_u8, wrap_i32, List.getElem?_cons_zero, List.getElem?_cons_succ, hl, hkk]
      refine ⟨by omega, ?_⟩
      refine loopEnd k ⟨by omega, ht⟩ (by omega) ?_
      simp
      exact weak_drop rfl rfl (by simp [EnvLe, getE, look]) (by simp [ObLe, look]) (by simp [roOk])
    | false =>
      rw [if_neg (by simp [hd]), ← hx] at ht
      simp (disch := omega) [br_yes, br_no, wrap_i64, wrap_u8, wrap_i32, List.getElem?_cons_zero, List.getElem?_cons_succ, ht]
theorem trimD_len (s : Str) : (trimD s).length ≤ s.length := by
  obtain ⟨d, hd, _⟩ := trimD_prefix s
  have := congrArg List.length hd
  rw [List.length_append] at this
  omega
theorem fn_TrimRight (s : Str) (hs : s.length < 1000000) : Fn G Tryz.prog k_strings_TrimRight [.str s, .str dgs] (.str (trimD s)) := by
  refine fn_intro hm ok_strings_TrimRight (by simp) ?_
  simp [c_strings_TrimRight, r_strings_TrimRight, fz256_eq, dgs_len, dgs_ne]
  by_cases h : s = []
  · have : trimD s = [] := by rw [h]; rfl
    simp (disch := omega) [br_yes, br_no, wrap_i64, wrap_u8, wrap_i32, List.getElem?_cons_zero, List.getElem?_cons_succ, h, this]
    simp [trimD]
  · simp (disch := omega) [br_yes, br_no, wrap_i64, wrap_u8, wrap_i32, List.getElem?_cons_zero, List.getElem?_cons_succ, h, dgs_len, dgs_ne]
    refine callW_imm fn_makeASCII ?_
    simp (disch := omega) [br_yes, br_no, wrap_i64, wrap_u8, wrap_i32, List.getElem?_cons_zero, List.getElem?_cons_succ, zs_erase, zs_len, zs_map, zv_take, zs_take, zs_drop, zs_iv0, zv_len]
    refine callW_imm (fn_trimRightASCII s hs) ?_
    simp (disch := omega) [br_yes, br_no, wrap_i64, wrap_u8, wrap_i32, List.getElem?_cons_zero, List.getElem?_cons_succ]
end Go.Vs.YtbchceojmblkkaaGreatDoor
namespace Go.Vs.YtbchceojmblkkaaGreatDoor
set_option linter.unusedSimpArgs false
set_option linter.unusedVariables false
open Go.Proofs Go.Vs.U8 Go.Vs.Pa Go.Vs.Nu Go.Lib
set_option maxRecDepth 100000
set_option maxHeartbeats 4000000
def is (l : List Int) : List (List IV) := l.map fun n => [.int .i64 n]
end Go.Vs.YtbchceojmblkkaaGreatDoor
