/- The walk of the functions of utf, part 3: the first odd byte; faults gone through. No conditions. -/
import Derived.Test.YtbchceojmblkkaaGreatDoorBH
set_option linter.unusedVariables false
set_option linter.unusedSimpArgs false
namespace Go.Vs.U8
end Go.Vs.U8
namespace Go.Vs.YtbchceojmblkkaaGreatDoor
set_option linter.unusedSimpArgs false
set_option linter.unusedVariables false
open Go.Proofs Go.Vs.U8
set_option maxRecDepth 100000
set_option maxHeartbeats 4000000
theorem fn_slIndexByte (s : Str) (c : UInt8) : Fn G Tryz.prog k_internal_stringslite_IndexByte [.str s, .int .u8 c.toNat] (.int .i64 (idxB s c)) := by
 refine fn_intro hm ok_internal_stringslite_IndexByte (by simp) ?_
 simp [c_internal_stringslite_IndexByte, r_internal_stringslite_IndexByte]
 refine callW_imm (fn_IndexByteString s c) ?_
 simp
theorem fn_IndexByte (s : Str) (c : UInt8) : Fn G Tryz.prog k_strings_IndexByte [.str s, .int .u8 c.toNat] (.int .i64 (idxB s c)) := by
 refine fn_intro hm ok_strings_IndexByte (by simp) ?_
 simp [c_strings_IndexByte, r_strings_IndexByte]
 refine callW_imm (fn_slIndexByte s c) ?_
 simp
theorem sum_take_bd {ps : List Int} (h : ∀ p ∈ ps, -1000000 < p ∧ p < 1000000) : ∀ k : Nat, -1000000 * (k : Int) ≤ (ps.take k).sum ∧ (ps.take k).sum ≤ 1000000 * (k : Int) := by
 intro k
 induction k with
 | zero => simp
 | succ k ih =>
  by_cases hk : k < ps.length
  ·rw [List.take_succ_eq_append_getElem hk, List.sum_append]
   have := h _ (List.getElem_mem hk)
   simp
   omega
  ·rw [List.take_of_length_le (by omega)] at ih ⊢
   omega
theorem fn_walk (n : Int) (ps : List Int) (hp : ∀ p ∈ ps, -1000000 < p ∧ p < 1000000) (hl : ps.length < 1000) : Fn G Tryz.prog k_fault_walk [errIV n ps] (.tuple [.int .i64 ps.sum, .int .i64 ps.length]) := by
 refine fn_intro hm ok_fault_walk (by simp) ?_
 simp [c_fault_walk, r_fault_walk]
 refine loopU hm [] (fun k : Nat => [(0, .val (errIV n (ps.drop k))), (4, .val (.int .i64 (ps.take k).sum)), (5, .val (.int .i64 k))]) (fun _ => []) (fun k => k ≤ ps.length) (fun k => ps.length - k) 0 (by omega) ?_ ?_
 ·simp
  exact wdr
 intro k hk
 have hb := sum_take_bd hp k
 by_cases h : k < ps.length
 ·have hd : ps.drop k = ps[k] :: ps.drop (k + 1) := List.drop_eq_getElem_cons h
  have ht : (ps.take (k + 1)).sum = (ps.take k).sum + ps[k] := by rw [List.take_succ_eq_append_getElem h, List.sum_append]; simp
  have hpk := hp _ (List.getElem_mem h)
  obtain ⟨p, hpe⟩ : ∃ p, ps[k] = p := ⟨_, rfl⟩
  rw [hpe] at hd ht hpk
  obtain ⟨t, v, hv⟩ := errIV_not_nil n (ps.drop (k + 1))
  have hA := fnM_As_pf .nilp [.int .i64 p, errIV n (ps.drop (k + 1))]
  rw [hd]
  simp only [errIV]
  simp
  refine callM [(1000, 6)] [] hA rfl rfl ⟨rfl, trivial⟩ ⟨[], [], rfl, ⟨rfl, rfl⟩, rfl⟩ rfl ?_
  simp (disch := omega) [wl]
  refine loopEnd (k + 1) (by omega) (by omega) ?_
  simp [ht]
  exact wdr
 ·obtain rfl : k = ps.length := by omega
  have hA := fnM_As_no n .nilp
  simp [errIV]
  refine callM [(1000, 6)] [] hA rfl rfl ⟨rfl, trivial⟩ ⟨[], [], rfl, ⟨rfl, rfl⟩, rfl⟩ rfl ?_
  simp
theorem fn_Place_nil : Fn G Tryz.prog k_fault_Place [.nili] (.int .i64 0) := by
 have hw : Fn G Tryz.prog k_fault_walk [.nili] (.tuple [.int .i64 0, .int .i64 0]) := by
  refine fn_intro hm ok_fault_walk (by simp) ?_
  simp [c_fault_walk, r_fault_walk]
  refine loopU hm [] (fun k : Nat => []) (fun _ => []) (fun k => True) (fun k => 0) 0 trivial ?_ ?_
  ·simp
   exact wdr
  intro k _
  simp
 refine fn_intro hm ok_fault_Place (by simp) ?_
 simp [c_fault_Place, r_fault_Place]
 refine callW_imm hw ?_
 simp
theorem fn_Place (n : Int) (ps : List Int) (hp : ∀ p ∈ ps, -1000000 < p ∧ p < 1000000) (hl : ps.length < 1000) : Fn G Tryz.prog k_fault_Place [errIV n ps] (.int .i64 ps.sum) := by
 refine fn_intro hm ok_fault_Place (by simp) ?_
 simp [c_fault_Place, r_fault_Place]
 refine callW_imm (fn_walk n ps hp hl) ?_
 simp
end Go.Vs.YtbchceojmblkkaaGreatDoor
