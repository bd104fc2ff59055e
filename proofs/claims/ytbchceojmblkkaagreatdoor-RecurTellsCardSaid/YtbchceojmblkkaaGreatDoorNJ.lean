/- The walk of nums: how numbers and weekdays are printed. No conditions. -/
import Derived.Test.YtbchceojmblkkaaGreatDoorNI
set_option linter.unusedVariables false
set_option linter.unusedSimpArgs false
namespace Go.Vs.U8
end Go.Vs.U8
namespace Go.Vs.Pa
end Go.Vs.Pa
namespace Go.Vs.Nu
end Go.Vs.Nu
namespace Go.Vs.YtbchceojmblkkaaGreatDoor
set_option linter.unusedSimpArgs false
set_option linter.unusedVariables false
open Go.Proofs Go.Vs.U8 Go.Vs.Pa Go.Vs.Nu Go.Lib
set_option maxRecDepth 100000
set_option maxHeartbeats 8000000
theorem join_bd {b : Nat} {c : UInt8} : ∀ {l : List Str}, (∀ x ∈ l, x.length ≤ b) → (join l [c]).length ≤ l.length * (b + 1)
 | [], _ => by rw [join_nil]; simp
 | [x], h => by rw [join_one]; have := h x (by simp); simp; omega
 | x :: y :: r, h => by
  have ih := join_bd (c := c) (l := y :: r) (fun z hz => h z (by simp at hz ⊢; exact .inr hz))
  have h1 := h x (by simp)
  have e : join (x :: y :: r) [c] = x ++ c :: join (y :: r) [c] := by
   rw [join_cons, join_cons]; simp [joinTail]
  rw [e, List.length_append, List.length_cons]
  simp only [List.length_cons] at ih ⊢
  have : (r.length + 1 + 1) * (b + 1) = (r.length + 1) * (b + 1) + (b + 1) := Nat.succ_mul _ _
  omega
def joinI {α : Type} (f : α → Str) (l : List α) : Str := join (l.map f) [44]
theorem joinI_nil {α : Type} (f : α → Str) : joinI f [] = [] := rfl
theorem joinI_one {α : Type} (f : α → Str) {l : List α} {i : Nat} {x : α} (h : i < l.length) (hx : l[i] = x) (h0 : i = 0) : joinI f (l.take (i + 1)) = f x ∧ joinI f (l.take i) = [] := by
 subst h0
 rw [List.take_succ_eq_append_getElem h, hx]
 exact ⟨by simp [joinI, join_one], by simp [joinI, join_nil]⟩
theorem joinI_more {α : Type} (f : α → Str) {l : List α} {i : Nat} {x : α} (h : i < l.length) (hx : l[i] = x) (h0 : 0 < i) : joinI f (l.take (i + 1)) = joinI f (l.take i) ++ 44 :: f x := by
 have hne : (l.take i).map f ≠ [] := by
  intro e
  have := congrArg List.length e
  rw [List.length_map, List.length_take, List.length_nil] at this
  omega
 rw [List.take_succ_eq_append_getElem h, hx]
 unfold joinI
 rw [List.map_append, List.map_cons, List.map_nil, join_snoc hne]
 rfl
theorem joinI_bd {α : Type} {f : α → Str} {l : List α} {b : Nat} (h : ∀ x ∈ l, (f x).length ≤ b) (i : Nat) : (joinI f (l.take i)).length ≤ l.length * (b + 1) := by
 have := join_bd (c := 44) (l := (l.take i).map f) (b := b) (fun x hx => by
  obtain ⟨n, hn, rfl⟩ := List.mem_map.1 hx
  exact h n (List.mem_of_mem_take hn))
 rw [List.length_map] at this
 have h2 : (l.take i).length ≤ l.length := by rw [List.length_take]; omega
 have := Nat.mul_le_mul_right (b + 1) h2
 unfold joinI
 omega
theorem fn_text' {n : Int} (h : i64 n) : Fn G Tryz.prog k_ref20_text [.int .i64 n] (.str (itoa n)) := fn_text n.natAbs n.natAbs (Nat.le_refl _) (by unfold i64 at h; omega) n rfl h.1 h.2
theorem fn_rPrintN (l : List Int) (hl : l.length ≤ 1000) (hb : ∀ n ∈ l, i64 n) : Fn G Tryz.prog k_ref20_Print [.slice (is l)] (.str (printN l)) := by
 refine fn_intro hm ok_ref20_Print (by simp) ?_
 rw [show printN l = joinI itoa l from rfl]
 have hbd := fun i => joinI_bd (f := itoa) (l := l) (b := 20) (fun x hx => itoa_len20 (hb x hx)) i
 simp [c_ref20_Print, r_ref20_Print]
 refine loopU hm [] (fun i : Nat => [(4, .val (.int .i64 i)), (3, .val (.str (joinI itoa (l.take i))))]) (fun _ => []) (fun i => i ≤ l.length) (fun i => l.length - i) 0 (by omega) ?_ ?_
 ·simp [joinI_nil]
  exact weak_drop rfl rfl (by simp [EnvLe, getE, look]) (by simp [ObLe, look]) (by simp [roOk])
 intro i hi
 simp [is_len]
 by_cases h : i < l.length
 ·obtain ⟨x, hx⟩ : ∃ x, l[i] = x := ⟨_, rfl⟩
  have hx64 := hb x (hx ▸ List.getElem_mem h)
  have hT := fn_text' hx64
  have hg := is_get h hx
  have h20 := itoa_len20 hx64
  have hbi := hbd i
  by_cases h0 : i = 0
  ·obtain ⟨j1, j2⟩ := joinI_one itoa h hx h0
   rw [j2]
   have hg0 := hg
   rw [h0] at hg0
   simp (disch := omega) [br_yes, br_no, wrap_i64, wrap_u8, wrap_i32, List.getElem?_cons_zero, List.getElem?_cons_succ, is_len, hg, hg0, h0]
   refine callW_imm hT ?_
   simp (disch := omega) [br_yes, br_no, wrap_i64, wrap_u8, wrap_i32, List.getElem?_cons_zero, List.getElem?_cons_succ]
   try refine ⟨by omega, ?_⟩
   refine loopEnd (i + 1) (by omega) (by omega) ?_
   simp [j1]
   exact weak_drop rfl rfl (by simp [EnvLe, getE, look, h0]) (by simp [ObLe, look]) (by simp [roOk])
  ·have j1 := joinI_more itoa h hx (by omega)
   simp (disch := omega) [br_yes, br_no, wrap_i64, wrap_u8, wrap_i32, List.getElem?_cons_zero, List.getElem?_cons_succ, is_len, hg]
   refine ⟨by omega, ?_⟩
   refine callW_imm hT ?_
   simp (disch := omega) [br_yes, br_no, wrap_i64, wrap_u8, wrap_i32, List.getElem?_cons_zero, List.getElem?_cons_succ]
   try refine ⟨by omega, ?_⟩
   refine loopEnd (i + 1) (by omega) (by omega) ?_
   simp [j1]
   exact weak_drop rfl rfl (by simp [EnvLe, getE, look]) (by simp [ObLe, look]) (by simp [roOk])
 ·obtain rfl : i = l.length := by omega
  rw [List.take_length]
  simp (disch := omega) [br_yes, br_no, wrap_i64, wrap_u8, wrap_i32, List.getElem?_cons_zero, List.getElem?_cons_succ, is_len]
def dn64 (x : Dn) : Prop := i64 x.1 ∧ i64 x.2
theorem wkN_len2 (d : Int) : (wkN d).length ≤ 2 := by
 unfold wkN
 split
 ·simp
 ·rw [List.length_take]; omega
theorem dayT_len22 {x : Dn} (h : dn64 x) : (dayT x).length ≤ 22 := by
 have h1 := itoa_len20 h.1
 have h2 := wkN_len2 x.2
 simp only [dayT, List.length_append]
 split
 ·simp; omega
 ·omega
theorem fn_rPrintD (l : List Dn) (hl : l.length ≤ 1000) (hb : ∀ n ∈ l, dn64 n) : Fn G Tryz.prog k_ref20_PrintDays [.slice (dns l)] (.str (printD l)) := by
 refine fn_intro hm ok_ref20_PrintDays (by simp) ?_
 rw [show printD l = joinI dayT l from rfl]
 have hbd := fun i => joinI_bd (f := dayT) (l := l) (b := 22) (fun x hx => dayT_len22 (hb x hx)) i
 simp [c_ref20_PrintDays, r_ref20_PrintDays]
 refine loopU hm [] (fun i : Nat => [(4, .val (.int .i64 i)), (3, .val (.str (joinI dayT (l.take i))))]) (fun _ => []) (fun i => i ≤ l.length) (fun i => l.length - i) 0 (by omega) ?_ ?_
 ·simp [joinI_nil]
  exact weak_drop rfl rfl (by simp [EnvLe, getE, look]) (by simp [ObLe, look]) (by simp [roOk])
 intro i hi
 simp [dns_len]
 by_cases h : i < l.length
 ·obtain ⟨x, hx⟩ : ∃ x, l[i] = x := ⟨_, rfl⟩
  have hx64 := hb x (hx ▸ List.getElem_mem h)
  have hT := fn_text' hx64.1
  have hW := fn_rWeekdayName x.2
  have hg := dns_get h hx
  have h20 := itoa_len20 hx64.1
  have h2 := wkN_len2 x.2
  have hbi := hbd i
  obtain ⟨n, d⟩ := x
  simp only at hT hW hg h20 h2
  by_cases h0 : i = 0
  ·obtain ⟨j1, j2⟩ := joinI_one dayT h hx h0
   rw [j2]
   have hg0 := hg
   rw [h0] at hg0
   by_cases hn : n = 0
   ·simp (disch := omega) [br_yes, br_no, wrap_i64, wrap_u8, wrap_i32, List.getElem?_cons_zero, List.getElem?_cons_succ, dns_len, hg, hg0, h0, hn]
    try refine ⟨by omega, ?_⟩
    refine callW_imm hW ?_
    simp (disch := omega) [br_yes, br_no, wrap_i64, wrap_u8, wrap_i32, List.getElem?_cons_zero, List.getElem?_cons_succ]
    try refine ⟨by omega, ?_⟩
    refine loopEnd (i + 1) (by omega) (by omega) ?_
    simp [j1, dayT, hn]
    exact weak_drop rfl rfl (by simp [EnvLe, getE, look, h0]) (by simp [ObLe, look]) (by simp [roOk])
   ·simp (disch := omega) [br_yes, br_no, wrap_i64, wrap_u8, wrap_i32, List.getElem?_cons_zero, List.getElem?_cons_succ, dns_len, hg, hg0, h0, hn]
    refine callW_imm hT ?_
    simp (disch := omega) [br_yes, br_no, wrap_i64, wrap_u8, wrap_i32, List.getElem?_cons_zero, List.getElem?_cons_succ, hg0]
    try refine ⟨by omega, ?_⟩
    refine callW_imm hW ?_
    simp (disch := omega) [br_yes, br_no, wrap_i64, wrap_u8, wrap_i32, List.getElem?_cons_zero, List.getElem?_cons_succ]
    try refine ⟨by omega, ?_⟩
    refine loopEnd (i + 1) (by omega) (by omega) ?_
    simp [j1, dayT, hn]
    exact weak_drop rfl rfl (by simp [EnvLe, getE, look, h0]) (by simp [ObLe, look]) (by simp [roOk])
  ·have j1 := joinI_more dayT h hx (by omega)
   by_cases hn : n = 0
   ·simp (disch := omega) [br_yes, br_no, wrap_i64, wrap_u8, wrap_i32, List.getElem?_cons_zero, List.getElem?_cons_succ, dns_len, hg, hn]
    try refine ⟨by omega, ?_⟩
    refine callW_imm hW ?_
    simp (disch := omega) [br_yes, br_no, wrap_i64, wrap_u8, wrap_i32, List.getElem?_cons_zero, List.getElem?_cons_succ]
    try refine ⟨by omega, ?_⟩
    refine loopEnd (i + 1) (by omega) (by omega) ?_
    simp [j1, dayT, hn]
    exact weak_drop rfl rfl (by simp [EnvLe, getE, look]) (by simp [ObLe, look]) (by simp [roOk])
   ·simp (disch := omega) [br_yes, br_no, wrap_i64, wrap_u8, wrap_i32, List.getElem?_cons_zero, List.getElem?_cons_succ, dns_len, hg, hn]
    refine ⟨by omega, ?_⟩
    refine callW_imm hT ?_
    simp (disch := omega) [br_yes, br_no, wrap_i64, wrap_u8, wrap_i32, List.getElem?_cons_zero, List.getElem?_cons_succ, dns_len, hg]
    try refine ⟨by omega, ?_⟩
    refine callW_imm hW ?_
    simp (disch := omega) [br_yes, br_no, wrap_i64, wrap_u8, wrap_i32, List.getElem?_cons_zero, List.getElem?_cons_succ]
    try refine ⟨by omega, ?_⟩
    refine loopEnd (i + 1) (by omega) (by omega) ?_
    simp [j1, dayT, hn]
    exact weak_drop rfl rfl (by simp [EnvLe, getE, look]) (by simp [ObLe, look]) (by simp [roOk])
 ·obtain rfl : i = l.length := by omega
  rw [List.take_length]
  simp (disch := omega) [br_yes, br_no, wrap_i64, wrap_u8, wrap_i32, List.getElem?_cons_zero, List.getElem?_cons_succ, dns_len]
end Go.Vs.YtbchceojmblkkaaGreatDoor
