/- The walk of param, part 11: whether parameters are the same. No conditions. -/
import Derived.Test.YtbchceojmblkkaaGreatDoorBM
set_option linter.unusedVariables false
set_option linter.unusedSimpArgs false
namespace Go.Vs.YtbchceojmblkkaaGreatDoor
set_option linter.unusedSimpArgs false
set_option linter.unusedVariables false
open Go.Proofs Go.Vs.U8 Go.Vs.Pa
set_option maxRecDepth 100000
set_option maxHeartbeats 4000000
theorem take_snoc_eq {α : Type} {a b : List α} {i : Nat} (h1 : i < a.length) (h2 : i < b.length) (ht : a.take i = b.take i) (hx : a[i] = b[i]) : a.take (i + 1) = b.take (i + 1) := by
  rw [List.take_succ_eq_append_getElem h1, List.take_succ_eq_append_getElem h2, ht, hx]
theorem fn_Equal (a b : List Str) (ha : a.length < 1000000) (hb : b.length < 1000000) : Fn G Tryz.prog k_slices_Equal_string [.slice (ts a), .slice (ts b)] (.bool (decide (a = b))) := by
  refine fn_intro hm ok_slices_Equal_string (by simp) ?_
  simp [c_slices_Equal_string, r_slices_Equal_string, ts_len]
  by_cases hl : a.length = b.length
  · simp (disch := omega) [br_yes, br_no, wrap_i64, wrap_u8, wrap_i32, List.getElem?_cons_zero, List.getElem?_cons_succ, ts_len, hl]
    refine loopU hm [] (fun i : Nat => [(13, .val (.int .i64 i))]) (fun i => []) (fun i => i ≤ a.length ∧ a.take i = b.take i) (fun i => a.length - i) 0 ⟨by omega, by simp⟩ ?_ ?_
    · simp
      exact weak_drop rfl rfl (by simp [EnvLe, getE, look]) (by simp [ObLe, look]) (by simp [roOk])
    rintro i ⟨hi, ht⟩
    simp [ts_len]
    by_cases h : i < a.length
    · have h' : i < b.length := by omega
      obtain ⟨x, hx⟩ : ∃ x, a[i] = x := ⟨_, rfl⟩
      obtain ⟨y, hy⟩ : ∃ y, b[i] = y := ⟨_, rfl⟩
      have g1 := ts_get h hx
      have g2 := ts_get h' hy
      by_cases e : x = y
      · have hs := take_snoc_eq h h' ht (by rw [hx, hy, e])
        simp (disch := omega) [br_yes, br_no, wrap_i64, wrap_u8, wrap_i32, List.getElem?_cons_zero, List.getElem?_cons_succ, ts_len, g1, g2, e]
        refine loopEnd (i + 1) ⟨by omega, hs⟩ (by omega) ?_
        simp
        exact weak_drop rfl rfl (by simp [EnvLe, getE, look]) (by simp [ObLe, look]) (by simp [roOk])
      · have hne : ¬ a = b := fun hab => e (by subst hab; rw [← hx, ← hy])
        simp (disch := omega) [br_yes, br_no, wrap_i64, wrap_u8, wrap_i32, List.getElem?_cons_zero, List.getElem?_cons_succ, ts_len, g1, g2, e, hne]
    · obtain rfl : i = a.length := by omega
      have : a = b := by rw [List.take_length, hl, List.take_length] at ht; exact ht
      simp (disch := omega) [br_yes, br_no, wrap_i64, wrap_u8, wrap_i32, List.getElem?_cons_zero, List.getElem?_cons_succ, this]
  · have hne : ¬ a = b := fun hab => hl (by rw [hab])
    simp (disch := omega) [br_yes, br_no, wrap_i64, wrap_u8, wrap_i32, List.getElem?_cons_zero, List.getElem?_cons_succ, ts_len, hl, hne]
theorem pm_eq (p q : Pm) : p = q ↔ p.n = q.n ∧ p.v = q.v := by cases p; cases q; simp
theorem fn_Same1 (p q : Pm) (hp : p.v.length < 1000000) (hq : q.v.length < 1000000) : Fn G Tryz.prog k_param_Same_1 [p.iv, q.iv] (.bool (decide (p = q))) := by
  refine fn_intro hm ok_param_Same_1 (by simp) ?_
  have hE := fn_Equal p.v q.v hp hq
  have hpq := pm_eq p q
  simp [c_param_Same_1, r_param_Same_1, Pm.iv]
  by_cases h : p.n = q.n
  · simp (disch := omega) [br_yes, br_no, wrap_i64, wrap_u8, wrap_i32, List.getElem?_cons_zero, List.getElem?_cons_succ, h]
    refine callW_imm hE ?_
    simp (disch := omega) [br_yes, br_no, wrap_i64, wrap_u8, wrap_i32, List.getElem?_cons_zero, List.getElem?_cons_succ, hpq, h]
  · simp (disch := omega) [br_yes, br_no, wrap_i64, wrap_u8, wrap_i32, List.getElem?_cons_zero, List.getElem?_cons_succ, h, hpq]
theorem fn_EqualFunc (a b : List Pm) (ha : a.length < 1000000) (hb : b.length < 1000000) (fa : Fit a) (fb : Fit b) : Fn G Tryz.prog k_slices_EqualFunc_Param [.slice (ps a), .slice (ps b), .fn k_param_Same_1 []] (.bool (decide (a = b))) := by
  refine fn_intro hm ok_slices_EqualFunc_Param (by simp) ?_
  simp [c_slices_EqualFunc_Param, r_slices_EqualFunc_Param, ps_len]
  by_cases hl : a.length = b.length
  · simp (disch := omega) [br_yes, br_no, wrap_i64, wrap_u8, wrap_i32, List.getElem?_cons_zero, List.getElem?_cons_succ, ps_len, hl]
    refine loopU hm [] (fun i : Nat => [(17, .val (.int .i64 i))]) (fun i => []) (fun i => i ≤ a.length ∧ a.take i = b.take i) (fun i => a.length - i) 0 ⟨by omega, by simp⟩ ?_ ?_
    · simp
      exact weak_drop rfl rfl (by simp [EnvLe, getE, look]) (by simp [ObLe, look]) (by simp [roOk])
    rintro i ⟨hi, ht⟩
    simp [ps_len]
    by_cases h : i < a.length
    · have h' : i < b.length := by omega
      obtain ⟨x, hx⟩ : ∃ x, a[i] = x := ⟨_, rfl⟩
      obtain ⟨y, hy⟩ : ∃ y, b[i] = y := ⟨_, rfl⟩
      have g1 := ps_get h hx
      have g2 := ps_get h' hy
      have hS := fn_Same1 x y (by have := fa.v x (hx ▸ List.getElem_mem h); omega) (by have := fb.v y (hy ▸ List.getElem_mem h'); omega)
      simp only [Pm.iv] at hS
      by_cases e : x = y
      · have hs := take_snoc_eq h h' ht (by rw [hx, hy, e])
        rw [decide_eq_true e] at hS
        simp (disch := omega) [br_yes, br_no, wrap_i64, wrap_u8, wrap_i32, List.getElem?_cons_zero, List.getElem?_cons_succ, ps_len, g1, g2]
        refine callW_imm hS ?_
        simp (disch := omega) [br_yes, br_no, wrap_i64, wrap_u8, wrap_i32, List.getElem?_cons_zero, List.getElem?_cons_succ]
        refine loopEnd (i + 1) ⟨by omega, hs⟩ (by omega) ?_
        simp
        exact weak_drop rfl rfl (by simp [EnvLe, getE, look]) (by simp [ObLe, look]) (by simp [roOk])
      · have hne : ¬ a = b := fun hab => e (by subst hab; rw [← hx, ← hy])
        rw [decide_eq_false e] at hS
        simp (disch := omega) [br_yes, br_no, wrap_i64, wrap_u8, wrap_i32, List.getElem?_cons_zero, List.getElem?_cons_succ, ps_len, g1, g2, hne]
        refine callW_imm hS ?_
        simp [hne]
    · obtain rfl : i = a.length := by omega
      have : a = b := by rw [List.take_length, hl, List.take_length] at ht; exact ht
      simp (disch := omega) [br_yes, br_no, wrap_i64, wrap_u8, wrap_i32, List.getElem?_cons_zero, List.getElem?_cons_succ, this]
  · have hne : ¬ a = b := fun hab => hl (by rw [hab])
    simp (disch := omega) [br_yes, br_no, wrap_i64, wrap_u8, wrap_i32, List.getElem?_cons_zero, List.getElem?_cons_succ, ps_len, hl, hne]
theorem fn_Same (a b : List Pm) (ha : a.length < 1000000) (hb : b.length < 1000000) (fa : Fit a) (fb : Fit b) : Fn G Tryz.prog k_param_Same [.slice (ps a), .slice (ps b)] (.bool (decide (a = b))) := by
  refine fn_intro hm ok_param_Same (by simp) ?_
  simp [c_param_Same, r_param_Same]
  refine callW_imm (fn_EqualFunc a b ha hb fa fb) ?_
  simp
end Go.Vs.YtbchceojmblkkaaGreatDoor
