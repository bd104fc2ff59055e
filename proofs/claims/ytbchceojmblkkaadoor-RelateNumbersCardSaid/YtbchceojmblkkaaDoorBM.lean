/- The walk of param, part 9: copies, finding. No conditions. -/
import Derived.Test.YtbchceojmblkkaaDoorBL
set_option linter.unusedVariables false
set_option linter.unusedSimpArgs false
namespace Go.Vs.YtbchceojmblkkaaDoor
set_option linter.unusedSimpArgs false
set_option linter.unusedVariables false
open Go.Proofs Go.Vs.U8 Go.Vs.Pa
set_option maxRecDepth 100000
set_option maxHeartbeats 4000000
theorem fn_Clone (v : List Str) (hv : v.length < 1000000) : Fn G Tryd.prog k_slices_Clone_string [.slice (ts v)] (.slice (ts v)) := by
  refine fn_intro hm ok_slices_Clone_string (by simp) ?_
  simp [c_slices_Clone_string, r_slices_Clone_string]
  cases v with
  | nil =>
    simp [ts]
  | cons x r =>
    have hl := ts_len (x :: r)
    simp only [List.length_cons] at hl hv
    have : ts (x :: r) = [.str x] :: ts r := rfl
    rw [this] at hl ⊢
    simp at hl
    simp (disch := omega) [br_yes, br_no, wrap_i64, wrap_u8, wrap_i32, List.getElem?_cons_zero, List.getElem?_cons_succ, hl]
    exact ⟨by omega, fun a ha => by simp [ts] at ha; obtain ⟨y, _, rfl⟩ := ha; rfl⟩
def findP (l : List Pm) (n : Str) : Option Pm := l.find? fun p => decide (p.n = n)
def foundI : Option Pm → IV
  | some p => .tuple [p.iv, .bool true]
  | none => .tuple [(⟨[], []⟩ : Pm).iv, .bool false]
theorem find_atP {l : List Pm} {i : Nat} {p : Pm} {n : Str} (h : i < l.length) (hp : l[i] = p) : findP (l.drop i) n = if p.n = n then some p else findP (l.drop (i + 1)) n := by
  rw [List.drop_eq_getElem_cons h, hp]
  by_cases e : p.n = n <;> simp [findP, e]
theorem fn_Find (l : List Pm) (n : Str) (hl : l.length < 1000000) (hv : ∀ p ∈ l, p.v.length < 1000000) : Fn G Tryd.prog k_param_Find [.slice (ps l), .str n] (foundI (findP l n)) := by
  refine fn_intro hm ok_param_Find (by simp) ?_
  simp [c_param_Find, r_param_Find, ps_len]
  refine loopU hm [] (fun i : Nat => [(10, .val (.int .i64 i))]) (fun i => []) (fun i => i ≤ l.length ∧ findP (l.drop i) n = findP l n) (fun i => l.length - i) 0 ⟨by omega, by simp⟩ ?_ ?_
  · simp
    exact weak_drop rfl rfl (by simp [EnvLe, getE, look]) (by simp [ObLe, look]) (by simp [roOk])
  rintro i ⟨hi, hc⟩
  simp [ps_len]
  by_cases h : i < l.length
  · obtain ⟨p, hp⟩ : ∃ p, l[i] = p := ⟨_, rfl⟩
    have hg := ps_get h hp
    rw [find_atP h hp] at hc
    have hC := fn_Clone p.v (hv p (hp ▸ List.getElem_mem h))
    by_cases h1 : p.n = n
    · simp [h1] at hc
      simp (disch := omega) [br_yes, br_no, wrap_i64, wrap_u8, wrap_i32, List.getElem?_cons_zero, List.getElem?_cons_succ, ps_len, hg, h1]
      refine callW_imm hC ?_
      simp (disch := omega) [br_yes, br_no, wrap_i64, wrap_u8, wrap_i32, List.getElem?_cons_zero, List.getElem?_cons_succ]
      refine ⟨rfl, ?_⟩
      rw [← hc]
      simp [foundI, Pm.iv, h1]
    · simp [h1] at hc
      simp (disch := omega) [br_yes, br_no, wrap_i64, wrap_u8, wrap_i32, List.getElem?_cons_zero, List.getElem?_cons_succ, ps_len, hg, h1]
      refine loopEnd (i + 1) ⟨by omega, hc⟩ (by omega) ?_
      simp
      exact weak_drop rfl rfl (by simp [EnvLe, getE, look]) (by simp [ObLe, look]) (by simp [roOk])
  · obtain rfl : i = l.length := by omega
    have hr : findP l n = none := by rw [← hc]; simp [findP]
    simp (disch := omega) [br_yes, br_no, wrap_i64, wrap_u8, wrap_i32, List.getElem?_cons_zero, List.getElem?_cons_succ, hr, foundI, Pm.iv]
    rfl
structure Fit (l : List Pm) : Prop where
  n : ∀ p ∈ l, p.n.length < 100000
  v : ∀ p ∈ l, p.v.length < 100000
  t : ∀ p ∈ l, ∀ s ∈ p.v, s.length < 10000
end Go.Vs.YtbchceojmblkkaaDoor
namespace Go.Vs.YtbchceojmblkkaaDoor
set_option linter.unusedSimpArgs false
set_option linter.unusedVariables false
open Go.Proofs Go.Vs.U8 Go.Vs.Pa
set_option maxRecDepth 100000
set_option maxHeartbeats 4000000
end Go.Vs.YtbchceojmblkkaaDoor
