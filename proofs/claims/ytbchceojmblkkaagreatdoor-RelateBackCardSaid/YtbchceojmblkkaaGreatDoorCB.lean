/- The walk of line, part 1: lines compared, copied, found. No conditions. -/
import Derived.Test.YtbchceojmblkkaaGreatDoorCA
set_option linter.unusedVariables false
set_option linter.unusedSimpArgs false
namespace Go.Vs.YtbchceojmblkkaaGreatDoor
set_option linter.unusedSimpArgs false
set_option linter.unusedVariables false
open Go.Proofs Go.Vs.U8 Go.Vs.Pa
set_option maxRecDepth 100000
set_option maxHeartbeats 8000000
structure Ln where
  n : Str
  p : List Pm
  v : Str
  deriving DecidableEq
def Ln.iv (x : Ln) : IV := .agg [.str x.n, .slice (ps x.p), .str x.v]
def ls (l : List Ln) : List (List IV) := l.map fun x => [.str x.n, .slice (ps x.p), .str x.v]
theorem ls_len (l : List Ln) : (ls l).length = l.length := by simp [ls]
theorem ls_get {d : List Ln} {i : Nat} {x : Ln} (h : i < d.length) (hx : d[i] = x) : (ls d)[i]? = some [.str x.n, .slice (ps x.p), .str x.v] := by simp [ls, h, hx]
theorem ls_snoc (l : List Ln) (x : Ln) : ls (l ++ [x]) = ls l ++ [[.str x.n, .slice (ps x.p), .str x.v]] := by simp [ls]
/-- Sizes that may be. -/
structure FitX (x : Ln) : Prop where
  n : x.n.length < 100000
  p : x.p.length < 100000
  f : Fit x.p
  v : x.v.length < 100000
def FitL (l : List Ln) : Prop := ∀ x ∈ l, FitX x
theorem fn_lsame (x y : Ln) (fx : FitX x) (fy : FitX y) : Fn G Tryz.prog k__errand_line_Line_same [x.iv, y.iv] (.bool (decide (x = y))) := by
  refine fn_intro hm ok__errand_line_Line_same (by simp) ?_
  have hS := fn_Same x.p y.p (by have := fx.p; omega) (by have := fy.p; omega) fx.f fy.f
  have hxy : x = y ↔ x.n = y.n ∧ x.v = y.v ∧ x.p = y.p := by
    obtain ⟨a, b, c⟩ := x; obtain ⟨d, e, f⟩ := y
    simp only [Ln.mk.injEq]
    exact ⟨fun h => ⟨h.1, h.2.2, h.2.1⟩, fun h => ⟨h.1, h.2.2, h.2.1⟩⟩
  simp [c__errand_line_Line_same, r__errand_line_Line_same, Ln.iv]
  by_cases h1 : x.n = y.n
  · by_cases h2 : x.v = y.v
    · simp (disch := omega) [br_yes, br_no, wrap_i64, wrap_u8, wrap_i32, List.getElem?_cons_zero, List.getElem?_cons_succ, h1, h2]
      refine callW_imm hS ?_
      simp [hxy, h1, h2]
    · simp (disch := omega) [br_yes, br_no, wrap_i64, wrap_u8, wrap_i32, List.getElem?_cons_zero, List.getElem?_cons_succ, h1, h2, hxy]
  · simp (disch := omega) [br_yes, br_no, wrap_i64, wrap_u8, wrap_i32, List.getElem?_cons_zero, List.getElem?_cons_succ, h1, hxy]
theorem fn_EqualFuncL (a b : List Ln) (ha : a.length < 1000000) (hb : b.length < 1000000) (fa : FitL a) (fb : FitL b) : Fn G Tryz.prog k_slices_EqualFunc_Line [.slice (ls a), .slice (ls b), .fn k__errand_line_Line_same []] (.bool (decide (a = b))) := by
  refine fn_intro hm ok_slices_EqualFunc_Line (by simp) ?_
  simp [c_slices_EqualFunc_Line, r_slices_EqualFunc_Line, ls_len]
  by_cases hl : a.length = b.length
  · simp (disch := omega) [br_yes, br_no, wrap_i64, wrap_u8, wrap_i32, List.getElem?_cons_zero, List.getElem?_cons_succ, ls_len, hl]
    refine loopU hm [] (fun i : Nat => [(17, .val (.int .i64 i))]) (fun i => []) (fun i => i ≤ a.length ∧ a.take i = b.take i) (fun i => a.length - i) 0 ⟨by omega, by simp⟩ ?_ ?_
    · simp
      exact weak_drop rfl rfl (by simp [EnvLe, getE, look]) (by simp [ObLe, look]) (by simp [roOk])
    rintro i ⟨hi, ht⟩
    simp [ls_len]
    by_cases h : i < a.length
    · have h' : i < b.length := by omega
      obtain ⟨x, hx⟩ : ∃ x, a[i] = x := ⟨_, rfl⟩
      obtain ⟨y, hy⟩ : ∃ y, b[i] = y := ⟨_, rfl⟩
      have g1 := ls_get h hx
      have g2 := ls_get h' hy
      have hS := fn_lsame x y (fa x (hx ▸ List.getElem_mem h)) (fb y (hy ▸ List.getElem_mem h'))
      simp only [Ln.iv] at hS
      by_cases e : x = y
      · have hs := take_snoc_eq h h' ht (by rw [hx, hy, e])
        rw [decide_eq_true e] at hS
        simp (disch := omega) [br_yes, br_no, wrap_i64, wrap_u8, wrap_i32, List.getElem?_cons_zero, List.getElem?_cons_succ, ls_len, g1, g2]
        refine callW_imm hS ?_
        simp (disch := omega) [br_yes, br_no, wrap_i64, wrap_u8, wrap_i32, List.getElem?_cons_zero, List.getElem?_cons_succ]
        refine loopEnd (i + 1) ⟨by omega, hs⟩ (by omega) ?_
        simp
        exact weak_drop rfl rfl (by simp [EnvLe, getE, look]) (by simp [ObLe, look]) (by simp [roOk])
      · have hne : ¬ a = b := fun hab => e (by subst hab; rw [← hx, ← hy])
        rw [decide_eq_false e] at hS
        simp (disch := omega) [br_yes, br_no, wrap_i64, wrap_u8, wrap_i32, List.getElem?_cons_zero, List.getElem?_cons_succ, ls_len, g1, g2, hne]
        refine callW_imm hS ?_
        simp [hne]
    · obtain rfl : i = a.length := by omega
      have : a = b := by rw [List.take_length, hl, List.take_length] at ht; exact ht
      simp (disch := omega) [br_yes, br_no, wrap_i64, wrap_u8, wrap_i32, List.getElem?_cons_zero, List.getElem?_cons_succ, this]
  · have hne : ¬ a = b := fun hab => hl (by rw [hab])
    simp (disch := omega) [br_yes, br_no, wrap_i64, wrap_u8, wrap_i32, List.getElem?_cons_zero, List.getElem?_cons_succ, ls_len, hl, hne]
theorem fn_lSame (a b : List Ln) (ha : a.length < 1000000) (hb : b.length < 1000000) (fa : FitL a) (fb : FitL b) : Fn G Tryz.prog k_line_Same [.slice (ls a), .slice (ls b)] (.bool (decide (a = b))) := by
  refine fn_intro hm ok_line_Same (by simp) ?_
  simp [c_line_Same, r_line_Same]
  refine callW_imm (fn_EqualFuncL a b ha hb fa fb) ?_
  simp
end Go.Vs.YtbchceojmblkkaaGreatDoor
namespace Go.Vs.YtbchceojmblkkaaGreatDoor
set_option linter.unusedSimpArgs false
set_option linter.unusedVariables false
open Go.Proofs Go.Vs.U8 Go.Vs.Pa
set_option maxRecDepth 100000
set_option maxHeartbeats 8000000
def hasL (n : Str) (x : Ln) : Bool := decide (x.n = n)
def countL (l : List Ln) (n : Str) : Nat := (l.filter (hasL n)).length
def dropL (l : List Ln) (n : Str) : List Ln := l.filter fun x => !hasL n x
end Go.Vs.YtbchceojmblkkaaGreatDoor
namespace Go.Vs.YtbchceojmblkkaaGreatDoor
set_option linter.unusedSimpArgs false
set_option linter.unusedVariables false
open Go.Proofs Go.Vs.U8 Go.Vs.Pa
set_option maxRecDepth 100000
set_option maxHeartbeats 8000000
end Go.Vs.YtbchceojmblkkaaGreatDoor
