/- The walk of line, part 1: lines compared, copied, found. No conditions. -/
import Derived.Test.YthcljcjkfhiicaaGreatDoorCA
set_option linter.unusedVariables false
set_option linter.unusedSimpArgs false
namespace Go.Vs.YthcljcjkfhiicaaGreatDoor
set_option linter.unusedSimpArgs false
set_option linter.unusedVariables false
open Go.Proofs Go.Vs.U8 Go.Vs.Pa
set_option maxRecDepth 100000
set_option maxHeartbeats 8000000
structure Ln where
  n : Str
  p : List Pm
  v : Str
  deriving DecidableEq
def Ln.iv (x : Ln) : IV := .agg [.str x.n, .slice (ps x.p), .str x.v]
def ls (l : List Ln) : List (List IV) := l.map fun x => [.str x.n, .slice (ps x.p), .str x.v]
theorem ls_len (l : List Ln) : (ls l).length = l.length := by simp [ls]
theorem ls_get {d : List Ln} {i : Nat} {x : Ln} (h : i < d.length) (hx : d[i] = x) : (ls d)[i]? = some [.str x.n, .slice (ps x.p), .str x.v] := by simp [ls, h, hx]
theorem ls_snoc (l : List Ln) (x : Ln) : ls (l ++ [x]) = ls l ++ [[.str x.n, .slice (ps x.p), .str x.v]] := by simp [ls]
/-- Sizes that may be. -/
structure FitX (x : Ln) : Prop where
  n : x.n.length < 100000
  p : x.p.length < 100000
  f : Fit x.p
  v : x.v.length < 100000
def FitL (l : List Ln) : Prop := ∀ x ∈ l, FitX x
theorem fn_is (x : Ln) (n : Str) : Fn G Tryz.prog k__errand_line_Line_is [x.iv, .str n] (.bool (decide (x.n = n))) := by
  refine fn_intro hm ok__errand_line_Line_is (by simp) ?_
  simp [c__errand_line_Line_is, r__errand_line_Line_is, Ln.iv]
theorem fn_lsame (x y : Ln) (fx : FitX x) (fy : FitX y) : Fn G Tryz.prog k__errand_line_Line_same [x.iv, y.iv] (.bool (decide (x = y))) := by
  refine fn_intro hm ok__errand_line_Line_same (by simp) ?_
  have hS := fn_Same x.p y.p (by have := fx.p; omega) (by have := fy.p; omega) fx.f fy.f
  have hxy : x = y ↔ x.n = y.n ∧ x.v = y.v ∧ x.p = y.p := by
    obtain ⟨a, b, c⟩ := x; obtain ⟨d, e, f⟩ := y
    simp only [Ln.mk.injEq]
    exact ⟨fun h => ⟨h.1, h.2.2, h.2.1⟩, fun h => ⟨h.1, h.2.2, h.2.1⟩⟩
  simp [c__errand_line_Line_same, r__errand_line_Line_same, Ln.iv]
  by_cases h1 : x.n = y.n
  · by_cases h2 : x.v = y.v
    · simp (disch := omega) [br_yes, br_no, wrap_i64, wrap_u8, wrap_i32, List.getElem?_cons_zero, List.getElem?_cons_succ, h1, h2]
      refine callW_imm hS ?_
      simp [hxy, h1, h2]
    · simp (disch := omega) [br_yes, br_no, wrap_i64, wrap_u8, wrap_i32, List.getElem?_cons_zero, List.getElem?_cons_succ, h1, h2, hxy]
  · simp (disch := omega) [br_yes, br_no, wrap_i64, wrap_u8, wrap_i32, List.getElem?_cons_zero, List.getElem?_cons_succ, h1, hxy]
theorem fn_EqualFuncL (a b : List Ln) (ha : a.length < 1000000) (hb : b.length < 1000000) (fa : FitL a) (fb : FitL b) : Fn G Tryz.prog k_slices_EqualFunc_Line [.slice (ls a), .slice (ls b), .fn k__errand_line_Line_same []] (.bool (decide (a = b))) := by
  refine fn_intro hm ok_slices_EqualFunc_Line (by simp) ?_
  simp [c_slices_EqualFunc_Line, r_slices_EqualFunc_Line, ls_len]
  by_cases hl : a.length = b.length
  · simp (disch := omega) [br_yes, br_no, wrap_i64, wrap_u8, wrap_i32, List.getElem?_cons_zero, List.getElem?_cons_succ, ls_len, hl]
    refine loopU hm [] (fun i : Nat => [(17, .val (.int .i64 i))]) (fun i => []) (fun i => i ≤ a.length ∧ a.take i = b.take i) (fun i => a.length - i) 0 ⟨by omega, by simp⟩ ?_ ?_
    · simp
      exact weak_drop rfl rfl (by simp [EnvLe, getE, look]) (by simp [ObLe, look]) (by simp [roOk])
    rintro i ⟨hi, ht⟩
    simp [ls_len]
    by_cases h : i < a.length
    · have h' : i < b.length := by omega
      obtain ⟨x, hx⟩ : ∃ x, a[i] = x := ⟨_, rfl⟩
      obtain ⟨y, hy⟩ : ∃ y, b[i] = y := ⟨_, rfl⟩
      have g1 := ls_get h hx
      have g2 := ls_get h' hy
      have hS := fn_lsame x y (fa x (hx ▸ List.getElem_mem h)) (fb y (hy ▸ List.getElem_mem h'))
      simp only [Ln.iv] at hS
      by_cases e : x = y
      · have hs := take_snoc_eq h h' ht (by rw [hx, hy, e])
        rw [decide_eq_true e] at hS
        simp (disch := omega) [br_yes, br_no, wrap_i64, wrap_u8, wrap_i32, List.getElem?_cons_zero, List.getElem?_cons_succ, ls_len, g1, g2]
        refine callW_imm hS ?_
        simp (disch := omega) [br_yes, br_no, wrap_i64, wrap_u8, wrap_i32, List.getElem?_cons_zero, List.getElem?_cons_succ]
        refine loopEnd (i + 1) ⟨by omega, hs⟩ (by omega) ?_
        simp
        exact weak_drop rfl rfl (by simp [EnvLe, getE, look]) (by simp [ObLe, look]) (by simp [roOk])
      · have hne : ¬ a = b := fun hab => e (by subst hab; rw [← hx, ← hy])
        rw [decide_eq_false e] at hS
        simp (disch := omega) [br_yes, br_no, wrap_i64, wrap_u8, wrap_i32, List.getElem?_cons_zero, List.getElem?_cons_succ, ls_len, g1, g2, hne]
        refine callW_imm hS ?_
        simp [hne]
    · obtain rfl : i = a.length := by omega
      have : a = b := by rw [List.take_length, hl, List.take_length] at ht; exact ht
      simp (disch := omega) [br_yes, br_no, wrap_i64, wrap_u8, wrap_i32, List.getElem?_cons_zero, List.getElem?_cons_succ, this]
  · have hne : ¬ a = b := fun hab => hl (by rw [hab])
    simp (disch := omega) [br_yes, br_no, wrap_i64, wrap_u8, wrap_i32, List.getElem?_cons_zero, List.getElem?_cons_succ, ls_len, hl, hne]
theorem fn_lSame (a b : List Ln) (ha : a.length < 1000000) (hb : b.length < 1000000) (fa : FitL a) (fb : FitL b) : Fn G Tryz.prog k_line_Same [.slice (ls a), .slice (ls b)] (.bool (decide (a = b))) := by
  refine fn_intro hm ok_line_Same (by simp) ?_
  simp [c_line_Same, r_line_Same]
  refine callW_imm (fn_EqualFuncL a b ha hb fa fb) ?_
  simp
theorem fn_rlSame (a b : List Ln) (ha : a.length < 1000000) (hb : b.length < 1000000) (fa : FitL a) (fb : FitL b) : Fn G Tryz.prog k_ref18_Same [.slice (ls a), .slice (ls b)] (.bool (decide (a = b))) := by
  refine fn_intro hm ok_ref18_Same (by simp) ?_
  simp [c_ref18_Same, r_ref18_Same, ls_len]
  by_cases hl : a.length = b.length
  · simp (disch := omega) [br_yes, br_no, wrap_i64, wrap_u8, wrap_i32, List.getElem?_cons_zero, List.getElem?_cons_succ, ls_len, hl]
    refine loopU hm [] (fun i : Nat => [(5, .val (.int .i64 i))]) (fun i => []) (fun i => i ≤ a.length ∧ a.take i = b.take i) (fun i => a.length - i) 0 ⟨by omega, by simp⟩ ?_ ?_
    · simp
      exact weak_drop rfl rfl (by simp [EnvLe, getE, look]) (by simp [ObLe, look]) (by simp [roOk])
    rintro i ⟨hi, ht⟩
    simp [ls_len]
    by_cases h : i < a.length
    · have h' : i < b.length := by omega
      obtain ⟨x, hx⟩ : ∃ x, a[i] = x := ⟨_, rfl⟩
      obtain ⟨y, hy⟩ : ∃ y, b[i] = y := ⟨_, rfl⟩
      have g1 := ls_get h hx
      have g2 := ls_get h' hy
      have fx := fa x (hx ▸ List.getElem_mem h)
      have fy := fb y (hy ▸ List.getElem_mem h')
      have hS := fn_rSame x.p y.p (by have := fx.p; omega) (by have := fy.p; omega) fx.f fy.f
      have hxy : x = y ↔ x.n = y.n ∧ x.v = y.v ∧ x.p = y.p := by
        obtain ⟨a, b, c⟩ := x; obtain ⟨d, e, f⟩ := y
        simp only [Ln.mk.injEq]
        exact ⟨fun h => ⟨h.1, h.2.2, h.2.1⟩, fun h => ⟨h.1, h.2.2, h.2.1⟩⟩
      have ne : ¬ x = y → ¬ a = b := fun e hab => e (by subst hab; rw [← hx, ← hy])
      by_cases h1 : x.n = y.n
      · by_cases h2 : x.v = y.v
        · by_cases h3 : x.p = y.p
          · have hs := take_snoc_eq h h' ht (by rw [hx, hy]; exact hxy.2 ⟨h1, h2, h3⟩)
            simp (disch := omega) [br_yes, br_no, wrap_i64, wrap_u8, wrap_i32, List.getElem?_cons_zero, List.getElem?_cons_succ, ls_len, g1, g2, h1, h2]
            refine callW_imm hS ?_
            simp (disch := omega) [br_yes, br_no, wrap_i64, wrap_u8, wrap_i32, List.getElem?_cons_zero, List.getElem?_cons_succ, h3]
            refine ⟨rfl, ?_⟩
            refine loopEnd (i + 1) ⟨by omega, hs⟩ (by omega) ?_
            simp
            exact weak_drop rfl rfl (by simp [EnvLe, getE, look]) (by simp [ObLe, look]) (by simp [roOk])
          · have hne := ne (fun e => h3 (hxy.1 e).2.2)
            simp (disch := omega) [br_yes, br_no, wrap_i64, wrap_u8, wrap_i32, List.getElem?_cons_zero, List.getElem?_cons_succ, ls_len, g1, g2, h1, h2]
            refine callW_imm hS ?_
            simp (disch := omega) [br_yes, br_no, wrap_i64, wrap_u8, wrap_i32, List.getElem?_cons_zero, List.getElem?_cons_succ, h3, hne]
            try rfl
        · have hne := ne (fun e => h2 (hxy.1 e).2.1)
          simp (disch := omega) [br_yes, br_no, wrap_i64, wrap_u8, wrap_i32, List.getElem?_cons_zero, List.getElem?_cons_succ, ls_len, g1, g2, h1, h2, hne]
          try rfl
      · have hne := ne (fun e => h1 (hxy.1 e).1)
        simp (disch := omega) [br_yes, br_no, wrap_i64, wrap_u8, wrap_i32, List.getElem?_cons_zero, List.getElem?_cons_succ, ls_len, g1, g2, h1, hne]
        try rfl
    · obtain rfl : i = a.length := by omega
      have : a = b := by rw [List.take_length, hl, List.take_length] at ht; exact ht
      simp (disch := omega) [br_yes, br_no, wrap_i64, wrap_u8, wrap_i32, List.getElem?_cons_zero, List.getElem?_cons_succ, this]
  · have hne : ¬ a = b := fun hab => hl (by rw [hab])
    simp (disch := omega) [br_yes, br_no, wrap_i64, wrap_u8, wrap_i32, List.getElem?_cons_zero, List.getElem?_cons_succ, ls_len, hl, hne]
theorem fn_copied (x : Ln) (fx : FitX x) : Fn G Tryz.prog k_line_copied [x.iv] x.iv := by
  refine fn_intro hm ok_line_copied (by simp) ?_
  have hpl := fx.p
  simp [c_line_copied, r_line_copied, Ln.iv, ps_len]
  refine cut_not hm ?_
  simp [ps_len]
  refine loopU hm [] (fun i : Nat => [(14, .val (.int .i64 i))]) (fun i => if i = 0 then [(3, .box [.val (.str x.n), .nils, .val (.str x.v)])] else [(3, .box [.val (.str x.n), .own 27 (i - 1), .val (.str x.v)]), (27, .arr (i - 1) 2 (ps (x.p.take i)))]) (fun i => i ≤ x.p.length) (fun i => x.p.length - i) 0 (by omega) ?_ ?_
  · simp
    exact weak_drop rfl rfl (by simp [EnvLe, getE, look]) (by simp [ObLe, look]) (by simp [roOk])
  intro i hi
  simp [ps_len]
  by_cases h : i < x.p.length
  · obtain ⟨p, hp⟩ : ∃ p, x.p[i] = p := ⟨_, rfl⟩
    have hg := ps_get h hp
    have ht := ps_take_succ h hp
    have hC := fn_Clone p.v (by have := fx.f.v p (hp ▸ List.getElem_mem h); omega)
    cases i with
    | zero =>
      simp (disch := omega) [br_yes, br_no, wrap_i64, wrap_u8, wrap_i32, List.getElem?_cons_zero, List.getElem?_cons_succ, ps_len, hg]
      refine callW_imm hC ?_
      simp (disch := omega) [br_yes, br_no, wrap_i64, wrap_u8, wrap_i32, List.getElem?_cons_zero, List.getElem?_cons_succ]
      refine ⟨rfl, ?_⟩
      refine loopEnd 1 (by omega) (by omega) ?_
      have ht1 : ps (x.p.take 1) = [[.str p.n, .slice (ts p.v)]] := by simpa [ps] using ht
      simp [ht1]
      exact weak_drop rfl rfl (by simp [EnvLe, getE, look]) (by simp [ObLe, look]) (by simp [roOk])
    | succ i =>
      have htl : (ps (x.p.take (i + 1))).length = i + 1 := by rw [ps_len, List.length_take]; omega
      have e0 : (0 : Int) ≤ (i : Int) + 1 := by omega
      have e1 : ((i : Int) + 1).toNat = i + 1 := by omega
      simp (disch := omega) [br_yes, br_no, wrap_i64, wrap_u8, wrap_i32, List.getElem?_cons_zero, List.getElem?_cons_succ, ps_len, hg, e0, e1]
      refine callW_imm hC ?_
      simp (disch := omega) [br_yes, br_no, wrap_i64, wrap_u8, wrap_i32, List.getElem?_cons_zero, List.getElem?_cons_succ, htl]
      refine ⟨by omega, rfl, ?_⟩
      refine loopEnd (i + 1 + 1) (by omega) (by omega) ?_
      simp [ht]
      exact weak_drop rfl rfl (by simp [EnvLe, getE, look]) (by simp [ObLe, look]) (by simp [roOk])
  · obtain rfl : i = x.p.length := by omega
    cases hx : x.p.length with
    | zero =>
      have : x.p = [] := List.length_eq_zero_iff.1 hx
      simp (disch := omega) [br_yes, br_no, wrap_i64, wrap_u8, wrap_i32, List.getElem?_cons_zero, List.getElem?_cons_succ, this, ps]
      simp [List.filter, this, ps]
    | succ k =>
      have : x.p.take (k + 1) = x.p := by rw [← hx, List.take_length]
      simp (disch := omega) [br_yes, br_no, wrap_i64, wrap_u8, wrap_i32, List.getElem?_cons_zero, List.getElem?_cons_succ, hx, this]
      simp [List.filter]
end Go.Vs.YthcljcjkfhiicaaGreatDoor
namespace Go.Vs.YthcljcjkfhiicaaGreatDoor
set_option linter.unusedSimpArgs false
set_option linter.unusedVariables false
open Go.Proofs Go.Vs.U8 Go.Vs.Pa
set_option maxRecDepth 100000
set_option maxHeartbeats 8000000
def hasL (n : Str) (x : Ln) : Bool := decide (x.n = n)
def countL (l : List Ln) (n : Str) : Nat := (l.filter (hasL n)).length
def getL (l : List Ln) (n : Str) : Option Ln := l.find? (hasL n)
def dropL (l : List Ln) (n : Str) : List Ln := l.filter fun x => !hasL n x
/-- What stands after so many, and whether the one was laid. -/
def setGo (x : Ln) : List Ln → Bool → List Ln × Bool
  | [], d => ([], d)
  | y :: r, d => if hasL x.n y then (if d then setGo x r d else (x :: (setGo x r true).1, (setGo x r true).2)) else (y :: (setGo x r d).1, (setGo x r d).2)
def setL (l : List Ln) (x : Ln) : List Ln := if (setGo x l false).2 then (setGo x l false).1 else (setGo x l false).1 ++ [x]
def gotI : Option Ln → IV
  | some x => .tuple [x.iv, .bool true]
  | none => .tuple [(⟨[], [], []⟩ : Ln).iv, .bool false]
theorem count_at {l : List Ln} {i : Nat} {x : Ln} {n : Str} (h : i < l.length) (hx : l[i] = x) : countL (l.take (i + 1)) n = countL (l.take i) n + (if x.n = n then 1 else 0) := by
  rw [List.take_succ_eq_append_getElem h, hx]
  by_cases e : x.n = n <;> simp [countL, hasL, e]
theorem count_le (l : List Ln) (n : Str) (i : Nat) : countL (l.take i) n ≤ i := by
  have := List.length_filter_le (hasL n) (l.take i)
  rw [List.length_take] at this
  simp only [countL]; omega
theorem get_at {l : List Ln} {i : Nat} {x : Ln} {n : Str} (h : i < l.length) (hx : l[i] = x) : getL (l.drop i) n = if x.n = n then some x else getL (l.drop (i + 1)) n := by
  rw [List.drop_eq_getElem_cons h, hx]
  by_cases e : x.n = n <;> simp [getL, hasL, e]
theorem drop_at {l : List Ln} {i : Nat} {x : Ln} {n : Str} (h : i < l.length) (hx : l[i] = x) : dropL (l.take (i + 1)) n = dropL (l.take i) n ++ (if x.n = n then [] else [x]) := by
  rw [List.take_succ_eq_append_getElem h, hx]
  by_cases e : x.n = n <;> simp [dropL, hasL, e]
theorem dropL_le (l : List Ln) (n : Str) (i : Nat) : (dropL (l.take i) n).length ≤ i := by
  have := List.length_filter_le (fun x => !hasL n x) (l.take i)
  rw [List.length_take] at this
  simp only [dropL]; omega
theorem fn_lCount (l : List Ln) (n : Str) (hl : l.length < 100000) : Fn G Tryz.prog k_line_Count [.slice (ls l), .str n] (.int .i64 (countL l n)) := by
  refine fn_intro hm ok_line_Count (by simp) ?_
  simp [c_line_Count, r_line_Count, ls_len]
  refine loopU hm [] (fun i : Nat => [(10, .val (.int .i64 i)), (5, .val (.int .i64 (countL (l.take i) n)))]) (fun _ => []) (fun i => i ≤ l.length) (fun i => l.length - i) 0 (by omega) ?_ ?_
  · simp [countL]
    exact weak_drop rfl rfl (by simp [EnvLe, getE, look]) (by simp [ObLe, look]) (by simp [roOk])
  intro i hi
  simp [ls_len]
  have hcl := count_le l n i
  by_cases h : i < l.length
  · obtain ⟨x, hx⟩ : ∃ x, l[i] = x := ⟨_, rfl⟩
    have hg := ls_get h hx
    have hI := fn_is x n
    have hca := count_at (n := n) h hx
    simp only [Ln.iv] at hI
    by_cases e : x.n = n
    · rw [decide_eq_true e] at hI
      rw [if_pos e] at hca
      simp (disch := omega) [br_yes, br_no, wrap_i64, wrap_u8, wrap_i32, List.getElem?_cons_zero, List.getElem?_cons_succ, ls_len, hg]
      refine callW_imm hI ?_
      simp (disch := omega) [br_yes, br_no, wrap_i64, wrap_u8, wrap_i32, List.getElem?_cons_zero, List.getElem?_cons_succ]
      refine loopEnd (i + 1) (by omega) (by omega) ?_
      simp [hca]
      exact weak_drop rfl rfl (by simp [EnvLe, getE, look]) (by simp [ObLe, look]) (by simp [roOk])
    · rw [decide_eq_false e] at hI
      rw [if_neg e] at hca
      simp (disch := omega) [br_yes, br_no, wrap_i64, wrap_u8, wrap_i32, List.getElem?_cons_zero, List.getElem?_cons_succ, ls_len, hg]
      refine callW_imm hI ?_
      simp (disch := omega) [br_yes, br_no, wrap_i64, wrap_u8, wrap_i32, List.getElem?_cons_zero, List.getElem?_cons_succ]
      refine loopEnd (i + 1) (by omega) (by omega) ?_
      simp [hca]
      exact weak_drop rfl rfl (by simp [EnvLe, getE, look]) (by simp [ObLe, look]) (by simp [roOk])
  · obtain rfl : i = l.length := by omega
    simp (disch := omega) [br_yes, br_no, wrap_i64, wrap_u8, wrap_i32, List.getElem?_cons_zero, List.getElem?_cons_succ]
theorem fn_lrCount (l : List Ln) (n : Str) (hl : l.length < 100000) : Fn G Tryz.prog k_ref18_Count [.slice (ls l), .str n] (.int .i64 (countL l n)) := by
  refine fn_intro hm ok_ref18_Count (by simp) ?_
  simp [c_ref18_Count, r_ref18_Count, ls_len]
  refine loopU hm [] (fun i : Nat => [(6, .val (.int .i64 i)), (5, .val (.int .i64 (countL (l.take i) n)))]) (fun _ => []) (fun i => i ≤ l.length) (fun i => l.length - i) 0 (by omega) ?_ ?_
  · simp [countL]
    exact weak_drop rfl rfl (by simp [EnvLe, getE, look]) (by simp [ObLe, look]) (by simp [roOk])
  intro i hi
  simp [ls_len]
  have hcl := count_le l n i
  by_cases h : i < l.length
  · obtain ⟨x, hx⟩ : ∃ x, l[i] = x := ⟨_, rfl⟩
    have hg := ls_get h hx
    have hca := count_at (n := n) h hx
    by_cases e : x.n = n
    · rw [if_pos e] at hca
      simp (disch := omega) [br_yes, br_no, wrap_i64, wrap_u8, wrap_i32, List.getElem?_cons_zero, List.getElem?_cons_succ, ls_len, hg, e]
      refine loopEnd (i + 1) (by omega) (by omega) ?_
      simp [hca]
      exact weak_drop rfl rfl (by simp [EnvLe, getE, look]) (by simp [ObLe, look]) (by simp [roOk])
    · rw [if_neg e] at hca
      simp (disch := omega) [br_yes, br_no, wrap_i64, wrap_u8, wrap_i32, List.getElem?_cons_zero, List.getElem?_cons_succ, ls_len, hg, e]
      refine loopEnd (i + 1) (by omega) (by omega) ?_
      simp [hca]
      exact weak_drop rfl rfl (by simp [EnvLe, getE, look]) (by simp [ObLe, look]) (by simp [roOk])
  · obtain rfl : i = l.length := by omega
    simp (disch := omega) [br_yes, br_no, wrap_i64, wrap_u8, wrap_i32, List.getElem?_cons_zero, List.getElem?_cons_succ]
theorem fn_lGet (l : List Ln) (n : Str) (hl : l.length < 100000) (hf : FitL l) : Fn G Tryz.prog k_line_Get [.slice (ls l), .str n] (gotI (getL l n)) := by
  refine fn_intro hm ok_line_Get (by simp) ?_
  simp [c_line_Get, r_line_Get, ls_len]
  refine loopU hm [] (fun i : Nat => [(10, .val (.int .i64 i))]) (fun _ => []) (fun i => i ≤ l.length ∧ getL (l.drop i) n = getL l n) (fun i => l.length - i) 0 ⟨by omega, by simp⟩ ?_ ?_
  · simp
    exact weak_drop rfl rfl (by simp [EnvLe, getE, look]) (by simp [ObLe, look]) (by simp [roOk])
  rintro i ⟨hi, hgi⟩
  simp [ls_len]
  by_cases h : i < l.length
  · obtain ⟨x, hx⟩ : ∃ x, l[i] = x := ⟨_, rfl⟩
    have hg := ls_get h hx
    have hI := fn_is x n
    have hC := fn_copied x (hf x (hx ▸ List.getElem_mem h))
    rw [get_at h hx] at hgi
    simp only [Ln.iv] at hI hC
    by_cases e : x.n = n
    · rw [decide_eq_true e] at hI
      rw [if_pos e] at hgi
      rw [← hgi]
      simp (disch := omega) [br_yes, br_no, wrap_i64, wrap_u8, wrap_i32, List.getElem?_cons_zero, List.getElem?_cons_succ, ls_len, hg]
      refine callW_imm hI ?_
      simp (disch := omega) [br_yes, br_no, wrap_i64, wrap_u8, wrap_i32, List.getElem?_cons_zero, List.getElem?_cons_succ]
      refine callW_imm hC ?_
      simp (disch := omega) [br_yes, br_no, wrap_i64, wrap_u8, wrap_i32, List.getElem?_cons_zero, List.getElem?_cons_succ, gotI, Ln.iv]
    · rw [decide_eq_false e] at hI
      rw [if_neg e] at hgi
      simp (disch := omega) [br_yes, br_no, wrap_i64, wrap_u8, wrap_i32, List.getElem?_cons_zero, List.getElem?_cons_succ, ls_len, hg]
      refine callW_imm hI ?_
      simp (disch := omega) [br_yes, br_no, wrap_i64, wrap_u8, wrap_i32, List.getElem?_cons_zero, List.getElem?_cons_succ]
      refine loopEnd (i + 1) ⟨by omega, hgi⟩ (by omega) ?_
      simp
      exact weak_drop rfl rfl (by simp [EnvLe, getE, look]) (by simp [ObLe, look]) (by simp [roOk])
  · obtain rfl : i = l.length := by omega
    have : getL l n = none := by rw [← hgi, List.drop_length]; rfl
    rw [this]
    simp (disch := omega) [br_yes, br_no, wrap_i64, wrap_u8, wrap_i32, List.getElem?_cons_zero, List.getElem?_cons_succ, gotI, Ln.iv, ps]
theorem fn_lrGet (l : List Ln) (n : Str) (hl : l.length < 100000) : Fn G Tryz.prog k_ref18_Get [.slice (ls l), .str n] (gotI (getL l n)) := by
  refine fn_intro hm ok_ref18_Get (by simp) ?_
  simp [c_ref18_Get, r_ref18_Get, ls_len]
  refine loopU hm [] (fun i : Nat => [(6, .val (.int .i64 i))]) (fun _ => []) (fun i => i ≤ l.length ∧ getL (l.drop i) n = getL l n) (fun i => l.length - i) 0 ⟨by omega, by simp⟩ ?_ ?_
  · simp
    exact weak_drop rfl rfl (by simp [EnvLe, getE, look]) (by simp [ObLe, look]) (by simp [roOk])
  rintro i ⟨hi, hgi⟩
  simp [ls_len]
  by_cases h : i < l.length
  · obtain ⟨x, hx⟩ : ∃ x, l[i] = x := ⟨_, rfl⟩
    have hg := ls_get h hx
    rw [get_at h hx] at hgi
    by_cases e : x.n = n
    · rw [if_pos e] at hgi
      rw [← hgi]
      simp (disch := omega) [br_yes, br_no, wrap_i64, wrap_u8, wrap_i32, List.getElem?_cons_zero, List.getElem?_cons_succ, ls_len, hg, e, gotI, Ln.iv]
    · rw [if_neg e] at hgi
      simp (disch := omega) [br_yes, br_no, wrap_i64, wrap_u8, wrap_i32, List.getElem?_cons_zero, List.getElem?_cons_succ, ls_len, hg, e]
      refine loopEnd (i + 1) ⟨by omega, hgi⟩ (by omega) ?_
      simp
      exact weak_drop rfl rfl (by simp [EnvLe, getE, look]) (by simp [ObLe, look]) (by simp [roOk])
  · obtain rfl : i = l.length := by omega
    have : getL l n = none := by rw [← hgi, List.drop_length]; rfl
    rw [this]
    simp (disch := omega) [br_yes, br_no, wrap_i64, wrap_u8, wrap_i32, List.getElem?_cons_zero, List.getElem?_cons_succ, gotI, Ln.iv, ps]
theorem fn_lDrop (l : List Ln) (n : Str) (hl : l.length < 100000) (hf : FitL l) : Fn G Tryz.prog k_line_Drop [.slice (ls l), .str n] (.slice (ls (dropL l n))) := by
  refine fn_intro hm ok_line_Drop (by simp) ?_
  simp [c_line_Drop, r_line_Drop, ls_len]
  refine loopU hm [] (fun i : Nat => [(10, .val (.int .i64 i)), (5, .own 5 (dropL (l.take i) n).length)]) (fun i => [(5, .arr (dropL (l.take i) n).length 3 (ls (dropL (l.take i) n)))]) (fun i => i ≤ l.length) (fun i => l.length - i) 0 (by omega) ?_ ?_
  · simp [dropL, ls]
    exact Weak.trans (weak_adopt (k := 5) 5 3 (by simp) (by simp [getE, look])) (weak_drop rfl rfl (by simp [St.adopt, EnvLe, getE, look, put, eraseE, SV.erase]) (by simp [St.adopt, ObLe, look, put, eraseO, Ob.erase]) (by simp [St.adopt, roOk]))
  intro i hi
  simp [ls_len]
  have hdl := dropL_le l n i
  by_cases h : i < l.length
  · obtain ⟨x, hx⟩ : ∃ x, l[i] = x := ⟨_, rfl⟩
    have hg := ls_get h hx
    have hI := fn_is x n
    have hC := fn_copied x (hf x (hx ▸ List.getElem_mem h))
    have hda := drop_at (n := n) h hx
    simp only [Ln.iv] at hI hC
    by_cases e : x.n = n
    · rw [decide_eq_true e] at hI
      rw [if_pos e, List.append_nil] at hda
      simp (disch := omega) [br_yes, br_no, wrap_i64, wrap_u8, wrap_i32, List.getElem?_cons_zero, List.getElem?_cons_succ, ls_len, hg]
      refine callW_imm hI ?_
      simp (disch := omega) [br_yes, br_no, wrap_i64, wrap_u8, wrap_i32, List.getElem?_cons_zero, List.getElem?_cons_succ]
      refine loopEnd (i + 1) (by omega) (by omega) ?_
      simp [hda]
      exact weak_drop rfl rfl (by simp [EnvLe, getE, look]) (by simp [ObLe, look]) (by simp [roOk])
    · rw [decide_eq_false e] at hI
      rw [if_neg e] at hda
      simp (disch := omega) [br_yes, br_no, wrap_i64, wrap_u8, wrap_i32, List.getElem?_cons_zero, List.getElem?_cons_succ, ls_len, hg]
      refine callW_imm hI ?_
      simp (disch := omega) [br_yes, br_no, wrap_i64, wrap_u8, wrap_i32, List.getElem?_cons_zero, List.getElem?_cons_succ]
      refine callW_imm hC ?_
      simp (disch := omega) [br_yes, br_no, wrap_i64, wrap_u8, wrap_i32, List.getElem?_cons_zero, List.getElem?_cons_succ, ls_len]
      refine ⟨by omega, ?_⟩
      refine loopEnd (i + 1) (by omega) (by omega) ?_
      simp [hda, ls_snoc]
      exact weak_drop rfl rfl (by simp [EnvLe, getE, look]) (by simp [ObLe, look]) (by simp [roOk])
  · obtain rfl : i = l.length := by omega
    simp (disch := omega) [br_yes, br_no, wrap_i64, wrap_u8, wrap_i32, List.getElem?_cons_zero, List.getElem?_cons_succ]
theorem fn_lrDrop (l : List Ln) (n : Str) (hl : l.length < 100000) : Fn G Tryz.prog k_ref18_Drop [.slice (ls l), .str n] (.slice (ls (dropL l n))) := by
  refine fn_intro hm ok_ref18_Drop (by simp) ?_
  simp [c_ref18_Drop, r_ref18_Drop, ls_len]
  refine loopU hm [] (fun i : Nat => [(6, .val (.int .i64 i)), (5, .own 5 (dropL (l.take i) n).length)]) (fun i => [(5, .arr (dropL (l.take i) n).length 3 (ls (dropL (l.take i) n)))]) (fun i => i ≤ l.length) (fun i => l.length - i) 0 (by omega) ?_ ?_
  · simp [dropL, ls]
    exact Weak.trans (weak_adopt (k := 5) 5 3 (by simp) (by simp [getE, look])) (weak_drop rfl rfl (by simp [St.adopt, EnvLe, getE, look, put, eraseE, SV.erase]) (by simp [St.adopt, ObLe, look, put, eraseO, Ob.erase]) (by simp [St.adopt, roOk]))
  intro i hi
  simp [ls_len]
  have hdl := dropL_le l n i
  by_cases h : i < l.length
  · obtain ⟨x, hx⟩ : ∃ x, l[i] = x := ⟨_, rfl⟩
    have hg := ls_get h hx
    have hda := drop_at (n := n) h hx
    by_cases e : x.n = n
    · rw [if_pos e, List.append_nil] at hda
      simp (disch := omega) [br_yes, br_no, wrap_i64, wrap_u8, wrap_i32, List.getElem?_cons_zero, List.getElem?_cons_succ, ls_len, hg, e]
      refine loopEnd (i + 1) (by omega) (by omega) ?_
      simp [hda]
      exact weak_drop rfl rfl (by simp [EnvLe, getE, look]) (by simp [ObLe, look]) (by simp [roOk])
    · rw [if_neg e] at hda
      simp (disch := omega) [br_yes, br_no, wrap_i64, wrap_u8, wrap_i32, List.getElem?_cons_zero, List.getElem?_cons_succ, ls_len, hg, e]
      refine ⟨by omega, ?_⟩
      refine loopEnd (i + 1) (by omega) (by omega) ?_
      simp [hda, ls_snoc]
      exact weak_drop rfl rfl (by simp [EnvLe, getE, look]) (by simp [ObLe, look]) (by simp [roOk])
  · obtain rfl : i = l.length := by omega
    simp (disch := omega) [br_yes, br_no, wrap_i64, wrap_u8, wrap_i32, List.getElem?_cons_zero, List.getElem?_cons_succ]
end Go.Vs.YthcljcjkfhiicaaGreatDoor
namespace Go.Vs.YthcljcjkfhiicaaGreatDoor
set_option linter.unusedSimpArgs false
set_option linter.unusedVariables false
open Go.Proofs Go.Vs.U8 Go.Vs.Pa
set_option maxRecDepth 100000
set_option maxHeartbeats 8000000
theorem setGo_snoc (x y : Ln) : ∀ (l : List Ln) (d : Bool), setGo x (l ++ [y]) d =
    if hasL x.n y then (if (setGo x l d).2 then setGo x l d else ((setGo x l d).1 ++ [x], true)) else ((setGo x l d).1 ++ [y], (setGo x l d).2)
  | [], d => by cases h : hasL x.n y <;> cases d <;> simp [setGo, h]
  | z :: r, d => by
    have ih1 := setGo_snoc x y r d
    have ih2 := setGo_snoc x y r true
    cases h : hasL x.n y <;> cases hz : hasL x.n z <;> cases d <;> simp [setGo, h, hz] at ih1 ih2 ⊢ <;> (try simp [ih1, ih2]) <;> (try (split <;> simp_all))
theorem setGo_len (x : Ln) : ∀ (l : List Ln) (d : Bool), (setGo x l d).1.length ≤ l.length
  | [], d => by simp [setGo]
  | z :: r, d => by
    have ih1 := setGo_len x r d
    have ih2 := setGo_len x r true
    cases hz : hasL x.n z <;> cases d <;> simp [setGo, hz] <;> omega
theorem fn_lSet (l : List Ln) (x : Ln) (hl : l.length < 100000) (hf : FitL l) (fx : FitX x) : Fn G Tryz.prog k_line_Set [.slice (ls l), x.iv] (.slice (ls (setL l x))) := by
  refine fn_intro hm ok_line_Set (by simp) ?_
  have hCx := fn_copied x fx
  simp only [Ln.iv] at hCx
  simp [c_line_Set, r_line_Set, ls_len, Ln.iv]
  refine cut_not hm ?_
  simp [ls_len]
  refine loopU hm [] (fun i : Nat => [(11, .val (.int .i64 i)), (6, .val (.bool (setGo x (l.take i) false).2)), (5, .own 5 (setGo x (l.take i) false).1.length)]) (fun i => [(5, .arr (setGo x (l.take i) false).1.length 3 (ls (setGo x (l.take i) false).1))]) (fun i => i ≤ l.length) (fun i => l.length - i) 0 (by omega) ?_ ?_
  · simp [setGo, ls]
    exact Weak.trans (weak_adopt (k := 5) 5 3 (by simp) (by simp [getE, look])) (weak_drop rfl rfl (by simp [St.adopt, EnvLe, getE, look, put, eraseE, SV.erase]) (by simp [St.adopt, ObLe, look, put, eraseO, Ob.erase]) (by simp [St.adopt, roOk]))
  intro i hi
  simp [ls_len]
  have hsl := setGo_len x (l.take i) false
  rw [List.length_take] at hsl
  by_cases h : i < l.length
  · obtain ⟨y, hy⟩ : ∃ y, l[i] = y := ⟨_, rfl⟩
    have hg := ls_get h hy
    have hI := fn_is y x.n
    have hC := fn_copied y (hf y (hy ▸ List.getElem_mem h))
    have hs := setGo_snoc x y (l.take i) false
    rw [← hy, ← List.take_succ_eq_append_getElem h, hy] at hs
    simp only [Ln.iv] at hI hC
    simp (disch := omega) [br_yes, br_no, wrap_i64, wrap_u8, wrap_i32, List.getElem?_cons_zero, List.getElem?_cons_succ, ls_len, hg]
    refine cut_not hm ?_
    simp [ls_len, hg]
    refine callW_imm hI ?_
    by_cases e : y.n = x.n
    · have hb : hasL x.n y = true := by simp [hasL, e]
      rw [if_pos hb] at hs
      rw [decide_eq_true e]
      cases hd : (setGo x (l.take i) false).2 with
      | true =>
        rw [if_pos hd] at hs
        simp (disch := omega) [br_yes, br_no, wrap_i64, wrap_u8, wrap_i32, List.getElem?_cons_zero, List.getElem?_cons_succ]
        refine loopEnd (i + 1) (by omega) (by omega) ?_
        simp [hs, hd]
        exact weak_drop rfl rfl (by simp [EnvLe, getE, look]) (by simp [ObLe, look]) (by simp [roOk])
      | false =>
        rw [if_neg (by simp [hd])] at hs
        simp (disch := omega) [br_yes, br_no, wrap_i64, wrap_u8, wrap_i32, List.getElem?_cons_zero, List.getElem?_cons_succ]
        refine callW_imm hCx ?_
        simp (disch := omega) [br_yes, br_no, wrap_i64, wrap_u8, wrap_i32, List.getElem?_cons_zero, List.getElem?_cons_succ, ls_len]
        refine ⟨by omega, ?_⟩
        refine loopEnd (i + 1) (by omega) (by omega) ?_
        simp [hs, ls_snoc]
        exact weak_drop rfl rfl (by simp [EnvLe, getE, look]) (by simp [ObLe, look]) (by simp [roOk])
    · have hb : hasL x.n y = false := by simp [hasL, e]
      rw [if_neg (by simp [hb])] at hs
      rw [decide_eq_false e]
      simp (disch := omega) [br_yes, br_no, wrap_i64, wrap_u8, wrap_i32, List.getElem?_cons_zero, List.getElem?_cons_succ]
      refine callW_imm hC ?_
      simp (disch := omega) [br_yes, br_no, wrap_i64, wrap_u8, wrap_i32, List.getElem?_cons_zero, List.getElem?_cons_succ, ls_len]
      refine ⟨by omega, ?_⟩
      refine loopEnd (i + 1) (by omega) (by omega) ?_
      simp [hs, ls_snoc]
      exact weak_drop rfl rfl (by simp [EnvLe, getE, look]) (by simp [ObLe, look]) (by simp [roOk])
  · have hil : i = l.length := by omega
    have htk : l.take i = l := by rw [hil, List.take_length]
    rw [htk] at hsl ⊢
    cases hd : (setGo x l false).2 with
    | true =>
      have hR : setL l x = (setGo x l false).1 := by simp [setL, hd]
      rw [hR]
      simp (disch := omega) [br_yes, br_no, wrap_i64, wrap_u8, wrap_i32, List.getElem?_cons_zero, List.getElem?_cons_succ]
      refine cut_not hm ?_
      simp (disch := omega) [br_yes, br_no, wrap_i64, wrap_u8, wrap_i32, List.getElem?_cons_zero, List.getElem?_cons_succ, hd]
    | false =>
      have hR : setL l x = (setGo x l false).1 ++ [x] := by simp [setL, hd]
      rw [hR, ls_snoc]
      simp (disch := omega) [br_yes, br_no, wrap_i64, wrap_u8, wrap_i32, List.getElem?_cons_zero, List.getElem?_cons_succ]
      refine cut_not hm ?_
      simp (disch := omega) [br_yes, br_no, wrap_i64, wrap_u8, wrap_i32, List.getElem?_cons_zero, List.getElem?_cons_succ, hd]
      refine callW_imm hCx ?_
      simp (disch := omega) [br_yes, br_no, wrap_i64, wrap_u8, wrap_i32, List.getElem?_cons_zero, List.getElem?_cons_succ, ls_len]
      try omega
theorem fn_lrSet (l : List Ln) (x : Ln) (hl : l.length < 100000) : Fn G Tryz.prog k_ref18_Set [.slice (ls l), x.iv] (.slice (ls (setL l x))) := by
  refine fn_intro hm ok_ref18_Set (by simp) ?_
  simp [c_ref18_Set, r_ref18_Set, ls_len, Ln.iv]
  refine cut_not hm ?_
  simp [ls_len]
  refine loopU hm [] (fun i : Nat => [(7, .val (.int .i64 i)), (6, .val (.bool (setGo x (l.take i) false).2)), (5, .own 5 (setGo x (l.take i) false).1.length)]) (fun i => [(5, .arr (setGo x (l.take i) false).1.length 3 (ls (setGo x (l.take i) false).1))]) (fun i => i ≤ l.length) (fun i => l.length - i) 0 (by omega) ?_ ?_
  · simp [setGo, ls]
    exact Weak.trans (weak_adopt (k := 5) 5 3 (by simp) (by simp [getE, look])) (weak_drop rfl rfl (by simp [St.adopt, EnvLe, getE, look, put, eraseE, SV.erase]) (by simp [St.adopt, ObLe, look, put, eraseO, Ob.erase]) (by simp [St.adopt, roOk]))
  intro i hi
  simp [ls_len]
  have hsl := setGo_len x (l.take i) false
  rw [List.length_take] at hsl
  by_cases h : i < l.length
  · obtain ⟨y, hy⟩ : ∃ y, l[i] = y := ⟨_, rfl⟩
    have hg := ls_get h hy
    have hs := setGo_snoc x y (l.take i) false
    rw [← hy, ← List.take_succ_eq_append_getElem h, hy] at hs
    simp (disch := omega) [br_yes, br_no, wrap_i64, wrap_u8, wrap_i32, List.getElem?_cons_zero, List.getElem?_cons_succ, ls_len, hg]
    refine cut_not hm ?_
    by_cases e : y.n = x.n
    · have hb : hasL x.n y = true := by simp [hasL, e]
      rw [if_pos hb] at hs
      cases hd : (setGo x (l.take i) false).2 with
      | true =>
        rw [if_pos hd] at hs
        simp (disch := omega) [br_yes, br_no, wrap_i64, wrap_u8, wrap_i32, List.getElem?_cons_zero, List.getElem?_cons_succ, ls_len, hg, e]
        refine loopEnd (i + 1) (by omega) (by omega) ?_
        simp [hs, hd]
        exact weak_drop rfl rfl (by simp [EnvLe, getE, look]) (by simp [ObLe, look]) (by simp [roOk])
      | false =>
        rw [if_neg (by simp [hd])] at hs
        simp (disch := omega) [br_yes, br_no, wrap_i64, wrap_u8, wrap_i32, List.getElem?_cons_zero, List.getElem?_cons_succ, ls_len, hg, e]
        refine ⟨by omega, ?_⟩
        refine loopEnd (i + 1) (by omega) (by omega) ?_
        simp [hs, ls_snoc]
        exact weak_drop rfl rfl (by simp [EnvLe, getE, look]) (by simp [ObLe, look]) (by simp [roOk])
    · have hb : hasL x.n y = false := by simp [hasL, e]
      rw [if_neg (by simp [hb])] at hs
      simp (disch := omega) [br_yes, br_no, wrap_i64, wrap_u8, wrap_i32, List.getElem?_cons_zero, List.getElem?_cons_succ, ls_len, hg, e]
      refine ⟨by omega, ?_⟩
      refine loopEnd (i + 1) (by omega) (by omega) ?_
      simp [hs, ls_snoc]
      exact weak_drop rfl rfl (by simp [EnvLe, getE, look]) (by simp [ObLe, look]) (by simp [roOk])
  · have hil : i = l.length := by omega
    have htk : l.take i = l := by rw [hil, List.take_length]
    rw [htk] at hsl ⊢
    cases hd : (setGo x l false).2 with
    | true =>
      have hR : setL l x = (setGo x l false).1 := by simp [setL, hd]
      rw [hR]
      simp (disch := omega) [br_yes, br_no, wrap_i64, wrap_u8, wrap_i32, List.getElem?_cons_zero, List.getElem?_cons_succ]
      refine cut_not hm ?_
      simp (disch := omega) [br_yes, br_no, wrap_i64, wrap_u8, wrap_i32, List.getElem?_cons_zero, List.getElem?_cons_succ, hd]
    | false =>
      have hR : setL l x = (setGo x l false).1 ++ [x] := by simp [setL, hd]
      rw [hR, ls_snoc]
      simp (disch := omega) [br_yes, br_no, wrap_i64, wrap_u8, wrap_i32, List.getElem?_cons_zero, List.getElem?_cons_succ]
      refine cut_not hm ?_
      simp (disch := omega) [br_yes, br_no, wrap_i64, wrap_u8, wrap_i32, List.getElem?_cons_zero, List.getElem?_cons_succ, hd, ls_len]
      try omega
end Go.Vs.YthcljcjkfhiicaaGreatDoor
