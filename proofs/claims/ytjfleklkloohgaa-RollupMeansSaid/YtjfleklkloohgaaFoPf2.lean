/- The walk of the forest's functions, part 2. No conditions. -/
import Derived.Test.YtjfleklkloohgaaFoPf1
namespace Go.Vs.Ytjfleklkloohgaa
set_option linter.unusedSimpArgs false
set_option linter.unusedVariables false
open Go.Proofs Go.Vs.Fo
set_option maxRecDepth 100000
set_option maxHeartbeats 4000000
theorem ps_take (l : Prs) (i : Nat) : (ps l).take i = ps (l.take i) := by simp [ps, List.map_take]
theorem ts_drop (l : List Str) (i : Nat) : (ts l).drop i = ts (l.drop i) := by simp [ts, List.map_drop]
theorem pair_ext {a b : Str × Str} : (a.1 = b.1 ∧ a.2 = b.2) ↔ a = b := by cases a; cases b; simp
theorem fn_SamePairs (a b : Prs) (hl : a.length < 1000000) : Fn [] Try.prog k_ref32_SamePairs [.slice (ps a), .slice (ps b)] (.bool (decide (a = b))) := by
  refine fn_intro hm ok_ref32_SamePairs (by simp) ?_
  simp [c_ref32_SamePairs, r_ref32_SamePairs]
  refine brd (fun h0 => ?_) (fun h0 => ?_)
  case refine_2 => simp; intro h; subst h; simp at h0
  have h0 : a.length = b.length := by omega
  simp
  refine loopW hm (fun i : Nat => ⟨[(5, .val (.int .i64 i)), (1, .val (.slice (ps b))), (0, .val (.slice (ps a)))], [], [], 26, []⟩)
    (fun i => i ≤ a.length ∧ ∀ j (_ : j < i) (h1 : j < a.length) (h2 : j < b.length), a[j] = b[j]) (fun i => a.length - i) 0 ⟨by omega, by intro j h; omega⟩ (by exact weak_drop rfl rfl (by simp [EnvLe, getE, look]) (by simp [ObLe, look]) (by simp [roOk])) (fun _ => rfl) ?_
  rintro i ⟨h1, h2⟩
  simp
  refine brd (fun hi => ?_) (fun hi => ?_)
  · have hi' : i < b.length := by omega
    simp [ps_get hi, ps_get hi']
    have step : a[i] = b[i] → ∀ j (_ : j < i + 1) (h1 : j < a.length) (h2 : j < b.length), a[j] = b[j] := by
      intro h j hj k1 k2
      rcases Nat.lt_or_ge j i with hj' | hj'
      · exact h2 j hj' k1 k2
      · obtain rfl : j = i := by omega
        exact h
    refine brd (fun h => ?_) (fun h => ?_)
    · simp
      refine brd (fun h' => ?_) (fun h' => ?_)
      · simp [wrap_succ hi hl]
        exact loopEnd (i + 1) ⟨by omega, step (pair_ext.1 ⟨h, h'⟩)⟩ (by omega) (by exact weak_drop rfl rfl (by simp [EnvLe, getE, look]) (by simp [ObLe, look]) (by simp [roOk]))
      · simp; intro hab; subst hab; exact h' rfl
    · simp; intro hab; subst hab; exact h rfl
  · simp
    rw [same_iff h0]
    intro j k1 k2
    exact h2 j (by omega) k1 k2
theorem fn_has (a : List Str) (x : Str) (hl : a.length < 1000000) : Fn [] Try.prog k_ref32_has [.slice (ts a), .str x] (.bool (decide (x ∈ a))) := by
  refine fn_intro hm ok_ref32_has (by simp) ?_
  simp [c_ref32_has, r_ref32_has]
  refine loopW hm (fun i : Nat => ⟨[(5, .val (.int .i64 i)), (1, .val (.str x)), (0, .val (.slice (ts a)))], [], [], 18, []⟩)
    (fun i => i ≤ a.length ∧ x ∉ a.take i) (fun i => a.length - i) 0 ⟨by omega, by simp⟩ (by exact weak_drop rfl rfl (by simp [EnvLe, getE, look]) (by simp [ObLe, look]) (by simp [roOk])) (fun _ => rfl) ?_
  rintro i ⟨h1, h2⟩
  simp
  refine brd (fun hi => ?_) (fun hi => ?_)
  · simp [ts_get hi]
    refine brd (fun h => ?_) (fun h => ?_)
    · simp; exact h ▸ List.getElem_mem hi
    · simp [wrap_succ hi hl]
      refine loopEnd (i + 1) ⟨by omega, ?_⟩ (by omega) (by exact weak_drop rfl rfl (by simp [EnvLe, getE, look]) (by simp [ObLe, look]) (by simp [roOk]))
      rw [List.take_succ_eq_append_getElem hi, List.mem_append, List.mem_singleton]
      exact fun hh => hh.elim h2 (fun e => h e.symm)
  · simp
    obtain rfl : i = a.length := by omega
    rwa [List.take_length] at h2
def posT (a : List Str) (x : Str) : Int := if x ∈ a then (a.findIdx fun y => decide (y = x) : Nat) else -1
theorem posT_at {a : List Str} {x : Str} {i : Nat} (hi : i < a.length) (h : a[i] = x) (h2 : x ∉ a.take i) : posT a x = i := by
  unfold posT
  rw [if_pos (h ▸ List.getElem_mem hi)]
  have : (a.findIdx fun y => decide (y = x)) = i := by
    rw [List.findIdx_eq hi]
    refine ⟨by simp [h], fun j hj => ?_⟩
    simp only [decide_eq_false_iff_not]
    rintro rfl
    exact h2 (by rw [List.mem_take_iff_getElem]; exact ⟨j, by omega, rfl⟩)
  rw [this]
theorem fn_Index (a : List Str) (x : Str) (hl : a.length < 1000000) : Fn [] Try.prog k_slices_Index_string [.slice (ts a), .str x] (.int .i64 (posT a x)) := by
  refine fn_intro hm ok_slices_Index_string (by simp) ?_
  simp [c_slices_Index_string, r_slices_Index_string]
  refine loopW hm (fun i : Nat => ⟨[(8, .val (.int .i64 i)), (7, .val (.int .i64 a.length)), (1, .val (.str x)), (0, .val (.slice (ts a)))], [], [], 19, []⟩)
    (fun i => i ≤ a.length ∧ x ∉ a.take i) (fun i => a.length - i) 0 ⟨by omega, by simp⟩ (by exact weak_drop rfl rfl (by simp [EnvLe, getE, look]) (by simp [ObLe, look]) (by simp [roOk])) (fun _ => rfl) ?_
  rintro i ⟨h1, h2⟩
  simp
  refine brd (fun hi => ?_) (fun hi => ?_)
  · simp [ts_get hi]
    refine brd (fun h => ?_) (fun h => ?_)
    · simp; exact (posT_at hi h.symm h2).symm
    · simp [wrap_succ hi hl]
      refine loopEnd (i + 1) ⟨by omega, ?_⟩ (by omega) (by exact weak_drop rfl rfl (by simp [EnvLe, getE, look]) (by simp [ObLe, look]) (by simp [roOk]))
      rw [List.take_succ_eq_append_getElem hi, List.mem_append, List.mem_singleton]
      exact fun hh => hh.elim h2 h
  · simp
    obtain rfl : i = a.length := by omega
    rw [List.take_length] at h2
    simp [posT, h2]
theorem fn_Contains (a : List Str) (x : Str) (hl : a.length < 1000000) : Fn [] Try.prog k_slices_Contains_string [.slice (ts a), .str x] (.bool (decide (x ∈ a))) := by
  refine fn_intro hm ok_slices_Contains_string (by simp) ?_
  simp [c_slices_Contains_string, r_slices_Contains_string]
  refine callW_imm (fn_Index a x hl) ?_
  simp [posT]
  split <;> simp_all
theorem fn_Cut1 (p : Str × Str) (c : Str) : Fn [] Try.prog k_forest_Cut_1 [.agg [.str p.1, .str p.2], .ref [.str c]] (.bool (decide (p.1 = c))) := by
  refine fn_intro hm ok_forest_Cut_1 (by simp) ?_
  simp [c_forest_Cut_1, r_forest_Cut_1]
theorem fn_IndexFunc (l : Prs) (c : Str) (hl : l.length < 1000000) : Fn [] Try.prog k_slices_IndexFunc_Pair [.slice (ps l), .fn k_forest_Cut_1 [.ref [.str c]]] (.int .i64 (posT (l.map (·.1)) c)) := by
  refine fn_intro hm ok_slices_IndexFunc_Pair (by simp) ?_
  simp [c_slices_IndexFunc_Pair, r_slices_IndexFunc_Pair]
  refine loopW hm (fun i : Nat => ⟨[(8, .val (.int .i64 i)), (7, .val (.int .i64 l.length)), (1, .val (.fn k_forest_Cut_1 [.ref [.str c]])), (0, .val (.slice (ps l)))], [], [], 19, []⟩)
    (fun i => i ≤ l.length ∧ c ∉ (l.map (·.1)).take i) (fun i => l.length - i) 0 ⟨by omega, by simp⟩ (by exact weak_drop rfl rfl (by simp [EnvLe, getE, look]) (by simp [ObLe, look]) (by simp [roOk])) (fun _ => rfl) ?_
  rintro i ⟨h1, h2⟩
  simp
  refine brd (fun hi => ?_) (fun hi => ?_)
  · have hi' : i < (l.map (·.1)).length := by simpa using hi
    simp [ps_get hi]
    refine callW_imm (fn_Cut1 _ _) ?_
    simp
    refine brd (fun h => ?_) (fun h => ?_)
    · simp; exact (posT_at hi' (by simpa using h) h2).symm
    · simp [wrap_succ hi hl]
      refine loopEnd (i + 1) ⟨by omega, ?_⟩ (by omega) (by exact weak_drop rfl rfl (by simp [EnvLe, getE, look]) (by simp [ObLe, look]) (by simp [roOk]))
      rw [List.take_succ_eq_append_getElem hi', List.mem_append, List.mem_singleton]
      exact fun hh => hh.elim h2 (fun e => h (by simpa using e.symm))
  · simp
    obtain rfl : i = l.length := by omega
    rw [List.take_of_length_le (by simp)] at h2
    simp only [posT, if_neg h2]
theorem fn_Clone (l : Prs) (hl : l.length < 1000000) : Fn [] Try.prog k_slices_Clone_Pair [.slice (ps l)] (.slice (ps l)) := by
  refine fn_intro hm ok_slices_Clone_Pair (by simp) ?_
  cases l with
  | nil => simp [c_slices_Clone_Pair, r_slices_Clone_Pair]
  | cons p r =>
    have e : ps (p :: r) = [.str p.1, .str p.2] :: ps r := rfl
    have h2 : ∀ q ∈ ps (p :: r), q.length = 2 := ps_two
    rw [e] at h2 ⊢
    simp [c_slices_Clone_Pair, r_slices_Clone_Pair]
    simp at hl h2
    exact ⟨by omega, h2⟩
theorem fn_CloneO (l : Prs) (hl : l.length < 1000000) (hne : l ≠ []) : FnR [] Try.prog k_slices_Clone_Pair [.slice (ps l)] (.own 2 (ps l)) := by
  refine fn_intro hm ok_slices_Clone_Pair (by simp) ?_
  cases l with
  | nil => exact absurd rfl hne
  | cons p r =>
    have e : ps (p :: r) = [.str p.1, .str p.2] :: ps r := rfl
    have h2 : ∀ q ∈ ps (p :: r), q.length = 2 := ps_two
    rw [e] at h2 ⊢
    simp [c_slices_Clone_Pair, r_slices_Clone_Pair]
    simp at hl h2
    exact ⟨by omega, h2⟩
end Go.Vs.Ytjfleklkloohgaa
