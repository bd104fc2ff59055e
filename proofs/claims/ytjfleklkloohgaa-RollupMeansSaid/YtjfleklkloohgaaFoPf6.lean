/- The walk of the forest's functions, part 6: Set and Cut. No conditions. -/
import Derived.Test.YtjfleklkloohgaaFoPf5
namespace Go.Vs.Ytjfleklkloohgaa
set_option linter.unusedSimpArgs false
set_option linter.unusedVariables false
open Go.Proofs Go.Vs.Fo
set_option maxRecDepth 100000
set_option maxHeartbeats 4000000
def setF (l : Prs) (c p : Str) : Prs × Int := if chkF l = 0 then if (up l c).isSome then (l, 12) else if c = p ∨ c ∈ path l p then (l, 14) else (l ++ [(c, p)], 0) else (l, chkF l)
def cutL (c : Str) (l : Prs) : Prs := l.filter fun q => decide (q.1 ≠ c)
@[simp] theorem cutL_nil (c : Str) : cutL c [] = [] := rfl
def cutF (l : Prs) (c : Str) : Prs × Int := if chkF l = 0 then if (up l c).isSome then (cutL c l, 0) else (l, 6) else (l, chkF l)
def chgT (r : Prs × Int) : IV := .tuple [.slice (ps r.1), .int .i64 r.2]
theorem fnM_Clip (l : Prs) (hne : l ≠ []) : FnM [] Try.prog k_slices_Clip_Pair { args := [.val (.slice (ps l))], objs := [], res := .full (ps l), objs' := [], ro' := [] } := by
  refine fnM_intro hm ok_slices_Clip_Pair (by simp) rfl ?_
  simp [c_slices_Clip_Pair, r_slices_Clip_Pair, hne]
  refine ⟨fun r hr => ps_two r hr, ?_⟩
  simp [fnPostM]
  refine ⟨_, Weak.refl _, rfl, [], ?_, rfl, rfl⟩
  simp [resM, getE, look, List.take_of_length_le]
theorem fnM_Clip0 : FnM [] Try.prog k_slices_Clip_Pair { args := [.val (.slice (ps []))], objs := [], res := .nils, objs' := [], ro' := [] } := by
  refine fnM_intro hm ok_slices_Clip_Pair (by simp) rfl ?_
  simp [c_slices_Clip_Pair, r_slices_Clip_Pair, fnPostM]
  exact ⟨_, Weak.refl _, rfl, [], rfl, rfl, rfl⟩
theorem fn_rSet (l : Prs) (c p : Str) (hl : l.length < 1000000) : Fn [] Try.prog k_ref32_Set [.slice (ps l), .str c, .str p] (chgT (setF l c p)) := by
  refine fn_intro hm ok_ref32_Set (by simp) ?_
  simp [c_ref32_Set, r_ref32_Set]
  refine callW_imm (fn_rCheck l hl) ?_
  simp
  refine brd (fun h => ?_) (fun h => ?_)
  case refine_2 => simp [setF, chgT, h]
  simp
  refine callW_imm (fn_rUp l c hl) ?_
  simp [upT]
  cases hu : (up l c).isSome
  case true => simp [setF, chgT, h, hu]
  simp
  have hpl : (path l p).length < 1000000 := by
    unfold path; rw [if_pos h]
    have := chain_le l (l.length + 1) p
    have := (forest_iff.1 h).low p
    omega
  refine brd (fun hcp => ?_) (fun hcp => ?_)
  · subst hcp; simp [setF, chgT, h, hu]
  simp
  refine callW_imm (fn_rPath l p hl) ?_
  simp
  refine callW_imm (fn_has _ c hpl) ?_
  simp
  refine brd (fun hc => ?_) (fun hc => ?_)
  · simp [setF, chgT, h, hu, hc]
  simp
  refine ⟨⟨by omega, fun q hq => ps_two q hq⟩, by omega, ?_⟩
  simp [setF, chgT, h, hu, hcp, hc, ps_snoc]
theorem fn_Set (l : Prs) (c p : Str) (hl : l.length < 1000000) : Fn [] Try.prog k_forest_Set [.slice (ps l), .str c, .str p] (chgT (setF l c p)) := by
  refine fn_intro hm ok_forest_Set (by simp) ?_
  simp [c_forest_Set, r_forest_Set]
  refine callW_imm (fn_Check l hl) ?_
  simp
  refine brd (fun h => ?_) (fun h => ?_)
  case refine_2 => simp [setF, chgT, h]
  simp
  refine callW_imm (fn_Up l c hl) ?_
  simp [upT]
  cases hu : (up l c).isSome
  case true => simp [setF, chgT, h, hu]
  simp
  have hpl : (path l p).length < 1000000 := by
    unfold path; rw [if_pos h]
    have := chain_le l (l.length + 1) p
    have := (forest_iff.1 h).low p
    omega
  refine brd (fun hcp => ?_) (fun hcp => ?_)
  · subst hcp; simp [setF, chgT, h, hu]
  simp
  refine callW_imm (fn_Path l p hl) ?_
  simp
  refine callW_imm (fn_Contains _ c hpl) ?_
  simp
  refine brd (fun hc => ?_) (fun hc => ?_)
  · simp [setF, chgT, h, hu, hc]
  simp
  refine callW_imm (fn_Clone l hl) ?_
  simp
  by_cases hne : l = []
  · subst hne
    refine callM [] [] fnM_Clip0 rfl rfl trivial ?_ rfl ?_
    · simp [mArgs]
    · simp
      simp [setF, chgT, h, hu, hcp, hc, ps]
  · refine callM [] [] (fnM_Clip l hne) rfl rfl trivial ?_ rfl ?_
    · simp [mArgs]
    · simp
      refine ⟨⟨by omega, fun q hq => ps_two q hq⟩, ?_⟩
      simp [setF, chgT, h, hu, hcp, hc, ps_snoc]
theorem filter_at {a b : Prs} {c u : Str} (hn : ((a ++ (c, u) :: b).map (·.1)).Nodup) : cutL c (a ++ (c, u) :: b) = a ++ b := by
  unfold cutL
  rw [List.map_append, List.map_cons, List.nodup_append, List.nodup_cons] at hn
  obtain ⟨_, ⟨h1, _⟩, h2⟩ := hn
  rw [List.filter_append, List.filter_cons_of_neg (by simp)]
  congr 1
  · rw [List.filter_eq_self]
    intro q hq
    simp only [ne_eq, decide_eq_true_eq]
    exact h2 _ (List.mem_map.2 ⟨q, hq, rfl⟩) _ (by simp)
  · rw [List.filter_eq_self]
    intro q hq
    simp only [ne_eq, decide_eq_true_eq]
    intro e
    exact h1 (List.mem_map.2 ⟨q, hq, e⟩)
theorem filter_take {l : Prs} {i : Nat} (hi : i < l.length) (c : Str) : cutL c (l.take (i + 1)) = cutL c (l.take i) ++ if l[i].1 = c then [] else [l[i]] := by
  unfold cutL
  rw [take_snoc hi, List.filter_append]
  congr 1
  by_cases h : l[i].1 = c <;> simp [h]
theorem fn_rCut (l : Prs) (c : Str) (hl : l.length < 1000000) : Fn [] Try.prog k_ref32_Cut [.slice (ps l), .str c] (chgT (cutF l c)) := by
  refine fn_intro hm ok_ref32_Cut (by simp) ?_
  simp [c_ref32_Cut, r_ref32_Cut]
  refine callW_imm (fn_rCheck l hl) ?_
  simp
  refine brd (fun h => ?_) (fun h => ?_)
  case refine_2 => simp [cutF, chgT, h]
  simp
  refine callW_imm (fn_rUp l c hl) ?_
  cases hu : up l c
  case none => simp [upT, cutF, chgT, h, hu]
  simp [upT]
  refine loopW hm (fun i : Nat => ⟨[(10, .val (.int .i64 i)), (9, .own 9 (cutL c (l.take i)).length), (1, .val (.str c)), (0, .val (.slice (ps l)))],
      [(9, .arr (cutL c (l.take i)).length 2 (ps (cutL c (l.take i))))], [], 47, []⟩)
    (fun i => i ≤ l.length) (fun i => l.length - i) 0 (by omega) (by exact Weak.trans (weak_adopt (k := 9) 9 2 (by simp) (by simp [getE, look])) (weak_drop rfl rfl (by simp [St.adopt, EnvLe, getE, look, put, eraseE, SV.erase]) (by simp [St.adopt, ObLe, look, put, eraseO, Ob.erase]) (by simp [St.adopt, roOk]))) (fun _ => rfl) ?_
  rintro i h1
  simp
  have hb : (cutL c (l.take i)).length ≤ l.length := Nat.le_trans (List.length_filter_le _ _) (by simp; omega)
  refine brd (fun hi => ?_) (fun hi => ?_)
  · have hft := filter_take hi c
    simp [ps_get hi]
    refine brd (fun h' => ?_) (fun h' => ?_)
    · rw [if_pos h', List.append_nil] at hft
      simp [wrap_succ hi hl]
      refine loopEnd (i + 1) (by omega) (by omega) ?_
      simp only [hft]
      exact weak_drop rfl rfl (by simp [EnvLe, getE, look]) (by simp [ObLe, look]) (by simp [roOk])
    · rw [if_neg h'] at hft
      simp [ps_get hi, wrap_succ hi hl]
      refine ⟨by omega, ?_⟩
      refine loopEnd (i + 1) (by omega) (by omega) ?_
      simp only [hft, ps_snoc, List.length_append, List.length_singleton]
      exact weak_drop rfl rfl (by simp [EnvLe, getE, look]) (by simp [ObLe, look]) (by simp [roOk])
  · obtain rfl : i = l.length := by omega
    simp [cutF, chgT, h, hu]
end Go.Vs.Ytjfleklkloohgaa