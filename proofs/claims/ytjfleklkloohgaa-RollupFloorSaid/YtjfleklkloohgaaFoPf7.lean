/- The walk of the forest's functions, part 7: Delete and Cut. No conditions. -/
import Derived.Test.YtjfleklkloohgaaFoPf6
namespace Go.Vs.Ytjfleklkloohgaa
set_option linter.unusedSimpArgs false
set_option linter.unusedVariables false
open Go.Proofs Go.Vs.Fo
set_option maxRecDepth 100000
set_option maxHeartbeats 4000000
theorem fnM_Delete (l : Prs) (i v : Nat) (hi : i < l.length) (hl : l.length < 1000000) : FnM [] Try.prog k_slices_Delete_Pair { args := [.own 1000 v, .val (.int .i64 i), .val (.int .i64 ((i : Int) + 1))], objs := [(1000, .arr v 2 (ps l))], res := .view 1000 v 0 (l.length - 1), objs' := [(1000, .arr v 2 (ps (l.take i ++ l.drop (i + 1)) ++ [[.str [], .str []]]))], ro' := [] } := by
  refine fnM_intro hm ok_slices_Delete_Pair (by simp) rfl ?_
  simp [c_slices_Delete_Pair, r_slices_Delete_Pair]
  refine ⟨⟨by omega, by omega⟩, ?_⟩
  refine brd (fun h => by omega) (fun h => ?_)
  simp
  refine ⟨by omega, ⟨by omega, by omega⟩, by omega, rfl, ⟨by omega, by omega⟩, ?_⟩
  have e1 : i + (l.length - (i + 1)) = l.length - 1 := by omega
  have e2 : ((i : Int) + ((l.length - (i + 1) : Nat) : Int)).toNat = l.length - 1 := by omega
  have e3 : List.drop (l.length - 1) (ps l) = List.drop (l.length - 1) (ps l) := rfl
  have e4 : (ps l).take i = ps (l.take i) := ps_take l i
  have e5 : (ps l).take l.length = ps l := List.take_of_length_le (by simp)
  have e6 : (ps l).drop (i + 1) = ps (l.drop (i + 1)) := by simp [ps, List.map_drop]
  have e7 : ps (l.take i) ++ ps (l.drop (i + 1)) = ps (l.take i ++ l.drop (i + 1)) := by simp [ps]
  have e8 : (ps (l.take i ++ l.drop (i + 1))).length = l.length - 1 := by simp; omega
  have e9 : l.length - (l.length - 1) = 1 := by omega
  simp only [e1, e2, e5, e4, e6]
  simp only [← List.append_assoc, e7]
  refine ⟨_, [], weak_drop (σ' := ⟨[(6, .view 1000 v 0 (l.length - 1))], [(1000, .arr v 2 (ps (l.take i ++ l.drop (i + 1)) ++ [[.str [], .str []]]))], [], 33, []⟩) rfl rfl (by simp [EnvLe, getE, look]) ?_ (by simp [roOk]), rfl, rfl, rfl⟩
  have h1 : List.take (l.length - 1) (ps (l.take i ++ l.drop (i + 1)) ++ List.drop (l.length - 1) (ps l)) = ps (l.take i ++ l.drop (i + 1)) := by
    rw [List.take_append_of_le_length (by omega), List.take_of_length_le (by omega)]
  have h2 : List.drop l.length (ps (l.take i ++ l.drop (i + 1)) ++ List.drop (l.length - 1) (ps l)) = [] := by
    rw [List.drop_eq_nil_iff]
    rw [List.length_append, e8, List.length_drop, ps_len]
    omega
  rw [h1, h2, e9]
  simp [ObLe, look, List.replicate]
theorem posT_split {l : Prs} {c : Str} (h : (up l c).isSome = true) : ∃ (i : Nat) (hi : i < l.length), posT (l.map (·.1)) c = i ∧ l[i].1 = c := by
  have hm : c ∈ l.map (·.1) := by
    cases hu : up l c with
    | none => rw [hu] at h; simp at h
    | some u => exact List.mem_map.2 ⟨_, up_mem hu, rfl⟩
  have hlt : (l.map (·.1)).findIdx (fun y => decide (y = c)) < (l.map (·.1)).length := List.findIdx_lt_length_of_exists ⟨c, hm, by simp⟩
  have hlt' : (l.map (·.1)).findIdx (fun y => decide (y = c)) < l.length := by rw [List.length_map] at hlt; exact hlt
  refine ⟨_, hlt', by simp only [posT, if_pos hm], ?_⟩
  have := List.findIdx_getElem (w := hlt)
  simpa using this
theorem cutL_at {l : Prs} {c : Str} {i : Nat} (hn : (l.map (·.1)).Nodup) (hi : i < l.length) (h : l[i].1 = c) : cutL c l = l.take i ++ l.drop (i + 1) := by
  have e : l = l.take i ++ (c, l[i].2) :: l.drop (i + 1) := by
    conv => lhs; rw [← List.take_append_drop i l, List.drop_eq_getElem_cons hi]
    rw [← h]
  rw [e] at hn
  have := filter_at hn
  rw [← e] at this
  exact this
theorem fn_Cut (l : Prs) (c : Str) (hl : l.length < 1000000) : Fn [] Try.prog k_forest_Cut [.slice (ps l), .str c] (chgT (cutF l c)) := by
  refine fn_intro hm ok_forest_Cut (by simp) ?_
  simp [c_forest_Cut, r_forest_Cut]
  refine callW_imm (fn_Check l hl) ?_
  simp
  refine brd (fun h => ?_) (fun h => ?_)
  case refine_2 => simp [cutF, chgT, h]
  simp
  refine callW_imm (fn_IndexFunc l c hl) ?_
  simp
  have hF := forest_iff.1 h
  cases hu : up l c with
  | none =>
    have : c ∉ l.map (·.1) := up_none.1 hu
    have hp : posT (l.map (·.1)) c = -1 := by simp only [posT, if_neg this]
    simp [hp, cutF, chgT, h, hu]
  | some u =>
    obtain ⟨i, hi, h1, h2⟩ := posT_split (by rw [hu]; rfl : (up l c).isSome = true)
    have hne : l ≠ [] := by rintro rfl; simp at hi
    have hcut := cutL_at hF.nd hi h2
    have hw : IntKind.i64.wrap ((i : Int) + 1) = (i : Int) + 1 := by rw [IntKind.wrap_i64]; omega
    have hneg : ¬ (i : Int) < 0 := by omega
    simp [h1, hneg]
    refine callW_own (fn_CloneO l hl hne) ?_
    simp [hw]
    refine callM [(1000, 21)] [] (fnM_Delete l i 0 hi hl) rfl rfl ?_ ?_ rfl ?_
    · simp [mObjs, Vs.ren, look, Ob.ren]
    · simp [mArgs, Vs.ren, look, SV.ren]
    · simp
      have e8 : (ps (l.take i ++ l.drop (i + 1))).length = l.length - 1 := by simp; omega
      simp [cutF, chgT, h, hu, hcut]
      rw [← e8, List.take_append_of_le_length (by omega), List.take_of_length_le (by omega)]
end Go.Vs.Ytjfleklkloohgaa
