/- The walk of the forest's statements, part 1. No conditions. -/
import Derived.Test.YtjfleklkloohgaaFoPf7
namespace Go.Vs.Ytjfleklkloohgaa
set_option linter.unusedSimpArgs false
set_option linter.unusedVariables false
open Go.Proofs Go.Vs.Fo
set_option maxRecDepth 100000
set_option maxHeartbeats 4000000
def lA : Prs := [([98], [97]), ([99], [98])]
def lN : Prs := [([98], [97]), ([99], [98]), ([100], [97])]
def lD : Prs := [([99], [98]), ([100], [97])]
theorem fn_awake : Fn [] Try.prog k_law32_awake [] (.bool true) := by
  refine fn_intro hm ok_law32_awake (by simp) ?_
  simp [c_law32_awake, r_law32_awake]
  refine callW_imm (fn_Set lA [97] [99] (by decide)) ?_
  simp [show setF lA [97] [99] = (lA, 14) by decide, chgT]
  refine callW_imm (fn_Set lA [100] [97] (by decide)) ?_
  simp [show setF lA [100] [97] = (lN, 0) by decide, chgT]
  refine callW_imm (fn_Set lA [99] [97] (by decide)) ?_
  simp [show setF lA [99] [97] = (lA, 12) by decide, chgT]
  refine callW_imm (fn_Cut lN [98] (by decide)) ?_
  simp [show cutF lN [98] = (lD, 0) by decide, chgT]
  refine callW_imm (fn_Up lA [99] (by decide)) ?_
  simp [show up lA [99] = some [98] by decide, upT, show lA.length = 2 from rfl, show lN.length = 3 from rfl, show lD.length = 2 from rfl]
  refine callW_imm (fn_Path lA [99] (by decide)) ?_
  simp [show path lA [99] = [[98], [97]] by decide]
  refine callW_imm (fn_SameTexts [[98], [97]] [[98], [97]] (by decide)) ?_
  simp
  refine callW_imm (fn_Under lN [97] (by decide)) ?_
  simp [show under lN [97] = [[98], [99], [100]] by decide]
  refine callW_imm (fn_SameTexts [[98], [99], [100]] [[98], [99], [100]] (by decide)) ?_
  simp
  refine callW_own (fn_Kids lN [97] (by decide)) ?_
  simp [show kids lN [97] = [[98], [100]] by decide]
  refine callW_imm (fn_SameTexts [[98], [100]] [[98], [100]] (by decide)) ?_
  simp
  refine callW_imm (fn_Check lA (by decide)) ?_
  simp [show chkF lA = 0 by decide]
  refine callW_imm (fn_Check [([120], [120])] (by decide)) ?_
  simp [show chkF [([120], [120])] = 14 by decide]
theorem few_len {l : Prs} (h : fewB l = true) : l.length ≤ 30 := by simp [fewB] at h; exact h.1
theorem fn_ForestTells (l : Prs) (n : Str) : Fn [] Try.prog k_law32_ForestTells [.slice (ps l), .str n] (.bool true) := by
  refine fn_intro hm ok_law32_ForestTells (by simp) ?_
  simp [c_law32_ForestTells, r_law32_ForestTells]
  refine callW_imm (fn_Few l) ?_
  cases hf : fewB l
  · simp
    refine callW_imm fn_awake ?_
    simp
  simp
  refine brd (fun hn => ?_) (fun hn => ?_)
  · simp
    refine callW_imm fn_awake ?_
    simp
  have hl3 := few_len hf
  have hl : l.length < 1000000 := by omega
  simp
  refine callW_imm (fn_Own l hl) ?_
  simp
  refine callW_imm (fn_Up l n hl) ?_
  simp [upT]
  refine callW_imm (fn_rUp l n hl) ?_
  simp [upT]
  refine callW_imm (fn_Check l hl) ?_
  simp
  refine callW_imm (fn_rCheck l hl) ?_
  simp
  refine callW_own (fn_Kids l n hl) ?_
  simp
  refine callW_imm (fn_rKids l n hl) ?_
  simp
  refine callW_imm (fn_SameTexts (kids l n) (kids l n) (by have := kids_len l n; omega)) ?_
  simp
  have hp : (path l n).length < 1000000 := by
    unfold path; split
    · have := chain_le l (l.length + 1) n; omega
    · simp
  have hu : (under l n).length < 1000000 := by
    unfold under; split
    · next h => have := (forest_iff.1 h).sub_len l.length n; omega
    · simp
  refine callW_imm (fn_Path l n hl) ?_
  simp
  refine callW_imm (fn_rPath l n hl) ?_
  simp
  refine callW_imm (fn_SameTexts (path l n) (path l n) hp) ?_
  simp
  refine callW_imm (fn_Under l n hl) ?_
  simp
  refine callW_imm (fn_rUnder l n hl) ?_
  simp
  refine callW_imm (fn_SameTexts (under l n) (under l n) hu) ?_
  simp
  refine callW_imm fn_awake ?_
  simp
theorem fn_ForestChanges (l : Prs) (x : Str × Str) : Fn [] Try.prog k_law32_ForestChanges [.slice (ps l), .agg [.str x.1, .str x.2]] (.bool true) := by
  refine fn_intro hm ok_law32_ForestChanges (by simp) ?_
  simp [c_law32_ForestChanges, r_law32_ForestChanges]
  refine callW_imm (fn_Few l) ?_
  cases hf : fewB l
  · simp
    refine callW_imm fn_awake ?_
    simp
  simp
  refine callW_imm (fn_Few [x]) ?_
  cases hx : fewB [x]
  · simp
    refine callW_imm fn_awake ?_
    simp
  have hl3 := few_len hf
  have hl : l.length < 1000000 := by omega
  have hs : (setF l x.1 x.2).1.length < 1000000 := by
    unfold setF; split
    · split
      · exact hl
      · split
        · exact hl
        · simp; omega
    · exact hl
  have hc : (cutF l x.1).1.length < 1000000 := by
    unfold cutF; split
    · split
      · exact Nat.lt_of_le_of_lt (List.length_filter_le _ _) hl
      · exact hl
    · exact hl
  simp
  refine callW_imm (fn_Own l hl) ?_
  simp
  refine callW_imm (fn_Set l x.1 x.2 hl) ?_
  simp [chgT]
  refine callW_imm (fn_rSet l x.1 x.2 hl) ?_
  simp [chgT]
  refine callW_imm (fn_Cut l x.1 hl) ?_
  simp [chgT]
  refine callW_imm (fn_rCut l x.1 hl) ?_
  simp [chgT]
  refine callW_imm (fn_Back _ hs) ?_
  simp
  refine callW_imm (fn_SamePairs _ _ hs) ?_
  simp
  refine callW_imm (fn_Back _ hc) ?_
  simp
  refine callW_imm (fn_SamePairs _ _ hc) ?_
  simp
  refine callW_imm (fn_Back _ hl) ?_
  simp
  refine callW_imm (fn_SamePairs _ _ hl) ?_
  simp
  refine callW_imm fn_awake ?_
  simp
end Go.Vs.Ytjfleklkloohgaa
