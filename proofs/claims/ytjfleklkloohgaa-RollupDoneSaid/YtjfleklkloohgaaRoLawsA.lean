/- The walk of rollup's statements, part 1. No conditions. -/
import Derived.Test.YtjfleklkloohgaaRoC
namespace Go.Vs.Ytjfleklkloohgaa.R
set_option linter.unusedSimpArgs false
set_option linter.unusedVariables false
open Go.Proofs Go.Vs.Fo Go.Vs.Ro
set_option maxRecDepth 100000
set_option maxHeartbeats 4000000
def lW : List Nd := [⟨[97], [], 0, -1, -1⟩, ⟨[98], [97], 3, -1, 5⟩, ⟨[99], [97], 2, 51, -1⟩, ⟨[100], [97], 4, 9, -1⟩]
theorem w1 : ofE lW [97] = 0 := by decide +kernel
theorem w2 : ofT lW [97] = ⟨[97], 75, 2⟩ := by decide +kernel
theorem w3 : chkN lW = 0 := by decide +kernel
theorem w4 : allT lW = [⟨[97], 75, 2⟩, ⟨[98], 100, 3⟩, ⟨[99], 51, 2⟩, ⟨[100], 9, 4⟩] := by decide +kernel
theorem w5 : ofE lW [120] = 6 := by decide +kernel
theorem w6 : meanI [1, 2, 200] = 34 := by decide +kernel
theorem w7 : chkN (lW.drop 1) = 6 := by decide +kernel
theorem w7' : chkN lW.tail = 6 := by decide +kernel
theorem w8 : ofT lW [120] = ⟨[], 0, 0⟩ := by decide +kernel
theorem fn_awake : Fn [] Try.prog k_law33_awake [] (.bool true) := by
  refine fn_intro hm ok_law33_awake (by simp) ?_
  simp [c_law33_awake, r_law33_awake]
  refine callW_imm S.fn_New ?_
  simp
  refine callW_imm (fn_Of lW [97] (by decide) (by decide)) ?_
  simp [ofI, w1, w2, Sm.iv]
  refine callW_imm (fn_All0 lW (by decide) (by decide)) ?_
  simp [allI, w3, w4, ss]
  refine callW_imm (fn_Of lW [120] (by decide) (by decide)) ?_
  simp [ofI, w5, w8, Sm.iv]
  refine callW_imm (fn_Mean [1, 2, 200] (by decide)) ?_
  simp [w6]
  refine callW_imm (fn_Check lW (by decide)) ?_
  simp [w3]
  refine callW_imm (fn_Check (lW.drop 1) (by decide)) ?_
  simp [w7, w7']
theorem few_len {l : List Nd} (h : fewN l = true) : l.length ≤ 26 := by simp [fewN] at h; exact h.1
theorem fn_RollupMeans (l : List Int) : Fn [] Try.prog k_law33_RollupMeans [.slice (is l)] (.bool true) := by
  refine fn_intro hm ok_law33_RollupMeans (by simp) ?_
  simp [c_law33_RollupMeans, r_law33_RollupMeans]
  refine brd (fun h => ?_) (fun h => ?_)
  · simp
    refine callW_imm fn_awake ?_
    simp
  · simp
    refine callW_imm (fn_Mean l (by omega)) ?_
    simp
    refine callW_imm (fn_rMean l (by omega)) ?_
    simp
    refine callW_imm fn_awake ?_
    simp
theorem fn_RollupTells (l : List Nd) (u : Str) (hw : ∀ n ∈ l, 0 ≤ n.s) : Fn [] Try.prog k_law33_RollupTells [.slice (ns l), .str u] (.bool true) := by
  refine fn_intro hm ok_law33_RollupTells (by simp) ?_
  simp [c_law33_RollupTells, r_law33_RollupTells]
  refine callW_imm (fn_Few l) ?_
  cases hf : fewN l
  · simp
    refine callW_imm fn_awake ?_
    simp
  simp
  refine brd (fun hn => ?_) (fun hn => ?_)
  · simp
    refine callW_imm fn_awake ?_
    simp
  have hl := few_len hf
  have hl6 : l.length < 1000000 := by omega
  have hal : (allT l).length ≤ l.length := by unfold allT; split <;> simp
  simp
  refine callW_imm (fn_Own l hl6) ?_
  simp
  refine callW_imm (fn_All0 l hl hw) ?_
  simp [allI]
  refine callW_imm (fn_rAll l hl6 hw) ?_
  simp [allI]
  refine callW_imm (fn_Of l u hl hw) ?_
  simp [ofI, Sm.iv]
  refine callW_imm (fn_rOf l u hl6 hw) ?_
  simp [ofI, Sm.iv]
  refine callW_imm (fn_Check l hl6) ?_
  simp
  refine callW_imm (fn_rCheck l hl6 hw) ?_
  simp
  refine loopW hm (fun i : Nat => ⟨[(14, .val (.int .i64 i)), (6, .val (.slice (ss (allT l)))), (8, .val (.slice (ss (allT l))))], [], [], 91, []⟩)
    (fun i => i ≤ (allT l).length) (fun i => (allT l).length - i) 0 (by omega) (by exact weak_drop rfl rfl (by simp [EnvLe, getE, look]) (by simp [ObLe, look]) (by simp [roOk])) (fun _ => rfl) ?_
  rintro i h1
  simp
  refine brd (fun hi => ?_) (fun hi => ?_)
  · simp [ss_get hi, wrap_succ hi (show (allT l).length < 1000000 by omega)]
    exact loopEnd (i + 1) (by omega) (by omega) (by exact weak_drop rfl rfl (by simp [EnvLe, getE, look]) (by simp [ObLe, look]) (by simp [roOk]))
  · simp
    refine callW_imm fn_awake ?_
    simp
end Go.Vs.Ytjfleklkloohgaa.R
