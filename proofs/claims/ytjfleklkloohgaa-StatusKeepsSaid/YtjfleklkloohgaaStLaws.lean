/- test -/
import Derived.Test.YtjfleklkloohgaaStLoop
namespace Go.Vs.Ytjfleklkloohgaa
open Go.Proofs
set_option maxRecDepth 100000
set_option maxHeartbeats 4000000
theorem fn_StatusTells (s p d : Int) (x : List UInt8) (hs : 0 ≤ s) : Fn [] Try.prog k_law27_StatusTells [life s p d, .str x] (.bool true) := by
  refine fn_intro hm ok_law27_StatusTells (by simp) ?_
  simp [c_law27_StatusTells, r_law27_StatusTells]
  refine brd (fun h => ?_) (fun h => ?_)
  · simp
    refine callW_imm fn_awake ?_
    simp
  simp
  refine callW_imm (fn_Parse x) ?_
  obtain ⟨a, b, hab⟩ : ∃ a b, parseT x = .tuple [.int .u8 a, .int .i64 b] := by
    unfold parseT; split
    · exact ⟨_, _, rfl⟩
    split
    · exact ⟨_, _, rfl⟩
    split
    · exact ⟨_, _, rfl⟩
    split
    · exact ⟨_, _, rfl⟩
    · exact ⟨_, _, rfl⟩
  simp [hab]
  refine callW_imm (fn_rParse x) ?_
  simp [hab]
  refine callW_imm (fn_Check s p d) ?_
  simp
  refine callW_imm (fn_rCheck s p d hs) ?_
  simp
  refine callW_imm (fn_Open s p d) ?_
  simp
  refine callW_imm (fn_rOpen s p d hs) ?_
  simp
  refine callW_imm (fn_Value s p d) ?_
  simp
  refine callW_imm (fn_rValue s p d hs) ?_
  simp
  refine callW_imm (fn_Name s) ?_
  simp
  refine callW_imm (fn_rName s hs) ?_
  simp
  refine callW_imm fn_New ?_
  simp
  refine callW_imm fn_rNew ?_
  simp
  refine callW_imm fn_awake ?_
  simp
  rfl
def shaped (v : IV) : Prop := ∃ a b c e, v = .tuple [life a b c, .int .i64 e]
theorem shaped_prog (s p d n : Int) : shaped (progT s p d n) := by
  unfold progT tup; split
  · exact ⟨_, _, _, _, rfl⟩
  split
  · exact ⟨_, _, _, _, rfl⟩
  split <;> exact ⟨_, _, _, _, rfl⟩
theorem shaped_comp (s p d n : Int) : shaped (compT s p d n) := by
  unfold compT tup; split
  · exact ⟨_, _, _, _, rfl⟩
  split <;> exact ⟨_, _, _, _, rfl⟩
theorem shaped_canc (s p d : Int) : shaped (cancT s p d) := by
  unfold cancT tup; split <;> exact ⟨_, _, _, _, rfl⟩
theorem shaped_reop (s p d : Int) : shaped (reopT s p d) := by
  unfold reopT tup; split
  · exact ⟨_, _, _, _, rfl⟩
  split <;> exact ⟨_, _, _, _, rfl⟩
theorem fn_StatusActs (s p d n : Int) (hs : 0 ≤ s) : Fn [] Try.prog k_law27_StatusActs [life s p d, .int .i64 n] (.bool true) := by
  obtain ⟨a1, a2, a3, a4, ha⟩ := shaped_prog s p d n
  obtain ⟨b1, b2, b3, b4, hb⟩ := shaped_comp s p d n
  obtain ⟨c1, c2, c3, c4, hc⟩ := shaped_canc s p d
  obtain ⟨d1, d2, d3, d4, hd⟩ := shaped_reop s p d
  refine fn_intro hm ok_law27_StatusActs (by simp) ?_
  simp [c_law27_StatusActs, r_law27_StatusActs]
  refine callW_imm (fn_Progress s p d n) ?_
  simp [ha]
  refine callW_imm (fn_rProgress s p d n hs) ?_
  simp [ha]
  refine callW_imm (fn_Complete s p d n) ?_
  simp [hb]
  refine callW_imm (fn_rComplete s p d n hs) ?_
  simp [hb]
  refine callW_imm (fn_Cancel s p d) ?_
  simp [hc]
  refine callW_imm (fn_rCancel s p d hs) ?_
  simp [hc]
  refine callW_imm (fn_Reopen s p d) ?_
  simp [hd]
  refine callW_imm (fn_rReopen s p d hs) ?_
  simp [hd]
  refine callW_imm fn_awake ?_
  simp
end Go.Vs.Ytjfleklkloohgaa
