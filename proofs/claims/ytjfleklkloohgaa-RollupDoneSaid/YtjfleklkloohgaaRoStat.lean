/- The walk of the functions of status, under a name of their own. No conditions. -/
import Derived.Test.YtjfleklkloohgaaVs22
import Derived.Test.YtjfleklkloohgaaStGen
namespace Go.Vs.Ytjfleklkloohgaa.S
set_option linter.unusedSimpArgs false
set_option linter.unusedVariables false
open Go.Proofs
set_option maxRecDepth 100000
set_option maxHeartbeats 4000000
theorem hm : Try.prog.follows .mixedOrders = true := by kernel_rfl
abbrev life (s p d : Int) : IV := .agg [.int .u8 s, .int .i64 p, .int .i64 d]
def loS (s : Int) : Int := if s = 2 then 1 else if s = 3 then 100 else 0
def hiS (s : Int) : Int := if s = 2 then 99 else if s = 3 then 100 else if s = 4 then 99 else 0
def chk (s p d : Int) : Int := if 4 < s then 11 else if p < -1 ∨ 100 < p ∨ d < -1 ∨ 315537897599 < d then 8
  else if (d ≠ -1 ↔ s ≠ 3) ∨ (p ≠ -1 ∧ (p < loS s ∨ hiS s < p)) then 9 else 0
theorem fn_ends (x : Int) : Fn [] Try.prog k_status_ends [.int .u8 x] (.tuple [.int .i64 (loS x), .int .i64 (hiS x)]) := by
  refine fn_intro hm ok_status_ends (by simp) ?_
  simp [c_status_ends, r_status_ends, loS, hiS, br_decide]
  grind
theorem fn_open (x : Int) : Fn [] Try.prog k_status_open [.int .u8 x] (.bool (decide (x = 0 ∨ x = 1 ∨ x = 2))) := by
  refine fn_intro hm ok_status_open (by simp) ?_
  simp [c_status_open, r_status_open, br_decide]
  grind
theorem fn_Check (s p d : Int) : Fn [] Try.prog k_status_Check [life s p d] (.int .i64 (chk s p d)) := by
  refine fn_intro hm ok_status_Check (by simp) ?_
  simp [c_status_Check, r_status_Check]
  refine brd (fun h1 => ?_) (fun h1 => ?_) <;> simp [h1]
  · simp [chk, h1]
  simp [br_decide]
  refine ⟨fun h => ?_, fun h2 => ⟨fun h => ?_, fun h3 => ⟨fun h => ?_, fun h4 => ⟨fun h => ?_, fun h5 => callW_imm (fn_ends s) ?_⟩⟩⟩⟩
  iterate 4 (unfold chk; grind)
  simp [br_decide]
  unfold chk
  grind
theorem fn_rCheck (s p d : Int) (hs : 0 ≤ s) : Fn [] Try.prog k_ref27_Check [life s p d] (.int .i64 (chk s p d)) := by
  refine fn_intro hm ok_ref27_Check (by simp) ?_
  simp [c_ref27_Check, r_ref27_Check]
  refine brd (fun h1 => ?_) (fun h1 => ?_) <;> simp [h1]
  · simp [chk, h1]
  simp [br_decide]
  refine ⟨fun h => ?_, fun h2 => ⟨fun h => ?_, fun h3 => ⟨fun h => ?_, fun h4 => ⟨fun h => ?_, fun h5 => brd (fun h6 => ?_) (fun h6 => ?_)⟩⟩⟩⟩
  iterate 4 (unfold chk; grind)
  · have hs' : s = 0 ∨ s = 1 ∨ s = 2 ∨ s = 3 ∨ s = 4 := by omega
    rcases hs' with rfl | rfl | rfl | rfl | rfl <;> simp [br_decide] <;> simp [chk, loS, hiS] at * <;> grind
  · simp; simp at h6; unfold chk; grind
theorem fn_Open (s p d : Int) : Fn [] Try.prog k_status_Open [life s p d] (.bool (decide (chk s p d = 0 ∧ s < 3 ∧ 0 ≤ s))) := by
  refine fn_intro hm ok_status_Open (by simp) ?_
  simp [c_status_Open, r_status_Open]
  refine callW_imm (fn_Check s p d) ?_
  simp
  refine brd (fun h1 => ?_) (fun h1 => ?_)
  · simp
    refine callW_imm (fn_open s) ?_
    simp [h1]; grind
  · simp [h1]
theorem fn_rOpen (s p d : Int) (hs : 0 ≤ s) : Fn [] Try.prog k_ref27_Open [life s p d] (.bool (decide (chk s p d = 0 ∧ s < 3 ∧ 0 ≤ s))) := by
  refine fn_intro hm ok_ref27_Open (by simp) ?_
  simp [c_ref27_Open, r_ref27_Open]
  refine callW_imm (fn_rCheck s p d hs) ?_
  simp
  refine brd (fun h1 => ?_) (fun h1 => ?_) <;> simp [h1, hs]
theorem fn_may (s p d : Int) (o : Bool) : Fn [] Try.prog k_status_may [life s p d, .bool o] (.int .i64 (if chk s p d ≠ 0 then chk s p d else if o ≠ decide (s = 0 ∨ s = 1 ∨ s = 2) then 9 else 0)) := by
  refine fn_intro hm ok_status_may (by simp) ?_
  simp [c_status_may, r_status_may]
  refine callW_imm (fn_Check s p d) ?_
  simp
  refine brd (fun h1 => ?_) (fun h1 => ?_) <;> simp [h1]
  refine callW_imm (fn_open s) ?_
  simp [br_decide]
  cases o <;> grind
def opn (s p d : Int) : Int := if chk s p d ≠ 0 then chk s p d else if s = 0 ∨ s = 1 ∨ s = 2 then 0 else 9
theorem chk_open {s p d : Int} (h : chk s p d = 0) (hs : s = 0 ∨ s = 1 ∨ s = 2) : d = -1 := by unfold chk at h; grind
theorem chk_done {s p d : Int} (h : chk s p d = 0) (hs : s = 3) : 0 ≤ d := by unfold chk at h; grind
def tup (l : IV) (e : Int) : IV := .tuple [l, .int .i64 e]
def progT (s p d n : Int) : IV := if opn s p d ≠ 0 then tup (life s p d) (opn s p d) else if n < 0 ∨ 99 < n then tup (life s p d) 8 else if n = 0 then tup (life 1 0 (-1)) 0 else tup (life 2 n (-1)) 0
def compT (s p d n : Int) : IV := if opn s p d ≠ 0 then tup (life s p d) (opn s p d) else if n < 0 ∨ 315537897599 < n then tup (life s p d) 8 else tup (life 3 100 n) 0
def cancT (s p d : Int) : IV := if opn s p d ≠ 0 then tup (life s p d) (opn s p d) else tup (life 4 p (-1)) 0
def reopT (s p d : Int) : IV := if chk s p d ≠ 0 then tup (life s p d) (chk s p d) else if s = 0 ∨ s = 1 ∨ s = 2 then tup (life s p d) 9 else tup (life 1 0 (-1)) 0
theorem fn_Progress (s p d n : Int) : Fn [] Try.prog k_status_Progress [life s p d, .int .i64 n] (progT s p d n) := by
  refine fn_intro hm ok_status_Progress (by simp) ?_
  simp [c_status_Progress, r_status_Progress]
  refine callW_imm (fn_may s p d true) ?_
  simp [br_decide]
  have := @chk_open s p d
  unfold progT opn tup
  grind
theorem fn_rProgress (s p d n : Int) (hs : 0 ≤ s) : Fn [] Try.prog k_ref27_Progress [life s p d, .int .i64 n] (progT s p d n) := by
  refine fn_intro hm ok_ref27_Progress (by simp) ?_
  simp [c_ref27_Progress, r_ref27_Progress]
  refine callW_imm (fn_rCheck s p d hs) ?_
  simp
  have := @chk_open s p d
  refine brd (fun h1 => ?_) (fun h1 => ?_) <;> simp [h1]
  · refine callW_imm (fn_rOpen s p d hs) ?_
    simp [br_decide, h1]
    unfold progT opn tup
    grind
  · unfold progT opn tup; grind
theorem fn_Complete (s p d n : Int) : Fn [] Try.prog k_status_Complete [life s p d, .int .i64 n] (compT s p d n) := by
  refine fn_intro hm ok_status_Complete (by simp) ?_
  simp [c_status_Complete, r_status_Complete]
  refine callW_imm (fn_may s p d true) ?_
  simp [br_decide]
  unfold compT opn tup
  grind
theorem fn_rComplete (s p d n : Int) (hs : 0 ≤ s) : Fn [] Try.prog k_ref27_Complete [life s p d, .int .i64 n] (compT s p d n) := by
  refine fn_intro hm ok_ref27_Complete (by simp) ?_
  simp [c_ref27_Complete, r_ref27_Complete]
  refine callW_imm (fn_rCheck s p d hs) ?_
  simp
  refine brd (fun h1 => ?_) (fun h1 => ?_) <;> simp [h1]
  · refine callW_imm (fn_rOpen s p d hs) ?_
    simp [br_decide, h1]
    unfold compT opn tup
    grind
  · unfold compT opn tup; grind
theorem fn_Cancel (s p d : Int) : Fn [] Try.prog k_status_Cancel [life s p d] (cancT s p d) := by
  refine fn_intro hm ok_status_Cancel (by simp) ?_
  simp [c_status_Cancel, r_status_Cancel]
  refine callW_imm (fn_may s p d true) ?_
  have := @chk_open s p d
  simp [br_decide]
  unfold cancT opn tup
  grind
theorem fn_rCancel (s p d : Int) (hs : 0 ≤ s) : Fn [] Try.prog k_ref27_Cancel [life s p d] (cancT s p d) := by
  refine fn_intro hm ok_ref27_Cancel (by simp) ?_
  simp [c_ref27_Cancel, r_ref27_Cancel]
  refine callW_imm (fn_rCheck s p d hs) ?_
  simp
  refine brd (fun h1 => ?_) (fun h1 => ?_) <;> simp [h1]
  · refine callW_imm (fn_rOpen s p d hs) ?_
    simp [br_decide, h1]
    unfold cancT opn tup
    grind
  · unfold cancT opn tup; grind
theorem fn_Reopen (s p d : Int) : Fn [] Try.prog k_status_Reopen [life s p d] (reopT s p d) := by
  refine fn_intro hm ok_status_Reopen (by simp) ?_
  simp [c_status_Reopen, r_status_Reopen]
  refine callW_imm (fn_may s p d false) ?_
  simp [br_decide]
  unfold reopT tup
  grind
theorem fn_rReopen (s p d : Int) (hs : 0 ≤ s) : Fn [] Try.prog k_ref27_Reopen [life s p d] (reopT s p d) := by
  refine fn_intro hm ok_ref27_Reopen (by simp) ?_
  simp [c_ref27_Reopen, r_ref27_Reopen]
  refine callW_imm (fn_rCheck s p d hs) ?_
  simp
  refine brd (fun h1 => ?_) (fun h1 => ?_) <;> simp [h1]
  · refine callW_imm (fn_rOpen s p d hs) ?_
    simp [br_decide, h1]
    unfold reopT tup
    grind
  · unfold reopT tup; grind
def valT (s p d : Int) : Int := if chk s p d ≠ 0 then 0 else if s = 3 then 100 else max 0 p
theorem fn_Value (s p d : Int) : Fn [] Try.prog k_status_Value [life s p d] (.int .i64 (valT s p d)) := by
  refine fn_intro hm ok_status_Value (by simp) ?_
  simp [c_status_Value, r_status_Value]
  refine callW_imm (fn_Check s p d) ?_
  have : chk s p d = 0 → -1 ≤ p := by unfold chk; grind
  simp [br_decide]
  unfold valT
  grind
theorem fn_rValue (s p d : Int) (hs : 0 ≤ s) : Fn [] Try.prog k_ref27_Value [life s p d] (.int .i64 (valT s p d)) := by
  refine fn_intro hm ok_ref27_Value (by simp) ?_
  simp [c_ref27_Value, r_ref27_Value]
  refine callW_imm (fn_rCheck s p d hs) ?_
  simp [br_decide]
  unfold valT
  grind
theorem fn_New : Fn [] Try.prog k_status_New [] (life 0 (-1) (-1)) := by
  refine fn_intro hm ok_status_New (by simp) ?_
  simp [c_status_New, r_status_New]
theorem fn_rNew : Fn [] Try.prog k_ref27_New [] (life 0 (-1) (-1)) := by
  refine fn_intro hm ok_ref27_New (by simp) ?_
  simp [c_ref27_New, r_ref27_New]
def nameT (s : Int) : List UInt8 := if s = 1 then [78, 69, 69, 68, 83, 45, 65, 67, 84, 73, 79, 78] else if s = 2 then [73, 78, 45, 80, 82, 79, 67, 69, 83, 83] else if s = 3 then [67, 79, 77, 80, 76, 69, 84, 69, 68] else if s = 4 then [67, 65, 78, 67, 69, 76, 76, 69, 68] else []
theorem fn_Name (s : Int) : Fn [] Try.prog k_status_Name [.int .u8 s] (.str (nameT s)) := by
  refine fn_intro hm ok_status_Name (by simp) ?_
  simp [c_status_Name, r_status_Name, br_decide]
  unfold nameT
  grind
theorem fn_rName (s : Int) (hs : 0 ≤ s) : Fn [] Try.prog k_ref27_Name [.int .u8 s] (.str (nameT s)) := by
  refine fn_intro hm ok_ref27_Name (by simp) ?_
  simp [c_ref27_Name, r_ref27_Name]
  refine brd (fun h1 => ?_) (fun h1 => ?_)
  · simp; unfold nameT; grind
  · have hs' : s = 0 ∨ s = 1 ∨ s = 2 ∨ s = 3 ∨ s = 4 := by omega
    rcases hs' with rfl | rfl | rfl | rfl | rfl <;> simp [nameT]
end Go.Vs.Ytjfleklkloohgaa.S
