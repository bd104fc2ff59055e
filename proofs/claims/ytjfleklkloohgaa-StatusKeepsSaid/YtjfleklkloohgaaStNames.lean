/- test -/
import Derived.Test.YtjfleklkloohgaaStLaws
namespace Go.Vs.Ytjfleklkloohgaa
open Go.Proofs
set_option maxRecDepth 100000
set_option maxHeartbeats 4000000
theorem fn_StatusNames (x : List UInt8) (n : Int) (hn : 0 ≤ n) : Fn [] Try.prog k_law27_StatusNames [.str x, .int .u8 n] (.bool true) := by
  refine fn_intro hm ok_law27_StatusNames (by simp) ?_
  simp [c_law27_StatusNames, r_law27_StatusNames]
  refine brd (fun h => ?_) (fun h => ?_)
  · simp
    refine callW_imm fn_awake ?_
    simp
  simp
  refine callW_imm (fn_Parse x) ?_
  have hx : (∃ a : Int, (a = 1 ∨ a = 2 ∨ a = 3 ∨ a = 4) ∧ x = nameT a ∧ parseT x = .tuple [.int .u8 a, .int .i64 0]) ∨ parseT x = .tuple [.int .u8 0, .int .i64 11] := by
    unfold parseT; split
    · next h => exact .inl ⟨1, by simp, h, rfl⟩
    split
    · next h => exact .inl ⟨2, by simp, h, rfl⟩
    split
    · next h => exact .inl ⟨3, by simp, h, rfl⟩
    split
    · next h => exact .inl ⟨4, by simp, h, rfl⟩
    · exact .inr rfl
  have hp : n = 1 ∨ n = 2 ∨ n = 3 ∨ n = 4 ∨ (n < 1 ∨ 4 < n) := by omega
  have e1 : parseT (nameT 1) = .tuple [.int .u8 1, .int .i64 0] := by rfl
  have e2 : parseT (nameT 2) = .tuple [.int .u8 2, .int .i64 0] := by rfl
  have e3 : parseT (nameT 3) = .tuple [.int .u8 3, .int .i64 0] := by rfl
  have e4 : parseT (nameT 4) = .tuple [.int .u8 4, .int .i64 0] := by rfl
  have e0 : parseT [] = .tuple [.int .u8 0, .int .i64 11] := by rfl
  have n0 : n < 1 ∨ 4 < n → nameT n = [] := by intro h; unfold nameT; grind
  rcases hx with ⟨a, ha, hxa, hpa⟩ | hpa
  · simp [hpa]
    refine callW_imm (fn_Name a) ?_
    have a0 : ¬ a = 0 := by omega
    simp [hxa, a0]
    refine callW_imm (fn_Name n) ?_
    simp
    refine callW_imm (fn_Parse _) ?_
    rcases hp with rfl | rfl | rfl | rfl | hp
    · simp [e1]
      refine callW_imm fn_awake ?_
      simp
    · simp [e2]
      refine callW_imm fn_awake ?_
      simp
    · simp [e3]
      refine callW_imm fn_awake ?_
      simp
    · simp [e4]
      refine callW_imm fn_awake ?_
      simp
    · simp [n0 hp, e0]
      rcases hp with hp | hp
      · have q : ¬ 1 ≤ n := by omega
        simp [q]
        refine callW_imm (fn_Name n) ?_
        simp [n0 (.inl hp)]
        refine callW_imm fn_awake ?_
        simp
      · have q : 1 ≤ n := by omega
        have q2 : ¬ n ≤ 4 := by omega
        simp [q, q2]
        refine callW_imm (fn_Name n) ?_
        simp [n0 (.inr hp)]
        refine callW_imm fn_awake ?_
        simp
  · simp [hpa]
    refine callW_imm (fn_Name n) ?_
    simp
    refine callW_imm (fn_Parse _) ?_
    rcases hp with rfl | rfl | rfl | rfl | hp
    · simp [e1]
      refine callW_imm fn_awake ?_
      simp
    · simp [e2]
      refine callW_imm fn_awake ?_
      simp
    · simp [e3]
      refine callW_imm fn_awake ?_
      simp
    · simp [e4]
      refine callW_imm fn_awake ?_
      simp
    · simp [n0 hp, e0]
      rcases hp with hp | hp
      · have q : ¬ 1 ≤ n := by omega
        simp [q]
        refine callW_imm (fn_Name n) ?_
        simp [n0 (.inl hp)]
        refine callW_imm fn_awake ?_
        simp
      · have q : 1 ≤ n := by omega
        have q2 : ¬ n ≤ 4 := by omega
        simp [q, q2]
        refine callW_imm (fn_Name n) ?_
        simp [n0 (.inr hp)]
        refine callW_imm fn_awake ?_
        simp
end Go.Vs.Ytjfleklkloohgaa
