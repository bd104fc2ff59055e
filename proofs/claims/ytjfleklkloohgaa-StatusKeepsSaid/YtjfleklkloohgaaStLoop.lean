/- test -/
import Derived.Test.YtjfleklkloohgaaStPf
namespace Go.Vs.Ytjfleklkloohgaa
open Go.Proofs
set_option maxRecDepth 100000
set_option maxHeartbeats 4000000
def parseT (x : List UInt8) : IV := if x = nameT 1 then .tuple [.int .u8 1, .int .i64 0] else if x = nameT 2 then .tuple [.int .u8 2, .int .i64 0] else if x = nameT 3 then .tuple [.int .u8 3, .int .i64 0] else if x = nameT 4 then .tuple [.int .u8 4, .int .i64 0] else .tuple [.int .u8 0, .int .i64 11]
theorem fn_rParse (x : List UInt8) : Fn [] Try.prog k_ref27_Parse [.str x] (parseT x) := by
  refine fn_intro hm ok_ref27_Parse (by simp) ?_
  simp [c_ref27_Parse, r_ref27_Parse]
  refine tvw (tv_loop hm (fun s : Int => ⟨[(4, .val (.int .u8 s)), (3, .val (.int .i64 0)), (2, .val (.int .u8 0)), (0, .val (.str x))], [], [], 14, []⟩)
    (fun s => 1 ≤ s ∧ s ≤ 5 ∧ ∀ t, 1 ≤ t → t < s → nameT t ≠ x) (fun s => (5 - s).toNat) 1 ⟨by omega, by omega, fun t h1 h2 => by omega⟩ (Weak.refl _) (fun _ => rfl) (fun s hA => ?_))
  obtain ⟨h1, h2, h3⟩ := hA
  simp
  refine brd (fun h4 => ?_) (fun h4 => ?_)
  · simp
    refine callW_imm (fn_rName s (by omega)) ?_
    simp
    refine brd (fun h5 => ?_) (fun h5 => ?_)
    · simp
      subst h5
      have : s = 1 ∨ s = 2 ∨ s = 3 ∨ s = 4 := by omega
      rcases this with rfl | rfl | rfl | rfl <;> simp [parseT, nameT]
    · simp
      have e : IntKind.u8.wrap (s + 1) = s + 1 := by
        have : s = 1 ∨ s = 2 ∨ s = 3 ∨ s = 4 := by omega
        rcases this with rfl | rfl | rfl | rfl <;> rfl
      rw [e]
      refine ⟨s + 1, ⟨by omega, by omega, fun t k1 k2 => ?_⟩, by omega, weak_drop rfl rfl (by simp [EnvLe, getE, look]) (by simp [ObLe]) (by simp [roOk])⟩
      by_cases ht : t = s
      · subst ht; exact h5
      · exact h3 t k1 (by omega)
  · simp
    have k1 := h3 1 (by omega) (by omega)
    have k2 := h3 2 (by omega) (by omega)
    have k3 := h3 3 (by omega) (by omega)
    have k4 := h3 4 (by omega) (by omega)
    simp [parseT, k1.symm, k2.symm, k3.symm, k4.symm]
theorem fn_Parse (x : List UInt8) : Fn [] Try.prog k_status_Parse [.str x] (parseT x) := by
  refine fn_intro hm ok_status_Parse (by simp) ?_
  simp [c_status_Parse, r_status_Parse, br_decide]
  refine ⟨fun h => by subst h; simp [parseT, nameT], fun h0 => ?_⟩
  refine tvw (tv_loop hm (fun s : Int => ⟨[(4, .val (.int .u8 s)), (3, .val (.int .i64 0)), (2, .val (.int .u8 0)), (0, .val (.str x))], [], [], 16, []⟩)
    (fun s => 1 ≤ s ∧ s ≤ 5 ∧ ∀ t, 1 ≤ t → t < s → nameT t ≠ x) (fun s => (5 - s).toNat) 1 ⟨by omega, by omega, fun t h1 h2 => by omega⟩ (weak_drop rfl rfl (by simp [EnvLe, getE, look]) (by simp [ObLe]) (by simp [roOk])) (fun _ => rfl) (fun s hA => ?_))
  obtain ⟨h1, h2, h3⟩ := hA
  simp
  refine brd (fun h4 => ?_) (fun h4 => ?_)
  · simp
    refine callW_imm (fn_Name s) ?_
    simp
    refine brd (fun h5 => ?_) (fun h5 => ?_)
    · simp
      subst h5
      have : s = 1 ∨ s = 2 ∨ s = 3 ∨ s = 4 := by omega
      rcases this with rfl | rfl | rfl | rfl <;> simp [parseT, nameT]
    · simp
      have e : IntKind.u8.wrap (s + 1) = s + 1 := by
        have : s = 1 ∨ s = 2 ∨ s = 3 ∨ s = 4 := by omega
        rcases this with rfl | rfl | rfl | rfl <;> rfl
      rw [e]
      refine ⟨s + 1, ⟨by omega, by omega, fun t k1 k2 => ?_⟩, by omega, weak_drop rfl rfl (by simp [EnvLe, getE, look]) (by simp [ObLe]) (by simp [roOk])⟩
      by_cases ht : t = s
      · subst ht; exact h5
      · exact h3 t k1 (by omega)
  · simp
    have k1 := h3 1 (by omega) (by omega)
    have k2 := h3 2 (by omega) (by omega)
    have k3 := h3 3 (by omega) (by omega)
    have k4 := h3 4 (by omega) (by omega)
    simp [parseT, k1.symm, k2.symm, k3.symm, k4.symm]
theorem chk_new : chk 0 (-1) (-1) = 0 := by decide
theorem fn_awake : Fn [] Try.prog k_law27_awake [] (.bool true) := by
  refine fn_intro hm ok_law27_awake (by simp) ?_
  simp [c_law27_awake, r_law27_awake]
  refine callW_imm fn_New ?_
  simp
  refine callW_imm (fn_Progress _ _ _ _) ?_
  simp [show progT 0 (-1) (-1) 40 = tup (life 2 40 (-1)) 0 by rfl, tup]
  refine callW_imm (fn_Complete _ _ _ _) ?_
  simp [show compT 2 40 (-1) 77 = tup (life 3 100 77) 0 by rfl, tup]
  refine callW_imm (fn_Cancel _ _ _) ?_
  simp [show cancT 3 100 77 = tup (life 3 100 77) 9 by rfl, tup]
  refine callW_imm (fn_Reopen _ _ _) ?_
  simp [show reopT 3 100 77 = tup (life 1 0 (-1)) 0 by rfl, tup]
  refine callW_imm (fn_Cancel _ _ _) ?_
  simp [show cancT 2 40 (-1) = tup (life 4 40 (-1)) 0 by rfl, tup]
  refine callW_imm (fn_Parse _) ?_
  simp [show parseT [73, 78, 45, 80, 82, 79, 67, 69, 83, 83] = .tuple [.int .u8 2, .int .i64 0] by rfl]
  refine callW_imm (fn_Parse _) ?_
  simp [show parseT [105, 110, 45, 112, 114, 111, 99, 101, 115, 115] = .tuple [.int .u8 0, .int .i64 11] by rfl]
  refine callW_imm (fn_Open _ _ _) ?_
  simp [show chk 2 40 (-1) = 0 by rfl]
  refine callW_imm (fn_Open _ _ _) ?_
  simp
  refine callW_imm (fn_Value _ _ _) ?_
  simp [show valT 3 100 77 = 100 by rfl]
  refine callW_imm fn_New ?_
  simp
  refine callW_imm (fn_Value _ _ _) ?_
  simp [show valT 0 (-1) (-1) = 0 by rfl]
  refine callW_imm (fn_Name _) ?_
  simp [show nameT 1 = [78, 69, 69, 68, 83, 45, 65, 67, 84, 73, 79, 78] by rfl]
  refine callW_imm (fn_Check _ _ _) ?_
  simp [show chk 0 0 0 = 9 by rfl]
end Go.Vs.Ytjfleklkloohgaa
