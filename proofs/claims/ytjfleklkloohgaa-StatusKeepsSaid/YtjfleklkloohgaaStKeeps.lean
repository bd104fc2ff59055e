/- The walk of StatusKeeps. No conditions. -/
import Derived.Test.YtjfleklkloohgaaStNames
namespace Go.Vs.Ytjfleklkloohgaa
open Go.Proofs
set_option maxRecDepth 100000
set_option maxHeartbeats 4000000
/-- What a life of the law's loop is. -/
def keepA (s p d : Int) (cl : Bool) : Prop := 0 ≤ s ∧ chk s p d = 0 ∧ (cl = true ↔ s = 3 ∨ s = 4)
theorem keep_one (s p d : Int) (cl : Bool) (h : keepA s p d cl) : (decide (chk s p d = 0 ∧ s < 3 ∧ 0 ≤ s) = !cl) ∧ ((valT s p d = 100) ↔ (0 ≤ d)) := by
  unfold keepA at h
  obtain ⟨h1, h2, h3⟩ := h
  have h4 : s ≤ 4 ∧ -1 ≤ d ∧ (d = -1 ↔ s ≠ 3) ∧ (p = -1 ∨ (loS s ≤ p ∧ p ≤ hiS s)) := by unfold chk at h2; grind
  refine ⟨?_, ?_⟩
  · cases cl <;> simp at h3 <;> simp [h2, h1] <;> omega
  · unfold valT; simp [h2]; unfold loS hiS at h4; grind
theorem keep_step (s p d : Int) (cl : Bool) (k n : Int) (h : keepA s p d cl) (hk : k = 0 ∨ k = 1 ∨ k = 2 ∨ k = 3) (hn : 0 ≤ n ∧ n ≤ 65535) :
    ∃ s' p' d' e, (if k = 0 then progT s p d n else if k = 1 then compT s p d n else if k = 2 then cancT s p d else reopT s p d) = tup (life s' p' d') e ∧
      (e = 0 ∨ (s' = s ∧ p' = p ∧ d' = d)) ∧
      (k = 0 → ((e = 0) ↔ (cl = false ∧ n ≤ 99)) ∧ keepA s' p' d' cl ∧ d' = d) ∧
      (k = 1 → ((e = 0) ↔ cl = false) ∧ keepA s' p' d' true ∧ d' = if cl then d else n) ∧
      (k = 2 → ((e = 0) ↔ cl = false) ∧ keepA s' p' d' true ∧ d' = d) ∧
      (k = 3 → ((e = 0) ↔ cl = true) ∧ keepA s' p' d' false ∧ d' = -1) := by
  unfold keepA at *
  obtain ⟨h1, h2, h3⟩ := h
  have h4 : s ≤ 4 ∧ -1 ≤ d ∧ (d = -1 ↔ s ≠ 3) ∧ (p = -1 ∨ (loS s ≤ p ∧ p ≤ hiS s)) := by unfold chk at h2; grind
  have ho : opn s p d = if cl then 9 else 0 := by unfold opn; simp [h2]; cases cl <;> simp at h3 ⊢ <;> omega
  rcases hk with rfl | rfl | rfl | rfl
  · unfold progT
    rw [ho]
    cases cl
    · by_cases n99 : 99 < n
      · exact ⟨s, p, d, 8, by simp [n99], by simp, by simp [h1, h2, h3]; omega, by simp, by simp, by simp⟩
      · by_cases n0 : n = 0
        · have : d = -1 := by simp at h3; omega
          exact ⟨1, 0, -1, 0, by simp [n0], by simp, by simp [this, show chk 1 0 (-1) = 0 by decide]; omega, by simp, by simp, by simp⟩
        · have hd : d = -1 := by simp at h3; omega
          have hc : chk 2 n (-1) = 0 := by unfold chk loS hiS; grind
          refine ⟨2, n, -1, 0, ?_, by simp, by simp [hd, hc]; omega, by simp, by simp, by simp⟩
          simp [n0]; omega
    · exact ⟨s, p, d, 9, by simp, by simp, by simp [h1, h2]; simpa using h3, by simp, by simp, by simp⟩
  · unfold compT
    rw [ho]
    cases cl
    · have hc : chk 3 100 n = 0 := by unfold chk loS hiS; grind
      refine ⟨3, 100, n, 0, ?_, by simp, by simp, by simp [hc], by simp, by simp⟩
      simp; omega
    · exact ⟨s, p, d, 9, by simp, by simp, by simp, by simp [h1, h2]; simpa using h3, by simp, by simp⟩
  · unfold cancT
    rw [ho]
    cases cl
    · have hd : d = -1 := by simp at h3; omega
      have hc : chk 4 p (-1) = 0 := by unfold chk loS hiS; unfold loS hiS at h4; simp at h3; grind
      exact ⟨4, p, -1, 0, by simp, by simp, by simp, by simp, by simp [hc, hd], by simp⟩
    · exact ⟨s, p, d, 9, by simp, by simp, by simp, by simp, by simp [h1, h2]; simpa using h3, by simp⟩
  · unfold reopT
    simp [h2]
    cases cl
    · simp at h3
      have : s = 0 ∨ s = 1 ∨ s = 2 := by omega
      simp [this]
      exact ⟨s, p, d, 9, rfl, by simp, by simp, by simp [h1, h2]; omega⟩
    · simp at h3
      have : ¬ (s = 0 ∨ s = 1 ∨ s = 2) := by omega
      simp [this]
      exact ⟨1, 0, -1, 0, rfl, by simp, by simp, by decide⟩
theorem fn_StatusKeeps (rows : List (List IV)) (hr : ∀ r ∈ rows, ∃ k n : Int, r = [.int .u8 k, .int .u16 n] ∧ 0 ≤ k ∧ k ≤ 255 ∧ 0 ≤ n ∧ n ≤ 65535) : Fn [] Try.prog k_law27_StatusKeeps [.slice rows] (.bool true) := by
  refine fn_intro hm ok_law27_StatusKeeps (by simp) ?_
  simp [c_law27_StatusKeeps, r_law27_StatusKeeps]
  refine brd (fun h => ?_) (fun h => ?_)
  · simp
    refine callW_imm fn_awake ?_
    simp
  simp
  refine callW_imm fn_New ?_
  simp
  refine loopW hm (fun x : Nat × Int × Int × Int × Bool × Int => ⟨[(6, .val (.int .i64 x.1)), (5, .val (.int .i64 x.2.2.2.2.2)), (4, .val (.bool x.2.2.2.2.1)), (3, .loc 3 0), (2, .val (.bool false)), (0, .val (.slice rows))], [(3, .box [.val (.int .u8 x.2.1), .val (.int .i64 x.2.2.1), .val (.int .i64 x.2.2.2.1)])], [], 125, []⟩)
    (fun x => x.1 ≤ rows.length ∧ keepA x.2.1 x.2.2.1 x.2.2.2.1 x.2.2.2.2.1 ∧ x.2.2.2.2.2 = x.2.2.2.1) (fun x => rows.length - x.1) (0, 0, -1, -1, false, -1) ⟨by simp, by unfold keepA; decide, rfl⟩ (weak_drop rfl rfl (by simp [EnvLe, getE, look]) (by simp [ObLe, look]) (by simp [roOk])) (fun _ => rfl) ?_
  rintro ⟨i, s, p, d, cl, dn⟩ ⟨h1, h3, h5⟩
  simp only at h1 h3
  obtain rfl : dn = d := h5
  simp
  refine brd (fun hi => ?_) (fun hi => ?_)
  · have hlt : i < rows.length := by omega
    obtain ⟨k, n, hk, k1, k2, n1, n2⟩ := hr rows[i] (List.getElem_mem hlt)
    have hrow : rows[i]? = some [.int .u8 k, .int .u16 n] := by rw [List.getElem?_eq_getElem hlt, hk]
    have hw : IntKind.i64.wrap n = n := by rw [IntKind.wrap_i64]; omega
    have hkm : k.tmod 4 = 0 ∨ k.tmod 4 = 1 ∨ k.tmod 4 = 2 ∨ k.tmod 4 = 3 := by rw [Int.tmod_eq_emod_of_nonneg k1]; omega
    have hwi : IntKind.i64.wrap ((i : Int) + 1) = ((i + 1 : Nat) : Int) := by rw [IntKind.wrap_i64]; omega
    obtain ⟨s', p', d', e, e1, e2, e3, e4, e5, e6⟩ := keep_step s p dn cl (k.tmod 4) n h3 hkm ⟨n1, n2⟩
    have c0 : ∀ {a b c : Int} {q : Bool}, keepA a b c q → chk a b c = 0 := fun h => h.2.1
    simp [hrow, hw]
    have fin : ∀ {a b c : Int} {q : Bool}, keepA a b c q → ∃ j : Nat × Int × Int × Int × Bool × Int, (j.1 ≤ rows.length ∧ keepA j.2.1 j.2.2.1 j.2.2.2.1 j.2.2.2.2.1 ∧ j.2.2.2.2.2 = j.2.2.2.1) ∧ rows.length - j.1 < rows.length - i ∧ j = (i + 1, a, b, c, q, c) := fun h => ⟨_, ⟨by simp; omega, h, rfl⟩, by simp; omega, rfl⟩
    rcases hkm with hk4 | hk4 | hk4 | hk4
    · simp only [hk4, if_true] at e1
      obtain ⟨e3', e7, e8⟩ := e3 hk4
      obtain ⟨q1, q2⟩ := keep_one _ _ _ _ e7
      have hc := c0 e7
      clear e3 e4 e5 e6
      simp [hk4]
      refine callW_imm (fn_Progress s p dn n) ?_
      simp [e1, tup]
      cases cl
      all_goals simp at e3' e8
      · by_cases n99 : n ≤ 99
        · have e3' : e = 0 := e3'.2 n99
          subst e8
          simp [n99, e3']
          simp [hrow, hk4]
          try simp [e3']
          try simp
          refine callW_imm (fn_Check _ _ _) ?_
          simp [hc]
          refine callW_imm (fn_Open _ _ _) ?_
          simp only [hc, true_and, Bool.not_true, Bool.not_false, decide_eq_false_iff_not, decide_eq_true_eq] at q1
          simp [hc, q1]
          refine callW_imm (fn_Value _ _ _) ?_
          simp [q2, hwi]
          obtain ⟨jj, j1, j2, rfl⟩ := fin e7
          exact loopEnd _ j1 j2 (weak_drop rfl rfl (by simp [EnvLe, getE, look]) (by simp [ObLe, look]) (by simp [roOk]))
        · have e3' : ¬ e = 0 := fun h => n99 (e3'.1 h)
          obtain ⟨rfl, rfl, h9⟩ := e2.resolve_left e3'
          subst e8
          simp [n99, e3']
          simp [hrow, hk4]
          try simp [e3']
          try simp
          refine callW_imm (fn_Check _ _ _) ?_
          simp [hc]
          refine callW_imm (fn_Open _ _ _) ?_
          simp only [hc, true_and, Bool.not_true, Bool.not_false, decide_eq_false_iff_not, decide_eq_true_eq] at q1
          simp [hc, q1]
          refine callW_imm (fn_Value _ _ _) ?_
          simp [q2, hwi]
          obtain ⟨jj, j1, j2, rfl⟩ := fin e7
          exact loopEnd _ j1 j2 (weak_drop rfl rfl (by simp [EnvLe, getE, look]) (by simp [ObLe, look]) (by simp [roOk]))
      all_goals
        try simp [e3']
        try simp [hrow, hk4, e3']
        try (obtain ⟨rfl, rfl, h9⟩ := e2.resolve_left e3'; simp)
        subst e8
        try subst h9
        try simp [e3']
        try simp
        refine callW_imm (fn_Check _ _ _) ?_
        simp [hc]
        refine callW_imm (fn_Open _ _ _) ?_
        simp only [hc, true_and, Bool.not_true, Bool.not_false, decide_eq_false_iff_not, decide_eq_true_eq] at q1
        simp [hc, q1]
        refine callW_imm (fn_Value _ _ _) ?_
        simp [q2, hwi]
        obtain ⟨jj, j1, j2, rfl⟩ := fin e7
        exact loopEnd _ j1 j2 (weak_drop rfl rfl (by simp [EnvLe, getE, look]) (by simp [ObLe, look]) (by simp [roOk]))
    · simp only [hk4, show ¬ (1:Int) = 0 by decide, if_false, if_true] at e1
      obtain ⟨e3', e7, e8⟩ := e4 hk4
      obtain ⟨q1, q2⟩ := keep_one _ _ _ _ e7
      have hc := c0 e7
      clear e3 e4 e5 e6
      simp [hk4]
      refine callW_imm (fn_Complete s p dn n) ?_
      simp [e1, tup]
      cases cl
      all_goals simp at e3' e8
      all_goals
        try simp [e3']
        try simp [hrow, hk4, e3']
        try (obtain ⟨rfl, rfl, h9⟩ := e2.resolve_left e3'; simp)
        subst e8
        try subst h9
        try simp [e3']
        try simp
        refine callW_imm (fn_Check _ _ _) ?_
        simp [hc]
        refine callW_imm (fn_Open _ _ _) ?_
        simp only [hc, true_and, Bool.not_true, Bool.not_false, decide_eq_false_iff_not, decide_eq_true_eq] at q1
        simp [hc, q1]
        refine callW_imm (fn_Value _ _ _) ?_
        simp [q2, hwi]
        obtain ⟨jj, j1, j2, rfl⟩ := fin e7
        exact loopEnd _ j1 j2 (weak_drop rfl rfl (by simp [EnvLe, getE, look]) (by simp [ObLe, look]) (by simp [roOk]))
    · simp only [hk4, show ¬ (2:Int) = 0 by decide, show ¬ (2:Int) = 1 by decide, if_false, if_true] at e1
      obtain ⟨e3', e7, e8⟩ := e5 hk4
      obtain ⟨q1, q2⟩ := keep_one _ _ _ _ e7
      have hc := c0 e7
      clear e3 e4 e5 e6
      simp [hk4]
      refine callW_imm (fn_Cancel s p dn) ?_
      simp [e1, tup]
      cases cl
      all_goals simp at e3' e8
      all_goals
        try simp [e3']
        try simp [hrow, hk4, e3']
        try (obtain ⟨rfl, rfl, h9⟩ := e2.resolve_left e3'; simp)
        subst e8
        try subst h9
        try simp [e3']
        try simp
        refine callW_imm (fn_Check _ _ _) ?_
        simp [hc]
        refine callW_imm (fn_Open _ _ _) ?_
        simp only [hc, true_and, Bool.not_true, Bool.not_false, decide_eq_false_iff_not, decide_eq_true_eq] at q1
        simp [hc, q1]
        refine callW_imm (fn_Value _ _ _) ?_
        simp [q2, hwi]
        obtain ⟨jj, j1, j2, rfl⟩ := fin e7
        exact loopEnd _ j1 j2 (weak_drop rfl rfl (by simp [EnvLe, getE, look]) (by simp [ObLe, look]) (by simp [roOk]))
    · simp only [hk4, show ¬ (3:Int) = 0 by decide, show ¬ (3:Int) = 1 by decide, show ¬ (3:Int) = 2 by decide, if_false] at e1
      obtain ⟨e3', e7, e8⟩ := e6 hk4
      obtain ⟨q1, q2⟩ := keep_one _ _ _ _ e7
      have hc := c0 e7
      clear e3 e4 e5 e6
      simp [hk4]
      refine callW_imm (fn_Reopen s p dn) ?_
      simp [e1, tup]
      cases cl
      all_goals simp at e3' e8
      all_goals
        try simp [e3']
        try simp [hrow, hk4, e3']
        try (obtain ⟨rfl, rfl, h9⟩ := e2.resolve_left e3'; simp)
        subst e8
        try subst h9
        try simp [e3']
        try simp
        refine callW_imm (fn_Check _ _ _) ?_
        simp [hc]
        refine callW_imm (fn_Open _ _ _) ?_
        simp only [hc, true_and, Bool.not_true, Bool.not_false, decide_eq_false_iff_not, decide_eq_true_eq] at q1
        simp [hc, q1]
        refine callW_imm (fn_Value _ _ _) ?_
        simp [q2, hwi]
        obtain ⟨jj, j1, j2, rfl⟩ := fin e7
        exact loopEnd _ j1 j2 (weak_drop rfl rfl (by simp [EnvLe, getE, look]) (by simp [ObLe, look]) (by simp [roOk]))
  · simp
    refine callW_imm fn_awake ?_
    simp
end Go.Vs.Ytjfleklkloohgaa
