/- The walk of the statements LineParses and LineTells. No conditions. -/
import Derived.Test.YthcljcjkfhiicaaGreatDoorCK
import Derived.Test.YthcljcjkfhiicaaGreatDoorCF
import Derived.Test.YthcljcjkfhiicaaGreatDoorBT
import Derived.Test.YthcljcjkfhiicaaGreatDoorBD
set_option linter.unusedVariables false
set_option linter.unusedSimpArgs false
namespace Go.Vs.YthcljcjkfhiicaaGreatDoor
set_option linter.unusedSimpArgs false
set_option linter.unusedVariables false
open Go.Proofs Go.Vs.U8 Go.Vs.Pa
set_option maxRecDepth 100000
set_option maxHeartbeats 16000000
theorem valueR_from {s : Str} {a : Nat} {e p : Int} (ha : a ≤ s.length) (h : valueR s a = .no e p) : (a : Int) ≤ p := by
  simp only [valueR] at h
  split at h
  · next h0 =>
    obtain ⟨hal, _⟩ := List.getElem?_eq_some_iff.1 h0
    split at h
    · cases h; omega
    · split at h
      · next hc =>
        cases h
        obtain ⟨h1, h2 | ⟨k, h2, h3⟩⟩ := checked_no hc <;> omega
      · split at h
        · cases h
        · cases h; omega
  · split at h
    · cases h; omega
    · split at h
      · next hc =>
        cases h
        obtain ⟨h1, h2 | ⟨k, h2, h3⟩⟩ := checked_no hc <;> omega
      · cases h
theorem valsR_from (s : Str) : ∀ (m a : Nat) (vs : List Str) (e p : Int), a ≤ s.length → valsR s m a vs = .no e p → (a : Int) ≤ p
  | 0, a, vs, e, p, ha, h => by
    simp only [valsR] at h
    cases h
    omega
  | m + 1, a, vs, e, p, ha, h => by
    simp only [valsR] at h
    cases hg : valueR s a with
    | no e' p' => rw [hg] at h; cases h; exact valueR_from ha hg
    | ok x j =>
      rw [hg] at h
      have hge := valueR_ge hg
      simp only at h
      split at h
      · next h44 =>
        obtain ⟨h1, _⟩ := List.getElem?_eq_some_iff.1 h44
        have := valsR_from s m (j + 1) _ e p (by omega) h
        omega
      · cases h
theorem oneR_from {s : Str} {a : Nat} {l : List Pm} {e p : Int} (ha : a ≤ s.length) (h : oneR s a l = .no e p) : (a : Int) ≤ p := by
  have hn := named_le (s.drop a)
  rw [List.length_drop] at hn
  simp only [oneR] at h
  split at h
  · cases h; omega
  · split at h
    · cases h; omega
    · split at h
      · next h61 =>
        obtain ⟨h1, _⟩ := List.getElem?_eq_some_iff.1 h61
        cases hv : valsR s 6 (a + named (s.drop a) + 1) [] with
        | no e' p' =>
          rw [hv] at h
          cases h
          have := valsR_from s 6 _ _ _ _ (by omega) hv
          omega
        | ok v j => rw [hv] at h; cases h
      · cases h; omega
/-- An error stands behind the first place, where there may be a parameter at all. -/
theorem parseR_from (s : Str) : ∀ (m a : Nat) (l : List Pm) (e p : Int), a ≤ s.length → 0 < m + a → parseR s m a l = .no e p → 1 ≤ p
  | 0, a, l, e, p, ha, h0, h => by
    simp only [parseR] at h
    split at h
    · cases h; omega
    · cases h
  | m + 1, a, l, e, p, ha, h0, h => by
    simp only [parseR] at h
    split at h
    · next h59 =>
      obtain ⟨h1, _⟩ := List.getElem?_eq_some_iff.1 h59
      cases hv : oneR s (a + 1) l with
      | no e' p' =>
        rw [hv] at h
        cases h
        have := oneR_from (by omega) hv
        omega
      | ok q n =>
        rw [hv] at h
        have h2 := (oneR_fine hv).2.2
        exact parseR_from s m n _ e p (oneR_ok hv).1 (by omega) h
    · cases h
theorem lineR_no {s : Str} {e : Int} {ps : List Int} (h : lineR s = .no e ps) : e ≠ 0 ∧ ((∃ p, ps = [p] ∧ 0 ≤ p ∧ p ≤ s.length) ∨ ∃ k p, ps = [k, p] ∧ 0 ≤ k ∧ 1 ≤ p ∧ k + p ≤ s.length) := by
  have hkl := named_le s
  simp only [lineR] at h
  split at h
  · cases h; exact ⟨by omega, .inl ⟨0, rfl, by omega, by omega⟩⟩
  · cases hp : parseR (s.drop (named s)) 6 0 [] with
    | no e' p =>
      rw [hp] at h
      cases h
      obtain ⟨q1, q2, q3⟩ := parseR_no _ 6 0 [] _ p (by omega) hp
      have q4 := parseR_from _ 6 0 [] _ p (by omega) (by omega) hp
      rw [List.length_drop] at q3
      exact ⟨q1, .inr ⟨_, p, rfl, by omega, q4, by omega⟩⟩
    | ok l n =>
      rw [hp] at h
      obtain ⟨h2, h3, h4⟩ := parseR_ok _ 6 0 [] l n (by omega) (by intro p hp; simp at hp) hp
      rw [List.length_drop] at h2
      simp only at h
      split at h
      · next h5 =>
        obtain ⟨h6, _⟩ := List.getElem?_eq_some_iff.1 h5
        split at h
        · cases h; exact ⟨by omega, .inl ⟨_, rfl, by omega, by omega⟩⟩
        · split at h
          · next i ho =>
            have hil := odd_lt _ _ (Nat.le_refl _) i ho
            rw [List.length_drop] at hil
            cases h
            exact ⟨by omega, .inl ⟨_, rfl, by omega, by omega⟩⟩
          · cases h
      · cases h; exact ⟨by omega, .inl ⟨_, rfl, by omega, by omega⟩⟩
theorem lineR_ok {s : Str} {x : Ln} (h : lineR s = .ok x) : checkX x = 0 := by
  simp only [lineR] at h
  split at h
  · cases h
  · next hk =>
    cases hp : parseR (s.drop (named s)) 6 0 [] with
    | no e' p => rw [hp] at h; cases h
    | ok l n =>
      rw [hp] at h
      simp only at h
      split at h
      · split at h
        · cases h
        · next h8 =>
          split at h
          · cases h
          · next ho =>
            cases h
            refine (checkX_iff _).2 ⟨?_, parse_valid hp, by show (s.drop _).length ≤ 200; omega, ho⟩
            have hkl := named_le s
            have hup := upper_len (s.take (named s))
            rw [List.length_take] at hup
            have hall : (upper (s.take (named s))).all sgn = true := by
              have := named_take s
              rw [List.all_eq_true] at this ⊢
              intro c hc
              simp only [upper, List.mem_map] at hc
              obtain ⟨d, hd, rfl⟩ := hc
              show sgn (Pa.upB d) = true
              rw [nmd_up]
              exact this d hd
            show nameB (upper (s.take (named s))) = true
            simp only [nameB, Bool.and_eq_true, decide_eq_true_eq]
            exact ⟨⟨by omega, by omega⟩, hall⟩
      · cases h
theorem checkX_fit {x : Ln} (h : checkX x = 0) : FitX x := by
  obtain ⟨h1, h2, h3, h4⟩ := (checkX_iff x).1 h
  obtain ⟨a, b⟩ := checkAll_le h2
  simp only [nameB, Bool.and_eq_true, decide_eq_true_eq] at h1
  have hs : Sml x.p := fun p hp => by obtain ⟨q, _, r, t⟩ := checkP_le (b p hp); exact ⟨q, r, t⟩
  exact ⟨by omega, by omega, hs.fit, by omega⟩
theorem fitL1 {a : Ln} (ha : FitX a) : FitL [a] := by
  intro x hx
  simp at hx
  subst hx
  exact ha
theorem fn_LineParses (s : Str) : Fn G Tryz.prog k_law18_LineParses [.str s] (.bool true) := by
  refine fn_intro hm ok_law18_LineParses (by simp) ?_
  have hA := fn_lawake
  simp [c_law18_LineParses, r_law18_LineParses]
  by_cases h5 : 500 < s.length
  · simp (disch := omega) [br_yes, br_no, wrap_i64, wrap_u8, wrap_i32, List.getElem?_cons_zero, List.getElem?_cons_succ]
    refine callW_imm hA ?_
    simp
  · have hP := fn_lParse s (by omega)
    have hQ := fn_lrParse s (by omega)
    simp (disch := omega) [br_yes, br_no, wrap_i64, wrap_u8, wrap_i32, List.getElem?_cons_zero, List.getElem?_cons_succ]
    refine callW_imm hP ?_
    cases hR : lineR s with
    | no e ps =>
      obtain ⟨h1, h2⟩ := lineR_no hR
      rw [hR] at hQ
      obtain ⟨et, ev, he⟩ := errIV_not_nil e ps
      have f0 := fitL1 fit_ln0
      have hB := fn_lBack [ln0] (by simp) f0
      have hS := fn_rlSame [ln0] [ln0] (by simp) (by simp) f0 f0
      have hC := fn_Code e ps
      have hpl : ∀ p ∈ ps, -1000000 < p ∧ p < 1000000 := by
        rcases h2 with ⟨p, rfl, _, _⟩ | ⟨k, p, rfl, _, _, _⟩ <;> simp <;> omega
      have hps : ps.length < 1000 := by rcases h2 with ⟨p, rfl, _, _⟩ | ⟨k, p, rfl, _, _, _⟩ <;> simp
      have hPl := fn_Place e ps hpl hps
      have e1 : ls [ln0] = [[.str [], .slice [], .str []]] := rfl
      have e0 : ln0.iv = .agg [.str [], .slice [], .str []] := rfl
      rw [e1] at hB hS
      rw [he] at hC hPl
      simp [lineI, e0, he]
      refine callW_imm hQ ?_
      simp [lineJ, e0]
      refine callW_imm hB ?_
      simp
      refine callW_imm hS ?_
      simp
      refine callW_imm hC ?_
      simp
      refine callW_imm hPl ?_
      simp [h1]
      refine callW_imm hA ?_
      simp
      rfl
    | ok x =>
      rw [hR] at hQ
      have fx := checkX_fit (lineR_ok hR)
      have f1 := fitL1 fx
      have hB := fn_lBack [x] (by simp) f1
      have hS := fn_rlSame [x] [x] (by simp) (by simp) f1 f1
      have e1 : ls [x] = [[.str x.n, .slice (ps x.p), .str x.v]] := rfl
      rw [e1] at hB hS
      simp [lineI, Ln.iv]
      refine callW_imm hQ ?_
      simp [lineJ, Ln.iv]
      refine callW_imm hB ?_
      simp
      refine callW_imm hS ?_
      simp
      refine callW_imm fn_Code_nil ?_
      simp
      refine callW_imm fn_Place_nil ?_
      simp
      refine callW_imm hA ?_
      simp
      rfl
theorem LineParses_true (args : List IV) (h : Args [.str] args) : Fn G Tryz.prog k_law18_LineParses args (.bool true) := by
  obtain ⟨w, c, rfl, ⟨s, hs, _⟩, hc⟩ := h
  have hc : c = [] := hc
  subst hc
  simp only [List.cons.injEq, and_true] at hs
  subst hs
  exact fn_LineParses s
end Go.Vs.YthcljcjkfhiicaaGreatDoor
