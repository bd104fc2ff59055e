/- The walk of param, part 16: parameters read, the document's. No conditions. -/
import Derived.Test.YthcljcjkfhiicaaDoorBW
set_option linter.unusedVariables false
set_option linter.unusedSimpArgs false
namespace Go.Vs.YthcljcjkfhiicaaDoor
set_option linter.unusedSimpArgs false
set_option linter.unusedVariables false
open Go.Proofs Go.Vs.U8 Go.Vs.Pa
set_option maxRecDepth 100000
set_option maxHeartbeats 8000000
theorem named_at {s : Str} {k : Nat} {c : UInt8} (h : k < s.length) (hc : s[k] = c) : named (s.drop k) = if nmd c then named (s.drop (k + 1)) + 1 else 0 := by
  rw [List.drop_eq_getElem_cons h, hc]; rfl
theorem valueR_ge {s : Str} {a : Nat} {v : Str} {n : Nat} (h : valueR s a = .ok v n) : a ≤ n := by
  simp only [valueR] at h
  split at h
  · split at h
    · cases h
    · split at h
      · cases h
      · split at h
        · cases h; omega
        · cases h
  · split at h
    · cases h
    · split at h
      · cases h
      · cases h; omega
theorem checked_no {raw : Str} {a f : Nat} {e p : Int} (h : checked raw a f = .no e p) : e ≠ 0 ∧ (p = a ∨ ∃ k : Nat, k < raw.length ∧ p = f + k) := by
  simp only [checked] at h
  split at h
  · next k hk => cases h; exact ⟨by omega, .inr ⟨k, odd_lt _ raw (Nat.le_refl _) k hk, rfl⟩⟩
  · split at h
    · cases h; exact ⟨by omega, .inl rfl⟩
    · cases h
theorem valueR_no {s : Str} {a : Nat} {e p : Int} (ha : a ≤ s.length) (h : valueR s a = .no e p) : e ≠ 0 ∧ 0 ≤ p ∧ p ≤ s.length := by
  simp only [valueR] at h
  split at h
  · next h0 =>
    obtain ⟨hal, _⟩ := List.getElem?_eq_some_iff.1 h0
    have hl := run_le notq (s.drop (a + 1))
    rw [List.length_drop] at hl
    split at h
    · cases h; exact ⟨by omega, by omega, by omega⟩
    · next hne =>
      rw [List.length_drop] at hne
      split at h
      · next hc =>
        cases h
        obtain ⟨h1, h2 | ⟨k, h2, h3⟩⟩ := checked_no hc
        · exact ⟨h1, by omega, by omega⟩
        · rw [List.length_take, List.length_drop] at h2
          exact ⟨h1, by omega, by omega⟩
      · split at h
        · cases h
        · cases h; exact ⟨by omega, by omega, by omega⟩
  · have hl := run_le plain (s.drop a)
    rw [List.length_drop] at hl
    split at h
    · cases h; exact ⟨by omega, by omega, by omega⟩
    · split at h
      · next hc =>
        cases h
        obtain ⟨h1, h2 | ⟨k, h2, h3⟩⟩ := checked_no hc
        · exact ⟨h1, by omega, by omega⟩
        · rw [List.length_take, List.length_drop] at h2
          exact ⟨h1, by omega, by omega⟩
      · cases h
theorem valsR_no (s : Str) : ∀ (m a : Nat) (vs : List Str) (e p : Int), a ≤ s.length → valsR s m a vs = .no e p → e ≠ 0 ∧ 0 ≤ p ∧ p ≤ s.length
  | 0, a, vs, e, p, ha, h => by
    simp only [valsR] at h
    cases h
    exact ⟨by omega, by omega, by omega⟩
  | m + 1, a, vs, e, p, ha, h => by
    simp only [valsR] at h
    cases hg : valueR s a with
    | no e' p' => rw [hg] at h; cases h; exact valueR_no ha hg
    | ok x j =>
      rw [hg] at h
      simp only at h
      split at h
      · next h44 =>
        obtain ⟨h1, _⟩ := List.getElem?_eq_some_iff.1 h44
        exact valsR_no s m (j + 1) _ e p (by omega) h
      · cases h
theorem oneR_no {s : Str} {a : Nat} {l : List Pm} {e p : Int} (ha : a ≤ s.length) (h : oneR s a l = .no e p) : e ≠ 0 ∧ 0 ≤ p ∧ p ≤ s.length := by
  have hn := named_le (s.drop a)
  rw [List.length_drop] at hn
  simp only [oneR] at h
  split at h
  · cases h; exact ⟨by omega, by omega, by omega⟩
  · split at h
    · cases h; exact ⟨by omega, by omega, by omega⟩
    · split at h
      · next h61 =>
        obtain ⟨h1, _⟩ := List.getElem?_eq_some_iff.1 h61
        cases hv : valsR s 6 (a + named (s.drop a) + 1) [] with
        | no e' p' => rw [hv] at h; cases h; exact valsR_no s 6 _ _ _ _ (by omega) hv
        | ok v j => rw [hv] at h; cases h
      · cases h; exact ⟨by omega, by omega, by omega⟩
theorem parseR_no (s : Str) : ∀ (m a : Nat) (l : List Pm) (e p : Int), a ≤ s.length → parseR s m a l = .no e p → e ≠ 0 ∧ 0 ≤ p ∧ p ≤ s.length
  | 0, a, l, e, p, ha, h => by
    simp only [parseR] at h
    split at h
    · cases h; exact ⟨by omega, by omega, by omega⟩
    · cases h
  | m + 1, a, l, e, p, ha, h => by
    simp only [parseR] at h
    split at h
    · next h59 =>
      obtain ⟨h1, _⟩ := List.getElem?_eq_some_iff.1 h59
      cases hv : oneR s (a + 1) l with
      | no e' p' => rw [hv] at h; cases h; exact oneR_no (by omega) hv
      | ok q n => rw [hv] at h; exact parseR_no s m n _ e p (oneR_ok hv).1 h
    · cases h
theorem parseR_ok (s : Str) : ∀ (m a : Nat) (l l' : List Pm) (n : Nat), a ≤ s.length → Sml l → parseR s m a l = .ok l' n → n ≤ s.length ∧ Sml l' ∧ l'.length ≤ l.length + m
  | 0, a, l, l', n, ha, hl, h => by
    simp only [parseR] at h
    split at h
    · cases h
    · cases h; exact ⟨ha, hl, by omega⟩
  | m + 1, a, l, l', n, ha, hl, h => by
    simp only [parseR] at h
    split at h
    · next h59 =>
      cases hv : oneR s (a + 1) l with
      | no e' p' => rw [hv] at h; cases h
      | ok q j =>
        rw [hv] at h
        have ho := oneR_ok hv
        have := parseR_ok s m j _ l' n ho.1 (hl.snoc ho.2) h
        simp at this
        exact ⟨this.1, this.2.1, by omega⟩
    · cases h; exact ⟨ha, hl, by omega⟩
end Go.Vs.YthcljcjkfhiicaaDoor
