/- The walk of param, part 16: parameters read, the document's. No conditions. -/
import Derived.Test.YtbchceojmblkkaaGreatDoorBW
set_option linter.unusedVariables false
set_option linter.unusedSimpArgs false
namespace Go.Vs.YtbchceojmblkkaaGreatDoor
set_option linter.unusedSimpArgs false
set_option linter.unusedVariables false
open Go.Proofs Go.Vs.U8 Go.Vs.Pa
set_option maxRecDepth 100000
set_option maxHeartbeats 8000000
theorem named_at {s : Str} {k : Nat} {c : UInt8} (h : k < s.length) (hc : s[k] = c) : named (s.drop k) = if nmd c then named (s.drop (k + 1)) + 1 else 0 := by
  rw [List.drop_eq_getElem_cons h, hc]; rfl
theorem parseR_ok (s : Str) : ∀ (m a : Nat) (l l' : List Pm) (n : Nat), a ≤ s.length → Sml l → parseR s m a l = .ok l' n → n ≤ s.length ∧ Sml l' ∧ l'.length ≤ l.length + m
  | 0, a, l, l', n, ha, hl, h => by
    simp only [parseR] at h
    split at h
    · cases h
    · cases h; exact ⟨ha, hl, by omega⟩
  | m + 1, a, l, l', n, ha, hl, h => by
    simp only [parseR] at h
    split at h
    · next h59 =>
      cases hv : oneR s (a + 1) l with
      | no e' p' => rw [hv] at h; cases h
      | ok q j =>
        rw [hv] at h
        have ho := oneR_ok hv
        have := parseR_ok s m j _ l' n ho.1 (hl.snoc ho.2) h
        simp at this
        exact ⟨this.1, this.2.1, by omega⟩
    · cases h; exact ⟨ha, hl, by omega⟩
end Go.Vs.YtbchceojmblkkaaGreatDoor
