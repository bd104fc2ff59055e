/- Plain mathematics of rules of recurrence: their texts' lengths and signs; texts whose parts stand in another order. No conditions. -/
import Derived.Test.YtbchceojmblkkaaGreatDoorRB
set_option linter.unusedVariables false
set_option linter.unusedSimpArgs false
namespace Go.Vs.YtbchceojmblkkaaGreatDoor.Rc
set_option linter.unusedSimpArgs false
set_option linter.unusedVariables false
open Go.Proofs Go.Vs.U8 Go.Vs.Pa Go.Vs.Nu Go.Lib Go.Vs.Mo
end Go.Vs.YtbchceojmblkkaaGreatDoor.Rc
namespace Go.Vs.YtbchceojmblkkaaGreatDoor.Rc
set_option linter.unusedSimpArgs false
set_option linter.unusedVariables false
open Go.Proofs Go.Vs.U8 Go.Vs.Pa Go.Vs.Nu Go.Lib Go.Vs.Mo
theorem parts_first (c : UInt8) (s : Str) : ∃ p ps, parts c s = p :: ps ∧ c ∉ p ∧ p.length ≤ s.length ∧ p = s.take p.length ∧ ((ps = [] ∧ p = s) ∨ (s[p.length]? = some c ∧ ps = parts c (s.drop (p.length + 1)))) := by
  by_cases h : c ∈ s
  · have hl := List.idxOf_lt_length_iff.2 h
    have hg : s[s.idxOf c]? = some c := by rw [List.getElem?_eq_getElem hl, List.getElem_idxOf]
    have hn : c ∉ s.take (s.idxOf c) := by
      intro hm
      rw [List.mem_take_iff_getElem] at hm
      obtain ⟨j, hj, e⟩ := hm
      have := List.not_of_lt_findIdx (p := (· == c)) (xs := s) (i := j) (show j < s.idxOf c by omega)
      simp [e] at this
    have hpl : (s.take (s.idxOf c)).length = s.idxOf c := by rw [List.length_take]; omega
    refine ⟨s.take (s.idxOf c), parts c (s.drop (s.idxOf c + 1)), parts_at hg hn, hn, by omega, by rw [hpl], .inr ⟨by rw [hpl]; exact hg, by rw [hpl]⟩⟩
  · exact ⟨s, [], parts_none h, h, Nat.le_refl _, by rw [List.take_length], .inl ⟨rfl, rfl⟩⟩
def lsum (l : List Str) : Nat := (l.map fun x => x.length + 1).sum
theorem lsum_cons (x : Str) (l : List Str) : lsum (x :: l) = x.length + 1 + lsum l := by simp [lsum]
theorem parts_sum (c : UInt8) : ∀ (n : Nat) (s : Str), s.length ≤ n → lsum (parts c s) = s.length + 1
  | n, s, hn => by
    obtain ⟨p, ps, h1, h2, h3, h4, h5⟩ := parts_first c s
    rw [h1, lsum_cons]
    rcases h5 with ⟨rfl, rfl⟩ | ⟨h5, h6⟩
    · rfl
    · obtain ⟨h7, _⟩ := List.getElem?_eq_some_iff.1 h5
      cases n with
      | zero => omega
      | succ n =>
        rw [h6, parts_sum c n _ (by rw [List.length_drop]; omega), List.length_drop]
        omega
theorem everyGo_no {α : Type} [DecidableEq α] {one : Str → α × Int} : ∀ {l : List Str} {a : Nat} {out : List α} {e : Int} {p : Nat}, everyGo one l a out = .no e p → e ≠ 0 ∧ p + 1 ≤ a + lsum l
  | [], a, out, e, p, h => by simp [everyGo] at h
  | x :: r, a, out, e, p, h => by
    rw [lsum_cons]
    simp only [everyGo] at h
    split at h
    · simp only [GotE.no.injEq] at h; omega
    · split at h
      · next h1 => simp only [GotE.no.injEq] at h; obtain ⟨rfl, rfl⟩ := h; exact ⟨h1, by omega⟩
      · split at h
        · simp only [GotE.no.injEq] at h; omega
        · have := everyGo_no h
          exact ⟨this.1, by omega⟩
theorem everyR_no {α : Type} [DecidableEq α] {one : Str → α × Int} {v : Str} {e : Int} {p : Nat} (h : everyR one v = .no e p) : e ≠ 0 ∧ p ≤ v.length := by
  have h1 := everyGo_no h
  rw [parts_sum 44 _ v (Nat.le_refl _)] at h1
  exact ⟨h1.1, by omega⟩
end Go.Vs.YtbchceojmblkkaaGreatDoor.Rc
