/- Plain mathematics of relations: a relation's line may be. No conditions. -/
import Derived.Test.YtbchceojmblkkaaGreatDoorEA
import Derived.Test.YtbchceojmblkkaaGreatDoorCI
import Derived.Test.YtbchceojmblkkaaGreatDoorBT
set_option linter.unusedVariables false
set_option linter.unusedSimpArgs false
namespace Go.Vs.YtbchceojmblkkaaGreatDoor
set_option linter.unusedSimpArgs false
set_option linter.unusedVariables false
open Go.Proofs Go.Vs.U8 Go.Vs.Pa Go.Vs.Nu
theorem kindN_fine (k : Int) : (kindN k).length ≤ 60 ∧ fineB (kindN k) = true := by
  unfold kindN
  repeat' split
  all_goals exact ⟨by decide, by decide⟩
/-- Signs below 128, none of them a control. -/
theorem odd_plain : ∀ (n : Nat) (l : Str), l.length ≤ n → (∀ c ∈ l, 32 ≤ c.toNat ∧ c.toNat < 127) → odd l = none
  | n, [], _, _ => rfl
  | 0, c :: r, h, _ => by simp at h
  | n + 1, c :: r, h, hc => by
    obtain ⟨h1, h2⟩ := hc c (by simp)
    have hs : sizeL (c :: r) = 1 := by simp only [sizeL]; rw [if_pos (by omega)]
    have ho : oddAt (c :: r) = false := by
      simp only [oddAt, hs]
      simp
      omega
    rw [odd_step (by simp), if_neg (by simp [ho]), hs]
    have := odd_plain n r (by simp at h; omega) (fun d hd => hc d (by simp [hd]))
    simp [this]
theorem uidc_plain {c : UInt8} (h : uidc c = true) : 32 ≤ c.toNat ∧ c.toNat < 127 := by simp [uidc] at h; omega
theorem uid_odd {s : Str} (h : uidB s = true) : odd s = none := by
  obtain ⟨_, _, h3⟩ := (uidB_iff s).1 h
  exact odd_plain s.length s (Nat.le_refl _) fun c hc => uidc_plain (List.all_eq_true.1 h3 c hc)
theorem rel_check {r : Rl} (h : writE r = 0) : checkX (relL r) = 0 := by
  obtain ⟨h1, h2⟩ := writE_zero h
  refine (checkX_iff _).2 ⟨(by show nameB ptName = true; decide), ?_, ?_, uid_odd h2⟩
  · refine (checkAll_iff _).2 ⟨by simp [relL], ?_, by simp [relL, twiceF, hasN]⟩
    intro p hp
    simp only [relL, List.mem_singleton] at hp
    subst hp
    refine (checkP_iff _).2 ⟨(by show nameB ptName = true; decide), by simp, by simp, ?_⟩
    intro x hx
    simp only [List.mem_singleton] at hx
    subst hx
    exact kindN_fine _
  · obtain ⟨_, h3, _⟩ := (uidB_iff r.2).1 h2
    simp only [relL]
    omega
end Go.Vs.YtbchceojmblkkaaGreatDoor
