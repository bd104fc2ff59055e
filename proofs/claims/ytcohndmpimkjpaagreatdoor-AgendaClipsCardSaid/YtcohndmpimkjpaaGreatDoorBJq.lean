/- The walk of the functions of utf, part 2: the first odd byte. No conditions. -/
import Derived.Test.YtcohndmpimkjpaaGreatDoorBIq
import Derived.Test.YtcohndmpimkjpaaGreatDoorBGq
import Derived.Test.YtcohndmpimkjpaaGreatDoorBEq
set_option linter.unusedVariables false
set_option linter.unusedSimpArgs false
namespace Go.Vs.YtcohndmpimkjpaaGreatDoor
set_option linter.unusedSimpArgs false
set_option linter.unusedVariables false
open Go.Proofs Go.Vs.U8
set_option maxRecDepth 100000
set_option maxHeartbeats 4000000
end Go.Vs.YtcohndmpimkjpaaGreatDoor
namespace Go.Vs.YtcohndmpimkjpaaGreatDoor
set_option linter.unusedSimpArgs false
set_option linter.unusedVariables false
open Go.Proofs Go.Vs.U8
set_option maxRecDepth 100000
set_option maxHeartbeats 4000000
theorem oddAt_cons (c : UInt8) (r : Str) : oddAt (c :: r) = (sizeL (c :: r) == 0 || (decide (c.toNat < 32) && !decide (c.toNat = 9)) || decide (c.toNat = 127)) := rfl
theorem fn_broken (s : Str) (a : Nat) (hs : s.length < 1000000) (ha : a < s.length) : Fn G Tryz.prog k_utf_broken [.str s, .int .i64 a, .int .i32 (dec (s.drop a)).1] (.bool (decide ((dec (s.drop a)) = (65533, 1)))) := by
  refine fn_intro hm ok_utf_broken (by simp) ?_
  have hD := fn_DecodeRune (s.drop a) (by intro e; have := congrArg List.length e; simp at this; omega)
  obtain ⟨⟨r, k⟩, hk⟩ : ∃ p, dec (s.drop a) = p := ⟨_, rfl⟩
  rw [hk] at hD ⊢
  by_cases h : r = 65533
  · subst h
    simp (disch := omega) [c_utf_broken, r_utf_broken, br_yes, br_no]
    refine ⟨by omega, ?_⟩
    refine callW_imm hD ?_
    simp
    omega
  · simp (disch := omega) [c_utf_broken, r_utf_broken, br_yes, br_no, h]
theorem fn_Odd (s : Str) (hs : s.length < 1000000) : Fn G Tryz.prog k_utf_Odd [.str s] (.int .i64 (oddI (odd s))) := by
  refine fn_intro hm ok_utf_Odd (by simp) ?_
  simp [c_utf_Odd, r_utf_Odd]
  refine loopU hm [] (fun i : Nat => []) (fun i => [(6, .iter (.str s) i)]) (fun i => i ≤ s.length ∧ odd s = (odd (s.drop i)).map (· + i)) (fun i => s.length - i) 0 ⟨by omega, by simp⟩ ?_ ?_
  · simp
    exact weak_drop rfl rfl (by simp [EnvLe, getE, look]) (by simp [ObLe, look]) (by simp [roOk])
  rintro i ⟨hi, ho⟩
  simp
  by_cases h : i < s.length
  · have hodd := odd_at h ho
    have hB := fn_broken s i hs h
    obtain ⟨c, hc⟩ : ∃ c, s[i] = c := ⟨_, rfl⟩
    have hd : s.drop i = c :: s.drop (i + 1) := by rw [← hc]; exact List.drop_eq_getElem_cons h
    have hle := sizeL_le (s.drop i)
    rw [List.length_drop] at hle
    have hcase := dec_sizeL c (s.drop (i + 1))
    have ha := oddAt_cons c (s.drop (i + 1))
    rw [← hd] at hcase ha
    have hlt := u8_lt c
    have hdd := decode_drop s i (by omega)
    clear hd ho
    obtain ⟨z, hz⟩ : ∃ z, sizeL (s.drop i) = z := ⟨_, rfl⟩
    obtain ⟨⟨r, k⟩, hk⟩ : ∃ p, dec (s.drop i) = p := ⟨_, rfl⟩
    rw [hz] at hodd hle hcase ha
    rw [hk] at hcase hB hdd
    simp only [Prod.mk.injEq] at hcase hB
    have ret : oddAt (s.drop i) = true → oddI (odd s) = i := fun h1 => by simp [hodd, h1, oddI]
    have go : oddAt (s.drop i) = false → odd s = (odd (s.drop (i + z))).map (· + (i + z)) := fun h1 => by
      rw [if_neg (by simp [h1])] at hodd
      exact hodd
    clear hodd
    rcases hcase with ⟨h1, ⟨rfl, rfl⟩, rfl⟩ | ⟨h1, rfl, rfl, rfl⟩ | ⟨h1, h2, h3, rfl⟩
    · have hnb : ¬ (c.toNat = 65533 ∧ 1 = 1) := by omega
      rw [decide_eq_false hnb] at hB
      by_cases h2 : (c.toNat < 32 ∧ c.toNat ≠ 9) ∨ c.toNat = 127
      · have hr := ret (by rw [ha]; simp; omega)
        have h2' : (c.toNat < 32 ∧ c.toNat ≠ 9) ∨ (¬ c.toNat < 32 ∧ c.toNat = 127) := by omega
        rcases h2' with h2 | h2
        all_goals
          simp [h, hdd]
          refine callW_imm hB ?_
          simp (disch := omega) [br_no, br_yes, hr]
      · have hg := go (by rw [ha]; simp; omega)
        have h2' : (c.toNat < 32 ∧ c.toNat = 9) ∨ (¬ c.toNat < 32 ∧ c.toNat ≠ 127) := by omega
        rcases h2' with h2 | h2
        all_goals
          simp [h, hdd]
          refine callW_imm hB ?_
          simp (disch := omega) [br_no, br_yes]
          refine loopEnd (i + 1) ⟨by omega, hg⟩ (by omega) ?_
          simp
          exact weak_drop rfl rfl (by simp [EnvLe, getE, look]) (by simp [ObLe, look]) (by simp [roOk])
    · have hr := ret (by rw [ha]; simp)
      simp [h, hdd]
      refine callW_imm hB ?_
      simp [hr]
    · have hg := go (by rw [ha]; simp; omega)
      have hnb : ¬ (r = 65533 ∧ k = 1) := by omega
      rw [decide_eq_false hnb] at hB
      simp [h, hdd]
      refine callW_imm hB ?_
      simp (disch := omega) [br_no, br_yes]
      refine loopEnd (i + k) ⟨by omega, hg⟩ (by omega) ?_
      simp
      exact weak_drop rfl rfl (by simp [EnvLe, getE, look]) (by simp [ObLe, look]) (by simp [roOk])
  · obtain rfl : i = s.length := by omega
    have ho' : odd s = none := by rw [ho, List.drop_length]; rfl
    simp [ho', oddI]
end Go.Vs.YtcohndmpimkjpaaGreatDoor
namespace Go.Vs.YtcohndmpimkjpaaGreatDoor
open Go.Proofs
set_option linter.unusedSimpArgs false
set_option linter.unusedVariables false
/-- The days of a common year ahead of each month, and of the next year. -/
def befZ : List Int := [0, 31, 59, 90, 120, 151, 181, 212, 243, 273, 304, 334, 365]
def G2 : List (Nat × List IV) := (4, befZ.map (.int .i64 ·)) :: G
theorem upR {k : Nat} {args : List IV} {r : Res} (h : FnR G Tryz.prog k args r) : FnR G2 Tryz.prog k args r :=
  ⟨h.1, fun w S vs hS hr hg => h.2 w S vs hS hr (fun p hp => hg p (List.mem_cons_of_mem _ hp))⟩
theorem up {k : Nat} {args : List IV} {v : IV} (h : Fn G Tryz.prog k args v) : Fn G2 Tryz.prog k args v := upR h
end Go.Vs.YtcohndmpimkjpaaGreatDoor
