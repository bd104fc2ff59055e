/- The walk of the functions of utf, part 2: the first odd byte. No conditions. -/
import Derived.Test.YthcljcjkfhiicaaGreatDoorBH
set_option linter.unusedVariables false
set_option linter.unusedSimpArgs false
namespace Go.Vs.YthcljcjkfhiicaaGreatDoor
set_option linter.unusedSimpArgs false
set_option linter.unusedVariables false
open Go.Proofs Go.Vs.U8
set_option maxRecDepth 100000
set_option maxHeartbeats 4000000
/-- A byte at a place, within two numbers. -/
theorem fn_tail (s : Str) (at' : Nat) (lo hi : Int) (hs : s.length < 1000000) (ha : at' < 2000000) (hlo : 0 ≤ lo) (hhi : 0 ≤ hi) : Fn G Tryz.prog k_ref14_tail [.str s, .int .i64 at', .int .u8 lo, .int .u8 hi] (.bool (tl s at' lo.toNat hi.toNat)) := by
  refine fn_intro hm ok_ref14_tail (by simp) ?_
  simp [c_ref14_tail, r_ref14_tail]
  refine brd (fun h => ?_) (fun h => ?_)
  · obtain ⟨c, hc⟩ : ∃ c, c = s[at'] := ⟨_, rfl⟩
    have hc' : s[at']? = some c := by rw [hc]; exact List.getElem?_eq_getElem h
    simp [hc']
    refine brd (fun h1 => ?_) (fun h1 => ?_)
    · simp [hc', tl]
      rw [Bool.eq_iff_iff]
      simp
      omega
    · simp [tl, hc']
      omega
  · have hc' : s[at']? = none := List.getElem?_eq_none (by omega)
    simp [tl, hc']
theorem fn_Size (s : Str) (i : Nat) (hs : s.length < 1000000) (hi : i < s.length) : Fn G Tryz.prog k_ref14_Size [.str s, .int .i64 i] (.int .i64 (sizeL (s.drop i))) := by
  refine fn_intro hm ok_ref14_Size (by simp) ?_
  obtain ⟨c, hc⟩ : ∃ c, s[i] = c := ⟨_, rfl⟩
  have hd : s.drop i = c :: s.drop (i + 1) := by rw [← hc]; exact List.drop_eq_getElem_cons hi
  have hlt := u8_lt c
  have t1 : ∀ k lo hi, tl (s.drop (i + 1)) k lo hi = tl s (i + 1 + k) lo hi := fun k lo hi => by unfold tl; rw [List.getElem?_drop]
  have T1 := fun lo hi h1 h2 => fn_tail s (i + 1) lo hi hs (by omega) h1 h2
  have T2 := fn_tail s (i + 2) 128 191 hs (by omega) (by omega) (by omega)
  have T3 := fn_tail s (i + 3) 128 191 hs (by omega) (by omega) (by omega)
  rw [hd]
  simp only [sizeL, t1, lo1, hi1, Nat.add_zero, Nat.add_assoc, Nat.reduceAdd]
  simp only [Int.cast_ofNat_Int, Int.natCast_add] at T1 T2 T3
  have hcase : c.toNat < 128 ∨ (128 ≤ c.toNat ∧ c.toNat < 194) ∨ (194 ≤ c.toNat ∧ c.toNat ≤ 223) ∨ c.toNat = 224 ∨ c.toNat = 237 ∨ (225 ≤ c.toNat ∧ c.toNat ≤ 239 ∧ c.toNat ≠ 237) ∨ c.toNat = 240 ∨ c.toNat = 244 ∨ (241 ≤ c.toNat ∧ c.toNat ≤ 243) ∨ 245 ≤ c.toNat := by omega
  clear hd
  rcases hcase with h | h | h | h | h | h | h | h | h | h
  · simp (disch := omega) [c_ref14_Size, r_ref14_Size, hc, br_yes, br_no, wrap_i64, if_pos, if_neg]
  · simp (disch := omega) [c_ref14_Size, r_ref14_Size, hc, br_yes, br_no, wrap_i64, if_pos, if_neg]
  · cases h1 : tl s (i + 1) 128 191
    all_goals
      simp (disch := omega) [c_ref14_Size, r_ref14_Size, hc, br_yes, br_no, wrap_i64, if_pos, if_neg]
      refine callW_imm (T1 128 191 (by omega) (by omega)) ?_
      simp (disch := omega) [br_yes, br_no, wrap_i64, if_pos, if_neg, h1]
  · cases h1 : tl s (i + 1) 160 191
    · simp (disch := omega) [c_ref14_Size, r_ref14_Size, hc, br_yes, br_no, wrap_i64, if_pos, if_neg]
      refine callW_imm (T1 160 191 (by omega) (by omega)) ?_
      simp (disch := omega) [br_yes, br_no, wrap_i64, if_pos, if_neg, h1]
    · cases h2 : tl s (i + 2) 128 191
      all_goals
        simp (disch := omega) [c_ref14_Size, r_ref14_Size, hc, br_yes, br_no, wrap_i64, if_pos, if_neg]
        refine callW_imm (T1 160 191 (by omega) (by omega)) ?_
        simp (disch := omega) [br_yes, br_no, wrap_i64, if_pos, if_neg, h1]
        refine callW_imm T2 ?_
        simp (disch := omega) [br_yes, br_no, wrap_i64, if_pos, if_neg, h1, h2]
  · cases h1 : tl s (i + 1) 128 159
    · simp (disch := omega) [c_ref14_Size, r_ref14_Size, hc, br_yes, br_no, wrap_i64, if_pos, if_neg]
      refine callW_imm (T1 128 159 (by omega) (by omega)) ?_
      simp (disch := omega) [br_yes, br_no, wrap_i64, if_pos, if_neg, h1]
    · cases h2 : tl s (i + 2) 128 191
      all_goals
        simp (disch := omega) [c_ref14_Size, r_ref14_Size, hc, br_yes, br_no, wrap_i64, if_pos, if_neg]
        refine callW_imm (T1 128 159 (by omega) (by omega)) ?_
        simp (disch := omega) [br_yes, br_no, wrap_i64, if_pos, if_neg, h1]
        refine callW_imm T2 ?_
        simp (disch := omega) [br_yes, br_no, wrap_i64, if_pos, if_neg, h1, h2]
  · cases h1 : tl s (i + 1) 128 191
    · simp (disch := omega) [c_ref14_Size, r_ref14_Size, hc, br_yes, br_no, wrap_i64, if_pos, if_neg]
      refine callW_imm (T1 128 191 (by omega) (by omega)) ?_
      simp (disch := omega) [br_yes, br_no, wrap_i64, if_pos, if_neg, h1]
    · cases h2 : tl s (i + 2) 128 191
      all_goals
        simp (disch := omega) [c_ref14_Size, r_ref14_Size, hc, br_yes, br_no, wrap_i64, if_pos, if_neg]
        refine callW_imm (T1 128 191 (by omega) (by omega)) ?_
        simp (disch := omega) [br_yes, br_no, wrap_i64, if_pos, if_neg, h1]
        refine callW_imm T2 ?_
        simp (disch := omega) [br_yes, br_no, wrap_i64, if_pos, if_neg, h1, h2]
  · cases h1 : tl s (i + 1) 144 191
    · simp (disch := omega) [c_ref14_Size, r_ref14_Size, hc, br_yes, br_no, wrap_i64, if_pos, if_neg]
      refine callW_imm (T1 144 191 (by omega) (by omega)) ?_
      simp (disch := omega) [br_yes, br_no, wrap_i64, if_pos, if_neg, h1]
    · cases h2 : tl s (i + 2) 128 191
      · simp (disch := omega) [c_ref14_Size, r_ref14_Size, hc, br_yes, br_no, wrap_i64, if_pos, if_neg]
        refine callW_imm (T1 144 191 (by omega) (by omega)) ?_
        simp (disch := omega) [br_yes, br_no, wrap_i64, if_pos, if_neg, h1]
        refine callW_imm T2 ?_
        simp (disch := omega) [br_yes, br_no, wrap_i64, if_pos, if_neg, h1, h2]
      · cases h3 : tl s (i + 3) 128 191
        all_goals
          simp (disch := omega) [c_ref14_Size, r_ref14_Size, hc, br_yes, br_no, wrap_i64, if_pos, if_neg]
          refine callW_imm (T1 144 191 (by omega) (by omega)) ?_
          simp (disch := omega) [br_yes, br_no, wrap_i64, if_pos, if_neg, h1]
          refine callW_imm T2 ?_
          simp (disch := omega) [br_yes, br_no, wrap_i64, if_pos, if_neg, h1, h2]
          refine callW_imm T3 ?_
          simp (disch := omega) [br_yes, br_no, wrap_i64, if_pos, if_neg, h1, h2, h3]
  · cases h1 : tl s (i + 1) 128 143
    · simp (disch := omega) [c_ref14_Size, r_ref14_Size, hc, br_yes, br_no, wrap_i64, if_pos, if_neg]
      refine callW_imm (T1 128 143 (by omega) (by omega)) ?_
      simp (disch := omega) [br_yes, br_no, wrap_i64, if_pos, if_neg, h1]
    · cases h2 : tl s (i + 2) 128 191
      · simp (disch := omega) [c_ref14_Size, r_ref14_Size, hc, br_yes, br_no, wrap_i64, if_pos, if_neg]
        refine callW_imm (T1 128 143 (by omega) (by omega)) ?_
        simp (disch := omega) [br_yes, br_no, wrap_i64, if_pos, if_neg, h1]
        refine callW_imm T2 ?_
        simp (disch := omega) [br_yes, br_no, wrap_i64, if_pos, if_neg, h1, h2]
      · cases h3 : tl s (i + 3) 128 191
        all_goals
          simp (disch := omega) [c_ref14_Size, r_ref14_Size, hc, br_yes, br_no, wrap_i64, if_pos, if_neg]
          refine callW_imm (T1 128 143 (by omega) (by omega)) ?_
          simp (disch := omega) [br_yes, br_no, wrap_i64, if_pos, if_neg, h1]
          refine callW_imm T2 ?_
          simp (disch := omega) [br_yes, br_no, wrap_i64, if_pos, if_neg, h1, h2]
          refine callW_imm T3 ?_
          simp (disch := omega) [br_yes, br_no, wrap_i64, if_pos, if_neg, h1, h2, h3]
  · cases h1 : tl s (i + 1) 128 191
    · simp (disch := omega) [c_ref14_Size, r_ref14_Size, hc, br_yes, br_no, wrap_i64, if_pos, if_neg]
      refine callW_imm (T1 128 191 (by omega) (by omega)) ?_
      simp (disch := omega) [br_yes, br_no, wrap_i64, if_pos, if_neg, h1]
    · cases h2 : tl s (i + 2) 128 191
      · simp (disch := omega) [c_ref14_Size, r_ref14_Size, hc, br_yes, br_no, wrap_i64, if_pos, if_neg]
        refine callW_imm (T1 128 191 (by omega) (by omega)) ?_
        simp (disch := omega) [br_yes, br_no, wrap_i64, if_pos, if_neg, h1]
        refine callW_imm T2 ?_
        simp (disch := omega) [br_yes, br_no, wrap_i64, if_pos, if_neg, h1, h2]
      · cases h3 : tl s (i + 3) 128 191
        all_goals
          simp (disch := omega) [c_ref14_Size, r_ref14_Size, hc, br_yes, br_no, wrap_i64, if_pos, if_neg]
          refine callW_imm (T1 128 191 (by omega) (by omega)) ?_
          simp (disch := omega) [br_yes, br_no, wrap_i64, if_pos, if_neg, h1]
          refine callW_imm T2 ?_
          simp (disch := omega) [br_yes, br_no, wrap_i64, if_pos, if_neg, h1, h2]
          refine callW_imm T3 ?_
          simp (disch := omega) [br_yes, br_no, wrap_i64, if_pos, if_neg, h1, h2, h3]
  · simp (disch := omega) [c_ref14_Size, r_ref14_Size, hc, br_yes, br_no, wrap_i64, if_pos, if_neg]
end Go.Vs.YthcljcjkfhiicaaGreatDoor
namespace Go.Vs.YthcljcjkfhiicaaGreatDoor
set_option linter.unusedSimpArgs false
set_option linter.unusedVariables false
open Go.Proofs Go.Vs.U8
set_option maxRecDepth 100000
set_option maxHeartbeats 4000000
theorem fn_slIndexByte (s : Str) (c : UInt8) : Fn G Tryz.prog k_internal_stringslite_IndexByte [.str s, .int .u8 c.toNat] (.int .i64 (idxB s c)) := by
  refine fn_intro hm ok_internal_stringslite_IndexByte (by simp) ?_
  simp [c_internal_stringslite_IndexByte, r_internal_stringslite_IndexByte]
  refine callW_imm (fn_IndexByteString s c) ?_
  simp
theorem fn_IndexByte (s : Str) (c : UInt8) : Fn G Tryz.prog k_strings_IndexByte [.str s, .int .u8 c.toNat] (.int .i64 (idxB s c)) := by
  refine fn_intro hm ok_strings_IndexByte (by simp) ?_
  simp [c_strings_IndexByte, r_strings_IndexByte]
  refine callW_imm (fn_slIndexByte s c) ?_
  simp
theorem oddAt_cons (c : UInt8) (r : Str) : oddAt (c :: r) = (sizeL (c :: r) == 0 || (decide (c.toNat < 32) && !decide (c.toNat = 9)) || decide (c.toNat = 127)) := rfl
theorem fn_rOdd (s : Str) (hs : s.length < 1000000) : Fn G Tryz.prog k_ref14_Odd [.str s] (.int .i64 (oddI (odd s))) := by
  refine fn_intro hm ok_ref14_Odd (by simp) ?_
  simp [c_ref14_Odd, r_ref14_Odd]
  refine loopU hm [] (fun i : Nat => [(3, .val (.int .i64 i))]) (fun _ => []) (fun i => i ≤ s.length ∧ odd s = (odd (s.drop i)).map (· + i)) (fun i => s.length - i) 0 ⟨by omega, by simp⟩ ?_ ?_
  · simp
    exact weak_drop rfl rfl (by simp [EnvLe, getE, look]) (by simp [ObLe, look]) (by simp [roOk])
  rintro i ⟨hi, ho⟩
  simp
  refine brd (fun h => ?_) (fun h => ?_)
  · have hS := fn_Size s i hs h
    have hodd := odd_at h ho
    obtain ⟨c, hc⟩ : ∃ c, s[i] = c := ⟨_, rfl⟩
    have hd : s.drop i = c :: s.drop (i + 1) := by rw [← hc]; exact List.drop_eq_getElem_cons h
    have hle := sizeL_le (s.drop i)
    rw [List.length_drop] at hle
    obtain ⟨z, hz⟩ : ∃ z, sizeL (s.drop i) = z := ⟨_, rfl⟩
    have ha := oddAt_cons c (s.drop (i + 1))
    rw [← hd, hz] at ha
    rw [hz] at hS hodd hle
    have hlt := u8_lt c
    clear hd
    simp
    refine callW_imm hS ?_
    simp
    refine brd (fun h0 => ?_) (fun h0 => ?_)
    · have : oddAt (s.drop i) = true := by rw [ha]; simp; omega
      simp [hodd, this, oddI]
    · have go : ¬ ((c.toNat < 32 ∧ c.toNat ≠ 9) ∨ c.toNat = 127) → odd s = (odd (s.drop (i + z))).map (· + (i + z)) := by
        intro h1
        have : oddAt (s.drop i) = false := by
          rw [ha]; simp
          refine ⟨⟨by omega, by omega⟩, by omega⟩
        rw [if_neg (by simp [this])] at hodd
        exact hodd
      have ret : (c.toNat < 32 ∧ c.toNat ≠ 9) ∨ c.toNat = 127 → oddI (odd s) = i := by
        intro h1
        have : oddAt (s.drop i) = true := by rw [ha]; simp; omega
        simp [hodd, this, oddI]
      clear hodd ho ha
      by_cases h1 : (c.toNat < 32 ∧ c.toNat ≠ 9) ∨ c.toNat = 127
      · have hr := ret h1
        have h1' : (c.toNat < 32 ∧ c.toNat ≠ 9) ∨ (¬ c.toNat < 32 ∧ c.toNat = 127) := by omega
        rcases h1' with h1 | h1 <;> simp (disch := omega) [hc, br_no, br_yes, hr]
      · have hg := go h1
        have h1' : (c.toNat < 32 ∧ c.toNat = 9) ∨ (¬ c.toNat < 32 ∧ c.toNat ≠ 127) := by omega
        rcases h1' with h1 | h1
        all_goals
          simp (disch := omega) [hc, br_no, br_yes]
          refine callW_imm hS ?_
          simp (disch := omega) [wrap_i64]
          refine loopEnd (i + z) ⟨by omega, hg⟩ (by omega) ?_
          simp
          exact weak_drop rfl rfl (by simp [EnvLe, getE, look]) (by simp [ObLe, look]) (by simp [roOk])
  · obtain rfl : i = s.length := by omega
    simp [ho, oddI]
theorem fn_broken (s : Str) (a : Nat) (hs : s.length < 1000000) (ha : a < s.length) : Fn G Tryz.prog k_utf_broken [.str s, .int .i64 a, .int .i32 (dec (s.drop a)).1] (.bool (decide ((dec (s.drop a)) = (65533, 1)))) := by
  refine fn_intro hm ok_utf_broken (by simp) ?_
  have hD := fn_DecodeRune (s.drop a) (by intro e; have := congrArg List.length e; simp at this; omega)
  obtain ⟨⟨r, k⟩, hk⟩ : ∃ p, dec (s.drop a) = p := ⟨_, rfl⟩
  rw [hk] at hD ⊢
  by_cases h : r = 65533
  · subst h
    simp (disch := omega) [c_utf_broken, r_utf_broken, br_yes, br_no]
    refine ⟨by omega, ?_⟩
    refine callW_imm hD ?_
    simp
    omega
  · simp (disch := omega) [c_utf_broken, r_utf_broken, br_yes, br_no, h]
theorem fn_Odd (s : Str) (hs : s.length < 1000000) : Fn G Tryz.prog k_utf_Odd [.str s] (.int .i64 (oddI (odd s))) := by
  refine fn_intro hm ok_utf_Odd (by simp) ?_
  simp [c_utf_Odd, r_utf_Odd]
  refine loopU hm [] (fun i : Nat => []) (fun i => [(6, .iter s i)]) (fun i => i ≤ s.length ∧ odd s = (odd (s.drop i)).map (· + i)) (fun i => s.length - i) 0 ⟨by omega, by simp⟩ ?_ ?_
  · simp
    exact weak_drop rfl rfl (by simp [EnvLe, getE, look]) (by simp [ObLe, look]) (by simp [roOk])
  rintro i ⟨hi, ho⟩
  simp
  by_cases h : i < s.length
  · have hodd := odd_at h ho
    have hB := fn_broken s i hs h
    obtain ⟨c, hc⟩ : ∃ c, s[i] = c := ⟨_, rfl⟩
    have hd : s.drop i = c :: s.drop (i + 1) := by rw [← hc]; exact List.drop_eq_getElem_cons h
    have hle := sizeL_le (s.drop i)
    rw [List.length_drop] at hle
    have hcase := dec_sizeL c (s.drop (i + 1))
    have ha := oddAt_cons c (s.drop (i + 1))
    rw [← hd] at hcase ha
    have hlt := u8_lt c
    have hdd := decode_drop s i (by omega)
    clear hd ho
    obtain ⟨z, hz⟩ : ∃ z, sizeL (s.drop i) = z := ⟨_, rfl⟩
    obtain ⟨⟨r, k⟩, hk⟩ : ∃ p, dec (s.drop i) = p := ⟨_, rfl⟩
    rw [hz] at hodd hle hcase ha
    rw [hk] at hcase hB hdd
    simp only [Prod.mk.injEq] at hcase hB
    have ret : oddAt (s.drop i) = true → oddI (odd s) = i := fun h1 => by simp [hodd, h1, oddI]
    have go : oddAt (s.drop i) = false → odd s = (odd (s.drop (i + z))).map (· + (i + z)) := fun h1 => by
      rw [if_neg (by simp [h1])] at hodd
      exact hodd
    clear hodd
    rcases hcase with ⟨h1, ⟨rfl, rfl⟩, rfl⟩ | ⟨h1, rfl, rfl, rfl⟩ | ⟨h1, h2, h3, rfl⟩
    · have hnb : ¬ (c.toNat = 65533 ∧ 1 = 1) := by omega
      rw [decide_eq_false hnb] at hB
      by_cases h2 : (c.toNat < 32 ∧ c.toNat ≠ 9) ∨ c.toNat = 127
      · have hr := ret (by rw [ha]; simp; omega)
        have h2' : (c.toNat < 32 ∧ c.toNat ≠ 9) ∨ (¬ c.toNat < 32 ∧ c.toNat = 127) := by omega
        rcases h2' with h2 | h2
        all_goals
          simp [h, hdd]
          refine callW_imm hB ?_
          simp (disch := omega) [br_no, br_yes, hr]
      · have hg := go (by rw [ha]; simp; omega)
        have h2' : (c.toNat < 32 ∧ c.toNat = 9) ∨ (¬ c.toNat < 32 ∧ c.toNat ≠ 127) := by omega
        rcases h2' with h2 | h2
        all_goals
          simp [h, hdd]
          refine callW_imm hB ?_
          simp (disch := omega) [br_no, br_yes]
          refine loopEnd (i + 1) ⟨by omega, hg⟩ (by omega) ?_
          simp
          exact weak_drop rfl rfl (by simp [EnvLe, getE, look]) (by simp [ObLe, look]) (by simp [roOk])
    · have hr := ret (by rw [ha]; simp)
      simp [h, hdd]
      refine callW_imm hB ?_
      simp [hr]
    · have hg := go (by rw [ha]; simp; omega)
      have hnb : ¬ (r = 65533 ∧ k = 1) := by omega
      rw [decide_eq_false hnb] at hB
      simp [h, hdd]
      refine callW_imm hB ?_
      simp (disch := omega) [br_no, br_yes]
      refine loopEnd (i + k) ⟨by omega, hg⟩ (by omega) ?_
      simp
      exact weak_drop rfl rfl (by simp [EnvLe, getE, look]) (by simp [ObLe, look]) (by simp [roOk])
  · obtain rfl : i = s.length := by omega
    have ho' : odd s = none := by rw [ho, List.drop_length]; rfl
    simp [ho', oddI]
theorem sum_take_bd {ps : List Int} (h : ∀ p ∈ ps, -1000000 < p ∧ p < 1000000) : ∀ k : Nat, -1000000 * (k : Int) ≤ (ps.take k).sum ∧ (ps.take k).sum ≤ 1000000 * (k : Int) := by
  intro k
  induction k with
  | zero => simp
  | succ k ih =>
    by_cases hk : k < ps.length
    · rw [List.take_succ_eq_append_getElem hk, List.sum_append]
      have := h _ (List.getElem_mem hk)
      simp
      omega
    · rw [List.take_of_length_le (by omega)] at ih ⊢
      omega
theorem fn_walk (n : Int) (ps : List Int) (hp : ∀ p ∈ ps, -1000000 < p ∧ p < 1000000) (hl : ps.length < 1000) : Fn G Tryz.prog k_fault_walk [errIV n ps] (.tuple [.int .i64 ps.sum, .int .i64 ps.length]) := by
  refine fn_intro hm ok_fault_walk (by simp) ?_
  simp [c_fault_walk, r_fault_walk]
  refine loopU hm [] (fun k : Nat => [(0, .val (errIV n (ps.drop k))), (4, .val (.int .i64 (ps.take k).sum)), (5, .val (.int .i64 k))]) (fun _ => []) (fun k => k ≤ ps.length) (fun k => ps.length - k) 0 (by omega) ?_ ?_
  · simp
    exact weak_drop rfl rfl (by simp [EnvLe, getE, look]) (by simp [ObLe, look]) (by simp [roOk])
  intro k hk
  have hb := sum_take_bd hp k
  by_cases h : k < ps.length
  · have hd : ps.drop k = ps[k] :: ps.drop (k + 1) := List.drop_eq_getElem_cons h
    have ht : (ps.take (k + 1)).sum = (ps.take k).sum + ps[k] := by rw [List.take_succ_eq_append_getElem h, List.sum_append]; simp
    have hpk := hp _ (List.getElem_mem h)
    obtain ⟨p, hpe⟩ : ∃ p, ps[k] = p := ⟨_, rfl⟩
    rw [hpe] at hd ht hpk
    obtain ⟨t, v, hv⟩ := errIV_not_nil n (ps.drop (k + 1))
    have hA := fnM_As_pf .nilp [.int .i64 p, errIV n (ps.drop (k + 1))]
    rw [hd]
    simp only [errIV]
    simp
    refine callM [(1000, 6)] [] hA rfl rfl ⟨rfl, trivial⟩ ⟨[], [], rfl, ⟨rfl, rfl⟩, rfl⟩ rfl ?_
    simp (disch := omega) [br_yes, br_no, wrap_i64, wrap_u8, wrap_i32, List.getElem?_cons_zero, List.getElem?_cons_succ]
    refine loopEnd (k + 1) (by omega) (by omega) ?_
    simp [ht]
    exact weak_drop rfl rfl (by simp [EnvLe, getE, look]) (by simp [ObLe, look]) (by simp [roOk])
  · obtain rfl : k = ps.length := by omega
    have hA := fnM_As_no n .nilp
    simp [errIV]
    refine callM [(1000, 6)] [] hA rfl rfl ⟨rfl, trivial⟩ ⟨[], [], rfl, ⟨rfl, rfl⟩, rfl⟩ rfl ?_
    simp
theorem fn_Place_nil : Fn G Tryz.prog k_fault_Place [.nili] (.int .i64 0) := by
  have hw : Fn G Tryz.prog k_fault_walk [.nili] (.tuple [.int .i64 0, .int .i64 0]) := by
    refine fn_intro hm ok_fault_walk (by simp) ?_
    simp [c_fault_walk, r_fault_walk]
    refine loopU hm [] (fun k : Nat => []) (fun _ => []) (fun k => True) (fun k => 0) 0 trivial ?_ ?_
    · simp
      exact weak_drop rfl rfl (by simp [EnvLe, getE, look]) (by simp [ObLe, look]) (by simp [roOk])
    intro k _
    simp
  refine fn_intro hm ok_fault_Place (by simp) ?_
  simp [c_fault_Place, r_fault_Place]
  refine callW_imm hw ?_
  simp
theorem fn_Place (n : Int) (ps : List Int) (hp : ∀ p ∈ ps, -1000000 < p ∧ p < 1000000) (hl : ps.length < 1000) : Fn G Tryz.prog k_fault_Place [errIV n ps] (.int .i64 ps.sum) := by
  refine fn_intro hm ok_fault_Place (by simp) ?_
  simp [c_fault_Place, r_fault_Place]
  refine callW_imm (fn_walk n ps hp hl) ?_
  simp
theorem fn_Depth (n : Int) (ps : List Int) (hp : ∀ p ∈ ps, -1000000 < p ∧ p < 1000000) (hl : ps.length < 1000) : Fn G Tryz.prog k_fault_Depth [errIV n ps] (.int .i64 ps.length) := by
  refine fn_intro hm ok_fault_Depth (by simp) ?_
  simp [c_fault_Depth, r_fault_Depth]
  refine callW_imm (fn_walk n ps hp hl) ?_
  simp
end Go.Vs.YthcljcjkfhiicaaGreatDoor
