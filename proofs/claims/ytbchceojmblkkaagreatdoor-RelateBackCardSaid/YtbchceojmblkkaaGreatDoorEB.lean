/- The walk of relate, part 1: UIDs, and kinds. No conditions. -/
import Derived.Test.YtbchceojmblkkaaGreatDoorEA
import Derived.Test.YtbchceojmblkkaaGreatDoorND
import Derived.Test.YtbchceojmblkkaaGreatDoorNI
set_option linter.unusedVariables false
set_option linter.unusedSimpArgs false
namespace Go.Vs.YtbchceojmblkkaaGreatDoor
set_option linter.unusedSimpArgs false
set_option linter.unusedVariables false
open Go.Proofs Go.Vs.U8 Go.Vs.Pa Go.Vs.Nu Go.Lib
set_option maxRecDepth 100000
set_option maxHeartbeats 8000000
theorem fn_isDigit (c : UInt8) : Fn G Tryz.prog k_relate_isDigit [.int .u8 c.toNat] (.bool (dig c)) := by
  refine fn_intro hm ok_relate_isDigit (by simp) ?_
  simp [c_relate_isDigit, r_relate_isDigit]
  by_cases h1 : 48 ≤ c.toNat
  · by_cases h2 : c.toNat ≤ 57
    · have hd : dig c = true := by simp [dig]; omega
      rw [hd]
      simp (disch := omega) [br_yes, br_no, wrap_i64, wrap_u8, wrap_i32, List.getElem?_cons_zero, List.getElem?_cons_succ, h1, h2]
      omega
    · have hd : dig c = false := by simp [dig]; omega
      rw [hd]
      simp (disch := omega) [br_yes, br_no, wrap_i64, wrap_u8, wrap_i32, List.getElem?_cons_zero, List.getElem?_cons_succ, h1, h2]
      omega
  · have hd : dig c = false := by simp [dig]; omega
    rw [hd]
    simp (disch := omega) [br_yes, br_no, wrap_i64, wrap_u8, wrap_i32, List.getElem?_cons_zero, List.getElem?_cons_succ, h1]
theorem ix_signs (c : UInt8) : 0 ≤ idxB [45, 46, 95, 64] c ↔ (c.toNat = 45 ∨ c.toNat = 46 ∨ c.toNat = 95 ∨ c.toNat = 64) := by
  have h := idxB_neg [45, 46, 95, 64] c
  have e : c ∈ ([45, 46, 95, 64] : Str) ↔ (c.toNat = 45 ∨ c.toNat = 46 ∨ c.toNat = 95 ∨ c.toNat = 64) := by
    simp only [List.mem_cons, List.not_mem_nil, or_false]
    constructor
    · rintro (rfl | rfl | rfl | rfl) <;> simp
    · rintro (h | h | h | h)
      · exact .inl (UInt8.toNat_inj.1 h)
      · exact .inr (.inl (UInt8.toNat_inj.1 h))
      · exact .inr (.inr (.inl (UInt8.toNat_inj.1 h)))
      · exact .inr (.inr (.inr (UInt8.toNat_inj.1 h)))
  rw [← e]
  by_cases hc : c ∈ ([45, 46, 95, 64] : Str)
  · have : ¬ idxB [45, 46, 95, 64] c < 0 := fun h' => (h.1 h') hc
    exact ⟨fun _ => hc, fun _ => by omega⟩
  · have : idxB [45, 46, 95, 64] c < 0 := h.2 hc
    exact ⟨fun h' => by omega, fun h' => absurd h' hc⟩
theorem fn_UID (s : Str) (hs : s.length < 1000000) : Fn G Tryz.prog k_relate_UID [.str s] (.bool (uidB s)) := by
  refine fn_intro hm ok_relate_UID (by simp) ?_
  simp [c_relate_UID, r_relate_UID]
  by_cases h0 : s = []
  · have : uidB s = false := by rw [h0]; rfl
    rw [this]
    simp (disch := omega) [br_yes, br_no, wrap_i64, wrap_u8, wrap_i32, List.getElem?_cons_zero, List.getElem?_cons_succ, h0]
  · by_cases h1 : 24 < s.length
    · have : uidB s = false := by
        cases e : uidB s with
        | false => rfl
        | true => have := (uidB_iff s).1 e; omega
      rw [this]
      simp (disch := omega) [br_yes, br_no, wrap_i64, wrap_u8, wrap_i32, List.getElem?_cons_zero, List.getElem?_cons_succ, h0]
    · have hp : 1 ≤ s.length := List.length_pos_iff.2 h0
      have hR : uidB s = s.all uidc := by
        have h2 : s.length ≤ 24 := by omega
        unfold uidB
        rw [decide_eq_true hp, decide_eq_true h2]
        rfl
      rw [hR]
      simp (disch := omega) [br_yes, br_no, wrap_i64, wrap_u8, wrap_i32, List.getElem?_cons_zero, List.getElem?_cons_succ, h0]
      refine loopU hm [] (fun i : Nat => [(3, .val (.int .i64 i))]) (fun _ => []) (fun i => i ≤ s.length ∧ (s.drop i).all uidc = s.all uidc) (fun i => s.length - i) 0 ⟨by omega, by simp⟩ ?_ ?_
      · simp
        exact weak_drop rfl rfl (by simp [EnvLe, getE, look]) (by simp [ObLe, look]) (by simp [roOk])
      rintro i ⟨hi, hc⟩
      simp
      by_cases h : i < s.length
      · obtain ⟨c, hx⟩ : ∃ c, s[i] = c := ⟨_, rfl⟩
        have hd : s.drop i = c :: s.drop (i + 1) := by rw [← hx]; exact List.drop_eq_getElem_cons h
        rw [hd, List.all_cons] at hc
        have next : uidc c = true → (s.drop (i + 1)).all uidc = s.all uidc := fun e => by rw [← hc, e, Bool.true_and]
        have bad : uidc c = false → s.all uidc = false := fun e => by rw [← hc, e]; rfl
        have hD := fn_isDigit c
        have hI := fn_IndexByte [45, 46, 95, 64] c
        have hix := ix_signs c
        obtain ⟨q, hq⟩ : ∃ q, idxB [45, 46, 95, 64] c = q := ⟨_, rfl⟩
        rw [hq] at hI hix
        have hreg : (65 ≤ c.toNat ∧ c.toNat ≤ 90) ∨ (97 ≤ c.toNat ∧ c.toNat ≤ 122) ∨ c.toNat < 65 ∨ (90 < c.toNat ∧ c.toNat < 97) ∨ 122 < c.toNat := by omega
        rcases hreg with r | r | r | r | r
        · have hu : uidc c = true := by simp [uidc]; omega
          simp (disch := omega) [br_yes, br_no, wrap_i64, wrap_u8, wrap_i32, List.getElem?_cons_zero, List.getElem?_cons_succ, hx]
          refine loopEnd (i + 1) ⟨by omega, next hu⟩ (by omega) ?_
          simp
          exact weak_drop rfl rfl (by simp [EnvLe, getE, look]) (by simp [ObLe, look]) (by simp [roOk])
        · have hu : uidc c = true := by simp [uidc]; omega
          simp (disch := omega) [br_yes, br_no, wrap_i64, wrap_u8, wrap_i32, List.getElem?_cons_zero, List.getElem?_cons_succ, hx]
          refine loopEnd (i + 1) ⟨by omega, next hu⟩ (by omega) ?_
          simp
          exact weak_drop rfl rfl (by simp [EnvLe, getE, look]) (by simp [ObLe, look]) (by simp [roOk])
        · simp (disch := omega) [br_yes, br_no, wrap_i64, wrap_u8, wrap_i32, List.getElem?_cons_zero, List.getElem?_cons_succ, hx]
          refine callW_imm hD ?_
          by_cases hdg : dig c = true
          · have hu : uidc c = true := dig_uidc hdg
            simp (disch := omega) [br_yes, br_no, wrap_i64, wrap_u8, wrap_i32, List.getElem?_cons_zero, List.getElem?_cons_succ, hdg]
            refine loopEnd (i + 1) ⟨by omega, next hu⟩ (by omega) ?_
            simp
            exact weak_drop rfl rfl (by simp [EnvLe, getE, look]) (by simp [ObLe, look]) (by simp [roOk])
          · have hdg' : dig c = false := by simpa using hdg
            have hn : ¬ (48 ≤ c.toNat ∧ c.toNat ≤ 57) := fun e => hdg (by simp [dig]; omega)
            simp (disch := omega) [br_yes, br_no, wrap_i64, wrap_u8, wrap_i32, List.getElem?_cons_zero, List.getElem?_cons_succ, hdg']
            refine callW_imm hI ?_
            by_cases hqs : 0 ≤ q
            · have hs4 := hix.1 hqs
              have hu : uidc c = true := by simp [uidc]; omega
              simp (disch := omega) [br_yes, br_no, wrap_i64, wrap_u8, wrap_i32, List.getElem?_cons_zero, List.getElem?_cons_succ]
              refine loopEnd (i + 1) ⟨by omega, next hu⟩ (by omega) ?_
              simp
              exact weak_drop rfl rfl (by simp [EnvLe, getE, look]) (by simp [ObLe, look]) (by simp [roOk])
            · have hs4 : ¬ (c.toNat = 45 ∨ c.toNat = 46 ∨ c.toNat = 95 ∨ c.toNat = 64) := fun e => hqs (hix.2 e)
              have hu : uidc c = false := by
                cases e : uidc c with
                | false => rfl
                | true => simp [uidc] at e; omega
              rw [bad hu]
              simp (disch := omega) [br_yes, br_no, wrap_i64, wrap_u8, wrap_i32, List.getElem?_cons_zero, List.getElem?_cons_succ]
        · have hdg' : dig c = false := by
            cases e : dig c with
            | false => rfl
            | true => simp [dig] at e; omega
          simp (disch := omega) [br_yes, br_no, wrap_i64, wrap_u8, wrap_i32, List.getElem?_cons_zero, List.getElem?_cons_succ, hx]
          refine callW_imm hD ?_
          simp (disch := omega) [br_yes, br_no, wrap_i64, wrap_u8, wrap_i32, List.getElem?_cons_zero, List.getElem?_cons_succ, hdg']
          refine callW_imm hI ?_
          by_cases hqs : 0 ≤ q
          · have hs4 := hix.1 hqs
            have hu : uidc c = true := by simp [uidc]; omega
            simp (disch := omega) [br_yes, br_no, wrap_i64, wrap_u8, wrap_i32, List.getElem?_cons_zero, List.getElem?_cons_succ]
            refine loopEnd (i + 1) ⟨by omega, next hu⟩ (by omega) ?_
            simp
            exact weak_drop rfl rfl (by simp [EnvLe, getE, look]) (by simp [ObLe, look]) (by simp [roOk])
          · have hs4 : ¬ (c.toNat = 45 ∨ c.toNat = 46 ∨ c.toNat = 95 ∨ c.toNat = 64) := fun e => hqs (hix.2 e)
            have hu : uidc c = false := by
              cases e : uidc c with
              | false => rfl
              | true => simp [uidc] at e; omega
            rw [bad hu]
            simp (disch := omega) [br_yes, br_no, wrap_i64, wrap_u8, wrap_i32, List.getElem?_cons_zero, List.getElem?_cons_succ]
        · have hdg' : dig c = false := by
            cases e : dig c with
            | false => rfl
            | true => simp [dig] at e; omega
          have hqs : q < 0 := by
            by_cases h0 : 0 ≤ q
            · have := hix.1 h0; omega
            · omega
          have hu : uidc c = false := by
            cases e : uidc c with
            | false => rfl
            | true => simp [uidc] at e; omega
          simp (disch := omega) [br_yes, br_no, wrap_i64, wrap_u8, wrap_i32, List.getElem?_cons_zero, List.getElem?_cons_succ, hx]
          refine callW_imm hD ?_
          simp (disch := omega) [br_yes, br_no, wrap_i64, wrap_u8, wrap_i32, List.getElem?_cons_zero, List.getElem?_cons_succ, hdg']
          refine callW_imm hI ?_
          rw [bad hu]
          simp (disch := omega) [br_yes, br_no, wrap_i64, wrap_u8, wrap_i32, List.getElem?_cons_zero, List.getElem?_cons_succ]
      · obtain rfl : i = s.length := by omega
        have : s.all uidc = true := by rw [← hc]; simp
        rw [this]
        simp (disch := omega) [br_yes, br_no, wrap_i64, wrap_u8, wrap_i32, List.getElem?_cons_zero, List.getElem?_cons_succ]
def dotted (s : Str) : Bool := decide (s.getLast? = some 46)
theorem dot_drop (s : Str) : s.drop (s.length - 1) = [46] ↔ s.getLast? = some 46 := by
  rcases List.eq_nil_or_concat s with rfl | ⟨l, x, rfl⟩
  · simp
  · simp
theorem fn_HasSuffix (s : Str) (hs : s.length < 1000000) : Fn G Tryz.prog k_internal_stringslite_HasSuffix [.str s, .str [46]] (.bool (dotted s)) := by
  refine fn_intro hm ok_internal_stringslite_HasSuffix (by simp) ?_
  simp [c_internal_stringslite_HasSuffix, r_internal_stringslite_HasSuffix]
  by_cases h : 1 ≤ s.length
  · obtain ⟨k, hk⟩ : ∃ k, s.length = k + 1 := ⟨s.length - 1, by omega⟩
    have e0 : (s.length : Int) - 1 = (k : Int) := by omega
    have hd := dot_drop s
    rw [show s.length - 1 = k by omega] at hd
    have hdk : dotted s = decide (s.drop k = [46]) := by unfold dotted; rw [decide_eq_decide]; exact hd.symm
    have htk : (s.drop k).take (s.length - k) = s.drop k := List.take_of_length_le (by rw [List.length_drop]; omega)
    rw [hdk]
    simp (disch := omega) [br_yes, br_no, wrap_i64, wrap_u8, wrap_i32, List.getElem?_cons_zero, List.getElem?_cons_succ, e0, htk]
    omega
  · have : s = [] := List.length_eq_zero_iff.1 (by omega)
    subst this
    simp (disch := omega) [br_yes, br_no, wrap_i64, wrap_u8, wrap_i32, List.getElem?_cons_zero, List.getElem?_cons_succ]
    rfl
theorem fn_slCutSuffix (s : Str) (hs : s.length < 1000000) : Fn G Tryz.prog k_internal_stringslite_CutSuffix [.str s, .str [46]] (.tuple [.str (if dotted s = true then s.dropLast else s), .bool (dotted s)]) := by
  refine fn_intro hm ok_internal_stringslite_CutSuffix (by simp) ?_
  have hH := fn_HasSuffix s hs
  simp [c_internal_stringslite_CutSuffix, r_internal_stringslite_CutSuffix]
  refine callW_imm hH ?_
  cases hd : dotted s with
  | false => simp (disch := omega) [br_yes, br_no, wrap_i64, wrap_u8, wrap_i32, List.getElem?_cons_zero, List.getElem?_cons_succ]
  | true =>
    have hl : 1 ≤ s.length := by
      cases s with
      | nil => simp [dotted] at hd
      | cons c r => simp
    have e0 : ((s.length : Int) - 1).toNat = s.length - 1 := by omega
    have e1 : s.take (s.length - 1) = s.dropLast := List.dropLast_eq_take.symm
    simp (disch := omega) [br_yes, br_no, wrap_i64, wrap_u8, wrap_i32, List.getElem?_cons_zero, List.getElem?_cons_succ, e0, e1]
    try omega
theorem fn_CutSuffix (s : Str) (hs : s.length < 1000000) : Fn G Tryz.prog k_strings_CutSuffix [.str s, .str [46]] (.tuple [.str (if dotted s = true then s.dropLast else s), .bool (dotted s)]) := by
  refine fn_intro hm ok_strings_CutSuffix (by simp) ?_
  simp [c_strings_CutSuffix, r_strings_CutSuffix]
  refine callW_imm (fn_slCutSuffix s hs) ?_
  simp
theorem fn_Base (s : Str) (hs : s.length < 1000000) : Fn G Tryz.prog k_relate_Base [.str s] (.str (baseS s)) := by
  refine fn_intro hm ok_relate_Base (by simp) ?_
  have hT := fn_TrimRight s hs
  have htl := trimD_len s
  have hC := fn_CutSuffix (trimD s) (by omega)
  have hU := fn_UID s hs
  obtain ⟨t, ht⟩ : ∃ t, trimD s = t := ⟨_, rfl⟩
  obtain ⟨R, hR⟩ : ∃ R, baseS s = R := ⟨_, rfl⟩
  rw [hR]
  unfold baseS at hR
  rw [ht] at hT htl hC hR
  simp [c_relate_Base, r_relate_Base]
  refine callW_imm hT ?_
  simp (disch := omega) [br_yes, br_no, wrap_i64, wrap_u8, wrap_i32, List.getElem?_cons_zero, List.getElem?_cons_succ]
  refine callW_imm hC ?_
  simp (disch := omega) [br_yes, br_no, wrap_i64, wrap_u8, wrap_i32, List.getElem?_cons_zero, List.getElem?_cons_succ]
  refine callW_imm hU ?_
  by_cases h1 : uidB s = true
  · by_cases h2 : t.length = s.length
    · rw [if_neg (fun h => h.2.1 h2)] at hR
      subst hR
      simp (disch := omega) [br_yes, br_no, wrap_i64, wrap_u8, wrap_i32, List.getElem?_cons_zero, List.getElem?_cons_succ, h1, h2]
    · cases h3 : dotted t with
      | false =>
        have h3' : ¬ t.getLast? = some 46 := by simpa [dotted] using h3
        rw [if_neg (fun h => h3' h.2.2.1)] at hR
        subst hR
        simp (disch := omega) [br_yes, br_no, wrap_i64, wrap_u8, wrap_i32, List.getElem?_cons_zero, List.getElem?_cons_succ, h1, h2]
      | true =>
        have h3' : t.getLast? = some 46 := by simpa [dotted] using h3
        by_cases h4 : t.dropLast = []
        · rw [if_neg (fun h => h.2.2.2 h4)] at hR
          subst hR
          simp (disch := omega) [br_yes, br_no, wrap_i64, wrap_u8, wrap_i32, List.getElem?_cons_zero, List.getElem?_cons_succ, h1, h2, h4]
        · rw [if_pos ⟨h1, h2, h3', h4⟩] at hR
          subst hR
          simp (disch := omega) [br_yes, br_no, wrap_i64, wrap_u8, wrap_i32, List.getElem?_cons_zero, List.getElem?_cons_succ, h1, h2, h4]
  · have h1' : uidB s = false := by simpa using h1
    rw [if_neg (fun h => h1 h.1)] at hR
    subst hR
    simp (disch := omega) [br_yes, br_no, wrap_i64, wrap_u8, wrap_i32, List.getElem?_cons_zero, List.getElem?_cons_succ, h1']
theorem fn_Numbered (s : Str) (n : Nat) (hs : s.length < 1000000) (hn : n < 1000000000) : Fn G Tryz.prog k_relate_Numbered [.str s, .int .i64 n] (.str (numS s n)) := by
  refine fn_intro hm ok_relate_Numbered (by simp) ?_
  have hI := fn_Itoa n (by omega) (by omega)
  have e : itoa (n : Int) = decDigits n := by unfold itoa; rw [if_neg (by omega)]; simp
  have hl := dec_len 8 n (by simpa using hn)
  rw [e] at hI
  simp [c_relate_Numbered, r_relate_Numbered]
  refine ⟨by omega, ?_⟩
  refine callW_imm hI ?_
  simp (disch := omega) [br_yes, br_no, wrap_i64, wrap_u8, wrap_i32, List.getElem?_cons_zero, List.getElem?_cons_succ, numS]
  omega
theorem fn_kindName (k : Int) : Fn G Tryz.prog k_relate_kindName [.int .u8 k] (.str (kindN k)) := by
  refine fn_intro hm ok_relate_kindName (by simp) ?_
  simp [c_relate_kindName, r_relate_kindName]
  unfold kindN
  by_cases h0 : k = 0
  · rw [if_pos h0]; simp (disch := omega) [br_yes, br_no, wrap_i64, wrap_u8, wrap_i32, List.getElem?_cons_zero, List.getElem?_cons_succ, h0]
  rw [if_neg h0]
  by_cases h1 : k = 1
  · rw [if_pos h1]; simp (disch := omega) [br_yes, br_no, wrap_i64, wrap_u8, wrap_i32, List.getElem?_cons_zero, List.getElem?_cons_succ, h0, h1]
  rw [if_neg h1]
  by_cases h2 : k = 2
  · rw [if_pos h2]; simp (disch := omega) [br_yes, br_no, wrap_i64, wrap_u8, wrap_i32, List.getElem?_cons_zero, List.getElem?_cons_succ, h0, h1, h2]
  rw [if_neg h2]
  simp (disch := omega) [br_yes, br_no, wrap_i64, wrap_u8, wrap_i32, List.getElem?_cons_zero, List.getElem?_cons_succ, h0, h1, h2]
theorem kindOf_at {u : Str} {i : Nat} (h : i < 4) (hn : ∀ j : Nat, j < i → kindN j ≠ u) (he : kindN i = u) : kinds.idxOf u = i := by
  have : i = 0 ∨ i = 1 ∨ i = 2 ∨ i = 3 := by omega
  subst he
  rcases this with rfl | rfl | rfl | rfl <;> decide
theorem kindOf_none {u : Str} (hn : ∀ j : Nat, j < 4 → kindN j ≠ u) : kinds.idxOf u = 4 := by
  have : u ∉ kinds := by
    intro h
    simp only [kinds, List.mem_cons, List.not_mem_nil, or_false] at h
    rcases h with h | h | h | h
    · exact hn 0 (by omega) (by rw [h]; rfl)
    · exact hn 1 (by omega) (by rw [h]; rfl)
    · exact hn 2 (by omega) (by rw [h]; rfl)
    · exact hn 3 (by omega) (by rw [h]; rfl)
  exact List.idxOf_eq_length this
theorem fn_kindOf (s : Str) (hs : s.length < 1000000) : Fn G Tryz.prog k_relate_kindOf [.str s] (.int .u8 (kindOf s)) := by
  refine fn_intro hm ok_relate_kindOf (by simp) ?_
  have hU := fn_Upper s hs
  unfold kindOf
  obtain ⟨u, hu⟩ : ∃ u, upper s = u := ⟨_, rfl⟩
  have hu2 : Pa.upper s = u := hu
  rw [hu] at hU
  simp [c_relate_kindOf, r_relate_kindOf]
  refine callW_imm hU ?_
  simp (disch := omega) [br_yes, br_no, wrap_i64, wrap_u8, wrap_i32, List.getElem?_cons_zero, List.getElem?_cons_succ]
  refine loopU hm [] (fun i : Nat => [(3, .val (.int .u8 i)), (0, .val (.str u))]) (fun _ => []) (fun i => i ≤ 4 ∧ ∀ j : Nat, j < i → kindN j ≠ u) (fun i => 4 - i) 0 ⟨by omega, fun j hj => by omega⟩ ?_ ?_
  · simp
    exact weak_drop rfl rfl (by simp [EnvLe, getE, look]) (by simp [ObLe, look]) (by simp [roOk])
  rintro i ⟨hi, hn⟩
  simp
  have hK := fn_kindName (i : Int)
  by_cases h : i < 4
  · simp (disch := omega) [br_yes, br_no, wrap_i64, wrap_u8, wrap_i32, List.getElem?_cons_zero, List.getElem?_cons_succ]
    refine callW_imm hK ?_
    by_cases he : kindN i = u
    · have := kindOf_at h hn he
      simp (disch := omega) [br_yes, br_no, wrap_i64, wrap_u8, wrap_i32, List.getElem?_cons_zero, List.getElem?_cons_succ, he]
      simp [hu, this]
    · simp (disch := omega) [br_yes, br_no, wrap_i64, wrap_u8, wrap_i32, List.getElem?_cons_zero, List.getElem?_cons_succ, he]
      refine loopEnd (i + 1) ⟨by omega, fun j hj => by
        by_cases e : j = i
        · rw [e]; exact he
        · exact hn j (by omega)⟩ (by omega) ?_
      simp
      exact weak_drop rfl rfl (by simp [EnvLe, getE, look]) (by simp [ObLe, look]) (by simp [roOk])
  · obtain rfl : i = 4 := by omega
    have := kindOf_none hn
    simp (disch := omega) [br_yes, br_no, wrap_i64, wrap_u8, wrap_i32, List.getElem?_cons_zero, List.getElem?_cons_succ]
    simp [hu, this]
end Go.Vs.YtbchceojmblkkaaGreatDoor
