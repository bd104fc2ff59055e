/- The walk of param, part 12: one value read. No conditions. -/
import Derived.Test.YtbchceojmblkkaaGreatDoorBM
set_option linter.unusedVariables false
set_option linter.unusedSimpArgs false
namespace Go.Vs.YtbchceojmblkkaaGreatDoor
set_option linter.unusedSimpArgs false
set_option linter.unusedVariables false
open Go.Proofs Go.Vs.U8 Go.Vs.Pa
set_option maxRecDepth 100000
set_option maxHeartbeats 4000000
/-- How many bytes a text begins with of which a thing is so. -/
def run (p : UInt8 → Bool) : Str → Nat
  | [] => 0
  | c :: r => if p c then run p r + 1 else 0
theorem run_le (p : UInt8 → Bool) (s : Str) : run p s ≤ s.length := by
  induction s with
  | nil => simp [run]
  | cons c r ih => simp only [run]; split <;> simp <;> omega
theorem run_at {p : UInt8 → Bool} {s : Str} {k : Nat} {c : UInt8} (h : k < s.length) (hc : s[k] = c) : run p (s.drop k) = if p c then run p (s.drop (k + 1)) + 1 else 0 := by
  rw [List.drop_eq_getElem_cons h, hc]; rfl
def notq (c : UInt8) : Bool := decide (c.toNat ≠ 34)
def plain (c : UInt8) : Bool := !stp c && notq c
theorem run_notq (r : Str) : (idxB r 34 = -1 ∧ run notq r = r.length) ∨ (idxB r 34 = run notq r ∧ run notq r < r.length) := by
  induction r with
  | nil => left; exact ⟨rfl, rfl⟩
  | cons c r ih =>
    by_cases h : c.toNat = 34
    · have hc : c = 34 := UInt8.toNat_inj.1 h
      right
      subst hc
      have : idxB (34 :: r) 34 = 0 := idxB_of (i := 0) rfl (by simp)
      rw [this]
      simp [run, notq]
    · have hn : notq c = true := by simp [notq, h]
      have hc : c ≠ 34 := fun e => h (by rw [e]; rfl)
      have hr : run notq (c :: r) = run notq r + 1 := by simp [run, hn]
      rw [hr]
      rcases idxB_cases r 34 with ⟨h1, h2⟩ | ⟨i, h1, h2, h3⟩
      · have e : idxB (c :: r) 34 = -1 := idxB_none (by simp [h2, Ne.symm hc])
        rw [h1] at ih
        rcases ih with ih | ih
        · left; rw [e]; exact ⟨rfl, by rw [ih.2]; rfl⟩
        · omega
      · have e : idxB (c :: r) 34 = ((i + 1 : Nat) : Int) := idxB_of (by simpa using h2) (by simp [Ne.symm hc, h3])
        rw [h1] at ih
        rcases ih with ih | ih
        · omega
        · right; rw [e]; refine ⟨by omega, by simp; omega⟩
/-- May a value end at a place? -/
def stopAt (s : Str) (k : Nat) : Bool := match s[k]? with
  | none => true
  | some c => stp c
theorem fn_stop (s : Str) (k : Nat) (hk : k ≤ s.length) (hs : s.length < 1000000) : Fn G Tryz.prog k_param_stop [.str s, .int .i64 k] (.bool (stopAt s k)) := by
  refine fn_intro hm ok_param_stop (by simp) ?_
  simp [c_param_stop, r_param_stop]
  by_cases h : k < s.length
  · obtain ⟨c, hc⟩ : ∃ c, s[k] = c := ⟨_, rfl⟩
    have hB := fn_IndexByte [44, 58, 59] c
    have hq := idxB_stops c
    have hne : ¬ (k : Int) = s.length := by omega
    have hr : stopAt s k = stp c := by simp [stopAt, List.getElem?_eq_getElem h, hc]
    rw [hr]
    have hd : decide (0 ≤ idxB [44, 58, 59] c) = stp c := by rw [Bool.eq_iff_iff, decide_eq_true_iff, hq]
    simp (disch := omega) [br_yes, br_no, wrap_i64, wrap_u8, wrap_i32, List.getElem?_cons_zero, List.getElem?_cons_succ, hc]
    refine callW_imm hB ?_
    simp [hd]
  · obtain rfl : k = s.length := by omega
    have hr : stopAt s s.length = true := by simp [stopAt]
    simp (disch := omega) [br_yes, br_no, wrap_i64, wrap_u8, wrap_i32, List.getElem?_cons_zero, List.getElem?_cons_succ, hr]
theorem odd_lt : ∀ (n : Nat) (l : Str), l.length ≤ n → ∀ k, odd l = some k → k < l.length
  | _, [], _, k, h => by simp at h
  | 0, c :: r, hn, _, _ => by simp at hn
  | n + 1, c :: r, hn, k, h => by
    rw [odd_step (by simp)] at h
    split at h
    · cases h; simp
    · next ho =>
      have h1 := oddAt_size (l := c :: r) (by simpa using ho) (by simp)
      have h2 := sizeL_le (c :: r)
      obtain ⟨j, hj, rfl⟩ := Option.map_eq_some_iff.1 h
      have := odd_lt n ((c :: r).drop (sizeL (c :: r))) (by rw [List.length_drop]; omega) j hj
      rw [List.length_drop] at this
      omega
theorem meant_len : ∀ (n : Nat) (s : Str), s.length ≤ n → (meant s).length ≤ s.length
  | _, [], _ => by simp [meant]
  | _, [c], _ => by simp [meant]
  | 0, c :: d :: r, h => by simp at h
  | n + 1, c :: d :: r, h => by
    have h1 := meant_len n r (by simp at h; omega)
    have h2 := meant_len n (d :: r) (by simp at h ⊢; omega)
    simp only [List.length_cons] at h2 ⊢
    simp only [meant]
    repeat' split
    all_goals simp only [List.length_cons]; omega
inductive Got where
  | no (e : Int) (p : Int)
  | ok (v : Str) (n : Nat)
def checked (raw : Str) (a f : Nat) : Got := match odd raw with
  | some k => .no 10 (f + k)
  | none => if 60 < (meant raw).length then .no 5 a else .ok (meant raw) 0
def checkedI : Got → IV
  | .no e p => .tuple [.str [], errIV e [p]]
  | .ok v _ => .tuple [.str v, .nili]
theorem fn_checked (raw : Str) (a f : Nat) (hr : raw.length < 1000000) (ha : a < 1000000) (hf : f < 1000000) : Fn G Tryz.prog k_param_checked [.str raw, .int .i64 a, .int .i64 f] (checkedI (checked raw a f)) := by
  refine fn_intro hm ok_param_checked (by simp) ?_
  have hml := meant_len _ raw (Nat.le_refl _)
  simp [c_param_checked, r_param_checked]
  refine callW_imm (fn_Odd raw hr) ?_
  cases ho : odd raw with
  | some k =>
    have hR : checked raw a f = .no 10 (f + k) := by simp [checked, ho]
    have hkl : k < 1000000 := by have := odd_lt _ raw (Nat.le_refl _) k ho; omega
    have hN := fn_New 10 ((f : Int) + k)
    rw [if_neg (by omega)] at hN
    rw [hR]
    simp (disch := omega) [br_yes, br_no, wrap_i64, wrap_u8, wrap_i32, List.getElem?_cons_zero, List.getElem?_cons_succ, oddI]
    refine callW_imm hN ?_
    simp [checkedI]
  | none =>
    simp (disch := omega) [br_yes, br_no, wrap_i64, wrap_u8, wrap_i32, List.getElem?_cons_zero, List.getElem?_cons_succ, oddI]
    refine callW_imm (fn_meant raw hr) ?_
    by_cases h6 : 60 < (meant raw).length
    · have hR : checked raw a f = .no 5 a := by simp [checked, ho, h6]
      have hN := fn_New 5 (a : Int)
      rw [if_neg (by omega)] at hN
      rw [hR]
      simp (disch := omega) [br_yes, br_no, wrap_i64, wrap_u8, wrap_i32, List.getElem?_cons_zero, List.getElem?_cons_succ]
      refine callW_imm hN ?_
      simp [checkedI]
    · have hR : checked raw a f = .ok (meant raw) 0 := by simp [checked, ho, h6]
      rw [hR]
      simp (disch := omega) [br_yes, br_no, wrap_i64, wrap_u8, wrap_i32, List.getElem?_cons_zero, List.getElem?_cons_succ, checkedI]
/-- The value at a place, and the place behind it. -/
def valueR (s : Str) (a : Nat) : Got :=
  if s[a]? = some 34 then
    let t := run notq (s.drop (a + 1))
    if t = (s.drop (a + 1)).length then .no 3 s.length
    else match checked ((s.drop (a + 1)).take t) a (a + 1) with
      | .no e p => .no e p
      | .ok v _ => if stopAt s (a + t + 2) then .ok v (a + t + 2) else .no 4 (a + t + 2 : Nat)
  else
    let t := run plain (s.drop a)
    if s[a + t]? = some 34 then .no 4 (a + t : Nat)
    else match checked ((s.drop a).take t) a a with
      | .no e p => .no e p
      | .ok v _ => .ok v (a + t)
/-- What the program tells of it. -/
def Tells (g : Got) (r : IV) : Prop := match g with
  | .no e p => ∃ q : Int, r = .tuple [.str [], .int .i64 q, errIV e [p]]
  | .ok v n => r = .tuple [.str v, .int .i64 n, .nili]
theorem fn_quoted (s : Str) (a : Nat) (ha : s[a]? = some 34) (hs : s.length < 100000) : ∃ r, Fn G Tryz.prog k_param_quoted [.str s, .int .i64 a] r ∧ Tells (valueR s a) r := by
  obtain ⟨hal, _⟩ := List.getElem?_eq_some_iff.1 ha
  have hi0 : (0 : Int) ≤ (a : Int) + 1 := by omega
  have hI := fn_IndexByte (s.drop (a + 1)) 34
  have hrl := run_le notq (s.drop (a + 1))
  rcases run_notq (s.drop (a + 1)) with ⟨h1, h2⟩ | ⟨h1, h2⟩
  · refine ⟨.tuple [.str [], .int .i64 0, errIV 3 [s.length]], ?_, ?_⟩
    · refine fn_intro hm ok_param_quoted (by simp) ?_
      have hN := fn_New 3 (s.length : Int)
      rw [if_neg (by omega)] at hN
      rw [h1] at hI
      simp [c_param_quoted, r_param_quoted]
      simp (disch := omega) [br_yes, br_no, wrap_i64, wrap_u8, wrap_i32, List.getElem?_cons_zero, List.getElem?_cons_succ, hi0]
      refine ⟨by omega, ?_⟩
      refine callW_imm hI ?_
      simp (disch := omega) [br_yes, br_no, wrap_i64, wrap_u8, wrap_i32, List.getElem?_cons_zero, List.getElem?_cons_succ]
      refine callW_imm hN ?_
      simp
    · simp only [valueR, if_pos ha, if_pos h2, Tells]
      exact ⟨0, rfl⟩
  · have hv : valueR s a = match checked ((s.drop (a + 1)).take (run notq (s.drop (a + 1)))) a (a + 1) with
      | .no e p => .no e p
      | .ok v _ => if stopAt s (a + run notq (s.drop (a + 1)) + 2) then .ok v (a + run notq (s.drop (a + 1)) + 2) else .no 4 (a + run notq (s.drop (a + 1)) + 2 : Nat) := by
      simp only [valueR, if_pos ha, if_neg (Nat.ne_of_lt h2)]
    rw [hv]
    rw [h1] at hI
    obtain ⟨t, ht⟩ : ∃ t, run notq (s.drop (a + 1)) = t := ⟨_, rfl⟩
    rw [ht] at hI h2 ⊢
    rw [List.length_drop] at h2
    have hC := fn_checked ((s.drop (a + 1)).take t) a (a + 1) (by simp; omega) (by omega) (by omega)
    rw [show ((a + 1 : Nat) : Int) = (a : Int) + 1 by omega] at hC
    have hS := fn_stop s (a + t + 2) (by omega) (by omega)
    rw [show ((a + t + 2 : Nat) : Int) = (a : Int) + t + 2 by omega] at hS
    have hbb : (t : Int) ≤ ((s.drop (a + 1)).length : Int) := by rw [List.length_drop]; omega
    cases hc : checked ((s.drop (a + 1)).take t) a (a + 1) with
    | no e p =>
      rw [hc] at hC
      refine ⟨.tuple [.str [], .int .i64 0, errIV e [p]], ?_, 0, rfl⟩
      refine fn_intro hm ok_param_quoted (by simp) ?_
      obtain ⟨et, ev, he⟩ := errIV_not_nil e [p]
      simp only [checkedI, he] at hC
      rw [he]
      simp [c_param_quoted, r_param_quoted]
      simp (disch := omega) [br_yes, br_no, wrap_i64, wrap_u8, wrap_i32, List.getElem?_cons_zero, List.getElem?_cons_succ, hi0]
      refine ⟨by omega, ?_⟩
      refine callW_imm hI ?_
      simp (disch := omega) [br_yes, br_no, wrap_i64, wrap_u8, wrap_i32, List.getElem?_cons_zero, List.getElem?_cons_succ]
      refine ⟨⟨by omega, by omega⟩, by omega, ?_⟩
      refine callW_imm hC ?_
      simp (disch := omega) [br_yes, br_no, wrap_i64, wrap_u8, wrap_i32, List.getElem?_cons_zero, List.getElem?_cons_succ]
    | ok v _ =>
      rw [hc] at hC
      simp only [checkedI] at hC
      have hN := fn_New 4 ((a : Int) + t + 2)
      rw [if_neg (by omega)] at hN
      cases hst : stopAt s (a + t + 2) with
      | true =>
        rw [hst] at hS
        refine ⟨.tuple [.str v, .int .i64 (a + t + 2 : Nat), .nili], ?_, rfl⟩
        refine fn_intro hm ok_param_quoted (by simp) ?_
        simp [c_param_quoted, r_param_quoted]
        simp (disch := omega) [br_yes, br_no, wrap_i64, wrap_u8, wrap_i32, List.getElem?_cons_zero, List.getElem?_cons_succ, hi0]
        refine ⟨by omega, ?_⟩
        refine callW_imm hI ?_
        simp (disch := omega) [br_yes, br_no, wrap_i64, wrap_u8, wrap_i32, List.getElem?_cons_zero, List.getElem?_cons_succ]
        refine ⟨⟨by omega, by omega⟩, by omega, ?_⟩
        refine callW_imm hC ?_
        simp (disch := omega) [br_yes, br_no, wrap_i64, wrap_u8, wrap_i32, List.getElem?_cons_zero, List.getElem?_cons_succ]
        refine callW_imm hS ?_
        simp (disch := omega) [br_yes, br_no, wrap_i64, wrap_u8, wrap_i32, List.getElem?_cons_zero, List.getElem?_cons_succ]
      | false =>
        rw [hst] at hS
        refine ⟨.tuple [.str [], .int .i64 0, errIV 4 [(a : Int) + t + 2]], ?_, 0, by rw [show ((a + t + 2 : Nat) : Int) = (a : Int) + t + 2 by omega]⟩
        refine fn_intro hm ok_param_quoted (by simp) ?_
        simp [c_param_quoted, r_param_quoted]
        simp (disch := omega) [br_yes, br_no, wrap_i64, wrap_u8, wrap_i32, List.getElem?_cons_zero, List.getElem?_cons_succ, hi0]
        refine ⟨by omega, ?_⟩
        refine callW_imm hI ?_
        simp (disch := omega) [br_yes, br_no, wrap_i64, wrap_u8, wrap_i32, List.getElem?_cons_zero, List.getElem?_cons_succ]
        refine ⟨⟨by omega, by omega⟩, by omega, ?_⟩
        refine callW_imm hC ?_
        simp (disch := omega) [br_yes, br_no, wrap_i64, wrap_u8, wrap_i32, List.getElem?_cons_zero, List.getElem?_cons_succ]
        refine callW_imm hS ?_
        simp (disch := omega) [br_yes, br_no, wrap_i64, wrap_u8, wrap_i32, List.getElem?_cons_zero, List.getElem?_cons_succ]
        refine callW_imm hN ?_
        simp (disch := omega) [br_yes, br_no, wrap_i64, wrap_u8, wrap_i32, List.getElem?_cons_zero, List.getElem?_cons_succ]
theorem plain_cases (c : UInt8) : (stp c = true ∧ c.toNat ≠ 34 ∧ plain c = false) ∨ (stp c = false ∧ c.toNat = 34 ∧ plain c = false) ∨ (stp c = false ∧ c.toNat ≠ 34 ∧ plain c = true) := by
  by_cases h : c.toNat = 34
  · right; left
    have : stp c = false := by simp [stp]; omega
    simp [plain, this, notq, h]
  · cases hs : stp c with
    | true => left; simp [plain, hs, h]
    | false => right; right; simp [plain, hs, h, notq]
theorem fn_value (s : Str) (a : Nat) (ha : a ≤ s.length) (hs : s.length < 100000) : ∃ r, Fn G Tryz.prog k_param_value [.str s, .int .i64 a] r ∧ Tells (valueR s a) r := by
  by_cases h0 : s[a]? = some 34
  · obtain ⟨r, hr1, hr2⟩ := fn_quoted s a h0 hs
    obtain ⟨hal, hae⟩ := List.getElem?_eq_some_iff.1 h0
    refine ⟨r, ?_, hr2⟩
    refine fn_intro hm ok_param_value (by simp) ?_
    simp [c_param_value, r_param_value]
    cases hg : valueR s a with
    | no e p =>
      rw [hg] at hr2
      obtain ⟨q, rfl⟩ := hr2
      obtain ⟨et, ev, he⟩ := errIV_not_nil e [p]
      rw [he] at hr1 ⊢
      simp (disch := omega) [br_yes, br_no, wrap_i64, wrap_u8, wrap_i32, List.getElem?_cons_zero, List.getElem?_cons_succ, hae]
      refine callW_imm hr1 ?_
      simp (disch := omega) [br_yes, br_no, wrap_i64, wrap_u8, wrap_i32, List.getElem?_cons_zero, List.getElem?_cons_succ]
    | ok v n =>
      rw [hg] at hr2
      simp only [Tells] at hr2
      subst hr2
      simp (disch := omega) [br_yes, br_no, wrap_i64, wrap_u8, wrap_i32, List.getElem?_cons_zero, List.getElem?_cons_succ, hae]
      refine callW_imm hr1 ?_
      simp (disch := omega) [br_yes, br_no, wrap_i64, wrap_u8, wrap_i32, List.getElem?_cons_zero, List.getElem?_cons_succ]
  · have hv : valueR s a = if s[a + run plain (s.drop a)]? = some 34 then .no 4 (a + run plain (s.drop a) : Nat) else match checked ((s.drop a).take (run plain (s.drop a))) a a with
      | .no e p => .no e p
      | .ok v _ => .ok v (a + run plain (s.drop a)) := by
      simp only [valueR, if_neg h0]
    have hrl := run_le plain (s.drop a)
    rw [List.length_drop] at hrl
    rw [hv]
    obtain ⟨t, ht⟩ : ∃ t, run plain (s.drop a) = t := ⟨_, rfl⟩
    rw [ht] at hrl ⊢
    have key : ∀ r : IV, (s[a + t]? = some 34 → r = .tuple [.str [], .int .i64 0, errIV 4 [((a + t : Nat) : Int)]]) →
        (s[a + t]? ≠ some 34 → ∃ (x : Str) (y : IV), Fn G Tryz.prog k_param_checked [.str ((s.drop a).take t), .int .i64 a, .int .i64 a] (.tuple [.str x, y]) ∧ r = .tuple [.str x, .int .i64 ((a + t : Nat) : Int), y]) →
        Fn G Tryz.prog k_param_value [.str s, .int .i64 a] r := by
      intro r hr1 hr2
      refine fn_intro hm ok_param_value (by simp) ?_
      simp [c_param_value, r_param_value]
      have tail : s[a + t]? ≠ some 34 → ∃ (x : Str) (y : IV), Fn G Tryz.prog k_param_checked [.str (List.drop a (List.take (a + t) s)), .int .i64 a, .int .i64 a] (.tuple [.str x, y]) ∧ r = .tuple [.str x, .int .i64 ((a + t : Nat) : Int), y] := by
        intro h
        obtain ⟨x, y, h1, h2⟩ := hr2 h
        refine ⟨x, y, ?_, h2⟩
        rw [List.drop_take, show a + t - a = t by omega]
        exact h1
      have first : ∀ c, s[a]? = some c → c.toNat ≠ 34 := by
        intro c hc e
        exact h0 (by rw [hc, UInt8.toNat_inj.1 (show c.toNat = (34 : UInt8).toNat from e)])
      by_cases hal : a < s.length
      · obtain ⟨c0, hc0⟩ : ∃ c, s[a] = c := ⟨_, rfl⟩
        have hc0' := first c0 (by rw [List.getElem?_eq_getElem hal, hc0])
        simp (disch := omega) [br_yes, br_no, wrap_i64, wrap_u8, wrap_i32, List.getElem?_cons_zero, List.getElem?_cons_succ, hc0]
        refine loopU hm [] (fun k : Nat => [(7, .val (.int .i64 k))]) (fun k => []) (fun k => k ≤ s.length ∧ a ≤ k ∧ k + run plain (s.drop k) = a + t) (fun k => s.length - k) a ⟨by omega, by omega, by omega⟩ ?_ ?_
        · simp
          exact weak_drop rfl rfl (by simp [EnvLe, getE, look]) (by simp [ObLe, look]) (by simp [roOk])
        rintro k ⟨hk, hak, hrk⟩
        have hS := fn_stop s k hk (by omega)
        simp
        refine callW_imm hS ?_
        by_cases h : k < s.length
        · obtain ⟨c, hc⟩ : ∃ c, s[k] = c := ⟨_, rfl⟩
          have hc' : s[k]? = some c := by rw [List.getElem?_eq_getElem h, hc]
          have hst : stopAt s k = stp c := by simp [stopAt, hc']
          rw [run_at h hc] at hrk
          rcases plain_cases c with ⟨h1, h2, h3⟩ | ⟨h1, h2, h3⟩ | ⟨h1, h2, h3⟩
          · rw [h3] at hrk
            have hkt : a + t = k := by simpa using hrk.symm
            rw [hkt] at tail
            obtain ⟨x, y, hF, rfl⟩ := tail (by rw [hc']; intro e; cases e; exact h2 rfl)
            simp (disch := omega) [br_yes, br_no, wrap_i64, wrap_u8, wrap_i32, List.getElem?_cons_zero, List.getElem?_cons_succ, hst, h1]
            refine ⟨⟨by omega, by omega⟩, ?_⟩
            refine callW_imm hF ?_
            simp (disch := omega) [br_yes, br_no, wrap_i64, wrap_u8, wrap_i32, List.getElem?_cons_zero, List.getElem?_cons_succ]
          · rw [h3] at hrk
            have hkt : a + t = k := by simpa using hrk.symm
            rw [hkt] at hr1
            have hr := hr1 (by rw [hc', UInt8.toNat_inj.1 (show c.toNat = (34 : UInt8).toNat from h2)])
            have hN := fn_New 4 ((k : Nat) : Int)
            rw [if_neg (by omega)] at hN
            rw [hr]
            simp (disch := omega) [br_yes, br_no, wrap_i64, wrap_u8, wrap_i32, List.getElem?_cons_zero, List.getElem?_cons_succ, hst, h1, hc]
            refine callW_imm hN ?_
            simp (disch := omega) [br_yes, br_no, wrap_i64, wrap_u8, wrap_i32, List.getElem?_cons_zero, List.getElem?_cons_succ]
          · rw [h3] at hrk
            simp (disch := omega) [br_yes, br_no, wrap_i64, wrap_u8, wrap_i32, List.getElem?_cons_zero, List.getElem?_cons_succ, hst, h1, hc]
            refine loopEnd (k + 1) ⟨by omega, by omega, by simp at hrk; omega⟩ (by omega) ?_
            simp
            exact weak_drop rfl rfl (by simp [EnvLe, getE, look]) (by simp [ObLe, look]) (by simp [roOk])
        · obtain rfl : k = s.length := by omega
          have hst : stopAt s s.length = true := by simp [stopAt]
          have : s.drop s.length = [] := List.drop_length
          rw [this] at hrk
          simp [run] at hrk
          rw [← hrk] at tail
          obtain ⟨x, y, hF, rfl⟩ := tail (by simp)
          rw [List.take_length] at hF
          simp (disch := omega) [br_yes, br_no, wrap_i64, wrap_u8, wrap_i32, List.getElem?_cons_zero, List.getElem?_cons_succ, hst]
          refine ⟨by omega, ?_⟩
          refine callW_imm hF ?_
          simp (disch := omega) [br_yes, br_no, wrap_i64, wrap_u8, wrap_i32, List.getElem?_cons_zero, List.getElem?_cons_succ]
      · simp (disch := omega) [br_yes, br_no, wrap_i64, wrap_u8, wrap_i32, List.getElem?_cons_zero, List.getElem?_cons_succ]
        refine loopU hm [] (fun k : Nat => [(7, .val (.int .i64 k))]) (fun k => []) (fun k => k ≤ s.length ∧ a ≤ k ∧ k + run plain (s.drop k) = a + t) (fun k => s.length - k) a ⟨by omega, by omega, by omega⟩ ?_ ?_
        · simp
          exact weak_drop rfl rfl (by simp [EnvLe, getE, look]) (by simp [ObLe, look]) (by simp [roOk])
        rintro k ⟨hk, hak, hrk⟩
        have hS := fn_stop s k hk (by omega)
        simp
        refine callW_imm hS ?_
        by_cases h : k < s.length
        · exfalso
          omega
        · obtain rfl : k = s.length := by omega
          have hst : stopAt s s.length = true := by simp [stopAt]
          have : s.drop s.length = [] := List.drop_length
          rw [this] at hrk
          simp [run] at hrk
          rw [← hrk] at tail
          obtain ⟨x, y, hF, rfl⟩ := tail (by simp)
          rw [List.take_length] at hF
          simp (disch := omega) [br_yes, br_no, wrap_i64, wrap_u8, wrap_i32, List.getElem?_cons_zero, List.getElem?_cons_succ, hst]
          refine ⟨by omega, ?_⟩
          refine callW_imm hF ?_
          simp (disch := omega) [br_yes, br_no, wrap_i64, wrap_u8, wrap_i32, List.getElem?_cons_zero, List.getElem?_cons_succ]
    by_cases hq : s[a + t]? = some 34
    · rw [if_pos hq]
      exact ⟨_, key _ (fun _ => rfl) (fun h => absurd hq h), 0, rfl⟩
    · rw [if_neg hq]
      have hC := fn_checked ((s.drop a).take t) a a (by simp; omega) (by omega) (by omega)
      cases hc : checked ((s.drop a).take t) a a with
      | no e p =>
        rw [hc] at hC
        exact ⟨_, key _ (fun h => absurd h hq) (fun _ => ⟨[], errIV e [p], hC, rfl⟩), _, rfl⟩
      | ok v n =>
        rw [hc] at hC
        exact ⟨_, key _ (fun h => absurd h hq) (fun _ => ⟨v, .nili, hC, rfl⟩), rfl⟩
end Go.Vs.YtbchceojmblkkaaGreatDoor
