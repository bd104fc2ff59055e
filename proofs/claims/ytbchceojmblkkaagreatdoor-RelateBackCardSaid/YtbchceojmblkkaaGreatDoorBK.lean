/- Plain mathematics of parameters: names; what values mean and how they are written. No conditions. -/
import Derived.Test.YtbchceojmblkkaaGreatDoorBH
import Derived.Test.YtbchceojmblkkaaGreatDoorBJ
set_option linter.unusedVariables false
set_option linter.unusedSimpArgs false
set_option linter.unusedVariables false
set_option linter.unusedSimpArgs false
namespace Go.Vs.Pa
open Go.Vs.U8
/-- May names have a byte? -/
def sgn (c : UInt8) : Bool := decide ((65 ≤ c.toNat ∧ c.toNat ≤ 90) ∨ (48 ≤ c.toNat ∧ c.toNat ≤ 57) ∨ c.toNat = 45)
/-- .. or small letters. -/
def nmd (c : UInt8) : Bool := decide ((65 ≤ c.toNat ∧ c.toNat ≤ 90) ∨ (97 ≤ c.toNat ∧ c.toNat ≤ 122) ∨ (48 ≤ c.toNat ∧ c.toNat ≤ 57) ∨ c.toNat = 45)
/-- How many bytes of names a text begins with. -/
def named : Str → Nat
  | [] => 0
  | c :: r => if nmd c then named r + 1 else 0
theorem named_le (s : Str) : named s ≤ s.length := by
  induction s with
  | nil => simp [named]
  | cons c r ih => simp only [named]; split <;> simp <;> omega
theorem named_of {s : Str} {i : Nat} (h : (s.take i).all nmd = true) (hi : i ≤ s.length) (hn : ∀ c, s[i]? = some c → nmd c = false) : named s = i := by
  induction s generalizing i with
  | nil => simp at hi; subst hi; rfl
  | cons c r ih =>
    cases i with
    | zero =>
      have := hn c rfl
      simp [named, this]
    | succ i =>
      simp only [List.take_succ_cons, List.all_cons, Bool.and_eq_true] at h
      simp only [named, h.1, if_true]
      rw [ih h.2 (by simpa using hi) (by intro c hc; exact hn c (by simpa using hc))]
theorem named_take (s : Str) : (s.take (named s)).all nmd = true := by
  induction s with
  | nil => simp
  | cons c r ih =>
    simp only [named]
    split
    · next h => simp [h] at ih ⊢; exact ih
    · simp
theorem named_all (s : Str) : named s = s.length ↔ s.all nmd = true := by
  constructor
  · intro h; have := named_take s; rwa [h, List.take_length] at this
  · intro h; exact named_of (by rw [List.take_length]; exact h) (Nat.le_refl _) (by intro c hc; simp at hc)
/-- Is it a name? -/
def nameB (s : Str) : Bool := decide (1 ≤ s.length) && decide (s.length ≤ 24) && s.all sgn
/-- A small letter's capital. -/
def upB (c : UInt8) : UInt8 := if 97 ≤ c ∧ c ≤ 122 then c - 32 else c
def upper (s : Str) : Str := s.map upB
theorem upB_yes {c : UInt8} (h1 : 97 ≤ c.toNat) (h2 : c.toNat ≤ 122) : (upB c).toNat = c.toNat - 32 := by
  have a : (97 : UInt8) ≤ c ∧ c ≤ 122 := ⟨by rw [UInt8.le_iff_toNat_le]; simpa using h1, by rw [UInt8.le_iff_toNat_le]; simpa using h2⟩
  rw [upB, if_pos a, UInt8.toNat_sub_of_le]
  · rfl
  · rw [UInt8.le_iff_toNat_le]; simp; omega
theorem upB_no {c : UInt8} (h : ¬ (97 ≤ c.toNat ∧ c.toNat ≤ 122)) : upB c = c := by
  rw [upB, if_neg]
  rintro ⟨a, b⟩
  rw [UInt8.le_iff_toNat_le] at a b
  exact h ⟨by simpa using a, by simpa using b⟩
theorem upB_eq (c : UInt8) : upB c = c ↔ ¬ (97 ≤ c.toNat ∧ c.toNat ≤ 122) := by
  constructor
  · intro h hc
    have := upB_yes hc.1 hc.2
    rw [h] at this; omega
  · exact upB_no
theorem sgn_nmd (c : UInt8) : sgn c = (nmd c && decide (upB c = c)) := by
  rw [Bool.eq_iff_iff]
  simp only [sgn, nmd, Bool.and_eq_true, decide_eq_true_eq, upB_eq]
  omega
theorem upper_eq (s : Str) : upper s = s ↔ ∀ c ∈ s, upB c = c := by
  induction s with
  | nil => simp [upper]
  | cons c r ih => simp only [upper, List.map_cons, List.cons.injEq, List.mem_cons, forall_eq_or_imp] at ih ⊢; rw [ih]
theorem all_sgn (s : Str) : s.all sgn = true ↔ s.all nmd = true ∧ upper s = s := by
  rw [upper_eq]
  simp only [List.all_eq_true, sgn_nmd, Bool.and_eq_true, decide_eq_true_eq]
  exact ⟨fun h => ⟨fun x hx => (h x hx).1, fun x hx => (h x hx).2⟩, fun h x hx => ⟨h.1 x hx, h.2 x hx⟩⟩
theorem nmd_up (c : UInt8) : sgn (upB c) = nmd c := by
  rw [Bool.eq_iff_iff]
  simp only [sgn, nmd, decide_eq_true_eq]
  by_cases h : 97 ≤ c.toNat ∧ c.toNat ≤ 122
  · rw [upB_yes h.1 h.2]; omega
  · rw [upB_no h]; omega

/-- What a value means. -/
def meant : Str → Str
  | [] => []
  | [c] => [c]
  | c :: d :: r => if c.toNat = 94 then (if d.toNat = 94 then 94 :: meant r else if d.toNat = 110 then 10 :: meant r else if d.toNat = 39 then 34 :: meant r else c :: meant (d :: r)) else c :: meant (d :: r)
/-- How a value is written, but for the marks about it. -/
def esc : Str → Str
  | [] => []
  | c :: r => (if c.toNat = 94 then [94, 94] else if c.toNat = 10 then [94, 110] else if c.toNat = 34 then [94, 39] else [c]) ++ esc r
/-- Is it a sign that ends a value? -/
def stp (c : UInt8) : Bool := decide (c.toNat = 44 ∨ c.toNat = 58 ∨ c.toNat = 59)
def write (s : Str) : Str := if s.any stp then 34 :: (esc s ++ [34]) else esc s
/-- Has a value no byte that may not be? -/
def sp (c : UInt8) : UInt8 := if c.toNat = 10 then 32 else c
def fineB (s : Str) : Bool := (odd (s.map sp)).isNone
end Go.Vs.Pa
namespace Go.Vs.YtbchceojmblkkaaGreatDoor
set_option linter.unusedSimpArgs false
set_option linter.unusedVariables false
open Go.Proofs Go.Vs.U8 Go.Vs.Pa
set_option maxRecDepth 100000
set_option maxHeartbeats 4000000
theorem nmd_cases {c : UInt8} (h : nmd c = true) : (65 ≤ c.toNat ∧ c.toNat ≤ 90) ∨ (97 ≤ c.toNat ∧ c.toNat ≤ 122) ∨ (48 ≤ c.toNat ∧ c.toNat ≤ 57) ∨ c.toNat = 45 := by simpa [nmd] using h
theorem nmd_not {c : UInt8} (h : nmd c = false) : c.toNat < 45 ∨ (45 < c.toNat ∧ c.toNat < 48) ∨ (57 < c.toNat ∧ c.toNat < 65) ∨ (90 < c.toNat ∧ c.toNat < 97) ∨ 122 < c.toNat := by
  simp [nmd] at h; omega
theorem fn_named (s : Str) (hs : s.length < 1000000) : Fn G Tryz.prog k_param_named [.str s] (.int .i64 (named s)) := by
  refine fn_intro hm ok_param_named (by simp) ?_
  simp [c_param_named, r_param_named]
  refine loopU hm [] (fun i : Nat => [(3, .val (.int .i64 i))]) (fun i => []) (fun i => i ≤ s.length ∧ (s.take i).all nmd = true) (fun i => s.length - i) 0 ⟨by omega, by simp⟩ ?_ ?_
  · simp
    exact weak_drop rfl rfl (by simp [EnvLe, getE, look]) (by simp [ObLe, look]) (by simp [roOk])
  rintro i ⟨hi, ha⟩
  simp
  by_cases h : i < s.length
  · obtain ⟨c, hc⟩ : ∃ c, s[i] = c := ⟨_, rfl⟩
    have hc' : s[i]? = some c := by rw [← hc]; exact List.getElem?_eq_getElem h
    have hlt := u8_lt c
    cases hn : nmd c with
    | true =>
      have ht : (s.take (i + 1)).all nmd = true := by
        rw [List.take_succ_eq_append_getElem h, List.all_append, ha, hc]; simp [hn]
      rcases nmd_cases hn with h1 | h1 | h1 | h1
      all_goals
        simp (disch := omega) [br_yes, br_no, wrap_i64, wrap_u8, wrap_i32, List.getElem?_cons_zero, List.getElem?_cons_succ, hc]
        refine loopEnd (i + 1) ⟨by omega, ht⟩ (by omega) ?_
        simp
        exact weak_drop rfl rfl (by simp [EnvLe, getE, look]) (by simp [ObLe, look]) (by simp [roOk])
    | false =>
      have hr : named s = i := named_of ha hi (by intro d hd; rw [hc'] at hd; cases hd; exact hn)
      rcases nmd_not hn with h1 | h1 | h1 | h1 | h1
      all_goals
        simp (disch := omega) [br_yes, br_no, wrap_i64, wrap_u8, wrap_i32, List.getElem?_cons_zero, List.getElem?_cons_succ, hc, hr]
  · obtain rfl : i = s.length := by omega
    have hr : named s = s.length := (named_all s).2 (by simpa using ha)
    simp (disch := omega) [br_yes, br_no, wrap_i64, wrap_u8, wrap_i32, List.getElem?_cons_zero, List.getElem?_cons_succ, hr]
theorem upper_pa : Pa.upper = upper := rfl
theorem fn_Name (s : Str) (hs : s.length < 1000000) : Fn G Tryz.prog k_param_Name [.str s] (.bool (nameB s)) := by
  refine fn_intro hm ok_param_Name (by simp) ?_
  simp [c_param_Name, r_param_Name]
  have hN := fn_named s hs
  have hU := fn_Upper s hs
  have ha := all_sgn s
  rw [upper_pa, ← named_all] at ha
  by_cases h0 : s = []
  · subst h0
    simp (disch := omega) [br_yes, br_no, wrap_i64, wrap_u8, wrap_i32, List.getElem?_cons_zero, List.getElem?_cons_succ, nameB]
  have h0' : 0 < s.length := List.length_pos_iff.2 h0
  by_cases h1 : s.length ≤ 24
  · by_cases h2 : named s = s.length
    · by_cases h3 : upper s = s
      · have hr : nameB s = true := by simp [nameB, h1, ha.2 ⟨h2, h3⟩]; omega
        simp (disch := omega) [br_yes, br_no, wrap_i64, wrap_u8, wrap_i32, List.getElem?_cons_zero, List.getElem?_cons_succ, h0]
        refine callW_imm hN ?_
        simp (disch := omega) [br_yes, br_no, wrap_i64, wrap_u8, wrap_i32, List.getElem?_cons_zero, List.getElem?_cons_succ, h2]
        refine callW_imm hU ?_
        simp (disch := omega) [br_yes, br_no, wrap_i64, wrap_u8, wrap_i32, List.getElem?_cons_zero, List.getElem?_cons_succ, h3, hr]
      · have hr : nameB s = false := by
          cases hh : s.all sgn with
          | true => exact absurd (ha.1 hh).2 h3
          | false => simp [nameB, hh]
        simp (disch := omega) [br_yes, br_no, wrap_i64, wrap_u8, wrap_i32, List.getElem?_cons_zero, List.getElem?_cons_succ, h0]
        refine callW_imm hN ?_
        simp (disch := omega) [br_yes, br_no, wrap_i64, wrap_u8, wrap_i32, List.getElem?_cons_zero, List.getElem?_cons_succ, h2]
        refine callW_imm hU ?_
        simp (disch := omega) [br_yes, br_no, wrap_i64, wrap_u8, wrap_i32, List.getElem?_cons_zero, List.getElem?_cons_succ, h3, hr]
    · have hr : nameB s = false := by
        cases hh : s.all sgn with
        | true => exact absurd (ha.1 hh).1 h2
        | false => simp [nameB, hh]
      have h2' : ¬ ((named s : Int) = s.length) := by omega
      simp (disch := omega) [br_yes, br_no, wrap_i64, wrap_u8, wrap_i32, List.getElem?_cons_zero, List.getElem?_cons_succ, h0]
      refine callW_imm hN ?_
      simp (disch := omega) [br_yes, br_no, wrap_i64, wrap_u8, wrap_i32, List.getElem?_cons_zero, List.getElem?_cons_succ, h2, hr]
  · have hr : nameB s = false := by simp [nameB, h1]
    simp (disch := omega) [br_yes, br_no, wrap_i64, wrap_u8, wrap_i32, List.getElem?_cons_zero, List.getElem?_cons_succ, h0, hr]
end Go.Vs.YtbchceojmblkkaaGreatDoor
namespace Go.Vs.YtbchceojmblkkaaGreatDoor
set_option linter.unusedSimpArgs false
set_option linter.unusedVariables false
open Go.Proofs Go.Vs.U8 Go.Vs.Pa
set_option maxRecDepth 100000
set_option maxHeartbeats 4000000
theorem meant_cons (c : UInt8) (s : Str) (h : c.toNat ≠ 94) : meant (c :: s) = c :: meant s := by
  cases s with
  | nil => simp [meant]
  | cons d r => simp [meant, h]
theorem meant_esc (c d : UInt8) (r : Str) (h : c.toNat = 94) : meant (c :: d :: r) = if d.toNat = 94 then 94 :: meant r else if d.toNat = 110 then 10 :: meant r else if d.toNat = 39 then 34 :: meant r else c :: meant (d :: r) := by
  simp [meant, h]
/-- One step of a value read: what is written, and how many bytes are read. -/
theorem meant_step {s : Str} {i : Nat} {c : UInt8} (h : i < s.length) (hc : s[i] = c) (a : Str) (ha : a ++ meant (s.drop i) = meant s) :
    (c.toNat ≠ 94 ∨ ¬ i + 1 < s.length → (a ++ [c]) ++ meant (s.drop (i + 1)) = meant s) ∧
    ∀ d, c.toNat = 94 → s[i+1]? = some d → (d.toNat = 94 → (a ++ [94]) ++ meant (s.drop (i + 2)) = meant s) ∧ (d.toNat = 110 → (a ++ [10]) ++ meant (s.drop (i + 2)) = meant s) ∧ (d.toNat = 39 → (a ++ [34]) ++ meant (s.drop (i + 2)) = meant s) ∧ (d.toNat ≠ 94 → d.toNat ≠ 110 → d.toNat ≠ 39 → (a ++ [c]) ++ meant (s.drop (i + 1)) = meant s) := by
  have hd : s.drop i = c :: s.drop (i + 1) := by rw [← hc]; exact List.drop_eq_getElem_cons h
  constructor
  · rintro (h1 | h1)
    · rw [← ha, hd, meant_cons _ _ h1]; simp
    · have : s.drop (i + 1) = [] := List.drop_eq_nil_of_le (by omega)
      rw [← ha, hd, this]; simp [meant]
  · intro d h1 h2
    obtain ⟨h3, h4⟩ := List.getElem?_eq_some_iff.1 h2
    have hd2 : s.drop (i + 1) = d :: s.drop (i + 2) := by rw [← h4]; exact List.drop_eq_getElem_cons h3
    rw [hd, hd2, meant_esc _ _ _ h1] at ha
    refine ⟨fun k => ?_, fun k => ?_, fun k => ?_, fun k1 k2 k3 => ?_⟩
    · rw [if_pos k] at ha; rw [← ha]; simp
    · rw [if_neg (by omega), if_pos k] at ha; rw [← ha]; simp
    · rw [if_neg (by omega), if_neg (by omega), if_pos k] at ha; rw [← ha]; simp
    · rw [if_neg k1, if_neg k2, if_neg k3] at ha; rw [← ha, hd2]; simp
theorem fn_meant (s : Str) (hs : s.length < 1000000) : Fn G Tryz.prog k_param_meant [.str s] (.str (meant s)) := by
  refine fn_intro hm ok_param_meant (by simp) ?_
  simp [c_param_meant, r_param_meant]
  refine loopU hm [] (fun x : Nat × Str => [(4, .val (.int .i64 x.1))]) (fun x => [(3, .box [.selfN 3 208 false, .ownT 1 x.2.length 5]), (1, .arr x.2.length 1 (byteRows x.2))]) (fun x => x.1 ≤ s.length ∧ x.2.length ≤ x.1 ∧ x.2 ++ meant (s.drop x.1) = meant s) (fun x => s.length - x.1) (0, []) ⟨by omega, by simp, by simp⟩ ?_ ?_
  · exact Weak.trans (weak_bld (k := 3) (d := 3) (t := 208) 1 5 (by simp) (by simp) (by simp [getE, look]) (by simp [look]) (by simp)) (weak_drop rfl rfl (by simp [St.bld, EnvLe, getE, look, put, eraseE, SV.erase]) (by simp [St.bld, ObLe, look, put, eraseO, eraseL, Ob.erase, SV.erase, byteRows]) (by simp [St.bld, roOk]))
  rintro ⟨i, a⟩ ⟨hi, hl, ha⟩
  simp at hi hl ha
  simp
  by_cases h : i < s.length
  · obtain ⟨c, hc⟩ : ∃ c, s[i] = c := ⟨_, rfl⟩
    have hlt := u8_lt c
    have hst := meant_step h hc a ha
    have hw : ∀ b : UInt8, _ := fun b => fnM_WriteByte a.length a b (by omega)
    clear ha
    have fin : ∀ b : UInt8, (a ++ [b]).length = a.length + 1 := by simp
    have hi0 : (0 : Int) ≤ (i : Int) + 1 := by omega
    have hi2 : (i : Int) + 1 + 1 = i + 2 := by omega
    by_cases h1 : c.toNat = 94
    · have hce : c = 94 := UInt8.toNat_inj.1 h1
      by_cases h2 : i + 1 < s.length
      · obtain ⟨d, hd⟩ : ∃ d, s[i+1] = d := ⟨_, rfl⟩
        have hd' : s[i+1]? = some d := by rw [← hd]; exact List.getElem?_eq_getElem h2
        have hld := u8_lt d
        obtain ⟨k1, k2, k3, k4⟩ := hst.2 d h1 hd'
        clear hst
        by_cases d1 : d.toNat = 94
        · have hs' := k1 d1
          simp (disch := omega) [br_yes, br_no, wrap_i64, wrap_u8, wrap_i32, List.getElem?_cons_zero, List.getElem?_cons_succ, hc, hd, hi0]
          refine callM [(1000, 3), (1001, 1)] [] (hw c) rfl rfl ⟨rfl, rfl, trivial⟩ ⟨rfl, _, _, rfl, rfl, rfl⟩ rfl ?_
          simp [bldObs, hi2]
          simp (disch := omega) [br_yes, br_no, wrap_i64, wrap_u8, wrap_i32, List.getElem?_cons_zero, List.getElem?_cons_succ, hi2]
          refine loopEnd (i + 2, a ++ [94]) ⟨by simp; omega, by simp; omega, hs'⟩ (by simp; omega) ?_
          simp [hce]
          exact weak_drop rfl rfl (by simp [EnvLe, getE, look]) (by simp [ObLe, look]) (by simp [roOk])
        · by_cases d2 : d.toNat = 110
          · have hs' := k2 d2
            simp (disch := omega) [br_yes, br_no, wrap_i64, wrap_u8, wrap_i32, List.getElem?_cons_zero, List.getElem?_cons_succ, hc, hd, hi0]
            refine callM [(1000, 3), (1001, 1)] [] (hw 10) rfl rfl ⟨rfl, rfl, trivial⟩ ⟨rfl, _, _, rfl, rfl, rfl⟩ rfl ?_
            simp [bldObs, hi2]
            simp (disch := omega) [br_yes, br_no, wrap_i64, wrap_u8, wrap_i32, List.getElem?_cons_zero, List.getElem?_cons_succ, hi2]
            refine loopEnd (i + 2, a ++ [10]) ⟨by simp; omega, by simp; omega, hs'⟩ (by simp; omega) ?_
            simp
            exact weak_drop rfl rfl (by simp [EnvLe, getE, look]) (by simp [ObLe, look]) (by simp [roOk])
          · by_cases d3 : d.toNat = 39
            · have hs' := k3 d3
              simp (disch := omega) [br_yes, br_no, wrap_i64, wrap_u8, wrap_i32, List.getElem?_cons_zero, List.getElem?_cons_succ, hc, hd, hi0]
              refine callM [(1000, 3), (1001, 1)] [] (hw 34) rfl rfl ⟨rfl, rfl, trivial⟩ ⟨rfl, _, _, rfl, rfl, rfl⟩ rfl ?_
              simp [bldObs, hi2]
              simp (disch := omega) [br_yes, br_no, wrap_i64, wrap_u8, wrap_i32, List.getElem?_cons_zero, List.getElem?_cons_succ, hi2]
              refine loopEnd (i + 2, a ++ [34]) ⟨by simp; omega, by simp; omega, hs'⟩ (by simp; omega) ?_
              simp
              exact weak_drop rfl rfl (by simp [EnvLe, getE, look]) (by simp [ObLe, look]) (by simp [roOk])
            · have hs' := k4 d1 d2 d3
              simp (disch := omega) [br_yes, br_no, wrap_i64, wrap_u8, wrap_i32, List.getElem?_cons_zero, List.getElem?_cons_succ, hc, hd, hi0]
              refine callM [(1000, 3), (1001, 1)] [] (hw c) rfl rfl ⟨rfl, rfl, trivial⟩ ⟨rfl, _, _, rfl, rfl, rfl⟩ rfl ?_
              simp [bldObs, hi2]
              simp (disch := omega) [br_yes, br_no, wrap_i64, wrap_u8, wrap_i32, List.getElem?_cons_zero, List.getElem?_cons_succ, hi2]
              refine loopEnd (i + 1, a ++ [c]) ⟨by simp; omega, by simp; omega, hs'⟩ (by simp; omega) ?_
              simp
              exact weak_drop rfl rfl (by simp [EnvLe, getE, look]) (by simp [ObLe, look]) (by simp [roOk])
      · have hs' := hst.1 (.inr h2)
        simp (disch := omega) [br_yes, br_no, wrap_i64, wrap_u8, wrap_i32, List.getElem?_cons_zero, List.getElem?_cons_succ, hc, hi0]
        refine callM [(1000, 3), (1001, 1)] [] (hw c) rfl rfl ⟨rfl, rfl, trivial⟩ ⟨rfl, _, _, rfl, rfl, rfl⟩ rfl ?_
        simp [bldObs, hi2]
        simp (disch := omega) [br_yes, br_no, wrap_i64, wrap_u8, wrap_i32, List.getElem?_cons_zero, List.getElem?_cons_succ, hi2]
        refine loopEnd (i + 1, a ++ [c]) ⟨by simp; omega, by simp; omega, hs'⟩ (by simp; omega) ?_
        simp
        exact weak_drop rfl rfl (by simp [EnvLe, getE, look]) (by simp [ObLe, look]) (by simp [roOk])
    · have hs' := hst.1 (.inl h1)
      simp (disch := omega) [br_yes, br_no, wrap_i64, wrap_u8, wrap_i32, List.getElem?_cons_zero, List.getElem?_cons_succ, hc, hi0]
      refine callM [(1000, 3), (1001, 1)] [] (hw c) rfl rfl ⟨rfl, rfl, trivial⟩ ⟨rfl, _, _, rfl, rfl, rfl⟩ rfl ?_
      simp [bldObs, hi2]
      simp (disch := omega) [br_yes, br_no, wrap_i64, wrap_u8, wrap_i32, List.getElem?_cons_zero, List.getElem?_cons_succ, hi2]
      refine loopEnd (i + 1, a ++ [c]) ⟨by simp; omega, by simp; omega, hs'⟩ (by simp; omega) ?_
      simp
      exact weak_drop rfl rfl (by simp [EnvLe, getE, look]) (by simp [ObLe, look]) (by simp [roOk])
  · obtain rfl : i = s.length := by omega
    have hr : a = meant s := by simpa [meant] using ha
    subst hr
    simp (disch := omega) [br_yes, br_no, wrap_i64, wrap_u8, wrap_i32, List.getElem?_cons_zero, List.getElem?_cons_succ]
    refine callM [(1000,3),(1001,1)] [] (fnM_String (meant s).length (meant s) (by omega)) rfl rfl (by simp [mObjs, bldObs, Vs.ren, look, Ob.ren, SV.ren]) ⟨rfl, rfl⟩ rfl ?_
    simp
theorem take_one {s : Str} {i : Nat} {c : UInt8} (h : i < s.length) (hc : s[i] = c) : List.drop i (List.take (i + 1) s) = [c] := by
  rw [List.drop_take, show i + 1 - i = 1 by omega, List.drop_eq_getElem_cons (by omega), hc]; rfl
end Go.Vs.YtbchceojmblkkaaGreatDoor
namespace Go.Vs.YtbchceojmblkkaaGreatDoor
set_option linter.unusedSimpArgs false
set_option linter.unusedVariables false
open Go.Proofs Go.Vs.U8 Go.Vs.Pa
set_option maxRecDepth 100000
set_option maxHeartbeats 4000000
/-- One byte, written. -/
def esc1 (c : UInt8) : Str := if c.toNat = 94 then [94, 94] else if c.toNat = 10 then [94, 110] else if c.toNat = 34 then [94, 39] else [c]
theorem esc_cons (c : UInt8) (s : Str) : esc (c :: s) = esc1 c ++ esc s := rfl
theorem esc_append (s t : Str) : esc (s ++ t) = esc s ++ esc t := by
  induction s with
  | nil => rfl
  | cons c r ih => simp [esc_cons, ih]
theorem esc_len (s : Str) : (esc s).length ≤ 2 * s.length := by
  induction s with
  | nil => simp [esc]
  | cons c r ih =>
    have : (esc1 c).length ≤ 2 := by
      simp only [esc1]
      repeat' split
      all_goals simp
    show (esc1 c ++ esc r).length ≤ 2 * (c :: r).length
    simp only [List.length_append, List.length_cons]
    omega
theorem esc_take {s : Str} {i : Nat} {c : UInt8} (h : i < s.length) (hc : s[i] = c) : esc (s.take (i + 1)) = esc (s.take i) ++ esc1 c := by
  rw [List.take_succ_eq_append_getElem h, esc_append, hc]; simp [esc, esc1]
theorem esc1_cases (c : UInt8) : (c.toNat = 94 ∧ esc1 c = [94, 94]) ∨ (c.toNat ≠ 94 ∧ c.toNat = 10 ∧ esc1 c = [94, 110]) ∨ (c.toNat ≠ 94 ∧ c.toNat ≠ 10 ∧ c.toNat = 34 ∧ esc1 c = [94, 39]) ∨ (c.toNat ≠ 94 ∧ c.toNat ≠ 10 ∧ c.toNat ≠ 34 ∧ esc1 c = [c]) := by
  by_cases h1 : c.toNat = 94
  · simp [esc1, h1]
  · by_cases h2 : c.toNat = 10
    · simp [esc1, h2]
    · by_cases h3 : c.toNat = 34
      · simp [esc1, h3]
      · simp [esc1, h1, h2, h3]
end Go.Vs.YtbchceojmblkkaaGreatDoor
namespace Go.Vs.YtbchceojmblkkaaGreatDoor
set_option linter.unusedSimpArgs false
set_option linter.unusedVariables false
open Go.Proofs Go.Vs.U8 Go.Vs.Pa
set_option maxRecDepth 100000
set_option maxHeartbeats 4000000
@[simp] theorem esc_nil : esc [] = [] := rfl
theorem fnM_caret (v : Nat) (l : Str) (c : UInt8) (hl : l.length < 900000) : FnM G Tryz.prog k_param_written_1
    { args := [.val (.int .u8 c.toNat), .selfN 1000 208 true], objs := bldObs v l, res := .val (.tuple []), objs' := bldObs (v + 2) (l ++ [94, c]), ro' := [] } := by
  refine fnM_intro hm ok_param_written_1 (by simp) rfl ?_
  simp [c_param_written_1, r_param_written_1, bldObs, stM]
  refine callM [] [] (fnM_WriteByte v l 94 (by omega)) rfl rfl ⟨rfl, rfl, trivial⟩ ⟨rfl, _, _, rfl, rfl, rfl⟩ rfl ?_
  simp [bldObs]
  refine callM [] [] (fnM_WriteByte (v + 1) (l ++ [94]) c (by simp; omega)) rfl rfl ⟨rfl, rfl, trivial⟩ ⟨rfl, _, _, rfl, rfl, rfl⟩ rfl ?_
  simp [fnPostM, bldObs]
  exact ⟨⟨[], [(1000, .box [.selfN 1000 208 false, .ownT 1001 (v + 2) 5]), (1001, .arr (v + 2) 1 (byteRows (l ++ [94, c])))], [], 6, G⟩, (by exact weak_drop rfl rfl (by simp [EnvLe, getE, look]) (by simp [ObLe, look]) (by simp [roOk])), rfl, [], rfl, rfl, rfl⟩
theorem fn_written (s : Str) (hs : s.length < 100000) (hC : Fn G Tryz.prog k_strings_ContainsAny [.str s, .str [44, 58, 59]] (.bool (s.any stp))) : Fn G Tryz.prog k_param_written [.str s] (.str (write s)) := by
  refine fn_intro hm ok_param_written (by simp) ?_
  simp [c_param_written, r_param_written]
  refine loopU hm [] (fun i : Nat => [(5, .val (.int .i64 i))]) (fun i => [(3, .box [.selfN 3 208 false, .ownT 1 (esc (s.take i)).length 5]), (1, .arr (esc (s.take i)).length 1 (byteRows (esc (s.take i))))]) (fun i => i ≤ s.length) (fun i => s.length - i) 0 (by omega) ?_ ?_
  · exact Weak.trans (weak_bld (k := 3) (d := 3) (t := 208) 1 5 (by simp) (by simp) (by simp [getE, look]) (by simp [look]) (by simp)) (weak_drop rfl rfl (by simp [St.bld, EnvLe, getE, look, put, eraseE, SV.erase]) (by simp [St.bld, ObLe, look, put, eraseO, eraseL, Ob.erase, SV.erase, byteRows]) (by simp [St.bld, roOk]))
  rintro i hi
  simp
  by_cases h : i < s.length
  · obtain ⟨c, hc⟩ : ∃ c, s[i] = c := ⟨_, rfl⟩
    have he := esc_take h hc
    have hl := esc_len (s.take i)
    rw [List.length_take] at hl
    have hla : (esc (s.take i)).length < 900000 := by omega
    have hK := fun d : UInt8 => fnM_caret (esc (s.take i)).length (esc (s.take i)) d hla
    have hW := fun d : UInt8 => fnM_WriteByte (esc (s.take i)).length (esc (s.take i)) d (by omega)
    rcases esc1_cases c with h1 | h1 | h1 | h1
    · simp (disch := omega) [br_yes, br_no, wrap_i64, wrap_u8, wrap_i32, List.getElem?_cons_zero, List.getElem?_cons_succ, hc]
      refine callM [(1000, 3), (1001, 1)] [] (hK 94) rfl rfl ⟨rfl, rfl, trivial⟩ ⟨_, _, rfl, ⟨rfl, rfl⟩, rfl⟩ rfl ?_
      simp [bldObs]
      simp (disch := omega) [br_yes, br_no, wrap_i64, wrap_u8, wrap_i32, List.getElem?_cons_zero, List.getElem?_cons_succ]
      refine loopEnd (i + 1) (by omega) (by omega) ?_
      simp [he, h1]
      exact weak_drop rfl rfl (by simp [EnvLe, getE, look]) (by simp [ObLe, look]) (by simp [roOk])
    · simp (disch := omega) [br_yes, br_no, wrap_i64, wrap_u8, wrap_i32, List.getElem?_cons_zero, List.getElem?_cons_succ, hc]
      refine callM [(1000, 3), (1001, 1)] [] (hK 110) rfl rfl ⟨rfl, rfl, trivial⟩ ⟨_, _, rfl, ⟨rfl, rfl⟩, rfl⟩ rfl ?_
      simp [bldObs]
      simp (disch := omega) [br_yes, br_no, wrap_i64, wrap_u8, wrap_i32, List.getElem?_cons_zero, List.getElem?_cons_succ]
      refine loopEnd (i + 1) (by omega) (by omega) ?_
      simp [he, h1]
      exact weak_drop rfl rfl (by simp [EnvLe, getE, look]) (by simp [ObLe, look]) (by simp [roOk])
    · simp (disch := omega) [br_yes, br_no, wrap_i64, wrap_u8, wrap_i32, List.getElem?_cons_zero, List.getElem?_cons_succ, hc]
      refine callM [(1000, 3), (1001, 1)] [] (hK 39) rfl rfl ⟨rfl, rfl, trivial⟩ ⟨_, _, rfl, ⟨rfl, rfl⟩, rfl⟩ rfl ?_
      simp [bldObs]
      simp (disch := omega) [br_yes, br_no, wrap_i64, wrap_u8, wrap_i32, List.getElem?_cons_zero, List.getElem?_cons_succ]
      refine loopEnd (i + 1) (by omega) (by omega) ?_
      simp [he, h1]
      exact weak_drop rfl rfl (by simp [EnvLe, getE, look]) (by simp [ObLe, look]) (by simp [roOk])
    · simp (disch := omega) [br_yes, br_no, wrap_i64, wrap_u8, wrap_i32, List.getElem?_cons_zero, List.getElem?_cons_succ, hc]
      refine callM [(1000, 3), (1001, 1)] [] (hW c) rfl rfl ⟨rfl, rfl, trivial⟩ ⟨rfl, _, _, rfl, rfl, rfl⟩ rfl ?_
      simp [bldObs]
      simp (disch := omega) [br_yes, br_no, wrap_i64, wrap_u8, wrap_i32, List.getElem?_cons_zero, List.getElem?_cons_succ]
      refine loopEnd (i + 1) (by omega) (by omega) ?_
      simp [he, h1]
      exact weak_drop rfl rfl (by simp [EnvLe, getE, look]) (by simp [ObLe, look]) (by simp [roOk])
  · obtain rfl : i = s.length := by omega
    have hl := esc_len s
    have hla : (esc s).length ≤ 9223372036854775800 := by omega
    have hw : write s = if s.any stp then 34 :: (esc s ++ [34]) else esc s := rfl
    simp (disch := omega) [br_yes, br_no, wrap_i64, wrap_u8, wrap_i32, List.getElem?_cons_zero, List.getElem?_cons_succ]
    refine callM [(1000,3),(1001,1)] [] (fnM_String (esc s).length (esc s) (by omega)) rfl rfl (by simp [mObjs, bldObs, Vs.ren, look, Ob.ren, SV.ren]) ⟨rfl, rfl⟩ rfl ?_
    simp
    refine callW_imm hC ?_
    cases ha : s.any stp with
    | true =>
      rw [ha] at hw
      simp (disch := omega) [br_yes, br_no, wrap_i64, wrap_u8, wrap_i32, List.getElem?_cons_zero, List.getElem?_cons_succ, ha, hw]
      omega
    | false =>
      rw [ha] at hw
      simp (disch := omega) [br_yes, br_no, wrap_i64, wrap_u8, wrap_i32, List.getElem?_cons_zero, List.getElem?_cons_succ, ha, hw]
end Go.Vs.YtbchceojmblkkaaGreatDoor
