/- The walk of line, part 5: lines read. No conditions. -/
import Derived.Test.YtbchceojmblkkaaGreatDoorCC
import Derived.Test.YtbchceojmblkkaaGreatDoorBP
set_option linter.unusedVariables false
set_option linter.unusedSimpArgs false
namespace Go.Vs.YtbchceojmblkkaaGreatDoor
set_option linter.unusedSimpArgs false
set_option linter.unusedVariables false
open Go.Proofs Go.Vs.U8 Go.Vs.Pa
set_option maxRecDepth 100000
set_option maxHeartbeats 8000000
theorem nameB_one (c : UInt8) : nameB (upper [c]) = nmd c := by
  have h := nmd_up c
  show (decide (1 ≤ (upper [c]).length) && decide ((upper [c]).length ≤ 24) && (upper [c]).all sgn) = nmd c
  have e : upper [c] = [Pa.upB c] := rfl
  rw [e]
  simp [h]
theorem fn_head (s : Str) (hs : s.length < 1000000) : Fn G Tryz.prog k_line_head [.str s] (.int .i64 (named s)) := by
  refine fn_intro hm ok_line_head (by simp) ?_
  simp [c_line_head, r_line_head]
  refine loopU hm [] (fun k : Nat => [(6, .val (.int .i64 k))]) (fun _ => []) (fun k => k ≤ s.length ∧ k + named (s.drop k) = named s) (fun k => s.length - k) 0 ⟨by omega, by simp⟩ ?_ ?_
  · simp
    exact weak_drop rfl rfl (by simp [EnvLe, getE, look]) (by simp [ObLe, look]) (by simp [roOk])
  rintro k ⟨hk, hkn⟩
  simp
  by_cases h : k < s.length
  · obtain ⟨c, hc⟩ : ∃ c, s[k] = c := ⟨_, rfl⟩
    have hU := fn_Upper [c] (by simp)
    have hN := fn_Name (upper [c]) (by simp [upper])
    rw [nameB_one] at hN
    rw [named_at h hc] at hkn
    simp (disch := omega) [br_yes, br_no, wrap_i64, wrap_u8, wrap_i32, List.getElem?_cons_zero, List.getElem?_cons_succ]
    try refine ⟨by omega, ?_⟩
    rw [take_one h hc]
    refine callW_imm hU ?_
    simp
    refine callW_imm hN ?_
    cases hn : nmd c with
    | true =>
      rw [hn] at hkn
      simp (disch := omega) [br_yes, br_no, wrap_i64, wrap_u8, wrap_i32, List.getElem?_cons_zero, List.getElem?_cons_succ]
      refine loopEnd (k + 1) ⟨by omega, by simp at hkn; omega⟩ (by omega) ?_
      simp
      exact weak_drop rfl rfl (by simp [EnvLe, getE, look]) (by simp [ObLe, look]) (by simp [roOk])
    | false =>
      rw [hn] at hkn
      have : named s = k := by simp at hkn; omega
      rw [this]
      simp (disch := omega) [br_yes, br_no, wrap_i64, wrap_u8, wrap_i32, List.getElem?_cons_zero, List.getElem?_cons_succ]
  · have hd : s.drop k = [] := List.drop_eq_nil_of_le (by omega)
    rw [hd] at hkn
    have : named s = s.length := by simp [named] at hkn; omega
    rw [this]
    simp (disch := omega) [br_yes, br_no, wrap_i64, wrap_u8, wrap_i32, List.getElem?_cons_zero, List.getElem?_cons_succ]
theorem fn_moved (e : Int) (p : Int) (ps : List Int) (a : Int) : Fn G Tryz.prog k_line_moved [errIV e (p :: ps), .int .i64 a] (errIV e (a :: p :: ps)) := by
  refine fn_intro hm ok_line_moved (by simp) ?_
  have hA := fnM_As_pf .nilp [.int .i64 p, errIV e ps]
  have hI := fn_In e (p :: ps) a
  obtain ⟨t, v, hv⟩ := errIV_not_nil e ps
  simp [c_line_moved, r_line_moved]
  simp only [errIV] at hI ⊢
  refine callM [(1000, 5)] [] hA rfl rfl ⟨rfl, trivial⟩ ⟨[], [], rfl, ⟨rfl, rfl⟩, rfl⟩ rfl ?_
  simp (disch := omega) [br_yes, br_no, wrap_i64, wrap_u8, wrap_i32, List.getElem?_cons_zero, List.getElem?_cons_succ]
  refine callW_imm hI ?_
  simp (disch := omega) [br_yes, br_no, wrap_i64, wrap_u8, wrap_i32, List.getElem?_cons_zero, List.getElem?_cons_succ]
  rfl
inductive GotX where
  | no (e : Int) (ps : List Int)
  | ok (x : Ln)
/-- The line that a text is, or the error and its places. -/
def lineR (s : Str) : GotX :=
  let k := named s
  if k = 0 ∨ 24 < k then .no 4 [0]
  else match parseR (s.drop k) 6 0 [] with
  | .no e p => .no e [(k : Int), p]
  | .ok l n =>
    if s[k + n]? = some 58 then
      if 200 < (s.drop (k + n + 1)).length then .no 5 [((k + n + 1 : Nat) : Int)]
      else match odd (s.drop (k + n + 1)) with
        | some i => .no 10 [((k + n + 1 + i : Nat) : Int)]
        | none => .ok ⟨upper (s.take k), l, s.drop (k + n + 1)⟩
    else .no 4 [((k + n : Nat) : Int)]
def ln0 : Ln := ⟨[], [], []⟩
def lineI : GotX → IV
  | .no e ps => .tuple [ln0.iv, errIV e ps]
  | .ok x => .tuple [x.iv, .nili]
theorem fn_lParse (s : Str) (hs : s.length < 100000) : Fn G Tryz.prog k_line_Parse [.str s] (lineI (lineR s)) := by
  refine fn_intro hm ok_line_Parse (by simp) ?_
  have hH := fn_head s (by omega)
  obtain ⟨k, hk⟩ : ∃ k, named s = k := ⟨_, rfl⟩
  have hkl := named_le s
  rw [hk] at hkl hH
  simp [c_line_Parse, r_line_Parse]
  refine callW_imm hH ?_
  by_cases h1 : k = 0 ∨ 24 < k
  · have hR : lineR s = .no 4 [0] := by simp only [lineR, hk, if_pos h1]
    have hE := fn_New 4 0
    rw [if_neg (by omega)] at hE
    rw [hR]
    rcases h1 with h1 | h1
    · simp (disch := omega) [br_yes, br_no, wrap_i64, wrap_u8, wrap_i32, List.getElem?_cons_zero, List.getElem?_cons_succ, h1]
      refine callW_imm hE ?_
      simp [lineI, ln0, Ln.iv, ps]
    · simp (disch := omega) [br_yes, br_no, wrap_i64, wrap_u8, wrap_i32, List.getElem?_cons_zero, List.getElem?_cons_succ]
      refine callW_imm hE ?_
      simp [lineI, ln0, Ln.iv, ps]
  · have hP := fn_Parse (s.drop k) (by simp; omega)
    simp (disch := omega) [br_yes, br_no, wrap_i64, wrap_u8, wrap_i32, List.getElem?_cons_zero, List.getElem?_cons_succ]
    try refine ⟨by omega, ?_⟩
    refine callW_imm hP ?_
    cases hp : parseR (s.drop k) 6 0 [] with
    | no e p =>
      have hR : lineR s = .no e [(k : Int), p] := by simp only [lineR, hk, if_neg h1, hp]
      have hM := fn_moved e p [] k
      rw [hR]
      obtain ⟨et, ev, he⟩ := errIV_not_nil e [p]
      rw [he] at hM
      simp [parseI, he]
      refine callW_imm hM ?_
      simp [lineI, ln0, Ln.iv, ps]
    | ok l n =>
      obtain ⟨h2, h3, h4⟩ := parseR_ok (s.drop k) 6 0 [] l n (by omega) (by intro p hp; simp at hp) hp
      rw [List.length_drop] at h2
      have e0 : (0 : Int) ≤ (k : Int) + n := by omega
      have e1 : ((k : Int) + n).toNat = k + n := by omega
      have e2 : ((k : Int) + n + 1).toNat = k + n + 1 := by omega
      by_cases h5 : s[k + n]? = some 58
      · obtain ⟨h6, h7⟩ := List.getElem?_eq_some_iff.1 h5
        by_cases h8 : 200 < (s.drop (k + n + 1)).length
        · have hR : lineR s = .no 5 [((k + n + 1 : Nat) : Int)] := by simp only [lineR, hk, if_neg h1, hp, if_pos h5, if_pos h8]
          have hE := fn_New 5 ((k : Int) + n + 1)
          rw [if_neg (by omega)] at hE
          rw [List.length_drop] at h8
          rw [hR]
          simp (disch := omega) [br_yes, br_no, wrap_i64, wrap_u8, wrap_i32, List.getElem?_cons_zero, List.getElem?_cons_succ, parseI, e0, e1, e2, h7]
          try refine ⟨by omega, ?_⟩
          try simp (disch := omega) [br_yes, br_no, wrap_i64, wrap_u8, wrap_i32, List.getElem?_cons_zero, List.getElem?_cons_succ]
          refine callW_imm hE ?_
          simp [lineI, ln0, Ln.iv, ps]
        · have hO := fn_Odd (s.drop (k + n + 1)) (by simp; omega)
          have h8' := h8
          rw [List.length_drop] at h8'
          simp (disch := omega) [br_yes, br_no, wrap_i64, wrap_u8, wrap_i32, List.getElem?_cons_zero, List.getElem?_cons_succ, parseI, e0, e1, e2, h7]
          try refine ⟨by omega, ?_⟩
          try simp (disch := omega) [br_yes, br_no, wrap_i64, wrap_u8, wrap_i32, List.getElem?_cons_zero, List.getElem?_cons_succ]
          refine callW_imm hO ?_
          cases ho : odd (s.drop (k + n + 1)) with
          | some i =>
            have hil := odd_lt _ _ (Nat.le_refl _) i ho
            rw [List.length_drop] at hil
            have hR : lineR s = .no 10 [((k + n + 1 + i : Nat) : Int)] := by simp only [lineR, hk, if_neg h1, hp, if_pos h5, if_neg h8, ho]
            have hE := fn_New 10 ((k : Int) + n + 1 + i)
            rw [if_neg (by omega)] at hE
            rw [hR]
            simp (disch := omega) [br_yes, br_no, wrap_i64, wrap_u8, wrap_i32, List.getElem?_cons_zero, List.getElem?_cons_succ, oddI]
            refine callW_imm hE ?_
            simp [lineI, ln0, Ln.iv, ps]
          | none =>
            have hR : lineR s = .ok ⟨upper (s.take k), l, s.drop (k + n + 1)⟩ := by simp only [lineR, hk, if_neg h1, hp, if_pos h5, if_neg h8, ho]
            have hU := fn_Upper (s.take k) (by simp; omega)
            rw [hR]
            simp (disch := omega) [br_yes, br_no, wrap_i64, wrap_u8, wrap_i32, List.getElem?_cons_zero, List.getElem?_cons_succ, oddI]
            try refine ⟨by omega, ?_⟩
            refine callW_imm hU ?_
            simp [lineI, Ln.iv]
      · have hR : lineR s = .no 4 [((k + n : Nat) : Int)] := by simp only [lineR, hk, if_neg h1, hp, if_neg h5]
        have hE := fn_New 4 ((k : Int) + n)
        rw [if_neg (by omega)] at hE
        rw [hR]
        by_cases h6 : k + n < s.length
        · obtain ⟨c, hc⟩ : ∃ c, s[k + n] = c := ⟨_, rfl⟩
          have hcn : c.toNat ≠ 58 := fun e => h5 (by rw [List.getElem?_eq_getElem h6, hc, UInt8.toNat_inj.1 (show c.toNat = (58 : UInt8).toNat from e)])
          simp (disch := omega) [br_yes, br_no, wrap_i64, wrap_u8, wrap_i32, List.getElem?_cons_zero, List.getElem?_cons_succ, parseI, e0, e1, hc]
          refine callW_imm hE ?_
          simp [lineI, ln0, Ln.iv, ps]
        · simp (disch := omega) [br_yes, br_no, wrap_i64, wrap_u8, wrap_i32, List.getElem?_cons_zero, List.getElem?_cons_succ, parseI]
          refine callW_imm hE ?_
          simp [lineI, ln0, Ln.iv, ps]
end Go.Vs.YtbchceojmblkkaaGreatDoor
