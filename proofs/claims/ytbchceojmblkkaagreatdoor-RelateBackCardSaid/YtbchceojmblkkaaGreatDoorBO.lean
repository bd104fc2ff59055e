/- The walk of param, part 14: one parameter read. No conditions. -/
import Derived.Test.YtbchceojmblkkaaGreatDoorBV
import Derived.Test.YtbchceojmblkkaaGreatDoorBQ
set_option linter.unusedVariables false
set_option linter.unusedSimpArgs false
namespace Go.Vs.YtbchceojmblkkaaGreatDoor
set_option linter.unusedSimpArgs false
set_option linter.unusedVariables false
open Go.Proofs Go.Vs.U8 Go.Vs.Pa
set_option maxRecDepth 100000
set_option maxHeartbeats 8000000
inductive GotV where
  | no (e : Int) (p : Int)
  | ok (v : List Str) (n : Nat)
/-- The values from a place on; so many more there may be. -/
def valsR (s : Str) : Nat → Nat → List Str → GotV
  | 0, a, _ => .no 20 a
  | m + 1, a, vs => match valueR s a with
    | .no e p => .no e p
    | .ok v n => if s[n]? = some 44 then valsR s m (n + 1) (vs ++ [v]) else .ok (vs ++ [v]) n
inductive GotP where
  | no (e : Int) (p : Int)
  | ok (p : Pm) (n : Nat)
def oneR (s : Str) (a : Nat) (l : List Pm) : GotP :=
  let k := named (s.drop a)
  if k = 0 ∨ 24 < k then .no 4 a
  else
    let n := upper ((s.drop a).take k)
    if hasN l n then .no 19 a
    else if s[a + k]? = some 61 then
      match valsR s 6 (a + k + 1) [] with
      | .no e p => .no e p
      | .ok v j => .ok ⟨n, v⟩ j
    else .no 4 (a + k : Nat)
def TellsP (g : GotP) (r : IV) : Prop := match g with
  | .no e p => r = .tuple [(⟨[], []⟩ : Pm).iv, .int .i64 0, errIV e [p]]
  | .ok p n => r = .tuple [p.iv, .int .i64 n, .nili]
theorem valueR_le {s : Str} {a : Nat} {v : Str} {n : Nat} (ha : a ≤ s.length) (h : valueR s a = .ok v n) : n ≤ s.length := by
  simp only [valueR] at h
  split at h
  · have hl := run_le notq (s.drop (a + 1))
    rw [List.length_drop] at hl
    next h0 =>
    obtain ⟨hal, _⟩ := List.getElem?_eq_some_iff.1 h0
    split at h
    · cases h
    · next hne =>
      rw [List.length_drop] at hne
      split at h
      · cases h
      · split at h
        · cases h; omega
        · cases h
  · have hl := run_le plain (s.drop a)
    rw [List.length_drop] at hl
    split at h
    · cases h
    · split at h
      · cases h
      · cases h; omega
/-- What comes of the values, told at the loop's head. -/
def stR (s : Str) (x : Nat × List Str) : GotV := if x.2 = [] ∨ s[x.1]? = some 44 then valsR s (6 - x.2.length) (x.1 + 1) x.2 else .ok x.2 x.1
theorem stR_go {s : Str} {x : Nat × List Str} {m : Nat} {v : Str} {j : Nat} (h : x.2 = [] ∨ s[x.1]? = some 44) (hl : x.2.length < 6) (hv : valueR s (x.1 + 1) = .ok v j) : stR s (j, x.2 ++ [v]) = stR s x := by
  obtain ⟨m, hm⟩ : ∃ m, 6 - x.2.length = m + 1 := ⟨5 - x.2.length, by omega⟩
  have e : stR s x = valsR s (m + 1) (x.1 + 1) x.2 := by rw [stR, if_pos h, hm]
  rw [e, valsR, hv]
  simp only [stR]
  have : 6 - (x.2 ++ [v]).length = m := by simp; omega
  simp [this]
  rw [show 5 - x.2.length = m by omega]
theorem fn_one (s : Str) (a : Nat) (l : List Pm) (hs : s.length < 100000) (ha : a ≤ s.length) (hl : l.length < 1000000) (hf : Fit l) : ∃ r, Fn G Tryz.prog k_param_one [.str s, .int .i64 a, .slice (ps l)] r ∧ TellsP (oneR s a l) r := by
  obtain ⟨k, hk⟩ : ∃ k, named (s.drop a) = k := ⟨_, rfl⟩
  have hkl := named_le (s.drop a)
  rw [List.length_drop, hk] at hkl
  have hN := fn_named (s.drop a) (by simp; omega)
  rw [hk] at hN
  by_cases h1 : k = 0 ∨ 24 < k
  · have hR : oneR s a l = .no 4 a := by simp only [oneR, hk, if_pos h1]
    have hE := fn_New 4 (a : Int)
    rw [if_neg (by omega)] at hE
    refine ⟨_, ?_, by rw [hR]; rfl⟩
    refine fn_intro hm ok_param_one (by simp) ?_
    simp [c_param_one, r_param_one]
    refine ⟨ha, ?_⟩
    refine callW_imm hN ?_
    rcases h1 with h1 | h1
    · simp (disch := omega) [br_yes, br_no, wrap_i64, wrap_u8, wrap_i32, List.getElem?_cons_zero, List.getElem?_cons_succ, h1]
      refine callW_imm hE ?_
      simp [Pm.iv]
      rfl
    · simp (disch := omega) [br_yes, br_no, wrap_i64, wrap_u8, wrap_i32, List.getElem?_cons_zero, List.getElem?_cons_succ]
      refine callW_imm hE ?_
      simp [Pm.iv]
      rfl
  · obtain ⟨n, hn⟩ : ∃ n, upper ((s.drop a).take k) = n := ⟨_, rfl⟩
    have hU := fn_Upper ((s.drop a).take k) (by simp; omega)
    rw [hn] at hU
    have hF := fn_Find l n hl (fun p hp => by have := hf.v p hp; omega)
    have hhf := has_find l n
    cases hh : findP l n with
    | some q =>
      rw [hh] at hhf hF
      have hR : oneR s a l = .no 19 a := by simp only [oneR, hk, if_neg h1, hn, hhf]; rfl
      have hE := fn_New 19 (a : Int)
      rw [if_neg (by omega)] at hE
      refine ⟨_, ?_, by rw [hR]; rfl⟩
      refine fn_intro hm ok_param_one (by simp) ?_
      simp [c_param_one, r_param_one]
      refine ⟨ha, ?_⟩
      refine callW_imm hN ?_
      simp (disch := omega) [br_yes, br_no, wrap_i64, wrap_u8, wrap_i32, List.getElem?_cons_zero, List.getElem?_cons_succ]
      refine ⟨by omega, by omega, ?_⟩
      refine callW_imm hU ?_
      simp (disch := omega) [br_yes, br_no, wrap_i64, wrap_u8, wrap_i32, List.getElem?_cons_zero, List.getElem?_cons_succ]
      refine callW_imm hF ?_
      simp [foundI, Pm.iv]
      refine callW_imm hE ?_
      simp
      rfl
    | none =>
      rw [hh] at hhf hF
      by_cases h2 : s[a + k]? = some 61
      · obtain ⟨h3, h4⟩ := List.getElem?_eq_some_iff.1 h2
        have hR : oneR s a l = match valsR s 6 (a + k + 1) [] with
          | .no e p => .no e p
          | .ok v j => .ok ⟨n, v⟩ j := by
          simp only [oneR, hk, if_neg h1, hn, hhf, if_pos h2]
          rfl
        have key : ∀ r : IV, TellsP (oneR s a l) r → Fn G Tryz.prog k_param_one [.str s, .int .i64 a, .slice (ps l)] r := by
          intro r hr
          refine fn_intro hm ok_param_one (by simp) ?_
          simp [c_param_one, r_param_one]
          refine ⟨ha, ?_⟩
          refine callW_imm hN ?_
          simp (disch := omega) [br_yes, br_no, wrap_i64, wrap_u8, wrap_i32, List.getElem?_cons_zero, List.getElem?_cons_succ]
          refine ⟨by omega, by omega, ?_⟩
          refine callW_imm hU ?_
          simp (disch := omega) [br_yes, br_no, wrap_i64, wrap_u8, wrap_i32, List.getElem?_cons_zero, List.getElem?_cons_succ]
          refine callW_imm hF ?_
          have hi0 : (0 : Int) ≤ (a : Int) + k := by omega
          have e1 : ((a : Int) + k).toNat = a + k := by omega
          simp (disch := omega) [br_yes, br_no, wrap_i64, wrap_u8, wrap_i32, List.getElem?_cons_zero, List.getElem?_cons_succ, foundI, Pm.iv, hi0, e1, h4]
          refine loopU hm [] (fun x : Nat × List Str => [(1, .val (.int .i64 x.1)), (13, .val (.bool (decide (x.2 = []))))]) (fun x => if x.2 = [] then [(11, .box [.val (.str []), .val (.slice (ts []))]), (10, .box [.val (.str n), .nils])] else [(11, .box [.val (.str []), .val (.slice (ts []))]), (10, .box [.val (.str n), .own 101 (x.2.length - 1)]), (101, .arr (x.2.length - 1) 1 (ts x.2))]) (fun x => x.1 ≤ s.length ∧ (x.2 = [] → x.1 < s.length) ∧ x.2.length ≤ 6 ∧ stR s x = valsR s 6 (a + k + 1) []) (fun x => 6 - x.2.length) (a + k, []) ⟨by simp; omega, by simp; omega, by simp, by simp [stR]⟩ ?_ ?_
          · simp
            exact weak_drop rfl rfl (by simp [EnvLe, getE, look]) (by simp [ObLe, look]) (by simp [roOk])
          rintro ⟨t, vs⟩ ⟨ht, ht0, hvl, hst⟩
          simp at ht ht0 hvl
          have ht1 : (0 : Int) ≤ (t : Int) + 1 := by omega
          by_cases hv0 : vs = []
          · subst hv0
            have htl := ht0 rfl
            obtain ⟨w, hw1, hw2⟩ := fn_value s (t + 1) (by omega) hs
            rw [show ((t + 1 : Nat) : Int) = (t : Int) + 1 by omega] at hw1
            simp
            simp (disch := omega) [br_yes, br_no, wrap_i64, wrap_u8, wrap_i32, List.getElem?_cons_zero, List.getElem?_cons_succ]
            refine callW_imm hw1 ?_
            cases hg : valueR s (t + 1) with
            | no e p =>
              have hno : stR s (t, []) = .no e p := by simp [stR, valsR, hg]
              rw [hR, ← hst, hno] at hr
              simp only [TellsP] at hr
              rw [hg] at hw2
              obtain ⟨q, rfl⟩ := hw2
              obtain ⟨et, ev, he⟩ := errIV_not_nil e [p]
              rw [he] at hr ⊢
              rw [hr]
              simp (disch := omega) [br_yes, br_no, wrap_i64, wrap_u8, wrap_i32, List.getElem?_cons_zero, List.getElem?_cons_succ, Pm.iv]
              rfl
            | ok v j =>
              have hgo := stR_go (m := 0) (x := (t, [])) (.inl rfl) (by simp) hg
              rw [hg] at hw2
              simp only [Tells] at hw2
              subst hw2
              simp (disch := omega) [br_yes, br_no, wrap_i64, wrap_u8, wrap_i32, List.getElem?_cons_zero, List.getElem?_cons_succ]
              refine loopEnd (j, [v]) ⟨by have := valueR_le (by omega) hg; simpa using this, by simp, by simp, by simpa [hst] using hgo⟩ (by simp) ?_
              simp [ts]
              exact weak_drop rfl rfl (by simp [EnvLe, getE, look]) (by simp [ObLe, look]) (by simp [roOk])
          · obtain ⟨z, hz⟩ : ∃ z, vs.length = z + 1 := ⟨vs.length - 1, by have := List.length_pos_iff.2 hv0; omega⟩
            have hz1 : vs.length - 1 = z := by omega
            simp [hv0, hz1]
            by_cases hcc : s[t]? = some 44
            · obtain ⟨htl, hce⟩ := List.getElem?_eq_some_iff.1 hcc
              by_cases h6 : vs.length = 6
              · have hE := fn_New 20 ((t : Int) + 1)
                rw [if_neg (by omega)] at hE
                have hno : stR s (t, vs) = .no 20 (t + 1 : Nat) := by simp [stR, hcc, h6, valsR]
                rw [hR, ← hst, hno] at hr
                simp only [TellsP] at hr
                rw [hr]
                simp (disch := omega) [br_yes, br_no, wrap_i64, wrap_u8, wrap_i32, List.getElem?_cons_zero, List.getElem?_cons_succ, hce, ts_len, h6]
                refine callW_imm hE ?_
                simp [Pm.iv]
                rfl
              · obtain ⟨w, hw1, hw2⟩ := fn_value s (t + 1) (by omega) hs
                rw [show ((t + 1 : Nat) : Int) = (t : Int) + 1 by omega] at hw1
                simp (disch := omega) [br_yes, br_no, wrap_i64, wrap_u8, wrap_i32, List.getElem?_cons_zero, List.getElem?_cons_succ, hce, ts_len]
                refine callW_imm hw1 ?_
                cases hg : valueR s (t + 1) with
                | no e p =>
                  obtain ⟨m, hm6⟩ : ∃ m, 6 - vs.length = m + 1 := ⟨5 - vs.length, by omega⟩
                  have hno : stR s (t, vs) = .no e p := by simp [stR, hcc, hm6, valsR, hg]
                  rw [hR, ← hst, hno] at hr
                  simp only [TellsP] at hr
                  rw [hg] at hw2
                  obtain ⟨q, rfl⟩ := hw2
                  obtain ⟨et, ev, he⟩ := errIV_not_nil e [p]
                  rw [he] at hr ⊢
                  rw [hr]
                  simp (disch := omega) [br_yes, br_no, wrap_i64, wrap_u8, wrap_i32, List.getElem?_cons_zero, List.getElem?_cons_succ, Pm.iv]
                  rfl
                | ok v j =>
                  have hgo := stR_go (m := 0) (x := (t, vs)) (.inr hcc) (by simp; omega) hg
                  rw [hg] at hw2
                  simp only [Tells] at hw2
                  subst hw2
                  simp (disch := omega) [br_yes, br_no, wrap_i64, wrap_u8, wrap_i32, List.getElem?_cons_zero, List.getElem?_cons_succ, ts_len]
                  refine ⟨by omega, ?_⟩
                  have hsn : ts (vs ++ [v]) = ts vs ++ [[IV.str v]] := by simp [ts]
                  refine loopEnd (j, vs ++ [v]) ⟨by have := valueR_le (by omega) hg; simpa using this, by simp, by simp; omega, by rw [← hst]; exact hgo⟩ (by simp; omega) ?_
                  simp [hsn, hz]
                  exact weak_drop rfl rfl (by simp [EnvLe, getE, look]) (by simp [ObLe, look]) (by simp [roOk])
            · have hok : stR s (t, vs) = .ok vs t := by simp [stR, hcc, hv0]
              rw [hR, ← hst, hok] at hr
              simp only [TellsP] at hr
              rw [hr]
              by_cases htl : t < s.length
              · obtain ⟨c, hc⟩ : ∃ c, s[t] = c := ⟨_, rfl⟩
                have hcn : c.toNat ≠ 44 := fun e => hcc (by rw [List.getElem?_eq_getElem htl, hc, UInt8.toNat_inj.1 (show c.toNat = (44 : UInt8).toNat from e)])
                simp (disch := omega) [br_yes, br_no, wrap_i64, wrap_u8, wrap_i32, List.getElem?_cons_zero, List.getElem?_cons_succ, hc, Pm.iv]
                try rfl
              · simp (disch := omega) [br_yes, br_no, wrap_i64, wrap_u8, wrap_i32, List.getElem?_cons_zero, List.getElem?_cons_succ, Pm.iv]
                try rfl
        cases hvr : valsR s 6 (a + k + 1) [] with
        | no e p => exact ⟨_, key _ (by rw [hR, hvr]; rfl), by rw [hR, hvr]; rfl⟩
        | ok v j => exact ⟨_, key _ (by rw [hR, hvr]; rfl), by rw [hR, hvr]; rfl⟩
      · have hR : oneR s a l = .no 4 (a + k : Nat) := by simp only [oneR, hk, if_neg h1, hn, hhf, if_neg h2]; rfl
        have hE := fn_New 4 ((a : Int) + k)
        rw [if_neg (by omega)] at hE
        refine ⟨.tuple [(⟨[], []⟩ : Pm).iv, .int .i64 0, errIV 4 [(a : Int) + k]], ?_, by rw [hR]; rfl⟩
        refine fn_intro hm ok_param_one (by simp) ?_
        simp [c_param_one, r_param_one]
        refine ⟨ha, ?_⟩
        refine callW_imm hN ?_
        simp (disch := omega) [br_yes, br_no, wrap_i64, wrap_u8, wrap_i32, List.getElem?_cons_zero, List.getElem?_cons_succ]
        refine ⟨by omega, by omega, ?_⟩
        refine callW_imm hU ?_
        simp (disch := omega) [br_yes, br_no, wrap_i64, wrap_u8, wrap_i32, List.getElem?_cons_zero, List.getElem?_cons_succ]
        refine callW_imm hF ?_
        have hi0 : (0 : Int) ≤ (a : Int) + k := by omega
        have e1 : ((a : Int) + k).toNat = a + k := by omega
        by_cases h5 : a + k < s.length
        · obtain ⟨c, hc⟩ : ∃ c, s[a + k] = c := ⟨_, rfl⟩
          have hcn : c.toNat ≠ 61 := fun e => h2 (by rw [List.getElem?_eq_getElem h5, hc, UInt8.toNat_inj.1 (show c.toNat = (61 : UInt8).toNat from e)])
          simp (disch := omega) [br_yes, br_no, wrap_i64, wrap_u8, wrap_i32, List.getElem?_cons_zero, List.getElem?_cons_succ, foundI, Pm.iv, hi0, e1, hc]
          refine callW_imm hE ?_
          simp
          rfl
        · simp (disch := omega) [br_yes, br_no, wrap_i64, wrap_u8, wrap_i32, List.getElem?_cons_zero, List.getElem?_cons_succ, foundI, Pm.iv, hi0, e1]
          refine callW_imm hE ?_
          simp
          rfl
end Go.Vs.YtbchceojmblkkaaGreatDoor
