/- The walk of param, part 16: parameters read, the document's. No conditions. -/
import Derived.Test.YthcljcjkfhiicaaGreatDoorBW
set_option linter.unusedVariables false
set_option linter.unusedSimpArgs false
namespace Go.Vs.YthcljcjkfhiicaaGreatDoor
set_option linter.unusedSimpArgs false
set_option linter.unusedVariables false
open Go.Proofs Go.Vs.U8 Go.Vs.Pa
set_option maxRecDepth 100000
set_option maxHeartbeats 8000000
theorem named_at {s : Str} {k : Nat} {c : UInt8} (h : k < s.length) (hc : s[k] = c) : named (s.drop k) = if nmd c then named (s.drop (k + 1)) + 1 else 0 := by
  rw [List.drop_eq_getElem_cons h, hc]; rfl
theorem valueR_ge {s : Str} {a : Nat} {v : Str} {n : Nat} (h : valueR s a = .ok v n) : a ≤ n := by
  simp only [valueR] at h
  split at h
  · split at h
    · cases h
    · split at h
      · cases h
      · split at h
        · cases h; omega
        · cases h
  · split at h
    · cases h
    · split at h
      · cases h
      · cases h; omega
theorem checked_no {raw : Str} {a f : Nat} {e p : Int} (h : checked raw a f = .no e p) : e ≠ 0 ∧ (p = a ∨ ∃ k : Nat, k < raw.length ∧ p = f + k) := by
  simp only [checked] at h
  split at h
  · next k hk => cases h; exact ⟨by omega, .inr ⟨k, odd_lt _ raw (Nat.le_refl _) k hk, rfl⟩⟩
  · split at h
    · cases h; exact ⟨by omega, .inl rfl⟩
    · cases h
theorem valueR_no {s : Str} {a : Nat} {e p : Int} (ha : a ≤ s.length) (h : valueR s a = .no e p) : e ≠ 0 ∧ 0 ≤ p ∧ p ≤ s.length := by
  simp only [valueR] at h
  split at h
  · next h0 =>
    obtain ⟨hal, _⟩ := List.getElem?_eq_some_iff.1 h0
    have hl := run_le notq (s.drop (a + 1))
    rw [List.length_drop] at hl
    split at h
    · cases h; exact ⟨by omega, by omega, by omega⟩
    · next hne =>
      rw [List.length_drop] at hne
      split at h
      · next hc =>
        cases h
        obtain ⟨h1, h2 | ⟨k, h2, h3⟩⟩ := checked_no hc
        · exact ⟨h1, by omega, by omega⟩
        · rw [List.length_take, List.length_drop] at h2
          exact ⟨h1, by omega, by omega⟩
      · split at h
        · cases h
        · cases h; exact ⟨by omega, by omega, by omega⟩
  · have hl := run_le plain (s.drop a)
    rw [List.length_drop] at hl
    split at h
    · cases h; exact ⟨by omega, by omega, by omega⟩
    · split at h
      · next hc =>
        cases h
        obtain ⟨h1, h2 | ⟨k, h2, h3⟩⟩ := checked_no hc
        · exact ⟨h1, by omega, by omega⟩
        · rw [List.length_take, List.length_drop] at h2
          exact ⟨h1, by omega, by omega⟩
      · cases h
theorem valsR_no (s : Str) : ∀ (m a : Nat) (vs : List Str) (e p : Int), a ≤ s.length → valsR s m a vs = .no e p → e ≠ 0 ∧ 0 ≤ p ∧ p ≤ s.length
  | 0, a, vs, e, p, ha, h => by
    simp only [valsR] at h
    cases h
    exact ⟨by omega, by omega, by omega⟩
  | m + 1, a, vs, e, p, ha, h => by
    simp only [valsR] at h
    cases hg : valueR s a with
    | no e' p' => rw [hg] at h; cases h; exact valueR_no ha hg
    | ok x j =>
      rw [hg] at h
      simp only at h
      split at h
      · next h44 =>
        obtain ⟨h1, _⟩ := List.getElem?_eq_some_iff.1 h44
        exact valsR_no s m (j + 1) _ e p (by omega) h
      · cases h
theorem oneR_no {s : Str} {a : Nat} {l : List Pm} {e p : Int} (ha : a ≤ s.length) (h : oneR s a l = .no e p) : e ≠ 0 ∧ 0 ≤ p ∧ p ≤ s.length := by
  have hn := named_le (s.drop a)
  rw [List.length_drop] at hn
  simp only [oneR] at h
  split at h
  · cases h; exact ⟨by omega, by omega, by omega⟩
  · split at h
    · cases h; exact ⟨by omega, by omega, by omega⟩
    · split at h
      · next h61 =>
        obtain ⟨h1, _⟩ := List.getElem?_eq_some_iff.1 h61
        cases hv : valsR s 6 (a + named (s.drop a) + 1) [] with
        | no e' p' => rw [hv] at h; cases h; exact valsR_no s 6 _ _ _ _ (by omega) hv
        | ok v j => rw [hv] at h; cases h
      · cases h; exact ⟨by omega, by omega, by omega⟩
theorem parseR_no (s : Str) : ∀ (m a : Nat) (l : List Pm) (e p : Int), a ≤ s.length → parseR s m a l = .no e p → e ≠ 0 ∧ 0 ≤ p ∧ p ≤ s.length
  | 0, a, l, e, p, ha, h => by
    simp only [parseR] at h
    split at h
    · cases h; exact ⟨by omega, by omega, by omega⟩
    · cases h
  | m + 1, a, l, e, p, ha, h => by
    simp only [parseR] at h
    split at h
    · next h59 =>
      obtain ⟨h1, _⟩ := List.getElem?_eq_some_iff.1 h59
      cases hv : oneR s (a + 1) l with
      | no e' p' => rw [hv] at h; cases h; exact oneR_no (by omega) hv
      | ok q n => rw [hv] at h; exact parseR_no s m n _ e p (oneR_ok hv).1 h
    · cases h
theorem parseR_ok (s : Str) : ∀ (m a : Nat) (l l' : List Pm) (n : Nat), a ≤ s.length → Sml l → parseR s m a l = .ok l' n → n ≤ s.length ∧ Sml l' ∧ l'.length ≤ l.length + m
  | 0, a, l, l', n, ha, hl, h => by
    simp only [parseR] at h
    split at h
    · cases h
    · cases h; exact ⟨ha, hl, by omega⟩
  | m + 1, a, l, l', n, ha, hl, h => by
    simp only [parseR] at h
    split at h
    · next h59 =>
      cases hv : oneR s (a + 1) l with
      | no e' p' => rw [hv] at h; cases h
      | ok q j =>
        rw [hv] at h
        have ho := oneR_ok hv
        have := parseR_ok s m j _ l' n ho.1 (hl.snoc ho.2) h
        simp at this
        exact ⟨this.1, this.2.1, by omega⟩
    · cases h; exact ⟨ha, hl, by omega⟩
theorem fn_rParse (s : Str) (hs : s.length < 100000) : Fn G Tryz.prog k_ref17_Parse [.str s] (parseJ (parseR s 6 0 [])) := by
  obtain ⟨R, hRR⟩ : ∃ R, parseR s 6 0 [] = R := ⟨_, rfl⟩
  rw [hRR]
  refine fn_intro hm ok_ref17_Parse (by simp) ?_
  simp [c_ref17_Parse, r_ref17_Parse]
  refine cut_not hm ?_
  simp
  refine loopUR hm [] [5] (fun x : Nat × List Pm => [(6, .val (.int .i64 x.1)), (5, .own 5 x.2.length)]) (fun x => [(5, .arr x.2.length 2 (ps x.2))]) (fun x => x.1 ≤ s.length ∧ x.2.length ≤ 6 ∧ Sml x.2 ∧ parseR s (6 - x.2.length) x.1 x.2 = R) (fun x => 6 - x.2.length) (0, []) ⟨by simp, by simp, by intro p hp; simp at hp, by simpa using hRR⟩ ?_ ?_
  · simp [ps]
    exact Weak.trans (weak_adopt (k := 5) 5 2 (by simp) (by simp [getE, look])) (weak_drop rfl rfl (by simp [St.adopt, EnvLe, getE, look, put, eraseE, SV.erase]) (by simp [St.adopt, ObLe, look, put, eraseO, Ob.erase]) (by simp [St.adopt, roOk]))
  rintro ⟨t, out⟩ ⟨ht, hol, hsm, hst⟩
  simp at ht hol hst
  simp [ps_len]
  by_cases h59 : s[t]? = some 59
  · obtain ⟨htl, hce⟩ := List.getElem?_eq_some_iff.1 h59
    by_cases h6 : out.length = 6
    · have hno : parseR s (6 - out.length) t out = .no 20 t := by rw [h6]; simp [parseR, h59]
      rw [← hst, hno]
      simp (disch := omega) [br_yes, br_no, wrap_i64, wrap_u8, wrap_i32, List.getElem?_cons_zero, List.getElem?_cons_succ, hce, ps_len, h6, parseJ, ps]
    · obtain ⟨m, hm6⟩ : ∃ m, 6 - out.length = m + 1 := ⟨5 - out.length, by omega⟩
      rw [hm6, parseR, if_pos h59] at hst
      obtain ⟨kn, hkn⟩ : ∃ kn, named (s.drop (t + 1)) = kn := ⟨_, rfl⟩
      simp (disch := omega) [br_yes, br_no, wrap_i64, wrap_u8, wrap_i32, List.getElem?_cons_zero, List.getElem?_cons_succ, hce, ps_len]
      refine cutU hm [] [5] (fun k : Nat => [(7, .val (.int .i64 k)), (6, .val (.int .i64 (t + 1)))]) (fun _ => []) (fun k => k ≤ s.length ∧ k = t + 1 + kn) ?_ ?_
      · simp
        refine loopUR hm [] [5] (fun k : Nat => [(7, .val (.int .i64 k)), (6, .val (.int .i64 (t + 1)))]) (fun _ => []) (fun k => t + 1 ≤ k ∧ k ≤ s.length ∧ k + named (s.drop k) = t + 1 + kn) (fun k => s.length - k) (t + 1) ⟨by omega, by omega, by omega⟩ ?_ ?_
        · simp
          exact weak_drop rfl rfl (by simp [EnvLe, getE, look]) (by simp [ObLe, look]) (by simp [roOk])
        rintro k ⟨hk1, hk2, hk3⟩
        simp
        by_cases h : k < s.length
        · obtain ⟨c, hc⟩ : ∃ c, s[k] = c := ⟨_, rfl⟩
          have hU := fn_rUpper [c] (by simp)
          have hS := fn_sign (upB c)
          rw [show upB c = Pa.upB c from rfl, nmd_up] at hS
          rw [named_at h hc] at hk3
          simp (disch := omega) [br_yes, br_no, wrap_i64, wrap_u8, wrap_i32, List.getElem?_cons_zero, List.getElem?_cons_succ, hc]
          try refine ⟨by omega, ?_⟩
          rw [take_one h hc]
          refine callW_imm hU ?_
          simp [upper]
          rw [show upB c = Pa.upB c from rfl]
          refine callW_imm hS ?_
          cases hn : nmd c with
          | true =>
            rw [hn] at hk3
            simp (disch := omega) [br_yes, br_no, wrap_i64, wrap_u8, wrap_i32, List.getElem?_cons_zero, List.getElem?_cons_succ]
            refine loopEnd (k + 1) ⟨by omega, by omega, by simp at hk3; omega⟩ (by omega) ?_
            simp
            exact weak_drop rfl rfl (by simp [EnvLe, getE, look]) (by simp [ObLe, look]) (by simp [roOk])
          | false =>
            rw [hn] at hk3
            simp (disch := omega) [br_yes, br_no, wrap_i64, wrap_u8, wrap_i32, List.getElem?_cons_zero, List.getElem?_cons_succ]
            refine joinEnd k ⟨by omega, by simpa using hk3⟩ ?_
            simp
            exact weak_drop rfl rfl (by simp [EnvLe, getE, look]) (by simp [ObLe, look]) (by simp [roOk])
        · have hd : s.drop k = [] := List.drop_eq_nil_of_le (by omega)
          rw [hd] at hk3
          simp (disch := omega) [br_yes, br_no, wrap_i64, wrap_u8, wrap_i32, List.getElem?_cons_zero, List.getElem?_cons_succ]
          refine joinEnd k ⟨by omega, by simpa [named] using hk3⟩ ?_
          simp
          exact weak_drop rfl rfl (by simp [EnvLe, getE, look]) (by simp [ObLe, look]) (by simp [roOk])
      · rintro k ⟨hkl, hk⟩
        simp
        by_cases h1 : kn = 0 ∨ 24 < kn
        · have hR : oneR s (t + 1) out = .no 4 (t + 1 : Nat) := by simp only [oneR, hkn, if_pos h1]
          rw [hR] at hst
          have hst' : GotL.no 4 (t + 1 : Nat) = R := hst
          rw [← hst']
          rcases h1 with h1 | h1
          · simp (disch := omega) [br_yes, br_no, wrap_i64, wrap_u8, wrap_i32, List.getElem?_cons_zero, List.getElem?_cons_succ, h1, parseJ, ps]
          · simp (disch := omega) [br_yes, br_no, wrap_i64, wrap_u8, wrap_i32, List.getElem?_cons_zero, List.getElem?_cons_succ, parseJ, ps]
        · obtain ⟨n, hn⟩ : ∃ n, upper ((s.drop (t + 1)).take kn) = n := ⟨_, rfl⟩
          have hU := fn_rUpper ((s.drop (t + 1)).take kn) (by simp; omega)
          rw [hn] at hU
          have hraw : List.drop (t + 1) (List.take k s) = (s.drop (t + 1)).take kn := by rw [List.drop_take, hk, show t + 1 + kn - (t + 1) = kn by omega]
          have hH := fn_has out n (by omega)
          have e0 : (0 : Int) ≤ (t : Int) + 1 := by omega
          have e1 : ((t : Int) + 1).toNat = t + 1 := by omega
          simp (disch := omega) [br_yes, br_no, wrap_i64, wrap_u8, wrap_i32, List.getElem?_cons_zero, List.getElem?_cons_succ, e0, e1]
          try refine ⟨by omega, ?_⟩
          rw [hraw]
          refine callW_imm hU ?_
          simp (disch := omega) [br_yes, br_no, wrap_i64, wrap_u8, wrap_i32, List.getElem?_cons_zero, List.getElem?_cons_succ]
          refine callW_imm hH ?_
          cases hh : hasN out n with
          | true =>
            have hR : oneR s (t + 1) out = .no 19 (t + 1 : Nat) := by simp only [oneR, hkn, if_neg h1, hn, hh]; rfl
            rw [hR] at hst
            have hst' : GotL.no 19 (t + 1 : Nat) = R := hst
            rw [← hst']
            simp (disch := omega) [br_yes, br_no, wrap_i64, wrap_u8, wrap_i32, List.getElem?_cons_zero, List.getElem?_cons_succ, parseJ, ps]
          | false =>
            by_cases h2 : s[k]? = some 61
            · obtain ⟨h3, h4⟩ := List.getElem?_eq_some_iff.1 h2
              rw [hk] at h2
              have hR : oneR s (t + 1) out = match valsR s 6 (t + 1 + kn + 1) [] with
                | .no e p => .no e p
                | .ok v j => .ok ⟨n, v⟩ j := by
                simp only [oneR, hkn, if_neg h1, hn, hh, if_pos h2]
                rfl
              rw [hR] at hst
              simp (disch := omega) [br_yes, br_no, wrap_i64, wrap_u8, wrap_i32, List.getElem?_cons_zero, List.getElem?_cons_succ, h4]
              refine cutU hm [] [5] (fun x : Nat × List Str => [(6, .val (.int .i64 x.1))]) (fun x => [(8, .box [.val (.str n), .own 115 (x.2.length - 1)]), (115, .arr (x.2.length - 1) 1 (ts x.2))]) (fun x => x.2 ≠ [] ∧ valsR s 6 (t + 1 + kn + 1) [] = .ok x.2 x.1) ?_ ?_
              · simp
                refine loopUR hm [] [5] (fun x : Nat × List Str => [(6, .val (.int .i64 x.1))]) (fun x => if x.2 = [] then [(8, .box [.val (.str n), .nils])] else [(8, .box [.val (.str n), .own 115 (x.2.length - 1)]), (115, .arr (x.2.length - 1) 1 (ts x.2))]) (fun x => x.1 ≤ s.length ∧ (x.2 = [] → x.1 = k) ∧ (x.2 ≠ [] → k < x.1) ∧ x.2.length ≤ 6 ∧ stR s x = valsR s 6 (t + 1 + kn + 1) []) (fun x => 6 - x.2.length) (k, []) ⟨by simp; omega, by simp, by simp, by simp, by simp [stR, hk]⟩ ?_ ?_
                · simp
                  exact weak_drop rfl rfl (by simp [EnvLe, getE, look]) (by simp [ObLe, look]) (by simp [roOk])
                rintro ⟨u, vs⟩ ⟨hu, hu0, hu1, hvl, hsr⟩
                simp at hu hu0 hu1 hvl
                by_cases hv0 : vs = []
                · subst hv0
                  have hul := hu0 rfl
                  have hV := fn_rValue s (u + 1) (by omega) hs
                  rw [show ((u + 1 : Nat) : Int) = (u : Int) + 1 by omega] at hV
                  simp
                  simp (disch := omega) [br_yes, br_no, wrap_i64, wrap_u8, wrap_i32, List.getElem?_cons_zero, List.getElem?_cons_succ, hul]
                  rw [hul] at hV
                  refine callW_imm hV ?_
                  rw [hul] at hsr
                  cases hg : valueR s (k + 1) with
                  | no e p =>
                    have hno : stR s (k, []) = .no e p := by simp [stR, valsR, hg]
                    rw [hno] at hsr
                    rw [← hsr] at hst
                    have hst' : GotL.no e p = R := hst
                    rw [← hst']
                    have hne := (valueR_no (by omega) hg).1
                    simp (disch := omega) [br_yes, br_no, wrap_i64, wrap_u8, wrap_i32, List.getElem?_cons_zero, List.getElem?_cons_succ, valueJ, parseJ, ps]
                  | ok v j =>
                    have hgo := stR_go (m := 0) (x := (k, [])) (.inl rfl) (by simp) hg
                    have hge := valueR_ge hg
                    simp (disch := omega) [br_yes, br_no, wrap_i64, wrap_u8, wrap_i32, List.getElem?_cons_zero, List.getElem?_cons_succ, valueJ]
                    refine loopEnd (j, [v]) ⟨by have := valueR_le (by omega) hg; simpa using this, by simp, by simp; omega, by simp, by simpa [hsr] using hgo⟩ (by simp) ?_
                    simp [ts]
                    exact weak_drop rfl rfl (by simp [EnvLe, getE, look]) (by simp [ObLe, look]) (by simp [roOk])
                · obtain ⟨z, hz⟩ : ∃ z, vs.length = z + 1 := ⟨vs.length - 1, by have := List.length_pos_iff.2 hv0; omega⟩
                  have hz1 : vs.length - 1 = z := by omega
                  have hku := hu1 hv0
                  simp [hv0, hz1]
                  by_cases hcc : s[u]? = some 44
                  · obtain ⟨hul, hce'⟩ := List.getElem?_eq_some_iff.1 hcc
                    by_cases h6 : vs.length = 6
                    · have hno : stR s (u, vs) = .no 20 (u + 1 : Nat) := by simp [stR, hcc, h6, valsR]
                      rw [hno] at hsr
                      rw [← hsr] at hst
                      have hst' : GotL.no 20 (u + 1 : Nat) = R := hst
                      rw [← hst']
                      simp (disch := omega) [br_yes, br_no, wrap_i64, wrap_u8, wrap_i32, List.getElem?_cons_zero, List.getElem?_cons_succ, hce', ts_len, h6, parseJ, ps]
                    · have hV := fn_rValue s (u + 1) (by omega) hs
                      rw [show ((u + 1 : Nat) : Int) = (u : Int) + 1 by omega] at hV
                      simp (disch := omega) [br_yes, br_no, wrap_i64, wrap_u8, wrap_i32, List.getElem?_cons_zero, List.getElem?_cons_succ, hce', ts_len]
                      refine callW_imm hV ?_
                      cases hg : valueR s (u + 1) with
                      | no e p =>
                        obtain ⟨m', hm6'⟩ : ∃ m, 6 - vs.length = m + 1 := ⟨5 - vs.length, by omega⟩
                        have hno : stR s (u, vs) = .no e p := by simp [stR, hcc, hm6', valsR, hg]
                        rw [hno] at hsr
                        rw [← hsr] at hst
                        have hst' : GotL.no e p = R := hst
                        rw [← hst']
                        have hne := (valueR_no (by omega) hg).1
                        simp (disch := omega) [br_yes, br_no, wrap_i64, wrap_u8, wrap_i32, List.getElem?_cons_zero, List.getElem?_cons_succ, valueJ, parseJ, ps]
                      | ok v j =>
                        have hgo := stR_go (m := 0) (x := (u, vs)) (.inr hcc) (by simp; omega) hg
                        have hge := valueR_ge hg
                        simp (disch := omega) [br_yes, br_no, wrap_i64, wrap_u8, wrap_i32, List.getElem?_cons_zero, List.getElem?_cons_succ, valueJ, ts_len]
                        refine ⟨by omega, ?_⟩
                        have hsn : ts (vs ++ [v]) = ts vs ++ [[IV.str v]] := by simp [ts]
                        refine loopEnd (j, vs ++ [v]) ⟨by have := valueR_le (by omega) hg; simpa using this, by simp, by simp; omega, by simp; omega, by rw [← hsr]; exact hgo⟩ (by simp; omega) ?_
                        simp [hsn, hz]
                        exact weak_drop rfl rfl (by simp [EnvLe, getE, look]) (by simp [ObLe, look]) (by simp [roOk])
                  · have hok : stR s (u, vs) = .ok vs u := by simp [stR, hcc, hv0]
                    rw [hok] at hsr
                    by_cases hul : u < s.length
                    · obtain ⟨c, hc⟩ : ∃ c, s[u] = c := ⟨_, rfl⟩
                      have hcn : c.toNat ≠ 44 := fun e => hcc (by rw [List.getElem?_eq_getElem hul, hc, UInt8.toNat_inj.1 (show c.toNat = (44 : UInt8).toNat from e)])
                      simp (disch := omega) [br_yes, br_no, wrap_i64, wrap_u8, wrap_i32, List.getElem?_cons_zero, List.getElem?_cons_succ, hc]
                      refine joinEnd (u, vs) ⟨hv0, hsr.symm⟩ ?_
                      simp [hz1]
                      exact weak_drop rfl rfl (by simp [EnvLe, getE, look]) (by simp [ObLe, look]) (by simp [roOk])
                    · simp (disch := omega) [br_yes, br_no, wrap_i64, wrap_u8, wrap_i32, List.getElem?_cons_zero, List.getElem?_cons_succ]
                      refine joinEnd (u, vs) ⟨hv0, hsr.symm⟩ ?_
                      simp [hz1]
                      exact weak_drop rfl rfl (by simp [EnvLe, getE, look]) (by simp [ObLe, look]) (by simp [roOk])
              · rintro ⟨j, vs⟩ ⟨hv0, hvr⟩
                simp only at hv0 hvr
                rw [hvr] at hst hR
                have hst2 : parseR s m j (out ++ [⟨n, vs⟩]) = R := hst
                have hok := oneR_ok hR
                simp
                refine ⟨by rw [ps_len]; omega, ?_⟩
                refine loopEnd (j, out ++ [⟨n, vs⟩]) ⟨hok.1, by simp; omega, hsm.snoc hok.2, by rw [show 6 - (out ++ [(⟨n, vs⟩ : Pm)]).length = m by simp; omega]; exact hst2⟩ (by simp; omega) ?_
                simp [ps_snoc]
                exact weak_drop rfl rfl (by simp [EnvLe, getE, look]) (by simp [ObLe, look]) (by simp [roOk])
            · have hR : oneR s (t + 1) out = .no 4 (k : Nat) := by
                rw [hk] at h2 ⊢
                simp only [oneR, hkn, if_neg h1, hn, hh, if_neg h2]; rfl
              rw [hR] at hst
              have hst' : GotL.no 4 (k : Nat) = R := hst
              rw [← hst']
              by_cases h5 : k < s.length
              · obtain ⟨c, hc⟩ : ∃ c, s[k] = c := ⟨_, rfl⟩
                have hcn : c.toNat ≠ 61 := fun e => h2 (by rw [List.getElem?_eq_getElem h5, hc, UInt8.toNat_inj.1 (show c.toNat = (61 : UInt8).toNat from e)])
                simp (disch := omega) [br_yes, br_no, wrap_i64, wrap_u8, wrap_i32, List.getElem?_cons_zero, List.getElem?_cons_succ, hc, parseJ, ps]
              · simp (disch := omega) [br_yes, br_no, wrap_i64, wrap_u8, wrap_i32, List.getElem?_cons_zero, List.getElem?_cons_succ, parseJ, ps]
  · have hok : parseR s (6 - out.length) t out = .ok out t := by
      cases 6 - out.length <;> simp [parseR, h59]
    rw [← hst, hok]
    by_cases htl : t < s.length
    · obtain ⟨c, hc⟩ : ∃ c, s[t] = c := ⟨_, rfl⟩
      have hcn : c.toNat ≠ 59 := fun e => h59 (by rw [List.getElem?_eq_getElem htl, hc, UInt8.toNat_inj.1 (show c.toNat = (59 : UInt8).toNat from e)])
      simp (disch := omega) [br_yes, br_no, wrap_i64, wrap_u8, wrap_i32, List.getElem?_cons_zero, List.getElem?_cons_succ, hc, parseJ]
    · simp (disch := omega) [br_yes, br_no, wrap_i64, wrap_u8, wrap_i32, List.getElem?_cons_zero, List.getElem?_cons_succ, parseJ]
end Go.Vs.YthcljcjkfhiicaaGreatDoor
