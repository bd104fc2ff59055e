/- Plain mathematics of texts: characters that may be, what runs along. No conditions. -/
import Derived.Test.YtbchceojmblkkaaGreatDoorBK
import Derived.Test.YtbchceojmblkkaaGreatDoorBQ
import Derived.Test.YtbchceojmblkkaaGreatDoorBW
set_option linter.unusedVariables false
set_option linter.unusedSimpArgs false
set_option linter.unusedVariables false
set_option linter.unusedSimpArgs false
namespace Go.Vs.Pa
open Go.Vs.U8
/-- A sign of one byte that may be. -/
def asc (c : UInt8) : Prop := (32 ≤ c.toNat ∧ c.toNat < 127) ∨ c.toNat = 9
/-- A character of more bytes. -/
def mul (m : Str) : Prop := m ≠ [] ∧ (∀ b ∈ m, 128 ≤ b.toNat) ∧ ∀ r, oddAt (m ++ r) = false ∧ sizeL (m ++ r) = m.length
theorem odd_asc {c : UInt8} (h : asc c) (r : Str) : odd (c :: r) = (odd r).map (· + 1) := by
  have hs : sizeL (c :: r) = 1 := by
    simp only [sizeL]
    rw [if_pos (by unfold asc at h; omega)]
  have ho : oddAt (c :: r) = false := by
    simp only [oddAt, hs]
    unfold asc at h
    rcases h with h | h
    · have h1 : decide (c.toNat < 32) = false := decide_eq_false (by omega)
      have h2 : decide (c.toNat = 127) = false := decide_eq_false (by omega)
      rw [h1, h2]; rfl
    · rw [h]; rfl
  rw [odd_step (by simp), ho, hs]
  rfl
theorem odd_mul {m : Str} (h : mul m) (r : Str) : odd (m ++ r) = (odd r).map (· + m.length) := by
  obtain ⟨h1, h2, h3⟩ := h
  obtain ⟨h4, h5⟩ := h3 r
  rw [odd_step (by simp [h1]), h4, h5]
  simp
theorem lo1_ge (n : Nat) : 128 ≤ lo1 n := by unfold lo1; split <;> (try split) <;> omega
theorem clean_cases {s : Str} (h : odd s = none) : s = [] ∨ (∃ c r, s = c :: r ∧ asc c ∧ odd r = none) ∨ ∃ m r, s = m ++ r ∧ mul m ∧ odd r = none := by
  cases s with
  | nil => exact .inl rfl
  | cons c r =>
    right
    rw [odd_step (by simp)] at h
    split at h
    · cases h
    · next ho =>
      have ho : oddAt (c :: r) = false := by simpa using ho
      have hd : odd ((c :: r).drop (sizeL (c :: r))) = none := by simpa using h
      by_cases h1 : c.toNat < 128
      · left
        have hs : sizeL (c :: r) = 1 := by simp only [sizeL]; rw [if_pos h1]
        rw [hs] at hd
        refine ⟨c, r, rfl, ?_, by simpa using hd⟩
        simp only [oddAt, hs, Bool.or_eq_false_iff, Bool.and_eq_false_iff, decide_eq_false_iff_not, Bool.not_eq_false', decide_eq_true_eq] at ho
        unfold asc
        omega
      · right
        have pos := oddAt_size ho (by simp)
        have mk : ∀ (m r' : Str), c :: r = m ++ r' → (∀ x, sizeL (m ++ x) = m.length) → m ≠ [] → (∀ b ∈ m, 128 ≤ b.toNat) → ∃ m r', c :: r = m ++ r' ∧ mul m ∧ odd r' = none := by
          intro m r' e hsz hne hb
          refine ⟨m, r', e, ⟨hne, hb, fun x => ⟨?_, hsz x⟩⟩, ?_⟩
          · obtain ⟨d, m', rfl⟩ := List.exists_cons_of_ne_nil hne
            have hd1 := hb d (by simp)
            have hz := hsz x
            simp only [List.cons_append, oddAt] at hz ⊢
            rw [hz]
            have h1 : decide (d.toNat < 32) = false := decide_eq_false (by omega)
            have h2 : decide (d.toNat = 127) = false := decide_eq_false (by omega)
            rw [h1, h2]
            simp
          · rw [e, hsz r', List.drop_left] at hd
            exact hd
        simp only [sizeL] at pos
        rw [if_neg h1] at pos
        split at pos
        · next h2 =>
          simp only [Bool.and_eq_true, decide_eq_true_eq] at h2
          obtain ⟨b, hb, hb1, _⟩ := tl_some h2.2
          obtain ⟨hl, he⟩ := List.getElem?_eq_some_iff.1 hb
          obtain ⟨b', r1, rfl⟩ := List.exists_cons_of_ne_nil (show r ≠ [] by intro e; rw [e] at hl; simp at hl)
          simp at he; subst he
          refine mk [c, b'] r1 rfl (fun x => ?_) (by simp) (by simp; omega)
          have ht : tl (b' :: x) 0 128 191 = true := by have := h2.2; unfold tl at this ⊢; simpa using this
          simp only [sizeL, List.cons_append, List.nil_append]
          rw [if_neg h1, if_pos (by simp only [Bool.and_eq_true, decide_eq_true_eq]; exact ⟨h2.1, ht⟩)]
          rfl
        · next h2 =>
          split at pos
          · next h3 =>
            simp only [Bool.and_eq_true, decide_eq_true_eq] at h3
            obtain ⟨b, hb, hb1, _⟩ := tl_some h3.1.2
            obtain ⟨hl, he⟩ := List.getElem?_eq_some_iff.1 hb
            obtain ⟨b', r1, rfl⟩ := List.exists_cons_of_ne_nil (show r ≠ [] by intro e; rw [e] at hl; simp at hl)
            simp at he; subst he
            obtain ⟨d, hd', hd1, _⟩ := tl_some h3.2
            obtain ⟨hl2, he2⟩ := List.getElem?_eq_some_iff.1 hd'
            obtain ⟨d', r2, rfl⟩ := List.exists_cons_of_ne_nil (show r1 ≠ [] by intro e; rw [e] at hl2; simp at hl2)
            simp at he2; subst he2
            have hlo := lo1_ge c.toNat
            refine mk [c, b', d'] r2 rfl (fun x => ?_) (by simp) (by simp; omega)
            have t1 : tl (b' :: d' :: x) 0 (lo1 c.toNat) (hi1 c.toNat) = true := by have := h3.1.2; unfold tl at this ⊢; simpa using this
            have t2 : tl (b' :: d' :: x) 1 128 191 = true := by have := h3.2; unfold tl at this ⊢; simpa using this
            simp only [sizeL, List.cons_append, List.nil_append]
            rw [if_neg h1, if_neg (by simp only [Bool.and_eq_true, decide_eq_true_eq]; omega), if_pos (by simp only [Bool.and_eq_true, decide_eq_true_eq]; exact ⟨⟨h3.1.1, t1⟩, t2⟩)]
            rfl
          · next h3 =>
            split at pos
            · next h4 =>
              simp only [Bool.and_eq_true, decide_eq_true_eq] at h4
              obtain ⟨b, hb, hb1, _⟩ := tl_some h4.1.1.2
              obtain ⟨hl, he⟩ := List.getElem?_eq_some_iff.1 hb
              obtain ⟨b', r1, rfl⟩ := List.exists_cons_of_ne_nil (show r ≠ [] by intro e; rw [e] at hl; simp at hl)
              simp at he; subst he
              obtain ⟨d, hd', hd1, _⟩ := tl_some h4.1.2
              obtain ⟨hl2, he2⟩ := List.getElem?_eq_some_iff.1 hd'
              obtain ⟨d', r2, rfl⟩ := List.exists_cons_of_ne_nil (show r1 ≠ [] by intro e; rw [e] at hl2; simp at hl2)
              simp at he2; subst he2
              obtain ⟨e, he3, he1, _⟩ := tl_some h4.2
              obtain ⟨hl3, he4⟩ := List.getElem?_eq_some_iff.1 he3
              obtain ⟨e', r3, rfl⟩ := List.exists_cons_of_ne_nil (show r2 ≠ [] by intro e; rw [e] at hl3; simp at hl3)
              simp at he4; subst he4
              have hlo := lo1_ge c.toNat
              refine mk [c, b', d', e'] r3 rfl (fun x => ?_) (by simp) (by simp; omega)
              have t1 : tl (b' :: d' :: e' :: x) 0 (lo1 c.toNat) (hi1 c.toNat) = true := by have := h4.1.1.2; unfold tl at this ⊢; simpa using this
              have t2 : tl (b' :: d' :: e' :: x) 1 128 191 = true := by have := h4.1.2; unfold tl at this ⊢; simpa using this
              have t3 : tl (b' :: d' :: e' :: x) 2 128 191 = true := by have := h4.2; unfold tl at this ⊢; simpa using this
              simp only [sizeL, List.cons_append, List.nil_append]
              rw [if_neg h1, if_neg (by simp only [Bool.and_eq_true, decide_eq_true_eq]; omega), if_neg (by simp only [Bool.and_eq_true, decide_eq_true_eq]; omega), if_pos (by simp only [Bool.and_eq_true, decide_eq_true_eq]; exact ⟨⟨⟨h4.1.1.1, t1⟩, t2⟩, t3⟩)]
              rfl
            · omega
theorem clean_asc {c : UInt8} {r : Str} (h : asc c) : odd (c :: r) = none ↔ odd r = none := by rw [odd_asc h]; simp
theorem clean_mul {m r : Str} (h : mul m) : odd (m ++ r) = none ↔ odd r = none := by rw [odd_mul h]; simp
theorem esc_app (a b : Str) : esc (a ++ b) = esc a ++ esc b := by
  induction a with
  | nil => rfl
  | cons c r ih => simp [esc, ih]
theorem esc_big {m : Str} (h : ∀ b ∈ m, 128 ≤ b.toNat) : esc m = m := by
  induction m with
  | nil => rfl
  | cons c r ih =>
    have h1 := h c (by simp)
    simp only [esc]
    rw [if_neg (by omega), if_neg (by omega), if_neg (by omega), ih (fun b hb => h b (by simp [hb]))]
    rfl
theorem sp_big {b : UInt8} (h : 128 ≤ (sp b).toNat) : sp b = b := by
  unfold sp at h ⊢
  split
  · next e => rw [if_pos e] at h; exact absurd h (by decide)
  · rfl
theorem map_sp_big : ∀ {v m : Str}, v.map sp = m → (∀ b ∈ m, 128 ≤ b.toNat) → v = m
  | [], m, h, _ => by simpa using h
  | c :: r, m, h, hb => by
    subst h
    have h1 := hb (sp c) (by simp)
    have h2 := map_sp_big (v := r) rfl (fun b hb' => hb b (by simp only [List.map_cons, List.mem_cons]; exact .inr hb'))
    rw [List.map_cons, sp_big h1, ← h2]
/-- What is written of a value that may be has no odd byte. -/
theorem esc_clean : ∀ (n : Nat) (v : Str), v.length ≤ n → odd (v.map sp) = none → odd (esc v) = none
  | n, [], _, _ => rfl
  | 0, c :: r, hn, _ => by simp at hn
  | n + 1, c :: r, hn, h => by
    rcases clean_cases h with e | ⟨d, r', e, ha, hr⟩ | ⟨m, r', e, hm, hr⟩
    · simp at e
    · simp only [List.map_cons, List.cons.injEq] at e
      obtain ⟨e1, e2⟩ := e
      have ih := esc_clean n r (by simp at hn; omega) (by rw [e2]; exact hr)
      simp only [esc]
      have a94 : asc 94 := .inl ⟨by decide, by decide⟩
      have a110 : asc 110 := .inl ⟨by decide, by decide⟩
      have a39 : asc 39 := .inl ⟨by decide, by decide⟩
      split
      · simpa [clean_asc a94] using ih
      · split
        · simpa [clean_asc a94, clean_asc a110] using ih
        · split
          · simpa [clean_asc a94, clean_asc a39] using ih
          · next h1 h2 h3 =>
            have : sp c = c := by unfold sp; rw [if_neg h2]
            rw [this] at e1
            subst e1
            simpa [clean_asc ha] using ih
    · obtain ⟨hne, hb, _⟩ := id hm
      obtain ⟨v1, v2, hv, e1, e2⟩ := List.map_eq_append_iff.1 e
      have e3 := map_sp_big e1 hb
      have hl : v2.length ≤ n := by
        have : 1 ≤ m.length := by cases m with
          | nil => exact absurd rfl hne
          | cons => simp
        have h2 := congrArg List.length hv
        rw [e3, List.length_append] at h2
        simp at h2 hn
        omega
      have ih := esc_clean n v2 hl (by rw [e2]; exact hr)
      rw [hv, esc_app, e3, esc_big hb, clean_mul hm]
      exact ih
theorem meant_ne {c : UInt8} (h : c.toNat ≠ 94) : ∀ r, meant (c :: r) = c :: meant r
  | [] => by simp [meant]
  | d :: r => by simp only [meant]; rw [if_neg h]
theorem meant_esc : ∀ v : Str, meant (esc v) = v
  | [] => rfl
  | c :: r => by
    have ih := meant_esc r
    simp only [esc]
    split
    · next h => simp [meant, ih]; exact (UInt8.toNat_inj.1 h).symm
    · split
      · next h => simp [meant, ih]; exact (UInt8.toNat_inj.1 h).symm
      · split
        · next h => simp [meant, ih]; exact (UInt8.toNat_inj.1 h).symm
        · next h1 h2 h3 => rw [List.cons_append, List.nil_append, meant_ne h1, ih]
theorem esc_no34 : ∀ (v : Str), ∀ c ∈ esc v, c.toNat ≠ 34
  | [], c, h => by simp [esc] at h
  | d :: r, c, h => by
    simp only [esc, List.mem_append] at h
    rcases h with h | h
    · split at h
      · simp at h; subst h; decide
      · split at h
        · simp at h; rcases h with rfl | rfl <;> decide
        · split at h
          · simp at h; rcases h with rfl | rfl <;> decide
          · next h3 => simp at h; subst h; exact h3
    · exact esc_no34 r c h
theorem esc_nostp : ∀ (v : Str), v.any stp = false → ∀ c ∈ esc v, stp c = false
  | [], _, c, h => by simp [esc] at h
  | d :: r, hv, c, h => by
    simp only [List.any_cons, Bool.or_eq_false_iff] at hv
    simp only [esc, List.mem_append] at h
    rcases h with h | h
    · split at h
      · simp at h; subst h; decide
      · split at h
        · simp at h; rcases h with rfl | rfl <;> decide
        · split at h
          · simp at h; rcases h with rfl | rfl <;> decide
          · simp at h; subst h; exact hv.1
    · exact esc_nostp r hv.2 c h
end Go.Vs.Pa
namespace Go.Vs.YtbchceojmblkkaaGreatDoor
set_option linter.unusedSimpArgs false
set_option linter.unusedVariables false
open Go.Proofs Go.Vs.U8 Go.Vs.Pa
set_option maxRecDepth 100000
set_option maxHeartbeats 8000000
def smV (v : List Str) : Bool := v.all fun x => decide (x.length ≤ 80)
def smP (p : Pm) : Bool := decide (p.n.length ≤ 40) && decide (p.v.length ≤ 10) && smV p.v
def smallB (l : List Pm) : Bool := decide (l.length ≤ 10) && l.all smP
theorem all_at {α : Type} {f : α → Bool} {l : List α} {i : Nat} {x : α} (h : i < l.length) (hx : l[i] = x) : (l.drop i).all f = (f x && (l.drop (i + 1)).all f) := by
  rw [List.drop_eq_getElem_cons h, hx]; rfl
theorem fn_Small (l : List Pm) : Fn G Tryz.prog k_law17_Small [.slice (ps l)] (.bool (smallB l)) := by
  refine fn_intro hm ok_law17_Small (by simp) ?_
  simp [c_law17_Small, r_law17_Small, ps_len]
  by_cases h0 : 10 < l.length
  · have : smallB l = false := by simp [smallB]; omega
    simp (disch := omega) [br_yes, br_no, wrap_i64, wrap_u8, wrap_i32, List.getElem?_cons_zero, List.getElem?_cons_succ, this, ps_len]
  · have hR : smallB l = l.all smP := by
      have : l.length ≤ 10 := by omega
      simp [smallB, this]
    rw [hR]
    simp (disch := omega) [br_yes, br_no, wrap_i64, wrap_u8, wrap_i32, List.getElem?_cons_zero, List.getElem?_cons_succ, ps_len]
    refine loopU hm [] (fun i : Nat => [(3, .val (.int .i64 i))]) (fun i => []) (fun i => i ≤ l.length ∧ (l.drop i).all smP = l.all smP) (fun i => l.length - i) 0 ⟨by omega, by simp⟩ ?_ ?_
    · simp
      exact weak_drop rfl rfl (by simp [EnvLe, getE, look]) (by simp [ObLe, look]) (by simp [roOk])
    rintro i ⟨hi, hc⟩
    simp [ps_len]
    by_cases h : i < l.length
    · obtain ⟨p, hp⟩ : ∃ p, l[i] = p := ⟨_, rfl⟩
      have hg := ps_get h hp
      rw [all_at h hp] at hc
      have bad : smP p = false → l.all smP = false := fun e => by rw [← hc, e]; rfl
      by_cases h1 : 40 < p.n.length
      · have hb := bad (by simp [smP]; omega)
        simp (disch := omega) [br_yes, br_no, wrap_i64, wrap_u8, wrap_i32, List.getElem?_cons_zero, List.getElem?_cons_succ, ps_len, hg, hb]
      · by_cases h2 : 10 < p.v.length
        · have hb := bad (by simp [smP]; omega)
          simp (disch := omega) [br_yes, br_no, wrap_i64, wrap_u8, wrap_i32, List.getElem?_cons_zero, List.getElem?_cons_succ, ps_len, ts_len, hg, hb]
        · have hP : smP p = smV p.v := by
            have a1 : p.n.length ≤ 40 := by omega
            have a2 : p.v.length ≤ 10 := by omega
            simp [smP, a1, a2]
          rw [hP] at hc bad
          simp (disch := omega) [br_yes, br_no, wrap_i64, wrap_u8, wrap_i32, List.getElem?_cons_zero, List.getElem?_cons_succ, ps_len, ts_len, hg]
          refine loopU hm [] (fun k : Nat => [(4, .val (.int .i64 k))]) (fun k => []) (fun k => k ≤ p.v.length ∧ smV (p.v.drop k) = smV p.v) (fun k => p.v.length - k) 0 ⟨by omega, by simp⟩ ?_ ?_
          · simp
            exact weak_drop rfl rfl (by simp [EnvLe, getE, look]) (by simp [ObLe, look]) (by simp [roOk])
          rintro k ⟨hk, hv⟩
          simp [ps_len]
          by_cases h3 : k < p.v.length
          · obtain ⟨x, hx⟩ : ∃ x, p.v[k] = x := ⟨_, rfl⟩
            have hg2 := ts_get h3 hx
            rw [smV, all_at h3 hx] at hv
            by_cases h4 : 80 < x.length
            · have : decide (x.length ≤ 80) = false := by simp; omega
              rw [this] at hv
              have hb := bad (by rw [← hv]; rfl)
              simp (disch := omega) [br_yes, br_no, wrap_i64, wrap_u8, wrap_i32, List.getElem?_cons_zero, List.getElem?_cons_succ, ps_len, ts_len, hg, hg2, hb]
            · have : decide (x.length ≤ 80) = true := by simp; omega
              rw [this, Bool.true_and] at hv
              simp (disch := omega) [br_yes, br_no, wrap_i64, wrap_u8, wrap_i32, List.getElem?_cons_zero, List.getElem?_cons_succ, ps_len, ts_len, hg, hg2]
              refine loopEnd (k + 1) ⟨by omega, hv⟩ (by omega) ?_
              simp
              exact weak_drop rfl rfl (by simp [EnvLe, getE, look]) (by simp [ObLe, look]) (by simp [roOk])
          · obtain rfl : k = p.v.length := by omega
            have : smV p.v = true := by rw [← hv]; simp [smV]
            rw [this, Bool.true_and] at hc
            simp (disch := omega) [br_yes, br_no, wrap_i64, wrap_u8, wrap_i32, List.getElem?_cons_zero, List.getElem?_cons_succ, ps_len, ts_len, hg]
            refine loopEnd (i + 1) ⟨by omega, hc⟩ (by omega) ?_
            simp
            exact weak_drop rfl rfl (by simp [EnvLe, getE, look]) (by simp [ObLe, look]) (by simp [roOk])
    · obtain rfl : i = l.length := by omega
      have : l.all smP = true := by rw [← hc]; simp
      simp (disch := omega) [br_yes, br_no, wrap_i64, wrap_u8, wrap_i32, List.getElem?_cons_zero, List.getElem?_cons_succ, this]
end Go.Vs.YtbchceojmblkkaaGreatDoor
namespace Go.Vs.YtbchceojmblkkaaGreatDoor
set_option linter.unusedSimpArgs false
set_option linter.unusedVariables false
open Go.Proofs Go.Vs.U8 Go.Vs.Pa
set_option maxRecDepth 100000
set_option maxHeartbeats 8000000
theorem ps_take_succ {l : List Pm} {i : Nat} {p : Pm} (h : i < l.length) (hp : l[i] = p) : ps (l.take (i + 1)) = ps (l.take i) ++ [[.str p.n, .slice (ts p.v)]] := by
  rw [List.take_succ_eq_append_getElem h, hp, ps_snoc]
theorem fn_Own (l : List Pm) (hl : l.length < 100000) (hf : Fit l) : Fn G Tryz.prog k_law17_Own [.slice (ps l)] (.slice (ps l)) := by
  refine fn_intro hm ok_law17_Own (by simp) ?_
  simp [c_law17_Own, r_law17_Own, ps_len]
  refine loopU hm [] (fun i : Nat => [(4, .val (.int .i64 i)), (3, .own 3 i)]) (fun i => [(3, .arr i 2 (ps (l.take i)))]) (fun i => i ≤ l.length) (fun i => l.length - i) 0 (by omega) ?_ ?_
  · simp [ps]
    exact Weak.trans (weak_adopt (k := 3) 3 2 (by simp) (by simp [getE, look])) (weak_drop rfl rfl (by simp [St.adopt, EnvLe, getE, look, put, eraseE, SV.erase]) (by simp [St.adopt, ObLe, look, put, eraseO, Ob.erase]) (by simp [St.adopt, roOk]))
  intro i hi
  simp [ps_len]
  by_cases h : i < l.length
  · obtain ⟨p, hp⟩ : ∃ p, l[i] = p := ⟨_, rfl⟩
    have hg := ps_get h hp
    have ht := ps_take_succ h hp
    have hm' : p ∈ l := hp ▸ List.getElem_mem h
    have hvl := hf.v p hm'
    cases hv : p.v with
    | nil =>
      rw [hv] at hg ht
      have ht' : ps (l.take (i + 1)) = ps (l.take i) ++ [[.str p.n, .slice []]] := ht
      simp (disch := omega) [br_yes, br_no, wrap_i64, wrap_u8, wrap_i32, List.getElem?_cons_zero, List.getElem?_cons_succ, ps_len, hg, ts]
      refine ⟨rfl, by omega, ?_⟩
      refine loopEnd (i + 1) (by omega) (by omega) ?_
      simp [ht']
      exact weak_drop rfl rfl (by simp [EnvLe, getE, look]) (by simp [ObLe, look]) (by simp [roOk])
    | cons x r =>
      have htl := ts_len (x :: r)
      rw [hv] at hg ht hvl
      simp only [List.length_cons] at htl hvl
      have : ts (x :: r) = [.str x] :: ts r := rfl
      rw [this] at htl hg ht
      simp at htl
      simp (disch := omega) [br_yes, br_no, wrap_i64, wrap_u8, wrap_i32, List.getElem?_cons_zero, List.getElem?_cons_succ, ps_len, hg, htl]
      refine ⟨⟨by omega, fun a ha => by simp [ts] at ha; obtain ⟨y, _, rfl⟩ := ha; rfl⟩, rfl, by omega, ?_⟩
      refine loopEnd (i + 1) (by omega) (by omega) ?_
      simp [ht]
      exact weak_drop rfl rfl (by simp [EnvLe, getE, look]) (by simp [ObLe, look]) (by simp [roOk])
  · obtain rfl : i = l.length := by omega
    simp (disch := omega) [br_yes, br_no, wrap_i64, wrap_u8, wrap_i32, List.getElem?_cons_zero, List.getElem?_cons_succ]
end Go.Vs.YtbchceojmblkkaaGreatDoor
namespace Go.Vs.YtbchceojmblkkaaGreatDoor
set_option linter.unusedSimpArgs false
set_option linter.unusedVariables false
open Go.Proofs Go.Vs.U8 Go.Vs.Pa
set_option maxRecDepth 100000
set_option maxHeartbeats 8000000
end Go.Vs.YtbchceojmblkkaaGreatDoor
