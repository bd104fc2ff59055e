/- Plain mathematics of texts: characters that may be, what runs along. No conditions. -/
import Derived.Test.YthcljcjkfhiicaaGreatDoorBK
import Derived.Test.YthcljcjkfhiicaaGreatDoorBP
import Derived.Test.YthcljcjkfhiicaaGreatDoorBM
set_option linter.unusedVariables false
set_option linter.unusedSimpArgs false
set_option linter.unusedVariables false
set_option linter.unusedSimpArgs false
namespace Go.Vs.Pa
open Go.Vs.U8
/-- A sign of one byte that may be. -/
def asc (c : UInt8) : Prop := (32 ≤ c.toNat ∧ c.toNat < 127) ∨ c.toNat = 9
/-- A character of more bytes. -/
def mul (m : Str) : Prop := m ≠ [] ∧ (∀ b ∈ m, 128 ≤ b.toNat) ∧ ∀ r, oddAt (m ++ r) = false ∧ sizeL (m ++ r) = m.length
theorem odd_asc {c : UInt8} (h : asc c) (r : Str) : odd (c :: r) = (odd r).map (· + 1) := by
  have hs : sizeL (c :: r) = 1 := by
    simp only [sizeL]
    rw [if_pos (by unfold asc at h; omega)]
  have ho : oddAt (c :: r) = false := by
    simp only [oddAt, hs]
    unfold asc at h
    rcases h with h | h
    · have h1 : decide (c.toNat < 32) = false := decide_eq_false (by omega)
      have h2 : decide (c.toNat = 127) = false := decide_eq_false (by omega)
      rw [h1, h2]; rfl
    · rw [h]; rfl
  rw [odd_step (by simp), ho, hs]
  rfl
theorem odd_mul {m : Str} (h : mul m) (r : Str) : odd (m ++ r) = (odd r).map (· + m.length) := by
  obtain ⟨h1, h2, h3⟩ := h
  obtain ⟨h4, h5⟩ := h3 r
  rw [odd_step (by simp [h1]), h4, h5]
  simp
theorem lo1_ge (n : Nat) : 128 ≤ lo1 n := by unfold lo1; split <;> (try split) <;> omega
theorem tl_app {m r : Str} {k lo hi : Nat} (h : k < m.length) : tl (m ++ r) k lo hi = tl m k lo hi := by
  unfold tl; rw [List.getElem?_append_left h]
theorem clean_cases {s : Str} (h : odd s = none) : s = [] ∨ (∃ c r, s = c :: r ∧ asc c ∧ odd r = none) ∨ ∃ m r, s = m ++ r ∧ mul m ∧ odd r = none := by
  cases s with
  | nil => exact .inl rfl
  | cons c r =>
    right
    rw [odd_step (by simp)] at h
    split at h
    · cases h
    · next ho =>
      have ho : oddAt (c :: r) = false := by simpa using ho
      have hd : odd ((c :: r).drop (sizeL (c :: r))) = none := by simpa using h
      by_cases h1 : c.toNat < 128
      · left
        have hs : sizeL (c :: r) = 1 := by simp only [sizeL]; rw [if_pos h1]
        rw [hs] at hd
        refine ⟨c, r, rfl, ?_, by simpa using hd⟩
        simp only [oddAt, hs, Bool.or_eq_false_iff, Bool.and_eq_false_iff, decide_eq_false_iff_not, Bool.not_eq_false', decide_eq_true_eq] at ho
        unfold asc
        omega
      · right
        have pos := oddAt_size ho (by simp)
        have mk : ∀ (m r' : Str), c :: r = m ++ r' → (∀ x, sizeL (m ++ x) = m.length) → m ≠ [] → (∀ b ∈ m, 128 ≤ b.toNat) → ∃ m r', c :: r = m ++ r' ∧ mul m ∧ odd r' = none := by
          intro m r' e hsz hne hb
          refine ⟨m, r', e, ⟨hne, hb, fun x => ⟨?_, hsz x⟩⟩, ?_⟩
          · obtain ⟨d, m', rfl⟩ := List.exists_cons_of_ne_nil hne
            have hd1 := hb d (by simp)
            have hz := hsz x
            simp only [List.cons_append, oddAt] at hz ⊢
            rw [hz]
            have h1 : decide (d.toNat < 32) = false := decide_eq_false (by omega)
            have h2 : decide (d.toNat = 127) = false := decide_eq_false (by omega)
            rw [h1, h2]
            simp
          · rw [e, hsz r', List.drop_left] at hd
            exact hd
        simp only [sizeL] at pos
        rw [if_neg h1] at pos
        split at pos
        · next h2 =>
          simp only [Bool.and_eq_true, decide_eq_true_eq] at h2
          obtain ⟨b, hb, hb1, _⟩ := tl_some h2.2
          obtain ⟨hl, he⟩ := List.getElem?_eq_some_iff.1 hb
          obtain ⟨b', r1, rfl⟩ := List.exists_cons_of_ne_nil (show r ≠ [] by intro e; rw [e] at hl; simp at hl)
          simp at he; subst he
          refine mk [c, b'] r1 rfl (fun x => ?_) (by simp) (by simp; omega)
          have ht : tl (b' :: x) 0 128 191 = true := by have := h2.2; unfold tl at this ⊢; simpa using this
          simp only [sizeL, List.cons_append, List.nil_append]
          rw [if_neg h1, if_pos (by simp only [Bool.and_eq_true, decide_eq_true_eq]; exact ⟨h2.1, ht⟩)]
          rfl
        · next h2 =>
          split at pos
          · next h3 =>
            simp only [Bool.and_eq_true, decide_eq_true_eq] at h3
            obtain ⟨b, hb, hb1, _⟩ := tl_some h3.1.2
            obtain ⟨hl, he⟩ := List.getElem?_eq_some_iff.1 hb
            obtain ⟨b', r1, rfl⟩ := List.exists_cons_of_ne_nil (show r ≠ [] by intro e; rw [e] at hl; simp at hl)
            simp at he; subst he
            obtain ⟨d, hd', hd1, _⟩ := tl_some h3.2
            obtain ⟨hl2, he2⟩ := List.getElem?_eq_some_iff.1 hd'
            obtain ⟨d', r2, rfl⟩ := List.exists_cons_of_ne_nil (show r1 ≠ [] by intro e; rw [e] at hl2; simp at hl2)
            simp at he2; subst he2
            have hlo := lo1_ge c.toNat
            refine mk [c, b', d'] r2 rfl (fun x => ?_) (by simp) (by simp; omega)
            have t1 : tl (b' :: d' :: x) 0 (lo1 c.toNat) (hi1 c.toNat) = true := by have := h3.1.2; unfold tl at this ⊢; simpa using this
            have t2 : tl (b' :: d' :: x) 1 128 191 = true := by have := h3.2; unfold tl at this ⊢; simpa using this
            simp only [sizeL, List.cons_append, List.nil_append]
            rw [if_neg h1, if_neg (by simp only [Bool.and_eq_true, decide_eq_true_eq]; omega), if_pos (by simp only [Bool.and_eq_true, decide_eq_true_eq]; exact ⟨⟨h3.1.1, t1⟩, t2⟩)]
            rfl
          · next h3 =>
            split at pos
            · next h4 =>
              simp only [Bool.and_eq_true, decide_eq_true_eq] at h4
              obtain ⟨b, hb, hb1, _⟩ := tl_some h4.1.1.2
              obtain ⟨hl, he⟩ := List.getElem?_eq_some_iff.1 hb
              obtain ⟨b', r1, rfl⟩ := List.exists_cons_of_ne_nil (show r ≠ [] by intro e; rw [e] at hl; simp at hl)
              simp at he; subst he
              obtain ⟨d, hd', hd1, _⟩ := tl_some h4.1.2
              obtain ⟨hl2, he2⟩ := List.getElem?_eq_some_iff.1 hd'
              obtain ⟨d', r2, rfl⟩ := List.exists_cons_of_ne_nil (show r1 ≠ [] by intro e; rw [e] at hl2; simp at hl2)
              simp at he2; subst he2
              obtain ⟨e, he3, he1, _⟩ := tl_some h4.2
              obtain ⟨hl3, he4⟩ := List.getElem?_eq_some_iff.1 he3
              obtain ⟨e', r3, rfl⟩ := List.exists_cons_of_ne_nil (show r2 ≠ [] by intro e; rw [e] at hl3; simp at hl3)
              simp at he4; subst he4
              have hlo := lo1_ge c.toNat
              refine mk [c, b', d', e'] r3 rfl (fun x => ?_) (by simp) (by simp; omega)
              have t1 : tl (b' :: d' :: e' :: x) 0 (lo1 c.toNat) (hi1 c.toNat) = true := by have := h4.1.1.2; unfold tl at this ⊢; simpa using this
              have t2 : tl (b' :: d' :: e' :: x) 1 128 191 = true := by have := h4.1.2; unfold tl at this ⊢; simpa using this
              have t3 : tl (b' :: d' :: e' :: x) 2 128 191 = true := by have := h4.2; unfold tl at this ⊢; simpa using this
              simp only [sizeL, List.cons_append, List.nil_append]
              rw [if_neg h1, if_neg (by simp only [Bool.and_eq_true, decide_eq_true_eq]; omega), if_neg (by simp only [Bool.and_eq_true, decide_eq_true_eq]; omega), if_pos (by simp only [Bool.and_eq_true, decide_eq_true_eq]; exact ⟨⟨⟨h4.1.1.1, t1⟩, t2⟩, t3⟩)]
              rfl
            · omega
theorem clean_asc {c : UInt8} {r : Str} (h : asc c) : odd (c :: r) = none ↔ odd r = none := by rw [odd_asc h]; simp
theorem clean_mul {m r : Str} (h : mul m) : odd (m ++ r) = none ↔ odd r = none := by rw [odd_mul h]; simp
theorem esc_app (a b : Str) : esc (a ++ b) = esc a ++ esc b := by
  induction a with
  | nil => rfl
  | cons c r ih => simp [esc, ih]
theorem esc_big {m : Str} (h : ∀ b ∈ m, 128 ≤ b.toNat) : esc m = m := by
  induction m with
  | nil => rfl
  | cons c r ih =>
    have h1 := h c (by simp)
    simp only [esc]
    rw [if_neg (by omega), if_neg (by omega), if_neg (by omega), ih (fun b hb => h b (by simp [hb]))]
    rfl
theorem sp_big {b : UInt8} (h : 128 ≤ (sp b).toNat) : sp b = b := by
  unfold sp at h ⊢
  split
  · next e => rw [if_pos e] at h; exact absurd h (by decide)
  · rfl
theorem map_sp_big : ∀ {v m : Str}, v.map sp = m → (∀ b ∈ m, 128 ≤ b.toNat) → v = m
  | [], m, h, _ => by simpa using h
  | c :: r, m, h, hb => by
    subst h
    have h1 := hb (sp c) (by simp)
    have h2 := map_sp_big (v := r) rfl (fun b hb' => hb b (by simp only [List.map_cons, List.mem_cons]; exact .inr hb'))
    rw [List.map_cons, sp_big h1, ← h2]
/-- What is written of a value that may be has no odd byte. -/
theorem esc_clean : ∀ (n : Nat) (v : Str), v.length ≤ n → odd (v.map sp) = none → odd (esc v) = none
  | n, [], _, _ => rfl
  | 0, c :: r, hn, _ => by simp at hn
  | n + 1, c :: r, hn, h => by
    rcases clean_cases h with e | ⟨d, r', e, ha, hr⟩ | ⟨m, r', e, hm, hr⟩
    · simp at e
    · simp only [List.map_cons, List.cons.injEq] at e
      obtain ⟨e1, e2⟩ := e
      have ih := esc_clean n r (by simp at hn; omega) (by rw [e2]; exact hr)
      simp only [esc]
      have a94 : asc 94 := .inl ⟨by decide, by decide⟩
      have a110 : asc 110 := .inl ⟨by decide, by decide⟩
      have a39 : asc 39 := .inl ⟨by decide, by decide⟩
      split
      · simpa [clean_asc a94] using ih
      · split
        · simpa [clean_asc a94, clean_asc a110] using ih
        · split
          · simpa [clean_asc a94, clean_asc a39] using ih
          · next h1 h2 h3 =>
            have : sp c = c := by unfold sp; rw [if_neg h2]
            rw [this] at e1
            subst e1
            simpa [clean_asc ha] using ih
    · obtain ⟨hne, hb, _⟩ := id hm
      obtain ⟨v1, v2, hv, e1, e2⟩ := List.map_eq_append_iff.1 e
      have e3 := map_sp_big e1 hb
      have hl : v2.length ≤ n := by
        have : 1 ≤ m.length := by cases m with
          | nil => exact absurd rfl hne
          | cons => simp
        have h2 := congrArg List.length hv
        rw [e3, List.length_append] at h2
        simp at h2 hn
        omega
      have ih := esc_clean n v2 hl (by rw [e2]; exact hr)
      rw [hv, esc_app, e3, esc_big hb, clean_mul hm]
      exact ih
theorem meant_ne {c : UInt8} (h : c.toNat ≠ 94) : ∀ r, meant (c :: r) = c :: meant r
  | [] => by simp [meant]
  | d :: r => by simp only [meant]; rw [if_neg h]
theorem meant_big : ∀ {m : Str}, (∀ b ∈ m, 128 ≤ b.toNat) → ∀ r, meant (m ++ r) = m ++ meant r
  | [], _, r => rfl
  | c :: m, h, r => by
    have h1 := h c (by simp)
    rw [List.cons_append, meant_ne (by omega), meant_big (fun b hb => h b (by simp [hb])) r]
    rfl
/-- What a clean text means may be a value. -/
theorem meant_clean : ∀ (n : Nat) (s : Str), s.length ≤ n → odd s = none → odd ((meant s).map sp) = none
  | n, [], _, _ => rfl
  | 0, c :: r, hn, _ => by simp at hn
  | n + 1, c :: r, hn, h => by
    have a94 : asc 94 := .inl ⟨by decide, by decide⟩
    have a32 : asc 32 := .inl ⟨by decide, by decide⟩
    have a34 : asc 34 := .inl ⟨by decide, by decide⟩
    have spa : ∀ {d : UInt8}, asc d → sp d = d := by
      intro d hd
      unfold sp; rw [if_neg]; unfold asc at hd; omega
    rcases clean_cases h with e | ⟨d, r', e, ha, hr⟩ | ⟨m, r', e, hm, hr⟩
    · simp at e
    · simp only [List.cons.injEq] at e
      obtain ⟨rfl, rfl⟩ := e
      by_cases hc : c.toNat = 94
      · have hc' : c = 94 := UInt8.toNat_inj.1 hc
        subst hc'
        cases r with
        | nil => simp only [meant, List.map_cons, List.map_nil, spa a94]; rw [clean_asc a94]; rfl
        | cons d r2 =>
          have ihr := meant_clean n (d :: r2) (by simp at hn ⊢; omega) hr
          have two : asc d → odd ((meant r2).map sp) = none := by
            intro hd
            rw [clean_asc hd] at hr
            exact meant_clean n r2 (by simp at hn; omega) hr
          simp only [meant]
          rw [if_pos hc]
          split
          · next h1 => have := two (.inl ⟨by omega, by omega⟩); simpa [spa a94, clean_asc a94] using this
          · split
            · next h1 =>
              have := two (.inl ⟨by omega, by omega⟩)
              have e10 : sp 10 = 32 := by decide
              simpa [e10, clean_asc a32] using this
            · split
              · next h1 => have := two (.inl ⟨by omega, by omega⟩); simpa [spa a34, clean_asc a34] using this
              · simpa [spa a94, clean_asc a94] using ihr
      · rw [meant_ne hc, List.map_cons, spa ha, clean_asc ha]
        exact meant_clean n r (by simp at hn; omega) hr
    · obtain ⟨hne, hb, _⟩ := id hm
      have hl : r'.length ≤ n := by
        have : 1 ≤ m.length := by cases m with
          | nil => exact absurd rfl hne
          | cons => simp
        have h2 := congrArg List.length e
        rw [List.length_append] at h2
        simp at h2 hn
        omega
      have ih := meant_clean n r' hl hr
      have hsp : m.map sp = m := by
        have : ∀ b ∈ m, sp b = b := fun b hb' => by
          have := hb b hb'
          unfold sp; rw [if_neg (by omega)]
        exact (List.map_congr_left this).trans (List.map_id m)
      rw [e, meant_big hb, List.map_append, hsp, clean_mul hm]
      exact ih
theorem meant_esc : ∀ v : Str, meant (esc v) = v
  | [] => rfl
  | c :: r => by
    have ih := meant_esc r
    simp only [esc]
    split
    · next h => simp [meant, ih]; exact (UInt8.toNat_inj.1 h).symm
    · split
      · next h => simp [meant, ih]; exact (UInt8.toNat_inj.1 h).symm
      · split
        · next h => simp [meant, ih]; exact (UInt8.toNat_inj.1 h).symm
        · next h1 h2 h3 => rw [List.cons_append, List.nil_append, meant_ne h1, ih]
theorem esc_no34 : ∀ (v : Str), ∀ c ∈ esc v, c.toNat ≠ 34
  | [], c, h => by simp [esc] at h
  | d :: r, c, h => by
    simp only [esc, List.mem_append] at h
    rcases h with h | h
    · split at h
      · simp at h; subst h; decide
      · split at h
        · simp at h; rcases h with rfl | rfl <;> decide
        · split at h
          · simp at h; rcases h with rfl | rfl <;> decide
          · next h3 => simp at h; subst h; exact h3
    · exact esc_no34 r c h
theorem esc_nostp : ∀ (v : Str), v.any stp = false → ∀ c ∈ esc v, stp c = false
  | [], _, c, h => by simp [esc] at h
  | d :: r, hv, c, h => by
    simp only [List.any_cons, Bool.or_eq_false_iff] at hv
    simp only [esc, List.mem_append] at h
    rcases h with h | h
    · split at h
      · simp at h; subst h; decide
      · split at h
        · simp at h; rcases h with rfl | rfl <;> decide
        · split at h
          · simp at h; rcases h with rfl | rfl <;> decide
          · simp at h; subst h; exact hv.1
    · exact esc_nostp r hv.2 c h
end Go.Vs.Pa
namespace Go.Vs.YthcljcjkfhiicaaGreatDoor
set_option linter.unusedSimpArgs false
set_option linter.unusedVariables false
open Go.Proofs Go.Vs.U8 Go.Vs.Pa
theorem run_spec (p : UInt8 → Bool) : ∀ x : Str, (∀ i, i < run p x → ∃ c, x[i]? = some c ∧ p c = true) ∧ ∀ c, x[run p x]? = some c → p c = false
  | [] => ⟨fun i h => by simp [run] at h, fun c h => by simp at h⟩
  | d :: r => by
    obtain ⟨h1, h2⟩ := run_spec p r
    simp only [run]
    split
    · next hd =>
      refine ⟨fun i hi => ?_, fun c hc => h2 c (by simpa using hc)⟩
      cases i with
      | zero => exact ⟨d, rfl, hd⟩
      | succ i => simpa using h1 i (by omega)
    · next hd =>
      refine ⟨fun i hi => by omega, fun c hc => ?_⟩
      simp at hc; subst hc; simpa using hd
theorem run_of {p : UInt8 → Bool} : ∀ {x : Str} {k : Nat}, (∀ i, i < k → ∃ c, x[i]? = some c ∧ p c = true) → (∀ c, x[k]? = some c → p c = false) → run p x = k
  | [], k, h1, _ => by
    cases k with
    | zero => rfl
    | succ k => obtain ⟨c, hc, _⟩ := h1 0 (by omega); simp at hc
  | d :: r, 0, _, h2 => by
    have := h2 d rfl
    simp [run, this]
  | d :: r, k + 1, h1, h2 => by
    obtain ⟨c, hc, hp⟩ := h1 0 (by omega)
    simp at hc; subst hc
    have := run_of (x := r) (k := k) (fun i hi => by simpa using h1 (i + 1) (by omega)) (fun c hc => h2 c (by simpa using hc))
    simp [run, hp, this]
theorem run_app {p : UInt8 → Bool} {x y : Str} (h1 : ∀ c ∈ x, p c = true) (h2 : ∀ c, y[0]? = some c → p c = false) : run p (x ++ y) = x.length := by
  refine run_of (fun i hi => ?_) (fun c hc => ?_)
  · refine ⟨x[i], by rw [List.getElem?_append_left hi, List.getElem?_eq_getElem hi], h1 _ (List.getElem_mem hi)⟩
  · rw [List.getElem?_append_right (Nat.le_refl _), Nat.sub_self] at hc
    exact h2 c hc
theorem named_run : ∀ s : Str, named s = run nmd s
  | [] => rfl
  | c :: r => by simp only [named, run, named_run r]
theorem at_app (x y : Str) : (x ++ y)[x.length]? = y[0]? := by rw [List.getElem?_append_right (Nat.le_refl _), Nat.sub_self]
theorem at_app2 (x : Str) (c : UInt8) (y : Str) (k : Nat) : (x ++ c :: y)[x.length + 1 + k]? = y[k]? := by
  rw [List.getElem?_append_right (by omega), show x.length + 1 + k - x.length = k + 1 by omega, List.getElem?_cons_succ]
theorem drop_app (x y : Str) : (x ++ y).drop x.length = y := by simp
theorem toNat_ne {c : UInt8} {d : UInt8} (h : c.toNat ≠ d.toNat) : c ≠ d := fun e => h (by rw [e])
/-- What may stand behind a value. -/
def endsV (r : Str) : Prop := ∀ c, r[0]? = some c → stp c = true
theorem valueR_write {pre v rest : Str} (hv : v.length ≤ 60) (hf : fineB v = true) (hr : endsV rest) : valueR (pre ++ (write v ++ rest)) pre.length = .ok v (pre.length + (write v).length) := by
  have hcl : odd (esc v) = none := esc_clean _ v (Nat.le_refl _) (by simpa [fineB] using hf)
  have hch : ∀ a f, checked (esc v) a f = .ok v 0 := by
    intro a f
    have hme := Pa.meant_esc v
    simp only [checked, hcl]
    rw [hme, if_neg (by omega)]
  cases hs : v.any stp with
  | true =>
    have hw : write v = 34 :: (esc v ++ [34]) := by simp [write, hs]
    have h0 : (pre ++ (write v ++ rest))[pre.length]? = some 34 := by rw [at_app, hw]; rfl
    have hd : (pre ++ (write v ++ rest)).drop (pre.length + 1) = esc v ++ 34 :: rest := by
      rw [← List.drop_drop, drop_app, hw]; simp
    have hrun : run notq (esc v ++ 34 :: rest) = (esc v).length := run_app (fun c hc => by simp [notq, esc_no34 v c hc]) (fun c hc => by simp at hc; subst hc; rfl)
    simp only [valueR]
    rw [if_pos h0, hd, hrun, if_neg (by simp), List.take_left, hch]
    have hst : stopAt (pre ++ (write v ++ rest)) (pre.length + (esc v).length + 2) = true := by
      unfold stopAt
      have : (pre ++ (write v ++ rest))[pre.length + (esc v).length + 2]? = rest[0]? := by
        rw [hw, List.getElem?_append_right (by omega), show pre.length + (esc v).length + 2 - pre.length = ((esc v).length + 1) + 1 by omega, List.cons_append, List.getElem?_cons_succ, List.append_assoc,
          List.getElem?_append_right (by omega), show (esc v).length + 1 - (esc v).length = 0 + 1 by omega]
        simp
      rw [this]
      cases hc : rest[0]? with
      | none => rfl
      | some c => exact hr c hc
    simp only
    rw [if_pos hst, hw]
    simp
    omega
  | false =>
    have hw : write v = esc v := by simp [write, hs]
    rw [hw]
    have h34 : ∀ c, (pre ++ (esc v ++ rest))[pre.length]? = some c → c.toNat ≠ 34 := by
      intro c hc
      rw [at_app] at hc
      cases he : esc v with
      | nil =>
        rw [he, List.nil_append] at hc
        have := hr c hc
        intro e
        simp [stp] at this
        omega
      | cons d r =>
        rw [he] at hc
        simp at hc; subst hc
        exact esc_no34 v d (by rw [he]; simp)
    have hrun : run plain (esc v ++ rest) = (esc v).length := run_app (fun c hc => by simp [plain, notq, esc_no34 v c hc, esc_nostp v hs c hc]) (fun c hc => by simp [plain, hr c hc])
    simp only [valueR]
    rw [if_neg (fun e => h34 34 e rfl), drop_app, hrun, if_neg, List.take_left, hch]
    intro e
    rw [List.getElem?_append_right (by omega), show pre.length + (esc v).length - pre.length = (esc v).length by omega, at_app] at e
    have := hr _ e
    exact absurd this (by decide)
def headOk (r : Str) : Prop := ∀ c, r[0]? = some c → stp c = true ∧ c.toNat ≠ 44
theorem valsR_write : ∀ (r : List Str) (v : Str) (pre rest : Str) (m : Nat) (vs : List Str), (∀ x ∈ v :: r, x.length ≤ 60 ∧ fineB x = true) → headOk rest → r.length + 1 ≤ m →
    valsR (pre ++ (write v ++ (Go.Lib.joinTail [44] (r.map write) ++ rest))) m pre.length vs = .ok (vs ++ v :: r) (pre.length + ((write v).length + (Go.Lib.joinTail [44] (r.map write)).length))
  | r, v, pre, rest, 0, vs, _, _, hm => by omega
  | [], v, pre, rest, m + 1, vs, hv, hr, hm => by
    have h1 := hv v (by simp)
    have := valueR_write (pre := pre) (v := v) (rest := rest) h1.1 h1.2 (fun c hc => (hr c hc).1)
    simp only [List.map_nil, Go.Lib.joinTail, List.flatten_nil, List.nil_append, valsR, this, List.length_nil, Nat.add_zero]
    rw [if_neg]
    intro e
    rw [← List.append_assoc, show pre.length + (write v).length = (pre ++ write v).length by simp, at_app] at e
    exact (hr _ e).2 rfl
  | w :: r, v, pre, rest, m + 1, vs, hv, hr, hm => by
    have h1 := hv v (by simp)
    obtain ⟨tail, ht⟩ : ∃ tail, Go.Lib.joinTail [44] ((w :: r).map write) ++ rest = tail := ⟨_, rfl⟩
    have htail : tail = 44 :: (write w ++ (Go.Lib.joinTail [44] (r.map write) ++ rest)) := by rw [← ht]; simp [Go.Lib.joinTail]
    have hends : endsV tail := by rw [htail]; intro c hc; simp at hc; subst hc; decide
    have := valueR_write (pre := pre) (v := v) (rest := tail) h1.1 h1.2 hends
    rw [ht]
    simp only [valsR, this]
    have h44 : (pre ++ (write v ++ tail))[pre.length + (write v).length]? = some 44 := by
      rw [← List.append_assoc, show pre.length + (write v).length = (pre ++ write v).length by simp, at_app, htail]; rfl
    rw [if_pos h44]
    have ih := valsR_write r w (pre ++ write v ++ [44]) rest m (vs ++ [v]) (fun x hx => hv x (by simp at hx ⊢; exact .inr hx)) hr (by simp at hm; omega)
    have e1 : pre ++ write v ++ [44] ++ (write w ++ (Go.Lib.joinTail [44] (r.map write) ++ rest)) = pre ++ (write v ++ tail) := by rw [htail]; simp
    have e2 : (pre ++ write v ++ [44]).length = pre.length + (write v).length + 1 := by simp; omega
    rw [e1, e2] at ih
    rw [ih]
    have e3 : (Go.Lib.joinTail [44] ((w :: r).map write)).length = 1 + ((write w).length + (Go.Lib.joinTail [44] (r.map write)).length) := by
      simp [Go.Lib.joinTail]; omega
    rw [e3]
    simp
    omega
theorem checkV_all : ∀ {l : List Str}, checkV l = 0 → ∀ x ∈ l, x.length ≤ 60 ∧ fineB x = true
  | [], _, x, h => by simp at h
  | v :: r, hc, x, h => by
    simp only [checkV] at hc
    split at hc
    · cases hc
    · split at hc
      · next h1 h2 =>
        rcases List.mem_cons.1 h with rfl | h
        · exact ⟨by omega, h2⟩
        · exact checkV_all hc x h
      · cases hc
theorem checkV_of : ∀ {l : List Str}, (∀ x ∈ l, x.length ≤ 60 ∧ fineB x = true) → checkV l = 0
  | [], _ => rfl
  | v :: r, h => by
    have h1 := h v (by simp)
    simp only [checkV]
    rw [if_neg (by omega), if_pos h1.2]
    exact checkV_of (fun x hx => h x (by simp [hx]))
theorem checkP_iff (p : Pm) : checkP p = 0 ↔ nameB p.n = true ∧ 1 ≤ p.v.length ∧ p.v.length ≤ 6 ∧ ∀ x ∈ p.v, x.length ≤ 60 ∧ fineB x = true := by
  simp only [checkP]
  constructor
  · intro h
    split at h
    · next h1 =>
      split at h
      · cases h
      · exact ⟨h1, by omega, by omega, checkV_all h⟩
    · cases h
  · rintro ⟨h1, h2, h3, h4⟩
    rw [if_pos h1, if_neg (by omega), checkV_of h4]
theorem nameB_spec {n : Str} (h : nameB n = true) : 1 ≤ n.length ∧ n.length ≤ 24 ∧ n.all nmd = true ∧ upper n = n := by
  simp only [nameB, Bool.and_eq_true, decide_eq_true_eq] at h
  obtain ⟨h1, h2⟩ := (all_sgn n).1 h.2
  exact ⟨h.1.1, h.1.2, h1, h2⟩
theorem named_name {n : Str} (h : n.all nmd = true) (rest : Str) : named (n ++ 61 :: rest) = n.length := by
  rw [named_run]
  exact run_app (fun c hc => List.all_eq_true.1 h c hc) (fun c hc => by simp at hc; subst hc; decide)
theorem oneR_print {p : Pm} (hp : checkP p = 0) {pre rest : Str} {l : List Pm} (hh : hasN l p.n = false) (hr : headOk rest) :
    oneR (pre ++ (p.n ++ 61 :: (Go.Lib.join (p.v.map write) [44] ++ rest))) pre.length l = .ok p (pre.length + (p.n.length + 1 + (Go.Lib.join (p.v.map write) [44]).length)) := by
  obtain ⟨h1, h2, h3, h4⟩ := (checkP_iff p).1 hp
  obtain ⟨n1, n2, n3, n4⟩ := nameB_spec h1
  obtain ⟨n, v⟩ := p
  simp only at *
  obtain ⟨x, r, rfl⟩ := List.exists_cons_of_ne_nil (show v ≠ [] by intro e; rw [e] at h2; simp at h2)
  rw [List.map_cons, Go.Lib.join_cons]
  simp only [oneR, drop_app, named_name n3, List.take_left, n4, hh]
  rw [if_neg (by omega), if_neg (by simp)]
  have h61 : (pre ++ (n ++ 61 :: (write x ++ Go.Lib.joinTail [44] (r.map write) ++ rest)))[pre.length + n.length]? = some 61 := by
    rw [← List.append_assoc, show pre.length + n.length = (pre ++ n).length by simp, at_app]; rfl
  rw [if_pos h61]
  have := valsR_write r x (pre ++ n ++ [61]) rest 6 [] h4 hr (by simp at h3; omega)
  have e1 : pre ++ n ++ [61] ++ (write x ++ (Go.Lib.joinTail [44] (r.map write) ++ rest)) = pre ++ (n ++ 61 :: (write x ++ Go.Lib.joinTail [44] (r.map write) ++ rest)) := by simp
  have e2 : (pre ++ n ++ [61]).length = pre.length + n.length + 1 := by simp; omega
  rw [e1, e2] at this
  rw [this]
  simp
  omega
theorem parseR_print : ∀ (l : List Pm) (pre rest : Str) (m : Nat) (out : List Pm), (∀ p ∈ l, checkP p = 0) → twiceF out l = false → l.length ≤ m → (∀ c, rest[0]? = some c → c.toNat = 58) →
    parseR (pre ++ (printsP l ++ rest)) m pre.length out = .ok (out ++ l) (pre.length + (printsP l).length)
  | [], pre, rest, m, out, _, _, _, hr => by
    have h59 : ¬ (pre ++ (printsP [] ++ rest))[pre.length]? = some 59 := by
      intro e
      rw [at_app] at e
      simp only [printsP, List.map_nil, List.flatten_nil, List.nil_append] at e
      exact absurd (hr _ e) (by decide)
    cases m <;> simp only [parseR, if_neg h59] <;> simp [printsP]
  | p :: r, pre, rest, 0, out, _, _, hm, _ => by simp at hm
  | p :: r, pre, rest, m + 1, out, hc, ht, hm, hr => by
    simp only [twiceF, Bool.or_eq_false_iff] at ht
    have hpp : printsP (p :: r) = printP p ++ printsP r := by simp [printsP]
    obtain ⟨J, hJ⟩ : ∃ J, Go.Lib.join (p.v.map write) [44] = J := ⟨_, rfl⟩
    have htx : pre ++ (printsP (p :: r) ++ rest) = pre ++ [59] ++ (p.n ++ 61 :: (J ++ (printsP r ++ rest))) := by rw [hpp, printP, hJ]; simp
    have h59 : (pre ++ (printsP (p :: r) ++ rest))[pre.length]? = some 59 := by rw [at_app, hpp]; simp [printP]
    have hh : headOk (printsP r ++ rest) := by
      intro c hc
      cases r with
      | nil =>
        simp only [printsP, List.map_nil, List.flatten_nil, List.nil_append] at hc
        have := hr c hc
        refine ⟨by simp [stp, this], by omega⟩
      | cons q r' =>
        simp [printsP, printP] at hc
        subst hc
        exact ⟨by decide, by decide⟩
    have ho := oneR_print (hc p (by simp)) (pre := pre ++ [59]) ht.1 hh
    rw [hJ] at ho
    have e59 : (pre ++ [(59 : UInt8)]).length = pre.length + 1 := by simp
    rw [← htx, e59] at ho
    simp only [parseR]
    rw [if_pos h59, ho]
    simp only
    have ih := parseR_print r (pre ++ printP p) rest m (out ++ [p]) (fun q hq => hc q (by simp [hq])) ht.2 (by simp at hm; omega) hr
    have e1 : pre ++ printP p ++ (printsP r ++ rest) = pre ++ (printsP (p :: r) ++ rest) := by rw [hpp]; simp
    have e2 : (pre ++ printP p).length = pre.length + 1 + (p.n.length + 1 + J.length) := by simp [printP, hJ]; omega
    rw [e1, e2] at ih
    rw [ih, hpp]
    simp [printP, hJ]
    omega
theorem checked_fine {raw : Str} {a f : Nat} {v : Str} {n : Nat} (h : checked raw a f = .ok v n) : v.length ≤ 60 ∧ fineB v = true := by
  have h1 := checked_ok h
  refine ⟨h1, ?_⟩
  simp only [checked] at h
  split at h
  · cases h
  · next ho =>
    split at h
    · cases h
    · cases h
      have := meant_clean _ raw (Nat.le_refl _) ho
      simp [fineB, this]
theorem valueR_fine {s : Str} {a : Nat} {v : Str} {n : Nat} (h : valueR s a = .ok v n) : v.length ≤ 60 ∧ fineB v = true := by
  simp only [valueR] at h
  split at h
  · split at h
    · cases h
    · split at h
      · cases h
      · next hc =>
        split at h
        · cases h; exact checked_fine hc
        · cases h
  · split at h
    · cases h
    · split at h
      · cases h
      · next hc => cases h; exact checked_fine hc
theorem valsR_fine (s : Str) : ∀ (m a : Nat) (vs v : List Str) (n : Nat), (∀ x ∈ vs, x.length ≤ 60 ∧ fineB x = true) → valsR s m a vs = .ok v n → (∀ x ∈ v, x.length ≤ 60 ∧ fineB x = true) ∧ vs.length + 1 ≤ v.length ∧ v.length ≤ vs.length + m ∧ a ≤ n
  | 0, a, vs, v, n, _, h => by simp [valsR] at h
  | m + 1, a, vs, v, n, hvs, h => by
    simp only [valsR] at h
    cases hg : valueR s a with
    | no e p => rw [hg] at h; cases h
    | ok x j =>
      rw [hg] at h
      have hx := valueR_fine hg
      have hj := valueR_ge hg
      have hvs' : ∀ y ∈ vs ++ [x], y.length ≤ 60 ∧ fineB y = true := by
        intro y hy
        rcases List.mem_append.1 hy with hy | hy
        · exact hvs y hy
        · rw [List.mem_singleton.1 hy]; exact hx
      simp only at h
      split at h
      · have := valsR_fine s m (j + 1) (vs ++ [x]) v n hvs' h
        simp at this
        exact ⟨this.1, by omega, by omega, by omega⟩
      · cases h
        exact ⟨hvs', by simp, by simp, hj⟩
theorem oneR_fine {s : Str} {a : Nat} {l : List Pm} {p : Pm} {n : Nat} (h : oneR s a l = .ok p n) : checkP p = 0 ∧ hasN l p.n = false ∧ a < n := by
  simp only [oneR] at h
  split at h
  · cases h
  · next hk =>
    split at h
    · cases h
    · next hh =>
      split at h
      · cases hv : valsR s 6 (a + named (s.drop a) + 1) [] with
        | no e p => rw [hv] at h; cases h
        | ok v j =>
          rw [hv] at h
          cases h
          obtain ⟨h1, h2, h3, h4⟩ := valsR_fine s 6 _ [] v n (by simp) hv
          simp at h2 h3
          refine ⟨(checkP_iff _).2 ⟨?_, by simpa using h2, by simpa using h3, h1⟩, by simpa using hh, by omega⟩
          have hl := named_le (s.drop a)
          have hup := upper_len ((s.drop a).take (named (s.drop a)))
          have hall : (upper ((s.drop a).take (named (s.drop a)))).all sgn = true := by
            have := named_take (s.drop a)
            rw [List.all_eq_true] at this ⊢
            intro c hc
            simp only [upper, List.mem_map] at hc
            obtain ⟨d, hd, rfl⟩ := hc
            show sgn (Pa.upB d) = true
            rw [nmd_up]
            exact this d hd
          rw [List.length_take] at hup
          simp only [nameB, Bool.and_eq_true, decide_eq_true_eq]
          exact ⟨⟨by omega, by omega⟩, hall⟩
      · cases h
theorem parseR_fine (s : Str) : ∀ (m a : Nat) (out l : List Pm) (n : Nat), parseR s m a out = .ok l n → ∃ r, l = out ++ r ∧ (∀ p ∈ r, checkP p = 0) ∧ twiceF out r = false ∧ r.length ≤ m ∧ a ≤ n ∧ (r = [] → n = a) ∧ (r ≠ [] → a < n)
  | 0, a, out, l, n, h => by
    simp only [parseR] at h
    split at h
    · cases h
    · cases h; exact ⟨[], by simp, by simp, rfl, by simp, by omega, by simp, by simp⟩
  | m + 1, a, out, l, n, h => by
    simp only [parseR] at h
    split at h
    · cases ho : oneR s (a + 1) out with
      | no e p => rw [ho] at h; cases h
      | ok p j =>
        rw [ho] at h
        obtain ⟨h1, h2, h3⟩ := oneR_fine ho
        obtain ⟨r, e1, e2, e3, e4, e5, e6, e7⟩ := parseR_fine s m j (out ++ [p]) l n h
        refine ⟨p :: r, by rw [e1]; simp, ?_, by simp [twiceF, h2, e3], by simp; omega, by omega, by simp, fun _ => by omega⟩
        intro q hq
        rcases List.mem_cons.1 hq with rfl | hq
        · exact h1
        · exact e2 q hq
    · cases h; exact ⟨[], by simp, by simp, rfl, by simp, by omega, by simp, by simp⟩
theorem firstBad_of : ∀ {l : List Pm}, (∀ p ∈ l, checkP p = 0) → firstBad l = 0
  | [], _ => rfl
  | p :: r, h => by rw [firstBad, if_pos (h p (by simp))]; exact firstBad_of (fun q hq => h q (by simp [hq]))
theorem checkAll_iff (l : List Pm) : checkAll l = 0 ↔ l.length ≤ 6 ∧ (∀ p ∈ l, checkP p = 0) ∧ twiceF [] l = false := by
  simp only [checkAll]
  constructor
  · intro h
    split at h
    · cases h
    · split at h
      · next h1 h2 =>
        split at h
        · cases h
        · next h3 => exact ⟨by omega, firstBad_all h2, by simpa using h3⟩
      · next h1 h2 => exact absurd h h2
  · rintro ⟨h1, h2, h3⟩
    rw [if_neg (by omega), if_pos (firstBad_of h2), h3]
    rfl
/-- What is parsed may be. -/
theorem parse_valid {s : Str} {l : List Pm} {n : Nat} (h : parseR s 6 0 [] = .ok l n) : checkAll l = 0 := by
  obtain ⟨r, e1, e2, e3, e4, _⟩ := parseR_fine s 6 0 [] l n h
  simp at e1
  subst e1
  exact (checkAll_iff _).2 ⟨e4, e2, e3⟩
/-- What is printed is parsed as it was. -/
theorem parse_print {l : List Pm} (h : checkAll l = 0) {rest : Str} (hr : ∀ c, rest[0]? = some c → c.toNat = 58) : parseR (printsP l ++ rest) 6 0 [] = .ok l (printsP l).length := by
  obtain ⟨h1, h2, h3⟩ := (checkAll_iff l).1 h
  have := parseR_print l [] rest 6 [] h2 h3 h1 hr
  simpa using this
/- WHERE PARSING ENDS -/
theorem valueR_stop {s : Str} {a : Nat} {v : Str} {n : Nat} (h : valueR s a = .ok v n) : stopAt s n = true := by
  simp only [valueR] at h
  split at h
  · split at h
    · cases h
    · split at h
      · cases h
      · split at h
        · next hs => cases h; exact hs
        · cases h
  · split at h
    · cases h
    · next h34 =>
      split at h
      · cases h
      · cases h
        have := (run_spec plain (s.drop a)).2
        unfold stopAt
        rw [List.getElem?_drop] at this
        cases hc : s[a + run plain (s.drop a)]? with
        | none => rfl
        | some c =>
          have h1 := this c hc
          simp only [plain, Bool.and_eq_false_iff, Bool.not_eq_false'] at h1
          rcases h1 with h1 | h1
          · exact h1
          · exfalso
            simp [notq] at h1
            exact h34 (by rw [hc, UInt8.toNat_inj.1 (show c.toNat = (34 : UInt8).toNat from h1)])
theorem valsR_stop (s : Str) : ∀ (m a : Nat) (vs v : List Str) (n : Nat), valsR s m a vs = .ok v n → stopAt s n = true ∧ s[n]? ≠ some 44
  | 0, a, vs, v, n, h => by simp [valsR] at h
  | m + 1, a, vs, v, n, h => by
    simp only [valsR] at h
    cases hg : valueR s a with
    | no e p => rw [hg] at h; cases h
    | ok x j =>
      rw [hg] at h
      simp only at h
      split at h
      · exact valsR_stop s m (j + 1) _ v n h
      · next h44 => cases h; exact ⟨valueR_stop hg, h44⟩
theorem oneR_stop {s : Str} {a : Nat} {l : List Pm} {p : Pm} {n : Nat} (h : oneR s a l = .ok p n) : stopAt s n = true ∧ s[n]? ≠ some 44 := by
  simp only [oneR] at h
  split at h
  · cases h
  · split at h
    · cases h
    · split at h
      · cases hv : valsR s 6 (a + named (s.drop a) + 1) [] with
        | no e p => rw [hv] at h; cases h
        | ok v j => rw [hv] at h; cases h; exact valsR_stop s 6 _ [] v n hv
      · cases h
theorem parseR_end (s : Str) : ∀ (m a : Nat) (out l : List Pm) (n : Nat), parseR s m a out = .ok l n → s[n]? ≠ some 59 ∧ (n = a ∨ stopAt s n = true ∧ s[n]? ≠ some 44)
  | 0, a, out, l, n, h => by
    simp only [parseR] at h
    split at h
    · cases h
    · next h59 => cases h; exact ⟨h59, .inl rfl⟩
  | m + 1, a, out, l, n, h => by
    simp only [parseR] at h
    split at h
    · cases ho : oneR s (a + 1) out with
      | no e p => rw [ho] at h; cases h
      | ok p j =>
        rw [ho] at h
        have hs := oneR_stop ho
        obtain ⟨h1, h2⟩ := parseR_end s m j (out ++ [p]) l n h
        refine ⟨h1, .inr ?_⟩
        rcases h2 with rfl | h2
        · exact hs
        · exact h2
    · next h59 => cases h; exact ⟨h59, .inl rfl⟩
theorem stop_colon {s : Str} {n : Nat} (h1 : s[n]? ≠ some 59) (h2 : stopAt s n = true) (h3 : s[n]? ≠ some 44) : s[n]? = none ∨ s[n]? = some 58 := by
  cases hc : s[n]? with
  | none => exact .inl rfl
  | some c =>
    right
    unfold stopAt at h2
    rw [hc] at h2 h1 h3
    simp [stp] at h2
    rcases h2 with h2 | h2 | h2
    · exact absurd (by rw [UInt8.toNat_inj.1 (show c.toNat = (44 : UInt8).toNat from h2)]) h3
    · rw [UInt8.toNat_inj.1 (show c.toNat = (58 : UInt8).toNat from h2)]
    · exact absurd (by rw [UInt8.toNat_inj.1 (show c.toNat = (59 : UInt8).toNat from h2)]) h1
/-- Texts that are one up to a place, where both end, or a colon stands. -/
structure Ag (n : Nat) (s t : Str) : Prop where
  eq : ∀ i, i < n → t[i]? = s[i]?
  ls : n ≤ s.length
  lt : n ≤ t.length
  es : s[n]? = none ∨ s[n]? = some 58
  et : t[n]? = none ∨ t[n]? = some 58
theorem Ag.of {n : Nat} {s t : Str} (h : Ag n s t) {k : Nat} (hk : k ≤ n) {c : UInt8} (hc : c.toNat ≠ 58) : t[k]? = some c ↔ s[k]? = some c := by
  rcases Nat.lt_or_ge k n with h1 | h1
  · rw [h.eq k h1]
  · obtain rfl : k = n := by omega
    constructor
    · intro e
      rcases h.et with h2 | h2
      · rw [h2] at e; cases e
      · rw [h2] at e; cases e; exact absurd rfl hc
    · intro e
      rcases h.es with h2 | h2
      · rw [h2] at e; cases e
      · rw [h2] at e; cases e; exact absurd rfl hc
theorem Ag.run {n : Nat} {s t : Str} (h : Ag n s t) {p : UInt8 → Bool} (hp : p 58 = false) {a k : Nat} (hr : run p (s.drop a) = k) (hk : a + k ≤ n) : Vs.YthcljcjkfhiicaaGreatDoor.run p (t.drop a) = k := by
  have := run_spec p (s.drop a)
  rw [hr] at this
  refine run_of (fun i hi => ?_) (fun c hc => ?_)
  · obtain ⟨c, h1, h2⟩ := this.1 i hi
    refine ⟨c, ?_, h2⟩
    rw [List.getElem?_drop] at h1 ⊢
    rw [h.eq _ (by omega)]; exact h1
  · rw [List.getElem?_drop] at hc
    rcases Nat.lt_or_ge (a + k) n with h1 | h1
    · rw [h.eq _ h1] at hc
      exact this.2 c (by rw [List.getElem?_drop]; exact hc)
    · obtain e : a + k = n := by omega
      rw [e] at hc
      rcases h.et with h2 | h2
      · rw [h2] at hc; cases hc
      · rw [h2] at hc; cases hc; exact hp
theorem Ag.take {n : Nat} {s t : Str} (h : Ag n s t) {a k : Nat} (hk : a + k ≤ n) : (t.drop a).take k = (s.drop a).take k := by
  apply List.ext_getElem?
  intro i
  rw [List.getElem?_take, List.getElem?_take]
  split
  · rw [List.getElem?_drop, List.getElem?_drop, h.eq _ (by omega)]
  · rfl
theorem Ag.stop {n : Nat} {s t : Str} (h : Ag n s t) {k : Nat} (hk : k ≤ n) (hs : stopAt s k = true) : stopAt t k = true := by
  rcases Nat.lt_or_ge k n with h1 | h1
  · unfold stopAt at hs ⊢
    rw [h.eq k h1]; exact hs
  · obtain rfl : k = n := by omega
    unfold stopAt
    rcases h.et with h2 | h2 <;> rw [h2]
    rfl
theorem valueR_loc {n : Nat} {s t : Str} (h : Ag n s t) {a : Nat} {v : Str} {j : Nat} (hv : valueR s a = .ok v j) (hj : j ≤ n) : valueR t a = .ok v j := by
  have hge := valueR_ge hv
  have hst := valueR_stop hv
  simp only [valueR] at hv
  split at hv
  · next h0 =>
    split at hv
    · cases hv
    · next hne =>
      have hl := run_le notq (s.drop (a + 1))
      split at hv
      · cases hv
      · next hc =>
        split at hv
        · next hs =>
          cases hv
          obtain ⟨k, hk⟩ : ∃ k, run notq (s.drop (a + 1)) = k := ⟨_, rfl⟩
          rw [hk] at hne hl hc hj hst hs ⊢
          have hr : run notq (t.drop (a + 1)) = k := by
            have hsp := run_spec notq (s.drop (a + 1))
            rw [hk] at hsp
            refine run_of (fun i hi => ?_) (fun c hc' => ?_)
            · obtain ⟨c, h1, h2⟩ := hsp.1 i hi
              refine ⟨c, ?_, h2⟩
              rw [List.getElem?_drop] at h1 ⊢
              rw [h.eq _ (by omega)]; exact h1
            · rw [List.getElem?_drop, h.eq _ (by omega)] at hc'
              exact hsp.2 c (by rw [List.getElem?_drop]; exact hc')
          have hlt := h.lt
          simp only [valueR]
          rw [if_pos ((h.of (by omega) (by decide)).2 h0), hr, if_neg (by rw [List.length_drop]; omega), h.take (by omega), hc]
          simp only
          rw [if_pos (h.stop hj hs)]
        · cases hv
  · next h0 =>
    split at hv
    · cases hv
    · next h34 =>
      split at hv
      · cases hv
      · next hc =>
        cases hv
        obtain ⟨k, hk⟩ : ∃ k, run plain (s.drop a) = k := ⟨_, rfl⟩
        rw [hk] at h34 hc hj hst ⊢
        have hr := h.run (p := plain) (by decide) hk hj
        simp only [valueR]
        rw [if_neg (fun e => h0 ((h.of (by omega) (by decide)).1 e)), hr, if_neg (fun e => h34 ((h.of (by omega) (by decide)).1 e)), h.take (by omega), hc]
theorem valsR_loc {n : Nat} {s t : Str} (h : Ag n s t) : ∀ (m a : Nat) (vs v : List Str) (j : Nat), (∀ x ∈ vs, x.length ≤ 60 ∧ fineB x = true) → valsR s m a vs = .ok v j → j ≤ n → valsR t m a vs = .ok v j
  | 0, a, vs, v, j, _, hv, _ => by simp [valsR] at hv
  | m + 1, a, vs, v, j, hvs, hv, hj => by
    have hge := (valsR_fine s (m + 1) a vs v j hvs hv).2.2.2
    simp only [valsR] at hv ⊢
    cases hg : valueR s a with
    | no e p => rw [hg] at hv; cases hv
    | ok x i =>
      rw [hg] at hv
      simp only at hv
      have hx := valueR_fine hg
      split at hv
      · next h44 =>
        have hvs' : ∀ y ∈ vs ++ [x], y.length ≤ 60 ∧ fineB y = true := by
          intro y hy
          rcases List.mem_append.1 hy with hy | hy
          · exact hvs y hy
          · rw [List.mem_singleton.1 hy]; exact hx
        have := (valsR_fine s m (i + 1) _ v j hvs' hv).2.2.2
        rw [valueR_loc h hg (by omega)]
        simp only
        rw [if_pos ((h.of (by omega) (by decide)).2 h44)]
        exact valsR_loc h m (i + 1) _ v j hvs' hv hj
      · next h44 =>
        cases hv
        rw [valueR_loc h hg hj]
        simp only
        rw [if_neg (fun e => h44 ((h.of (by omega) (by decide)).1 e))]
theorem oneR_loc {n : Nat} {s t : Str} (h : Ag n s t) {a : Nat} {l : List Pm} {p : Pm} {j : Nat} (hv : oneR s a l = .ok p j) (hj : j ≤ n) : oneR t a l = .ok p j := by
  simp only [oneR] at hv
  obtain ⟨k, hk⟩ : ∃ k, named (s.drop a) = k := ⟨_, rfl⟩
  rw [hk] at hv
  split at hv
  · cases hv
  · next h1 =>
    split at hv
    · cases hv
    · next h2 =>
      split at hv
      · next h3 =>
        cases hr : valsR s 6 (a + k + 1) [] with
        | no e p => rw [hr] at hv; cases hv
        | ok v i =>
          rw [hr] at hv
          cases hv
          have hge := (valsR_fine s 6 _ [] v j (by simp) hr).2.2.2
          have hn : named (t.drop a) = k := by
            rw [named_run] at hk ⊢
            exact h.run (p := nmd) (by decide) hk (by omega)
          simp only [oneR]
          rw [hn, if_neg h1, h.take (by omega), if_neg h2, if_pos ((h.of (by omega) (by decide)).2 h3), valsR_loc h 6 _ [] v j (by simp) hr hj]
      · cases hv
theorem parseR_loc {n : Nat} {s t : Str} (h : Ag n s t) : ∀ (m a : Nat) (out l : List Pm), parseR s m a out = .ok l n → parseR t m a out = .ok l n
  | 0, a, out, l, hv => by
    simp only [parseR] at hv ⊢
    split at hv
    · cases hv
    · next h59 => cases hv; rw [if_neg (fun e => h59 ((h.of (by omega) (by decide)).1 e))]
  | m + 1, a, out, l, hv => by
    simp only [parseR] at hv ⊢
    split at hv
    · next h59 =>
      cases ho : oneR s (a + 1) out with
      | no e p => rw [ho] at hv; cases hv
      | ok p j =>
        rw [ho] at hv
        have hv' : parseR s m j (out ++ [p]) = .ok l n := hv
        obtain ⟨_, _, _, _, _, hle, _⟩ := parseR_fine s m j _ l n hv'
        have hlt := (oneR_fine ho).2.2
        rw [if_pos ((h.of (by omega) (by decide)).2 h59), oneR_loc h ho hle]
        exact parseR_loc h m j _ l hv'
    · next h59 => cases hv; rw [if_neg (fun e => h59 ((h.of (by omega) (by decide)).1 e))]
/-- What stands behind is nothing to them. -/
theorem parse_stops {s : Str} {l : List Pm} {n : Nat} (h : parseR s 6 0 [] = .ok l n) (hn : n ≤ s.length) (more : Str) :
    (0 < n → s[n]? = none ∨ s[n]? = some 58) ∧ (n = 0 → l = []) ∧ parseR (s.take n ++ 58 :: more) 6 0 [] = .ok l n := by
  obtain ⟨r, e1, e2, e3, e4, e5, e6, e7⟩ := parseR_fine s 6 0 [] l n h
  obtain ⟨h1, h2⟩ := parseR_end s 6 0 [] l n h
  have hl0 : n = 0 → l = [] := by
    intro e
    rw [e1]
    cases r with
    | nil => rfl
    | cons p r => have := e7 (by simp); omega
  have hend : 0 < n → s[n]? = none ∨ s[n]? = some 58 := by
    intro hp
    rcases h2 with h2 | h2
    · omega
    · exact stop_colon h1 h2.1 h2.2
  refine ⟨hend, hl0, ?_⟩
  have htl : (s.take n).length = n := by rw [List.length_take]; omega
  have h58 : (s.take n ++ 58 :: more)[n]? = some 58 := by
    have := at_app (s.take n) (58 :: more)
    rw [htl] at this
    rw [this]; rfl
  rcases Nat.eq_zero_or_pos n with h0 | hp
  · subst h0
    rw [hl0 rfl]
    simp [parseR]
  · have ag : Ag n s (s.take n ++ 58 :: more) := ⟨fun i hi => by rw [List.getElem?_append_left (by omega), List.getElem?_take, if_pos hi], hn, by simp [htl], hend hp, .inr h58⟩
    exact parseR_loc ag 6 0 [] l h
end Go.Vs.YthcljcjkfhiicaaGreatDoor
