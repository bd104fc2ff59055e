/- The walk of the library's search for any of some bytes, at the signs that end a value. No conditions. -/
import Derived.Test.YtbchceojmblkkaaGreatDoorBK
import Derived.Test.YtbchceojmblkkaaGreatDoorBJ
set_option linter.unusedVariables false
set_option linter.unusedSimpArgs false
namespace Go.Vs.YtbchceojmblkkaaGreatDoor
set_option linter.unusedSimpArgs false
set_option linter.unusedVariables false
open Go.Proofs Go.Vs.U8 Go.Vs.Pa
set_option maxRecDepth 100000
set_option maxHeartbeats 4000000
theorem enc_cases (r : Nat) (h : 128 ≤ r) : (∃ x y : UInt8, (Utf8.encode r).data.toList = [x, y] ∧ 128 ≤ y.toNat) ∨ (∃ x y z : UInt8, (Utf8.encode r).data.toList = [x, y, z] ∧ 128 ≤ z.toNat) ∨ (∃ x y z t : UInt8, (Utf8.encode r).data.toList = [x, y, z, t] ∧ 128 ≤ t.toNat) := by
  unfold Utf8.encode
  generalize hc : (if Utf8.valid r = true then (r : Int).toNat else Utf8.runeError) = c
  have h1 : 128 ≤ c := by
    rw [← hc]; split
    · simpa using h
    · simp [Utf8.runeError]
  have hb : ∀ n : Nat, 128 ≤ (UInt8.ofNat (128 + n % 64)).toNat := by
    intro n
    have := Nat.mod_lt n (show 0 < 64 by omega)
    simp; omega
  simp only
  rw [if_neg (by omega)]
  split
  · exact .inl ⟨_, _, rfl, hb _⟩
  · split
    · exact .inr (.inl ⟨_, _, _, rfl, hb _⟩)
    · exact .inr (.inr ⟨_, _, _, _, rfl, hb _⟩)
theorem fn_ValidRune (r : Nat) : Fn G Tryz.prog k_unicode_utf8_ValidRune [.int .i32 r] (.bool (decide (r < 55296 ∨ (57343 < r ∧ r ≤ 1114111)))) := by
  refine fn_intro hm ok_unicode_utf8_ValidRune (by simp) ?_
  simp [c_unicode_utf8_ValidRune, r_unicode_utf8_ValidRune]
  by_cases h1 : r < 55296
  · simp (disch := omega) [br_yes, br_no, wrap_i64, wrap_u8, wrap_i32, List.getElem?_cons_zero, List.getElem?_cons_succ, h1]
  · by_cases h2 : 57343 < r
    · by_cases h3 : r ≤ 1114111
      · simp (disch := omega) [br_yes, br_no, wrap_i64, wrap_u8, wrap_i32, List.getElem?_cons_zero, List.getElem?_cons_succ, h1, h2, h3]
      · simp (disch := omega) [br_yes, br_no, wrap_i64, wrap_u8, wrap_i32, List.getElem?_cons_zero, List.getElem?_cons_succ, h1, h2, h3]
    · simp (disch := omega) [br_yes, br_no, wrap_i64, wrap_u8, wrap_i32, List.getElem?_cons_zero, List.getElem?_cons_succ, h1, h2]
theorem idxB_hi (c : UInt8) (h : 128 ≤ c.toNat) (l : Str) (hl : ∀ x ∈ l, x.toNat < 128) : idxB l c = -1 := idxB_none fun hc => by have := hl c hc; omega
theorem fn_IndexRune (r : Nat) : Fn G Tryz.prog k_strings_IndexRune [.str [44, 58, 59], .int .i32 r] (.int .i64 (if r < 128 then idxB [44, 58, 59] (UInt8.ofNat r) else -1)) := by
  refine fn_intro hm ok_strings_IndexRune (by simp) ?_
  by_cases h1 : r < 128
  · rw [if_pos h1]
    simp [c_strings_IndexRune, r_strings_IndexRune]
    have hB := fn_IndexByte [44, 58, 59] (UInt8.ofNat r)
    have e : (UInt8.ofNat r).toNat = r := by simp; omega
    rw [e] at hB
    simp (disch := omega) [br_yes, br_no, wrap_i64, wrap_u8, wrap_i32, List.getElem?_cons_zero, List.getElem?_cons_succ, h1]
    refine callW_imm hB ?_
    simp
  · rw [if_neg h1]
    simp [c_strings_IndexRune, r_strings_IndexRune]
    by_cases h2 : r = 65533
    · subst h2
      simp (disch := omega) [br_yes, br_no, wrap_i64, wrap_u8, wrap_i32, List.getElem?_cons_zero, List.getElem?_cons_succ]
      refine loopU hm [] (fun i : Nat => []) (fun i => [(175, .iter [44, 58, 59] i)]) (fun i => i ≤ 3) (fun i => 3 - i) 0 (by omega) ?_ ?_
      · simp
        exact weak_drop rfl rfl (by simp [EnvLe, getE, look]) (by simp [ObLe, look]) (by simp [roOk])
      rintro i hi
      have hi' : i = 0 ∨ i = 1 ∨ i = 2 ∨ i = 3 := by omega
      rcases hi' with rfl | rfl | rfl | rfl
      · simp [show Utf8.decode ⟨[44, 58, 59].toArray⟩ 0 = (44, 1) from rfl]
        try simp (disch := omega) [br_yes, br_no, wrap_i64, wrap_u8, wrap_i32, List.getElem?_cons_zero, List.getElem?_cons_succ]
        refine loopEnd 1 (by omega) (by omega) ?_
        simp
        exact weak_drop rfl rfl (by simp [EnvLe, getE, look]) (by simp [ObLe, look]) (by simp [roOk])
      · simp [show Utf8.decode ⟨[44, 58, 59].toArray⟩ 1 = (58, 1) from rfl]
        try simp (disch := omega) [br_yes, br_no, wrap_i64, wrap_u8, wrap_i32, List.getElem?_cons_zero, List.getElem?_cons_succ]
        refine loopEnd 2 (by omega) (by omega) ?_
        simp
        exact weak_drop rfl rfl (by simp [EnvLe, getE, look]) (by simp [ObLe, look]) (by simp [roOk])
      · simp [show Utf8.decode ⟨[44, 58, 59].toArray⟩ 2 = (59, 1) from rfl]
        try simp (disch := omega) [br_yes, br_no, wrap_i64, wrap_u8, wrap_i32, List.getElem?_cons_zero, List.getElem?_cons_succ]
        refine loopEnd 3 (by omega) (by omega) ?_
        simp
        exact weak_drop rfl rfl (by simp [EnvLe, getE, look]) (by simp [ObLe, look]) (by simp [roOk])
      · simp
    · have hV := fn_ValidRune r
      cases hv : decide (r < 55296 ∨ (57343 < r ∧ r ≤ 1114111)) with
      | false =>
        rw [hv] at hV
        simp (disch := omega) [br_yes, br_no, wrap_i64, wrap_u8, wrap_i32, List.getElem?_cons_zero, List.getElem?_cons_succ, h1, h2]
        refine callW_imm hV ?_
        simp (disch := omega) [br_yes, br_no, wrap_i64, wrap_u8, wrap_i32, List.getElem?_cons_zero, List.getElem?_cons_succ]
      | true =>
        rw [hv] at hV
        have hE := enc_cases r (by omega)
        obtain ⟨l, hl⟩ : ∃ l, (Utf8.encode r).data.toList = l := ⟨_, rfl⟩
        simp (disch := omega) [br_yes, br_no, wrap_i64, wrap_u8, wrap_i32, List.getElem?_cons_zero, List.getElem?_cons_succ, h1, h2]
        refine callW_imm hV ?_
        simp
        rw [hl] at hE
        refine scopeW hm 1 (fun _ : Unit => ⟨[], [], [], 187, G⟩) (fun _ => False) (fun _ => 0) rfl (fun _ => rfl) ?_ (fun _ h => h.elim)
        rcases hE with ⟨x, y, rfl, hy⟩ | ⟨x, y, z, rfl, hy⟩ | ⟨x, y, z, t, rfl, hy⟩
        · have hB : ∀ l : Str, (∀ x ∈ l, x.toNat < 128) → Fn G Tryz.prog k_strings_IndexByte [.str l, .int .u8 y.toNat] (.int .i64 (-1)) := fun l h => by
            have := fn_IndexByte l y
            rwa [idxB_hi y hy l h] at this
          simp (disch := omega) [br_yes, br_no, wrap_i64, wrap_u8, wrap_i32, List.getElem?_cons_zero, List.getElem?_cons_succ, hl]
          refine loopU hm [] (fun _ : Unit => []) (fun _ => []) (fun _ => True) (fun _ => 0) () trivial ?_ ?_
          · simp
            exact weak_drop rfl rfl (by simp [EnvLe, getE, look]) (by simp [ObLe, look]) (by simp [roOk])
          rintro _ _
          simp
          try simp (disch := omega) [br_yes, br_no, wrap_i64, wrap_u8, wrap_i32, List.getElem?_cons_zero, List.getElem?_cons_succ]
          refine scopeW hm 0 (fun _ : Unit => ⟨[], [], [], 187, G⟩) (fun _ => False) (fun _ => 0) rfl (fun _ => rfl) ?_ (fun _ h => h.elim)
          simp
          try simp (disch := omega) [br_yes, br_no, wrap_i64, wrap_u8, wrap_i32, List.getElem?_cons_zero, List.getElem?_cons_succ]
          refine callW_imm (hB _ (by simp)) ?_
          simp
          rfl
        · have hB : ∀ l : Str, (∀ x ∈ l, x.toNat < 128) → Fn G Tryz.prog k_strings_IndexByte [.str l, .int .u8 z.toNat] (.int .i64 (-1)) := fun l h => by
            have := fn_IndexByte l z
            rwa [idxB_hi z hy l h] at this
          simp (disch := omega) [br_yes, br_no, wrap_i64, wrap_u8, wrap_i32, List.getElem?_cons_zero, List.getElem?_cons_succ, hl]
          refine loopU hm [] (fun _ : Unit => []) (fun _ => []) (fun _ => True) (fun _ => 0) () trivial ?_ ?_
          · simp
            exact weak_drop rfl rfl (by simp [EnvLe, getE, look]) (by simp [ObLe, look]) (by simp [roOk])
          rintro _ _
          simp
          try simp (disch := omega) [br_yes, br_no, wrap_i64, wrap_u8, wrap_i32, List.getElem?_cons_zero, List.getElem?_cons_succ]
          refine scopeW hm 0 (fun _ : Unit => ⟨[], [], [], 187, G⟩) (fun _ => False) (fun _ => 0) rfl (fun _ => rfl) ?_ (fun _ h => h.elim)
          simp
          try simp (disch := omega) [br_yes, br_no, wrap_i64, wrap_u8, wrap_i32, List.getElem?_cons_zero, List.getElem?_cons_succ]
          refine callW_imm (hB _ (by simp)) ?_
          simp
          rfl
        · have hB : ∀ l : Str, (∀ x ∈ l, x.toNat < 128) → Fn G Tryz.prog k_strings_IndexByte [.str l, .int .u8 t.toNat] (.int .i64 (-1)) := fun l h => by
            have := fn_IndexByte l t
            rwa [idxB_hi t hy l h] at this
          simp (disch := omega) [br_yes, br_no, wrap_i64, wrap_u8, wrap_i32, List.getElem?_cons_zero, List.getElem?_cons_succ, hl]
          refine loopU hm [] (fun _ : Unit => []) (fun _ => []) (fun _ => True) (fun _ => 0) () trivial ?_ ?_
          · simp
            exact weak_drop rfl rfl (by simp [EnvLe, getE, look]) (by simp [ObLe, look]) (by simp [roOk])
          rintro _ _
          simp
          try simp (disch := omega) [br_yes, br_no, wrap_i64, wrap_u8, wrap_i32, List.getElem?_cons_zero, List.getElem?_cons_succ]
theorem sizeL_hi {c : UInt8} {r : Str} (hc : ¬ c.toNat < 128) : ∀ (j : Nat) x, j < sizeL (c :: r) → (c :: r)[j]? = some x → 128 ≤ x.toNat := by
  have ht : ∀ {k lo hi : Nat} {x : UInt8}, tl r k lo hi = true → 128 ≤ lo → r[k]? = some x → 128 ≤ x.toNat := by
    intro k lo hi x h1 h2 h3
    obtain ⟨b, hb, h4, _⟩ := tl_some h1
    rw [hb] at h3; cases h3; omega
  have hlo : ∀ n, 128 ≤ lo1 n := by
    intro n
    unfold lo1
    split
    · omega
    · split <;> omega
  intro j x hj hx
  simp only [sizeL, if_neg hc] at hj
  cases j with
  | zero => simp at hx; subst hx; omega
  | succ j =>
    rw [List.getElem?_cons_succ] at hx
    split at hj
    · next h =>
      simp only [Bool.and_eq_true] at h
      obtain rfl : j = 0 := by omega
      exact ht h.2 (by omega) hx
    · split at hj
      · next h =>
        simp only [Bool.and_eq_true] at h
        have : j = 0 ∨ j = 1 := by omega
        rcases this with rfl | rfl
        · exact ht h.1.2 (hlo _) hx
        · exact ht h.2 (by omega) hx
      · split at hj
        · next h =>
          simp only [Bool.and_eq_true] at h
          have : j = 0 ∨ j = 1 ∨ j = 2 := by omega
          rcases this with rfl | rfl | rfl
          · exact ht h.1.1.2 (hlo _) hx
          · exact ht h.1.2 (by omega) hx
          · exact ht h.2 (by omega) hx
        · omega
theorem stp_contains (c : UInt8) : ([44, 58, 59] : Str).contains c = stp c := by
  have e1 : c = 44 ↔ c.toNat = 44 := by rw [← UInt8.toNat_inj]; rfl
  have e2 : c = 58 ↔ c.toNat = 58 := by rw [← UInt8.toNat_inj]; rfl
  have e3 : c = 59 ↔ c.toNat = 59 := by rw [← UInt8.toNat_inj]; rfl
  rw [Bool.eq_iff_iff]
  simp [stp, e1, e2, e3]
theorem idxB_stops (c : UInt8) : (0 ≤ idxB [44, 58, 59] c ↔ stp c = true) := by
  rw [← stp_contains, List.contains_iff_mem]
  have := idxB_neg [44, 58, 59] c
  constructor
  · intro h; exact Decidable.byContradiction fun hn => by have := this.2 hn; omega
  · intro h; exact Decidable.byContradiction fun hn => (this.1 (by omega)) h
theorem containsAny_any (s : Str) : Lib.containsAny s [44, 58, 59] = s.any stp := by
  unfold Lib.containsAny
  induction s with
  | nil => rfl
  | cons c r ih =>
    rw [List.any_cons, ← ih]
    have hg := Lib.indexAny_ge [44, 58, 59] r
    simp only [Lib.indexAny, stp_contains]
    cases hc : stp c with
    | true => simp
    | false =>
      simp only [Bool.false_eq_true, if_false, Bool.false_or]
      by_cases h : Lib.indexAny r [44, 58, 59] = -1
      · simp [h]
      · have h1 : 0 ≤ Lib.indexAny r [44, 58, 59] := by omega
        have h2 : 0 ≤ Lib.indexAny r [44, 58, 59] + 1 := by omega
        simp [h, h1, h2]
theorem fn_IndexAny_long (s : Str) (h8 : 8 < s.length) (hs : s.length < 1000000) : Fn G Tryz.prog k_strings_IndexAny [.str s, .str [44, 58, 59]] (.int .i64 (Lib.indexAny s [44, 58, 59])) := by
  refine fn_below ⟨Tryz.f242, Tryz.func242, by decide⟩ ?_
  rintro w S vs hS hgl ⟨v1, _, rfl, h1, v2, _, rfl, h2, h3⟩
  have h1 : v1 = .string ⟨s.toArray⟩ := h1
  have h2 : v2 = .string ⟨[44, 58, 59].toArray⟩ := h2
  have h3 : _ = [] := h3
  subst h1; subst h2; subst h3
  have hi : (Tryz.prog.info? (Tryz.lays150_ren.t 116)).map (fun i => (i.zero, i.size)) = some (some (.agg (Array.replicate 256 (.bool false))), 256) := by kernel_rfl
  have hz : (⟨s.toArray⟩ : ByteArray).size = s.length := by simp [ByteArray.size]
  have := Any.strings_IndexAny_long { Tryz.lays150 with } (zero_of_info hi).1 (zero_of_info hi).2 ⟨s.toArray⟩ ⟨[44, 58, 59].toArray⟩ w (by decide) (by omega) (by omega) (by decide) (by
    intro j b hb
    have hm : b ∈ ([44, 58, 59] : Str) := List.mem_of_getElem? hb
    simp at hm
    rcases hm with rfl | rfl | rfl <;> decide)
  refine callDoes_of Tryz.func242 (by decide) (this.mono ?_)
  rintro e w' ⟨rfl, rfl⟩
  have hb := fun o => (Go.RowKit.Below.refl w.heap.size w).alloc (Nat.le_refl _) o
  exact ⟨_, rfl, (hb _).alloc (hb _).size _, rfl⟩
theorem fn_shouldUse (n : Nat) : Fn G Tryz.prog k_strings_shouldUseASCIISet [.int .i64 n] (.bool (decide (8 < (n : Int)))) := by
  refine fn_intro hm ok_strings_shouldUseASCIISet (by simp) ?_
  simp [c_strings_shouldUseASCIISet, r_strings_shouldUseASCIISet]
theorem find_at {s : Str} {i : Nat} (h : i < s.length) (hp : stp s[i] = true) (hn : ∀ j x, j < i → s[j]? = some x → stp x = false) : s.findIdx? stp = some i := by
  rw [List.findIdx?_eq_some_iff_getElem]
  refine ⟨h, hp, fun j hj => ?_⟩
  have := hn j s[j] hj (List.getElem?_eq_getElem (by omega))
  simp [this]
theorem fn_IndexAny (s : Str) (hs : s.length < 1000000) : ∃ q : Int, Fn G Tryz.prog k_strings_IndexAny [.str s, .str [44, 58, 59]] (.int .i64 q) ∧ (0 ≤ q ↔ s.any stp = true) := by
  by_cases h8 : 8 < s.length
  · refine ⟨_, fn_IndexAny_long s h8 hs, ?_⟩
    rw [← containsAny_any]
    unfold Lib.containsAny
    simp
  · refine ⟨match s.findIdx? stp with | some i => i | none => -1, ?_, ?_⟩
    · refine fn_intro hm ok_strings_IndexAny (by simp) ?_
      simp [c_strings_IndexAny, r_strings_IndexAny]
      have h8' : ¬ (8 : Int) < s.length := by omega
      have hS := fn_shouldUse s.length
      rw [decide_eq_false h8'] at hS
      refine callW_imm hS ?_
      simp
      refine loopU hm [] (fun i : Nat => []) (fun i => [(45, .iter s i)]) (fun i => i ≤ s.length ∧ ∀ j x, j < i → s[j]? = some x → stp x = false) (fun i => s.length - i) 0 ⟨by omega, by simp⟩ ?_ ?_
      · simp
        exact weak_drop rfl rfl (by simp [EnvLe, getE, look]) (by simp [ObLe, look]) (by simp [roOk])
      rintro i ⟨hi, hn⟩
      simp
      by_cases h : i < s.length
      · obtain ⟨c, hc⟩ : ∃ c, s[i] = c := ⟨_, rfl⟩
        have hd : s.drop i = c :: s.drop (i + 1) := by rw [← hc]; exact List.drop_eq_getElem_cons h
        have hle := sizeL_le (s.drop i)
        rw [List.length_drop] at hle
        have hcase := dec_sizeL c (s.drop (i + 1))
        have hhi := @sizeL_hi c (s.drop (i + 1))
        rw [← hd] at hcase hhi
        have hlt := u8_lt c
        have hdd := decode_drop s i (by omega)
        clear hd
        obtain ⟨z, hz⟩ : ∃ z, sizeL (s.drop i) = z := ⟨_, rfl⟩
        obtain ⟨⟨r, k⟩, hk⟩ : ∃ p, dec (s.drop i) = p := ⟨_, rfl⟩
        rw [hz] at hle hcase hhi
        rw [hk] at hcase hdd
        simp only [Prod.mk.injEq] at hcase
        have hR := fn_IndexRune r
        have one : stp c = false → ∀ j x, j < i + 1 → s[j]? = some x → stp x = false := by
          intro h0 j x hj hx
          by_cases hji : j = i
          · subst hji; rw [List.getElem?_eq_getElem h, hc] at hx; cases hx; exact h0
          · exact hn j x (by omega) hx
        have nstp : 128 ≤ c.toNat → stp c = false := fun h0 => by simp [stp]; omega
        rcases hcase with ⟨h1, ⟨rfl, rfl⟩, rfl⟩ | ⟨h1, rfl, rfl, rfl⟩ | ⟨h1, h2, h3, rfl⟩
        · rw [if_pos h1] at hR
          have e : UInt8.ofNat c.toNat = c := by simp
          rw [e] at hR
          have hq := idxB_stops c
          simp [h, hdd]
          refine callW_imm hR ?_
          cases hs' : stp c with
          | true =>
            have h0 := hq.2 hs'
            have hf := find_at h (by rw [hc]; exact hs') hn
            simp (disch := omega) [br_yes, br_no, wrap_i64, wrap_u8, wrap_i32, List.getElem?_cons_zero, List.getElem?_cons_succ, hf]
          | false =>
            have h0 : ¬ 0 ≤ idxB [44, 58, 59] c := fun h0 => by rw [hq.1 h0] at hs'; cases hs'
            simp (disch := omega) [br_yes, br_no, wrap_i64, wrap_u8, wrap_i32, List.getElem?_cons_zero, List.getElem?_cons_succ]
            refine loopEnd (i + 1) ⟨by omega, one hs'⟩ (by omega) ?_
            simp
            exact weak_drop rfl rfl (by simp [EnvLe, getE, look]) (by simp [ObLe, look]) (by simp [roOk])
        · rw [if_neg (by omega)] at hR
          simp [h, hdd]
          refine callW_imm hR ?_
          try simp (disch := omega) [br_yes, br_no, wrap_i64, wrap_u8, wrap_i32, List.getElem?_cons_zero, List.getElem?_cons_succ]
          refine loopEnd (i + 1) ⟨by omega, one (nstp (by omega))⟩ (by omega) ?_
          simp
          exact weak_drop rfl rfl (by simp [EnvLe, getE, look]) (by simp [ObLe, look]) (by simp [roOk])
        · rw [if_neg (by omega)] at hR
          simp [h, hdd]
          refine callW_imm hR ?_
          try simp (disch := omega) [br_yes, br_no, wrap_i64, wrap_u8, wrap_i32, List.getElem?_cons_zero, List.getElem?_cons_succ]
          refine loopEnd (i + k) ⟨by omega, ?_⟩ (by omega) ?_
          · intro j x hj hx
            by_cases hji : j < i
            · exact hn j x hji hx
            · have := hhi (by omega) (j - i) x (by omega) (by rw [List.getElem?_drop, show i + (j - i) = j by omega]; exact hx)
              simp [stp]; omega
          · simp
            exact weak_drop rfl rfl (by simp [EnvLe, getE, look]) (by simp [ObLe, look]) (by simp [roOk])
      · obtain rfl : i = s.length := by omega
        have hf : s.findIdx? stp = none := by
          rw [List.findIdx?_eq_none_iff]
          intro x hx
          obtain ⟨j, hj, rfl⟩ := List.mem_iff_getElem.1 hx
          exact hn j _ hj (List.getElem?_eq_getElem hj)
        simp [hf]
    · cases h : s.findIdx? stp with
      | none =>
        rw [List.findIdx?_eq_none_iff] at h
        have : s.any stp = false := by rw [List.any_eq_false]; intro x hx; simp [h x hx]
        simp [this]
      | some i =>
        rw [List.findIdx?_eq_some_iff_getElem] at h
        obtain ⟨h1, h2, h3⟩ := h
        have : s.any stp = true := by rw [List.any_eq_true]; exact ⟨_, List.getElem_mem h1, h2⟩
        simp [this]
theorem fn_ContainsAny (s : Str) (hs : s.length < 1000000) : Fn G Tryz.prog k_strings_ContainsAny [.str s, .str [44, 58, 59]] (.bool (s.any stp)) := by
  obtain ⟨q, h1, h2⟩ := fn_IndexAny s hs
  refine fn_intro hm ok_strings_ContainsAny (by simp) ?_
  simp [c_strings_ContainsAny, r_strings_ContainsAny]
  refine callW_imm h1 ?_
  have : decide (0 ≤ q) = s.any stp := by rw [Bool.eq_iff_iff, decide_eq_true_iff, h2]
  simp [this]
theorem fn_written' (s : Str) (hs : s.length < 100000) : Fn G Tryz.prog k_param_written [.str s] (.str (write s)) := fn_written s hs (fn_ContainsAny s (by omega))
end Go.Vs.YtbchceojmblkkaaGreatDoor
namespace Go.Vs.YtbchceojmblkkaaGreatDoor
set_option linter.unusedSimpArgs false
set_option linter.unusedVariables false
open Go.Proofs Go.Vs.U8 Go.Vs.Pa
set_option maxRecDepth 100000
set_option maxHeartbeats 4000000
/-- A text's parts between bytes of a kind. -/
def parts (c : UInt8) : Str → List Str
  | [] => [[]]
  | x :: r => if x = c then [] :: parts c r else match parts c r with
    | [] => [[x]]
    | p :: ps => (x :: p) :: ps
theorem parts_ne (c : UInt8) (s : Str) : parts c s ≠ [] := by
  cases s with
  | nil => simp [parts]
  | cons x r => simp only [parts]; split; simp; split <;> simp
theorem parts_len (c : UInt8) (s : Str) : (parts c s).length = s.count c + 1 := by
  induction s with
  | nil => rfl
  | cons x r ih =>
    simp only [parts]
    by_cases h : x = c
    · subst h; simp [ih]
    · have h1 : (x :: r).count c = r.count c := by rw [List.count_cons]; simp [h]
      rw [if_neg h, h1]
      split
      · next hp => exact absurd hp (parts_ne c r)
      · next p ps hp => rw [hp] at ih; simpa using ih
theorem parts_none {c : UInt8} {s : Str} (h : c ∉ s) : parts c s = [s] := by
  induction s with
  | nil => rfl
  | cons x r ih =>
    simp only [List.mem_cons, not_or] at h
    simp [parts, Ne.symm h.1, ih h.2]
theorem parts_at {c : UInt8} {s : Str} {i : Nat} (h1 : s[i]? = some c) (h2 : c ∉ s.take i) : parts c s = s.take i :: parts c (s.drop (i + 1)) := by
  induction s generalizing i with
  | nil => simp at h1
  | cons x r ih =>
    cases i with
    | zero => simp at h1; subst h1; simp [parts]
    | succ i =>
      simp only [List.take_succ_cons, List.mem_cons, not_or] at h2
      rw [List.getElem?_cons_succ] at h1
      simp only [parts, if_neg (Ne.symm h2.1), ih h1 h2.2, List.take_succ_cons, List.drop_succ_cons]
theorem fn_CountString (s : Str) (c : UInt8) : Fn G Tryz.prog k_internal_bytealg_CountString [.str s, .int .u8 c.toNat] (.int .i64 (s.count c)) := by
  refine fn_extern ⟨Tryz.f226, Tryz.func226, by decide⟩ ?_
  rintro w S vs ⟨v1, _, rfl, h1, v2, _, rfl, h2, h3⟩
  have h1 : v1 = .string ⟨s.toArray⟩ := h1
  have h2 : v2 = .int .u8 c.toNat := h2
  have h3 : _ = [] := h3
  subst h1; subst h2; subst h3
  refine ⟨.int .i64 (s.count c), ?_, rfl⟩
  have hr := run_callFunc_extern (P := Tryz.prog) Tryz.func226 (by kernel_rfl) (by kernel_rfl) (by kernel_rfl) (e := Extern.BytealgCount.count) (by kernel_rfl) #[.string ⟨s.toArray⟩, .int .u8 c.toNat] w
  rw [Go.Lib.run_countString] at hr
  have e1 : ((c.toNat : Int)).toNat.toUInt8 = c := by simp
  rw [e1] at hr
  exact hr
theorem fn_Count (s : Str) (c : UInt8) : Fn G Tryz.prog k_strings_Count [.str s, .str [c]] (.int .i64 (s.count c)) := by
  refine fn_intro hm ok_strings_Count (by simp) ?_
  simp [c_strings_Count, r_strings_Count]
  refine callW_imm (fn_CountString s c) ?_
  simp
theorem fn_slIndex (s : Str) (c : UInt8) : Fn G Tryz.prog k_internal_stringslite_Index [.str s, .str [c]] (.int .i64 (idxB s c)) := by
  refine fn_intro hm ok_internal_stringslite_Index (by simp) ?_
  simp [c_internal_stringslite_Index, r_internal_stringslite_Index]
  refine brd (fun h => ?_) (fun h => ?_)
  · subst h
    have : idxB [c] c = 0 := idxB_of (i := 0) rfl (by simp)
    simp [this]
  · simp
    refine callW_imm (fn_slIndexByte s c) ?_
    simp
theorem set_rows (d : List Str) (p : Str) (k : Nat) : (ts d ++ List.replicate (k + 1) [IV.str []]).set d.length [.str p] = ts (d ++ [p]) ++ List.replicate k [IV.str []] := by
  have : d.length = (ts d).length := by simp [ts]
  rw [this, List.set_append_right _ _ (Nat.le_refl _)]
  simp [ts, List.replicate_succ]
theorem ts_len (d : List Str) : (ts d).length = d.length := by simp [ts]
theorem get_rows (d : List Str) (k : Nat) : (ts d ++ List.replicate (k + 1) [IV.str []])[d.length]? = some [.str []] := by
  rw [List.getElem?_append_right (by rw [ts_len]; omega), ts_len]
  simp [List.replicate_succ]
theorem fn_Index (s : Str) (c : UInt8) : Fn G Tryz.prog k_strings_Index [.str s, .str [c]] (.int .i64 (idxB s c)) := by
  refine fn_intro hm ok_strings_Index (by simp) ?_
  simp [c_strings_Index, r_strings_Index]
  refine callW_imm (fn_slIndex s c) ?_
  simp
theorem fn_genSplit (s : Str) (c : UInt8) (hs : s.length < 1000000) : Fn G Tryz.prog k_strings_genSplit [.str s, .str [c], .int .i64 0, .int .i64 (-1)] (.slice (ts (parts c s))) := by
  refine fn_intro hm ok_strings_genSplit (by simp) ?_
  simp [c_strings_genSplit, r_strings_genSplit]
  have hk : s.count c ≤ s.length := List.count_le_length
  have hmin : min ((s.count c : Int) + 1) (s.length + 1) = s.count c + 1 := by omega
  refine callW_imm (fn_Count s c) ?_
  simp (disch := omega) [br_yes, br_no, wrap_i64, wrap_u8, wrap_i32, List.getElem?_cons_zero, List.getElem?_cons_succ, hmin]
  refine ⟨by omega, ?_⟩
  refine loopU hm [] (fun x : List Str × Str => [(0, .val (.str x.2)), (3, .val (.int .i64 (s.count c))), (10, .val (.int .i64 x.1.length))]) (fun x => [(31, .arr 0 1 (ts x.1 ++ List.replicate (x.2.count c + 1) [.str []]))]) (fun x => x.2.length ≤ s.length ∧ x.1.length + x.2.count c = s.count c ∧ x.1 ++ parts c x.2 = parts c s) (fun x => x.2.length) ([], s) ⟨by simp, by simp, by simp⟩ ?_ ?_
  · simp [ts]
    exact weak_drop rfl rfl (by simp [EnvLe, getE, look]) (by simp [ObLe, look]) (by simp [roOk])
  rintro ⟨d, t⟩ ⟨hl, hn, hp⟩
  simp at hl hn hp
  simp
  by_cases h : d.length < s.count c
  · have hpos : 0 < t.count c := by omega
    have hmem : c ∈ t := List.count_pos_iff.1 hpos
    rcases idxB_cases t c with ⟨_, h0⟩ | ⟨m, h1, h2, h3⟩
    · exact absurd hmem h0
    · have hI := fn_Index t c
      rw [h1] at hI
      obtain ⟨hm1, _⟩ := List.getElem?_eq_some_iff.1 h2
      have hpa := parts_at h2 h3
      have hsr := set_rows d (t.take m) (t.count c)
      simp (disch := omega) [br_yes, br_no, wrap_i64, wrap_u8, wrap_i32, List.getElem?_cons_zero, List.getElem?_cons_succ, h]
      refine callW_imm hI ?_
      have hgr := get_rows d (t.count c)
      have hcr : (t.drop (m + 1)).count c + 1 = t.count c := by
        have := parts_len c t
        rw [hpa, List.length_cons, parts_len] at this
        omega
      simp (disch := omega) [br_yes, br_no, wrap_i64, wrap_u8, wrap_i32, List.getElem?_cons_zero, List.getElem?_cons_succ, ts_len, hgr, hsr]
      refine ⟨by omega, by omega, ?_⟩
      refine loopEnd (d ++ [t.take m], t.drop (m + 1)) ⟨by simp; omega, by simp; omega, ?_⟩ (by simp; omega) ?_
      · rw [← hp, hpa]; simp
      simp [hcr]
      exact weak_drop rfl rfl (by simp [EnvLe, getE, look]) (by simp [ObLe, look]) (by simp [roOk])
  · have h0 : t.count c = 0 := by omega
    have hnm : c ∉ t := List.count_eq_zero.1 h0
    have hpa := parts_none hnm
    have hsr := set_rows d t 0
    have hgr := get_rows d 0
    simp at hsr hgr
    simp (disch := omega) [br_yes, br_no, wrap_i64, wrap_u8, wrap_i32, List.getElem?_cons_zero, List.getElem?_cons_succ, h, h0, ts_len, hgr, hsr]
    refine ⟨by omega, ?_⟩
    rw [← hp, hpa, List.take_of_length_le (by rw [ts_len]; simp)]
theorem fn_Split (s : Str) (c : UInt8) (hs : s.length < 1000000) : Fn G Tryz.prog k_strings_Split [.str s, .str [c]] (.slice (ts (parts c s))) := by
  refine fn_intro hm ok_strings_Split (by simp) ?_
  simp [c_strings_Split, r_strings_Split]
  refine callW_imm (fn_genSplit s c hs) ?_
  simp
end Go.Vs.YtbchceojmblkkaaGreatDoor
namespace Go.Vs.YtbchceojmblkkaaGreatDoor
set_option linter.unusedSimpArgs false
set_option linter.unusedVariables false
open Go.Proofs Go.Vs.U8 Go.Vs.Pa
set_option maxRecDepth 100000
set_option maxHeartbeats 4000000
theorem first_part {c : UInt8} {r p : Str} {ps : List Str} (h : parts c r = p :: ps) : (∀ k, k < p.length → r[k]? = p[k]? ∧ r[k]? ≠ some c) ∧ (r[p.length]? = none ∨ r[p.length]? = some c) := by
  induction r generalizing p ps with
  | nil => simp [parts] at h; obtain ⟨rfl, rfl⟩ := h; simp
  | cons x r ih =>
    simp only [parts] at h
    by_cases hx : x = c
    · rw [if_pos hx] at h
      simp at h; obtain ⟨rfl, rfl⟩ := h
      simp [hx]
    · rw [if_neg hx] at h
      split at h
      · next hp => exact absurd hp (parts_ne c r)
      · next q qs hq =>
        simp at h; obtain ⟨rfl, rfl⟩ := h
        obtain ⟨h1, h2⟩ := ih hq
        refine ⟨fun k hk => ?_, by simpa using h2⟩
        cases k with
        | zero => simp [hx]
        | succ k => simpa using h1 k (by simpa using hk)
theorem part_drop {c : UInt8} : ∀ {z : Nat} {r p : Str} {ps : List Str}, parts c r = p :: ps → z ≤ p.length → parts c (r.drop z) = p.drop z :: ps
  | 0, r, p, ps, h, _ => h
  | z + 1, [], p, ps, h, hz => by simp [parts] at h; obtain ⟨rfl, rfl⟩ := h; simp at hz
  | z + 1, x :: r, p, ps, h, hz => by
    simp only [parts] at h
    by_cases hx : x = c
    · rw [if_pos hx] at h
      simp at h; obtain ⟨rfl, rfl⟩ := h
      simp at hz
    · rw [if_neg hx] at h
      split at h
      · next hp => exact absurd hp (parts_ne c r)
      · next q qs hq =>
        simp at h; obtain ⟨rfl, rfl⟩ := h
        show parts c (r.drop z) = q.drop z :: qs
        exact part_drop hq (by simpa using hz)
theorem tl_part {r p : Str} {ps : List Str} (h : parts 10 r = p :: ps) {k lo hi : Nat} (hlo : 128 ≤ lo) (hk : k ≤ p.length) : tl p k lo hi = tl (r.map sp) k lo hi := by
  obtain ⟨h1, h2⟩ := first_part h
  unfold tl
  rw [List.getElem?_map]
  by_cases hkl : k < p.length
  · obtain ⟨h3, h4⟩ := h1 k hkl
    rw [h3, List.getElem?_eq_getElem hkl]
    rw [h3, List.getElem?_eq_getElem hkl] at h4
    have : p[k].toNat ≠ 10 := fun e => h4 (by rw [← UInt8.toNat_inj.1 (show p[k].toNat = (10 : UInt8).toNat from e)])
    simp [sp, this]
  · obtain rfl : k = p.length := by omega
    rw [List.getElem?_eq_none (Nat.le_refl _)]
    rcases h2 with h2 | h2
    · rw [h2]; rfl
    · rw [h2]; simp [sp]; omega
theorem size_part {r p : Str} {ps : List Str} (c : UInt8) (h : parts 10 r = p :: ps) : sizeL (c :: p) = sizeL (c :: r.map sp) := by
  have hlo : ∀ n, 128 ≤ lo1 n := by
    intro n
    unfold lo1
    split
    · omega
    · split <;> omega
  have t0 := fun lo hi (hl : 128 ≤ lo) => tl_part h (k := 0) (lo := lo) (hi := hi) hl (by omega)
  have e1 : ∀ lo hi, 128 ≤ lo → (tl p 0 lo hi && tl p 1 128 191) = (tl (r.map sp) 0 lo hi && tl (r.map sp) 1 128 191) := by
    intro lo hi hl
    by_cases hp : 1 ≤ p.length
    · rw [t0 lo hi hl, tl_part h (by omega) hp]
    · have : tl p 0 lo hi = false := by
        cases ht : tl p 0 lo hi with
        | false => rfl
        | true => have := tl_len ht; omega
      rw [← t0 lo hi hl, this]; rfl
  have e2 : ∀ lo hi, 128 ≤ lo → (tl p 0 lo hi && tl p 1 128 191 && tl p 2 128 191) = (tl (r.map sp) 0 lo hi && tl (r.map sp) 1 128 191 && tl (r.map sp) 2 128 191) := by
    intro lo hi hl
    by_cases hp : 2 ≤ p.length
    · rw [e1 lo hi hl, tl_part h (by omega) hp]
    · have : tl p 1 128 191 = false := by
        cases ht : tl p 1 128 191 with
        | false => rfl
        | true => have := tl_len ht; omega
      rw [← e1 lo hi hl, this]; simp
  simp only [sizeL]
  rw [t0 128 191 (by omega)]
  have e1' := e1 (lo1 c.toNat) (hi1 c.toNat) (hlo _)
  have e2' := e2 (lo1 c.toNat) (hi1 c.toNat) (hlo _)
  simp only [Bool.and_assoc] at e1' e2' ⊢
  rw [e1', e2']
theorem odd_parts : ∀ (n : Nat) (v : Str), v.length ≤ n → (odd (v.map sp) = none ↔ ∀ p ∈ parts 10 v, odd p = none)
  | _, [], _ => by simp [parts]
  | n + 1, c :: r, hn => by
    rw [List.map_cons, odd_step (by simp)]
    by_cases hc : c = 10
    · subst hc
      have h1 : oddAt (sp 10 :: r.map sp) = false := by simp [oddAt, sizeL, sp]
      have h2 : sizeL (sp 10 :: r.map sp) = 1 := by simp [sizeL, sp]
      rw [h1, h2]
      simp only [Bool.false_eq_true, if_false, Option.map_eq_none_iff, List.drop_succ_cons, List.drop_zero]
      rw [odd_parts n r (by simpa using hn)]
      simp [parts]
    · have hcn : c.toNat ≠ 10 := fun e => hc (UInt8.toNat_inj.1 e)
      have hsp : sp c = c := by simp [sp, hcn]
      obtain ⟨p, ps, hp⟩ := List.exists_cons_of_ne_nil (parts_ne 10 r)
      have hv : parts 10 (c :: r) = (c :: p) :: ps := by simp [parts, hc, hp]
      have hz := size_part c hp
      rw [hv, hsp, List.forall_mem_cons, odd_step (l := c :: p) (by simp)]
      have ha : oddAt (c :: p) = oddAt (c :: r.map sp) := by simp only [oddAt, hz]
      rw [ha, ← hz]
      cases ho : oddAt (c :: r.map sp) with
      | true => simp
      | false =>
        have h1 : 1 ≤ sizeL (c :: p) := oddAt_size (by rw [ha]; exact ho) (by simp)
        have h2 := sizeL_le (c :: p)
        obtain ⟨z, hzz⟩ : ∃ z, sizeL (c :: p) = z + 1 := ⟨sizeL (c :: p) - 1, by omega⟩
        rw [hzz] at h2 ⊢
        simp only [Bool.false_eq_true, if_false, Option.map_eq_none_iff, List.drop_succ_cons]
        have hd := part_drop hp (z := z) (by simpa using h2)
        rw [← List.map_drop, odd_parts n (r.drop z) (by simp at hn ⊢; omega), hd, List.forall_mem_cons]
theorem fine_parts (v : Str) : fineB v = true ↔ ∀ p ∈ parts 10 v, odd p = none := by
  rw [← odd_parts v.length v (Nat.le_refl _)]
  simp [fineB]
theorem parts_short {c : UInt8} : ∀ {v p : Str}, p ∈ parts c v → p.length ≤ v.length
  | [], p, h => by simp [parts] at h; simp [h]
  | x :: r, p, h => by
    simp only [parts] at h
    split at h
    · rcases List.mem_cons.1 h with rfl | h
      · simp
      · have := parts_short h; simp; omega
    · split at h
      · next hp => exact absurd hp (parts_ne c r)
      · next q qs hq =>
        have hr : ∀ p, p ∈ q :: qs → p.length ≤ r.length := fun p hm => parts_short (by rw [hq]; exact hm)
        rcases List.mem_cons.1 h with rfl | h
        · have := hr q (by simp); simp; omega
        · have := hr p (by simp [h]); simp; omega
end Go.Vs.YtbchceojmblkkaaGreatDoor
namespace Go.Vs.YtbchceojmblkkaaGreatDoor
set_option linter.unusedSimpArgs false
set_option linter.unusedVariables false
open Go.Proofs Go.Vs.U8 Go.Vs.Pa
set_option maxRecDepth 100000
set_option maxHeartbeats 4000000
/-- A parameter. -/
structure Pm where
  n : Str
  v : List Str
  deriving DecidableEq
def Pm.iv (p : Pm) : IV := .agg [.str p.n, .slice (ts p.v)]
def ps (l : List Pm) : List (List IV) := l.map fun p => [.str p.n, .slice (ts p.v)]
theorem ps_len (l : List Pm) : (ps l).length = l.length := by simp [ps]
theorem ts_get {d : List Str} {i : Nat} {x : Str} (h : i < d.length) (hx : d[i] = x) : (ts d)[i]? = some [.str x] := by simp [ts, h, hx]
theorem ps_get {d : List Pm} {i : Nat} {x : Pm} (h : i < d.length) (hx : d[i] = x) : (ps d)[i]? = some [.str x.n, .slice (ts x.v)] := by simp [ps, h, hx]
/-- Whether values may be. -/
def checkV : List Str → Int
  | [] => 0
  | x :: r => if 60 < x.length then 5 else if fineB x then checkV r else 10
def checkP (p : Pm) : Int := if nameB p.n then (if p.v.length = 0 ∨ 6 < p.v.length then 20 else checkV p.v) else 4
theorem fn_Check (p : Pm) (hn : p.n.length < 1000000) : Fn G Tryz.prog k_param_Check [p.iv] (.int .i64 (checkP p)) := by
  refine fn_intro hm ok_param_Check (by simp) ?_
  simp [c_param_Check, r_param_Check, Pm.iv]
  refine callW_imm (fn_Name p.n hn) ?_
  obtain ⟨n, v⟩ := p
  simp only at *
  cases h1 : nameB n with
  | false => simp [checkP, h1]
  | true =>
    have hP : checkP ⟨n, v⟩ = if v.length = 0 ∨ 6 < v.length then 20 else checkV v := by simp [checkP, h1]
    simp [ts_len]
    by_cases h2 : v.length = 0
    · rw [if_pos (by omega)] at hP
      obtain rfl : v = [] := List.length_eq_zero_iff.1 h2
      simp (disch := omega) [br_yes, br_no, wrap_i64, wrap_u8, wrap_i32, List.getElem?_cons_zero, List.getElem?_cons_succ, ts_len, hP]
    · have h2' : ¬ v = [] := fun e => h2 (by rw [e]; rfl)
      by_cases h3 : 6 < v.length
      · rw [if_pos (by omega)] at hP
        simp (disch := omega) [br_yes, br_no, wrap_i64, wrap_u8, wrap_i32, List.getElem?_cons_zero, List.getElem?_cons_succ, ts_len, hP, h2']
      · rw [if_neg (by omega)] at hP
        rw [hP]
        simp (disch := omega) [br_yes, br_no, wrap_i64, wrap_u8, wrap_i32, List.getElem?_cons_zero, List.getElem?_cons_succ, ts_len, h2']
        refine loopU hm [] (fun i : Nat => [(24, .val (.int .i64 i))]) (fun i => []) (fun i => i ≤ v.length ∧ checkV (v.drop i) = checkV v) (fun i => v.length - i) 0 ⟨by omega, by simp⟩ ?_ ?_
        · simp
          exact weak_drop rfl rfl (by simp [EnvLe, getE, look]) (by simp [ObLe, look]) (by simp [roOk])
        rintro i ⟨hi, hc⟩
        simp [ts_len]
        by_cases h : i < v.length
        · obtain ⟨x, hx⟩ : ∃ x, v[i] = x := ⟨_, rfl⟩
          have hg := ts_get h hx
          have hd : v.drop i = x :: v.drop (i + 1) := by rw [← hx]; exact List.drop_eq_getElem_cons h
          rw [hd, checkV] at hc
          by_cases h4 : 60 < x.length
          · rw [if_pos h4] at hc
            simp (disch := omega) [br_yes, br_no, wrap_i64, wrap_u8, wrap_i32, List.getElem?_cons_zero, List.getElem?_cons_succ, ts_len, hg, ← hc]
          · rw [if_neg h4] at hc
            have hS := fn_Split x 10 (by omega)
            have hfp := fine_parts x
            have hps : ∀ p ∈ parts 10 x, p.length < 1000000 := fun p hp => by have := parts_short hp; omega
            have hpl : (parts 10 x).length ≤ 100 := by
              rw [parts_len]
              have : x.count 10 ≤ x.length := List.count_le_length
              omega
            obtain ⟨P, hP'⟩ : ∃ P, parts 10 x = P := ⟨_, rfl⟩
            rw [hP'] at hS hfp hps hpl
            simp (disch := omega) [br_yes, br_no, wrap_i64, wrap_u8, wrap_i32, List.getElem?_cons_zero, List.getElem?_cons_succ, ts_len, hg]
            refine callW_imm hS ?_
            simp (disch := omega) [br_yes, br_no, wrap_i64, wrap_u8, wrap_i32, List.getElem?_cons_zero, List.getElem?_cons_succ, ts_len]
            refine loopU hm [] (fun j : Nat => [(34, .val (.int .i64 j))]) (fun i => []) (fun j => j ≤ P.length ∧ ∀ p ∈ P.take j, odd p = none) (fun j => P.length - j) 0 ⟨by omega, by simp⟩ ?_ ?_
            · simp
              exact weak_drop rfl rfl (by simp [EnvLe, getE, look]) (by simp [ObLe, look]) (by simp [roOk])
            rintro j ⟨hj, ho⟩
            simp [ts_len]
            by_cases h6 : j < P.length
            · obtain ⟨y, hy⟩ : ∃ y, P[j] = y := ⟨_, rfl⟩
              have hg2 := ts_get h6 hy
              have hym : y ∈ P := hy ▸ List.getElem_mem h6
              have hO := fn_Odd y (hps y hym)
              simp (disch := omega) [br_yes, br_no, wrap_i64, wrap_u8, wrap_i32, List.getElem?_cons_zero, List.getElem?_cons_succ, ts_len, hg2]
              refine callW_imm hO ?_
              cases h7 : odd y with
              | some k =>
                have h5 : fineB x = false := by
                  cases hf : fineB x with
                  | false => rfl
                  | true => have := hfp.1 hf y hym; rw [h7] at this; cases this
                rw [h5] at hc
                simp at hc
                simp (disch := omega) [br_yes, br_no, wrap_i64, wrap_u8, wrap_i32, List.getElem?_cons_zero, List.getElem?_cons_succ, oddI, ← hc]
              | none =>
                simp (disch := omega) [br_yes, br_no, wrap_i64, wrap_u8, wrap_i32, List.getElem?_cons_zero, List.getElem?_cons_succ, oddI]
                refine loopEnd (j + 1) ⟨by omega, ?_⟩ (by omega) ?_
                · intro p hp
                  rw [List.take_succ_eq_append_getElem h6, List.mem_append] at hp
                  rcases hp with hp | hp
                  · exact ho p hp
                  · rw [List.mem_singleton.1 hp, hy]; exact h7
                · simp
                  exact weak_drop rfl rfl (by simp [EnvLe, getE, look]) (by simp [ObLe, look]) (by simp [roOk])
            · obtain rfl : j = P.length := by omega
              have h5 : fineB x = true := hfp.2 (by simpa using ho)
              rw [h5] at hc
              simp at hc
              simp (disch := omega) [br_yes, br_no, wrap_i64, wrap_u8, wrap_i32, List.getElem?_cons_zero, List.getElem?_cons_succ]
              refine loopEnd (i + 1) ⟨by omega, hc⟩ (by omega) ?_
              simp
              exact weak_drop rfl rfl (by simp [EnvLe, getE, look]) (by simp [ObLe, look]) (by simp [roOk])
        · obtain rfl : i = v.length := by omega
          simp [checkV] at hc
          simp [← hc]
end Go.Vs.YtbchceojmblkkaaGreatDoor
