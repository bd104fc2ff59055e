/- Value semantics, part 7: structs that are compared; operations that take values apart; loads. No conditions. -/
import Derived.Test.YtjfleklkloohgaaVs6
set_option linter.unusedVariables false
set_option linter.unusedSimpArgs false
namespace Go.Vs

theorem eqL_append : ∀ {ks rs : List LK} {xs ys : List IV} {b : Bool}, eqL (ks ++ rs) xs ys = some b →
    ∃ b1 b2, eqL ks (xs.take ks.length) (ys.take ks.length) = some b1 ∧ eqL rs (xs.drop ks.length) (ys.drop ks.length) = some b2 ∧ b = (b1 && b2)
  | [], rs, xs, ys, b, h => ⟨true, b, by simp [eqL], by simpa using h, by simp⟩
  | k :: ks, rs, [], ys, b, h => by simp [eqL] at h
  | k :: ks, rs, x :: xs, [], b, h => by simp [eqL] at h
  | k :: ks, rs, x :: xs, y :: ys, b, h => by
    simp only [List.cons_append, eqL] at h
    split at h
    · next c d h1 h2 =>
      simp only [Option.some.injEq] at h
      subst h
      obtain ⟨b1, b2, h3, h4, rfl⟩ := eqL_append h2
      refine ⟨c && b1, b2, ?_, ?_, ?_⟩
      · simp only [List.length_cons, List.take_succ_cons, eqL, h1, h3]
      · simpa using h4
      · rw [Bool.and_assoc]
    · simp at h
theorem eqL_length : ∀ {ks : List LK} {xs ys : List IV} {b : Bool}, eqL ks xs ys = some b → xs.length = ks.length ∧ ys.length = ks.length
  | [], [], [], _, _ => ⟨rfl, rfl⟩
  | [], [], _ :: _, _, h => by simp [eqL] at h
  | [], _ :: _, _, _, h => by simp [eqL] at h
  | _ :: _, [], _, _, h => by simp [eqL] at h
  | _ :: _, _ :: _, [], _, h => by simp [eqL] at h
  | k :: ks, x :: xs, y :: ys, b, h => by
    simp only [eqL] at h
    split at h
    · next c d h1 h2 =>
      have := eqL_length h2
      simp [this]
    · simp at h

section
variable {P : Program} {w : World} {S : Stab}

theorem run_part_agg {t : TypeId} {n : Nat} {d : TypeDesc} (hu : P.underlying t = some d) (hd : isAggD d = true) (hs : sizeT P t = some n) (cs : Array Value) (off : Nat) :
    (part t cs off).run P w = .ok (.agg (cs.extract off (off + n))) w := by
  unfold part
  simp only [Sem.run_bind, run_isAgg hu, hd, Result.andThen_ok, if_true, run_sizeT hs, Sem.run_pure]
theorem run_part_one {t : TypeId} {d : TypeDesc} (hu : P.underlying t = some d) (hd : isAggD d = false) (cs : Array Value) (off : Nat) {v : Value} (hv : cs[off]? = some v) :
    (part t cs off).run P w = .ok v w := by
  unfold part
  simp only [Sem.run_bind, run_isAgg hu, hd, Result.andThen_ok, Bool.false_eq_true, if_false, hv, Sem.run_pure]

theorem RepOnes.extract {xs : List IV} {us : Array Value} (h : RepOnes w S xs us.toList) (off n : Nat) : RepOnes w S ((xs.drop off).take n) (us.extract off (off + n)).toList := by
  have := RepOnes.take n (RepOnes.drop off h)
  rw [Array.toList_extract, List.extract_eq_take_drop, Nat.add_sub_cancel_left]
  exact this

/-- Comparing the parts at an offset, in a type whose cells are compared one by one. -/
def PartEq (P : Program) (w : World) (S : Stab) (d : Nat) (t : TypeId) (ks : List LK) : Prop :=
  ∀ (e : Nat) (xs ys : List IV) (us vs : Array Value) (off : Nat) (b : Bool), RepOnes w S xs us.toList → RepOnes w S ys vs.toList →
    eqL ks ((xs.drop off).take ks.length) ((ys.drop off).take ks.length) = some b →
    ∃ u v, (part t us off).run P w = .ok u w ∧ (part t vs off).run P w = .ok v w ∧ (Op.equalIn (d + e) t u v).run P w = .ok b w

theorem eqFields_run {d : Nat} (hd : ∀ t ks, leaves P d t = some ks → PartEq P w S d t ks) : ∀ (fs : List Field) (off : Nat) (ks : List LK), leavesFields (leaves P d) off fs = some ks →
    ∀ (e : Nat) (xs ys : List IV) (us vs : Array Value) (b : Bool), RepOnes w S xs us.toList → RepOnes w S ys vs.toList → eqL ks (xs.drop off) (ys.drop off) = some b →
    (Op.eqFields (d + e) us vs fs).run P w = .ok b w
  | [], off, ks, hk, e, xs, ys, us, vs, b, _, _, hb => by
    simp only [leavesFields, Option.some.injEq] at hk
    subst hk
    have : b = true := by
      unfold eqL at hb
      split at hb <;> simp_all
    subst this
    simp [Op.eqFields]
  | f :: fs, off, ks, hk, e, xs, ys, us, vs, b, hx, hy, hb => by
    simp only [leavesFields] at hk
    split at hk
    · simp at hk
    · next hn =>
      split at hk
      · simp at hk
      · next ho =>
        have ho : f.offset = off := by simpa using ho
        split at hk
        · next k1 h1 =>
          split at hk
          · next k2 h2 =>
            simp only [Option.some.injEq] at hk
            subst hk
            obtain ⟨b1, b2, e1, e2, rfl⟩ := eqL_append hb
            obtain ⟨u, v, r1, r2, r3⟩ := hd _ _ h1 e xs ys us vs off b1 hx hy e1
            have ih := eqFields_run hd fs (off + k1.length) k2 h2 e xs ys us vs b2 hx hy (by simpa [List.drop_drop] using e2)
            simp only [Op.eqFields, ne_eq, hn, not_false_eq_true, if_true, Sem.run_bind, ho, r1, r2, Result.andThen_ok, r3, Sem.run_ite]
            cases b1
            · simp
            · simpa using ih
          · simp at hk
        · simp at hk

theorem list_beq (p q : List UInt8) : (p == q) = decide (p = q) := by by_cases h : p = q <;> simp [h]
theorem leaf_part {d : TypeDesc} {t : TypeId} {k : LK} (hu : P.underlying t = some d) (hd : isAggD d = false) {xs ys : List IV} {us vs : Array Value} {off : Nat} {b : Bool}
    (hx : RepOnes w S xs us.toList) (hy : RepOnes w S ys vs.toList) (hb : eqL [k] ((xs.drop off).take 1) ((ys.drop off).take 1) = some b) :
    ∃ x y u v, eqC k x y = some b ∧ Rep w S x u ∧ Rep w S y v ∧ (part t us off).run P w = .ok u w ∧ (part t vs off).run P w = .ok v w := by
  have hl := eqL_length hb
  cases hxs : xs.drop off with
  | nil => rw [hxs] at hl; simp at hl
  | cons x xr =>
    cases hys : ys.drop off with
    | nil => rw [hys] at hl; simp at hl
    | cons y yr =>
      have h1 : xs[off]? = some x := by have := congrArg (·[0]?) hxs; simpa using this
      have h2 : ys[off]? = some y := by have := congrArg (·[0]?) hys; simpa using this
      obtain ⟨u, hu1, _, hu2⟩ := RepOnes.get hx h1
      obtain ⟨v, hv1, _, hv2⟩ := RepOnes.get hy h2
      refine ⟨x, y, u, v, ?_, hu2, hv2, run_part_one hu hd us off (by simpa using hu1), run_part_one hu hd vs off (by simpa using hv1)⟩
      rw [hxs, hys] at hb
      simp only [List.take_succ_cons, List.take_zero, eqL] at hb
      split at hb
      · next c d h3 h4 =>
        simp only [Option.some.injEq] at h4 hb
        subst h4; subst hb
        simpa using h3
      · simp at hb

theorem leaves_sound : ∀ (d : Nat) (t : TypeId) (ks : List LK), leaves P d t = some ks → PartEq P w S d t ks
  | 0, t, ks, h => by simp [leaves] at h
  | d + 1, t, ks, h => by
    intro e xs ys us vs off b hx hy hb
    simp only [leaves] at h
    split at h
    · next hu =>
      split at h
      · simp only [Option.some.injEq] at h
        subst h
        obtain ⟨x, y, u, v, h1, h2, h3, h4, h5⟩ := leaf_part hu rfl hx hy hb
        refine ⟨u, v, h4, h5, ?_⟩
        unfold eqC at h1
        split at h1 <;> (try (simp at h1; done)) <;> (try (rename_i hk; simp at hk; done))
        simp only [Option.some.injEq] at h1
        subst h1
        obtain rfl : u = _ := h2
        obtain rfl : v = _ := h3
        rw [show d + 1 + e = (d + e) + 1 by omega, run_equalIn_bool' w _ t _ _ hu]
        congr 1
      · simp at h
    · next k0 hu =>
      split at h
      · simp only [Option.some.injEq] at h
        subst h
        obtain ⟨x, y, u, v, h1, h2, h3, h4, h5⟩ := leaf_part hu rfl hx hy hb
        refine ⟨u, v, h4, h5, ?_⟩
        unfold eqC at h1
        split at h1 <;> (try (simp at h1; done)) <;> (try (rename_i hk; simp at hk; done))
        split at h1
        · next hkk =>
          subst hkk
          simp only [Option.some.injEq] at h1
          subst h1
          obtain rfl : u = _ := h2
          obtain rfl : v = _ := h3
          rw [show d + 1 + e = (d + e) + 1 by omega, run_equalIn_int w _ t _ k0 _ _ hu]
          congr 1
        · simp at h1
      · simp at h
    · next hu =>
      split at h
      · simp only [Option.some.injEq] at h
        subst h
        obtain ⟨x, y, u, v, h1, h2, h3, h4, h5⟩ := leaf_part hu rfl hx hy hb
        refine ⟨u, v, h4, h5, ?_⟩
        unfold eqC at h1
        split at h1 <;> (try (simp at h1; done)) <;> (try (rename_i hk; simp at hk; done))
        simp only [Option.some.injEq] at h1
        subst h1
        obtain rfl : u = _ := h2
        obtain rfl : v = _ := h3
        rw [show d + 1 + e = (d + e) + 1 by omega, run_equalIn_string w _ t _ _ hu, ba_toList, ba_toList, list_beq]
      · simp at h
    · next fs hu =>
      split at h
      · simp at h
      · next hst =>
        split at h
        · next k1 hk =>
          split at h
          · next hsz =>
            simp only [Option.some.injEq] at h
            subst h
            refine ⟨_, _, run_part_agg hu rfl hsz us off, run_part_agg hu rfl hsz vs off, ?_⟩
            have hf : P.underlying t = some (.struct (P.fieldsOf t)) := by simp [Program.fieldsOf, hu]
            have hfs : P.fieldsOf t = fs := by simp [Program.fieldsOf, hu]
            rw [show d + 1 + e = (d + e) + 1 by omega, run_equalIn_struct w _ t _ _ hf (by simpa using hst), hfs]
            exact eqFields_run (leaves_sound d) fs.toList 0 k1 hk e _ _ _ _ b (hx.extract off _) (hy.extract off _) (by simpa using hb)
          · simp at h
        · simp at h
    · simp at h

end
end Go.Vs
