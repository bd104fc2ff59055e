/- What all are told: bounds, and any order of the nodes: plain. No conditions. -/
import Derived.Test.YtjfleklkloohgaaRoC
namespace Go.Vs.Ytjfleklkloohgaa.R
set_option linter.unusedSimpArgs false
set_option linter.unusedVariables false
open Go.Proofs Go.Vs.Fo Go.Vs.Ro
theorem perm_prs {l m : List Nd} (p : l.Perm m) : (prsN l).Perm (prsN m) := by
  induction p with
  | nil => exact List.Perm.nil
  | cons x _ ih => simp only [prsN]; split
                   · exact ih
                   · exact ih.cons _
  | swap x y l => simp only [prsN]; split <;> split <;> first | exact List.Perm.refl _ | exact List.Perm.swap _ _ _
  | trans _ _ i1 i2 => exact i1.trans i2
theorem perm_up {l m : Prs} (p : l.Perm m) (h : (l.map (·.1)).Nodup) (n : Str) : up l n = up m n := by
  have h' : (m.map (·.1)).Nodup := (p.map _).nodup_iff.1 h
  cases e : up l n with
  | none =>
    have := up_none.1 e
    exact (up_none.2 (fun hm => this ((p.map _).mem_iff.2 hm))).symm
  | some u => exact (up_some h' (p.mem_iff.1 (up_mem e))).symm
theorem perm_chain {l m : Prs} (p : l.Perm m) (h : (l.map (·.1)).Nodup) : ∀ f n, chain l f n = chain m f n
  | 0, _ => rfl
  | f + 1, n => by
    simp only [chain, perm_up p h n]
    cases up m n with
    | none => rfl
    | some u => exact congrArg _ (perm_chain p h f u)
theorem perm_forest {l m : Prs} (p : l.Perm m) (h : Forest l) : Forest m := by
  refine ⟨(p.map _).nodup_iff.1 h.nd, fun n => ?_⟩
  rw [← perm_chain p h.nd, ← p.length_eq]
  exact h.low n
theorem perm_good {l m : List Nd} (p : l.Perm m) (h : Good l) : Good m := by
  have pu : (uids l).Perm (uids m) := p.map _
  refine ⟨fun e => h.noEmpty (pu.mem_iff.2 e), pu.nodup_iff.1 h.nodup, fun q hq => pu.mem_iff.1 (h.ups q ((perm_prs p).mem_iff.2 hq)), perm_forest (perm_prs p) h.forest, fun n hn => h.lives n (p.mem_iff.2 hn)⟩
theorem perm_chkN {l m : List Nd} (p : l.Perm m) : chkN l = 0 ↔ chkN m = 0 := by
  rw [good_iff, good_iff]
  exact ⟨perm_good p, perm_good p.symm⟩
theorem perm_sumC {a b : List Int} (p : a.Perm b) : sumC a = sumC b := by
  induction p with
  | nil => rfl
  | cons x _ ih => simp only [sumC, List.map_cons, List.sum_cons] at ih ⊢; omega
  | swap x y l => simp only [sumC, List.map_cons, List.sum_cons]; omega
  | trans _ _ i1 i2 => exact i1.trans i2
theorem perm_all {K L : List Sm} (p : K.Perm L) (f : Sm → Bool) : K.all f = L.all f := by
  rw [Bool.eq_iff_iff, List.all_eq_true, List.all_eq_true]
  exact ⟨fun h x hx => h x (p.mem_iff.2 hx), fun h x hx => h x (p.mem_iff.1 hx)⟩
theorem perm_mkS {K L : List Sm} (p : K.Perm L) (n : Nd) : mkS n K = mkS n L := by
  have e0 : K = [] ↔ L = [] := by rw [← List.length_eq_zero_iff, ← List.length_eq_zero_iff, p.length_eq]
  have e1 : meanI (K.map (·.p)) = meanI (L.map (·.p)) := by
    have q := p.map (·.p)
    have e2 : K.map (·.p) = [] ↔ L.map (·.p) = [] := by simp [e0]
    simp only [meanI, e2, perm_sumC q, q.length_eq]
  simp only [mkS, joinS, e0, e1, perm_all p]
theorem perm_sumN {l m : List Nd} (p : l.Perm m) : ∀ f n, sumN l f n = sumN m f n
  | 0, _ => rfl
  | f + 1, n => by
    simp only [sumN]
    refine (perm_mkS ((p.filter _).map _) n).trans ?_
    congr 1
    exact List.map_congr_left (fun k _ => perm_sumN p f k)
theorem at_self {l : List Nd} (h : (uids l).Nodup) {n : Nd} (hn : n ∈ l) : atN l n.uid = n := by
  obtain ⟨i, hi, rfl⟩ := List.getElem_of_mem hn
  obtain ⟨h1, h2⟩ := posT_lt (List.mem_map_of_mem (f := (·.uid)) hn)
  have hp : (posT (uids l) l[i].uid).toNat = i := by
    have e1 : (uids l)[(posT (uids l) l[i].uid).toNat] = (uids l)[i]'(by simpa using hi) := by
      rw [uids_get hi]
      obtain ⟨_, e⟩ := List.getElem?_eq_some_iff.1 h2
      exact e
    exact (List.getElem_inj h).1 e1
  simp [atN, hp, hi]
theorem perm_of {l m : List Nd} (p : l.Perm m) {n : Nd} (hn : n ∈ l) : ofT l n.uid = ofT m n.uid ∧ (ofE l n.uid = 0 ↔ ofE m n.uid = 0) := by
  have hm := p.mem_iff.1 hn
  have h1 : n.uid ∈ uids l := List.mem_map_of_mem hn
  have h2 : n.uid ∈ uids m := List.mem_map_of_mem hm
  have hc := perm_chkN p
  by_cases h : chkN l = 0
  · have h' := hc.1 h
    have hG := good_iff.1 h
    have hG' := good_iff.1 h'
    simp only [ofT, ofE, h, h', h1, h2, if_true, at_self hG.nodup hn, at_self hG'.nodup hm, perm_sumN p, p.length_eq, and_self]
  · have h' : chkN m ≠ 0 := fun e => h (hc.2 e)
    simp [ofT, ofE, h, h']
theorem perm_turn (l : List Nd) (k : Nat) : l.Perm (l.drop k ++ l.take k) := by
  have := List.perm_append_comm (l₁ := l.take k) (l₂ := l.drop k)
  rwa [List.take_append_drop] at this
/-- What holds of each that is told. -/
structure Fit (n : Nd) (x : Sm) : Prop where
  lo : 0 ≤ x.p
  hi : x.p ≤ 100
  s1 : 1 ≤ x.s
  s4 : x.s ≤ 4
  c4 : x.s = 4 ↔ n.s = 4
  done : x.s = 3 → x.p = 100
  needs : x.s = 1 → x.p ≠ 100
theorem sumC_same {l : List Int} (h : ∀ x ∈ l, 0 ≤ x ∧ x ≤ 100) : sumC l = l.sum := by
  induction l with
  | nil => rfl
  | cons x r ih =>
    have h1 := h x (by simp)
    have h2 := ih (fun y hy => h y (by simp [hy]))
    have h3 : clamp x = x := by unfold clamp; omega
    simp only [sumC, List.map_cons, List.sum_cons, h3] at h2 ⊢
    omega
theorem sum_full {l : List Int} (h : ∀ x ∈ l, x ≤ 100) : l.sum ≤ 100 * l.length ∧ (l.sum = 100 * l.length ↔ ∀ x ∈ l, x = 100) := by
  induction l with
  | nil => simp
  | cons x r ih =>
    have h1 := h x (by simp)
    obtain ⟨h2, h3⟩ := ih (fun y hy => h y (by simp [hy]))
    simp only [List.sum_cons, List.length_cons, List.mem_cons, forall_eq_or_imp]
    refine ⟨by omega, ?_⟩
    rw [← h3]
    omega
theorem mean_range (l : List Int) : 0 ≤ meanI l ∧ meanI l ≤ 100 := by
  unfold meanI
  split
  · omega
  · next h =>
    obtain ⟨h1, h2⟩ := sumC_le l
    have hl : 0 < l.length := List.length_pos_iff.2 h
    refine ⟨Int.ediv_nonneg h1 (by omega), ?_⟩
    have := Int.ediv_le_ediv (c := (l.length : Int)) (by omega) h2
    rwa [Int.mul_ediv_cancel _ (by omega)] at this
theorem mean_floor {l : List Int} (h : ∀ x ∈ l, 0 ≤ x ∧ x ≤ 100) (hl : l ≠ []) : meanI l * l.length ≤ l.sum ∧ l.sum - meanI l * l.length < l.length ∧ (meanI l = 100 ↔ ∀ x ∈ l, x = 100) := by
  have hp : 0 < l.length := List.length_pos_iff.2 hl
  have e : meanI l = l.sum / (l.length : Int) := by rw [meanI, if_neg hl, sumC_same h]
  have h1 := Int.mul_ediv_add_emod l.sum (l.length : Int)
  have h2 := Int.emod_nonneg l.sum (show (l.length : Int) ≠ 0 by omega)
  have h3 := Int.emod_lt_of_pos l.sum (show 0 < (l.length : Int) by omega)
  obtain ⟨h4, h5⟩ := sum_full (l := l) (fun x hx => (h x hx).2)
  rw [← e] at h1
  rw [Int.mul_comm] at h1
  refine ⟨by omega, by omega, ?_⟩
  rw [← h5]
  constructor
  · intro hm
    rw [hm] at h1
    omega
  · intro hs
    rw [e, hs, Int.mul_ediv_cancel _ (by omega)]
theorem mk_fit {n : Nd} (h0 : 0 ≤ n.s) (hc : S.chk n.s n.p n.d = 0) (K : List (Nd × Sm)) (hK : ∀ q ∈ K, Fit q.1 q.2 ∧ q.1.s ≠ 4) : Fit n (mkS n (K.map (·.2))) := by
  have hs : n.s ≤ 4 := by unfold S.chk at hc; split at hc <;> omega
  have hv : 0 ≤ S.valT n.s n.p n.d ∧ S.valT n.s n.p n.d ≤ 100 ∧ (n.s = 3 → S.valT n.s n.p n.d = 100) ∧ (n.s ≤ 1 → S.valT n.s n.p n.d ≠ 100) := by
    unfold S.valT
    rw [if_neg (by omega)]
    unfold S.chk S.loS S.hiS at hc
    grind
  by_cases hk : K = []
  · subst hk
    simp only [mkS, List.map_nil, if_true]
    refine ⟨hv.1, hv.2.1, ?_, ?_, ?_, ?_, ?_⟩ <;> simp only <;> (try split) <;> grind
  · have hk' : K.map (·.2) ≠ [] := by simpa using hk
    have hps : ∀ x ∈ (K.map (·.2)).map (·.p), 0 ≤ x ∧ x ≤ 100 := by
      intro x hx
      simp only [List.map_map, List.mem_map, Function.comp] at hx
      obtain ⟨q, hq, rfl⟩ := hx
      exact ⟨(hK q hq).1.lo, (hK q hq).1.hi⟩
    have hm := mean_range ((K.map (·.2)).map (·.p))
    obtain ⟨_, _, hf⟩ := mean_floor hps (by simpa using hk)
    have hj3 : joinS (K.map (·.2)) = 3 → meanI ((K.map (·.2)).map (·.p)) = 100 := by
      intro hj
      refine hf.2 (fun x hx => ?_)
      simp only [List.map_map, List.mem_map, Function.comp] at hx
      obtain ⟨q, hq, rfl⟩ := hx
      refine (hK q hq).1.done ?_
      unfold joinS at hj
      split at hj
      · next h => simpa using List.all_eq_true.1 h q.2 (List.mem_map_of_mem hq)
      · split at hj <;> omega
    have hj1 : joinS (K.map (·.2)) = 1 → meanI ((K.map (·.2)).map (·.p)) ≠ 100 := by
      intro hj he
      obtain ⟨q, hq⟩ := List.exists_mem_of_ne_nil _ hk
      have h1 := hf.1 he q.2.p (List.mem_map_of_mem (List.mem_map_of_mem hq))
      refine (hK q hq).1.needs ?_ h1
      unfold joinS at hj
      split at hj
      · omega
      · split at hj
        · next h => simpa using List.all_eq_true.1 h q.2 (List.mem_map_of_mem hq)
        · omega
    have hjr : joinS (K.map (·.2)) = 1 ∨ joinS (K.map (·.2)) = 2 ∨ joinS (K.map (·.2)) = 3 := by unfold joinS; grind
    simp only [mkS, if_neg hk']
    refine ⟨hm.1, hm.2, ?_, ?_, ?_, ?_, ?_⟩ <;> simp only <;> (try split) <;> grind
theorem fit_sum {l : List Nd} (hw : ∀ n ∈ l, 0 ≤ n.s) (hc : ∀ n ∈ l, S.chk n.s n.p n.d = 0) : ∀ f, ∀ n ∈ l, Fit n (sumN l f n)
  | 0, n, hn => mk_fit (hw n hn) (hc n hn) [] (by simp)
  | f + 1, n, hn => by
    have := mk_fit (hw n hn) (hc n hn) ((kidsN l n.uid).map fun k => (k, sumN l f k)) (by
      intro q hq
      obtain ⟨k, hk, rfl⟩ := List.mem_map.1 hq
      obtain ⟨h1, h2⟩ := List.mem_filter.1 hk
      refine ⟨fit_sum hw hc f k h1, ?_⟩
      unfold kid at h2; simp at h2; exact h2.2)
    rw [List.map_map] at this
    exact this
end Go.Vs.Ytjfleklkloohgaa.R
