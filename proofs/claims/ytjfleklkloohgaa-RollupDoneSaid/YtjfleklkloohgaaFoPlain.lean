/- Forests of names, in plain Lean: who is above whom, and under whom. No conditions. -/
import Derived.KernelRfl
namespace Go.Vs.Fo
set_option linter.unusedSimpArgs false
set_option linter.unusedVariables false

abbrev Str := List UInt8
abbrev Prs := List (Str × Str)
def up : Prs → Str → Option Str
  | [], _ => none
  | p :: r, n => if p.1 = n then some p.2 else up r n
def kids : Prs → Str → List Str
  | [], _ => []
  | p :: r, n => if p.2 = n then p.1 :: kids r n else kids r n
def chain (l : Prs) : Nat → Str → List Str
  | 0, _ => []
  | f + 1, n => match up l n with
    | none => []
    | some u => u :: chain l f u
def dupB (l : Prs) : Bool := (List.range l.length).any fun i => (up (l.take i) ((l.getD i ([], [])).1)).isSome
def cycB (l : Prs) : Bool := l.any fun p => decide (l.length < (chain l (l.length + 1) p.1).length)
def chkF (l : Prs) : Int := if dupB l then 19 else if cycB l then 14 else 0
def path (l : Prs) (n : Str) : List Str := if chkF l = 0 then chain l (l.length + 1) n else []
/-- Those under a name, to a depth. -/
def sub (l : Prs) : Nat → Str → List Str
  | 0, _ => []
  | d + 1, n => (kids l n).flatMap fun k => k :: sub l d k
def under (l : Prs) (n : Str) : List Str := if chkF l = 0 then sub l l.length n else []

theorem up_none {l : Prs} {n : Str} : up l n = none ↔ n ∉ l.map (·.1) := by
  induction l with
  | nil => simp [up]
  | cons p r ih =>
    simp only [up, List.map_cons, List.mem_cons, not_or]
    split
    · next h => subst h; simp
    · next h => rw [ih]; exact ⟨fun h1 => ⟨fun e => h e.symm, h1⟩, fun h1 => h1.2⟩
theorem up_mem {l : Prs} {n u : Str} (h : up l n = some u) : (n, u) ∈ l := by
  induction l with
  | nil => simp [up] at h
  | cons p r ih =>
    simp only [up] at h
    split at h
    · next e => simp only [Option.some.injEq] at h; subst h; subst e; exact List.mem_cons_self
    · exact List.mem_cons_of_mem _ (ih h)
theorem up_some {l : Prs} (hn : (l.map (·.1)).Nodup) {n u : Str} (h : (n, u) ∈ l) : up l n = some u := by
  induction l with
  | nil => simp at h
  | cons p r ih =>
    simp only [List.map_cons, List.nodup_cons] at hn
    simp only [up]
    rcases List.mem_cons.1 h with e | h
    · rw [← e]; simp
    · rw [if_neg]
      · exact ih hn.2 h
      · intro e
        exact hn.1 (List.mem_map.2 ⟨_, h, e.symm⟩)
theorem take_snoc {l : Prs} {i : Nat} (h : i < l.length) : l.take (i + 1) = l.take i ++ [l[i]] := by rw [List.take_succ_eq_append_getElem h]
theorem dup_iff {l : Prs} : dupB l = false ↔ (l.map (·.1)).Nodup := by
  have gen : ∀ i, i ≤ l.length → ((∀ j, j < i → up (l.take j) ((l.getD j ([], [])).1) = none) ↔ ((l.take i).map (·.1)).Nodup) := by
    intro i
    induction i with
    | zero => intro _; simp
    | succ i ih =>
      intro hi
      have hlt : i < l.length := by omega
      rw [take_snoc hlt, List.map_append, List.nodup_append]
      have e : l.getD i ([], []) = l[i] := by simp [List.getD, List.getElem?_eq_getElem hlt]
      constructor
      · intro h
        refine ⟨(ih (by omega)).1 (fun j hj => h j (by omega)), by simp, ?_⟩
        intro a ha b hb
        have h1 := h i (by omega)
        rw [e, up_none] at h1
        simp only [List.map_cons, List.map_nil, List.mem_singleton] at hb
        subst hb
        rintro rfl
        exact h1 ha
      · rintro ⟨h1, _, h2⟩ j hj
        rcases Nat.lt_or_ge j i with hh | hh
        · exact (ih (by omega)).2 h1 j hh
        · obtain rfl : j = i := by omega
          rw [e, up_none]
          intro hm
          exact h2 _ hm _ (by simp) rfl
  have h := gen l.length (Nat.le_refl _)
  rw [List.take_length] at h
  rw [← h]
  unfold dupB
  rw [List.any_eq_false]
  constructor
  · intro h1 j hj
    have := h1 j (List.mem_range.2 hj)
    simpa using this
  · intro h1 j hj
    have := h1 j (List.mem_range.1 hj)
    rw [this]; simp

theorem flatMap_ext {f g : Str → List Str} : ∀ {ks : List Str}, (∀ k ∈ ks, f k = g k) → ks.flatMap f = ks.flatMap g
  | [], _ => rfl
  | k :: ks, h => by rw [List.flatMap_cons, List.flatMap_cons, h k (by simp), flatMap_ext fun j hj => h j (by simp [hj])]
theorem mem_kids {l : Prs} {a k : Str} : k ∈ kids l a ↔ (k, a) ∈ l := by
  induction l with
  | nil => simp [kids]
  | cons p r ih =>
    obtain ⟨c, q⟩ := p
    simp only [kids]
    split
    · next h => subst h; simp [ih]
    · next h => simp only [ih, List.mem_cons, Prod.mk.injEq]; exact ⟨.inr, fun h1 => h1.elim (fun e => absurd e.2.symm h) id⟩
theorem chain_le (l : Prs) : ∀ (f : Nat) (n : Str), (chain l f n).length ≤ f
  | 0, _ => by simp [chain]
  | f + 1, n => by
    simp only [chain]
    split
    · simp
    · next u _ => have := chain_le l f u; simp; omega
/-- One step more adds nothing where the end was come to. -/
theorem chain_more (l : Prs) : ∀ (f : Nat) (n : Str), (chain l f n).length < f → ∀ g, f ≤ g → chain l g n = chain l f n
  | 0, _, h => by simp [chain] at h
  | f + 1, n, h => by
    intro g hg
    obtain ⟨g', rfl⟩ : ∃ g', g = g' + 1 := ⟨g - 1, by omega⟩
    simp only [chain] at h ⊢
    split
    · rfl
    · next u hu =>
      rw [hu] at h
      simp only [List.length_cons] at h
      rw [chain_more l f u (by omega) g' (by omega)]

/-- A forest: no child stands twice, nobody climbs for ever. -/
structure Forest (l : Prs) : Prop where
  nd : (l.map (·.1)).Nodup
  low : ∀ n, (chain l (l.length + 1) n).length ≤ l.length

theorem forest_iff {l : Prs} : chkF l = 0 ↔ Forest l := by
  unfold chkF
  constructor
  · intro h
    split at h
    · simp at h
    · next h1 =>
      split at h
      · simp at h
      · next h2 =>
        have hn := dup_iff.1 (by simpa using h1)
        refine ⟨hn, fun n => ?_⟩
        cases hu : up l n with
        | none => simp [chain, hu]
        | some u =>
          unfold cycB at h2
          simp only [Bool.not_eq_true, List.any_eq_false, decide_eq_true_eq, Nat.not_lt] at h2
          exact h2 _ (up_mem hu)
  · intro h
    have h1 := dup_iff.2 h.nd
    have h2 : cycB l = false := by
      unfold cycB
      simp only [List.any_eq_false, decide_eq_true_eq, Nat.not_lt]
      exact fun p _ => h.low p.1
    simp [h1, h2]
instance (l : Prs) : Decidable (Forest l) := decidable_of_iff _ forest_iff

namespace Forest
variable {l : Prs} (h : Forest l)
include h
def climb (l : Prs) (n : Str) : List Str := chain l (l.length + 1) n
theorem more (n : Str) {g : Nat} (hg : l.length + 1 ≤ g) : chain l g n = climb l n := chain_more l _ n (by have := h.low n; omega) g hg
omit h in
theorem root {n : Str} (hu : up l n = none) : climb l n = [] := by simp [climb, chain, hu]
theorem step {n u : Str} (hu : up l n = some u) : climb l n = u :: climb l u := by
  rw [← h.more n (g := l.length + 2) (by omega)]
  simp only [chain, hu]
  rfl
theorem rank {n u : Str} (hu : up l n = some u) : (climb l n).length = (climb l u).length + 1 := by rw [h.step hu]; simp
/-- Who is above is lower in rank. -/
theorem above_lt : ∀ {n a : Str}, a ∈ climb l n → (climb l a).length < (climb l n).length := by
  have gen : ∀ (k : Nat) (n a : Str), (climb l n).length = k → a ∈ climb l n → (climb l a).length < k := by
    intro k
    induction k with
    | zero => intro n a hk ha; rw [List.length_eq_zero_iff] at hk; rw [hk] at ha; simp at ha
    | succ k ih =>
      intro n a hk ha
      cases hu : up l n with
      | none => rw [root hu] at hk; simp at hk
      | some u =>
        rw [h.step hu] at hk ha
        simp only [List.length_cons] at hk
        rcases List.mem_cons.1 ha with rfl | ha
        · omega
        · have := ih u a (by omega) ha; omega
  intro n a ha
  exact gen _ n a rfl ha
theorem nodup (n : Str) : (climb l n).Nodup := by
  have gen : ∀ (k : Nat) (n : Str), (climb l n).length = k → (climb l n).Nodup := by
    intro k
    induction k with
    | zero => intro n hk; rw [List.length_eq_zero_iff] at hk; rw [hk]; simp
    | succ k ih =>
      intro n hk
      cases hu : up l n with
      | none => rw [root hu]; simp
      | some u =>
        rw [h.step hu] at hk ⊢
        simp only [List.length_cons] at hk
        rw [List.nodup_cons]
        refine ⟨fun hm => ?_, ih u (by omega)⟩
        have := h.above_lt hm
        omega
  exact gen _ n rfl
theorem not_self (n : Str) : n ∉ climb l n := fun hm => Nat.lt_irrefl _ (h.above_lt hm)

/-- Those under a name, to a depth that is enough. -/
theorem sub_more : ∀ (d : Nat) (k : Str), l.length ≤ d + (climb l k).length → sub l (d + 1) k = sub l d k
  | 0, k, hd => by
    have hk : kids l k = [] := by
      apply List.eq_nil_iff_forall_not_mem.2
      intro j hj
      have hu := up_some h.nd (mem_kids.1 hj)
      have h1 := h.rank hu
      have h2 := h.low j
      have h3 : (climb l j).length ≤ l.length := h2
      omega
    simp [sub, hk]
  | d + 1, k, hd => by
    rw [sub, sub]
    have : ∀ j ∈ kids l k, (fun k => k :: sub l (d + 1) k) j = (fun k => k :: sub l d k) j := by
      intro j hj
      have hu := up_some h.nd (mem_kids.1 hj)
      have h1 := h.rank hu
      simp only
      rw [sub_more d j (by omega)]
    exact flatMap_ext this
theorem sub_kids (k : Str) : sub l l.length k = (kids l k).flatMap fun j => j :: sub l l.length j := by
  cases hl : l.length with
  | zero =>
    have : l = [] := List.length_eq_zero_iff.1 hl
    subst this
    rfl
  | succ d =>
    rw [sub]
    apply flatMap_ext
    intro j hj
    have hu := up_some h.nd (mem_kids.1 hj)
    have h1 := h.rank hu
    rw [h.sub_more d j (by omega)]
end Forest

/- How often. -/
theorem count_kids {l : Prs} (hn : (l.map (·.1)).Nodup) (j a : Str) : (kids l a).count j = if up l j = some a then 1 else 0 := by
  induction l with
  | nil => simp [kids, up]
  | cons p r ih =>
    obtain ⟨c, q⟩ := p
    simp only [List.map_cons, List.nodup_cons] at hn
    have hk : c ∉ kids r a := fun hm => hn.1 (List.mem_map.2 ⟨_, mem_kids.1 hm, rfl⟩)
    simp only [kids, up]
    by_cases hcj : c = j
    · subst hcj
      simp only [if_true, Option.some.injEq]
      split
      · rw [List.count_cons_self, List.count_eq_zero.2 hk]
      · rw [List.count_eq_zero.2 hk]
    · rw [if_neg hcj, ← ih hn.2]
      split
      · rw [List.count_cons_of_ne (by simpa using hcj)]
      · rfl
theorem chain_succ (l : Prs) : ∀ (d : Nat) (b : Str), chain l (d + 1) b = (b :: chain l d b).filterMap (up l)
  | 0, b => by
    simp only [chain, List.filterMap_cons, List.filterMap_nil]
    cases up l b <;> rfl
  | d + 1, b => by
    rw [chain]
    cases hu : up l b with
    | none => simp [chain, hu]
    | some u =>
      simp only [List.filterMap_cons, hu]
      rw [chain_succ l d u]
      simp [chain, hu]
theorem count_flatMap (b : Str) (f : Str → List Str) : ∀ (ks : List Str), (ks.flatMap f).count b = (ks.map fun k => (f k).count b).sum
  | [] => by simp
  | k :: ks => by simp [List.flatMap_cons, List.count_append, count_flatMap b f ks]
theorem sum_add (f g : Str → Nat) : ∀ (ks : List Str), (ks.map fun k => f k + g k).sum = (ks.map f).sum + (ks.map g).sum
  | [] => rfl
  | k :: ks => by simp [sum_add f g ks]; omega
theorem sum_count (ks : List Str) : ∀ (xs : List Str), (ks.map fun k => xs.count k).sum = (xs.map fun x => ks.count x).sum
  | [] => by
    induction ks with
    | nil => rfl
    | cons k ks ih => exact (Nat.zero_add _).trans ih
  | x :: xs => by
    have : (ks.map fun k => (x :: xs).count k) = ks.map fun k => (xs.count k + if x == k then 1 else 0) := by
      apply List.map_congr_left
      intro k _
      rw [List.count_cons]
    rw [this, sum_add, sum_count ks xs]
    have : (ks.map fun k => if x == k then 1 else 0).sum = ks.count x := by
      clear this
      induction ks with
      | nil => rfl
      | cons k ks ih =>
        rw [List.map_cons, List.sum_cons, ih, List.count_cons]
        by_cases e : x = k
        · subst e; simp; omega
        · have : (k == x) = false := by simpa using fun h => e h.symm
          have : (x == k) = false := by simpa using e
          simp [*]
    simp only [List.map_cons, List.sum_cons]
    omega
theorem count_sub {l : Prs} (hn : (l.map (·.1)).Nodup) (b : Str) : ∀ (d : Nat) (a : Str), (sub l d a).count b = (chain l d b).count a
  | 0, a => by simp [sub, chain]
  | d + 1, a => by
    rw [sub, count_flatMap]
    have e1 : ((kids l a).map fun k => (k :: sub l d k).count b) = (kids l a).map fun k => ((chain l d b).count k + if k == b then 1 else 0) := by
      apply List.map_congr_left
      intro k _
      rw [List.count_cons, count_sub hn b d k]
    rw [e1, sum_add, sum_count]
    have e2 : ((kids l a).map fun k => if k == b then 1 else 0).sum = (kids l a).count b := by
      generalize kids l a = ks
      induction ks with
      | nil => rfl
      | cons k ks ih => rw [List.map_cons, List.sum_cons, ih, List.count_cons]; omega
    rw [e2, chain_succ]
    have e3 : ∀ xs : List Str, (xs.map fun x => (kids l a).count x).sum = (xs.filterMap (up l)).count a := by
      intro xs
      induction xs with
      | nil => rfl
      | cons x xs ih =>
        rw [List.map_cons, List.sum_cons, ih, List.filterMap_cons, count_kids hn]
        cases hu : up l x with
        | none => simp
        | some u =>
          simp only [Option.some.injEq, List.count_cons]
          by_cases e : u = a
          · subst e; simp; omega
          · have : (u == a) = false := by simpa using e
            simp [e]
    rw [e3]
    have e4 : (kids l a).count b = ([b].filterMap (up l)).count a := by
      rw [← e3]; simp
    rw [e4, ← List.count_append, ← List.filterMap_append]
    exact (List.Perm.filterMap _ (List.perm_append_comm)).count_eq a
theorem count_under {l : Prs} (h : Forest l) (a b : Str) : (sub l l.length a).count b = (Forest.climb l b).count a := by
  have h1 := count_sub h.nd b (l.length + 1) a
  rw [h.sub_more l.length a (by omega)] at h1
  exact h1
end Go.Vs.Fo
