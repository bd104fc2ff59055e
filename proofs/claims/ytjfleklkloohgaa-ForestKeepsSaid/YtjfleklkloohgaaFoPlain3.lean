/- Forests of names, in plain Lean, part 3: what sets and cuts leave. No conditions. -/
import Derived.Test.YtjfleklkloohgaaFoPlain2
namespace Go.Vs.Fo
set_option linter.unusedSimpArgs false
set_option linter.unusedVariables false

theorem chain_rank {l : Prs} {r : Str → Nat} (h : ∀ n u, up l n = some u → r u < r n) : ∀ (f : Nat) (n x : Str), x ∈ chain l f n → r x < r n
  | 0, _, _, hx => by simp [chain] at hx
  | f + 1, n, x, hx => by
    simp only [chain] at hx
    split at hx
    · simp at hx
    · next u hu =>
      have h1 := h n u hu
      rcases List.mem_cons.1 hx with rfl | hx
      · exact h1
      · exact Nat.lt_trans (chain_rank h f u x hx) h1
theorem chain_nodes {l : Prs} {r : Str → Nat} (h : ∀ n u, up l n = some u → r u < r n) : ∀ (f : Nat) (n : Str), ∃ ys : List Str, ys.length = (chain l f n).length ∧ ys ⊆ l.map (·.1) ∧ ys.Nodup ∧ ∀ y ∈ ys, r y ≤ r n
  | 0, n => ⟨[], by simp [chain], by simp, by simp, by simp⟩
  | f + 1, n => by
    simp only [chain]
    split
    · exact ⟨[], by simp, by simp, by simp, by simp⟩
    · next u hu =>
      obtain ⟨ys, h1, h2, h3, h4⟩ := chain_nodes h f u
      have hr := h n u hu
      refine ⟨n :: ys, by simp [h1], ?_, ?_, ?_⟩
      · intro y hy
        rcases List.mem_cons.1 hy with rfl | hy
        · exact List.mem_map.2 ⟨_, up_mem hu, rfl⟩
        · exact h2 hy
      · rw [List.nodup_cons]
        exact ⟨fun hn => by have := h4 n hn; omega, h3⟩
      · intro y hy
        rcases List.mem_cons.1 hy with rfl | hy
        · exact Nat.le_refl _
        · have := h4 y hy; omega
theorem forest_of_rank {l : Prs} (nd : (l.map (·.1)).Nodup) (r : Str → Nat) (h : ∀ n u, up l n = some u → r u < r n) : Forest l := by
  refine ⟨nd, fun n => ?_⟩
  obtain ⟨ys, h1, h2, h3, _⟩ := chain_nodes h (l.length + 1) n
  have := List.Nodup.length_le_of_subset h3 h2
  rw [List.length_map] at this
  omega
theorem keep_cut {g : Prs} (hF : Forest g) (a : Str) : Forest (g.filter fun q => decide (q.1 ≠ a)) := by
  refine forest_of_rank (List.Nodup.sublist (List.Sublist.map _ (List.filter_sublist)) hF.nd) (fun n => (Forest.climb g n).length) (fun n u hu => ?_)
  have h1 := (List.mem_filter.1 (up_mem hu)).1
  have := hF.rank (up_some hF.nd h1)
  omega
theorem cut_up {g : Prs} (a : Str) : up (g.filter fun q => decide (q.1 ≠ a)) a = none := by
  rw [up_none]
  intro h
  obtain ⟨q, h1, h2⟩ := List.mem_map.1 h
  have := (List.mem_filter.1 h1).2
  simp at this
  exact this h2
theorem keep_set {g : Prs} (hF : Forest g) {a b : Str} (h0 : up g a = none) (h1 : a ≠ b) (h2 : a ∉ Forest.climb g b) : Forest (g ++ [(a, b)]) := by
  have hnd : ((g ++ [(a, b)]).map (·.1)).Nodup := by
    rw [List.map_append, List.nodup_append]
    refine ⟨hF.nd, by simp, ?_⟩
    intro x hx y hy
    simp only [List.map_cons, List.map_nil, List.mem_singleton] at hy
    subst hy
    rintro rfl
    exact up_none.1 h0 hx
  refine forest_of_rank hnd (fun n => (Forest.climb g n).length + if n = a ∨ a ∈ Forest.climb g n then (Forest.climb g b).length + 1 else 0) (fun n u hu => ?_)
  rcases List.mem_append.1 (up_mem hu) with hm | hm
  · have hu' := up_some hF.nd hm
    have hr := hF.rank hu'
    have hs := hF.step hu'
    by_cases hD : u = a ∨ a ∈ Forest.climb g u
    · have hD' : n = a ∨ a ∈ Forest.climb g n := by
        refine .inr ?_
        rw [hs]
        rcases hD with rfl | hD
        · exact List.mem_cons_self
        · exact List.mem_cons_of_mem _ hD
      rw [if_pos hD, if_pos hD']
      omega
    · rw [if_neg hD]
      omega
  · simp only [List.mem_singleton, Prod.mk.injEq] at hm
    obtain ⟨rfl, rfl⟩ := hm
    rw [if_neg (fun h => h.elim (fun e => h1 e.symm) h2), if_pos (.inl rfl)]
    omega
theorem count_take {xs : List Str} {i : Nat} (hi : i < xs.length) (a : Str) : (xs.take (i + 1)).count a = (xs.take i).count a + if xs[i] = a then 1 else 0 := by
  rw [List.take_succ_eq_append_getElem hi, List.count_append]
  congr 1
  by_cases h : xs[i] = a
  · rw [if_pos h, h]; simp
  · rw [if_neg h, List.count_eq_zero]; simpa using fun e => h e.symm
end Go.Vs.Fo
