/- The walk of the forest's functions, part 3. No conditions. -/
import Derived.Test.YtjfleklkloohgaaFoPf2
import Derived.Test.YtjfleklkloohgaaFoPlain2
namespace Go.Vs.Ytjfleklkloohgaa
set_option linter.unusedSimpArgs false
set_option linter.unusedVariables false
open Go.Proofs Go.Vs.Fo
set_option maxRecDepth 100000
set_option maxHeartbeats 4000000
def climbT (l : Prs) (n : Str) : IV := if (chain l (l.length + 1) n).length ≤ l.length then .tuple [.slice (ts (chain l (l.length + 1) n)), .bool true] else .tuple [.slice [], .bool false]
@[simp] theorem ts_single (u : Str) : ts [u] = [[.str u]] := rfl
theorem chain_cons {l : Prs} {f : Nat} {n u : Str} (h : up l n = some u) : chain l (f + 1) n = u :: chain l f u := by rw [chain, h]
theorem chain_end {l : Prs} {f : Nat} {n : Str} (h : up l n = none) : chain l f n = [] := by cases f <;> simp [chain, h]
theorem fn_climb (l : Prs) (n : Str) (hl : l.length < 1000000) : Fn [] Try.prog k_forest_climb [.slice (ps l), .str n] (climbT l n) := by
  refine fn_intro hm ok_forest_climb (by simp) ?_
  simp [c_forest_climb, r_forest_climb]
  refine scopeW hm 0 (fun x : Nat × List Str × Str => ⟨[(6, .own 26 x.1), (1, .val (.str x.2.2)), (0, .val (.slice (ps l)))], [(26, .arr x.1 1 (ts x.2.1))], [], 28, []⟩)
    (fun x => x.2.1.length = x.1 + 1 ∧ x.1 + 1 ≤ l.length ∧ chain l (l.length + 1) n = x.2.1 ++ chain l (l.length - x.1) x.2.2) (fun x => l.length - x.1) rfl (fun _ => rfl) ?_ ?_
  · simp
    refine callW_imm (fn_Up l n hl) ?_
    cases hu : up l n with
    | none => simp [upT, climbT, chain_end hu]
    | some u =>
      have hne : 0 < l.length := by cases l with | nil => simp [up] at hu | cons => simp
      have : ¬ (0 : Int) = l.length := by omega
      simp [upT, this]
      exact jumpIn (0, [u], u) ⟨rfl, by omega, by rw [chain_cons hu]; rfl⟩ (by exact weak_drop rfl rfl (by simp [EnvLe, getE, look]) (by simp [ObLe, look]) (by simp [roOk]))
  · rintro ⟨v, out, m⟩ ⟨h1, h2, h3⟩
    simp only at h1 h2 h3
    simp
    refine callW_imm (fn_Up l m hl) ?_
    cases hu : up l m with
    | none =>
      rw [chain_end hu, List.append_nil] at h3
      simp [upT, climbT, h3, h1]
      omega
    | some u =>
      rw [show l.length - v = (l.length - v - 1) + 1 by omega, chain_cons hu] at h3
      simp [upT, h1]
      refine brd (fun h => ?_) (fun h => ?_)
      · simp [climbT, h3, h1]
        omega
      · simp
        refine ⟨by omega, ?_⟩
        refine jumpEnd (v + 1, out ++ [u], u) ⟨by simp [h1], by simp; omega, ?_⟩ (by simp; omega) ?_
        · simp [h3, show l.length - (v + 1) = l.length - v - 1 by omega]
        · simp only [ts_snoc]; exact weak_drop rfl rfl (by simp [EnvLe, getE, look]) (by simp [ObLe, look]) (by simp [roOk])
theorem fn_rclimb (l : Prs) (n : Str) (hl : l.length < 1000000) : Fn [] Try.prog k_ref32_climb [.slice (ps l), .str n] (.slice (ts (chain l (l.length + 1) n))) := by
  refine fn_intro hm ok_ref32_climb (by simp) ?_
  simp [c_ref32_climb, r_ref32_climb]
  refine loopW hm (fun x : Nat × List Str × Str => ⟨[(6, .val (.int .i64 x.1)), (5, .own 5 x.1), (1, .val (.str x.2.2)), (0, .val (.slice (ps l)))], [(5, .arr x.1 1 (ts x.2.1))], [], 30, []⟩)
    (fun x => x.2.1.length = x.1 ∧ x.1 ≤ l.length + 1 ∧ chain l (l.length + 1) n = x.2.1 ++ chain l (l.length + 1 - x.1) x.2.2) (fun x => l.length + 1 - x.1) (0, [], n) ⟨rfl, by omega, rfl⟩ (by exact Weak.trans (weak_adopt (k := 5) 5 1 (by simp) (by simp [getE, look])) (weak_drop rfl rfl (by simp [St.adopt, EnvLe, getE, look, put, eraseE, SV.erase]) (by simp [St.adopt, ObLe, look, put, eraseO, Ob.erase]) (by simp [St.adopt, roOk]))) (fun _ => rfl) ?_
  rintro ⟨v, out, m⟩ ⟨h1, h2, h3⟩
  simp only at h1 h2 h3
  simp
  refine brd (fun h => ?_) (fun h => ?_)
  · simp
    refine callW_imm (fn_rUp l m hl) ?_
    cases hu : up l m with
    | none =>
      rw [chain_end hu, List.append_nil] at h3
      simp [upT, h3]
    | some u =>
      rw [show l.length + 1 - v = (l.length - v) + 1 by omega, chain_cons hu] at h3
      have hw : IntKind.i64.wrap ((v : Int) + 1) = ((v + 1 : Nat) : Int) := by rw [IntKind.wrap_i64]; omega
      simp [upT, h1, hw]
      refine ⟨by omega, ?_⟩
      refine loopEnd (v + 1, out ++ [u], u) ⟨by simp [h1], by simp; omega, ?_⟩ (by simp; omega) ?_
      · simp [h3]
      · simp only [ts_snoc]; exact weak_drop rfl rfl (by simp [EnvLe, getE, look]) (by simp [ObLe, look]) (by simp [roOk])
  · obtain rfl : v = l.length + 1 := by omega
    have h3 : chain l (l.length + 1) n = out := by rw [h3]; simp [chain]
    rw [h3]
    simp
theorem dup_true {l : Prs} {i : Nat} (hi : i < l.length) (h : (up (l.take i) l[i].1).isSome = true) : dupB l = true := by
  unfold dupB
  rw [List.any_eq_true]
  exact ⟨i, by simpa using hi, by simpa [List.getD, List.getElem?_eq_getElem hi] using h⟩
theorem dup_false {l : Prs} (h : ∀ j (hj : j < l.length), up (l.take j) l[j].1 = none) : dupB l = false := by
  unfold dupB
  rw [List.any_eq_false]
  intro j hj
  have hj : j < l.length := by simpa using hj
  simp [List.getElem?_eq_getElem hj, h j hj]
theorem cyc_true {l : Prs} {i : Nat} (hi : i < l.length) (h : l.length < (chain l (l.length + 1) l[i].1).length) : cycB l = true := by
  unfold cycB
  rw [List.any_eq_true]
  exact ⟨l[i], List.getElem_mem hi, by simpa using h⟩
theorem cyc_false {l : Prs} (h : ∀ j (hj : j < l.length), (chain l (l.length + 1) l[j].1).length ≤ l.length) : cycB l = false := by
  unfold cycB
  rw [List.any_eq_false]
  intro p hp
  obtain ⟨j, hj, rfl⟩ := List.getElem_of_mem hp
  simpa using h j hj
theorem fn_Check (l : Prs) (hl : l.length < 1000000) : Fn [] Try.prog k_forest_Check [.slice (ps l)] (.int .i64 (chkF l)) := by
  refine fn_intro hm ok_forest_Check (by simp) ?_
  simp [c_forest_Check, r_forest_Check]
  refine loopW hm (fun i : Nat => ⟨[(13, .val (.int .i64 i)), (12, .val (.int .i64 l.length)), (11, .val (.slice (ps l))), (0, .val (.slice (ps l)))], [], [], 45, []⟩)
    (fun i => i ≤ l.length ∧ ∀ j (_ : j < i) (hj : j < l.length), up (l.take j) l[j].1 = none) (fun i => l.length - i) 0 ⟨by omega, fun j h => by omega⟩ (by exact weak_drop rfl rfl (by simp [EnvLe, getE, look]) (by simp [ObLe, look]) (by simp [roOk])) (fun _ => rfl) ?_
  rintro i ⟨h1, h2⟩
  simp
  refine brd (fun hi => ?_) (fun hi => ?_)
  · simp [ps_get hi, ps_take]
    refine ⟨⟨h1, fun r hr => ps_two r hr⟩, ?_⟩
    refine callW_imm (fn_Up (l.take i) l[i].1 (by simp; omega)) ?_
    cases hu : up (l.take i) l[i].1 with
    | some u =>
      simp [upT, chkF, dup_true hi (by rw [hu]; rfl)]
      try rfl
    | none =>
      simp [upT, wrap_succ hi hl]
      refine ⟨by rfl, ?_⟩
      refine loopEnd (i + 1) ⟨by omega, fun j hj hj' => ?_⟩ (by omega) (by exact weak_drop rfl rfl (by simp [EnvLe, getE, look]) (by simp [ObLe, look]) (by simp [roOk]))
      rcases Nat.lt_or_ge j i with hj'' | hj''
      · exact h2 j hj'' hj'
      · obtain rfl : j = i := by omega
        exact hu
  · obtain rfl : i = l.length := by omega
    have hd : dupB l = false := dup_false (fun j hj => h2 j hj hj)
    simp
    refine loopW hm (fun i : Nat => ⟨[(31, .val (.int .i64 i)), (30, .val (.int .i64 l.length)), (29, .val (.slice (ps l))), (0, .val (.slice (ps l)))], [], [], 45, []⟩)
      (fun i => i ≤ l.length ∧ ∀ j (_ : j < i) (hj : j < l.length), (chain l (l.length + 1) l[j].1).length ≤ l.length) (fun i => l.length - i) 0 ⟨by omega, fun j h => by omega⟩ (by exact weak_drop rfl rfl (by simp [EnvLe, getE, look]) (by simp [ObLe, look]) (by simp [roOk])) (fun _ => rfl) ?_
    rintro i ⟨h3, h4⟩
    simp
    refine brd (fun hi => ?_) (fun hi => ?_)
    · simp [ps_get hi]
      refine callW_imm (fn_climb l l[i].1 hl) ?_
      by_cases hc : (chain l (l.length + 1) l[i].1).length ≤ l.length
      · simp [climbT, hc, wrap_succ hi hl]
        refine loopEnd (i + 1) ⟨by omega, fun j hj hj' => ?_⟩ (by omega) (by exact weak_drop rfl rfl (by simp [EnvLe, getE, look]) (by simp [ObLe, look]) (by simp [roOk]))
        rcases Nat.lt_or_ge j i with hj'' | hj''
        · exact h4 j hj'' hj'
        · obtain rfl : j = i := by omega
          exact hc
      · simp [climbT, hc, chkF, hd, cyc_true hi (by omega)]
    · obtain rfl : i = l.length := by omega
      simp [chkF, hd, cyc_false (fun j hj => h4 j hj hj)]
theorem fn_rCheck (l : Prs) (hl : l.length < 1000000) : Fn [] Try.prog k_ref32_Check [.slice (ps l)] (.int .i64 (chkF l)) := by
  refine fn_intro hm ok_ref32_Check (by simp) ?_
  simp [c_ref32_Check, r_ref32_Check]
  refine loopW hm (fun i : Nat => ⟨[(3, .val (.int .i64 i)), (0, .val (.slice (ps l)))], [], [], 43, []⟩)
    (fun i => i ≤ l.length ∧ ∀ j (_ : j < i) (hj : j < l.length), up (l.take j) l[j].1 = none) (fun i => l.length - i) 0 ⟨by omega, fun j h => by omega⟩ (by exact weak_drop rfl rfl (by simp [EnvLe, getE, look]) (by simp [ObLe, look]) (by simp [roOk])) (fun _ => rfl) ?_
  rintro i ⟨h1, h2⟩
  simp
  refine brd (fun hi => ?_) (fun hi => ?_)
  · simp [ps_get hi, ps_take]
    refine ⟨⟨h1, fun r hr => ps_two r hr⟩, ?_⟩
    refine callW_imm (fn_rUp (l.take i) l[i].1 (by simp; omega)) ?_
    cases hu : up (l.take i) l[i].1 with
    | some u =>
      simp [upT, chkF, dup_true hi (by rw [hu]; rfl)]
      try rfl
    | none =>
      simp [upT, wrap_succ hi hl]
      refine ⟨by rfl, ?_⟩
      refine loopEnd (i + 1) ⟨by omega, fun j hj hj' => ?_⟩ (by omega) (by exact weak_drop rfl rfl (by simp [EnvLe, getE, look]) (by simp [ObLe, look]) (by simp [roOk]))
      rcases Nat.lt_or_ge j i with hj'' | hj''
      · exact h2 j hj'' hj'
      · obtain rfl : j = i := by omega
        exact hu
  · obtain rfl : i = l.length := by omega
    have hd : dupB l = false := dup_false (fun j hj => h2 j hj hj)
    simp
    refine loopW hm (fun i : Nat => ⟨[(6, .val (.int .i64 i)), (0, .val (.slice (ps l)))], [], [], 43, []⟩)
      (fun i => i ≤ l.length ∧ ∀ j (_ : j < i) (hj : j < l.length), (chain l (l.length + 1) l[j].1).length ≤ l.length) (fun i => l.length - i) 0 ⟨by omega, fun j h => by omega⟩ (by exact weak_drop rfl rfl (by simp [EnvLe, getE, look]) (by simp [ObLe, look]) (by simp [roOk])) (fun _ => rfl) ?_
    rintro i ⟨h3, h4⟩
    simp
    refine brd (fun hi => ?_) (fun hi => ?_)
    · simp [ps_get hi]
      refine callW_imm (fn_rclimb l l[i].1 hl) ?_
      simp
      refine brd (fun hc => ?_) (fun hc => ?_)
      · simp [chkF, hd, cyc_true hi (by omega)]
      · simp [wrap_succ hi hl]
        refine loopEnd (i + 1) ⟨by omega, fun j hj hj' => ?_⟩ (by omega) (by exact weak_drop rfl rfl (by simp [EnvLe, getE, look]) (by simp [ObLe, look]) (by simp [roOk]))
        rcases Nat.lt_or_ge j i with hj'' | hj''
        · exact h4 j hj'' hj'
        · obtain rfl : j = i := by omega
          omega
    · obtain rfl : i = l.length := by omega
      simp [chkF, hd, cyc_false (fun j hj => h4 j hj hj)]
end Go.Vs.Ytjfleklkloohgaa
