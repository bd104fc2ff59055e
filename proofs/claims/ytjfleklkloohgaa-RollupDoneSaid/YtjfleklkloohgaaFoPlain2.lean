/- Forests of names, in plain Lean, part 2: how many are under a name; the walk with a stack. No conditions. -/
import Derived.Test.YtjfleklkloohgaaFoPlain
namespace Go.Vs.Fo
set_option linter.unusedSimpArgs false
set_option linter.unusedVariables false

theorem chain_take (l : Prs) : ∀ (d g : Nat) (n : Str), d ≤ g → chain l d n = (chain l g n).take d
  | 0, _, _, _ => by simp [chain]
  | d + 1, g, n, h => by
    obtain ⟨g', rfl⟩ : ∃ g', g = g' + 1 := ⟨g - 1, by omega⟩
    simp only [chain]
    split
    · simp
    · next u hu => rw [List.take_succ_cons, chain_take l d g' u (by omega)]
theorem sub_mem {l : Prs} : ∀ (d : Nat) (a x : Str), x ∈ sub l d a → x ∈ l.map (·.1)
  | 0, _, _, h => by simp [sub] at h
  | d + 1, a, x, h => by
    rw [sub, List.mem_flatMap] at h
    obtain ⟨k, hk, hx⟩ := h
    rcases List.mem_cons.1 hx with rfl | hx
    · exact List.mem_map.2 ⟨_, mem_kids.1 hk, rfl⟩
    · exact sub_mem d k x hx
namespace Forest
variable {l : Prs} (h : Forest l)
include h
theorem sub_nodup (d : Nat) (a : Str) : (sub l d a).Nodup := by
  rw [List.nodup_iff_count]
  intro b
  rw [count_sub h.nd, chain_take l d (l.length + 1 + d) b (by omega), h.more b (by omega)]
  exact List.nodup_iff_count.1 (List.Nodup.sublist (List.take_sublist _ _) (h.nodup b)) a
theorem sub_len (d : Nat) (a : Str) : (sub l d a).length ≤ l.length := by
  have := List.Nodup.length_le_of_subset (h.sub_nodup d a) (fun x hx => sub_mem d a x hx)
  simpa using this
/-- What a stack holds, and all under it. -/
def todoAll (l : Prs) (todo : List Str) : List Str := todo.flatMap fun k => k :: sub l l.length k
theorem todo_kids (n : Str) : todoAll l (kids l n) = sub l l.length n := (h.sub_kids n).symm
theorem todo_step (x : Str) (r : List Str) : todoAll l (x :: r) = x :: todoAll l (kids l x ++ r) := by
  unfold todoAll
  rw [List.flatMap_cons, List.flatMap_append, ← h.sub_kids x]
  rfl
end Forest
theorem flatMap_take {l : Prs} {d : Nat} {ks : List Str} {i : Nat} (hi : i < ks.length) : (ks.take (i + 1)).flatMap (fun k => k :: sub l d k) = (ks.take i).flatMap (fun k => k :: sub l d k) ++ ks[i] :: sub l d ks[i] := by
  rw [List.take_succ_eq_append_getElem hi, List.flatMap_append]; simp
end Go.Vs.Fo
