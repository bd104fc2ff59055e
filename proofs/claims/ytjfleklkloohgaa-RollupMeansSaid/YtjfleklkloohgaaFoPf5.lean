/- The walk of the forest's functions, part 5. No conditions. -/
import Derived.Test.YtjfleklkloohgaaFoPf4
namespace Go.Vs.Ytjfleklkloohgaa
set_option linter.unusedSimpArgs false
set_option linter.unusedVariables false
open Go.Proofs Go.Vs.Fo
set_option maxRecDepth 100000
set_option maxHeartbeats 4000000
theorem ts_cons (x : Str) (r : List Str) : ts (x :: r) = [.str x] :: ts r := rfl
theorem fn_rUnder (l : Prs) (n : Str) (hl : l.length < 1000000) : Fn [] Try.prog k_ref32_Under [.slice (ps l), .str n] (.slice (ts (under l n))) := by
  refine fn_intro hm ok_ref32_Under (by simp) ?_
  simp [c_ref32_Under, r_ref32_Under]
  refine callW_imm (fn_rCheck l hl) ?_
  simp
  refine brd (fun h => ?_) (fun h => ?_)
  · simp
    refine callW_imm (fn_runder l (forest_iff.1 h) hl l.length n (Nat.le_refl _)) ?_
    simp [under, h]
  · simp [chk_ne h]
theorem fn_Under (l : Prs) (n : Str) (hl : l.length < 1000000) : Fn [] Try.prog k_forest_Under [.slice (ps l), .str n] (.slice (ts (under l n))) := by
  refine fn_intro hm ok_forest_Under (by simp) ?_
  simp [c_forest_Under, r_forest_Under]
  refine callW_imm (fn_Check l hl) ?_
  simp
  refine brd (fun h => ?_) (fun h => ?_)
  case refine_2 => simp [chk_ne h]
  have hF := forest_iff.1 h
  simp
  refine callW_own (fn_Kids l n hl) ?_
  simp
  have htot := hF.sub_len l.length n
  refine loopW hm (fun x : List Str × List Str => ⟨[(6, .val (.slice (ts x.2))), (5, .own 5 x.1.length), (0, .val (.slice (ps l)))], [(5, .arr x.1.length 1 (ts x.1))], [], 31, []⟩)
    (fun x => sub l l.length n = x.1 ++ Forest.todoAll l x.2) (fun x => l.length - x.1.length) ([], kids l n) (by simp [hF.todo_kids]) ?_ (fun _ => rfl) ?_
  · refine Weak.trans (weak_freeze (k := 6) (id := 13) (ver := 0) (s := 1) (rows := ts (kids l n)) (by simp [getE, look]) (by simp [look])) ?_
    refine Weak.trans (weak_adopt (k := 5) 5 1 (by simp) (by simp [getE, look, put])) ?_
    exact weak_drop rfl rfl (by simp [St.adopt, EnvLe, getE, look, put, eraseE, SV.erase]) (by simp [St.adopt, ObLe, look, put, eraseO, Ob.erase]) (by simp [St.adopt, roOk])
  rintro ⟨out, todo⟩ hinv
  simp only at hinv
  simp
  cases todo with
  | nil =>
    simp [Forest.todoAll] at hinv
    simp [under, h, hinv]
  | cons x r =>
    rw [hF.todo_step] at hinv
    have hlen : out.length + (1 + (kids l x ++ r).length) ≤ l.length := by
      rw [hinv] at htot
      simp only [List.length_append, List.length_cons] at htot
      have : (kids l x ++ r).length ≤ (Forest.todoAll l (kids l x ++ r)).length := by
        generalize kids l x ++ r = ks
        induction ks with
        | nil => simp
        | cons k ks ih => simp only [Forest.todoAll, List.flatMap_cons, List.length_append, List.length_cons] at ih ⊢; omega
      omega
    simp only [List.length_append] at hlen
    simp [ts_cons]
    refine ⟨by omega, ?_⟩
    refine callW_own (fn_Kids l x hl) ?_
    simp
    have htk : List.take r.length (ts r) = ts r := List.take_of_length_le (by simp)
    have hcat : ts (kids l x) ++ ts r = ts (kids l x ++ r) := by simp [ts]
    rw [htk, hcat]
    refine ⟨⟨by omega, fun q hq => ts_one q hq⟩, ⟨by omega, fun q hq => ts_one q hq⟩, rfl, ?_⟩
    refine loopEnd (out ++ [x], kids l x ++ r) (by simp [hinv]) (by simp; omega) ?_
    refine Weak.trans (weak_freeze (k := 6) (id := 26) (ver := 1) (s := 1) (rows := ts (kids l x ++ r)) (by simp [getE, look]) (by simp [look])) ?_
    simp only [ts_snoc, List.length_append, List.length_singleton]
    exact weak_drop rfl rfl (by simp [EnvLe, getE, look]) (by simp [ObLe, look]) (by simp [roOk])
end Go.Vs.Ytjfleklkloohgaa
