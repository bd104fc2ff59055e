/- The walk of the forest's functions, part 4. No conditions. -/
import Derived.Test.YtjfleklkloohgaaFoPf3
namespace Go.Vs.Ytjfleklkloohgaa
set_option linter.unusedSimpArgs false
set_option linter.unusedVariables false
open Go.Proofs Go.Vs.Fo
set_option maxRecDepth 100000
set_option maxHeartbeats 4000000
theorem chk_ne {l : Prs} {n : Str} (h : ¬ chkF l = 0) : path l n = [] ∧ under l n = [] := by simp [path, under, h]
theorem fn_Path (l : Prs) (n : Str) (hl : l.length < 1000000) : Fn [] Try.prog k_forest_Path [.slice (ps l), .str n] (.slice (ts (path l n))) := by
  refine fn_intro hm ok_forest_Path (by simp) ?_
  simp [c_forest_Path, r_forest_Path]
  refine callW_imm (fn_Check l hl) ?_
  simp
  refine brd (fun h => ?_) (fun h => ?_)
  · have hF := forest_iff.1 h
    simp
    refine callW_imm (fn_climb l n hl) ?_
    simp [climbT, hF.low n, path, h]
  · simp [chk_ne h]
theorem fn_rPath (l : Prs) (n : Str) (hl : l.length < 1000000) : Fn [] Try.prog k_ref32_Path [.slice (ps l), .str n] (.slice (ts (path l n))) := by
  refine fn_intro hm ok_ref32_Path (by simp) ?_
  simp [c_ref32_Path, r_ref32_Path]
  refine callW_imm (fn_rCheck l hl) ?_
  simp
  refine brd (fun h => ?_) (fun h => ?_)
  · simp
    refine callW_imm (fn_rclimb l n hl) ?_
    simp [path, h]
  · simp [chk_ne h]
theorem fn_runder (l : Prs) (hF : Forest l) (hl : l.length < 1000000) : ∀ (d : Nat) (n : Str), d ≤ l.length → Fn [] Try.prog k_ref32_under [.slice (ps l), .str n, .int .i64 d] (.slice (ts (sub l d n))) := by
  intro d
  induction d with
  | zero =>
    intro n _
    refine fn_intro hm ok_ref32_under (by simp) ?_
    simp [c_ref32_under, r_ref32_under]
    refine callW_imm (fn_rKids l n hl) ?_
    simp
    refine loopW hm (fun _ : Unit => ⟨[(9, .val (.int .i64 0)), (8, .val (.slice (ts (kids l n)))), (7, .nils), (2, .val (.int .i64 0)), (1, .val (.str n)), (0, .val (.slice (ps l)))], [], [], 41, []⟩)
      (fun _ => True) (fun _ => 0) () trivial (by exact weak_drop rfl rfl (by simp [EnvLe, getE, look]) (by simp [ObLe, look]) (by simp [roOk])) (fun _ => rfl) ?_
    rintro _ _
    simp
    refine brd (fun h => ?_) (fun h => ?_) <;> simp [sub]
  | succ d ih =>
    intro n hd
    refine fn_intro hm ok_ref32_under (by simp) ?_
    simp [c_ref32_under, r_ref32_under]
    refine callW_imm (fn_rKids l n hl) ?_
    simp
    have hkl := kids_len l n
    refine loopW hm (fun i : Nat => ⟨[(9, .val (.int .i64 i)), (8, .val (.slice (ts (kids l n)))), (7, .own 7 (i * 2)), (2, .val (.int .i64 ((d : Int) + 1))), (1, .val (.str n)), (0, .val (.slice (ps l)))],
        [(7, .arr (i * 2) 1 (ts (((kids l n).take i).flatMap fun k => k :: sub l d k)))], [], 41, []⟩)
      (fun i => i ≤ (kids l n).length) (fun i => (kids l n).length - i) 0 (by omega) (by exact Weak.trans (weak_adopt (k := 7) 7 1 (by simp) (by simp [getE, look])) (weak_drop rfl rfl (by simp [St.adopt, EnvLe, getE, look, put, eraseE, SV.erase]) (by simp [St.adopt, ObLe, look, put, eraseO, Ob.erase]) (by simp [St.adopt, roOk]))) (fun _ => rfl) ?_
    rintro i h1
    simp
    have htot := hF.sub_len (d + 1) n
    refine brd (fun hi => ?_) (fun hi => ?_)
    · have hft := flatMap_take (l := l) (d := d) hi
      have hlen : ((((kids l n).take (i + 1)).flatMap fun k => k :: sub l d k)).length ≤ l.length := by
        refine Nat.le_trans ?_ htot
        rw [sub]
        conv => rhs; rw [← List.take_append_drop (i + 1) (kids l n), List.flatMap_append, List.length_append]
        omega
      rw [hft, List.length_append] at hlen
      simp at hlen
      have hw : IntKind.i64.wrap (d : Int) = (d : Int) := by rw [IntKind.wrap_i64]; omega
      have hg : decide (0 < (d : Int) + 1) = true := by simp <;> omega
      simp [ts_get hi, hg, hw]
      refine ⟨by omega, ?_⟩
      refine callW_imm (ih _ (by omega)) ?_
      simp [wrap_succ (show i < l.length by omega) hl]
      refine ⟨⟨by omega, fun r hr => ts_one r hr⟩, ?_⟩
      refine loopEnd (i + 1) (by omega) (by omega) ?_
      have e : ts (((kids l n).take (i + 1)).flatMap fun k => k :: sub l d k) = ts (((kids l n).take i).flatMap fun k => k :: sub l d k) ++ ([.str (kids l n)[i]] :: ts (sub l d (kids l n)[i])) := by
        rw [hft]; simp [ts]
      simp only [e, show (i + 1) * 2 = i * 2 + 1 + 1 by omega]
      exact weak_drop rfl rfl (by simp [EnvLe, getE, look]) (by simp [ObLe, look]) (by simp [roOk])
    · obtain rfl : i = (kids l n).length := by omega
      simp [sub]
end Go.Vs.Ytjfleklkloohgaa
