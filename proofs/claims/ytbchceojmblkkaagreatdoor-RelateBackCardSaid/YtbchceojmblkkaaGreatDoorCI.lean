/- The walks of the statements LineBack, LineSets and LineFaults. No conditions. -/
import Derived.Test.YtbchceojmblkkaaGreatDoorCF
import Derived.Test.YtbchceojmblkkaaGreatDoorCH
set_option linter.unusedVariables false
set_option linter.unusedSimpArgs false
namespace Go.Vs.YtbchceojmblkkaaGreatDoor
set_option linter.unusedSimpArgs false
set_option linter.unusedVariables false
open Go.Proofs Go.Vs.U8 Go.Vs.Pa
set_option maxRecDepth 100000
set_option maxHeartbeats 32000000
theorem headTail {r v : Str} (h : r = [] ∨ ∃ t, r = 59 :: t) : ∀ c, (r ++ 58 :: v)[0]? = some c → nmd c = false := by
  intro c hc
  rcases h with rfl | ⟨t, rfl⟩ <;> simp at hc <;> subst hc <;> rfl
theorem prints_head (l : List Pm) : printsP l = [] ∨ ∃ t, printsP l = 59 :: t := by
  cases l with
  | nil => exact .inl rfl
  | cons p r => exact .inr ⟨_, by simp [printsP, printP]; rfl⟩
/-- A line that is printed is parsed as it was. -/
theorem line_print {x : Ln} (h : checkX x = 0) : lineR (printX x) = .ok x := by
  obtain ⟨h1, h2, h3, h4⟩ := (checkX_iff x).1 h
  obtain ⟨n1, n2, n3, n4⟩ := nameB_spec h1
  obtain ⟨n, p, v⟩ := x
  simp only at *
  have htx : printX ⟨n, p, v⟩ = n ++ (printsP p ++ 58 :: v) := by simp [printX]
  rw [htx]
  have hnm : named (n ++ (printsP p ++ 58 :: v)) = n.length := by
    rw [named_run]
    exact run_app (fun c hc => List.all_eq_true.1 n3 c hc) (headTail (prints_head p))
  have hd : (n ++ (printsP p ++ 58 :: v)).drop n.length = printsP p ++ 58 :: v := by simp
  have hp := parse_print h2 (rest := 58 :: v) (fun c hc => by simp at hc; subst hc; rfl)
  have h58 : (n ++ (printsP p ++ 58 :: v))[n.length + (printsP p).length]? = some 58 := by
    rw [← List.append_assoc, show n.length + (printsP p).length = (n ++ printsP p).length by simp, at_app]; rfl
  have hv : (n ++ (printsP p ++ 58 :: v)).drop (n.length + (printsP p).length + 1) = v := by
    rw [show n ++ (printsP p ++ 58 :: v) = (n ++ printsP p ++ [58]) ++ v by simp, show n.length + (printsP p).length + 1 = (n ++ printsP p ++ [58]).length by simp; omega]
    simp
  simp only [lineR, hnm, hd, hp, hv]
  rw [if_neg (by omega), if_pos h58, if_neg (by omega), h4]
  have : upper (List.take n.length (n ++ (printsP p ++ 58 :: v))) = n := by rw [List.take_left]; exact n4
  simp only [this]
theorem printX_len {x : Ln} (h : checkX x = 0) : (printX x).length < 100000 := by
  obtain ⟨h1, h2, h3, h4⟩ := (checkX_iff x).1 h
  have := prints_bd h2
  simp only [nameB, Bool.and_eq_true, decide_eq_true_eq] at h1
  simp [printX]
  omega
theorem drop_drop (l : List Ln) (n : Str) : dropL (dropL l n) n = dropL l n := by
  simp only [dropL]
  rw [List.filter_filter]
  congr 1
  funext a
  cases hasL n a <;> rfl
theorem drop_length (n : Str) : ∀ l : List Ln, (dropL l n).length + countL l n = l.length
  | [] => rfl
  | y :: r => by
    have ih := drop_length n r
    simp only [dropL, countL] at ih ⊢
    cases hb : hasL n y <;> simp [hb] <;> omega
end Go.Vs.YtbchceojmblkkaaGreatDoor
