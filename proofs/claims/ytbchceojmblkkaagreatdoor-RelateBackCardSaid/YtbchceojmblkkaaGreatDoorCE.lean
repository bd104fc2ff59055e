/- The walk of the line statements' helpers. No conditions. -/
import Derived.Test.YtbchceojmblkkaaGreatDoorCD
import Derived.Test.YtbchceojmblkkaaGreatDoorBX
set_option linter.unusedVariables false
set_option linter.unusedSimpArgs false
namespace Go.Vs.YtbchceojmblkkaaGreatDoor
set_option linter.unusedSimpArgs false
set_option linter.unusedVariables false
open Go.Proofs Go.Vs.U8 Go.Vs.Pa
set_option maxRecDepth 100000
set_option maxHeartbeats 8000000
theorem ls_take_succ {l : List Ln} {i : Nat} {x : Ln} (h : i < l.length) (hx : l[i] = x) : ls (l.take (i + 1)) = ls (l.take i) ++ [[.str x.n, .slice (ps x.p), .str x.v]] := by
  rw [List.take_succ_eq_append_getElem h, hx, ls_snoc]
theorem fn_lOwn (l : List Ln) (hl : l.length < 100000) (hf : FitL l) : Fn G Tryz.prog k_law18_Own [.slice (ls l)] (.slice (ls l)) := by
  refine fn_intro hm ok_law18_Own (by simp) ?_
  simp [c_law18_Own, r_law18_Own, ls_len]
  refine loopU hm [] (fun i : Nat => [(4, .val (.int .i64 i)), (3, .own 3 i)]) (fun i => [(3, .arr i 3 (ls (l.take i)))]) (fun i => i ≤ l.length) (fun i => l.length - i) 0 (by omega) ?_ ?_
  · simp [ls]
    exact Weak.trans (weak_adopt (k := 3) 3 3 (by simp) (by simp [getE, look])) (weak_drop rfl rfl (by simp [St.adopt, EnvLe, getE, look, put, eraseE, SV.erase]) (by simp [St.adopt, ObLe, look, put, eraseO, Ob.erase]) (by simp [St.adopt, roOk]))
  intro i hi
  simp [ls_len]
  by_cases h : i < l.length
  · obtain ⟨x, hx⟩ : ∃ x, l[i] = x := ⟨_, rfl⟩
    have hg := ls_get h hx
    have ht := ls_take_succ h hx
    have fx := hf x (hx ▸ List.getElem_mem h)
    have hB := fn_Own x.p fx.p fx.f
    simp (disch := omega) [br_yes, br_no, wrap_i64, wrap_u8, wrap_i32, List.getElem?_cons_zero, List.getElem?_cons_succ, ls_len, hg]
    refine callW_imm hB ?_
    simp (disch := omega) [br_yes, br_no, wrap_i64, wrap_u8, wrap_i32, List.getElem?_cons_zero, List.getElem?_cons_succ, ls_len, hg]
    refine ⟨by omega, rfl, ?_⟩
    refine loopEnd (i + 1) (by omega) (by omega) ?_
    simp [ht]
    exact weak_drop rfl rfl (by simp [EnvLe, getE, look]) (by simp [ObLe, look]) (by simp [roOk])
  · obtain rfl : i = l.length := by omega
    simp (disch := omega) [br_yes, br_no, wrap_i64, wrap_u8, wrap_i32, List.getElem?_cons_zero, List.getElem?_cons_succ]
def smX (x : Ln) : Bool := decide (x.n.length ≤ 40) && (decide (x.v.length ≤ 250) && smallB x.p)
def smallX (l : List Ln) : Bool := decide (l.length ≤ 30) && l.all smX
theorem smallX_fit {l : List Ln} (h : smallX l = true) : l.length ≤ 30 ∧ FitL l := by
  simp only [smallX, Bool.and_eq_true, decide_eq_true_eq, List.all_eq_true, smX, smallB, smP, smV] at h
  refine ⟨h.1, fun x hx => ?_⟩
  obtain ⟨h1, h2, h3, h4⟩ := h.2 x hx
  exact ⟨by omega, by omega, ⟨fun p hp => by have := (h4 p hp).1.1; omega, fun p hp => by have := (h4 p hp).1.2; omega, fun p hp s hs => by have := (h4 p hp).2 s hs; omega⟩, by omega⟩
theorem fn_lSmall (l : List Ln) : Fn G Tryz.prog k_law18_Small [.slice (ls l)] (.bool (smallX l)) := by
  refine fn_intro hm ok_law18_Small (by simp) ?_
  simp [c_law18_Small, r_law18_Small, ls_len]
  by_cases h0 : 30 < l.length
  · have : smallX l = false := by simp [smallX]; omega
    simp (disch := omega) [br_yes, br_no, wrap_i64, wrap_u8, wrap_i32, List.getElem?_cons_zero, List.getElem?_cons_succ, this, ls_len]
  · have hR : smallX l = l.all smX := by
      have : l.length ≤ 30 := by omega
      simp [smallX, this]
    rw [hR]
    simp (disch := omega) [br_yes, br_no, wrap_i64, wrap_u8, wrap_i32, List.getElem?_cons_zero, List.getElem?_cons_succ, ls_len]
    refine loopU hm [] (fun i : Nat => [(3, .val (.int .i64 i))]) (fun i => []) (fun i => i ≤ l.length ∧ (l.drop i).all smX = l.all smX) (fun i => l.length - i) 0 ⟨by omega, by simp⟩ ?_ ?_
    · simp
      exact weak_drop rfl rfl (by simp [EnvLe, getE, look]) (by simp [ObLe, look]) (by simp [roOk])
    rintro i ⟨hi, hc⟩
    simp [ls_len]
    by_cases h : i < l.length
    · obtain ⟨x, hx⟩ : ∃ x, l[i] = x := ⟨_, rfl⟩
      have hg := ls_get h hx
      have hS := fn_Small x.p
      rw [all_at h hx] at hc
      have bad : smX x = false → l.all smX = false := fun e => by rw [← hc, e]; rfl
      by_cases h1 : 40 < x.n.length
      · have hb := bad (by simp [smX]; omega)
        simp (disch := omega) [br_yes, br_no, wrap_i64, wrap_u8, wrap_i32, List.getElem?_cons_zero, List.getElem?_cons_succ, ls_len, hg, hb]
        try rfl
      · by_cases h2 : 250 < x.v.length
        · have hb := bad (by simp [smX]; omega)
          simp (disch := omega) [br_yes, br_no, wrap_i64, wrap_u8, wrap_i32, List.getElem?_cons_zero, List.getElem?_cons_succ, ls_len, hg, hb]
          try rfl
        · have a1 : decide (x.n.length ≤ 40) = true := by simp; omega
          have a2 : decide (x.v.length ≤ 250) = true := by simp; omega
          simp (disch := omega) [br_yes, br_no, wrap_i64, wrap_u8, wrap_i32, List.getElem?_cons_zero, List.getElem?_cons_succ, ls_len, hg]
          refine callW_imm hS ?_
          cases h3 : smallB x.p with
          | false =>
            have hb := bad (by simp only [smX, h3, Bool.and_false])
            simp (disch := omega) [br_yes, br_no, wrap_i64, wrap_u8, wrap_i32, List.getElem?_cons_zero, List.getElem?_cons_succ, hb]
            try rfl
          | true =>
            have : smX x = true := by simp only [smX, h3, a1, a2]; rfl
            rw [this, Bool.true_and] at hc
            simp (disch := omega) [br_yes, br_no, wrap_i64, wrap_u8, wrap_i32, List.getElem?_cons_zero, List.getElem?_cons_succ, ls_len, hg]
            try refine ⟨rfl, ?_⟩
            refine loopEnd (i + 1) ⟨by omega, hc⟩ (by omega) ?_
            simp
            exact weak_drop rfl rfl (by simp [EnvLe, getE, look]) (by simp [ObLe, look]) (by simp [roOk])
    · obtain rfl : i = l.length := by omega
      have : l.all smX = true := by rw [← hc]; simp
      simp (disch := omega) [br_yes, br_no, wrap_i64, wrap_u8, wrap_i32, List.getElem?_cons_zero, List.getElem?_cons_succ, this]
end Go.Vs.YtbchceojmblkkaaGreatDoor
