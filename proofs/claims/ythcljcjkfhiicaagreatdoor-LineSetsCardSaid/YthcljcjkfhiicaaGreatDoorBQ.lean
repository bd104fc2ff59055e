/- The walk of the statements' own helpers: sizes. No conditions. -/
import Derived.Test.YthcljcjkfhiicaaGreatDoorBM
import Derived.Test.YthcljcjkfhiicaaGreatDoorBW
set_option linter.unusedVariables false
set_option linter.unusedSimpArgs false
namespace Go.Vs.YthcljcjkfhiicaaGreatDoor
set_option linter.unusedSimpArgs false
set_option linter.unusedVariables false
open Go.Proofs Go.Vs.U8 Go.Vs.Pa
set_option maxRecDepth 100000
set_option maxHeartbeats 8000000
def smV (v : List Str) : Bool := v.all fun x => decide (x.length ≤ 80)
def smP (p : Pm) : Bool := decide (p.n.length ≤ 40) && decide (p.v.length ≤ 10) && smV p.v
def smallB (l : List Pm) : Bool := decide (l.length ≤ 10) && l.all smP
theorem all_at {α : Type} {f : α → Bool} {l : List α} {i : Nat} {x : α} (h : i < l.length) (hx : l[i] = x) : (l.drop i).all f = (f x && (l.drop (i + 1)).all f) := by
  rw [List.drop_eq_getElem_cons h, hx]; rfl
theorem fn_Small (l : List Pm) : Fn G Tryz.prog k_law17_Small [.slice (ps l)] (.bool (smallB l)) := by
  refine fn_intro hm ok_law17_Small (by simp) ?_
  simp [c_law17_Small, r_law17_Small, ps_len]
  by_cases h0 : 10 < l.length
  · have : smallB l = false := by simp [smallB]; omega
    simp (disch := omega) [br_yes, br_no, wrap_i64, wrap_u8, wrap_i32, List.getElem?_cons_zero, List.getElem?_cons_succ, this, ps_len]
  · have hR : smallB l = l.all smP := by
      have : l.length ≤ 10 := by omega
      simp [smallB, this]
    rw [hR]
    simp (disch := omega) [br_yes, br_no, wrap_i64, wrap_u8, wrap_i32, List.getElem?_cons_zero, List.getElem?_cons_succ, ps_len]
    refine loopU hm [] (fun i : Nat => [(3, .val (.int .i64 i))]) (fun i => []) (fun i => i ≤ l.length ∧ (l.drop i).all smP = l.all smP) (fun i => l.length - i) 0 ⟨by omega, by simp⟩ ?_ ?_
    · simp
      exact weak_drop rfl rfl (by simp [EnvLe, getE, look]) (by simp [ObLe, look]) (by simp [roOk])
    rintro i ⟨hi, hc⟩
    simp [ps_len]
    by_cases h : i < l.length
    · obtain ⟨p, hp⟩ : ∃ p, l[i] = p := ⟨_, rfl⟩
      have hg := ps_get h hp
      rw [all_at h hp] at hc
      have bad : smP p = false → l.all smP = false := fun e => by rw [← hc, e]; rfl
      by_cases h1 : 40 < p.n.length
      · have hb := bad (by simp [smP]; omega)
        simp (disch := omega) [br_yes, br_no, wrap_i64, wrap_u8, wrap_i32, List.getElem?_cons_zero, List.getElem?_cons_succ, ps_len, hg, hb]
      · by_cases h2 : 10 < p.v.length
        · have hb := bad (by simp [smP]; omega)
          simp (disch := omega) [br_yes, br_no, wrap_i64, wrap_u8, wrap_i32, List.getElem?_cons_zero, List.getElem?_cons_succ, ps_len, ts_len, hg, hb]
        · have hP : smP p = smV p.v := by
            have a1 : p.n.length ≤ 40 := by omega
            have a2 : p.v.length ≤ 10 := by omega
            simp [smP, a1, a2]
          rw [hP] at hc bad
          simp (disch := omega) [br_yes, br_no, wrap_i64, wrap_u8, wrap_i32, List.getElem?_cons_zero, List.getElem?_cons_succ, ps_len, ts_len, hg]
          refine loopU hm [] (fun k : Nat => [(4, .val (.int .i64 k))]) (fun k => []) (fun k => k ≤ p.v.length ∧ smV (p.v.drop k) = smV p.v) (fun k => p.v.length - k) 0 ⟨by omega, by simp⟩ ?_ ?_
          · simp
            exact weak_drop rfl rfl (by simp [EnvLe, getE, look]) (by simp [ObLe, look]) (by simp [roOk])
          rintro k ⟨hk, hv⟩
          simp [ps_len]
          by_cases h3 : k < p.v.length
          · obtain ⟨x, hx⟩ : ∃ x, p.v[k] = x := ⟨_, rfl⟩
            have hg2 := ts_get h3 hx
            rw [smV, all_at h3 hx] at hv
            by_cases h4 : 80 < x.length
            · have : decide (x.length ≤ 80) = false := by simp; omega
              rw [this] at hv
              have hb := bad (by rw [← hv]; rfl)
              simp (disch := omega) [br_yes, br_no, wrap_i64, wrap_u8, wrap_i32, List.getElem?_cons_zero, List.getElem?_cons_succ, ps_len, ts_len, hg, hg2, hb]
            · have : decide (x.length ≤ 80) = true := by simp; omega
              rw [this, Bool.true_and] at hv
              simp (disch := omega) [br_yes, br_no, wrap_i64, wrap_u8, wrap_i32, List.getElem?_cons_zero, List.getElem?_cons_succ, ps_len, ts_len, hg, hg2]
              refine loopEnd (k + 1) ⟨by omega, hv⟩ (by omega) ?_
              simp
              exact weak_drop rfl rfl (by simp [EnvLe, getE, look]) (by simp [ObLe, look]) (by simp [roOk])
          · obtain rfl : k = p.v.length := by omega
            have : smV p.v = true := by rw [← hv]; simp [smV]
            rw [this, Bool.true_and] at hc
            simp (disch := omega) [br_yes, br_no, wrap_i64, wrap_u8, wrap_i32, List.getElem?_cons_zero, List.getElem?_cons_succ, ps_len, ts_len, hg]
            refine loopEnd (i + 1) ⟨by omega, hc⟩ (by omega) ?_
            simp
            exact weak_drop rfl rfl (by simp [EnvLe, getE, look]) (by simp [ObLe, look]) (by simp [roOk])
    · obtain rfl : i = l.length := by omega
      have : l.all smP = true := by rw [← hc]; simp
      simp (disch := omega) [br_yes, br_no, wrap_i64, wrap_u8, wrap_i32, List.getElem?_cons_zero, List.getElem?_cons_succ, this]
end Go.Vs.YthcljcjkfhiicaaGreatDoor
namespace Go.Vs.YthcljcjkfhiicaaGreatDoor
set_option linter.unusedSimpArgs false
set_option linter.unusedVariables false
open Go.Proofs Go.Vs.U8 Go.Vs.Pa
set_option maxRecDepth 100000
set_option maxHeartbeats 8000000
theorem ps_take_succ {l : List Pm} {i : Nat} {p : Pm} (h : i < l.length) (hp : l[i] = p) : ps (l.take (i + 1)) = ps (l.take i) ++ [[.str p.n, .slice (ts p.v)]] := by
  rw [List.take_succ_eq_append_getElem h, hp, ps_snoc]
theorem fn_Back (l : List Pm) (hl : l.length < 100000) : Fn G Tryz.prog k_law17_Back [.slice (ps l)] (.slice (ps l)) := by
  refine fn_intro hm ok_law17_Back (by simp) ?_
  simp [c_law17_Back, r_law17_Back, ps_len]
  refine loopU hm [] (fun i : Nat => [(4, .val (.int .i64 i)), (3, .own 3 i)]) (fun i => [(3, .arr i 2 (ps (l.take i)))]) (fun i => i ≤ l.length) (fun i => l.length - i) 0 (by omega) ?_ ?_
  · simp [ps]
    exact Weak.trans (weak_adopt (k := 3) 3 2 (by simp) (by simp [getE, look])) (weak_drop rfl rfl (by simp [St.adopt, EnvLe, getE, look, put, eraseE, SV.erase]) (by simp [St.adopt, ObLe, look, put, eraseO, Ob.erase]) (by simp [St.adopt, roOk]))
  intro i hi
  simp [ps_len]
  by_cases h : i < l.length
  · obtain ⟨p, hp⟩ : ∃ p, l[i] = p := ⟨_, rfl⟩
    have hg := ps_get h hp
    have ht := ps_take_succ h hp
    have hlen : (ps (l.take i)).length ≤ 100000 := by rw [ps_len, List.length_take]; omega
    simp (disch := omega) [br_yes, br_no, wrap_i64, wrap_u8, wrap_i32, List.getElem?_cons_zero, List.getElem?_cons_succ, ps_len, hg]
    refine ⟨by omega, rfl, ?_⟩
    refine loopEnd (i + 1) (by omega) (by omega) ?_
    simp [ht]
    exact weak_drop rfl rfl (by simp [EnvLe, getE, look]) (by simp [ObLe, look]) (by simp [roOk])
  · obtain rfl : i = l.length := by omega
    simp (disch := omega) [br_yes, br_no, wrap_i64, wrap_u8, wrap_i32, List.getElem?_cons_zero, List.getElem?_cons_succ]
theorem fn_Own (l : List Pm) (hl : l.length < 100000) (hf : Fit l) : Fn G Tryz.prog k_law17_Own [.slice (ps l)] (.slice (ps l)) := by
  refine fn_intro hm ok_law17_Own (by simp) ?_
  simp [c_law17_Own, r_law17_Own, ps_len]
  refine loopU hm [] (fun i : Nat => [(4, .val (.int .i64 i)), (3, .own 3 i)]) (fun i => [(3, .arr i 2 (ps (l.take i)))]) (fun i => i ≤ l.length) (fun i => l.length - i) 0 (by omega) ?_ ?_
  · simp [ps]
    exact Weak.trans (weak_adopt (k := 3) 3 2 (by simp) (by simp [getE, look])) (weak_drop rfl rfl (by simp [St.adopt, EnvLe, getE, look, put, eraseE, SV.erase]) (by simp [St.adopt, ObLe, look, put, eraseO, Ob.erase]) (by simp [St.adopt, roOk]))
  intro i hi
  simp [ps_len]
  by_cases h : i < l.length
  · obtain ⟨p, hp⟩ : ∃ p, l[i] = p := ⟨_, rfl⟩
    have hg := ps_get h hp
    have ht := ps_take_succ h hp
    have hm' : p ∈ l := hp ▸ List.getElem_mem h
    have hvl := hf.v p hm'
    cases hv : p.v with
    | nil =>
      rw [hv] at hg ht
      have ht' : ps (l.take (i + 1)) = ps (l.take i) ++ [[.str p.n, .slice []]] := ht
      simp (disch := omega) [br_yes, br_no, wrap_i64, wrap_u8, wrap_i32, List.getElem?_cons_zero, List.getElem?_cons_succ, ps_len, hg, ts]
      refine ⟨rfl, by omega, ?_⟩
      refine loopEnd (i + 1) (by omega) (by omega) ?_
      simp [ht']
      exact weak_drop rfl rfl (by simp [EnvLe, getE, look]) (by simp [ObLe, look]) (by simp [roOk])
    | cons x r =>
      have htl := ts_len (x :: r)
      rw [hv] at hg ht hvl
      simp only [List.length_cons] at htl hvl
      have : ts (x :: r) = [.str x] :: ts r := rfl
      rw [this] at htl hg ht
      simp at htl
      simp (disch := omega) [br_yes, br_no, wrap_i64, wrap_u8, wrap_i32, List.getElem?_cons_zero, List.getElem?_cons_succ, ps_len, hg, htl]
      refine ⟨⟨by omega, fun a ha => by simp [ts] at ha; obtain ⟨y, _, rfl⟩ := ha; rfl⟩, rfl, by omega, ?_⟩
      refine loopEnd (i + 1) (by omega) (by omega) ?_
      simp [ht]
      exact weak_drop rfl rfl (by simp [EnvLe, getE, look]) (by simp [ObLe, look]) (by simp [roOk])
  · obtain rfl : i = l.length := by omega
    simp (disch := omega) [br_yes, br_no, wrap_i64, wrap_u8, wrap_i32, List.getElem?_cons_zero, List.getElem?_cons_succ]
end Go.Vs.YthcljcjkfhiicaaGreatDoor
