/- The walk of relate, part 2: relations read, written, found, left out. No conditions. -/
import Derived.Test.YtbchceojmblkkaaGreatDoorEB
set_option linter.unusedVariables false
set_option linter.unusedSimpArgs false
namespace Go.Vs.YtbchceojmblkkaaGreatDoor
set_option linter.unusedSimpArgs false
set_option linter.unusedVariables false
open Go.Proofs Go.Vs.U8 Go.Vs.Pa Go.Vs.Nu Go.Lib
set_option maxRecDepth 100000
set_option maxHeartbeats 8000000
def relRI (p : Rl × Int) : IV := .tuple [.agg [.int .u8 p.1.1, .str p.1.2], .int .i64 p.2]
theorem fn_Read (x : Ln) (fx : FitX x) : Fn G Tryz.prog k_relate_Read [x.iv] (relRI (relR x)) := by
  obtain ⟨R, hR⟩ : ∃ R, relR x = R := ⟨_, rfl⟩
  rw [hR]
  unfold relR at hR
  have hF := fn_Find x.p ptName (by have := fx.p; omega) (fun p hp => by have := fx.f.v p hp; omega)
  have hU := fn_UID x.v (by have := fx.v; omega)
  refine fn_intro hm ok_relate_Read (by simp) ?_
  simp [c_relate_Read, r_relate_Read, Ln.iv]
  by_cases h1 : x.n = rtName
  · have hn : x.n = [82, 69, 76, 65, 84, 69, 68, 45, 84, 79] := h1
    cases ho : findP x.p ptName with
    | none =>
      have hK : relK x = 0 := by unfold relK; rw [ho]
      have hE : relE x = if uidB x.v = true then 0 else 4 := by unfold relE; rw [if_neg (by simp [h1]), ho]
      rw [ho] at hF
      simp only [foundI, Pm.iv] at hF
      simp (disch := omega) [br_yes, br_no, wrap_i64, wrap_u8, wrap_i32, List.getElem?_cons_zero, List.getElem?_cons_succ, hn]
      refine callW_imm hF ?_
      simp (disch := omega) [br_yes, br_no, wrap_i64, wrap_u8, wrap_i32, List.getElem?_cons_zero, List.getElem?_cons_succ]
      refine callW_imm hU ?_
      cases hu : uidB x.v with
      | true =>
        rw [hE, if_pos hu, if_pos rfl, hK] at hR
        subst hR
        simp (disch := omega) [br_yes, br_no, wrap_i64, wrap_u8, wrap_i32, List.getElem?_cons_zero, List.getElem?_cons_succ, relRI]
      | false =>
        have hE' : relE x = 4 := by rw [hE, if_neg (by simp [hu])]
        rw [hE', if_neg (show ¬ ((4 : Int) = 0) by decide)] at hR
        subst hR
        simp (disch := omega) [br_yes, br_no, wrap_i64, wrap_u8, wrap_i32, List.getElem?_cons_zero, List.getElem?_cons_succ, relRI]
    | some p =>
      have hpm : p ∈ x.p := List.mem_of_find?_eq_some ho
      rw [ho] at hF
      simp only [foundI, Pm.iv] at hF
      by_cases hl : p.v.length = 1
      · have hE : relE x = if uidB x.v = true then 0 else 4 := by unfold relE; rw [if_neg (by simp [h1]), ho]; simp only; rw [if_neg (by simp [hl])]
        obtain ⟨v, hv⟩ : ∃ v, p.v = [v] := List.length_eq_one_iff.1 hl
        have hK : relK x = kindOf v := by unfold relK; rw [ho]; simp only [hv]; rfl
        have hO := fn_kindOf v (by have := fx.f.t p hpm v (by rw [hv]; simp); omega)
        have e1 : ts p.v = [[.str v]] := by rw [hv]; rfl
        rw [e1] at hF
        simp (disch := omega) [br_yes, br_no, wrap_i64, wrap_u8, wrap_i32, List.getElem?_cons_zero, List.getElem?_cons_succ, hn]
        refine callW_imm hF ?_
        simp (disch := omega) [br_yes, br_no, wrap_i64, wrap_u8, wrap_i32, List.getElem?_cons_zero, List.getElem?_cons_succ]
        refine callW_imm hU ?_
        cases hu : uidB x.v with
        | true =>
          rw [hE, if_pos hu, if_pos rfl, hK] at hR
          subst hR
          simp (disch := omega) [br_yes, br_no, wrap_i64, wrap_u8, wrap_i32, List.getElem?_cons_zero, List.getElem?_cons_succ]
          refine callW_imm hO ?_
          simp (disch := omega) [br_yes, br_no, wrap_i64, wrap_u8, wrap_i32, List.getElem?_cons_zero, List.getElem?_cons_succ, relRI]
        | false =>
          have hE' : relE x = 4 := by rw [hE, if_neg (by simp [hu])]
          rw [hE', if_neg (show ¬ ((4 : Int) = 0) by decide)] at hR
          subst hR
          simp (disch := omega) [br_yes, br_no, wrap_i64, wrap_u8, wrap_i32, List.getElem?_cons_zero, List.getElem?_cons_succ, relRI]
      · have hE : relE x = 20 := by unfold relE; rw [if_neg (by simp [h1]), ho]; simp only; rw [if_pos hl]
        rw [hE, if_neg (by omega)] at hR
        subst hR
        simp (disch := omega) [br_yes, br_no, wrap_i64, wrap_u8, wrap_i32, List.getElem?_cons_zero, List.getElem?_cons_succ, hn]
        refine callW_imm hF ?_
        simp (disch := omega) [br_yes, br_no, wrap_i64, wrap_u8, wrap_i32, List.getElem?_cons_zero, List.getElem?_cons_succ, ts_len, relRI]
  · have hn : ¬ x.n = [82, 69, 76, 65, 84, 69, 68, 45, 84, 79] := h1
    have hE : relE x = 11 := by unfold relE; rw [if_pos h1]
    rw [hE, if_neg (by omega)] at hR
    subst hR
    simp (disch := omega) [br_yes, br_no, wrap_i64, wrap_u8, wrap_i32, List.getElem?_cons_zero, List.getElem?_cons_succ, hn, relRI]
theorem fn_Write (r : Rl) (hs : r.2.length < 1000000) : Fn G Tryz.prog k_relate_Write [.agg [.int .u8 r.1, .str r.2]] (.tuple [(writR r).1.iv, .int .i64 (writR r).2]) := by
  have hU := fn_UID r.2 hs
  have hK := fn_kindName r.1
  refine fn_intro hm ok_relate_Write (by simp) ?_
  obtain ⟨R, hR⟩ : ∃ R, writR r = R := ⟨_, rfl⟩
  rw [hR]
  unfold writR at hR
  simp [c_relate_Write, r_relate_Write]
  by_cases h1 : 4 ≤ r.1
  · have hE : writE r = 11 := by unfold writE; rw [if_pos h1]
    rw [hE, if_neg (by omega)] at hR
    subst hR
    simp (disch := omega) [br_yes, br_no, wrap_i64, wrap_u8, wrap_i32, List.getElem?_cons_zero, List.getElem?_cons_succ, Ln.iv, lnO, ps]
  · cases hu : uidB r.2 with
    | false =>
      have hE : writE r = 4 := by unfold writE; rw [if_neg h1, if_neg (by simp [hu])]
      rw [hE, if_neg (by omega)] at hR
      subst hR
      simp (disch := omega) [br_yes, br_no, wrap_i64, wrap_u8, wrap_i32, List.getElem?_cons_zero, List.getElem?_cons_succ]
      refine callW_imm hU ?_
      simp (disch := omega) [br_yes, br_no, wrap_i64, wrap_u8, wrap_i32, List.getElem?_cons_zero, List.getElem?_cons_succ, hu, Ln.iv, lnO, ps]
    | true =>
      have hE : writE r = 0 := by unfold writE; rw [if_neg h1, if_pos hu]
      rw [hE, if_pos rfl] at hR
      subst hR
      simp (disch := omega) [br_yes, br_no, wrap_i64, wrap_u8, wrap_i32, List.getElem?_cons_zero, List.getElem?_cons_succ]
      refine callW_imm hU ?_
      simp (disch := omega) [br_yes, br_no, wrap_i64, wrap_u8, wrap_i32, List.getElem?_cons_zero, List.getElem?_cons_succ, hu]
      refine callW_imm hK ?_
      simp (disch := omega) [br_yes, br_no, wrap_i64, wrap_u8, wrap_i32, List.getElem?_cons_zero, List.getElem?_cons_succ, Ln.iv, relL, ps, ts, rtName, ptName]
      try rfl
theorem fn_told (r : Rl) (x : Ln) (fx : FitX x) : Fn G Tryz.prog k__errand_relate_Rel_told [.agg [.int .u8 r.1, .str r.2], x.iv] (.bool (toldB r x)) := by
  have hR := fn_Read x fx
  refine fn_intro hm ok__errand_relate_Rel_told (by simp) ?_
  unfold toldB
  obtain ⟨⟨⟨k, u⟩, e⟩, h⟩ : ∃ p, relR x = p := ⟨_, rfl⟩
  rw [h] at hR ⊢
  simp only [relRI, Ln.iv] at hR
  obtain ⟨rk, ru⟩ := r
  simp [c__errand_relate_Rel_told, r__errand_relate_Rel_told, Ln.iv]
  refine callW_imm hR ?_
  by_cases h1 : e = 0
  · by_cases h2 : k = rk
    · by_cases h3 : u = ru
      · simp (disch := omega) [br_yes, br_no, wrap_i64, wrap_u8, wrap_i32, List.getElem?_cons_zero, List.getElem?_cons_succ, h1, h2, h3]
      · simp (disch := omega) [br_yes, br_no, wrap_i64, wrap_u8, wrap_i32, List.getElem?_cons_zero, List.getElem?_cons_succ, h1, h2, h3]
    · simp (disch := omega) [br_yes, br_no, wrap_i64, wrap_u8, wrap_i32, List.getElem?_cons_zero, List.getElem?_cons_succ, h1, h2]
  · simp (disch := omega) [br_yes, br_no, wrap_i64, wrap_u8, wrap_i32, List.getElem?_cons_zero, List.getElem?_cons_succ, h1]
/-- The first place where it is so; -1: none. -/
def ixF (l : List Ln) (p : Ln → Bool) : Int := if l.findIdx p < l.length then (l.findIdx p : Nat) else -1
theorem ixF_any (l : List Ln) (p : Ln → Bool) : 0 ≤ ixF l p ↔ l.any p = true := by
  have he := List.findIdx_lt_length (p := p) (xs := l)
  rw [List.any_eq_true]
  unfold ixF
  by_cases h : l.findIdx p < l.length
  · rw [if_pos h]
    exact ⟨fun _ => he.1 h, fun _ => by omega⟩
  · rw [if_neg h]
    exact ⟨fun h' => by omega, fun h' => absurd (he.2 h') h⟩
theorem fn_IndexFuncL (l : List Ln) (fk : Nat) (first : List IV) (p : Ln → Bool) (hl : l.length < 1000000) (hf : ∀ x ∈ l, Fn G Tryz.prog fk (first ++ [.agg [.str x.n, .slice (ps x.p), .str x.v]]) (.bool (p x))) : Fn G Tryz.prog k_slices_IndexFunc_Line [.slice (ls l), .bnd fk first] (.int .i64 (ixF l p)) := by
  refine fn_intro hm ok_slices_IndexFunc_Line (by simp) ?_
  have hle := List.findIdx_le_length (p := p) (xs := l)
  simp [c_slices_IndexFunc_Line, r_slices_IndexFunc_Line, ls_len]
  refine loopU hm [] (fun i : Nat => [(8, .val (.int .i64 i))]) (fun _ => []) (fun i => i ≤ l.findIdx p) (fun i => l.length - i) 0 (by omega) ?_ ?_
  · simp
    exact weak_drop rfl rfl (by simp [EnvLe, getE, look]) (by simp [ObLe, look]) (by simp [roOk])
  intro i hi
  simp [ls_len]
  by_cases h : i < l.length
  · obtain ⟨x, hx⟩ : ∃ x, l[i] = x := ⟨_, rfl⟩
    have hg := ls_get h hx
    have hF := hf x (hx ▸ List.getElem_mem h)
    by_cases hp : p x = true
    · have e : l.findIdx p = i := by
        have : ¬ i < l.findIdx p := fun hlt => by
          have := List.not_of_lt_findIdx hlt
          rw [hx] at this
          simp [hp] at this
        omega
      have hR : ixF l p = i := by unfold ixF; rw [e, if_pos h]
      rw [hR]
      rw [hp] at hF
      simp (disch := omega) [br_yes, br_no, wrap_i64, wrap_u8, wrap_i32, List.getElem?_cons_zero, List.getElem?_cons_succ, ls_len, hg]
      refine callW_imm hF ?_
      simp (disch := omega) [br_yes, br_no, wrap_i64, wrap_u8, wrap_i32, List.getElem?_cons_zero, List.getElem?_cons_succ]
    · have e : l.findIdx p ≠ i := fun e => by
        have := List.findIdx_getElem (p := p) (xs := l) (w := by omega)
        simp only [e, hx] at this
        exact hp this
      have hp' : p x = false := by simpa using hp
      rw [hp'] at hF
      simp (disch := omega) [br_yes, br_no, wrap_i64, wrap_u8, wrap_i32, List.getElem?_cons_zero, List.getElem?_cons_succ, ls_len, hg]
      refine callW_imm hF ?_
      simp (disch := omega) [br_yes, br_no, wrap_i64, wrap_u8, wrap_i32, List.getElem?_cons_zero, List.getElem?_cons_succ]
      refine loopEnd (i + 1) (by omega) (by omega) ?_
      simp
      exact weak_drop rfl rfl (by simp [EnvLe, getE, look]) (by simp [ObLe, look]) (by simp [roOk])
  · have hR : ixF l p = -1 := by unfold ixF; rw [if_neg (by omega)]
    rw [hR]
    simp (disch := omega) [br_yes, br_no, wrap_i64, wrap_u8, wrap_i32, List.getElem?_cons_zero, List.getElem?_cons_succ, ls_len]
theorem fn_ContainsFuncL (l : List Ln) (fk : Nat) (first : List IV) (p : Ln → Bool) (hl : l.length < 1000000) (hf : ∀ x ∈ l, Fn G Tryz.prog fk (first ++ [.agg [.str x.n, .slice (ps x.p), .str x.v]]) (.bool (p x))) : Fn G Tryz.prog k_slices_ContainsFunc_Line [.slice (ls l), .bnd fk first] (.bool (l.any p)) := by
  refine fn_intro hm ok_slices_ContainsFunc_Line (by simp) ?_
  have hI := fn_IndexFuncL l fk first p hl hf
  have : l.any p = decide (0 ≤ ixF l p) := by
    rw [Bool.eq_iff_iff, decide_eq_true_eq]
    exact (ixF_any l p).symm
  rw [this]
  simp [c_slices_ContainsFunc_Line, r_slices_ContainsFunc_Line]
  refine callW_imm hI ?_
  simp
theorem fn_hasR (l : List Ln) (r : Rl) (hl : l.length < 1000000) (fl : FitL l) : Fn G Tryz.prog k_relate_Has [.slice (ls l), .agg [.int .u8 r.1, .str r.2]] (.bool (hasR l r)) := by
  refine fn_intro hm ok_relate_Has (by simp) ?_
  have hC := fn_ContainsFuncL l k__errand_relate_Rel_told [.agg [.int .u8 r.1, .str r.2]] (toldB r) hl (fun x hx => fn_told r x (fl x hx))
  simp [c_relate_Has, r_relate_Has]
  refine callW_imm hC ?_
  simp [hasR]
theorem fn_withoutB (l : List Ln) (fk : Nat) (first : List IV) (p : Ln → Bool) (hl : l.length < 100000) (fl : FitL l) (hf : ∀ x ∈ l, Fn G Tryz.prog fk (first ++ [.agg [.str x.n, .slice (ps x.p), .str x.v]]) (.bool (p x))) : Fn G Tryz.prog k_relate_without [.slice (ls l), .bnd fk first] (.slice (ls (l.filter fun x => !p x))) := by
  refine fn_intro hm ok_relate_without (by simp) ?_
  obtain ⟨R, hR⟩ : ∃ R, (l.filter fun x => !p x) = R := ⟨_, rfl⟩
  rw [hR]
  simp [c_relate_without, r_relate_without, ls_len]
  refine loopU hm [] (fun x : Nat × List Ln => [(13, .val (.int .i64 x.1)), (5, .own 5 x.2.length)]) (fun x => [(5, .arr x.2.length 3 (ls x.2))]) (fun x => x.1 ≤ l.length ∧ x.2.length ≤ x.1 ∧ x.2 ++ ((l.drop x.1).filter fun x => !p x) = R) (fun x => l.length - x.1) (0, []) ⟨by simp, by simp, by simpa using hR⟩ ?_ ?_
  · simp [ls]
    exact Weak.trans (weak_adopt (k := 5) 5 3 (by simp) (by simp [getE, look])) (weak_drop rfl rfl (by simp [St.adopt, EnvLe, getE, look, put, eraseE, SV.erase]) (by simp [St.adopt, ObLe, look, put, eraseO, Ob.erase]) (by simp [St.adopt, roOk]))
  rintro ⟨i, out⟩ ⟨h1, h2, h3⟩
  simp only at h1 h2 h3
  simp [ls_len]
  by_cases h : i < l.length
  · obtain ⟨x, hx⟩ : ∃ x, l[i] = x := ⟨_, rfl⟩
    have hxm : x ∈ l := hx ▸ List.getElem_mem h
    have hg := ls_get h hx
    have hF := hf x hxm
    have fx := fl x hxm
    have hpl := fx.p
    rw [List.drop_eq_getElem_cons h, hx, List.filter_cons] at h3
    by_cases hp : p x = true
    · rw [hp] at hF
      rw [if_neg (by simp [hp])] at h3
      simp (disch := omega) [br_yes, br_no, wrap_i64, wrap_u8, wrap_i32, List.getElem?_cons_zero, List.getElem?_cons_succ, ls_len, hg]
      refine callW_imm hF ?_
      simp (disch := omega) [br_yes, br_no, wrap_i64, wrap_u8, wrap_i32, List.getElem?_cons_zero, List.getElem?_cons_succ]
      refine loopEnd (i + 1, out) ⟨by simp; omega, by simp; omega, h3⟩ (by simp; omega) ?_
      simp
      exact weak_drop rfl rfl (by simp [EnvLe, getE, look]) (by simp [ObLe, look]) (by simp [roOk])
    · have hp' : p x = false := by simpa using hp
      rw [hp'] at hF
      rw [if_pos (by simp [hp'])] at h3
      simp (disch := omega) [br_yes, br_no, wrap_i64, wrap_u8, wrap_i32, List.getElem?_cons_zero, List.getElem?_cons_succ, ls_len, hg]
      refine callW_imm hF ?_
      simp (disch := omega) [br_yes, br_no, wrap_i64, wrap_u8, wrap_i32, List.getElem?_cons_zero, List.getElem?_cons_succ, ps_len]
      refine loopU hm [] (fun j : Nat => [(28, .val (.int .i64 j))]) (fun j => if j = 0 then [(7, .box [.val (.str x.n), .val (.slice (ps x.p)), .val (.str x.v)]), (8, .box [.val (.str x.n), .nils, .val (.str x.v)])] else [(7, .box [.val (.str x.n), .val (.slice (ps x.p)), .val (.str x.v)]), (8, .box [.val (.str x.n), .own 41 (j - 1), .val (.str x.v)]), (41, .arr (j - 1) 2 (ps (x.p.take j)))]) (fun j => j ≤ x.p.length) (fun j => x.p.length - j) 0 (by omega) ?_ ?_
      · simp
        exact weak_drop rfl rfl (by simp [EnvLe, getE, look]) (by simp [ObLe, look]) (by simp [roOk])
      intro j hj
      simp [ps_len]
      by_cases hq : j < x.p.length
      · obtain ⟨q, hqe⟩ : ∃ q, x.p[j] = q := ⟨_, rfl⟩
        have hgq := ps_get hq hqe
        have ht := ps_take_succ hq hqe
        have hC := fn_Clone q.v (by have := fx.f.v q (hqe ▸ List.getElem_mem hq); omega)
        cases j with
        | zero =>
          simp (disch := omega) [br_yes, br_no, wrap_i64, wrap_u8, wrap_i32, List.getElem?_cons_zero, List.getElem?_cons_succ, ps_len, hgq]
          refine callW_imm hC ?_
          simp (disch := omega) [br_yes, br_no, wrap_i64, wrap_u8, wrap_i32, List.getElem?_cons_zero, List.getElem?_cons_succ]
          refine ⟨rfl, ?_⟩
          refine loopEnd 1 (by omega) (by omega) ?_
          have ht1 : ps (x.p.take 1) = [[.str q.n, .slice (ts q.v)]] := by simpa [ps] using ht
          simp [ht1]
          exact weak_drop rfl rfl (by simp [EnvLe, getE, look]) (by simp [ObLe, look]) (by simp [roOk])
        | succ j =>
          have htl : (ps (x.p.take (j + 1))).length = j + 1 := by rw [ps_len, List.length_take]; omega
          have e0 : (0 : Int) ≤ (j : Int) + 1 := by omega
          have e1 : ((j : Int) + 1).toNat = j + 1 := by omega
          simp (disch := omega) [br_yes, br_no, wrap_i64, wrap_u8, wrap_i32, List.getElem?_cons_zero, List.getElem?_cons_succ, ps_len, hgq, e0, e1]
          refine callW_imm hC ?_
          simp (disch := omega) [br_yes, br_no, wrap_i64, wrap_u8, wrap_i32, List.getElem?_cons_zero, List.getElem?_cons_succ, htl]
          refine ⟨by omega, rfl, ?_⟩
          refine loopEnd (j + 1 + 1) (by omega) (by omega) ?_
          simp [ht]
          exact weak_drop rfl rfl (by simp [EnvLe, getE, look]) (by simp [ObLe, look]) (by simp [roOk])
      · obtain rfl : j = x.p.length := by omega
        have e2 : ls (out ++ [x]) = ls out ++ [[.str x.n, .slice (ps x.p), .str x.v]] := ls_snoc out x
        cases hpz : x.p.length with
        | zero =>
          have hp0 : x.p = [] := List.length_eq_zero_iff.1 hpz
          simp [List.filter]
          simp (disch := omega) [br_yes, br_no, wrap_i64, wrap_u8, wrap_i32, List.getElem?_cons_zero, List.getElem?_cons_succ, ls_len]
          refine ⟨by omega, ?_⟩
          refine loopEnd (i + 1, out ++ [x]) ⟨by simp; omega, by simp; omega, by simpa using h3⟩ (by simp; omega) ?_
          simp [e2, hp0, ps]
          exact weak_drop rfl rfl (by simp [EnvLe, getE, look]) (by simp [ObLe, look]) (by simp [roOk])
        | succ m =>
          have htk : x.p.take (m + 1) = x.p := by rw [← hpz, List.take_length]
          simp [List.filter]
          simp (disch := omega) [br_yes, br_no, wrap_i64, wrap_u8, wrap_i32, List.getElem?_cons_zero, List.getElem?_cons_succ, ls_len, htk]
          refine ⟨by omega, ?_⟩
          refine loopEnd (i + 1, out ++ [x]) ⟨by simp; omega, by simp; omega, by simpa using h3⟩ (by simp; omega) ?_
          simp [e2]
          exact weak_drop rfl rfl (by simp [EnvLe, getE, look]) (by simp [ObLe, look]) (by simp [roOk])
  · have e : l.drop i = [] := List.drop_eq_nil_of_le (by omega)
    rw [e] at h3
    have h3 : out = R := by simpa using h3
    subst h3
    simp (disch := omega) [br_yes, br_no, wrap_i64, wrap_u8, wrap_i32, List.getElem?_cons_zero, List.getElem?_cons_succ, ls_len]
theorem fn_withoutF (l : List Ln) (fk : Nat) (caps : List IV) (p : Ln → Bool) (hl : l.length < 100000) (fl : FitL l) (hf : ∀ x ∈ l, Fn G Tryz.prog fk (.agg [.str x.n, .slice (ps x.p), .str x.v] :: caps) (.bool (p x))) : Fn G Tryz.prog k_relate_without [.slice (ls l), .fn fk caps] (.slice (ls (l.filter fun x => !p x))) := by
  refine fn_intro hm ok_relate_without (by simp) ?_
  obtain ⟨R, hR⟩ : ∃ R, (l.filter fun x => !p x) = R := ⟨_, rfl⟩
  rw [hR]
  simp [c_relate_without, r_relate_without, ls_len]
  refine loopU hm [] (fun x : Nat × List Ln => [(13, .val (.int .i64 x.1)), (5, .own 5 x.2.length)]) (fun x => [(5, .arr x.2.length 3 (ls x.2))]) (fun x => x.1 ≤ l.length ∧ x.2.length ≤ x.1 ∧ x.2 ++ ((l.drop x.1).filter fun x => !p x) = R) (fun x => l.length - x.1) (0, []) ⟨by simp, by simp, by simpa using hR⟩ ?_ ?_
  · simp [ls]
    exact Weak.trans (weak_adopt (k := 5) 5 3 (by simp) (by simp [getE, look])) (weak_drop rfl rfl (by simp [St.adopt, EnvLe, getE, look, put, eraseE, SV.erase]) (by simp [St.adopt, ObLe, look, put, eraseO, Ob.erase]) (by simp [St.adopt, roOk]))
  rintro ⟨i, out⟩ ⟨h1, h2, h3⟩
  simp only at h1 h2 h3
  simp [ls_len]
  by_cases h : i < l.length
  · obtain ⟨x, hx⟩ : ∃ x, l[i] = x := ⟨_, rfl⟩
    have hxm : x ∈ l := hx ▸ List.getElem_mem h
    have hg := ls_get h hx
    have hF := hf x hxm
    have fx := fl x hxm
    have hpl := fx.p
    rw [List.drop_eq_getElem_cons h, hx, List.filter_cons] at h3
    by_cases hp : p x = true
    · rw [hp] at hF
      rw [if_neg (by simp [hp])] at h3
      simp (disch := omega) [br_yes, br_no, wrap_i64, wrap_u8, wrap_i32, List.getElem?_cons_zero, List.getElem?_cons_succ, ls_len, hg]
      refine callW_imm hF ?_
      simp (disch := omega) [br_yes, br_no, wrap_i64, wrap_u8, wrap_i32, List.getElem?_cons_zero, List.getElem?_cons_succ]
      refine loopEnd (i + 1, out) ⟨by simp; omega, by simp; omega, h3⟩ (by simp; omega) ?_
      simp
      exact weak_drop rfl rfl (by simp [EnvLe, getE, look]) (by simp [ObLe, look]) (by simp [roOk])
    · have hp' : p x = false := by simpa using hp
      rw [hp'] at hF
      rw [if_pos (by simp [hp'])] at h3
      simp (disch := omega) [br_yes, br_no, wrap_i64, wrap_u8, wrap_i32, List.getElem?_cons_zero, List.getElem?_cons_succ, ls_len, hg]
      refine callW_imm hF ?_
      simp (disch := omega) [br_yes, br_no, wrap_i64, wrap_u8, wrap_i32, List.getElem?_cons_zero, List.getElem?_cons_succ, ps_len]
      refine loopU hm [] (fun j : Nat => [(28, .val (.int .i64 j))]) (fun j => if j = 0 then [(7, .box [.val (.str x.n), .val (.slice (ps x.p)), .val (.str x.v)]), (8, .box [.val (.str x.n), .nils, .val (.str x.v)])] else [(7, .box [.val (.str x.n), .val (.slice (ps x.p)), .val (.str x.v)]), (8, .box [.val (.str x.n), .own 41 (j - 1), .val (.str x.v)]), (41, .arr (j - 1) 2 (ps (x.p.take j)))]) (fun j => j ≤ x.p.length) (fun j => x.p.length - j) 0 (by omega) ?_ ?_
      · simp
        exact weak_drop rfl rfl (by simp [EnvLe, getE, look]) (by simp [ObLe, look]) (by simp [roOk])
      intro j hj
      simp [ps_len]
      by_cases hq : j < x.p.length
      · obtain ⟨q, hqe⟩ : ∃ q, x.p[j] = q := ⟨_, rfl⟩
        have hgq := ps_get hq hqe
        have ht := ps_take_succ hq hqe
        have hC := fn_Clone q.v (by have := fx.f.v q (hqe ▸ List.getElem_mem hq); omega)
        cases j with
        | zero =>
          simp (disch := omega) [br_yes, br_no, wrap_i64, wrap_u8, wrap_i32, List.getElem?_cons_zero, List.getElem?_cons_succ, ps_len, hgq]
          refine callW_imm hC ?_
          simp (disch := omega) [br_yes, br_no, wrap_i64, wrap_u8, wrap_i32, List.getElem?_cons_zero, List.getElem?_cons_succ]
          refine ⟨rfl, ?_⟩
          refine loopEnd 1 (by omega) (by omega) ?_
          have ht1 : ps (x.p.take 1) = [[.str q.n, .slice (ts q.v)]] := by simpa [ps] using ht
          simp [ht1]
          exact weak_drop rfl rfl (by simp [EnvLe, getE, look]) (by simp [ObLe, look]) (by simp [roOk])
        | succ j =>
          have htl : (ps (x.p.take (j + 1))).length = j + 1 := by rw [ps_len, List.length_take]; omega
          have e0 : (0 : Int) ≤ (j : Int) + 1 := by omega
          have e1 : ((j : Int) + 1).toNat = j + 1 := by omega
          simp (disch := omega) [br_yes, br_no, wrap_i64, wrap_u8, wrap_i32, List.getElem?_cons_zero, List.getElem?_cons_succ, ps_len, hgq, e0, e1]
          refine callW_imm hC ?_
          simp (disch := omega) [br_yes, br_no, wrap_i64, wrap_u8, wrap_i32, List.getElem?_cons_zero, List.getElem?_cons_succ, htl]
          refine ⟨by omega, rfl, ?_⟩
          refine loopEnd (j + 1 + 1) (by omega) (by omega) ?_
          simp [ht]
          exact weak_drop rfl rfl (by simp [EnvLe, getE, look]) (by simp [ObLe, look]) (by simp [roOk])
      · obtain rfl : j = x.p.length := by omega
        have e2 : ls (out ++ [x]) = ls out ++ [[.str x.n, .slice (ps x.p), .str x.v]] := ls_snoc out x
        cases hpz : x.p.length with
        | zero =>
          have hp0 : x.p = [] := List.length_eq_zero_iff.1 hpz
          simp [List.filter]
          simp (disch := omega) [br_yes, br_no, wrap_i64, wrap_u8, wrap_i32, List.getElem?_cons_zero, List.getElem?_cons_succ, ls_len]
          refine ⟨by omega, ?_⟩
          refine loopEnd (i + 1, out ++ [x]) ⟨by simp; omega, by simp; omega, by simpa using h3⟩ (by simp; omega) ?_
          simp [e2, hp0, ps]
          exact weak_drop rfl rfl (by simp [EnvLe, getE, look]) (by simp [ObLe, look]) (by simp [roOk])
        | succ m =>
          have htk : x.p.take (m + 1) = x.p := by rw [← hpz, List.take_length]
          simp [List.filter]
          simp (disch := omega) [br_yes, br_no, wrap_i64, wrap_u8, wrap_i32, List.getElem?_cons_zero, List.getElem?_cons_succ, ls_len, htk]
          refine ⟨by omega, ?_⟩
          refine loopEnd (i + 1, out ++ [x]) ⟨by simp; omega, by simp; omega, by simpa using h3⟩ (by simp; omega) ?_
          simp [e2]
          exact weak_drop rfl rfl (by simp [EnvLe, getE, look]) (by simp [ObLe, look]) (by simp [roOk])
  · have e : l.drop i = [] := List.drop_eq_nil_of_le (by omega)
    rw [e] at h3
    have h3 : out = R := by simpa using h3
    subst h3
    simp (disch := omega) [br_yes, br_no, wrap_i64, wrap_u8, wrap_i32, List.getElem?_cons_zero, List.getElem?_cons_succ, ls_len]
theorem fn_dropR (l : List Ln) (r : Rl) (hl : l.length < 100000) (fl : FitL l) : Fn G Tryz.prog k_relate_Remove [.slice (ls l), .agg [.int .u8 r.1, .str r.2]] (.slice (ls (dropR l r))) := by
  refine fn_intro hm ok_relate_Remove (by simp) ?_
  have hC := fn_withoutB l k__errand_relate_Rel_told [.agg [.int .u8 r.1, .str r.2]] (toldB r) hl fl (fun x hx => fn_told r x (fl x hx))
  simp [c_relate_Remove, r_relate_Remove]
  refine callW_imm hC ?_
  simp [dropR]
theorem fn_Forget_1 (x : Ln) (u : Str) (fx : FitX x) : Fn G Tryz.prog k_relate_Forget_1 [x.iv, .ref [.int .u8 0, .str u], .ref [.int .u8 3, .str u]] (.bool (toldB (0, u) x || toldB (3, u) x)) := by
  refine fn_intro hm ok_relate_Forget_1 (by simp) ?_
  have h1 := fn_told (0, u) x fx
  have h2 := fn_told (3, u) x fx
  simp only [Ln.iv] at h1 h2
  simp [c_relate_Forget_1, r_relate_Forget_1, Ln.iv]
  refine callW_imm h1 ?_
  cases q1 : toldB (0, u) x with
  | true => simp (disch := omega) [br_yes, br_no, wrap_i64, wrap_u8, wrap_i32, List.getElem?_cons_zero, List.getElem?_cons_succ]
  | false =>
    simp (disch := omega) [br_yes, br_no, wrap_i64, wrap_u8, wrap_i32, List.getElem?_cons_zero, List.getElem?_cons_succ]
    refine callW_imm h2 ?_
    simp (disch := omega) [br_yes, br_no, wrap_i64, wrap_u8, wrap_i32, List.getElem?_cons_zero, List.getElem?_cons_succ]
theorem fn_forgR (l : List Ln) (u : Str) (hl : l.length < 100000) (fl : FitL l) : Fn G Tryz.prog k_relate_Forget [.slice (ls l), .str u] (.slice (ls (forgR l u))) := by
  refine fn_intro hm ok_relate_Forget (by simp) ?_
  have hC := fn_withoutF l k_relate_Forget_1 [.ref [.int .u8 0, .str u], .ref [.int .u8 3, .str u]] (fun x => toldB (0, u) x || toldB (3, u) x) hl fl (fun x hx => fn_Forget_1 x u (fl x hx))
  simp [c_relate_Forget, r_relate_Forget]
  refine callW_imm hC ?_
  simp [forgR]
theorem fn_allR (l : List Ln) (k : Int) (hl : l.length < 100000) (fl : FitL l) : Fn G Tryz.prog k_relate_All [.slice (ls l), .int .u8 k] (.slice (ts (allR l k))) := by
  refine fn_intro hm ok_relate_All (by simp) ?_
  obtain ⟨R, hR⟩ : ∃ R, allR l k = R := ⟨_, rfl⟩
  rw [hR]
  simp [c_relate_All, r_relate_All, ls_len]
  refine loopU hm [] (fun x : Nat × List Str => [(12, .val (.int .i64 x.1)), (5, .own 5 x.2.length)]) (fun x => [(5, .arr x.2.length 1 (ts x.2))]) (fun x => x.1 ≤ l.length ∧ x.2.length ≤ x.1 ∧ x.2 ++ allR (l.drop x.1) k = R) (fun x => l.length - x.1) (0, []) ⟨by simp, by simp, by simpa using hR⟩ ?_ ?_
  · simp [ts]
    exact Weak.trans (weak_adopt (k := 5) 5 1 (by simp) (by simp [getE, look])) (weak_drop rfl rfl (by simp [St.adopt, EnvLe, getE, look, put, eraseE, SV.erase]) (by simp [St.adopt, ObLe, look, put, eraseO, Ob.erase]) (by simp [St.adopt, roOk]))
  rintro ⟨i, out⟩ ⟨h1, h2, h3⟩
  simp only at h1 h2 h3
  simp [ls_len]
  by_cases h : i < l.length
  · obtain ⟨x, hx⟩ : ∃ x, l[i] = x := ⟨_, rfl⟩
    have hxm : x ∈ l := hx ▸ List.getElem_mem h
    have hg := ls_get h hx
    have hRd := fn_Read x (fl x hxm)
    obtain ⟨⟨⟨k', u⟩, e⟩, hr⟩ : ∃ p, relR x = p := ⟨_, rfl⟩
    have hstep : allR (l.drop i) k = if e = 0 ∧ k' = k then u :: allR (l.drop (i + 1)) k else allR (l.drop (i + 1)) k := by
      rw [List.drop_eq_getElem_cons h, hx]
      unfold allR
      rw [List.filter_cons, hr]
      by_cases hc : e = 0 ∧ k' = k
      · rw [if_pos (by simp [hc]), if_pos hc, List.map_cons, hr]
      · rw [if_neg (by simpa using hc), if_neg hc]
    rw [hstep] at h3
    rw [hr] at hRd
    simp only [relRI, Ln.iv] at hRd
    simp (disch := omega) [br_yes, br_no, wrap_i64, wrap_u8, wrap_i32, List.getElem?_cons_zero, List.getElem?_cons_succ, ls_len, hg]
    refine callW_imm hRd ?_
    by_cases c1 : e = 0
    · by_cases c2 : k' = k
      · rw [if_pos ⟨c1, c2⟩] at h3
        have e2 : ts (out ++ [u]) = ts out ++ [[.str u]] := by simp [ts]
        simp (disch := omega) [br_yes, br_no, wrap_i64, wrap_u8, wrap_i32, List.getElem?_cons_zero, List.getElem?_cons_succ, c1, c2, ts_len]
        refine ⟨by omega, ?_⟩
        refine loopEnd (i + 1, out ++ [u]) ⟨by simp; omega, by simp; omega, by simpa using h3⟩ (by simp; omega) ?_
        simp [e2]
        exact weak_drop rfl rfl (by simp [EnvLe, getE, look]) (by simp [ObLe, look]) (by simp [roOk])
      · rw [if_neg (fun h => c2 h.2)] at h3
        simp (disch := omega) [br_yes, br_no, wrap_i64, wrap_u8, wrap_i32, List.getElem?_cons_zero, List.getElem?_cons_succ, c1, c2]
        refine loopEnd (i + 1, out) ⟨by simp; omega, by simp; omega, h3⟩ (by simp; omega) ?_
        simp
        exact weak_drop rfl rfl (by simp [EnvLe, getE, look, c2]) (by simp [ObLe, look]) (by simp [roOk])
    · rw [if_neg (fun h => c1 h.1)] at h3
      simp (disch := omega) [br_yes, br_no, wrap_i64, wrap_u8, wrap_i32, List.getElem?_cons_zero, List.getElem?_cons_succ, c1]
      refine loopEnd (i + 1, out) ⟨by simp; omega, by simp; omega, h3⟩ (by simp; omega) ?_
      simp
      exact weak_drop rfl rfl (by simp [EnvLe, getE, look, c1]) (by simp [ObLe, look]) (by simp [roOk])
  · have e : l.drop i = [] := List.drop_eq_nil_of_le (by omega)
    rw [e] at h3
    have h3 : out = R := by simpa [allR] using h3
    subst h3
    simp (disch := omega) [br_yes, br_no, wrap_i64, wrap_u8, wrap_i32, List.getElem?_cons_zero, List.getElem?_cons_succ, ls_len]
theorem fn_SameTexts (a b : List Str) (ha : a.length < 1000000) (hb : b.length < 1000000) : Fn G Tryz.prog k_ref28_SameTexts [.slice (ts a), .slice (ts b)] (.bool (decide (a = b))) := by
  refine fn_intro hm ok_ref28_SameTexts (by simp) ?_
  simp [c_ref28_SameTexts, r_ref28_SameTexts, ts_len]
  by_cases hl : a.length = b.length
  · simp (disch := omega) [br_yes, br_no, wrap_i64, wrap_u8, wrap_i32, List.getElem?_cons_zero, List.getElem?_cons_succ, ts_len, hl]
    refine loopU hm [] (fun i : Nat => [(5, .val (.int .i64 i))]) (fun _ => []) (fun i => i ≤ a.length ∧ a.take i = b.take i) (fun i => a.length - i) 0 ⟨by omega, by simp⟩ ?_ ?_
    · simp
      exact weak_drop rfl rfl (by simp [EnvLe, getE, look]) (by simp [ObLe, look]) (by simp [roOk])
    rintro i ⟨hi, hn⟩
    simp [ts_len]
    by_cases h : i < a.length
    · have h' : i < b.length := by omega
      obtain ⟨x, hx⟩ : ∃ x, a[i] = x := ⟨_, rfl⟩
      obtain ⟨y, hy⟩ : ∃ y, b[i] = y := ⟨_, rfl⟩
      have hg := ts_get h hx
      have hg' := ts_get h' hy
      by_cases e : x = y
      · simp (disch := omega) [br_yes, br_no, wrap_i64, wrap_u8, wrap_i32, List.getElem?_cons_zero, List.getElem?_cons_succ, ts_len, hg, hg', e]
        refine loopEnd (i + 1) ⟨by omega, by rw [List.take_succ_eq_append_getElem h, List.take_succ_eq_append_getElem h', hn, hx, hy, e]⟩ (by omega) ?_
        simp
        exact weak_drop rfl rfl (by simp [EnvLe, getE, look]) (by simp [ObLe, look]) (by simp [roOk])
      · have hne : ¬ a = b := fun he => e (by subst he; rw [← hx, ← hy])
        rw [decide_eq_false hne]
        simp (disch := omega) [br_yes, br_no, wrap_i64, wrap_u8, wrap_i32, List.getElem?_cons_zero, List.getElem?_cons_succ, ts_len, hg, hg', e]
    · obtain rfl : i = a.length := by omega
      have : a = b := by
        rw [List.take_length, hl, List.take_length] at hn
        exact hn
      rw [decide_eq_true this]
      simp (disch := omega) [br_yes, br_no, wrap_i64, wrap_u8, wrap_i32, List.getElem?_cons_zero, List.getElem?_cons_succ, ts_len, hl]
  · have hne : ¬ a = b := fun he => hl (by rw [he])
    rw [decide_eq_false hne]
    simp (disch := omega) [br_yes, br_no, wrap_i64, wrap_u8, wrap_i32, List.getElem?_cons_zero, List.getElem?_cons_succ, ts_len, hl]
end Go.Vs.YtbchceojmblkkaaGreatDoor
