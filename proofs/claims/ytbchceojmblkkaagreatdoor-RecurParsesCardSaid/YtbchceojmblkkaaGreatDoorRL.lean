/- The walk of recur: what is wrong with a rule. No conditions. -/
import Derived.Test.YtbchceojmblkkaaGreatDoorRJ
set_option linter.unusedVariables false
set_option linter.unusedSimpArgs false
namespace Go.Vs.U8
end Go.Vs.U8
namespace Go.Vs.Pa
end Go.Vs.Pa
namespace Go.Vs.Cv
end Go.Vs.Cv
namespace Go.Vs.Mo
end Go.Vs.Mo
namespace Go.Vs.Nu
end Go.Vs.Nu
namespace Go.Vs.YtbchceojmblkkaaGreatDoor.Rc
set_option linter.unusedSimpArgs false
set_option linter.unusedVariables false
open Go.Proofs Go.Vs.U8 Go.Vs.Pa Go.Vs.Cv Go.Vs.Mo Go.Vs.Nu
set_option maxRecDepth 100000
set_option maxHeartbeats 16000000
theorem fn_ddays (l : List Dn) (hl : l.length < 1000000) : Fn G2 Tryz.prog k_ref21_days [.slice (dns l)] (.int .i64 (soundD l)) := by
 refine fn_intro hm ok_ref21_days (by simp) ?_
 obtain ⟨R, hR⟩ : ∃ R, soundD l = R := ⟨_, rfl⟩
 rw [hR]
 unfold soundD at hR
 simp [c_ref21_days, r_ref21_days, dns_len]
 by_cases h0 : 12 < l.length
 ·rw [if_pos h0] at hR
  subst hR
  simp (disch := omega) [wl, dns_len]
 ·rw [if_neg h0] at hR
  simp (disch := omega) [wl, dns_len]
  refine loopU hm [] (fun i : Nat => [(3, .val (.int .i64 i))]) (fun _ => []) (fun i => i ≤ l.length ∧ (l.drop i).any outD = l.any outD) (fun i => l.length - i) 0 ⟨by omega, by simp⟩ ?_ ?_
  ·simp
   exact wdr
  rintro i ⟨hq, hc⟩
  simp [dns_len]
  by_cases h : i < l.length
  ·obtain ⟨x, hx⟩ : ∃ x, l[i] = x := ⟨_, rfl⟩
   have hg := dns_get h hx
   rw [any_at h hx] at hc
   have next : outD x = false → (l.drop (i + 1)).any outD = l.any outD := fun e => by rw [← hc, e, Bool.false_or]
   have bad : outD x = true → R = 8 := fun e => by
    rw [← hc, e, Bool.true_or, if_pos rfl] at hR
    exact hR.symm
   by_cases a1 : x.2 < 0
   ·have := bad (by simp [outD]; omega)
    subst this
    simp (disch := omega) [wl, dns_len, hg, a1]
   ·by_cases a2 : 6 < x.2
    ·have := bad (by simp [outD]; omega)
     subst this
     simp (disch := omega) [wl, dns_len, hg, a1, a2]
    ·by_cases a3 : x.1 < -53
     ·have := bad (by simp [outD]; omega)
      subst this
      simp (disch := omega) [wl, dns_len, hg, a1, a2, a3]
     ·by_cases a4 : 53 < x.1
      ·have := bad (by simp [outD]; omega)
       subst this
       simp (disch := omega) [wl, dns_len, hg, a1, a2, a3, a4]
      ·have hn := next (by simp [outD]; omega)
       simp (disch := omega) [wl, dns_len, hg, a1, a2, a3, a4]
       refine loopEnd (i + 1) ⟨by omega, hn⟩ (by omega) ?_
       simp
       exact wdr
  ·obtain rfl : i = l.length := by omega
   rw [List.drop_length] at hc
   rw [← hc, if_neg (by simp)] at hR
   simp (disch := omega) [wl, dns_len]
   refine loopU hm [] (fun i : Nat => [(4, .val (.int .i64 i))]) (fun _ => []) (fun i => i ≤ l.length ∧ (l.take i).Nodup) (fun i => l.length - i) 0 ⟨by omega, by simp⟩ ?_ ?_
   ·simp
    exact wdr
   rintro i ⟨hq, hc⟩
   simp [dns_len]
   by_cases h : i < l.length
   ·obtain ⟨x, hx⟩ : ∃ x, l[i] = x := ⟨_, rfl⟩
    have hg := dns_get h hx
    simp (disch := omega) [wl, dns_len]
    refine loopU hm [] (fun j : Nat => [(5, .val (.int .i64 j))]) (fun _ => []) (fun j => j ≤ i ∧ x ∉ l.take j) (fun j => i - j) 0 ⟨by omega, by simp⟩ ?_ ?_
    ·simp
     exact wdr
    rintro j ⟨hj, hn⟩
    simp
    by_cases h5 : j < i
    ·obtain ⟨y, hy⟩ : ∃ y, l[j] = y := ⟨_, rfl⟩
     have hgy := dns_get (by omega : j < l.length) hy
     by_cases e1 : y.1 = x.1
     ·by_cases e2 : y.2 = x.2
      ·have e : y = x := Prod.ext e1 e2
       have hin : x ∈ l.take i := by
        rw [List.mem_take_iff_getElem]
        exact ⟨j, by omega, by rw [hy, e]⟩
       rw [if_neg (nd_bad h hx hin)] at hR
       subst hR
       simp (disch := omega) [wl, dns_len, hg, hgy, e1, e2]
      ·have hne : ¬ x = y := fun e => e2 (by rw [e])
       simp (disch := omega) [wl, dns_len, hg, hgy, e1, e2]
       refine loopEnd (j + 1) ⟨by omega, take_no (by omega) hy hn hne⟩ (by omega) ?_
       simp
       exact weak_drop rfl rfl (by simp [EnvLe, getE, look, e1]) (by simp [ObLe, look, e1]) (by simp [roOk])
     ·have hne : ¬ x = y := fun e => e1 (by rw [e])
      simp (disch := omega) [wl, dns_len, hg, hgy, e1]
      refine loopEnd (j + 1) ⟨by omega, take_no (by omega) hy hn hne⟩ (by omega) ?_
      simp
      exact wdr
    ·obtain rfl : j = i := by omega
     simp (disch := omega) [wl]
     refine loopEnd (j + 1) ⟨by omega, nd_step h hx hc hn⟩ (by omega) ?_
     simp
     exact wdr
   ·obtain rfl : i = l.length := by omega
    rw [List.take_length] at hc
    rw [if_pos hc] at hR
    subst hR
    simp (disch := omega) [wl, dns_len]
def cells (r : Ru) : List IV := [.int .u8 r.f, .int .i64 r.i, .int .i64 r.c, .int .u8 r.u.k, .int .i64 r.u.s, .slice (is r.l4), .slice (is r.l5), .slice (is r.l6), .slice (dns r.l7), .slice (is r.l8), .slice (is r.l9), .slice (is r.l10), .slice (is r.l11), .slice (is r.l12), .int .i64 r.w]
def Ru.iv (r : Ru) : IV := .agg (cells r)
def untR (r : Ru) : Int := if r.u.k = 0 then (if r.u.s ≠ 0 then 2 else 0) else if momC r.u ≠ 0 then momC r.u else if 0 < r.c then 9 else 0
theorem fn_until' (r : Ru) (hk : 0 ≤ r.u.k) : Fn G2 Tryz.prog k_ref21_until [r.iv] (.int .i64 (untR r)) := by
 refine fn_intro hm ok_ref21_until (by simp) ?_
 have hC := fn_dCheck r.u hk
 unfold untR Ru.iv cells
 simp [c_ref21_until, r_ref21_until]
 by_cases h0 : r.u.k = 0
 ·rw [if_pos h0]
  by_cases h1 : r.u.s = 0
  ·rw [if_pos h1]
   simp (disch := omega) [wl, h0, h1]
  ·rw [if_neg h1]
   simp (disch := omega) [wl, h0, h1]
 ·rw [if_neg h0]
  obtain ⟨e, he⟩ : ∃ e, momC r.u = e := ⟨_, rfl⟩
  unfold moI at hC
  rw [he] at hC ⊢
  simp (disch := omega) [wl, h0]
  refine callW_imm hC ?_
  by_cases h1 : e = 0
  ·subst h1
   by_cases h2 : 0 < r.c
   ·simp (disch := omega) [wl, h2]
   ·simp (disch := omega) [wl, h2]
  ·simp (disch := omega) [wl, h1]
theorem fn_head (r : Ru) (hk : 0 ≤ r.u.k) : Fn G2 Tryz.prog k__errand_recur_Rule_head [.ref (cells r)] (.int .i64 (headR r)) := by
 refine fn_intro hm ok__errand_recur_Rule_head (by simp) ?_
 have hC := fn_mCheck r.u hk
 have hW := up (fn_WeekdayName r.w)
 have hwn := wk_nil r.w
 obtain ⟨t, ht⟩ : ∃ t, wkN r.w = t := ⟨_, rfl⟩
 rw [ht] at hW hwn
 obtain ⟨R, hR⟩ : ∃ R, headR r = R := ⟨_, rfl⟩
 rw [hR]
 unfold headR at hR
 unfold cells
 simp [c__errand_recur_Rule_head, r__errand_recur_Rule_head]
 by_cases h0 : 6 < r.f
 ·rw [if_pos h0] at hR
  subst hR
  simp (disch := omega) [wl, h0]
 ·rw [if_neg h0] at hR
  by_cases a1 : r.i < 1
  ·rw [if_pos (by omega)] at hR
   subst hR
   simp (disch := omega) [wl, h0, a1]
  ·by_cases a2 : 1000 < r.i
   ·rw [if_pos (by omega)] at hR
    subst hR
    simp (disch := omega) [wl, h0, a1, a2]
   ·by_cases a3 : r.c < 0
    ·rw [if_pos (by omega)] at hR
     subst hR
     simp (disch := omega) [wl, h0, a1, a2, a3]
    ·by_cases a4 : 1000 < r.c
     ·rw [if_pos (by omega)] at hR
      subst hR
      simp (disch := omega) [wl, h0, a1, a2, a3, a4]
     ·simp (disch := omega) [wl, h0, a1, a2, a3, a4]
      refine callW_imm hW ?_
      by_cases a5 : t = []
      ·have := hwn.1 a5
       rw [if_pos (by omega)] at hR
       subst hR
       simp (disch := omega) [wl, a5]
      ·have a5' : ¬ (r.w < 0 ∨ 6 < r.w) := fun e => a5 (hwn.2 e)
       rw [if_neg (by omega)] at hR
       simp (disch := omega) [wl, a5]
       unfold moI at hC
       by_cases b1 : r.u.k = 0
       ·by_cases b2 : r.u.s = 0
        ·have hu : r.u = ⟨0, 0⟩ := by
          cases hru : r.u with
          | mk x y =>
           rw [hru] at b1 b2
           simp only at b1 b2
           rw [b1, b2]
         rw [if_pos hu] at hR
         subst hR
         simp (disch := omega) [wl, b1, b2]
        ·have hu : ¬ r.u = ⟨0, 0⟩ := fun e => b2 (by rw [e])
         rw [if_neg hu, if_pos b1] at hR
         subst hR
         simp (disch := omega) [wl, b1, b2]
       ·have hu : ¬ r.u = ⟨0, 0⟩ := fun e => b1 (by rw [e])
        rw [if_neg hu, if_neg b1] at hR
        obtain ⟨e, he⟩ : ∃ e, momC r.u = e := ⟨_, rfl⟩
        rw [he] at hC hR
        simp (disch := omega) [wl, b1]
        refine callW_imm hC ?_
        by_cases h1 : e = 0
        ·subst h1
         rw [if_neg (by simp)] at hR
         by_cases h2 : 0 < r.c
         ·rw [if_pos h2] at hR
          subst hR
          simp (disch := omega) [wl, h2]
         ·rw [if_neg h2] at hR
          subst hR
          simp (disch := omega) [wl, h2]
        ·rw [if_pos h1] at hR
         subst hR
         simp (disch := omega) [wl, h1]
theorem k8 {k : Nat} (h : k ∈ listKs) (h7 : k ≠ 7) : k = 4 ∨ k = 5 ∨ k = 6 ∨ k = 8 ∨ k = 9 ∨ k = 10 ∨ k = 11 ∨ k = 12 := by
 simp only [listKs, List.mem_cons, List.not_mem_nil, or_false] at h
 omega
theorem fn_rlist (r : Ru) (k : Nat) (h : k ∈ listKs) (h7 : k ≠ 7) : Fn G2 Tryz.prog k__errand_recur_Rule_list [.ref (cells r), .int .i64 k] (.ref ((cells r).drop (k + 1))) := by
 refine fn_intro hm ok__errand_recur_Rule_list (by simp) ?_
 unfold cells
 simp [c__errand_recur_Rule_list, r__errand_recur_Rule_list]
 rcases k8 h h7 with rfl | rfl | rfl | rfl | rfl | rfl | rfl | rfl <;>
 ·simp (disch := omega) [wl]
theorem drop_at (r : Ru) (k : Nat) (h : k ∈ listKs) (h7 : k ≠ 7) : ∃ l, (cells r).drop (k + 1) = .slice (is (lst r k)) :: l := by
 rcases k8 h h7 with rfl | rfl | rfl | rfl | rfl | rfl | rfl | rfl <;> exact ⟨_, rfl⟩
def FitR (r : Ru) : Prop := r.l4.length < 100000 ∧ r.l5.length < 100000 ∧ r.l6.length < 100000 ∧ r.l7.length < 100000 ∧ r.l8.length < 100000 ∧ r.l9.length < 100000 ∧ r.l10.length < 100000 ∧ r.l11.length < 100000 ∧ r.l12.length < 100000
theorem fit_at {r : Ru} (hf : FitR r) {k : Nat} (h : k ∈ listKs) (h7 : k ≠ 7) : (lst r k).length < 100000 := by
 obtain ⟨h4, h5, h6, _, h8, h9, h10, h11, h12⟩ := hf
 rcases k8 h h7 with rfl | rfl | rfl | rfl | rfl | rfl | rfl | rfl <;> assumption
def accO (r : Ru) (k : Nat) : Nat := r.l7.length + (if 4 < k then r.l4.length else 0) + (if 5 < k then r.l5.length else 0) + (if 6 < k then r.l6.length else 0) + (if 8 < k then r.l8.length else 0) + (if 9 < k then r.l9.length else 0) + (if 10 < k then r.l10.length else 0) + (if 11 < k then r.l11.length else 0)
theorem acc_step (r : Ru) {k : Nat} (h : k ∈ listKs) (h12 : k < 12) : accO r (k + 1) = accO r k + (if k = 7 then 0 else (lst r k).length) := by
 simp only [listKs, List.mem_cons, List.not_mem_nil, or_false] at h
 have h : k = 4 ∨ k = 5 ∨ k = 6 ∨ k = 7 ∨ k = 8 ∨ k = 9 ∨ k = 10 ∨ k = 11 := by omega
 rcases h with rfl | rfl | rfl | rfl | rfl | rfl | rfl | rfl <;> simp [accO, lst] <;> omega
theorem acc_le {r : Ru} (hf : FitR r) (k : Nat) : accO r k < 1000000 := by
 obtain ⟨h4, h5, h6, h7, h8, h9, h10, h11, h12⟩ := hf
 unfold accO
 repeat' split
 all_goals omega
end Go.Vs.YtbchceojmblkkaaGreatDoor.Rc
namespace Go.Vs.YtbchceojmblkkaaGreatDoor.Rc
set_option linter.unusedSimpArgs false
set_option linter.unusedVariables false
open Go.Proofs Go.Vs.U8 Go.Vs.Pa Go.Vs.Cv Go.Vs.Mo Go.Vs.Nu
set_option maxRecDepth 100000
set_option maxHeartbeats 16000000
theorem fn_fits (r : Ru) (hf : FitR r) : Fn G2 Tryz.prog k__errand_recur_Rule_fits [.ref (cells r)] (.bool (decide (¬ badF r))) := by
 refine fn_intro hm ok__errand_recur_Rule_fits (by simp) ?_
 have hN := fn_ContainsFuncD r.l7 (by have := hf.2.2.2.1; omega)
 obtain ⟨N, hNe⟩ : ∃ N, numbered r.l7 = N := ⟨_, rfl⟩
 rw [hNe] at hN
 obtain ⟨R, hR⟩ : ∃ R, decide (¬ badF r) = R := ⟨_, rfl⟩
 rw [hR]
 have hbad : badF r → R = false := fun h => by rw [← hR]; simpa using h
 have hgood : ¬ badF r → R = true := fun h => by rw [← hR]; simpa using h
 unfold badF at hbad hgood
 rw [hNe] at hbad hgood
 have hacc := acc_le hf
 have hoth : others r = accO r 12 := by simp [others, accO]
 rw [hoth] at hbad hgood
 have hfit := @fit_at r hf
 simp [c__errand_recur_Rule_fits, r__errand_recur_Rule_fits, cells]
 refine callW_imm hN ?_
 simp (disch := omega) [wl]
 refine cutW hm (fun _ : Unit => ⟨[(0, .val (.ref (cells r)))], [], [], 109, G2⟩) (fun _ => ¬ (N = true ∧ (r.f < 5 ∨ 0 < r.l10.length))) (fun _ => rfl) ?_ ?_
 ·by_cases c1 : N = true ∧ (r.f < 5 ∨ 0 < r.l10.length)
  ·have := hbad (.inl c1)
   subst this
   obtain ⟨rfl, c2⟩ := c1
   by_cases c3 : r.f < 5
   ·simp (disch := omega) [wl, c3]
   ·have c4 := c2.resolve_left c3
    simp (disch := omega) [wl, c3, is_len, c4]
  ·cases N with
   | false =>
    simp (disch := omega) [wl]
    refine joinEnd () c1 ?_
    exact weak_drop rfl rfl (by simp [EnvLe, getE, look, cells]) (by simp [ObLe, look]) (by simp [roOk])
   | true =>
    have c3 : ¬ r.f < 5 := fun h => c1 ⟨rfl, .inl h⟩
    have c4 : ¬ 0 < r.l10.length := fun h => c1 ⟨rfl, .inr h⟩
    simp (disch := omega) [wl, c3, is_len, c4]
    refine joinEnd () c1 ?_
    exact weak_drop rfl rfl (by simp [EnvLe, getE, look, cells]) (by simp [ObLe, look]) (by simp [roOk])
 intro _ d1
 simp [cells]
 refine cutW hm (fun _ : Unit => ⟨[(0, .val (.ref (cells r)))], [], [], 109, G2⟩) (fun _ => ¬ (0 < r.l8.length ∧ r.f = 4) ∧ ¬ (0 < r.l10.length ∧ r.f ≠ 6)) (fun _ => rfl) ?_ ?_
 ·by_cases c1 : 0 < r.l8.length
  ·by_cases c2 : r.f = 4
   ·have := hbad (.inr (.inl ⟨c1, c2⟩))
    subst this
    simp (disch := omega) [wl, is_len, c1, c2]
   ·by_cases c3 : 0 < r.l10.length
    ·by_cases c4 : r.f = 6
     ·simp (disch := omega) [wl, is_len, c1, c2, c3, c4]
      refine joinEnd () ⟨fun h => by omega, fun h => by omega⟩ ?_
      exact weak_drop rfl rfl (by simp [EnvLe, getE, look, cells, c4]) (by simp [ObLe, look]) (by simp [roOk])
     ·have := hbad (.inr (.inr (.inl ⟨c3, c4⟩)))
      subst this
      simp (disch := omega) [wl, is_len, c1, c2, c3, c4]
    ·simp (disch := omega) [wl, is_len, c1, c2, c3]
     refine joinEnd () ⟨fun h => by omega, fun h => by omega⟩ ?_
     exact weak_drop rfl rfl (by simp [EnvLe, getE, look, cells]) (by simp [ObLe, look]) (by simp [roOk])
  ·by_cases c3 : 0 < r.l10.length
   ·by_cases c4 : r.f = 6
    ·simp (disch := omega) [wl, is_len, c1, c3, c4]
     refine joinEnd () ⟨fun h => by omega, fun h => by omega⟩ ?_
     exact weak_drop rfl rfl (by simp [EnvLe, getE, look, cells, c4]) (by simp [ObLe, look]) (by simp [roOk])
    ·have := hbad (.inr (.inr (.inl ⟨c3, c4⟩)))
     subst this
     simp (disch := omega) [wl, is_len, c1, c3, c4]
   ·simp (disch := omega) [wl, is_len, c1, c3]
    refine joinEnd () ⟨fun h => by omega, fun h => by omega⟩ ?_
    exact weak_drop rfl rfl (by simp [EnvLe, getE, look, cells]) (by simp [ObLe, look]) (by simp [roOk])
 rintro _ ⟨d2, d3⟩
 simp [cells]
 refine cutW hm (fun _ : Unit => ⟨[(0, .val (.ref (cells r)))], [], [], 109, G2⟩) (fun _ => ¬ (0 < r.l9.length ∧ (r.f = 3 ∨ r.f = 4 ∨ r.f = 5))) (fun _ => rfl) ?_ ?_
 ·by_cases c1 : 0 < r.l9.length
  ·by_cases c2 : r.f = 3
   ·have := hbad (.inr (.inr (.inr (.inl ⟨c1, .inl c2⟩))))
    subst this
    simp (disch := omega) [wl, is_len, c1, c2]
   ·by_cases c3 : r.f = 4
    ·have := hbad (.inr (.inr (.inr (.inl ⟨c1, .inr (.inl c3)⟩))))
     subst this
     simp (disch := omega) [wl, is_len, c1, c2, c3]
    ·by_cases c4 : r.f = 5
     ·have := hbad (.inr (.inr (.inr (.inl ⟨c1, .inr (.inr c4)⟩))))
      subst this
      simp (disch := omega) [wl, is_len, c1, c2, c3, c4]
     ·simp (disch := omega) [wl, is_len, c1, c2, c3, c4]
      refine joinEnd () (fun h => by omega) ?_
      exact weak_drop rfl rfl (by simp [EnvLe, getE, look, cells]) (by simp [ObLe, look]) (by simp [roOk])
  ·simp (disch := omega) [wl, is_len, c1]
   refine joinEnd () (fun h => by omega) ?_
   exact weak_drop rfl rfl (by simp [EnvLe, getE, look, cells]) (by simp [ObLe, look]) (by simp [roOk])
 intro _ d4
 by_cases c1 : r.l12.length = 0
 ·have := hgood (fun h => by rcases h with h | h | h | h | h <;> first | exact d1 h | exact d2 h | exact d3 h | exact d4 h | omega)
  subst this
  have c2 : r.l12 = [] := List.eq_nil_of_length_eq_zero c1
  simp (disch := omega) [wl, cells, is_len, c1]
 ·have hgo : R = decide (0 < accO r 12) := by
   by_cases h : accO r 12 = 0
   ·rw [hbad (.inr (.inr (.inr (.inr ⟨by omega, h⟩))))]
    simp [h]
   ·rw [hgood (fun h' => by rcases h' with h' | h' | h' | h' | h' <;> first | exact d1 h' | exact d2 h' | exact d3 h' | exact d4 h' | omega)]
    simp; omega
  simp (disch := omega) [wl, cells, is_len, dns_len, c1]
  refine loopU hm [] (fun k : Nat => [(5, .val (.int .i64 k)), (4, .val (.int .i64 (accO r k : Nat))), (0, .val (.ref (cells r)))]) (fun _ => []) (fun k => 4 ≤ k ∧ k ≤ 12) (fun k => 12 - k) 4 ⟨by omega, by omega⟩ ?_ ?_
  ·simp [accO, cells]
   exact wdr
  rintro k ⟨k1, k2⟩
  simp
  by_cases h : k < 12
  ·have hk : k ∈ listKs := by simp [listKs]; omega
   have hstep := acc_step r hk h
   have ha := hacc k
   by_cases h7 : k = 7
   ·rw [if_pos h7] at hstep
    simp (disch := omega) [wl, h7]
    refine loopEnd (k + 1) ⟨by omega, by omega⟩ (by omega) ?_
    simp [hstep]
    subst h7
    exact wdr
   ·rw [if_neg h7] at hstep
    obtain ⟨rest, hd⟩ := drop_at r k hk h7
    have hL := fn_rlist r k hk h7
    have hfk := hfit hk h7
    rw [hd] at hL
    have ha' := hacc (k + 1)
    simp (disch := omega) [wl, h7]
    refine callW_imm hL ?_
    simp (disch := omega) [wl, is_len]
    refine loopEnd (k + 1) ⟨by omega, by omega⟩ (by omega) ?_
    simp [hstep]
    exact wdr
  ·obtain rfl : k = 12 := by omega
   subst hgo
   simp (disch := omega) [wl]
theorem firstE_drop (r : Ru) {k : Nat} (h : k ∈ listKs) : firstE ((listKs.drop (k - 4)).map (sndAt r)) = if sndAt r k = 0 then firstE ((listKs.drop (k - 3)).map (sndAt r)) else sndAt r k := by
 simp only [listKs, List.mem_cons, List.not_mem_nil, or_false] at h
 rcases h with rfl | rfl | rfl | rfl | rfl | rfl | rfl | rfl | rfl <;> rfl
theorem wi_at (k : Nat) : 0 ≤ wlo k ∧ wlo k ≤ 1 ∧ wlo k ≤ whi k ∧ 0 ≤ whi k ∧ whi k ≤ 1000 := by
 unfold wlo whi
 split <;> split <;> omega
def bxs (r : Ru) : List SV := [.val (.int .u8 r.f), .val (.int .i64 r.i), .val (.int .i64 r.c), .val (.int .u8 r.u.k), .val (.int .i64 r.u.s), .val (.slice (is r.l4)), .val (.slice (is r.l5)), .val (.slice (is r.l6)), .val (.slice (dns r.l7)), .val (.slice (is r.l8)), .val (.slice (is r.l9)), .val (.slice (is r.l10)), .val (.slice (is r.l11)), .val (.slice (is r.l12)), .val (.int .i64 r.w)]
theorem fn_Check' (r : Ru) (hf : FitR r) (hk : 0 ≤ r.u.k) : Fn G2 Tryz.prog k_recur_Check [r.iv] (.int .i64 (checkR r)) := by
 refine fn_intro hm ok_recur_Check (by simp) ?_
 have hH := fn_head r hk
 have hF := fn_fits r hf
 obtain ⟨R, hR⟩ : ∃ R, checkR r = R := ⟨_, rfl⟩
 rw [hR]
 unfold checkR at hR
 obtain ⟨e, he⟩ : ∃ e, headR r = e := ⟨_, rfl⟩
 rw [he] at hH hR
 unfold Ru.iv
 unfold cells at hH hF
 simp [c_recur_Check, r_recur_Check, cells]
 refine callW_imm hH ?_
 by_cases h0 : e = 0
 ·subst h0
  rw [if_neg (by simp)] at hR
  simp (disch := omega) [wl]
  obtain ⟨F, hFe⟩ : ∃ F, firstE (listKs.map (sndAt r)) = F := ⟨_, rfl⟩
  rw [hFe] at hR
  have hfit := @fit_at r hf
  have f7 := hf.2.2.2.1
  refine loopW hm (fun k : Nat => ⟨[(4, .val (.int .i64 k)), (3, .val (.int .i64 0)), (2, .val (.int .i64 0)), (1, .loc 1 0)], [(1, .box (bxs r))], [1], 31, G2⟩) (fun k => 4 ≤ k ∧ k ≤ 13 ∧ firstE ((listKs.drop (k - 4)).map (sndAt r)) = F) (fun k => 13 - k) 4 ⟨by omega, by omega, by simpa using hFe⟩ ?_ (fun _ => rfl) ?_
  ·simp [bxs]
   exact wdr
  rintro k ⟨k1, k2, hc⟩
  simp [bxs]
  by_cases h : k ≤ 12
  ·have hk' : k ∈ listKs := by simp [listKs]; omega
   rw [firstE_drop r hk'] at hc
   obtain ⟨e, he⟩ : ∃ e, sndAt r k = e := ⟨_, rfl⟩
   rw [he] at hc
   have next : e = 0 → firstE ((listKs.drop (k + 1 - 4)).map (sndAt r)) = F := fun h0 => by
    rw [if_pos h0] at hc
    rw [show k + 1 - 4 = k - 3 by omega]
    exact hc
   have bad : e ≠ 0 → R = e := fun h0 => by
    rw [if_neg h0] at hc
    subst hc
    rw [if_pos h0] at hR
    exact hR.symm
   by_cases h7 : k = 7
   ·subst h7
    have he' : soundD r.l7 = e := he
    have hS := fn_soundDays r.l7 (by omega)
    rw [he'] at hS
    simp (disch := omega) [wl]
    refine callW_imm hS ?_
    by_cases he0 : e = 0
    ·have hn := next he0
     subst he0
     simp (disch := omega) [wl]
     refine loopEnd 8 ⟨by omega, by omega, hn⟩ (by omega) ?_
     simp [bxs]
     exact wdr
    ·have := bad he0
     subst this
     simp (disch := omega) [wl, he0]
   ·have he' : soundL (wlo k) (whi k) (wsg k) (lst r k) = e := by unfold sndAt at he; rwa [if_neg h7] at he
    obtain ⟨rest, hd⟩ := drop_at r k hk' h7
    have hL := fn_rlist r k hk' h7
    have hfk := hfit hk' h7
    rw [hd] at hL
    unfold cells at hL
    obtain ⟨w1, w2, w3, w4, w5⟩ := wi_at k
    have hW := fn_within k (by omega)
    have hS := fn_sound (lst r k) (wlo k) (whi k) (wsg k) (by omega) w1 w2 w4 w5
    rw [he'] at hS
    unfold wiI at hW
    simp (disch := omega) [wl, h7]
    refine callW_imm hL ?_
    simp (disch := omega) [wl]
    refine callW_imm hW ?_
    simp (disch := omega) [wl]
    refine callW_imm hS ?_
    by_cases he0 : e = 0
    ·have hn := next he0
     subst he0
     simp (disch := omega) [wl]
     refine ⟨rfl, ?_⟩
     refine loopEnd (k + 1) ⟨by omega, by omega, hn⟩ (by omega) ?_
     simp [bxs]
     exact wdr
    ·have := bad he0
     subst this
     simp (disch := omega) [wl, he0]
     rfl
  ·obtain rfl : k = 13 := by omega
   have hF0 : 0 = F := hc
   subst hF0
   rw [if_neg (by simp)] at hR
   simp (disch := omega) [wl]
   refine callW_imm hF ?_
   by_cases hb : badF r
   ·rw [if_pos hb] at hR
    subst hR
    simp (disch := omega) [wl, hb]
   ·rw [if_neg hb] at hR
    subst hR
    simp (disch := omega) [wl, hb]
 ·rw [if_pos h0] at hR
  subst hR
  simp (disch := omega) [wl, h0]
end Go.Vs.YtbchceojmblkkaaGreatDoor.Rc
