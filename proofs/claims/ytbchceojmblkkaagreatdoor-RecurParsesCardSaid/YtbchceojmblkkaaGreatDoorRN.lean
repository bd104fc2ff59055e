/- The walk of the document's rules: what is wrong with one. No conditions. -/
import Derived.Test.YtbchceojmblkkaaGreatDoorRL
set_option linter.unusedVariables false
set_option linter.unusedSimpArgs false
namespace Go.Vs.U8
end Go.Vs.U8
namespace Go.Vs.Pa
end Go.Vs.Pa
namespace Go.Vs.Cv
end Go.Vs.Cv
namespace Go.Vs.Mo
end Go.Vs.Mo
namespace Go.Vs.Nu
end Go.Vs.Nu
namespace Go.Vs.YtbchceojmblkkaaGreatDoor.Rc
set_option linter.unusedSimpArgs false
set_option linter.unusedVariables false
open Go.Proofs Go.Vs.U8 Go.Vs.Pa Go.Vs.Cv Go.Vs.Mo Go.Vs.Nu
set_option maxRecDepth 100000
set_option maxHeartbeats 64000000
theorem unt_eq (r : Ru) : (if r.u = ⟨0, 0⟩ then (0 : Int) else if r.u.k = 0 then 2 else if momC r.u ≠ 0 then momC r.u else if 0 < r.c then 9 else 0) = untR r := by
 unfold untR
 by_cases h1 : r.u.k = 0
 ·by_cases h2 : r.u.s = 0
  ·have hu : r.u = ⟨0, 0⟩ := by
    cases hru : r.u with
    | mk x y =>
     rw [hru] at h1 h2
     simp only at h1 h2
     rw [h1, h2]
   rw [if_pos hu, if_pos h1, if_neg (fun h => h h2)]
  ·have hu : ¬ r.u = ⟨0, 0⟩ := fun e => h2 (by rw [e])
   rw [if_neg hu, if_pos h1, if_pos h1, if_pos h2]
 ·have hu : ¬ r.u = ⟨0, 0⟩ := fun e => h1 (by rw [e])
  rw [if_neg hu, if_neg h1, if_neg h1]
theorem headU (r : Ru) (e : Int) (h : headR r = e) : (if 6 < r.f then (11 : Int) else if r.i < 1 ∨ 1000 < r.i ∨ r.c < 0 ∨ 1000 < r.c ∨ r.w < 0 ∨ 6 < r.w then 8 else untR r) = e := by
 rw [← h, ← unt_eq]
 rfl
theorem fn_dCheckR (r : Ru) (hf : FitR r) (hk : 0 ≤ r.u.k) : Fn G2 Tryz.prog k_ref21_Check [r.iv] (.int .i64 (checkR r)) := by
 refine fn_intro hm ok_ref21_Check (by simp) ?_
 have hU := fn_until' r hk
 have hN := fn_dnumbered r.l7 (by have := hf.2.2.2.1; omega)
 obtain ⟨N, hNe⟩ : ∃ N, numbered r.l7 = N := ⟨_, rfl⟩
 rw [hNe] at hN
 obtain ⟨R, hR⟩ : ∃ R, checkR r = R := ⟨_, rfl⟩
 rw [hR]
 unfold checkR at hR
 have hfits := hf
 obtain ⟨f4, f5, f6, f7, f8, f9, f10, f11, f12⟩ := hf
 have s4 := fn_list r.l4 0 59 false (by omega) (by omega) (by omega) (by omega) (by omega)
 have s5 := fn_list r.l5 0 59 false (by omega) (by omega) (by omega) (by omega) (by omega)
 have s6 := fn_list r.l6 0 23 false (by omega) (by omega) (by omega) (by omega) (by omega)
 have s7 := fn_ddays r.l7 (by omega)
 have s8 := fn_list r.l8 1 31 true (by omega) (by omega) (by omega) (by omega) (by omega)
 have s9 := fn_list r.l9 1 366 true (by omega) (by omega) (by omega) (by omega) (by omega)
 have s10 := fn_list r.l10 1 53 true (by omega) (by omega) (by omega) (by omega) (by omega)
 have s11 := fn_list r.l11 1 12 false (by omega) (by omega) (by omega) (by omega) (by omega)
 have s12 := fn_list r.l12 1 366 true (by omega) (by omega) (by omega) (by omega) (by omega)
 have hFi := fn_first (listKs.map (sndAt r)) (by simp [listKs])
 have hE : listKs.map (sndAt r) = [soundL 0 59 false r.l4, soundL 0 59 false r.l5, soundL 0 23 false r.l6, soundD r.l7, soundL 1 31 true r.l8, soundL 1 366 true r.l9, soundL 1 53 true r.l10, soundL 1 12 false r.l11, soundL 1 366 true r.l12] := rfl
 obtain ⟨F, hFe⟩ : ∃ F, firstE (listKs.map (sndAt r)) = F := ⟨_, rfl⟩
 rw [hFe] at hFi hR
 rw [hE] at hFi
 simp only [is, List.map_cons, List.map_nil] at hFi
 obtain ⟨e4, he4⟩ : ∃ e, soundL 0 59 false r.l4 = e := ⟨_, rfl⟩
 obtain ⟨e5, he5⟩ : ∃ e, soundL 0 59 false r.l5 = e := ⟨_, rfl⟩
 obtain ⟨e6, he6⟩ : ∃ e, soundL 0 23 false r.l6 = e := ⟨_, rfl⟩
 obtain ⟨e7, he7⟩ : ∃ e, soundD r.l7 = e := ⟨_, rfl⟩
 obtain ⟨e8, he8⟩ : ∃ e, soundL 1 31 true r.l8 = e := ⟨_, rfl⟩
 obtain ⟨e9, he9⟩ : ∃ e, soundL 1 366 true r.l9 = e := ⟨_, rfl⟩
 obtain ⟨e10, he10⟩ : ∃ e, soundL 1 53 true r.l10 = e := ⟨_, rfl⟩
 obtain ⟨e11, he11⟩ : ∃ e, soundL 1 12 false r.l11 = e := ⟨_, rfl⟩
 obtain ⟨e12, he12⟩ : ∃ e, soundL 1 366 true r.l12 = e := ⟨_, rfl⟩
 rw [he4, he5, he6, he7, he8, he9, he10, he11, he12] at hFi
 rw [he4] at s4
 rw [he5] at s5
 rw [he6] at s6
 rw [he7] at s7
 rw [he8] at s8
 rw [he9] at s9
 rw [he10] at s10
 rw [he11] at s11
 rw [he12] at s12
 obtain ⟨e, he⟩ : ∃ e, headR r = e := ⟨_, rfl⟩
 rw [he] at hR
 have hH := headU r e he
 obtain ⟨U, hUe⟩ : ∃ U, untR r = U := ⟨_, rfl⟩
 rw [hUe] at hH hU
 unfold Ru.iv cells at hU ⊢
 have hn11 : (11 : Int) ≠ 0 := by decide
 have hn8 : (8 : Int) ≠ 0 := by decide
 simp [c_ref21_Check, r_ref21_Check]
 by_cases a0 : 6 < r.f
 ·rw [if_pos a0] at hH
  have hRe : R = 11 := by
   rw [← hH] at hR
   rw [if_pos (by first | decide | assumption)] at hR
   exact hR.symm
  subst hRe
  simp (disch := omega) [wl, a0]
 ·rw [if_neg a0] at hH
  by_cases a1 : r.i < 1
  ·rw [if_pos (by omega)] at hH
   have hRe : R = 8 := by
    rw [← hH] at hR
    rw [if_pos (by first | decide | assumption)] at hR
    exact hR.symm
   subst hRe
   simp (disch := omega) [wl, a0, a1]
  ·skip
   by_cases a2 : 1000 < r.i
   ·rw [if_pos (by omega)] at hH
    have hRe : R = 8 := by
     rw [← hH] at hR
     rw [if_pos (by first | decide | assumption)] at hR
     exact hR.symm
    subst hRe
    simp (disch := omega) [wl, a0, a1, a2]
   ·skip
    by_cases a3 : r.c < 0
    ·rw [if_pos (by omega)] at hH
     have hRe : R = 8 := by
      rw [← hH] at hR
      rw [if_pos (by first | decide | assumption)] at hR
      exact hR.symm
     subst hRe
     simp (disch := omega) [wl, a0, a1, a2, a3]
    ·skip
     by_cases a4 : 1000 < r.c
     ·rw [if_pos (by omega)] at hH
      have hRe : R = 8 := by
       rw [← hH] at hR
       rw [if_pos (by first | decide | assumption)] at hR
       exact hR.symm
      subst hRe
      simp (disch := omega) [wl, a0, a1, a2, a3, a4]
     ·skip
      by_cases a5 : r.w < 0
      ·rw [if_pos (by omega)] at hH
       have hRe : R = 8 := by
        rw [← hH] at hR
        rw [if_pos (by first | decide | assumption)] at hR
        exact hR.symm
       subst hRe
       simp (disch := omega) [wl, a0, a1, a2, a3, a4, a5]
      ·skip
       by_cases a6 : 6 < r.w
       ·rw [if_pos (by omega)] at hH
        have hRe : R = 8 := by
         rw [← hH] at hR
         rw [if_pos (by first | decide | assumption)] at hR
         exact hR.symm
        subst hRe
        simp (disch := omega) [wl, a0, a1, a2, a3, a4, a5, a6]
       ·skip
        rw [if_neg (by omega)] at hH
        simp (disch := omega) [wl, a0, a1, a2, a3, a4, a5, a6]
        refine callW_imm hU ?_
        by_cases u0 : U = 0
        ·subst u0
         rw [if_neg (by omega)] at hR
         simp (disch := omega) [wl]
         refine callW_imm s4 ?_
         simp (disch := omega) [wl]
         refine callW_imm s5 ?_
         simp (disch := omega) [wl]
         refine callW_imm s6 ?_
         simp (disch := omega) [wl]
         refine callW_imm s7 ?_
         simp (disch := omega) [wl]
         refine callW_imm s8 ?_
         simp (disch := omega) [wl]
         refine callW_imm s9 ?_
         simp (disch := omega) [wl]
         refine callW_imm s10 ?_
         simp (disch := omega) [wl]
         refine callW_imm s11 ?_
         simp (disch := omega) [wl]
         refine callW_imm s12 ?_
         simp (disch := omega) [wl]
         refine callW_imm hFi ?_
         by_cases f0 : F = 0
         ·subst f0
          rw [if_neg (by simp)] at hR
          have hbad : badF r → R = 9 := fun h => by rw [if_pos h] at hR; exact hR.symm
          have hgood : ¬ badF r → R = 0 := fun h => by rw [if_neg h] at hR; exact hR.symm
          unfold badF at hbad hgood
          rw [hNe] at hbad hgood
          have hoth : others r = r.l7.length + r.l4.length + r.l5.length + r.l6.length + r.l8.length + r.l9.length + r.l10.length + r.l11.length := rfl
          obtain ⟨O, hO⟩ : ∃ O, others r = O := ⟨_, rfl⟩
          rw [hO] at hbad hgood hoth
          simp (disch := omega) [wl, is_len, dns_len]
          refine ⟨rfl, ?_⟩
          refine callW_imm hN ?_
          rcases Bool.eq_false_or_eq_true N with n1 | n1 <;> subst n1
          ·skip
           by_cases g5 : r.f < 5
           ·skip
            first | (exfalso; omega) | (have hRe := hbad (.inl ⟨rfl, .inl g5⟩); subst hRe; simp (disch := omega) [wl, is_len, dns_len, g5])
           ·skip
            by_cases g10 : 0 < r.l10.length
            ·skip
             first | (exfalso; omega) | (have hRe := hbad (.inl ⟨rfl, .inr g10⟩); subst hRe; simp (disch := omega) [wl, is_len, dns_len, g5, g10])
            ·skip
             by_cases b8 : 0 < r.l8.length
             ·skip
              by_cases b4 : r.f = 4
              ·skip
               first | (exfalso; omega) | (have hRe := hbad (.inr (.inl ⟨b8, b4⟩)); subst hRe; simp (disch := omega) [wl, is_len, dns_len, g5, g10, b8, b4])
              ·skip
               by_cases c9 : 0 < r.l9.length
               ·skip
                by_cases c3 : 3 ≤ r.f
                ·skip
                 by_cases c5 : r.f ≤ 5
                 ·skip
                  first | (exfalso; omega) | (have hRe := hbad (.inr (.inr (.inr (.inl ⟨c9, by omega⟩)))); subst hRe; simp (disch := omega) [wl, is_len, dns_len, g5, g10, b8, b4, c9, c3, c5])
                 ·skip
                  by_cases d10 : 0 < r.l10.length
                  ·skip
                   by_cases d6 : r.f = 6
                   ·skip
                    by_cases e12 : 0 < r.l12.length
                    ·skip
                     by_cases o0 : O = 0
                     ·skip
                      first | (exfalso; omega) | (have hRe := hbad (.inr (.inr (.inr (.inr ⟨e12, o0⟩)))); subst hRe; simp (disch := omega) [wl, is_len, dns_len, g5, g10, b8, b4, c9, c3, c5, d10, d6, e12])
                     ·skip
                      first | (exfalso; omega) | (have hRe := hgood (fun h => by rcases h with ⟨a, b⟩ | ⟨a, b⟩ | ⟨a, b⟩ | ⟨a, b⟩ | ⟨a, b⟩ <;> first | omega | cases a); subst hRe; simp (disch := omega) [wl, is_len, dns_len, g5, g10, b8, b4, c9, c3, c5, d10, d6, e12])
                    ·skip
                     first | (exfalso; omega) | (have hRe := hgood (fun h => by rcases h with ⟨a, b⟩ | ⟨a, b⟩ | ⟨a, b⟩ | ⟨a, b⟩ | ⟨a, b⟩ <;> first | omega | cases a); subst hRe; simp (disch := omega) [wl, is_len, dns_len, g5, g10, b8, b4, c9, c3, c5, d10, d6, e12])
                   ·skip
                    first | (exfalso; omega) | (have hRe := hbad (.inr (.inr (.inl ⟨d10, d6⟩))); subst hRe; simp (disch := omega) [wl, is_len, dns_len, g5, g10, b8, b4, c9, c3, c5, d10, d6])
                  ·skip
                   by_cases e12 : 0 < r.l12.length
                   ·skip
                    by_cases o0 : O = 0
                    ·skip
                     first | (exfalso; omega) | (have hRe := hbad (.inr (.inr (.inr (.inr ⟨e12, o0⟩)))); subst hRe; simp (disch := omega) [wl, is_len, dns_len, g5, g10, b8, b4, c9, c3, c5, d10, e12])
                    ·skip
                     first | (exfalso; omega) | (have hRe := hgood (fun h => by rcases h with ⟨a, b⟩ | ⟨a, b⟩ | ⟨a, b⟩ | ⟨a, b⟩ | ⟨a, b⟩ <;> first | omega | cases a); subst hRe; simp (disch := omega) [wl, is_len, dns_len, g5, g10, b8, b4, c9, c3, c5, d10, e12])
                   ·skip
                    first | (exfalso; omega) | (have hRe := hgood (fun h => by rcases h with ⟨a, b⟩ | ⟨a, b⟩ | ⟨a, b⟩ | ⟨a, b⟩ | ⟨a, b⟩ <;> first | omega | cases a); subst hRe; simp (disch := omega) [wl, is_len, dns_len, g5, g10, b8, b4, c9, c3, c5, d10, e12])
                ·skip
                 by_cases d10 : 0 < r.l10.length
                 ·skip
                  by_cases d6 : r.f = 6
                  ·skip
                   by_cases e12 : 0 < r.l12.length
                   ·skip
                    by_cases o0 : O = 0
                    ·skip
                     first | (exfalso; omega) | (have hRe := hbad (.inr (.inr (.inr (.inr ⟨e12, o0⟩)))); subst hRe; simp (disch := omega) [wl, is_len, dns_len, g5, g10, b8, b4, c9, c3, d10, d6, e12])
                    ·skip
                     first | (exfalso; omega) | (have hRe := hgood (fun h => by rcases h with ⟨a, b⟩ | ⟨a, b⟩ | ⟨a, b⟩ | ⟨a, b⟩ | ⟨a, b⟩ <;> first | omega | cases a); subst hRe; simp (disch := omega) [wl, is_len, dns_len, g5, g10, b8, b4, c9, c3, d10, d6, e12])
                   ·skip
                    first | (exfalso; omega) | (have hRe := hgood (fun h => by rcases h with ⟨a, b⟩ | ⟨a, b⟩ | ⟨a, b⟩ | ⟨a, b⟩ | ⟨a, b⟩ <;> first | omega | cases a); subst hRe; simp (disch := omega) [wl, is_len, dns_len, g5, g10, b8, b4, c9, c3, d10, d6, e12])
                  ·skip
                   first | (exfalso; omega) | (have hRe := hbad (.inr (.inr (.inl ⟨d10, d6⟩))); subst hRe; simp (disch := omega) [wl, is_len, dns_len, g5, g10, b8, b4, c9, c3, d10, d6])
                 ·skip
                  by_cases e12 : 0 < r.l12.length
                  ·skip
                   by_cases o0 : O = 0
                   ·skip
                    first | (exfalso; omega) | (have hRe := hbad (.inr (.inr (.inr (.inr ⟨e12, o0⟩)))); subst hRe; simp (disch := omega) [wl, is_len, dns_len, g5, g10, b8, b4, c9, c3, d10, e12])
                   ·skip
                    first | (exfalso; omega) | (have hRe := hgood (fun h => by rcases h with ⟨a, b⟩ | ⟨a, b⟩ | ⟨a, b⟩ | ⟨a, b⟩ | ⟨a, b⟩ <;> first | omega | cases a); subst hRe; simp (disch := omega) [wl, is_len, dns_len, g5, g10, b8, b4, c9, c3, d10, e12])
                  ·skip
                   first | (exfalso; omega) | (have hRe := hgood (fun h => by rcases h with ⟨a, b⟩ | ⟨a, b⟩ | ⟨a, b⟩ | ⟨a, b⟩ | ⟨a, b⟩ <;> first | omega | cases a); subst hRe; simp (disch := omega) [wl, is_len, dns_len, g5, g10, b8, b4, c9, c3, d10, e12])
               ·skip
                by_cases d10 : 0 < r.l10.length
                ·skip
                 by_cases d6 : r.f = 6
                 ·skip
                  by_cases e12 : 0 < r.l12.length
                  ·skip
                   by_cases o0 : O = 0
                   ·skip
                    first | (exfalso; omega) | (have hRe := hbad (.inr (.inr (.inr (.inr ⟨e12, o0⟩)))); subst hRe; simp (disch := omega) [wl, is_len, dns_len, g5, g10, b8, b4, c9, d10, d6, e12])
                   ·skip
                    first | (exfalso; omega) | (have hRe := hgood (fun h => by rcases h with ⟨a, b⟩ | ⟨a, b⟩ | ⟨a, b⟩ | ⟨a, b⟩ | ⟨a, b⟩ <;> first | omega | cases a); subst hRe; simp (disch := omega) [wl, is_len, dns_len, g5, g10, b8, b4, c9, d10, d6, e12])
                  ·skip
                   first | (exfalso; omega) | (have hRe := hgood (fun h => by rcases h with ⟨a, b⟩ | ⟨a, b⟩ | ⟨a, b⟩ | ⟨a, b⟩ | ⟨a, b⟩ <;> first | omega | cases a); subst hRe; simp (disch := omega) [wl, is_len, dns_len, g5, g10, b8, b4, c9, d10, d6, e12])
                 ·skip
                  first | (exfalso; omega) | (have hRe := hbad (.inr (.inr (.inl ⟨d10, d6⟩))); subst hRe; simp (disch := omega) [wl, is_len, dns_len, g5, g10, b8, b4, c9, d10, d6])
                ·skip
                 by_cases e12 : 0 < r.l12.length
                 ·skip
                  by_cases o0 : O = 0
                  ·skip
                   first | (exfalso; omega) | (have hRe := hbad (.inr (.inr (.inr (.inr ⟨e12, o0⟩)))); subst hRe; simp (disch := omega) [wl, is_len, dns_len, g5, g10, b8, b4, c9, d10, e12])
                  ·skip
                   first | (exfalso; omega) | (have hRe := hgood (fun h => by rcases h with ⟨a, b⟩ | ⟨a, b⟩ | ⟨a, b⟩ | ⟨a, b⟩ | ⟨a, b⟩ <;> first | omega | cases a); subst hRe; simp (disch := omega) [wl, is_len, dns_len, g5, g10, b8, b4, c9, d10, e12])
                 ·skip
                  first | (exfalso; omega) | (have hRe := hgood (fun h => by rcases h with ⟨a, b⟩ | ⟨a, b⟩ | ⟨a, b⟩ | ⟨a, b⟩ | ⟨a, b⟩ <;> first | omega | cases a); subst hRe; simp (disch := omega) [wl, is_len, dns_len, g5, g10, b8, b4, c9, d10, e12])
             ·skip
              by_cases c9 : 0 < r.l9.length
              ·skip
               by_cases c3 : 3 ≤ r.f
               ·skip
                by_cases c5 : r.f ≤ 5
                ·skip
                 first | (exfalso; omega) | (have hRe := hbad (.inr (.inr (.inr (.inl ⟨c9, by omega⟩)))); subst hRe; simp (disch := omega) [wl, is_len, dns_len, g5, g10, b8, c9, c3, c5])
                ·skip
                 by_cases d10 : 0 < r.l10.length
                 ·skip
                  by_cases d6 : r.f = 6
                  ·skip
                   by_cases e12 : 0 < r.l12.length
                   ·skip
                    by_cases o0 : O = 0
                    ·skip
                     first | (exfalso; omega) | (have hRe := hbad (.inr (.inr (.inr (.inr ⟨e12, o0⟩)))); subst hRe; simp (disch := omega) [wl, is_len, dns_len, g5, g10, b8, c9, c3, c5, d10, d6, e12])
                    ·skip
                     first | (exfalso; omega) | (have hRe := hgood (fun h => by rcases h with ⟨a, b⟩ | ⟨a, b⟩ | ⟨a, b⟩ | ⟨a, b⟩ | ⟨a, b⟩ <;> first | omega | cases a); subst hRe; simp (disch := omega) [wl, is_len, dns_len, g5, g10, b8, c9, c3, c5, d10, d6, e12])
                   ·skip
                    first | (exfalso; omega) | (have hRe := hgood (fun h => by rcases h with ⟨a, b⟩ | ⟨a, b⟩ | ⟨a, b⟩ | ⟨a, b⟩ | ⟨a, b⟩ <;> first | omega | cases a); subst hRe; simp (disch := omega) [wl, is_len, dns_len, g5, g10, b8, c9, c3, c5, d10, d6, e12])
                  ·skip
                   first | (exfalso; omega) | (have hRe := hbad (.inr (.inr (.inl ⟨d10, d6⟩))); subst hRe; simp (disch := omega) [wl, is_len, dns_len, g5, g10, b8, c9, c3, c5, d10, d6])
                 ·skip
                  by_cases e12 : 0 < r.l12.length
                  ·skip
                   by_cases o0 : O = 0
                   ·skip
                    first | (exfalso; omega) | (have hRe := hbad (.inr (.inr (.inr (.inr ⟨e12, o0⟩)))); subst hRe; simp (disch := omega) [wl, is_len, dns_len, g5, g10, b8, c9, c3, c5, d10, e12])
                   ·skip
                    first | (exfalso; omega) | (have hRe := hgood (fun h => by rcases h with ⟨a, b⟩ | ⟨a, b⟩ | ⟨a, b⟩ | ⟨a, b⟩ | ⟨a, b⟩ <;> first | omega | cases a); subst hRe; simp (disch := omega) [wl, is_len, dns_len, g5, g10, b8, c9, c3, c5, d10, e12])
                  ·skip
                   first | (exfalso; omega) | (have hRe := hgood (fun h => by rcases h with ⟨a, b⟩ | ⟨a, b⟩ | ⟨a, b⟩ | ⟨a, b⟩ | ⟨a, b⟩ <;> first | omega | cases a); subst hRe; simp (disch := omega) [wl, is_len, dns_len, g5, g10, b8, c9, c3, c5, d10, e12])
               ·skip
                by_cases d10 : 0 < r.l10.length
                ·skip
                 by_cases d6 : r.f = 6
                 ·skip
                  by_cases e12 : 0 < r.l12.length
                  ·skip
                   by_cases o0 : O = 0
                   ·skip
                    first | (exfalso; omega) | (have hRe := hbad (.inr (.inr (.inr (.inr ⟨e12, o0⟩)))); subst hRe; simp (disch := omega) [wl, is_len, dns_len, g5, g10, b8, c9, c3, d10, d6, e12])
                   ·skip
                    first | (exfalso; omega) | (have hRe := hgood (fun h => by rcases h with ⟨a, b⟩ | ⟨a, b⟩ | ⟨a, b⟩ | ⟨a, b⟩ | ⟨a, b⟩ <;> first | omega | cases a); subst hRe; simp (disch := omega) [wl, is_len, dns_len, g5, g10, b8, c9, c3, d10, d6, e12])
                  ·skip
                   first | (exfalso; omega) | (have hRe := hgood (fun h => by rcases h with ⟨a, b⟩ | ⟨a, b⟩ | ⟨a, b⟩ | ⟨a, b⟩ | ⟨a, b⟩ <;> first | omega | cases a); subst hRe; simp (disch := omega) [wl, is_len, dns_len, g5, g10, b8, c9, c3, d10, d6, e12])
                 ·skip
                  first | (exfalso; omega) | (have hRe := hbad (.inr (.inr (.inl ⟨d10, d6⟩))); subst hRe; simp (disch := omega) [wl, is_len, dns_len, g5, g10, b8, c9, c3, d10, d6])
                ·skip
                 by_cases e12 : 0 < r.l12.length
                 ·skip
                  by_cases o0 : O = 0
                  ·skip
                   first | (exfalso; omega) | (have hRe := hbad (.inr (.inr (.inr (.inr ⟨e12, o0⟩)))); subst hRe; simp (disch := omega) [wl, is_len, dns_len, g5, g10, b8, c9, c3, d10, e12])
                  ·skip
                   first | (exfalso; omega) | (have hRe := hgood (fun h => by rcases h with ⟨a, b⟩ | ⟨a, b⟩ | ⟨a, b⟩ | ⟨a, b⟩ | ⟨a, b⟩ <;> first | omega | cases a); subst hRe; simp (disch := omega) [wl, is_len, dns_len, g5, g10, b8, c9, c3, d10, e12])
                 ·skip
                  first | (exfalso; omega) | (have hRe := hgood (fun h => by rcases h with ⟨a, b⟩ | ⟨a, b⟩ | ⟨a, b⟩ | ⟨a, b⟩ | ⟨a, b⟩ <;> first | omega | cases a); subst hRe; simp (disch := omega) [wl, is_len, dns_len, g5, g10, b8, c9, c3, d10, e12])
              ·skip
               by_cases d10 : 0 < r.l10.length
               ·skip
                by_cases d6 : r.f = 6
                ·skip
                 by_cases e12 : 0 < r.l12.length
                 ·skip
                  by_cases o0 : O = 0
                  ·skip
                   first | (exfalso; omega) | (have hRe := hbad (.inr (.inr (.inr (.inr ⟨e12, o0⟩)))); subst hRe; simp (disch := omega) [wl, is_len, dns_len, g5, g10, b8, c9, d10, d6, e12])
                  ·skip
                   first | (exfalso; omega) | (have hRe := hgood (fun h => by rcases h with ⟨a, b⟩ | ⟨a, b⟩ | ⟨a, b⟩ | ⟨a, b⟩ | ⟨a, b⟩ <;> first | omega | cases a); subst hRe; simp (disch := omega) [wl, is_len, dns_len, g5, g10, b8, c9, d10, d6, e12])
                 ·skip
                  first | (exfalso; omega) | (have hRe := hgood (fun h => by rcases h with ⟨a, b⟩ | ⟨a, b⟩ | ⟨a, b⟩ | ⟨a, b⟩ | ⟨a, b⟩ <;> first | omega | cases a); subst hRe; simp (disch := omega) [wl, is_len, dns_len, g5, g10, b8, c9, d10, d6, e12])
                ·skip
                 first | (exfalso; omega) | (have hRe := hbad (.inr (.inr (.inl ⟨d10, d6⟩))); subst hRe; simp (disch := omega) [wl, is_len, dns_len, g5, g10, b8, c9, d10, d6])
               ·skip
                by_cases e12 : 0 < r.l12.length
                ·skip
                 by_cases o0 : O = 0
                 ·skip
                  first | (exfalso; omega) | (have hRe := hbad (.inr (.inr (.inr (.inr ⟨e12, o0⟩)))); subst hRe; simp (disch := omega) [wl, is_len, dns_len, g5, g10, b8, c9, d10, e12])
                 ·skip
                  first | (exfalso; omega) | (have hRe := hgood (fun h => by rcases h with ⟨a, b⟩ | ⟨a, b⟩ | ⟨a, b⟩ | ⟨a, b⟩ | ⟨a, b⟩ <;> first | omega | cases a); subst hRe; simp (disch := omega) [wl, is_len, dns_len, g5, g10, b8, c9, d10, e12])
                ·skip
                 first | (exfalso; omega) | (have hRe := hgood (fun h => by rcases h with ⟨a, b⟩ | ⟨a, b⟩ | ⟨a, b⟩ | ⟨a, b⟩ | ⟨a, b⟩ <;> first | omega | cases a); subst hRe; simp (disch := omega) [wl, is_len, dns_len, g5, g10, b8, c9, d10, e12])
          ·skip
           by_cases b8 : 0 < r.l8.length
           ·skip
            by_cases b4 : r.f = 4
            ·skip
             first | (exfalso; omega) | (have hRe := hbad (.inr (.inl ⟨b8, b4⟩)); subst hRe; simp (disch := omega) [wl, is_len, dns_len, b8, b4])
            ·skip
             by_cases c9 : 0 < r.l9.length
             ·skip
              by_cases c3 : 3 ≤ r.f
              ·skip
               by_cases c5 : r.f ≤ 5
               ·skip
                first | (exfalso; omega) | (have hRe := hbad (.inr (.inr (.inr (.inl ⟨c9, by omega⟩)))); subst hRe; simp (disch := omega) [wl, is_len, dns_len, b8, b4, c9, c3, c5])
               ·skip
                by_cases d10 : 0 < r.l10.length
                ·skip
                 by_cases d6 : r.f = 6
                 ·skip
                  by_cases e12 : 0 < r.l12.length
                  ·skip
                   by_cases o0 : O = 0
                   ·skip
                    first | (exfalso; omega) | (have hRe := hbad (.inr (.inr (.inr (.inr ⟨e12, o0⟩)))); subst hRe; simp (disch := omega) [wl, is_len, dns_len, b8, b4, c9, c3, c5, d10, d6, e12])
                   ·skip
                    first | (exfalso; omega) | (have hRe := hgood (fun h => by rcases h with ⟨a, b⟩ | ⟨a, b⟩ | ⟨a, b⟩ | ⟨a, b⟩ | ⟨a, b⟩ <;> first | omega | cases a); subst hRe; simp (disch := omega) [wl, is_len, dns_len, b8, b4, c9, c3, c5, d10, d6, e12])
                  ·skip
                   first | (exfalso; omega) | (have hRe := hgood (fun h => by rcases h with ⟨a, b⟩ | ⟨a, b⟩ | ⟨a, b⟩ | ⟨a, b⟩ | ⟨a, b⟩ <;> first | omega | cases a); subst hRe; simp (disch := omega) [wl, is_len, dns_len, b8, b4, c9, c3, c5, d10, d6, e12])
                 ·skip
                  first | (exfalso; omega) | (have hRe := hbad (.inr (.inr (.inl ⟨d10, d6⟩))); subst hRe; simp (disch := omega) [wl, is_len, dns_len, b8, b4, c9, c3, c5, d10, d6])
                ·skip
                 by_cases e12 : 0 < r.l12.length
                 ·skip
                  by_cases o0 : O = 0
                  ·skip
                   first | (exfalso; omega) | (have hRe := hbad (.inr (.inr (.inr (.inr ⟨e12, o0⟩)))); subst hRe; simp (disch := omega) [wl, is_len, dns_len, b8, b4, c9, c3, c5, d10, e12])
                  ·skip
                   first | (exfalso; omega) | (have hRe := hgood (fun h => by rcases h with ⟨a, b⟩ | ⟨a, b⟩ | ⟨a, b⟩ | ⟨a, b⟩ | ⟨a, b⟩ <;> first | omega | cases a); subst hRe; simp (disch := omega) [wl, is_len, dns_len, b8, b4, c9, c3, c5, d10, e12])
                 ·skip
                  first | (exfalso; omega) | (have hRe := hgood (fun h => by rcases h with ⟨a, b⟩ | ⟨a, b⟩ | ⟨a, b⟩ | ⟨a, b⟩ | ⟨a, b⟩ <;> first | omega | cases a); subst hRe; simp (disch := omega) [wl, is_len, dns_len, b8, b4, c9, c3, c5, d10, e12])
              ·skip
               by_cases d10 : 0 < r.l10.length
               ·skip
                by_cases d6 : r.f = 6
                ·skip
                 by_cases e12 : 0 < r.l12.length
                 ·skip
                  by_cases o0 : O = 0
                  ·skip
                   first | (exfalso; omega) | (have hRe := hbad (.inr (.inr (.inr (.inr ⟨e12, o0⟩)))); subst hRe; simp (disch := omega) [wl, is_len, dns_len, b8, b4, c9, c3, d10, d6, e12])
                  ·skip
                   first | (exfalso; omega) | (have hRe := hgood (fun h => by rcases h with ⟨a, b⟩ | ⟨a, b⟩ | ⟨a, b⟩ | ⟨a, b⟩ | ⟨a, b⟩ <;> first | omega | cases a); subst hRe; simp (disch := omega) [wl, is_len, dns_len, b8, b4, c9, c3, d10, d6, e12])
                 ·skip
                  first | (exfalso; omega) | (have hRe := hgood (fun h => by rcases h with ⟨a, b⟩ | ⟨a, b⟩ | ⟨a, b⟩ | ⟨a, b⟩ | ⟨a, b⟩ <;> first | omega | cases a); subst hRe; simp (disch := omega) [wl, is_len, dns_len, b8, b4, c9, c3, d10, d6, e12])
                ·skip
                 first | (exfalso; omega) | (have hRe := hbad (.inr (.inr (.inl ⟨d10, d6⟩))); subst hRe; simp (disch := omega) [wl, is_len, dns_len, b8, b4, c9, c3, d10, d6])
               ·skip
                by_cases e12 : 0 < r.l12.length
                ·skip
                 by_cases o0 : O = 0
                 ·skip
                  first | (exfalso; omega) | (have hRe := hbad (.inr (.inr (.inr (.inr ⟨e12, o0⟩)))); subst hRe; simp (disch := omega) [wl, is_len, dns_len, b8, b4, c9, c3, d10, e12])
                 ·skip
                  first | (exfalso; omega) | (have hRe := hgood (fun h => by rcases h with ⟨a, b⟩ | ⟨a, b⟩ | ⟨a, b⟩ | ⟨a, b⟩ | ⟨a, b⟩ <;> first | omega | cases a); subst hRe; simp (disch := omega) [wl, is_len, dns_len, b8, b4, c9, c3, d10, e12])
                ·skip
                 first | (exfalso; omega) | (have hRe := hgood (fun h => by rcases h with ⟨a, b⟩ | ⟨a, b⟩ | ⟨a, b⟩ | ⟨a, b⟩ | ⟨a, b⟩ <;> first | omega | cases a); subst hRe; simp (disch := omega) [wl, is_len, dns_len, b8, b4, c9, c3, d10, e12])
             ·skip
              by_cases d10 : 0 < r.l10.length
              ·skip
               by_cases d6 : r.f = 6
               ·skip
                by_cases e12 : 0 < r.l12.length
                ·skip
                 by_cases o0 : O = 0
                 ·skip
                  first | (exfalso; omega) | (have hRe := hbad (.inr (.inr (.inr (.inr ⟨e12, o0⟩)))); subst hRe; simp (disch := omega) [wl, is_len, dns_len, b8, b4, c9, d10, d6, e12])
                 ·skip
                  first | (exfalso; omega) | (have hRe := hgood (fun h => by rcases h with ⟨a, b⟩ | ⟨a, b⟩ | ⟨a, b⟩ | ⟨a, b⟩ | ⟨a, b⟩ <;> first | omega | cases a); subst hRe; simp (disch := omega) [wl, is_len, dns_len, b8, b4, c9, d10, d6, e12])
                ·skip
                 first | (exfalso; omega) | (have hRe := hgood (fun h => by rcases h with ⟨a, b⟩ | ⟨a, b⟩ | ⟨a, b⟩ | ⟨a, b⟩ | ⟨a, b⟩ <;> first | omega | cases a); subst hRe; simp (disch := omega) [wl, is_len, dns_len, b8, b4, c9, d10, d6, e12])
               ·skip
                first | (exfalso; omega) | (have hRe := hbad (.inr (.inr (.inl ⟨d10, d6⟩))); subst hRe; simp (disch := omega) [wl, is_len, dns_len, b8, b4, c9, d10, d6])
              ·skip
               by_cases e12 : 0 < r.l12.length
               ·skip
                by_cases o0 : O = 0
                ·skip
                 first | (exfalso; omega) | (have hRe := hbad (.inr (.inr (.inr (.inr ⟨e12, o0⟩)))); subst hRe; simp (disch := omega) [wl, is_len, dns_len, b8, b4, c9, d10, e12])
                ·skip
                 first | (exfalso; omega) | (have hRe := hgood (fun h => by rcases h with ⟨a, b⟩ | ⟨a, b⟩ | ⟨a, b⟩ | ⟨a, b⟩ | ⟨a, b⟩ <;> first | omega | cases a); subst hRe; simp (disch := omega) [wl, is_len, dns_len, b8, b4, c9, d10, e12])
               ·skip
                first | (exfalso; omega) | (have hRe := hgood (fun h => by rcases h with ⟨a, b⟩ | ⟨a, b⟩ | ⟨a, b⟩ | ⟨a, b⟩ | ⟨a, b⟩ <;> first | omega | cases a); subst hRe; simp (disch := omega) [wl, is_len, dns_len, b8, b4, c9, d10, e12])
           ·skip
            by_cases c9 : 0 < r.l9.length
            ·skip
             by_cases c3 : 3 ≤ r.f
             ·skip
              by_cases c5 : r.f ≤ 5
              ·skip
               first | (exfalso; omega) | (have hRe := hbad (.inr (.inr (.inr (.inl ⟨c9, by omega⟩)))); subst hRe; simp (disch := omega) [wl, is_len, dns_len, b8, c9, c3, c5])
              ·skip
               by_cases d10 : 0 < r.l10.length
               ·skip
                by_cases d6 : r.f = 6
                ·skip
                 by_cases e12 : 0 < r.l12.length
                 ·skip
                  by_cases o0 : O = 0
                  ·skip
                   first | (exfalso; omega) | (have hRe := hbad (.inr (.inr (.inr (.inr ⟨e12, o0⟩)))); subst hRe; simp (disch := omega) [wl, is_len, dns_len, b8, c9, c3, c5, d10, d6, e12])
                  ·skip
                   first | (exfalso; omega) | (have hRe := hgood (fun h => by rcases h with ⟨a, b⟩ | ⟨a, b⟩ | ⟨a, b⟩ | ⟨a, b⟩ | ⟨a, b⟩ <;> first | omega | cases a); subst hRe; simp (disch := omega) [wl, is_len, dns_len, b8, c9, c3, c5, d10, d6, e12])
                 ·skip
                  first | (exfalso; omega) | (have hRe := hgood (fun h => by rcases h with ⟨a, b⟩ | ⟨a, b⟩ | ⟨a, b⟩ | ⟨a, b⟩ | ⟨a, b⟩ <;> first | omega | cases a); subst hRe; simp (disch := omega) [wl, is_len, dns_len, b8, c9, c3, c5, d10, d6, e12])
                ·skip
                 first | (exfalso; omega) | (have hRe := hbad (.inr (.inr (.inl ⟨d10, d6⟩))); subst hRe; simp (disch := omega) [wl, is_len, dns_len, b8, c9, c3, c5, d10, d6])
               ·skip
                by_cases e12 : 0 < r.l12.length
                ·skip
                 by_cases o0 : O = 0
                 ·skip
                  first | (exfalso; omega) | (have hRe := hbad (.inr (.inr (.inr (.inr ⟨e12, o0⟩)))); subst hRe; simp (disch := omega) [wl, is_len, dns_len, b8, c9, c3, c5, d10, e12])
                 ·skip
                  first | (exfalso; omega) | (have hRe := hgood (fun h => by rcases h with ⟨a, b⟩ | ⟨a, b⟩ | ⟨a, b⟩ | ⟨a, b⟩ | ⟨a, b⟩ <;> first | omega | cases a); subst hRe; simp (disch := omega) [wl, is_len, dns_len, b8, c9, c3, c5, d10, e12])
                ·skip
                 first | (exfalso; omega) | (have hRe := hgood (fun h => by rcases h with ⟨a, b⟩ | ⟨a, b⟩ | ⟨a, b⟩ | ⟨a, b⟩ | ⟨a, b⟩ <;> first | omega | cases a); subst hRe; simp (disch := omega) [wl, is_len, dns_len, b8, c9, c3, c5, d10, e12])
             ·skip
              by_cases d10 : 0 < r.l10.length
              ·skip
               by_cases d6 : r.f = 6
               ·skip
                by_cases e12 : 0 < r.l12.length
                ·skip
                 by_cases o0 : O = 0
                 ·skip
                  first | (exfalso; omega) | (have hRe := hbad (.inr (.inr (.inr (.inr ⟨e12, o0⟩)))); subst hRe; simp (disch := omega) [wl, is_len, dns_len, b8, c9, c3, d10, d6, e12])
                 ·skip
                  first | (exfalso; omega) | (have hRe := hgood (fun h => by rcases h with ⟨a, b⟩ | ⟨a, b⟩ | ⟨a, b⟩ | ⟨a, b⟩ | ⟨a, b⟩ <;> first | omega | cases a); subst hRe; simp (disch := omega) [wl, is_len, dns_len, b8, c9, c3, d10, d6, e12])
                ·skip
                 first | (exfalso; omega) | (have hRe := hgood (fun h => by rcases h with ⟨a, b⟩ | ⟨a, b⟩ | ⟨a, b⟩ | ⟨a, b⟩ | ⟨a, b⟩ <;> first | omega | cases a); subst hRe; simp (disch := omega) [wl, is_len, dns_len, b8, c9, c3, d10, d6, e12])
               ·skip
                first | (exfalso; omega) | (have hRe := hbad (.inr (.inr (.inl ⟨d10, d6⟩))); subst hRe; simp (disch := omega) [wl, is_len, dns_len, b8, c9, c3, d10, d6])
              ·skip
               by_cases e12 : 0 < r.l12.length
               ·skip
                by_cases o0 : O = 0
                ·skip
                 first | (exfalso; omega) | (have hRe := hbad (.inr (.inr (.inr (.inr ⟨e12, o0⟩)))); subst hRe; simp (disch := omega) [wl, is_len, dns_len, b8, c9, c3, d10, e12])
                ·skip
                 first | (exfalso; omega) | (have hRe := hgood (fun h => by rcases h with ⟨a, b⟩ | ⟨a, b⟩ | ⟨a, b⟩ | ⟨a, b⟩ | ⟨a, b⟩ <;> first | omega | cases a); subst hRe; simp (disch := omega) [wl, is_len, dns_len, b8, c9, c3, d10, e12])
               ·skip
                first | (exfalso; omega) | (have hRe := hgood (fun h => by rcases h with ⟨a, b⟩ | ⟨a, b⟩ | ⟨a, b⟩ | ⟨a, b⟩ | ⟨a, b⟩ <;> first | omega | cases a); subst hRe; simp (disch := omega) [wl, is_len, dns_len, b8, c9, c3, d10, e12])
            ·skip
             by_cases d10 : 0 < r.l10.length
             ·skip
              by_cases d6 : r.f = 6
              ·skip
               by_cases e12 : 0 < r.l12.length
               ·skip
                by_cases o0 : O = 0
                ·skip
                 first | (exfalso; omega) | (have hRe := hbad (.inr (.inr (.inr (.inr ⟨e12, o0⟩)))); subst hRe; simp (disch := omega) [wl, is_len, dns_len, b8, c9, d10, d6, e12])
                ·skip
                 first | (exfalso; omega) | (have hRe := hgood (fun h => by rcases h with ⟨a, b⟩ | ⟨a, b⟩ | ⟨a, b⟩ | ⟨a, b⟩ | ⟨a, b⟩ <;> first | omega | cases a); subst hRe; simp (disch := omega) [wl, is_len, dns_len, b8, c9, d10, d6, e12])
               ·skip
                first | (exfalso; omega) | (have hRe := hgood (fun h => by rcases h with ⟨a, b⟩ | ⟨a, b⟩ | ⟨a, b⟩ | ⟨a, b⟩ | ⟨a, b⟩ <;> first | omega | cases a); subst hRe; simp (disch := omega) [wl, is_len, dns_len, b8, c9, d10, d6, e12])
              ·skip
               first | (exfalso; omega) | (have hRe := hbad (.inr (.inr (.inl ⟨d10, d6⟩))); subst hRe; simp (disch := omega) [wl, is_len, dns_len, b8, c9, d10, d6])
             ·skip
              by_cases e12 : 0 < r.l12.length
              ·skip
               by_cases o0 : O = 0
               ·skip
                first | (exfalso; omega) | (have hRe := hbad (.inr (.inr (.inr (.inr ⟨e12, o0⟩)))); subst hRe; simp (disch := omega) [wl, is_len, dns_len, b8, c9, d10, e12])
               ·skip
                first | (exfalso; omega) | (have hRe := hgood (fun h => by rcases h with ⟨a, b⟩ | ⟨a, b⟩ | ⟨a, b⟩ | ⟨a, b⟩ | ⟨a, b⟩ <;> first | omega | cases a); subst hRe; simp (disch := omega) [wl, is_len, dns_len, b8, c9, d10, e12])
              ·skip
               first | (exfalso; omega) | (have hRe := hgood (fun h => by rcases h with ⟨a, b⟩ | ⟨a, b⟩ | ⟨a, b⟩ | ⟨a, b⟩ | ⟨a, b⟩ <;> first | omega | cases a); subst hRe; simp (disch := omega) [wl, is_len, dns_len, b8, c9, d10, e12])
         ·have hRe : R = F := by rw [if_pos f0] at hR; exact hR.symm
          subst hRe
          simp (disch := omega) [wl, f0]
          rfl
        ·have hRe : R = U := by rw [← hH, if_pos u0] at hR; exact hR.symm
         subst hRe
         simp (disch := omega) [wl, u0]
end Go.Vs.YtbchceojmblkkaaGreatDoor.Rc
