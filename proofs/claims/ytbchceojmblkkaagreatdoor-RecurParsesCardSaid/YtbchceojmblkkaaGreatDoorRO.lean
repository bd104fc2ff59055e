/- The walk of recur: whether two rules are one; rules taken over. No conditions. -/
import Derived.Test.YtbchceojmblkkaaGreatDoorRL
import Derived.Test.YtbchceojmblkkaaGreatDoorRA
import Derived.Test.YtbchceojmblkkaaGreatDoorNK
set_option linter.unusedVariables false
set_option linter.unusedSimpArgs false
namespace Go.Vs.U8
end Go.Vs.U8
namespace Go.Vs.Pa
end Go.Vs.Pa
namespace Go.Vs.Cv
end Go.Vs.Cv
namespace Go.Vs.Mo
end Go.Vs.Mo
namespace Go.Vs.Nu
end Go.Vs.Nu
namespace Go.Vs.YtbchceojmblkkaaGreatDoor.Rc
set_option linter.unusedSimpArgs false
set_option linter.unusedVariables false
open Go.Proofs Go.Vs.U8 Go.Vs.Pa Go.Vs.Cv Go.Vs.Mo Go.Vs.Nu
set_option maxRecDepth 100000
set_option maxHeartbeats 64000000
theorem ru_eq {a b : Ru} (hf : a.f = b.f) (hi : a.i = b.i) (hc : a.c = b.c) (hk : a.u.k = b.u.k) (hs : a.u.s = b.u.s) (hw : a.w = b.w) (h7 : a.l7 = b.l7) (hl : ∀ j, j ∈ listKs → j ≠ 7 → lst a j = lst b j) : a = b := by
 have h4 : a.l4 = b.l4 := hl 4 (by simp [listKs]) (by omega)
 have h5 : a.l5 = b.l5 := hl 5 (by simp [listKs]) (by omega)
 have h6 : a.l6 = b.l6 := hl 6 (by simp [listKs]) (by omega)
 have h8 : a.l8 = b.l8 := hl 8 (by simp [listKs]) (by omega)
 have h9 : a.l9 = b.l9 := hl 9 (by simp [listKs]) (by omega)
 have h10 : a.l10 = b.l10 := hl 10 (by simp [listKs]) (by omega)
 have h11 : a.l11 = b.l11 := hl 11 (by simp [listKs]) (by omega)
 have h12 : a.l12 = b.l12 := hl 12 (by simp [listKs]) (by omega)
 obtain ⟨f, i, c, ⟨uk, us⟩, l4, l5, l6, l7, l8, l9, l10, l11, l12, w⟩ := a
 obtain ⟨f', i', c', ⟨uk', us'⟩, l4', l5', l6', l7', l8', l9', l10', l11', l12', w'⟩ := b
 simp only at hf hi hc hk hs hw h7 h4 h5 h6 h8 h9 h10 h11 h12
 subst hf hi hc hk hs hw h7 h4 h5 h6 h8 h9 h10 h11 h12
 rfl
theorem fn_recSame (a b : Ru) (fa : FitR a) (fb : FitR b) : Fn G2 Tryz.prog k_recur_Same [a.iv, b.iv] (.bool (decide (a = b))) := by
 refine fn_intro hm ok_recur_Same (by simp) ?_
 have h7 := fn_EqualD a.l7 b.l7 (by have := fa.2.2.2.1; omega) (by have := fb.2.2.2.1; omega)
 have hfa := @fit_at a fa
 have hfb := @fit_at b fb
 unfold Ru.iv cells
 simp [c_recur_Same, r_recur_Same]
 by_cases e0 : a.f = b.f
 ·skip
  by_cases e1 : a.i = b.i
  ·skip
   by_cases e2 : a.c = b.c
   ·skip
    by_cases e3 : a.u.k = b.u.k
    ·skip
     by_cases e4 : a.u.s = b.u.s
     ·skip
      by_cases e5 : a.w = b.w
      ·skip
       simp (disch := omega) [wl, e0, e1, e2, e3, e4, e5]
       refine callW_imm h7 ?_
       by_cases e6 : a.l7 = b.l7
       ·simp (disch := omega) [wl, e6]
        refine loopW hm (fun k : Nat => ⟨[(5, .val (.int .i64 k)), (4, .val (.bool false)), (3, .loc 3 0), (2, .loc 2 0)], [(3, .box (bxs b)), (2, .box (bxs a))], [3, 2], 65, G2⟩) (fun k => 4 ≤ k ∧ k ≤ 13 ∧ ∀ j, j < k → j ∈ listKs → j ≠ 7 → lst a j = lst b j) (fun k => 13 - k) 4 ⟨by omega, by omega, fun j h1 h2 => by simp [listKs] at h2; omega⟩ ?_ (fun _ => rfl) ?_
        ·simp [bxs]
         exact weak_drop rfl rfl (by simp [EnvLe, getE, look]) (by simp [ObLe, look, bxs, e0, e1, e2, e3, e4, e5, e6]) (by simp [roOk])
        rintro k ⟨k1, k2, hc⟩
        simp [bxs]
        by_cases h : k ≤ 12
        ·have hk' : k ∈ listKs := by simp [listKs]; omega
         by_cases q7 : k = 7
         ·subst q7
          simp (disch := omega) [wl]
          refine ⟨rfl, ?_⟩
          refine loopEnd 8 ⟨by omega, by omega, fun j h1 h2 h3 => hc j (by omega) h2 h3⟩ (by omega) ?_
          simp [bxs]
          exact wdr
         ·obtain ⟨ra, hda⟩ := drop_at a k hk' q7
          obtain ⟨rb, hdb⟩ := drop_at b k hk' q7
          have hLa := fn_rlist a k hk' q7
          have hLb := fn_rlist b k hk' q7
          have hE := fn_EqualI (lst a k) (lst b k) (by have := hfa hk' q7; omega) (by have := hfb hk' q7; omega)
          rw [hda] at hLa
          rw [hdb] at hLb
          unfold cells at hLa hLb
          simp (disch := omega) [wl, q7]
          refine callW_imm hLa ?_
          simp (disch := omega) [wl]
          refine callW_imm hLb ?_
          simp (disch := omega) [wl]
          refine callW_imm hE ?_
          by_cases q8 : lst a k = lst b k
          ·simp (disch := omega) [wl, q8]
           refine ⟨rfl, ?_⟩
           refine loopEnd (k + 1) ⟨by omega, by omega, fun j h1 h2 h3 => by
            by_cases hj : j = k
            ·subst hj; exact q8
            ·exact hc j (by omega) h2 h3⟩ (by omega) ?_
           simp [bxs]
           exact wdr
          ·have hne : ¬ a = b := fun e => q8 (by rw [e])
           simp (disch := omega) [wl, q8, hne]
           rfl
        ·obtain rfl : k = 13 := by omega
         have he : a = b := ru_eq e0 e1 e2 e3 e4 e5 e6 (fun j h2 h3 => hc j (by simp [listKs] at h2; omega) h2 h3)
         simp (disch := omega) [wl, he]
       ·have hne : ¬ a = b := fun e => e6 (by rw [e])
        simp (disch := omega) [wl, e6, hne]
      ·have hne : ¬ a = b := fun e => e5 (by rw [e])
       simp (disch := omega) [wl, e0, e1, e2, e3, e4, e5, hne]
     ·have hne : ¬ a = b := fun e => e4 (by rw [e])
      simp (disch := omega) [wl, e0, e1, e2, e3, e4, hne]
    ·have hne : ¬ a = b := fun e => e3 (by rw [e])
     simp (disch := omega) [wl, e0, e1, e2, e3, hne]
   ·have hne : ¬ a = b := fun e => e2 (by rw [e])
    simp (disch := omega) [wl, e0, e1, e2, hne]
  ·have hne : ¬ a = b := fun e => e1 (by rw [e])
   simp (disch := omega) [wl, e0, e1, hne]
 ·have hne : ¬ a = b := fun e => e0 (by rw [e])
  simp (disch := omega) [wl, e0, hne]
theorem fn_dSameR (a b : Ru) (fa : FitR a) (fb : FitR b) : Fn G2 Tryz.prog k_ref21_Same [a.iv, b.iv] (.bool (decide (a = b))) := by
 refine fn_intro hm ok_ref21_Same (by simp) ?_
 obtain ⟨a4, a5, a6, a7, a8, a9, a10, a11, a12⟩ := fa
 obtain ⟨b4, b5, b6, b7, b8, b9, b10, b11, b12⟩ := fb
 have s4 := up (fn_SameInts a.l4 b.l4 (by omega) (by omega))
 have s5 := up (fn_SameInts a.l5 b.l5 (by omega) (by omega))
 have s6 := up (fn_SameInts a.l6 b.l6 (by omega) (by omega))
 have s7 := up (fn_SameDays a.l7 b.l7 (by omega) (by omega))
 have s8 := up (fn_SameInts a.l8 b.l8 (by omega) (by omega))
 have s9 := up (fn_SameInts a.l9 b.l9 (by omega) (by omega))
 have s10 := up (fn_SameInts a.l10 b.l10 (by omega) (by omega))
 have s11 := up (fn_SameInts a.l11 b.l11 (by omega) (by omega))
 have s12 := up (fn_SameInts a.l12 b.l12 (by omega) (by omega))
 unfold Ru.iv cells
 simp [c_ref21_Same, r_ref21_Same]
 by_cases e0 : a.f = b.f
 ·skip
  by_cases e1 : a.i = b.i
  ·skip
   by_cases e2 : a.c = b.c
   ·skip
    by_cases e3 : a.u.k = b.u.k
    ·skip
     by_cases e4 : a.u.s = b.u.s
     ·skip
      by_cases e5 : a.w = b.w
      ·skip
       simp (disch := omega) [wl, e0, e1, e2, e3, e4, e5]
       refine callW_imm s4 ?_
       by_cases q4 : a.l4 = b.l4
       ·simp (disch := omega) [wl, q4]
        refine callW_imm s5 ?_
        by_cases q5 : a.l5 = b.l5
        ·simp (disch := omega) [wl, q5]
         refine callW_imm s6 ?_
         by_cases q6 : a.l6 = b.l6
         ·simp (disch := omega) [wl, q6]
          refine callW_imm s7 ?_
          by_cases q7 : a.l7 = b.l7
          ·simp (disch := omega) [wl, q7]
           refine callW_imm s8 ?_
           by_cases q8 : a.l8 = b.l8
           ·simp (disch := omega) [wl, q8]
            refine callW_imm s9 ?_
            by_cases q9 : a.l9 = b.l9
            ·simp (disch := omega) [wl, q9]
             refine callW_imm s10 ?_
             by_cases q10 : a.l10 = b.l10
             ·simp (disch := omega) [wl, q10]
              refine callW_imm s11 ?_
              by_cases q11 : a.l11 = b.l11
              ·simp (disch := omega) [wl, q11]
               refine callW_imm s12 ?_
               by_cases q12 : a.l12 = b.l12
               ·simp (disch := omega) [wl, q12]
                have he : a = b := ru_eq e0 e1 e2 e3 e4 e5 q7 (fun j h2 h3 => by rcases k8 h2 h3 with rfl | rfl | rfl | rfl | rfl | rfl | rfl | rfl <;> assumption)
                simp [he]
               ·have hne : ¬ a = b := fun e => q12 (by rw [e])
                simp (disch := omega) [wl, q12, hne]
              ·have hne : ¬ a = b := fun e => q11 (by rw [e])
               simp (disch := omega) [wl, q11, hne]
             ·have hne : ¬ a = b := fun e => q10 (by rw [e])
              simp (disch := omega) [wl, q10, hne]
            ·have hne : ¬ a = b := fun e => q9 (by rw [e])
             simp (disch := omega) [wl, q9, hne]
           ·have hne : ¬ a = b := fun e => q8 (by rw [e])
            simp (disch := omega) [wl, q8, hne]
          ·have hne : ¬ a = b := fun e => q7 (by rw [e])
           simp (disch := omega) [wl, q7, hne]
         ·have hne : ¬ a = b := fun e => q6 (by rw [e])
          simp (disch := omega) [wl, q6, hne]
        ·have hne : ¬ a = b := fun e => q5 (by rw [e])
         simp (disch := omega) [wl, q5, hne]
       ·have hne : ¬ a = b := fun e => q4 (by rw [e])
        simp (disch := omega) [wl, q4, hne]
      ·have hne : ¬ a = b := fun e => e5 (by rw [e])
       simp (disch := omega) [wl, e0, e1, e2, e3, e4, e5, hne]
     ·have hne : ¬ a = b := fun e => e4 (by rw [e])
      simp (disch := omega) [wl, e0, e1, e2, e3, e4, hne]
    ·have hne : ¬ a = b := fun e => e3 (by rw [e])
     simp (disch := omega) [wl, e0, e1, e2, e3, hne]
   ·have hne : ¬ a = b := fun e => e2 (by rw [e])
    simp (disch := omega) [wl, e0, e1, e2, hne]
  ·have hne : ¬ a = b := fun e => e1 (by rw [e])
   simp (disch := omega) [wl, e0, e1, hne]
 ·have hne : ¬ a = b := fun e => e0 (by rw [e])
  simp (disch := omega) [wl, e0, hne]
theorem fn_rBack (r : Ru) (hf : FitR r) : Fn G2 Tryz.prog k_law21_Back [r.iv] r.iv := by
 refine fn_intro hm ok_law21_Back (by simp) ?_
 obtain ⟨f4, f5, f6, f7, f8, f9, f10, f11, f12⟩ := hf
 have s7 := up (fn_nBack r.l7 (by omega))
 unfold Ru.iv cells
 simp [c_law21_Back, r_law21_Back]
 refine callW_imm s7 ?_
 simp (disch := omega) [wl]
 first | rfl | (refine ⟨rfl, ?_⟩; rfl) | (refine ⟨rfl, ?_⟩; simp (disch := omega) [wl])
end Go.Vs.YtbchceojmblkkaaGreatDoor.Rc
namespace Go.Vs.YtbchceojmblkkaaGreatDoor.Rc
set_option linter.unusedSimpArgs false
set_option linter.unusedVariables false
open Go.Proofs Go.Vs.U8 Go.Vs.Pa Go.Vs.Cv Go.Vs.Mo Go.Vs.Nu Go.Lib
set_option maxRecDepth 100000
set_option maxHeartbeats 32000000
def tx (l : List (Nat × Str)) : List Str := l.map fun p => eqS p.1 p.2
theorem tx_app (a b : List (Nat × Str)) : tx (a ++ b) = tx a ++ tx b := by simp [tx]
theorem ts_app (a b : List Str) : ts (a ++ b) = ts a ++ ts b := by simp [ts]
def pr0 (r : Ru) : List (Nat × Str) := [(0, wordK r.f.toNat)]
def pr1 (r : Ru) : List (Nat × Str) := pr0 r ++ optP (decide (r.u.k ≠ 0)) 1 (momT r.u)
def pr2 (r : Ru) : List (Nat × Str) := pr1 r ++ optP (decide (r.c ≠ 0)) 2 (itoa r.c)
def pr3 (r : Ru) : List (Nat × Str) := pr2 r ++ optP (decide (r.i ≠ 1)) 3 (itoa r.i)
def pr4 (r : Ru) (j : Nat) : List (Nat × Str) := pr3 r ++ listPs r (listKs.take j)
theorem prs_eq (r : Ru) : pairs r = pr4 r 9 ++ optP (decide (r.w ≠ 0)) 13 (wkN r.w) := by simp [pairs, pr4, pr3, pr2, pr1, pr0, listKs]
def rtI (r : Ru) : IV := .tuple [.str (if checkR r = 0 then printR r else []), .int .i64 (checkR r)]
theorem listPs_app (r : Ru) : ∀ a b, listPs r (a ++ b) = listPs r a ++ listPs r b
 | [], b => rfl
 | x :: a, b => by simp [listPs, listPs_app r a b]
theorem pr4_step (r : Ru) {j k : Nat} (hj : j < 9) (hk : k = 4 + j) : pr4 r (j + 1) = pr4 r j ++ optP (decide (valP r k ≠ [])) k (valP r k) := by
 have e : listKs.take (j + 1) = listKs.take j ++ [k] := by
  have : j = 0 ∨ j = 1 ∨ j = 2 ∨ j = 3 ∨ j = 4 ∨ j = 5 ∨ j = 6 ∨ j = 7 ∨ j = 8 := by omega
  subst hk
  rcases this with rfl | rfl | rfl | rfl | rfl | rfl | rfl | rfl | rfl <;> rfl
 unfold pr4
 rw [e, listPs_app]
 simp [listPs]
theorem tlen (l : List (Nat × Str)) : (ts (tx l)).length = l.length := by simp [ts, tx]
theorem opt_len (b : Bool) (k : Nat) (v : Str) : (optP b k v).length ≤ 1 := by unfold optP; split <;> simp
def nm9 : List Str := (names.drop 4).take 9
theorem nm9_get {j : Nat} (h : j < 9) : (ts nm9)[j]? = some [.str (nameK (4 + j))] := by
 have : j = 0 ∨ j = 1 ∨ j = 2 ∨ j = 3 ∨ j = 4 ∨ j = 5 ∨ j = 6 ∨ j = 7 ∨ j = 8 := by omega
 rcases this with rfl | rfl | rfl | rfl | rfl | rfl | rfl | rfl | rfl <;> rfl
theorem i64_of {n : Int} (h : n.natAbs ≤ 1000000) : i64 n := by unfold i64; omega
theorem fn_recPrint (r : Ru) (hf : FitR r) (hk : 0 ≤ r.u.k) (h0 : 0 ≤ r.f) : Fn G2 Tryz.prog k_recur_Print [r.iv] (rtI r) := by
 refine fn_intro hm ok_recur_Print (by simp) ?_
 have hC := fn_Check' r hf hk
 obtain ⟨e, he⟩ : ∃ e, checkR r = e := ⟨_, rfl⟩
 unfold rtI
 rw [he] at hC ⊢
 unfold Ru.iv cells at hC ⊢
 simp [c_recur_Print, r_recur_Print]
 refine callW_imm hC ?_
 by_cases e0 : e = 0
 ·subst e0
  rw [if_pos rfl]
  obtain ⟨c1, c2, _⟩ := checkR_zero he
  obtain ⟨d1, d2, d3, d4, d5, d6, d7, d8⟩ := headR_zero c1
  have hlen := printR_len h0 he
  obtain ⟨f, hfn⟩ : ∃ f : Nat, r.f = f := ⟨r.f.toNat, by omega⟩
  have hW := fn_word f (by omega)
  have hwl := (word_no f).2
  have hP0 : tx (pr0 r) = [eqS 0 (wordK f)] := by simp [tx, pr0, hfn]
  rw [← hfn] at hW
  simp (disch := omega) [wl]
  refine callW_imm hW ?_
  simp (disch := omega) [wl]
  have hz : [[IV.str (70 :: 82 :: 69 :: 81 :: 61 :: wordK f)]] = ts (tx (pr0 r)) := by rw [hP0]; rfl
  rw [hz]
  refine ⟨by omega, ?_⟩
  have hl0 : (ts (tx (pr0 r))).length = 1 := by rw [hP0]; rfl
  have hl1 : (ts (tx (pr1 r))).length ≤ 2 := by rw [tlen] at hl0 ⊢; rw [pr1, List.length_append]; have := opt_len (decide (r.u.k ≠ 0)) 1 (momT r.u); omega
  have hl2 : (ts (tx (pr2 r))).length ≤ 3 := by rw [tlen] at hl1 ⊢; rw [pr2, List.length_append]; have := opt_len (decide (r.c ≠ 0)) 2 (itoa r.c); omega
  have hl3 : (ts (tx (pr3 r))).length ≤ 4 := by rw [tlen] at hl2 ⊢; rw [pr3, List.length_append]; have := opt_len (decide (r.i ≠ 1)) 3 (itoa r.i); omega
  refine cutW hm (fun v : Nat => ⟨[(5, .own 21 v), (4, .val (.int .i64 0)), (3, .val (.int .i64 0)), (2, .val (.str [])), (1, .loc 1 0)], [(21, .arr v 1 (ts (tx (pr1 r)))), (1, .box (bxs r))], [], 99, G2⟩) (fun _ => True) (fun _ => rfl) ?_ ?_
  ·by_cases k0 : r.u.k = 0
   ·have hp : pr1 r = pr0 r := by simp [pr1, optP, k0]
    rw [hp]
    simp (disch := omega) [wl, k0]
    refine joinEnd 0 trivial ?_
    simp [bxs, k0]
    exact weak_drop rfl rfl (by simp [EnvLe, getE, look]) (by simp [ObLe, look, k0]) (by simp [roOk])
   ·have hu : momC r.u = 0 := by
     rcases d8 with h | h
     ·rw [h] at k0; exact absurd rfl k0
     ·exact h.2
    have hM := fn_mPrint r.u hk
    unfold prMI moI at hM
    rw [hu, if_pos rfl] at hM
    have hml := momT_len r.u
    have hp : ts (tx (pr0 r)) ++ [[.str (85 :: 78 :: 84 :: 73 :: 76 :: 61 :: momT r.u)]] = ts (tx (pr1 r)) := by
     unfold pr1
     rw [tx_app, ts_app]
     simp [optP, k0, tx, ts]
     rfl
    simp (disch := omega) [wl, k0]
    refine callW_imm hM ?_
    simp (disch := omega) [wl, hl0, hp]
    refine ⟨by omega, ?_⟩
    refine joinEnd 1 trivial ?_
    simp [bxs]
    exact wdr
  intro v1 _
  simp [bxs]
  refine cutW hm (fun v : Nat => ⟨[(5, .own 21 v), (4, .val (.int .i64 0)), (3, .val (.int .i64 0)), (2, .val (.str [])), (1, .loc 1 0)], [(21, .arr v 1 (ts (tx (pr2 r)))), (1, .box (bxs r))], [], 99, G2⟩) (fun _ => True) (fun _ => rfl) ?_ ?_
  ·by_cases k0 : r.c = 0
   ·have hp : pr2 r = pr1 r := by simp [pr2, optP, k0]
    rw [hp]
    simp (disch := omega) [wl, k0]
    refine joinEnd v1 trivial ?_
    simp [bxs, k0]
    exact weak_drop rfl rfl (by simp [EnvLe, getE, look]) (by simp [ObLe, look, k0]) (by simp [roOk])
   ·have hM := up (fn_Itoa r.c (by omega) (by omega))
    have hml := itoa_len (n := r.c) (by omega)
    have hp : ts (tx (pr1 r)) ++ [[.str (67 :: 79 :: 85 :: 78 :: 84 :: 61 :: itoa r.c)]] = ts (tx (pr2 r)) := by
     unfold pr2
     rw [tx_app, ts_app]
     simp [optP, k0, tx, ts]
     rfl
    simp (disch := omega) [wl, k0]
    refine callW_imm hM ?_
    simp (disch := omega) [wl, hp]
    refine ⟨by omega, by omega, ?_⟩
    refine joinEnd (v1 + 1) trivial ?_
    simp [bxs]
    exact wdr
  intro v2 _
  simp [bxs]
  refine cutW hm (fun v : Nat => ⟨[(5, .own 21 v), (4, .val (.int .i64 0)), (3, .val (.int .i64 0)), (2, .val (.str [])), (1, .loc 1 0)], [(21, .arr v 1 (ts (tx (pr3 r)))), (1, .box (bxs r))], [], 99, G2⟩) (fun _ => True) (fun _ => rfl) ?_ ?_
  ·by_cases k0 : r.i = 1
   ·have hp : pr3 r = pr2 r := by simp [pr3, optP, k0]
    rw [hp]
    simp (disch := omega) [wl, k0]
    refine joinEnd v2 trivial ?_
    simp [bxs, k0]
    exact weak_drop rfl rfl (by simp [EnvLe, getE, look]) (by simp [ObLe, look, k0]) (by simp [roOk])
   ·have hM := up (fn_Itoa r.i (by omega) (by omega))
    have hml := itoa_len (n := r.i) (by omega)
    have hp : ts (tx (pr2 r)) ++ [[.str (73 :: 78 :: 84 :: 69 :: 82 :: 86 :: 65 :: 76 :: 61 :: itoa r.i)]] = ts (tx (pr3 r)) := by
     unfold pr3
     rw [tx_app, ts_app]
     simp [optP, k0, tx, ts]
     rfl
    simp (disch := omega) [wl, k0]
    refine callW_imm hM ?_
    simp (disch := omega) [wl, hp]
    refine ⟨by omega, by omega, ?_⟩
    refine joinEnd (v2 + 1) trivial ?_
    simp [bxs]
    exact wdr
  intro v3 _
  simp [bxs]
  have hp40 : pr4 r 0 = pr3 r := by simp [pr4, listKs, listPs]
  refine loopW hm (fun x : Nat × Nat => ⟨[(60, .val (.int .i64 x.1)), (59, .val (.int .i64 9)), (58, .own 57 0), (8, .own 57 0), (5, .own 21 x.2), (4, .val (.int .i64 0)), (3, .val (.int .i64 0)), (2, .val (.str [])), (1, .loc 1 0)], [(57, .arr 0 1 (ts nm9)), (21, .arr x.2 1 (ts (tx (pr4 r x.1)))), (1, .box (bxs r))], [1], 99, G2⟩) (fun x => x.1 ≤ 9) (fun x => 9 - x.1) (0, v3) (by simp) ?_ (fun _ => rfl) ?_
  ·simp [bxs, hp40]
   exact weak_drop rfl rfl (by simp [EnvLe, getE, look]) (by simp [ObLe, look, nm9, names, ts]) (by simp [roOk])
  rintro ⟨j, v⟩ hj
  simp only at hj
  have hn9 : (ts nm9).length = 9 := rfl
  have hl4 : (ts (tx (pr4 r j))).length ≤ 13 := by
   rw [tlen, pr4, List.length_append]
   rw [tlen] at hl3
   have : ∀ l : List Nat, (listPs r l).length ≤ l.length := fun l => by
    induction l with
    | nil => simp [listPs]
    | cons x l ih => simp only [listPs, List.length_append, List.length_cons]; have := opt_len (decide (valP r x ≠ [])) x (valP r x); omega
   have := this (listKs.take j)
   have : (listKs.take j).length ≤ 9 := by rw [List.length_take]; simp [listKs]; omega
   omega
  simp [bxs]
  by_cases h : j < 9
  ·have hg := nm9_get h
   have hstep := pr4_step r h (k := 4 + j) rfl
   obtain ⟨k, hk'⟩ : ∃ k, 4 + j = k := ⟨_, rfl⟩
   rw [hk'] at hg hstep
   have hgi : ∀ hh, (ts nm9)[j]'hh = [.str (nameK k)] := fun hh => by
    rw [List.getElem?_eq_getElem hh] at hg
    exact Option.some.inj hg
   have e4 : (4 : Int) + (j : Int) = (k : Int) := by omega
   have hin : k ∈ listKs := by simp [listKs]; omega
   have hs := c2 k hin
   have hnl := name_len (k := k) (by omega)
   obtain ⟨V, hV⟩ : ∃ V, valP r k = V := ⟨_, rfl⟩
   rw [hV] at hstep
   have hpapp : V ≠ [] → ts (tx (pr4 r j)) ++ [[.str (nameK k ++ 61 :: V)]] = ts (tx (pr4 r (j + 1))) := fun hne => by
    rw [hstep, tx_app, ts_app]
    simp [optP, hne, tx, ts, eqS]
   have hpno : V = [] → pr4 r (j + 1) = pr4 r j := fun he => by
    rw [hstep]
    simp [optP, he]
   by_cases h7 : k = 7
   ·subst h7
    have hs' : soundD r.l7 = 0 := hs
    obtain ⟨a, _, c⟩ := soundD_zero hs'
    have hP := up (fn_PrintD r.l7 (by omega) (fun x hx => by have := c x hx; exact ⟨i64_of (by omega), i64_of (by omega)⟩))
    have hVl : V.length ≤ 120 := by
     rw [← hV]
     have := printD_len (l := r.l7) (fun x hx => by have := c x hx; omega)
     show (printD r.l7).length ≤ 120
     omega
    have hVe : printD r.l7 = V := hV
    rw [hVe] at hP
    simp (disch := omega) [wl, hn9, hg, hgi, e4]
    refine ⟨by omega, ?_⟩
    refine callW_imm hP ?_
    by_cases hv : V = []
    ·have hz' := hpno hv
     subst hv
     simp (disch := omega) [wl]
     refine loopEnd (j + 1, v) (by simp; omega) (by simp; omega) ?_
     simp [bxs, hz']
     exact wdr
    ·have hz' := hpapp hv
     simp (disch := omega) [wl, hv, hz']
     refine ⟨by omega, by omega, by omega, ?_⟩
     refine loopEnd (j + 1, v + 1) (by simp; omega) (by simp; omega) ?_
     simp [bxs]
     exact wdr
   ·have hs' : soundL (wlo k) (whi k) (wsg k) (lst r k) = 0 := by unfold sndAt at hs; rwa [if_neg h7] at hs
    have hVe : printN (lst r k) = V := by unfold valP at hV; rwa [if_neg h7] at hV
    obtain ⟨a, _, c⟩ := soundL_zero hs'
    have hwh := whi_le k
    have hP := up (fn_PrintN (lst r k) (by omega) (fun x hx => i64_of (by have := c x hx; omega)))
    have hVl : V.length ≤ 120 := by
     rw [← hVe]
     have := printN_len (l := lst r k) (fun x hx => by have := c x hx; omega)
     omega
    rw [hVe] at hP
    obtain ⟨rest, hd⟩ := drop_at r k hin h7
    have hL := fn_rlist r k hin h7
    rw [hd] at hL
    unfold cells at hL
    simp (disch := omega) [wl, hn9, hg, hgi, e4, h7]
    refine ⟨by omega, ?_⟩
    refine callW_imm hL ?_
    simp (disch := omega) [wl]
    refine callW_imm hP ?_
    by_cases hv : V = []
    ·have hz' := hpno hv
     subst hv
     simp (disch := omega) [wl]
     refine loopEnd (j + 1, v) (by simp; omega) (by simp; omega) ?_
     simp [bxs, hz']
     exact wdr
    ·have hz' := hpapp hv
     simp (disch := omega) [wl, hv, hz']
     refine ⟨by omega, by omega, by omega, ?_⟩
     refine loopEnd (j + 1, v + 1) (by simp; omega) (by simp; omega) ?_
     simp [bxs]
     exact wdr
  ·obtain rfl : j = 9 := by omega
   simp (disch := omega) [wl, hn9]
   refine cutW hm (fun v' : Nat => ⟨[(5, .own 21 v'), (4, .val (.int .i64 0)), (3, .val (.int .i64 0)), (2, .val (.str []))], [(21, .arr v' 1 (ts (texts r)))], [], 99, G2⟩) (fun _ => True) (fun _ => rfl) ?_ ?_
   ·have hW := up (fn_WeekdayName r.w)
    have hwl := wkN_len r.w
    by_cases k0 : r.w = 0
    ·have hp : texts r = tx (pr4 r 9) := by
      show tx (pairs r) = _
      rw [prs_eq]
      simp [optP, k0]
     rw [hp]
     simp (disch := omega) [wl, k0]
     refine joinEnd v trivial ?_
     exact wdr
    ·have hp : ts (tx (pr4 r 9)) ++ [[.str (87 :: 75 :: 83 :: 84 :: 61 :: wkN r.w)]] = ts (texts r) := by
      show _ = ts (tx (pairs r))
      rw [prs_eq, tx_app, ts_app]
      simp [optP, k0, tx, ts]
      rfl
     simp (disch := omega) [wl, k0]
     refine callW_imm hW ?_
     simp (disch := omega) [wl, hp]
     refine ⟨by omega, by omega, ?_⟩
     refine joinEnd (v + 1) trivial ?_
     exact wdr
   intro v' _
   have hJ := up (fn_Join (texts r) [59] (by have := texts_len r; omega) (by show (printR r).length < _; omega))
   have hJ' : Fn G2 Tryz.prog k_strings_Join [.slice (ts (texts r)), .str [59]] (.str (printR r)) := hJ
   simp (disch := omega) [wl]
   refine callW_imm hJ' ?_
   simp (disch := omega) [wl]
 ·rw [if_neg e0]
  simp (disch := omega) [wl, e0]
end Go.Vs.YtbchceojmblkkaaGreatDoor.Rc
