/- The walk of the document's rules: a part's value. No conditions. -/
import Derived.Test.YtbchceojmblkkaaGreatDoorRR
import Derived.Test.YtbchceojmblkkaaGreatDoorNK
import Derived.Test.YtbchceojmblkkaaGreatDoorRA
set_option linter.unusedVariables false
set_option linter.unusedSimpArgs false
namespace Go.Vs.U8
end Go.Vs.U8
namespace Go.Vs.Pa
end Go.Vs.Pa
namespace Go.Vs.Cv
end Go.Vs.Cv
namespace Go.Vs.Mo
end Go.Vs.Mo
namespace Go.Vs.Nu
end Go.Vs.Nu
namespace Go.Vs.YtbchceojmblkkaaGreatDoor.Rc
set_option linter.unusedSimpArgs false
set_option linter.unusedVariables false
open Go.Proofs Go.Vs.U8 Go.Vs.Pa Go.Vs.Cv Go.Vs.Mo Go.Vs.Nu Go.Lib
set_option maxRecDepth 100000
set_option maxHeartbeats 32000000
def tkJ (r : Ru) (k : Nat) (v : Str) : Ru × Int × Nat :=
 if k = 0 then (if words.idxOf v < 7 then ({ r with f := (words.idxOf v : Nat) }, 0, 0) else (r, 11, 0))
 else if k = 1 then ({ r with u := (momR v).1 }, (momR v).2, 0)
 else if k = 2 then ({ r with c := (numR 5 1 1000 false v).1 }, (numR 5 1 1000 false v).2, 0)
 else if k = 3 then ({ r with i := (numR 5 1 1000 false v).1 }, (numR 5 1 1000 false v).2, 0)
 else if k = 7 then (match everyR dayR v with
  | .ok l => ({ r with l7 := l }, 0, 0)
  | .no e p => ({ r with l7 := [] }, e, p))
 else if k = 13 then ({ r with w := wkD v }, if wkD v < 0 then 4 else 0, 0)
 else match everyR (numR 5 (wlo k) (whi k) (wsg k)) v with
  | .ok l => (setK r k l, 0, 0)
  | .no e p => (setK r k [], e, p)
def tjI (x : Ru × Int × Nat) : IV := .tuple [x.1.iv, .int .i64 x.2.1, .int .i64 (x.2.2 : Nat)]
theorem words_at {i : Nat} (h : i ≤ 6) : words.idxOf (wordK i) = i := by
 rcases k7 h with rfl | rfl | rfl | rfl | rfl | rfl | rfl <;> rfl
theorem words_is {v : Str} (h : words.idxOf v < 7) : wordK (words.idxOf v) = v := by
 have h1 : words.idxOf v < words.length := h
 have h2 := List.getElem_idxOf h1
 unfold wordK
 rw [List.getD_eq_getElem?_getD, List.getElem?_eq_getElem h1, h2]
 rfl
theorem fn_dtake (r : Ru) (k : Nat) (v : Str) (hk : k < 14) (hv : v.length < 1000000) : Fn G2 Tryz.prog k_ref21_take [r.iv, .int .i64 k, .str v] (tjI (tkJ r k v)) := by
 refine fn_intro hm ok_ref21_take (by simp) ?_
 unfold Ru.iv cells
 simp [c_ref21_take, r_ref21_take]
 rcases k14 hk with rfl | rfl | rfl | rfl | rfl | rfl | rfl | rfl | rfl | rfl | rfl | rfl | rfl | rfl
 ·have hT : tkJ r 0 v = if words.idxOf v < 7 then ({ r with f := (words.idxOf v : Nat) }, 0, 0) else (r, 11, 0) := rfl
  rw [hT]
  have hX1 := fun h => words_is (v := v) h
  have hX2 := fun i h => words_at (i := i) h
  have hX7 : words.idxOf v ≤ 7 := List.idxOf_le_length
  obtain ⟨X, hX⟩ : ∃ X, words.idxOf v = X := ⟨_, rfl⟩
  rw [hX] at hX1 hX7 ⊢
  simp (disch := omega) [wl]
  refine loopU hm [] (fun i : Nat => [(11, .val (.int .i64 i)), (9, .val (.int .i64 (if X < i then 0 else 11)))]) (fun i => [(3, .box (bxs { r with f := if X < i then (X : Int) else r.f }))]) (fun i => i ≤ 7) (fun i => 7 - i) 0 (by omega) ?_ ?_
  ·simp [bxs]
   exact wdr
  intro i hi
  simp [bxs]
  by_cases h : i < 7
  ·have hW := fn_Word i (by omega)
   have h2 := hX2 i (by omega)
   simp (disch := omega) [wl]
   refine callW_imm hW ?_
   by_cases e : i = X
   ·subst e
    have h1 := hX1 (by omega)
    simp (disch := omega) [wl, h1]
    refine loopEnd (i + 1) (by omega) (by omega) ?_
    simp [bxs]
    exact wdr
   ·have hne : ¬ v = wordK i := fun h => e (by rw [← h, hX] at h2; omega)
    have hc : X < i + 1 ↔ X < i := by omega
    simp (disch := omega) [wl, hne]
    refine loopEnd (i + 1) (by omega) (by omega) ?_
    simp [bxs, hc]
    exact wdr
  ·obtain rfl : i = 7 := by omega
   by_cases h7 : X < 7
   ·simp (disch := omega) [wl, h7]
    rfl
   ·simp (disch := omega) [wl, h7]
    rfl
 ·have hP := fn_dParse v hv
  have hT : tkJ r 1 v = ({ r with u := (momR v).1 }, (momR v).2, 0) := rfl
  rw [hT]
  obtain ⟨P, hP'⟩ : ∃ P, momR v = P := ⟨_, rfl⟩
  rw [hP'] at hP ⊢
  unfold moI at hP
  simp (disch := omega) [wl]
  refine callW_imm hP ?_
  simp (disch := omega) [wl]
  rfl
 ·have hN := up (fn_rOne 1 1000 false v hv)
  have hT : tkJ r 2 v = ({ r with c := (numR 5 1 1000 false v).1 }, (numR 5 1 1000 false v).2, 0) := rfl
  rw [hT]
  obtain ⟨P, hP'⟩ : ∃ P, numR 5 1 1000 false v = P := ⟨_, rfl⟩
  rw [hP'] at hN ⊢
  unfold numI at hN
  simp (disch := omega) [wl]
  refine callW_imm hN ?_
  simp (disch := omega) [wl]
  rfl
 ·have hN := up (fn_rOne 1 1000 false v hv)
  have hT : tkJ r 3 v = ({ r with i := (numR 5 1 1000 false v).1 }, (numR 5 1 1000 false v).2, 0) := rfl
  rw [hT]
  obtain ⟨P, hP'⟩ : ∃ P, numR 5 1 1000 false v = P := ⟨_, rfl⟩
  rw [hP'] at hN ⊢
  unfold numI at hN
  simp (disch := omega) [wl]
  refine callW_imm hN ?_
  simp (disch := omega) [wl]
  rfl
 ·have hN := up (fn_rList 0 59 false v hv)
  have hT : tkJ r 4 v = (match everyR (numR 5 0 59 false) v with
  | .ok l => (setK r 4 l, 0, 0)
  | .no e p => (setK r 4 [], e, p)) := rfl
  rw [hT]
  obtain ⟨P, hP'⟩ : ∃ P, everyR (numR 5 0 59 false) v = P := ⟨_, rfl⟩
  rw [hP'] at hN ⊢
  simp (disch := omega) [wl]
  refine callW_imm hN ?_
  cases P with
  | ok l =>
   simp (disch := omega) [wl, gotEJ]
   rfl
  | no e p =>
   simp (disch := omega) [wl, gotEJ]
   rfl
 ·have hN := up (fn_rList 0 59 false v hv)
  have hT : tkJ r 5 v = (match everyR (numR 5 0 59 false) v with
  | .ok l => (setK r 5 l, 0, 0)
  | .no e p => (setK r 5 [], e, p)) := rfl
  rw [hT]
  obtain ⟨P, hP'⟩ : ∃ P, everyR (numR 5 0 59 false) v = P := ⟨_, rfl⟩
  rw [hP'] at hN ⊢
  simp (disch := omega) [wl]
  refine callW_imm hN ?_
  cases P with
  | ok l =>
   simp (disch := omega) [wl, gotEJ]
   rfl
  | no e p =>
   simp (disch := omega) [wl, gotEJ]
   rfl
 ·have hN := up (fn_rList 0 23 false v hv)
  have hT : tkJ r 6 v = (match everyR (numR 5 0 23 false) v with
  | .ok l => (setK r 6 l, 0, 0)
  | .no e p => (setK r 6 [], e, p)) := rfl
  rw [hT]
  obtain ⟨P, hP'⟩ : ∃ P, everyR (numR 5 0 23 false) v = P := ⟨_, rfl⟩
  rw [hP'] at hN ⊢
  simp (disch := omega) [wl]
  refine callW_imm hN ?_
  cases P with
  | ok l =>
   simp (disch := omega) [wl, gotEJ]
   rfl
  | no e p =>
   simp (disch := omega) [wl, gotEJ]
   rfl
 ·have hN := up (fn_rDays v hv)
  have hT : tkJ r 7 v = (match everyR dayR v with
  | .ok l => ({ r with l7 := l }, 0, 0)
  | .no e p => ({ r with l7 := [] }, e, p)) := rfl
  rw [hT]
  obtain ⟨P, hP'⟩ : ∃ P, everyR dayR v = P := ⟨_, rfl⟩
  rw [hP'] at hN ⊢
  simp (disch := omega) [wl]
  refine callW_imm hN ?_
  cases P with
  | ok l =>
   simp (disch := omega) [wl, gotDJ]
   rfl
  | no e p =>
   simp (disch := omega) [wl, gotDJ]
   rfl
 ·have hN := up (fn_rList 1 31 true v hv)
  have hT : tkJ r 8 v = (match everyR (numR 5 1 31 true) v with
  | .ok l => (setK r 8 l, 0, 0)
  | .no e p => (setK r 8 [], e, p)) := rfl
  rw [hT]
  obtain ⟨P, hP'⟩ : ∃ P, everyR (numR 5 1 31 true) v = P := ⟨_, rfl⟩
  rw [hP'] at hN ⊢
  simp (disch := omega) [wl]
  refine callW_imm hN ?_
  cases P with
  | ok l =>
   simp (disch := omega) [wl, gotEJ]
   rfl
  | no e p =>
   simp (disch := omega) [wl, gotEJ]
   rfl
 ·have hN := up (fn_rList 1 366 true v hv)
  have hT : tkJ r 9 v = (match everyR (numR 5 1 366 true) v with
  | .ok l => (setK r 9 l, 0, 0)
  | .no e p => (setK r 9 [], e, p)) := rfl
  rw [hT]
  obtain ⟨P, hP'⟩ : ∃ P, everyR (numR 5 1 366 true) v = P := ⟨_, rfl⟩
  rw [hP'] at hN ⊢
  simp (disch := omega) [wl]
  refine callW_imm hN ?_
  cases P with
  | ok l =>
   simp (disch := omega) [wl, gotEJ]
   rfl
  | no e p =>
   simp (disch := omega) [wl, gotEJ]
   rfl
 ·have hN := up (fn_rList 1 53 true v hv)
  have hT : tkJ r 10 v = (match everyR (numR 5 1 53 true) v with
  | .ok l => (setK r 10 l, 0, 0)
  | .no e p => (setK r 10 [], e, p)) := rfl
  rw [hT]
  obtain ⟨P, hP'⟩ : ∃ P, everyR (numR 5 1 53 true) v = P := ⟨_, rfl⟩
  rw [hP'] at hN ⊢
  simp (disch := omega) [wl]
  refine callW_imm hN ?_
  cases P with
  | ok l =>
   simp (disch := omega) [wl, gotEJ]
   rfl
  | no e p =>
   simp (disch := omega) [wl, gotEJ]
   rfl
 ·have hN := up (fn_rList 1 12 false v hv)
  have hT : tkJ r 11 v = (match everyR (numR 5 1 12 false) v with
  | .ok l => (setK r 11 l, 0, 0)
  | .no e p => (setK r 11 [], e, p)) := rfl
  rw [hT]
  obtain ⟨P, hP'⟩ : ∃ P, everyR (numR 5 1 12 false) v = P := ⟨_, rfl⟩
  rw [hP'] at hN ⊢
  simp (disch := omega) [wl]
  refine callW_imm hN ?_
  cases P with
  | ok l =>
   simp (disch := omega) [wl, gotEJ]
   rfl
  | no e p =>
   simp (disch := omega) [wl, gotEJ]
   rfl
 ·have hN := up (fn_rList 1 366 true v hv)
  have hT : tkJ r 12 v = (match everyR (numR 5 1 366 true) v with
  | .ok l => (setK r 12 l, 0, 0)
  | .no e p => (setK r 12 [], e, p)) := rfl
  rw [hT]
  obtain ⟨P, hP'⟩ : ∃ P, everyR (numR 5 1 366 true) v = P := ⟨_, rfl⟩
  rw [hP'] at hN ⊢
  simp (disch := omega) [wl]
  refine callW_imm hN ?_
  cases P with
  | ok l =>
   simp (disch := omega) [wl, gotEJ]
   rfl
  | no e p =>
   simp (disch := omega) [wl, gotEJ]
   rfl
 ·have hN := up (fn_rWeekday v)
  have hT : tkJ r 13 v = ({ r with w := wkD v }, if wkD v < 0 then 4 else 0, 0) := rfl
  rw [hT]
  obtain ⟨P, hP'⟩ : ∃ P, wkD v = P := ⟨_, rfl⟩
  rw [hP'] at hN ⊢
  simp (disch := omega) [wl]
  refine callW_imm hN ?_
  by_cases h : P < 0
  ·simp (disch := omega) [wl, h]
   rfl
  ·simp (disch := omega) [wl, h]
   rfl
theorem tkJ_eq (r : Ru) (k : Nat) (hk : k < 14) (v : Str) : ∃ q : List Int, q.sum = ((tkJ r k v).2.2 : Nat) ∧ takeR r k v = if (tkJ r k v).2.1 = 0 then .ok (tkJ r k v).1 else .no (tkJ r k v).2.1 q := by
 by_cases h0 : k = 0
 ·subst h0
  have hT : tkJ r 0 v = if words.idxOf v < 7 then ({ r with f := (words.idxOf v : Nat) }, 0, 0) else (r, 11, 0) := rfl
  have hK : takeR r 0 v = if words.idxOf v < 7 then .ok { r with f := words.idxOf v } else .no 11 [] := rfl
  rw [hT, hK]
  by_cases h : words.idxOf v < 7
  ·rw [if_pos h, if_pos h]
   exact ⟨[], rfl, rfl⟩
  ·rw [if_neg h, if_neg h]
   exact ⟨[], rfl, rfl⟩
 by_cases h1 : k = 1
 ·subst h1
  exact ⟨[], rfl, rfl⟩
 by_cases h2 : k = 2
 ·subst h2
  exact ⟨[], rfl, rfl⟩
 by_cases h3 : k = 3
 ·subst h3
  exact ⟨[], rfl, rfl⟩
 by_cases h13 : k = 13
 ·subst h13
  refine ⟨[], rfl, ?_⟩
  show (if wkD v < 0 then TkR.no 4 [] else .ok { r with w := wkD v }) = if (if wkD v < 0 then (4 : Int) else 0) = 0 then .ok { r with w := wkD v } else .no (if wkD v < 0 then (4 : Int) else 0) []
  by_cases h : wkD v < 0
  ·rw [if_pos h, if_pos h, if_neg (by decide)]
  ·rw [if_neg h, if_neg h, if_pos rfl]
 by_cases h7 : k = 7
 ·subst h7
  have hT : tkJ r 7 v = (match everyR dayR v with
  | .ok l => ({ r with l7 := l }, 0, 0)
  | .no e p => ({ r with l7 := [] }, e, p)) := rfl
  rw [hT, td_eq]
  cases hE : everyR dayR v with
  | ok l => exact ⟨[], rfl, rfl⟩
  | no e p =>
   have he := (everyR_no hE).1
   refine ⟨[(p : Int)], by simp, ?_⟩
   simp only
   rw [if_neg he]
 have hl : k ∈ listKs := by simp [listKs]; omega
 have hT : tkJ r k v = (match everyR (numR 5 (wlo k) (whi k) (wsg k)) v with
  | .ok l => (setK r k l, 0, 0)
  | .no e p => (setK r k [], e, p)) := by
  unfold tkJ
  rw [if_neg h0, if_neg h1, if_neg h2, if_neg h3, if_neg h7, if_neg h13]
 rw [hT, tl_eq r k hl h7]
 cases hE : everyR (numR 5 (wlo k) (whi k) (wsg k)) v with
 | ok l => exact ⟨[], rfl, rfl⟩
 | no e p =>
  have he := (everyR_no hE).1
  refine ⟨[(p : Int)], by simp, ?_⟩
  simp only
  rw [if_neg he]
end Go.Vs.YtbchceojmblkkaaGreatDoor.Rc
