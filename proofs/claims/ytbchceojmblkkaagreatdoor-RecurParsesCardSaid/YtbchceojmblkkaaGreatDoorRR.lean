/- The walk of recur: a part's value is put into a rule. No conditions. -/
import Derived.Test.YtbchceojmblkkaaGreatDoorRO
import Derived.Test.YtbchceojmblkkaaGreatDoorRN
set_option linter.unusedVariables false
set_option linter.unusedSimpArgs false
namespace Go.Vs.U8
end Go.Vs.U8
namespace Go.Vs.Pa
end Go.Vs.Pa
namespace Go.Vs.Cv
end Go.Vs.Cv
namespace Go.Vs.Mo
end Go.Vs.Mo
namespace Go.Vs.Nu
end Go.Vs.Nu
namespace Go.Vs.YtbchceojmblkkaaGreatDoor.Rc
set_option linter.unusedSimpArgs false
set_option linter.unusedVariables false
open Go.Proofs Go.Vs.U8 Go.Vs.Pa Go.Vs.Cv Go.Vs.Mo Go.Vs.Nu Go.Lib
set_option maxRecDepth 100000
set_option maxHeartbeats 32000000
theorem fnM_rlist (r : Ru) (k : Nat) (h : k ∈ listKs) (h7 : k ≠ 7) : FnM G2 Tryz.prog k__errand_recur_Rule_list
  { args := [.loc 1000 0, .val (.int .i64 k)], objs := [(1000, .box (bxs r))], res := .loc 1000 (k + 1), objs' := [(1000, .box (bxs r))], ro' := [] } := by
 refine fnM_intro hm ok__errand_recur_Rule_list (by simp) rfl ?_
 simp [c__errand_recur_Rule_list, r__errand_recur_Rule_list, stM, bxs]
 rcases k8 h h7 with rfl | rfl | rfl | rfl | rfl | rfl | rfl | rfl <;>
 ·simp (disch := omega) [wl]
  simp [fnPostM]
  exact ⟨⟨[(4, .loc 1000 _)], [(1000, .box (bxs r))], [], 44, G2⟩, weak_drop rfl rfl (by simp [EnvLe, getE, look]) (by simp [ObLe, look, bxs]) (by simp [roOk]), by simp [bxs], [], rfl, rfl, rfl⟩
def gotL {α : Type} : GotE α → List α
 | .ok l => l
 | .no _ _ => []
def gotX {α : Type} : GotE α → IV
 | .ok _ => .nili
 | .no e p => errIV e [(p : Int)]
theorem gotD_eq (R : GotE Dn) : gotDI R = .tuple [.slice (dns (gotL R)), gotX R] := by cases R <;> rfl
theorem gotE_eq (R : GotE Int) : gotEI R = .tuple [.slice (is (gotL R)), gotX R] := by cases R <;> rfl
theorem fnM_takeList (r : Ru) (k : Nat) (h : k ∈ listKs) (h7 : k ≠ 7) (v : Str) (hv : v.length < 1000000) : FnM G2 Tryz.prog k__errand_recur_Rule_takeList
  { args := [.loc 1000 0, .val (.int .i64 k), .val (.str v)], objs := [(1000, .box (bxs r))], res := .val (gotX (everyR (numR 5 (wlo k) (whi k) (wsg k)) v)), objs' := [(1000, .box (bxs (setK r k (gotL (everyR (numR 5 (wlo k) (whi k) (wsg k)) v)))))], ro' := [] } := by
 refine fnM_intro hm ok__errand_recur_Rule_takeList (by simp) rfl ?_
 have hW := fn_within k (by simp [listKs] at h; omega)
 have hL := up (fn_List (wlo k) (whi k) (wsg k) v hv)
 rw [gotE_eq] at hL
 obtain ⟨R, hR⟩ : ∃ R, everyR (numR 5 (wlo k) (whi k) (wsg k)) v = R := ⟨_, rfl⟩
 rw [hR] at hL ⊢
 have hM := fnM_rlist r k h h7
 unfold wiI at hW
 simp [c__errand_recur_Rule_takeList, r__errand_recur_Rule_takeList, stM]
 simp (disch := omega) [wl, h7]
 refine callW_imm hW ?_
 simp (disch := omega) [wl]
 refine callW_imm hL ?_
 simp (disch := omega) [wl]
 refine callM [] [] hM rfl rfl ⟨rfl, trivial⟩ ⟨rfl, [], [], rfl, rfl, rfl⟩ rfl ?_
 rcases k8 h h7 with rfl | rfl | rfl | rfl | rfl | rfl | rfl | rfl
 ·simp (disch := omega) [wl, bxs]
  simp [fnPostM]
  exact ⟨⟨[(6, .val (gotX R))], [(1000, .box (bxs (setK r 4 (gotL R))))], [], 43, G2⟩, weak_drop rfl rfl (by simp [EnvLe, getE, look]) (by simp [ObLe, look, bxs, setK]) (by simp [roOk]), by simp [bxs, setK], [], rfl, rfl, rfl⟩
 ·simp (disch := omega) [wl, bxs]
  simp [fnPostM]
  exact ⟨⟨[(6, .val (gotX R))], [(1000, .box (bxs (setK r 5 (gotL R))))], [], 43, G2⟩, weak_drop rfl rfl (by simp [EnvLe, getE, look]) (by simp [ObLe, look, bxs, setK]) (by simp [roOk]), by simp [bxs, setK], [], rfl, rfl, rfl⟩
 ·simp (disch := omega) [wl, bxs]
  simp [fnPostM]
  exact ⟨⟨[(6, .val (gotX R))], [(1000, .box (bxs (setK r 6 (gotL R))))], [], 43, G2⟩, weak_drop rfl rfl (by simp [EnvLe, getE, look]) (by simp [ObLe, look, bxs, setK]) (by simp [roOk]), by simp [bxs, setK], [], rfl, rfl, rfl⟩
 ·simp (disch := omega) [wl, bxs]
  simp [fnPostM]
  exact ⟨⟨[(6, .val (gotX R))], [(1000, .box (bxs (setK r 8 (gotL R))))], [], 43, G2⟩, weak_drop rfl rfl (by simp [EnvLe, getE, look]) (by simp [ObLe, look, bxs, setK]) (by simp [roOk]), by simp [bxs, setK], [], rfl, rfl, rfl⟩
 ·simp (disch := omega) [wl, bxs]
  simp [fnPostM]
  exact ⟨⟨[(6, .val (gotX R))], [(1000, .box (bxs (setK r 9 (gotL R))))], [], 43, G2⟩, weak_drop rfl rfl (by simp [EnvLe, getE, look]) (by simp [ObLe, look, bxs, setK]) (by simp [roOk]), by simp [bxs, setK], [], rfl, rfl, rfl⟩
 ·simp (disch := omega) [wl, bxs]
  simp [fnPostM]
  exact ⟨⟨[(6, .val (gotX R))], [(1000, .box (bxs (setK r 10 (gotL R))))], [], 43, G2⟩, weak_drop rfl rfl (by simp [EnvLe, getE, look]) (by simp [ObLe, look, bxs, setK]) (by simp [roOk]), by simp [bxs, setK], [], rfl, rfl, rfl⟩
 ·simp (disch := omega) [wl, bxs]
  simp [fnPostM]
  exact ⟨⟨[(6, .val (gotX R))], [(1000, .box (bxs (setK r 11 (gotL R))))], [], 43, G2⟩, weak_drop rfl rfl (by simp [EnvLe, getE, look]) (by simp [ObLe, look, bxs, setK]) (by simp [roOk]), by simp [bxs, setK], [], rfl, rfl, rfl⟩
 ·simp (disch := omega) [wl, bxs]
  simp [fnPostM]
  exact ⟨⟨[(6, .val (gotX R))], [(1000, .box (bxs (setK r 12 (gotL R))))], [], 43, G2⟩, weak_drop rfl rfl (by simp [EnvLe, getE, look]) (by simp [ObLe, look, bxs, setK]) (by simp [roOk]), by simp [bxs, setK], [], rfl, rfl, rfl⟩
theorem fnM_takeDays (r : Ru) (v : Str) (hv : v.length < 1000000) : FnM G2 Tryz.prog k__errand_recur_Rule_takeList
  { args := [.loc 1000 0, .val (.int .i64 7), .val (.str v)], objs := [(1000, .box (bxs r))], res := .val (gotX (everyR dayR v)), objs' := [(1000, .box (bxs { r with l7 := gotL (everyR dayR v) }))], ro' := [] } := by
 refine fnM_intro hm ok__errand_recur_Rule_takeList (by simp) rfl ?_
 have hL := up (fn_Days v hv)
 rw [gotD_eq] at hL
 obtain ⟨R, hR⟩ : ∃ R, everyR dayR v = R := ⟨_, rfl⟩
 rw [hR] at hL ⊢
 simp [c__errand_recur_Rule_takeList, r__errand_recur_Rule_takeList, stM]
 refine callW_imm hL ?_
 simp (disch := omega) [wl, bxs]
 simp [fnPostM]
 exact ⟨⟨[(6, .val (gotX R))], [(1000, .box (bxs { r with l7 := gotL R }))], [], 43, G2⟩, weak_drop rfl rfl (by simp [EnvLe, getE, look]) (by simp [ObLe, look, bxs]) (by simp [roOk]), by simp [bxs], [], rfl, rfl, rfl⟩
def frP (v : Str) : Nat := min (words.idxOf v) 6
def tkP (r : Ru) (k : Nat) (v : Str) : Ru × Int :=
 if k = 0 then ({ r with f := (frP v : Nat) }, if words.idxOf v < 7 then 0 else 11)
 else if k = 1 then ({ r with u := (momR v).1 }, (momR v).2)
 else if k = 2 then ({ r with c := (numR 5 1 1000 false v).1 }, (numR 5 1 1000 false v).2)
 else if k = 3 then ({ r with i := (numR 5 1 1000 false v).1 }, (numR 5 1 1000 false v).2)
 else ({ r with w := wkD v }, if wkD v < 0 then 4 else 0)
def errO (e : Int) : IV := if e = 0 then .nili else errIV e [0]
theorem wordsLt {v : Str} {k : Nat} (h : k < words.idxOf v) (hk : k ≤ 6) : ¬ wordK k = v := fun e => by
 have := List.not_of_lt_findIdx (p := (· == v)) (xs := words) (i := k) h
 subst e
 rcases k7 hk with rfl | rfl | rfl | rfl | rfl | rfl | rfl <;> exact Bool.noConfusion (show true = false from this)
theorem fnM_take (r : Ru) (k : Nat) (hk : k = 0 ∨ k = 1 ∨ k = 2 ∨ k = 3 ∨ k = 13) (v : Str) (hv : v.length < 1000000) : FnM G2 Tryz.prog k__errand_recur_Rule_take
  { args := [.loc 1000 0, .val (.int .i64 k), .val (.str v)], objs := [(1000, .box (bxs r))], res := .val (errO (tkP r k v).2), objs' := [(1000, .box (bxs (tkP r k v).1))], ro' := [] } := by
 refine fnM_intro hm ok__errand_recur_Rule_take (by simp) rfl ?_
 obtain ⟨⟨r', e⟩, hT⟩ : ∃ p, tkP r k v = p := ⟨_, rfl⟩
 rw [hT]
 have hN := up (fn_New e 0)
 have hNe : (if e = 0 then IV.nili else errIV e [0]) = errO e := rfl
 rw [hNe] at hN
 simp [c__errand_recur_Rule_take, r__errand_recur_Rule_take, stM]
 rcases hk with rfl | rfl | rfl | rfl | rfl
 ·simp only [tkP] at hT
  rw [if_pos trivial] at hT
  obtain ⟨X, hX⟩ : ∃ X, words.idxOf v = X := ⟨_, rfl⟩
  have hX7 : X ≤ 7 := by rw [← hX]; exact List.idxOf_le_length
  have hfr : frP v = min X 6 := by unfold frP; rw [hX]
  have hXv : X < 7 → wordK X = v := fun h => by
   have h1 : words.idxOf v < words.length := by rw [hX]; exact h
   have h2 := List.getElem_idxOf h1
   unfold wordK
   rw [List.getD_eq_getElem?_getD, ← hX, List.getElem?_eq_getElem h1, h2]
   rfl
  have hlt : ∀ i, i < X → i ≤ 6 → ¬ wordK i = v := fun i h1 h2 => wordsLt (by rw [hX]; exact h1) h2
  rw [hX, hfr] at hT
  obtain ⟨Y, hY⟩ : ∃ Y, min X 6 = Y := ⟨_, rfl⟩
  rw [hY] at hT
  obtain ⟨rfl, he⟩ := Prod.mk.inj hT
  simp (disch := omega) [wl, bxs]
  refine loopU hm [] (fun _ : Nat => []) (fun i => [(1000, .box (bxs { r with f := (i : Nat) }))]) (fun i => i ≤ min X 6) (fun i => 6 - i) 0 (by omega) ?_ ?_
  ·simp [bxs]
   exact wdr
  intro i hi
  have hWd := fn_word i (by omega)
  simp [bxs]
  have hend : ∀ A B C : Prop, A → B → C → A ∧ B ∧ C := fun _ _ _ a b c => ⟨a, b, c⟩
  by_cases h6 : i < 6
  ·simp (disch := omega) [wl, h6]
   refine callW_imm hWd ?_
   by_cases hx : i = X
   ·have hw : wordK i = v := by rw [hx]; exact hXv (by omega)
    obtain rfl : i = Y := by omega
    rw [if_pos (by omega)] at he
    subst he
    simp (disch := omega) [wl, hw]
    rw [hw] at hWd
    refine callW_imm hWd ?_
    simp (disch := omega) [wl]
    refine callW_imm hN ?_
    simp (disch := omega) [wl]
    simp [fnPostM]
    exact ⟨⟨[(6, .val (errO 0))], [(1000, .box (bxs { r with f := ((i : Nat) : Int) }))], [], 91, G2⟩, weak_drop rfl rfl (by simp [EnvLe, getE, look]) (by simp [ObLe, look, bxs]) (by simp [roOk]), by simp [bxs], [], rfl, rfl, rfl⟩
   ·have hne := hlt i (by omega) (by omega)
    simp (disch := omega) [wl, hne]
    refine loopEnd (i + 1) (by omega) (by omega) ?_
    simp [bxs]
    exact wdr
  ·obtain rfl : i = 6 := by omega
   simp (disch := omega) [wl]
   refine callW_imm hWd ?_
   by_cases hx : X = 6
   ·obtain rfl : 6 = Y := by omega
    have hw : wordK 6 = v := by have := hXv (by omega); rwa [hx] at this
    rw [if_pos (by omega)] at he
    subst he
    simp (disch := omega) [wl, hw]
    refine callW_imm hN ?_
    simp (disch := omega) [wl]
    simp [fnPostM]
    exact ⟨⟨[(6, .val (errO 0))], [(1000, .box (bxs { r with f := ((6 : Nat) : Int) }))], [], 91, G2⟩, weak_drop rfl rfl (by simp [EnvLe, getE, look]) (by simp [ObLe, look, bxs]) (by simp [roOk]), by simp [bxs], [], rfl, rfl, rfl⟩
   ·obtain rfl : 6 = Y := by omega
    have hne := hlt 6 (by omega) (by omega)
    rw [if_neg (by omega)] at he
    subst he
    simp (disch := omega) [wl, hne]
    refine callW_imm hN ?_
    simp (disch := omega) [wl]
    simp [fnPostM]
    exact ⟨⟨[(6, .val (errO 11))], [(1000, .box (bxs { r with f := ((6 : Nat) : Int) }))], [], 91, G2⟩, weak_drop rfl rfl (by simp [EnvLe, getE, look]) (by simp [ObLe, look, bxs]) (by simp [roOk]), by simp [bxs], [], rfl, rfl, rfl⟩
 ·have hP := fn_mParse v hv
  simp only [tkP] at hT
  rw [if_neg (by omega), if_pos trivial] at hT
  obtain ⟨P, hP'⟩ : ∃ P, momR v = P := ⟨_, rfl⟩
  rw [hP'] at hP hT
  obtain ⟨rfl, rfl⟩ := Prod.mk.inj hT
  unfold moI at hP
  simp (disch := omega) [wl]
  refine callW_imm hP ?_
  simp (disch := omega) [wl, bxs]
  refine callW_imm hN ?_
  simp (disch := omega) [wl]
  simp [fnPostM]
  exact ⟨⟨[(6, .val (errO P.2))], [(1000, .box (bxs { r with u := P.1 }))], [], 91, G2⟩, weak_drop rfl rfl (by simp [EnvLe, getE, look]) (by simp [ObLe, look, bxs]) (by simp [roOk]), by simp [bxs], [], rfl, rfl, rfl⟩
 ·have hP := up (fn_nOne 1 1000 false v hv)
  simp only [tkP] at hT
  rw [if_neg (by omega), if_neg (by omega), if_pos trivial] at hT
  obtain ⟨P, hP'⟩ : ∃ P, numR 5 1 1000 false v = P := ⟨_, rfl⟩
  rw [hP'] at hP hT
  obtain ⟨rfl, rfl⟩ := Prod.mk.inj hT
  unfold oneI at hP
  simp (disch := omega) [wl]
  refine callW_imm hP ?_
  by_cases h0 : P.2 = 0
  ·rw [if_pos h0]
   rw [h0] at hN
   simp (disch := omega) [wl, bxs]
   refine callW_imm (up fn_Code_nil) ?_
   simp (disch := omega) [wl]
   refine callW_imm hN ?_
   simp (disch := omega) [wl]
   simp [fnPostM]
   exact ⟨⟨[(6, .val (errO P.2))], [(1000, .box (bxs { r with c := P.1 }))], [], 91, G2⟩, weak_drop rfl rfl (by simp [EnvLe, getE, look, h0]) (by simp [ObLe, look, bxs]) (by simp [roOk]), by simp [bxs], [], rfl, rfl, rfl⟩
  ·rw [if_neg h0]
   simp (disch := omega) [wl, bxs]
   refine callW_imm (up (fn_Code P.2 [0])) ?_
   simp (disch := omega) [wl]
   refine callW_imm hN ?_
   simp (disch := omega) [wl]
   simp [fnPostM]
   exact ⟨⟨[(6, .val (errO P.2))], [(1000, .box (bxs { r with c := P.1 }))], [], 91, G2⟩, weak_drop rfl rfl (by simp [EnvLe, getE, look]) (by simp [ObLe, look, bxs]) (by simp [roOk]), by simp [bxs], [], rfl, rfl, rfl⟩
 ·have hP := up (fn_nOne 1 1000 false v hv)
  simp only [tkP] at hT
  rw [if_neg (by omega), if_neg (by omega), if_neg (by omega), if_pos trivial] at hT
  obtain ⟨P, hP'⟩ : ∃ P, numR 5 1 1000 false v = P := ⟨_, rfl⟩
  rw [hP'] at hP hT
  obtain ⟨rfl, rfl⟩ := Prod.mk.inj hT
  unfold oneI at hP
  simp (disch := omega) [wl]
  refine callW_imm hP ?_
  by_cases h0 : P.2 = 0
  ·rw [if_pos h0]
   rw [h0] at hN
   simp (disch := omega) [wl, bxs]
   refine callW_imm (up fn_Code_nil) ?_
   simp (disch := omega) [wl]
   refine callW_imm hN ?_
   simp (disch := omega) [wl]
   simp [fnPostM]
   exact ⟨⟨[(6, .val (errO P.2))], [(1000, .box (bxs { r with i := P.1 }))], [], 91, G2⟩, weak_drop rfl rfl (by simp [EnvLe, getE, look, h0]) (by simp [ObLe, look, bxs]) (by simp [roOk]), by simp [bxs], [], rfl, rfl, rfl⟩
  ·rw [if_neg h0]
   simp (disch := omega) [wl, bxs]
   refine callW_imm (up (fn_Code P.2 [0])) ?_
   simp (disch := omega) [wl]
   refine callW_imm hN ?_
   simp (disch := omega) [wl]
   simp [fnPostM]
   exact ⟨⟨[(6, .val (errO P.2))], [(1000, .box (bxs { r with i := P.1 }))], [], 91, G2⟩, weak_drop rfl rfl (by simp [EnvLe, getE, look]) (by simp [ObLe, look, bxs]) (by simp [roOk]), by simp [bxs], [], rfl, rfl, rfl⟩
 ·have hP := up (fn_Weekday v)
  simp only [tkP] at hT
  rw [if_neg (by omega), if_neg (by omega), if_neg (by omega), if_neg (by omega)] at hT
  obtain ⟨P, hP'⟩ : ∃ P, wkD v = P := ⟨_, rfl⟩
  rw [hP'] at hP hT
  obtain ⟨rfl, he⟩ := Prod.mk.inj hT
  simp (disch := omega) [wl]
  refine callW_imm hP ?_
  by_cases h0 : P < 0
  ·rw [if_pos h0] at he
   subst he
   simp (disch := omega) [wl, bxs, h0]
   refine callW_imm hN ?_
   simp (disch := omega) [wl]
   simp [fnPostM]
   exact ⟨⟨[(6, .val (errO 4))], [(1000, .box (bxs { r with w := P }))], [], 91, G2⟩, weak_drop rfl rfl (by simp [EnvLe, getE, look]) (by simp [ObLe, look, bxs]) (by simp [roOk]), by simp [bxs], [], rfl, rfl, rfl⟩
  ·rw [if_neg h0] at he
   subst he
   simp (disch := omega) [wl, bxs, h0]
   refine callW_imm hN ?_
   simp (disch := omega) [wl]
   simp [fnPostM]
   exact ⟨⟨[(6, .val (errO 0))], [(1000, .box (bxs { r with w := P }))], [], 91, G2⟩, weak_drop rfl rfl (by simp [EnvLe, getE, look]) (by simp [ObLe, look, bxs]) (by simp [roOk]), by simp [bxs], [], rfl, rfl, rfl⟩
end Go.Vs.YtbchceojmblkkaaGreatDoor.Rc
namespace Go.Vs.YtbchceojmblkkaaGreatDoor.Rc
set_option linter.unusedSimpArgs false
set_option linter.unusedVariables false
open Go.Proofs Go.Vs.U8 Go.Vs.Pa Go.Vs.Cv Go.Vs.Mo Go.Vs.Nu Go.Lib
set_option maxRecDepth 100000
set_option maxHeartbeats 32000000
theorem everyGo_len {α : Type} [DecidableEq α] {one : Str → α × Int} : ∀ {L : List Str} {a : Nat} {out l : List α}, everyGo one L a out = .ok l → out.length ≤ 12 → l.length ≤ 12
 | [], a, out, l, h, ho => by simp only [everyGo, GotE.ok.injEq] at h; rw [← h]; exact ho
 | x :: r, a, out, l, h, ho => by
  simp only [everyGo] at h
  split at h
  ·cases h
  ·split at h
   ·cases h
   ·split at h
    ·cases h
    ·exact everyGo_len h (by simp; omega)
theorem everyR_len {α : Type} [DecidableEq α] {one : Str → α × Int} {s : Str} {l : List α} (h : everyR one s = .ok l) : l.length ≤ 12 := everyGo_len h (by simp)
theorem tk_eq (r : Ru) (k : Nat) (hk : k = 0 ∨ k = 1 ∨ k = 2 ∨ k = 3 ∨ k = 13) (v : Str) : takeR r k v = if (tkP r k v).2 = 0 then .ok (tkP r k v).1 else .no (tkP r k v).2 [] := by
 rcases hk with rfl | rfl | rfl | rfl | rfl
 ·simp only [takeR, tkP, frP, if_true]
  by_cases h : words.idxOf v < 7
  ·rw [if_pos h, if_pos h, if_pos rfl]
   congr 2
   omega
  ·rw [if_neg h, if_neg h, if_neg (by decide)]
 ·rfl
 ·rfl
 ·rfl
 ·show (if wkD v < 0 then TkR.no 4 [] else .ok { r with w := wkD v }) = if (if wkD v < 0 then (4 : Int) else 0) = 0 then .ok { r with w := wkD v } else .no (if wkD v < 0 then (4 : Int) else 0) []
  by_cases h : wkD v < 0
  ·rw [if_pos h, if_pos h, if_neg (by decide)]
  ·rw [if_neg h, if_neg h, if_pos rfl]
theorem tl_eq (r : Ru) (k : Nat) (h : k ∈ listKs) (h7 : k ≠ 7) (v : Str) : takeR r k v = match everyR (numR 5 (wlo k) (whi k) (wsg k)) v with
  | .ok l => .ok (setK r k l)
  | .no e p => .no e [(p : Int)] := by
 unfold takeR
 have := k8 h h7
 rw [if_neg (by omega), if_neg (by omega), if_neg (by omega), if_neg (by omega), if_neg (by omega), if_neg (by omega)]
 cases everyR (numR 5 (wlo k) (whi k) (wsg k)) v <;> rfl
theorem td_eq (r : Ru) (v : Str) : takeR r 7 v = match everyR dayR v with
  | .ok l => .ok { r with l7 := l }
  | .no e p => .no e [(p : Int)] := by
 unfold takeR
 rw [if_neg (by omega), if_neg (by omega), if_neg (by omega), if_neg (by omega), if_pos rfl]
 cases everyR dayR v <;> rfl
def Fin (r : Ru) : Prop := FitR r ∧ 0 ≤ r.u.k ∧ 0 ≤ r.f
theorem momK_pos (s : Str) : 0 ≤ momK s := by
 rcases momK_cases s with ⟨h, _⟩ | ⟨h, _⟩ | ⟨h, _⟩ | ⟨h, _⟩ <;> omega
theorem momR_k (s : Str) : 0 ≤ (momR s).1.k := by
 unfold momR
 split
 ·simp
 ·split
  ·simp
  ·exact momK_pos s
theorem tk_fin {r : Ru} (k : Nat) (v : Str) (h : Fin r) : Fin (tkP r k v).1 := by
 obtain ⟨h1, h2, h3⟩ := h
 unfold tkP
 split
 ·exact ⟨h1, h2, by simp⟩
 ·split
  ·exact ⟨h1, momR_k v, h3⟩
  ·split
   ·exact ⟨h1, h2, h3⟩
   ·split
    ·exact ⟨h1, h2, h3⟩
    ·exact ⟨h1, h2, h3⟩
theorem tl_fin {r : Ru} {k : Nat} {l : List Int} (hl : l.length ≤ 12) (h : Fin r) : Fin (setK r k l) := by
 obtain ⟨⟨h4, h5, h6, h7, h8, h9, h10, h11, h12⟩, h2, h3⟩ := h
 unfold setK
 split <;> exact ⟨⟨by first | assumption | (simp only; omega), by first | assumption | (simp only; omega), by first | assumption | (simp only; omega), by first | assumption | (simp only; omega), by first | assumption | (simp only; omega), by first | assumption | (simp only; omega), by first | assumption | (simp only; omega), by first | assumption | (simp only; omega), by first | assumption | (simp only; omega)⟩, h2, h3⟩
theorem td_fin {r : Ru} {l : List Dn} (hl : l.length ≤ 12) (h : Fin r) : Fin { r with l7 := l } := by
 obtain ⟨⟨h4, h5, h6, h7, h8, h9, h10, h11, h12⟩, h2, h3⟩ := h
 exact ⟨⟨h4, h5, h6, by simp only; omega, h8, h9, h10, h11, h12⟩, h2, h3⟩
def ruI : RuR → IV
 | .no e p => .tuple [ru0.iv, errIV e p]
 | .ok r => .tuple [r.iv, .nili]
def wbs (was : List Nat) : List SV := (List.range 14).map fun j => .val (.bool (decide (j ∈ was)))
theorem wbs_get (was : List Nat) {k : Nat} (h : k < 14) : (wbs was)[k]? = some (.val (.bool (decide (k ∈ was)))) := by simp [wbs, h]
theorem wbs_len (was : List Nat) : (wbs was).length = 14 := by simp [wbs]
theorem wbs_set (was : List Nat) {k : Nat} (h : k < 14) : (wbs was).set k (.val (.bool true)) = wbs (k :: was) := by
 apply List.ext_getElem?
 intro j
 by_cases hj : j = k
 ·subst hj
  simp [wbs, h]
 ·have : ¬ k = j := fun e => hj e.symm
  rw [List.getElem?_set_ne this]
  by_cases hj2 : j < 14
  ·rw [wbs_get was hj2, wbs_get _ hj2]
   simp [hj]
  ·rw [List.getElem?_eq_none (by rw [wbs_len]; omega), List.getElem?_eq_none (by rw [wbs_len]; omega)]
theorem wbs_nil : wbs [] = fz14 := by rfl
end Go.Vs.YtbchceojmblkkaaGreatDoor.Rc
namespace Go.Vs.YtbchceojmblkkaaGreatDoor.Rc
set_option linter.unusedSimpArgs false
set_option linter.unusedVariables false
open Go Go.Vs Go.Proofs
def softS : SV → SV
 | .nils => .val (.slice [])
 | x => x
theorem soft_ones {w : World} {S : Stab} {μ : Nat → Value} {objs : List (Nat × Ob)} : ∀ {cells : List SV} {l : List Value}, SVOnes w S μ objs cells l → SVOnes w S μ objs (cells.map softS) l
 | [], l, h => h
 | x :: r, l, ⟨v, t, e, h1, h2, h3⟩ => by
  refine ⟨v, t, e, h1, ?_, soft_ones h3⟩
  cases x with
  | nils =>
   obtain ⟨a, rfl⟩ : ∃ a, v = .slice a 0 0 := h2
   exact ⟨a, 0, rfl, by first | exact Nat.le_refl _ | trivial | simp, by simp⟩
  | _ => exact h2
theorem weak_soft {σ : St} {d : Nat} {cells : List SV} (hl : look σ.objs d = some (.box cells)) (hro : σ.ro.contains d = false) : Weak σ { σ with objs := put σ.objs d (.box (cells.map softS)) } := by
 rintro w0 S0 M a w ⟨S, μ, β, h⟩
 obtain ⟨b, vs, e', fr, hb, hmu, hheap, hfr, hcs⟩ := h.objs d _ hl
 have h2 := h.write (id := d) (x' := .box (cells.map softS)) (w' := w) hl hb (vs := vs) (e := e') (fr := fr) ⟨rfl, rfl, rfl, rfl, fun _ _ => rfl, hheap, fun _ _ h => h⟩ (by
  intro hc
  have : σ.ro.contains d = true := by simpa using hc
  rw [this] at hro; cases hro) (.inl ⟨_, _, rfl, rfl⟩) ⟨b, vs, e', fr, rfl, hmu, hheap, hfr, soft_ones hcs⟩
 exact ⟨S, _, _, h2⟩
end Go.Vs.YtbchceojmblkkaaGreatDoor.Rc
namespace Go.Vs.YtbchceojmblkkaaGreatDoor.Rc
set_option linter.unusedSimpArgs false
set_option linter.unusedVariables false
open Go.Proofs Go.Vs.U8 Go.Vs.Pa Go.Vs.Cv Go.Vs.Mo Go.Vs.Nu Go.Lib
set_option maxRecDepth 100000
set_option maxHeartbeats 64000000
def bz : List SV := [.val (.int .u8 0), .val (.int .i64 0), .val (.int .i64 0), .val (.int .u8 0), .val (.int .i64 0), .nils, .nils, .nils, .nils, .nils, .nils, .nils, .nils, .nils, .val (.int .i64 0)]
theorem ru0_iv : ru0.iv = .agg [.int .u8 0, .int .i64 0, .int .i64 0, .int .u8 0, .int .i64 0, .slice [], .slice [], .slice [], .slice [], .slice [], .slice [], .slice [], .slice [], .slice [], .int .i64 0] := rfl
theorem wbs_put (was : List Nat) {k : Nat} (h : k < 14) : (wbs was).take k ++ .val (.bool true) :: (wbs was).drop (k + 1) = wbs (k :: was) := by
 rw [← wbs_set was h, List.set_eq_take_append_cons_drop, if_pos (by rw [wbs_len]; exact h)]
theorem ren_bxs (x : Ru) : renL [(1000, 4)] (bxs x) = bxs x := rfl
theorem ix_names (x : Str) (h : names.idxOf x < names.length) : ixZ names x = (names.idxOf x : Nat) := ix_at h (List.getElem_idxOf h) (fun hm' => by
 rw [List.mem_take_iff_getElem] at hm'
 obtain ⟨j, hj, e⟩ := hm'
 have := List.not_of_lt_findIdx (p := (· == x)) (xs := names) (i := j) (by show j < names.idxOf x; omega)
 simp [e] at this)
structure PSt where
 i : Nat
 a : Nat
 was : List Nat
 r : Ru
theorem fn_rcParse (s : Str) (hs : s.length < 90000) : Fn G2 Tryz.prog k_recur_Parse [.str s] (ruI (parseRu s)) := by
 refine fn_intro hm ok_recur_Parse (by simp) ?_
 have hSp := up (fn_Split s 59 (by omega))
 obtain ⟨R, hR⟩ : ∃ R, parseRu s = R := ⟨_, rfl⟩
 rw [hR]
 unfold parseRu at hR
 have hsum := parts_sum 59 s.length s (Nat.le_refl _)
 obtain ⟨P, hP⟩ : ∃ P, parts 59 s = P := ⟨_, rfl⟩
 rw [hP] at hR hSp hsum
 have hPl : P.length ≤ s.length + 1 := by
  have : ∀ l : List Str, l.length ≤ lsum l := fun l => by
   induction l with
   | nil => simp
   | cons x l ih => rw [lsum_cons, List.length_cons]; omega
  have := this P
  omega
 simp [c_recur_Parse, r_recur_Parse, fz14]
 refine callW_imm hSp ?_
 simp (disch := omega) [wl, ts_len]
 refine loopW hm (fun x : PSt => ⟨[(21, .val (.int .i64 x.i)), (20, .val (.int .i64 P.length)), (19, .val (.slice (ts P))), (6, .val (.int .i64 x.a)), (5, .loc 5 0), (4, .loc 4 0), (3, .val .nili), (2, .loc 2 0), (0, .val (.str s))], [(5, .box (wbs x.was)), (4, .box (bxs x.r)), (2, .box bz)], [], 107, G2⟩)
  (fun x => x.i ≤ P.length ∧ x.a + lsum (P.drop x.i) = s.length + 1 ∧ parseGo s.length (P.drop x.i) x.a x.was x.r = R ∧ Fin x.r) (fun x => P.length - x.i) ⟨0, 0, [], ru1⟩ ⟨by simp, by simpa using hsum, by simpa using hR, ⟨by simp [FitR, ru1], by simp [ru1], by simp [ru1]⟩⟩ ?_ (fun _ => rfl) ?_
 ·exact Weak.trans (weak_soft (d := 4) rfl rfl) (weak_drop rfl rfl (by simp [EnvLe, getE, look]) (by simp [ObLe, look, put, bxs, softS, ru1, wbs_nil, fz14, bz, is, dns]) (by simp [roOk]))
 rintro ⟨i, a, was, r⟩ ⟨h1, h2, h3, h4⟩
 simp only at h1 h2 h3 h4
 simp [bz]
 by_cases h : i < P.length
 ·obtain ⟨p, hp⟩ : ∃ p, P[i] = p := ⟨_, rfl⟩
  have hg := ts_get h hp
  rw [List.drop_eq_getElem_cons h, hp] at h2 h3
  rw [lsum_cons] at h2
  have hC := fn_Cut p (by omega)
  unfold cutI at hC
  by_cases h61 : (61 : UInt8) ∈ p
  ·rw [if_pos h61] at hC
   have hlt := List.idxOf_lt_length_iff.2 h61
   have hO := fn_partOf (p.take (p.idxOf 61))
   simp only [parseGo] at h3
   rw [if_neg (by simpa using h61)] at h3
   have hN : p.take (p.idxOf 61) = partN p := rfl
   have hV : p.drop (p.idxOf 61 + 1) = partV p := rfl
   rw [hN] at hC hO
   rw [hV] at hC
   have hnl : (partN p).length = p.idxOf 61 := by rw [← hN, List.length_take]; omega
   obtain ⟨I, hI⟩ : ∃ I, p.idxOf 61 = I := ⟨_, rfl⟩
   rw [hI] at hnl hlt
   have hvl : (partV p).length < 1000000 := by rw [← hV, List.length_drop]; omega
   simp (disch := omega) [wl, ts_len, hg]
   refine callW_imm hC ?_
   simp (disch := omega) [wl]
   refine callW_imm hO ?_
   by_cases hk : partK p < 14
   ·have hix : ixZ names (partN p) = (partK p : Nat) := ix_names _ hk
    rw [if_neg (by omega)] at h3
    obtain ⟨k, hkk⟩ : ∃ k, partK p = k := ⟨_, rfl⟩
    rw [hix, hkk]
    rw [hkk] at h3 hk
    have hwk := wbs_get was hk
    have hws := wbs_put was hk
    simp (disch := omega) [wl, hwk]
    by_cases hin : k ∈ was
    ·rw [if_pos hin] at h3
     subst h3
     have hNw := up (fn_New 19 a)
     rw [if_neg (by omega)] at hNw
     simp (disch := omega) [wl, hin]
     refine ⟨by omega, ?_⟩
     refine callW_imm hNw ?_
     simp (disch := omega) [wl, ruI, ru0_iv]
    ·rw [if_neg hin] at h3
     have hwl := wbs_len was
     simp (disch := omega) [wl, hin, hws]
     refine ⟨by omega, by omega, ?_⟩
     by_cases hl4 : 4 ≤ k
     ·by_cases hl12 : k ≤ 12
      ·have hin' : k ∈ listKs := by simp [listKs]; omega
       by_cases h7 : k = 7
       ·subst h7
        rw [td_eq] at h3
        have hM := fnM_takeDays r (partV p) hvl
        obtain ⟨E, hE⟩ : ∃ E, everyR dayR (partV p) = E := ⟨_, rfl⟩
        rw [hE] at hM h3
        simp (disch := omega) [wl]
        refine callM [(1000, 4)] [] hM rfl rfl ⟨rfl, trivial⟩ ⟨rfl, [], [], rfl, ⟨[], [], rfl, rfl, rfl⟩, rfl⟩ rfl ?_
        cases E with
        | ok l =>
         have hl12 := everyR_len hE
         simp only at h3
         simp (disch := omega) [wl, gotX, gotL]
         refine loopEnd ⟨i + 1, a + p.length + 1, 7 :: was, { r with l7 := l }⟩ ⟨by simp only; omega, by simp only; omega, h3, td_fin hl12 h4⟩ (by simp only; omega) ?_
         simp [bz, ren_bxs]
         exact weak_drop rfl rfl (by simp [EnvLe, getE, look]; omega) (by simp [ObLe, look]) (by simp [roOk])
        | no e q =>
         simp only at h3
         rw [hI] at h3
         subst h3
         have hIn := up (fn_In e [(q : Int)] ((a : Int) + ((partN p).length : Int) + 1))
         simp only [errIV] at hIn
         simp (disch := omega) [wl, gotX, errIV]
         refine callW_imm hIn ?_
         simp (disch := omega) [wl, ruI, ru0_iv, errIV, hnl]
       ·rw [tl_eq r k hin' h7] at h3
        have hM := fnM_takeList r k hin' h7 (partV p) hvl
        obtain ⟨E, hE⟩ : ∃ E, everyR (numR 5 (wlo k) (whi k) (wsg k)) (partV p) = E := ⟨_, rfl⟩
        rw [hE] at hM h3
        simp (disch := omega) [wl]
        refine callM [(1000, 4)] [] hM rfl rfl ⟨rfl, trivial⟩ ⟨rfl, [], [], rfl, ⟨[], [], rfl, rfl, rfl⟩, rfl⟩ rfl ?_
        cases E with
        | ok l =>
         have hl12 := everyR_len hE
         simp only at h3
         simp (disch := omega) [wl, gotX, gotL]
         refine loopEnd ⟨i + 1, a + p.length + 1, k :: was, setK r k l⟩ ⟨by simp only; omega, by simp only; omega, h3, tl_fin hl12 h4⟩ (by simp only; omega) ?_
         simp [bz, ren_bxs]
         exact weak_drop rfl rfl (by simp [EnvLe, getE, look]; omega) (by simp [ObLe, look]) (by simp [roOk])
        | no e q =>
         simp only at h3
         rw [hI] at h3
         subst h3
         have hIn := up (fn_In e [(q : Int)] ((a : Int) + ((partN p).length : Int) + 1))
         simp only [errIV] at hIn
         simp (disch := omega) [wl, gotX, errIV]
         refine callW_imm hIn ?_
         simp (disch := omega) [wl, ruI, ru0_iv, errIV, hnl]
      ·skip
       have hk5 : k = 0 ∨ k = 1 ∨ k = 2 ∨ k = 3 ∨ k = 13 := by omega
       rw [tk_eq r k hk5] at h3
       have hM := fnM_take r k hk5 (partV p) hvl
       have hfin := tk_fin k (partV p) h4
       obtain ⟨⟨r', e⟩, hT⟩ : ∃ T, tkP r k (partV p) = T := ⟨_, rfl⟩
       rw [hT] at hM h3 hfin
       simp only at hM h3 hfin
       simp (disch := omega) [wl]
       refine callM [(1000, 4)] [] hM rfl rfl ⟨rfl, trivial⟩ ⟨rfl, [], [], rfl, ⟨[], [], rfl, rfl, rfl⟩, rfl⟩ rfl ?_
       by_cases e0 : e = 0
       ·rw [if_pos e0] at h3
        simp only at h3
        subst e0
        simp (disch := omega) [wl, errO]
        refine loopEnd ⟨i + 1, a + p.length + 1, k :: was, r'⟩ ⟨by simp only; omega, by simp only; omega, h3, hfin⟩ (by simp only; omega) ?_
        simp [bz, ren_bxs]
        exact weak_drop rfl rfl (by simp [EnvLe, getE, look]; omega) (by simp [ObLe, look]) (by simp [roOk])
       ·rw [if_neg e0] at h3
        simp only at h3
        rw [hI] at h3
        subst h3
        have hCd := up (fn_Code e [0])
        have hNw := up (fn_New e ((a : Int) + ((partN p).length : Int) + 1))
        rw [if_neg e0] at hNw
        simp only [errIV] at hCd hNw
        simp (disch := omega) [wl, errO, e0, errIV]
        refine callW_imm hCd ?_
        simp (disch := omega) [wl]
        refine callW_imm hNw ?_
        simp (disch := omega) [wl, ruI, ru0_iv, errIV, hnl]
     ·skip
      have hk5 : k = 0 ∨ k = 1 ∨ k = 2 ∨ k = 3 ∨ k = 13 := by omega
      rw [tk_eq r k hk5] at h3
      have hM := fnM_take r k hk5 (partV p) hvl
      have hfin := tk_fin k (partV p) h4
      obtain ⟨⟨r', e⟩, hT⟩ : ∃ T, tkP r k (partV p) = T := ⟨_, rfl⟩
      rw [hT] at hM h3 hfin
      simp only at hM h3 hfin
      simp (disch := omega) [wl]
      refine callM [(1000, 4)] [] hM rfl rfl ⟨rfl, trivial⟩ ⟨rfl, [], [], rfl, ⟨[], [], rfl, rfl, rfl⟩, rfl⟩ rfl ?_
      by_cases e0 : e = 0
      ·rw [if_pos e0] at h3
       simp only at h3
       subst e0
       simp (disch := omega) [wl, errO]
       refine loopEnd ⟨i + 1, a + p.length + 1, k :: was, r'⟩ ⟨by simp only; omega, by simp only; omega, h3, hfin⟩ (by simp only; omega) ?_
       simp [bz, ren_bxs]
       exact weak_drop rfl rfl (by simp [EnvLe, getE, look]; omega) (by simp [ObLe, look]) (by simp [roOk])
      ·rw [if_neg e0] at h3
       simp only at h3
       rw [hI] at h3
       subst h3
       have hCd := up (fn_Code e [0])
       have hNw := up (fn_New e ((a : Int) + ((partN p).length : Int) + 1))
       rw [if_neg e0] at hNw
       simp only [errIV] at hCd hNw
       simp (disch := omega) [wl, errO, e0, errIV]
       refine callW_imm hCd ?_
       simp (disch := omega) [wl]
       refine callW_imm hNw ?_
       simp (disch := omega) [wl, ruI, ru0_iv, errIV, hnl]
   ·have hix : ixZ names (partN p) = -1 := ix_no (fun hm' => hk (List.idxOf_lt_length_iff.2 hm'))
    rw [if_pos (by omega)] at h3
    subst h3
    rw [hix]
    have hNw := up (fn_New 11 a)
    rw [if_neg (by omega)] at hNw
    simp (disch := omega) [wl]
    refine callW_imm hNw ?_
    simp (disch := omega) [wl, ruI, ru0_iv]
  ·rw [if_neg h61] at hC
   have hO := fn_partOf p
   simp only [parseGo] at h3
   rw [if_pos h61] at h3
   subst h3
   have hNw := up (fn_New 4 a)
   rw [if_neg (by omega)] at hNw
   simp (disch := omega) [wl, ts_len, hg]
   refine callW_imm hC ?_
   simp (disch := omega) [wl]
   refine callW_imm hO ?_
   simp (disch := omega) [wl]
   refine callW_imm hNw ?_
   simp (disch := omega) [wl, ruI, ru0_iv]
 ·obtain rfl : i = P.length := by omega
  rw [List.drop_length] at h3
  simp only [parseGo, endR] at h3
  have hC := fn_Check' r h4.1 h4.2.1
  have hw0 := wbs_get was (k := 0) (by omega)
  obtain ⟨e, he⟩ : ∃ e, checkR r = e := ⟨_, rfl⟩
  rw [he] at hC h3
  unfold Ru.iv cells at hC
  simp (disch := omega) [wl, ts_len, hw0]
  by_cases c0 : 0 ∈ was
  ·rw [if_pos c0] at h3
   simp (disch := omega) [wl, c0, bxs]
   refine callW_imm hC ?_
   by_cases e0 : e = 0
   ·rw [if_pos e0] at h3
    subst h3
    simp (disch := omega) [wl, e0, ruI, Ru.iv, cells]
   ·rw [if_neg e0] at h3
    subst h3
    have hNw := up (fn_New e s.length)
    rw [if_neg e0] at hNw
    simp (disch := omega) [wl, e0]
    refine callW_imm hNw ?_
    simp (disch := omega) [wl, ruI, ru0_iv]
  ·rw [if_neg c0] at h3
   subst h3
   have hNw := up (fn_New 6 s.length)
   rw [if_neg (by omega)] at hNw
   simp (disch := omega) [wl, c0]
   refine callW_imm hNw ?_
   simp (disch := omega) [wl, ruI, ru0_iv]
end Go.Vs.YtbchceojmblkkaaGreatDoor.Rc
