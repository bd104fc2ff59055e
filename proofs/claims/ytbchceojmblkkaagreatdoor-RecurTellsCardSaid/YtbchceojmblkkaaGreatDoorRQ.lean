/- The walk of the document's Print of a rule. No conditions. -/
import Derived.Test.YtbchceojmblkkaaGreatDoorRO
import Derived.Test.YtbchceojmblkkaaGreatDoorRN
set_option linter.unusedVariables false
set_option linter.unusedSimpArgs false
namespace Go.Vs.U8
end Go.Vs.U8
namespace Go.Vs.Pa
end Go.Vs.Pa
namespace Go.Vs.Cv
end Go.Vs.Cv
namespace Go.Vs.Mo
end Go.Vs.Mo
namespace Go.Vs.Nu
end Go.Vs.Nu
namespace Go.Vs.YtbchceojmblkkaaGreatDoor.Rc
set_option linter.unusedSimpArgs false
set_option linter.unusedVariables false
open Go.Proofs Go.Vs.U8 Go.Vs.Pa Go.Vs.Cv Go.Vs.Mo Go.Vs.Nu Go.Lib
set_option maxRecDepth 100000
set_option maxHeartbeats 32000000
def sp (l : List (Nat × Str)) : Str := join (tx l) [59]
def addS (b : Bool) (k : Nat) (v : Str) : Str := if b = true then 59 :: eqS k v else []
theorem sp_step {l : List (Nat × Str)} (h : l ≠ []) (b : Bool) (k : Nat) (v : Str) : sp (l ++ optP b k v) = sp l ++ addS b k v := by
 unfold sp addS optP
 cases b with
 | false => simp
 | true =>
  rw [tx_app]
  have : tx l ≠ [] := by simp [tx]; exact h
  simp only [if_true]
  show join (tx l ++ [eqS k v]) [59] = _
  rw [join_snoc this]
  rfl
def partT (n : Str) (l : List Int) : Str := if l = [] then [] else 59 :: (n ++ 61 :: printN l)
theorem part_eq {r : Ru} {k : Nat} (h7 : k ≠ 7) : addS (decide (valP r k ≠ [])) k (valP r k) = partT (nameK k) (lst r k) := by
 have e : valP r k = printN (lst r k) := by unfold valP; rw [if_neg h7]
 rw [e]
 unfold addS partT eqS
 by_cases h : lst r k = []
 ·have : printN (lst r k) = [] := by rw [h]; rfl
  rw [if_pos h, if_neg (by simp [this])]
 ·have : printN (lst r k) ≠ [] := fun h' => h (printN_nil h')
  rw [if_neg h, if_pos (by simp [this])]
theorem fn_part (n : Str) (l : List Int) (hn : n.length ≤ 10) (hl : l.length ≤ 1000) (hb : ∀ x ∈ l, x.natAbs ≤ 99999) : Fn G2 Tryz.prog k_ref21_part [.str n, .slice (is l)] (.str (partT n l)) := by
 refine fn_intro hm ok_ref21_part (by simp) ?_
 have hP := up (fn_rPrintN l hl (fun x hx => i64_of (by have := hb x hx; omega)))
 have hlen := printN_len hb
 unfold partT
 simp [c_ref21_part, r_ref21_part, is_len]
 by_cases h : l = []
 ·rw [if_pos h]
  have : l.length = 0 := by rw [h]; rfl
  simp (disch := omega) [br_yes, br_no, wrap_i64, wrap_u8, wrap_i32, List.getElem?_cons_zero, List.getElem?_cons_succ, this, is_len]
 ·rw [if_neg h]
  have : ¬ l.length = 0 := fun e => h (List.eq_nil_of_length_eq_zero e)
  simp (disch := omega) [br_yes, br_no, wrap_i64, wrap_u8, wrap_i32, List.getElem?_cons_zero, List.getElem?_cons_succ, this, is_len]
  refine ⟨by omega, by omega, ?_⟩
  refine callW_imm hP ?_
  simp (disch := omega) [br_yes, br_no, wrap_i64, wrap_u8, wrap_i32, List.getElem?_cons_zero, List.getElem?_cons_succ]
  try omega
theorem partT_len (n : Str) (l : List Int) (hn : n.length ≤ 10) (hl : l.length ≤ 12) (hb : ∀ x ∈ l, x.natAbs ≤ 99999) : (partT n l).length ≤ 96 := by
 unfold partT
 split
 ·simp
 ·have := printN_len hb
  simp
  omega
theorem pre_len {r : Ru} (h0 : 0 ≤ r.f) (h : checkR r = 0) {l m : List (Nat × Str)} (hl : pairs r = l ++ m) : (sp l).length ≤ 1848 := by
 have h1 : ∀ x ∈ tx l, x.length ≤ 131 := fun x hx => (texts_is h0 h x (by
  show x ∈ tx (pairs r)
  rw [hl, tx_app]
  exact List.mem_append_left _ hx)).2
 have h2 := join_len (c := 59) h1
 have h3 : (tx l).length ≤ 14 := by
  have := texts_len r
  have e : (texts r).length = (tx (l ++ m)).length := by rw [← hl]; rfl
  rw [tx_app, List.length_append] at e
  omega
 have := Nat.mul_le_mul_right 132 h3
 unfold sp
 omega
theorem pr4_ext (r : Ru) {j : Nat} (hj : j ≤ 9) : ∃ m, pairs r = pr4 r j ++ m := by
 refine ⟨listPs r (listKs.drop j) ++ optP (decide (r.w ≠ 0)) 13 (wkN r.w), ?_⟩
 rw [prs_eq]
 have : listKs.take 9 = listKs.take j ++ listKs.drop j := by rw [List.take_append_drop]; rfl
 unfold pr4
 rw [this, listPs_app]
 simp
theorem fn_dRPrint (r : Ru) (hf : FitR r) (hk : 0 ≤ r.u.k) (h0 : 0 ≤ r.f) : Fn G2 Tryz.prog k_ref21_Print [r.iv] (rtI r) := by
 refine fn_intro hm ok_ref21_Print (by simp) ?_
 have hC := fn_dCheckR r hf hk
 obtain ⟨e, he⟩ : ∃ e, checkR r = e := ⟨_, rfl⟩
 unfold rtI
 rw [he] at hC ⊢
 unfold Ru.iv cells at hC ⊢
 simp [c_ref21_Print, r_ref21_Print]
 refine callW_imm hC ?_
 by_cases e0 : e = 0
 ·subst e0
  rw [if_pos rfl]
  obtain ⟨c1, c2, _⟩ := checkR_zero he
  obtain ⟨d1, d2, d3, d4, d5, d6, d7, d8⟩ := headR_zero c1
  obtain ⟨f, hfn⟩ : ∃ f : Nat, r.f = f := ⟨r.f.toNat, by omega⟩
  have hW := fn_Word f (by omega)
  have hwl := (word_no f).2
  have hP0 : tx (pr0 r) = [eqS 0 (wordK f)] := by simp [tx, pr0, hfn]
  have n0 : pr0 r ≠ [] := by simp [pr0]
  have n1 : pr1 r ≠ [] := by simp [pr1, n0]
  have n2 : pr2 r ≠ [] := by simp [pr2, n1]
  have n3 : pr3 r ≠ [] := by simp [pr3, n2]
  have n4 : ∀ j, pr4 r j ≠ [] := fun j => by simp [pr4, n3]
  obtain ⟨m9, hm9⟩ := pr4_ext r (j := 0) (by omega)
  have hp40 : pr4 r 0 = pr3 r := by simp [pr4, listKs, listPs]
  rw [hp40] at hm9
  have b3 := pre_len h0 he hm9
  have b2 := pre_len h0 he (show pairs r = pr2 r ++ _ by rw [hm9, pr3, List.append_assoc])
  have b1 := pre_len h0 he (show pairs r = pr1 r ++ _ by rw [hm9, pr3, pr2, List.append_assoc, List.append_assoc])
  have b0 := pre_len h0 he (show pairs r = pr0 r ++ _ by rw [hm9, pr3, pr2, pr1, List.append_assoc, List.append_assoc, List.append_assoc])
  have t1 : sp (pr1 r) = sp (pr0 r) ++ addS (decide (r.u.k ≠ 0)) 1 (momT r.u) := sp_step n0 _ _ _
  have t2 : sp (pr2 r) = sp (pr1 r) ++ addS (decide (r.c ≠ 0)) 2 (itoa r.c) := sp_step n1 _ _ _
  have t3 : sp (pr3 r) = sp (pr2 r) ++ addS (decide (r.i ≠ 1)) 3 (itoa r.i) := sp_step n2 _ _ _
  have t9 : printR r = sp (pr4 r 9) ++ addS (decide (r.w ≠ 0)) 13 (wkN r.w) := by
   show sp (pairs r) = _
   rw [prs_eq]
   exact sp_step (n4 9) _ _ _
  have t0 : sp (pr0 r) = 70 :: 82 :: 69 :: 81 :: 61 :: wordK f := by unfold sp; rw [hP0, join_one]; rfl
  rw [← hfn] at hW
  simp (disch := omega) [br_yes, br_no, wrap_i64, wrap_u8, wrap_i32, List.getElem?_cons_zero, List.getElem?_cons_succ]
  refine callW_imm hW ?_
  simp (disch := omega) [br_yes, br_no, wrap_i64, wrap_u8, wrap_i32, List.getElem?_cons_zero, List.getElem?_cons_succ]
  refine ⟨by omega, ?_⟩
  rw [← t0]
  refine cutW hm (fun _ : Unit => ⟨[(5, .val (.str (sp (pr1 r)))), (4, .val (.int .i64 0)), (3, .val (.int .i64 0)), (2, .val (.str [])), (1, .loc 1 0)], [(1, .box (bxs r))], [], 104, G2⟩) (fun _ => True) (fun _ => rfl) ?_ ?_
  ·by_cases k0 : r.u.k = 0
   ·have ht : sp (pr1 r) = sp (pr0 r) := by rw [t1]; simp [addS, k0]
    rw [ht]
    simp (disch := omega) [br_yes, br_no, wrap_i64, wrap_u8, wrap_i32, List.getElem?_cons_zero, List.getElem?_cons_succ, k0]
    refine joinEnd () trivial ?_
    simp [bxs, k0]
    exact weak_drop rfl rfl (by simp [EnvLe, getE, look]) (by simp [ObLe, look]) (by simp [roOk])
   ·have hu : momC r.u = 0 := by
     rcases d8 with h | h
     ·rw [h] at k0; exact absurd rfl k0
     ·exact h.2
    have hM := fn_dPrint r.u hk
    unfold prMI moI at hM
    rw [hu, if_pos rfl] at hM
    have hml := momT_len r.u
    have ht : sp (pr1 r) = sp (pr0 r) ++ (59 :: 85 :: 78 :: 84 :: 73 :: 76 :: 61 :: momT r.u) := by rw [t1]; simp [addS, k0]; rfl
    simp (disch := omega) [br_yes, br_no, wrap_i64, wrap_u8, wrap_i32, List.getElem?_cons_zero, List.getElem?_cons_succ, k0]
    refine callW_imm hM ?_
    simp (disch := omega) [br_yes, br_no, wrap_i64, wrap_u8, wrap_i32, List.getElem?_cons_zero, List.getElem?_cons_succ]
    refine ⟨by omega, by omega, ?_⟩
    refine joinEnd () trivial ?_
    simp [bxs, ht]
    exact weak_drop rfl rfl (by simp [EnvLe, getE, look]) (by simp [ObLe, look]) (by simp [roOk])
  intro _ _
  simp [bxs]
  refine cutW hm (fun _ : Unit => ⟨[(5, .val (.str (sp (pr2 r)))), (4, .val (.int .i64 0)), (3, .val (.int .i64 0)), (2, .val (.str [])), (1, .loc 1 0)], [(1, .box (bxs r))], [], 104, G2⟩) (fun _ => True) (fun _ => rfl) ?_ ?_
  ·by_cases k0 : r.c = 0
   ·have ht : sp (pr2 r) = sp (pr1 r) := by rw [t2]; simp [addS, k0]
    rw [ht]
    simp (disch := omega) [br_yes, br_no, wrap_i64, wrap_u8, wrap_i32, List.getElem?_cons_zero, List.getElem?_cons_succ, k0]
    refine joinEnd () trivial ?_
    simp [bxs, k0]
    exact weak_drop rfl rfl (by simp [EnvLe, getE, look]) (by simp [ObLe, look, k0]) (by simp [roOk])
   ·have hM := fn_part (nameK 2) [r.c] (name_len (by omega)) (by simp) (fun x hx => by simp at hx; omega)
    have hpl := partT_len (nameK 2) [r.c] (name_len (by omega)) (by simp) (fun x hx => by simp at hx; omega)
    have ht : sp (pr2 r) = sp (pr1 r) ++ partT (nameK 2) [r.c] := by
     rw [t2]
     simp [addS, k0, partT, eqS, printN, join_one]
    obtain ⟨q, hq⟩ : ∃ q, partT (nameK 2) [r.c] = q := ⟨_, rfl⟩
    rw [hq] at hM hpl ht
    simp (disch := omega) [br_yes, br_no, wrap_i64, wrap_u8, wrap_i32, List.getElem?_cons_zero, List.getElem?_cons_succ, k0]
    refine callW_imm hM ?_
    simp (disch := omega) [br_yes, br_no, wrap_i64, wrap_u8, wrap_i32, List.getElem?_cons_zero, List.getElem?_cons_succ]
    refine ⟨by omega, ?_⟩
    refine joinEnd () trivial ?_
    simp [bxs, ht]
    exact weak_drop rfl rfl (by simp [EnvLe, getE, look]) (by simp [ObLe, look]) (by simp [roOk])
  intro _ _
  simp [bxs]
  refine cutW hm (fun _ : Unit => ⟨[(5, .val (.str (sp (pr3 r)))), (4, .val (.int .i64 0)), (3, .val (.int .i64 0)), (2, .val (.str [])), (1, .loc 1 0)], [(1, .box (bxs r))], [], 104, G2⟩) (fun _ => True) (fun _ => rfl) ?_ ?_
  ·by_cases k0 : r.i = 1
   ·have ht : sp (pr3 r) = sp (pr2 r) := by rw [t3]; simp [addS, k0]
    rw [ht]
    simp (disch := omega) [br_yes, br_no, wrap_i64, wrap_u8, wrap_i32, List.getElem?_cons_zero, List.getElem?_cons_succ, k0]
    refine joinEnd () trivial ?_
    simp [bxs, k0]
    exact weak_drop rfl rfl (by simp [EnvLe, getE, look]) (by simp [ObLe, look, k0]) (by simp [roOk])
   ·have hM := fn_part (nameK 3) [r.i] (name_len (by omega)) (by simp) (fun x hx => by simp at hx; omega)
    have hpl := partT_len (nameK 3) [r.i] (name_len (by omega)) (by simp) (fun x hx => by simp at hx; omega)
    have ht : sp (pr3 r) = sp (pr2 r) ++ partT (nameK 3) [r.i] := by
     rw [t3]
     simp [addS, k0, partT, eqS, printN, join_one]
    obtain ⟨q, hq⟩ : ∃ q, partT (nameK 3) [r.i] = q := ⟨_, rfl⟩
    rw [hq] at hM hpl ht
    simp (disch := omega) [br_yes, br_no, wrap_i64, wrap_u8, wrap_i32, List.getElem?_cons_zero, List.getElem?_cons_succ, k0]
    refine callW_imm hM ?_
    simp (disch := omega) [br_yes, br_no, wrap_i64, wrap_u8, wrap_i32, List.getElem?_cons_zero, List.getElem?_cons_succ]
    refine ⟨by omega, ?_⟩
    refine joinEnd () trivial ?_
    simp [bxs, ht]
    exact weak_drop rfl rfl (by simp [EnvLe, getE, look]) (by simp [ObLe, look]) (by simp [roOk])
  intro _ _
  simp [bxs]
  have a4 := soundL_zero (lo := wlo 4) (hi := whi 4) (sg := wsg 4) (l := r.l4) (c2 4 (by simp [listKs]))
  have w4 := whi_le 4
  have p4 := fn_part (nameK 4) r.l4 (name_len (by omega)) (by omega) (fun x hx => by have := a4.2.2 x hx; omega)
  have l4 := partT_len (nameK 4) r.l4 (name_len (by omega)) (by omega) (fun x hx => by have := a4.2.2 x hx; omega)
  have s4 : sp (pr4 r 1) = sp (pr4 r 0) ++ partT (nameK 4) r.l4 := by
   rw [pr4_step r (j := 0) (k := 4) (by omega) rfl, sp_step (n4 _), part_eq (by omega)]
   rfl
  obtain ⟨q4, hq4⟩ : ∃ q, partT (nameK 4) r.l4 = q := ⟨_, rfl⟩
  rw [hq4] at p4 l4 s4
  have a5 := soundL_zero (lo := wlo 5) (hi := whi 5) (sg := wsg 5) (l := r.l5) (c2 5 (by simp [listKs]))
  have w5 := whi_le 5
  have p5 := fn_part (nameK 5) r.l5 (name_len (by omega)) (by omega) (fun x hx => by have := a5.2.2 x hx; omega)
  have l5 := partT_len (nameK 5) r.l5 (name_len (by omega)) (by omega) (fun x hx => by have := a5.2.2 x hx; omega)
  have s5 : sp (pr4 r 2) = sp (pr4 r 1) ++ partT (nameK 5) r.l5 := by
   rw [pr4_step r (j := 1) (k := 5) (by omega) rfl, sp_step (n4 _), part_eq (by omega)]
   rfl
  obtain ⟨q5, hq5⟩ : ∃ q, partT (nameK 5) r.l5 = q := ⟨_, rfl⟩
  rw [hq5] at p5 l5 s5
  have a6 := soundL_zero (lo := wlo 6) (hi := whi 6) (sg := wsg 6) (l := r.l6) (c2 6 (by simp [listKs]))
  have w6 := whi_le 6
  have p6 := fn_part (nameK 6) r.l6 (name_len (by omega)) (by omega) (fun x hx => by have := a6.2.2 x hx; omega)
  have l6 := partT_len (nameK 6) r.l6 (name_len (by omega)) (by omega) (fun x hx => by have := a6.2.2 x hx; omega)
  have s6 : sp (pr4 r 3) = sp (pr4 r 2) ++ partT (nameK 6) r.l6 := by
   rw [pr4_step r (j := 2) (k := 6) (by omega) rfl, sp_step (n4 _), part_eq (by omega)]
   rfl
  obtain ⟨q6, hq6⟩ : ∃ q, partT (nameK 6) r.l6 = q := ⟨_, rfl⟩
  rw [hq6] at p6 l6 s6
  have hs3 : sp (pr3 r) ++ (q4 ++ (q5 ++ q6)) = sp (pr4 r 3) := by rw [s6, s5, s4, hp40]; simp
  obtain ⟨m3, hm3⟩ := pr4_ext r (j := 3) (by omega)
  have b43 := pre_len h0 he hm3
  obtain ⟨m4, hm4⟩ := pr4_ext r (j := 4) (by omega)
  have b44 := pre_len h0 he hm4
  obtain ⟨m99, hm99⟩ := pr4_ext r (j := 9) (by omega)
  have b49 := pre_len h0 he hm99
  refine callW_imm p4 ?_
  simp (disch := omega) [br_yes, br_no, wrap_i64, wrap_u8, wrap_i32, List.getElem?_cons_zero, List.getElem?_cons_succ]
  refine callW_imm p5 ?_
  simp (disch := omega) [br_yes, br_no, wrap_i64, wrap_u8, wrap_i32, List.getElem?_cons_zero, List.getElem?_cons_succ]
  refine ⟨by omega, ?_⟩
  refine callW_imm p6 ?_
  simp (disch := omega) [br_yes, br_no, wrap_i64, wrap_u8, wrap_i32, List.getElem?_cons_zero, List.getElem?_cons_succ, hs3]
  refine ⟨by omega, by omega, rfl, ?_⟩
  refine cutW hm (fun _ : Unit => ⟨[(5, .val (.str (sp (pr4 r 4)))), (4, .val (.int .i64 0)), (3, .val (.int .i64 0)), (2, .val (.str [])), (1, .loc 1 0)], [(1, .box (bxs r))], [], 104, G2⟩) (fun _ => True) (fun _ => rfl) ?_ ?_
  ·have s7 : sp (pr4 r 4) = sp (pr4 r 3) ++ addS (decide (valP r 7 ≠ [])) 7 (valP r 7) := by
    rw [pr4_step r (j := 3) (k := 7) (by omega) rfl, sp_step (n4 _)]
   obtain ⟨x1, _, x3⟩ := soundD_zero (l := r.l7) (c2 7 (by simp [listKs]))
   have e7 : valP r 7 = printD r.l7 := rfl
   rw [e7] at s7
   by_cases k0 : r.l7.length = 0
   ·have hnil : r.l7 = [] := List.eq_nil_of_length_eq_zero k0
    have ht : sp (pr4 r 4) = sp (pr4 r 3) := by rw [s7, hnil]; simp [addS, printD, join_nil]
    rw [ht]
    simp (disch := omega) [br_yes, br_no, wrap_i64, wrap_u8, wrap_i32, List.getElem?_cons_zero, List.getElem?_cons_succ, bxs, k0, dns_len]
    refine joinEnd () trivial ?_
    exact weak_drop rfl rfl (by simp [EnvLe, getE, look]) (by simp [ObLe, look, bxs]) (by simp [roOk])
   ·have hne : printD r.l7 ≠ [] := fun h => k0 (by rw [printD_nil (fun x hx => ⟨(x3 x hx).2.2.1, (x3 x hx).2.2.2⟩) h]; rfl)
    have hM := up (fn_rPrintD r.l7 (by omega) (fun x hx => by have := x3 x hx; exact ⟨i64_of (by omega), i64_of (by omega)⟩))
    have hpl := printD_len (l := r.l7) (fun x hx => by have := x3 x hx; omega)
    have ht : sp (pr4 r 4) = sp (pr4 r 3) ++ (59 :: 66 :: 89 :: 68 :: 65 :: 89 :: 61 :: printD r.l7) := by
     rw [s7]
     simp [addS, hne]
     rfl
    simp (disch := omega) [br_yes, br_no, wrap_i64, wrap_u8, wrap_i32, List.getElem?_cons_zero, List.getElem?_cons_succ, bxs, k0, dns_len]
    refine callW_imm hM ?_
    simp (disch := omega) [br_yes, br_no, wrap_i64, wrap_u8, wrap_i32, List.getElem?_cons_zero, List.getElem?_cons_succ]
    refine ⟨by omega, by omega, ?_⟩
    refine joinEnd () trivial ?_
    simp [ht]
    exact weak_drop rfl rfl (by simp [EnvLe, getE, look]) (by simp [ObLe, look, bxs]) (by simp [roOk])
  intro _ _
  simp [bxs]
  have a8 := soundL_zero (lo := wlo 8) (hi := whi 8) (sg := wsg 8) (l := r.l8) (c2 8 (by simp [listKs]))
  have w8 := whi_le 8
  have p8 := fn_part (nameK 8) r.l8 (name_len (by omega)) (by omega) (fun x hx => by have := a8.2.2 x hx; omega)
  have l8 := partT_len (nameK 8) r.l8 (name_len (by omega)) (by omega) (fun x hx => by have := a8.2.2 x hx; omega)
  have s8 : sp (pr4 r 5) = sp (pr4 r 4) ++ partT (nameK 8) r.l8 := by
   rw [pr4_step r (j := 4) (k := 8) (by omega) rfl, sp_step (n4 _), part_eq (by omega)]
   rfl
  obtain ⟨q8, hq8⟩ : ∃ q, partT (nameK 8) r.l8 = q := ⟨_, rfl⟩
  rw [hq8] at p8 l8 s8
  have a9 := soundL_zero (lo := wlo 9) (hi := whi 9) (sg := wsg 9) (l := r.l9) (c2 9 (by simp [listKs]))
  have w9 := whi_le 9
  have p9 := fn_part (nameK 9) r.l9 (name_len (by omega)) (by omega) (fun x hx => by have := a9.2.2 x hx; omega)
  have l9 := partT_len (nameK 9) r.l9 (name_len (by omega)) (by omega) (fun x hx => by have := a9.2.2 x hx; omega)
  have s9 : sp (pr4 r 6) = sp (pr4 r 5) ++ partT (nameK 9) r.l9 := by
   rw [pr4_step r (j := 5) (k := 9) (by omega) rfl, sp_step (n4 _), part_eq (by omega)]
   rfl
  obtain ⟨q9, hq9⟩ : ∃ q, partT (nameK 9) r.l9 = q := ⟨_, rfl⟩
  rw [hq9] at p9 l9 s9
  have a10 := soundL_zero (lo := wlo 10) (hi := whi 10) (sg := wsg 10) (l := r.l10) (c2 10 (by simp [listKs]))
  have w10 := whi_le 10
  have p10 := fn_part (nameK 10) r.l10 (name_len (by omega)) (by omega) (fun x hx => by have := a10.2.2 x hx; omega)
  have l10 := partT_len (nameK 10) r.l10 (name_len (by omega)) (by omega) (fun x hx => by have := a10.2.2 x hx; omega)
  have s10 : sp (pr4 r 7) = sp (pr4 r 6) ++ partT (nameK 10) r.l10 := by
   rw [pr4_step r (j := 6) (k := 10) (by omega) rfl, sp_step (n4 _), part_eq (by omega)]
   rfl
  obtain ⟨q10, hq10⟩ : ∃ q, partT (nameK 10) r.l10 = q := ⟨_, rfl⟩
  rw [hq10] at p10 l10 s10
  have a11 := soundL_zero (lo := wlo 11) (hi := whi 11) (sg := wsg 11) (l := r.l11) (c2 11 (by simp [listKs]))
  have w11 := whi_le 11
  have p11 := fn_part (nameK 11) r.l11 (name_len (by omega)) (by omega) (fun x hx => by have := a11.2.2 x hx; omega)
  have l11 := partT_len (nameK 11) r.l11 (name_len (by omega)) (by omega) (fun x hx => by have := a11.2.2 x hx; omega)
  have s11 : sp (pr4 r 8) = sp (pr4 r 7) ++ partT (nameK 11) r.l11 := by
   rw [pr4_step r (j := 7) (k := 11) (by omega) rfl, sp_step (n4 _), part_eq (by omega)]
   rfl
  obtain ⟨q11, hq11⟩ : ∃ q, partT (nameK 11) r.l11 = q := ⟨_, rfl⟩
  rw [hq11] at p11 l11 s11
  have a12 := soundL_zero (lo := wlo 12) (hi := whi 12) (sg := wsg 12) (l := r.l12) (c2 12 (by simp [listKs]))
  have w12 := whi_le 12
  have p12 := fn_part (nameK 12) r.l12 (name_len (by omega)) (by omega) (fun x hx => by have := a12.2.2 x hx; omega)
  have l12 := partT_len (nameK 12) r.l12 (name_len (by omega)) (by omega) (fun x hx => by have := a12.2.2 x hx; omega)
  have s12 : sp (pr4 r 9) = sp (pr4 r 8) ++ partT (nameK 12) r.l12 := by
   rw [pr4_step r (j := 8) (k := 12) (by omega) rfl, sp_step (n4 _), part_eq (by omega)]
   rfl
  obtain ⟨q12, hq12⟩ : ∃ q, partT (nameK 12) r.l12 = q := ⟨_, rfl⟩
  rw [hq12] at p12 l12 s12
  have hs9 : sp (pr4 r 4) ++ (q8 ++ (q9 ++ (q10 ++ (q11 ++ q12)))) = sp (pr4 r 9) := by rw [s12, s11, s10, s9, s8]; simp
  refine callW_imm p8 ?_
  simp (disch := omega) [br_yes, br_no, wrap_i64, wrap_u8, wrap_i32, List.getElem?_cons_zero, List.getElem?_cons_succ]
  refine callW_imm p9 ?_
  simp (disch := omega) [br_yes, br_no, wrap_i64, wrap_u8, wrap_i32, List.getElem?_cons_zero, List.getElem?_cons_succ]
  refine ⟨by omega, ?_⟩
  refine callW_imm p10 ?_
  simp (disch := omega) [br_yes, br_no, wrap_i64, wrap_u8, wrap_i32, List.getElem?_cons_zero, List.getElem?_cons_succ]
  refine ⟨by omega, ?_⟩
  refine callW_imm p11 ?_
  simp (disch := omega) [br_yes, br_no, wrap_i64, wrap_u8, wrap_i32, List.getElem?_cons_zero, List.getElem?_cons_succ]
  refine ⟨by omega, ?_⟩
  refine callW_imm p12 ?_
  simp (disch := omega) [br_yes, br_no, wrap_i64, wrap_u8, wrap_i32, List.getElem?_cons_zero, List.getElem?_cons_succ, hs9]
  refine ⟨by omega, by omega, rfl, ?_⟩
  refine cutW hm (fun _ : Unit => ⟨[(5, .val (.str (printR r))), (4, .val (.int .i64 0)), (3, .val (.int .i64 0)), (2, .val (.str []))], [], [], 104, G2⟩) (fun _ => True) (fun _ => rfl) ?_ ?_
  ·by_cases k0 : r.w = 0
   ·have ht : printR r = sp (pr4 r 9) := by rw [t9]; simp [addS, k0]
    rw [ht]
    simp (disch := omega) [br_yes, br_no, wrap_i64, wrap_u8, wrap_i32, List.getElem?_cons_zero, List.getElem?_cons_succ, bxs, k0]
    refine joinEnd () trivial ?_
    exact weak_drop rfl rfl (by simp [EnvLe, getE, look]) (by simp [ObLe, look]) (by simp [roOk])
   ·have hM := up (fn_rWeekdayName r.w)
    have hml := wkN_len r.w
    have ht : printR r = sp (pr4 r 9) ++ (59 :: 87 :: 75 :: 83 :: 84 :: 61 :: wkN r.w) := by
     rw [t9]
     simp [addS, k0]
     rfl
    simp (disch := omega) [br_yes, br_no, wrap_i64, wrap_u8, wrap_i32, List.getElem?_cons_zero, List.getElem?_cons_succ, bxs, k0]
    refine callW_imm hM ?_
    simp (disch := omega) [br_yes, br_no, wrap_i64, wrap_u8, wrap_i32, List.getElem?_cons_zero, List.getElem?_cons_succ]
    refine ⟨by omega, by omega, ?_⟩
    refine joinEnd () trivial ?_
    simp [ht]
    exact weak_drop rfl rfl (by simp [EnvLe, getE, look]) (by simp [ObLe, look]) (by simp [roOk])
  intro _ _
  simp (disch := omega) [br_yes, br_no, wrap_i64, wrap_u8, wrap_i32, List.getElem?_cons_zero, List.getElem?_cons_succ]
 ·rw [if_neg e0]
  simp (disch := omega) [br_yes, br_no, wrap_i64, wrap_u8, wrap_i32, List.getElem?_cons_zero, List.getElem?_cons_succ, e0]
end Go.Vs.YtbchceojmblkkaaGreatDoor.Rc
