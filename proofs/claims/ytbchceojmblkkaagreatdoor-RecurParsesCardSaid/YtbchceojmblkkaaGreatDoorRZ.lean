/- The walk of the document's rules: a text's rule. No conditions. -/
import Derived.Test.YtbchceojmblkkaaGreatDoorRY
import Derived.Test.YtbchceojmblkkaaGreatDoorRV
import Derived.Test.YtbchceojmblkkaaGreatDoorRU
set_option linter.unusedVariables false
set_option linter.unusedSimpArgs false
namespace Go.Vs.U8
end Go.Vs.U8
namespace Go.Vs.Pa
end Go.Vs.Pa
namespace Go.Vs.Cv
end Go.Vs.Cv
namespace Go.Vs.Mo
end Go.Vs.Mo
namespace Go.Vs.Nu
end Go.Vs.Nu
namespace Go.Vs.YtbchceojmblkkaaGreatDoor.Rc
set_option linter.unusedSimpArgs false
set_option linter.unusedVariables false
open Go.Proofs Go.Vs.U8 Go.Vs.Pa Go.Vs.Cv Go.Vs.Mo Go.Vs.Nu Go.Lib
set_option maxRecDepth 100000
set_option maxHeartbeats 64000000
def ruJ : RuR → IV
 | .no e q => .tuple [ru0.iv, .int .i64 e, .int .i64 q.sum]
 | .ok r => .tuple [r.iv, .int .i64 0, .int .i64 0]
theorem next_at {s p : Str} {a : Nat} (h2 : p = (s.drop a).take p.length) (h3 : 59 ∉ p) (h4 : s[a + p.length]? = some 59 ∨ a + p.length = s.length) : (s.drop a).idxOf 59 = p.length := by
 have e : s.drop a = p ++ s.drop (a + p.length) := by
  have := (List.take_append_drop p.length (s.drop a)).symm
  rw [← h2, List.drop_drop] at this
  exact this
 rw [e, List.idxOf_append, if_neg h3]
 rcases h4 with h4 | h4
 ·obtain ⟨h5, h6⟩ := List.getElem?_eq_some_iff.1 h4
  rw [List.drop_eq_getElem_cons h5, h6, List.idxOf_cons_self]
  omega
 ·rw [h4, List.drop_length]
  simp
theorem names_at {x : Str} {k : Nat} (hk : k < names.length) (h : k ≤ names.idxOf x) : (names[k] = x → names.idxOf x = k) ∧ (names[k] ≠ x → k + 1 ≤ names.idxOf x) := by
 refine ⟨fun e => ?_, fun e => ?_⟩
 ·have : ¬ k < names.idxOf x := fun hlt => by
   have := List.not_of_lt_findIdx (p := (· == x)) (xs := names) (i := k) hlt
   simp [e] at this
  omega
 ·have : k ≠ names.idxOf x := fun hh => by
   subst hh
   exact e (List.getElem_idxOf hk)
  omega
theorem wbs_erase (k : Nat) (was : List Nat) : eraseL k (wbs was) = wbs was := by
 have : wbs was = ((List.range 14).map fun j => IV.bool (decide (j ∈ was))).map .val := by
  unfold wbs
  rw [List.map_map]
  rfl
 rw [this]
 exact erase_map _ _
structure JSt where
 a : Nat
 was : List Nat
 r : Ru
 ps : List Str
theorem fn_dRParse (s : Str) (hs : s.length < 90000) : Fn G2 Tryz.prog k_ref21_Parse [.str s] (ruJ (parseRu s)) := by
 refine fn_intro hm ok_ref21_Parse (by simp) ?_
 obtain ⟨R, hR⟩ : ∃ R, parseRu s = R := ⟨_, rfl⟩
 rw [hR]
 unfold parseRu at hR
 have hNm := fn_names
 simp [c_ref21_Parse, r_ref21_Parse, fz14]
 refine loopW hm (fun x : JSt => ⟨[(7, .val (.int .i64 x.a)), (6, .loc 6 0), (5, .loc 5 0), (4, .val (.int .i64 0)), (3, .val (.int .i64 0)), (2, .loc 2 0), (0, .val (.str s))], [(6, .box (wbs x.was)), (5, .box (bxs x.r)), (2, .box bz)], [], 103, G2⟩)
  (fun x => AtR s x.ps x.a ∧ parseGo s.length x.ps x.a x.was x.r = R ∧ Fin x.r) (fun x => s.length + 1 - x.a) ⟨0, [], ru1, parts 59 s⟩ ⟨atR_zero s, hR, ⟨by simp [FitR, ru1], by simp [ru1], by simp [ru1]⟩⟩ ?_ (fun _ => rfl) ?_
 ·exact Weak.trans (weak_soft (d := 5) rfl rfl) (weak_drop rfl rfl (by simp [EnvLe, getE, look]) (by simp [ObLe, look, put, bxs, softS, ru1, wbs_nil, fz14, bz, is, dns]) (by simp [roOk]))
 rintro ⟨a, was, r, ps⟩ ⟨h2, h3, h4⟩
 simp only at h2 h3 h4
 simp [bz]
 rcases ps with _ | ⟨p, ps⟩
 ·have ha : a = s.length + 1 := by
   rcases h2 with ⟨_, h⟩ | ⟨_, h⟩
   ·exact h
   ·obtain ⟨q, qs, hq, _⟩ := parts_first 59 (s.drop a)
    rw [hq] at h
    cases h
  subst ha
  simp only [parseGo, endR] at h3
  have hC := fn_dCheckR r h4.1 h4.2.1
  have hw0 := wbs_get was (k := 0) (by omega)
  obtain ⟨e, he⟩ : ∃ e, checkR r = e := ⟨_, rfl⟩
  rw [he] at hC h3
  unfold Ru.iv cells at hC
  simp (disch := omega) [wl, hw0]
  by_cases c0 : 0 ∈ was
  ·rw [if_pos c0] at h3
   simp (disch := omega) [wl, c0, bxs]
   refine callW_imm hC ?_
   by_cases e0 : e = 0
   ·rw [if_pos e0] at h3
    subst h3
    simp (disch := omega) [wl, e0, ruJ, Ru.iv, cells]
    try rfl
   ·rw [if_neg e0] at h3
    subst h3
    simp (disch := omega) [wl, e0, ruJ, ru0_iv]
    try rfl
  ·rw [if_neg c0] at h3
   subst h3
   simp (disch := omega) [wl, c0, ruJ, ru0_iv]
   try rfl
 ·obtain ⟨b1, b2, b3, b4, b5⟩ := atR_step h2
  obtain ⟨E, hE⟩ : ∃ E, a + p.length = E := ⟨_, rfl⟩
  have hN1 := fn_next s a 59 (by omega) (by omega)
  rw [next_at b2 b3 (b5.imp (fun x => x) (fun x => x.1)), hE] at hN1
  have hN1 : Fn G2 Tryz.prog k_ref21_next [.str s, .int .i64 a, .int .u8 59] (.int .i64 (E : Nat)) := hN1
  have hcut : (s.take E).drop a = p := by
   rw [List.drop_take, show E - a = p.length by omega, ← b2]
  have hN2 := fn_next (s.take E) a 61 (by rw [List.length_take]; omega) (by rw [List.length_take]; omega)
  rw [hcut] at hN2
  obtain ⟨Q, hQ⟩ : ∃ Q, a + p.idxOf 61 = Q := ⟨_, rfl⟩
  rw [hQ] at hN2
  have hN2 : Fn G2 Tryz.prog k_ref21_next [.str (s.take E), .int .i64 a, .int .u8 61] (.int .i64 (Q : Nat)) := hN2
  simp (disch := omega) [wl]
  refine callW_imm hN1 ?_
  simp (disch := omega) [wl]
  refine ⟨by omega, callW_imm hN2 ?_⟩
  simp only [parseGo] at h3
  by_cases h61 : (61 : UInt8) ∈ p
  ·have hlt := List.idxOf_lt_length_iff.2 h61
   rw [if_neg (by simpa using h61)] at h3
   have hQE : ¬ (Q : Int) = E := by omega
   have hnm : (s.take Q).drop a = partN p := by
    have : (s.take Q).drop a = ((s.take E).drop a).take (Q - a) := by
     rw [List.drop_take, List.drop_take, List.take_take]
     congr 1
     omega
    rw [this, hcut, show Q - a = p.idxOf 61 by omega]
    rfl
   have hvl' : (s.take E).drop (Q + 1) = partV p := by
    have : (s.take E).drop (Q + 1) = ((s.take E).drop a).drop (p.idxOf 61 + 1) := by
     rw [List.drop_drop]
     congr 1
     omega
    rw [this, hcut]
    rfl
   have hvl : (partV p).length < 1000000 := by unfold partV; rw [List.length_drop]; omega
   simp (disch := omega) [wl, hQE]
   refine callW_imm hNm ?_
   simp (disch := omega) [wl]
   refine loopU hm [] (fun k : Nat => [(11, .val (.int .i64 k))]) (fun _ => []) (fun k => k ≤ names.idxOf (partN p)) (fun k => 14 - k) 0 (by omega) ?_ ?_
   ·simp
    exact wdr
   intro k hk
   have hk14 : k ≤ 14 := Nat.le_trans hk List.idxOf_le_length
   simp [ts_len]
   have hnl : names.length = 14 := rfl
   by_cases h14 : k < 14
   ·obtain ⟨y, hy⟩ : ∃ y, names[k] = y := ⟨_, rfl⟩
    have hg := ts_get h14 hy
    obtain ⟨n1, n2⟩ := names_at h14 hk
    rw [hy] at n1 n2
    by_cases e : y = partN p
    ·have hK : partK p = k := n1 e
     simp (disch := omega) [wl, hg, e, hnl, hnm]
     refine ⟨⟨by omega, by omega⟩, ?_⟩
     have hk14' : ¬ (k : Int) = 14 := by omega
     have hwk := wbs_get was h14
     have hws := wbs_put was h14
     rw [hK] at h3
     rw [if_neg (by omega)] at h3
     simp (disch := omega) [wl, ts_len, hnl, hk14', hwk]
     refine ⟨by omega, ?_⟩
     by_cases hin : k ∈ was
     ·rw [if_pos hin] at h3
      subst h3
      simp (disch := omega) [wl, hin, ruJ, ru0_iv]
     ·rw [if_neg hin] at h3
      obtain ⟨q, hq1, hq2⟩ := tkJ_eq r k h14 (partV p)
      have hfin := fun (y : Ru) => takeR_fin (r := r) (y := y) (k := k) (v := partV p) h14 h4
      have hT := fn_dtake r k (partV p) h14 hvl
      obtain ⟨⟨r', e', i'⟩, hTT⟩ : ∃ T, tkJ r k (partV p) = T := ⟨_, rfl⟩
      rw [hTT] at hT hq1 hq2
      have hq1 : q.sum = (i' : Nat) := hq1
      have hq2 : takeR r k (partV p) = if e' = 0 then .ok r' else .no e' q := hq2
      have hT : Fn G2 Tryz.prog k_ref21_take [r.iv, .int .i64 k, .str (partV p)] (.tuple [.agg (cells r'), .int .i64 e', .int .i64 (i' : Nat)]) := hT
      unfold Ru.iv cells at hT
      rw [hq2] at h3
      have hwl := wbs_len was
      simp (disch := omega) [wl, hin, hws, hwl, bxs, hvl']
      refine ⟨by omega, by omega, by omega, ?_⟩
      refine callW_imm hT ?_
      simp (disch := omega) [wl]
      refine ⟨rfl, ?_⟩
      by_cases e0 : e' = 0
      ·rw [if_pos e0] at h3
       have hf' := hfin r' (by rw [hq2, if_pos e0])
       simp (disch := omega) [wl, e0]
       refine loopEnd (⟨E + 1, k :: was, r', ps⟩ : JSt) ⟨by rw [← hE]; exact b4, by rw [← hE]; exact h3, hf'⟩ (by simp only; omega) ?_
       simp [bz, bxs]
       exact weak_drop rfl rfl (by simp [EnvLe, getE, look]) (by simp [ObLe, look, wbs_erase]) (by simp [roOk])
      ·rw [if_neg e0] at h3
       simp only at h3
       have hno := (takeR_no (x := r) (k := k) (v := partV p) (e := e') (q := q) (by rw [hq2, if_neg e0])).2
       have hi : i' ≤ (partV p).length := by
        rcases hno with rfl | ⟨n, rfl, hn⟩
        ·have : (0 : Int) = (i' : Nat) := hq1
         omega
        ·have : (n : Int) + 0 = (i' : Nat) := hq1
         omega
       have hwr : IntKind.i64.wrap ((Q : Int) + 1 + i') = a + (List.idxOf 61 p : Nat) + 1 + i' := by
        rw [wrap_i64 (by omega) (by omega)]
        omega
       subst h3
       simp (disch := omega) [wl, e0, ruJ, ru0_iv, hq1, hwr]
    ·have := n2 e
     simp (disch := omega) [wl, hg, e, hnl, hnm]
     refine ⟨⟨by omega, by omega⟩, ?_⟩
     refine loopEnd (k + 1) this (by omega) ?_
     simp
     exact wdr
   ·obtain rfl : k = 14 := by omega
    have hK : ¬ partK p < 14 := by unfold partK; omega
    rw [if_pos hK] at h3
    subst h3
    simp (disch := omega) [wl, hnl, ts_len, ruJ, ru0_iv]
  ·rw [if_pos h61] at h3
   subst h3
   have hQE : Q = E := by
    rw [List.idxOf_eq_length h61] at hQ
    omega
   simp (disch := omega) [wl, hQE, ruJ, ru0_iv]
end Go.Vs.YtbchceojmblkkaaGreatDoor.Rc
namespace Go.Vs.YtbchceojmblkkaaGreatDoor.Rc
set_option linter.unusedSimpArgs false
set_option linter.unusedVariables false
open Go.Proofs Go.Vs.U8 Go.Vs.Pa Go.Vs.Cv Go.Vs.Mo Go.Vs.Nu Go.Lib
set_option maxRecDepth 100000
set_option maxHeartbeats 32000000
theorem fit_zero : FitR ru0 := by simp [FitR, ru0]
theorem fn_RecurParses (s : Str) : Fn G2 Tryz.prog k_law21_RecurParses [.str s] (.bool true) := by
 refine fn_intro hm ok_law21_RecurParses (by simp) ?_
 have hA := fn_rawake
 simp [c_law21_RecurParses, r_law21_RecurParses]
 by_cases h4 : 400 < s.length
 ·simp (disch := omega) [wl]
  refine callW_imm hA ?_
  simp (disch := omega) [wl]
 ·have hP := fn_rcParse s (by omega)
  have hJ := fn_dRParse s (by omega)
  obtain ⟨R, hR⟩ : ∃ R, parseRu s = R := ⟨_, rfl⟩
  rw [hR] at hP hJ
  simp (disch := omega) [wl]
  cases R with
  | ok x =>
   obtain ⟨⟨fx, ux, zx⟩, cx⟩ := parseRu_fin hR
   have hB := fn_rBack x fx
   have hS := fn_dSameR x x fx fx
   rw [decide_eq_true rfl] at hS
   have hC := up fn_Code_nil
   have hPl := up fn_Place_nil
   simp only [ruI, ruJ, Ru.iv, cells] at hP hJ hB hS
   refine callW_imm hP ?_
   simp (disch := omega) [wl]
   refine callW_imm hJ ?_
   simp (disch := omega) [wl]
   refine callW_imm hB ?_
   simp (disch := omega) [wl]
   refine callW_imm hS ?_
   simp (disch := omega) [wl]
   refine callW_imm hC ?_
   simp (disch := omega) [wl]
   refine callW_imm hPl ?_
   simp (disch := omega) [wl]
   refine callW_imm hA ?_
   simp (disch := omega) [wl]
   try rfl
  | no e q =>
   obtain ⟨h1, h2⟩ := parseRu_no hR
   obtain ⟨hpl, hps⟩ := told_bd h2 (by omega)
   have hC := up (fn_Code e q)
   have hPl := up (fn_Place e q hpl hps)
   have hB := fn_rBack ru0 fit_zero
   have hS := fn_dSameR ru0 ru0 fit_zero fit_zero
   rw [decide_eq_true rfl] at hS
   obtain ⟨et, ev, he⟩ := errR_nn e q
   simp only [ruI, ruJ, ru0_iv, he] at hP hJ hB hS hC hPl
   refine callW_imm hP ?_
   simp (disch := omega) [wl]
   refine callW_imm hJ ?_
   simp (disch := omega) [wl]
   refine callW_imm hB ?_
   simp (disch := omega) [wl]
   refine callW_imm hS ?_
   simp (disch := omega) [wl]
   refine callW_imm hC ?_
   simp (disch := omega) [wl]
   refine callW_imm hPl ?_
   simp (disch := omega) [wl, h1]
   refine callW_imm hA ?_
   simp (disch := omega) [wl]
   try rfl
theorem RecurParses_true (args : List IV) (h : Args [.str] args) : Fn G2 Tryz.prog k_law21_RecurParses args (.bool true) := by
 obtain ⟨w, c, rfl, ⟨s, hs, _⟩, hc⟩ := h
 have hc : c = [] := hc
 subst hc
 simp only [List.cons.injEq, and_true] at hs
 subst hs
 exact fn_RecurParses s
end Go.Vs.YtbchceojmblkkaaGreatDoor.Rc
