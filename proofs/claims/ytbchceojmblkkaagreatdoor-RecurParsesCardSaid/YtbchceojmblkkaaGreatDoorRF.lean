/- The walk of moment, and of the document's: values that may be; forms, fields, digits. No conditions. -/
import Derived.Test.YtbchceojmblkkaaGreatDoorRD
import Derived.Test.YtbchceojmblkkaaGreatDoorRA
import Derived.Test.YtbchceojmblkkaaGreatDoorND
set_option linter.unusedVariables false
set_option linter.unusedSimpArgs false
namespace Go.Vs.Cv
end Go.Vs.Cv
namespace Go.Vs.Mo
end Go.Vs.Mo
namespace Go.Vs.Nu
end Go.Vs.Nu
namespace Go.Vs.YtbchceojmblkkaaGreatDoor.Rc
set_option linter.unusedSimpArgs false
set_option linter.unusedVariables false
open Go.Proofs Go.Vs.Cv Go.Vs.Mo Go.Vs.Nu
abbrev Str := List UInt8
set_option maxRecDepth 100000
set_option maxHeartbeats 8000000
def Mo.Mom.iv (v : Mom) : IV := .agg [.int .u8 v.k, .int .i64 v.s]
def moI (v : Mom) : IV := .agg [.int .u8 v.k, .int .i64 v.s]
def sndM (k s : Int) : Int := if k < 1 ∨ 3 < k then 11 else if s < 0 ∨ 315537897599 < s then 8 else 0
theorem fn_msound (k s : Int) (hk : 0 ≤ k) : Fn G2 Tryz.prog k_moment_sound [.int .u8 k, .int .i64 s] (.int .i64 (sndM k s)) := by
 refine fn_intro hm ok_moment_sound (by simp) ?_
 obtain ⟨R, hR⟩ : ∃ R, sndM k s = R := ⟨_, rfl⟩
 rw [hR]
 unfold sndM at hR
 simp [c_moment_sound, r_moment_sound]
 by_cases h0 : k = 0
 ·rw [if_pos (.inl (by omega))] at hR
  subst hR
  simp (disch := omega) [Go.Vs.wl, h0]
 ·by_cases h3 : 3 < k
  ·rw [if_pos (.inr h3)] at hR
   subst hR
   simp (disch := omega) [Go.Vs.wl, h0]
  ·rw [if_neg (by omega)] at hR
   by_cases h4 : s < 0
   ·rw [if_pos (.inl h4)] at hR
    subst hR
    simp (disch := omega) [Go.Vs.wl, h0]
   ·by_cases h5 : 315537897599 < s
    ·rw [if_pos (.inr h5)] at hR
     subst hR
     simp (disch := omega) [Go.Vs.wl, h0]
    ·rw [if_neg (by omega)] at hR
     subst hR
     simp (disch := omega) [Go.Vs.wl, h0]
def atM (k s : Int) : Mom × Int := if sndM k s ≠ 0 then (⟨0, 0⟩, sndM k s) else (⟨k, if k = 1 then s - s % 86400 else s⟩, 0)
theorem sndM_zero {k s : Int} (h : sndM k s = 0) : 1 ≤ k ∧ k ≤ 3 ∧ 0 ≤ s ∧ s ≤ 315537897599 := by
 unfold sndM at h
 split at h
 ·cases h
 ·split at h
  ·cases h
  ·omega
theorem fn_At (k s : Int) (hk : 0 ≤ k) : Fn G2 Tryz.prog k_moment_At [.int .u8 k, .int .i64 s] (.tuple [moI (atM k s).1, .int .i64 (atM k s).2]) := by
 refine fn_intro hm ok_moment_At (by simp) ?_
 have hS := fn_msound k s hk
 obtain ⟨R, hR⟩ : ∃ R, atM k s = R := ⟨_, rfl⟩
 rw [hR]
 unfold atM at hR
 simp [c_moment_At, r_moment_At]
 refine callW_imm hS ?_
 by_cases h0 : sndM k s = 0
 ·rw [if_neg (by simp [h0])] at hR
  subst hR
  obtain ⟨b1, b2, b3, b4⟩ := sndM_zero h0
  have e : s.tmod 86400 = s % 86400 := Int.tmod_eq_emod_of_nonneg b3
  by_cases h1 : k = 1
  ·subst h1
   simp (disch := omega) [Go.Vs.wl, h0, e, moI]
  ·simp (disch := omega) [Go.Vs.wl, h0, h1, moI]
 ·rw [if_pos h0] at hR
  subst hR
  simp (disch := omega) [Go.Vs.wl, h0, moI]
theorem fn_mCheck (v : Mom) (hk : 0 ≤ v.k) : Fn G2 Tryz.prog k_moment_Check [moI v] (.int .i64 (momC v)) := by
 refine fn_intro hm ok_moment_Check (by simp) ?_
 obtain ⟨k, s⟩ := v
 have hA := fn_At k s hk
 obtain ⟨R, hR⟩ : ∃ R, momC ⟨k, s⟩ = R := ⟨_, rfl⟩
 rw [hR]
 unfold momC at hR
 simp only at hR hk
 simp [c_moment_Check, r_moment_Check, moI]
 refine callW_imm hA ?_
 by_cases h0 : sndM k s = 0
 ·obtain ⟨b1, b2, b3, b4⟩ := sndM_zero h0
  have hv : atM k s = (⟨k, if k = 1 then s - s % 86400 else s⟩, 0) := by unfold atM; rw [if_neg (by simp [h0])]
  rw [hv]
  rw [if_neg (by omega), if_neg (by omega)] at hR
  by_cases h1 : k = 1
  ·by_cases h2 : s % 86400 = 0
   ·rw [if_neg (by omega)] at hR
    subst hR
    simp (disch := omega) [Go.Vs.wl, h1, h2, moI]
   ·rw [if_pos ⟨h1, h2⟩] at hR
    subst hR
    have e : ¬ s - s % 86400 = s := by omega
    simp (disch := omega) [Go.Vs.wl, h1, e, moI]
  ·rw [if_neg (fun h => h1 h.1)] at hR
   subst hR
   simp (disch := omega) [Go.Vs.wl, h1, moI]
 ·have hv : atM k s = (⟨0, 0⟩, sndM k s) := by unfold atM; rw [if_pos h0]
  rw [hv]
  have hRe : R = sndM k s := by
   rw [← hR]
   unfold sndM at h0 ⊢
   by_cases q1 : k < 1 ∨ 3 < k
   ·rw [if_pos q1, if_pos q1]
   ·rw [if_neg q1, if_neg q1]
    by_cases q2 : s < 0 ∨ 315537897599 < s
    ·rw [if_pos q2, if_pos q2]
    ·rw [if_neg q1, if_neg q2] at h0; exact absurd rfl h0
  rw [hRe]
  simp (disch := omega) [Go.Vs.wl, h0, moI]
theorem fn_dCheck (v : Mom) (hk : 0 ≤ v.k) : Fn G2 Tryz.prog k_ref11_Check [moI v] (.int .i64 (momC v)) := by
 refine fn_intro hm ok_ref11_Check (by simp) ?_
 obtain ⟨k, s⟩ := v
 obtain ⟨R, hR⟩ : ∃ R, momC ⟨k, s⟩ = R := ⟨_, rfl⟩
 rw [hR]
 unfold momC at hR
 simp only at hR hk
 simp [c_ref11_Check, r_ref11_Check, moI]
 by_cases h0 : k < 1
 ·rw [if_pos (.inl h0)] at hR
  subst hR
  simp (disch := omega) [Go.Vs.wl]
 ·by_cases h3 : 3 < k
  ·rw [if_pos (.inr h3)] at hR
   subst hR
   simp (disch := omega) [Go.Vs.wl]
  ·rw [if_neg (by omega)] at hR
   by_cases h4 : s < 0
   ·rw [if_pos (.inl h4)] at hR
    subst hR
    simp (disch := omega) [Go.Vs.wl]
   ·by_cases h5 : 315537897599 < s
    ·rw [if_pos (.inr h5)] at hR
     subst hR
     simp (disch := omega) [Go.Vs.wl]
    ·rw [if_neg (by omega)] at hR
     have e : s.tmod 86400 = s % 86400 := Int.tmod_eq_emod_of_nonneg (by omega)
     by_cases h1 : k = 1
     ·by_cases h2 : s % 86400 = 0
      ·rw [if_neg (by omega)] at hR
       subst hR
       simp (disch := omega) [Go.Vs.wl, h1, h2, e]
      ·rw [if_pos ⟨h1, h2⟩] at hR
       subst hR
       simp (disch := omega) [Go.Vs.wl, h1, h2, e]
     ·rw [if_neg (fun h => h1 h.1)] at hR
      subst hR
      simp (disch := omega) [Go.Vs.wl, h1]
theorem fn_Split' (v : Mom) (hk : 0 ≤ v.k) (hc : momC v = 0) : Fn G2 Tryz.prog k_moment_Split [moI v] (.tuple [.int .i64 (v.s / 86400), .int .i64 (v.s % 86400)]) := by
 refine fn_intro hm ok_moment_Split (by simp) ?_
 have hC := fn_mCheck v hk
 rw [hc] at hC
 obtain ⟨_, _, b3, b4, _⟩ := momC_zero hc
 obtain ⟨k, s⟩ := v
 simp only at b3 b4
 simp only [moI] at hC
 have e1 : s.tmod 86400 = s % 86400 := Int.tmod_eq_emod_of_nonneg b3
 have e2 : s.tdiv 86400 = s / 86400 := Int.tdiv_eq_ediv_of_nonneg b3
 simp [c_moment_Split, r_moment_Split, moI]
 refine callW_imm hC ?_
 simp (disch := omega) [Go.Vs.wl, e1, e2]
theorem momK_cases (s : Str) : (momK s = 1 ∧ s.length = 8) ∨ (momK s = 2 ∧ s.length = 15 ∧ s[8]? = some 84) ∨ (momK s = 3 ∧ s.length = 16 ∧ s[8]? = some 84 ∧ s[15]? = some 90) ∨ (momK s = 0 ∧ s.length ≠ 8 ∧ ¬ (s.length = 15 ∧ s[8]? = some 84) ∧ ¬ (s.length = 16 ∧ s[8]? = some 84 ∧ s[15]? = some 90)) := by
 unfold momK
 by_cases h1 : s.length = 8
 ·rw [if_pos h1]; exact .inl ⟨rfl, h1⟩
 ·rw [if_neg h1]
  by_cases h2 : s.length = 15 ∧ s[8]? = some 84
  ·rw [if_pos h2]; exact .inr (.inl ⟨rfl, h2⟩)
  ·rw [if_neg h2]
   by_cases h3 : s.length = 16 ∧ s[8]? = some 84 ∧ s[15]? = some 90
   ·rw [if_pos h3]; exact .inr (.inr (.inl ⟨rfl, h3⟩))
   ·rw [if_neg h3]; exact .inr (.inr (.inr ⟨rfl, h1, h2, h3⟩))
def formI (s : Str) : IV := if momK s = 0 then .tuple [.int .u8 0, .str [], .str [], .bool false] else .tuple [.int .u8 (momK s), .str (s.take 8), .str (timeS s), .bool true]
theorem get_nat {s : Str} {i : Nat} {c : UInt8} (h : i < s.length) : s[i]? = some c ↔ s[i].toNat = c.toNat := by
 rw [List.getElem?_eq_getElem h, Option.some.injEq]
 exact ⟨fun e => by rw [e], fun e => UInt8.toNat_inj.1 e⟩
theorem fn_form (s : Str) (hs : s.length < 1000000) : Fn G2 Tryz.prog k_moment_form [.str s] (formI s) := by
 refine fn_intro hm ok_moment_form (by simp) ?_
 obtain ⟨R, hR⟩ : ∃ R, formI s = R := ⟨_, rfl⟩
 rw [hR]
 unfold formI timeS at hR
 simp [c_moment_form, r_moment_form]
 rcases momK_cases s with ⟨hk, h8⟩ | ⟨hk, h15, hT⟩ | ⟨hk, h16, hT, hZ⟩ | ⟨hk, n8, n15, n16⟩
 ·rw [hk, if_neg (by omega), if_pos rfl] at hR
  subst hR
  have : s.take 8 = s := List.take_of_length_le (by omega)
  simp (disch := omega) [Go.Vs.wl, h8, this]
 ·rw [hk, if_neg (by omega), if_neg (by omega)] at hR
  subst hR
  rw [get_nat (by omega)] at hT
  have hT' : (s[8]'(by omega)).toNat = 84 := hT
  have e1 : (s.drop 9).take 6 = s.drop 9 := List.take_of_length_le (by rw [List.length_drop]; omega)
  have e2 : (s.take 15).drop 9 = s.drop 9 := by rw [List.take_of_length_le (by omega)]
  simp (disch := omega) [Go.Vs.wl, h15, hT', e1, e2]
 ·rw [hk, if_neg (by omega), if_neg (by omega)] at hR
  subst hR
  rw [get_nat (by omega)] at hT hZ
  have hT' : (s[8]'(by omega)).toNat = 84 := hT
  have hZ' : (s[15]'(by omega)).toNat = 90 := hZ
  have e1 : (s.drop 9).take 6 = (s.take 15).drop 9 := by rw [List.drop_take]
  simp (disch := omega) [Go.Vs.wl, h16, hT', hZ', e1]
 ·rw [if_pos hk] at hR
  subst hR
  by_cases h15 : s.length = 15
  ·have hT : ¬ (s[8]'(by omega)).toNat = 84 := fun e => n15 ⟨h15, (get_nat (by omega)).2 e⟩
   simp (disch := omega) [Go.Vs.wl, n8, h15, hT]
  ·by_cases h16 : s.length = 16
   ·by_cases hT : (s[8]'(by omega)).toNat = 84
    ·have hZ : ¬ (s[15]'(by omega)).toNat = 90 := fun e => n16 ⟨h16, (get_nat (by omega)).2 hT, (get_nat (by omega)).2 e⟩
     simp (disch := omega) [Go.Vs.wl, n8, h15, h16, hT, hZ]
    ·simp (disch := omega) [Go.Vs.wl, n8, h15, h16, hT]
   ·simp (disch := omega) [Go.Vs.wl, n8, h15, h16]
end Go.Vs.YtbchceojmblkkaaGreatDoor.Rc
namespace Go.Vs.YtbchceojmblkkaaGreatDoor.Rc
set_option linter.unusedSimpArgs false
set_option linter.unusedVariables false
open Go.Proofs Go.Vs.Cv Go.Vs.Mo Go.Vs.Nu
set_option maxRecDepth 100000
set_option maxHeartbeats 8000000
def fldGo : Str → List Nat → List Int → Option (List Int × Str)
 | s, [], out => some (out, s)
 | s, w :: wl, out => if w ≤ s.length ∧ (s.take w).all dig = true then fldGo (s.drop w) wl (out ++ [((valD 0 (s.take w) : Nat) : Int)]) else none
def fldI : Option (List Int × Str) → IV
 | none => .tuple [.slice [], .bool false]
 | some (l, r) => .tuple [.slice (is l), .bool (decide (r = []))]
def wsI (wl : List Nat) : List Int := wl.map fun w : Nat => (w : Int)
theorem wsI_get {wl : List Nat} {i w : Nat} (h : i < wl.length) (hx : wl[i] = w) : (is (wsI wl))[i]? = some [.int .i64 (w : Int)] := by simp [is, wsI, h, hx]
theorem wsI_len (wl : List Nat) : (is (wsI wl)).length = wl.length := by simp [is, wsI]
theorem fn_fields (s : Str) (wl : List Nat) (hw : ∀ w ∈ wl, w ≤ 9) (hl : wl.length ≤ 100) (hs : s.length < 1000000) : Fn G2 Tryz.prog k_moment_fields [.str s, .slice (is (wsI wl))] (fldI (fldGo s wl [])) := by
 refine fn_intro hm ok_moment_fields (by simp) ?_
 obtain ⟨R, hR⟩ : ∃ R, fldGo s wl [] = R := ⟨_, rfl⟩
 rw [hR]
 simp [c_moment_fields, r_moment_fields, wsI_len]
 refine loopU hm [] (fun x : Str × List Int => [(12, .val (.int .i64 x.2.length)), (0, .val (.str x.1)), (6, .own 6 x.2.length)]) (fun x => [(6, .arr x.2.length 1 (is x.2))]) (fun x => x.2.length ≤ wl.length ∧ x.1.length ≤ s.length ∧ fldGo x.1 (wl.drop x.2.length) x.2 = R) (fun x => wl.length - x.2.length) (s, []) ⟨by simp, by simp, by simpa using hR⟩ ?_ ?_
 ·simp [is]
  exact Weak.trans (weak_adopt (k := 6) 6 1 (by simp) (by simp [getE, look])) (weak_drop rfl rfl (by simp [St.adopt, EnvLe, getE, look, put, eraseE, SV.erase]) (by simp [St.adopt, ObLe, look, put, eraseO, Ob.erase]) (by simp [St.adopt, roOk]))
 rintro ⟨t, out⟩ ⟨h1, h2, h3⟩
 simp only at h1 h2 h3
 simp [wsI_len]
 by_cases h : out.length < wl.length
 ·obtain ⟨w, hwx⟩ : ∃ w, wl[out.length] = w := ⟨_, rfl⟩
  have hg := wsI_get h hwx
  have hw9 := hw w (hwx ▸ List.getElem_mem h)
  rw [List.drop_eq_getElem_cons h, hwx, fldGo] at h3
  simp (disch := omega) [Go.Vs.wl, hg]
  refine loopU hm [] (fun j : Nat => [(8, .val (.int .i64 ((w - j : Nat) : Int))), (9, .val (.int .i64 ((valD 0 (t.take j) : Nat) : Int))), (0, .val (.str (t.drop j)))]) (fun _ => []) (fun j => j ≤ w ∧ j ≤ t.length ∧ (t.take j).all dig = true) (fun j => w - j) 0 ⟨by omega, by omega, by simp⟩ ?_ ?_
  ·have e : valD 0 ([] : Str) = 0 := rfl
   simp [e]
   exact wdr
  rintro j ⟨j1, j2, j3⟩
  simp
  by_cases hj : j < w
  ·obtain ⟨d, hd⟩ : ∃ d, t.drop j = d := ⟨_, rfl⟩
   rw [hd]
   cases d with
   | nil =>
    have hlen : t.length = j := by
     have := congrArg List.length hd
     rw [List.length_drop] at this
     simp at this
     omega
    rw [if_neg (fun h => by omega)] at h3
    subst h3
    simp (disch := omega) [Go.Vs.wl]
    simp [fldI]
   | cons c r =>
    have hjl : j < t.length := by
     have := congrArg List.length hd
     rw [List.length_drop] at this
     simp at this
     omega
    have hcj : t[j] = c ∧ t.drop (j + 1) = r := by
     rw [List.drop_eq_getElem_cons hjl] at hd
     exact ⟨(List.cons.inj hd).1, (List.cons.inj hd).2⟩
    have hta : t.take (j + 1) = t.take j ++ [c] := by rw [List.take_succ_eq_append_getElem hjl, hcj.1]
    by_cases hdg : dig c = true
    ·obtain ⟨d1, d2⟩ := dig_bd hdg
     have hall' : (t.take (j + 1)).all dig = true := by rw [hta, List.all_append, j3, all_one hdg]; rfl
     have hv : valD 0 (t.take (j + 1)) = 10 * valD 0 (t.take j) + (c.toNat - 48) := by rw [hta, val_snoc]
     have hb0 : valD 0 (t.take j) < 10 ^ 9 := Go.Vs.YtbchceojmblkkaaGreatDoor.val_bd j3 (by rw [List.length_take]; omega)
     obtain ⟨V, hV⟩ : ∃ V, valD 0 (t.take j) = V := ⟨_, rfl⟩
     obtain ⟨W, hW⟩ : ∃ W, valD 0 (t.take (j + 1)) = W := ⟨_, rfl⟩
     rw [hV, hW] at hv
     rw [hV] at hb0 ⊢
     have e : ((V : Int) * 10 + ((c.toNat : Int) - 48)) = (W : Int) := by omega
     simp (disch := omega) [Go.Vs.wl, e]
     refine ⟨by omega, ?_⟩
     refine loopEnd (j + 1) ⟨by omega, by omega, hall'⟩ (by omega) ?_
     simp [hW, hcj.2]
     exact weak_drop rfl rfl (by simp [EnvLe, getE, look]; omega) (by simp [ObLe, look]) (by simp [roOk])
    ·have hbad : ¬ (w ≤ t.length ∧ (t.take w).all dig = true) := fun hh => by
      have hmem : c ∈ t.take w := by
       rw [List.mem_take_iff_getElem]
       exact ⟨j, by omega, hcj.1⟩
      exact hdg (List.all_eq_true.1 hh.2 c hmem)
     rw [if_neg hbad] at h3
     subst h3
     have hd2 : c.toNat < 48 ∨ 57 < c.toNat := by
      simp [dig] at hdg
      omega
     rcases hd2 with hd2 | hd2
     ·simp (disch := omega) [Go.Vs.wl]
      simp [fldI]
     ·simp (disch := omega) [Go.Vs.wl]
      simp [fldI]
  ·obtain rfl : j = w := by omega
   rw [if_pos ⟨j2, j3⟩] at h3
   simp (disch := omega) [Go.Vs.wl, is_len]
   refine ⟨by omega, ?_⟩
   refine loopEnd (t.drop j, out ++ [((valD 0 (t.take j) : Nat) : Int)]) ⟨by simp; omega, by simp; omega, by simpa using h3⟩ (by simp; omega) ?_
   simp [is_snoc]
   exact wdr
 ·have e : wl.drop out.length = [] := List.drop_eq_nil_of_le (by omega)
  rw [e, fldGo] at h3
  subst h3
  have e2 : out.length = wl.length := by omega
  simp (disch := omega) [Go.Vs.wl, is_len]
  simp [fldI]
theorem fld_three {s : Str} {a b c : Nat} (hl : s.length = a + b + c) : fldGo s [a, b, c] [] = if s.all dig = true then some ([((valD 0 (s.take a) : Nat) : Int), ((valD 0 ((s.drop a).take b) : Nat) : Int), ((valD 0 (s.drop (a + b)) : Nat) : Int)], []) else none := by
 have l1 : (s.drop a).length = b + c := by rw [List.length_drop]; omega
 have l2 : ((s.drop a).drop b).length = c := by rw [List.length_drop]; omega
 have e3 : ((s.drop a).drop b).take c = s.drop (a + b) := by rw [List.take_of_length_le (by omega), List.drop_drop]
 have e4 : ((s.drop a).drop b).drop c = [] := List.drop_eq_nil_of_le (by omega)
 have hs : s = s.take a ++ ((s.drop a).take b ++ s.drop (a + b)) := by
  rw [← List.drop_drop, List.take_append_drop, List.take_append_drop]
 have hall : s.all dig = ((s.take a).all dig && (((s.drop a).take b).all dig && (s.drop (a + b)).all dig)) := by
  conv => lhs; rw [hs]
  rw [List.all_append, List.all_append]
 simp only [fldGo, l1, l2, e3, e4, hall]
 by_cases q1 : (s.take a).all dig = true
 ·rw [if_pos ⟨by omega, q1⟩]
  by_cases q2 : ((s.drop a).take b).all dig = true
  ·rw [if_pos ⟨by omega, q2⟩]
   by_cases q3 : (s.drop (a + b)).all dig = true
   ·rw [if_pos ⟨by omega, q3⟩, if_pos (by simp [q1, q2, q3])]
    rfl
   ·rw [if_neg (fun h => q3 h.2), if_neg (by simp [q3])]
  ·rw [if_neg (fun h => q2 h.2), if_neg (by simp [q2])]
 ·rw [if_neg (fun h => q1 h.2), if_neg (by simp [q1])]
end Go.Vs.YtbchceojmblkkaaGreatDoor.Rc
namespace Go.Vs.YtbchceojmblkkaaGreatDoor.Rc
set_option linter.unusedSimpArgs false
set_option linter.unusedVariables false
open Go.Proofs Go.Vs.Cv Go.Vs.Mo Go.Vs.Nu
set_option maxRecDepth 100000
set_option maxHeartbeats 16000000
theorem day_is {y m d : Nat} (hy : y ≤ 9999) : dayO y m d = if isDate y m d = true then (dayN y m d, 0) else (0, 8) := by
 unfold dayO isDate
 by_cases h : 1 ≤ y ∧ 1 ≤ m ∧ m ≤ 12 ∧ 1 ≤ d ∧ d ≤ mlen y m
 ·have hl : lenN y m = mlen y m := by unfold lenN; rw [if_pos (by omega)]
  rw [if_neg (by omega), if_pos (by simpa using h)]
 ·rw [if_neg (c := decide _ = true) (by simpa using h)]
  by_cases q : 1 ≤ y ∧ y ≤ 9999 ∧ 1 ≤ m ∧ m ≤ 12
  ·have hl : lenN y m = mlen y m := by unfold lenN; rw [if_pos q]
   rw [if_pos (by omega)]
  ·have hl : lenN y m = 0 := by unfold lenN; rw [if_neg q]
   rw [if_pos (by omega)]
theorem all_take {s : Str} (h : s.all dig = true) (n : Nat) : (s.take n).all dig = true := by
 rw [List.all_eq_true] at h ⊢
 exact fun c hc => h c (List.mem_of_mem_take hc)
theorem all_drop {s : Str} (h : s.all dig = true) (n : Nat) : (s.drop n).all dig = true := by
 rw [List.all_eq_true] at h ⊢
 exact fun c hc => h c (List.mem_of_mem_drop hc)
theorem val2 {s : Str} (h : s.all dig = true) (hl : s.length ≤ 2) : valD 0 s < 100 := by
 have := Go.Vs.YtbchceojmblkkaaGreatDoor.val_bd h hl
 simpa using this
theorem val4 {s : Str} (h : s.all dig = true) (hl : s.length ≤ 4) : valD 0 s < 10000 := by
 have := Go.Vs.YtbchceojmblkkaaGreatDoor.val_bd h hl
 simpa using this
theorem momS_len {s : Str} (h : momK s ≠ 0) : (s.take 8).length = 8 ∧ (timeS s).length = 6 ∧ 1 ≤ momK s ∧ momK s ≤ 3 := by
 unfold timeS
 rcases momK_cases s with ⟨hk, h8⟩ | ⟨hk, h15, _⟩ | ⟨hk, h16, _⟩ | ⟨hk, _⟩
 ·rw [hk, if_pos rfl]
  exact ⟨by rw [List.length_take]; omega, rfl, by omega, by omega⟩
 ·rw [hk, if_neg (by omega)]
  exact ⟨by rw [List.length_take]; omega, by rw [List.length_take, List.length_drop]; omega, by omega, by omega⟩
 ·rw [hk, if_neg (by omega)]
  exact ⟨by rw [List.length_take]; omega, by rw [List.length_take, List.length_drop]; omega, by omega, by omega⟩
 ·exact absurd hk h
theorem fn_mParse (s : Str) (hs : s.length < 1000000) : Fn G2 Tryz.prog k_moment_Parse [.str s] (.tuple [moI (momR s).1, .int .i64 (momR s).2]) := by
 refine fn_intro hm ok_moment_Parse (by simp) ?_
 have hF := fn_form s hs
 obtain ⟨R, hR⟩ : ∃ R, momR s = R := ⟨_, rfl⟩
 rw [hR]
 unfold momR at hR
 unfold formI at hF
 simp [c_moment_Parse, r_moment_Parse]
 by_cases h0 : momK s = 0
 ·rw [if_pos (.inl h0)] at hR
  rw [if_pos h0] at hF
  subst hR
  refine callW_imm hF ?_
  simp (disch := omega) [Go.Vs.wl, moI]
 ·rw [if_neg h0] at hF
  obtain ⟨lD, lT, k1, k3⟩ := momS_len h0
  obtain ⟨k, hk⟩ : ∃ k, momK s = k := ⟨_, rfl⟩
  obtain ⟨D, hD⟩ : ∃ D, s.take 8 = D := ⟨_, rfl⟩
  obtain ⟨T, hT⟩ : ∃ T, timeS s = T := ⟨_, rfl⟩
  rw [hk, hD, hT] at hF hR
  rw [hk] at h0 k1 k3
  rw [hD] at lD
  rw [hT] at lT
  have hFd := fn_fields D [4, 2, 2] (by simp) (by simp) (by omega)
  have hFt := fn_fields T [2, 2, 2] (by simp) (by simp) (by omega)
  rw [fld_three (by omega)] at hFd hFt
  simp only [wsI, is, List.map_cons, List.map_nil, Int.cast_ofNat_Int, Nat.reduceAdd] at hFd hFt
  refine callW_imm hF ?_
  simp (disch := omega) [Go.Vs.wl]
  refine callW_imm hFd ?_
  by_cases q1 : D.all dig = true
  ·rw [if_pos q1]
   obtain ⟨y, hy⟩ : ∃ y, valD 0 (D.take 4) = y := ⟨_, rfl⟩
   obtain ⟨m, hmv⟩ : ∃ m, valD 0 ((D.drop 4).take 2) = m := ⟨_, rfl⟩
   obtain ⟨d, hdv⟩ : ∃ d, valD 0 (D.drop 6) = d := ⟨_, rfl⟩
   have by' : y < 10000 := hy ▸ val4 (all_take q1 4) (by rw [List.length_take]; omega)
   have bm : m < 100 := hmv ▸ val2 (all_take (all_drop q1 4) 2) (by rw [List.length_take]; omega)
   have bd : d < 100 := hdv ▸ val2 (all_drop q1 6) (by rw [List.length_drop]; omega)
   rw [hy, hmv, hdv]
   simp (disch := omega) [Go.Vs.wl, fldI, is]
   refine callW_imm hFt ?_
   by_cases q2 : T.all dig = true
   ·rw [if_pos q2]
    rw [if_neg (by simp [h0, q1, q2])] at hR
    obtain ⟨h, hh⟩ : ∃ h, valD 0 (T.take 2) = h := ⟨_, rfl⟩
    obtain ⟨mi, hmi⟩ : ∃ mi, valD 0 ((T.drop 2).take 2) = mi := ⟨_, rfl⟩
    obtain ⟨se, hse⟩ : ∃ se, valD 0 (T.drop 4) = se := ⟨_, rfl⟩
    have bh : h < 100 := hh ▸ val2 (all_take q2 2) (by rw [List.length_take]; omega)
    have bmi : mi < 100 := hmi ▸ val2 (all_take (all_drop q2 2) 2) (by rw [List.length_take]; omega)
    have bse : se < 100 := hse ▸ val2 (all_drop q2 4) (by rw [List.length_drop]; omega)
    rw [hh, hmi, hse]
    have hDy := fn_Day y m d (by omega) (by omega) (by omega)
    have hfine : fine D T = (isDate y m d && decide (h ≤ 23 ∧ mi ≤ 59 ∧ se ≤ 59)) := by unfold fine; rw [hy, hmv, hdv, hh, hmi, hse]
    have hsec : secs D T = dayN y m d * 86400 + (h * 3600 + mi * 60 + se) := by unfold secs; rw [hy, hmv, hdv, hh, hmi, hse]
    rw [hfine] at hR
    rw [day_is (by omega)] at hDy
    by_cases q3 : isDate y m d = true
    ·rw [if_pos q3] at hDy
     have hdl : dayN y m d ≤ 3652058 := by
      have q4 := q3
      simp only [isDate, decide_eq_true_eq] at q4
      exact day_le q4.1 (by omega) q4.2.1 q4.2.2.1 q4.2.2.2.1 q4.2.2.2.2
     rw [q3, Bool.true_and] at hR
     obtain ⟨N, hN⟩ : ∃ N, dayN y m d = N := ⟨_, rfl⟩
     rw [hN] at hDy hsec hdl
     simp only [dayOI] at hDy
     simp (disch := omega) [Go.Vs.wl, fldI, is]
     refine callW_imm hDy ?_
     by_cases a1 : 23 < h
     ·rw [if_pos (by simp; omega)] at hR
      subst hR
      simp (disch := omega) [Go.Vs.wl]
      refine ⟨rfl, ?_⟩
      simp (disch := omega) [Go.Vs.wl, moI]
     ·by_cases a2 : 59 < mi
      ·rw [if_pos (by simp; omega)] at hR
       subst hR
       simp (disch := omega) [Go.Vs.wl]
       refine ⟨rfl, ?_⟩
       simp (disch := omega) [Go.Vs.wl, moI]
      ·by_cases a3 : 59 < se
       ·rw [if_pos (by simp; omega)] at hR
        subst hR
        simp (disch := omega) [Go.Vs.wl]
        refine ⟨rfl, ?_⟩
        simp (disch := omega) [Go.Vs.wl, moI]
       ·rw [if_neg (by simp; omega), hsec] at hR
        subst hR
        simp (disch := omega) [Go.Vs.wl]
        refine ⟨rfl, ?_⟩
        simp (disch := omega) [Go.Vs.wl, moI]
        omega
    ·have q3' : isDate y m d = false := by simpa using q3
     rw [if_neg q3] at hDy
     rw [q3', Bool.false_and, if_pos rfl] at hR
     subst hR
     simp only [dayOI] at hDy
     simp (disch := omega) [Go.Vs.wl, fldI, is]
     refine callW_imm hDy ?_
     simp (disch := omega) [Go.Vs.wl]
     refine ⟨rfl, ?_⟩
     simp (disch := omega) [Go.Vs.wl, moI]
   ·have q2' : T.all dig = false := by simpa using q2
    rw [if_neg q2]
    rw [if_pos (.inr (.inr q2'))] at hR
    subst hR
    simp (disch := omega) [Go.Vs.wl, fldI, moI]
  ·have q1' : D.all dig = false := by simpa using q1
   rw [if_neg q1]
   rw [if_pos (.inr (.inl q1'))] at hR
   subst hR
   simp (disch := omega) [Go.Vs.wl, fldI, moI]
end Go.Vs.YtbchceojmblkkaaGreatDoor.Rc
namespace Go.Vs.YtbchceojmblkkaaGreatDoor.Rc
set_option linter.unusedSimpArgs false
set_option linter.unusedVariables false
open Go.Proofs Go.Vs.Cv Go.Vs.Mo Go.Vs.Nu
set_option maxRecDepth 100000
set_option maxHeartbeats 16000000
theorem fn_digits (s : Str) (hs : s.length < 1000000) : Fn G2 Tryz.prog k_ref11_digits [.str s] (.bool (s.all dig)) := by
 refine fn_intro hm ok_ref11_digits (by simp) ?_
 obtain ⟨R, hR⟩ : ∃ R, s.all dig = R := ⟨_, rfl⟩
 rw [hR]
 simp [c_ref11_digits, r_ref11_digits]
 refine loopU hm [] (fun i : Nat => [(3, .val (.int .i64 i))]) (fun _ => []) (fun i => i ≤ s.length ∧ (s.drop i).all dig = R) (fun i => s.length - i) 0 ⟨by omega, by simpa using hR⟩ ?_ ?_
 ·simp
  exact wdr
 rintro i ⟨hi, hc⟩
 simp
 by_cases h : i < s.length
 ·obtain ⟨c, hx⟩ : ∃ c, s[i] = c := ⟨_, rfl⟩
  have hd : s.drop i = c :: s.drop (i + 1) := by rw [← hx]; exact List.drop_eq_getElem_cons h
  rw [hd, List.all_cons] at hc
  by_cases hg : dig c = true
  ·obtain ⟨d1, d2⟩ := dig_bd hg
   rw [hg, Bool.true_and] at hc
   simp (disch := omega) [Go.Vs.wl, hx]
   refine loopEnd (i + 1) ⟨by omega, hc⟩ (by omega) ?_
   simp
   exact wdr
  ·have hg' : dig c = false := by simpa using hg
   rw [hg', Bool.false_and] at hc
   subst hc
   have hd2 : c.toNat < 48 ∨ 57 < c.toNat := by
    simp [dig] at hg
    omega
   rcases hd2 with hd2 | hd2
   ·simp (disch := omega) [Go.Vs.wl, hx]
   ·simp (disch := omega) [Go.Vs.wl, hx]
 ·obtain rfl : i = s.length := by omega
  rw [List.drop_length] at hc
  subst hc
  simp (disch := omega) [Go.Vs.wl]
theorem fn_dnumber (s : Str) (hs : s.length ≤ 4) (ha : s.all dig = true) : Fn G2 Tryz.prog k_ref11_number [.str s] (.int .i64 (valD 0 s : Nat)) := by
 refine fn_intro hm ok_ref11_number (by simp) ?_
 simp [c_ref11_number, r_ref11_number]
 refine loopU hm [] (fun i : Nat => [(4, .val (.int .i64 i)), (3, .val (.int .i64 ((valD 0 (s.take i) : Nat) : Int)))]) (fun _ => []) (fun i => i ≤ s.length) (fun i => s.length - i) 0 (by omega) ?_ ?_
 ·have e : valD 0 ([] : Str) = 0 := rfl
  simp [e]
  exact wdr
 intro i hi
 simp
 by_cases h : i < s.length
 ·obtain ⟨c, hx⟩ : ∃ c, s[i] = c := ⟨_, rfl⟩
  have hg : dig c = true := List.all_eq_true.1 ha c (hx ▸ List.getElem_mem h)
  obtain ⟨d1, d2⟩ := dig_bd hg
  have hta : s.take (i + 1) = s.take i ++ [c] := by rw [List.take_succ_eq_append_getElem h, hx]
  have hv : valD 0 (s.take (i + 1)) = 10 * valD 0 (s.take i) + (c.toNat - 48) := by rw [hta, val_snoc]
  have hb0 : valD 0 (s.take i) < 10 ^ 4 := Go.Vs.YtbchceojmblkkaaGreatDoor.val_bd (all_take ha i) (by rw [List.length_take]; omega)
  obtain ⟨V, hV⟩ : ∃ V, valD 0 (s.take i) = V := ⟨_, rfl⟩
  obtain ⟨W, hW⟩ : ∃ W, valD 0 (s.take (i + 1)) = W := ⟨_, rfl⟩
  rw [hV, hW] at hv
  rw [hV] at hb0 ⊢
  have e : ((V : Int) * 10 + ((c.toNat : Int) - 48)) = (W : Int) := by omega
  simp (disch := omega) [Go.Vs.wl, hx, e]
  refine loopEnd (i + 1) (by omega) (by omega) ?_
  simp [hW]
  exact wdr
 ·obtain rfl : i = s.length := by omega
  simp (disch := omega) [Go.Vs.wl]
theorem fn_dParse (s : Str) (hs : s.length < 1000000) : Fn G2 Tryz.prog k_ref11_Parse [.str s] (.tuple [moI (momR s).1, .int .i64 (momR s).2]) := by
 refine fn_intro hm ok_ref11_Parse (by simp) ?_
 obtain ⟨R, hR⟩ : ∃ R, momR s = R := ⟨_, rfl⟩
 rw [hR]
 unfold momR at hR
 simp [c_ref11_Parse, r_ref11_Parse]
 have hk := momK_cases s
 by_cases hL : s.length = 8 ∨ s.length = 15 ∨ s.length = 16
 ·obtain ⟨D, hD⟩ : ∃ D, s.take 8 = D := ⟨_, rfl⟩
  have lD : D.length = 8 := by rw [← hD, List.length_take]; omega
  have c1 : s.take 4 = D.take 4 := by rw [← hD, List.take_take]; rfl
  have c2 : (s.take 6).drop 4 = (D.drop 4).take 2 := by rw [← hD, List.take_drop, List.take_take]; rfl
  have hDg := fn_digits D (by omega)
  have hn1 := fun h => fn_dnumber (D.take 4) (by rw [List.length_take]; omega) (all_take h 4)
  have hn2 := fun h => fn_dnumber ((D.drop 4).take 2) (by rw [List.length_take]; omega) (all_take (all_drop h 4) 2)
  have hn3 := fun h => fn_dnumber (D.drop 6) (by rw [List.length_drop]; omega) (all_drop h 6)
  obtain ⟨T, hT⟩ : ∃ T, (s.take 15).drop 9 = T := ⟨_, rfl⟩
  have hT' : (s.drop 9).take 6 = T := by rw [← hT, List.drop_take]
  have t1 : (s.take 11).drop 9 = T.take 2 := by rw [← hT, List.take_drop, List.take_take]; rfl
  have t2 : (s.take 13).drop 11 = (T.drop 2).take 2 := by rw [← hT, List.drop_drop, List.take_drop, List.take_take]; rfl
  have t3 : (s.take 15).drop 13 = T.drop 4 := by rw [← hT, List.drop_drop]
  rw [hD] at hR
  have hs1 : ∀ h : D.all dig = true, valD 0 (D.take 4) < 10000 ∧ valD 0 ((D.drop 4).take 2) < 100 ∧ valD 0 (D.drop 6) < 100 := fun h =>
   ⟨val4 (all_take h 4) (by rw [List.length_take]; omega), val2 (all_take (all_drop h 4) 2) (by rw [List.length_take]; omega), val2 (all_drop h 6) (by rw [List.length_drop]; omega)⟩
  obtain ⟨y, hy⟩ : ∃ y, valD 0 (D.take 4) = y := ⟨_, rfl⟩
  obtain ⟨m, hmv⟩ : ∃ m, valD 0 ((D.drop 4).take 2) = m := ⟨_, rfl⟩
  obtain ⟨d, hdv⟩ : ∃ d, valD 0 (D.drop 6) = d := ⟨_, rfl⟩
  obtain ⟨h, hh⟩ : ∃ h, valD 0 (T.take 2) = h := ⟨_, rfl⟩
  obtain ⟨mi, hmi⟩ : ∃ mi, valD 0 ((T.drop 2).take 2) = mi := ⟨_, rfl⟩
  obtain ⟨se, hse⟩ : ∃ se, valD 0 (T.drop 4) = se := ⟨_, rfl⟩
  have hfine : fine D T = (isDate y m d && decide (h ≤ 23 ∧ mi ≤ 59 ∧ se ≤ 59)) := by unfold fine; rw [hy, hmv, hdv, hh, hmi, hse]
  have hsec : secs D T = dayN y m d * 86400 + (h * 3600 + mi * 60 + se) := by unfold secs; rw [hy, hmv, hdv, hh, hmi, hse]
  have hdl : isDate y m d = true → y < 10000 → dayN y m d ≤ 3652058 := fun q4 hb => by
   simp only [isDate, decide_eq_true_eq] at q4
   exact day_le q4.1 (by omega) q4.2.1 q4.2.2.1 q4.2.2.2.1 q4.2.2.2.2
  have hDy := fun (a : y < 10000) (b : m < 100) (c : d < 100) => fn_dDay y m d (by omega) (by omega) (by omega)
  rw [hy] at hn1 hs1
  rw [hmv] at hn2 hs1
  rw [hdv] at hn3 hs1
  by_cases L8 : s.length = 8
  ·have hk1 : momK s = 1 := by omega
   have hz : timeS s = [48, 48, 48, 48, 48, 48] := by unfold timeS; rw [if_pos hk1]
   have hf8 : fine D [48, 48, 48, 48, 48, 48] = isDate y m d := by
    unfold fine
    rw [hy, hmv, hdv]
    show (isDate y m d && true) = _
    rw [Bool.and_true]
   have hs8 : secs D [48, 48, 48, 48, 48, 48] = dayN y m d * 86400 := by
    unfold secs
    rw [hy, hmv, hdv]
    show dayN y m d * 86400 + 0 = _
    omega
   rw [hz, hk1, hf8, hs8] at hR
   simp (disch := omega) [Go.Vs.wl, L8, hD]
   refine callW_imm hDg ?_
   by_cases q1 : D.all dig = true
   ·rw [if_neg (by rw [q1]; decide)] at hR
    rw [q1]
    obtain ⟨b1, b2, b3⟩ := hs1 q1
    have hn1 := hn1 q1
    have hn2 := hn2 q1
    have hn3 := hn3 q1
    have hDy := hDy b1 b2 b3
    rw [day_is (by omega)] at hDy
    simp (disch := omega) [Go.Vs.wl, L8, c1]
    refine callW_imm hn1 ?_
    simp (disch := omega) [Go.Vs.wl, L8, c2]
    refine callW_imm hn2 ?_
    simp (disch := omega) [Go.Vs.wl, L8, hD]
    refine callW_imm hn3 ?_
    simp (disch := omega) [Go.Vs.wl]
    refine callW_imm hDy ?_
    by_cases q3 : isDate y m d = true
    ·have hdl := hdl q3 b1
     rw [q3, if_neg (by decide)] at hR
     obtain ⟨N, hN⟩ : ∃ N, dayN y m d = N := ⟨_, rfl⟩
     rw [if_pos q3]
     rw [hN] at hdl hR ⊢
     subst hR
     simp (disch := omega) [Go.Vs.wl, dayOI]
     refine ⟨rfl, ?_⟩
     simp (disch := omega) [Go.Vs.wl, moI]
    ·have q3' : isDate y m d = false := by simpa using q3
     rw [q3', if_pos rfl] at hR
     subst hR
     rw [if_neg q3]
     simp (disch := omega) [Go.Vs.wl, dayOI]
     refine ⟨rfl, ?_⟩
     simp (disch := omega) [Go.Vs.wl, moI]
   ·have q1' : D.all dig = false := by simpa using q1
    rw [q1', if_pos (.inr (.inl rfl))] at hR
    subst hR
    rw [q1']
    simp (disch := omega) [Go.Vs.wl, moI]
  by_cases L15 : s.length = 15
  ·have hTd := fn_digits T (by rw [← hT, List.length_drop, List.length_take]; omega)
   have lT : T.length = 6 := by rw [← hT, List.length_drop, List.length_take]; omega
   have hm1 := fun h => fn_dnumber (T.take 2) (by rw [List.length_take]; omega) (all_take h 2)
   have hm2 := fun h => fn_dnumber ((T.drop 2).take 2) (by rw [List.length_take]; omega) (all_take (all_drop h 2) 2)
   have hm3 := fun h => fn_dnumber (T.drop 4) (by rw [List.length_drop]; omega) (all_drop h 4)
   have hs2 : ∀ h : T.all dig = true, valD 0 (T.take 2) < 100 ∧ valD 0 ((T.drop 2).take 2) < 100 ∧ valD 0 (T.drop 4) < 100 := fun h =>
    ⟨val2 (all_take h 2) (by rw [List.length_take]; omega), val2 (all_take (all_drop h 2) 2) (by rw [List.length_take]; omega), val2 (all_drop h 4) (by rw [List.length_drop]; omega)⟩
   rw [hh] at hm1 hs2
   rw [hmi] at hm2 hs2
   rw [hse] at hm3 hs2
   by_cases hok : momK s = 2
   ·have g8 : s[8]? = some 84 := by rcases hk with ⟨a, b⟩ | ⟨a, b, c⟩ | ⟨a, b, c⟩ | ⟨a, b⟩ <;> first | exact c | omega
    have j8 : 8 < s.length := by omega
    have hgood : (s[8]'j8).toNat = 84 := (get_nat j8).1 g8
    have hz : timeS s = T := by unfold timeS; rw [if_neg (by omega), hT']
    rw [hz, hok, hfine, hsec] at hR
    simp (disch := omega) [Go.Vs.wl, L15, hgood, hD]
    refine callW_imm hDg ?_
    by_cases q1 : D.all dig = true
    ·rw [q1]
     obtain ⟨b1, b2, b3⟩ := hs1 q1
     have hn1 := hn1 q1
     have hn2 := hn2 q1
     have hn3 := hn3 q1
     have hDy := hDy b1 b2 b3
     rw [day_is (by omega)] at hDy
     simp (disch := omega) [Go.Vs.wl, L15, hgood, hT]
     refine callW_imm hTd ?_
     by_cases q2 : T.all dig = true
     ·rw [if_neg (by rw [q1, q2]; decide)] at hR
      rw [q2]
      obtain ⟨b4, b5, b6⟩ := hs2 q2
      have hm1 := hm1 q2
      have hm2 := hm2 q2
      have hm3 := hm3 q2
      simp (disch := omega) [Go.Vs.wl, L15, c1]
      refine callW_imm hn1 ?_
      simp (disch := omega) [Go.Vs.wl, L15, c2]
      refine callW_imm hn2 ?_
      simp (disch := omega) [Go.Vs.wl, L15, hD]
      refine callW_imm hn3 ?_
      simp (disch := omega) [Go.Vs.wl]
      refine callW_imm hDy ?_
      by_cases q3 : isDate y m d = true
      ·have hdl := hdl q3 b1
       rw [q3, Bool.true_and] at hR
       obtain ⟨N, hN⟩ : ∃ N, dayN y m d = N := ⟨_, rfl⟩
       rw [if_pos q3]
       rw [hN] at hdl hR ⊢
       simp (disch := omega) [Go.Vs.wl, dayOI]
       refine ⟨rfl, ?_⟩
       simp (disch := omega) [Go.Vs.wl, L15, t1]
       refine callW_imm hm1 ?_
       simp (disch := omega) [Go.Vs.wl, L15, t2]
       refine callW_imm hm2 ?_
       simp (disch := omega) [Go.Vs.wl, L15, t3]
       refine callW_imm hm3 ?_
       by_cases a1 : 23 < h
       ·rw [if_pos (by simp; omega)] at hR
        subst hR
        simp (disch := omega) [Go.Vs.wl]
        refine ⟨rfl, ?_⟩
        simp (disch := omega) [Go.Vs.wl, moI]
       ·by_cases a2 : 59 < mi
        ·rw [if_pos (by simp; omega)] at hR
         subst hR
         simp (disch := omega) [Go.Vs.wl]
         refine ⟨rfl, ?_⟩
         simp (disch := omega) [Go.Vs.wl, moI]
        ·by_cases a3 : 59 < se
         ·rw [if_pos (by simp; omega)] at hR
          subst hR
          simp (disch := omega) [Go.Vs.wl]
          refine ⟨rfl, ?_⟩
          simp (disch := omega) [Go.Vs.wl, moI]
         ·rw [if_neg (by simp; omega)] at hR
          subst hR
          simp (disch := omega) [Go.Vs.wl]
          refine ⟨rfl, ?_⟩
          simp (disch := omega) [Go.Vs.wl, moI]
          omega
      ·have q3' : isDate y m d = false := by simpa using q3
       rw [q3', Bool.false_and, if_pos rfl] at hR
       subst hR
       rw [if_neg q3]
       simp (disch := omega) [Go.Vs.wl, dayOI]
       refine ⟨rfl, ?_⟩
       simp (disch := omega) [Go.Vs.wl, moI]
     ·have q2' : T.all dig = false := by simpa using q2
      rw [q2', if_pos (.inr (.inr rfl))] at hR
      subst hR
      rw [q2']
      simp (disch := omega) [Go.Vs.wl, moI]
    ·have q1' : D.all dig = false := by simpa using q1
     rw [q1', if_pos (.inr (.inl rfl))] at hR
     subst hR
     rw [q1']
     simp (disch := omega) [Go.Vs.wl, moI]
   ·have h0 : momK s = 0 := by omega
    rw [if_pos (.inl h0)] at hR
    subst hR
    have hT8 : ¬ (s[8]'(by omega)).toNat = 84 := fun e => by rcases hk with ⟨a, b⟩ | ⟨a, b, c⟩ | ⟨a, b, c⟩ | ⟨a, b, c, f⟩ <;> first | omega | exact c ⟨L15, (get_nat (by omega)).2 e⟩
    simp (disch := omega) [Go.Vs.wl, L15, hD]
    refine callW_imm hDg ?_
    cases D.all dig with
    | false => simp (disch := omega) [Go.Vs.wl, moI]
    | true => simp (disch := omega) [Go.Vs.wl, L15, hT8, moI]
  ·have L16 : s.length = 16 := by omega
   have hTd := fn_digits T (by rw [← hT, List.length_drop, List.length_take]; omega)
   have lT : T.length = 6 := by rw [← hT, List.length_drop, List.length_take]; omega
   have hm1 := fun h => fn_dnumber (T.take 2) (by rw [List.length_take]; omega) (all_take h 2)
   have hm2 := fun h => fn_dnumber ((T.drop 2).take 2) (by rw [List.length_take]; omega) (all_take (all_drop h 2) 2)
   have hm3 := fun h => fn_dnumber (T.drop 4) (by rw [List.length_drop]; omega) (all_drop h 4)
   have hs2 : ∀ h : T.all dig = true, valD 0 (T.take 2) < 100 ∧ valD 0 ((T.drop 2).take 2) < 100 ∧ valD 0 (T.drop 4) < 100 := fun h =>
    ⟨val2 (all_take h 2) (by rw [List.length_take]; omega), val2 (all_take (all_drop h 2) 2) (by rw [List.length_take]; omega), val2 (all_drop h 4) (by rw [List.length_drop]; omega)⟩
   rw [hh] at hm1 hs2
   rw [hmi] at hm2 hs2
   rw [hse] at hm3 hs2
   by_cases hok : momK s = 3
   ·have g8 : s[8]? = some 84 ∧ s[15]? = some 90 := by rcases hk with ⟨a, b⟩ | ⟨a, b, c⟩ | ⟨a, b, c⟩ | ⟨a, b⟩ <;> first | exact c | omega
    have j8 : 8 < s.length := by omega
    have j15 : 15 < s.length := by omega
    have hgood : (s[8]'j8).toNat = 84 := (get_nat j8).1 g8.1
    have hgood2 : (s[15]'j15).toNat = 90 := (get_nat j15).1 g8.2
    have hz : timeS s = T := by unfold timeS; rw [if_neg (by omega), hT']
    rw [hz, hok, hfine, hsec] at hR
    simp (disch := omega) [Go.Vs.wl, L16, hgood, hgood2, hD]
    refine callW_imm hDg ?_
    by_cases q1 : D.all dig = true
    ·rw [q1]
     obtain ⟨b1, b2, b3⟩ := hs1 q1
     have hn1 := hn1 q1
     have hn2 := hn2 q1
     have hn3 := hn3 q1
     have hDy := hDy b1 b2 b3
     rw [day_is (by omega)] at hDy
     simp (disch := omega) [Go.Vs.wl, L16, hgood, hgood2, hT]
     refine callW_imm hTd ?_
     by_cases q2 : T.all dig = true
     ·rw [if_neg (by rw [q1, q2]; decide)] at hR
      rw [q2]
      obtain ⟨b4, b5, b6⟩ := hs2 q2
      have hm1 := hm1 q2
      have hm2 := hm2 q2
      have hm3 := hm3 q2
      simp (disch := omega) [Go.Vs.wl, L16, c1]
      refine callW_imm hn1 ?_
      simp (disch := omega) [Go.Vs.wl, L16, c2]
      refine callW_imm hn2 ?_
      simp (disch := omega) [Go.Vs.wl, L16, hD]
      refine callW_imm hn3 ?_
      simp (disch := omega) [Go.Vs.wl]
      refine callW_imm hDy ?_
      by_cases q3 : isDate y m d = true
      ·have hdl := hdl q3 b1
       rw [q3, Bool.true_and] at hR
       obtain ⟨N, hN⟩ : ∃ N, dayN y m d = N := ⟨_, rfl⟩
       rw [if_pos q3]
       rw [hN] at hdl hR ⊢
       simp (disch := omega) [Go.Vs.wl, dayOI]
       refine ⟨rfl, ?_⟩
       simp (disch := omega) [Go.Vs.wl, L16, t1]
       refine callW_imm hm1 ?_
       simp (disch := omega) [Go.Vs.wl, L16, t2]
       refine callW_imm hm2 ?_
       simp (disch := omega) [Go.Vs.wl, L16, t3]
       refine callW_imm hm3 ?_
       by_cases a1 : 23 < h
       ·rw [if_pos (by simp; omega)] at hR
        subst hR
        simp (disch := omega) [Go.Vs.wl]
        refine ⟨rfl, ?_⟩
        simp (disch := omega) [Go.Vs.wl, moI]
       ·by_cases a2 : 59 < mi
        ·rw [if_pos (by simp; omega)] at hR
         subst hR
         simp (disch := omega) [Go.Vs.wl]
         refine ⟨rfl, ?_⟩
         simp (disch := omega) [Go.Vs.wl, moI]
        ·by_cases a3 : 59 < se
         ·rw [if_pos (by simp; omega)] at hR
          subst hR
          simp (disch := omega) [Go.Vs.wl]
          refine ⟨rfl, ?_⟩
          simp (disch := omega) [Go.Vs.wl, moI]
         ·rw [if_neg (by simp; omega)] at hR
          subst hR
          simp (disch := omega) [Go.Vs.wl]
          refine ⟨rfl, ?_⟩
          simp (disch := omega) [Go.Vs.wl, moI]
          omega
      ·have q3' : isDate y m d = false := by simpa using q3
       rw [q3', Bool.false_and, if_pos rfl] at hR
       subst hR
       rw [if_neg q3]
       simp (disch := omega) [Go.Vs.wl, dayOI]
       refine ⟨rfl, ?_⟩
       simp (disch := omega) [Go.Vs.wl, moI]
     ·have q2' : T.all dig = false := by simpa using q2
      rw [q2', if_pos (.inr (.inr rfl))] at hR
      subst hR
      rw [q2']
      simp (disch := omega) [Go.Vs.wl, moI]
    ·have q1' : D.all dig = false := by simpa using q1
     rw [q1', if_pos (.inr (.inl rfl))] at hR
     subst hR
     rw [q1']
     simp (disch := omega) [Go.Vs.wl, moI]
   ·have h0 : momK s = 0 := by omega
    rw [if_pos (.inl h0)] at hR
    subst hR
    by_cases hZ : (s[15]'(by omega)).toNat = 90
    ·have hT8 : ¬ (s[8]'(by omega)).toNat = 84 := fun e => by rcases hk with ⟨a, b⟩ | ⟨a, b, c⟩ | ⟨a, b, c⟩ | ⟨a, b, c, f⟩ <;> first | omega | exact f ⟨L16, (get_nat (by omega)).2 e, (get_nat (by omega)).2 hZ⟩
     simp (disch := omega) [Go.Vs.wl, L16, hZ, hD]
     refine callW_imm hDg ?_
     cases D.all dig with
     | false => simp (disch := omega) [Go.Vs.wl, moI]
     | true => simp (disch := omega) [Go.Vs.wl, L16, hT8, moI]
    ·simp (disch := omega) [Go.Vs.wl, L16, hZ, moI]
 ·have h0 : momK s = 0 := by omega
  rw [if_pos (.inl h0)] at hR
  subst hR
  have n8 : ¬ s.length = 8 := by omega
  have n15 : ¬ s.length = 15 := by omega
  have n16 : ¬ s.length = 16 := by omega
  simp (disch := omega) [Go.Vs.wl, n8, n15, n16, moI]
end Go.Vs.YtbchceojmblkkaaGreatDoor.Rc
namespace Go.Vs.YtbchceojmblkkaaGreatDoor.Rc
set_option linter.unusedSimpArgs false
set_option linter.unusedVariables false
open Go.Proofs Go.Vs.Cv Go.Vs.Mo Go.Vs.Nu
set_option maxRecDepth 100000
set_option maxHeartbeats 16000000
theorem wide_cons : ∀ (k n : Nat), wide (k + 1) n = UInt8.ofNat (48 + n / 10 ^ k % 10) :: wide k n
 | 0, n => by simp [wide]
 | k + 1, n => by
  rw [wide, wide_cons k (n / 10), wide]
  simp only [List.cons_append, Nat.pow_succ]
  rw [Nat.div_div_eq_div_mul, Nat.mul_comm 10]
def dv (n k : Nat) : Nat := n / 10 ^ k
def zs (k : Nat) : Str := List.replicate k 48
def layS (x : Str) (w n k : Nat) : Str := x ++ (zs (w - k) ++ wide k n)
theorem layS_len (x : Str) {w k : Nat} (n : Nat) (h : k ≤ w) : (layS x w n k).length = x.length + w := by simp [layS, zs, wide_len]; omega
theorem layS_zero (x : Str) (w n : Nat) : layS x w n 0 = x ++ zs w := by simp [layS, wide]
theorem layS_end (x : Str) (w n : Nat) : layS x w n w = x ++ wide w n := by simp [layS, zs]
theorem layS_set (x : Str) {w k : Nat} (n : Nat) (h : k < w) : (layS x w n k).set (x.length + w - 1 - k) (UInt8.ofNat (48 + n / 10 ^ k % 10)) = layS x w n (k + 1) := by
 obtain ⟨j, hj⟩ : ∃ j, w - k = j + 1 := ⟨w - k - 1, by omega⟩
 have e1 : x.length + w - 1 - k = x.length + j := by omega
 have e2 : w - (k + 1) = j := by omega
 unfold layS
 rw [e1, e2, hj, wide_cons, zs, List.replicate_succ', List.append_assoc, List.set_append_right _ _ (by omega), Nat.add_sub_cancel_left, List.set_append_right _ _ (by simp)]
 simp [zs]
theorem fnM_lay (v : Nat) (x : Str) (n w : Nat) (hx : x.length < 100) (hw : w ≤ 4) (hn : n < 1000000) : FnM G2 Tryz.prog k_moment_lay
  { args := [.own 1000 v, .val (.int .i64 n), .val (.int .i64 w)], objs := [(1000, .arr v 1 (byteRows x))], res := .own 1000 (v + 1), objs' := [(1000, .arr (v + 1) 1 (byteRows (x ++ wide w n)))], ro' := [] } := by
 refine fnM_intro hm ok_moment_lay (by simp) rfl ?_
 have hz : ([48, 48, 48, 48] : Str).take w = zs w := by
  have : w = 0 ∨ w = 1 ∨ w = 2 ∨ w = 3 ∨ w = 4 := by omega
  rcases this with rfl | rfl | rfl | rfl | rfl <;> rfl
 have hl : (byteRows x).length = x.length := by simp [byteRows]
 simp [c_moment_lay, r_moment_lay, stM, hz, hl]
 refine cut_not hm ?_
 simp [hz, hl]
 refine ⟨by omega, by simp [zs]; omega, ?_⟩
 simp (disch := omega) [Go.Vs.wl, ← byteRows_append]
 refine loopU hm [] (fun k : Nat => [(8, .val (.int .i64 ((x.length : Int) + w - 1 - k))), (0, .own 1000 (v + 1)), (1, .val (.int .i64 ((dv n k : Nat) : Int)))]) (fun k => [(1000, .arr (v + 1) 1 (byteRows (layS x w n k)))]) (fun k => k ≤ w) (fun k => w - k) 0 (by omega) ?_ ?_
 ·simp [layS_zero, dv]
  exact wdr
 intro k hk
 have hbl : (byteRows (layS x w n k)).length = x.length + w := by simp [byteRows, layS_len x n hk]
 simp
 by_cases h : k < w
 ·have hset := layS_set x n h
  obtain ⟨V, hV⟩ : ∃ V, dv n k = V := ⟨_, rfl⟩
  have hV' : dv n (k + 1) = V / 10 := by rw [← hV, dv, dv, Nat.pow_succ, Nat.div_div_eq_div_mul]
  have hVb : V ≤ n := hV ▸ Nat.div_le_self _ _
  rw [show n / 10 ^ k = V from hV] at hset
  have q1 : (V : Int).tdiv 10 = ((V / 10 : Nat) : Int) := by rw [Int.tdiv_eq_ediv_of_nonneg (by omega)]; omega
  have m1 : (V : Int).tmod 10 = ((V % 10 : Nat) : Int) := by rw [Int.tmod_eq_emod_of_nonneg (by omega)]; omega
  have hki : (k : Int) ≤ (x.length : Int) + w - 1 := by omega
  have ht : ((x.length : Int) + w).toNat = x.length + w := by omega
  have hu8 : (((UInt8.ofNat (48 + V % 10)).toNat : Nat) : Int) = 48 + (V : Int) % 10 := by
   have : (UInt8.ofNat (48 + V % 10)).toNat = 48 + V % 10 := by simp; omega
   omega
  have hset2 : (byteRows (layS x w n k)).set (x.length + w - 1 - k) [.int .u8 (48 + (V : Int) % 10)] = byteRows (layS x w n (k + 1)) := by
   rw [← hset, ← hu8]
   simp only [byteRows, List.map_set]
  have htl : ∀ hh, ((byteRows (layS x w n k))[x.length + w - 1 - k]'hh).tail = [] := fun hh => by simp [byteRows]
  simp (disch := omega) [Go.Vs.wl, hbl, hV, q1, m1, hki, ht]
  refine ⟨by omega, by simp [byteRows], ?_⟩
  simp only [htl, hset2]
  refine loopEnd (k + 1) (by omega) (by omega) ?_
  simp [hV']
  exact weak_drop rfl rfl (by simp [EnvLe, getE, look]; omega) (by simp [ObLe, look]) (by simp [roOk])
 ·obtain rfl : k = w := by omega
  simp (disch := omega) [Go.Vs.wl, hbl, layS_end]
  simp [fnPostM]
  exact ⟨⟨[(6, .own 1000 (v + 1))], [(1000, .arr (v + 1) 1 (byteRows (x ++ wide k n)))], [], 34, G2⟩, weak_drop rfl rfl (by simp [EnvLe, getE, look]) (by simp [ObLe, look]) (by simp [roOk]), by simp, [], rfl, rfl, rfl⟩
theorem fnM_lay0 (n w : Nat) (hw : w ≤ 4) (hn : n < 1000000) : FnM G2 Tryz.prog k_moment_lay
  { args := [.nils, .val (.int .i64 n), .val (.int .i64 w)], objs := [], res := .own 5 1, objs' := [(5, .arr 1 1 (byteRows (wide w n)))], ro' := [] } := by
 refine fnM_intro hm ok_moment_lay (by simp) rfl ?_
 have hz : ([48, 48, 48, 48] : Str).take w = zs w := by
  have : w = 0 ∨ w = 1 ∨ w = 2 ∨ w = 3 ∨ w = 4 := by omega
  rcases this with rfl | rfl | rfl | rfl | rfl <;> rfl
 simp [c_moment_lay, r_moment_lay, stM, hz]
 refine cutW hm (fun _ : Unit => ⟨[(0, .own 5 0), (6, .nils), (1, .val (.int .i64 n)), (2, .val (.int .i64 w))], [(5, .arr 0 1 [])], [], 34, G2⟩) (fun _ => True) (fun _ => rfl) ?_ ?_
 ·simp
  refine joinEnd () trivial ?_
  exact Weak.trans (weak_adopt (k := 0) 5 1 (by simp) (by simp [getE, look])) (weak_drop rfl rfl (by simp [St.adopt, EnvLe, getE, look, put, eraseE, SV.erase]) (by simp [St.adopt, ObLe, look, put, eraseO, Ob.erase]) (by simp [St.adopt, roOk]))
 intro _ _
 simp [hz]
 refine ⟨by omega, by simp [zs]; omega, ?_⟩
 simp (disch := omega) [Go.Vs.wl]
 refine loopU hm [] (fun k : Nat => [(8, .val (.int .i64 ((w : Int) - 1 - k))), (0, .own 5 1), (1, .val (.int .i64 ((dv n k : Nat) : Int)))]) (fun k => [(5, .arr 1 1 (byteRows (layS [] w n k)))]) (fun k => k ≤ w) (fun k => w - k) 0 (by omega) ?_ ?_
 ·simp [layS_zero, dv]
  exact wdr
 intro k hk
 have hbl : (byteRows (layS [] w n k)).length = w := by simp [byteRows, layS_len [] n hk]
 simp
 by_cases h : k < w
 ·have hset := layS_set [] n h
  obtain ⟨V, hV⟩ : ∃ V, dv n k = V := ⟨_, rfl⟩
  have hV' : dv n (k + 1) = V / 10 := by rw [← hV, dv, dv, Nat.pow_succ, Nat.div_div_eq_div_mul]
  have hVb : V ≤ n := hV ▸ Nat.div_le_self _ _
  rw [show n / 10 ^ k = V from hV, show ([] : Str).length + w - 1 - k = w - 1 - k by simp] at hset
  have q1 : (V : Int).tdiv 10 = ((V / 10 : Nat) : Int) := by rw [Int.tdiv_eq_ediv_of_nonneg (by omega)]; omega
  have m1 : (V : Int).tmod 10 = ((V % 10 : Nat) : Int) := by rw [Int.tmod_eq_emod_of_nonneg (by omega)]; omega
  have hki : (k : Int) ≤ (w : Int) - 1 := by omega
  have ht : ((w : Int)).toNat = w := by omega
  have hu8 : (((UInt8.ofNat (48 + V % 10)).toNat : Nat) : Int) = 48 + (V : Int) % 10 := by
   have : (UInt8.ofNat (48 + V % 10)).toNat = 48 + V % 10 := by simp; omega
   omega
  have hset2 : (byteRows (layS [] w n k)).set (w - 1 - k) [.int .u8 (48 + (V : Int) % 10)] = byteRows (layS [] w n (k + 1)) := by
   rw [← hset, ← hu8]
   simp only [byteRows, List.map_set]
  have htl : ∀ hh, ((byteRows (layS [] w n k))[w - 1 - k]'hh).tail = [] := fun hh => by simp [byteRows]
  simp (disch := omega) [Go.Vs.wl, hbl, hV, q1, m1, hki, ht]
  refine ⟨by omega, by simp [byteRows], ?_⟩
  simp only [htl, hset2]
  refine loopEnd (k + 1) (by omega) (by omega) ?_
  simp [hV']
  exact weak_drop rfl rfl (by simp [EnvLe, getE, look]; omega) (by simp [ObLe, look]) (by simp [roOk])
 ·obtain rfl : k = w := by omega
  simp (disch := omega) [Go.Vs.wl, hbl, layS_end]
  simp [fnPostM]
  exact ⟨⟨[(6, .own 5 1)], [(5, .arr 1 1 (byteRows (wide k n)))], [], 34, G2⟩, weak_drop rfl rfl (by simp [EnvLe, getE, look]) (by simp [ObLe, look]) (by simp [roOk]), by simp, [], rfl, rfl, rfl⟩

def prMI (v : Mom) : IV := .tuple [.str (if momC v = 0 then momT v else []), .int .i64 (momC v)]
theorem fn_mPrint (v : Mom) (hk : 0 ≤ v.k) : Fn G2 Tryz.prog k_moment_Print [moI v] (prMI v) := by
 refine fn_intro hm ok_moment_Print (by simp) ?_
 have hC := fn_mCheck v hk
 obtain ⟨e, he⟩ : ∃ e, momC v = e := ⟨_, rfl⟩
 unfold prMI
 rw [he] at hC ⊢
 simp [c_moment_Print, r_moment_Print]
 by_cases h0 : e = 0
 ·rw [if_pos h0]
  subst h0
  obtain ⟨b1, b2, b3, b4, b5⟩ := momC_zero he
  have hS := fn_Split' v hk he
  obtain ⟨N, hN⟩ : ∃ N, (v.s / 86400).toNat = N := ⟨_, rfl⟩
  obtain ⟨T, hT⟩ : ∃ T, (v.s % 86400).toNat = T := ⟨_, rfl⟩
  have eN : v.s / 86400 = (N : Int) := by omega
  have eT : v.s % 86400 = (T : Int) := by omega
  have hD := fn_Date N (by omega)
  obtain ⟨y, m, d, g1, g2, g3, g4, g5, g6, g7, g8⟩ := day_date (n := N) (by omega)
  have hml : mlen y m ≤ 31 := by
   unfold mlen ylen
   repeat' split
   all_goals omega
  have hM : momT v = (wide 4 y ++ wide 2 m ++ wide 2 d) ++ (if v.k = 1 then [] else 84 :: ((wide 2 (T / 3600) ++ (wide 2 (T / 60 % 60) ++ wide 2 (T % 60))) ++ if v.k = 3 then [90] else [])) := by
   unfold momT Mo.dayT timeT
   rw [hN, hT, g8]
   simp only [List.append_assoc]
  rw [eN, eT] at hS
  rw [g8] at hD
  have l1 := wide_len 4 y
  have l2 := wide_len 2 m
  have l3 := wide_len 2 d
  unfold moI at hC hS ⊢
  simp (disch := omega) [Go.Vs.wl]
  refine callW_imm hC ?_
  simp (disch := omega) [Go.Vs.wl]
  refine callW_imm hS ?_
  simp (disch := omega) [Go.Vs.wl]
  refine callW_imm hD ?_
  simp (disch := omega) [Go.Vs.wl]
  refine callM [(5, 33)] [] (fnM_lay0 y 4 (by omega) (by omega)) rfl rfl trivial ⟨rfl, [], [], rfl, ⟨[], [], rfl, rfl, rfl⟩, rfl⟩ rfl ?_
  simp (disch := omega) [Go.Vs.wl]
  refine callM [(1000, 33)] [] (fnM_lay 1 (wide 4 y) m 2 (by omega) (by omega) (by omega)) rfl rfl ⟨rfl, trivial⟩ ⟨rfl, [], [], rfl, ⟨[], [], rfl, rfl, rfl⟩, rfl⟩ rfl ?_
  simp (disch := omega) [Go.Vs.wl]
  have lp : (wide 4 y ++ wide 2 m).length = 6 := by simp [l1, l2]
  refine callM [(1000, 33)] [] (fnM_lay 2 (wide 4 y ++ wide 2 m) d 2 (by omega) (by omega) (by omega)) rfl rfl ⟨rfl, trivial⟩ ⟨rfl, [], [], rfl, ⟨[], [], rfl, rfl, rfl⟩, rfl⟩ rfl ?_
  obtain ⟨P, hP⟩ : ∃ P, wide 4 y ++ wide 2 m ++ wide 2 d = P := ⟨_, rfl⟩
  have lP : P.length = 8 := by rw [← hP]; simp [l1, l2, l3]
  rw [hP] at hM ⊢
  rw [hM]
  have hbP : (byteRows P).length = 8 := by simp [byteRows, lP]
  by_cases k1 : v.k = 1
  ·rw [if_pos k1, List.append_nil]
   have hstr : bytesOf (byteRows P) = some P := bytesOf_rows P
   simp (disch := omega) [Go.Vs.wl, k1, hstr]
  ·rw [if_neg k1]
   obtain ⟨P1, hP1⟩ : ∃ P1, P ++ [84] = P1 := ⟨_, rfl⟩
   have h84 : byteRows P ++ [[.int .u8 84]] = byteRows P1 := by rw [← hP1]; simp [byteRows]
   have q1 : (T : Int).tdiv 3600 = ((T / 3600 : Nat) : Int) := by rw [Int.tdiv_eq_ediv_of_nonneg (by omega)]; omega
   have q2 : (T : Int).tdiv 60 = (T : Int) / 60 := by rw [Int.tdiv_eq_ediv_of_nonneg (by omega)]
   have q3 : ((T : Int) / 60).tmod 60 = ((T / 60 % 60 : Nat) : Int) := by rw [Int.tmod_eq_emod_of_nonneg (by omega)]; omega
   have q4 : (T : Int).tmod 60 = ((T % 60 : Nat) : Int) := by rw [Int.tmod_eq_emod_of_nonneg (by omega)]; omega
   obtain ⟨A, hA⟩ : ∃ A, T / 3600 = A := ⟨_, rfl⟩
   obtain ⟨B, hB⟩ : ∃ B, T / 60 % 60 = B := ⟨_, rfl⟩
   obtain ⟨D, hD'⟩ : ∃ D, T % 60 = D := ⟨_, rfl⟩
   rw [hA] at q1
   rw [hB] at q3
   rw [hD'] at q4
   rw [hA, hB, hD']
   have a2 := wide_len 2 A
   have a3 := wide_len 2 B
   have a4 := wide_len 2 D
   simp (disch := omega) [Go.Vs.wl, k1, hbP, h84, q1]
   have l4 : P1.length = 9 := by rw [← hP1]; simp [lP]
   refine callM [(1000, 33)] [] (fnM_lay 4 P1 A 2 (by omega) (by omega) (by omega)) rfl rfl ⟨rfl, trivial⟩ ⟨rfl, [], [], rfl, ⟨[], [], rfl, rfl, rfl⟩, rfl⟩ rfl ?_
   obtain ⟨P2, hP2⟩ : ∃ P2, P1 ++ wide 2 A = P2 := ⟨_, rfl⟩
   have l5 : P2.length = 11 := by rw [← hP2]; simp [l4, a2]
   rw [hP2]
   simp (disch := omega) [Go.Vs.wl, q2, q3]
   refine callM [(1000, 33)] [] (fnM_lay 5 P2 B 2 (by omega) (by omega) (by omega)) rfl rfl ⟨rfl, trivial⟩ ⟨rfl, [], [], rfl, ⟨[], [], rfl, rfl, rfl⟩, rfl⟩ rfl ?_
   obtain ⟨P3, hP3⟩ : ∃ P3, P2 ++ wide 2 B = P3 := ⟨_, rfl⟩
   have l6 : P3.length = 13 := by rw [← hP3]; simp [l5, a3]
   rw [hP3]
   simp (disch := omega) [Go.Vs.wl, q4]
   refine callM [(1000, 33)] [] (fnM_lay 6 P3 D 2 (by omega) (by omega) (by omega)) rfl rfl ⟨rfl, trivial⟩ ⟨rfl, [], [], rfl, ⟨[], [], rfl, rfl, rfl⟩, rfl⟩ rfl ?_
   obtain ⟨R, hR⟩ : ∃ R, P3 ++ wide 2 D = R := ⟨_, rfl⟩
   have lR : R.length = 15 := by rw [← hR]; simp [l6, a4]
   have hT2 : P ++ 84 :: ((wide 2 A ++ (wide 2 B ++ wide 2 D)) ++ if v.k = 3 then [90] else []) = R ++ if v.k = 3 then [90] else [] := by rw [← hR, ← hP3, ← hP2, ← hP1]; simp
   rw [hT2, hR]
   have hbR : (byteRows R).length = 15 := by simp [byteRows, lR]
   by_cases k3 : v.k = 3
   ·have h90 : byteRows R ++ [[.int .u8 90]] = byteRows (R ++ [90]) := by simp [byteRows]
    have hstr : bytesOf (byteRows (R ++ [90])) = some (R ++ [90]) := bytesOf_rows (R ++ [90])
    simp (disch := omega) [Go.Vs.wl, k3, hbR, h90, hstr]
   ·have hstr : bytesOf (byteRows R) = some R := bytesOf_rows R
    simp (disch := omega) [Go.Vs.wl, k3, hbR, hstr]
 ·rw [if_neg h0]
  unfold moI at hC ⊢
  simp (disch := omega) [Go.Vs.wl]
  refine callW_imm hC ?_
  simp (disch := omega) [Go.Vs.wl, h0]
end Go.Vs.YtbchceojmblkkaaGreatDoor.Rc
