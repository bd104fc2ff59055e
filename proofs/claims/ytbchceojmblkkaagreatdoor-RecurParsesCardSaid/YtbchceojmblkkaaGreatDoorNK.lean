/- The walk of nums: how the program prints numbers and weekdays; how the document reads weekdays. No conditions. -/
import Derived.Test.YtbchceojmblkkaaGreatDoorNJ
set_option linter.unusedVariables false
set_option linter.unusedSimpArgs false
namespace Go.Vs.U8
end Go.Vs.U8
namespace Go.Vs.Pa
end Go.Vs.Pa
namespace Go.Vs.Nu
end Go.Vs.Nu
namespace Go.Vs.YtbchceojmblkkaaGreatDoor
set_option linter.unusedSimpArgs false
set_option linter.unusedVariables false
open Go.Proofs Go.Vs.U8 Go.Vs.Pa Go.Vs.Nu Go.Lib
set_option maxRecDepth 100000
set_option maxHeartbeats 8000000
theorem fn_joined_int (l : List Int) (fk : Nat) (caps : List IV) (text : Int → Str) (hl : l.length ≤ 1000) (hb : ∀ n ∈ l, (text n).length ≤ 30) (hf : ∀ n ∈ l, Fn G Tryz.prog fk (.int .i64 n :: caps) (.str (text n))) : Fn G Tryz.prog k_errand_nums_joined_int [.slice (is l), .fn fk caps] (.str (joinI text l)) := by
 refine fn_intro hm ok_errand_nums_joined_int (by simp) ?_
 have hbd := fun i => joinI_bd (f := text) (l := l) (b := 30) hb i
 simp [c_errand_nums_joined_int, r_errand_nums_joined_int, is_len]
 refine loopU hm [] (fun x : Nat × Nat => [(10, .val (.int .i64 x.1))]) (fun x => [(5, .box [.selfN 5 208 false, .ownT 1 x.2 5]), (1, .arr x.2 1 (byteRows (joinI text (l.take x.1))))]) (fun x => x.1 ≤ l.length) (fun x => l.length - x.1) (0, 0) (by simp) ?_ ?_
 ·simp [joinI_nil]
  exact Weak.trans (weak_bld (k := 5) (d := 5) (t := 208) 1 5 (by simp) (by simp) (by simp [getE, look]) (by simp [look]) (by simp)) (weak_drop rfl rfl (by simp [St.bld, EnvLe, getE, look, put, eraseE, SV.erase]) (by simp [St.bld, ObLe, look, put, eraseO, eraseL, Ob.erase, SV.erase, byteRows]) (by simp [St.bld, roOk]))
 rintro ⟨i, v⟩ hi
 simp only at hi
 simp [is_len]
 by_cases h : i < l.length
 ·obtain ⟨x, hx⟩ : ∃ x, l[i] = x := ⟨_, rfl⟩
  have hxm : x ∈ l := hx ▸ List.getElem_mem h
  have hT := hf x hxm
  have hg := is_get h hx
  have h20 := hb x hxm
  have hbi := hbd i
  by_cases h0 : i = 0
  ·obtain ⟨j1, j2⟩ := joinI_one text h hx h0
   rw [j2]
   have hg0 := hg
   rw [h0] at hg0
   simp (disch := omega) [wl, is_len, hg, hg0, h0]
   refine callW_imm hT ?_
   simp (disch := omega) [wl]
   refine callM [(1000, 5), (1001, 1)] [] (fnM_WriteString v [] (text x) (by simp; omega)) rfl rfl ⟨rfl, rfl, trivial⟩ ⟨rfl, _, _, rfl, rfl, rfl⟩ rfl ?_
   simp [bldObs]
   simp (disch := omega) [wl]
   refine loopEnd (i + 1, v + 1) (by simp; omega) (by simp; omega) ?_
   simp [j1]
   exact weak_drop rfl rfl (by simp [EnvLe, getE, look, h0]) (by simp [ObLe, look]) (by simp [roOk])
  ·have j1 := joinI_more text h hx (by omega)
   obtain ⟨J, hJ⟩ : ∃ J, joinI text (l.take i) = J := ⟨_, rfl⟩
   rw [hJ] at j1 hbi ⊢
   have hwb := fnM_WriteByte v J 44 (by omega)
   simp (disch := omega) [wl, is_len, hg]
   refine callM [(1000, 5), (1001, 1)] [] hwb rfl rfl ⟨rfl, rfl, trivial⟩ ⟨rfl, _, _, rfl, rfl, rfl⟩ rfl ?_
   simp [bldObs]
   refine callW_imm hT ?_
   simp (disch := omega) [wl]
   refine callM [(1000, 5), (1001, 1)] [] (fnM_WriteString (v + 1) (J ++ [44]) (text x) (by simp; omega)) rfl rfl ⟨rfl, rfl, trivial⟩ ⟨rfl, _, _, rfl, rfl, rfl⟩ rfl ?_
   simp [bldObs]
   simp (disch := omega) [wl]
   refine loopEnd (i + 1, v + 1 + 1) (by simp; omega) (by simp; omega) ?_
   simp [j1]
   exact wdr
 ·obtain rfl : i = l.length := by omega
  have hbi := hbd l.length
  rw [List.take_length] at hbi ⊢
  simp (disch := omega) [wl, is_len]
  refine callM [(1000,5),(1001,1)] [] (fnM_String v (joinI text l) (by omega)) rfl rfl (by simp [mObjs, bldObs, Vs.ren, look, Ob.ren, SV.ren]) ⟨rfl, rfl⟩ rfl ?_
  simp
theorem fn_joined_Dn (l : List Dn) (fk : Nat) (caps : List IV) (text : Dn → Str) (hl : l.length ≤ 1000) (hb : ∀ n ∈ l, (text n).length ≤ 30) (hf : ∀ n ∈ l, Fn G Tryz.prog fk (.agg [.int .i64 n.1, .int .i64 n.2] :: caps) (.str (text n))) : Fn G Tryz.prog k_errand_nums_joined_DayNum [.slice (dns l), .fn fk caps] (.str (joinI text l)) := by
 refine fn_intro hm ok_errand_nums_joined_DayNum (by simp) ?_
 have hbd := fun i => joinI_bd (f := text) (l := l) (b := 30) hb i
 simp [c_errand_nums_joined_DayNum, r_errand_nums_joined_DayNum, dns_len]
 refine loopU hm [] (fun x : Nat × Nat => [(10, .val (.int .i64 x.1))]) (fun x => [(5, .box [.selfN 5 208 false, .ownT 1 x.2 5]), (1, .arr x.2 1 (byteRows (joinI text (l.take x.1))))]) (fun x => x.1 ≤ l.length) (fun x => l.length - x.1) (0, 0) (by simp) ?_ ?_
 ·simp [joinI_nil]
  exact Weak.trans (weak_bld (k := 5) (d := 5) (t := 208) 1 5 (by simp) (by simp) (by simp [getE, look]) (by simp [look]) (by simp)) (weak_drop rfl rfl (by simp [St.bld, EnvLe, getE, look, put, eraseE, SV.erase]) (by simp [St.bld, ObLe, look, put, eraseO, eraseL, Ob.erase, SV.erase, byteRows]) (by simp [St.bld, roOk]))
 rintro ⟨i, v⟩ hi
 simp only at hi
 simp [dns_len]
 by_cases h : i < l.length
 ·obtain ⟨x, hx⟩ : ∃ x, l[i] = x := ⟨_, rfl⟩
  have hxm : x ∈ l := hx ▸ List.getElem_mem h
  have hT := hf x hxm
  have hg := dns_get h hx
  have h20 := hb x hxm
  have hbi := hbd i
  by_cases h0 : i = 0
  ·obtain ⟨j1, j2⟩ := joinI_one text h hx h0
   rw [j2]
   have hg0 := hg
   rw [h0] at hg0
   simp (disch := omega) [wl, dns_len, hg, hg0, h0]
   refine callW_imm hT ?_
   simp (disch := omega) [wl]
   refine callM [(1000, 5), (1001, 1)] [] (fnM_WriteString v [] (text x) (by simp; omega)) rfl rfl ⟨rfl, rfl, trivial⟩ ⟨rfl, _, _, rfl, rfl, rfl⟩ rfl ?_
   simp [bldObs]
   simp (disch := omega) [wl]
   refine loopEnd (i + 1, v + 1) (by simp; omega) (by simp; omega) ?_
   simp [j1]
   exact weak_drop rfl rfl (by simp [EnvLe, getE, look, h0]) (by simp [ObLe, look]) (by simp [roOk])
  ·have j1 := joinI_more text h hx (by omega)
   obtain ⟨J, hJ⟩ : ∃ J, joinI text (l.take i) = J := ⟨_, rfl⟩
   rw [hJ] at j1 hbi ⊢
   have hwb := fnM_WriteByte v J 44 (by omega)
   simp (disch := omega) [wl, dns_len, hg]
   refine callM [(1000, 5), (1001, 1)] [] hwb rfl rfl ⟨rfl, rfl, trivial⟩ ⟨rfl, _, _, rfl, rfl, rfl⟩ rfl ?_
   simp [bldObs]
   refine callW_imm hT ?_
   simp (disch := omega) [wl]
   refine callM [(1000, 5), (1001, 1)] [] (fnM_WriteString (v + 1) (J ++ [44]) (text x) (by simp; omega)) rfl rfl ⟨rfl, rfl, trivial⟩ ⟨rfl, _, _, rfl, rfl, rfl⟩ rfl ?_
   simp [bldObs]
   simp (disch := omega) [wl]
   refine loopEnd (i + 1, v + 1 + 1) (by simp; omega) (by simp; omega) ?_
   simp [j1]
   exact wdr
 ·obtain rfl : i = l.length := by omega
  have hbi := hbd l.length
  rw [List.take_length] at hbi ⊢
  simp (disch := omega) [wl, dns_len]
  refine callM [(1000,5),(1001,1)] [] (fnM_String v (joinI text l) (by omega)) rfl rfl (by simp [mObjs, bldObs, Vs.ren, look, Ob.ren, SV.ren]) ⟨rfl, rfl⟩ rfl ?_
  simp
theorem fn_PrintN (l : List Int) (hl : l.length ≤ 1000) (hb : ∀ n ∈ l, i64 n) : Fn G Tryz.prog k_nums_Print [.slice (is l)] (.str (printN l)) := by
 refine fn_intro hm ok_nums_Print (by simp) ?_
 have hJ := fn_joined_int l k_strconv_Itoa [] itoa hl (fun n hn => by have := itoa_len20 (hb n hn); omega) (fun n hn => fn_Itoa n (hb n hn).1 (hb n hn).2)
 rw [show printN l = joinI itoa l from rfl]
 simp [c_nums_Print, r_nums_Print]
 refine callW_imm hJ ?_
 simp
theorem fn_PrintDays_1 (x : Dn) (h : dn64 x) : Fn G Tryz.prog k_nums_PrintDays_1 [.agg [.int .i64 x.1, .int .i64 x.2]] (.str (dayT x)) := by
 refine fn_intro hm ok_nums_PrintDays_1 (by simp) ?_
 obtain ⟨n, d⟩ := x
 have hI := fn_Itoa n h.1.1 h.1.2
 have hW := fn_WeekdayName d
 have h20 := itoa_len20 h.1
 have h2 := wkN_len2 d
 simp only at h20
 simp [c_nums_PrintDays_1, r_nums_PrintDays_1]
 by_cases h0 : n = 0
 ·simp (disch := omega) [wl, h0]
  refine callW_imm hW ?_
  simp (disch := omega) [wl, dayT, h0]
 ·simp (disch := omega) [wl, h0]
  refine callW_imm hI ?_
  simp (disch := omega) [wl]
  refine callW_imm hW ?_
  simp (disch := omega) [wl, dayT, h0]
  refine ⟨by omega, ?_⟩
  rfl
theorem fn_PrintD (l : List Dn) (hl : l.length ≤ 1000) (hb : ∀ n ∈ l, dn64 n) : Fn G Tryz.prog k_nums_PrintDays [.slice (dns l)] (.str (printD l)) := by
 refine fn_intro hm ok_nums_PrintDays (by simp) ?_
 have hJ := fn_joined_Dn l k_nums_PrintDays_1 [] dayT hl (fun n hn => by have := dayT_len22 (hb n hn); omega) (fun n hn => fn_PrintDays_1 n (hb n hn))
 rw [show printD l = joinI dayT l from rfl]
 simp [c_nums_PrintDays, r_nums_PrintDays]
 refine callW_imm hJ ?_
 simp
theorem fn_rDays (s : Str) (hs : s.length < 1000000) : Fn G Tryz.prog k_ref20_Days [.str s] (gotDJ (everyR dayR s)) := by
 obtain ⟨R, hRR⟩ : ∃ R, everyR dayR s = R := ⟨_, rfl⟩
 rw [hRR]
 unfold everyR at hRR
 obtain ⟨L, hL⟩ : ∃ L, parts 44 s = L := ⟨_, rfl⟩
 have hLs : ∀ x ∈ L, x.length ≤ s.length := fun x hx => parts_short (hL ▸ hx)
 have hLl : L.length ≤ 1000001 := by
  have := parts_len 44 s
  have h2 : s.count 44 ≤ s.length := List.count_le_length
  rw [hL] at this
  omega
 have hS := fn_items s hs
 rw [hL] at hS hRR
 refine fn_intro hm ok_ref20_Days (by simp) ?_
 simp [c_ref20_Days, r_ref20_Days]
 refine callW_imm hS ?_
 simp [ts_len]
 refine loopUR hm [] [] (fun x : Nat × List Dn => [(8, .val (.int .i64 x.2.length)), (7, .val (.int .i64 x.1)), (5, .own 5 x.2.length)]) (fun x => [(5, .arr x.2.length 2 (dns x.2))]) (fun x => x.2.length ≤ L.length ∧ x.2.length ≤ 12 ∧ x.1 ≤ 1000001 * x.2.length ∧ everyGo dayR (L.drop x.2.length) x.1 x.2 = R) (fun x => L.length - x.2.length) (0, []) ⟨by simp, by simp, by simp, by simpa using hRR⟩ ?_ ?_
 ·simp [dns]
  exact Weak.trans (weak_adopt (k := 5) 5 2 (by simp) (by simp [getE, look])) (weak_drop rfl rfl (by simp [St.adopt, EnvLe, getE, look, put, eraseE, SV.erase]) (by simp [St.adopt, ObLe, look, put, eraseO, Ob.erase]) (by simp [St.adopt, roOk]))
 rintro ⟨a, out⟩ ⟨h1, h2, h3, hst⟩
 simp only at h1 h2 h3 hst
 simp [dns_len, ts_len]
 by_cases h : out.length < L.length
 ·obtain ⟨x, hx⟩ : ∃ x, L[out.length] = x := ⟨_, rfl⟩
  have hg := ts_get h hx
  have hxs := hLs x (hx ▸ List.getElem_mem h)
  rw [List.drop_eq_getElem_cons h, hx, everyGo] at hst
  by_cases h12 : out.length = 12
  ·rw [if_pos h12] at hst
   subst hst
   simp (disch := omega) [wl, dns_len, ts_len, h12]
   simp [gotDJ]
  ·rw [if_neg h12] at hst
   obtain ⟨⟨n, e⟩, hF, hn1, hn2⟩ := fn_rday x (by omega)
   simp only [dayI] at hF
   simp only at hn1 hn2
   simp (disch := omega) [wl, hg, dns_len, ts_len, h12]
   refine callW_imm hF ?_
   by_cases he : e = 0
   ·have hd := hn2 he
    subst he
    rw [← hd] at hst
    rw [if_neg (by simp)] at hst
    simp only at hst
    simp (disch := omega) [wl, dns_len]
    refine loopUR hm [] [] (fun k : Nat => [(11, .val (.int .i64 k))]) (fun _ => [(9, .box [.val (.int .i64 n.1), .val (.int .i64 n.2)])]) (fun k => k ≤ out.length ∧ n ∉ out.take k) (fun k => out.length - k) 0 ⟨by omega, by simp⟩ ?_ ?_
    ·simp
     exact wdr
    rintro k ⟨hk, hnk⟩
    simp [dns_len]
    by_cases hlt : k < out.length
    ·obtain ⟨y, hy⟩ : ∃ y, out[k] = y := ⟨_, rfl⟩
     have hgk := dns_get hlt hy
     by_cases e1 : y.1 = n.1
     ·by_cases e2 : y.2 = n.2
      ·have heq : y = n := Prod.ext e1 e2
       have hmem : n ∈ out := by rw [← heq, ← hy]; exact List.getElem_mem hlt
       rw [if_pos hmem] at hst
       subst hst
       simp (disch := omega) [wl, dns_len, hgk, e1, e2]
       simp [gotDJ]
       omega
      ·have hne : ¬ n = y := fun h => e2 (by rw [h])
       simp (disch := omega) [wl, dns_len, hgk, e1, e2]
       refine ⟨by omega, ?_⟩
       refine loopEnd (k + 1) ⟨by omega, take_no hlt hy hnk hne⟩ (by omega) ?_
       simp
       exact wdr
     ·have hne : ¬ n = y := fun h => e1 (by rw [h])
      simp (disch := omega) [wl, dns_len, hgk, e1]
      try refine ⟨by omega, ?_⟩
      refine loopEnd (k + 1) ⟨by omega, take_no hlt hy hnk hne⟩ (by omega) ?_
      simp
      exact wdr
    ·obtain rfl : k = out.length := by omega
     rw [List.take_length] at hnk
     rw [if_neg hnk] at hst
     simp (disch := omega) [wl, dns_len, hg, ts_len]
     refine ⟨by omega, ?_⟩
     refine loopEnd (a + x.length + 1, out ++ [n]) ⟨by simp; omega, by simp; omega, by simp; omega, by simpa using hst⟩ (by simp; omega) ?_
     simp [dns_snoc]
     exact weak_drop rfl rfl (by simp [EnvLe, getE, look]; omega) (by simp [ObLe, look]) (by simp [roOk])
   ·rw [if_pos (by rw [← hn1]; exact he), ← hn1] at hst
    subst hst
    simp (disch := omega) [wl, dns_len, he]
    simp [gotDJ]
 ·have e : L.drop out.length = [] := List.drop_eq_nil_of_le (by omega)
  rw [e, everyGo] at hst
  subst hst
  have e2 : out.length = L.length := by omega
  simp (disch := omega) [wl, dns_len, ts_len]
  simp [gotDJ]
end Go.Vs.YtbchceojmblkkaaGreatDoor
