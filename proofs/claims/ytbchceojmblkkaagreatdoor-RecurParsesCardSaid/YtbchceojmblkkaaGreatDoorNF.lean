/- The walk of nums: lists of numbers and of weekdays, read. No conditions. -/
import Derived.Test.YtbchceojmblkkaaGreatDoorNE
import Derived.Test.YtbchceojmblkkaaGreatDoorBW
set_option linter.unusedVariables false
set_option linter.unusedSimpArgs false
namespace Go.Vs.U8
end Go.Vs.U8
namespace Go.Vs.Pa
end Go.Vs.Pa
namespace Go.Vs.Nu
end Go.Vs.Nu
namespace Go.Vs.YtbchceojmblkkaaGreatDoor
set_option linter.unusedSimpArgs false
set_option linter.unusedVariables false
open Go.Proofs Go.Vs.U8 Go.Vs.Pa Go.Vs.Nu Go.Lib
set_option maxRecDepth 100000
set_option maxHeartbeats 8000000
def gotEI : GotE Int → IV
 | .no e p => .tuple [.slice [], errIV e [(p : Int)]]
 | .ok l => .tuple [.slice (is l), .nili]
def gotDI : GotE Dn → IV
 | .no e p => .tuple [.slice [], errIV e [(p : Int)]]
 | .ok l => .tuple [.slice (dns l), .nili]
theorem fn_every_int (s : Str) (fk : Nat) (caps : List IV) (one : Str → Int × Int) (hs : s.length < 1000000) (hf : ∀ x : Str, x.length ≤ s.length → Fn G Tryz.prog fk (.str x :: caps) (numI (one x))) : Fn G Tryz.prog k_errand_nums_every_int [.str s, .fn fk caps] (gotEI (everyR one s)) := by
 obtain ⟨R, hRR⟩ : ∃ R, everyR one s = R := ⟨_, rfl⟩
 rw [hRR]
 unfold everyR at hRR
 obtain ⟨L, hL⟩ : ∃ L, parts 44 s = L := ⟨_, rfl⟩
 have hLs : ∀ x ∈ L, x.length ≤ s.length := fun x hx => parts_short (hL ▸ hx)
 have hLl : L.length ≤ 1000001 := by
  have := parts_len 44 s
  have h2 : s.count 44 ≤ s.length := List.count_le_length
  rw [hL] at this
  omega
 have hS := fn_Split s 44 hs
 rw [hL] at hS hRR
 refine fn_intro hm ok_errand_nums_every_int (by simp) ?_
 simp [c_errand_nums_every_int, r_errand_nums_every_int]
 refine callW_imm hS ?_
 simp [ts_len]
 refine loopUR hm [] [6] (fun x : Nat × List Int => [(15, .val (.int .i64 x.2.length)), (7, .val (.int .i64 x.1)), (6, .own 6 x.2.length)]) (fun x => [(6, .arr x.2.length 1 (is x.2))]) (fun x => x.2.length ≤ L.length ∧ x.2.length ≤ 12 ∧ x.1 ≤ 1000001 * x.2.length ∧ everyGo one (L.drop x.2.length) x.1 x.2 = R) (fun x => L.length - x.2.length) (0, []) ⟨by simp, by simp, by simp, by simpa using hRR⟩ ?_ ?_
 ·simp [is]
  exact Weak.trans (weak_adopt (k := 6) 6 1 (by simp) (by simp [getE, look])) (weak_drop rfl rfl (by simp [St.adopt, EnvLe, getE, look, put, eraseE, SV.erase]) (by simp [St.adopt, ObLe, look, put, eraseO, Ob.erase]) (by simp [St.adopt, roOk]))
 rintro ⟨a, out⟩ ⟨h1, h2, h3, hst⟩
 simp only at h1 h2 h3 hst
 simp [is_len, ts_len]
 by_cases h : out.length < L.length
 ·obtain ⟨x, hx⟩ : ∃ x, L[out.length] = x := ⟨_, rfl⟩
  have hg := ts_get h hx
  have hxs := hLs x (hx ▸ List.getElem_mem h)
  rw [List.drop_eq_getElem_cons h, hx, everyGo] at hst
  by_cases h12 : out.length = 12
  ·rw [if_pos h12] at hst
   subst hst
   have hE := fn_New 20 (a : Int)
   rw [if_neg (by omega)] at hE
   rw [h12] at hg
   simp (disch := omega) [wl, hg, is_len, ts_len, h12]
   refine callW_imm hE ?_
   simp [gotEI]
  ·rw [if_neg h12] at hst
   obtain ⟨⟨n, e⟩, hn⟩ : ∃ p, one x = p := ⟨_, rfl⟩
   have hF := hf x hxs
   rw [hn] at hF hst
   simp only [numI] at hF
   simp only at hst
   simp (disch := omega) [wl, hg, is_len, ts_len, h12]
   refine callW_imm hF ?_
   by_cases he : e = 0
   ·subst he
    rw [if_neg (by simp)] at hst
    have hC := fn_Contains_int out n (by omega)
    by_cases hm' : n ∈ out
    ·rw [if_pos hm'] at hst
     subst hst
     rw [decide_eq_true hm'] at hC
     have hE := fn_New 19 (a : Int)
     rw [if_neg (by omega)] at hE
     simp (disch := omega) [wl, is_len]
     refine callW_imm hC ?_
     simp (disch := omega) [wl]
     refine callW_imm hE ?_
     simp [gotEI]
    ·rw [if_neg hm'] at hst
     rw [decide_eq_false hm'] at hC
     simp (disch := omega) [wl, is_len]
     refine callW_imm hC ?_
     simp (disch := omega) [wl, is_len]
     refine ⟨by omega, ?_⟩
     refine loopEnd (a + x.length + 1, out ++ [n]) ⟨by simp; omega, by simp; omega, by simp; omega, by simpa using hst⟩ (by simp; omega) ?_
     simp [is_snoc]
     exact weak_drop rfl rfl (by simp [EnvLe, getE, look]; omega) (by simp [ObLe, look]) (by simp [roOk])
   ·rw [if_pos he] at hst
    subst hst
    have hE := fn_New e (a : Int)
    rw [if_neg he] at hE
    simp (disch := omega) [wl, is_len, he]
    refine callW_imm hE ?_
    simp [gotEI]
 ·have e : L.drop out.length = [] := List.drop_eq_nil_of_le (by omega)
  rw [e, everyGo] at hst
  subst hst
  have e2 : out.length = L.length := by omega
  simp (disch := omega) [wl, is_len, ts_len]
  simp [gotEI]
theorem fn_every_Dn (s : Str) (fk : Nat) (caps : List IV) (one : Str → Dn × Int) (hs : s.length < 1000000) (hf : ∀ x : Str, x.length ≤ s.length → Fn G Tryz.prog fk (.str x :: caps) (dayI (one x))) : Fn G Tryz.prog k_errand_nums_every_DayNum [.str s, .fn fk caps] (gotDI (everyR one s)) := by
 obtain ⟨R, hRR⟩ : ∃ R, everyR one s = R := ⟨_, rfl⟩
 rw [hRR]
 unfold everyR at hRR
 obtain ⟨L, hL⟩ : ∃ L, parts 44 s = L := ⟨_, rfl⟩
 have hLs : ∀ x ∈ L, x.length ≤ s.length := fun x hx => parts_short (hL ▸ hx)
 have hLl : L.length ≤ 1000001 := by
  have := parts_len 44 s
  have h2 : s.count 44 ≤ s.length := List.count_le_length
  rw [hL] at this
  omega
 have hS := fn_Split s 44 hs
 rw [hL] at hS hRR
 refine fn_intro hm ok_errand_nums_every_DayNum (by simp) ?_
 simp [c_errand_nums_every_DayNum, r_errand_nums_every_DayNum]
 refine callW_imm hS ?_
 simp [ts_len]
 refine loopUR hm [] [6] (fun x : Nat × List Dn => [(15, .val (.int .i64 x.2.length)), (7, .val (.int .i64 x.1)), (6, .own 6 x.2.length)]) (fun x => [(6, .arr x.2.length 2 (dns x.2))]) (fun x => x.2.length ≤ L.length ∧ x.2.length ≤ 12 ∧ x.1 ≤ 1000001 * x.2.length ∧ everyGo one (L.drop x.2.length) x.1 x.2 = R) (fun x => L.length - x.2.length) (0, []) ⟨by simp, by simp, by simp, by simpa using hRR⟩ ?_ ?_
 ·simp [dns]
  exact Weak.trans (weak_adopt (k := 6) 6 2 (by simp) (by simp [getE, look])) (weak_drop rfl rfl (by simp [St.adopt, EnvLe, getE, look, put, eraseE, SV.erase]) (by simp [St.adopt, ObLe, look, put, eraseO, Ob.erase]) (by simp [St.adopt, roOk]))
 rintro ⟨a, out⟩ ⟨h1, h2, h3, hst⟩
 simp only at h1 h2 h3 hst
 simp [dns_len, ts_len]
 by_cases h : out.length < L.length
 ·obtain ⟨x, hx⟩ : ∃ x, L[out.length] = x := ⟨_, rfl⟩
  have hg := ts_get h hx
  have hxs := hLs x (hx ▸ List.getElem_mem h)
  rw [List.drop_eq_getElem_cons h, hx, everyGo] at hst
  by_cases h12 : out.length = 12
  ·rw [if_pos h12] at hst
   subst hst
   have hE := fn_New 20 (a : Int)
   rw [if_neg (by omega)] at hE
   rw [h12] at hg
   simp (disch := omega) [wl, hg, dns_len, ts_len, h12]
   refine callW_imm hE ?_
   simp [gotDI]
  ·rw [if_neg h12] at hst
   obtain ⟨⟨n, e⟩, hn⟩ : ∃ p, one x = p := ⟨_, rfl⟩
   have hF := hf x hxs
   rw [hn] at hF hst
   simp only [dayI] at hF
   simp only at hst
   simp (disch := omega) [wl, hg, dns_len, ts_len, h12]
   refine callW_imm hF ?_
   by_cases he : e = 0
   ·subst he
    rw [if_neg (by simp)] at hst
    have hC := fn_Contains_Dn out n (by omega)
    by_cases hm' : n ∈ out
    ·rw [if_pos hm'] at hst
     subst hst
     rw [decide_eq_true hm'] at hC
     have hE := fn_New 19 (a : Int)
     rw [if_neg (by omega)] at hE
     simp (disch := omega) [wl, dns_len]
     refine callW_imm hC ?_
     simp (disch := omega) [wl]
     refine callW_imm hE ?_
     simp [gotDI]
    ·rw [if_neg hm'] at hst
     rw [decide_eq_false hm'] at hC
     simp (disch := omega) [wl, dns_len]
     refine callW_imm hC ?_
     simp (disch := omega) [wl, dns_len]
     refine ⟨by omega, ?_⟩
     refine loopEnd (a + x.length + 1, out ++ [n]) ⟨by simp; omega, by simp; omega, by simp; omega, by simpa using hst⟩ (by simp; omega) ?_
     simp [dns_snoc]
     exact weak_drop rfl rfl (by simp [EnvLe, getE, look]; omega) (by simp [ObLe, look]) (by simp [roOk])
   ·rw [if_pos he] at hst
    subst hst
    have hE := fn_New e (a : Int)
    rw [if_neg he] at hE
    simp (disch := omega) [wl, dns_len, he]
    refine callW_imm hE ?_
    simp [gotDI]
 ·have e : L.drop out.length = [] := List.drop_eq_nil_of_le (by omega)
  rw [e, everyGo] at hst
  subst hst
  have e2 : out.length = L.length := by omega
  simp (disch := omega) [wl, dns_len, ts_len]
  simp [gotDI]
theorem fn_List (lo hi : Int) (sg : Bool) (s : Str) (hs : s.length < 1000000) : Fn G Tryz.prog k_nums_List [.str s, .int .i64 lo, .int .i64 hi, .bool sg] (gotEI (everyR (numR 5 lo hi sg) s)) := by
 refine fn_intro hm ok_nums_List (by simp) ?_
 have hE := fn_every_int s k_nums_List_1 [.ref [.int .i64 lo], .ref [.int .i64 hi], .ref [.bool sg]] (numR 5 lo hi sg) hs (fun x hx => fn_List_1 lo hi sg x (by omega))
 obtain ⟨R, hR⟩ : ∃ R, everyR (numR 5 lo hi sg) s = R := ⟨_, rfl⟩
 rw [hR] at hE ⊢
 simp [c_nums_List, r_nums_List]
 refine callW_imm hE ?_
 cases R <;> simp [gotEI]
theorem fn_Days (s : Str) (hs : s.length < 1000000) : Fn G Tryz.prog k_nums_Days [.str s] (gotDI (everyR dayR s)) := by
 refine fn_intro hm ok_nums_Days (by simp) ?_
 have hE := fn_every_Dn s k_nums_day [] dayR hs (fun x hx => fn_day x (by omega))
 obtain ⟨R, hR⟩ : ∃ R, everyR dayR s = R := ⟨_, rfl⟩
 rw [hR] at hE ⊢
 simp [c_nums_Days, r_nums_Days]
 refine callW_imm hE ?_
 cases R <;> simp [gotDI]
end Go.Vs.YtbchceojmblkkaaGreatDoor
