/- The walk of the document's nums, part 2: lists that are read, numbers' text. No conditions. -/
import Derived.Test.YtbchceojmblkkaaGreatDoorNG
set_option linter.unusedVariables false
set_option linter.unusedSimpArgs false
namespace Go.Vs.U8
end Go.Vs.U8
namespace Go.Vs.Pa
end Go.Vs.Pa
namespace Go.Vs.Nu
end Go.Vs.Nu
namespace Go.Vs.YtbchceojmblkkaaGreatDoor
set_option linter.unusedSimpArgs false
set_option linter.unusedVariables false
open Go.Proofs Go.Vs.U8 Go.Vs.Pa Go.Vs.Nu Go.Lib
set_option maxRecDepth 100000
set_option maxHeartbeats 8000000
theorem ts_snoc1 (l : List Str) (x : Str) : ts (l ++ [x]) = ts l ++ [[.str x]] := by simp [ts]
theorem fn_items (s : Str) (hs : s.length < 1000000) : Fn G Tryz.prog k_ref20_items [.str s] (.slice (ts (parts 44 s))) := by
 refine fn_intro hm ok_ref20_items (by simp) ?_
 obtain ⟨R, hR⟩ : ∃ R, parts 44 s = R := ⟨_, rfl⟩
 rw [hR]
 simp [c_ref20_items, r_ref20_items]
 refine loopU hm [] (fun x : Nat × Nat × List Str => [(5, .val (.int .i64 x.2.1)), (4, .val (.int .i64 x.1)), (3, .own 3 x.2.2.length)]) (fun x => [(3, .arr x.2.2.length 1 (ts x.2.2))]) (fun x => x.1 ≤ x.2.1 ∧ x.2.1 ≤ s.length ∧ 44 ∉ (s.drop x.1).take (x.2.1 - x.1) ∧ x.2.2 ++ parts 44 (s.drop x.1) = R ∧ x.2.2.length ≤ x.1) (fun x => s.length - x.2.1) (0, 0, []) ⟨by simp, by simp, by simp, by simpa using hR, by simp⟩ ?_ ?_
 ·simp [ts]
  exact Weak.trans (weak_adopt (k := 3) 3 1 (by simp) (by simp [getE, look])) (weak_drop rfl rfl (by simp [St.adopt, EnvLe, getE, look, put, eraseE, SV.erase]) (by simp [St.adopt, ObLe, look, put, eraseO, Ob.erase]) (by simp [St.adopt, roOk]))
 rintro ⟨f, i, out⟩ ⟨h1, h2, h3, h4, h5⟩
 simp only at h1 h2 h3 h4 h5
 simp
 by_cases h : i < s.length
 ·obtain ⟨c, hc⟩ : ∃ c, s[i] = c := ⟨_, rfl⟩
  by_cases he : c = 44
  ·subst he
   have hg : (s.drop f)[i - f]? = some 44 := by
    rw [List.getElem?_drop, show f + (i - f) = i by omega, List.getElem?_eq_getElem h, hc]
   have hp := parts_at hg h3
   rw [List.drop_drop, show f + (i - f + 1) = i + 1 by omega] at hp
   rw [hp] at h4
   have htk2 : List.drop f (List.take i s) = (s.drop f).take (i - f) := List.drop_take
   simp (disch := omega) [wl, hc, ts_len, htk2]
   refine ⟨⟨h1, h2⟩, by omega, ?_⟩
   refine loopEnd (i + 1, i + 1, out ++ [(s.drop f).take (i - f)]) ⟨by simp, by simp; omega, by simp, by simpa using h4, by simp; omega⟩ (by simp; omega) ?_
   simp [ts_snoc1]
   exact wdr
  ·have g1 : ¬ c.toNat = 44 := fun e => he (UInt8.toNat_inj.1 e)
   have h3' : 44 ∉ (s.drop f).take (i + 1 - f) := by
    rw [show i + 1 - f = (i - f) + 1 by omega, List.take_succ_eq_append_getElem (by rw [List.length_drop]; omega)]
    simp only [List.mem_append, List.mem_singleton, not_or]
    refine ⟨h3, fun e => he ?_⟩
    rw [List.getElem_drop] at e
    simp only [show f + (i - f) = i by omega] at e
    rw [← hc, ← e]
   simp (disch := omega) [wl, hc, g1]
   refine loopEnd (f, i + 1, out) ⟨by simp; omega, by simp; omega, h3', h4, h5⟩ (by simp; omega) ?_
   simp
   exact wdr
 ·obtain rfl : i = s.length := by omega
  have hn : 44 ∉ s.drop f := by
   have : (s.drop f).take (s.length - f) = s.drop f := drop_all f
   rw [this] at h3
   exact h3
  rw [parts_none hn] at h4
  have htk := drop_all (s := s) f
  simp (disch := omega) [wl, htk, ts_len]
  refine ⟨h1, by omega, ?_⟩
  rw [← h4]
  simp [ts_snoc1]
def gotEJ : GotE Int → IV
 | .no e p => .tuple [.slice [], .int .i64 e, .int .i64 p]
 | .ok l => .tuple [.slice (is l), .int .i64 0, .int .i64 0]
def gotDJ : GotE Dn → IV
 | .no e p => .tuple [.slice [], .int .i64 e, .int .i64 p]
 | .ok l => .tuple [.slice (dns l), .int .i64 0, .int .i64 0]
theorem fn_rList (lo hi : Int) (sg : Bool) (s : Str) (hs : s.length < 1000000) : Fn G Tryz.prog k_ref20_List [.str s, .int .i64 lo, .int .i64 hi, .bool sg] (gotEJ (everyR (numR 5 lo hi sg) s)) := by
 obtain ⟨R, hRR⟩ : ∃ R, everyR (numR 5 lo hi sg) s = R := ⟨_, rfl⟩
 rw [hRR]
 unfold everyR at hRR
 obtain ⟨L, hL⟩ : ∃ L, parts 44 s = L := ⟨_, rfl⟩
 have hLs : ∀ x ∈ L, x.length ≤ s.length := fun x hx => parts_short (hL ▸ hx)
 have hLl : L.length ≤ 1000001 := by
  have := parts_len 44 s
  have h2 : s.count 44 ≤ s.length := List.count_le_length
  rw [hL] at this
  omega
 have hS := fn_items s hs
 rw [hL] at hS hRR
 refine fn_intro hm ok_ref20_List (by simp) ?_
 simp [c_ref20_List, r_ref20_List]
 refine callW_imm hS ?_
 simp [ts_len]
 refine loopUR hm [] [11] (fun x : Nat × List Int => [(14, .val (.int .i64 x.2.length)), (13, .val (.int .i64 x.1)), (11, .own 11 x.2.length)]) (fun x => [(11, .arr x.2.length 1 (is x.2))]) (fun x => x.2.length ≤ L.length ∧ x.2.length ≤ 12 ∧ x.1 ≤ 1000001 * x.2.length ∧ everyGo (numR 5 lo hi sg) (L.drop x.2.length) x.1 x.2 = R) (fun x => L.length - x.2.length) (0, []) ⟨by simp, by simp, by simp, by simpa using hRR⟩ ?_ ?_
 ·simp [is]
  exact Weak.trans (weak_adopt (k := 11) 11 1 (by simp) (by simp [getE, look])) (weak_drop rfl rfl (by simp [St.adopt, EnvLe, getE, look, put, eraseE, SV.erase]) (by simp [St.adopt, ObLe, look, put, eraseO, Ob.erase]) (by simp [St.adopt, roOk]))
 rintro ⟨a, out⟩ ⟨h1, h2, h3, hst⟩
 simp only at h1 h2 h3 hst
 simp [is_len, ts_len]
 by_cases h : out.length < L.length
 ·obtain ⟨x, hx⟩ : ∃ x, L[out.length] = x := ⟨_, rfl⟩
  have hg := ts_get h hx
  have hxs := hLs x (hx ▸ List.getElem_mem h)
  rw [List.drop_eq_getElem_cons h, hx, everyGo] at hst
  by_cases h12 : out.length = 12
  ·rw [if_pos h12] at hst
   subst hst
   simp (disch := omega) [wl, is_len, ts_len, h12]
   simp [gotEJ]
  ·rw [if_neg h12] at hst
   obtain ⟨⟨n, e⟩, hn⟩ : ∃ p, numR 5 lo hi sg x = p := ⟨_, rfl⟩
   have hF := fn_rOne lo hi sg x (by omega)
   rw [hn] at hF hst
   simp only [numI] at hF
   simp only at hst
   simp (disch := omega) [wl, hg, is_len, ts_len, h12]
   refine callW_imm hF ?_
   by_cases he : e = 0
   ·subst he
    rw [if_neg (by simp)] at hst
    have hC := fn_rHas out n (by omega)
    simp (disch := omega) [wl, is_len]
    refine callW_imm hC ?_
    by_cases hm' : n ∈ out
    ·rw [if_pos hm'] at hst
     subst hst
     simp (disch := omega) [wl, hm']
     simp [gotEJ]
    ·rw [if_neg hm'] at hst
     simp (disch := omega) [wl, hm', is_len, hg, ts_len]
     refine ⟨by omega, ?_⟩
     refine loopEnd (a + x.length + 1, out ++ [n]) ⟨by simp; omega, by simp; omega, by simp; omega, by simpa using hst⟩ (by simp; omega) ?_
     simp [is_snoc]
     exact weak_drop rfl rfl (by simp [EnvLe, getE, look]; omega) (by simp [ObLe, look]) (by simp [roOk])
   ·rw [if_pos he] at hst
    subst hst
    simp (disch := omega) [wl, is_len, he]
    simp [gotEJ]
 ·have e : L.drop out.length = [] := List.drop_eq_nil_of_le (by omega)
  rw [e, everyGo] at hst
  subst hst
  have e2 : out.length = L.length := by omega
  simp (disch := omega) [wl, is_len, ts_len]
  simp [gotEJ]
theorem num2 (lo hi : Int) (h : Str) : numR 2 lo hi true h = if (numR 5 lo hi true h).2 = 4 ∨ 2 < (bodyO true h).length then (0, 4) else numR 5 lo hi true h := by
 rw [numR_eq, numR_eq]
 obtain ⟨b, hb⟩ : ∃ b, bodyO true h = b := ⟨_, rfl⟩
 rw [hb]
 by_cases p5 : b = [] ∨ 5 < b.length ∨ b.all dig = false
 ·have p2 : b = [] ∨ 2 < b.length ∨ b.all dig = false := p5.imp id (Or.imp (fun h => by omega) id)
  rw [if_pos p2, if_pos p5, if_pos (.inl rfl)]
 ·by_cases h3 : 2 < b.length
  ·have p2 : b = [] ∨ 2 < b.length ∨ b.all dig = false := .inr (.inl h3)
   rw [if_pos p2, if_neg p5, if_pos (.inr h3)]
  ·have p2 : ¬ (b = [] ∨ 2 < b.length ∨ b.all dig = false) := fun h => p5 (h.imp id (Or.imp (fun h => absurd h h3) id))
   rw [if_neg p2, if_neg p5]
   by_cases q : (valD 0 b : Int) < lo ∨ hi < (valD 0 b : Int)
   ·rw [if_pos q, if_neg]
    rintro (h | h)
    ·cases h
    ·exact h3 h
   ·rw [if_neg q]
    cases minO true h <;> simp [h3]
theorem fn_rday (s : Str) (hs : s.length < 1000000) : ∃ p : Dn × Int, Fn G Tryz.prog k_ref20_day [.str s] (dayI p) ∧ p.2 = (dayR s).2 ∧ (p.2 = 0 → p = dayR s) := by
 obtain ⟨R, hR⟩ : ∃ R, dayR s = R := ⟨_, rfl⟩
 rw [hR]
 unfold dayR at hR
 by_cases h1 : s.length < 2
 ·rw [if_pos h1] at hR
  subst hR
  refine ⟨((0, 0), 4), ?_, rfl, fun _ => rfl⟩
  refine fn_intro hm ok_ref20_day (by simp) ?_
  simp [c_ref20_day, r_ref20_day]
  simp (disch := omega) [wl, dayI]
 ·rw [if_neg h1] at hR
  obtain ⟨k, hk⟩ : ∃ k, s.length = k + 2 := ⟨s.length - 2, by omega⟩
  have hk2 : s.length - 2 = k := by omega
  rw [hk2] at hR
  have e0 : ((s.length : Int) - 2) = (k : Int) := by omega
  have htk := drop_all (s := s) k
  obtain ⟨d, hd⟩ : ∃ d, wkD (s.drop k) = d := ⟨_, rfl⟩
  have hW := fn_rWeekday (s.drop k)
  have hdr := wkD_range (s.drop k)
  rw [hd] at hW hR hdr
  by_cases h2 : d < 0
  ·rw [if_pos h2] at hR
   subst hR
   refine ⟨((0, 0), 4), ?_, rfl, fun _ => rfl⟩
   refine fn_intro hm ok_ref20_day (by simp) ?_
   simp [c_ref20_day, r_ref20_day]
   simp (disch := omega) [wl, e0, htk]
   refine ⟨by omega, ?_⟩
   refine callW_imm hW ?_
   simp (disch := omega) [wl, dayI]
  ·rw [if_neg h2] at hR
   by_cases h3 : k = 0
   ·rw [if_pos (by omega)] at hR
    subst hR
    refine ⟨((0, d), 0), ?_, rfl, fun _ => rfl⟩
    refine fn_intro hm ok_ref20_day (by simp) ?_
    simp [c_ref20_day, r_ref20_day]
    simp (disch := omega) [wl, e0, htk]
    refine ⟨by omega, ?_⟩
    refine callW_imm hW ?_
    simp (disch := omega) [wl, e0, htk]
    refine ⟨by omega, ?_⟩
    refine callW_imm hW ?_
    simp (disch := omega) [wl, dayI, e0, h3]
   ·rw [if_neg (by omega)] at hR
    rw [num2] at hR
    obtain ⟨h, hh⟩ : ∃ h, s.take k = h := ⟨_, rfl⟩
    have hhl : h.length = k := by rw [← hh, List.length_take]; omega
    have hF := fn_rOne 1 53 true h (by omega)
    obtain ⟨⟨n, e⟩, hN⟩ : ∃ p, numR 5 1 53 true h = p := ⟨_, rfl⟩
    obtain ⟨m, hmm⟩ : ∃ m, (bodyO true h).length = m := ⟨_, rfl⟩
    rw [hh, hN, hmm] at hR
    rw [hN] at hF
    simp only [numI] at hF
    obtain ⟨c, r, hcr⟩ := List.exists_cons_of_ne_nil (show h ≠ [] by intro e; rw [e] at hhl; simp at hhl; omega)
    have hrl : r.length + 1 = k := by rw [← hhl, hcr]; rfl
    have walk : ∀ p : Dn × Int, p = (if e = 4 ∨ 2 < m then ((0, 0), 4) else ((n, d), e)) → Fn G Tryz.prog k_ref20_day [.str s] (dayI p) := by
     intro p hp
     refine fn_intro hm ok_ref20_day (by simp) ?_
     simp [c_ref20_day, r_ref20_day]
     simp (disch := omega) [wl, e0, htk]
     refine ⟨by omega, ?_⟩
     refine callW_imm hW ?_
     simp (disch := omega) [wl, e0, htk]
     refine ⟨by omega, ?_⟩
     refine callW_imm hW ?_
     have hne : ¬ h = [] := by rw [hcr]; simp
     simp (disch := omega) [wl, e0, hh, h3, hne]
     refine ⟨by omega, ?_⟩
     refine cutU hm [] [] (fun _ : Unit => [(6, .val (.int .i64 m))]) (fun _ => []) (fun _ => True) ?_ ?_
     ·by_cases g1 : c = 43
      ·subst g1
       have e1 : m + 1 = k := by rw [← hmm, ← hhl, hcr]; rfl
       simp
       simp (disch := omega) [wl, hcr]
       refine joinEnd () trivial ?_
       simp
       exact weak_drop rfl rfl (by simp [EnvLe, getE, look, hcr]; omega) (by simp [ObLe, look]) (by simp [roOk])
      ·by_cases g2 : c = 45
       ·subst g2
        have e1 : m + 1 = k := by rw [← hmm, ← hhl, hcr]; rfl
        simp
        simp (disch := omega) [wl, hcr]
        refine joinEnd () trivial ?_
        simp
        exact weak_drop rfl rfl (by simp [EnvLe, getE, look, hcr]; omega) (by simp [ObLe, look]) (by simp [roOk])
       ·have e1 : m = k := by rw [← hmm, ← hhl, hcr]; simp [bodyO, sgO, g1, g2]
        have g3 : ¬ c.toNat = 43 := fun e => g1 (UInt8.toNat_inj.1 e)
        have g4 : ¬ c.toNat = 45 := fun e => g2 (UInt8.toNat_inj.1 e)
        simp
        simp (disch := omega) [wl, hcr, g3, g4]
        refine joinEnd () trivial ?_
        simp
        exact weak_drop rfl rfl (by simp [EnvLe, getE, look, hcr, g3, g4]; omega) (by simp [ObLe, look]) (by simp [roOk])
     ·rintro _ _
      simp
      refine callW_imm hF ?_
      by_cases q1 : e = 4
      ·rw [if_pos (.inl q1)] at hp
       subst hp
       simp (disch := omega) [wl, dayI, q1]
      ·by_cases q2 : 2 < m
       ·rw [if_pos (.inr q2)] at hp
        subst hp
        simp (disch := omega) [wl, dayI, q1]
       ·rw [if_neg (fun h => h.elim q1 q2)] at hp
        subst hp
        simp (disch := omega) [wl, dayI, q1]
    refine ⟨_, walk _ rfl, ?_⟩
    by_cases q : e = 4 ∨ 2 < m
    ·rw [if_pos q] at hR ⊢
     rw [if_pos (by simp)] at hR
     subst hR
     exact ⟨rfl, fun _ => rfl⟩
    ·rw [if_neg q] at hR ⊢
     simp only at hR
     by_cases q3 : e = 0
     ·rw [if_neg (by simp [q3])] at hR
      subst hR
      exact ⟨q3, fun _ => by rw [q3]⟩
     ·rw [if_pos q3] at hR
      subst hR
      exact ⟨rfl, fun h => absurd h q3⟩
end Go.Vs.YtbchceojmblkkaaGreatDoor
