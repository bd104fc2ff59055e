/- The walk of the document's nums, part 2: lists that are read, numbers' text. No conditions. -/
import Derived.Test.YtbchceojmblkkaaGreatDoorNG
set_option linter.unusedVariables false
set_option linter.unusedSimpArgs false
namespace Go.Vs.YtbchceojmblkkaaGreatDoor
set_option linter.unusedSimpArgs false
set_option linter.unusedVariables false
open Go.Proofs Go.Vs.U8 Go.Vs.Pa Go.Vs.Nu Go.Lib
set_option maxRecDepth 100000
set_option maxHeartbeats 8000000
theorem ts_snoc1 (l : List Str) (x : Str) : ts (l ++ [x]) = ts l ++ [[.str x]] := by simp [ts]
theorem fn_items (s : Str) (hs : s.length < 1000000) : Fn G Tryz.prog k_ref20_items [.str s] (.slice (ts (parts 44 s))) := by
  refine fn_intro hm ok_ref20_items (by simp) ?_
  obtain ⟨R, hR⟩ : ∃ R, parts 44 s = R := ⟨_, rfl⟩
  rw [hR]
  simp [c_ref20_items, r_ref20_items]
  refine loopU hm [] (fun x : Nat × Nat × List Str => [(5, .val (.int .i64 x.2.1)), (4, .val (.int .i64 x.1)), (3, .own 3 x.2.2.length)]) (fun x => [(3, .arr x.2.2.length 1 (ts x.2.2))]) (fun x => x.1 ≤ x.2.1 ∧ x.2.1 ≤ s.length ∧ 44 ∉ (s.drop x.1).take (x.2.1 - x.1) ∧ x.2.2 ++ parts 44 (s.drop x.1) = R ∧ x.2.2.length ≤ x.1) (fun x => s.length - x.2.1) (0, 0, []) ⟨by simp, by simp, by simp, by simpa using hR, by simp⟩ ?_ ?_
  · simp [ts]
    exact Weak.trans (weak_adopt (k := 3) 3 1 (by simp) (by simp [getE, look])) (weak_drop rfl rfl (by simp [St.adopt, EnvLe, getE, look, put, eraseE, SV.erase]) (by simp [St.adopt, ObLe, look, put, eraseO, Ob.erase]) (by simp [St.adopt, roOk]))
  rintro ⟨f, i, out⟩ ⟨h1, h2, h3, h4, h5⟩
  simp only at h1 h2 h3 h4 h5
  simp
  by_cases h : i < s.length
  · obtain ⟨c, hc⟩ : ∃ c, s[i] = c := ⟨_, rfl⟩
    by_cases he : c = 44
    · subst he
      have hg : (s.drop f)[i - f]? = some 44 := by
        rw [List.getElem?_drop, show f + (i - f) = i by omega, List.getElem?_eq_getElem h, hc]
      have hp := parts_at hg h3
      rw [List.drop_drop, show f + (i - f + 1) = i + 1 by omega] at hp
      rw [hp] at h4
      have htk2 : List.drop f (List.take i s) = (s.drop f).take (i - f) := List.drop_take
      simp (disch := omega) [br_yes, br_no, wrap_i64, wrap_u8, wrap_i32, List.getElem?_cons_zero, List.getElem?_cons_succ, hc, ts_len, htk2]
      refine ⟨⟨h1, h2⟩, by omega, ?_⟩
      refine loopEnd (i + 1, i + 1, out ++ [(s.drop f).take (i - f)]) ⟨by simp, by simp; omega, by simp, by simpa using h4, by simp; omega⟩ (by simp; omega) ?_
      simp [ts_snoc1]
      exact weak_drop rfl rfl (by simp [EnvLe, getE, look]) (by simp [ObLe, look]) (by simp [roOk])
    · have g1 : ¬ c.toNat = 44 := fun e => he (UInt8.toNat_inj.1 e)
      have h3' : 44 ∉ (s.drop f).take (i + 1 - f) := by
        rw [show i + 1 - f = (i - f) + 1 by omega, List.take_succ_eq_append_getElem (by rw [List.length_drop]; omega)]
        simp only [List.mem_append, List.mem_singleton, not_or]
        refine ⟨h3, fun e => he ?_⟩
        rw [List.getElem_drop] at e
        simp only [show f + (i - f) = i by omega] at e
        rw [← hc, ← e]
      simp (disch := omega) [br_yes, br_no, wrap_i64, wrap_u8, wrap_i32, List.getElem?_cons_zero, List.getElem?_cons_succ, hc, g1]
      refine loopEnd (f, i + 1, out) ⟨by simp; omega, by simp; omega, h3', h4, h5⟩ (by simp; omega) ?_
      simp
      exact weak_drop rfl rfl (by simp [EnvLe, getE, look]) (by simp [ObLe, look]) (by simp [roOk])
  · obtain rfl : i = s.length := by omega
    have hn : 44 ∉ s.drop f := by
      have : (s.drop f).take (s.length - f) = s.drop f := drop_all f
      rw [this] at h3
      exact h3
    rw [parts_none hn] at h4
    have htk := drop_all (s := s) f
    simp (disch := omega) [br_yes, br_no, wrap_i64, wrap_u8, wrap_i32, List.getElem?_cons_zero, List.getElem?_cons_succ, htk, ts_len]
    refine ⟨h1, by omega, ?_⟩
    rw [← h4]
    simp [ts_snoc1]
def gotEJ : GotE Int → IV
  | .no e p => .tuple [.slice [], .int .i64 e, .int .i64 p]
  | .ok l => .tuple [.slice (is l), .int .i64 0, .int .i64 0]
theorem fn_rList (lo hi : Int) (sg : Bool) (s : Str) (hs : s.length < 1000000) : Fn G Tryz.prog k_ref20_List [.str s, .int .i64 lo, .int .i64 hi, .bool sg] (gotEJ (everyR (numR 5 lo hi sg) s)) := by
  obtain ⟨R, hRR⟩ : ∃ R, everyR (numR 5 lo hi sg) s = R := ⟨_, rfl⟩
  rw [hRR]
  unfold everyR at hRR
  obtain ⟨L, hL⟩ : ∃ L, parts 44 s = L := ⟨_, rfl⟩
  have hLs : ∀ x ∈ L, x.length ≤ s.length := fun x hx => parts_short (hL ▸ hx)
  have hLl : L.length ≤ 1000001 := by
    have := parts_len 44 s
    have h2 : s.count 44 ≤ s.length := List.count_le_length
    rw [hL] at this
    omega
  have hS := fn_items s hs
  rw [hL] at hS hRR
  refine fn_intro hm ok_ref20_List (by simp) ?_
  simp [c_ref20_List, r_ref20_List]
  refine callW_imm hS ?_
  simp [ts_len]
  refine loopUR hm [] [11] (fun x : Nat × List Int => [(14, .val (.int .i64 x.2.length)), (13, .val (.int .i64 x.1)), (11, .own 11 x.2.length)]) (fun x => [(11, .arr x.2.length 1 (is x.2))]) (fun x => x.2.length ≤ L.length ∧ x.2.length ≤ 12 ∧ x.1 ≤ 1000001 * x.2.length ∧ everyGo (numR 5 lo hi sg) (L.drop x.2.length) x.1 x.2 = R) (fun x => L.length - x.2.length) (0, []) ⟨by simp, by simp, by simp, by simpa using hRR⟩ ?_ ?_
  · simp [is]
    exact Weak.trans (weak_adopt (k := 11) 11 1 (by simp) (by simp [getE, look])) (weak_drop rfl rfl (by simp [St.adopt, EnvLe, getE, look, put, eraseE, SV.erase]) (by simp [St.adopt, ObLe, look, put, eraseO, Ob.erase]) (by simp [St.adopt, roOk]))
  rintro ⟨a, out⟩ ⟨h1, h2, h3, hst⟩
  simp only at h1 h2 h3 hst
  simp [is_len, ts_len]
  by_cases h : out.length < L.length
  · obtain ⟨x, hx⟩ : ∃ x, L[out.length] = x := ⟨_, rfl⟩
    have hg := ts_get h hx
    have hxs := hLs x (hx ▸ List.getElem_mem h)
    rw [List.drop_eq_getElem_cons h, hx, everyGo] at hst
    by_cases h12 : out.length = 12
    · rw [if_pos h12] at hst
      subst hst
      simp (disch := omega) [br_yes, br_no, wrap_i64, wrap_u8, wrap_i32, List.getElem?_cons_zero, List.getElem?_cons_succ, is_len, ts_len, h12]
      simp [gotEJ]
    · rw [if_neg h12] at hst
      obtain ⟨⟨n, e⟩, hn⟩ : ∃ p, numR 5 lo hi sg x = p := ⟨_, rfl⟩
      have hF := fn_rOne lo hi sg x (by omega)
      rw [hn] at hF hst
      simp only [numI] at hF
      simp only at hst
      simp (disch := omega) [br_yes, br_no, wrap_i64, wrap_u8, wrap_i32, List.getElem?_cons_zero, List.getElem?_cons_succ, hg, is_len, ts_len, h12]
      refine callW_imm hF ?_
      by_cases he : e = 0
      · subst he
        rw [if_neg (by simp)] at hst
        have hC := fn_rHas out n (by omega)
        simp (disch := omega) [br_yes, br_no, wrap_i64, wrap_u8, wrap_i32, List.getElem?_cons_zero, List.getElem?_cons_succ, is_len]
        refine callW_imm hC ?_
        by_cases hm' : n ∈ out
        · rw [if_pos hm'] at hst
          subst hst
          simp (disch := omega) [br_yes, br_no, wrap_i64, wrap_u8, wrap_i32, List.getElem?_cons_zero, List.getElem?_cons_succ, hm']
          simp [gotEJ]
        · rw [if_neg hm'] at hst
          simp (disch := omega) [br_yes, br_no, wrap_i64, wrap_u8, wrap_i32, List.getElem?_cons_zero, List.getElem?_cons_succ, hm', is_len, hg, ts_len]
          refine ⟨by omega, ?_⟩
          refine loopEnd (a + x.length + 1, out ++ [n]) ⟨by simp; omega, by simp; omega, by simp; omega, by simpa using hst⟩ (by simp; omega) ?_
          simp [is_snoc]
          exact weak_drop rfl rfl (by simp [EnvLe, getE, look]; omega) (by simp [ObLe, look]) (by simp [roOk])
      · rw [if_pos he] at hst
        subst hst
        simp (disch := omega) [br_yes, br_no, wrap_i64, wrap_u8, wrap_i32, List.getElem?_cons_zero, List.getElem?_cons_succ, is_len, he]
        simp [gotEJ]
  · have e : L.drop out.length = [] := List.drop_eq_nil_of_le (by omega)
    rw [e, everyGo] at hst
    subst hst
    have e2 : out.length = L.length := by omega
    simp (disch := omega) [br_yes, br_no, wrap_i64, wrap_u8, wrap_i32, List.getElem?_cons_zero, List.getElem?_cons_succ, is_len, ts_len]
    simp [gotEJ]
end Go.Vs.YtbchceojmblkkaaGreatDoor
