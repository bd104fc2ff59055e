/- The walk of the statements of recur: the parts of a text in another order. No conditions. -/
import Derived.Test.YtbchceojmblkkaaGreatDoorRV
import Derived.Test.YtbchceojmblkkaaGreatDoorRU
set_option linter.unusedVariables false
set_option linter.unusedSimpArgs false
namespace Go.Vs.U8
end Go.Vs.U8
namespace Go.Vs.Pa
end Go.Vs.Pa
namespace Go.Vs.Cv
end Go.Vs.Cv
namespace Go.Vs.Mo
end Go.Vs.Mo
namespace Go.Vs.Nu
end Go.Vs.Nu
namespace Go.Vs.YtbchceojmblkkaaGreatDoor.Rc
set_option linter.unusedSimpArgs false
set_option linter.unusedVariables false
open Go.Proofs Go.Vs.U8 Go.Vs.Pa Go.Vs.Cv Go.Vs.Mo Go.Vs.Nu Go.Lib
set_option maxRecDepth 100000
set_option maxHeartbeats 32000000
structure QSt where
 i : Nat
 k : Nat
theorem fn_RecurParts (r : Ru) (n : Int) (hu : 0 ≤ r.u.k) (h0 : 0 ≤ r.f) (hn : 0 ≤ n) (hn2 : n ≤ 255) : Fn G2 Tryz.prog k_law21_RecurParts [.agg (cells r), .int .u8 n] (.bool true) := by
 refine fn_intro hm ok_law21_RecurParts (by simp) ?_
 have hA := fn_rawake
 have s1 := fn_rSmall r
 unfold Ru.iv cells at s1
 unfold cells
 simp [c_law21_RecurParts, r_law21_RecurParts]
 refine callW_imm s1 ?_
 cases q1 : smallR r with
 | false =>
  simp (disch := omega) [br_yes, br_no, wrap_i64, wrap_u8, wrap_i32, List.getElem?_cons_zero, List.getElem?_cons_succ]
  refine callW_imm hA ?_
  simp (disch := omega) [br_yes, br_no, wrap_i64, wrap_u8, wrap_i32, List.getElem?_cons_zero, List.getElem?_cons_succ]
 | true =>
  have f1 := fit_small q1
  have o1 := fn_rOwn r f1
  have p1 := fn_recPrint r f1 hu h0
  have m1 := fn_recSame r r f1 f1
  rw [decide_eq_true rfl] at m1
  unfold rtI at p1
  by_cases hc : checkR r = 0
  ·rw [if_pos hc, hc] at p1
   have hlen := printR_len h0 hc
   have hturn : ∀ i : Nat, (printR r)[i]? = some 59 → parseRu ((printR r).drop (i + 1) ++ [59] ++ (printR r).take i) = .ok r := fun i hi => parse_turn h0 hc hi
   obtain ⟨T, hT⟩ : ∃ T, printR r = T := ⟨_, rfl⟩
   rw [hT] at p1 hlen hturn
   unfold Ru.iv cells at o1 p1 m1
   simp (disch := omega) [br_yes, br_no, wrap_i64, wrap_u8, wrap_i32, List.getElem?_cons_zero, List.getElem?_cons_succ]
   refine callW_imm o1 ?_
   simp (disch := omega) [br_yes, br_no, wrap_i64, wrap_u8, wrap_i32, List.getElem?_cons_zero, List.getElem?_cons_succ]
   refine callW_imm p1 ?_
   simp (disch := omega) [br_yes, br_no, wrap_i64, wrap_u8, wrap_i32, List.getElem?_cons_zero, List.getElem?_cons_succ]
   refine loopU hm [] (fun x : QSt => [(7, .val (.int .i64 x.k)), (8, .val (.int .i64 x.i))]) (fun _ => []) (fun x : QSt => x.i ≤ T.length ∧ x.k ≤ x.i) (fun x : QSt => T.length - x.i) (⟨0, 0⟩ : QSt) ⟨by simp, by simp⟩ ?_ ?_
   ·simp
    exact weak_drop rfl rfl (by simp [EnvLe, getE, look]) (by simp [ObLe, look]) (by simp [roOk])
   rintro ⟨i, k⟩ ⟨h1, h2⟩
   simp only at h1 h2
   simp
   by_cases h : i < T.length
   ·obtain ⟨c, hc'⟩ : ∃ c, T[i] = c := ⟨_, rfl⟩
    have hg : T[i]? = some c := by rw [List.getElem?_eq_getElem h, hc']
    by_cases h59 : c = 59
    ·subst h59
     by_cases hk : ((k : Int) + 1 = n)
     ·have hP := fn_rcParse (T.drop (i + 1) ++ 59 :: T.take i) (by simp; omega)
      have ht2 : parseRu (T.drop (i + 1) ++ 59 :: T.take i) = .ok r := by simpa using hturn i hg
      rw [ht2] at hP
      simp only [ruI, Ru.iv, cells] at hP
      simp (disch := omega) [br_yes, br_no, wrap_i64, wrap_u8, wrap_i32, List.getElem?_cons_zero, List.getElem?_cons_succ, hc', hk]
      refine ⟨by omega, by omega, by omega, by omega, ?_⟩
      refine callW_imm hP ?_
      simp (disch := omega) [br_yes, br_no, wrap_i64, wrap_u8, wrap_i32, List.getElem?_cons_zero, List.getElem?_cons_succ]
      refine ⟨rfl, ?_⟩
      refine callW_imm o1 ?_
      simp (disch := omega) [br_yes, br_no, wrap_i64, wrap_u8, wrap_i32, List.getElem?_cons_zero, List.getElem?_cons_succ]
      refine callW_imm m1 ?_
      simp (disch := omega) [br_yes, br_no, wrap_i64, wrap_u8, wrap_i32, List.getElem?_cons_zero, List.getElem?_cons_succ]
      refine callW_imm hA ?_
      simp (disch := omega) [br_yes, br_no, wrap_i64, wrap_u8, wrap_i32, List.getElem?_cons_zero, List.getElem?_cons_succ]
      try rfl
     ·simp (disch := omega) [br_yes, br_no, wrap_i64, wrap_u8, wrap_i32, List.getElem?_cons_zero, List.getElem?_cons_succ, hc', hk]
      refine loopEnd (⟨i + 1, k + 1⟩ : QSt) ⟨by simp only; omega, by simp only; omega⟩ (by simp only; omega) ?_
      simp
      exact weak_drop rfl rfl (by simp [EnvLe, getE, look]) (by simp [ObLe, look]) (by simp [roOk])
    ·have e2 : ¬ c.toNat = 59 := fun hh => h59 (UInt8.toNat_inj.1 hh)
     simp (disch := omega) [br_yes, br_no, wrap_i64, wrap_u8, wrap_i32, List.getElem?_cons_zero, List.getElem?_cons_succ, hc', e2]
     refine loopEnd (⟨i + 1, k⟩ : QSt) ⟨by simp only; omega, by simp only; omega⟩ (by simp only; omega) ?_
     simp
     exact weak_drop rfl rfl (by simp [EnvLe, getE, look]) (by simp [ObLe, look]) (by simp [roOk])
   ·simp (disch := omega) [br_yes, br_no, wrap_i64, wrap_u8, wrap_i32, List.getElem?_cons_zero, List.getElem?_cons_succ]
    refine callW_imm hA ?_
    simp (disch := omega) [br_yes, br_no, wrap_i64, wrap_u8, wrap_i32, List.getElem?_cons_zero, List.getElem?_cons_succ]
  ·rw [if_neg hc] at p1
   obtain ⟨Y, hY⟩ : ∃ Y, checkR r = Y := ⟨_, rfl⟩
   rw [hY] at p1 hc
   unfold Ru.iv cells at o1 p1
   simp (disch := omega) [br_yes, br_no, wrap_i64, wrap_u8, wrap_i32, List.getElem?_cons_zero, List.getElem?_cons_succ]
   refine callW_imm o1 ?_
   simp (disch := omega) [br_yes, br_no, wrap_i64, wrap_u8, wrap_i32, List.getElem?_cons_zero, List.getElem?_cons_succ]
   refine callW_imm p1 ?_
   simp (disch := omega) [br_yes, br_no, wrap_i64, wrap_u8, wrap_i32, List.getElem?_cons_zero, List.getElem?_cons_succ, hc]
   refine callW_imm hA ?_
   simp (disch := omega) [br_yes, br_no, wrap_i64, wrap_u8, wrap_i32, List.getElem?_cons_zero, List.getElem?_cons_succ]
end Go.Vs.YtbchceojmblkkaaGreatDoor.Rc
namespace Go.Vs.YtbchceojmblkkaaGreatDoor.Rc
set_option linter.unusedSimpArgs false
set_option linter.unusedVariables false
open Go.Proofs Go.Vs.U8 Go.Vs.Pa Go.Vs.Cv Go.Vs.Mo Go.Vs.Nu Go.Lib
set_option maxRecDepth 100000
set_option maxHeartbeats 32000000
theorem fn_RecurFaults (s : Str) : Fn G2 Tryz.prog k_law21_RecurFaults [.str s] (.bool true) := by
 refine fn_intro hm ok_law21_RecurFaults (by simp) ?_
 have hA := fn_rawake
 simp [c_law21_RecurFaults, r_law21_RecurFaults]
 by_cases h4 : 300 < s.length
 ·simp (disch := omega) [br_yes, br_no, wrap_i64, wrap_u8, wrap_i32, List.getElem?_cons_zero, List.getElem?_cons_succ]
  refine callW_imm hA ?_
  simp (disch := omega) [br_yes, br_no, wrap_i64, wrap_u8, wrap_i32, List.getElem?_cons_zero, List.getElem?_cons_succ]
 ·have hP := fn_rcParse s (by omega)
  obtain ⟨R, hR⟩ : ∃ R, parseRu s = R := ⟨_, rfl⟩
  rw [hR] at hP
  simp (disch := omega) [br_yes, br_no, wrap_i64, wrap_u8, wrap_i32, List.getElem?_cons_zero, List.getElem?_cons_succ]
  cases R with
  | ok x =>
   simp only [ruI, Ru.iv, cells] at hP
   refine callW_imm hP ?_
   simp (disch := omega) [br_yes, br_no, wrap_i64, wrap_u8, wrap_i32, List.getElem?_cons_zero, List.getElem?_cons_succ]
   refine callW_imm hA ?_
   simp (disch := omega) [br_yes, br_no, wrap_i64, wrap_u8, wrap_i32, List.getElem?_cons_zero, List.getElem?_cons_succ]
  | no e ps =>
   obtain ⟨h1, h2⟩ := parseRu_no hR
   obtain ⟨hpl, hps⟩ := told_bd h2 (by omega)
   have hC := up (fn_Code e ps)
   have hPl := up (fn_Place e ps hpl hps)
   have hD := up (fn_Depth e ps hpl hps)
   simp only [ruI] at hP
   rw [ru0_iv] at hP
   rcases h2 with ⟨p, rfl, q1⟩ | ⟨k, p, rfl, q1, q2, q3⟩
   ·have hAs := upM (fnM_As_pf .nilp [.int .i64 p, errIV e []])
    simp only [errIV, List.sum_cons, List.sum_nil, Int.add_zero] at hC hPl hD hAs hP
    refine callW_imm hP ?_
    simp (disch := omega) [br_yes, br_no, wrap_i64, wrap_u8, wrap_i32, List.getElem?_cons_zero, List.getElem?_cons_succ]
    refine callM [(1000, 5)] [] hAs rfl rfl ⟨rfl, trivial⟩ ⟨[], [], rfl, ⟨rfl, rfl⟩, rfl⟩ rfl ?_
    simp (disch := omega) [br_yes, br_no, wrap_i64, wrap_u8, wrap_i32, List.getElem?_cons_zero, List.getElem?_cons_succ]
    refine callW_imm hPl ?_
    simp (disch := omega) [br_yes, br_no, wrap_i64, wrap_u8, wrap_i32, List.getElem?_cons_zero, List.getElem?_cons_succ]
    refine callW_imm hC ?_
    simp (disch := omega) [br_yes, br_no, wrap_i64, wrap_u8, wrap_i32, List.getElem?_cons_zero, List.getElem?_cons_succ, h1]
    refine callW_imm hD ?_
    simp (disch := omega) [br_yes, br_no, wrap_i64, wrap_u8, wrap_i32, List.getElem?_cons_zero, List.getElem?_cons_succ]
    refine callW_imm hA ?_
    simp (disch := omega) [br_yes, br_no, wrap_i64, wrap_u8, wrap_i32, List.getElem?_cons_zero, List.getElem?_cons_succ]
    try rfl
   ·have hAs := upM (fnM_As_pf .nilp [.int .i64 k, errIV e [(p : Int)]])
    simp only [errIV, List.sum_cons, List.sum_nil, Int.add_zero] at hC hPl hD hAs hP
    refine callW_imm hP ?_
    simp (disch := omega) [br_yes, br_no, wrap_i64, wrap_u8, wrap_i32, List.getElem?_cons_zero, List.getElem?_cons_succ]
    refine callM [(1000, 5)] [] hAs rfl rfl ⟨rfl, trivial⟩ ⟨[], [], rfl, ⟨rfl, rfl⟩, rfl⟩ rfl ?_
    simp (disch := omega) [br_yes, br_no, wrap_i64, wrap_u8, wrap_i32, List.getElem?_cons_zero, List.getElem?_cons_succ]
    refine callW_imm hPl ?_
    simp (disch := omega) [br_yes, br_no, wrap_i64, wrap_u8, wrap_i32, List.getElem?_cons_zero, List.getElem?_cons_succ]
    refine callW_imm hC ?_
    simp (disch := omega) [br_yes, br_no, wrap_i64, wrap_u8, wrap_i32, List.getElem?_cons_zero, List.getElem?_cons_succ, h1]
    refine callW_imm hD ?_
    simp (disch := omega) [br_yes, br_no, wrap_i64, wrap_u8, wrap_i32, List.getElem?_cons_zero, List.getElem?_cons_succ]
    refine callW_imm hD ?_
    have k1 : ((k : Int) - 1).toNat = k - 1 := by omega
    have k2 : (1 : Int) ≤ k := by omega
    obtain ⟨q4, q5⟩ := List.getElem?_eq_some_iff.1 q3
    simp (disch := omega) [br_yes, br_no, wrap_i64, wrap_u8, wrap_i32, List.getElem?_cons_zero, List.getElem?_cons_succ, k1, k2, q5]
    refine callW_imm hA ?_
    simp (disch := omega) [br_yes, br_no, wrap_i64, wrap_u8, wrap_i32, List.getElem?_cons_zero, List.getElem?_cons_succ]
    try rfl
end Go.Vs.YtbchceojmblkkaaGreatDoor.Rc
namespace Go.Vs.YtbchceojmblkkaaGreatDoor.Rc
set_option linter.unusedSimpArgs false
set_option linter.unusedVariables false
open Go.Proofs Go.Vs.U8 Go.Vs.Pa Go.Vs.Cv Go.Vs.Mo Go.Vs.Nu Go.Lib
set_option maxRecDepth 100000
set_option maxHeartbeats 4000000
theorem u8_most {n : Int} (h : (Lit.int .u8 n).wf = true) : n ≤ 255 := by
 simp [Lit.wf] at h
 have h1 : IntKind.u8.max = 255 := by rfl
 simp only [h1] at h
 exact h.2
theorem RecurBack_true (args : List IV) (h : Args [scRu, .str] args) : Fn G2 Tryz.prog k_law21_RecurBack args (.bool true) := by
 obtain ⟨w, c, rfl, ⟨r1, rfl, h1⟩, x, d, rfl, ⟨s, hs, _⟩, hd⟩ := h
 have hd : d = [] := hd
 subst hd
 simp only [List.cons.injEq, and_true] at hs
 subst hs
 obtain ⟨a, rfl, a1, a2⟩ := rule_of h1
 exact fn_RecurBack a s a2 a1
theorem RecurParts_true (args : List IV) (h : Args [scRu, .int .u8] args) : Fn G2 Tryz.prog k_law21_RecurParts args (.bool true) := by
 obtain ⟨w, c, rfl, ⟨r1, rfl, h1⟩, x, d, rfl, ⟨n, hn, hw⟩, hd⟩ := h
 have hd : d = [] := hd
 subst hd
 simp only [List.cons.injEq, and_true] at hn
 subst hn
 obtain ⟨a, rfl, a1, a2⟩ := rule_of h1
 exact fn_RecurParts a n a2 a1 (u8_pos hw) (u8_most hw)
theorem RecurFaults_true (args : List IV) (h : Args [.str] args) : Fn G2 Tryz.prog k_law21_RecurFaults args (.bool true) := by
 obtain ⟨w, c, rfl, ⟨s, hs, _⟩, hc⟩ := h
 have hc : c = [] := hc
 subst hc
 simp only [List.cons.injEq, and_true] at hs
 subst hs
 exact fn_RecurFaults s
end Go.Vs.YtbchceojmblkkaaGreatDoor.Rc
