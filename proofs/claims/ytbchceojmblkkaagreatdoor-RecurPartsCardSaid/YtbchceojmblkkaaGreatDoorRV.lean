/- The walk of the statements of recur: what is printed is parsed as it was. No conditions. -/
import Derived.Test.YtbchceojmblkkaaGreatDoorRU
import Derived.Test.YtbchceojmblkkaaGreatDoorRA
set_option linter.unusedVariables false
set_option linter.unusedSimpArgs false
namespace Go.Vs.U8
end Go.Vs.U8
namespace Go.Vs.Pa
end Go.Vs.Pa
namespace Go.Vs.Cv
end Go.Vs.Cv
namespace Go.Vs.Mo
end Go.Vs.Mo
namespace Go.Vs.Nu
end Go.Vs.Nu
namespace Go.Vs.YtbchceojmblkkaaGreatDoor.Rc
set_option linter.unusedSimpArgs false
set_option linter.unusedVariables false
open Go.Proofs Go.Vs.U8 Go.Vs.Pa Go.Vs.Cv Go.Vs.Mo Go.Vs.Nu Go.Lib
set_option maxRecDepth 100000
set_option maxHeartbeats 32000000
theorem cutR {P : Program} (hm : P.follows .mixedOrders = true) {ι : Type} (D : List Nat) (E : ι → List (Nat × SV)) (O : ι → List (Nat × Ob)) (A : ι → Prop) {x y : VCode} {Q : Exit → St → Prop} {σ : St}
  (h1 : pw P x (fun e σ' => match e with
    | .normal => @JoinEnd ι σ' ⟨fun i => σ.upd D (E i) (O i)⟩ ⟨A⟩
    | e => Q e σ') σ) (h2 : ∀ i, A i → pw P y Q (σ.upd D (E i) (O i))) : @CutW P σ ⟨.seq x y⟩ ⟨Q⟩ := cutW hm (fun i => σ.upd D (E i) (O i)) A (fun _ => _root_.id rfl) h1 h2
theorem takeR_fin {r y : Ru} {k : Nat} {v : Str} (hk : k < 14) (hF : Fin r) (h : takeR r k v = .ok y) : Fin y := by
 by_cases h7 : k = 7
 ·subst h7
  rw [td_eq] at h
  cases hE : everyR dayR v with
  | ok l => rw [hE] at h; simp only [TkR.ok.injEq] at h; rw [← h]; exact td_fin (everyR_len hE) hF
  | no e p => rw [hE] at h; cases h
 ·by_cases hl : k ∈ listKs
  ·rw [tl_eq r k hl h7] at h
   cases hE : everyR (numR 5 (wlo k) (whi k) (wsg k)) v with
   | ok l => rw [hE] at h; simp only [TkR.ok.injEq] at h; rw [← h]; exact tl_fin (everyR_len hE) hF
   | no e p => rw [hE] at h; cases h
  ·rw [tk_eq r k (by simp [listKs] at hl; omega)] at h
   split at h
   ·simp only [TkR.ok.injEq] at h; rw [← h]; exact tk_fin k v hF
   ·cases h
theorem parseGo_fin : ∀ {N : Nat} {ps : List Str} {a : Nat} {was : List Nat} {r x : Ru}, Fin r → parseGo N ps a was r = .ok x → Fin x
 | N, [], a, was, r, x, h0, h => by
  simp only [parseGo, endR] at h
  split at h
  ·split at h
   ·next h1 => simp only [RuR.ok.injEq] at h; rw [← h]; exact h0
   ·cases h
  ·cases h
 | N, p :: ps, a, was, r, x, h0, h => by
  simp only [parseGo] at h
  split at h
  ·cases h
  ·split at h
   ·cases h
   ·next hk =>
    split at h
    ·cases h
    ·split at h
     ·cases h
     ·next ht => exact parseGo_fin (takeR_fin (by omega) h0 ht) h
theorem parseRu_fin {s : Str} {x : Ru} (h : parseRu s = .ok x) : Fin x ∧ checkR x = 0 :=
 ⟨parseGo_fin ⟨by simp [FitR, ru1], by simp [ru1], by simp [ru1]⟩ h, parseGo_ok h⟩
theorem errR_nn (e : Int) (p : List Int) : ∃ t v, errIV e p = .iface t v := by
 cases p with
 | nil => exact ⟨_, _, rfl⟩
 | cons a l => exact ⟨_, _, rfl⟩
theorem fn_RecurBack (r : Ru) (s : Str) (hu : 0 ≤ r.u.k) (h0 : 0 ≤ r.f) : Fn G2 Tryz.prog k_law21_RecurBack [.agg (cells r), .str s] (.bool true) := by
 refine fn_intro hm ok_law21_RecurBack (by simp) ?_
 have hA := fn_rawake
 have s1 := fn_rSmall r
 unfold Ru.iv cells at s1
 unfold cells
 simp [c_law21_RecurBack, r_law21_RecurBack]
 refine callW_imm s1 ?_
 cases q1 : smallR r with
 | false =>
  simp (disch := omega) [br_yes, br_no, wrap_i64, wrap_u8, wrap_i32, List.getElem?_cons_zero, List.getElem?_cons_succ]
  refine callW_imm hA ?_
  simp (disch := omega) [br_yes, br_no, wrap_i64, wrap_u8, wrap_i32, List.getElem?_cons_zero, List.getElem?_cons_succ]
 | true =>
  by_cases h4 : 400 < s.length
  ·simp (disch := omega) [br_yes, br_no, wrap_i64, wrap_u8, wrap_i32, List.getElem?_cons_zero, List.getElem?_cons_succ]
   refine callW_imm hA ?_
   simp (disch := omega) [br_yes, br_no, wrap_i64, wrap_u8, wrap_i32, List.getElem?_cons_zero, List.getElem?_cons_succ]
  ·have f1 := fit_small q1
   have o1 := fn_rOwn r f1
   have p1 := fn_recPrint r f1 hu h0
   have c1 := fn_Check' r f1 hu
   have m1 := fn_recSame r r f1 f1
   rw [decide_eq_true rfl] at m1
   unfold rtI at p1
   obtain ⟨X, hX⟩ : ∃ X, (if checkR r = 0 then printR r else []) = X := ⟨_, rfl⟩
   obtain ⟨Y, hY⟩ : ∃ Y, checkR r = Y := ⟨_, rfl⟩
   rw [hX, hY] at p1
   rw [hY] at c1
   unfold Ru.iv cells at o1 p1 c1 m1
   simp (disch := omega) [br_yes, br_no, wrap_i64, wrap_u8, wrap_i32, List.getElem?_cons_zero, List.getElem?_cons_succ]
   refine callW_imm o1 ?_
   simp (disch := omega) [br_yes, br_no, wrap_i64, wrap_u8, wrap_i32, List.getElem?_cons_zero, List.getElem?_cons_succ]
   refine callW_imm p1 ?_
   simp (disch := omega) [br_yes, br_no, wrap_i64, wrap_u8, wrap_i32, List.getElem?_cons_zero, List.getElem?_cons_succ]
   refine callW_imm c1 ?_
   simp (disch := omega) [br_yes, br_no, wrap_i64, wrap_u8, wrap_i32, List.getElem?_cons_zero, List.getElem?_cons_succ]
   refine cutR hm [] (fun _ : Unit => []) (fun _ => [(5, .box (bxs r))]) (fun _ => True) ?_ ?_
   ·by_cases hc : Y = 0
    ·have hP := fn_rcParse (printR r) (by have := printR_len h0 (hY.trans hc); omega)
     rw [parse_print_ru h0 (hY.trans hc)] at hP
     rw [hY, if_pos hc] at hX
     rw [hX] at hP
     simp only [ruI, Ru.iv, cells] at hP
     simp (disch := omega) [br_yes, br_no, wrap_i64, wrap_u8, wrap_i32, List.getElem?_cons_zero, List.getElem?_cons_succ, hc]
     refine callW_imm hP ?_
     simp (disch := omega) [br_yes, br_no, wrap_i64, wrap_u8, wrap_i32, List.getElem?_cons_zero, List.getElem?_cons_succ]
     refine callW_imm m1 ?_
     simp (disch := omega) [br_yes, br_no, wrap_i64, wrap_u8, wrap_i32, List.getElem?_cons_zero, List.getElem?_cons_succ]
     refine joinEnd () trivial ?_
     simp [bxs]
     exact weak_drop rfl rfl (by simp [EnvLe, getE, look, hc]) (by simp [ObLe, look]) (by simp [roOk])
    ·simp (disch := omega) [br_yes, br_no, wrap_i64, wrap_u8, wrap_i32, List.getElem?_cons_zero, List.getElem?_cons_succ, hc]
     refine joinEnd () trivial ?_
     simp [bxs]
     exact weak_drop rfl rfl (by simp [EnvLe, getE, look, hc]) (by simp [ObLe, look]) (by simp [roOk])
   ·rintro _ _
    simp [bxs]
    have hP := fn_rcParse s (by omega)
    obtain ⟨R, hR⟩ : ∃ R, parseRu s = R := ⟨_, rfl⟩
    rw [hR] at hP
    cases R with
    | no e ps =>
     obtain ⟨et, ev, he⟩ := errR_nn e ps
     simp only [ruI, he] at hP
     rw [ru0_iv] at hP
     refine callW_imm hP ?_
     simp (disch := omega) [br_yes, br_no, wrap_i64, wrap_u8, wrap_i32, List.getElem?_cons_zero, List.getElem?_cons_succ]
     refine callW_imm hA ?_
     simp (disch := omega) [br_yes, br_no, wrap_i64, wrap_u8, wrap_i32, List.getElem?_cons_zero, List.getElem?_cons_succ]
    | ok y =>
     obtain ⟨⟨fy, uy, zy⟩, cy⟩ := parseRu_fin hR
     have py := fn_recPrint y fy uy zy
     have hP2 := fn_rcParse (printR y) (by have := printR_len zy cy; omega)
     rw [parse_print_ru zy cy] at hP2
     have qy := fn_Check' y fy uy
     have my := fn_recSame y y fy fy
     rw [decide_eq_true rfl] at my
     unfold rtI at py
     rw [if_pos cy, cy] at py
     rw [cy] at qy
     simp only [ruI, Ru.iv, cells] at hP hP2 py qy my
     refine callW_imm hP ?_
     simp (disch := omega) [br_yes, br_no, wrap_i64, wrap_u8, wrap_i32, List.getElem?_cons_zero, List.getElem?_cons_succ]
     refine callW_imm py ?_
     simp (disch := omega) [br_yes, br_no, wrap_i64, wrap_u8, wrap_i32, List.getElem?_cons_zero, List.getElem?_cons_succ]
     refine callW_imm hP2 ?_
     simp (disch := omega) [br_yes, br_no, wrap_i64, wrap_u8, wrap_i32, List.getElem?_cons_zero, List.getElem?_cons_succ]
     refine callW_imm qy ?_
     simp (disch := omega) [br_yes, br_no, wrap_i64, wrap_u8, wrap_i32, List.getElem?_cons_zero, List.getElem?_cons_succ]
     refine callW_imm my ?_
     simp (disch := omega) [br_yes, br_no, wrap_i64, wrap_u8, wrap_i32, List.getElem?_cons_zero, List.getElem?_cons_succ]
     refine callW_imm hA ?_
     simp (disch := omega) [br_yes, br_no, wrap_i64, wrap_u8, wrap_i32, List.getElem?_cons_zero, List.getElem?_cons_succ]
     try rfl
end Go.Vs.YtbchceojmblkkaaGreatDoor.Rc
