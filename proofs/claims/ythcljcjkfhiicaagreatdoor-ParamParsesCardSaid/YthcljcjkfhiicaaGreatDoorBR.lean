/- The walk of the statement ParamTells. No conditions. -/
import Derived.Test.YthcljcjkfhiicaaGreatDoorBX
set_option linter.unusedVariables false
set_option linter.unusedSimpArgs false
namespace Go.Vs.YthcljcjkfhiicaaGreatDoor
set_option linter.unusedSimpArgs false
set_option linter.unusedVariables false
open Go.Proofs Go.Vs.U8 Go.Vs.Pa
set_option maxRecDepth 100000
set_option maxHeartbeats 16000000
theorem small_fit {l : List Pm} (h : smallB l = true) : l.length ≤ 10 ∧ Fit l := by
  simp [smallB, smP, smV] at h
  exact ⟨h.1, fun p hp => by have := (h.2 p hp).1.1; omega, fun p hp => by have := (h.2 p hp).1.2; omega, fun p hp x hx => by have := (h.2 p hp).2 x hx; omega⟩
theorem fn_ParamTells (l0 l1 : List Pm) (n : Str) : Fn G Tryz.prog k_law17_ParamTells [.agg [.slice (ps l0), .slice (ps l1)], .str n] (.bool true) := by
  refine fn_intro hm ok_law17_ParamTells (by simp) ?_
  have hA := fn_awake
  have hS0 := fn_Small l0
  have hS1 := fn_Small l1
  simp [c_law17_ParamTells, r_law17_ParamTells]
  refine callW_imm hS0 ?_
  cases h0 : smallB l0 with
  | false =>
    simp (disch := omega) [br_yes, br_no, wrap_i64, wrap_u8, wrap_i32, List.getElem?_cons_zero, List.getElem?_cons_succ]
    refine callW_imm hA ?_
    simp
  | true =>
    simp (disch := omega) [br_yes, br_no, wrap_i64, wrap_u8, wrap_i32, List.getElem?_cons_zero, List.getElem?_cons_succ]
    refine callW_imm hS1 ?_
    cases h1 : smallB l1 with
    | false =>
      simp (disch := omega) [br_yes, br_no, wrap_i64, wrap_u8, wrap_i32, List.getElem?_cons_zero, List.getElem?_cons_succ]
      refine callW_imm hA ?_
      simp
    | true =>
      by_cases h2 : 40 < n.length
      · simp (disch := omega) [br_yes, br_no, wrap_i64, wrap_u8, wrap_i32, List.getElem?_cons_zero, List.getElem?_cons_succ]
        refine callW_imm hA ?_
        simp
      · obtain ⟨k0, f0⟩ := small_fit h0
        obtain ⟨k1, f1⟩ := small_fit h1
        simp (disch := omega) [br_yes, br_no, wrap_i64, wrap_u8, wrap_i32, List.getElem?_cons_zero, List.getElem?_cons_succ]
        refine callW_imm (fn_Own l0 (by omega) f0) ?_
        simp (disch := omega) [br_yes, br_no, wrap_i64, wrap_u8, wrap_i32, List.getElem?_cons_zero, List.getElem?_cons_succ]
        refine callW_imm (fn_PrintAll l0 (by omega) f0) ?_
        simp (disch := omega) [br_yes, br_no, wrap_i64, wrap_u8, wrap_i32, List.getElem?_cons_zero, List.getElem?_cons_succ, printsI]
        refine callW_imm (fn_rPrintAll l0 (by omega) f0) ?_
        simp (disch := omega) [br_yes, br_no, wrap_i64, wrap_u8, wrap_i32, List.getElem?_cons_zero, List.getElem?_cons_succ, printsI]
        refine callW_imm (fn_Find l0 n (by omega) (fun p hp => by have := f0.v p hp; omega)) ?_
        cases hf : findP l0 n with
        | none =>
          simp (disch := omega) [br_yes, br_no, wrap_i64, wrap_u8, wrap_i32, List.getElem?_cons_zero, List.getElem?_cons_succ, foundI, Pm.iv]
          refine callW_imm (fn_rFind l0 n (by omega)) ?_
          rw [hf]
          simp (disch := omega) [br_yes, br_no, wrap_i64, wrap_u8, wrap_i32, List.getElem?_cons_zero, List.getElem?_cons_succ, foundI, Pm.iv]
          have fe : Fit [⟨[], []⟩] := ⟨by simp, by simp, by simp⟩
          refine callW_imm (fn_rSame [⟨[], []⟩] [⟨[], []⟩] (by simp) (by simp) fe fe) ?_
          simp (disch := omega) [br_yes, br_no, wrap_i64, wrap_u8, wrap_i32, List.getElem?_cons_zero, List.getElem?_cons_succ]
          refine callW_imm (fn_CheckAll l0 (by omega) f0) ?_
          simp (disch := omega) [br_yes, br_no, wrap_i64, wrap_u8, wrap_i32, List.getElem?_cons_zero, List.getElem?_cons_succ]
          refine callW_imm (fn_rCheckAll l0 (by omega) f0) ?_
          simp (disch := omega) [br_yes, br_no, wrap_i64, wrap_u8, wrap_i32, List.getElem?_cons_zero, List.getElem?_cons_succ]
          refine callW_imm (fn_Name n (by omega)) ?_
          simp (disch := omega) [br_yes, br_no, wrap_i64, wrap_u8, wrap_i32, List.getElem?_cons_zero, List.getElem?_cons_succ]
          refine callW_imm (fn_rName n (by omega)) ?_
          simp (disch := omega) [br_yes, br_no, wrap_i64, wrap_u8, wrap_i32, List.getElem?_cons_zero, List.getElem?_cons_succ]
          refine callW_imm (fn_Own l1 (by omega) f1) ?_
          simp (disch := omega) [br_yes, br_no, wrap_i64, wrap_u8, wrap_i32, List.getElem?_cons_zero, List.getElem?_cons_succ]
          refine callW_imm (fn_Same l0 l1 (by omega) (by omega) f0 f1) ?_
          simp (disch := omega) [br_yes, br_no, wrap_i64, wrap_u8, wrap_i32, List.getElem?_cons_zero, List.getElem?_cons_succ]
          refine callW_imm (fn_rSame l0 l1 (by omega) (by omega) f0 f1) ?_
          simp (disch := omega) [br_yes, br_no, wrap_i64, wrap_u8, wrap_i32, List.getElem?_cons_zero, List.getElem?_cons_succ]
          refine ⟨rfl, ?_⟩
          refine loopU hm [] (fun i : Nat => [(14, .val (.int .i64 i))]) (fun i => [(12, .box [.val (.str []), .val (.slice (ts []))]), (10, .box [.val (.str []), .val (.slice (ts []))])]) (fun i => i ≤ l0.length) (fun i => l0.length - i) 0 (by omega) ?_ ?_
          · simp
            exact weak_drop rfl rfl (by simp [EnvLe, getE, look]) (by simp [ObLe, look]) (by simp [roOk])
          intro i hi
          simp [ps_len]
          by_cases h : i < l0.length
          · obtain ⟨p', hp⟩ : ∃ p, l0[i] = p := ⟨_, rfl⟩
            have hm' : p' ∈ l0 := hp ▸ List.getElem_mem h
            have hn' := f0.n p' hm'
            have hg := ps_get h hp
            have c1 := fn_Print p' (by omega)
            have c2 := fn_rPrint p' (by omega)
            have c3 := fn_Check p' (by omega)
            have c4 := fn_rCheck p' (by omega)
            simp only [Pm.iv] at c1 c2 c3 c4
            simp (disch := omega) [br_yes, br_no, wrap_i64, wrap_u8, wrap_i32, List.getElem?_cons_zero, List.getElem?_cons_succ, ps_len, hg]
            refine callW_imm c1 ?_
            simp (disch := omega) [br_yes, br_no, wrap_i64, wrap_u8, wrap_i32, List.getElem?_cons_zero, List.getElem?_cons_succ, printI, ps_len, hg]
            refine callW_imm c2 ?_
            simp (disch := omega) [br_yes, br_no, wrap_i64, wrap_u8, wrap_i32, List.getElem?_cons_zero, List.getElem?_cons_succ, printI, ps_len, hg]
            refine callW_imm c3 ?_
            simp (disch := omega) [br_yes, br_no, wrap_i64, wrap_u8, wrap_i32, List.getElem?_cons_zero, List.getElem?_cons_succ, ps_len, hg]
            refine callW_imm c4 ?_
            simp (disch := omega) [br_yes, br_no, wrap_i64, wrap_u8, wrap_i32, List.getElem?_cons_zero, List.getElem?_cons_succ]
            refine ⟨rfl, ?_⟩
            refine loopEnd (i + 1) (by omega) (by omega) ?_
            simp
            exact weak_drop rfl rfl (by simp [EnvLe, getE, look]) (by simp [ObLe, look]) (by simp [roOk])
          · obtain rfl : i = l0.length := by omega
            simp (disch := omega) [br_yes, br_no, wrap_i64, wrap_u8, wrap_i32, List.getElem?_cons_zero, List.getElem?_cons_succ]
            refine callW_imm hA ?_
            simp
        | some p =>
          simp (disch := omega) [br_yes, br_no, wrap_i64, wrap_u8, wrap_i32, List.getElem?_cons_zero, List.getElem?_cons_succ, foundI, Pm.iv]
          refine callW_imm (fn_rFind l0 n (by omega)) ?_
          rw [hf]
          simp (disch := omega) [br_yes, br_no, wrap_i64, wrap_u8, wrap_i32, List.getElem?_cons_zero, List.getElem?_cons_succ, foundI, Pm.iv]
          have hpm : p ∈ l0 := List.mem_of_find?_eq_some hf
          have fp : Fit [p] := ⟨fun q hq => by rw [List.mem_singleton.1 hq]; exact f0.n p hpm, fun q hq => by rw [List.mem_singleton.1 hq]; exact f0.v p hpm, fun q hq => by rw [List.mem_singleton.1 hq]; exact f0.t p hpm⟩
          refine callW_imm (fn_rSame [p] [p] (by simp) (by simp) fp fp) ?_
          simp (disch := omega) [br_yes, br_no, wrap_i64, wrap_u8, wrap_i32, List.getElem?_cons_zero, List.getElem?_cons_succ]
          refine callW_imm (fn_CheckAll l0 (by omega) f0) ?_
          simp (disch := omega) [br_yes, br_no, wrap_i64, wrap_u8, wrap_i32, List.getElem?_cons_zero, List.getElem?_cons_succ]
          refine callW_imm (fn_rCheckAll l0 (by omega) f0) ?_
          simp (disch := omega) [br_yes, br_no, wrap_i64, wrap_u8, wrap_i32, List.getElem?_cons_zero, List.getElem?_cons_succ]
          refine callW_imm (fn_Name n (by omega)) ?_
          simp (disch := omega) [br_yes, br_no, wrap_i64, wrap_u8, wrap_i32, List.getElem?_cons_zero, List.getElem?_cons_succ]
          refine callW_imm (fn_rName n (by omega)) ?_
          simp (disch := omega) [br_yes, br_no, wrap_i64, wrap_u8, wrap_i32, List.getElem?_cons_zero, List.getElem?_cons_succ]
          refine callW_imm (fn_Own l1 (by omega) f1) ?_
          simp (disch := omega) [br_yes, br_no, wrap_i64, wrap_u8, wrap_i32, List.getElem?_cons_zero, List.getElem?_cons_succ]
          refine callW_imm (fn_Same l0 l1 (by omega) (by omega) f0 f1) ?_
          simp (disch := omega) [br_yes, br_no, wrap_i64, wrap_u8, wrap_i32, List.getElem?_cons_zero, List.getElem?_cons_succ]
          refine callW_imm (fn_rSame l0 l1 (by omega) (by omega) f0 f1) ?_
          simp (disch := omega) [br_yes, br_no, wrap_i64, wrap_u8, wrap_i32, List.getElem?_cons_zero, List.getElem?_cons_succ]
          refine ⟨rfl, ?_⟩
          refine loopU hm [] (fun i : Nat => [(14, .val (.int .i64 i))]) (fun i => [(12, .box [.val (.str p.n), .val (.slice (ts p.v))]), (10, .box [.val (.str p.n), .val (.slice (ts p.v))])]) (fun i => i ≤ l0.length) (fun i => l0.length - i) 0 (by omega) ?_ ?_
          · simp
            exact weak_drop rfl rfl (by simp [EnvLe, getE, look]) (by simp [ObLe, look]) (by simp [roOk])
          intro i hi
          simp [ps_len]
          by_cases h : i < l0.length
          · obtain ⟨p', hp⟩ : ∃ p, l0[i] = p := ⟨_, rfl⟩
            have hm' : p' ∈ l0 := hp ▸ List.getElem_mem h
            have hn' := f0.n p' hm'
            have hg := ps_get h hp
            have c1 := fn_Print p' (by omega)
            have c2 := fn_rPrint p' (by omega)
            have c3 := fn_Check p' (by omega)
            have c4 := fn_rCheck p' (by omega)
            simp only [Pm.iv] at c1 c2 c3 c4
            simp (disch := omega) [br_yes, br_no, wrap_i64, wrap_u8, wrap_i32, List.getElem?_cons_zero, List.getElem?_cons_succ, ps_len, hg]
            refine callW_imm c1 ?_
            simp (disch := omega) [br_yes, br_no, wrap_i64, wrap_u8, wrap_i32, List.getElem?_cons_zero, List.getElem?_cons_succ, printI, ps_len, hg]
            refine callW_imm c2 ?_
            simp (disch := omega) [br_yes, br_no, wrap_i64, wrap_u8, wrap_i32, List.getElem?_cons_zero, List.getElem?_cons_succ, printI, ps_len, hg]
            refine callW_imm c3 ?_
            simp (disch := omega) [br_yes, br_no, wrap_i64, wrap_u8, wrap_i32, List.getElem?_cons_zero, List.getElem?_cons_succ, ps_len, hg]
            refine callW_imm c4 ?_
            simp (disch := omega) [br_yes, br_no, wrap_i64, wrap_u8, wrap_i32, List.getElem?_cons_zero, List.getElem?_cons_succ]
            refine ⟨rfl, ?_⟩
            refine loopEnd (i + 1) (by omega) (by omega) ?_
            simp
            exact weak_drop rfl rfl (by simp [EnvLe, getE, look]) (by simp [ObLe, look]) (by simp [roOk])
          · obtain rfl : i = l0.length := by omega
            simp (disch := omega) [br_yes, br_no, wrap_i64, wrap_u8, wrap_i32, List.getElem?_cons_zero, List.getElem?_cons_succ]
            refine callW_imm hA ?_
            simp
end Go.Vs.YthcljcjkfhiicaaGreatDoor
