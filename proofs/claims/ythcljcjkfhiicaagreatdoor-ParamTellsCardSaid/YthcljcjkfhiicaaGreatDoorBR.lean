/- The walk of the statement ParamTells. No conditions. -/
import Derived.Test.YthcljcjkfhiicaaGreatDoorBQ
import Derived.Test.YthcljcjkfhiicaaGreatDoorBD
set_option linter.unusedVariables false
set_option linter.unusedSimpArgs false
namespace Go.Vs.YthcljcjkfhiicaaGreatDoor
set_option linter.unusedSimpArgs false
set_option linter.unusedVariables false
open Go.Proofs Go.Vs.U8 Go.Vs.Pa
set_option maxRecDepth 100000
set_option maxHeartbeats 16000000
theorem small_fit {l : List Pm} (h : smallB l = true) : l.length ≤ 10 ∧ Fit l := by
  simp [smallB, smP, smV] at h
  exact ⟨h.1, fun p hp => by have := (h.2 p hp).1.1; omega, fun p hp => by have := (h.2 p hp).1.2; omega, fun p hp x hx => by have := (h.2 p hp).2 x hx; omega⟩
theorem fn_ParamTells (l0 l1 : List Pm) (n : Str) : Fn G Tryz.prog k_law17_ParamTells [.agg [.slice (ps l0), .slice (ps l1)], .str n] (.bool true) := by
  refine fn_intro hm ok_law17_ParamTells (by simp) ?_
  have hA := fn_awake
  have hS0 := fn_Small l0
  have hS1 := fn_Small l1
  simp [c_law17_ParamTells, r_law17_ParamTells]
  refine callW_imm hS0 ?_
  cases h0 : smallB l0 with
  | false =>
    simp (disch := omega) [br_yes, br_no, wrap_i64, wrap_u8, wrap_i32, List.getElem?_cons_zero, List.getElem?_cons_succ]
    refine callW_imm hA ?_
    simp
  | true =>
    simp (disch := omega) [br_yes, br_no, wrap_i64, wrap_u8, wrap_i32, List.getElem?_cons_zero, List.getElem?_cons_succ]
    refine callW_imm hS1 ?_
    cases h1 : smallB l1 with
    | false =>
      simp (disch := omega) [br_yes, br_no, wrap_i64, wrap_u8, wrap_i32, List.getElem?_cons_zero, List.getElem?_cons_succ]
      refine callW_imm hA ?_
      simp
    | true =>
      by_cases h2 : 40 < n.length
      · simp (disch := omega) [br_yes, br_no, wrap_i64, wrap_u8, wrap_i32, List.getElem?_cons_zero, List.getElem?_cons_succ]
        refine callW_imm hA ?_
        simp
      · obtain ⟨k0, f0⟩ := small_fit h0
        obtain ⟨k1, f1⟩ := small_fit h1
        simp (disch := omega) [br_yes, br_no, wrap_i64, wrap_u8, wrap_i32, List.getElem?_cons_zero, List.getElem?_cons_succ]
        refine callW_imm (fn_Own l0 (by omega) f0) ?_
        simp (disch := omega) [br_yes, br_no, wrap_i64, wrap_u8, wrap_i32, List.getElem?_cons_zero, List.getElem?_cons_succ]
        refine callW_imm (fn_PrintAll l0 (by omega) f0) ?_
        simp (disch := omega) [br_yes, br_no, wrap_i64, wrap_u8, wrap_i32, List.getElem?_cons_zero, List.getElem?_cons_succ, printsI]
        refine callW_imm (fn_rPrintAll l0 (by omega) f0) ?_
        simp (disch := omega) [br_yes, br_no, wrap_i64, wrap_u8, wrap_i32, List.getElem?_cons_zero, List.getElem?_cons_succ, printsI]
        refine callW_imm (fn_Find l0 n (by omega) (fun p hp => by have := f0.v p hp; omega)) ?_
        cases hf : findP l0 n with
        | none =>
          simp (disch := omega) [br_yes, br_no, wrap_i64, wrap_u8, wrap_i32, List.getElem?_cons_zero, List.getElem?_cons_succ, foundI, Pm.iv]
          refine callW_imm (fn_rFind l0 n (by omega)) ?_
          rw [hf]
          simp (disch := omega) [br_yes, br_no, wrap_i64, wrap_u8, wrap_i32, List.getElem?_cons_zero, List.getElem?_cons_succ, foundI, Pm.iv]
          have fe : Fit [⟨[], []⟩] := ⟨by simp, by simp, by simp⟩
          refine callW_imm (fn_rSame [⟨[], []⟩] [⟨[], []⟩] (by simp) (by simp) fe fe) ?_
          simp (disch := omega) [br_yes, br_no, wrap_i64, wrap_u8, wrap_i32, List.getElem?_cons_zero, List.getElem?_cons_succ]
          refine callW_imm (fn_CheckAll l0 (by omega) f0) ?_
          simp (disch := omega) [br_yes, br_no, wrap_i64, wrap_u8, wrap_i32, List.getElem?_cons_zero, List.getElem?_cons_succ]
          refine callW_imm (fn_rCheckAll l0 (by omega) f0) ?_
          simp (disch := omega) [br_yes, br_no, wrap_i64, wrap_u8, wrap_i32, List.getElem?_cons_zero, List.getElem?_cons_succ]
          refine callW_imm (fn_Name n (by omega)) ?_
          simp (disch := omega) [br_yes, br_no, wrap_i64, wrap_u8, wrap_i32, List.getElem?_cons_zero, List.getElem?_cons_succ]
          refine callW_imm (fn_rName n (by omega)) ?_
          simp (disch := omega) [br_yes, br_no, wrap_i64, wrap_u8, wrap_i32, List.getElem?_cons_zero, List.getElem?_cons_succ]
          refine callW_imm (fn_Own l1 (by omega) f1) ?_
          simp (disch := omega) [br_yes, br_no, wrap_i64, wrap_u8, wrap_i32, List.getElem?_cons_zero, List.getElem?_cons_succ]
          refine callW_imm (fn_Same l0 l1 (by omega) (by omega) f0 f1) ?_
          simp (disch := omega) [br_yes, br_no, wrap_i64, wrap_u8, wrap_i32, List.getElem?_cons_zero, List.getElem?_cons_succ]
          refine callW_imm (fn_rSame l0 l1 (by omega) (by omega) f0 f1) ?_
          simp (disch := omega) [br_yes, br_no, wrap_i64, wrap_u8, wrap_i32, List.getElem?_cons_zero, List.getElem?_cons_succ]
          refine ⟨rfl, ?_⟩
          refine loopU hm [] (fun i : Nat => [(14, .val (.int .i64 i))]) (fun i => [(12, .box [.val (.str []), .val (.slice (ts []))]), (10, .box [.val (.str []), .val (.slice (ts []))])]) (fun i => i ≤ l0.length) (fun i => l0.length - i) 0 (by omega) ?_ ?_
          · simp
            exact weak_drop rfl rfl (by simp [EnvLe, getE, look]) (by simp [ObLe, look]) (by simp [roOk])
          intro i hi
          simp [ps_len]
          by_cases h : i < l0.length
          · obtain ⟨p', hp⟩ : ∃ p, l0[i] = p := ⟨_, rfl⟩
            have hm' : p' ∈ l0 := hp ▸ List.getElem_mem h
            have hn' := f0.n p' hm'
            have hg := ps_get h hp
            have c1 := fn_Print p' (by omega)
            have c2 := fn_rPrint p' (by omega)
            have c3 := fn_Check p' (by omega)
            have c4 := fn_rCheck p' (by omega)
            simp only [Pm.iv] at c1 c2 c3 c4
            simp (disch := omega) [br_yes, br_no, wrap_i64, wrap_u8, wrap_i32, List.getElem?_cons_zero, List.getElem?_cons_succ, ps_len, hg]
            refine callW_imm c1 ?_
            simp (disch := omega) [br_yes, br_no, wrap_i64, wrap_u8, wrap_i32, List.getElem?_cons_zero, List.getElem?_cons_succ, printI, ps_len, hg]
            refine callW_imm c2 ?_
            simp (disch := omega) [br_yes, br_no, wrap_i64, wrap_u8, wrap_i32, List.getElem?_cons_zero, List.getElem?_cons_succ, printI, ps_len, hg]
            refine callW_imm c3 ?_
            simp (disch := omega) [br_yes, br_no, wrap_i64, wrap_u8, wrap_i32, List.getElem?_cons_zero, List.getElem?_cons_succ, ps_len, hg]
            refine callW_imm c4 ?_
            simp (disch := omega) [br_yes, br_no, wrap_i64, wrap_u8, wrap_i32, List.getElem?_cons_zero, List.getElem?_cons_succ]
            refine ⟨rfl, ?_⟩
            refine loopEnd (i + 1) (by omega) (by omega) ?_
            simp
            exact weak_drop rfl rfl (by simp [EnvLe, getE, look]) (by simp [ObLe, look]) (by simp [roOk])
          · obtain rfl : i = l0.length := by omega
            simp (disch := omega) [br_yes, br_no, wrap_i64, wrap_u8, wrap_i32, List.getElem?_cons_zero, List.getElem?_cons_succ]
            refine callW_imm hA ?_
            simp
        | some p =>
          simp (disch := omega) [br_yes, br_no, wrap_i64, wrap_u8, wrap_i32, List.getElem?_cons_zero, List.getElem?_cons_succ, foundI, Pm.iv]
          refine callW_imm (fn_rFind l0 n (by omega)) ?_
          rw [hf]
          simp (disch := omega) [br_yes, br_no, wrap_i64, wrap_u8, wrap_i32, List.getElem?_cons_zero, List.getElem?_cons_succ, foundI, Pm.iv]
          have hpm : p ∈ l0 := List.mem_of_find?_eq_some hf
          have fp : Fit [p] := ⟨fun q hq => by rw [List.mem_singleton.1 hq]; exact f0.n p hpm, fun q hq => by rw [List.mem_singleton.1 hq]; exact f0.v p hpm, fun q hq => by rw [List.mem_singleton.1 hq]; exact f0.t p hpm⟩
          refine callW_imm (fn_rSame [p] [p] (by simp) (by simp) fp fp) ?_
          simp (disch := omega) [br_yes, br_no, wrap_i64, wrap_u8, wrap_i32, List.getElem?_cons_zero, List.getElem?_cons_succ]
          refine callW_imm (fn_CheckAll l0 (by omega) f0) ?_
          simp (disch := omega) [br_yes, br_no, wrap_i64, wrap_u8, wrap_i32, List.getElem?_cons_zero, List.getElem?_cons_succ]
          refine callW_imm (fn_rCheckAll l0 (by omega) f0) ?_
          simp (disch := omega) [br_yes, br_no, wrap_i64, wrap_u8, wrap_i32, List.getElem?_cons_zero, List.getElem?_cons_succ]
          refine callW_imm (fn_Name n (by omega)) ?_
          simp (disch := omega) [br_yes, br_no, wrap_i64, wrap_u8, wrap_i32, List.getElem?_cons_zero, List.getElem?_cons_succ]
          refine callW_imm (fn_rName n (by omega)) ?_
          simp (disch := omega) [br_yes, br_no, wrap_i64, wrap_u8, wrap_i32, List.getElem?_cons_zero, List.getElem?_cons_succ]
          refine callW_imm (fn_Own l1 (by omega) f1) ?_
          simp (disch := omega) [br_yes, br_no, wrap_i64, wrap_u8, wrap_i32, List.getElem?_cons_zero, List.getElem?_cons_succ]
          refine callW_imm (fn_Same l0 l1 (by omega) (by omega) f0 f1) ?_
          simp (disch := omega) [br_yes, br_no, wrap_i64, wrap_u8, wrap_i32, List.getElem?_cons_zero, List.getElem?_cons_succ]
          refine callW_imm (fn_rSame l0 l1 (by omega) (by omega) f0 f1) ?_
          simp (disch := omega) [br_yes, br_no, wrap_i64, wrap_u8, wrap_i32, List.getElem?_cons_zero, List.getElem?_cons_succ]
          refine ⟨rfl, ?_⟩
          refine loopU hm [] (fun i : Nat => [(14, .val (.int .i64 i))]) (fun i => [(12, .box [.val (.str p.n), .val (.slice (ts p.v))]), (10, .box [.val (.str p.n), .val (.slice (ts p.v))])]) (fun i => i ≤ l0.length) (fun i => l0.length - i) 0 (by omega) ?_ ?_
          · simp
            exact weak_drop rfl rfl (by simp [EnvLe, getE, look]) (by simp [ObLe, look]) (by simp [roOk])
          intro i hi
          simp [ps_len]
          by_cases h : i < l0.length
          · obtain ⟨p', hp⟩ : ∃ p, l0[i] = p := ⟨_, rfl⟩
            have hm' : p' ∈ l0 := hp ▸ List.getElem_mem h
            have hn' := f0.n p' hm'
            have hg := ps_get h hp
            have c1 := fn_Print p' (by omega)
            have c2 := fn_rPrint p' (by omega)
            have c3 := fn_Check p' (by omega)
            have c4 := fn_rCheck p' (by omega)
            simp only [Pm.iv] at c1 c2 c3 c4
            simp (disch := omega) [br_yes, br_no, wrap_i64, wrap_u8, wrap_i32, List.getElem?_cons_zero, List.getElem?_cons_succ, ps_len, hg]
            refine callW_imm c1 ?_
            simp (disch := omega) [br_yes, br_no, wrap_i64, wrap_u8, wrap_i32, List.getElem?_cons_zero, List.getElem?_cons_succ, printI, ps_len, hg]
            refine callW_imm c2 ?_
            simp (disch := omega) [br_yes, br_no, wrap_i64, wrap_u8, wrap_i32, List.getElem?_cons_zero, List.getElem?_cons_succ, printI, ps_len, hg]
            refine callW_imm c3 ?_
            simp (disch := omega) [br_yes, br_no, wrap_i64, wrap_u8, wrap_i32, List.getElem?_cons_zero, List.getElem?_cons_succ, ps_len, hg]
            refine callW_imm c4 ?_
            simp (disch := omega) [br_yes, br_no, wrap_i64, wrap_u8, wrap_i32, List.getElem?_cons_zero, List.getElem?_cons_succ]
            refine ⟨rfl, ?_⟩
            refine loopEnd (i + 1) (by omega) (by omega) ?_
            simp
            exact weak_drop rfl rfl (by simp [EnvLe, getE, look]) (by simp [ObLe, look]) (by simp [roOk])
          · obtain rfl : i = l0.length := by omega
            simp (disch := omega) [br_yes, br_no, wrap_i64, wrap_u8, wrap_i32, List.getElem?_cons_zero, List.getElem?_cons_succ]
            refine callW_imm hA ?_
            simp
end Go.Vs.YthcljcjkfhiicaaGreatDoor
namespace Go.Vs.YthcljcjkfhiicaaGreatDoor
set_option linter.unusedSimpArgs false
set_option linter.unusedVariables false
open Go.Proofs Go.Vs.U8 Go.Vs.Pa
theorem strs_ts : ∀ {rows : List (List IV)}, (∀ row ∈ rows, Sh .str row) → ∃ v, rows = ts v
  | [], _ => ⟨[], rfl⟩
  | r :: rs, h => by
    obtain ⟨s, hs, _⟩ := h r (by simp)
    obtain ⟨v, hv⟩ := strs_ts (rows := rs) (fun x hx => h x (by simp [hx]))
    exact ⟨s :: v, by rw [hs, hv]; rfl⟩
theorem params_ps : ∀ {rows : List (List IV)}, (∀ row ∈ rows, Sh (.struct [.str, .slice .str]) row) → ∃ l, rows = ps l
  | [], _ => ⟨[], rfl⟩
  | r :: rs, h => by
    obtain ⟨a, b, rfl, ⟨s, rfl, _⟩, c, d, rfl, ⟨rows', rfl, _, hr⟩, hd⟩ := h r (by simp)
    have hd : d = [] := hd
    subst hd
    obtain ⟨v, rfl⟩ := strs_ts hr
    obtain ⟨l, hl⟩ := params_ps (rows := rs) (fun x hx => h x (by simp [hx]))
    exact ⟨⟨s, v⟩ :: l, by rw [hl]; rfl⟩
def scTells : List Sc := [.arr 2 (.slice (.struct [.str, .slice .str])), .str]
theorem ParamTells_true (args : List IV) (h : Args scTells args) : Fn G Tryz.prog k_law17_ParamTells args (.bool true) := by
  obtain ⟨v, b, rfl, ⟨l, rfl, q, rfl, hq, hp⟩, w, c, rfl, ⟨s, hs, _⟩, hc⟩ := h
  have hc : c = [] := hc
  subst hc
  simp only [List.cons.injEq, and_true] at hs
  subst hs
  match q, hq with
  | [q0, q1], _ =>
    obtain ⟨r0, rfl, _, h0⟩ := hp q0 (by simp)
    obtain ⟨r1, rfl, _, h1⟩ := hp q1 (by simp)
    obtain ⟨l0, rfl⟩ := params_ps h0
    obtain ⟨l1, rfl⟩ := params_ps h1
    exact fn_ParamTells l0 l1 s
end Go.Vs.YthcljcjkfhiicaaGreatDoor
