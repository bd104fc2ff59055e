/- The walk of the statement RelateBack. No conditions. -/
import Derived.Test.YtbchceojmblkkaaGreatDoorED
import Derived.Test.YtbchceojmblkkaaGreatDoorEF
set_option linter.unusedVariables false
set_option linter.unusedSimpArgs false
namespace Go.Vs.YtbchceojmblkkaaGreatDoor
set_option linter.unusedSimpArgs false
set_option linter.unusedVariables false
open Go.Proofs Go.Vs.U8 Go.Vs.Pa Go.Vs.Nu Go.Lib
set_option maxRecDepth 100000
set_option maxHeartbeats 32000000
theorem fn_lOwnO (l : List Ln) (hl : l.length < 100000) (hf : FitL l) : FnR G Tryz.prog k_law18_Own [.slice (ls l)] (.own 3 (ls l)) := by
  refine fn_intro hm ok_law18_Own (by simp) ?_
  simp [c_law18_Own, r_law18_Own, ls_len]
  refine loopU hm [] (fun i : Nat => [(4, .val (.int .i64 i)), (3, .own 3 i)]) (fun i => [(3, .arr i 3 (ls (l.take i)))]) (fun i => i ≤ l.length) (fun i => l.length - i) 0 (by omega) ?_ ?_
  · simp [ls]
    exact Weak.trans (weak_adopt (k := 3) 3 3 (by simp) (by simp [getE, look])) (weak_drop rfl rfl (by simp [St.adopt, EnvLe, getE, look, put, eraseE, SV.erase]) (by simp [St.adopt, ObLe, look, put, eraseO, Ob.erase]) (by simp [St.adopt, roOk]))
  intro i hi
  simp [ls_len]
  by_cases h : i < l.length
  · obtain ⟨x, hx⟩ : ∃ x, l[i] = x := ⟨_, rfl⟩
    have hg := ls_get h hx
    have ht := ls_take_succ h hx
    have fx := hf x (hx ▸ List.getElem_mem h)
    have hB := fn_Own x.p fx.p fx.f
    simp (disch := omega) [br_yes, br_no, wrap_i64, wrap_u8, wrap_i32, List.getElem?_cons_zero, List.getElem?_cons_succ, ls_len, hg]
    refine callW_imm hB ?_
    simp (disch := omega) [br_yes, br_no, wrap_i64, wrap_u8, wrap_i32, List.getElem?_cons_zero, List.getElem?_cons_succ, ls_len, hg]
    refine ⟨by omega, rfl, ?_⟩
    refine loopEnd (i + 1) (by omega) (by omega) ?_
    simp [ht]
    exact weak_drop rfl rfl (by simp [EnvLe, getE, look]) (by simp [ObLe, look]) (by simp [roOk])
  · obtain rfl : i = l.length := by omega
    simp (disch := omega) [br_yes, br_no, wrap_i64, wrap_u8, wrap_i32, List.getElem?_cons_zero, List.getElem?_cons_succ]
theorem fit_rel {r : Rl} (h : writE r = 0) : FitX (relL r) := by
  obtain ⟨_, h2⟩ := writE_zero h
  obtain ⟨_, h3, _⟩ := (uidB_iff r.2).1 h2
  exact fit_one (by decide) (by decide) (by omega) (by have := (kindN_fine r.1).1; omega)
theorem fn_RelateBack (l : List Ln) (r : Rl) (h0 : 0 ≤ r.1) : Fn G Tryz.prog k_law28_RelateBack [.slice (ls l), .agg [.int .u8 r.1, .str r.2]] (.bool true) := by
  refine fn_intro hm ok_law28_RelateBack (by simp) ?_
  have hA := fn_eawake
  obtain ⟨rk, ru⟩ := r
  simp only at h0
  simp [c_law28_RelateBack, r_law28_RelateBack]
  refine callW_imm (fn_lSmall l) ?_
  cases hs1 : smallX l with
  | false =>
    simp (disch := omega) [br_yes, br_no, wrap_i64, wrap_u8, wrap_i32, List.getElem?_cons_zero, List.getElem?_cons_succ]
    refine callW_imm hA ?_
    simp
  | true =>
    by_cases h60 : 60 < ru.length
    · simp (disch := omega) [br_yes, br_no, wrap_i64, wrap_u8, wrap_i32, List.getElem?_cons_zero, List.getElem?_cons_succ]
      refine callW_imm hA ?_
      simp
    · obtain ⟨hl, hf⟩ := smallX_fit hs1
      have hs : ru.length < 1000000 := by omega
      have hW := fn_Write (rk, ru) hs
      have hU := fn_UID ru hs
      by_cases he : writE (rk, ru) = 0
      · obtain ⟨w1, w2⟩ := writE_zero he
        have hwr : writR (rk, ru) = (relL (rk, ru), 0) := by unfold writR; rw [if_pos he]
        rw [hwr] at hW
        have fx := fit_rel he
        have hck := rel_check he
        have hrb := rel_back (r := (rk, ru)) h0 he
        have hlp := line_print hck
        obtain ⟨x, hx⟩ : ∃ x, relL (rk, ru) = x := ⟨_, rfl⟩
        rw [hx] at hW fx hck hrb hlp
        have htold : toldB (rk, ru) x = true := by unfold toldB; rw [hrb]; simp
        have hRd := fn_Read x fx
        rw [hrb] at hRd
        have hPr := fn_lPrint x fx
        have hPa := fn_lParse (printX x) (printX_len hck)
        rw [hlp] at hPa
        have hC := fn_lCheck x fx
        rw [hck] at hC
        have fm : FitL (l ++ [x]) := fun y hy => by
          rcases List.mem_append.1 hy with h | h
          · exact hf y h
          · rw [List.mem_singleton.1 h]; exact fx
        have hO := fn_lOwn l (by omega) hf
        have hOO := fn_lOwnO l (by omega) hf
        have hSx := fn_lSame [x] [x] (by simp) (by simp) (fitL1 fx) (fitL1 fx)
        have hH1 := fn_hasR (l ++ [x]) (rk, ru) (by simp; omega) fm
        have hR1 := fn_dropR (l ++ [x]) (rk, ru) (by simp; omega) fm
        have hR2 := fn_dropR l (rk, ru) (by omega) hf
        rw [hasR_snoc htold] at hH1
        rw [dropR_snoc htold] at hR1
        have hdl : (dropR l (rk, ru)).length ≤ l.length := List.length_filter_le _ _
        have fd : FitL (dropR l (rk, ru)) := fun y hy => hf y (List.mem_filter.1 hy).1
        have hH2 := fn_hasR (dropR l (rk, ru)) (rk, ru) (by omega) fd
        rw [hasR_drop] at hH2
        have hSd := fn_lSame (dropR l (rk, ru)) (dropR l (rk, ru)) (by omega) (by omega) fd fd
        have e1 : ls [x] = [[.str x.n, .slice (ps x.p), .str x.v]] := rfl
        rw [e1] at hSx
        rw [ls_snoc] at hH1 hR1
        simp only [printXI, lineI, hck, if_true, relRI, Ln.iv, decide_true] at hW hRd hPr hPa hC hSx hSd
        simp (disch := omega) [br_yes, br_no, wrap_i64, wrap_u8, wrap_i32, List.getElem?_cons_zero, List.getElem?_cons_succ]
        refine callW_imm hW ?_
        simp (disch := omega) [br_yes, br_no, wrap_i64, wrap_u8, wrap_i32, List.getElem?_cons_zero, List.getElem?_cons_succ]
        refine callW_imm hRd ?_
        simp (disch := omega) [br_yes, br_no, wrap_i64, wrap_u8, wrap_i32, List.getElem?_cons_zero, List.getElem?_cons_succ]
        refine callW_imm hPr ?_
        simp (disch := omega) [br_yes, br_no, wrap_i64, wrap_u8, wrap_i32, List.getElem?_cons_zero, List.getElem?_cons_succ]
        refine callW_imm hPa ?_
        simp (disch := omega) [br_yes, br_no, wrap_i64, wrap_u8, wrap_i32, List.getElem?_cons_zero, List.getElem?_cons_succ]
        refine callW_imm hO ?_
        simp (disch := omega) [br_yes, br_no, wrap_i64, wrap_u8, wrap_i32, List.getElem?_cons_zero, List.getElem?_cons_succ]
        refine callW_own hOO ?_
        simp (disch := omega) [br_yes, br_no, wrap_i64, wrap_u8, wrap_i32, List.getElem?_cons_zero, List.getElem?_cons_succ, ls_len]
        refine ⟨by omega, rfl, ?_⟩
        refine callW_imm hC ?_
        simp (disch := omega) [br_yes, br_no, wrap_i64, wrap_u8, wrap_i32, List.getElem?_cons_zero, List.getElem?_cons_succ]
        refine callW_imm hSx ?_
        simp (disch := omega) [br_yes, br_no, wrap_i64, wrap_u8, wrap_i32, List.getElem?_cons_zero, List.getElem?_cons_succ]
        refine callW_imm hH1 ?_
        simp (disch := omega) [br_yes, br_no, wrap_i64, wrap_u8, wrap_i32, List.getElem?_cons_zero, List.getElem?_cons_succ]
        refine callW_imm hR1 ?_
        simp (disch := omega) [br_yes, br_no, wrap_i64, wrap_u8, wrap_i32, List.getElem?_cons_zero, List.getElem?_cons_succ]
        refine callW_imm hH2 ?_
        simp (disch := omega) [br_yes, br_no, wrap_i64, wrap_u8, wrap_i32, List.getElem?_cons_zero, List.getElem?_cons_succ]
        refine callW_imm hR1 ?_
        simp (disch := omega) [br_yes, br_no, wrap_i64, wrap_u8, wrap_i32, List.getElem?_cons_zero, List.getElem?_cons_succ]
        refine callW_imm hR2 ?_
        simp (disch := omega) [br_yes, br_no, wrap_i64, wrap_u8, wrap_i32, List.getElem?_cons_zero, List.getElem?_cons_succ]
        refine callW_imm hSd ?_
        simp (disch := omega) [br_yes, br_no, wrap_i64, wrap_u8, wrap_i32, List.getElem?_cons_zero, List.getElem?_cons_succ]
        refine callW_imm hA ?_
        simp (disch := omega) [br_yes, br_no, wrap_i64, wrap_u8, wrap_i32, List.getElem?_cons_zero, List.getElem?_cons_succ]
        rfl
      · have hwr : writR (rk, ru) = (lnO, writE (rk, ru)) := by unfold writR; rw [if_neg he]
        rw [hwr] at hW
        simp only [Ln.iv, lnO, ps, List.map_nil] at hW
        simp (disch := omega) [br_yes, br_no, wrap_i64, wrap_u8, wrap_i32, List.getElem?_cons_zero, List.getElem?_cons_succ]
        refine callW_imm hW ?_
        simp (disch := omega) [br_yes, br_no, wrap_i64, wrap_u8, wrap_i32, List.getElem?_cons_zero, List.getElem?_cons_succ, he]
        refine callW_imm hU ?_
        cases hu : uidB ru with
        | false =>
          simp (disch := omega) [br_yes, br_no, wrap_i64, wrap_u8, wrap_i32, List.getElem?_cons_zero, List.getElem?_cons_succ]
          refine callW_imm hA ?_
          simp (disch := omega) [br_yes, br_no, wrap_i64, wrap_u8, wrap_i32, List.getElem?_cons_zero, List.getElem?_cons_succ]
        | true =>
          have h4 : 4 ≤ rk := by
            unfold writE at he
            by_cases h : 4 ≤ rk
            · exact h
            · rw [if_neg h, if_pos hu] at he; exact absurd rfl he
          simp (disch := omega) [br_yes, br_no, wrap_i64, wrap_u8, wrap_i32, List.getElem?_cons_zero, List.getElem?_cons_succ]
          refine callW_imm hA ?_
          simp (disch := omega) [br_yes, br_no, wrap_i64, wrap_u8, wrap_i32, List.getElem?_cons_zero, List.getElem?_cons_succ]
def scR : Sc := .struct [.int .u8, .str]
theorem RelateBack_true (args : List IV) (h : Args [.slice scL, scR] args) : Fn G Tryz.prog k_law28_RelateBack args (.bool true) := by
  obtain ⟨v, b, rfl, ⟨r0, hr0, _, h0⟩, w, c, rfl, ⟨r1, rfl, h1⟩, hc⟩ := h
  have hc : c = [] := hc
  subst hc
  simp only [List.cons.injEq, and_true] at hr0
  subst hr0
  obtain ⟨l, rfl⟩ := lines_of h0
  obtain ⟨a, b, rfl, ⟨k, rfl, hk⟩, d, e, rfl, ⟨s, rfl, _⟩, he⟩ := h1
  have he : e = [] := he
  subst he
  refine fn_RelateBack l (k, s) ?_
  simp [Lit.wf] at hk
  have h1 : IntKind.u8.min = 0 := by rfl
  simp only [h1] at hk
  exact hk.1
end Go.Vs.YtbchceojmblkkaaGreatDoor
