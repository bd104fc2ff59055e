/- The walk of the statement LineTells. No conditions. -/
import Derived.Test.YthcljcjkfhiicaaGreatDoorCG
set_option linter.unusedVariables false
set_option linter.unusedSimpArgs false
namespace Go.Vs.YthcljcjkfhiicaaGreatDoor
set_option linter.unusedSimpArgs false
set_option linter.unusedVariables false
open Go.Proofs Go.Vs.U8 Go.Vs.Pa
set_option maxRecDepth 100000
set_option maxHeartbeats 64000000
theorem gotI_eq (o : Option Ln) : gotI o = .tuple [.agg [.str (o.getD ln0).n, .slice (ps (o.getD ln0).p), .str (o.getD ln0).v], .bool o.isSome] := by
  cases o <;> rfl
theorem get_fit {l : List Ln} {n : Str} (h : FitL l) : FitX ((getL l n).getD ln0) := by
  cases hg : getL l n with
  | none => exact fit_ln0
  | some y => exact h y (List.mem_of_find?_eq_some hg)
theorem drop_fit {l : List Ln} {n : Str} (h : FitL l) : FitL (dropL l n) := fun x hx => h x (List.mem_filter.1 hx).1
theorem setGo_mem (x : Ln) : ∀ (l : List Ln) (d : Bool) (y : Ln), y ∈ (setGo x l d).1 → y = x ∨ y ∈ l
  | [], d, y, h => by simp [setGo] at h
  | z :: r, d, y, h => by
    cases hz : hasL x.n z <;> cases d <;> simp [setGo, hz] at h
    · rcases h with rfl | h
      · exact .inr (by simp)
      · rcases setGo_mem x r false y h with h | h
        · exact .inl h
        · exact .inr (by simp [h])
    · rcases h with rfl | h
      · exact .inr (by simp)
      · rcases setGo_mem x r true y h with h | h
        · exact .inl h
        · exact .inr (by simp [h])
    · rcases h with rfl | h
      · exact .inl rfl
      · rcases setGo_mem x r true y h with h | h
        · exact .inl h
        · exact .inr (by simp [h])
    · rcases setGo_mem x r true y h with h | h
      · exact .inl h
      · exact .inr (by simp [h])
theorem set_fit {l : List Ln} {x : Ln} (h : FitL l) (hx : FitX x) : FitL (setL l x) := by
  intro y hy
  unfold setL at hy
  split at hy
  · rcases setGo_mem x l false y hy with rfl | hy
    · exact hx
    · exact h y hy
  · rcases List.mem_append.1 hy with hy | hy
    · rcases setGo_mem x l false y hy with rfl | hy
      · exact hx
      · exact h y hy
    · rw [List.mem_singleton.1 hy]; exact hx
theorem set_len (l : List Ln) (x : Ln) : (setL l x).length ≤ l.length + 1 := by
  have := setGo_len x l false
  unfold setL
  split
  · omega
  · simp; omega
theorem drop_len (l : List Ln) (n : Str) : (dropL l n).length ≤ l.length := List.length_filter_le _ _
theorem fn_LineTells (l : List Ln) (x : Ln) (n : Str) : Fn G Tryz.prog k_law18_LineTells [.slice (ls l), x.iv, .str n] (.bool true) := by
  refine fn_intro hm ok_law18_LineTells (by simp) ?_
  have hA := fn_lawake
  have e1 : ls [x] = [[.str x.n, .slice (ps x.p), .str x.v]] := rfl
  have hS2 := fn_lSmall [x]
  rw [e1] at hS2
  simp [c_law18_LineTells, r_law18_LineTells, Ln.iv]
  refine callW_imm (fn_lSmall l) ?_
  cases hs1 : smallX l with
  | false =>
    simp (disch := omega) [br_yes, br_no, wrap_i64, wrap_u8, wrap_i32, List.getElem?_cons_zero, List.getElem?_cons_succ]
    refine callW_imm hA ?_
    simp
  | true =>
    simp (disch := omega) [br_yes, br_no, wrap_i64, wrap_u8, wrap_i32, List.getElem?_cons_zero, List.getElem?_cons_succ]
    refine callW_imm hS2 ?_
    cases hs2 : smallX [x] with
    | false =>
      simp (disch := omega) [br_yes, br_no, wrap_i64, wrap_u8, wrap_i32, List.getElem?_cons_zero, List.getElem?_cons_succ]
      refine callW_imm hA ?_
      simp
    | true =>
      by_cases h4 : 40 < n.length
      · simp (disch := omega) [br_yes, br_no, wrap_i64, wrap_u8, wrap_i32, List.getElem?_cons_zero, List.getElem?_cons_succ]
        refine callW_imm hA ?_
        simp
      · obtain ⟨hl, hf⟩ := smallX_fit hs1
        obtain ⟨_, hfx⟩ := smallX_fit hs2
        have fx : FitX x := hfx x (by simp)
        obtain ⟨u, hu⟩ : ∃ u, (getL l n).getD ln0 = u := ⟨_, rfl⟩
        have fu : FitX u := hu ▸ get_fit hf
        have eu : ls [u] = [[.str u.n, .slice (ps u.p), .str u.v]] := rfl
        have hO2 := fn_lOwn [x] (by simp) hfx
        have hPr := fn_lPrint x fx
        have hrPr := fn_lrPrint x fx
        have hG := fn_lGet l n (by omega) hf
        have hrG := fn_lrGet l n (by omega)
        rw [gotI_eq, hu] at hG hrG
        have hSet := fn_lSet l x (by omega) hf fx
        have hrSet := fn_lrSet l x (by omega)
        have hDrop := fn_lDrop l n (by omega) hf
        have hrDrop := fn_lrDrop l n (by omega)
        have hC := fn_lCheck x fx
        have hrC := fn_lrCheck x fx
        have hBu := fn_lBack [u] (by simp) (fitL1 fu)
        have hSu := fn_rlSame [u] [u] (by simp) (by simp) (fitL1 fu) (fitL1 fu)
        have hCo := fn_lCount l n (by omega)
        have hrCo := fn_lrCount l n (by omega)
        have fset := set_fit hf fx
        have fdrop : FitL (dropL l n) := drop_fit hf
        have lset := set_len l x
        have ldrop := drop_len l n
        have hBs := fn_lBack (setL l x) (by omega) fset
        have hSs := fn_rlSame (setL l x) (setL l x) (by omega) (by omega) fset fset
        have hBd := fn_lBack (dropL l n) (by omega) fdrop
        have hSd := fn_rlSame (dropL l n) (dropL l n) (by omega) (by omega) fdrop fdrop
        have hS3 := fn_lSame l (setL l x) (by omega) (by omega) hf fset
        have hS4 := fn_rlSame l (setL l x) (by omega) (by omega) hf fset
        have hS5 := fn_lSame l (dropL l n) (by omega) (by omega) hf fdrop
        have hS6 := fn_rlSame l (dropL l n) (by omega) (by omega) hf fdrop
        have hBl := fn_lBack l (by omega) hf
        have hSl := fn_rlSame l l (by omega) (by omega) hf hf
        rw [e1] at hO2
        rw [eu] at hBu hSu
        simp only [Ln.iv, printXI] at hPr hrPr hSet hrSet hC hrC
        simp (disch := omega) [br_yes, br_no, wrap_i64, wrap_u8, wrap_i32, List.getElem?_cons_zero, List.getElem?_cons_succ]
        refine callW_imm (fn_lOwn l (by omega) hf) ?_
        simp (disch := omega) [br_yes, br_no, wrap_i64, wrap_u8, wrap_i32, List.getElem?_cons_zero, List.getElem?_cons_succ]
        refine callW_imm hO2 ?_
        simp
        refine ⟨rfl, ?_⟩
        refine callW_imm hPr ?_
        simp
        refine callW_imm hrPr ?_
        simp
        refine callW_imm hG ?_
        simp
        refine callW_imm hrG ?_
        simp
        refine callW_imm hSet ?_
        simp
        refine callW_imm hDrop ?_
        simp
        refine callW_imm hC ?_
        simp
        refine callW_imm hrC ?_
        simp
        refine callW_imm hBu ?_
        simp
        refine callW_imm hSu ?_
        simp
        refine callW_imm hCo ?_
        simp
        refine callW_imm hrCo ?_
        simp
        refine callW_imm hBs ?_
        simp
        refine callW_imm hrSet ?_
        simp
        refine callW_imm hSs ?_
        simp
        refine callW_imm hBd ?_
        simp
        refine callW_imm hrDrop ?_
        simp
        refine callW_imm hSd ?_
        simp
        refine callW_imm hS3 ?_
        simp
        refine callW_imm hrSet ?_
        simp
        refine callW_imm hS4 ?_
        simp
        refine callW_imm hS5 ?_
        simp
        refine callW_imm hrDrop ?_
        simp
        refine callW_imm hS6 ?_
        simp
        refine callW_imm hBl ?_
        simp
        refine callW_imm hSl ?_
        simp
        refine callW_imm hA ?_
        simp
        rfl
theorem strs_tsL : ∀ {rows : List (List IV)}, (∀ row ∈ rows, Sh .str row) → ∃ v, rows = ts v
  | [], _ => ⟨[], rfl⟩
  | r :: rs, h => by
    obtain ⟨s, hs, _⟩ := h r (by simp)
    obtain ⟨v, hv⟩ := strs_tsL (rows := rs) (fun x hx => h x (by simp [hx]))
    exact ⟨s :: v, by rw [hs, hv]; rfl⟩
theorem params_psL : ∀ {rows : List (List IV)}, (∀ row ∈ rows, Sh (.struct [.str, .slice .str]) row) → ∃ l, rows = ps l
  | [], _ => ⟨[], rfl⟩
  | r :: rs, h => by
    obtain ⟨a, b, rfl, ⟨s, rfl, _⟩, c, d, rfl, ⟨rows', rfl, _, hr⟩, hd⟩ := h r (by simp)
    have hd : d = [] := hd
    subst hd
    obtain ⟨v, rfl⟩ := strs_tsL hr
    obtain ⟨l, hl⟩ := params_psL (rows := rs) (fun x hx => h x (by simp [hx]))
    exact ⟨⟨s, v⟩ :: l, by rw [hl]; rfl⟩
def scP : Sc := .struct [.str, .slice .str]
def scL : Sc := .struct [.str, .slice (.struct [.str, .slice .str]), .str]
theorem line_of : ∀ {row : List IV}, Sh scL row → ∃ x : Ln, row = [.str x.n, .slice (ps x.p), .str x.v]
  | r, h => by
    obtain ⟨a, b, rfl, ⟨s, rfl, _⟩, c, d, rfl, ⟨rows', rfl, _, hr⟩, e, f, rfl, ⟨t, rfl, _⟩, hf⟩ := h
    have hf : f = [] := hf
    subst hf
    obtain ⟨l, rfl⟩ := params_psL hr
    exact ⟨⟨s, l, t⟩, rfl⟩
theorem lines_of : ∀ {rows : List (List IV)}, (∀ row ∈ rows, Sh scL row) → ∃ l, rows = ls l
  | [], _ => ⟨[], rfl⟩
  | r :: rs, h => by
    obtain ⟨x, rfl⟩ := line_of (h r (by simp))
    obtain ⟨l, hl⟩ := lines_of (rows := rs) (fun x hx => h x (by simp [hx]))
    exact ⟨x :: l, by rw [hl]; rfl⟩
theorem LineTells_true (args : List IV) (h : Args [.slice scL, scL, .str] args) : Fn G Tryz.prog k_law18_LineTells args (.bool true) := by
  obtain ⟨v, b, rfl, ⟨r0, hr0, _, h0⟩, w, c, rfl, ⟨r1, rfl, h1⟩, x, d, rfl, ⟨s, hs, _⟩, hd⟩ := h
  have hd : d = [] := hd
  subst hd
  simp only [List.cons.injEq, and_true] at hr0 hs
  subst hr0 hs
  obtain ⟨l, rfl⟩ := lines_of h0
  obtain ⟨y, rfl⟩ := line_of (row := r1) h1
  exact fn_LineTells l y s
end Go.Vs.YthcljcjkfhiicaaGreatDoor
