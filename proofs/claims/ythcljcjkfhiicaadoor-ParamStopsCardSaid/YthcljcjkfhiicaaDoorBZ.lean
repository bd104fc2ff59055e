/- The walks of the statements ParamBack and ParamStops. No conditions. -/
import Derived.Test.YthcljcjkfhiicaaDoorBX
import Derived.Test.YthcljcjkfhiicaaDoorBD
import Derived.Test.YthcljcjkfhiicaaDoorBT
set_option linter.unusedVariables false
set_option linter.unusedSimpArgs false
namespace Go.Vs.YthcljcjkfhiicaaDoor
set_option linter.unusedSimpArgs false
set_option linter.unusedVariables false
open Go.Proofs Go.Vs.U8 Go.Vs.Pa
set_option maxRecDepth 100000
set_option maxHeartbeats 8000000
theorem small_fit' {l : List Pm} (h : smallB l = true) : l.length ≤ 10 ∧ Fit l := by
  simp [smallB, smP, smV] at h
  exact ⟨h.1, fun p hp => by have := (h.2 p hp).1.1; omega, fun p hp => by have := (h.2 p hp).1.2; omega, fun p hp x hx => by have := (h.2 p hp).2 x hx; omega⟩
theorem valid_sml {l : List Pm} (h : checkAll l = 0) : l.length ≤ 6 ∧ Sml l := by
  obtain ⟨h1, h2⟩ := checkAll_le h
  exact ⟨h1, fun p hp => by obtain ⟨a, _, b, c⟩ := checkP_le (h2 p hp); exact ⟨a, b, c⟩⟩
theorem prints_le {l : List Pm} (h : checkAll l = 0) : (printsP l).length ≤ 4584 := by
  obtain ⟨h1, h2⟩ := checkAll_le h
  have := prints_len l h2
  omega
theorem fn_ParamBack (l : List Pm) (more s : Str) : Fn G Tryd.prog k_law17_ParamBack [.slice (ps l), .str more, .str s] (.bool true) := by
  refine fn_intro hm ok_law17_ParamBack (by simp) ?_
  have hA := fn_awake
  simp [c_law17_ParamBack, r_law17_ParamBack]
  refine callW_imm (fn_Small l) ?_
  cases hsm : smallB l with
  | false =>
    simp (disch := omega) [br_yes, br_no, wrap_i64, wrap_u8, wrap_i32, List.getElem?_cons_zero, List.getElem?_cons_succ]
    refine callW_imm hA ?_
    simp
  | true =>
    by_cases h3 : 300 < more.length
    · simp (disch := omega) [br_yes, br_no, wrap_i64, wrap_u8, wrap_i32, List.getElem?_cons_zero, List.getElem?_cons_succ]
      refine callW_imm hA ?_
      simp
    · by_cases h4 : 300 < s.length
      · simp (disch := omega) [br_yes, br_no, wrap_i64, wrap_u8, wrap_i32, List.getElem?_cons_zero, List.getElem?_cons_succ]
        refine callW_imm hA ?_
        simp
      · obtain ⟨hl, hf⟩ := small_fit' hsm
        simp (disch := omega) [br_yes, br_no, wrap_i64, wrap_u8, wrap_i32, List.getElem?_cons_zero, List.getElem?_cons_succ]
        refine callW_imm (fn_Own l (by omega) hf) ?_
        simp (disch := omega) [br_yes, br_no, wrap_i64, wrap_u8, wrap_i32, List.getElem?_cons_zero, List.getElem?_cons_succ]
        refine callW_imm (fn_PrintAll l (by omega) hf) ?_
        simp [printsI]
        refine cutU hm [] [] (fun _ : Unit => []) (fun _ => []) (fun _ => True) ?_ ?_
        · by_cases hc : checkAll l = 0
          · have hpl := prints_le hc
            have hP := fn_Parse (printsP l ++ [58] ++ more) (by simp; omega)
            have e : printsP l ++ [58] ++ more = printsP l ++ (58 :: more) := by simp
            have hpp := parse_print hc (rest := 58 :: more) (fun c hc => by simp at hc; subst hc; rfl)
            rw [e, hpp, ← e] at hP
            simp (disch := omega) [br_yes, br_no, wrap_i64, wrap_u8, wrap_i32, List.getElem?_cons_zero, List.getElem?_cons_succ, hc]
            refine ⟨by omega, by omega, ?_⟩
            simp at hP
            refine callW_imm hP ?_
            simp (disch := omega) [br_yes, br_no, wrap_i64, wrap_u8, wrap_i32, List.getElem?_cons_zero, List.getElem?_cons_succ, parseI]
            refine callW_imm (fn_Own l (by omega) hf) ?_
            simp (disch := omega) [br_yes, br_no, wrap_i64, wrap_u8, wrap_i32, List.getElem?_cons_zero, List.getElem?_cons_succ]
            refine callW_imm (fn_Same l l (by omega) (by omega) hf hf) ?_
            simp (disch := omega) [br_yes, br_no, wrap_i64, wrap_u8, wrap_i32, List.getElem?_cons_zero, List.getElem?_cons_succ]
            refine joinEnd () trivial ?_
            simp
            exact weak_drop rfl rfl (by simp [EnvLe, getE, look, hc]) (by simp [ObLe, look]) (by simp [roOk])
          · simp (disch := omega) [br_yes, br_no, wrap_i64, wrap_u8, wrap_i32, List.getElem?_cons_zero, List.getElem?_cons_succ, hc]
            refine joinEnd () trivial ?_
            simp
            exact weak_drop rfl rfl (by simp [EnvLe, getE, look, hc]) (by simp [ObLe, look]) (by simp [roOk])
        · rintro _ _
          simp
          have hP := fn_Parse s (by omega)
          refine callW_imm hP ?_
          cases hR : parseR s 6 0 [] with
          | no e p =>
            obtain ⟨h1, h2, h3⟩ := parseR_no s 6 0 [] e p (by omega) hR
            obtain ⟨et, ev, he⟩ := errIV_not_nil e [p]
            simp [parseI, he, ps]
            refine callW_imm hA ?_
            simp
          | ok a n =>
            obtain ⟨h1, h2, h3⟩ := parseR_ok s 6 0 [] a n (by omega) (by intro p hp; simp at hp) hR
            simp at h3
            have hv := parse_valid hR
            have hpl := prints_le hv
            have hP2 := fn_Parse (printsP a) (by omega)
            have hpp := parse_print hv (rest := []) (fun c hc => by simp at hc)
            rw [List.append_nil] at hpp
            rw [hpp] at hP2
            simp [parseI]
            refine callW_imm (fn_PrintAll a (by omega) h2.fit) ?_
            simp [printsI, hv]
            refine callW_imm hP2 ?_
            simp [parseI]
            refine callW_imm (fn_Same a a (by omega) (by omega) h2.fit h2.fit) ?_
            simp (disch := omega) [br_yes, br_no, wrap_i64, wrap_u8, wrap_i32, List.getElem?_cons_zero, List.getElem?_cons_succ]
            refine callW_imm hA ?_
            simp
theorem fn_ParamStops (s more : Str) : Fn G Tryd.prog k_law17_ParamStops [.str s, .str more] (.bool true) := by
  refine fn_intro hm ok_law17_ParamStops (by simp) ?_
  have hA := fn_awake
  simp [c_law17_ParamStops, r_law17_ParamStops]
  by_cases h3 : 300 < s.length
  · simp (disch := omega) [br_yes, br_no, wrap_i64, wrap_u8, wrap_i32, List.getElem?_cons_zero, List.getElem?_cons_succ]
    refine callW_imm hA ?_
    simp
  · by_cases h4 : 300 < more.length
    · simp (disch := omega) [br_yes, br_no, wrap_i64, wrap_u8, wrap_i32, List.getElem?_cons_zero, List.getElem?_cons_succ]
      refine callW_imm hA ?_
      simp
    · have hP := fn_Parse s (by omega)
      simp (disch := omega) [br_yes, br_no, wrap_i64, wrap_u8, wrap_i32, List.getElem?_cons_zero, List.getElem?_cons_succ]
      refine callW_imm hP ?_
      cases hR : parseR s 6 0 [] with
      | no e p =>
        obtain ⟨et, ev, he⟩ := errIV_not_nil e [p]
        simp [parseI, he, ps]
        refine callW_imm hA ?_
        simp
      | ok a n =>
        obtain ⟨h1, h2, h3⟩ := parseR_ok s 6 0 [] a n (by omega) (by intro p hp; simp at hp) hR
        simp at h3
        obtain ⟨h5, h6, h7⟩ := parse_stops hR h1 more
        have hP2 := fn_Parse (s.take n ++ [58] ++ more) (by simp; omega)
        have e : s.take n ++ [58] ++ more = s.take n ++ (58 :: more) := by simp
        rw [e, h7, ← e] at hP2
        have tail : ∀ (g : Prop), True := fun _ => trivial
        simp at hP2
        by_cases hn0 : n = 0
        · have ha0 := h6 hn0
          subst hn0 ha0
          have fe : Fit [] := ⟨by simp, by simp, by simp⟩
          by_cases hs0 : 0 < s.length
          · simp (disch := omega) [br_yes, br_no, wrap_i64, wrap_u8, wrap_i32, List.getElem?_cons_zero, List.getElem?_cons_succ, parseI, ps, hs0]
            refine ⟨by omega, ?_⟩
            try simp at hP2
            refine callW_imm hP2 ?_
            simp [parseI, ps]
            refine callW_imm (fn_Same [] [] (by simp) (by simp) fe fe) ?_
            simp (disch := omega) [br_yes, br_no, wrap_i64, wrap_u8, wrap_i32, List.getElem?_cons_zero, List.getElem?_cons_succ]
            refine callW_imm hA ?_
            simp
          · simp (disch := omega) [br_yes, br_no, wrap_i64, wrap_u8, wrap_i32, List.getElem?_cons_zero, List.getElem?_cons_succ, parseI, ps]
            refine ⟨by omega, ?_⟩
            try simp at hP2
            refine callW_imm hP2 ?_
            simp [parseI, ps]
            refine callW_imm (fn_Same [] [] (by simp) (by simp) fe fe) ?_
            simp (disch := omega) [br_yes, br_no, wrap_i64, wrap_u8, wrap_i32, List.getElem?_cons_zero, List.getElem?_cons_succ]
            refine callW_imm hA ?_
            simp
        · by_cases hnl : n < s.length
          · have h58 : s[n] = 58 := by
              rcases h5 (by omega) with h | h
              · rw [List.getElem?_eq_getElem hnl] at h; cases h
              · rw [List.getElem?_eq_getElem hnl] at h; exact Option.some.inj h
            simp (disch := omega) [br_yes, br_no, wrap_i64, wrap_u8, wrap_i32, List.getElem?_cons_zero, List.getElem?_cons_succ, parseI, h58]
            refine ⟨by omega, by omega, by omega, ?_⟩
            refine callW_imm hP2 ?_
            simp [parseI]
            refine callW_imm (fn_Same a a (by omega) (by omega) h2.fit h2.fit) ?_
            simp (disch := omega) [br_yes, br_no, wrap_i64, wrap_u8, wrap_i32, List.getElem?_cons_zero, List.getElem?_cons_succ]
            refine callW_imm hA ?_
            simp
          · simp (disch := omega) [br_yes, br_no, wrap_i64, wrap_u8, wrap_i32, List.getElem?_cons_zero, List.getElem?_cons_succ, parseI]
            refine ⟨by omega, by omega, by omega, ?_⟩
            refine callW_imm hP2 ?_
            simp [parseI]
            refine callW_imm (fn_Same a a (by omega) (by omega) h2.fit h2.fit) ?_
            simp (disch := omega) [br_yes, br_no, wrap_i64, wrap_u8, wrap_i32, List.getElem?_cons_zero, List.getElem?_cons_succ]
            refine callW_imm hA ?_
            simp
theorem strs_ts' : ∀ {rows : List (List IV)}, (∀ row ∈ rows, Sh .str row) → ∃ v, rows = ts v
  | [], _ => ⟨[], rfl⟩
  | r :: rs, h => by
    obtain ⟨s, hs, _⟩ := h r (by simp)
    obtain ⟨v, hv⟩ := strs_ts' (rows := rs) (fun x hx => h x (by simp [hx]))
    exact ⟨s :: v, by rw [hs, hv]; rfl⟩
theorem params_ps' : ∀ {rows : List (List IV)}, (∀ row ∈ rows, Sh (.struct [.str, .slice .str]) row) → ∃ l, rows = ps l
  | [], _ => ⟨[], rfl⟩
  | r :: rs, h => by
    obtain ⟨a, b, rfl, ⟨s, rfl, _⟩, c, d, rfl, ⟨rows', rfl, _, hr⟩, hd⟩ := h r (by simp)
    have hd : d = [] := hd
    subst hd
    obtain ⟨v, rfl⟩ := strs_ts' hr
    obtain ⟨l, hl⟩ := params_ps' (rows := rs) (fun x hx => h x (by simp [hx]))
    exact ⟨⟨s, v⟩ :: l, by rw [hl]; rfl⟩
def scBack : List Sc := [.slice (.struct [.str, .slice .str]), .str, .str]
theorem ParamBack_true (args : List IV) (h : Args scBack args) : Fn G Tryd.prog k_law17_ParamBack args (.bool true) := by
  obtain ⟨v, b, rfl, ⟨r0, hr0, _, h0⟩, w, c, rfl, ⟨m, hm', _⟩, x, d, rfl, ⟨s, hs, _⟩, hd⟩ := h
  have hd : d = [] := hd
  subst hd
  simp only [List.cons.injEq, and_true] at hr0 hm' hs
  subst hr0 hm' hs
  obtain ⟨l0, rfl⟩ := params_ps' h0
  exact fn_ParamBack l0 m s
theorem ParamStops_true (args : List IV) (h : Args [.str, .str] args) : Fn G Tryd.prog k_law17_ParamStops args (.bool true) := by
  obtain ⟨w, c, rfl, ⟨m, hm', _⟩, x, d, rfl, ⟨s, hs, _⟩, hd⟩ := h
  have hd : d = [] := hd
  subst hd
  simp only [List.cons.injEq, and_true] at hm' hs
  subst hm' hs
  exact fn_ParamStops m s
end Go.Vs.YthcljcjkfhiicaaDoor
