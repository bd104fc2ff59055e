/- The walk of the statements of nums: what is printed, and read back. No conditions. -/
import Derived.Test.YtbchceojmblkkaaGreatDoorNM
import Derived.Test.YtbchceojmblkkaaGreatDoorBD
set_option linter.unusedVariables false
set_option linter.unusedSimpArgs false
namespace Go.Vs.YtbchceojmblkkaaGreatDoor
set_option linter.unusedSimpArgs false
set_option linter.unusedVariables false
open Go.Proofs Go.Vs.U8 Go.Vs.Pa Go.Vs.Nu Go.Lib
set_option maxRecDepth 100000
set_option maxHeartbeats 16000000
theorem fn_NumsPrints (l : List Int) (d : List Dn) (hl : ∀ n ∈ l, i64 n) (hd : ∀ x ∈ d, dn64 x) : Fn G Tryz.prog k_law20_NumsPrints [.slice (is l), .slice (dns d)] (.bool true) := by
  refine fn_intro hm ok_law20_NumsPrints (by simp) ?_
  have hA := fn_nawake
  simp [c_law20_NumsPrints, r_law20_NumsPrints, is_len, dns_len]
  by_cases q1 : 30 < l.length
  · simp (disch := omega) [br_yes, br_no, wrap_i64, wrap_u8, wrap_i32, List.getElem?_cons_zero, List.getElem?_cons_succ, is_len, dns_len]
    refine callW_imm hA ?_
    simp
  · by_cases q2 : 30 < d.length
    · simp (disch := omega) [br_yes, br_no, wrap_i64, wrap_u8, wrap_i32, List.getElem?_cons_zero, List.getElem?_cons_succ, is_len, dns_len]
      refine callW_imm hA ?_
      simp
    · have h1 := fn_PrintN l (by omega) hl
      have h2 := fn_rPrintN l (by omega) hl
      have h3 := fn_nOwn d (by omega)
      have h4 := fn_PrintD d (by omega) hd
      have h5 := fn_rPrintD d (by omega) hd
      simp (disch := omega) [br_yes, br_no, wrap_i64, wrap_u8, wrap_i32, List.getElem?_cons_zero, List.getElem?_cons_succ, is_len, dns_len]
      refine loopU hm [] (fun i : Nat => [(5, .val (.int .i64 i))]) (fun _ => []) (fun i => i ≤ d.length) (fun i => d.length - i) 0 (by omega) ?_ ?_
      · simp
        exact weak_drop rfl rfl (by simp [EnvLe, getE, look]) (by simp [ObLe, look]) (by simp [roOk])
      intro i hi
      simp [dns_len]
      by_cases h : i < d.length
      · obtain ⟨x, hx⟩ : ∃ x, d[i] = x := ⟨_, rfl⟩
        have hg := dns_get h hx
        have w1 := fn_WeekdayName x.2
        have w2 := fn_rWeekdayName x.2
        simp (disch := omega) [br_yes, br_no, wrap_i64, wrap_u8, wrap_i32, List.getElem?_cons_zero, List.getElem?_cons_succ, dns_len, hg]
        refine callW_imm w1 ?_
        simp (disch := omega) [br_yes, br_no, wrap_i64, wrap_u8, wrap_i32, List.getElem?_cons_zero, List.getElem?_cons_succ, dns_len, hg]
        refine callW_imm w2 ?_
        simp (disch := omega) [br_yes, br_no, wrap_i64, wrap_u8, wrap_i32, List.getElem?_cons_zero, List.getElem?_cons_succ]
        refine ⟨rfl, ?_⟩
        refine loopEnd (i + 1) (by omega) (by omega) ?_
        simp
        exact weak_drop rfl rfl (by simp [EnvLe, getE, look]) (by simp [ObLe, look]) (by simp [roOk])
      · obtain rfl : i = d.length := by omega
        simp (disch := omega) [br_yes, br_no, wrap_i64, wrap_u8, wrap_i32, List.getElem?_cons_zero, List.getElem?_cons_succ, dns_len]
        refine callW_imm h1 ?_
        simp (disch := omega) [br_yes, br_no, wrap_i64, wrap_u8, wrap_i32, List.getElem?_cons_zero, List.getElem?_cons_succ]
        refine callW_imm h2 ?_
        simp (disch := omega) [br_yes, br_no, wrap_i64, wrap_u8, wrap_i32, List.getElem?_cons_zero, List.getElem?_cons_succ]
        refine callW_imm h3 ?_
        simp (disch := omega) [br_yes, br_no, wrap_i64, wrap_u8, wrap_i32, List.getElem?_cons_zero, List.getElem?_cons_succ]
        refine callW_imm h4 ?_
        simp (disch := omega) [br_yes, br_no, wrap_i64, wrap_u8, wrap_i32, List.getElem?_cons_zero, List.getElem?_cons_succ]
        refine callW_imm h5 ?_
        simp (disch := omega) [br_yes, br_no, wrap_i64, wrap_u8, wrap_i32, List.getElem?_cons_zero, List.getElem?_cons_succ]
        refine callW_imm hA ?_
        simp (disch := omega) [br_yes, br_no, wrap_i64, wrap_u8, wrap_i32, List.getElem?_cons_zero, List.getElem?_cons_succ]
theorem wf_i64 {n : Int} (h : (Lit.int .i64 n).wf = true) : i64 n := by
  simp [Lit.wf] at h
  have h1 : IntKind.i64.min = -9223372036854775808 := by rfl
  rw [h1] at h
  exact h
theorem ints_of : ∀ {rows : List (List IV)}, (∀ row ∈ rows, Sh (.int .i64) row) → ∃ l, rows = is l ∧ ∀ n ∈ l, i64 n
  | [], _ => ⟨[], rfl, by simp⟩
  | r :: rs, h => by
    obtain ⟨n, rfl, hn⟩ := h r (by simp)
    obtain ⟨l, rfl, hl⟩ := ints_of (rows := rs) (fun x hx => h x (by simp [hx]))
    refine ⟨n :: l, rfl, ?_⟩
    intro m hm'
    rcases List.mem_cons.1 hm' with rfl | hm'
    · exact wf_i64 hn
    · exact hl m hm'
def scD : Sc := .struct [.int .i64, .int .i64]
theorem days_of : ∀ {rows : List (List IV)}, (∀ row ∈ rows, Sh scD row) → ∃ l, rows = dns l ∧ ∀ n ∈ l, dn64 n
  | [], _ => ⟨[], rfl, by simp⟩
  | r :: rs, h => by
    obtain ⟨a, b, rfl, ⟨n, rfl, hn⟩, c, e, rfl, ⟨m, rfl, hm'⟩, he⟩ := h r (by simp)
    have he : e = [] := he
    subst he
    obtain ⟨l, rfl, hl⟩ := days_of (rows := rs) (fun x hx => h x (by simp [hx]))
    refine ⟨(n, m) :: l, rfl, ?_⟩
    intro x hx
    rcases List.mem_cons.1 hx with rfl | hx
    · exact ⟨wf_i64 hn, wf_i64 hm'⟩
    · exact hl x hx
theorem NumsPrints_true (args : List IV) (h : Args [.slice (.int .i64), .slice scD] args) : Fn G Tryz.prog k_law20_NumsPrints args (.bool true) := by
  obtain ⟨v, b, rfl, ⟨r0, hr0, _, h0⟩, w, c, rfl, ⟨r1, hr1, _, h1⟩, hc⟩ := h
  have hc : c = [] := hc
  subst hc
  simp only [List.cons.injEq, and_true] at hr0 hr1
  subst hr0 hr1
  obtain ⟨l, rfl, hl⟩ := ints_of h0
  obtain ⟨d, rfl, hd⟩ := days_of h1
  exact fn_NumsPrints l d hl hd
end Go.Vs.YtbchceojmblkkaaGreatDoor
