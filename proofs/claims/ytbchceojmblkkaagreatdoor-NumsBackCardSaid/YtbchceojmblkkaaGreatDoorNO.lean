/- The walk of the statement NumsBack. No conditions. -/
import Derived.Test.YtbchceojmblkkaaGreatDoorNN
set_option linter.unusedVariables false
set_option linter.unusedSimpArgs false
namespace Go.Vs.YtbchceojmblkkaaGreatDoor
set_option linter.unusedSimpArgs false
set_option linter.unusedVariables false
open Go.Proofs Go.Vs.U8 Go.Vs.Pa Go.Vs.Nu Go.Lib
set_option maxRecDepth 100000
set_option maxHeartbeats 16000000
/-- Unlike ones, in order. -/
def unl {α : Type} [DecidableEq α] : List α → List α → List α
  | out, [] => out
  | out, x :: r => if x ∈ out then unl out r else unl (out ++ [x]) r
theorem unl_nodup {α : Type} [DecidableEq α] : ∀ (r out : List α), out.Nodup → (unl out r).Nodup
  | [], out, h => h
  | x :: r, out, h => by
    simp only [unl]
    split
    · exact unl_nodup r out h
    · next hx =>
      refine unl_nodup r _ ?_
      rw [List.nodup_append]
      refine ⟨h, by simp, ?_⟩
      intro a ha b hb e
      simp only [List.mem_singleton] at hb
      rw [e, hb] at ha
      exact hx ha
theorem unl_len {α : Type} [DecidableEq α] : ∀ (r out : List α), (unl out r).length ≤ out.length + r.length ∧ out.length ≤ (unl out r).length
  | [], out => by simp [unl]
  | x :: r, out => by
    simp only [unl]
    split
    · have := unl_len r out; simp; omega
    · have := unl_len r (out ++ [x]); simp at this ⊢; omega
theorem unl_mem {α : Type} [DecidableEq α] : ∀ (r out : List α) (y : α), y ∈ unl out r → y ∈ out ∨ y ∈ r
  | [], out, y, h => .inl h
  | x :: r, out, y, h => by
    simp only [unl] at h
    split at h
    · rcases unl_mem r out y h with h | h
      · exact .inl h
      · exact .inr (by simp [h])
    · rcases unl_mem r _ y h with h | h
      · rcases List.mem_append.1 h with h | h
        · exact .inl h
        · exact .inr (by simp at h; simp [h])
      · exact .inr (by simp [h])
theorem unl_ne {α : Type} [DecidableEq α] {l : List α} (h : l ≠ []) : unl [] l ≠ [] := by
  cases l with
  | nil => exact absurd rfl h
  | cons x r =>
    simp only [unl, List.not_mem_nil, if_false]
    have := (unl_len r ([] ++ [x])).2
    intro e
    rw [e] at this
    simp at this
theorem unl_at {α β : Type} [DecidableEq β] {f : α → β} {l : List α} {i : Nat} {x : α} {out : List β} (h : i < l.length) (hx : l[i] = x) : unl out ((l.drop i).map f) = if f x ∈ out then unl out ((l.drop (i + 1)).map f) else unl (out ++ [f x]) ((l.drop (i + 1)).map f) := by
  rw [List.drop_eq_getElem_cons h, hx, List.map_cons, unl]
def is16 (k : IntKind) (l : List Int) : List (List IV) := l.map fun n => [.int k n]
theorem is16_len (k : IntKind) (l : List Int) : (is16 k l).length = l.length := by simp [is16]
theorem is16_get {k : IntKind} {l : List Int} {i : Nat} {n : Int} (h : i < l.length) (hx : l[i] = n) : (is16 k l)[i]? = some [.int k n] := by simp [is16, h, hx]
def nbA (n : Int) : Int := n.tmod 367
def nbB (n : Int) : Dn := ((n.tdiv 7).tmod 107 - 53, n.tmod 7)
theorem nbA_bd (n : Int) : (nbA n).natAbs ≤ 366 := by
  unfold nbA
  by_cases h : 0 ≤ n
  · rw [Int.tmod_eq_emod_of_nonneg h]; omega
  · have e : n = -(-n) := by omega
    rw [e, Int.neg_tmod, Int.tmod_eq_emod_of_nonneg (by omega)]; omega
theorem nbB_bd {n : Int} (h : 0 ≤ n) : -53 ≤ (nbB n).1 ∧ (nbB n).1 ≤ 53 ∧ 0 ≤ (nbB n).2 ∧ (nbB n).2 ≤ 6 := by
  unfold nbB
  simp only
  rw [Int.tdiv_eq_ediv_of_nonneg h, Int.tmod_eq_emod_of_nonneg (by omega), Int.tmod_eq_emod_of_nonneg h]
  omega
theorem fn_NumsBack (l d : List Int) (hl : ∀ n ∈ l, -32768 ≤ n ∧ n ≤ 32767) (hd : ∀ n ∈ d, 0 ≤ n ∧ n ≤ 65535) : Fn G Tryz.prog k_law20_NumsBack [.slice (is16 .i16 l), .slice (is16 .u16 d)] (.bool true) := by
  refine fn_intro hm ok_law20_NumsBack (by simp) ?_
  have hA := fn_nawake
  simp [c_law20_NumsBack, r_law20_NumsBack, is16_len]
  by_cases q1 : l = []
  · simp (disch := omega) [br_yes, br_no, wrap_i64, wrap_u8, wrap_i32, List.getElem?_cons_zero, List.getElem?_cons_succ, q1, is16_len]
    refine callW_imm hA ?_
    simp
  by_cases q2 : d = []
  · simp (disch := omega) [br_yes, br_no, wrap_i64, wrap_u8, wrap_i32, List.getElem?_cons_zero, List.getElem?_cons_succ, q1, q2, is16_len]
    refine callW_imm hA ?_
    simp
  by_cases q3 : 12 < l.length
  · simp (disch := omega) [br_yes, br_no, wrap_i64, wrap_u8, wrap_i32, List.getElem?_cons_zero, List.getElem?_cons_succ, q1, q2, is16_len]
    refine callW_imm hA ?_
    simp
  by_cases q4 : 12 < d.length
  · simp (disch := omega) [br_yes, br_no, wrap_i64, wrap_u8, wrap_i32, List.getElem?_cons_zero, List.getElem?_cons_succ, q1, q2, is16_len]
    refine callW_imm hA ?_
    simp
  obtain ⟨a, ha⟩ : ∃ a, unl [] (l.map nbA) = a := ⟨_, rfl⟩
  obtain ⟨b, hb⟩ : ∃ b, unl [] (d.map nbB) = b := ⟨_, rfl⟩
  have ha1 : a.Nodup := ha ▸ unl_nodup _ _ (by simp)
  have hb1 : b.Nodup := hb ▸ unl_nodup _ _ (by simp)
  have ha2 : a.length ≤ 12 := by have := (unl_len (l.map nbA) []).1; rw [ha] at this; simp at this; omega
  have hb2 : b.length ≤ 12 := by have := (unl_len (d.map nbB) []).1; rw [hb] at this; simp at this; omega
  have ha3 : ∀ n ∈ a, n.natAbs ≤ 366 := fun n hn => by
    rw [← ha] at hn
    rcases unl_mem _ _ _ hn with h | h
    · cases h
    · obtain ⟨m, _, rfl⟩ := List.mem_map.1 h
      exact nbA_bd m
  have hb3 : ∀ x ∈ b, -53 ≤ x.1 ∧ x.1 ≤ 53 ∧ 0 ≤ x.2 ∧ x.2 ≤ 6 := fun n hn => by
    rw [← hb] at hn
    rcases unl_mem _ _ _ hn with h | h
    · cases h
    · obtain ⟨m, hm', rfl⟩ := List.mem_map.1 h
      exact nbB_bd (hd m hm').1
  have ha4 : a ≠ [] := ha ▸ unl_ne (by simpa using q1)
  have hb4 : b ≠ [] := hb ▸ unl_ne (by simpa using q2)
  have z1 := list_back (lo := 0) (hi := 366) ha4 ha1 ha2 (fun n hn => by have := ha3 n hn; exact ⟨by omega, by omega, dec_len 4 n.natAbs (by omega)⟩)
  have z2 := days_back hb4 hb1 hb2 hb3
  have zl1 : (printN a).length ≤ 1000 := by
    have := joinI_bd (f := itoa) (l := a) (b := 20) (fun n hn => itoa_len20 (by have := ha3 n hn; unfold i64; omega)) a.length
    rw [List.take_length] at this
    have e : printN a = joinI itoa a := rfl
    rw [e]; omega
  have zl2 : (printD b).length ≤ 1000 := by
    have := joinI_bd (f := dayT) (l := b) (b := 22) (fun n hn => dayT_len22 (by have := hb3 n hn; unfold dn64 i64; omega)) b.length
    rw [List.take_length] at this
    have e : printD b = joinI dayT b := rfl
    rw [e]; omega
  have h1 := fn_PrintN a (by omega) (fun n hn => by have := ha3 n hn; unfold i64; omega)
  have h2 := fn_List 0 366 true (printN a) (by omega)
  have h3 := fn_PrintD b (by omega) (fun n hn => by have := hb3 n hn; unfold dn64 i64; omega)
  have h4 := fn_Days (printD b) (by omega)
  have h5 := fn_SameInts a a (by omega) (by omega)
  have h6 := fn_nBack b (by omega)
  have h7 := fn_SameDays b b (by omega) (by omega)
  rw [z1] at h2
  rw [z2] at h4
  simp only [gotEI, gotDI, decide_true] at h2 h4 h5 h7
  simp (disch := omega) [br_yes, br_no, wrap_i64, wrap_u8, wrap_i32, List.getElem?_cons_zero, List.getElem?_cons_succ, q1, q2, is16_len]
  refine loopUR hm [] [5] (fun x : Nat × List Int => [(6, .val (.int .i64 x.1)), (5, .own 5 x.2.length)]) (fun x => [(5, .arr x.2.length 1 (is x.2))]) (fun x => x.1 ≤ l.length ∧ x.2.length ≤ x.1 ∧ unl x.2 ((l.drop x.1).map nbA) = a) (fun x => l.length - x.1) (0, []) ⟨by simp, by simp, by simpa using ha⟩ ?_ ?_
  · simp [is]
    exact Weak.trans (weak_adopt (k := 5) 5 1 (by simp) (by simp [getE, look])) (weak_drop rfl rfl (by simp [St.adopt, EnvLe, getE, look, put, eraseE, SV.erase]) (by simp [St.adopt, ObLe, look, put, eraseO, Ob.erase]) (by simp [St.adopt, roOk]))
  rintro ⟨i, out⟩ ⟨j1, j2, j3⟩
  simp only at j1 j2 j3
  simp [is16_len]
  by_cases h : i < l.length
  · obtain ⟨x, hx⟩ : ∃ x, l[i] = x := ⟨_, rfl⟩
    have hg := is16_get (k := .i16) h hx
    have hxb := hl x (hx ▸ List.getElem_mem h)
    rw [unl_at h hx] at j3
    have hH := fn_rHas out (nbA x) (by omega)
    have hnb : x.tmod 367 = nbA x := rfl
    simp (disch := omega) [br_yes, br_no, wrap_i64, wrap_u8, wrap_i32, List.getElem?_cons_zero, List.getElem?_cons_succ, is16_len, hg, hnb]
    refine callW_imm hH ?_
    by_cases hmem : nbA x ∈ out
    · rw [if_pos hmem] at j3
      simp (disch := omega) [br_yes, br_no, wrap_i64, wrap_u8, wrap_i32, List.getElem?_cons_zero, List.getElem?_cons_succ, hmem]
      refine loopEnd (i + 1, out) ⟨by simp; omega, by simp; omega, j3⟩ (by simp; omega) ?_
      simp
      exact weak_drop rfl rfl (by simp [EnvLe, getE, look]) (by simp [ObLe, look]) (by simp [roOk])
    · rw [if_neg hmem] at j3
      simp (disch := omega) [br_yes, br_no, wrap_i64, wrap_u8, wrap_i32, List.getElem?_cons_zero, List.getElem?_cons_succ, hmem, is_len]
      refine ⟨by omega, ?_⟩
      refine loopEnd (i + 1, out ++ [nbA x]) ⟨by simp; omega, by simp; omega, j3⟩ (by simp; omega) ?_
      simp [is_snoc]
      exact weak_drop rfl rfl (by simp [EnvLe, getE, look]) (by simp [ObLe, look]) (by simp [roOk])
  · have e : l.drop i = [] := List.drop_eq_nil_of_le (by omega)
    rw [e] at j3
    have j3 : out = a := j3
    subst j3
    simp (disch := omega) [br_yes, br_no, wrap_i64, wrap_u8, wrap_i32, List.getElem?_cons_zero, List.getElem?_cons_succ, is16_len]
    refine loopUR hm [] [5] (fun x : Nat × List Dn => [(9, .val (.int .i64 x.1)), (8, .own 8 x.2.length)]) (fun x => [(8, .arr x.2.length 2 (dns x.2))]) (fun x => x.1 ≤ d.length ∧ x.2.length ≤ x.1 ∧ unl x.2 ((d.drop x.1).map nbB) = b) (fun x => d.length - x.1) (0, []) ⟨by simp, by simp, by simpa using hb⟩ ?_ ?_
    · simp [dns]
      exact Weak.trans (weak_adopt (k := 8) 8 2 (by simp) (by simp [getE, look])) (weak_drop rfl rfl (by simp [St.adopt, EnvLe, getE, look, put, eraseE, SV.erase]) (by simp [St.adopt, ObLe, look, put, eraseO, Ob.erase]) (by simp [St.adopt, roOk]))
    rintro ⟨k, od⟩ ⟨k1, k2, k3⟩
    simp only at k1 k2 k3
    simp [is16_len]
    by_cases h' : k < d.length
    · obtain ⟨y, hy⟩ : ∃ y, d[k] = y := ⟨_, rfl⟩
      have hg := is16_get (k := .u16) h' hy
      have hyb := hd y (hy ▸ List.getElem_mem h')
      rw [unl_at h' hy] at k3
      obtain ⟨n, hn⟩ : ∃ n, nbB y = n := ⟨_, rfl⟩
      have hnb := nbB_bd hyb.1
      rw [hn] at k3 hnb
      have e1 : (y.tdiv 7).tmod 107 - 53 = n.1 := by rw [← hn]; rfl
      have e2 : y.tmod 7 = n.2 := by rw [← hn]; rfl
      have e3 : -9223372036854775808 ≤ y.tdiv 7 ∧ y.tdiv 7 ≤ 9223372036854775807 := by rw [Int.tdiv_eq_ediv_of_nonneg hyb.1]; omega
      simp (disch := omega) [br_yes, br_no, wrap_i64, wrap_u8, wrap_i32, List.getElem?_cons_zero, List.getElem?_cons_succ, is16_len, hg, e1, e2]
      refine ⟨rfl, ?_⟩
      refine loopUR hm [] [5] (fun j : Nat => [(12, .val (.int .i64 j)), (11, .val (.bool (decide (n ∈ od.take j))))]) (fun _ => [(10, .box [.val (.int .i64 n.1), .val (.int .i64 n.2)])]) (fun j => j ≤ od.length) (fun j => od.length - j) 0 (by omega) ?_ ?_
      · simp
        exact weak_drop rfl rfl (by simp [EnvLe, getE, look]) (by simp [ObLe, look]) (by simp [roOk])
      intro j hj
      simp [dns_len]
      by_cases hlt : j < od.length
      · obtain ⟨z, hz⟩ : ∃ z, od[j] = z := ⟨_, rfl⟩
        have hgz := dns_get hlt hz
        have hts : od.take (j + 1) = od.take j ++ [z] := by rw [List.take_succ_eq_append_getElem hlt, hz]
        by_cases hm1 : n ∈ od.take j
        · have hm2 : n ∈ od.take (j + 1) := by rw [hts]; simp [hm1]
          simp (disch := omega) [br_yes, br_no, wrap_i64, wrap_u8, wrap_i32, List.getElem?_cons_zero, List.getElem?_cons_succ, dns_len, hm1]
          refine loopEnd (j + 1) (by omega) (by omega) ?_
          simp [hm2]
          exact weak_drop rfl rfl (by simp [EnvLe, getE, look]) (by simp [ObLe, look]) (by simp [roOk])
        · by_cases c1 : z.1 = n.1
          · by_cases c2 : z.2 = n.2
            · have hm2 : n ∈ od.take (j + 1) := by
                have : z = n := Prod.ext c1 c2
                rw [hts, this]; simp
              simp (disch := omega) [br_yes, br_no, wrap_i64, wrap_u8, wrap_i32, List.getElem?_cons_zero, List.getElem?_cons_succ, dns_len, hm1, hgz, c1, c2]
              try refine ⟨by omega, ?_⟩
              refine loopEnd (j + 1) (by omega) (by omega) ?_
              simp [hm2]
              exact weak_drop rfl rfl (by simp [EnvLe, getE, look]) (by simp [ObLe, look]) (by simp [roOk])
            · have hm2 : n ∉ od.take (j + 1) := by
                rw [hts]
                simp only [List.mem_append, List.mem_singleton, not_or]
                exact ⟨hm1, fun h => c2 (by rw [h])⟩
              simp (disch := omega) [br_yes, br_no, wrap_i64, wrap_u8, wrap_i32, List.getElem?_cons_zero, List.getElem?_cons_succ, dns_len, hm1, hgz, c1, c2]
              try refine ⟨by omega, ?_⟩
              refine loopEnd (j + 1) (by omega) (by omega) ?_
              simp [hm2]
              exact weak_drop rfl rfl (by simp [EnvLe, getE, look]) (by simp [ObLe, look]) (by simp [roOk])
          · have hm2 : n ∉ od.take (j + 1) := by
              rw [hts]
              simp only [List.mem_append, List.mem_singleton, not_or]
              exact ⟨hm1, fun h => c1 (by rw [h])⟩
            simp (disch := omega) [br_yes, br_no, wrap_i64, wrap_u8, wrap_i32, List.getElem?_cons_zero, List.getElem?_cons_succ, dns_len, hm1, hgz, c1]
            try refine ⟨by omega, ?_⟩
            refine loopEnd (j + 1) (by omega) (by omega) ?_
            simp [hm2]
            exact weak_drop rfl rfl (by simp [EnvLe, getE, look]) (by simp [ObLe, look]) (by simp [roOk])
      · obtain rfl : j = od.length := by omega
        rw [List.take_length]
        by_cases hmem : n ∈ od
        · rw [if_pos hmem] at k3
          simp (disch := omega) [br_yes, br_no, wrap_i64, wrap_u8, wrap_i32, List.getElem?_cons_zero, List.getElem?_cons_succ, dns_len, hmem]
          refine loopEnd (k + 1, od) ⟨by simp; omega, by simp; omega, k3⟩ (by simp; omega) ?_
          simp
          exact weak_drop rfl rfl (by simp [EnvLe, getE, look]) (by simp [ObLe, look]) (by simp [roOk])
        · rw [if_neg hmem] at k3
          simp (disch := omega) [br_yes, br_no, wrap_i64, wrap_u8, wrap_i32, List.getElem?_cons_zero, List.getElem?_cons_succ, dns_len, hmem]
          refine ⟨by omega, ?_⟩
          refine loopEnd (k + 1, od ++ [n]) ⟨by simp; omega, by simp; omega, k3⟩ (by simp; omega) ?_
          simp [dns_snoc]
          exact weak_drop rfl rfl (by simp [EnvLe, getE, look]) (by simp [ObLe, look]) (by simp [roOk])
    · have e : d.drop k = [] := List.drop_eq_nil_of_le (by omega)
      rw [e] at k3
      have k3 : od = b := k3
      subst k3
      simp (disch := omega) [br_yes, br_no, wrap_i64, wrap_u8, wrap_i32, List.getElem?_cons_zero, List.getElem?_cons_succ, is16_len]
      refine callW_imm h1 ?_
      simp (disch := omega) [br_yes, br_no, wrap_i64, wrap_u8, wrap_i32, List.getElem?_cons_zero, List.getElem?_cons_succ]
      refine callW_imm h2 ?_
      simp (disch := omega) [br_yes, br_no, wrap_i64, wrap_u8, wrap_i32, List.getElem?_cons_zero, List.getElem?_cons_succ]
      refine callW_imm h3 ?_
      simp (disch := omega) [br_yes, br_no, wrap_i64, wrap_u8, wrap_i32, List.getElem?_cons_zero, List.getElem?_cons_succ]
      refine callW_imm h4 ?_
      simp (disch := omega) [br_yes, br_no, wrap_i64, wrap_u8, wrap_i32, List.getElem?_cons_zero, List.getElem?_cons_succ]
      refine callW_imm h5 ?_
      simp (disch := omega) [br_yes, br_no, wrap_i64, wrap_u8, wrap_i32, List.getElem?_cons_zero, List.getElem?_cons_succ]
      refine callW_imm h6 ?_
      simp (disch := omega) [br_yes, br_no, wrap_i64, wrap_u8, wrap_i32, List.getElem?_cons_zero, List.getElem?_cons_succ]
      refine callW_imm h6 ?_
      simp (disch := omega) [br_yes, br_no, wrap_i64, wrap_u8, wrap_i32, List.getElem?_cons_zero, List.getElem?_cons_succ]
      refine callW_imm h7 ?_
      simp (disch := omega) [br_yes, br_no, wrap_i64, wrap_u8, wrap_i32, List.getElem?_cons_zero, List.getElem?_cons_succ]
      refine callW_imm hA ?_
      simp (disch := omega) [br_yes, br_no, wrap_i64, wrap_u8, wrap_i32, List.getElem?_cons_zero, List.getElem?_cons_succ]
theorem is16_of {k : IntKind} : ∀ {rows : List (List IV)}, (∀ row ∈ rows, Sh (.int k) row) → ∃ l, rows = is16 k l ∧ ∀ n ∈ l, (Lit.int k n).wf = true
  | [], _ => ⟨[], rfl, by simp⟩
  | r :: rs, h => by
    obtain ⟨n, rfl, hn⟩ := h r (by simp)
    obtain ⟨l, rfl, hl⟩ := is16_of (rows := rs) (fun x hx => h x (by simp [hx]))
    refine ⟨n :: l, rfl, ?_⟩
    intro m hm'
    rcases List.mem_cons.1 hm' with rfl | hm'
    · exact hn
    · exact hl m hm'
theorem NumsBack_true (args : List IV) (h : Args [.slice (.int .i16), .slice (.int .u16)] args) : Fn G Tryz.prog k_law20_NumsBack args (.bool true) := by
  obtain ⟨v, b, rfl, ⟨r0, hr0, _, h0⟩, w, c, rfl, ⟨r1, hr1, _, h1⟩, hc⟩ := h
  have hc : c = [] := hc
  subst hc
  simp only [List.cons.injEq, and_true] at hr0 hr1
  subst hr0 hr1
  obtain ⟨l, rfl, hl⟩ := is16_of h0
  obtain ⟨d, rfl, hd⟩ := is16_of h1
  refine fn_NumsBack l d (fun n hn => ?_) (fun n hn => ?_)
  · have := hl n hn
    simp [Lit.wf] at this
    have h1 : IntKind.i16.min = -32768 := by rfl
    rw [h1] at this
    exact this
  · have := hd n hn
    simp [Lit.wf] at this
    exact this
end Go.Vs.YtbchceojmblkkaaGreatDoor
