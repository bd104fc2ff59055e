/- The walk of param, part 9: copies, finding. No conditions. -/
import Derived.Test.YtbchceojmblkkaaGreatDoorBL
set_option linter.unusedVariables false
set_option linter.unusedSimpArgs false
namespace Go.Vs.YtbchceojmblkkaaGreatDoor
set_option linter.unusedSimpArgs false
set_option linter.unusedVariables false
open Go.Proofs Go.Vs.U8 Go.Vs.Pa
set_option maxRecDepth 100000
set_option maxHeartbeats 4000000
theorem fn_Clone (v : List Str) (hv : v.length < 1000000) : Fn G Tryz.prog k_slices_Clone_string [.slice (ts v)] (.slice (ts v)) := by
  refine fn_intro hm ok_slices_Clone_string (by simp) ?_
  simp [c_slices_Clone_string, r_slices_Clone_string]
  cases v with
  | nil =>
    simp [ts]
  | cons x r =>
    have hl := ts_len (x :: r)
    simp only [List.length_cons] at hl hv
    have : ts (x :: r) = [.str x] :: ts r := rfl
    rw [this] at hl ⊢
    simp at hl
    simp (disch := omega) [br_yes, br_no, wrap_i64, wrap_u8, wrap_i32, List.getElem?_cons_zero, List.getElem?_cons_succ, hl]
    exact ⟨by omega, fun a ha => by simp [ts] at ha; obtain ⟨y, _, rfl⟩ := ha; rfl⟩
def hasN (l : List Pm) (n : Str) : Bool := l.any fun p => decide (p.n = n)
def findP (l : List Pm) (n : Str) : Option Pm := l.find? fun p => decide (p.n = n)
def foundI : Option Pm → IV
  | some p => .tuple [p.iv, .bool true]
  | none => .tuple [(⟨[], []⟩ : Pm).iv, .bool false]
theorem find_atP {l : List Pm} {i : Nat} {p : Pm} {n : Str} (h : i < l.length) (hp : l[i] = p) : findP (l.drop i) n = if p.n = n then some p else findP (l.drop (i + 1)) n := by
  rw [List.drop_eq_getElem_cons h, hp]
  by_cases e : p.n = n <;> simp [findP, e]
theorem fn_Find (l : List Pm) (n : Str) (hl : l.length < 1000000) (hv : ∀ p ∈ l, p.v.length < 1000000) : Fn G Tryz.prog k_param_Find [.slice (ps l), .str n] (foundI (findP l n)) := by
  refine fn_intro hm ok_param_Find (by simp) ?_
  simp [c_param_Find, r_param_Find, ps_len]
  refine loopU hm [] (fun i : Nat => [(10, .val (.int .i64 i))]) (fun i => []) (fun i => i ≤ l.length ∧ findP (l.drop i) n = findP l n) (fun i => l.length - i) 0 ⟨by omega, by simp⟩ ?_ ?_
  · simp
    exact weak_drop rfl rfl (by simp [EnvLe, getE, look]) (by simp [ObLe, look]) (by simp [roOk])
  rintro i ⟨hi, hc⟩
  simp [ps_len]
  by_cases h : i < l.length
  · obtain ⟨p, hp⟩ : ∃ p, l[i] = p := ⟨_, rfl⟩
    have hg := ps_get h hp
    rw [find_atP h hp] at hc
    have hC := fn_Clone p.v (hv p (hp ▸ List.getElem_mem h))
    by_cases h1 : p.n = n
    · simp [h1] at hc
      simp (disch := omega) [br_yes, br_no, wrap_i64, wrap_u8, wrap_i32, List.getElem?_cons_zero, List.getElem?_cons_succ, ps_len, hg, h1]
      refine callW_imm hC ?_
      simp (disch := omega) [br_yes, br_no, wrap_i64, wrap_u8, wrap_i32, List.getElem?_cons_zero, List.getElem?_cons_succ]
      refine ⟨rfl, ?_⟩
      rw [← hc]
      simp [foundI, Pm.iv, h1]
    · simp [h1] at hc
      simp (disch := omega) [br_yes, br_no, wrap_i64, wrap_u8, wrap_i32, List.getElem?_cons_zero, List.getElem?_cons_succ, ps_len, hg, h1]
      refine loopEnd (i + 1) ⟨by omega, hc⟩ (by omega) ?_
      simp
      exact weak_drop rfl rfl (by simp [EnvLe, getE, look]) (by simp [ObLe, look]) (by simp [roOk])
  · obtain rfl : i = l.length := by omega
    have hr : findP l n = none := by rw [← hc]; simp [findP]
    simp (disch := omega) [br_yes, br_no, wrap_i64, wrap_u8, wrap_i32, List.getElem?_cons_zero, List.getElem?_cons_succ, hr, foundI, Pm.iv]
    rfl
/-- Whether lists of parameters may be. -/
def firstBad : List Pm → Int
  | [] => 0
  | p :: r => if checkP p = 0 then firstBad r else checkP p
def twiceF : List Pm → List Pm → Bool
  | _, [] => false
  | a, p :: r => hasN a p.n || twiceF (a ++ [p]) r
def checkAll (l : List Pm) : Int := if 6 < l.length then 20 else if firstBad l = 0 then (if twiceF [] l then 19 else 0) else firstBad l
theorem firstBad_at {l : List Pm} {i : Nat} {p : Pm} (h : i < l.length) (hp : l[i] = p) : firstBad (l.drop i) = if checkP p = 0 then firstBad (l.drop (i + 1)) else checkP p := by
  rw [List.drop_eq_getElem_cons h, hp]; rfl
theorem twice_at {l : List Pm} {i : Nat} {p : Pm} (h : i < l.length) (hp : l[i] = p) : twiceF (l.take i) (l.drop i) = (hasN (l.take i) p.n || twiceF (l.take (i + 1)) (l.drop (i + 1))) := by
  rw [List.drop_eq_getElem_cons h, hp, List.take_succ_eq_append_getElem h, hp]; rfl
theorem has_find (l : List Pm) (n : Str) : hasN l n = (findP l n).isSome := by
  induction l with
  | nil => rfl
  | cons p r ih =>
    by_cases e : p.n = n
    · simp [hasN, findP, e]
    · simp only [hasN, findP, List.any_cons, List.find?_cons] at ih ⊢
      simp [e, ih]
theorem ps_rows (l : List Pm) : ∀ row, row ∈ ps l → row.length = 2 := fun a ha => by simp [ps] at ha; obtain ⟨y, _, rfl⟩ := ha; rfl
theorem ps_take (l : List Pm) (i : Nat) : (ps l).take i = ps (l.take i) := by simp [ps, List.map_take]
structure Fit (l : List Pm) : Prop where
  n : ∀ p ∈ l, p.n.length < 100000
  v : ∀ p ∈ l, p.v.length < 100000
  t : ∀ p ∈ l, ∀ s ∈ p.v, s.length < 10000
theorem fn_CheckAll (l : List Pm) (hl : l.length < 100000) (hf : Fit l) : Fn G Tryz.prog k_param_CheckAll [.slice (ps l)] (.int .i64 (checkAll l)) := by
  refine fn_intro hm ok_param_CheckAll (by simp) ?_
  simp [c_param_CheckAll, r_param_CheckAll, ps_len]
  by_cases h0 : 6 < l.length
  · simp (disch := omega) [br_yes, br_no, wrap_i64, wrap_u8, wrap_i32, List.getElem?_cons_zero, List.getElem?_cons_succ, checkAll, h0, ps_len]
  · have hA : checkAll l = if firstBad l = 0 then (if twiceF [] l then 19 else 0) else firstBad l := by rw [checkAll, if_neg h0]
    rw [hA]
    simp (disch := omega) [br_yes, br_no, wrap_i64, wrap_u8, wrap_i32, List.getElem?_cons_zero, List.getElem?_cons_succ, ps_len]
    refine loopU hm [] (fun i : Nat => [(15, .val (.int .i64 i))]) (fun i => []) (fun i => i ≤ l.length ∧ firstBad (l.drop i) = firstBad l) (fun i => l.length - i) 0 ⟨by omega, by simp⟩ ?_ ?_
    · simp
      exact weak_drop rfl rfl (by simp [EnvLe, getE, look]) (by simp [ObLe, look]) (by simp [roOk])
    rintro i ⟨hi, hc⟩
    simp [ps_len]
    by_cases h : i < l.length
    · obtain ⟨p, hp⟩ : ∃ p, l[i] = p := ⟨_, rfl⟩
      have hm' : p ∈ l := hp ▸ List.getElem_mem h
      have hg := ps_get h hp
      have hC := fn_Check p (by have := hf.n p hm'; omega)
      rw [firstBad_at h hp] at hc
      simp (disch := omega) [br_yes, br_no, wrap_i64, wrap_u8, wrap_i32, List.getElem?_cons_zero, List.getElem?_cons_succ, ps_len, hg]
      refine callW_imm hC ?_
      by_cases h1 : checkP p = 0
      · rw [if_pos h1] at hc
        simp (disch := omega) [br_yes, br_no, wrap_i64, wrap_u8, wrap_i32, List.getElem?_cons_zero, List.getElem?_cons_succ, h1]
        refine loopEnd (i + 1) ⟨by omega, hc⟩ (by omega) ?_
        simp
        exact weak_drop rfl rfl (by simp [EnvLe, getE, look]) (by simp [ObLe, look]) (by simp [roOk])
      · rw [if_neg h1] at hc
        have : ¬ firstBad l = 0 := by rw [← hc]; exact h1
        rw [if_neg this, ← hc]
        simp (disch := omega) [br_yes, br_no, wrap_i64, wrap_u8, wrap_i32, List.getElem?_cons_zero, List.getElem?_cons_succ, h1]
    · obtain rfl : i = l.length := by omega
      have hb : firstBad l = 0 := by rw [← hc]; simp [firstBad]
      rw [if_pos hb]
      simp (disch := omega) [br_yes, br_no, wrap_i64, wrap_u8, wrap_i32, List.getElem?_cons_zero, List.getElem?_cons_succ, ps_len]
      refine loopU hm [] (fun i : Nat => [(27, .val (.int .i64 i))]) (fun i => []) (fun i => i ≤ l.length ∧ twiceF (l.take i) (l.drop i) = twiceF [] l) (fun i => l.length - i) 0 ⟨by omega, by simp⟩ ?_ ?_
      · simp
        exact weak_drop rfl rfl (by simp [EnvLe, getE, look]) (by simp [ObLe, look]) (by simp [roOk])
      rintro j ⟨hj, ht⟩
      simp [ps_len]
      by_cases h : j < l.length
      · obtain ⟨p, hp⟩ : ∃ p, l[j] = p := ⟨_, rfl⟩
        have hg := ps_get h hp
        have hH := fn_Find (l.take j) p.n (by simp; omega) (fun q hq => by have := hf.v q (List.mem_of_mem_take hq); omega)
        have hhf := has_find (l.take j) p.n
        rw [twice_at h hp] at ht
        simp (disch := omega) [br_yes, br_no, wrap_i64, wrap_u8, wrap_i32, List.getElem?_cons_zero, List.getElem?_cons_succ, ps_len, hg, ps_take]
        refine ⟨⟨by omega, ps_rows l⟩, ?_⟩
        refine callW_imm hH ?_
        cases hh : findP (l.take j) p.n with
        | some q =>
          rw [hh] at hhf
          rw [hhf] at ht
          have hb : twiceF [] l = true := by rw [← ht]; rfl
          simp [hb, foundI, Pm.iv]
          rfl
        | none =>
          rw [hh] at hhf
          rw [hhf] at ht
          simp (disch := omega) [br_yes, br_no, wrap_i64, wrap_u8, wrap_i32, List.getElem?_cons_zero, List.getElem?_cons_succ, foundI, Pm.iv]
          refine ⟨rfl, ?_⟩
          refine loopEnd (j + 1) ⟨by omega, by simpa using ht⟩ (by omega) ?_
          simp
          exact weak_drop rfl rfl (by simp [EnvLe, getE, look]) (by simp [ObLe, look]) (by simp [roOk])
      · obtain rfl : j = l.length := by omega
        have hb : twiceF [] l = false := by rw [← ht]; simp [twiceF]
        simp (disch := omega) [br_yes, br_no, wrap_i64, wrap_u8, wrap_i32, List.getElem?_cons_zero, List.getElem?_cons_succ, hb]
end Go.Vs.YtbchceojmblkkaaGreatDoor
namespace Go.Vs.YtbchceojmblkkaaGreatDoor
set_option linter.unusedSimpArgs false
set_option linter.unusedVariables false
open Go.Proofs Go.Vs.U8 Go.Vs.Pa
set_option maxRecDepth 100000
set_option maxHeartbeats 4000000
def printP (p : Pm) : Str := 59 :: (p.n ++ 61 :: Go.Lib.join (p.v.map write) [44])
theorem join_len (k : Nat) : ∀ l : List Str, (∀ x ∈ l, x.length ≤ k) → (Go.Lib.join l [44]).length ≤ l.length * (k + 1) := by
  intro l h
  cases l with
  | nil => simp [Go.Lib.join_nil]
  | cons y r =>
    have hy := h y (by simp)
    have hr : ∀ x ∈ r, x.length ≤ k := fun x hx => h x (by simp [hx])
    clear h
    rw [Go.Lib.join_cons, List.length_append, List.length_cons, Nat.succ_mul]
    have : (Go.Lib.joinTail [44] r).length ≤ r.length * (k + 1) := by
      induction r with
      | nil => simp [Go.Lib.joinTail]
      | cons z t ih =>
        have hz := hr z (by simp)
        have := ih (fun x hx => hr x (by simp [hx]))
        simp only [Go.Lib.joinTail, List.map_cons, List.flatten_cons, List.length_append, List.length_cons, List.length_nil, Nat.succ_mul] at this ⊢
        omega
    omega
theorem checkV_le : ∀ {l : List Str}, checkV l = 0 → ∀ x ∈ l, x.length ≤ 60
  | [], _, x, h => by simp at h
  | y :: r, hc, x, h => by
    rw [checkV] at hc
    split at hc
    · cases hc
    · split at hc
      · rcases List.mem_cons.1 h with rfl | h
        · omega
        · exact checkV_le hc x h
      · cases hc
theorem checkP_le {p : Pm} (h : checkP p = 0) : p.n.length ≤ 24 ∧ 1 ≤ p.v.length ∧ p.v.length ≤ 6 ∧ (∀ x ∈ p.v, x.length ≤ 60) := by
  unfold checkP at h
  split at h
  · next hn =>
    split at h
    · cases h
    · have := checkV_le h
      simp [nameB] at hn
      refine ⟨hn.1.2, by omega, by omega, this⟩
  · cases h
theorem write_len (s : Str) : (write s).length ≤ 2 * s.length + 2 := by
  have := esc_len s
  unfold write
  split <;> simp <;> omega
theorem joinW_len {v : List Str} (h : ∀ x ∈ v, x.length ≤ 60) (h6 : v.length ≤ 6) (i : Nat) : (Go.Lib.join ((v.take i).map write) [44]).length ≤ 738 := by
  have := join_len 122 ((v.take i).map write) (fun x hx => by
    obtain ⟨y, hy, rfl⟩ := List.mem_map.1 hx
    have := write_len y
    have := h y (List.mem_of_mem_take hy)
    omega)
  have h2 : ((v.take i).map write).length ≤ 6 := by simp; omega
  have := Nat.mul_le_mul_right 123 h2
  omega
def printI (p : Pm) : IV := .tuple [.str (if checkP p = 0 then printP p else []), .int .i64 (checkP p)]
theorem join_len' {v : List Str} (h : ∀ x ∈ v, x.length ≤ 60) (h6 : v.length ≤ 6) : (Go.Lib.join (v.map write) [44]).length ≤ 738 := by
  have := joinW_len h h6 v.length
  rwa [List.take_length] at this
theorem set_w (v : List Str) (i : Nat) (h : i < v.length) (x : Str) (hx : v[i] = x) : (ts ((v.take i).map write) ++ List.replicate (v.length - i) [IV.str []]).set i [.str (write x)] = ts ((v.take (i + 1)).map write) ++ List.replicate (v.length - (i + 1)) [IV.str []] := by
  have hl : ((v.take i).map write).length = i := by simp; omega
  have hr := set_rows ((v.take i).map write) (write x) (v.length - (i + 1))
  rw [hl, show v.length - (i + 1) + 1 = v.length - i by omega] at hr
  rw [hr, List.take_succ_eq_append_getElem h, hx, List.map_append]
  rfl
theorem get_w (v : List Str) (i : Nat) (h : i < v.length) : (ts ((v.take i).map write) ++ List.replicate (v.length - i) [IV.str []])[i]? = some [.str []] := by
  have hl : ((v.take i).map write).length = i := by simp; omega
  have hr := get_rows ((v.take i).map write) (v.length - (i + 1))
  rwa [hl, show v.length - (i + 1) + 1 = v.length - i by omega] at hr
theorem fn_Print (p : Pm) (hn : p.n.length < 1000000) : Fn G Tryz.prog k_param_Print [p.iv] (printI p) := by
  refine fn_intro hm ok_param_Print (by simp) ?_
  have hC := fn_Check p hn
  simp [c_param_Print, r_param_Print, Pm.iv] at hC ⊢
  refine callW_imm hC ?_
  by_cases h0 : checkP p = 0
  · obtain ⟨h1, h2, h3, h4⟩ := checkP_le h0
    have hR : printI p = .tuple [.str (printP p), .int .i64 0] := by simp [printI, h0]
    rw [hR]
    obtain ⟨n, v⟩ := p
    simp only at h1 h2 h3 h4
    simp (disch := omega) [br_yes, br_no, wrap_i64, wrap_u8, wrap_i32, List.getElem?_cons_zero, List.getElem?_cons_succ, h0, ts_len]
    refine ⟨by omega, ?_⟩
    refine loopU hm [] (fun i : Nat => [(20, .val (.int .i64 i))]) (fun i => [(16, .arr 0 1 (ts ((v.take i).map write) ++ List.replicate (v.length - i) [.str []]))]) (fun i => i ≤ v.length) (fun i => v.length - i) 0 (by omega) ?_ ?_
    · simp [ts]
      exact weak_drop rfl rfl (by simp [EnvLe, getE, look]) (by simp [ObLe, look]) (by simp [roOk])
    rintro i hi
    have hset := set_w v i
    have hget := get_w v i
    obtain ⟨R, hR1⟩ : ∃ R, ts ((v.take i).map write) ++ List.replicate (v.length - i) [IV.str []] = R := ⟨_, rfl⟩
    have hRl : R.length = v.length := by rw [← hR1]; simp [ts]; omega
    rw [hR1] at hset hget
    rw [hR1]
    simp [ts_len]
    by_cases h : i < v.length
    · obtain ⟨x, hx⟩ : ∃ x, v[i] = x := ⟨_, rfl⟩
      have hg := ts_get h hx
      have hxl := h4 x (hx ▸ List.getElem_mem h)
      have hW := fn_written' x (by omega)
      have hs := hset h x hx
      have hgt := hget h
      simp (disch := omega) [br_yes, br_no, wrap_i64, wrap_u8, wrap_i32, List.getElem?_cons_zero, List.getElem?_cons_succ, ts_len, hg]
      refine callW_imm hW ?_
      have hgt' : R[i]'(by omega) = [.str []] := by
        rw [List.getElem?_eq_getElem (by omega)] at hgt
        simpa using hgt
      simp (disch := omega) [br_yes, br_no, wrap_i64, wrap_u8, wrap_i32, List.getElem?_cons_zero, List.getElem?_cons_succ, hgt', hRl, hs]
      refine ⟨h, ?_⟩
      refine loopEnd (i + 1) (by omega) (by omega) ?_
      simp [← List.map_take]
      exact weak_drop rfl rfl (by simp [EnvLe, getE, look]) (by simp [ObLe, look]) (by simp [roOk])
    · obtain rfl : i = v.length := by omega
      have hR2 : R = ts (v.map write) := by rw [← hR1]; simp
      have hj := join_len' h4 h3
      have hJ := fn_Join (v.map write) [44] (by simp; omega) (by omega)
      rw [← hR2] at hJ
      simp (disch := omega) [br_yes, br_no, wrap_i64, wrap_u8, wrap_i32, List.getElem?_cons_zero, List.getElem?_cons_succ]
      refine ⟨by omega, by omega, ?_⟩
      refine callW_imm hJ ?_
      simp [printP]
      exact ⟨by omega, rfl⟩
  · have hR : printI p = .tuple [.str [], .int .i64 (checkP p)] := by simp [printI, h0]
    rw [hR]
    simp (disch := omega) [br_yes, br_no, wrap_i64, wrap_u8, wrap_i32, List.getElem?_cons_zero, List.getElem?_cons_succ, h0]
def printsP (l : List Pm) : Str := (l.map printP).flatten
def printsI (l : List Pm) : IV := .tuple [.str (if checkAll l = 0 then printsP l else []), .int .i64 (checkAll l)]
theorem firstBad_all : ∀ {l : List Pm}, firstBad l = 0 → ∀ p ∈ l, checkP p = 0
  | [], _, p, h => by simp at h
  | q :: r, hc, p, h => by
    rw [firstBad] at hc
    split at hc
    · next hq =>
      rcases List.mem_cons.1 h with rfl | h
      · exact hq
      · exact firstBad_all hc p h
    · next hq => exact absurd hc hq
theorem checkAll_le {l : List Pm} (h : checkAll l = 0) : l.length ≤ 6 ∧ ∀ p ∈ l, checkP p = 0 := by
  unfold checkAll at h
  split at h
  · cases h
  · split at h
    · next hb => exact ⟨by omega, firstBad_all hb⟩
    · next hb => exact absurd h hb
theorem printP_len {p : Pm} (h : checkP p = 0) : (printP p).length ≤ 764 := by
  obtain ⟨h1, h2, h3, h4⟩ := checkP_le h
  have := join_len' h4 h3
  simp [printP]; omega
theorem prints_len (l : List Pm) (h : ∀ p ∈ l, checkP p = 0) : (printsP l).length ≤ l.length * 764 := by
  induction l with
  | nil => simp [printsP]
  | cons p r ih =>
    have h1 := ih (fun q hq => h q (by simp [hq]))
    have h2 := printP_len (h p (by simp))
    simp only [printsP, List.map_cons, List.flatten_cons, List.length_append, List.length_cons, Nat.succ_mul] at h1 ⊢
    omega
theorem prints_take {l : List Pm} {i : Nat} {p : Pm} (h : i < l.length) (hp : l[i] = p) : printsP (l.take (i + 1)) = printsP (l.take i) ++ printP p := by
  rw [List.take_succ_eq_append_getElem h, hp]; simp [printsP]
theorem prints_take_len {l : List Pm} (h6 : l.length ≤ 6) (h : ∀ p ∈ l, checkP p = 0) (i : Nat) : (printsP (l.take i)).length ≤ 4584 := by
  have := prints_len (l.take i) (fun p hp => h p (List.mem_of_mem_take hp))
  have h2 : (l.take i).length ≤ 6 := by rw [List.length_take]; omega
  have := Nat.mul_le_mul_right 764 h2
  omega
theorem fn_PrintAll (l : List Pm) (hl : l.length < 100000) (hf : Fit l) : Fn G Tryz.prog k_param_PrintAll [.slice (ps l)] (printsI l) := by
  refine fn_intro hm ok_param_PrintAll (by simp) ?_
  have hC := fn_CheckAll l hl hf
  simp [c_param_PrintAll, r_param_PrintAll, ps_len]
  refine callW_imm hC ?_
  by_cases h0 : checkAll l = 0
  · obtain ⟨h1, h2⟩ := checkAll_le h0
    have hR : printsI l = .tuple [.str (printsP l), .int .i64 0] := by simp [printsI, h0]
    rw [hR]
    simp (disch := omega) [br_yes, br_no, wrap_i64, wrap_u8, wrap_i32, List.getElem?_cons_zero, List.getElem?_cons_succ, h0, ps_len]
    refine loopU hm [] (fun i : Nat => [(17, .val (.int .i64 i))]) (fun i => [(5, .box [.selfN 5 208 false, .ownT 1 i 5]), (1, .arr i 1 (byteRows (printsP (l.take i))))]) (fun i => i ≤ l.length) (fun i => l.length - i) 0 (by omega) ?_ ?_
    · simp [printsP]
      exact Weak.trans (weak_bld (k := 5) (d := 5) (t := 208) 1 5 (by simp) (by simp) (by simp [getE, look]) (by simp [look]) (by simp)) (weak_drop rfl rfl (by simp [St.bld, EnvLe, getE, look, put, eraseE, SV.erase]) (by simp [St.bld, ObLe, look, put, eraseO, eraseL, Ob.erase, SV.erase, byteRows]) (by simp [St.bld, roOk]))
    rintro i hi
    have hL := prints_take_len h1 h2 i
    simp [ps_len]
    by_cases h : i < l.length
    · obtain ⟨p, hp⟩ : ∃ p, l[i] = p := ⟨_, rfl⟩
      have hm' : p ∈ l := hp ▸ List.getElem_mem h
      have hg := ps_get h hp
      have hP := fn_Print p (by have := hf.n p hm'; omega)
      have hc := h2 p hm'
      have hpl := printP_len hc
      have ht := prints_take h hp
      rw [printI, if_pos hc, hc] at hP
      simp (disch := omega) [br_yes, br_no, wrap_i64, wrap_u8, wrap_i32, List.getElem?_cons_zero, List.getElem?_cons_succ, ps_len, hg]
      refine callW_imm hP ?_
      simp (disch := omega) [br_yes, br_no, wrap_i64, wrap_u8, wrap_i32, List.getElem?_cons_zero, List.getElem?_cons_succ]
      refine callM [(1000, 5), (1001, 1)] [] (fnM_WriteString i (printsP (l.take i)) (printP p) (by omega)) rfl rfl ⟨rfl, rfl, trivial⟩ ⟨rfl, _, _, rfl, rfl, rfl⟩ rfl ?_
      simp [bldObs]
      simp (disch := omega) [br_yes, br_no, wrap_i64, wrap_u8, wrap_i32, List.getElem?_cons_zero, List.getElem?_cons_succ]
      refine loopEnd (i + 1) (by omega) (by omega) ?_
      simp [ht]
      exact weak_drop rfl rfl (by simp [EnvLe, getE, look]) (by simp [ObLe, look]) (by simp [roOk])
    · obtain rfl : i = l.length := by omega
      have he : l.take l.length = l := List.take_length
      simp (disch := omega) [br_yes, br_no, wrap_i64, wrap_u8, wrap_i32, List.getElem?_cons_zero, List.getElem?_cons_succ]
      refine callM [(1000,5),(1001,1)] [] (fnM_String l.length (printsP l) (by rw [he] at hL; omega)) rfl rfl (by simp [mObjs, bldObs, Vs.ren, look, Ob.ren, SV.ren]) ⟨rfl, rfl⟩ rfl ?_
      simp
  · have hR : printsI l = .tuple [.str [], .int .i64 (checkAll l)] := by simp [printsI, h0]
    rw [hR]
    simp (disch := omega) [br_yes, br_no, wrap_i64, wrap_u8, wrap_i32, List.getElem?_cons_zero, List.getElem?_cons_succ, h0]
end Go.Vs.YtbchceojmblkkaaGreatDoor
