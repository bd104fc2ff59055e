/- The walk of the functions of rollup, part 1: finding, pairs, whether nodes may be. No conditions. -/
import Derived.Test.YtjfleklkloohgaaRoGen
namespace Go.Vs.Ytjfleklkloohgaa.R
set_option linter.unusedSimpArgs false
set_option linter.unusedVariables false
open Go.Proofs Go.Vs.Fo
set_option maxRecDepth 100000
set_option maxHeartbeats 4000000
/-- A node. -/
structure Nd where
  uid : Str
  up : Str
  s : Int
  p : Int
  d : Int
def ns (l : List Nd) : List (List IV) := l.map fun n => [.str n.uid, .str n.up, .int .u8 n.s, .int .i64 n.p, .int .i64 n.d]
def uids (l : List Nd) : List Str := l.map (·.uid)
@[simp] theorem ns_len (l : List Nd) : (ns l).length = l.length := by simp [ns]
@[simp] theorem uids_len (l : List Nd) : (uids l).length = l.length := by simp [uids]
@[simp] theorem ns_nil : ns [] = [] := rfl
theorem ns_get {l : List Nd} {i : Nat} (h : i < l.length) : (ns l)[i]? = some [.str l[i].uid, .str l[i].up, .int .u8 l[i].s, .int .i64 l[i].p, .int .i64 l[i].d] := by simp [ns, h]
theorem uids_get {l : List Nd} {i : Nat} (h : i < l.length) : (uids l)[i]'(by simpa using h) = l[i].uid := by simp [uids]
theorem ns_take (l : List Nd) (i : Nat) : (ns l).take i = ns (l.take i) := by simp [ns, List.map_take]
theorem uids_take (l : List Nd) (i : Nat) : (uids l).take i = uids (l.take i) := by simp [uids, List.map_take]
theorem ns_five {l : List Nd} : ∀ r ∈ ns l, r.length = 5 := by simp [ns]
theorem nd_take_snoc {l : List Nd} {i : Nat} (h : i < l.length) : l.take (i + 1) = l.take i ++ [l[i]] := by rw [List.take_succ_eq_append_getElem h]
theorem uids_snoc (l : List Nd) (x : Nd) : uids (l ++ [x]) = uids l ++ [x.uid] := by simp [uids]
theorem posT_nonneg {a : List Str} {x : Str} : 0 ≤ posT a x ↔ x ∈ a := by
  unfold posT; split <;> simp_all
theorem posT_neg {a : List Str} {x : Str} : posT a x < 0 ↔ x ∉ a := by rw [← posT_nonneg]; omega
theorem posT_self {a : List Str} {i : Nat} (hi : i < a.length) : posT a a[i] = i ↔ a[i] ∉ a.take i := by
  constructor
  · intro h hm
    unfold posT at h
    rw [if_pos (List.getElem_mem hi)] at h
    have h : (a.findIdx fun y => decide (y = a[i])) = i := by exact_mod_cast h
    rw [List.findIdx_eq hi] at h
    obtain ⟨j, hj, hj'⟩ := List.mem_take_iff_getElem.1 hm
    have := h.2 j (by omega)
    simp only [decide_eq_false_iff_not] at this
    exact this hj'
  · intro h; exact posT_at hi rfl h
def prsN : List Nd → Prs
  | [] => []
  | n :: r => if n.up = [] then prsN r else (n.uid, n.up) :: prsN r
theorem prsN_append (a b : List Nd) : prsN (a ++ b) = prsN a ++ prsN b := by
  induction a with
  | nil => rfl
  | cons n r ih => simp only [List.cons_append, prsN]; split <;> simp [ih]
theorem prsN_take {l : List Nd} {i : Nat} (hi : i < l.length) : prsN (l.take (i + 1)) = prsN (l.take i) ++ if l[i].up = [] then [] else [(l[i].uid, l[i].up)] := by
  rw [nd_take_snoc hi, prsN_append]
  congr 1
@[simp] theorem prsN_nil : prsN [] = [] := rfl
theorem prsN_len (l : List Nd) : (prsN l).length ≤ l.length := by
  induction l with
  | nil => simp
  | cons n r ih => simp only [prsN]; split <;> simp <;> omega
theorem prsN_len_take {l : List Nd} (i : Nat) (h : l.length < 1000000) : (prsN (l.take i)).length < 1000000 := by
  have := prsN_len (l.take i)
  have : (l.take i).length ≤ l.length := by simp; omega
  omega
def firstE : List Nd → Int
  | [] => 0
  | n :: r => if S.chk n.s n.p n.d = 0 then firstE r else S.chk n.s n.p n.d
theorem firstE_append {a b : List Nd} (h : ∀ n ∈ a, S.chk n.s n.p n.d = 0) : firstE (a ++ b) = firstE b := by
  induction a with
  | nil => rfl
  | cons n r ih => simp only [List.cons_append, firstE]; rw [if_pos (h n (by simp)), ih (fun m hm => h m (by simp [hm]))]
theorem firstE_at {l : List Nd} {i : Nat} (hi : i < l.length) (h : ∀ n ∈ l.take i, S.chk n.s n.p n.d = 0) (he : ¬ S.chk l[i].s l[i].p l[i].d = 0) : firstE l = S.chk l[i].s l[i].p l[i].d := by
  conv => lhs; rw [← List.take_append_drop i l]
  rw [firstE_append h, List.drop_eq_getElem_cons hi, firstE, if_neg he]
theorem firstE_zero {l : List Nd} (h : ∀ n ∈ l, S.chk n.s n.p n.d = 0) : firstE l = 0 := by
  have := firstE_append (b := []) h; simpa [firstE] using this
theorem firstE_iff {l : List Nd} : firstE l = 0 ↔ ∀ n ∈ l, S.chk n.s n.p n.d = 0 := by
  refine ⟨fun h => ?_, firstE_zero⟩
  induction l with
  | nil => simp
  | cons n r ih =>
    simp only [firstE] at h
    split at h
    · next h0 =>
      intro m hm
      rcases List.mem_cons.1 hm with rfl | hm
      · exact h0
      · exact ih h m hm
    · next h0 => exact absurd h h0
/-- Whether nodes may be. -/
def chkN (l : List Nd) : Int :=
  if [] ∈ uids l then 2 else if ¬ (uids l).Nodup then 19 else if ∃ q ∈ prsN l, q.2 ∉ uids l then 6 else if ¬ chkF (prsN l) = 0 then 14 else firstE l
theorem fn_find1 (n : Nd) (c : Str) : Fn [] Try.prog k_rollup_find_1 [.agg [.str n.uid, .str n.up, .int .u8 n.s, .int .i64 n.p, .int .i64 n.d], .ref [.str c]] (.bool (decide (n.uid = c))) := by
  refine fn_intro hm ok_rollup_find_1 (by simp) ?_
  simp [c_rollup_find_1, r_rollup_find_1]
theorem fn_IndexFuncN (l : List Nd) (c : Str) (hl : l.length < 1000000) : Fn [] Try.prog k_slices_IndexFunc_Node [.slice (ns l), .fn k_rollup_find_1 [.ref [.str c]]] (.int .i64 (posT (uids l) c)) := by
  refine fn_intro hm ok_slices_IndexFunc_Node (by simp) ?_
  simp [c_slices_IndexFunc_Node, r_slices_IndexFunc_Node]
  refine loopW hm (fun i : Nat => ⟨[(8, .val (.int .i64 i)), (7, .val (.int .i64 l.length)), (1, .val (.fn k_rollup_find_1 [.ref [.str c]])), (0, .val (.slice (ns l)))], [], [], 19, []⟩)
    (fun i => i ≤ l.length ∧ c ∉ (uids l).take i) (fun i => l.length - i) 0 ⟨by omega, by simp⟩ (by exact weak_drop rfl rfl (by simp [EnvLe, getE, look]) (by simp [ObLe, look]) (by simp [roOk])) (fun _ => rfl) ?_
  rintro i ⟨h1, h2⟩
  simp
  refine brd (fun hi => ?_) (fun hi => ?_)
  · have hi' : i < (uids l).length := by simpa using hi
    simp [ns_get hi]
    refine callW_imm (fn_find1 _ _) ?_
    simp
    refine brd (fun h => ?_) (fun h => ?_)
    · simp; exact (posT_at hi' (by rw [uids_get hi]; exact h) h2).symm
    · simp [wrap_succ hi hl]
      refine loopEnd (i + 1) ⟨by omega, ?_⟩ (by omega) (by exact weak_drop rfl rfl (by simp [EnvLe, getE, look]) (by simp [ObLe, look]) (by simp [roOk]))
      rw [List.take_succ_eq_append_getElem hi', List.mem_append, List.mem_singleton]
      exact fun hh => hh.elim h2 (fun e => h (by rw [e, uids_get hi]))
  · simp
    obtain rfl : i = l.length := by omega
    rw [List.take_of_length_le (by simp)] at h2
    simp only [posT, if_neg h2]
theorem fn_find (l : List Nd) (c : Str) (hl : l.length < 1000000) : Fn [] Try.prog k_rollup_find [.slice (ns l), .str c] (.int .i64 (posT (uids l) c)) := by
  refine fn_intro hm ok_rollup_find (by simp) ?_
  simp [c_rollup_find, r_rollup_find]
  refine callW_imm (fn_IndexFuncN l c hl) ?_
  simp
theorem fn_at (l : List Nd) (c : Str) (hl : l.length < 1000000) : Fn [] Try.prog k_ref33_at [.slice (ns l), .str c] (.int .i64 (posT (uids l) c)) := by
  refine fn_intro hm ok_ref33_at (by simp) ?_
  simp [c_ref33_at, r_ref33_at]
  refine loopW hm (fun i : Nat => ⟨[(5, .val (.int .i64 i)), (1, .val (.str c)), (0, .val (.slice (ns l)))], [], [], 20, []⟩)
    (fun i => i ≤ l.length ∧ c ∉ (uids l).take i) (fun i => l.length - i) 0 ⟨by omega, by simp⟩ (by exact weak_drop rfl rfl (by simp [EnvLe, getE, look]) (by simp [ObLe, look]) (by simp [roOk])) (fun _ => rfl) ?_
  rintro i ⟨h1, h2⟩
  simp
  refine brd (fun hi => ?_) (fun hi => ?_)
  · have hi' : i < (uids l).length := by simpa using hi
    simp [ns_get hi]
    refine brd (fun h => ?_) (fun h => ?_)
    · simp; exact (posT_at hi' (by rw [uids_get hi]; exact h) h2).symm
    · simp [wrap_succ hi hl]
      refine loopEnd (i + 1) ⟨by omega, ?_⟩ (by omega) (by exact weak_drop rfl rfl (by simp [EnvLe, getE, look]) (by simp [ObLe, look]) (by simp [roOk]))
      rw [List.take_succ_eq_append_getElem hi', List.mem_append, List.mem_singleton]
      exact fun hh => hh.elim h2 (fun e => h (by rw [e, uids_get hi]))
  · simp
    obtain rfl : i = l.length := by omega
    rw [List.take_of_length_le (by simp)] at h2
    simp only [posT, if_neg h2]
theorem fn_pairs (l : List Nd) (hl : l.length < 1000000) : Fn [] Try.prog k_rollup_pairs [.slice (ns l)] (.slice (ps (prsN l))) := by
  refine fn_intro hm ok_rollup_pairs (by simp) ?_
  simp [c_rollup_pairs, r_rollup_pairs]
  refine loopW hm (fun i : Nat => ⟨[(8, .val (.int .i64 i)), (7, .val (.int .i64 l.length)), (6, .val (.slice (ns l))), (3, .own 3 (prsN (l.take i)).length)], [(3, .arr (prsN (l.take i)).length 2 (ps (prsN (l.take i))))], [], 25, []⟩)
    (fun i => i ≤ l.length) (fun i => l.length - i) 0 (by omega) (by exact Weak.trans (weak_adopt (k := 3) 3 2 (by simp) (by simp [getE, look])) (weak_drop rfl rfl (by simp [St.adopt, EnvLe, getE, look, put, eraseE, SV.erase]) (by simp [St.adopt, ObLe, look, put, eraseO, Ob.erase]) (by simp [St.adopt, roOk]))) (fun _ => rfl) ?_
  rintro i h1
  simp
  have hb := prsN_len_take i hl
  refine brd (fun hi => ?_) (fun hi => ?_)
  · have hk := prsN_take hi
    simp [ns_get hi]
    refine brd (fun h => ?_) (fun h => ?_)
    · rw [if_pos h, List.append_nil] at hk
      simp [wrap_succ hi hl]
      refine loopEnd (i + 1) (by omega) (by omega) ?_
      simp only [hk]
      exact weak_drop rfl rfl (by simp [EnvLe, getE, look]) (by simp [ObLe, look]) (by simp [roOk])
    · rw [if_neg h] at hk
      simp [wrap_succ hi hl]
      refine ⟨by omega, ?_⟩
      refine loopEnd (i + 1) (by omega) (by omega) ?_
      simp only [hk, ps_snoc, List.length_append, List.length_singleton]
      exact weak_drop rfl rfl (by simp [EnvLe, getE, look]) (by simp [ObLe, look]) (by simp [roOk])
  · simp
    obtain rfl : i = l.length := by omega
    rw [List.take_length]
end Go.Vs.Ytjfleklkloohgaa.R
/- The walk of the functions of rollup, part 2: whether nodes may be; means. No conditions. -/
namespace Go.Vs.Ytjfleklkloohgaa.R
set_option linter.unusedSimpArgs false
set_option linter.unusedVariables false
open Go.Proofs Go.Vs.Fo
set_option maxRecDepth 100000
set_option maxHeartbeats 4000000
theorem uids_getE {l : List Nd} {i : Nat} (hi : i < l.length) : (uids l)[i]? = some l[i].uid := by simp [uids, hi]
theorem take_succ_uids {l : List Nd} {i : Nat} (hi : i < l.length) : uids (l.take (i + 1)) = uids (l.take i) ++ [l[i].uid] := by rw [nd_take_snoc hi, uids_snoc]
theorem nodup_snoc {a : List Str} {x : Str} : (a ++ [x]).Nodup ↔ a.Nodup ∧ x ∉ a := by
  rw [List.nodup_append]
  constructor
  · rintro ⟨h1, _, h2⟩; exact ⟨h1, fun hx => h2 x hx x (by simp) rfl⟩
  · rintro ⟨h1, h2⟩; refine ⟨h1, by simp, ?_⟩; intro y hy z hz; simp at hz; subst hz; rintro rfl; exact h2 hy
theorem not_nodup {l : List Nd} {i : Nat} (hi : i < l.length) (h : l[i].uid ∈ uids (l.take i)) : ¬ (uids l).Nodup := by
  intro hn
  have h2 : (uids (l.take (i + 1))).Nodup := by rw [← uids_take]; exact List.Nodup.sublist (List.take_sublist _ _) hn
  rw [take_succ_uids hi, nodup_snoc] at h2
  exact h2.2 h
theorem fn_Check (l : List Nd) (hl : l.length < 1000000) : Fn [] Try.prog k_rollup_Check [.slice (ns l)] (.int .i64 (chkN l)) := by
  refine fn_intro hm ok_rollup_Check (by simp) ?_
  simp [c_rollup_Check, r_rollup_Check]
  refine callW_imm (fn_find l [] hl) ?_
  simp [posT_nonneg]
  refine brd (fun h0 => ?_) (fun h0 => ?_)
  · simp [chkN, h0]
  simp
  refine loopW hm (fun i : Nat => ⟨[(16, .val (.int .i64 i)), (15, .val (.int .i64 l.length)), (14, .val (.slice (ns l))), (0, .val (.slice (ns l)))], [], [], 59, []⟩)
    (fun i => i ≤ l.length ∧ (uids (l.take i)).Nodup) (fun i => l.length - i) 0 ⟨by omega, by simp [uids]⟩ (by exact weak_drop rfl rfl (by simp [EnvLe, getE, look]) (by simp [ObLe, look]) (by simp [roOk])) (fun _ => rfl) ?_
  rintro i ⟨h1, h2⟩
  simp
  refine brd (fun hi => ?_) (fun hi => ?_)
  · simp [ns_get hi, ns_take]
    refine ⟨⟨h1, fun r hr => ns_five r hr⟩, ?_⟩
    refine callW_imm (fn_find (l.take i) l[i].uid (by simp; omega)) ?_
    simp [posT_nonneg]
    refine ⟨rfl, ?_⟩
    refine brd (fun h => ?_) (fun h => ?_)
    · simp [chkN, h0, not_nodup hi h]
    · simp [wrap_succ hi hl]
      exact loopEnd (i + 1) ⟨by omega, by rw [take_succ_uids hi, nodup_snoc]; exact ⟨h2, h⟩⟩ (by omega) (by exact weak_drop rfl rfl (by simp [EnvLe, getE, look]) (by simp [ObLe, look]) (by simp [roOk]))
  obtain rfl : i = l.length := by omega
  have hnd : (uids l).Nodup := by rwa [List.take_length] at h2
  clear h1 h2 hi
  have hpl : (prsN l).length < 1000000 := by have := prsN_len l; omega
  simp
  refine callW_imm (fn_pairs l hl) ?_
  simp
  refine loopW hm (fun i : Nat => ⟨[(33, .val (.int .i64 i)), (32, .val (.int .i64 (prsN l).length)), (31, .val (.slice (ps (prsN l)))), (5, .val (.slice (ps (prsN l)))), (0, .val (.slice (ns l)))], [], [], 59, []⟩)
    (fun i => i ≤ (prsN l).length ∧ ∀ q ∈ (prsN l).take i, q.2 ∈ uids l) (fun i => (prsN l).length - i) 0 ⟨by omega, by simp⟩ (by exact weak_drop rfl rfl (by simp [EnvLe, getE, look]) (by simp [ObLe, look]) (by simp [roOk])) (fun _ => rfl) ?_
  rintro i ⟨h1, h2⟩
  simp
  refine brd (fun hi => ?_) (fun hi => ?_)
  · simp [ps_get hi]
    refine callW_imm (fn_find l _ hl) ?_
    simp [posT_neg]
    refine brd (fun h => ?_) (fun h => ?_)
    · simp [wrap_succ hi hpl]
      refine loopEnd (i + 1) ⟨by omega, ?_⟩ (by omega) (by exact weak_drop rfl rfl (by simp [EnvLe, getE, look]) (by simp [ObLe, look]) (by simp [roOk]))
      rw [take_snoc hi]
      intro q hq
      rcases List.mem_append.1 hq with hq | hq
      · exact h2 q hq
      · rw [List.mem_singleton] at hq; subst hq; exact h
    · have : ∃ q ∈ prsN l, q.2 ∉ uids l := ⟨_, List.getElem_mem hi, h⟩
      simp only [chkN, if_neg h0, hnd, not_true, if_false, if_pos this]
      simp
  obtain rfl : i = (prsN l).length := by omega
  rw [List.take_length] at h2
  have hpr : ¬ ∃ q ∈ prsN l, q.2 ∉ uids l := by rintro ⟨q, hq, hq2⟩; exact hq2 (h2 q hq)
  clear h1 hi
  simp
  refine callW_imm (Go.Vs.Ytjfleklkloohgaa.fn_Check (prsN l) hpl) ?_
  simp
  refine brd (fun hF => ?_) (fun hF => ?_)
  case refine_2 => simp only [chkN, if_neg h0, hnd, not_true, if_false, if_neg hpr, hF, not_false_eq_true, if_true]; simp
  have hck : chkN l = firstE l := by simp only [chkN, if_neg h0, hnd, not_true, if_false, if_neg hpr, hF]
  simp
  refine loopW hm (fun i : Nat => ⟨[(48, .val (.int .i64 i)), (47, .val (.int .i64 l.length)), (46, .val (.slice (ns l))), (0, .val (.slice (ns l)))], [], [], 59, []⟩)
    (fun i => i ≤ l.length ∧ ∀ n ∈ l.take i, S.chk n.s n.p n.d = 0) (fun i => l.length - i) 0 ⟨by omega, by simp⟩ (by exact weak_drop rfl rfl (by simp [EnvLe, getE, look]) (by simp [ObLe, look]) (by simp [roOk])) (fun _ => rfl) ?_
  rintro i ⟨h1, h2⟩
  simp
  refine brd (fun hi => ?_) (fun hi => ?_)
  · simp [ns_get hi]
    refine callW_imm (S.fn_Check _ _ _) ?_
    simp
    refine brd (fun h => ?_) (fun h => ?_)
    · simp [wrap_succ hi hl]
      refine loopEnd (i + 1) ⟨by omega, ?_⟩ (by omega) (by exact weak_drop rfl rfl (by simp [EnvLe, getE, look]) (by simp [ObLe, look]) (by simp [roOk]))
      rw [nd_take_snoc hi]
      intro n hn
      rcases List.mem_append.1 hn with hn | hn
      · exact h2 n hn
      · rw [List.mem_singleton] at hn; subst hn; exact h
    · simp [hck, firstE_at hi h2 h]
  · obtain rfl : i = l.length := by omega
    rw [List.take_length] at h2
    simp [hck, firstE_zero h2]
end Go.Vs.Ytjfleklkloohgaa.R
/- The walk of the functions of rollup, part 3: the document's check; means. No conditions. -/
namespace Go.Vs.Ytjfleklkloohgaa.R
set_option linter.unusedSimpArgs false
set_option linter.unusedVariables false
open Go.Proofs Go.Vs.Fo
set_option maxRecDepth 100000
set_option maxHeartbeats 4000000
theorem fn_rCheck (l : List Nd) (hl : l.length < 1000000) (hw : ∀ n ∈ l, 0 ≤ n.s) : Fn [] Try.prog k_ref33_Check [.slice (ns l)] (.int .i64 (chkN l)) := by
  refine fn_intro hm ok_ref33_Check (by simp) ?_
  simp [c_ref33_Check, r_ref33_Check]
  refine loopW hm (fun i : Nat => ⟨[(3, .val (.int .i64 i)), (0, .val (.slice (ns l)))], [], [], 88, []⟩)
    (fun i => i ≤ l.length ∧ [] ∉ uids (l.take i)) (fun i => l.length - i) 0 ⟨by omega, by simp [uids]⟩ (by exact weak_drop rfl rfl (by simp [EnvLe, getE, look]) (by simp [ObLe, look]) (by simp [roOk])) (fun _ => rfl) ?_
  rintro i ⟨h1, h2⟩
  simp
  refine brd (fun hi => ?_) (fun hi => ?_)
  · simp [ns_get hi]
    refine brd (fun h => ?_) (fun h => ?_)
    · have : [] ∈ uids l := List.mem_map.2 ⟨l[i], List.getElem_mem hi, h⟩
      simp [chkN, this]
    · simp [wrap_succ hi hl]
      refine loopEnd (i + 1) ⟨by omega, ?_⟩ (by omega) (by exact weak_drop rfl rfl (by simp [EnvLe, getE, look]) (by simp [ObLe, look]) (by simp [roOk]))
      rw [take_succ_uids hi, List.mem_append, List.mem_singleton]
      exact fun hh => hh.elim h2 (fun e => h e.symm)
  obtain rfl : i = l.length := by omega
  rw [List.take_length] at h2
  have h0 := h2
  clear h1 h2 hi
  simp
  refine loopW hm (fun i : Nat => ⟨[(4, .val (.int .i64 i)), (0, .val (.slice (ns l)))], [], [], 88, []⟩)
    (fun i => i ≤ l.length ∧ (uids (l.take i)).Nodup) (fun i => l.length - i) 0 ⟨by omega, by simp [uids]⟩ (by exact weak_drop rfl rfl (by simp [EnvLe, getE, look]) (by simp [ObLe, look]) (by simp [roOk])) (fun _ => rfl) ?_
  rintro i ⟨h1, h2⟩
  simp
  refine brd (fun hi => ?_) (fun hi => ?_)
  · have hi' : i < (uids l).length := by simpa using hi
    have hps := posT_self hi'
    rw [uids_get hi, uids_take] at hps
    simp [ns_get hi]
    refine callW_imm (fn_at l _ hl) ?_
    simp
    refine brd (fun h => ?_) (fun h => ?_)
    · simp [wrap_succ hi hl]
      exact loopEnd (i + 1) ⟨by omega, by rw [take_succ_uids hi, nodup_snoc]; exact ⟨h2, hps.1 h⟩⟩ (by omega) (by exact weak_drop rfl rfl (by simp [EnvLe, getE, look]) (by simp [ObLe, look]) (by simp [roOk]))
    · have : l[i].uid ∈ uids (l.take i) := by
        by_cases hh : l[i].uid ∈ uids (l.take i)
        · exact hh
        · exact absurd (hps.2 hh) h
      simp [chkN, h0, not_nodup hi this]
  obtain rfl : i = l.length := by omega
  have hnd : (uids l).Nodup := by rwa [List.take_length] at h2
  clear h1 h2 hi
  have hpl : (prsN l).length < 1000000 := by have := prsN_len l; omega
  simp
  refine loopW hm (fun i : Nat => ⟨[(6, .val (.int .i64 i)), (5, .own 5 (prsN (l.take i)).length), (0, .val (.slice (ns l)))], [(5, .arr (prsN (l.take i)).length 2 (ps (prsN (l.take i))))], [], 88, []⟩)
    (fun i => i ≤ l.length ∧ ∀ q ∈ prsN (l.take i), q.2 ∈ uids l) (fun i => l.length - i) 0 ⟨by omega, by simp⟩ (by exact Weak.trans (weak_adopt (k := 5) 5 2 (by simp) (by simp [getE, look])) (weak_drop rfl rfl (by simp [St.adopt, EnvLe, getE, look, put, eraseE, SV.erase]) (by simp [St.adopt, ObLe, look, put, eraseO, Ob.erase]) (by simp [St.adopt, roOk]))) (fun _ => rfl) ?_
  rintro i ⟨h1, h2⟩
  simp
  have hb := prsN_len_take i hl
  refine brd (fun hi => ?_) (fun hi => ?_)
  · have hk := prsN_take hi
    simp [ns_get hi]
    refine brd (fun h => ?_) (fun h => ?_)
    · rw [if_pos h, List.append_nil] at hk
      simp [wrap_succ hi hl]
      refine loopEnd (i + 1) ⟨by omega, by rw [hk]; exact h2⟩ (by omega) ?_
      simp only [hk]
      exact weak_drop rfl rfl (by simp [EnvLe, getE, look]) (by simp [ObLe, look]) (by simp [roOk])
    · rw [if_neg h] at hk
      simp [ns_get hi]
      refine callW_imm (fn_at l _ hl) ?_
      simp [posT_neg]
      refine brd (fun h' => ?_) (fun h' => ?_)
      · simp [ns_get hi, wrap_succ hi hl]
        refine ⟨by omega, rfl, ?_⟩
        refine loopEnd (i + 1) ⟨by omega, ?_⟩ (by omega) ?_
        · rw [hk]
          intro q hq
          rcases List.mem_append.1 hq with hq | hq
          · exact h2 q hq
          · rw [List.mem_singleton] at hq; subst hq; exact h'
        · simp only [hk, ps_snoc, List.length_append, List.length_singleton]
          exact weak_drop rfl rfl (by simp [EnvLe, getE, look]) (by simp [ObLe, look]) (by simp [roOk])
      · have hmem : (l[i].uid, l[i].up) ∈ prsN l := by
          have e : prsN l = prsN (l.take (i + 1)) ++ prsN (l.drop (i + 1)) := by rw [← prsN_append, List.take_append_drop]
          rw [e, hk]; simp
        have : ∃ q ∈ prsN l, q.2 ∉ uids l := ⟨_, hmem, h'⟩
        simp only [chkN, if_neg h0, hnd, not_true, if_false, if_pos this]
        simp
  obtain rfl : i = l.length := by omega
  rw [List.take_length] at h2 ⊢
  have hpr : ¬ ∃ q ∈ prsN l, q.2 ∉ uids l := by rintro ⟨q, hq, hq2⟩; exact hq2 (h2 q hq)
  clear h1 hi hb
  simp
  refine callW_imm (Go.Vs.Ytjfleklkloohgaa.fn_rCheck (prsN l) hpl) ?_
  simp
  refine brd (fun hF => ?_) (fun hF => ?_)
  case refine_2 => simp only [chkN, if_neg h0, hnd, not_true, if_false, if_neg hpr, hF, not_false_eq_true, if_true]; simp
  have hck : chkN l = firstE l := by simp only [chkN, if_neg h0, hnd, not_true, if_false, if_neg hpr, hF]
  simp
  refine loopW hm (fun i : Nat => ⟨[(7, .val (.int .i64 i)), (0, .val (.slice (ns l)))], [], [], 88, []⟩)
    (fun i => i ≤ l.length ∧ ∀ n ∈ l.take i, S.chk n.s n.p n.d = 0) (fun i => l.length - i) 0 ⟨by omega, by simp⟩ (by exact weak_drop rfl rfl (by simp [EnvLe, getE, look]) (by simp [ObLe, look]) (by simp [roOk])) (fun _ => rfl) ?_
  rintro i ⟨h1, h2⟩
  simp
  refine brd (fun hi => ?_) (fun hi => ?_)
  · simp [ns_get hi]
    refine callW_imm (S.fn_rCheck _ _ _ (hw _ (List.getElem_mem hi))) ?_
    simp
    refine brd (fun h => ?_) (fun h => ?_)
    · simp [wrap_succ hi hl]
      refine loopEnd (i + 1) ⟨by omega, ?_⟩ (by omega) (by exact weak_drop rfl rfl (by simp [EnvLe, getE, look]) (by simp [ObLe, look]) (by simp [roOk]))
      rw [nd_take_snoc hi]
      intro n hn
      rcases List.mem_append.1 hn with hn | hn
      · exact h2 n hn
      · rw [List.mem_singleton] at hn; subst hn; exact h
    · simp [hck, firstE_at hi h2 h]
  · obtain rfl : i = l.length := by omega
    rw [List.take_length] at h2
    simp [hck, firstE_zero h2]
theorem ns_snoc (l : List Nd) (x : Nd) : ns (l ++ [x]) = ns l ++ [[.str x.uid, .str x.up, .int .u8 x.s, .int .i64 x.p, .int .i64 x.d]] := by simp [ns]
theorem fn_Own (l : List Nd) (hl : l.length < 1000000) : Fn [] Try.prog k_law33_Own [.slice (ns l)] (.slice (ns l)) := by
  refine fn_intro hm ok_law33_Own (by simp) ?_
  simp [c_law33_Own, r_law33_Own]
  refine loopW hm (fun i : Nat => ⟨[(4, .val (.int .i64 i)), (3, .own 3 i), (0, .val (.slice (ns l)))], [(3, .arr i 5 (ns (l.take i)))], [], 31, []⟩)
    (fun i => i ≤ l.length) (fun i => l.length - i) 0 (by omega) (by exact Weak.trans (weak_adopt (k := 3) 3 5 (by simp) (by simp [getE, look])) (weak_drop rfl rfl (by simp [St.adopt, EnvLe, getE, look, put, eraseE, SV.erase]) (by simp [St.adopt, ObLe, look, put, eraseO, Ob.erase]) (by simp [St.adopt, roOk]))) (fun _ => rfl) ?_
  rintro i h1
  simp
  refine brd (fun hi => ?_) (fun hi => ?_)
  · simp [ns_get hi, wrap_succ hi hl]
    refine ⟨by omega, rfl, ?_⟩
    refine loopEnd (i + 1) (by omega) (by omega) ?_
    have e : ns (l.take (i + 1)) = ns (l.take i) ++ [[.str l[i].uid, .str l[i].up, .int .u8 l[i].s, .int .i64 l[i].p, .int .i64 l[i].d]] := by rw [nd_take_snoc hi, ns_snoc]
    simp only [e]
    exact weak_drop rfl rfl (by simp [EnvLe, getE, look]) (by simp [ObLe, look]) (by simp [roOk])
  · simp
    obtain rfl : i = l.length := by omega
    rw [List.take_length]
def fewN (l : List Nd) : Bool := decide (l.length ≤ 26) && l.all fun n => decide (n.uid.length ≤ 30) && decide (n.up.length ≤ 30)
theorem fn_Few (l : List Nd) : Fn [] Try.prog k_law33_Few [.slice (ns l)] (.bool (fewN l)) := by
  refine fn_intro hm ok_law33_Few (by simp) ?_
  simp [c_law33_Few, r_law33_Few]
  refine brd (fun h0 => ?_) (fun h0 => ?_)
  · simp [fewN]; omega
  simp
  refine loopW hm (fun i : Nat => ⟨[(3, .val (.int .i64 i)), (0, .val (.slice (ns l)))], [], [], 29, []⟩)
    (fun i => i ≤ l.length ∧ ∀ n ∈ l.take i, n.uid.length ≤ 30 ∧ n.up.length ≤ 30) (fun i => l.length - i) 0 ⟨by omega, by simp⟩ (by exact weak_drop rfl rfl (by simp [EnvLe, getE, look]) (by simp [ObLe, look]) (by simp [roOk])) (fun _ => rfl) ?_
  rintro i ⟨h1, h2⟩
  simp
  refine brd (fun hi => ?_) (fun hi => ?_)
  · have hmem : l[i] ∈ l := List.getElem_mem hi
    simp [ns_get hi]
    refine brd (fun h => ?_) (fun h => ?_)
    · simp [fewN]
      exact fun _ => ⟨l[i], hmem, fun _ => by omega⟩
    · simp [ns_get hi]
      refine brd (fun h' => ?_) (fun h' => ?_)
      · simp [fewN]
        exact fun _ => ⟨l[i], hmem, fun _ => by omega⟩
      · simp [wrap_succ hi (show l.length < 1000000 by omega)]
        refine loopEnd (i + 1) ⟨by omega, ?_⟩ (by omega) (by exact weak_drop rfl rfl (by simp [EnvLe, getE, look]) (by simp [ObLe, look]) (by simp [roOk]))
        rw [nd_take_snoc hi]
        intro p hp
        rcases List.mem_append.1 hp with hp | hp
        · exact h2 p hp
        · rw [List.mem_singleton] at hp; subst hp; omega
  · simp [fewN]
    obtain rfl : i = l.length := by omega
    rw [List.take_length] at h2
    exact ⟨by omega, h2⟩
/-- Numbers. -/
def is (l : List Int) : List (List IV) := l.map fun x => [.int .i64 x]
@[simp] theorem is_len (l : List Int) : (is l).length = l.length := by simp [is]
theorem is_get {l : List Int} {i : Nat} (h : i < l.length) : (is l)[i]? = some [.int .i64 l[i]] := by simp [is, h]
def clamp (n : Int) : Int := min (max n 0) 100
def sumC (l : List Int) : Int := (l.map clamp).sum
def meanI (l : List Int) : Int := if l = [] then 0 else sumC l / l.length
theorem clamp_le (n : Int) : 0 ≤ clamp n ∧ clamp n ≤ 100 := by unfold clamp; omega
theorem sumC_le (l : List Int) : 0 ≤ sumC l ∧ sumC l ≤ 100 * l.length := by
  induction l with
  | nil => simp [sumC]
  | cons n r ih => have := clamp_le n; simp only [sumC, List.map_cons, List.sum_cons, List.length_cons] at ih ⊢; omega
theorem sumC_append (a b : List Int) : sumC (a ++ b) = sumC a + sumC b := by simp [sumC]
@[simp] theorem sumC_nil : sumC [] = 0 := rfl
theorem sumC_take {l : List Int} {i : Nat} (hi : i < l.length) : sumC (l.take (i + 1)) = sumC (l.take i) + clamp l[i] := by
  rw [List.take_succ_eq_append_getElem hi, sumC_append]; simp [sumC]
theorem fn_Mean (l : List Int) (hl : l.length < 1000000) : Fn [] Try.prog k_rollup_Mean [.slice (is l)] (.int .i64 (meanI l)) := by
  refine fn_intro hm ok_rollup_Mean (by simp) ?_
  simp [c_rollup_Mean, r_rollup_Mean]
  refine brd (fun h0 => ?_) (fun h0 => ?_)
  · simp [meanI, h0]
  simp
  refine loopW hm (fun i : Nat => ⟨[(11, .val (.int .i64 i)), (10, .val (.int .i64 l.length)), (9, .val (.slice (is l))), (3, .val (.int .i64 (sumC (l.take i)))), (0, .val (.slice (is l)))], [], [], 25, []⟩)
    (fun i => i ≤ l.length) (fun i => l.length - i) 0 (by omega) (by exact weak_drop rfl rfl (by simp [EnvLe, getE, look]) (by simp [ObLe, look]) (by simp [roOk])) (fun _ => rfl) ?_
  rintro i h1
  simp
  refine brd (fun hi => ?_) (fun hi => ?_)
  · have hs := sumC_take hi
    have hb := sumC_le (l.take i)
    have hc := clamp_le l[i]
    have htl : (l.take i).length ≤ l.length := by simp; omega
    have hwr : IntKind.i64.wrap (sumC (l.take i) + min (max l[i] 0) 100) = sumC (l.take (i + 1)) := by
      rw [hs, IntKind.wrap_i64]; unfold clamp at hc ⊢; omega
    simp [is_get hi, hwr, wrap_succ hi hl]
    exact loopEnd (i + 1) (by omega) (by omega) (by exact weak_drop rfl rfl (by simp [EnvLe, getE, look]) (by simp [ObLe, look]) (by simp [roOk]))
  · obtain rfl : i = l.length := by omega
    simp
    have hb := sumC_le l
    have e1 : (sumC l).tdiv l.length = sumC l / l.length := Int.tdiv_eq_ediv_of_nonneg hb.1
    have e2 : 0 ≤ sumC l / l.length := Int.ediv_nonneg hb.1 (by omega)
    have e3 : sumC l / l.length ≤ sumC l := Int.ediv_le_self _ hb.1
    have hw : IntKind.i64.wrap (sumC l / l.length) = sumC l / l.length := by rw [IntKind.wrap_i64]; omega
    refine ⟨h0, ?_⟩
    rw [e1, hw, meanI, if_neg h0]
theorem fn_rMean (l : List Int) (hl : l.length < 1000000) : Fn [] Try.prog k_ref33_Mean [.slice (is l)] (.int .i64 (meanI l)) := by
  refine fn_intro hm ok_ref33_Mean (by simp) ?_
  simp [c_ref33_Mean, r_ref33_Mean]
  refine loopW hm (fun i : Nat => ⟨[(4, .val (.int .i64 i)), (3, .val (.int .i64 (sumC (l.take i)))), (0, .val (.slice (is l)))], [], [], 24, []⟩)
    (fun i => i ≤ l.length) (fun i => l.length - i) 0 (by omega) (by exact weak_drop rfl rfl (by simp [EnvLe, getE, look]) (by simp [ObLe, look]) (by simp [roOk])) (fun _ => rfl) ?_
  rintro i h1
  simp
  refine brd (fun hi => ?_) (fun hi => ?_)
  · have hs := sumC_take hi
    have hb := sumC_le (l.take i)
    have hc := clamp_le l[i]
    have htl : (l.take i).length ≤ l.length := by simp; omega
    have hwr : IntKind.i64.wrap (sumC (l.take i) + max 0 (min 100 l[i])) = sumC (l.take (i + 1)) := by
      rw [hs, IntKind.wrap_i64]; unfold clamp at hc ⊢; omega
    simp [is_get hi, hwr, wrap_succ hi hl]
    exact loopEnd (i + 1) (by omega) (by omega) (by exact weak_drop rfl rfl (by simp [EnvLe, getE, look]) (by simp [ObLe, look]) (by simp [roOk]))
  · obtain rfl : i = l.length := by omega
    simp
    have hb := sumC_le l
    cases l with
    | nil => simp [meanI]; exact ⟨by decide, by decide⟩
    | cons n r =>
      have hmx : max (1 : Int) ((n :: r).length : Int) = ((n :: r).length : Int) := by simp; omega
      have e1 : (sumC (n :: r)).tdiv (n :: r).length = sumC (n :: r) / (n :: r).length := Int.tdiv_eq_ediv_of_nonneg hb.1
      have e2 : 0 ≤ sumC (n :: r) / (n :: r).length := Int.ediv_nonneg hb.1 (by omega)
      have e3 : sumC (n :: r) / (n :: r).length ≤ sumC (n :: r) := Int.ediv_le_self _ hb.1
      have hw : IntKind.i64.wrap (sumC (n :: r) / (n :: r).length) = sumC (n :: r) / (n :: r).length := by rw [IntKind.wrap_i64]; omega
      rw [hmx, e1, hw]
      exact ⟨by simp only [List.length_cons]; omega, by rw [meanI, if_neg (by simp)]⟩
end Go.Vs.Ytjfleklkloohgaa.R
