/- The walk of the functions of rollup, part 11: sums. No conditions. -/
import Derived.Test.YtjfleklkloohgaaRoB
import Derived.Test.YtjfleklkloohgaaVm4
namespace Go.Vs.Ytjfleklkloohgaa.R
set_option linter.unusedSimpArgs false
set_option linter.unusedVariables false
open Go.Proofs Go.Vs.Fo Go.Vs.Ro
set_option maxRecDepth 100000
set_option maxHeartbeats 4000000
/-- How far a whole is. -/
structure Sm where
  u : Str
  p : Int
  s : Int
  deriving DecidableEq
def Sm.iv (x : Sm) : IV := .agg [.str x.u, .int .i64 x.p, .int .u8 x.s]
def ss (l : List Sm) : List (List IV) := l.map fun x => [.str x.u, .int .i64 x.p, .int .u8 x.s]
def kid (u : Str) (k : Nd) : Bool := decide (k.up = u) && !decide (k.s = 4)
def kidsN (l : List Nd) (u : Str) : List Nd := l.filter (kid u)
def joinS (ks : List Sm) : Int := if ks.all (fun k => decide (k.s = 3)) then 3 else if ks.all (fun k => decide (k.s = 1)) then 1 else 2
def mkS (n : Nd) (ks : List Sm) : Sm := ⟨n.uid, if ks = [] then S.valT n.s n.p n.d else meanI (ks.map (·.p)), if n.s = 4 then 4 else if ks = [] then max 1 n.s else joinS ks⟩
def sumN (l : List Nd) : Nat → Nd → Sm
  | 0, n => mkS n []
  | f + 1, n => mkS n ((kidsN l n.uid).map (sumN l f))
theorem kids_take {l : List Nd} {i : Nat} (hi : i < l.length) (u : Str) : kidsN (l.take (i + 1)) u = kidsN (l.take i) u ++ if kid u l[i] then [l[i]] else [] := by
  rw [nd_take_snoc hi, kidsN, List.filter_append]
  congr 1
  simp [List.filter_cons]
theorem kids_len (l : List Nd) (u : Str) (i : Nat) : (kidsN (l.take i) u).length ≤ l.length := by
  have h1 : (kidsN (l.take i) u).length ≤ (l.take i).length := List.length_filter_le _ _
  have h2 : (l.take i).length ≤ l.length := by simp; omega
  omega
theorem is_snoc (l : List Int) (x : Int) : is (l ++ [x]) = is l ++ [[.int .i64 x]] := by simp [is]
/-- What the loop has read. -/
def got (l : List Nd) (f : Nat) (u : Str) (i : Nat) : List Sm := match f with
  | 0 => []
  | f + 1 => (kidsN (l.take i) u).map (sumN l f)
theorem got_all (l : List Nd) (f : Nat) (n : Nd) : mkS n (got l f n.uid l.length) = sumN l f n := by
  cases f with
  | zero => rfl
  | succ f => simp [got, sumN]
theorem got_len (l : List Nd) (f : Nat) (u : Str) (i : Nat) : (got l f u i).length ≤ l.length := by
  cases f with
  | zero => simp [got]
  | succ f => simp only [got, List.length_map]; exact kids_len l u i
theorem fn_rsum (l : List Nd) (hl : l.length < 1000000) (hw : ∀ n ∈ l, 0 ≤ n.s) : ∀ (f : Nat) (n : Nd), f < 1000000 → 0 ≤ n.s → Fn [] Try.prog k_ref33_sum [.slice (ns l), .agg [.str n.uid, .str n.up, .int .u8 n.s, .int .i64 n.p, .int .i64 n.d], .int .i64 f] (sumN l f n).iv := by
  intro f
  induction f using Nat.strongRecOn with
  | ind f ih =>
  intro n hf hn
  have hgl := got_len l f n.uid
  refine fn_intro hm ok_ref33_sum (by simp) ?_
  simp [c_ref33_sum, r_ref33_sum]
  refine loopW hm (fun i : Nat => ⟨[(10, .val (.int .i64 i)), (9, .val (.bool ((got l f n.uid i).all fun k => decide (k.s = 3)))), (8, .val (.bool ((got l f n.uid i).all fun k => decide (k.s = 1)))), (7, .own 7 (got l f n.uid i).length), (6, .loc 6 0), (4, .loc 4 0), (0, .val (.slice (ns l))), (2, .val (.int .i64 f))],
      [(4, .box [.val (.str n.uid), .val (.str n.up), .val (.int .u8 n.s), .val (.int .i64 n.p), .val (.int .i64 n.d)]), (6, .box [.val (.str []), .val (.int .i64 0), .val (.int .u8 0)]), (7, .arr (got l f n.uid i).length 1 (is ((got l f n.uid i).map (·.p))))], [], 92, []⟩)
    (fun i => i ≤ l.length ∧ (f = 0 → i = 0)) (fun i => l.length - i) 0 ⟨by omega, fun _ => rfl⟩ ?_ (fun _ => rfl) ?_
  · have e : got l f n.uid 0 = [] := by cases f <;> simp [got, kidsN]
    simp only [e]
    simp
    exact Weak.trans (weak_adopt (k := 7) 7 1 (by simp) (by simp [getE, look])) (weak_drop rfl rfl (by simp [St.adopt, EnvLe, getE, look, put, eraseE, SV.erase]) (by simp [St.adopt, ObLe, look, put, eraseO, Ob.erase]) (by simp [St.adopt, roOk]))
  rintro i ⟨h1, h2⟩
  obtain ⟨K, hKe⟩ : ∃ K, K = got l f n.uid i := ⟨_, rfl⟩
  have lK : K.length < 1000000 := by rw [hKe]; have := hgl i; omega
  obtain ⟨b3, hb3⟩ : ∃ b, b = K.all fun k => decide (k.s = 3) := ⟨_, rfl⟩
  obtain ⟨b1, hb1⟩ : ∃ b, b = K.all fun k => decide (k.s = 1) := ⟨_, rfl⟩
  simp only [← hKe, ← hb3, ← hb1]
  simp
  refine brd (fun hi => ?_) (fun hi => ?_)
  · simp
    refine brd (fun hf0 => ?_) (fun hf0 => ?_)
    · obtain ⟨g, rfl⟩ : ∃ g, f = g + 1 := ⟨f - 1, by omega⟩
      have hg : got l (g + 1) n.uid (i + 1) = K ++ if kid n.uid l[i] then [sumN l g l[i]] else [] := by
        rw [hKe]
        simp only [got, kids_take hi, List.map_append]
        congr 1
        split <;> simp
      simp [ns_get hi]
      have skipK : ∀ h : kid n.uid l[i] = false, got l (g + 1) n.uid (i + 1) = K := fun h => by rw [hg, h]; simp
      refine brd (fun hu => ?_) (fun hu => ?_)
      · simp [ns_get hi]
        refine brd (fun h4 => ?_) (fun h4 => ?_)
        · simp [wrap_succ hi hl]
          refine loopEnd (i + 1) ⟨by omega, fun h => by omega⟩ (by omega) ?_
          simp only [skipK (by simp [kid, h4]), ← hb3, ← hb1]
          exact weak_drop rfl rfl (by simp [EnvLe, getE, look]) (by simp [ObLe, look]) (by simp [roOk])
        · have hwg : IntKind.i64.wrap (g : Int) = (g : Int) := by rw [IntKind.wrap_i64]; omega
          have hkid : kid n.uid l[i] = true := by simp [kid, hu, h4]
          rw [hkid] at hg
          simp only [if_true] at hg
          simp [ns_get hi, hwg]
          refine callW_imm (ih g (by omega) l[i] (by omega) (hw _ (List.getElem_mem hi))) ?_
          obtain ⟨x, hx⟩ : ∃ x, x = sumN l g l[i] := ⟨_, rfl⟩
          rw [← hx] at hg ⊢
          simp [Sm.iv]
          refine ⟨by omega, ?_⟩
          cases b1 <;> cases b3 <;> simp [wrap_succ hi hl]
          all_goals
            refine loopEnd (i + 1) ⟨by omega, fun h => by omega⟩ (by omega) ?_
            simp only [hg, List.all_append, ← hb1, ← hb3, List.map_append, is_snoc, List.length_append, List.length_cons, List.length_nil, List.all_cons, List.all_nil, Bool.and_true, Bool.false_and, Bool.true_and, List.map_cons, List.map_nil]
            exact weak_drop rfl rfl (by simp [EnvLe, getE, look]) (by simp [ObLe, look]) (by simp [roOk])
      · simp [wrap_succ hi hl]
        refine loopEnd (i + 1) ⟨by omega, fun h => by omega⟩ (by omega) ?_
        simp only [skipK (by simp [kid, hu]), ← hb3, ← hb1]
        exact weak_drop rfl rfl (by simp [EnvLe, getE, look]) (by simp [ObLe, look]) (by simp [roOk])
    · obtain rfl : f = 0 := by omega
      have hK : mkS n K = sumN l 0 n := by rw [hKe]; exact got_all l 0 n
      simp
      refine callW_imm (fn_rMean (K.map (·.p)) (by simp; omega)) ?_
      simp
      refine ⟨rfl, ?_⟩
      rw [← hK]
      cases b3 <;> cases b1 <;> simp
      all_goals
        refine brd (fun hK0 => ?_) (fun hK0 => ?_)
        · simp
          refine callW_imm (S.fn_rValue n.s n.p n.d hn) ?_
          simp
          refine brd (fun h4 => ?_) (fun h4 => ?_) <;> simp [mkS, Sm.iv, hK0, h4]
        · simp
          refine brd (fun h4 => ?_) (fun h4 => ?_) <;> simp [mkS, Sm.iv, joinS, hK0, h4, ← hb3, ← hb1]
  · obtain rfl : i = l.length := by omega
    have hK : mkS n K = sumN l f n := by rw [hKe]; exact got_all l f n
    simp
    refine callW_imm (fn_rMean (K.map (·.p)) (by simp; omega)) ?_
    simp
    refine ⟨rfl, ?_⟩
    rw [← hK]
    cases b3 <;> cases b1 <;> simp
    all_goals
      refine brd (fun hK0 => ?_) (fun hK0 => ?_)
      · simp
        refine callW_imm (S.fn_rValue n.s n.p n.d hn) ?_
        simp
        refine brd (fun h4 => ?_) (fun h4 => ?_) <;> simp [mkS, Sm.iv, hK0, h4]
      · simp
        refine brd (fun h4 => ?_) (fun h4 => ?_) <;> simp [mkS, Sm.iv, joinS, hK0, h4, ← hb3, ← hb1]
def allT (l : List Nd) : List Sm := if chkN l = 0 then l.map (sumN l l.length) else []
def allI (l : List Nd) : IV := .tuple [.slice (ss (allT l)), .int .i64 (chkN l)]
theorem ss_snoc (l : List Sm) (x : Sm) : ss (l ++ [x]) = ss l ++ [[.str x.u, .int .i64 x.p, .int .u8 x.s]] := by simp [ss]
@[simp] theorem ss_nil : ss [] = [] := rfl
@[simp] theorem ss_len (l : List Sm) : (ss l).length = l.length := by simp [ss]
def sTake (l : List Nd) (i : Nat) : List Sm := (l.take i).map (sumN l l.length)
theorem sTake_snoc {l : List Nd} {i : Nat} (hi : i < l.length) : sTake l (i + 1) = sTake l i ++ [sumN l l.length l[i]] := by rw [sTake, nd_take_snoc hi, List.map_append]; rfl
theorem sTake_len {l : List Nd} {i : Nat} (hi : i ≤ l.length) : (sTake l i).length = i := by simp [sTake]; omega
@[simp] theorem sTake_zero (l : List Nd) : sTake l 0 = [] := by simp [sTake]
theorem fn_rAll (l : List Nd) (hl : l.length < 1000000) (hw : ∀ n ∈ l, 0 ≤ n.s) : Fn [] Try.prog k_ref33_All [.slice (ns l)] (allI l) := by
  refine fn_intro hm ok_ref33_All (by simp) ?_
  simp [c_ref33_All, r_ref33_All]
  refine callW_imm (fn_rCheck l hl hw) ?_
  simp
  refine brd (fun hc => ?_) (fun hc => ?_)
  case refine_2 => simp [allI, allT, hc]
  simp
  refine loopW hm (fun i : Nat => ⟨[(6, .val (.int .i64 i)), (5, .own 5 i), (0, .val (.slice (ns l)))], [(5, .arr i 3 (ss (sTake l i)))], [], 30, []⟩)
    (fun i => i ≤ l.length) (fun i => l.length - i) 0 (by omega) (by exact Weak.trans (weak_adopt (k := 5) 5 3 (by simp) (by simp [getE, look])) (weak_drop rfl rfl (by simp [St.adopt, EnvLe, getE, look, put, eraseE, SV.erase]) (by simp [St.adopt, ObLe, look, put, eraseO, Ob.erase]) (by simp [St.adopt, roOk]))) (fun _ => rfl) ?_
  rintro i h1
  simp
  refine brd (fun hi => ?_) (fun hi => ?_)
  · simp [ns_get hi]
    refine callW_imm (fn_rsum l hl hw l.length l[i] hl (hw _ (List.getElem_mem hi))) ?_
    have hk := sTake_snoc hi
    have hkl := sTake_len h1
    obtain ⟨x, hx⟩ : ∃ x, x = sumN l l.length l[i] := ⟨_, rfl⟩
    rw [← hx] at hk ⊢
    simp [Sm.iv, wrap_succ hi hl]
    refine ⟨by omega, ?_⟩
    refine loopEnd (i + 1) (by omega) (by omega) ?_
    simp only [hk, ss_snoc]
    exact weak_drop rfl rfl (by simp [EnvLe, getE, look]) (by simp [ObLe, look]) (by simp [roOk])
  · simp
    obtain rfl : i = l.length := by omega
    simp [allI, allT, hc, sTake]
theorem posT_lt {a : List Str} {x : Str} (h : x ∈ a) : (posT a x).toNat < a.length ∧ a[(posT a x).toNat]? = some x := by
  unfold posT
  rw [if_pos h]
  have hl : (a.findIdx fun y => decide (y = x)) < a.length := List.findIdx_lt_length.2 ⟨x, h, by simp⟩
  refine ⟨by simpa using hl, ?_⟩
  have := List.findIdx_getElem (w := hl)
  simp only [decide_eq_true_eq] at this
  simp [hl, this]
def atN (l : List Nd) (u : Str) : Nd := l.getD (posT (uids l) u).toNat ⟨[], [], 0, 0, 0⟩
def ofE (l : List Nd) (u : Str) : Int := if chkN l = 0 then (if u ∈ uids l then 0 else 6) else chkN l
def ofT (l : List Nd) (u : Str) : Sm := if ofE l u = 0 then sumN l l.length (atN l u) else ⟨[], 0, 0⟩
def ofI (l : List Nd) (u : Str) : IV := .tuple [(ofT l u).iv, .int .i64 (ofE l u)]
theorem fn_rOf (l : List Nd) (u : Str) (hl : l.length < 1000000) (hw : ∀ n ∈ l, 0 ≤ n.s) : Fn [] Try.prog k_ref33_Of [.slice (ns l), .str u] (ofI l u) := by
  refine fn_intro hm ok_ref33_Of (by simp) ?_
  simp [c_ref33_Of, r_ref33_Of]
  refine callW_imm (fn_rCheck l hl hw) ?_
  simp
  refine brd (fun hc => ?_) (fun hc => ?_)
  case refine_2 => simp [ofI, ofT, ofE, hc, Sm.iv]
  simp
  refine callW_imm (fn_at l u hl) ?_
  simp
  refine brd (fun hp => ?_) (fun hp => ?_)
  · simp [ofI, ofT, ofE, hc, Sm.iv, posT_neg.1 hp]
  · have hmem : u ∈ uids l := by
      by_cases h : u ∈ uids l
      · exact h
      · exact absurd (posT_neg.2 h) hp
    obtain ⟨h1, h2⟩ := posT_lt hmem
    obtain ⟨q, hq⟩ : ∃ q : Nat, q = (posT (uids l) u).toNat := ⟨_, rfl⟩
    have hq' : posT (uids l) u = (q : Int) := by have := posT_nonneg.2 hmem; omega
    rw [← hq, uids_len] at h1
    simp [hq', ns_get h1]
    refine callW_imm (fn_rsum l hl hw l.length l[q] hl (hw _ (List.getElem_mem h1))) ?_
    have e : atN l u = l[q] := by simp [atN, ← hq, h1]
    have e0 : ofE l u = 0 := by simp [ofE, hc, hmem]
    simp [ofI, ofT, e, e0, Sm.iv]
end Go.Vs.Ytjfleklkloohgaa.R
/- The walk of the functions of rollup, part 12: one sum, from those of its parts. No conditions. -/
namespace Go.Vs.Ytjfleklkloohgaa.R
set_option linter.unusedSimpArgs false
set_option linter.unusedVariables false
open Go.Proofs Go.Vs.Fo Go.Vs.Ro
set_option maxRecDepth 100000
set_option maxHeartbeats 4000000
theorem wrap_sm {x : Int} (h1 : -1000000000 < x) (h2 : x < 1000000000) : IntKind.i64.wrap x = x := by rw [IntKind.wrap_i64]; omega
/-- How deep one is, of those whose places are in range. -/
def deepK (dp : List Int) (x : Int) : Int := dp.getD x.toNat 0
theorem cmp_All (dp : List Int) (hd : ∀ d ∈ dp, 0 ≤ d ∧ d < 1000000) : CmpOk k_rollup_All_1 [.ref [.slice (is dp)]] (deepK dp) (fun x => 0 ≤ x ∧ x < dp.length) := by
  intro x y hx hy
  obtain ⟨a, rfl⟩ : ∃ a : Nat, x = a := ⟨x.toNat, by omega⟩
  obtain ⟨b, rfl⟩ : ∃ b : Nat, y = b := ⟨y.toNat, by omega⟩
  have ha : a < dp.length := by omega
  have hb : b < dp.length := by omega
  have h1 := hd _ (List.getElem_mem ha)
  have h2 := hd _ (List.getElem_mem hb)
  have hw : IntKind.i64.wrap (dp[b] - dp[a]) = dp[b] - dp[a] := wrap_sm (by omega) (by omega)
  refine fn_intro hm ok_rollup_All_1 (by simp) ?_
  simp [c_rollup_All_1, r_rollup_All_1, is_get ha, is_get hb, hw]
  simp [deepK, ha, hb]
theorem fn_joined (a b c d e : Int) (ha : 0 ≤ a ∧ a < 1000000) (hb : 0 ≤ b ∧ b < 1000000) (hc : 0 ≤ c ∧ c < 1000000) (hd : 0 ≤ d ∧ d < 1000000) (he : 0 ≤ e ∧ e < 1000000) :
    Fn [] Try.prog k_rollup_joined [.agg [.int .i64 a, .int .i64 b, .int .i64 c, .int .i64 d, .int .i64 e]] (.int .u8 (if a + b + c + d + e = d then 3 else if a + b + c + d + e = b then 1 else 2)) := by
  refine fn_intro hm ok_rollup_joined (by simp) ?_
  simp [c_rollup_joined, r_rollup_joined]
  refine loopW hm (fun i : Nat => ⟨[(7, .val (.int .i64 i)), (3, .val (.int .i64 (match i with | 0 => 0 | 1 => a | 2 => a + b | 3 => a + b + c | 4 => a + b + c + d | _ => a + b + c + d + e))), (6, .val (.agg [.int .i64 a, .int .i64 b, .int .i64 c, .int .i64 d, .int .i64 e])), (1, .loc 1 0), (2, .val (.int .u8 0))],
      [(1, .box [.val (.int .i64 a), .val (.int .i64 b), .val (.int .i64 c), .val (.int .i64 d), .val (.int .i64 e)])], [], 23, []⟩)
    (fun i => i ≤ 5) (fun i => 5 - i) 0 (by omega) (by exact weak_drop rfl rfl (by simp [EnvLe, getE, look]) (by simp [ObLe, look]) (by simp [roOk])) (fun _ => rfl) ?_
  have w0 : IntKind.i64.wrap a = a := wrap_sm (by omega) (by omega)
  have w1 : IntKind.i64.wrap (a + b) = a + b := wrap_sm (by omega) (by omega)
  have w2 : IntKind.i64.wrap (a + b + c) = a + b + c := wrap_sm (by omega) (by omega)
  have w3 : IntKind.i64.wrap (a + b + c + d) = a + b + c + d := wrap_sm (by omega) (by omega)
  have w4 : IntKind.i64.wrap (a + b + c + d + e) = a + b + c + d + e := wrap_sm (by omega) (by omega)
  have v1 : IntKind.i64.wrap 1 = 1 := by decide
  have v2 : IntKind.i64.wrap 2 = 2 := by decide
  have v3 : IntKind.i64.wrap 3 = 3 := by decide
  have v4 : IntKind.i64.wrap 4 = 4 := by decide
  have v5 : IntKind.i64.wrap 5 = 5 := by decide
  intro i hi
  have h6 : i = 0 ∨ i = 1 ∨ i = 2 ∨ i = 3 ∨ i = 4 ∨ i = 5 := by omega
  rcases h6 with rfl | rfl | rfl | rfl | rfl | rfl
  · simp [w0, v1]
    exact loopEnd 1 (by omega) (by omega) (by exact weak_drop rfl rfl (by simp [EnvLe, getE, look]) (by simp [ObLe, look]) (by simp [roOk]))
  · simp [w1, v2]
    exact loopEnd 2 (by omega) (by omega) (by exact weak_drop rfl rfl (by simp [EnvLe, getE, look]) (by simp [ObLe, look]) (by simp [roOk]))
  · simp [w2, v3]
    exact loopEnd 3 (by omega) (by omega) (by exact weak_drop rfl rfl (by simp [EnvLe, getE, look]) (by simp [ObLe, look]) (by simp [roOk]))
  · simp [w3, v4]
    exact loopEnd 4 (by omega) (by omega) (by exact weak_drop rfl rfl (by simp [EnvLe, getE, look]) (by simp [ObLe, look]) (by simp [roOk]))
  · simp [w4, v5]
    exact loopEnd 5 (by omega) (by omega) (by exact weak_drop rfl rfl (by simp [EnvLe, getE, look]) (by simp [ObLe, look]) (by simp [roOk]))
  · simp
    refine brd (fun h3 => ?_) (fun h3 => ?_)
    · simp [h3]
    · simp
      refine brd (fun h1 => ?_) (fun h1 => ?_)
      · simp [h3, h1]
        omega
      · simp [h3, h1]
theorem ss_get {l : List Sm} {i : Nat} (h : i < l.length) : (ss l)[i]? = some [.str l[i].u, .int .i64 l[i].p, .int .u8 l[i].s] := by simp [ss, h]
/-- The parts' sums, out of those that are told. -/
def pick (u : Str) : List Nd → List Sm → List Sm
  | [], _ => []
  | _, [] => []
  | n :: r, t :: ts => if kid u n then t :: pick u r ts else pick u r ts
theorem pick_append (u : Str) : ∀ (a : List Nd) (ta : List Sm) (b : List Nd) (tb : List Sm), a.length = ta.length → pick u (a ++ b) (ta ++ tb) = pick u a ta ++ pick u b tb
  | [], [], b, tb, _ => by simp [pick]
  | n :: r, t :: ts, b, tb, h => by
    simp only [List.cons_append, pick]
    rw [pick_append u r ts b tb (by simpa using h)]
    split <;> simp
theorem pick_take {u : Str} {l : List Nd} {T : List Sm} {i : Nat} (hT : T.length = l.length) (hi : i < l.length) : pick u (l.take (i + 1)) (T.take (i + 1)) = pick u (l.take i) (T.take i) ++ if kid u l[i] then [T[i]] else [] := by
  rw [nd_take_snoc hi, List.take_succ_eq_append_getElem (by omega : i < T.length), pick_append _ _ _ _ _ (by simp; omega)]
  rfl
theorem pick_len (u : Str) : ∀ (a : List Nd) (ta : List Sm), (pick u a ta).length ≤ a.length
  | [], _ => by simp [pick]
  | n :: r, [] => by simp [pick]
  | n :: r, t :: ts => by
    have := pick_len u r ts
    simp only [pick]; split <;> simp <;> omega
def cnt (s : Int) (K : List Sm) : Nat := K.countP fun k => decide (k.s = s)
theorem cnt_append (s : Int) (a b : List Sm) : cnt s (a ++ b) = cnt s a + cnt s b := by simp [cnt]
theorem cnt_le (s : Int) (K : List Sm) : cnt s K ≤ K.length := List.countP_le_length
theorem cnt_all (s : Int) (K : List Sm) : cnt s K = K.length ↔ (K.all fun k => decide (k.s = s)) = true := by
  simp [cnt, List.countP_eq_length]
theorem cnt_sum {K : List Sm} (h : ∀ k ∈ K, k.s = 1 ∨ k.s = 2 ∨ k.s = 3) : cnt 1 K + cnt 2 K + cnt 3 K = K.length := by
  induction K with
  | nil => rfl
  | cons k r ih =>
    have ih := ih (fun x hx => h x (by simp [hx]))
    have hk := h k (by simp)
    simp only [cnt, List.countP_cons, List.length_cons] at ih ⊢
    rcases hk with e | e | e <;> simp [e] <;> omega
theorem joined_eq {K : List Sm} (h : ∀ k ∈ K, k.s = 1 ∨ k.s = 2 ∨ k.s = 3) : (if (0 : Int) + cnt 1 K + cnt 2 K + cnt 3 K + 0 = cnt 3 K then 3 else if (0 : Int) + cnt 1 K + cnt 2 K + cnt 3 K + 0 = cnt 1 K then 1 else (2 : Int)) = joinS K := by
  have hs := cnt_sum h
  have h3 := cnt_all 3 K
  have h1 := cnt_all 1 K
  unfold joinS
  by_cases a3 : (K.all fun k => decide (k.s = 3)) = true
  · rw [if_pos a3, if_pos (by have := h3.2 a3; omega)]
  · rw [if_neg a3, if_neg (fun e => a3 (h3.1 (by omega)))]
    by_cases a1 : (K.all fun k => decide (k.s = 1)) = true
    · rw [if_pos a1, if_pos (by have := h1.2 a1; omega)]
    · rw [if_neg a1, if_neg (fun e => a1 (h1.1 (by omega)))]
theorem fnM_one0 (l : List Nd) (T : List Sm) (i v : Nat) (hl : l.length < 1000000) (hT : T.length = l.length) (hi : i < l.length) (hs : ∀ k (h : k < l.length), kid l[i].uid l[k] = true → (T[k]'(by omega)).s = 1 ∨ (T[k]'(by omega)).s = 2 ∨ (T[k]'(by omega)).s = 3) :
    FnM [] Try.prog k_rollup_one { args := [.val (.slice (ns l)), .own 1000 v, .val (.int .i64 i)], objs := [(1000, .arr v 3 (ss T))], res := .val (mkS l[i] (pick l[i].uid l T)).iv, objs' := [(6, .box [.val (.str (mkS l[i] (pick l[i].uid l T)).u), .val (.int .i64 (mkS l[i] (pick l[i].uid l T)).p), .val (.int .u8 (mkS l[i] (pick l[i].uid l T)).s)]), (1000, .arr v 3 (ss T))], ro' := [] } := by
  refine fnM_intro hm ok_rollup_one (by simp) rfl ?_
  obtain ⟨u, hu⟩ : ∃ u, u = l[i].uid := ⟨_, rfl⟩
  simp [c_rollup_one, r_rollup_one]
  refine loopW hm (fun k : Nat => ⟨[(15, .val (.int .i64 k)), (14, .val (.int .i64 l.length)), (13, .val (.slice (ns l))), (8, .loc 8 0), (7, .own 7 (pick u (l.take k) (T.take k)).length), (6, .loc 6 0), (0, .val (.slice (ns l))), (1, .own 1000 v), (2, .val (.int .i64 i))],
      [(8, .box [.val (.int .i64 0), .val (.int .i64 (cnt 1 (pick u (l.take k) (T.take k)))), .val (.int .i64 (cnt 2 (pick u (l.take k) (T.take k)))), .val (.int .i64 (cnt 3 (pick u (l.take k) (T.take k)))), .val (.int .i64 0)]), (7, .arr (pick u (l.take k) (T.take k)).length 1 (is ((pick u (l.take k) (T.take k)).map (·.p)))), (6, .box [.val (.str []), .val (.int .i64 0), .val (.int .u8 0)]), (1000, .arr v 3 (ss T))], [], 82, []⟩)
    (fun k => k ≤ l.length ∧ ∀ x ∈ pick u (l.take k) (T.take k), x.s = 1 ∨ x.s = 2 ∨ x.s = 3) (fun k => l.length - k) 0 ⟨by omega, by simp [pick]⟩ ?_ (fun _ => rfl) ?_
  · simp [pick, cnt]
    exact Weak.trans (weak_adopt (k := 7) 7 1 (by simp) (by simp [getE, look])) (weak_drop rfl rfl (by simp [St.adopt, EnvLe, getE, look, put, eraseE, SV.erase]) (by simp [St.adopt, ObLe, look, put, eraseO, Ob.erase]) (by simp [St.adopt, roOk]))
  rintro k ⟨h1, h2⟩
  obtain ⟨K, hK⟩ : ∃ K, K = pick u (l.take k) (T.take k) := ⟨_, rfl⟩
  have lK : K.length ≤ k := by rw [hK]; have := pick_len u (l.take k) (T.take k); simp at this; omega
  have c1 := cnt_le 1 K
  have c2 := cnt_le 2 K
  have c3 := cnt_le 3 K
  simp only [← hK] at h2 ⊢
  obtain ⟨n1, hn1⟩ : ∃ n, n = cnt 1 K := ⟨_, rfl⟩
  obtain ⟨n2, hn2⟩ : ∃ n, n = cnt 2 K := ⟨_, rfl⟩
  obtain ⟨n3, hn3⟩ : ∃ n, n = cnt 3 K := ⟨_, rfl⟩
  rw [← hn1] at c1
  rw [← hn2] at c2
  rw [← hn3] at c3
  simp only [← hn1, ← hn2, ← hn3]
  simp
  refine brd (fun hk => ?_) (fun hk => ?_)
  · have hp := pick_take (u := u) hT hk
    rw [← hK] at hp
    simp [ns_get hk, ns_get hi, ← hu]
    have skipK : kid u l[k] = false → pick u (l.take (k + 1)) (T.take (k + 1)) = K := fun h => by rw [hp, h]; simp
    refine brd (fun hup => ?_) (fun hup => ?_)
    · simp
      refine brd (fun h4 => ?_) (fun h4 => ?_)
      · simp [wrap_succ hk hl]
        refine loopEnd (k + 1) ⟨by omega, ?_⟩ (by omega) ?_
        · rw [skipK (by simp [kid, h4])]; exact h2
        · simp only [skipK (by simp [kid, h4]), ← hn1, ← hn2, ← hn3]
          exact weak_drop rfl rfl (by simp [EnvLe, getE, look]) (by simp [ObLe, look]) (by simp [roOk])
      · have hkid : kid u l[k] = true := by simp [kid, hup, h4]
        have hx := hs k hk (by rw [← hu]; exact hkid)
        rw [if_pos hkid] at hp
        have hkT : k < T.length := by omega
        obtain ⟨x, hxe⟩ : ∃ x, x = T[k] := ⟨_, rfl⟩
        have hrow : (ss T)[k]? = some [.str x.u, .int .i64 x.p, .int .u8 x.s] := by rw [hxe]; exact ss_get hkT
        obtain ⟨R, hR⟩ : ∃ R, R = ss T := ⟨_, rfl⟩
        rw [← hR] at hrow
        obtain ⟨r0, r1⟩ := List.getElem?_eq_some_iff.1 hrow
        rw [← hxe] at hp hx
        have hKx : ∀ y ∈ K ++ [x], y.s = 1 ∨ y.s = 2 ∨ y.s = 3 := by
          intro y hy
          rcases List.mem_append.1 hy with hy | hy
          · exact h2 y hy
          · rw [List.mem_singleton] at hy; subst hy; exact hx
        simp only [← hR]
        simp [r0, r1]
        refine ⟨by omega, by omega, ?_⟩
        have q1 : IntKind.i64.wrap ((n1 : Int) + 1) = ((n1 + 1 : Nat) : Int) := by rw [IntKind.wrap_i64]; omega
        have q2 : IntKind.i64.wrap ((n2 : Int) + 1) = ((n2 + 1 : Nat) : Int) := by rw [IntKind.wrap_i64]; omega
        have q3 : IntKind.i64.wrap ((n3 : Int) + 1) = ((n3 + 1 : Nat) : Int) := by rw [IntKind.wrap_i64]; omega
        have t1 : cnt 1 (K ++ [x]) = n1 + if x.s = 1 then 1 else 0 := by rw [cnt_append, hn1]; simp [cnt, List.countP_cons]
        have t2 : cnt 2 (K ++ [x]) = n2 + if x.s = 2 then 1 else 0 := by rw [cnt_append, hn2]; simp [cnt, List.countP_cons]
        have t3 : cnt 3 (K ++ [x]) = n3 + if x.s = 3 then 1 else 0 := by rw [cnt_append, hn3]; simp [cnt, List.countP_cons]
        have tl : (K ++ [x]).length = K.length + 1 := by simp
        have tm : is ((K ++ [x]).map (·.p)) = is (K.map (·.p)) ++ [[.int .i64 x.p]] := by simp [is]
        rcases hx with e | e | e
        all_goals
          rw [e] at t1 t2 t3
          simp [e, q1, q2, q3, wrap_succ hk hl]
          refine loopEnd (k + 1) ⟨by omega, by rw [hp]; exact hKx⟩ (by omega) ?_
          simp only [hp, t1, t2, t3, tl, tm, ← hR]
          exact weak_drop rfl rfl (by simp [EnvLe, getE, look]) (by simp [ObLe, look]) (by simp [roOk])
    · simp [wrap_succ hk hl]
      refine loopEnd (k + 1) ⟨by omega, ?_⟩ (by omega) ?_
      · rw [skipK (by simp [kid, hup])]; exact h2
      · simp only [skipK (by simp [kid, hup]), ← hn1, ← hn2, ← hn3]
        exact weak_drop rfl rfl (by simp [EnvLe, getE, look]) (by simp [ObLe, look]) (by simp [roOk])
  · obtain rfl : k = l.length := by omega
    have hfull : pick u l T = K := by rw [hK, List.take_length, ← hT, List.take_length]
    have hM := fn_Mean (K.map (·.p)) (by simp; omega)
    have hJ := fn_joined 0 n1 n2 n3 0 (by omega) (by omega) (by omega) (by omega) (by omega)
    have hje := joined_eq h2
    rw [hn1, hn2, hn3, hje] at hJ
    rw [← hn1, ← hn2, ← hn3] at hJ
    have lK0 : K.length = 0 ↔ K = [] := List.length_eq_zero_iff
    simp [ns_get hi, ← hu]
    refine callW_imm hM ?_
    simp
    refine callW_imm hJ ?_
    simp
    refine ⟨rfl, ?_⟩
    refine brd (fun hK0 => ?_) (fun hK0 => ?_)
    · simp
      refine callW_imm (S.fn_Value l[i].s l[i].p l[i].d) ?_
      simp
      refine ⟨rfl, ?_⟩
      refine brd (fun h4 => ?_) (fun h4 => ?_)
      all_goals
        simp [fnPostM, mkS, Sm.iv, ← hu, hfull, hK0, h4, Int.max_comm]
        exact ⟨⟨[(6, .loc 6 0)], [(6, .box [.val (.str u), .val (.int .i64 _), .val (.int .u8 _)]), (1000, .arr v 3 (ss T))], [], 82, []⟩, (by exact weak_drop rfl rfl (by simp [EnvLe, getE, look]) (by simp [ObLe, look]) (by simp [roOk])), rfl, [], rfl, rfl, rfl⟩
    · simp
      refine brd (fun h4 => ?_) (fun h4 => ?_)
      all_goals
        simp [fnPostM, mkS, Sm.iv, ← hu, hfull, hK0, h4, Int.max_comm]
        exact ⟨⟨[(6, .loc 6 0)], [(6, .box [.val (.str u), .val (.int .i64 _), .val (.int .u8 _)]), (1000, .arr v 3 (ss T))], [], 82, []⟩, (by exact weak_drop rfl rfl (by simp [EnvLe, getE, look]) (by simp [ObLe, look]) (by simp [roOk])), rfl, [], rfl, rfl, rfl⟩
theorem fnM_one (l : List Nd) (T : List Sm) (i v : Nat) (hl : l.length < 1000000) (hT : T.length = l.length) (hi : i < l.length) (hs : ∀ k (h : k < l.length), kid l[i].uid l[k] = true → (T[k]'(by omega)).s = 1 ∨ (T[k]'(by omega)).s = 2 ∨ (T[k]'(by omega)).s = 3) :
    FnM [] Try.prog k_rollup_one { args := [.val (.slice (ns l)), .own 1000 v, .val (.int .i64 i)], objs := [(1000, .arr v 3 (ss T))], res := .val (mkS l[i] (pick l[i].uid l T)).iv, objs' := [(1000, .arr v 3 (ss T))], ro' := [] } :=
  (fnM_one0 l T i v hl hT hi hs).forget (fun j o h => by
    simp only [look] at h ⊢
    cases hj : (1000 == j)
    · rw [hj] at h; simp at h
    · rw [hj] at h
      have : (6 == j) = false := by rw [beq_iff_eq] at hj; subst hj; rfl
      rw [this]; exact h) (fun j o h hr => hr)
end Go.Vs.Ytjfleklkloohgaa.R
/- What all are told, by falling depth: plain. No conditions. -/
namespace Go.Vs.Ytjfleklkloohgaa.R
set_option linter.unusedSimpArgs false
set_option linter.unusedVariables false
open Go.Proofs Go.Vs.Fo Go.Vs.Ro
/-- What a check tells. -/
structure Good (l : List Nd) : Prop where
  noEmpty : [] ∉ uids l
  nodup : (uids l).Nodup
  ups : ∀ q ∈ prsN l, q.2 ∈ uids l
  forest : Forest (prsN l)
  lives : ∀ n ∈ l, S.chk n.s n.p n.d = 0
theorem good_iff {l : List Nd} : chkN l = 0 ↔ Good l := by
  constructor
  · intro h
    unfold chkN at h
    split at h
    · simp at h
    next h1 =>
    split at h
    · simp at h
    next h2 =>
    split at h
    · simp at h
    next h3 =>
    split at h
    · simp at h
    next h4 =>
    exact ⟨h1, by simpa using h2, fun q hq => by
      by_cases hh : q.2 ∈ uids l
      · exact hh
      · exact absurd ⟨q, hq, hh⟩ h3, forest_iff.1 (by simpa using h4), firstE_iff.1 h⟩
  · intro h
    have h3 : ¬ ∃ q ∈ prsN l, q.2 ∉ uids l := by rintro ⟨q, hq, hq2⟩; exact hq2 (h.ups q hq)
    have h4 := forest_iff.2 h.forest
    simp only [chkN, if_neg h.noEmpty, h.nodup, not_true, if_false, if_neg h3, h4]
    exact firstE_iff.2 h.lives
theorem mem_prsN {l : List Nd} {n : Nd} (h : n ∈ l) (hu : n.up ≠ []) : (n.uid, n.up) ∈ prsN l := by
  induction l with
  | nil => simp at h
  | cons m r ih =>
    rcases List.mem_cons.1 h with rfl | h
    · simp [prsN, hu]
    · simp only [prsN]; split
      · exact ih h
      · exact List.mem_cons_of_mem _ (ih h)
theorem prsN_sub (l : List Nd) : (prsN l).map (·.1) = (l.filter fun n => !decide (n.up = [])).map (·.uid) := by
  induction l with
  | nil => rfl
  | cons n r ih =>
    by_cases h : n.up = []
    · simp [prsN, h, ih]
    · simp [prsN, h, ih]
theorem prsN_nodup {l : List Nd} (h : (uids l).Nodup) : ((prsN l).map (·.1)).Nodup := by
  rw [prsN_sub]
  exact List.Nodup.sublist (List.Sublist.map _ List.filter_sublist) h
namespace Good
variable {l : List Nd} (h : Good l)
include h
def deep (l : List Nd) (u : Str) : Nat := (Forest.climb (prsN l) u).length
theorem deep_le (u : Str) : deep l u ≤ (prsN l).length := by
  have := h.forest.low u
  unfold deep Forest.climb; omega
theorem kid_deep {n k : Nd} (hn : n ∈ l) (hk : k ∈ l) (hkid : kid n.uid k = true) : deep l k.uid = deep l n.uid + 1 := by
  have hu : k.up = n.uid := by unfold kid at hkid; simp at hkid; exact hkid.1
  have hne : k.up ≠ [] := by rw [hu]; intro e; exact h.noEmpty (e ▸ List.mem_map_of_mem hn)
  have hm := mem_prsN hk hne
  have := up_some (prsN_nodup h.nodup) hm
  rw [hu] at this
  exact h.forest.rank this
theorem stable : ∀ (H : Nat) (n : Nd), n ∈ l → (prsN l).length ≤ H + deep l n.uid → ∀ f f', H ≤ f → H ≤ f' → sumN l f n = sumN l f' n := by
  intro H
  induction H with
  | zero =>
    intro n hn hH f f' _ _
    have hk : kidsN l n.uid = [] := by
      refine List.filter_eq_nil_iff.2 (fun k hk hkid => ?_)
      have h1 := h.kid_deep hn hk hkid
      have h2 := h.deep_le k.uid
      omega
    cases f <;> cases f' <;> simp [sumN, hk]
  | succ H ih =>
    intro n hn hH f f' h1 h2
    obtain ⟨g, rfl⟩ : ∃ g, f = g + 1 := ⟨f - 1, by omega⟩
    obtain ⟨g', rfl⟩ : ∃ g, f' = g + 1 := ⟨f' - 1, by omega⟩
    simp only [sumN]
    congr 1
    refine List.map_congr_left (fun k hk => ?_)
    obtain ⟨hk1, hk2⟩ := List.mem_filter.1 hk
    have := h.kid_deep hn hk1 hk2
    exact ih k hk1 (by omega) g g' (by omega) (by omega)
theorem sum_step {n : Nd} (hn : n ∈ l) : sumN l l.length n = mkS n ((kidsN l n.uid).map (sumN l l.length)) := by
  obtain ⟨m, hm⟩ : ∃ m, l.length = m + 1 := ⟨l.length - 1, by have := List.length_pos_of_mem hn; omega⟩
  conv => lhs; rw [hm]
  simp only [sumN]
  congr 1
  refine List.map_congr_left (fun k hk => ?_)
  obtain ⟨hk1, hk2⟩ := List.mem_filter.1 hk
  have h1 := h.kid_deep hn hk1 hk2
  have h2 := prsN_len l
  exact h.stable ((prsN l).length - deep l k.uid) k hk1 (by omega) m l.length (by omega) (by omega)
theorem status_ok {n : Nd} (hn : n ∈ l) (h0 : 0 ≤ n.s) (h4 : n.s ≠ 4) (K : List Sm) : (mkS n K).s = 1 ∨ (mkS n K).s = 2 ∨ (mkS n K).s = 3 := by
  have hc := h.lives n hn
  have hs : n.s ≤ 4 := by unfold S.chk at hc; split at hc <;> omega
  simp only [mkS, if_neg h4]
  split
  · omega
  · unfold joinS; split
    · omega
    · split <;> omega
omit h in
theorem pick_told {u : Str} (T : List Sm) (hT : T.length = l.length) (ht : ∀ k (hk : k < l.length), kid u l[k] = true → T[k]'(by omega) = sumN l l.length l[k]) : pick u l T = (kidsN l u).map (sumN l l.length) := by
  have gen : ∀ (g : Nd → Sm) (a : List Nd) (ta : List Sm) (hh : ta.length = a.length), (∀ k (hk : k < a.length), kid u a[k] = true → ta[k]'(by omega) = g a[k]) → pick u a ta = (kidsN a u).map g := by
    intro g a
    induction a with
    | nil => intro ta hh _; rfl
    | cons n r ih =>
      intro ta hh hg
      cases ta with
      | nil => simp at hh
      | cons t ts =>
        have h0 := hg 0 (by simp)
        have ih' := ih ts (by simpa using hh) (fun k hk => by have := hg (k + 1) (by simp; omega); simpa using this)
        simp only [pick, kidsN, List.filter_cons]
        split
        · next hk => rw [ih']; simp at h0; simp [kidsN, h0 hk]
        · next hk => rw [ih']; rfl
  exact gen _ l T hT ht
end Good
end Go.Vs.Ytjfleklkloohgaa.R
/- The walk of the functions of rollup, part 13: how far all are. No conditions. -/
namespace Go.Vs.Ytjfleklkloohgaa.R
set_option linter.unusedSimpArgs false
set_option linter.unusedVariables false
open Go.Proofs Go.Vs.Fo Go.Vs.Ro
set_option maxRecDepth 100000
set_option maxHeartbeats 4000000
/-- A row that is filled from the front. -/
def fil (n : Nat) (f : Nat → Int) (i : Nat) : List Int := (List.range n).map fun k => if k < i then f k else 0
@[simp] theorem fil_len (n : Nat) (f : Nat → Int) (i : Nat) : (fil n f i).length = n := by simp [fil]
theorem fil_set {n : Nat} {f : Nat → Int} {i : Nat} (hi : i < n) : (fil n f i).set i (f i) = fil n f (i + 1) := by
  refine List.ext_getElem (by simp) (fun k h1 h2 => ?_)
  simp only [List.getElem_set, fil, List.getElem_map, List.getElem_range]
  by_cases hk : i = k
  · subst hk; simp
  · rw [if_neg hk]
    by_cases h3 : k < i
    · rw [if_pos h3, if_pos (by omega)]
    · rw [if_neg h3, if_neg (by omega)]
theorem fil_all (n : Nat) (f : Nat → Int) : fil n f n = (List.range n).map f := by
  refine List.map_congr_left (fun k hk => ?_)
  rw [if_pos (by simpa using hk)]
theorem fil_zero (n : Nat) (f : Nat → Int) : fil n f 0 = List.replicate n 0 := by
  refine List.ext_getElem (by simp) (fun k h1 h2 => ?_)
  simp [fil]
theorem is_set (l : List Int) (i : Nat) (x : Int) : (is l).set i [.int .i64 x] = is (l.set i x) := by simp [is, List.map_set]
theorem is_rep (n : Nat) : is (List.replicate n 0) = List.replicate n [.int .i64 0] := by simp [is]
theorem ss_set (l : List Sm) (i : Nat) (x : Sm) : (ss l).set i [.str x.u, .int .i64 x.p, .int .u8 x.s] = ss (l.set i x) := by simp [ss, List.map_set]
theorem fn_All0 (l : List Nd) (hl : l.length ≤ 26) (hw : ∀ n ∈ l, 0 ≤ n.s) : Fn [] Try.prog k_rollup_All [.slice (ns l)] (allI l) := by
  have hl6 : l.length < 1000000 := by omega
  refine fn_intro hm ok_rollup_All (by simp) ?_
  simp [c_rollup_All, r_rollup_All]
  refine callW_imm (fn_Check l hl6) ?_
  simp
  refine brd (fun hc => ?_) (fun hc => ?_)
  case refine_2 => simp [allI, allT, hc]
  have hG := good_iff.1 hc
  have hF := forest_iff.2 hG.forest
  have hpl : (prsN l).length < 1000000 := by have := prsN_len l; omega
  simp
  refine callW_imm (fn_pairs l hl6) ?_
  simp
  refine ⟨by omega, ?_⟩
  obtain ⟨N, hN⟩ : ∃ N, N = l.length := ⟨_, rfl⟩
  obtain ⟨dp, hdp⟩ : ∃ dp : Nat → Int, dp = fun k => (Good.deep l ((l.getD k ⟨[], [], 0, 0, 0⟩).uid) : Int) := ⟨_, rfl⟩
  obtain ⟨ix, hix⟩ : ∃ ix : Nat → Int, ix = fun k : Nat => (k : Int) := ⟨_, rfl⟩
  refine loopW hm (fun i : Nat => ⟨[(28, .val (.int .i64 i)), (27, .val (.int .i64 l.length)), (26, .val (.slice (ns l))), (7, .loc 7 0), (6, .own 22 0), (5, .val (.slice (ps (prsN l)))), (3, .val (.int .i64 0)), (2, .nils), (0, .val (.slice (ns l)))],
      [(7, .box [.own 25 0]), (25, .arr 0 1 (is (fil l.length dp i))), (22, .arr 0 1 (is (fil l.length ix i)))], [], 67, []⟩)
    (fun i => i ≤ l.length) (fun i => l.length - i) 0 (by omega) ?_ (fun _ => rfl) ?_
  · simp only [fil_zero, is_rep]
    exact weak_drop rfl rfl (by simp [EnvLe, getE, look]) (by simp [ObLe, look]) (by simp [roOk])
  rintro i h1
  simp
  refine brd (fun hi => ?_) (fun hi => ?_)
  · have e1 : (l.getD i ⟨[], [], 0, 0, 0⟩).uid = l[i].uid := by simp [List.getD, hi]
    have s1 := fil_set (f := dp) hi
    have s2 := fil_set (f := ix) hi
    have hd : dp i = ((path (prsN l) l[i].uid).length : Int) := by rw [hdp]; simp only [e1]; rw [path, if_pos hF]; rfl
    have hx : ix i = (i : Int) := by rw [hix]
    obtain ⟨A, hA⟩ : ∃ A, A = is (fil l.length dp i) := ⟨_, rfl⟩
    obtain ⟨B, hB⟩ : ∃ B, B = is (fil l.length ix i) := ⟨_, rfl⟩
    have lA : A.length = l.length := by rw [hA]; simp
    have lB : B.length = l.length := by rw [hB]; simp
    have hA' : A.set i [.int .i64 (dp i)] = is (fil l.length dp (i + 1)) := by rw [hA, is_set, s1]
    have hB' : B.set i [.int .i64 (ix i)] = is (fil l.length ix (i + 1)) := by rw [hB, is_set, s2]
    rw [hd] at hA'
    rw [hx] at hB'
    have rA : ∀ r ∈ A, r.length = 1 := by rw [hA]; simp [is]
    have rB : ∀ r ∈ B, r.length = 1 := by rw [hB]; simp [is]
    have gA : ∃ y, A[i]? = some [y] := by rw [hA, is_get (by simpa using hi)]; exact ⟨_, rfl⟩
    have gB : ∃ y, B[i]? = some [y] := by rw [hB, is_get (by simpa using hi)]; exact ⟨_, rfl⟩
    obtain ⟨yA, gA⟩ := gA
    obtain ⟨yB, gB⟩ := gB
    obtain ⟨a0, a1⟩ := List.getElem?_eq_some_iff.1 gA
    obtain ⟨b0, b1⟩ := List.getElem?_eq_some_iff.1 gB
    simp only [← hA, ← hB]
    simp [ns_get hi]
    refine callW_imm (fn_Path (prsN l) l[i].uid hpl) ?_
    simp [a0, b0, a1, b1, wrap_succ hi hl6]
    refine ⟨rfl, ?_⟩
    refine loopEnd (i + 1) (by omega) (by omega) ?_
    simp only [← hA', ← hB']
    exact weak_drop rfl rfl (by simp [EnvLe, getE, look]) (by simp [ObLe, look]) (by simp [roOk])
  · obtain rfl : i = l.length := by omega
    simp only [fil_all]
    simp
    obtain ⟨DP, hDP⟩ : ∃ q, q = (List.range l.length).map dp := ⟨_, rfl⟩
    obtain ⟨OX, hOX⟩ : ∃ q, q = (List.range l.length).map ix := ⟨_, rfl⟩
    have lDP : DP.length = l.length := by rw [hDP]; simp
    have lOX : OX.length = l.length := by rw [hOX]; simp
    have dDP : ∀ d ∈ DP, 0 ≤ d ∧ d < 1000000 := by
      intro d hd
      rw [hDP] at hd
      obtain ⟨k, _, rfl⟩ := List.mem_map.1 hd
      have := hG.deep_le (l.getD k ⟨[], [], 0, 0, 0⟩).uid
      rw [hdp]; simp only; omega
    have dOX : ∀ x ∈ OX, 0 ≤ x ∧ x < DP.length := by
      intro x hx
      rw [hOX] at hx
      obtain ⟨k, hk, rfl⟩ := List.mem_map.1 hx
      have := List.mem_range.1 hk
      rw [hix, lDP]; simp only; omega
    simp only [← hDP, ← hOX]
    refine callM [(1000, 22)] [7, 25] (fnM_SortStable (cmp_All DP dDP) 0 OX dOX (by omega)) rfl rfl (by simp [mObjs, Vs.ren, look, Ob.ren]) (by simp [mArgs, Vs.ren, look, SV.ren, toIV, toIVs1, toIV1, toIVs0, toIV0]) rfl ?_
    obtain ⟨O, hO⟩ : ∃ q, q = ssort (deepK DP) OX := ⟨_, rfl⟩
    have pO : O.Perm OX := by rw [hO]; exact ssort_perm _ _
    have sO : Sorted (leK (deepK DP)) O := by rw [hO]; exact ssort_sorted _ _
    have lO : O.length = l.length := by rw [pO.length_eq, lOX]
    have mO : ∀ k : Nat, k < l.length → (k : Int) ∈ O := fun k hk => by
      rw [pO.mem_iff, hOX, hix]; exact List.mem_map.2 ⟨k, List.mem_range.2 hk, rfl⟩
    have dO : ∀ x ∈ O, ∃ k : Nat, k < l.length ∧ x = (k : Int) := fun x hx => by
      rw [pO.mem_iff, hOX, hix] at hx
      obtain ⟨k, hk, rfl⟩ := List.mem_map.1 hx
      exact ⟨k, List.mem_range.1 hk, rfl⟩
    have kO : ∀ k : Nat, (hk : k < l.length) → deepK DP (k : Int) = (Good.deep l l[k].uid : Int) := fun k hk => by
      rw [deepK, hDP, hdp]; simp [hk]
    simp only [← hO]
    simp [is_flat]
    clear hO hDP hOX hdp hix dDP dOX lDP lOX pO
    refine ⟨by omega, ?_⟩
    refine loopW hm (fun z : Nat × List Sm => ⟨[(54, .val (.int .i64 z.1)), (53, .val (.int .i64 l.length)), (52, .own 22 0), (10, .own 51 0), (3, .val (.int .i64 0)), (2, .nils), (0, .val (.slice (ns l)))],
        [(51, .arr 0 3 (ss z.2)), (22, .arr 0 1 (is O))], [], 67, []⟩)
      (fun z => z.1 ≤ l.length ∧ z.2.length = l.length ∧ ∀ x ∈ O.take z.1, z.2[x.toNat]? = (l[x.toNat]?).map (sumN l l.length)) (fun z => l.length - z.1) (0, List.replicate l.length ⟨[], 0, 0⟩) ⟨by simp, by simp, by simp⟩ ?_ (fun _ => rfl) ?_
    · have e : ss (List.replicate l.length ⟨[], 0, 0⟩) = List.replicate l.length [.str [], .int .i64 0, .int .u8 0] := by simp [ss]
      simp only [e, lO]
      exact weak_drop rfl rfl (by simp [EnvLe, getE, look]) (by simp [ObLe, look]) (by simp [roOk])
    rintro ⟨t, T⟩ ⟨g1, g2, g3⟩
    simp only at g1 g2 g3
    simp
    refine brd (fun ht => ?_) (fun ht => ?_)
    · have htO : t < O.length := by omega
      obtain ⟨i, hi', hx⟩ := dO _ (List.getElem_mem htO)
      have hrow : (is O)[t]? = some [.int .i64 (i : Int)] := by rw [is_get htO, hx]
      obtain ⟨R, hR⟩ : ∃ R, R = is O := ⟨_, rfl⟩
      rw [← hR] at hrow
      obtain ⟨r0, r1⟩ := List.getElem?_eq_some_iff.1 hrow
      have told : ∀ k (hk : k < l.length), kid l[i].uid l[k] = true → T[k]? = some (sumN l l.length l[k]) := by
        intro k hk hkid
        have hdeep := hG.kid_deep (List.getElem_mem hi') (List.getElem_mem hk) hkid
        obtain ⟨b, hb, hbk⟩ := List.getElem_of_mem (mO k hk)
        have hbt : b < t := by
          rcases Nat.lt_or_ge b t with h' | h'
          · exact h'
          · exfalso
            have e1 := kO k hk
            have e2 := kO i hi'
            rcases Nat.lt_or_ge t b with h'' | h''
            · have := List.pairwise_iff_getElem.1 sO t b htO hb h''
              rw [hbk, hx] at this
              simp only [leK, decide_eq_true_eq] at this
              omega
            · obtain rfl : b = t := by omega
              rw [hx] at hbk
              rw [← hbk] at e1
              omega
        have hm2 : (k : Int) ∈ O.take t := List.mem_take_iff_getElem.2 ⟨b, by omega, hbk⟩
        have := g3 _ hm2
        simpa [hk] using this
      have hpick : pick l[i].uid l T = (kidsN l l[i].uid).map (sumN l l.length) := Good.pick_told T g2 (fun k hk hkid => by
        have := told k hk hkid
        obtain ⟨_, e⟩ := List.getElem?_eq_some_iff.1 this
        exact e)
      have hone := fnM_one l T i 0 hl6 g2 hi' (fun k hk hkid => by
        have := told k hk hkid
        obtain ⟨_, e⟩ := List.getElem?_eq_some_iff.1 this
        rw [e, hG.sum_step (List.getElem_mem hk)]
        have h4 : l[k].s ≠ 4 := by unfold kid at hkid; simp at hkid; exact hkid.2
        exact hG.status_ok (List.getElem_mem hk) (hw _ (List.getElem_mem hk)) h4 _)
      rw [hpick, ← hG.sum_step (List.getElem_mem hi')] at hone
      obtain ⟨x, hxe⟩ : ∃ x, x = sumN l l.length l[i] := ⟨_, rfl⟩
      rw [← hxe] at hone
      simp only [← hR]
      simp [r0, r1]
      refine callM [(1000, 51)] [] hone rfl rfl (by simp [mObjs, Vs.ren, look, Ob.ren]) (by simp [mArgs, Vs.ren, look, SV.ren, toIV, toIVs1, toIV1, toIVs0, toIV0]) rfl ?_
      obtain ⟨V, hV⟩ : ∃ V, V = ss T := ⟨_, rfl⟩
      have lV : V.length = l.length := by rw [hV]; simp [g2]
      have hV' : V.set i [.str x.u, .int .i64 x.p, .int .u8 x.s] = ss (T.set i x) := by rw [hV, ss_set]
      have hiT : i < T.length := by omega
      obtain ⟨v0, v1⟩ := List.getElem?_eq_some_iff.1 (show V[i]? = some [.str T[i].u, .int .i64 T[i].p, .int .u8 T[i].s] by rw [hV]; exact ss_get hiT)
      simp only [← hV]
      simp [Sm.iv, v0, v1, hV', wrap_succ ht hl6]
      refine loopEnd (t + 1, T.set i x) ⟨by simp only; omega, by simp [g2], ?_⟩ (by simp only; omega) ?_
      · intro y hy
        simp only
        rw [List.take_succ_eq_append_getElem htO] at hy
        by_cases hyi : y.toNat = i
        · rw [hyi]; simp [hiT, hi', hxe]
        · rw [List.getElem?_set_ne (fun e => hyi e.symm)]
          rcases List.mem_append.1 hy with hy | hy
          · exact g3 y hy
          · rw [List.mem_singleton] at hy; rw [hy, hx] at hyi; simp at hyi
      · simp only [← hR]
        exact weak_drop rfl rfl (by simp [EnvLe, getE, look]) (by simp [ObLe, look]) (by simp [roOk])
    · obtain rfl : t = l.length := by omega
      have hT : T = l.map (sumN l l.length) := by
        refine List.ext_getElem? (fun k => ?_)
        rcases Nat.lt_or_ge k l.length with hk | hk
        · have := g3 _ (by rw [← lO, List.take_length]; exact mO k hk)
          simpa using this
        · rw [List.getElem?_eq_none (by omega), List.getElem?_eq_none (by simp; omega)]
      simp [allI, allT, hc, hT]
theorem fn_Of (l : List Nd) (u : Str) (hl : l.length ≤ 26) (hw : ∀ n ∈ l, 0 ≤ n.s) : Fn [] Try.prog k_rollup_Of [.slice (ns l), .str u] (ofI l u) := by
  have hl6 : l.length < 1000000 := by omega
  refine fn_intro hm ok_rollup_Of (by simp) ?_
  simp [c_rollup_Of, r_rollup_Of]
  refine callW_imm (fn_All0 l hl hw) ?_
  simp [allI]
  refine brd (fun hc => ?_) (fun hc => ?_)
  case refine_2 => simp [ofI, ofT, ofE, hc, Sm.iv]
  simp
  refine callW_imm (fn_find l u hl6) ?_
  simp
  refine brd (fun hp => ?_) (fun hp => ?_)
  · simp [ofI, ofT, ofE, hc, Sm.iv, posT_neg.1 hp]
  · have hmem : u ∈ uids l := by
      by_cases h : u ∈ uids l
      · exact h
      · exact absurd (posT_neg.2 h) hp
    obtain ⟨h1, h2⟩ := posT_lt hmem
    obtain ⟨q, hq⟩ : ∃ q : Nat, q = (posT (uids l) u).toNat := ⟨_, rfl⟩
    have hq' : posT (uids l) u = (q : Int) := by have := posT_nonneg.2 hmem; omega
    rw [← hq, uids_len] at h1
    have e : atN l u = l[q] := by simp [atN, ← hq, h1]
    have e0 : ofE l u = 0 := by simp [ofE, hc, hmem]
    have eT : allT l = l.map (sumN l l.length) := by simp [allT, hc]
    have hg := ss_get (l := allT l) (i := q) (by rw [eT]; simpa using h1)
    have eg : (allT l)[q]'(by rw [eT]; simpa using h1) = sumN l l.length l[q] := by simp [eT]
    rw [eg] at hg
    obtain ⟨R, hR⟩ : ∃ R, R = ss (allT l) := ⟨_, rfl⟩
    rw [← hR] at hg
    obtain ⟨r0, r1⟩ := List.getElem?_eq_some_iff.1 hg
    simp [hq', ← hR, r0, r1, ofI, ofT, e, e0, Sm.iv]
end Go.Vs.Ytjfleklkloohgaa.R
