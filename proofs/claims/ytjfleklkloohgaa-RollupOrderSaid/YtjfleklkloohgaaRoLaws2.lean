/- The walk of rollup's statements, part 2. No conditions. -/
import Derived.Test.YtjfleklkloohgaaRoPlain2
import Derived.Test.YtjfleklkloohgaaRoLawsA
namespace Go.Vs.Ytjfleklkloohgaa.R
set_option linter.unusedSimpArgs false
set_option linter.unusedVariables false
open Go.Proofs Go.Vs.Fo Go.Vs.Ro
set_option maxRecDepth 100000
set_option maxHeartbeats 4000000
/-- The parts' percents, of the first nodes. -/
def pcs (l : List Nd) (u : Str) (k : Nat) : List Int := (kidsN (l.take k) u).map fun n => (sumN l l.length n).p
theorem pcs_step {l : List Nd} {u : Str} {k : Nat} (hk : k < l.length) : pcs l u (k + 1) = pcs l u k ++ if kid u l[k] then [(sumN l l.length l[k]).p] else [] := by
  rw [pcs, kids_take hk, List.map_append, pcs]
  congr 1
  split <;> rfl
theorem fn_RollupFloor (l : List Nd) (hw : ∀ n ∈ l, 0 ≤ n.s) : Fn [] Try.prog k_law33_RollupFloor [.slice (ns l)] (.bool true) := by
  refine fn_intro hm ok_law33_RollupFloor (by simp) ?_
  simp [c_law33_RollupFloor, r_law33_RollupFloor]
  refine callW_imm (fn_Few l) ?_
  cases hf : fewN l
  · simp
    refine callW_imm fn_awake ?_
    simp
  have hl := few_len hf
  have hl6 : l.length < 1000000 := by omega
  simp
  refine callW_imm (fn_Own l hl6) ?_
  simp
  refine callW_imm (fn_All0 l hl hw) ?_
  simp [allI]
  refine brd (fun hc => ?_) (fun hc => ?_)
  case refine_2 =>
    have e : allT l = [] := by simp [allT, hc]
    simp [e]
    refine callW_imm fn_awake ?_
    simp
  have hG := good_iff.1 hc
  have hA : allT l = l.map (sumN l l.length) := by simp [allT, hc]
  have lA : (allT l).length = l.length := by simp [hA]
  have gA : ∀ k (hk : k < l.length), (ss (allT l))[k]? = some [.str (sumN l l.length l[k]).u, .int .i64 (sumN l l.length l[k]).p, .int .u8 (sumN l l.length l[k]).s] := by
    intro k hk
    rw [ss_get (by omega)]
    simp [hA]
  have hfit := fit_sum hw hG.lives l.length
  obtain ⟨R, hR⟩ : ∃ R, R = ss (allT l) := ⟨_, rfl⟩
  have lR : R.length = l.length := by rw [hR]; simp [lA]
  simp only [← hR] at gA ⊢
  simp [lR]
  refine loopW hm (fun i : Nat => ⟨[(6, .val (.int .i64 i)), (3, .val (.slice (ns l))), (4, .val (.slice R))], [], [], 151, []⟩)
    (fun i => i ≤ l.length) (fun i => l.length - i) 0 (by omega) (by exact weak_drop rfl rfl (by simp [EnvLe, getE, look]) (by simp [ObLe, look]) (by simp [roOk])) (fun _ => rfl) ?_
  rintro i h1
  simp
  refine brd (fun hi => ?_) (fun hi => ?_)
  case refine_2 =>
    simp
    refine callW_imm fn_awake ?_
    simp
  simp
  refine loopW hm (fun k : Nat => ⟨[(10, .val (.int .i64 k)), (9, .val (.bool ((pcs l l[i].uid k).all fun x => decide (x = 100)))), (8, .val (.int .i64 (pcs l l[i].uid k).length)), (7, .val (.int .i64 (pcs l l[i].uid k).sum)), (6, .val (.int .i64 i)), (3, .val (.slice (ns l))), (4, .val (.slice R))], [], [], 151, []⟩)
    (fun k => k ≤ l.length) (fun k => l.length - k) 0 (by omega) ?_ (fun _ => rfl) ?_
  · have e0 : pcs l l[i].uid 0 = [] := by simp [pcs, kidsN]
    simp only [e0, List.all_nil, List.length_nil, List.sum_nil]
    exact weak_drop rfl rfl (by simp [EnvLe, getE, look]) (by simp [ObLe, look]) (by simp [roOk])
  rintro k h2
  have hP : ∀ x ∈ pcs l l[i].uid k, 0 ≤ x ∧ x ≤ 100 := by
    intro x hx
    obtain ⟨n, hn, rfl⟩ := List.mem_map.1 hx
    have hn' := List.mem_of_mem_take (List.mem_filter.1 hn).1
    exact ⟨(hfit n hn').lo, (hfit n hn').hi⟩
  have hPl : (pcs l l[i].uid k).length ≤ l.length := by simp only [pcs, List.length_map]; exact kids_len _ _ _
  have hPs := (sum_full fun x hx => (hP x hx).2).1
  have hPs0 : 0 ≤ (pcs l l[i].uid k).sum := by rw [← sumC_same hP]; exact (sumC_le _).1
  obtain ⟨b, hb⟩ : ∃ b, b = (pcs l l[i].uid k).all fun x => decide (x = 100) := ⟨_, rfl⟩
  simp only [← hb]
  simp
  refine brd (fun hk => ?_) (fun hk => ?_)
  · have gk := gA k hk
    obtain ⟨r0, r1⟩ := List.getElem?_eq_some_iff.1 gk
    have hst := pcs_step (l := l) (u := l[i].uid) hk
    have hfk := hfit _ (List.getElem_mem hk)
    obtain ⟨x, hx⟩ : ∃ x, x = sumN l l.length l[k] := ⟨_, rfl⟩
    rw [← hx] at r1 hst hfk
    obtain ⟨P, hPe⟩ : ∃ P, P = pcs l l[i].uid k := ⟨_, rfl⟩
    rw [← hPe] at hst hPl hPs hPs0 hb
    simp only [← hPe]
    have hskip : kid l[i].uid l[k] = false → pcs l l[i].uid (k + 1) = P := fun h => by rw [hst, h]; simp
    simp [ns_get hk, ns_get hi]
    refine brd (fun hu => ?_) (fun hu => ?_)
    · simp [ns_get hk]
      refine brd (fun h4 => ?_) (fun h4 => ?_)
      case refine_2 =>
        have hlo := hfk.lo
        have hhi := hfk.hi
        have w1 : IntKind.i64.wrap (P.sum + x.p) = P.sum + x.p := wrap_sm (by omega) (by omega)
        have w2 : IntKind.i64.wrap ((P.length : Int) + 1) = P.length + 1 := wrap_sm (by omega) (by omega)
        have e : pcs l l[i].uid (k + 1) = P ++ [x.p] := by rw [hst, if_pos (by simp [kid, hu, h4])]
        simp [r0, r1, w1, w2]
        cases b <;> simp [r0, r1, wrap_succ hk hl6]
        all_goals
          refine loopEnd (k + 1) (by omega) (by omega) ?_
          simp only [e, List.all_append, ← hb, List.sum_append, List.length_append, List.length_cons, List.length_nil, List.sum_cons, List.sum_nil, List.all_cons, List.all_nil, Bool.and_true, Bool.true_and, Bool.false_and, Int.add_zero]
          exact weak_drop rfl rfl (by simp [EnvLe, getE, look]) (by simp [ObLe, look]) (by simp [roOk])
      · simp [wrap_succ hk hl6]
        refine loopEnd (k + 1) (by omega) (by omega) ?_
        simp only [hskip (by simp [kid, h4]), ← hb]
        exact weak_drop rfl rfl (by simp [EnvLe, getE, look]) (by simp [ObLe, look]) (by simp [roOk])
    · simp [wrap_succ hk hl6]
      refine loopEnd (k + 1) (by omega) (by omega) ?_
      simp only [hskip (by simp [kid, hu]), ← hb]
      exact weak_drop rfl rfl (by simp [EnvLe, getE, look]) (by simp [ObLe, look]) (by simp [roOk])
  · obtain rfl : k = l.length := by omega
    have gi := gA i hi
    obtain ⟨r0, r1⟩ := List.getElem?_eq_some_iff.1 gi
    have hfi := hfit _ (List.getElem_mem hi)
    have hsi := hG.sum_step (List.getElem_mem hi)
    have hPe : ((kidsN l l[i].uid).map (sumN l l.length)).map (·.p) = pcs l l[i].uid l.length := by simp [pcs]
    have hu : (sumN l l.length l[i]).u = l[i].uid := by rw [hsi]; rfl
    have hx0 : pcs l l[i].uid l.length = [] → (sumN l l.length l[i]).p = S.valT l[i].s l[i].p l[i].d := by
      intro h
      rw [hsi]
      have : (kidsN l l[i].uid).map (sumN l l.length) = [] := by rw [← List.map_eq_nil_iff (f := (·.p)), hPe, h]
      simp [mkS, this]
    have hx1 : pcs l l[i].uid l.length ≠ [] → (sumN l l.length l[i]).p = meanI (pcs l l[i].uid l.length) := by
      intro h
      rw [hsi]
      have : (kidsN l l[i].uid).map (sumN l l.length) ≠ [] := by rw [Ne, ← List.map_eq_nil_iff (f := (·.p)), hPe]; exact h
      simp only [mkS, if_neg this, hPe]
    obtain ⟨x, hx⟩ : ∃ x, x = sumN l l.length l[i] := ⟨_, rfl⟩
    obtain ⟨P, hPP⟩ : ∃ P, P = pcs l l[i].uid l.length := ⟨_, rfl⟩
    rw [← hx] at r1 hfi hu hx0 hx1
    rw [← hPP] at hx0 hx1 hP hPl hPs hPs0 hb
    simp only [← hPP]
    have hlo := hfi.lo
    have hhi := hfi.hi
    have n0 : ¬ x.p < 0 := by omega
    have n1 : ¬ 100 < x.p := by omega
    simp [r0, r1, ns_get hi, hu, n0, n1]
    refine brd (fun h0 => ?_) (fun h0 => ?_)
    · have hv := hx0 h0
      simp [ns_get hi]
      refine callW_imm (S.fn_Value l[i].s l[i].p l[i].d) ?_
      simp [hv, h0, wrap_succ hi hl6]
      refine ⟨rfl, ?_⟩
      exact loopEnd (i + 1) (by omega) (by omega) (by exact weak_drop rfl rfl (by simp [EnvLe, getE, look]) (by simp [ObLe, look]) (by simp [roOk]))
    · have hv := hx1 h0
      have hl0 : 0 < P.length := List.length_pos_iff.2 h0
      obtain ⟨m1, m2, m3⟩ := mean_floor hP h0
      rw [← hv] at m1 m2 m3
      have mn : 0 ≤ x.p * (P.length : Int) := Int.mul_nonneg hlo (by omega)
      have w1 : IntKind.i64.wrap (x.p * (P.length : Int)) = x.p * P.length := wrap_sm (by omega) (by omega)
      have w2 : IntKind.i64.wrap (P.sum - x.p * (P.length : Int)) = P.sum - x.p * P.length := wrap_sm (by omega) (by omega)
      have hb' : b = decide (x.p = 100) := by
        rw [hb, Bool.eq_iff_iff, List.all_eq_true]
        simp only [decide_eq_true_eq]
        exact m3.symm
      have m1' : ¬ P.sum < x.p * (P.length : Int) := by omega
      have m2' : ¬ (P.length : Int) ≤ P.sum - x.p * (P.length : Int) := by omega
      simp [h0, hl0, w1, w2, m1', m2', hb', wrap_succ hi hl6]
      refine ⟨rfl, ?_⟩
      exact loopEnd (i + 1) (by omega) (by omega) (by exact weak_drop rfl rfl (by simp [EnvLe, getE, look]) (by simp [ObLe, look]) (by simp [roOk]))
theorem fn_RollupDone (l : List Nd) (hw : ∀ n ∈ l, 0 ≤ n.s) : Fn [] Try.prog k_law33_RollupDone [.slice (ns l)] (.bool true) := by
  refine fn_intro hm ok_law33_RollupDone (by simp) ?_
  simp [c_law33_RollupDone, r_law33_RollupDone]
  refine callW_imm (fn_Few l) ?_
  cases hf : fewN l
  · simp
    refine callW_imm fn_awake ?_
    simp
  have hl := few_len hf
  have hl6 : l.length < 1000000 := by omega
  simp
  refine callW_imm (fn_Own l hl6) ?_
  simp
  refine callW_imm (fn_All0 l hl hw) ?_
  simp [allI]
  refine brd (fun hc => ?_) (fun hc => ?_)
  case refine_2 =>
    simp
    refine callW_imm fn_awake ?_
    simp
  have hG := good_iff.1 hc
  have hA : allT l = l.map (sumN l l.length) := by simp [allT, hc]
  have lA : (allT l).length = l.length := by simp [hA]
  have gA : ∀ k (hk : k < l.length), (ss (allT l))[k]? = some [.str (sumN l l.length l[k]).u, .int .i64 (sumN l l.length l[k]).p, .int .u8 (sumN l l.length l[k]).s] := by
    intro k hk
    rw [ss_get (by omega)]
    simp [hA]
  have hfit := fit_sum hw hG.lives l.length
  obtain ⟨R, hR⟩ : ∃ R, R = ss (allT l) := ⟨_, rfl⟩
  have lR : R.length = l.length := by rw [hR]; simp [lA]
  simp only [← hR] at gA ⊢
  simp
  refine loopW hm (fun i : Nat => ⟨[(6, .val (.int .i64 i)), (3, .val (.slice (ns l))), (4, .val (.slice R))], [], [], 89, []⟩)
    (fun i => i ≤ l.length) (fun i => l.length - i) 0 (by omega) (by exact weak_drop rfl rfl (by simp [EnvLe, getE, look]) (by simp [ObLe, look]) (by simp [roOk])) (fun _ => rfl) ?_
  rintro i h1
  simp [lR]
  refine brd (fun hi => ?_) (fun hi => ?_)
  case refine_2 =>
    simp [lR]
    refine callW_imm fn_awake ?_
    simp
  have gi := gA i hi
  obtain ⟨r0, r1⟩ := List.getElem?_eq_some_iff.1 gi
  have hfi := hfit _ (List.getElem_mem hi)
  obtain ⟨x, hx⟩ : ∃ x, x = sumN l l.length l[i] := ⟨_, rfl⟩
  rw [← hx] at r1 hfi
  obtain ⟨f1, f2, f3, f4, f5, f6, f7⟩ := hfi
  have hc3 : x.s = 3 → x.p = 100 := f6
  have e0 : ¬ x.s = 0 := by omega
  have e4 : ¬ 4 < x.s := by omega
  have hb4 : decide (x.s = 4) = decide (l[i].s = 4) := by simp [f5]
  obtain ⟨q0, q1⟩ := List.getElem?_eq_some_iff.1 (ns_get hi)
  simp [hi, r0, r1, q1, lR, e0, e4, hb4]
  refine brd (fun h3 => ?_) (fun h3 => ?_)
  · simp [r0, r1, f6 h3, h3, wrap_succ hi hl6]
    exact loopEnd (i + 1) (by omega) (by omega) (by exact weak_drop rfl rfl (by simp [EnvLe, getE, look]) (by simp [ObLe, look]) (by simp [roOk]))
  · simp
    refine brd (fun h1' => ?_) (fun h1' => ?_)
    · simp [r0, r1, f7 h1', wrap_succ hi hl6]
      exact loopEnd (i + 1) (by omega) (by omega) (by exact weak_drop rfl rfl (by simp [EnvLe, getE, look]) (by simp [ObLe, look]) (by simp [roOk]))
    · simp [wrap_succ hi hl6]
      exact loopEnd (i + 1) (by omega) (by omega) (by exact weak_drop rfl rfl (by simp [EnvLe, getE, look]) (by simp [ObLe, look]) (by simp [roOk]))
theorem fn_RollupOrder (l : List Nd) (n : Int) (hw : ∀ n ∈ l, 0 ≤ n.s) (hn0 : 0 ≤ n) (hn : n ≤ 255) : Fn [] Try.prog k_law33_RollupOrder [.slice (ns l), .int .u8 n] (.bool true) := by
  refine fn_intro hm ok_law33_RollupOrder (by simp) ?_
  simp [c_law33_RollupOrder, r_law33_RollupOrder]
  refine callW_imm (fn_Few l) ?_
  cases hf : fewN l
  · simp
    refine callW_imm fn_awake ?_
    simp
  have hl := few_len hf
  have hl6 : l.length < 1000000 := by omega
  simp
  refine brd (fun h0 => ?_) (fun h0 => ?_)
  · simp
    refine callW_imm fn_awake ?_
    simp
  simp
  refine callW_imm (fn_Own l hl6) ?_
  have hlp : 0 < l.length := List.length_pos_iff.2 h0
  obtain ⟨k, hk, hkl⟩ : ∃ k : Nat, (IntKind.i64.wrap n).tmod (l.length : Int) = k ∧ k < l.length := by
    have e : IntKind.i64.wrap n = n := wrap_sm (by omega) (by omega)
    rw [e]
    have h1 := Int.tmod_nonneg (l.length : Int) hn0
    have h2 := Int.tmod_lt_of_pos n (show (0 : Int) < l.length by omega)
    exact ⟨(n.tmod l.length).toNat, by omega, by omega⟩
  have e5 : ∀ row ∈ ns l, row.length = 5 := ns_five
  obtain ⟨m, hmm⟩ : ∃ m, m = l.drop k ++ l.take k := ⟨_, rfl⟩
  have em : List.drop k (ns l) ++ List.take k (ns l) = ns m := by simp [hmm, ns, List.map_drop, List.map_take]
  have et : List.take l.length (ns l) = ns l := by rw [← ns_len l, List.take_length]
  have hp : l.Perm m := by rw [hmm]; exact perm_turn l k
  have lm : m.length = l.length := hp.length_eq.symm
  have hwm : ∀ n ∈ m, 0 ≤ n.s := fun n hn => hw n (hp.mem_iff.2 hn)
  simp [hk, et, em]
  refine ⟨h0, ⟨by omega, e5⟩, ⟨by omega, fun r hr => e5 r (List.mem_of_mem_drop hr)⟩, ⟨by omega, e5⟩, ⟨by omega, fun r hr => e5 r (List.mem_of_mem_take hr)⟩, ?_⟩
  refine loopW hm (fun i : Nat => ⟨[(8, .val (.int .i64 i)), (7, .own 33 1), (5, .val (.slice (ns l)))], [(33, .arr 1 5 (ns m))], [], 76, []⟩)
    (fun i => i ≤ l.length) (fun i => l.length - i) 0 (by omega) (by exact weak_drop rfl rfl (by simp [EnvLe, getE, look]) (by simp [ObLe, look]) (by simp [roOk])) (fun _ => rfl) ?_
  rintro i h1
  simp
  refine brd (fun hi => ?_) (fun hi => ?_)
  case refine_2 =>
    simp
    refine callW_imm fn_awake ?_
    simp
  obtain ⟨p1, p2⟩ := perm_of hp (List.getElem_mem hi)
  simp [ns_get hi]
  refine callW_imm (fn_Of l l[i].uid hl hw) ?_
  simp [ofI, ns_get hi, Sm.iv]
  refine callW_imm (fn_Of m l[i].uid (by omega) hwm) ?_
  have hb : decide (ofE l l[i].uid = 0) = decide (ofE m l[i].uid = 0) := by simp [p2]
  simp [ofI, Sm.iv, ← p1, hb, wrap_succ hi hl6]
  exact loopEnd (i + 1) (by omega) (by omega) (by exact weak_drop rfl rfl (by simp [EnvLe, getE, look]) (by simp [ObLe, look]) (by simp [roOk]))
end Go.Vs.Ytjfleklkloohgaa.R
