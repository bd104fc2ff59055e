/- The walk of the library's stable sort, part 1: swaps and turns. No conditions. -/
import Derived.Test.YtjfleklkloohgaaRoA
import Derived.Test.YtjfleklkloohgaaRoSort
namespace Go.Vs.Ytjfleklkloohgaa.R
set_option linter.unusedSimpArgs false
set_option linter.unusedVariables false
open Go.Proofs Go.Vs.Fo
set_option maxRecDepth 100000
set_option maxHeartbeats 4000000
theorem mid_get {α : Type} {R A B : List α} {x : α} {i : Nat} (h : R = A ++ x :: B) (hi : A.length = i) : R[i]? = some x := by
  subst h; subst hi; simp
theorem mid_swap {α : Type} {R A B C : List α} {x y : α} {i j : Nat} (h : R = A ++ x :: (B ++ y :: C)) (hi : A.length = i) (hj : i + 1 + B.length = j) :
    R[i]? = some x ∧ R[j]? = some y ∧ ((R.set i y)[j]? = some y) ∧ (R.set i y).set j x = A ++ y :: (B ++ x :: C) := by
  subst h; subst hi; subst hj
  have e1 : (A ++ x :: (B ++ y :: C))[A.length + 1 + B.length]? = some y := by
    rw [List.getElem?_append_right (by omega), show A.length + 1 + B.length - A.length = B.length + 1 by omega, List.getElem?_cons_succ]
    simp
  have e2 : (A ++ x :: (B ++ y :: C)).set A.length y = A ++ y :: (B ++ y :: C) := by simp
  refine ⟨by simp, e1, ?_, ?_⟩
  · rw [List.getElem?_set_ne (by omega)]; exact e1
  · rw [e2, List.set_append_right _ _ (by omega), show A.length + 1 + B.length - A.length = B.length + 1 by omega, List.set_cons_succ]
    simp
theorem is_append (a b : List Int) : is (a ++ b) = is a ++ is b := by simp [is]
theorem is_cons (x : Int) (b : List Int) : is (x :: b) = [.int .i64 x] :: is b := rfl
@[simp] theorem is_nil : is [] = [] := rfl
theorem is_flat {l : List Int} : flatRows (is l) = true := by
  induction l with
  | nil => rfl
  | cons x r ih => simp [is, flatRows, IV.flat, IV.flat.flats] at ih ⊢; exact ih
theorem fnM_swapRange (v : Nat) (P U M W Q : List Int) (a b n : Nat) (c : IV) (ha : P.length = a) (hU : U.length = n) (hM : a + n + M.length = b) (hW : W.length = n) (hb : b + n < 1000000) :
    FnM [] Try.prog k_slices_swapRangeCmpFunc_int { args := [.own 1000 v, .val (.int .i64 a), .val (.int .i64 b), .val (.int .i64 n), .val c], objs := [(1000, .arr v 1 (is (P ++ (U ++ (M ++ (W ++ Q))))))], res := .val (.tuple []), objs' := [(1000, .arr v 1 (is (P ++ (W ++ (M ++ (U ++ Q))))))], ro' := [] } := by
  refine fnM_intro hm ok_slices_swapRangeCmpFunc_int (by simp) rfl ?_
  simp [c_slices_swapRangeCmpFunc_int, r_slices_swapRangeCmpFunc_int]
  refine loopW hm (fun x : Nat × (List Int × List Int) × (List Int × List Int) => ⟨[(10, .val (.int .i64 x.1)), (0, .own 1000 v), (1, .val (.int .i64 a)), (2, .val (.int .i64 b)), (3, .val (.int .i64 n))],
      [(1000, .arr v 1 (is (P ++ (x.2.2.1 ++ (x.2.1.2 ++ (M ++ (x.2.1.1 ++ (x.2.2.2 ++ Q))))))))], [], 38, []⟩)
    (fun x => x.1 ≤ n ∧ U = x.2.1.1 ++ x.2.1.2 ∧ W = x.2.2.1 ++ x.2.2.2 ∧ x.2.1.1.length = x.1 ∧ x.2.2.1.length = x.1) (fun x => n - x.1) (0, ([], U), ([], W)) ⟨by omega, rfl, rfl, rfl, rfl⟩ (by exact weak_drop rfl rfl (by simp [EnvLe, getE, look]) (by simp [ObLe, look]) (by simp [roOk])) (fun _ => rfl) ?_
  rintro ⟨i, ⟨U1, U2⟩, ⟨W1, W2⟩⟩ ⟨h1, h2, h3, h4, h5⟩
  simp only at h1 h2 h3 h4 h5
  simp
  refine brd (fun hi => ?_) (fun hi => ?_)
  · cases U2 with
    | nil => rw [h2] at hU; simp at hU; omega
    | cons u U2 =>
      cases W2 with
      | nil => rw [h3] at hW; simp at hW; omega
      | cons w W2 =>
        have hu2 : U1.length + (U2.length + 1) = n := by rw [h2] at hU; simpa using hU
        obtain ⟨ai, hai⟩ : ∃ m, m = a + i := ⟨_, rfl⟩
        obtain ⟨bi, hbi⟩ : ∃ m, m = b + i := ⟨_, rfl⟩
        have hwa : IntKind.i64.wrap ((a : Int) + (i : Int)) = (ai : Int) := by rw [IntKind.wrap_i64]; omega
        have hwb : IntKind.i64.wrap ((b : Int) + (i : Int)) = (bi : Int) := by rw [IntKind.wrap_i64]; omega
        have hwi : IntKind.i64.wrap ((i : Int) + 1) = ((i + 1 : Nat) : Int) := by rw [IntKind.wrap_i64]; omega
        obtain ⟨R, hR⟩ : ∃ R, R = is (P ++ (W1 ++ (u :: U2 ++ (M ++ (U1 ++ (w :: W2 ++ Q)))))) := ⟨_, rfl⟩
        have hR2 : R = is (P ++ W1) ++ [.int .i64 u] :: (is (U2 ++ (M ++ U1)) ++ [.int .i64 w] :: is (W2 ++ Q)) := by rw [hR]; simp [is]
        obtain ⟨k1, k2, k3, k4⟩ := mid_swap hR2 (i := ai) (j := bi) (by simp; omega) (by simp; omega)
        have hRn : is (P ++ (W1 ++ (u :: (U2 ++ (M ++ (U1 ++ (w :: (W2 ++ Q)))))))) = R := by rw [hR]; simp
        obtain ⟨k0, k1'⟩ := List.getElem?_eq_some_iff.1 k1
        obtain ⟨k5, k2'⟩ := List.getElem?_eq_some_iff.1 k2
        have hne : ¬ ai = bi := by omega
        simp only [List.cons_append, hRn]
        simp [hwa, hwb, hwi, k0, k5, k1', k2', hne, List.getElem_set]
        refine loopEnd (i + 1, (U1 ++ [u], U2), (W1 ++ [w], W2)) ⟨by omega, by simp [h2], by simp [h3], by simp [h4], by simp [h5]⟩ (by simp; omega) ?_
        have hfin : is (P ++ (W1 ++ [w] ++ (U2 ++ (M ++ (U1 ++ [u] ++ (W2 ++ Q)))))) = (R.set ai [.int .i64 w]).set bi [.int .i64 u] := by rw [k4]; simp [is]
        simp only [hfin]
        exact weak_drop rfl rfl (by simp [EnvLe, getE, look]) (by simp [ObLe, look]) (by simp [roOk])
  · have : U2 = [] := by rw [h2] at hU; simp at hU; exact List.length_eq_zero_iff.1 (by omega)
    subst this
    have : W2 = [] := by rw [h3] at hW; simp at hW; exact List.length_eq_zero_iff.1 (by omega)
    subst this
    simp at h2 h3
    subst h2 h3
    simp [fnPostM]
    exact ⟨_, Weak.refl _, by simp, [], rfl, rfl, rfl⟩
end Go.Vs.Ytjfleklkloohgaa.R
/- The walk of the library's stable sort, part 2: rotate. No conditions. -/
namespace Go.Vs.Ytjfleklkloohgaa.R
set_option linter.unusedSimpArgs false
set_option linter.unusedVariables false
open Go.Proofs Go.Vs.Fo
set_option maxRecDepth 100000
set_option maxHeartbeats 4000000
theorem fnM_rotate (v : Nat) (P0 X Y Q0 : List Int) (a m b : Nat) (c : IV) (ha : P0.length = a) (hX : a + X.length = m) (hY : m + Y.length = b) (hx : X ≠ []) (hy : Y ≠ []) (hb : b < 1000) :
    FnM [] Try.prog k_slices_rotateCmpFunc_int { args := [.own 1000 v, .val (.int .i64 a), .val (.int .i64 m), .val (.int .i64 b), .val c], objs := [(1000, .arr v 1 (is (P0 ++ (X ++ (Y ++ Q0)))))], res := .val (.tuple []), objs' := [(1000, .arr v 1 (is (P0 ++ (Y ++ (X ++ Q0)))))], ro' := [] } := by
  have hx0 : 0 < X.length := by cases X with | nil => exact absurd rfl hx | cons => simp
  have hy0 : 0 < Y.length := by cases Y with | nil => exact absurd rfl hy | cons => simp
  refine fnM_intro hm ok_slices_rotateCmpFunc_int (by simp) rfl ?_
  have hwi : IntKind.i64.wrap ((m : Int) - (a : Int)) = (X.length : Int) := by rw [IntKind.wrap_i64]; omega
  have hwj : IntKind.i64.wrap ((b : Int) - (m : Int)) = (Y.length : Int) := by rw [IntKind.wrap_i64]; omega
  simp [c_slices_rotateCmpFunc_int, r_slices_rotateCmpFunc_int, hwi, hwj]
  refine loopW hm (fun x : (List Int × List Int) × (List Int × List Int) => ⟨[(10, .val (.int .i64 x.1.2.length)), (11, .val (.int .i64 x.2.1.length)), (0, .own 1000 v), (2, .val (.int .i64 m)), (4, .val c)],
      [(1000, .arr v 1 (is (x.1.1 ++ (x.1.2 ++ (x.2.1 ++ x.2.2)))))], [], 58, []⟩)
    (fun x => x.1.1.length + x.1.2.length = m ∧ 0 < x.1.2.length ∧ 0 < x.2.1.length ∧ x.1.2.length + x.2.1.length ≤ X.length + Y.length ∧ m + x.2.1.length ≤ b ∧ x.1.1 ++ (x.2.1 ++ (x.1.2 ++ x.2.2)) = P0 ++ (Y ++ (X ++ Q0))) (fun x => x.1.2.length + x.2.1.length) ((P0, X), (Y, Q0)) ⟨by simp; omega, hx0, hy0, by simp, by simp; omega, rfl⟩ (by exact weak_drop rfl rfl (by simp [EnvLe, getE, look]) (by simp [ObLe, look]) (by simp [roOk])) (fun _ => rfl) ?_
  rintro ⟨⟨P, U⟩, ⟨V, Q⟩⟩ ⟨h1, h2, h3, h4, h6, h5⟩
  simp only at h1 h2 h3 h4 h5 h6
  simp
  have hwp : IntKind.i64.wrap ((m : Int) - (U.length : Int)) = (P.length : Int) := by rw [IntKind.wrap_i64]; omega
  refine brd (fun hi => ?_) (fun hi => ?_)
  · -- the same length: the last swap
    simp [hwp]
    have e := fnM_swapRange v P U [] V Q P.length m U.length c rfl rfl h1 (by omega) (by omega)
    simp only [List.nil_append] at e
    refine callM [(1000, 1000)] [] e rfl rfl ?_ ?_ rfl ?_
    · simp [mObjs, Vs.ren, look, Ob.ren]
    · simp [mArgs, Vs.ren, look, SV.ren]
    · simp [fnPostM]
      rw [h5]
      exact ⟨⟨[], [(1000, .arr v 1 (is (P0 ++ (Y ++ (X ++ Q0)))))], [], 58, []⟩, (by exact weak_drop rfl rfl (by simp [EnvLe, getE, look]) (by simp [ObLe, look]) (by simp [roOk])), rfl, [], rfl, rfl, rfl⟩
  · simp
    refine brd (fun hg => ?_) (fun hg => ?_)
    · -- i > j: U = U1 ++ U2, |U1| = j
      have hlt : V.length < U.length := by omega
      obtain ⟨U1, U2, rfl, hU1⟩ : ∃ U1 U2, U = U1 ++ U2 ∧ U1.length = V.length := ⟨U.take V.length, U.drop V.length, by simp, by simp; omega⟩
      have hU2 : U2.length + V.length = (U1 ++ U2).length := by simp; omega
      simp only [List.length_append] at h1 h2 h4 hlt hU2 hwp
      have hws : IntKind.i64.wrap ((((U1 ++ U2).length : Nat) : Int) - (V.length : Int)) = (U2.length : Int) := by rw [IntKind.wrap_i64]; simp; omega
      simp at hws
      simp at hwp
      simp [hwp]
      have e := fnM_swapRange v P U1 U2 V Q P.length m V.length c rfl hU1 (by omega) rfl (by omega)
      refine callM [(1000, 1000)] [] e rfl rfl ?_ ?_ rfl ?_
      · simp [mObjs, Vs.ren, look, Ob.ren]
      · simp [mArgs, Vs.ren, look, SV.ren]
      · simp [hws]
        refine loopEnd ((P ++ V, U2), (U1, Q)) ⟨by simp; omega, by simp; omega, by simp; omega, by simp; omega, by simp; omega, by simpa using h5⟩ (by simp; omega) ?_
        simp only [hU1, List.append_assoc]
        exact weak_drop rfl rfl (by simp [EnvLe, getE, look]) (by simp [ObLe, look]) (by simp [roOk])
    · -- i < j: V = V1 ++ V2, |V2| = i
      have hlt : U.length < V.length := by omega
      obtain ⟨V1, V2, rfl, hV2⟩ : ∃ V1 V2, V = V1 ++ V2 ∧ V2.length = U.length := ⟨V.take (V.length - U.length), V.drop (V.length - U.length), by simp, by simp; omega⟩
      simp only [List.length_append] at h3 h4 h6 hlt
      have hws : IntKind.i64.wrap ((((V1 ++ V2).length : Nat) : Int) - (U.length : Int)) = (V1.length : Int) := by rw [IntKind.wrap_i64]; simp; omega
      obtain ⟨bb, hbb⟩ : ∃ q, q = m + V1.length := ⟨_, rfl⟩
      have hw1 : IntKind.i64.wrap ((m : Int) + (((V1 ++ V2).length : Nat) : Int)) = ((m + (V1 ++ V2).length : Nat) : Int) := by rw [IntKind.wrap_i64]; simp; omega
      have hw2 : IntKind.i64.wrap (((m + (V1 ++ V2).length : Nat) : Int) - (U.length : Int)) = (bb : Int) := by rw [IntKind.wrap_i64]; simp; omega
      simp at hw1 hw2
      simp at hws
      simp [hwp, hw1, hw2]
      have e := fnM_swapRange v P U V1 V2 Q P.length bb U.length c rfl rfl (by omega) hV2 (by omega)
      refine callM [(1000, 1000)] [] e rfl rfl ?_ ?_ rfl ?_
      · simp [mObjs, Vs.ren, look, Ob.ren]
      · simp [mArgs, Vs.ren, look, SV.ren]
      · simp [hws]
        refine loopEnd ((P, V2), (V1, U ++ Q)) ⟨by simp; omega, by simp; omega, by simp; omega, by simp; omega, by simp; omega, by simpa using h5⟩ (by simp; omega) ?_
        simp only [hV2]
        exact weak_drop rfl rfl (by simp [EnvLe, getE, look]) (by simp [ObLe, look]) (by simp [roOk])
end Go.Vs.Ytjfleklkloohgaa.R
/- The walk of the library's stable sort, part 3: the insertion sort. No conditions. -/
namespace Go.Vs.Ytjfleklkloohgaa.R
set_option linter.unusedSimpArgs false
set_option linter.unusedVariables false
open Go.Proofs Go.Vs.Fo Go.Vs.Ro
set_option maxRecDepth 100000
set_option maxHeartbeats 4000000
/-- Before, or with. -/
def leK (κ : Int → Int) (x y : Int) : Bool := decide (κ y ≤ κ x)
theorem leK_tot (κ : Int → Int) (x y : Int) : leK κ x y = true ∨ leK κ y x = true := by simp only [leK, decide_eq_true_eq]; omega
theorem leK_tr (κ : Int → Int) (x y z : Int) (h1 : leK κ x y = true) (h2 : leK κ y z = true) : leK κ x z = true := by simp only [leK, decide_eq_true_eq] at *; omega
def CmpOk (kf : Nat) (caps : List IV) (κ : Int → Int) (D : Int → Prop) : Prop := ∀ x y, D x → D y → Fn [] Try.prog kf (.int .i64 x :: .int .i64 y :: caps) (.int .i64 (κ y - κ x))
theorem isort_one (κ : Int → Int) (X : List Int) : isort (leK κ) (X.take 1) ++ X.drop 1 = X := by
  cases X with
  | nil => rfl
  | cons x r => simp [isort]
theorem fnM_insertion {kf : Nat} {caps : List IV} {κ : Int → Int} {D : Int → Prop} (hcmp : CmpOk kf caps κ D) (v : Nat) (P X Q : List Int) (a b : Nat) (ha : P.length = a) (hX : a + X.length = b) (hD : ∀ x ∈ X, D x) (hb : b < 1000) :
    FnM [] Try.prog k_slices_insertionSortCmpFunc_int { args := [.own 1000 v, .val (.int .i64 a), .val (.int .i64 b), .val (.fn kf caps)], objs := [(1000, .arr v 1 (is (P ++ (X ++ Q))))], res := .val (.tuple []), objs' := [(1000, .arr v 1 (is (P ++ (isort (leK κ) X ++ Q))))], ro' := [] } := by
  refine fnM_intro hm ok_slices_insertionSortCmpFunc_int (by simp) rfl ?_
  have hwa : IntKind.i64.wrap ((a : Int) + 1) = ((a : Int) + ((1 : Nat) : Int)) := by rw [IntKind.wrap_i64]; omega
  simp [c_slices_insertionSortCmpFunc_int, r_slices_insertionSortCmpFunc_int]
  rw [hwa]
  refine loopW hm (fun t : Nat => ⟨[(8, .val (.int .i64 ((a : Int) + (t : Int)))), (0, .own 1000 v), (1, .val (.int .i64 a)), (2, .val (.int .i64 b)), (3, .val (.fn kf caps))],
      [(1000, .arr v 1 (is (P ++ (isort (leK κ) (X.take t) ++ (X.drop t ++ Q)))))], [], 53, []⟩)
    (fun t => 1 ≤ t ∧ t ≤ max 1 X.length) (fun t => X.length - t) 1 ⟨by omega, by omega⟩ ?_ (fun _ => rfl) ?_
  · have e := isort_one κ X
    have e2 : isort (leK κ) (X.take 1) ++ (X.drop 1 ++ Q) = X ++ Q := by rw [← List.append_assoc, e]
    simp only [e2]
    exact weak_drop rfl rfl (by simp [EnvLe, getE, look]) (by simp [ObLe, look]) (by simp [roOk])
  rintro t ⟨h1, h2⟩
  simp
  refine brd (fun hi => ?_) (fun hi => ?_)
  case refine_2 =>
    have e1 : X.take t = X := List.take_of_length_le (by omega)
    have e2 : X.drop t = [] := List.drop_eq_nil_iff.2 (by omega)
    simp [fnPostM, e1, e2]
    exact ⟨_, Weak.refl _, by simp, [], rfl, rfl, rfl⟩
  have ht : t < X.length := by omega
  obtain ⟨x, hx⟩ : ∃ x, x = X[t] := ⟨_, rfl⟩
  have hxD : D x := by rw [hx]; exact hD _ (List.getElem_mem ht)
  have hdrop : X.drop t = x :: X.drop (t + 1) := by rw [hx]; exact List.drop_eq_getElem_cons ht
  have htake : X.take (t + 1) = X.take t ++ [x] := by rw [hx]; exact List.take_succ_eq_append_getElem ht
  obtain ⟨A, hA⟩ : ∃ A, A = isort (leK κ) (X.take t) := ⟨_, rfl⟩
  have hAl : A.length = t := by rw [hA, (isort_perm _).length_eq]; simp; omega
  have hAD : ∀ y ∈ A, D y := by
    intro y hy
    rw [hA] at hy
    exact hD y (List.mem_of_mem_take ((isort_perm _).mem_iff.1 hy))
  have hAs : Sorted (leK κ) A := by rw [hA]; exact isort_sorted (leK_tot κ) (leK_tr κ) _
  simp
  refine loopW hm (fun y : List Int × List Int => ⟨[(9, .val (.int .i64 ((a : Int) + (y.1.length : Int)))), (8, .val (.int .i64 ((a : Int) + (t : Int)))), (0, .own 1000 v), (1, .val (.int .i64 a)), (2, .val (.int .i64 b)), (3, .val (.fn kf caps))],
      [(1000, .arr v 1 (is (P ++ (y.1 ++ (x :: (y.2 ++ (X.drop (t + 1) ++ Q)))))))], [], 53, []⟩)
    (fun y => y.1 ++ y.2 = A ∧ ∀ z ∈ y.2, leK κ z x = false) (fun y => y.1.length) (A, []) ⟨by simp, by simp⟩ ?_ (fun _ => rfl) ?_
  · simp only [hdrop, ← hA, hAl, List.cons_append, List.nil_append]
    exact weak_drop rfl rfl (by simp [EnvLe, getE, look]) (by simp [ObLe, look]) (by simp [roOk])
  have fin : ∀ A1 A2 : List Int, A1 ++ A2 = A → (∀ z ∈ A1, leK κ z x = true) → (∀ z ∈ A2, leK κ z x = false) → is (P ++ (A1 ++ (x :: (A2 ++ (X.drop (t + 1) ++ Q))))) = is (P ++ (isort (leK κ) (X.take (t + 1)) ++ (X.drop (t + 1) ++ Q))) := by
    intro A1 A2 hAA h3 h4
    rw [htake, isort_snoc, ← hA, ← hAA, merge_one_right h3 h4]
    simp
  have hwt : IntKind.i64.wrap ((a : Int) + (t : Int) + 1) = (a : Int) + ((t + 1 : Nat) : Int) := by rw [IntKind.wrap_i64]; omega
  rintro ⟨A1, A2⟩ ⟨h3, h4⟩
  simp only at h3 h4
  simp
  rcases List.eq_nil_or_concat A1 with rfl | ⟨A1', y, rfl⟩
  · simp
    refine ⟨rfl, ?_⟩
    rw [hwt]
    refine loopEnd (t + 1) ⟨by omega, by omega⟩ (by omega) ?_
    have e := fin [] A2 h3 (by simp) h4
    simp only [List.nil_append] at e
    simp only [← e]
    exact weak_drop rfl rfl (by simp [EnvLe, getE, look]) (by simp [ObLe, look]) (by simp [roOk])
  · have hyA : y ∈ A := by rw [← h3]; simp
    have hl1 : A1'.length + 1 + A2.length = t := by rw [← hAl, ← h3]; simp; omega
    obtain ⟨R, hR⟩ : ∃ R, R = is (P ++ (A1' ++ y :: x :: (A2 ++ (X.drop (t + 1) ++ Q)))) := ⟨_, rfl⟩
    have hR2 : R = is (P ++ A1') ++ [.int .i64 y] :: (is [] ++ [.int .i64 x] :: is (A2 ++ (X.drop (t + 1) ++ Q))) := by rw [hR]; simp [is]
    obtain ⟨ai, hai⟩ : ∃ q, q = a + A1'.length := ⟨_, rfl⟩
    obtain ⟨bi, hbi⟩ : ∃ q, q = a + A1'.length + 1 := ⟨_, rfl⟩
    obtain ⟨k1, k2, k3, k4⟩ := mid_swap hR2 (i := ai) (j := bi) (by simp; omega) (by simp; omega)
    obtain ⟨k0, k1'⟩ := List.getElem?_eq_some_iff.1 k1
    obtain ⟨k5, k2'⟩ := List.getElem?_eq_some_iff.1 k2
    have hne : ¬ ai = bi := by omega
    have hne' : ¬ bi = ai := by omega
    have hj : (a : Int) + ((A1'.length : Int) + 1) = (bi : Int) := by omega
    have hwj : IntKind.i64.wrap ((bi : Int) - 1) = (ai : Int) := by rw [IntKind.wrap_i64]; omega
    have hgt : a < bi := by omega
    have hRn : is (P ++ (A1' ++ y :: x :: (A2 ++ (X.drop (t + 1) ++ Q)))) = R := hR.symm
    simp [hj, hRn, hgt, k0, k5, k1', k2', hwj]
    refine callW_imm (hcmp x y hxD (hAD y hyA)) ?_
    simp
    refine ⟨rfl, ?_⟩
    refine brd (fun hc => ?_) (fun hc => ?_)
    · have hlf : leK κ y x = false := by simp only [leK, decide_eq_false_iff_not]; omega
      have kset : (R.set bi [.int .i64 y]).set ai [.int .i64 x] = is (P ++ A1') ++ [.int .i64 x] :: (is [] ++ [.int .i64 y] :: is (A2 ++ (X.drop (t + 1) ++ Q))) := by rw [List.set_comm _ _ (by omega)]; exact k4
      simp [k0, k5, k1', k2', hne, hne', hwj, List.getElem_set]
      refine loopEnd (A1', y :: A2) ⟨by simpa using h3, ?_⟩ (by simp) ?_
      · intro z hz
        rcases List.mem_cons.1 hz with rfl | hz
        · exact hlf
        · exact h4 z hz
      · have e : is (P ++ (A1' ++ (x :: (y :: A2 ++ (X.drop (t + 1) ++ Q))))) = (R.set bi [.int .i64 y]).set ai [.int .i64 x] := by rw [kset]; simp [is]
        have hai' : (a : Int) + (A1'.length : Int) = (ai : Int) := by omega
        simp only [e, hai']
        exact weak_drop rfl rfl (by simp [EnvLe, getE, look]) (by simp [ObLe, look]) (by simp [roOk])
    · have hlt : leK κ y x = true := by simp only [leK, decide_eq_true_eq]; omega
      have h5 : ∀ z ∈ A1' ++ [y], leK κ z x = true := by
        intro z hz
        rcases List.mem_append.1 hz with hz | hz
        · have hs : Sorted (leK κ) ((A1' ++ [y]) ++ A2) := by rw [← List.concat_eq_append, h3]; exact hAs
          have h6 := (List.pairwise_append.1 (List.pairwise_append.1 hs).1).2.2 z hz y (by simp)
          exact leK_tr κ z y x h6 hlt
        · rw [List.mem_singleton] at hz; subst hz; exact hlt
      simp
      rw [hwt]
      refine loopEnd (t + 1) ⟨by omega, by omega⟩ (by omega) ?_
      have e := fin (A1' ++ [y]) A2 (by rw [← List.concat_eq_append]; exact h3) h5 h4
      have e' : R = is (P ++ (isort (leK κ) (X.take (t + 1)) ++ (X.drop (t + 1) ++ Q))) := by rw [← e, hR]; simp
      simp only [← e']
      exact weak_drop rfl rfl (by simp [EnvLe, getE, look]) (by simp [ObLe, look]) (by simp [roOk])
end Go.Vs.Ytjfleklkloohgaa.R
/- The walk of the library's stable sort, part 4: the merge in place. No conditions. -/
namespace Go.Vs.Ytjfleklkloohgaa.R
set_option linter.unusedSimpArgs false
set_option linter.unusedVariables false
open Go.Proofs Go.Vs.Fo Go.Vs.Ro
set_option maxRecDepth 100000
set_option maxHeartbeats 4000000
theorem half (n : Nat) (h : n < 100000) : IntKind.i64.wrap ((IntKind.u64.wrap (n : Int)).fdiv 2) = ((n / 2 : Nat) : Int) := by
  have e : IntKind.u64.wrap (n : Int) = n := by simp [IntKind.wrap, IntKind.bits, IntKind.signed]; omega
  rw [e, IntKind.wrap_i64, Int.fdiv_eq_ediv_of_nonneg _ (by omega)]
  omega
theorem below_take {κ : Int → Int} {B : List Int} (hs : Sorted (leK κ) B) {x : Int} {k : Nat} (hk : k ≤ B.length) (h : ∀ h : k - 1 < B.length, 0 < k → leK κ x B[k - 1] = false) : ∀ z ∈ B.take k, leK κ x z = false := by
  intro z hz
  obtain ⟨p, hp, rfl⟩ := List.mem_take_iff_getElem.1 hz
  have h0 := h (by omega) (by omega)
  simp only [leK, decide_eq_false_iff_not] at h0 ⊢
  rcases Nat.lt_or_ge p (k - 1) with hlt | hge
  · have := List.pairwise_iff_getElem.1 hs p (k - 1) (by omega) (by omega) hlt
    simp only [leK, decide_eq_true_eq] at this
    omega
  · obtain rfl : p = k - 1 := by omega
    exact h0
theorem above_drop {κ : Int → Int} {B : List Int} (hs : Sorted (leK κ) B) {x : Int} {k : Nat} (h : ∀ h : k < B.length, leK κ x B[k] = true) : ∀ z ∈ B.drop k, leK κ x z = true := by
  intro z hz
  obtain ⟨p, hp, rfl⟩ := List.getElem_of_mem hz
  simp only [List.length_drop] at hp
  rw [List.getElem_drop]
  have h0 := h (by omega)
  simp only [leK, decide_eq_true_eq] at h0 ⊢
  rcases Nat.eq_zero_or_pos p with rfl | hpos
  · simpa using h0
  · have := List.pairwise_iff_getElem.1 hs k (k + p) (by omega) (by omega) (by omega)
    simp only [leK, decide_eq_true_eq] at this
    omega
/-- One alone, into those behind it. -/
theorem symMerge_left {kf : Nat} {caps : List IV} {κ : Int → Int} {D : Int → Prop} (hcmp : CmpOk kf caps κ D) (v : Nat) (P : List Int) (x : Int) (B Q : List Int) (a m b : Nat) (ha : P.length = a) (hm' : a + 1 = m) (hB : m + B.length = b) (hx : D x) (hD : ∀ y ∈ B, D y) (hs : Sorted (leK κ) B) (hb : b < 1000) :
    FnM [] Try.prog k_slices_symMergeCmpFunc_int { args := [.own 1000 v, .val (.int .i64 a), .val (.int .i64 m), .val (.int .i64 b), .val (.fn kf caps)], objs := [(1000, .arr v 1 (is (P ++ (x :: (B ++ Q)))))], res := .val (.tuple []), objs' := [(1000, .arr v 1 (is (P ++ (List.merge [x] B (leK κ) ++ Q))))], ro' := [] } := by
  refine fnM_intro hm ok_slices_symMergeCmpFunc_int (by simp) rfl ?_
  have hwd : IntKind.i64.wrap ((m : Int) - (a : Int)) = 1 := by rw [IntKind.wrap_i64]; omega
  simp [c_slices_symMergeCmpFunc_int, r_slices_symMergeCmpFunc_int, hwd]
  refine loopW hm (fun y : Nat × Nat => ⟨[(10, .val (.int .i64 y.1)), (11, .val (.int .i64 y.2)), (0, .own 1000 v), (1, .val (.int .i64 a)), (2, .val (.int .i64 m)), (3, .val (.int .i64 b)), (4, .val (.fn kf caps))],
      [(1000, .arr v 1 (is (P ++ (x :: (B ++ Q)))))], [], 220, []⟩)
    (fun y => m ≤ y.1 ∧ y.1 ≤ y.2 ∧ y.2 ≤ b ∧ (∀ h : y.1 - 1 - m < B.length, m < y.1 → leK κ x B[y.1 - 1 - m] = false) ∧ (∀ h : y.2 - m < B.length, y.2 < b → leK κ x B[y.2 - m] = true)) (fun y => y.2 - y.1) (m, b) ⟨by simp, by simp; omega, by simp, by simp, by simp⟩ (by exact weak_drop rfl rfl (by simp [EnvLe, getE, look]) (by simp [ObLe, look]) (by simp [roOk])) (fun _ => rfl) ?_
  rintro ⟨i, j⟩ ⟨h1, h2, h3, h4, h5⟩
  simp only at h1 h2 h3 h4 h5
  simp
  refine brd (fun hi => ?_) (fun hi => ?_)
  · obtain ⟨q, hq⟩ : ∃ q, q = (i + j) / 2 := ⟨_, rfl⟩
    have hqb : q - m < B.length := by omega
    have hw : IntKind.i64.wrap ((IntKind.u64.wrap (IntKind.i64.wrap ((i : Int) + (j : Int)))).fdiv (2 ^ min 1 IntKind.u64.bits)) = (q : Int) := by
      have e1 : IntKind.i64.wrap ((i : Int) + (j : Int)) = ((i + j : Nat) : Int) := by rw [IntKind.wrap_i64]; omega
      rw [e1, show (2 ^ min 1 IntKind.u64.bits : Int) = 2 by decide, half _ (by omega), hq]
    have hwq : IntKind.i64.wrap ((q : Int) + 1) = ((q + 1 : Nat) : Int) := by rw [IntKind.wrap_i64]; omega
    obtain ⟨y, hy⟩ : ∃ y, y = B[q - m] := ⟨_, rfl⟩
    have hyD : D y := by rw [hy]; exact hD _ (List.getElem_mem hqb)
    have hBs : B = B.take (q - m) ++ y :: B.drop (q - m + 1) := by
      conv => lhs; rw [← List.take_append_drop (q - m) B, List.drop_eq_getElem_cons hqb]
      rw [hy]
    obtain ⟨R, hR⟩ : ∃ R, R = is (P ++ (x :: (B ++ Q))) := ⟨_, rfl⟩
    have hR1 : R = is P ++ [.int .i64 x] :: is (B ++ Q) := by rw [hR]; simp [is]
    have hR2 : R = is (P ++ x :: B.take (q - m)) ++ [.int .i64 y] :: is (B.drop (q - m + 1) ++ Q) := by
      rw [hR]; conv => lhs; rw [hBs]
      simp [is]
    obtain ⟨k0, k1⟩ := List.getElem?_eq_some_iff.1 (mid_get hR1 (i := a) (by simpa using ha))
    obtain ⟨k2, k3⟩ := List.getElem?_eq_some_iff.1 (mid_get hR2 (i := q) (by simp; omega))
    simp only [← hR]
    simp [hw, k0, k1, k2, k3]
    refine callW_imm (hcmp y x hyD hx) ?_
    simp
    refine ⟨rfl, ?_⟩
    refine brd (fun hc => ?_) (fun hc => ?_)
    · have hf : leK κ x y = false := by simp only [leK, decide_eq_false_iff_not]; omega
      simp [hwq]
      refine loopEnd (q + 1, j) ⟨by simp; omega, by simp; omega, h3, fun h _ => ?_, h5⟩ (by simp; omega) ?_
      · have e : q + 1 - 1 - m = q - m := by omega
        simp only [e, ← hy]; exact hf
      · simp only [← hR]
        exact weak_drop rfl rfl (by simp [EnvLe, getE, look]) (by simp [ObLe, look]) (by simp [roOk])
    · have hf : leK κ x y = true := by simp only [leK, decide_eq_true_eq]; omega
      simp
      refine loopEnd (i, q) ⟨h1, by simp; omega, by simp; omega, h4, fun h _ => ?_⟩ (by simp; omega) ?_
      · simp only [← hy]; exact hf
      · simp only [← hR]
        exact weak_drop rfl rfl (by simp [EnvLe, getE, look]) (by simp [ObLe, look]) (by simp [roOk])
  · obtain rfl : i = j := by omega
    have hlo := below_take hs (x := x) (k := i - m) (by omega) (fun h hpos => by
      have := h4 (by omega) (by omega)
      have e : i - 1 - m = i - m - 1 := by omega
      simp only [e] at this; exact this)
    have hhi := above_drop hs (x := x) (k := i - m) (fun h => h5 h (by omega))
    have hmer : List.merge [x] B (leK κ) = B.take (i - m) ++ x :: B.drop (i - m) := by
      conv => lhs; rw [← List.take_append_drop (i - m) B]
      exact merge_one_left hlo hhi
    obtain ⟨B1, hB1⟩ : ∃ B1, B1 = B.take (i - m) := ⟨_, rfl⟩
    obtain ⟨B2, hB2⟩ : ∃ B2, B2 = B.drop (i - m) := ⟨_, rfl⟩
    have hBB : B = B1 ++ B2 := by rw [hB1, hB2, List.take_append_drop]
    have hB1l : B1.length = i - m := by rw [hB1, List.length_take]; omega
    rw [← hB1, ← hB2] at hmer
    have hwi : IntKind.i64.wrap ((i : Int) - 1) = (a : Int) + (B1.length : Int) := by rw [IntKind.wrap_i64]; omega
    simp
    refine loopW hm (fun t : Nat => ⟨[(13, .val (.int .i64 ((a : Int) + (t : Int)))), (10, .val (.int .i64 i)), (0, .own 1000 v)],
        [(1000, .arr v 1 (is (P ++ (B1.take t ++ (x :: (B1.drop t ++ (B2 ++ Q)))))))], [], 220, []⟩)
      (fun t => t ≤ B1.length) (fun t => B1.length - t) 0 (by omega) ?_ (fun _ => rfl) ?_
    · have e : x :: (B ++ Q) = List.take 0 B1 ++ (x :: (B1.drop 0 ++ (B2 ++ Q))) := by rw [hBB]; simp
      simp only [e]
      exact weak_drop rfl rfl (by simp [EnvLe, getE, look]) (by simp [ObLe, look]) (by simp [roOk])
    rintro t ht
    simp [hwi]
    refine brd (fun hi2 => ?_) (fun hi2 => ?_)
    · have htl : t < B1.length := by omega
      obtain ⟨y, hy⟩ : ∃ y, y = B1[t] := ⟨_, rfl⟩
      have hdr : B1.drop t = y :: B1.drop (t + 1) := by rw [hy]; exact List.drop_eq_getElem_cons htl
      have htk : B1.take (t + 1) = B1.take t ++ [y] := by rw [hy]; exact List.take_succ_eq_append_getElem htl
      obtain ⟨R, hR⟩ : ∃ R, R = is (P ++ (B1.take t ++ (x :: (B1.drop t ++ (B2 ++ Q))))) := ⟨_, rfl⟩
      have hR2 : R = is (P ++ B1.take t) ++ [.int .i64 x] :: (is [] ++ [.int .i64 y] :: is (B1.drop (t + 1) ++ (B2 ++ Q))) := by rw [hR, hdr]; simp [is]
      obtain ⟨ai, hai⟩ : ∃ q, q = a + t := ⟨_, rfl⟩
      obtain ⟨bi, hbi⟩ : ∃ q, q = a + t + 1 := ⟨_, rfl⟩
      obtain ⟨k1, k2, k3, k4⟩ := mid_swap hR2 (i := ai) (j := bi) (by simp; omega) (by simp; omega)
      obtain ⟨k0, k1'⟩ := List.getElem?_eq_some_iff.1 k1
      obtain ⟨k5, k2'⟩ := List.getElem?_eq_some_iff.1 k2
      have hne : ¬ ai = bi := by omega
      have hj : (a : Int) + (t : Int) = (ai : Int) := by omega
      have hwj : IntKind.i64.wrap ((ai : Int) + 1) = (bi : Int) := by rw [IntKind.wrap_i64]; omega
      simp only [← hR, hj]
      simp [k0, k5, k1', k2', hne, hwj, List.getElem_set]
      refine loopEnd (t + 1) (by omega) (by omega) ?_
      have e : is (P ++ (B1.take (t + 1) ++ (x :: (B1.drop (t + 1) ++ (B2 ++ Q))))) = (R.set ai [.int .i64 y]).set bi [.int .i64 x] := by rw [k4, htk]; simp [is]
      have hbi' : (a : Int) + ((t + 1 : Nat) : Int) = (bi : Int) := by omega
      simp only [e, hbi']
      exact weak_drop rfl rfl (by simp [EnvLe, getE, look]) (by simp [ObLe, look]) (by simp [roOk])
    · obtain rfl : t = B1.length := by omega
      simp [fnPostM, hmer]
      exact ⟨_, Weak.refl _, by simp, [], rfl, rfl, rfl⟩
theorem above_take {κ : Int → Int} {A : List Int} (hs : Sorted (leK κ) A) {y : Int} {k : Nat} (hk : k ≤ A.length) (h : ∀ h : k - 1 < A.length, 0 < k → leK κ A[k - 1] y = true) : ∀ z ∈ A.take k, leK κ z y = true := by
  intro z hz
  obtain ⟨p, hp, rfl⟩ := List.mem_take_iff_getElem.1 hz
  have h0 := h (by omega) (by omega)
  simp only [leK, decide_eq_true_eq] at h0 ⊢
  rcases Nat.lt_or_ge p (k - 1) with hlt | hge
  · have := List.pairwise_iff_getElem.1 hs p (k - 1) (by omega) (by omega) hlt
    simp only [leK, decide_eq_true_eq] at this
    omega
  · obtain rfl : p = k - 1 := by omega
    exact h0
theorem below_drop {κ : Int → Int} {A : List Int} (hs : Sorted (leK κ) A) {y : Int} {k : Nat} (h : ∀ h : k < A.length, leK κ A[k] y = false) : ∀ z ∈ A.drop k, leK κ z y = false := by
  intro z hz
  obtain ⟨p, hp, rfl⟩ := List.getElem_of_mem hz
  simp only [List.length_drop] at hp
  rw [List.getElem_drop]
  have h0 := h (by omega)
  simp only [leK, decide_eq_false_iff_not] at h0 ⊢
  rcases Nat.eq_zero_or_pos p with rfl | hpos
  · simpa using h0
  · have := List.pairwise_iff_getElem.1 hs k (k + p) (by omega) (by omega) (by omega)
    simp only [leK, decide_eq_true_eq] at this
    omega
end Go.Vs.Ytjfleklkloohgaa.R
/- The walk of the library's stable sort, part 5: the merge in place, one alone behind. No conditions. -/
namespace Go.Vs.Ytjfleklkloohgaa.R
set_option linter.unusedSimpArgs false
set_option linter.unusedVariables false
open Go.Proofs Go.Vs.Fo Go.Vs.Ro
set_option maxRecDepth 100000
set_option maxHeartbeats 4000000
/-- One alone, into those ahead of it. -/
theorem symMerge_right {kf : Nat} {caps : List IV} {κ : Int → Int} {D : Int → Prop} (hcmp : CmpOk kf caps κ D) (v : Nat) (P A : List Int) (y : Int) (Q : List Int) (a m b : Nat) (ha : P.length = a) (hA : a + A.length = m) (hm' : m + 1 = b) (h2A : 2 ≤ A.length) (hy : D y) (hD : ∀ x ∈ A, D x) (hs : Sorted (leK κ) A) (hb : b < 1000) :
    FnM [] Try.prog k_slices_symMergeCmpFunc_int { args := [.own 1000 v, .val (.int .i64 a), .val (.int .i64 m), .val (.int .i64 b), .val (.fn kf caps)], objs := [(1000, .arr v 1 (is (P ++ (A ++ (y :: Q)))))], res := .val (.tuple []), objs' := [(1000, .arr v 1 (is (P ++ (List.merge A [y] (leK κ) ++ Q))))], ro' := [] } := by
  refine fnM_intro hm ok_slices_symMergeCmpFunc_int (by simp) rfl ?_
  have hwd : IntKind.i64.wrap ((m : Int) - (a : Int)) = (A.length : Int) := by rw [IntKind.wrap_i64]; omega
  have hwe : IntKind.i64.wrap ((b : Int) - (m : Int)) = 1 := by rw [IntKind.wrap_i64]; omega
  have hn1 : ¬ (A.length : Int) = 1 := by omega
  simp [c_slices_symMergeCmpFunc_int, r_slices_symMergeCmpFunc_int, hwd, hwe, hn1]
  refine loopW hm (fun z : Nat × Nat => ⟨[(14, .val (.int .i64 z.1)), (15, .val (.int .i64 z.2)), (0, .own 1000 v), (1, .val (.int .i64 a)), (2, .val (.int .i64 m)), (3, .val (.int .i64 b)), (4, .val (.fn kf caps))],
      [(1000, .arr v 1 (is (P ++ (A ++ (y :: Q)))))], [], 220, []⟩)
    (fun z => a ≤ z.1 ∧ z.1 ≤ z.2 ∧ z.2 ≤ m ∧ (∀ h : z.1 - 1 - a < A.length, a < z.1 → leK κ A[z.1 - 1 - a] y = true) ∧ (∀ h : z.2 - a < A.length, z.2 < m → leK κ A[z.2 - a] y = false)) (fun z => z.2 - z.1) (a, m) ⟨by simp, by simp; omega, by simp, by simp, by simp⟩ (by exact weak_drop rfl rfl (by simp [EnvLe, getE, look]) (by simp [ObLe, look]) (by simp [roOk])) (fun _ => rfl) ?_
  rintro ⟨i, j⟩ ⟨h1, h2, h3, h4, h5⟩
  simp only at h1 h2 h3 h4 h5
  simp
  refine brd (fun hi => ?_) (fun hi => ?_)
  · obtain ⟨q, hq⟩ : ∃ q, q = (i + j) / 2 := ⟨_, rfl⟩
    have hqb : q - a < A.length := by omega
    have hw : IntKind.i64.wrap ((IntKind.u64.wrap (IntKind.i64.wrap ((i : Int) + (j : Int)))).fdiv (2 ^ min 1 IntKind.u64.bits)) = (q : Int) := by
      have e1 : IntKind.i64.wrap ((i : Int) + (j : Int)) = ((i + j : Nat) : Int) := by rw [IntKind.wrap_i64]; omega
      rw [e1, show (2 ^ min 1 IntKind.u64.bits : Int) = 2 by decide, half _ (by omega), hq]
    have hwq : IntKind.i64.wrap ((q : Int) + 1) = ((q + 1 : Nat) : Int) := by rw [IntKind.wrap_i64]; omega
    obtain ⟨x, hx⟩ : ∃ x, x = A[q - a] := ⟨_, rfl⟩
    have hxD : D x := by rw [hx]; exact hD _ (List.getElem_mem hqb)
    have hAs : A = A.take (q - a) ++ x :: A.drop (q - a + 1) := by
      conv => lhs; rw [← List.take_append_drop (q - a) A, List.drop_eq_getElem_cons hqb]
      rw [hx]
    obtain ⟨R, hR⟩ : ∃ R, R = is (P ++ (A ++ (y :: Q))) := ⟨_, rfl⟩
    have hR1 : R = is (P ++ A) ++ [.int .i64 y] :: is Q := by rw [hR]; simp [is]
    have hR2 : R = is (P ++ A.take (q - a)) ++ [.int .i64 x] :: is (A.drop (q - a + 1) ++ (y :: Q)) := by
      rw [hR]; conv => lhs; rw [hAs]
      simp [is]
    obtain ⟨k0, k1⟩ := List.getElem?_eq_some_iff.1 (mid_get hR1 (i := m) (by simp; omega))
    obtain ⟨k2, k3⟩ := List.getElem?_eq_some_iff.1 (mid_get hR2 (i := q) (by simp; omega))
    simp only [← hR]
    simp [hw, k0, k1, k2, k3]
    refine callW_imm (hcmp y x hy hxD) ?_
    simp
    refine ⟨rfl, ?_⟩
    refine brd (fun hc => ?_) (fun hc => ?_)
    · have hf : leK κ x y = false := by simp only [leK, decide_eq_false_iff_not]; omega
      simp
      refine loopEnd (i, q) ⟨h1, by simp; omega, by simp; omega, h4, fun h _ => ?_⟩ (by simp; omega) ?_
      · simp only [← hx]; exact hf
      · simp only [← hR]
        exact weak_drop rfl rfl (by simp [EnvLe, getE, look]) (by simp [ObLe, look]) (by simp [roOk])
    · have hf : leK κ x y = true := by simp only [leK, decide_eq_true_eq]; omega
      simp [hwq]
      refine loopEnd (q + 1, j) ⟨by simp; omega, by simp; omega, h3, fun h _ => ?_, h5⟩ (by simp; omega) ?_
      · have e : q + 1 - 1 - a = q - a := by omega
        simp only [e, ← hx]; exact hf
      · simp only [← hR]
        exact weak_drop rfl rfl (by simp [EnvLe, getE, look]) (by simp [ObLe, look]) (by simp [roOk])
  · obtain rfl : i = j := by omega
    have hlo := above_take hs (y := y) (k := i - a) (by omega) (fun h hpos => by
      have := h4 (by omega) (by omega)
      have e : i - 1 - a = i - a - 1 := by omega
      simp only [e] at this; exact this)
    have hhi := below_drop hs (y := y) (k := i - a) (fun h => h5 h (by omega))
    have hmer : List.merge A [y] (leK κ) = A.take (i - a) ++ y :: A.drop (i - a) := by
      conv => lhs; rw [← List.take_append_drop (i - a) A]
      exact merge_one_right hlo hhi
    obtain ⟨A1, hA1⟩ : ∃ A1, A1 = A.take (i - a) := ⟨_, rfl⟩
    obtain ⟨A2, hA2⟩ : ∃ A2, A2 = A.drop (i - a) := ⟨_, rfl⟩
    have hAA : A = A1 ++ A2 := by rw [hA1, hA2, List.take_append_drop]
    have hA1l : A1.length = i - a := by rw [hA1, List.length_take]; omega
    have hA2l : A1.length + A2.length = A.length := by rw [hAA]; simp
    rw [← hA1, ← hA2] at hmer
    simp
    refine loopW hm (fun t : Nat => ⟨[(17, .val (.int .i64 ((i : Int) + (t : Int)))), (14, .val (.int .i64 i)), (0, .own 1000 v)],
        [(1000, .arr v 1 (is (P ++ (A1 ++ (A2.take t ++ (y :: (A2.drop t ++ Q)))))))], [], 220, []⟩)
      (fun t => t ≤ A2.length) (fun t => t) A2.length (by omega) ?_ (fun _ => rfl) ?_
    · have e : A ++ (y :: Q) = A1 ++ (A2.take A2.length ++ (y :: (A2.drop A2.length ++ Q))) := by rw [hAA]; simp
      have e2 : (m : Int) = (i : Int) + (A2.length : Int) := by omega
      simp only [e, e2]
      exact weak_drop rfl rfl (by simp [EnvLe, getE, look]) (by simp [ObLe, look]) (by simp [roOk])
    rintro t ht
    simp
    refine brd (fun hi2 => ?_) (fun hi2 => ?_)
    · obtain ⟨s, rfl⟩ : ∃ s, t = s + 1 := ⟨t - 1, by omega⟩
      have hsl : s < A2.length := by omega
      obtain ⟨x, hx⟩ : ∃ x, x = A2[s] := ⟨_, rfl⟩
      have hdr : A2.drop s = x :: A2.drop (s + 1) := by rw [hx]; exact List.drop_eq_getElem_cons hsl
      have htk : A2.take (s + 1) = A2.take s ++ [x] := by rw [hx]; exact List.take_succ_eq_append_getElem hsl
      obtain ⟨R, hR⟩ : ∃ R, R = is (P ++ (A1 ++ (A2.take (s + 1) ++ (y :: (A2.drop (s + 1) ++ Q))))) := ⟨_, rfl⟩
      have hR2 : R = is (P ++ (A1 ++ A2.take s)) ++ [.int .i64 x] :: (is [] ++ [.int .i64 y] :: is (A2.drop (s + 1) ++ Q)) := by rw [hR, htk]; simp [is]
      obtain ⟨ai, hai⟩ : ∃ q, q = i + s := ⟨_, rfl⟩
      obtain ⟨bi, hbi⟩ : ∃ q, q = i + s + 1 := ⟨_, rfl⟩
      obtain ⟨k1, k2, k3, k4⟩ := mid_swap hR2 (i := ai) (j := bi) (by simp; omega) (by simp; omega)
      obtain ⟨k0, k1'⟩ := List.getElem?_eq_some_iff.1 k1
      obtain ⟨k5, k2'⟩ := List.getElem?_eq_some_iff.1 k2
      have hne : ¬ ai = bi := by omega
      have hne' : ¬ bi = ai := by omega
      have hj : (i : Int) + ((s + 1 : Nat) : Int) = (bi : Int) := by omega
      have hwj : IntKind.i64.wrap ((bi : Int) - 1) = (ai : Int) := by rw [IntKind.wrap_i64]; omega
      have kset : (R.set bi [.int .i64 x]).set ai [.int .i64 y] = is (P ++ (A1 ++ A2.take s)) ++ [.int .i64 y] :: (is [] ++ [.int .i64 x] :: is (A2.drop (s + 1) ++ Q)) := by rw [List.set_comm _ _ (by omega)]; exact k4
      simp only [← hR, hj]
      simp [k0, k5, k1', k2', hne, hne', hwj, List.getElem_set]
      refine loopEnd s (by omega) (by omega) ?_
      have e : is (P ++ (A1 ++ (A2.take s ++ (y :: (A2.drop s ++ Q))))) = (R.set bi [.int .i64 x]).set ai [.int .i64 y] := by rw [kset, hdr]; simp [is]
      have hai' : (i : Int) + (s : Int) = (ai : Int) := by omega
      simp only [e, hai']
      exact weak_drop rfl rfl (by simp [EnvLe, getE, look]) (by simp [ObLe, look]) (by simp [roOk])
    · obtain rfl : t = 0 := by omega
      simp [fnPostM, hmer]
      exact ⟨_, Weak.refl _, by simp, [], rfl, rfl, rfl⟩
end Go.Vs.Ytjfleklkloohgaa.R
/- The walk of the library's stable sort, part 6: the merge in place, of any two. No conditions. -/
namespace Go.Vs.Ytjfleklkloohgaa.R
set_option linter.unusedSimpArgs false
set_option linter.unusedVariables false
open Go.Proofs Go.Vs.Fo Go.Vs.Ro
set_option maxRecDepth 100000
set_option maxHeartbeats 4000000
theorem gd {B : List Int} {i : Nat} (h : i < B.length) : B.getD i 0 = B[i] := by simp [List.getD, h]
theorem srt_le {κ : Int → Int} {B : List Int} (hs : Sorted (leK κ) B) {i j : Nat} (hij : i ≤ j) (hj : j < B.length) : leK κ (B.getD i 0) (B.getD j 0) = true := by
  rw [gd (by omega), gd hj]
  rcases Nat.lt_or_ge i j with h | h
  · exact List.pairwise_iff_getElem.1 hs i j (by omega) hj h
  · obtain rfl : i = j := by omega
    simp [leK]
/-- What a search leaves parts both. -/
theorem part_merge {κ : Int → Int} {A B : List Int} (hA : Sorted (leK κ) A) (hB : Sorted (leK κ) B) {i j : Nat} (hi : i ≤ A.length) (hj : j ≤ B.length)
    (h1 : 0 < i → j < B.length → leK κ (A.getD (i - 1) 0) (B.getD j 0) = true) (h2 : i < A.length → 0 < j → leK κ (A.getD i 0) (B.getD (j - 1) 0) = false) :
    List.merge A B (leK κ) = List.merge (A.take i) (B.take j) (leK κ) ++ List.merge (A.drop i) (B.drop j) (leK κ) := by
  conv => lhs; rw [← List.take_append_drop i A, ← List.take_append_drop j B]
  refine merge_split (fun x hx y hy => ?_) (fun x hx y hy => ?_)
  · obtain ⟨p, hp, rfl⟩ := List.mem_take_iff_getElem.1 hx
    obtain ⟨q, hq, rfl⟩ := List.getElem_of_mem hy
    simp only [List.length_drop] at hq
    rw [List.getElem_drop]
    have e1 := srt_le hA (i := p) (j := i - 1) (by omega) (by omega)
    have e2 := srt_le hB (i := j) (j := j + q) (by omega) (by omega)
    have e3 := h1 (by omega) (by omega)
    rw [gd (by omega)] at e1
    rw [gd (by omega : j + q < B.length)] at e2
    exact leK_tr _ _ _ _ (leK_tr _ _ _ _ e1 e3) e2
  · obtain ⟨q, hq, rfl⟩ := List.mem_take_iff_getElem.1 hy
    obtain ⟨p, hp, rfl⟩ := List.getElem_of_mem hx
    simp only [List.length_drop] at hp
    rw [List.getElem_drop]
    have e1 := srt_le hA (i := i) (j := i + p) (by omega) (by omega)
    have e2 := srt_le hB (i := q) (j := j - 1) (by omega) (by omega)
    have e3 := h2 (by omega) (by omega)
    rw [gd (by omega : i + p < A.length)] at e1
    rw [gd (by omega)] at e2
    simp only [leK, decide_eq_true_eq, decide_eq_false_iff_not] at e1 e2 e3 ⊢
    omega
theorem isq_get {P A : List Int} {a i : Nat} (ha : P.length = a) (h0 : a ≤ i) (h1 : i - a < A.length) (Q : List Int) : (is (P ++ (A ++ Q)))[i]? = some [.int .i64 (A.getD (i - a) 0)] := by
  subst ha
  rw [is_append, List.getElem?_append_right (by simp [is]; omega), is_append, List.getElem?_append_left (by simp [is]; omega)]
  simp [is, h1]
/-- What is known below a place, and above it. -/
def smL (κ : Int → Int) (A B : List Int) (a m b n s : Nat) : Prop := a < s → n - s < b → leK κ (A.getD (s - 1 - a) 0) (B.getD (n - s - m) 0) = true
def smR (κ : Int → Int) (A B : List Int) (a m n r : Nat) : Prop := r < m → m < n - r → leK κ (A.getD (r - a) 0) (B.getD (n - 1 - r - m) 0) = false
def SmOk (kf : Nat) (caps : List IV) (κ : Int → Int) (D : Int → Prop) (v N : Nat) : Prop := ∀ (P A B Q : List Int) (a m b : Nat), A.length + B.length = N → P.length = a → a + A.length = m → m + B.length = b → A ≠ [] → B ≠ [] → (∀ x ∈ A, D x) → (∀ x ∈ B, D x) → Sorted (leK κ) A → Sorted (leK κ) B → b < 1000 →
    FnM [] Try.prog k_slices_symMergeCmpFunc_int { args := [.own 1000 v, .val (.int .i64 a), .val (.int .i64 m), .val (.int .i64 b), .val (.fn kf caps)], objs := [(1000, .arr v 1 (is (P ++ (A ++ (B ++ Q)))))], res := .val (.tuple []), objs' := [(1000, .arr v 1 (is (P ++ (List.merge A B (leK κ) ++ Q))))], ro' := [] }
theorem sm_tail {kf : Nat} {caps : List IV} {κ : Int → Int} {D : Int → Prop} (v : Nat) (P A B Q : List Int) (a m b mid s e : Nat) (ih : ∀ N' < A.length + B.length, SmOk kf caps κ D v N') (ha : P.length = a) (hA : a + A.length = m) (hB : m + B.length = b)
    (dA : ∀ x ∈ A, D x) (dB : ∀ x ∈ B, D x) (sA : Sorted (leK κ) A) (sB : Sorted (leK κ) B) (hb : b < 1000) (h1 : a ≤ s) (h2 : s ≤ m) (h3 : s ≤ mid) (h4 : e ≤ b) (hee : e + s = mid + m) (hab : a < mid) (hmb : mid < b) (hl : smL κ A B a m b (mid + m) s) (hr : smR κ A B a m (mid + m) s) :
    ∃ X1 X2 : List Int, (s < m → m < e → FnM [] Try.prog k_slices_rotateCmpFunc_int { args := [.own 1000 v, .val (.int .i64 s), .val (.int .i64 m), .val (.int .i64 e), .val (.fn kf caps)], objs := [(1000, .arr v 1 (is (P ++ (A ++ (B ++ Q)))))], res := .val (.tuple []), objs' := [(1000, .arr v 1 (is X1))], ro' := [] }) ∧ (¬ (s < m ∧ m < e) → P ++ (A ++ (B ++ Q)) = X1) ∧
      (a < s → s < mid → FnM [] Try.prog k_slices_symMergeCmpFunc_int { args := [.own 1000 v, .val (.int .i64 a), .val (.int .i64 s), .val (.int .i64 mid), .val (.fn kf caps)], objs := [(1000, .arr v 1 (is X1))], res := .val (.tuple []), objs' := [(1000, .arr v 1 (is X2))], ro' := [] }) ∧ (¬ (a < s ∧ s < mid) → X1 = X2) ∧
      (mid < e → e < b → FnM [] Try.prog k_slices_symMergeCmpFunc_int { args := [.own 1000 v, .val (.int .i64 mid), .val (.int .i64 e), .val (.int .i64 b), .val (.fn kf caps)], objs := [(1000, .arr v 1 (is X2))], res := .val (.tuple []), objs' := [(1000, .arr v 1 (is (P ++ (List.merge A B (leK κ) ++ Q))))], ro' := [] }) ∧ (¬ (mid < e ∧ e < b) → X2 = P ++ (List.merge A B (leK κ) ++ Q)) := by
  have hme : m ≤ e := by omega
  have hmer := part_merge sA sB (i := s - a) (j := e - m) (by omega) (by omega)
    (fun _ _ => by
      have := hl (by omega) (by omega)
      have e1 : s - 1 - a = s - a - 1 := by omega
      have e2 : mid + m - s - m = e - m := by omega
      simp only [e1, e2] at this; exact this)
    (fun _ _ => by
      have := hr (by omega) (by omega)
      have e2 : mid + m - 1 - s - m = e - m - 1 := by omega
      simp only [e2] at this; exact this)
  clear hl hr
  obtain ⟨A1, hA1e⟩ : ∃ q, q = A.take (s - a) := ⟨_, rfl⟩
  obtain ⟨A2, hA2e⟩ : ∃ q, q = A.drop (s - a) := ⟨_, rfl⟩
  obtain ⟨B1, hB1e⟩ : ∃ q, q = B.take (e - m) := ⟨_, rfl⟩
  obtain ⟨B2, hB2e⟩ : ∃ q, q = B.drop (e - m) := ⟨_, rfl⟩
  have eA : A = A1 ++ A2 := by rw [hA1e, hA2e, List.take_append_drop]
  have eB : B = B1 ++ B2 := by rw [hB1e, hB2e, List.take_append_drop]
  have lA1 : a + A1.length = s := by rw [hA1e, List.length_take]; omega
  have lB1 : m + B1.length = e := by rw [hB1e, List.length_take]; omega
  have lA2 : s + A2.length = m := by rw [hA2e, List.length_drop]; omega
  have lB2 : e + B2.length = b := by rw [hB2e, List.length_drop]; omega
  rw [← hA1e, ← hA2e, ← hB1e, ← hB2e] at hmer
  have sA1 : Sorted (leK κ) A1 := by rw [hA1e]; exact List.Pairwise.sublist (List.take_sublist _ _) sA
  have sA2 : Sorted (leK κ) A2 := by rw [hA2e]; exact List.Pairwise.sublist (List.drop_sublist _ _) sA
  have sB1 : Sorted (leK κ) B1 := by rw [hB1e]; exact List.Pairwise.sublist (List.take_sublist _ _) sB
  have sB2 : Sorted (leK κ) B2 := by rw [hB2e]; exact List.Pairwise.sublist (List.drop_sublist _ _) sB
  have dA1 : ∀ x ∈ A1, D x := fun x hx => dA x (by rw [eA]; simp [hx])
  have dA2 : ∀ x ∈ A2, D x := fun x hx => dA x (by rw [eA]; simp [hx])
  have dB1 : ∀ x ∈ B1, D x := fun x hx => dB x (by rw [eB]; simp [hx])
  have dB2 : ∀ x ∈ B2, D x := fun x hx => dB x (by rw [eB]; simp [hx])
  have hN1 : A.length = A1.length + A2.length := by rw [eA]; simp
  have hN2 : B.length = B1.length + B2.length := by rw [eB]; simp
  obtain ⟨M1, hM1⟩ : ∃ q, q = List.merge A1 B1 (leK κ) := ⟨_, rfl⟩
  obtain ⟨M2, hM2⟩ : ∃ q, q = List.merge A2 B2 (leK κ) := ⟨_, rfl⟩
  have lM1 : a + M1.length = mid := by rw [hM1, (merge_perm _ _).length_eq, List.length_append]; omega
  rw [hmer, ← hM1, ← hM2]
  have eR : P ++ (A ++ (B ++ Q)) = P ++ (A1 ++ (A2 ++ (B1 ++ (B2 ++ Q)))) := by rw [eA, eB]; simp
  rw [eR]
  refine ⟨P ++ (A1 ++ (B1 ++ (A2 ++ (B2 ++ Q)))), P ++ (M1 ++ (A2 ++ (B2 ++ Q))), fun g1 g2 => ?_, fun g => ?_, fun g1 g2 => ?_, fun g => ?_, fun g1 g2 => ?_, fun g => ?_⟩
  · have := fnM_rotate v (P ++ A1) A2 B1 (B2 ++ Q) s m e (.fn kf caps) (by simp; omega) (by omega) (by omega) (List.length_pos_iff.1 (by omega)) (List.length_pos_iff.1 (by omega)) (by omega)
    simpa using this
  · rcases Nat.lt_or_ge s m with h' | h'
    · obtain rfl : B1 = [] := List.length_eq_zero_iff.1 (by omega)
      simp
    · obtain rfl : A2 = [] := List.length_eq_zero_iff.1 (by omega)
      simp
  · rw [hM1]
    exact ih (A1.length + B1.length) (by omega) P A1 B1 (A2 ++ (B2 ++ Q)) a s mid rfl ha (by omega) (by omega) (List.length_pos_iff.1 (by omega)) (List.length_pos_iff.1 (by omega)) dA1 dB1 sA1 sB1 (by omega)
  · rcases Nat.lt_or_ge a s with h' | h'
    · have h0 : B1 = [] := List.length_eq_zero_iff.1 (by omega)
      rw [hM1, h0]; simp
    · have h0 : A1 = [] := List.length_eq_zero_iff.1 (by omega)
      rw [hM1, h0]; simp
  · have := ih (A2.length + B2.length) (by omega) (P ++ M1) A2 B2 Q mid e b rfl (by simp; omega) (by omega) (by omega) (List.length_pos_iff.1 (by omega)) (List.length_pos_iff.1 (by omega)) dA2 dB2 sA2 sB2 (by omega)
    rw [← hM2] at this
    simpa using this
  · rcases Nat.lt_or_ge mid e with h' | h'
    · have h0 : B2 = [] := List.length_eq_zero_iff.1 (by omega)
      rw [hM2, h0]; simp
    · have h0 : A2 = [] := List.length_eq_zero_iff.1 (by omega)
      rw [hM2, h0]; simp
/-- What a search's end, and the next calls, leave. -/
theorem symMerge_go {kf : Nat} {caps : List IV} {κ : Int → Int} {D : Int → Prop} (hcmp : CmpOk kf caps κ D) (v : Nat) (P A B Q : List Int) (a m b : Nat) (ih : ∀ N' < A.length + B.length, SmOk kf caps κ D v N') (ha : P.length = a) (hA : a + A.length = m) (hB : m + B.length = b) (pA : 2 ≤ A.length) (pB : 2 ≤ B.length)
    (dA : ∀ x ∈ A, D x) (dB : ∀ x ∈ B, D x) (sA : Sorted (leK κ) A) (sB : Sorted (leK κ) B) (hb : b < 1000) :
    FnM [] Try.prog k_slices_symMergeCmpFunc_int { args := [.own 1000 v, .val (.int .i64 a), .val (.int .i64 m), .val (.int .i64 b), .val (.fn kf caps)], objs := [(1000, .arr v 1 (is (P ++ (A ++ (B ++ Q)))))], res := .val (.tuple []), objs' := [(1000, .arr v 1 (is (P ++ (List.merge A B (leK κ) ++ Q))))], ro' := [] } := by
  refine fnM_intro hm ok_slices_symMergeCmpFunc_int (by simp) rfl ?_
  obtain ⟨mid, hmid⟩ : ∃ q, q = (a + b) / 2 := ⟨_, rfl⟩
  obtain ⟨n, hn⟩ : ∃ q, q = mid + m := ⟨_, rfl⟩
  obtain ⟨pp, hpp⟩ : ∃ q, q + 1 = n := ⟨n - 1, by omega⟩
  have hab : a < mid := by omega
  have hmb : mid < b := by omega
  obtain ⟨X0, hX0⟩ : ∃ q, q = P ++ (A ++ (B ++ Q)) := ⟨_, rfl⟩
  have gA : ∀ q, a ≤ q → q < m → (is X0)[q]? = some [.int .i64 (A.getD (q - a) 0)] := fun q h1 h2 => by rw [hX0]; exact isq_get ha h1 (by omega) _
  have gB : ∀ q, m ≤ q → q < b → (is X0)[q]? = some [.int .i64 (B.getD (q - m) 0)] := fun q h1 h2 => by
    rw [hX0, ← List.append_assoc]; exact isq_get (by simp; omega) h1 (by omega) _
  have hDA : ∀ q, a ≤ q → q < m → D (A.getD (q - a) 0) := fun q h1 h2 => by rw [gd (by omega)]; exact dA _ (List.getElem_mem _)
  have hDB : ∀ q, m ≤ q → q < b → D (B.getD (q - m) 0) := fun q h1 h2 => by rw [gd (by omega)]; exact dB _ (List.getElem_mem _)
  have tl := fun s e => sm_tail v P A B Q a m b mid s e ih ha hA hB dA dB sA sB hb
  rw [← hX0] at tl ⊢
  obtain ⟨X3, hX3⟩ : ∃ q, q = P ++ (List.merge A B (leK κ) ++ Q) := ⟨_, rfl⟩
  rw [← hX3] at tl ⊢
  clear hX0 hX3 ih dA dB sA sB
  have hwd : IntKind.i64.wrap ((m : Int) - (a : Int)) = (A.length : Int) := by rw [IntKind.wrap_i64]; omega
  have hwe : IntKind.i64.wrap ((b : Int) - (m : Int)) = (B.length : Int) := by rw [IntKind.wrap_i64]; omega
  have hn1 : ¬ (A.length : Int) = 1 := by omega
  have hn2 : ¬ (B.length : Int) = 1 := by omega
  have hwm : IntKind.i64.wrap ((IntKind.u64.wrap (IntKind.i64.wrap ((a : Int) + (b : Int)))).fdiv (2 ^ min 1 IntKind.u64.bits)) = (mid : Int) := by
    have e1 : IntKind.i64.wrap ((a : Int) + (b : Int)) = ((a + b : Nat) : Int) := by rw [IntKind.wrap_i64]; omega
    rw [e1, show (2 ^ min 1 IntKind.u64.bits : Int) = 2 by decide, half _ (by omega), hmid]
  have hwn : IntKind.i64.wrap ((mid : Int) + (m : Int)) = (n : Int) := by rw [IntKind.wrap_i64]; omega
  have hwp : IntKind.i64.wrap ((n : Int) - 1) = (pp : Int) := by rw [IntKind.wrap_i64]; omega
  have sml0 : ∀ s, s = a ∨ s + b = mid + m → smL κ A B a m b (mid + m) s := fun s h h1 h2 => by omega
  have smr0 : ∀ s, s = m ∨ s = mid → smR κ A B a m (mid + m) s := fun s h h1 h2 => by omega
  simp [c_slices_symMergeCmpFunc_int, r_slices_symMergeCmpFunc_int, hwd, hwe, hn1, hn2, hwm, hwn]
  clear hwd hwe hwm hwn hn1 hn2
  refine brd (fun hi => ?_) (fun hi => ?_)
  case' refine_1 =>
    obtain ⟨s0, hs0⟩ : ∃ q, q + b = n := ⟨n - b, by omega⟩
    have hws : IntKind.i64.wrap ((n : Int) - (b : Int)) = (s0 : Int) := by rw [IntKind.wrap_i64]; omega
    simp [hws, hwp]
    clear hws hwp
    refine loopW hm (fun z : Nat × Nat => ⟨[(20, .val (.int .i64 z.1)), (21, .val (.int .i64 z.2)), (22, .val (.int .i64 pp)), (19, .val (.int .i64 n)), (18, .val (.int .i64 mid)), (0, .own 1000 v), (1, .val (.int .i64 a)), (2, .val (.int .i64 m)), (3, .val (.int .i64 b)), (4, .val (.fn kf caps))],
        [(1000, .arr v 1 (is X0))], [], 220, []⟩)
      (fun z => a ≤ z.1 ∧ z.1 ≤ z.2 ∧ z.2 ≤ m ∧ z.2 ≤ mid ∧ mid + m ≤ b + z.1 ∧ smL κ A B a m b (mid + m) z.1 ∧ smR κ A B a m (mid + m) z.2) (fun z => z.2 - z.1) (s0, mid)
      ⟨by simp only; omega, by simp only; omega, by simp only; omega, by simp only; omega, by simp only; omega, sml0 _ (by omega), smr0 _ (by omega)⟩ (by exact weak_drop rfl rfl (by simp [EnvLe, getE, look]) (by simp [ObLe, look]) (by simp [roOk])) (fun _ => rfl) ?_
    clear hs0 sml0 smr0 s0
  case' refine_2 =>
    simp [hwp]
    clear hwp
    refine loopW hm (fun z : Nat × Nat => ⟨[(20, .val (.int .i64 z.1)), (21, .val (.int .i64 z.2)), (22, .val (.int .i64 pp)), (19, .val (.int .i64 n)), (18, .val (.int .i64 mid)), (0, .own 1000 v), (1, .val (.int .i64 a)), (2, .val (.int .i64 m)), (3, .val (.int .i64 b)), (4, .val (.fn kf caps))],
        [(1000, .arr v 1 (is X0))], [], 220, []⟩)
      (fun z => a ≤ z.1 ∧ z.1 ≤ z.2 ∧ z.2 ≤ m ∧ z.2 ≤ mid ∧ mid + m ≤ b + z.1 ∧ smL κ A B a m b (mid + m) z.1 ∧ smR κ A B a m (mid + m) z.2) (fun z => z.2 - z.1) (a, m)
      ⟨by simp only; omega, by simp only; omega, by simp only; omega, by simp only; omega, by simp only; omega, sml0 _ (by omega), smr0 _ (by omega)⟩ (by exact weak_drop rfl rfl (by simp [EnvLe, getE, look]) (by simp [ObLe, look]) (by simp [roOk])) (fun _ => rfl) ?_
    clear sml0 smr0
  all_goals
    clear hi
    rintro ⟨s, r⟩ ⟨h1, h2, h3, h4, h5, h6, h7⟩
    simp only at h1 h2 h3 h4 h5 h6 h7
    simp
    refine brd (fun hlt => ?_) (fun hlt => ?_)
    · obtain ⟨q, hq⟩ : ∃ q, q = (s + r) / 2 := ⟨_, rfl⟩
      have hw : IntKind.i64.wrap ((IntKind.u64.wrap (IntKind.i64.wrap ((s : Int) + (r : Int)))).fdiv (2 ^ min 1 IntKind.u64.bits)) = (q : Int) := by
        have e1 : IntKind.i64.wrap ((s : Int) + (r : Int)) = ((s + r : Nat) : Int) := by rw [IntKind.wrap_i64]; omega
        rw [e1, show (2 ^ min 1 IntKind.u64.bits : Int) = 2 by decide, half _ (by omega), hq]
      have hwq : IntKind.i64.wrap ((q : Int) + 1) = ((q + 1 : Nat) : Int) := by rw [IntKind.wrap_i64]; omega
      have hq1 : s ≤ q := by omega
      have hq2 : q < r := by omega
      clear hq
      obtain ⟨pc, hpc⟩ : ∃ pc, pc + q = pp := ⟨pp - q, by omega⟩
      have hwpc : IntKind.i64.wrap ((pp : Int) - (q : Int)) = (pc : Int) := by rw [IntKind.wrap_i64]; omega
      have hc1 : m ≤ pc := by omega
      have hc2 : pc < b := by omega
      have hR1 := gA q (by omega) (by omega)
      have hR2 := gB pc hc1 hc2
      have hxD := hDA q (by omega) (by omega)
      have hyD := hDB pc hc1 hc2
      obtain ⟨x, hx⟩ : ∃ x, x = A.getD (q - a) 0 := ⟨_, rfl⟩
      obtain ⟨y, hy⟩ : ∃ y, y = B.getD (pc - m) 0 := ⟨_, rfl⟩
      rw [← hx] at hR1 hxD
      rw [← hy] at hR2 hyD
      obtain ⟨R, hR⟩ : ∃ R, R = is X0 := ⟨_, rfl⟩
      rw [← hR] at hR1 hR2
      obtain ⟨k0, k1⟩ := List.getElem?_eq_some_iff.1 hR1
      obtain ⟨k2, k3⟩ := List.getElem?_eq_some_iff.1 hR2
      simp only [← hR]
      simp [hw, hwpc, k0, k1, k2, k3]
      refine callW_imm (hcmp y x hyD hxD) ?_
      simp
      refine ⟨rfl, ?_⟩
      refine brd (fun hc => ?_) (fun hc => ?_)
      · have hf : leK κ x y = false := by simp only [leK, decide_eq_false_iff_not]; omega
        simp
        refine loopEnd (s, q) ⟨h1, hq1, by simp only; omega, by simp only; omega, h5, h6, fun _ _ => ?_⟩ (by simp only; omega) ?_
        · have e2 : mid + m - 1 - q - m = pc - m := by omega
          simp only [e2, ← hx, ← hy]; exact hf
        · simp only [← hR]
          exact weak_drop rfl rfl (by simp [EnvLe, getE, look]) (by simp [ObLe, look]) (by simp [roOk])
      · have hf : leK κ x y = true := by simp only [leK, decide_eq_true_eq]; omega
        simp [hwq]
        refine loopEnd (q + 1, r) ⟨by simp only; omega, by simp only; omega, h3, h4, by simp only; omega, fun _ _ => ?_, h7⟩ (by simp only; omega) ?_
        · have e1 : q + 1 - 1 - a = q - a := by omega
          have e2 : mid + m - (q + 1) - m = pc - m := by omega
          simp only [e1, e2, ← hx, ← hy]; exact hf
        · simp only [← hR]
          exact weak_drop rfl rfl (by simp [EnvLe, getE, look]) (by simp [ObLe, look]) (by simp [roOk])
    · obtain rfl : s = r := by omega
      clear gA gB hDA hDB hcmp h2
      obtain ⟨e, he⟩ : ∃ e, e + s = mid + m := ⟨mid + m - s, by omega⟩
      have hwe : IntKind.i64.wrap ((n : Int) - (s : Int)) = (e : Int) := by rw [IntKind.wrap_i64]; omega
      obtain ⟨X1, X2, c1, c2, c3, c4, c5, c6⟩ := tl s e h1 h3 h4 (by omega) he hab hmb h6 h7
      clear tl h6 h7
      simp [hwe]
      refine brd (fun g1 => ?_) (fun g1 => ?_)
      rotate_left 1
      have z := c2 (fun h => g1 h.1)
      rw [← z] at c3 c4; clear z
      simp
      rotate_left 1
      simp
      refine brd (fun g2 => ?_) (fun g2 => ?_)
      rotate_left 1
      have z := c2 (fun h => g2 h.2)
      rw [← z] at c3 c4; clear z
      simp
      rotate_left 2
      simp
      refine callM [(1000, 1000)] [] (c1 g1 g2) rfl rfl (by simp [mObjs, Vs.ren, look, Ob.ren]) (by simp [mArgs, Vs.ren, look, SV.ren]) rfl ?_
      simp
      skip
      all_goals
        clear c1 c2
        refine brd (fun k1 => ?_) (fun k1 => ?_)
        rotate_left 1
        have z := c4 (fun h => k1 h.1)
        rw [← z] at c5 c6; clear z
        simp
        rotate_left 1
        simp
        refine brd (fun k2 => ?_) (fun k2 => ?_)
        rotate_left 1
        have z := c4 (fun h => k2 h.2)
        rw [← z] at c5 c6; clear z
        simp
        rotate_left 2
        simp
        refine callM [(1000, 1000)] [] (c3 k1 k2) rfl rfl (by simp [mObjs, Vs.ren, look, Ob.ren]) (by simp [mArgs, Vs.ren, look, SV.ren]) rfl ?_
        simp
        skip
        all_goals
          clear c3 c4
          refine brd (fun l1 => ?_) (fun l1 => ?_)
          rotate_left 1
          have z := c6 (fun h => l1 h.1)
          rw [← z]; clear z
          simp
          rotate_left 1
          simp
          refine brd (fun l2 => ?_) (fun l2 => ?_)
          rotate_left 1
          have z := c6 (fun h => l2 h.2)
          rw [← z]; clear z
          simp
          rotate_left 2
          simp
          refine callM [(1000, 1000)] [] (c5 l1 l2) rfl rfl (by simp [mObjs, Vs.ren, look, Ob.ren]) (by simp [mArgs, Vs.ren, look, SV.ren]) rfl ?_
          simp
          skip
          all_goals simp [fnPostM]
          all_goals exact ⟨⟨[], [(1000, .arr v 1 _)], [], 220, []⟩, (by exact weak_drop rfl rfl (by simp [EnvLe, getE, look]) (by simp [ObLe, look]) (by simp [roOk])), rfl, [], rfl, rfl, rfl⟩
/-- The merge in place is a stable merge. -/
theorem symMerge {kf : Nat} {caps : List IV} {κ : Int → Int} {D : Int → Prop} (hcmp : CmpOk kf caps κ D) (v : Nat) : ∀ N, SmOk kf caps κ D v N := by
  intro N
  induction N using Nat.strongRecOn with
  | ind N ih =>
  intro P A B Q a m b hN ha hA hB nA nB dA dB sA sB hb
  have pA : 0 < A.length := List.length_pos_iff.2 nA
  have pB : 0 < B.length := List.length_pos_iff.2 nB
  by_cases hA1 : A.length = 1
  · obtain ⟨x, rfl⟩ := List.length_eq_one_iff.1 hA1
    exact symMerge_left hcmp v P x B Q a m b ha (by simpa using hA) hB (dA x (by simp)) dB sB hb
  by_cases hB1 : B.length = 1
  · obtain ⟨y, rfl⟩ := List.length_eq_one_iff.1 hB1
    exact symMerge_right hcmp v P A y Q a m b ha hA (by simpa using hB) (by omega) (dB y (by simp)) dA sA hb
  subst hN
  exact symMerge_go hcmp v P A B Q a m b ih ha hA hB (by omega) (by omega) dA dB sA sB hb
end Go.Vs.Ytjfleklkloohgaa.R
/- The walk of the library's stable sort, part 7: up to twenty-six. No conditions. -/
namespace Go.Vs.Ytjfleklkloohgaa.R
set_option linter.unusedSimpArgs false
set_option linter.unusedVariables false
open Go.Proofs Go.Vs.Fo Go.Vs.Ro
set_option maxRecDepth 100000
set_option maxHeartbeats 4000000
/-- The sort of up to twenty-six. -/
def ssort (κ : Int → Int) (X : List Int) : List Int := List.merge (isort (leK κ) (X.take 20)) (isort (leK κ) (X.drop 20)) (leK κ)
theorem ssort_perm (κ : Int → Int) (X : List Int) : (ssort κ X).Perm X := by
  unfold ssort
  refine (merge_perm _ _).trans ?_
  have := ((isort_perm (le := leK κ) (X.take 20)).append (isort_perm (le := leK κ) (X.drop 20)))
  rwa [List.take_append_drop] at this
theorem ssort_sorted (κ : Int → Int) (X : List Int) : Sorted (leK κ) (ssort κ X) := merge_sorted (leK_tot κ) (leK_tr κ) (isort_sorted (leK_tot κ) (leK_tr κ) _) (isort_sorted (leK_tot κ) (leK_tr κ) _)
theorem w40 : IntKind.i64.wrap 40 = 40 := by decide
theorem w20 : IntKind.i64.wrap 20 = 20 := by decide
theorem isort_nil (κ : Int → Int) : isort (leK κ) [] = [] := rfl
theorem fnM_stable {kf : Nat} {caps : List IV} {κ : Int → Int} {D : Int → Prop} (hcmp : CmpOk kf caps κ D) (v : Nat) (X : List Int) (n : Nat) (hX : X.length = n) (hD : ∀ x ∈ X, D x) (hn : n ≤ 26) :
    FnM [] Try.prog k_slices_stableCmpFunc_int { args := [.own 1000 v, .val (.int .i64 n), .val (.fn kf caps)], objs := [(1000, .arr v 1 (is X))], res := .val (.tuple []), objs' := [(1000, .arr v 1 (is (ssort κ X)))], ro' := [] } := by
  refine fnM_intro hm ok_slices_stableCmpFunc_int (by simp) rfl ?_
  obtain ⟨A, hA⟩ : ∃ q, q = X.take 20 := ⟨_, rfl⟩
  obtain ⟨B, hB⟩ : ∃ q, q = X.drop 20 := ⟨_, rfl⟩
  have eX : X = A ++ B := by rw [hA, hB, List.take_append_drop]
  have lA : A.length = min 20 n := by rw [hA, List.length_take, hX]
  have lB : B.length = n - 20 := by rw [hB, List.length_drop, hX]
  have dA : ∀ x ∈ A, D x := fun x hx => hD x (by rw [eX]; simp [hx])
  have dB : ∀ x ∈ B, D x := fun x hx => hD x (by rw [eX]; simp [hx])
  have i1 : 20 ≤ n → FnM [] Try.prog k_slices_insertionSortCmpFunc_int { args := [.own 1000 v, .val (.int .i64 0), .val (.int .i64 20), .val (.fn kf caps)], objs := [(1000, .arr v 1 (is (A ++ B)))], res := .val (.tuple []), objs' := [(1000, .arr v 1 (is (isort (leK κ) A ++ B)))], ro' := [] } := fun h => by
    have := fnM_insertion hcmp v [] A B 0 20 rfl (by omega) dA (by omega)
    simpa using this
  have i2 : 20 ≤ n → FnM [] Try.prog k_slices_insertionSortCmpFunc_int { args := [.own 1000 v, .val (.int .i64 20), .val (.int .i64 n), .val (.fn kf caps)], objs := [(1000, .arr v 1 (is (isort (leK κ) A ++ B)))], res := .val (.tuple []), objs' := [(1000, .arr v 1 (is (isort (leK κ) A ++ isort (leK κ) B)))], ro' := [] } := fun h => by
    have := fnM_insertion hcmp v (isort (leK κ) A) B [] 20 n (by rw [(isort_perm _).length_eq]; omega) (by omega) dB (by omega)
    simpa using this
  have i3 : n < 20 → FnM [] Try.prog k_slices_insertionSortCmpFunc_int { args := [.own 1000 v, .val (.int .i64 0), .val (.int .i64 n), .val (.fn kf caps)], objs := [(1000, .arr v 1 (is (A ++ B)))], res := .val (.tuple []), objs' := [(1000, .arr v 1 (is (isort (leK κ) A ++ isort (leK κ) B)))], ro' := [] } := fun h => by
    obtain rfl : B = [] := List.length_eq_zero_iff.1 (by omega)
    have := fnM_insertion hcmp v [] A [] 0 n rfl (by omega) dA (by omega)
    simpa [isort_nil] using this
  have i4 : 20 < n → FnM [] Try.prog k_slices_symMergeCmpFunc_int { args := [.own 1000 v, .val (.int .i64 0), .val (.int .i64 20), .val (.int .i64 n), .val (.fn kf caps)], objs := [(1000, .arr v 1 (is (isort (leK κ) A ++ isort (leK κ) B)))], res := .val (.tuple []), objs' := [(1000, .arr v 1 (is (ssort κ X)))], ro' := [] } := fun h => by
    have l1 : (isort (leK κ) A).length = 20 := by rw [(isort_perm _).length_eq]; omega
    have l2 : (isort (leK κ) B).length = n - 20 := by rw [(isort_perm _).length_eq]; omega
    have := symMerge hcmp v _ [] (isort (leK κ) A) (isort (leK κ) B) [] 0 20 n rfl rfl (by omega) (by omega) (List.length_pos_iff.1 (by omega)) (List.length_pos_iff.1 (by omega)) (fun x hx => dA x ((isort_perm _).mem_iff.1 hx)) (fun x hx => dB x ((isort_perm _).mem_iff.1 hx)) (isort_sorted (leK_tot κ) (leK_tr κ) _) (isort_sorted (leK_tot κ) (leK_tr κ) _) (by omega)
    rw [ssort, ← hA, ← hB]
    simpa using this
  have z : n ≤ 20 → isort (leK κ) A ++ isort (leK κ) B = ssort κ X := fun h => by
    obtain rfl : B = [] := List.length_eq_zero_iff.1 (by omega)
    rw [ssort, ← hA, ← hB]
    simp [isort_nil]
  have eX' : is X = is (A ++ B) := by rw [eX]
  simp only [eX']
  obtain ⟨X0, hX0⟩ : ∃ q, q = A ++ B := ⟨_, rfl⟩
  rw [← hX0] at i1 i3 ⊢
  obtain ⟨X1, hX1⟩ : ∃ q, q = isort (leK κ) A ++ B := ⟨_, rfl⟩
  rw [← hX1] at i1 i2
  obtain ⟨X2, hX2⟩ : ∃ q, q = isort (leK κ) A ++ isort (leK κ) B := ⟨_, rfl⟩
  rw [← hX2] at i2 i3 i4 z
  obtain ⟨X3, hX3⟩ : ∃ q, q = ssort κ X := ⟨_, rfl⟩
  rw [← hX3] at i4 z ⊢
  clear eX eX' hX0 hX1 hX2 hX3 hA hB lA lB dA dB hcmp hD hX
  simp [c_slices_stableCmpFunc_int, r_slices_stableCmpFunc_int]
  refine loopW hm (fun t : Nat × List Int => ⟨[(7, .val (.int .i64 t.1)), (8, .val (.int .i64 (t.1 + 20 : Nat))), (6, .val (.int .i64 20)), (0, .own 1000 v), (1, .val (.int .i64 n)), (2, .val (.fn kf caps))],
      [(1000, .arr v 1 (is t.2))], [], 63, []⟩)
    (fun t => t = (0, X0) ∨ (20 ≤ n ∧ t = (20, X1))) (fun t => 40 - t.1) (0, X0) (by simp) (by exact weak_drop rfl rfl (by simp [EnvLe, getE, look]) (by simp [ObLe, look]) (by simp [roOk])) (fun _ => rfl) ?_
  rintro ⟨t, Y⟩ ht
  simp only [Prod.mk.injEq] at ht
  rcases ht with ⟨rfl, rfl⟩ | ⟨h20, rfl, rfl⟩
  · simp
    refine brd (fun hi => ?_) (fun hi => ?_)
    · simp
      refine callM [(1000, 1000)] [] (i1 (by omega)) rfl rfl (by simp [mObjs, Vs.ren, look, Ob.ren]) (by simp [mArgs, Vs.ren, look, SV.ren]) rfl ?_
      simp [w40]
      exact loopEnd (20, X1) (Or.inr ⟨by omega, rfl⟩) (by simp) (by exact weak_drop rfl rfl (by simp [EnvLe, getE, look]) (by simp [ObLe, look]) (by simp [roOk]))
    · simp
      refine callM [(1000, 1000)] [] (i3 (by omega)) rfl rfl (by simp [mObjs, Vs.ren, look, Ob.ren]) (by simp [mArgs, Vs.ren, look, SV.ren]) rfl ?_
      simp
      refine loopW hm (fun t : Nat × List Int => ⟨[(6, .val (.int .i64 t.1)), (0, .own 1000 v), (1, .val (.int .i64 n)), (2, .val (.fn kf caps))],
          [(1000, .arr v 1 (is t.2))], [], 63, []⟩)
        (fun t => t = (20, X2) ∨ (20 < n ∧ t = (40, X3))) (fun t => 40 - t.1) (20, X2) (by simp) (by exact weak_drop rfl rfl (by simp [EnvLe, getE, look]) (by simp [ObLe, look]) (by simp [roOk])) (fun _ => rfl) ?_
      rintro ⟨t, Y'⟩ ht
      simp only [Prod.mk.injEq] at ht
      rcases ht with ⟨rfl, rfl⟩ | ⟨h20', rfl, rfl⟩
      · simp
        refine brd (fun hi' => ?_) (fun hi' => ?_)
        · simp [w40]
          refine loopW hm (fun t : Unit => ⟨[(7, .val (.int .i64 0)), (8, .val (.int .i64 40)), (6, .val (.int .i64 20)), (0, .own 1000 v), (1, .val (.int .i64 n)), (2, .val (.fn kf caps))],
              [(1000, .arr v 1 (is Y'))], [], 63, []⟩)
            (fun _ => True) (fun _ => 0) () trivial (by exact weak_drop rfl rfl (by simp [EnvLe, getE, look]) (by simp [ObLe, look]) (by simp [roOk])) (fun _ => rfl) ?_
          rintro _ -
          have h40 : ¬ ((40 : Int) ≤ (n : Int)) := by omega
          simp [h40, w20]
          refine brd (fun hj => ?_) (fun hj => absurd hj (by omega))
          simp
          refine callM [(1000, 1000)] [] (i4 (by omega)) rfl rfl (by simp [mObjs, Vs.ren, look, Ob.ren]) (by simp [mArgs, Vs.ren, look, SV.ren]) rfl ?_
          simp [w40]
          refine loopEnd (40, X3) (Or.inr ⟨by omega, rfl⟩) (by simp) (by exact weak_drop rfl rfl (by simp [EnvLe, getE, look]) (by simp [ObLe, look]) (by simp [roOk]))
        · simp [fnPostM]
          rw [← z (by omega)]
          exact ⟨⟨[], [(1000, .arr v 1 _)], [], 63, []⟩, (by exact weak_drop rfl rfl (by simp [EnvLe, getE, look]) (by simp [ObLe, look]) (by simp [roOk])), rfl, [], rfl, rfl, rfl⟩
      · have h40 : ¬ ((40 : Int) < (n : Int)) := by omega
        simp [fnPostM, h40]
        exact ⟨⟨[], [(1000, .arr v 1 _)], [], 63, []⟩, (by exact weak_drop rfl rfl (by simp [EnvLe, getE, look]) (by simp [ObLe, look]) (by simp [roOk])), rfl, [], rfl, rfl, rfl⟩
  · have h40 : ¬ ((40 : Int) ≤ (n : Int)) := by omega
    simp [h40]
    refine callM [(1000, 1000)] [] (i2 h20) rfl rfl (by simp [mObjs, Vs.ren, look, Ob.ren]) (by simp [mArgs, Vs.ren, look, SV.ren]) rfl ?_
    simp
    refine loopW hm (fun t : Nat × List Int => ⟨[(6, .val (.int .i64 t.1)), (0, .own 1000 v), (1, .val (.int .i64 n)), (2, .val (.fn kf caps))],
        [(1000, .arr v 1 (is t.2))], [], 63, []⟩)
      (fun t => t = (20, X2) ∨ (20 < n ∧ t = (40, X3))) (fun t => 40 - t.1) (20, X2) (by simp) (by exact weak_drop rfl rfl (by simp [EnvLe, getE, look]) (by simp [ObLe, look]) (by simp [roOk])) (fun _ => rfl) ?_
    rintro ⟨t, Y'⟩ ht
    simp only [Prod.mk.injEq] at ht
    rcases ht with ⟨rfl, rfl⟩ | ⟨h20', rfl, rfl⟩
    · simp
      refine brd (fun hi' => ?_) (fun hi' => ?_)
      · simp [w40]
        refine loopW hm (fun t : Unit => ⟨[(7, .val (.int .i64 0)), (8, .val (.int .i64 40)), (6, .val (.int .i64 20)), (0, .own 1000 v), (1, .val (.int .i64 n)), (2, .val (.fn kf caps))],
            [(1000, .arr v 1 (is Y'))], [], 63, []⟩)
          (fun _ => True) (fun _ => 0) () trivial (by exact weak_drop rfl rfl (by simp [EnvLe, getE, look]) (by simp [ObLe, look]) (by simp [roOk])) (fun _ => rfl) ?_
        rintro _ -
        have h40 : ¬ ((40 : Int) ≤ (n : Int)) := by omega
        simp [h40, w20]
        refine brd (fun hj => ?_) (fun hj => absurd hj (by omega))
        simp
        refine callM [(1000, 1000)] [] (i4 (by omega)) rfl rfl (by simp [mObjs, Vs.ren, look, Ob.ren]) (by simp [mArgs, Vs.ren, look, SV.ren]) rfl ?_
        simp [w40]
        refine loopEnd (40, X3) (Or.inr ⟨by omega, rfl⟩) (by simp) (by exact weak_drop rfl rfl (by simp [EnvLe, getE, look]) (by simp [ObLe, look]) (by simp [roOk]))
      · simp [fnPostM]
        rw [← z (by omega)]
        exact ⟨⟨[], [(1000, .arr v 1 _)], [], 63, []⟩, (by exact weak_drop rfl rfl (by simp [EnvLe, getE, look]) (by simp [ObLe, look]) (by simp [roOk])), rfl, [], rfl, rfl, rfl⟩
    · have h40 : ¬ ((40 : Int) < (n : Int)) := by omega
      simp [fnPostM, h40]
      exact ⟨⟨[], [(1000, .arr v 1 _)], [], 63, []⟩, (by exact weak_drop rfl rfl (by simp [EnvLe, getE, look]) (by simp [ObLe, look]) (by simp [roOk])), rfl, [], rfl, rfl, rfl⟩
theorem fnM_SortStable {kf : Nat} {caps : List IV} {κ : Int → Int} {D : Int → Prop} (hcmp : CmpOk kf caps κ D) (v : Nat) (X : List Int) (hD : ∀ x ∈ X, D x) (hn : X.length ≤ 26) :
    FnM [] Try.prog k_slices_SortStableFunc_int { args := [.own 1000 v, .val (.fn kf caps)], objs := [(1000, .arr v 1 (is X))], res := .val (.tuple []), objs' := [(1000, .arr v 1 (is (ssort κ X)))], ro' := [] } := by
  refine fnM_intro hm ok_slices_SortStableFunc_int (by simp) rfl ?_
  simp [c_slices_SortStableFunc_int, r_slices_SortStableFunc_int]
  refine callM [(1000, 1000)] [] (fnM_stable hcmp v X X.length rfl hD hn) rfl rfl (by simp [mObjs, Vs.ren, look, Ob.ren]) (by simp [mArgs, Vs.ren, look, SV.ren]) rfl ?_
  simp [fnPostM]
  exact ⟨⟨[], [(1000, .arr v 1 _)], [], 9, []⟩, (by exact weak_drop rfl rfl (by simp [EnvLe, getE, look]) (by simp [ObLe, look]) (by simp [roOk])), rfl, [], rfl, rfl, rfl⟩
end Go.Vs.Ytjfleklkloohgaa.R
