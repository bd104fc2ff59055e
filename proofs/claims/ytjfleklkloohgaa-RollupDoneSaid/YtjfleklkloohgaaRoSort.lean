/- The stable merge, in plain Lean. No conditions. -/
import Derived.KernelRfl
namespace Go.Vs.Ro

section
variable {α : Type} {le : α → α → Bool}

theorem merge_one_left {x : α} {B1 B2 : List α} (h1 : ∀ y ∈ B1, le x y = false) (h2 : ∀ y ∈ B2, le x y = true) : List.merge [x] (B1 ++ B2) le = B1 ++ x :: B2 := by
  induction B1 with
  | nil =>
    cases B2 with
    | nil => simp
    | cons y B2 => simp [List.merge, h2 y (by simp)]
  | cons y B1 ih =>
    have hy := h1 y (by simp)
    rw [List.cons_append, List.merge, hy]
    simp only [Bool.false_eq_true, if_false, List.cons_append]
    rw [ih (fun z hz => h1 z (by simp [hz]))]
theorem merge_one_right {y : α} {A1 A2 : List α} (h1 : ∀ x ∈ A1, le x y = true) (h2 : ∀ x ∈ A2, le x y = false) : List.merge (A1 ++ A2) [y] le = A1 ++ y :: A2 := by
  induction A1 with
  | nil =>
    cases A2 with
    | nil => simp
    | cons x A2 => simp [List.merge, h2 x (by simp)]
  | cons x A1 ih =>
    have hx := h1 x (by simp)
    rw [List.cons_append, List.merge, hx]
    simp only [if_true, List.cons_append]
    rw [ih (fun z hz => h1 z (by simp [hz]))]
theorem merge_split : ∀ {A1 B1 A2 B2 : List α}, (∀ x ∈ A1, ∀ y ∈ B2, le x y = true) → (∀ x ∈ A2, ∀ y ∈ B1, le x y = false) →
    List.merge (A1 ++ A2) (B1 ++ B2) le = List.merge A1 B1 le ++ List.merge A2 B2 le
  | [], [], _, _, _, _ => by simp
  | x :: A1, [], A2, [], _, _ => by simp
  | x :: A1, [], A2, y :: B2, h1, h2 => by
    have h := h1 x (by simp) y (by simp)
    have ih := merge_split (A1 := A1) (B1 := []) (A2 := A2) (B2 := y :: B2) (fun x' hx y' hy => h1 x' (by simp [hx]) y' hy) (by simp)
    simp only [List.nil_append, List.cons_append] at ih ⊢
    rw [List.cons_merge_cons, if_pos h, ih]
    simp
  | [], y :: B1, [], B2, _, _ => by simp
  | [], y :: B1, x :: A2, B2, h1, h2 => by
    have h := h2 x (by simp) y (by simp)
    have ih := merge_split (A1 := []) (B1 := B1) (A2 := x :: A2) (B2 := B2) (by simp) (fun x' hx y' hy => h2 x' hx y' (by simp [hy]))
    simp only [List.nil_append, List.cons_append] at ih ⊢
    rw [List.cons_merge_cons, if_neg (by simp [h]), ih]
    simp
  | x :: A1, y :: B1, A2, B2, h1, h2 => by
    simp only [List.cons_append]
    rw [List.cons_merge_cons, List.cons_merge_cons]
    split
    · have ih := merge_split (A1 := A1) (B1 := y :: B1) (A2 := A2) (B2 := B2) (fun x' hx y' hy => h1 x' (by simp [hx]) y' hy) h2
      simp only [List.cons_append] at ih
      rw [ih]; rfl
    · have ih := merge_split (A1 := x :: A1) (B1 := B1) (A2 := A2) (B2 := B2) h1 (fun x' hx y' hy => h2 x' hx y' (by simp [hy]))
      simp only [List.cons_append] at ih
      rw [ih]; rfl
termination_by A1 B1 => A1.length + B1.length

abbrev Sorted (le : α → α → Bool) (l : List α) : Prop := l.Pairwise fun a b => le a b = true
variable (tot : ∀ a b, le a b = true ∨ le b a = true) (tr : ∀ a b c, le a b = true → le b c = true → le a c = true)
include tot tr in
theorem merge_sorted {A B : List α} (hA : Sorted le A) (hB : Sorted le B) : Sorted le (List.merge A B le) :=
  List.pairwise_merge (fun a b c h1 h2 => tr a b c h1 h2) (fun a b => by simpa using tot a b) A B hA hB
theorem merge_perm (A B : List α) : (List.merge A B le).Perm (A ++ B) := List.merge_perm_append le
/-- The insertion sort: each in behind those that are not above it. -/
def isort (le : α → α → Bool) : List α → List α
  | l => l.foldl (fun acc x => List.merge acc [x] le) []
theorem isort_snoc (l : List α) (x : α) : isort le (l ++ [x]) = List.merge (isort le l) [x] le := by simp [isort]
theorem snoc_induct {motive : List α → Prop} (h0 : motive []) (h1 : ∀ l x, motive l → motive (l ++ [x])) : ∀ l, motive l := by
  intro l
  have : ∀ n, ∀ l : List α, l.length = n → motive l := by
    intro n
    induction n with
    | zero => intro l hl; rw [List.length_eq_zero_iff] at hl; subst hl; exact h0
    | succ n ih =>
      intro l hl
      have hne : l ≠ [] := by rintro rfl; simp at hl
      rw [← List.dropLast_concat_getLast hne]
      exact h1 _ _ (ih _ (by simp [hl]))
  exact this _ l rfl
theorem isort_perm (l : List α) : (isort le l).Perm l := by
  induction l using snoc_induct with
  | h0 => exact List.Perm.refl _
  | h1 l x ih => rw [isort_snoc]; exact (merge_perm _ _).trans (ih.append_right _)
include tot tr in
theorem isort_sorted (l : List α) : Sorted le (isort le l) := by
  induction l using snoc_induct with
  | h0 => exact List.Pairwise.nil
  | h1 l x ih => rw [isort_snoc]; exact merge_sorted tot tr ih (by simp)
end
end Go.Vs.Ro
