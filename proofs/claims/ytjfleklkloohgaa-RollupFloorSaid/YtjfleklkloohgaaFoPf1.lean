/- The walk of the forest's functions, part 1. No conditions. -/
import Derived.Test.YtjfleklkloohgaaFoGen3
namespace Go.Vs.Ytjfleklkloohgaa
set_option linter.unusedSimpArgs false
set_option linter.unusedVariables false
open Go.Proofs Go.Vs.Fo
set_option maxRecDepth 100000
set_option maxHeartbeats 4000000
theorem hm : Try.prog.follows .mixedOrders = true := by kernel_rfl
/-- Texts, and pairs, as rows. -/
def ts (l : List Str) : List (List IV) := l.map fun s => [.str s]
def ps (l : Prs) : List (List IV) := l.map fun p => [.str p.1, .str p.2]
@[simp] theorem ts_len (l : List Str) : (ts l).length = l.length := by simp [ts]
@[simp] theorem ps_len (l : Prs) : (ps l).length = l.length := by simp [ps]
@[simp] theorem ts_nil : ts [] = [] := rfl
@[simp] theorem ps_nil : ps [] = [] := rfl
@[simp] theorem kids_nil (n : Str) : kids [] n = [] := rfl
theorem ps_get {l : Prs} {i : Nat} (h : i < l.length) : (ps l)[i]? = some [.str l[i].1, .str l[i].2] := by simp [ps, h]
theorem ts_get {l : List Str} {i : Nat} (h : i < l.length) : (ts l)[i]? = some [.str l[i]] := by simp [ts, h]
theorem wrap_succ {i n : Nat} (h : i < n) (hn : n < 1000000) : IntKind.i64.wrap ((i : Int) + 1) = ((i + 1 : Nat) : Int) := by rw [IntKind.wrap_i64]; omega
theorem up_snoc {l : Prs} {x : Str × Str} {n : Str} (h : up l n = none) : up (l ++ [x]) n = if x.1 = n then some x.2 else none := by
  induction l with
  | nil => simp [up]
  | cons p r ih =>
    simp only [up] at h
    split at h
    · simp at h
    · next hp => simp [up, hp, ih h]
theorem up_take {l : Prs} {i : Nat} {n : Str} (hi : i < l.length) (h : up (l.take i) n = none) : up (l.take (i + 1)) n = if l[i].1 = n then some l[i].2 else none := by
  rw [take_snoc hi]; exact up_snoc h
theorem up_mono {l : Prs} {i : Nat} {n u : Str} (h : up (l.take i) n = some u) : up l n = some u := by
  induction l generalizing i with
  | nil => simp [up] at h
  | cons p r ih =>
    cases i with
    | zero => simp [up] at h
    | succ i =>
      simp only [List.take_succ_cons, up] at h ⊢
      split
      · next e => simpa [e] using h
      · next e => rw [if_neg e] at h; exact ih h
def upT (o : Option Str) : IV := .tuple [.str (o.getD []), .bool o.isSome]
theorem fn_Up (l : Prs) (n : Str) (hl : l.length < 1000000) : Fn [] Try.prog k_forest_Up [.slice (ps l), .str n] (upT (up l n)) := by
  refine fn_intro hm ok_forest_Up (by simp) ?_
  simp [c_forest_Up, r_forest_Up]
  refine loopW hm (fun i : Nat => ⟨[(10, .val (.int .i64 i)), (9, .val (.int .i64 l.length)), (8, .val (.slice (ps l))), (1, .val (.str n))], [], [], 21, []⟩)
    (fun i => i ≤ l.length ∧ up (l.take i) n = none) (fun i => l.length - i) 0 ⟨by omega, by simp [up]⟩ (by exact weak_drop rfl rfl (by simp [EnvLe, getE, look]) (by simp [ObLe, look]) (by simp [roOk])) (fun _ => rfl) ?_
  rintro i ⟨h1, h2⟩
  simp
  refine brd (fun hi => ?_) (fun hi => ?_)
  · simp [ps_get hi]
    have h3 := up_take hi h2
    refine brd (fun h => ?_) (fun h => ?_)
    · simp
      rw [if_pos h] at h3
      rw [up_mono h3]
      simp [upT]
    · simp [wrap_succ hi hl]
      rw [if_neg h] at h3
      exact loopEnd _ ⟨by omega, h3⟩ (by omega) (by exact weak_drop rfl rfl (by simp [EnvLe, getE, look]) (by simp [ObLe, look]) (by simp [roOk]))
  · simp
    obtain rfl : i = l.length := by omega
    rw [List.take_length] at h2
    simp [upT, h2]
theorem fn_rUp (l : Prs) (n : Str) (hl : l.length < 1000000) : Fn [] Try.prog k_ref32_Up [.slice (ps l), .str n] (upT (up l n)) := by
  refine fn_intro hm ok_ref32_Up (by simp) ?_
  simp [c_ref32_Up, r_ref32_Up]
  refine loopW hm (fun i : Nat => ⟨[(6, .val (.int .i64 i)), (1, .val (.str n)), (0, .val (.slice (ps l)))], [], [], 25, []⟩)
    (fun i => i ≤ l.length ∧ up (l.take i) n = none) (fun i => l.length - i) 0 ⟨by omega, by simp [up]⟩ (by exact weak_drop rfl rfl (by simp [EnvLe, getE, look]) (by simp [ObLe, look]) (by simp [roOk])) (fun _ => rfl) ?_
  rintro i ⟨h1, h2⟩
  simp
  refine brd (fun hi => ?_) (fun hi => ?_)
  · simp [ps_get hi]
    have h3 := up_take hi h2
    refine brd (fun h => ?_) (fun h => ?_)
    · simp [ps_get hi]
      rw [if_pos h] at h3
      rw [up_mono h3]
      simp [upT]
    · simp [wrap_succ hi hl]
      rw [if_neg h] at h3
      exact loopEnd _ ⟨by omega, h3⟩ (by omega) (by exact weak_drop rfl rfl (by simp [EnvLe, getE, look]) (by simp [ObLe, look]) (by simp [roOk]))
  · simp
    obtain rfl : i = l.length := by omega
    rw [List.take_length] at h2
    simp [upT, h2]
theorem kids_append (a b : Prs) (n : Str) : kids (a ++ b) n = kids a n ++ kids b n := by
  induction a with
  | nil => rfl
  | cons p r ih => simp only [List.cons_append, kids]; split <;> simp [ih]
theorem kids_take {l : Prs} {i : Nat} (hi : i < l.length) (n : Str) : kids (l.take (i + 1)) n = kids (l.take i) n ++ if l[i].2 = n then [l[i].1] else [] := by
  rw [take_snoc hi, kids_append]; simp [kids]
theorem kids_len (l : Prs) (n : Str) : (kids l n).length ≤ l.length := by
  induction l with
  | nil => simp [kids]
  | cons p r ih => simp only [kids]; split <;> simp <;> omega
theorem kids_take_len {l : Prs} (i : Nat) (n : Str) (h : l.length < 1000000) : (kids (l.take i) n).length < 1000000 := by
  have := kids_len (l.take i) n
  have : (l.take i).length ≤ l.length := by simp; omega
  omega
theorem ts_snoc (l : List Str) (x : Str) : ts (l ++ [x]) = ts l ++ [[.str x]] := by simp [ts]
theorem ps_snoc (l : Prs) (x : Str × Str) : ps (l ++ [x]) = ps l ++ [[.str x.1, .str x.2]] := by simp [ps]
theorem ts_one {l : List Str} : ∀ r ∈ ts l, r.length = 1 := by simp [ts]
theorem ps_two {l : Prs} : ∀ r ∈ ps l, r.length = 2 := by simp [ps]; rintro r x y _ rfl; rfl
theorem ts_flat {l : List Str} : flatRows (ts l) = true := by
  induction l with
  | nil => rfl
  | cons x r ih => simp [ts, flatRows, IV.flat, IV.flat.flats] at ih ⊢; exact ih
theorem ps_flat {l : Prs} : flatRows (ps l) = true := by
  induction l with
  | nil => rfl
  | cons x r ih => simp [ps, flatRows, IV.flat, IV.flat.flats] at ih ⊢; exact ih
theorem fn_Kids (l : Prs) (n : Str) (hl : l.length < 1000000) : FnR [] Try.prog k_forest_Kids [.slice (ps l), .str n] (.own 1 (ts (kids l n))) := by
  refine fn_intro hm ok_forest_Kids (by simp) ?_
  simp [c_forest_Kids, r_forest_Kids]
  refine loopW hm (fun i : Nat => ⟨[(10, .val (.int .i64 i)), (9, .val (.int .i64 l.length)), (8, .val (.slice (ps l))), (5, .own 5 (kids (l.take i) n).length), (1, .val (.str n))], [(5, .arr (kids (l.take i) n).length 1 (ts (kids (l.take i) n)))], [], 25, []⟩)
    (fun i => i ≤ l.length) (fun i => l.length - i) 0 (by omega) (by exact Weak.trans (weak_adopt (k := 5) 5 1 (by simp) (by simp [getE, look])) (weak_drop rfl rfl (by simp [St.adopt, EnvLe, getE, look, put, eraseE, SV.erase]) (by simp [St.adopt, ObLe, look, put, eraseO, Ob.erase]) (by simp [St.adopt, roOk]))) (fun _ => rfl) ?_
  rintro i h1
  simp
  have hb := kids_take_len i n hl
  refine brd (fun hi => ?_) (fun hi => ?_)
  · have hk := kids_take hi n
    simp [ps_get hi]
    refine brd (fun h => ?_) (fun h => ?_)
    · rw [if_pos h] at hk
      simp [wrap_succ hi hl]
      refine ⟨by omega, ?_⟩
      refine loopEnd (i + 1) (by omega) (by omega) ?_
      simp only [hk, ts_snoc, List.length_append, List.length_singleton]
      exact weak_drop rfl rfl (by simp [EnvLe, getE, look]) (by simp [ObLe, look]) (by simp [roOk])
    · rw [if_neg h, List.append_nil] at hk
      simp [wrap_succ hi hl]
      refine loopEnd (i + 1) (by omega) (by omega) ?_
      simp only [hk]
      exact weak_drop rfl rfl (by simp [EnvLe, getE, look]) (by simp [ObLe, look]) (by simp [roOk])
  · simp
    obtain rfl : i = l.length := by omega
    rw [List.take_length]
theorem fn_rKids (l : Prs) (n : Str) (hl : l.length < 1000000) : Fn [] Try.prog k_ref32_Kids [.slice (ps l), .str n] (.slice (ts (kids l n))) := by
  refine fn_intro hm ok_ref32_Kids (by simp) ?_
  simp [c_ref32_Kids, r_ref32_Kids]
  refine loopW hm (fun i : Nat => ⟨[(6, .val (.int .i64 i)), (5, .own 5 (kids (l.take i) n).length), (1, .val (.str n)), (0, .val (.slice (ps l)))], [(5, .arr (kids (l.take i) n).length 1 (ts (kids (l.take i) n)))], [], 29, []⟩)
    (fun i => i ≤ l.length) (fun i => l.length - i) 0 (by omega) (by exact Weak.trans (weak_adopt (k := 5) 5 1 (by simp) (by simp [getE, look])) (weak_drop rfl rfl (by simp [St.adopt, EnvLe, getE, look, put, eraseE, SV.erase]) (by simp [St.adopt, ObLe, look, put, eraseO, Ob.erase]) (by simp [St.adopt, roOk]))) (fun _ => rfl) ?_
  rintro i h1
  simp
  have hb := kids_take_len i n hl
  refine brd (fun hi => ?_) (fun hi => ?_)
  · have hk := kids_take hi n
    simp [ps_get hi]
    refine brd (fun h => ?_) (fun h => ?_)
    · rw [if_pos h] at hk
      simp [ps_get hi, wrap_succ hi hl]
      refine ⟨by omega, ?_⟩
      refine loopEnd (i + 1) (by omega) (by omega) ?_
      simp only [hk, ts_snoc, List.length_append, List.length_singleton]
      exact weak_drop rfl rfl (by simp [EnvLe, getE, look]) (by simp [ObLe, look]) (by simp [roOk])
    · rw [if_neg h, List.append_nil] at hk
      simp [wrap_succ hi hl]
      refine loopEnd (i + 1) (by omega) (by omega) ?_
      simp only [hk]
      exact weak_drop rfl rfl (by simp [EnvLe, getE, look]) (by simp [ObLe, look]) (by simp [roOk])
  · simp
    obtain rfl : i = l.length := by omega
    rw [List.take_length]
theorem fn_Own (l : Prs) (hl : l.length < 1000000) : Fn [] Try.prog k_law32_Own [.slice (ps l)] (.slice (ps l)) := by
  refine fn_intro hm ok_law32_Own (by simp) ?_
  simp [c_law32_Own, r_law32_Own]
  refine loopW hm (fun i : Nat => ⟨[(4, .val (.int .i64 i)), (3, .own 3 i), (0, .val (.slice (ps l)))], [(3, .arr i 2 (ps (l.take i)))], [], 19, []⟩)
    (fun i => i ≤ l.length) (fun i => l.length - i) 0 (by omega) (by exact Weak.trans (weak_adopt (k := 3) 3 2 (by simp) (by simp [getE, look])) (weak_drop rfl rfl (by simp [St.adopt, EnvLe, getE, look, put, eraseE, SV.erase]) (by simp [St.adopt, ObLe, look, put, eraseO, Ob.erase]) (by simp [St.adopt, roOk]))) (fun _ => rfl) ?_
  rintro i h1
  simp
  refine brd (fun hi => ?_) (fun hi => ?_)
  · simp [ps_get hi, wrap_succ hi hl]
    refine ⟨by omega, ?_⟩
    refine loopEnd (i + 1) (by omega) (by omega) ?_
    simp only [take_snoc hi, ps_snoc]
    exact weak_drop rfl rfl (by simp [EnvLe, getE, look]) (by simp [ObLe, look]) (by simp [roOk])
  · simp
    obtain rfl : i = l.length := by omega
    rw [List.take_length]
theorem fn_Back (l : Prs) (hl : l.length < 1000000) : Fn [] Try.prog k_law32_Back [.slice (ps l)] (.slice (ps l)) := by
  refine fn_intro hm ok_law32_Back (by simp) ?_
  simp [c_law32_Back, r_law32_Back]
  refine loopW hm (fun i : Nat => ⟨[(4, .val (.int .i64 i)), (3, .own 3 i), (0, .val (.slice (ps l)))], [(3, .arr i 2 (ps (l.take i)))], [], 19, []⟩)
    (fun i => i ≤ l.length) (fun i => l.length - i) 0 (by omega) (by exact Weak.trans (weak_adopt (k := 3) 3 2 (by simp) (by simp [getE, look])) (weak_drop rfl rfl (by simp [St.adopt, EnvLe, getE, look, put, eraseE, SV.erase]) (by simp [St.adopt, ObLe, look, put, eraseO, Ob.erase]) (by simp [St.adopt, roOk]))) (fun _ => rfl) ?_
  rintro i h1
  simp
  refine brd (fun hi => ?_) (fun hi => ?_)
  · simp [ps_get hi, wrap_succ hi hl]
    refine ⟨by omega, ?_⟩
    refine loopEnd (i + 1) (by omega) (by omega) ?_
    simp only [take_snoc hi, ps_snoc]
    exact weak_drop rfl rfl (by simp [EnvLe, getE, look]) (by simp [ObLe, look]) (by simp [roOk])
  · simp
    obtain rfl : i = l.length := by omega
    rw [List.take_length]
/-- Few and short enough. -/
def fewB (l : Prs) : Bool := decide (l.length ≤ 30) && l.all fun p => decide (p.1.length ≤ 30) && decide (p.2.length ≤ 30)
theorem fn_Few (l : Prs) : Fn [] Try.prog k_law32_Few [.slice (ps l)] (.bool (fewB l)) := by
  refine fn_intro hm ok_law32_Few (by simp) ?_
  simp [c_law32_Few, r_law32_Few]
  refine brd (fun h0 => ?_) (fun h0 => ?_)
  · simp [fewB]; omega
  simp
  refine loopW hm (fun i : Nat => ⟨[(3, .val (.int .i64 i)), (0, .val (.slice (ps l)))], [], [], 29, []⟩)
    (fun i => i ≤ l.length ∧ ∀ p ∈ l.take i, p.1.length ≤ 30 ∧ p.2.length ≤ 30) (fun i => l.length - i) 0 ⟨by omega, by simp⟩ (by exact weak_drop rfl rfl (by simp [EnvLe, getE, look]) (by simp [ObLe, look]) (by simp [roOk])) (fun _ => rfl) ?_
  rintro i ⟨h1, h2⟩
  simp
  refine brd (fun hi => ?_) (fun hi => ?_)
  · have hmem : l[i] ∈ l := List.getElem_mem hi
    simp [ps_get hi]
    refine brd (fun h => ?_) (fun h => ?_)
    · simp [fewB]
      exact fun _ => ⟨l[i].1, l[i].2, hmem, fun _ => by omega⟩
    · simp [ps_get hi]
      refine brd (fun h' => ?_) (fun h' => ?_)
      · simp [fewB]
        exact fun _ => ⟨l[i].1, l[i].2, hmem, fun _ => by omega⟩
      · simp [wrap_succ hi (show l.length < 1000000 by omega)]
        refine loopEnd (i + 1) ⟨by omega, ?_⟩ (by omega) (by exact weak_drop rfl rfl (by simp [EnvLe, getE, look]) (by simp [ObLe, look]) (by simp [roOk]))
        rw [take_snoc hi]
        intro p hp
        rcases List.mem_append.1 hp with hp | hp
        · exact h2 p hp
        · rw [List.mem_singleton] at hp; subst hp; omega
  · simp [fewB]
    obtain rfl : i = l.length := by omega
    rw [List.take_length] at h2
    exact ⟨by omega, fun a b h => h2 _ h⟩
theorem same_iff {α : Type} {a b : List α} (hl : a.length = b.length) : a = b ↔ ∀ i (h1 : i < a.length) (h2 : i < b.length), a[i] = b[i] :=
  ⟨fun h => by subst h; simp, fun h => List.ext_getElem hl h⟩
theorem fn_SameTexts (a b : List Str) (hl : a.length < 1000000) : Fn [] Try.prog k_ref32_SameTexts [.slice (ts a), .slice (ts b)] (.bool (decide (a = b))) := by
  refine fn_intro hm ok_ref32_SameTexts (by simp) ?_
  simp [c_ref32_SameTexts, r_ref32_SameTexts]
  refine brd (fun h0 => ?_) (fun h0 => ?_)
  case refine_2 => simp; intro h; subst h; simp at h0
  have h0 : a.length = b.length := by omega
  simp
  refine loopW hm (fun i : Nat => ⟨[(5, .val (.int .i64 i)), (1, .val (.slice (ts b))), (0, .val (.slice (ts a)))], [], [], 26, []⟩)
    (fun i => i ≤ a.length ∧ ∀ j (_ : j < i) (h1 : j < a.length) (h2 : j < b.length), a[j] = b[j]) (fun i => a.length - i) 0 ⟨by omega, by intro j h; omega⟩ (by exact weak_drop rfl rfl (by simp [EnvLe, getE, look]) (by simp [ObLe, look]) (by simp [roOk])) (fun _ => rfl) ?_
  rintro i ⟨h1, h2⟩
  simp
  refine brd (fun hi => ?_) (fun hi => ?_)
  · have hi' : i < b.length := by omega
    simp [ts_get hi, ts_get hi']
    refine brd (fun h => ?_) (fun h => ?_)
    · simp [wrap_succ hi hl]
      refine loopEnd (i + 1) ⟨by omega, fun j hj k1 k2 => ?_⟩ (by omega) (by exact weak_drop rfl rfl (by simp [EnvLe, getE, look]) (by simp [ObLe, look]) (by simp [roOk]))
      rcases Nat.lt_or_ge j i with hj' | hj'
      · exact h2 j hj' k1 k2
      · obtain rfl : j = i := by omega
        exact h
    · simp; intro hab; subst hab; exact h rfl
  · simp
    rw [same_iff h0]
    intro j k1 k2
    exact h2 j (by omega) k1 k2
end Go.Vs.Ytjfleklkloohgaa
