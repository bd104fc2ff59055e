/- Value semantics, part 2: lists of cells; the four ways in which a state goes on (a slot, a new object, an object that turns, a freeze). No conditions. -/
import Derived.Test.YtjfleklkloohgaaVs1
set_option linter.unusedVariables false
set_option linter.unusedSimpArgs false
namespace Go.Vs

theorem IV.one_oneCell {w : World} {S : Stab} : ∀ {x : IV} {v : Value}, x.one = true → Rep w S x v → v.oneCell' = true
  | .int _ _, _, _, h => by subst h; rfl
  | .bool _, _, _, h => by subst h; rfl
  | .str _, _, _, h => by subst h; rfl
  | .nilp, _, _, h => by subst h; rfl
  | .ref _, _, _, ⟨_, _, h, _⟩ => by subst h; rfl
  | .slice _, _, _, ⟨_, _, h, _⟩ => by subst h; rfl
  | .nilf, _, _, h => by subst h; rfl
  | .fn _ _, _, _, ⟨_, h, _⟩ => by subst h; rfl
  | .nili, _, _, h => by subst h; rfl
  | .iface _ _, _, _, ⟨_, h, _⟩ => by subst h; rfl
  | .agg _, _, h, _ => by simp [IV.one] at h
  | .tuple _, _, h, _ => by simp [IV.one] at h

theorem IV.oneCell_one {w : World} {S : Stab} : ∀ {x : IV} {v : Value}, v.oneCell' = true → Rep w S x v → x.one = true
  | .int _ _, _, _, _ => rfl
  | .bool _, _, _, _ => rfl
  | .str _, _, _, _ => rfl
  | .nilp, _, _, _ => rfl
  | .ref _, _, _, _ => rfl
  | .slice _, _, _, _ => rfl
  | .nilf, _, _, _ => rfl
  | .fn _ _, _, _, _ => rfl
  | .nili, _, _, _ => rfl
  | .iface _ _, _, _, _ => rfl
  | .agg _, _, h, ⟨_, h1, _⟩ => by subst h1; simp [Value.oneCell'] at h
  | .tuple _, _, h, ⟨_, h1, _⟩ => by subst h1; simp [Value.oneCell'] at h

section lists
variable {w : World} {S : Stab}

theorem RepOnes.length : ∀ {xs : List IV} {vs : List Value}, RepOnes w S xs vs → vs.length = xs.length
  | [], _, h => by have h : _ = _ := h; subst h; rfl
  | _ :: _, _, ⟨_, _, h1, _, _, h3⟩ => by subst h1; simp [RepOnes.length h3]
theorem RepOnes.append : ∀ {xs ys : List IV} {us vs : List Value}, RepOnes w S xs us → RepOnes w S ys vs → RepOnes w S (xs ++ ys) (us ++ vs)
  | [], _, _, _, h, k => by have h : _ = _ := h; subst h; exact k
  | _ :: _, _, _, _, ⟨u, us', h1, h0, h2, h3⟩, k => by subst h1; exact ⟨u, us' ++ _, rfl, h0, h2, RepOnes.append h3 k⟩
theorem RepOnes.drop : ∀ (n : Nat) {xs : List IV} {vs : List Value}, RepOnes w S xs vs → RepOnes w S (xs.drop n) (vs.drop n)
  | 0, _, _, h => h
  | _ + 1, [], _, h => by have h : _ = _ := h; subst h; rfl
  | n + 1, _ :: _, _, ⟨_, _, h1, _, _, h3⟩ => by subst h1; exact RepOnes.drop n h3
theorem RepOnes.take : ∀ (n : Nat) {xs : List IV} {vs : List Value}, RepOnes w S xs vs → RepOnes w S (xs.take n) (vs.take n)
  | 0, _, _, _ => rfl
  | _ + 1, [], _, h => by have h : _ = _ := h; subst h; rfl
  | n + 1, _ :: _, _, ⟨u, _, h1, h0, h2, h3⟩ => by subst h1; exact ⟨u, _, rfl, h0, h2, RepOnes.take n h3⟩
theorem RepOnes.get : ∀ {xs : List IV} {vs : List Value} {j : Nat} {x : IV}, RepOnes w S xs vs → xs[j]? = some x → ∃ v, vs[j]? = some v ∧ x.one = true ∧ Rep w S x v
  | [], _, _, _, _, k => by simp at k
  | y :: _, _, 0, x, ⟨u, us, h1, h0, h2, _⟩, k => by
    subst h1
    have : y = x := by simpa using k
    subst this; exact ⟨u, rfl, h0, h2⟩
  | _ :: _, _, j + 1, _, ⟨_, us, h1, _, _, h3⟩, k => by
    subst h1
    obtain ⟨v, h4, h5⟩ := RepOnes.get (j := j) h3 (by simpa using k)
    exact ⟨v, by simpa using h4, h5⟩
theorem RepOnes.set : ∀ {xs : List IV} {vs : List Value} (j : Nat) {x : IV} {v : Value}, RepOnes w S xs vs → x.one = true → Rep w S x v → RepOnes w S (xs.set j x) (vs.set j v)
  | [], _, _, _, _, h, _, _ => by have h : _ = _ := h; subst h; rfl
  | _ :: _, _, 0, _, v, ⟨_, us, h1, _, _, h3⟩, k0, k => by subst h1; exact ⟨v, us, rfl, k0, k, h3⟩
  | _ :: _, _, j + 1, _, _, ⟨u, us, h1, h0, h2, h3⟩, k0, k => by subst h1; exact ⟨u, _, rfl, h0, h2, RepOnes.set j h3 k0 k⟩
theorem RepOnes.oneCells : ∀ {xs : List IV} {vs : List Value}, RepOnes w S xs vs → ∀ v ∈ vs, v.oneCell' = true
  | [], _, h => by have h : _ = _ := h; subst h; simp
  | _ :: _, _, ⟨u, us, h1, h0, h2, h3⟩ => by
    subst h1
    intro v hv
    rcases List.mem_cons.1 hv with rfl | hv
    · exact IV.one_oneCell h0 h2
    · exact RepOnes.oneCells h3 v hv
theorem RepOnes.ones : ∀ {xs : List IV} {vs : List Value}, RepOnes w S xs vs → ∀ x ∈ xs, x.one = true
  | [], _, _ => by simp
  | _ :: _, _, ⟨u, us, h1, h0, h2, h3⟩ => by
    intro x hx
    rcases List.mem_cons.1 hx with rfl | hx
    · exact h0
    · exact RepOnes.ones h3 x hx

theorem RepList.length : ∀ {xs : List IV} {vs : List Value}, RepList w S xs vs → vs.length = xs.length
  | [], _, h => by have h : _ = _ := h; subst h; rfl
  | _ :: _, _, ⟨_, _, h1, _, h3⟩ => by subst h1; simp [RepList.length h3]
theorem RepList.get : ∀ {xs : List IV} {vs : List Value} {j : Nat} {x : IV}, RepList w S xs vs → xs[j]? = some x → ∃ v, vs[j]? = some v ∧ Rep w S x v
  | [], _, _, _, _, k => by simp at k
  | y :: _, _, 0, x, ⟨u, us, h1, h2, _⟩, k => by
    subst h1
    have : y = x := by simpa using k
    subst this; exact ⟨u, rfl, h2⟩
  | _ :: _, _, j + 1, _, ⟨_, us, h1, _, h3⟩, k => by
    subst h1
    obtain ⟨v, h4, h5⟩ := RepList.get (j := j) h3 (by simpa using k)
    exact ⟨v, by simpa using h4, h5⟩

/-- The cells' values. -/
theorem RepCells.vals : ∀ {xs : List IV} {blk off : Nat}, RepCells w S xs blk off → ∃ vs, RepOnes w S xs vs ∧ ∀ j v, vs[j]? = some v → w.cell? ⟨blk, off + j, none⟩ = some v
  | [], _, _, _ => ⟨[], rfl, by simp⟩
  | x :: xs, blk, off, ⟨_, h2, ⟨v, h3, h4⟩, h5⟩ => by
    obtain ⟨vs, h6, h7⟩ := RepCells.vals h5
    refine ⟨v :: vs, ⟨v, vs, rfl, h2, h4, h6⟩, ?_⟩
    intro j u hj
    cases j with
    | zero => simp at hj; subst hj; exact h3
    | succ j => have := h7 j u (by simpa using hj); rwa [show off + 1 + j = off + (j + 1) by omega] at this
theorem RepCells.intro : ∀ {xs : List IV} {vs : List Value} {blk off : Nat}, RepOnes w S xs vs → (∀ j, j < xs.length → S blk (off + j)) →
    (∀ j v, vs[j]? = some v → w.cell? ⟨blk, off + j, none⟩ = some v) → RepCells w S xs blk off
  | [], _, _, _, _, _, _ => trivial
  | x :: xs, _, blk, off, ⟨v, vs, h1, h0, h2, h3⟩, hS, hc => by
    subst h1
    refine ⟨hS 0 (by simp), h0, ⟨v, hc 0 v rfl, h2⟩, RepCells.intro h3 (fun j hj => ?_) (fun j u hj => ?_)⟩
    · have := hS (j + 1) (by simp; omega); rwa [show off + (j + 1) = off + 1 + j by omega] at this
    · have := hc (j + 1) u (by simpa using hj); rwa [show off + (j + 1) = off + 1 + j by omega] at this
theorem RepCells.drop : ∀ (n : Nat) {xs : List IV} {blk off : Nat}, RepCells w S xs blk off → RepCells w S (xs.drop n) blk (off + n)
  | 0, _, _, _, h => h
  | _ + 1, [], _, _, _ => trivial
  | n + 1, _ :: _, _, off, ⟨_, _, _, h⟩ => by
    have := RepCells.drop n h
    rwa [show off + 1 + n = off + (n + 1) by omega] at this
theorem RepCells.take : ∀ (n : Nat) {xs : List IV} {blk off : Nat}, RepCells w S xs blk off → RepCells w S (xs.take n) blk off
  | 0, _, _, _, _ => trivial
  | _ + 1, [], _, _, _ => trivial
  | n + 1, _ :: _, _, _, ⟨h1, h2, h3, h4⟩ => ⟨h1, h2, h3, RepCells.take n h4⟩
theorem RepCells.append : ∀ {xs ys : List IV} {blk off : Nat}, RepCells w S xs blk off → RepCells w S ys blk (off + xs.length) → RepCells w S (xs ++ ys) blk off
  | [], _, _, _, _, k => k
  | _ :: xs, _, blk, off, ⟨h1, h2, h3, h4⟩, k => ⟨h1, h2, h3, RepCells.append h4 (by rw [show off + 1 + xs.length = off + (xs.length + 1) by omega]; exact k)⟩

theorem RepRows.get : ∀ {rows : List (List IV)} {s blk off i : Nat} {r : List IV}, RepRows w S rows s blk off → rows[i]? = some r → r.length = s ∧ RepCells w S r blk (off + i * s)
  | [], _, _, _, _, _, _, k => by simp at k
  | r' :: rs, s, blk, off, 0, r, ⟨h1, h2, _⟩, k => by
    have : r' = r := by simpa using k
    subst this; exact ⟨h1, by simpa using h2⟩
  | _ :: rs, s, blk, off, i + 1, r, ⟨_, _, h3⟩, k => by
    have := RepRows.get (i := i) h3 (by simpa using k)
    rwa [show off + s + i * s = off + (i + 1) * s by rw [Nat.add_mul]; omega] at this
theorem RepRows.lens : ∀ {rows : List (List IV)} {s blk off : Nat}, RepRows w S rows s blk off → ∀ r ∈ rows, r.length = s
  | [], _, _, _, _ => by simp
  | _ :: _, _, _, _, ⟨h1, _, h3⟩ => by
    intro r hr
    rcases List.mem_cons.1 hr with rfl | hr
    · exact h1
    · exact RepRows.lens h3 r hr
theorem RepRows.drop : ∀ (n : Nat) {rows : List (List IV)} {s blk off : Nat}, RepRows w S rows s blk off → RepRows w S (rows.drop n) s blk (off + n * s)
  | 0, _, _, _, _, h => by simpa using h
  | _ + 1, [], _, _, _, _ => trivial
  | n + 1, _ :: _, s, _, off, ⟨_, _, h⟩ => by
    have := RepRows.drop n h
    rwa [show off + s + n * s = off + (n + 1) * s by rw [Nat.add_mul]; omega] at this
theorem RepRows.take : ∀ (n : Nat) {rows : List (List IV)} {s blk off : Nat}, RepRows w S rows s blk off → RepRows w S (rows.take n) s blk off
  | 0, _, _, _, _, _ => trivial
  | _ + 1, [], _, _, _, _ => trivial
  | n + 1, _ :: _, _, _, _, ⟨h1, h2, h3⟩ => ⟨h1, h2, RepRows.take n h3⟩
theorem RepRows.flat : ∀ {rows : List (List IV)} {s blk off : Nat}, RepRows w S rows s blk off → RepCells w S rows.flatten blk off
  | [], _, _, _, _ => trivial
  | r :: rs, s, blk, off, ⟨h1, h2, h3⟩ => by
    simp only [List.flatten_cons]
    exact RepCells.append h2 (by rw [h1]; exact RepRows.flat h3)
theorem RepRows.ofFlat : ∀ {rows : List (List IV)} {s blk off : Nat}, (∀ r ∈ rows, r.length = s) → RepCells w S rows.flatten blk off → RepRows w S rows s blk off
  | [], _, _, _, _, _ => trivial
  | r :: rs, s, blk, off, hl, h => by
    have h1 := hl r (by simp)
    simp only [List.flatten_cons] at h
    refine ⟨h1, ?_, RepRows.ofFlat (fun x hx => hl x (List.mem_cons_of_mem _ hx)) ?_⟩
    · have := RepCells.take r.length h; simpa using this
    · have := RepCells.drop r.length h; simpa [h1] using this
theorem flatten_length {α : Type} : ∀ {rows : List (List α)} {s : Nat}, (∀ r ∈ rows, r.length = s) → rows.flatten.length = rows.length * s
  | [], _, _ => by simp
  | r :: rs, s, h => by
    have h1 := h r (by simp)
    have h2 := flatten_length (rows := rs) (s := s) (fun x hx => h x (List.mem_cons_of_mem _ hx))
    simp only [List.flatten_cons, List.length_append, h1, h2, List.length_cons, Nat.add_mul]; omega

variable {μ : Nat → Value} {objs : List (Nat × Ob)}
theorem SVOnes.length : ∀ {xs : List SV} {vs : List Value}, SVOnes w S μ objs xs vs → vs.length = xs.length
  | [], _, h => by have h : _ = _ := h; subst h; rfl
  | _ :: _, _, ⟨_, _, h1, _, _, h3⟩ => by subst h1; simp [SVOnes.length h3]
theorem SVOnes.append : ∀ {xs ys : List SV} {us vs : List Value}, SVOnes w S μ objs xs us → SVOnes w S μ objs ys vs → SVOnes w S μ objs (xs ++ ys) (us ++ vs)
  | [], _, _, _, h, k => by have h : _ = _ := h; subst h; exact k
  | _ :: _, _, _, _, ⟨u, us', h1, h0, h2, h3⟩, k => by subst h1; exact ⟨u, us' ++ _, rfl, h0, h2, SVOnes.append h3 k⟩
theorem SVOnes.drop : ∀ (n : Nat) {xs : List SV} {vs : List Value}, SVOnes w S μ objs xs vs → SVOnes w S μ objs (xs.drop n) (vs.drop n)
  | 0, _, _, h => h
  | _ + 1, [], _, h => by have h : _ = _ := h; subst h; rfl
  | n + 1, _ :: _, _, ⟨_, _, h1, _, _, h3⟩ => by subst h1; exact SVOnes.drop n h3
theorem SVOnes.take : ∀ (n : Nat) {xs : List SV} {vs : List Value}, SVOnes w S μ objs xs vs → SVOnes w S μ objs (xs.take n) (vs.take n)
  | 0, _, _, _ => rfl
  | _ + 1, [], _, h => by have h : _ = _ := h; subst h; rfl
  | n + 1, _ :: _, _, ⟨u, _, h1, h0, h2, h3⟩ => by subst h1; exact ⟨u, _, rfl, h0, h2, SVOnes.take n h3⟩
theorem SVOnes.get : ∀ {xs : List SV} {vs : List Value} {j : Nat} {x : SV}, SVOnes w S μ objs xs vs → xs[j]? = some x → ∃ v, vs[j]? = some v ∧ v.oneCell' = true ∧ SVRel w S μ objs x v
  | [], _, _, _, _, k => by simp at k
  | y :: _, _, 0, x, ⟨u, us, h1, h0, h2, _⟩, k => by
    subst h1
    have : y = x := by simpa using k
    subst this; exact ⟨u, rfl, h0, h2⟩
  | _ :: _, _, j + 1, _, ⟨_, us, h1, _, _, h3⟩, k => by
    subst h1
    obtain ⟨v, h4, h5⟩ := SVOnes.get (j := j) h3 (by simpa using k)
    exact ⟨v, by simpa using h4, h5⟩
theorem SVOnes.set : ∀ {xs : List SV} {vs : List Value} (j : Nat) {x : SV} {v : Value}, SVOnes w S μ objs xs vs → v.oneCell' = true → SVRel w S μ objs x v → SVOnes w S μ objs (xs.set j x) (vs.set j v)
  | [], _, _, _, _, h, _, _ => by have h : _ = _ := h; subst h; rfl
  | _ :: _, _, 0, _, v, ⟨_, us, h1, _, _, h3⟩, k0, k => by subst h1; exact ⟨v, us, rfl, k0, k, h3⟩
  | _ :: _, _, j + 1, _, _, ⟨u, us, h1, h0, h2, h3⟩, k0, k => by subst h1; exact ⟨u, _, rfl, h0, h2, SVOnes.set j h3 k0 k⟩
theorem SVOnes.oneCells : ∀ {xs : List SV} {vs : List Value}, SVOnes w S μ objs xs vs → ∀ v ∈ vs, v.oneCell' = true
  | [], _, h => by have h : _ = _ := h; subst h; simp
  | _ :: _, _, ⟨u, us, h1, h0, _, h3⟩ => by
    subst h1
    intro v hv
    rcases List.mem_cons.1 hv with rfl | hv
    · exact h0
    · exact SVOnes.oneCells h3 v hv
theorem SVOnes.ofRep : ∀ {xs : List IV} {vs : List Value}, RepOnes w S xs vs → SVOnes w S μ objs (xs.map .val) vs
  | [], _, h => h
  | _ :: _, _, ⟨u, us, h1, h0, h2, h3⟩ => ⟨u, us, h1, IV.one_oneCell h0 h2, h2, SVOnes.ofRep h3⟩
end lists

/-- All immutable. -/
def allVal : List SV → Option (List IV)
  | [] => some []
  | .val v :: r => match allVal r with
    | some vs => some (v :: vs)
    | none => none
  | _ :: _ => none
theorem allVal_spec : ∀ {xs : List SV} {ys : List IV}, allVal xs = some ys → xs = ys.map .val
  | [], ys, h => by simp [allVal] at h; subst h; rfl
  | .val v :: r, ys, h => by
    simp only [allVal] at h
    split at h
    · next vs hv => simp at h; subst h; simp [allVal_spec hv]
    · simp at h
  | .undef :: _, _, h => by simp [allVal] at h
  | .nils :: _, _, h => by simp [allVal] at h
  | .full _ :: _, _, h => by simp [allVal] at h
  | .own _ _ :: _, _, h => by simp [allVal] at h
  | .loc _ _ :: _, _, h => by simp [allVal] at h
  | .eloc _ _ _ _ :: _, _, h => by simp [allVal] at h
  | .agg _ :: _, _, h => by simp [allVal] at h
  | .clo _ _ :: _, _, h => by simp [allVal] at h
  | .ifc _ _ :: _, _, h => by simp [allVal] at h
theorem SVOnes.toRep {w : World} {S : Stab} {μ : Nat → Value} {objs : List (Nat × Ob)} : ∀ {xs : List IV} {vs : List Value}, SVOnes w S μ objs (xs.map .val) vs → RepOnes w S xs vs
  | [], _, h => h
  | _ :: _, _, ⟨u, us, h1, h0, h2, h3⟩ => ⟨u, us, h1, IV.oneCell_one h0 h2, h2, SVOnes.toRep h3⟩

end Go.Vs
