/- Value semantics: what a caller knows behind a call that turns objects. No conditions. -/
import Derived.Test.YtjfleklkloohgaaVm1
set_option linter.unusedVariables false
set_option linter.unusedSimpArgs false
namespace Go.Vs

/-- The values that come in: by name, or as immutable ones. -/
def mArgs (objs : List (Nat × Ob)) (ρ : List (Nat × Nat)) : List SV → List SV → List Nat → Prop
  | [], [], fz => fz = []
  | x :: xs, .val iv :: ys, fz => ∃ f g, toIV objs x = some (iv, f) ∧ mArgs objs ρ xs ys g ∧ fz = f ++ g
  | x :: xs, y :: ys, fz => x = y.ren ρ ∧ mArgs objs ρ xs ys fz
  | _, _, _ => False
def mObjs (objs : List (Nat × Ob)) (ρ : List (Nat × Nat)) : List (Nat × Ob) → Prop
  | [] => True
  | (i, o) :: r => look objs (ren ρ i) = some (o.ren ρ) ∧ mObjs objs ρ r
theorem mObjs_get {objs : List (Nat × Ob)} {ρ : List (Nat × Nat)} : ∀ {l : List (Nat × Ob)}, mObjs objs ρ l → ∀ i o, look l i = some o → look objs (ren ρ i) = some (o.ren ρ)
  | [], _, _, _, h => by simp [look] at h
  | (j, x) :: r, hm, i, o, h => by
    simp only [look] at h
    cases hj : j == i
    · rw [hj] at h; exact mObjs_get hm.2 i o h
    · rw [hj] at h
      rw [beq_iff_eq] at hj
      simp only [cond_true, Option.some.injEq] at h
      subst h; subst hj
      exact hm.1

def sameKind : Ob → Option Ob → Bool
  | .box _, some (.box _) => true
  | .arr _ s _, some (.arr _ s' _) => s == s'
  | _, _ => false
def newName (ρ : List (Nat × Nat)) (objs : List (Nat × Ob)) : List (Nat × Ob) → Nat → Bool
  | [], _ => false
  | (i, _) :: r, id => ((look objs i).isNone && ren ρ i == id) || newName ρ objs r id
def mOk1 (σ : St) (ρ : List (Nat × Nat)) (objs' : List (Nat × Ob)) : List (Nat × Ob) → Bool
  | [] => true
  | (i, o) :: r => !σ.ro.contains (ren ρ i) && sameKind o (look objs' i) && mOk1 σ ρ objs' r
def noKey (ρ : List (Nat × Nat)) (id : Nat) : List (Nat × Ob) → Bool
  | [] => true
  | (j, _) :: r => !(ren ρ j == id) && noKey ρ id r
def mInj (ρ : List (Nat × Nat)) : List (Nat × Ob) → Bool
  | [] => true
  | (i, _) :: r => noKey ρ (ren ρ i) r && mInj ρ r
def mNew (σ : St) (ρ : List (Nat × Nat)) (objs : List (Nat × Ob)) : List (Nat × Ob) → Bool
  | [] => true
  | (i, _) :: r => ((look objs i).isSome || ((look σ.objs (ren ρ i)).isNone && decide (ren ρ i < σ.n))) && mNew σ ρ objs r
def mFz (ρ : List (Nat × Nat)) (fz : List Nat) : List (Nat × Ob) → Bool
  | [] => true
  | (i, _) :: r => !fz.contains (ren ρ i) && mFz ρ fz r
theorem mFz_get {ρ : List (Nat × Nat)} {fz : List Nat} : ∀ {l : List (Nat × Ob)}, mFz ρ fz l = true → ∀ i o, look l i = some o → ren ρ i ∉ fz
  | [], _, _, _, h => by simp [look] at h
  | (j, x) :: r, hn, i, o, h => by
    simp only [mFz, Bool.and_eq_true, Bool.not_eq_true'] at hn
    simp only [look] at h
    cases hj : j == i
    · rw [hj] at h; exact mFz_get hn.2 i o h
    · rw [beq_iff_eq] at hj; subst hj; simpa using hn.1
def mOk (σ : St) (ρ : List (Nat × Nat)) (c : MC) : Bool :=
  mOk1 σ ρ c.objs' c.objs && mInj ρ c.objs' && mNew σ ρ c.objs c.objs' && clearE (newName ρ c.objs c.objs') σ.env && clearO (newName ρ c.objs c.objs') σ.objs && c.res.inKeys c.objs' && inKeysO c.objs' c.objs'

def mPut (objs : List (Nat × Ob)) (ρ : List (Nat × Nat)) : List (Nat × Ob) → List (Nat × Ob)
  | [] => objs
  | (i, o) :: r => put (mPut objs ρ r) (ren ρ i) (o.ren ρ)
def mFlat (c : MC) : Bool := c.res.flat && flatO c.objs'
def St.mapply (σ : St) (dst : Option Nat) (ρ : List (Nat × Nat)) (c : MC) (fz : List Nat) : St :=
  ⟨putD σ.env dst (c.res.ren ρ), mPut σ.objs ρ c.objs', c.ro'.map (ren ρ) ++ ((bif mFlat c then [] else fz) ++ σ.ro), σ.n, σ.gl⟩

def back (ρ : List (Nat × Nat)) : List (Nat × Ob) → Nat → Option Nat
  | [], _ => none
  | (i, _) :: r, id => bif ren ρ i == id then some i else back ρ r id
theorem back_some {ρ : List (Nat × Nat)} : ∀ {l : List (Nat × Ob)} {id i : Nat}, back ρ l id = some i → ren ρ i = id ∧ ∃ o, look l i = some o
  | [], _, _, h => by simp [back] at h
  | (j, x) :: r, id, i, h => by
    simp only [back] at h
    cases hj : ren ρ j == id
    · rw [hj] at h
      obtain ⟨h1, o, h2⟩ := back_some h
      refine ⟨h1, ?_⟩
      simp only [look]
      cases j == i
      · exact ⟨o, h2⟩
      · exact ⟨x, rfl⟩
    · rw [hj] at h
      rw [beq_iff_eq] at hj
      simp only [cond_true, Option.some.injEq] at h
      subst h
      exact ⟨hj, x, by simp [look]⟩
theorem noKey_spec {ρ : List (Nat × Nat)} {id : Nat} : ∀ {l : List (Nat × Ob)}, noKey ρ id l = true → ∀ i o, look l i = some o → ren ρ i ≠ id
  | [], _, _, _, h => by simp [look] at h
  | (j, x) :: r, hk, i, o, h => by
    simp only [noKey, Bool.and_eq_true, Bool.not_eq_true', beq_eq_false_iff_ne] at hk
    simp only [look] at h
    cases hj : j == i
    · rw [hj] at h; exact noKey_spec hk.2 i o h
    · rw [beq_iff_eq] at hj; subst hj; exact hk.1
theorem back_ren {ρ : List (Nat × Nat)} : ∀ {l : List (Nat × Ob)}, mInj ρ l = true → ∀ i o, look l i = some o → back ρ l (ren ρ i) = some i
  | [], _, _, _, h => by simp [look] at h
  | (j, x) :: r, hk, i, o, h => by
    simp only [mInj, Bool.and_eq_true] at hk
    simp only [look] at h
    simp only [back]
    cases hj : j == i
    · rw [hj] at h
      have : ren ρ i ≠ ren ρ j := noKey_spec hk.1 i o h
      have : (ren ρ j == ren ρ i) = false := by simpa using this.symm
      rw [this]
      exact back_ren hk.2 i o h
    · rw [beq_iff_eq] at hj; subst hj; simp
theorem back_none {ρ : List (Nat × Nat)} : ∀ {l : List (Nat × Ob)} {id : Nat}, back ρ l id = none → ∀ i o, look l i = some o → ren ρ i ≠ id
  | [], _, _, _, _, h => by simp [look] at h
  | (j, x) :: r, id, hb, i, o, h => by
    simp only [back] at hb
    cases hj : ren ρ j == id
    · rw [hj] at hb
      simp only [look] at h
      cases hji : j == i
      · rw [hji] at h; exact back_none hb i o h
      · rw [beq_iff_eq] at hji; subst hji; simpa using hj
    · rw [hj] at hb; simp at hb
theorem mPut_look {objs : List (Nat × Ob)} {ρ : List (Nat × Nat)} : ∀ {l : List (Nat × Ob)}, mInj ρ l = true → ∀ id, look (mPut objs ρ l) id = match back ρ l id with
    | some i => (look l i).map (Ob.ren ρ)
    | none => look objs id
  | [], _, _ => rfl
  | (j, x) :: r, hk, id => by
    simp only [mInj, Bool.and_eq_true] at hk
    simp only [mPut, back]
    rw [look_put]
    by_cases hj : id = ren ρ j
    · subst hj
      simp [look]
    · rw [if_neg hj, mPut_look hk.2]
      have : (ren ρ j == id) = false := by simpa using (fun e => hj e.symm)
      rw [this, cond_false]
      cases hb : back ρ r id with
      | none => rfl
      | some i =>
        simp only [look]
        obtain ⟨h1, o, h2⟩ := back_some hb
        cases hji : j == i
        · rfl
        · exfalso
          rw [beq_iff_eq] at hji
          subst hji
          exact hj h1.symm

theorem newName_spec {ρ : List (Nat × Nat)} {objs : List (Nat × Ob)} : ∀ {l : List (Nat × Ob)} {i : Nat} {o : Ob}, look l i = some o → look objs i = none → newName ρ objs l (ren ρ i) = true
  | [], _, _, h, _ => by simp [look] at h
  | (j, x) :: r, i, o, h, hn => by
    simp only [look] at h
    simp only [newName, Bool.or_eq_true, Bool.and_eq_true]
    cases hj : j == i
    · rw [hj] at h; exact .inr (newName_spec h hn)
    · rw [beq_iff_eq] at hj; subst hj; left; simp [hn]
theorem newName_lt {σ : St} {ρ : List (Nat × Nat)} {objs : List (Nat × Ob)} : ∀ {l : List (Nat × Ob)} {id : Nat}, mNew σ ρ objs l = true → newName ρ objs l id = true → id < σ.n
  | [], _, _, h => by simp [newName] at h
  | (j, x) :: r, id, hn, h => by
    simp only [mNew, Bool.and_eq_true, Bool.or_eq_true, decide_eq_true_eq] at hn
    simp only [newName, Bool.or_eq_true, Bool.and_eq_true, beq_iff_eq] at h
    rcases h with ⟨h1, rfl⟩ | h
    · rcases hn.1 with h2 | h2
      · cases hl : look objs j <;> simp [hl] at h1 h2
      · exact h2.2
    · exact newName_lt hn.2 h
theorem mNew_get {σ : St} {ρ : List (Nat × Nat)} {objs : List (Nat × Ob)} : ∀ {l : List (Nat × Ob)}, mNew σ ρ objs l = true → ∀ i o, look l i = some o → look objs i = none → look σ.objs (ren ρ i) = none
  | [], _, _, _, h, _ => by simp [look] at h
  | (j, x) :: r, hn, i, o, h, hno => by
    simp only [mNew, Bool.and_eq_true, Bool.or_eq_true, decide_eq_true_eq] at hn
    simp only [look] at h
    cases hj : j == i
    · rw [hj] at h; exact mNew_get hn.2 i o h hno
    · rw [beq_iff_eq] at hj; subst hj
      rcases hn.1 with h2 | h2
      · rw [hno] at h2; simp at h2
      · simpa using h2.1
theorem mOk1_get {σ : St} {ρ : List (Nat × Nat)} {objs' : List (Nat × Ob)} : ∀ {l : List (Nat × Ob)}, mOk1 σ ρ objs' l = true → ∀ i o, look l i = some o → ren ρ i ∉ σ.ro ∧ sameKind o (look objs' i) = true
  | [], _, _, _, h => by simp [look] at h
  | (j, x) :: r, hn, i, o, h => by
    simp only [mOk1, Bool.and_eq_true, Bool.not_eq_true'] at hn
    simp only [look] at h
    cases hj : j == i
    · rw [hj] at h; exact mOk1_get hn.2 i o h
    · rw [hj] at h
      rw [beq_iff_eq] at hj; subst hj
      simp only [cond_true, Option.some.injEq] at h
      subst h
      exact ⟨by simpa using hn.1.1, hn.1.2⟩
theorem inKeysO_get {l' : List (Nat × Ob)} : ∀ {l : List (Nat × Ob)}, inKeysO l' l = true → ∀ i o, look l i = some o → o.inKeys l' = true
  | [], _, _, _, h => by simp [look] at h
  | (j, x) :: r, hn, i, o, h => by
    simp only [inKeysO, Bool.and_eq_true] at hn
    simp only [look] at h
    cases hj : j == i
    · rw [hj] at h; exact inKeysO_get hn.2 i o h
    · rw [hj] at h; simp only [cond_true, Option.some.injEq] at h; subst h; exact hn.1

mutual
theorem clear_of_far {D : Nat → Bool} {n : Nat} (hD : ∀ i, D i = true → i < n) : ∀ x : SV, (∀ d, d < n → x.noRef d = true) → x.clear D = true
  | .undef, _ => rfl
  | .val _, _ => rfl
  | .nils, _ => rfl
  | .full _, _ => rfl
  | .own id _, h => by
    simp only [SV.clear, Bool.not_eq_true']
    cases hd : D id with
    | false => rfl
    | true => have := h id (hD id hd); simp [SV.noRef] at this
  | .loc id _, h => by
    simp only [SV.clear, Bool.not_eq_true']
    cases hd : D id with
    | false => rfl
    | true => have := h id (hD id hd); simp [SV.noRef] at this
  | .eloc id _ _ _, h => by
    simp only [SV.clear, Bool.not_eq_true']
    cases hd : D id with
    | false => rfl
    | true => have := h id (hD id hd); simp [SV.noRef] at this
  | .view id _ _ _, h => by
    simp only [SV.clear, Bool.not_eq_true']
    cases hd : D id with
    | false => rfl
    | true => have := h id (hD id hd); simp [SV.noRef] at this
  | .agg cells, h => clearL_of_far hD cells h
  | .clo _ caps, h => clearL_of_far hD caps h
  | .ifc _ v, h => clear_of_far hD v h
  | .anyB, _ => rfl
theorem clearL_of_far {D : Nat → Bool} {n : Nat} (hD : ∀ i, D i = true → i < n) : ∀ x : List SV, (∀ d, d < n → SV.noRefs d x = true) → clearL D x = true
  | [], _ => rfl
  | x :: xs, h => by
    simp only [clearL, Bool.and_eq_true]
    have h' : ∀ d, d < n → x.noRef d = true ∧ SV.noRefs d xs = true := fun d hd => by simpa [SV.noRefs] using h d hd
    exact ⟨clear_of_far hD x (fun d hd => (h' d hd).1), clearL_of_far hD xs (fun d hd => (h' d hd).2)⟩
end

section
variable {P : Program} {w0 w : World} {S0 S : Stab} {M : Ctx} {σ : St} {a : Act} {μ : Nat → Value} {β : Nat → Option Nat} {o : Oper}

theorem mArgs_sound (h : SimG w0 S0 M σ a w S μ β) {ρ : List (Nat × Nat)} {objs' : List (Nat × Ob)} (hl : ∀ i o, look objs' i = some o → look σ.objs (ren ρ i) = some (o.ren ρ)) : ∀ {xs ys : List SV} {fz fz' : List Nat} {vs : List Value}, mArgs σ.objs ρ xs ys fz → (∀ i, i ∈ fz → i ∈ fz') →
    SVList w S μ σ.objs xs vs → SVList w (Plus S β σ.objs fz') (fun i => μ (ren ρ i)) objs' ys vs := by
  intro xs
  induction xs with
  | nil =>
    intro ys fz fz' vs hm hf hr
    cases ys with
    | nil => exact hr
    | cons y ys => simp [mArgs] at hm
  | cons x xs ih =>
    intro ys fz fz' vs hm hf hr
    obtain ⟨u, us, h1, h2, h3⟩ := hr
    cases ys with
    | nil => simp [mArgs] at hm
    | cons y ys =>
      have named : x = y.ren ρ ∧ mArgs σ.objs ρ xs ys fz → SVList w (Plus S β σ.objs fz') (fun i => μ (ren ρ i)) objs' (y :: ys) vs := by
        rintro ⟨rfl, hm2⟩
        exact ⟨u, us, h1, SVRel.unren hl (fun _ _ _ => rfl) y u (SVRel.mono (Keeps.refl _ _) (fun _ _ x => .inl x) _ _ h2), ih hm2 hf h3⟩
      cases y with
      | val iv =>
        obtain ⟨f, g, e1, e2, rfl⟩ := hm
        exact ⟨u, us, h1, toIV_sound h e1 (fun i hi => hf i (List.mem_append_left _ hi)) h2, ih e2 (fun i hi => hf i (List.mem_append_right _ hi)) h3⟩
      | _ => exact named hm

/-- BEHIND THE CALL. -/
theorem mcall_after (h : SimG w0 S0 M σ a w S μ β) {dst : Option Nat} (hd : ∀ d, dst = some d → d < σ.n) {c : MC} {ρ : List (Nat × Nat)} {fz : List Nat} (hok : mOk σ ρ c = true) (hobjs : mObjs σ.objs ρ c.objs)
    {w' : World} {v : Value} {S' : Stab} {μ' : Nat → Value} {β' : Nat → Option Nat}
    (r1 : SVRel w' S' μ' c.objs' c.res v) (r2 : ∀ id o, look c.objs' id = some o → ObRel w' S' μ' c.objs' (β' id) (μ' id) o)
    (r3 : ∀ id id' o o' b, look c.objs' id = some o → look c.objs' id' = some o' → β' id = some b → β' id' = some b → id = id')
    (r4 : ∀ id o b, look c.objs' id = some o → β' id = some b → w.heap.size ≤ b ∨ ∃ i x, look c.objs i = some x ∧ β (ren ρ i) = some b)
    (r5 : ∀ id o b off, look c.objs' id = some o → β' id = some b → S' b off → id ∈ c.ro' ∧ ∀ ver s rows, o = .arr ver s rows → off < rows.length * s)
    (r6 : ∀ b o, S' b o → b < w'.heap.size) (r7 : ∀ b o, Plus S β σ.objs fz b o → S' b o)
    (r8 : ∀ b o, S' b o → Plus S β σ.objs fz b o ∨ w.heap.size ≤ b ∨ ∃ i x, look c.objs i = some x ∧ β (ren ρ i) = some b)
    (r9 : Kept (fun b => ∃ i x, look c.objs i = some x ∧ β (ren ρ i) = some b) w w')
    (r10 : ∀ id o, look c.objs id = some o → SVRel w' S' μ' c.objs' (hdl id o) (μ (ren ρ id))) :
    Sim w0 S0 M (σ.mapply dst ρ c fz) (a.put dst v) w' := by
  simp only [mOk, Bool.and_eq_true] at hok
  obtain ⟨⟨⟨⟨⟨⟨k1, k2⟩, k3⟩, k4⟩, k5⟩, k6⟩, k7⟩ := hok
  have hlook := fun id => mPut_look (objs := σ.objs) (l := c.objs') k2 id
  have hfoot : ∀ {b : Nat}, (∃ i x, look c.objs i = some x ∧ β (ren ρ i) = some b) → ∃ i x, look c.objs i = some x ∧ look σ.objs (ren ρ i) = some (x.ren ρ) ∧ β (ren ρ i) = some b ∧ ren ρ i ∉ σ.ro := by
    rintro b ⟨i, x, h1, h2⟩
    exact ⟨i, x, h1, mObjs_get hobjs i x h1, h2, (mOk1_get k1 i x h1).1⟩
  have hlive : ∀ id x b, look σ.objs id = some x → β id = some b → b < w.heap.size := fun id x b hx hb => ObRel.live hb (h.objs id x hx)
  have hnoS : ∀ {b off : Nat}, (∃ i x, look c.objs i = some x ∧ β (ren ρ i) = some b) → ¬ S b off := by
    intro b off hf hS
    obtain ⟨i, x, h1, h2, h3, h4⟩ := hfoot hf
    exact h4 (h.unst _ _ b off h2 h3 hS).1
  have hblk : ∀ b, b < w.heap.size → ¬ (∃ i x, look c.objs i = some x ∧ β (ren ρ i) = some b) → w'.heap[b]? = w.heap[b]? := fun b hb hn => r9.block b hb hn
  have hkeeps : Keeps S w w' := fun b off hS => cell_of_heap (hblk b (h.stab b off hS) (fun hf => hnoS hf hS)) off
  -- the stable cells that are told from here on
  obtain ⟨S'', s1, s2, s3, s4, s5, s6, s7⟩ : ∃ S'' : Stab, (∀ b off, S b off → S'' b off) ∧ (∀ b off, S'' b off → b < w'.heap.size) ∧
      (∀ b off, S'' b off → S0 b off ∨ w0.heap.size ≤ b ∨ M.blocks b) ∧
      SVRel w' S'' μ' c.objs' c.res v ∧ (∀ id o, look c.objs' id = some o → ObRel w' S'' μ' c.objs' (β' id) (μ' id) o) ∧
      (∀ id o b off, look c.objs' id = some o → β' id = some b → S'' b off → id ∈ c.ro' ∧ ∀ ver s rows, o = .arr ver s rows → off < rows.length * s) ∧
      (∀ id o b off, look σ.objs id = some o → β id = some b → back ρ c.objs' id = none → S'' b off → id ∈ (bif mFlat c then [] else fz) ++ σ.ro ∧ ∀ ver s rows, o = .arr ver s rows → off < rows.length * s) := by
    cases hfl : mFlat c with
    | true =>
      simp only [mFlat, Bool.and_eq_true] at hfl
      refine ⟨S, fun _ _ x => x, fun b off hS => Nat.lt_of_lt_of_le (h.stab b off hS) r9.size, h.back, SV.flat_rel _ _ hfl.1 r1, fun id o hl => ObRel.flat (flatO_get hfl.2 id o hl) (r2 id o hl), ?_, ?_⟩
      · intro id o b off hl hb hS
        exfalso
        rcases r4 id o b hl hb with h1 | h1
        · have := h.stab b off hS; omega
        · exact hnoS h1 hS
      · intro id o b off hl hb _ hS
        exact h.unst id o b off hl hb hS
    | false =>
      refine ⟨S', fun b off hS => r7 b off (.inl hS), r6, ?_, r1, r2, r5, ?_⟩
      · intro b off hS
        rcases r8 b off hS with h1 | h1 | h1
        · exact (h.freeze fz).back b off h1
        · have := h.kept.size; exact .inr (.inl (by omega))
        · obtain ⟨i, x, _, h2, h3, _⟩ := hfoot h1
          exact .inr (h.own _ _ b h2 h3)
      · intro id o b off hl hb hbk hS
        rcases r8 b off hS with h1 | h1 | h1
        · exact (h.freeze fz).unst id o b off hl hb h1
        · have := hlive id o b hl hb; omega
        · exfalso
          obtain ⟨i, x, h2, h3, h4, _⟩ := hfoot h1
          have hid := h.inj id _ o _ b hl h3 hb h4
          have hsk := (mOk1_get k1 i x h2).2
          cases hl' : look c.objs' i with
          | none => rw [hl'] at hsk; cases x <;> simp [sameKind] at hsk
          | some y => exact back_none hbk i y hl' hid.symm
  -- where the objects lie now
  refine ⟨S'', fun id => match back ρ c.objs' id with | some i => μ' i | none => μ id, fun id => match back ρ c.objs' id with | some i => β' i | none => β id, ?_⟩
  have hD : ∀ id, newName ρ c.objs c.objs' id = true → id < σ.n := fun id hn => newName_lt k3 hn
  have hb : ∀ id cells, newName ρ c.objs c.objs' id = false → look (mPut σ.objs ρ c.objs') id = some (.box cells) → ∃ cells', look σ.objs id = some (.box cells') ∧ (match back ρ c.objs' id with | some i => μ' i | none => μ id) = μ id := by
    intro id cells hD hl
    rw [hlook] at hl
    cases hbk : back ρ c.objs' id with
    | none => rw [hbk] at hl; exact ⟨cells, hl, rfl⟩
    | some i =>
      rw [hbk] at hl
      obtain ⟨rfl, y, hy⟩ := back_some hbk
      cases hx : look c.objs i with
      | none => rw [newName_spec hy hx] at hD; simp at hD
      | some x =>
        have hsk := (mOk1_get k1 i x hx).2
        simp only [hy, Option.map_some, Option.some.injEq] at hl
        rw [hy] at hsk
        cases y with
        | arr _ _ _ => simp [Ob.ren] at hl
        | box cy =>
          cases x with
          | arr _ _ _ => simp [sameKind] at hsk
          | box cx =>
            obtain ⟨b, e1, e2⟩ := r10 i _ hx _ hy
            exact ⟨_, mObjs_get hobjs i _ hx, by simp only; rw [e1, e2]⟩
  have ha : ∀ id cv s rows, newName ρ c.objs c.objs' id = false → look (mPut σ.objs ρ c.objs') id = some (.arr cv s rows) → ∃ cv' rows', look σ.objs id = some (.arr cv' s rows') ∧ cv' ≤ cv ∧ (cv' = cv → rows'.length = rows.length ∧ (match back ρ c.objs' id with | some i => μ' i | none => μ id) = μ id) := by
    intro id cv s rows hD hl
    rw [hlook] at hl
    cases hbk : back ρ c.objs' id with
    | none => rw [hbk] at hl; exact ⟨cv, rows, hl, Nat.le_refl _, fun _ => ⟨rfl, rfl⟩⟩
    | some i =>
      rw [hbk] at hl
      obtain ⟨rfl, y, hy⟩ := back_some hbk
      cases hx : look c.objs i with
      | none => rw [newName_spec hy hx] at hD; simp at hD
      | some x =>
        have hsk := (mOk1_get k1 i x hx).2
        simp only [hy, Option.map_some, Option.some.injEq] at hl
        rw [hy] at hsk
        cases y with
        | box _ => simp [Ob.ren] at hl
        | arr cv1 s1 rows1 =>
          simp only [Ob.ren, Ob.arr.injEq] at hl
          obtain ⟨rfl, rfl, rfl⟩ := hl
          cases x with
          | box cx => simp [sameKind] at hsk
          | arr cv0 s0 rows0 =>
            simp only [sameKind, beq_iff_eq] at hsk
            subst hsk
            have hσ := mObjs_get hobjs i _ hx
            obtain ⟨e1, e2⟩ := r10 i _ hx _ _ _ hy
            refine ⟨cv0, rows0, hσ, e1, fun e => ?_⟩
            have e3 := e2 e
            refine ⟨?_, e3.symm⟩
            have o1 := h.objs _ _ hσ
            have o2 := r2 i _ hy
            rw [← e3] at o2
            rcases o1 with ⟨z1, _, x1, z2⟩ | ⟨_, _, _, _, _, _, z2, _⟩ <;> rcases o2 with ⟨z3, _, x2, z4⟩ | ⟨_, _, _, _, _, _, z4, _⟩
            · rw [z1, z3]
            · rw [z2] at z4; simp only [Value.slice.injEq] at z4; rw [z1, ← z4.2.1]; rfl
            · rw [z2] at z4; simp only [Value.slice.injEq] at z4; rw [z3, z4.2.1]; rfl
            · rw [z2] at z4; simp only [Value.slice.injEq] at z4; exact z4.2.1
  have hren : ∀ i o, look c.objs' i = some o → look (mPut σ.objs ρ c.objs') (ren ρ i) = some (o.ren ρ) := by
    intro i o hl
    simp only [hlook, back_ren k2 i o hl, hl, Option.map_some]
  have hmu : ∀ i o, look c.objs' i = some o → (match back ρ c.objs' (ren ρ i) with | some j => μ' j | none => μ (ren ρ i)) = μ' i := by
    intro i o hl
    simp only [back_ren k2 i o hl]
  have base : SimG w0 S0 M { σ with objs := mPut σ.objs ρ c.objs', ro := c.ro'.map (ren ρ) ++ ((bif mFlat c then [] else fz) ++ σ.ro) } a w' S'' (fun id => match back ρ c.objs' id with | some i => μ' i | none => μ id) (fun id => match back ρ c.objs' id with | some i => β' i | none => β id) := by
    refine { defers := h.defers, size := h.size, env := ?_, objs := ?_, inj := ?_, own := ?_, unst := ?_, stab := s2, ext := fun b o hS => s1 b o (h.ext b o hS), back := s3, kept := ?_, hist := ?_, far := h.far, glob := ?_ }
    · intro k
      exact SVRel.step hb ha _ _ (clearE_get k4 k) (SVRel.mono hkeeps s1 _ _ (h.env k))
    · intro id o hl
      have hl' := hl
      rw [hlook] at hl
      cases hbk : back ρ c.objs' id with
      | none =>
        rw [hbk] at hl
        have ho := h.objs id o hl
        have hnf : ∀ b, β id = some b → ¬ (∃ i x, look c.objs i = some x ∧ β (ren ρ i) = some b) := by
          intro b hbb hf
          obtain ⟨i, x, h2, h3, h4, _⟩ := hfoot hf
          have hid := h.inj id _ o _ b hl h3 hbb h4
          have hsk := (mOk1_get k1 i x h2).2
          cases hl' : look c.objs' i with
          | none => rw [hl'] at hsk; cases x <;> simp [sameKind] at hsk
          | some y => exact back_none hbk i y hl' hid.symm
        have ho' := ObRel.move hkeeps s1 (fun b hbb => hblk b (hlive id o b hl hbb) (hnf b hbb)) ho
        have hcl := clearO_get k5 id o hl
        cases o with
        | arr v' s' r' => exact ho'
        | box cells =>
          obtain ⟨b, vs, e, fr, q1, q2, q3, q4, q5⟩ := ho'
          exact ⟨b, vs, e, fr, q1, q2, q3, q4, SVOnes.step hb ha _ _ hcl q5⟩
      | some i =>
        rw [hbk] at hl
        obtain ⟨rfl, y, hy⟩ := back_some hbk
        simp only [hy, Option.map_some, Option.some.injEq] at hl
        subst hl
        have ho := s5 i y hy
        have hik := inKeysO_get k7 i y hy
        cases y with
        | arr v' s' r' => exact ho
        | box cells =>
          obtain ⟨b, vs, e, fr, q1, q2, q3, q4, q5⟩ := ho
          exact ⟨b, vs, e, fr, q1, q2, q3, q4, SVOnes.renamed hren hmu _ _ hik q5⟩
    · intro id id' o o' b hl hl' hbb hbb'
      rw [hlook] at hl hl'
      cases hbk : back ρ c.objs' id with
      | none =>
        simp only [hbk] at hl hbb
        cases hbk' : back ρ c.objs' id' with
        | none =>
          simp only [hbk'] at hl' hbb'
          exact h.inj id id' o o' b hl hl' hbb hbb'
        | some i =>
          exfalso
          simp only [hbk'] at hl' hbb'
          obtain ⟨rfl, y, hy⟩ := back_some hbk'
          rcases r4 i y b hy hbb' with h1 | h1
          · have := hlive id o b hl hbb; omega
          · obtain ⟨j, x, h2, h3, h4, _⟩ := hfoot h1
            have hid := h.inj id _ o _ b hl h3 hbb h4
            have hsk := (mOk1_get k1 j x h2).2
            cases hl' : look c.objs' j with
            | none => rw [hl'] at hsk; cases x <;> simp [sameKind] at hsk
            | some y => exact back_none hbk j y hl' hid.symm
      | some i =>
        simp only [hbk] at hl hbb
        obtain ⟨rfl, y, hy⟩ := back_some hbk
        cases hbk' : back ρ c.objs' id' with
        | none =>
          exfalso
          simp only [hbk'] at hl' hbb'
          rcases r4 i y b hy hbb with h1 | h1
          · have := hlive id' o' b hl' hbb'; omega
          · obtain ⟨j, x, h2, h3, h4, _⟩ := hfoot h1
            have hid := h.inj id' _ o' _ b hl' h3 hbb' h4
            have hsk := (mOk1_get k1 j x h2).2
            cases hl'' : look c.objs' j with
            | none => rw [hl''] at hsk; cases x <;> simp [sameKind] at hsk
            | some y => exact back_none hbk' j y hl'' hid.symm
        | some i' =>
          simp only [hbk'] at hl' hbb'
          obtain ⟨rfl, y', hy'⟩ := back_some hbk'
          rw [r3 i i' y y' b hy hy' hbb hbb']
    · intro id o b hl hbb
      rw [hlook] at hl
      cases hbk : back ρ c.objs' id with
      | none => simp only [hbk] at hl hbb; exact h.own id o b hl hbb
      | some i =>
        simp only [hbk] at hl hbb
        obtain ⟨rfl, y, hy⟩ := back_some hbk
        rcases r4 i y b hy hbb with h1 | h1
        · have := h.kept.size; exact .inl (by omega)
        · obtain ⟨j, x, _, h3, h4, _⟩ := hfoot h1
          exact h.own _ _ b h3 h4
    · intro id o b off hl hbb hS
      rw [hlook] at hl
      cases hbk : back ρ c.objs' id with
      | none =>
        simp only [hbk] at hl hbb
        obtain ⟨q1, q2⟩ := s7 id o b off hl hbb hbk hS
        exact ⟨List.mem_append_right _ q1, q2⟩
      | some i =>
        simp only [hbk] at hl hbb
        obtain ⟨rfl, y, hy⟩ := back_some hbk
        obtain ⟨q1, q2⟩ := s6 i y b off hy hbb hS
        refine ⟨List.mem_append_left _ (List.mem_map_of_mem q1), fun ver s rows e => ?_⟩
        subst e
        simp only [hy, Option.map_some, Option.some.injEq] at hl
        cases y with
        | box _ => simp [Ob.ren] at hl
        | arr v1 s1 r1 =>
          simp only [Ob.ren, Ob.arr.injEq] at hl
          obtain ⟨_, rfl, rfl⟩ := hl
          exact q2 _ _ _ rfl
    · refine ⟨r9.os.trans h.kept.os, r9.tape.trans h.kept.tape, r9.output.trans h.kept.output, Nat.le_trans h.kept.size r9.size, fun k hk hM => ?_⟩
      rw [← h.kept.block k hk hM]
      refine hblk k (Nat.lt_of_lt_of_le hk h.kept.size) (fun hf => ?_)
      obtain ⟨i, x, _, h3, h4, _⟩ := hfoot hf
      rcases h.own _ _ k h3 h4 with h5 | h5
      · omega
      · exact hM h5
    · intro p hp
      exact SVRel.step hb ha _ _ (clear_of_far hD _ (h.far p hp)) (SVRel.mono hkeeps s1 _ _ (h.hist p hp))
    · intro p hp
      exact RepCells.mono hkeeps s1 _ _ _ (h.glob p hp)
  exact base.putD hd (SVRel.renamed hren hmu _ _ k6 s4)

def mVals (σ : St) (f : SV) (args : List Opd) : Option (FuncId × List SV) := match f with
  | .val (.fn k caps) => some (k, args.map (val σ) ++ caps.map .val)
  | .clo k caps => some (k, args.map (val σ) ++ caps)
  | _ => none

theorem SVList.append {objs : List (Nat × Ob)} : ∀ {xs ys : List SV} {us vs : List Value}, SVList w S μ objs xs us → SVList w S μ objs ys vs → SVList w S μ objs (xs ++ ys) (us ++ vs)
  | [], _, _, _, h, k => by have h : _ = _ := h; subst h; exact k
  | _ :: _, _, _, _, ⟨u, us', h1, h2, h3⟩, k => by subst h1; exact ⟨u, us' ++ _, rfl, h2, SVList.append h3 k⟩
theorem SVList.ofRep {objs : List (Nat × Ob)} : ∀ {xs : List IV} {vs : List Value}, RepList w S xs vs → SVList w S μ objs (xs.map .val) vs
  | [], _, h => h
  | _ :: _, _, ⟨u, us, h1, h2, h3⟩ => ⟨u, us, h1, h2, SVList.ofRep h3⟩

/-- A call that turns objects. -/
theorem mcall_wp (h : SimG w0 S0 M σ a w S μ β) (hd : ∀ d, o.dst = some d → d < σ.n) {c : Call} {f : Operand} (ho : o.op = .call c) (hcl : c.callee = .value f) {fv : SV} (hfv : SVRel w S μ σ.objs fv (a.eval f)) {args : List Opd} (hargs : compOpds c.args.toList = some args)
    {k : FuncId} {vals : List SV} (hca : mVals σ fv args = some (k, vals)) {mc : MC} (hF : FnM σ.gl P k mc) {ρ : List (Nat × Nat)} {fz : List Nat} (hok : mOk σ ρ mc = true) (hobjs : mObjs σ.objs ρ mc.objs) (hma : mArgs σ.objs ρ vals mc.args fz) (hfz : mFz ρ fz mc.objs = true) {next : Act → World → Prop} {Q : Exit → Act → World → Prop}
    (hn : ∀ v w', Sim w0 S0 M (σ.mapply o.dst ρ mc fz) (a.put o.dst v) w' → next (a.put o.dst v) w') : o.wp P a w next Q := by
  have har := opds_sound h hargs
  obtain ⟨caps', hev, hvals⟩ : ∃ caps' : Array Value, a.eval f = .func (.func k) #[] caps' ∧ SVList w S μ σ.objs vals ((c.args.toList.map a.eval) ++ caps'.toList) := by
    unfold mVals at hca
    split at hca
    · next k' caps =>
      simp only [Option.some.injEq, Prod.mk.injEq] at hca
      obtain ⟨rfl, rfl⟩ := hca
      obtain ⟨vs, h1, h2⟩ := hfv
      exact ⟨vs, h1, SVList.append har (SVList.ofRep h2)⟩
    · next k' caps =>
      simp only [Option.some.injEq, Prod.mk.injEq] at hca
      obtain ⟨rfl, rfl⟩ := hca
      obtain ⟨vs, h1, h2⟩ := hfv
      exact ⟨vs, h1, SVList.append har h2⟩
    · simp at hca
  obtain ⟨⟨fn, hfn, hname, hbody⟩, hcalls⟩ := hF
  have hrun : (execOp a.eval o).run P w = .ok (.enter k (c.args.map a.eval ++ caps')) w := by
    simp only [execOp, ho, resolve, hcl, hev, Deferred.ofValue, Sem.run_bind, Sem.run_pure, Result.andThen_ok, invoke, callFunc, run_program, hfn]
    rw [if_neg (by simpa using hname), if_neg (by cases hb : fn.body <;> simp_all)]
    simp
  unfold Oper.wp
  rw [hrun, Oper.upon_enter]
  have hv : c.args.map a.eval ++ caps' = ((c.args.toList.map a.eval) ++ caps'.toList).toArray := by
    apply Array.toList_inj.1; simp
  rw [hv]
  have hl := fun i o hlo => mObjs_get hobjs i o hlo
  have hok' := hok
  simp only [mOk, Bool.and_eq_true] at hok'
  obtain ⟨⟨⟨⟨⟨⟨k1, k2⟩, k3⟩, k4⟩, k5⟩, k6⟩, k7⟩ := hok'
  have hf := h.freeze fz
  have hinjO : ∀ id id' o o', look mc.objs id = some o → look mc.objs id' = some o' → ren ρ id = ren ρ id' → id = id' := by
    intro id id' o o' h1 h2 he
    have hs1 := (mOk1_get k1 id o h1).2
    have hs2 := (mOk1_get k1 id' o' h2).2
    cases hy1 : look mc.objs' id with
    | none => rw [hy1] at hs1; cases o <;> simp [sameKind] at hs1
    | some y1 =>
      cases hy2 : look mc.objs' id' with
      | none => rw [hy2] at hs2; cases o' <;> simp [sameKind] at hs2
      | some y2 =>
        have e1 := back_ren k2 id y1 hy1
        have e2 := back_ren k2 id' y2 hy2
        rw [he, e2] at e1
        simpa using e1.symm
  refine (hcalls w (Plus S β σ.objs fz) (fun i => μ (ren ρ i)) (fun i => β (ren ρ i)) _ hf.stab hf.glob (mArgs_sound h hl hma (fun _ x => x) hvals) ?_ ?_ ?_).mono ?_
  · intro id o hlo
    have hob := h.objs _ _ (hl id o hlo)
    cases o with
    | arr v s r => exact ObRel.arr_any (ObRel.move (o := .arr v s r) (Keeps.refl _ _) (fun _ _ x => Or.inl x) (fun _ _ => rfl) hob)
    | box cells =>
      obtain ⟨b, vs, e, fr, q1, q2, q3, q4, q5⟩ := hob
      exact ⟨b, vs, e, fr, q1, q2, q3, q4, SVOnes.unren hl (fun _ _ _ => rfl) _ _ (SVOnes.mono (Keeps.refl _ _) (fun _ _ x => .inl x) _ _ q5)⟩
  · intro id id' o o' b h1 h2 h3 h4
    exact hinjO id id' o o' h1 h2 (h.inj _ _ _ _ b (hl _ _ h1) (hl _ _ h2) h3 h4)
  · intro id o b off h1 h2 hS
    have hro := (mOk1_get k1 id o h1).1
    rcases hS with hS | ⟨i, x, e1, e2, e3, e4⟩
    · exact hro (h.unst _ _ b off (hl _ _ h1) h2 hS).1
    · have hid := h.inj _ _ _ _ b (hl _ _ h1) e2 h2 e3
      rw [← hid] at e1
      exact mFz_get hfz id o h1 e1
  · rintro e w' ⟨v, S', μ', β', rfl, r1, r2, r3, r4, r5, r6, r7, r8, r9, r10⟩
    exact hn v w' (mcall_after h hd hok hobjs r1 r2 r3 r4 r5 r6 r7 r8 r9 r10)
end
end Go.Vs
