/- Value semantics, part 15: operations of a region in whatever order its edges allow. No conditions. -/
import Derived.Test.YtjfleklkloohgaaVs14
set_option linter.unusedVariables false
set_option linter.unusedSimpArgs false
namespace Go.Vs

structure Eff where
  ids : List Nat
  dst : Option Nat
  u : Upd

/-- The same, looked at from outside. -/
structure St.Eq (σ σ' : St) : Prop where
  env : ∀ k, getE σ'.env k = getE σ.env k
  objs : ∀ k, look σ'.objs k = look σ.objs k
  ro : ∀ i, i ∈ σ'.ro ↔ i ∈ σ.ro
  n : σ'.n = σ.n
  gl : σ'.gl = σ.gl
theorem St.Eq.refl (σ : St) : St.Eq σ σ := ⟨fun _ => rfl, fun _ => rfl, fun _ => Iff.rfl, rfl, rfl⟩
theorem St.Eq.trans {a b c : St} (h : St.Eq a b) (k : St.Eq b c) : St.Eq a c :=
  ⟨fun i => (k.env i).trans (h.env i), fun i => (k.objs i).trans (h.objs i), fun i => (k.ro i).trans (h.ro i), k.n.trans h.n, k.gl.trans h.gl⟩

def Act1 (P : Program) (σ : St) (o : VOper) (e : Eff) : Prop := OpRel P σ o.dst e.u o.op ∧ e.ids = idsOf σ o.op e.u ∧ e.dst = o.dst
/-- What a guard's slot says: yes, no, or nothing at all, where its operation was passed over. -/
def gval : SV → Option (Option Bool)
  | .val (.bool c) => some (some c)
  | .val (.tuple []) => some none
  | _ => none
/-- What stands behind an operation that is passed over. -/
abbrev skipU : Upd := { v := .val (.tuple []) }
def Step1 (P : Program) (σ : St) (o : VOper) (e : Eff) : Prop :=
  match o.guard with
  | none => Act1 P σ o e
  | some (g, b) => ∃ c, gval (getE σ.env g) = some c ∧ ((c = some b ∧ Act1 P σ o e) ∨ (c ≠ some b ∧ e = ⟨[], o.dst, skipU⟩))

/-- What an operation leaves of an object. -/
def wrote (dst : Option Nat) (u : Upd) (id : Nat) : Option Ob :=
  match u.new, dst with
  | some o, some d => if id = d then some (o.erase d) else none
  | _, _ => match u.wr with
    | some (i, o) => if id = i then some o else none
    | none => none
def creates (e : Eff) (d : Nat) : Prop := (∃ o, e.u.new = some o) ∧ e.dst = some d

def NoRefAll (d : Nat) (σ : St) : Prop := (∀ k, (getE σ.env k).noRef d = true) ∧ ∀ id o, look σ.objs id = some o → o.noRef d = true
def UNoRef (d : Nat) (u : Upd) : Prop := u.v.noRef d = true ∧ (∀ i o, u.wr = some (i, o) → o.noRef d = true) ∧ ∀ o, u.new = some o → o.noRef d = true

theorem erase_noRef {d : Nat} {v : SV} (h : v.noRef d = true) : v.erase d = v := by unfold SV.erase; rw [h]; rfl
theorem eraseL_noRef {d : Nat} : ∀ {l : List SV}, SV.noRefs d l = true → eraseL d l = l
  | [], _ => rfl
  | v :: r, h => by
    simp only [SV.noRefs, Bool.and_eq_true] at h
    simp only [eraseL, erase_noRef h.1, eraseL_noRef h.2]
theorem oerase_noRef {d : Nat} : ∀ {o : Ob}, o.noRef d = true → o.erase d = o
  | .box c, h => by simp only [Ob.erase]; rw [eraseL_noRef h]
  | .arr _ _ _, _ => rfl

section
variable {σ σ' : St}

theorem apply_new {u : Upd} {o : Ob} {d : Nat} (h : u.new = some o) : σ.apply (some d) u = ⟨put (eraseE d σ.env) d u.v, eraseO d (put σ.objs d o), u.fz ++ σ.ro, σ.n, σ.gl⟩ := by
  unfold St.apply; rw [h]
theorem apply_old {u : Upd} {dst : Option Nat} (h : u.new = none ∨ dst = none) : σ.apply dst u = ⟨putD σ.env dst u.v, putW σ.objs u.wr, u.fz ++ σ.ro, σ.n, σ.gl⟩ := by
  unfold St.apply
  rcases h with h | h
  · rw [h]
  · subst h; cases u.new <;> rfl
theorem new_or (u : Upd) (dst : Option Nat) : (∃ o d, u.new = some o ∧ dst = some d) ∨ (u.new = none ∨ dst = none) := by
  cases u.new with
  | none => exact .inr (.inl rfl)
  | some o => cases dst with
    | none => exact .inr (.inr rfl)
    | some d => exact .inl ⟨o, d, rfl, rfl⟩
theorem wrote_new {u : Upd} {o : Ob} {d : Nat} (h : u.new = some o) (k : Nat) : wrote (some d) u k = if k = d then some (o.erase d) else none := by
  unfold wrote; rw [h]
theorem wrote_old {u : Upd} {dst : Option Nat} (h : u.new = none ∨ dst = none) (k : Nat) : wrote dst u k = match u.wr with
    | some (i, o) => if k = i then some o else none
    | none => none := by
  unfold wrote
  rcases h with h | h
  · rw [h]
  · subst h; cases u.new <;> rfl

theorem apply_env {dst : Option Nat} {u : Upd} (h : ∀ d, (∃ o, u.new = some o) → dst = some d → NoRefAll d σ) (k : Nat) : getE (σ.apply dst u).env k = if dst = some k then u.v else getE σ.env k := by
  rcases new_or u dst with ⟨o, d, hn, rfl⟩ | ho
  · rw [apply_new hn]
    simp only [getE_put, getE_eraseE]
    by_cases hk : k = d
    · subst hk; simp
    · rw [if_neg hk, if_neg (by simpa using fun e => hk e.symm), erase_noRef ((h d ⟨o, hn⟩ rfl).1 k)]
  · rw [apply_old ho]
    cases dst with
    | none => simp [putD]
    | some d =>
      simp only [putD, getE_put]
      by_cases hk : k = d
      · subst hk; simp
      · rw [if_neg hk, if_neg (by simpa using fun e => hk e.symm)]
theorem apply_look {dst : Option Nat} {u : Upd} (h : ∀ d, (∃ o, u.new = some o) → dst = some d → NoRefAll d σ) (k : Nat) : look (σ.apply dst u).objs k = match wrote dst u k with
    | some o => some o
    | none => look σ.objs k := by
  rcases new_or u dst with ⟨o, d, hn, rfl⟩ | ho
  · rw [apply_new hn, wrote_new hn]
    simp only [look_eraseO, look_put]
    by_cases hk : k = d
    · subst hk; simp
    · simp only [if_neg hk]
      cases hl : look σ.objs k with
      | none => rfl
      | some y =>
        simp only [Option.map_some]
        rw [oerase_noRef ((h d ⟨o, hn⟩ rfl).2 k y hl)]
  · rw [apply_old ho, wrote_old ho]
    cases hw : u.wr with
    | none => simp [putW]
    | some p =>
      obtain ⟨i, o⟩ := p
      simp only [putW, look_put]
      by_cases hk : k = i
      · simp [hk]
      · simp [hk]
theorem apply_ro {dst : Option Nat} {u : Upd} (i : Nat) : i ∈ (σ.apply dst u).ro ↔ i ∈ u.fz ∨ i ∈ σ.ro := by
  rcases new_or u dst with ⟨o, d, hn, rfl⟩ | ho
  · rw [apply_new hn]; simp
  · rw [apply_old ho]; simp
theorem apply_n {dst : Option Nat} {u : Upd} : (σ.apply dst u).n = σ.n := by
  rcases new_or u dst with ⟨o, d, hn, rfl⟩ | ho
  · rw [apply_new hn]
  · rw [apply_old ho]

theorem apply_gl {dst : Option Nat} {u : Upd} : (σ.apply dst u).gl = σ.gl := by
  rcases new_or u dst with ⟨o, d, hn, rfl⟩ | ho
  · rw [apply_new hn]
  · rw [apply_old ho]

theorem apply_congr (h : St.Eq σ σ') (dst : Option Nat) (u : Upd) : St.Eq (σ.apply dst u) (σ'.apply dst u) := by
  refine ⟨fun k => ?_, fun k => ?_, fun i => ?_, by rw [apply_n, apply_n, h.n], by rw [apply_gl, apply_gl, h.gl]⟩
  · rcases new_or u dst with ⟨o, d, hn, rfl⟩ | ho
    · rw [apply_new hn, apply_new hn]
      simp only [getE_put, getE_eraseE, h.env]
    · rw [apply_old ho, apply_old ho]
      cases dst <;> simp [putD, getE_put, h.env]
  · rcases new_or u dst with ⟨o, d, hn, rfl⟩ | ho
    · rw [apply_new hn, apply_new hn]
      simp only [look_eraseO, look_put, h.objs]
    · rw [apply_old ho, apply_old ho]
      cases u.wr with
      | none => simp [putW, h.objs]
      | some p => simp [putW, look_put, h.objs]
  · rw [apply_ro, apply_ro, h.ro]

theorem NoRefAll.apply {d : Nat} (h : NoRefAll d σ) {dst : Option Nat} {u : Upd} (hu : UNoRef d u) : NoRefAll d (σ.apply dst u) := by
  have er : ∀ (d' : Nat) (v : SV), v.noRef d = true → (v.erase d').noRef d = true := by
    intro d' v hv
    unfold SV.erase
    cases v.noRef d'
    · rfl
    · exact hv
  have erl : ∀ (d' : Nat) (l : List SV), SV.noRefs d l = true → SV.noRefs d (eraseL d' l) = true := by
    intro d' l
    induction l with
    | nil => intro _; rfl
    | cons v r ih =>
      intro hl
      simp only [SV.noRefs, Bool.and_eq_true] at hl
      simp only [eraseL, SV.noRefs, Bool.and_eq_true]
      exact ⟨er d' v hl.1, ih hl.2⟩
  have ero : ∀ (d' : Nat) (o : Ob), o.noRef d = true → (o.erase d').noRef d = true := by
    intro d' o ho
    cases o with
    | box c => exact erl d' c ho
    | arr => rfl
  rcases new_or u dst with ⟨o', d', hn, rfl⟩ | ho
  · rw [apply_new hn]
    constructor
    · intro k
      simp only [getE_put, getE_eraseE]
      split
      · exact hu.1
      · exact er _ _ (h.1 k)
    · intro id o ho
      simp only [look_eraseO, look_put] at ho
      split at ho
      · simp only [Option.map_some, Option.some.injEq] at ho
        subst ho
        exact ero _ _ (hu.2.2 _ hn)
      · cases hl : look σ.objs id with
        | none => rw [hl] at ho; simp at ho
        | some y =>
          rw [hl] at ho
          simp only [Option.map_some, Option.some.injEq] at ho
          subst ho
          exact ero _ _ (h.2 _ _ hl)
  · rw [apply_old ho]
    constructor
    · intro k
      cases dst with
      | none => exact h.1 k
      | some d' =>
        simp only [putD, getE_put]
        split
        · exact hu.1
        · exact h.1 k
    · intro id o ho
      cases hw : u.wr with
      | none => rw [hw] at ho; exact h.2 id o ho
      | some p =>
        obtain ⟨i, x⟩ := p
        rw [hw] at ho
        simp only [putW, look_put] at ho
        split at ho
        · obtain rfl := Option.some.inj ho
          exact hu.2.1 _ _ hw
        · exact h.2 id o ho
end

/-- The slots that an operation reads. -/
def VOper.slots (o : VOper) : List Nat := (o.op.opds.filterMap fun | .tmp t => some t | _ => none) ++ (match o.guard with | some (g, _) => [g] | none => [])
/-- Neither writes a slot that the other names. -/
def Apart (a b : VOper) : Prop := (∀ d, a.dst = some d → d ∉ b.slots ∧ b.dst ≠ some d) ∧ ∀ d, b.dst = some d → d ∉ a.slots

/-- What x does is nothing to y. -/
def Indep (x y : Eff) : Prop := (∀ id, wrote x.dst x.u id ≠ none → id ∉ y.ids ∧ wrote y.dst y.u id = none) ∧ ∀ id o, y.u.wr = some (id, o) → id ∉ x.u.fz

section
variable {P : Program} {σ σ' : St}

theorem val_agree {op : VOp} (hgl : σ'.gl = σ.gl) (h : ∀ t, t ∈ (op.opds.filterMap fun | .tmp t => some t | _ => none) → getE σ'.env t = getE σ.env t) : ∀ x ∈ op.opds, val σ' x = val σ x := by
  intro x hx
  cases x with
  | tmp t => exact h t (List.mem_filterMap.2 ⟨.tmp t, hx, rfl⟩)
  | const v => rfl
  | func f => rfl
  | glob g => simp only [val, hgl]

theorem step_loc {o : VOper} {e : Eff} (hgl : σ'.gl = σ.gl) (h : Step1 P σ o e) (hs : ∀ t, t ∈ o.slots → getE σ'.env t = getE σ.env t) (hl : ∀ i, i ∈ e.ids → look σ'.objs i = look σ.objs i) (hro : ∀ id x, e.u.wr = some (id, x) → id ∈ σ'.ro → id ∈ σ.ro) : Step1 P σ' o e := by
  have act : Act1 P σ o e → Act1 P σ' o e := by
    rintro ⟨h1, h2, h3⟩
    have hv := val_agree (op := o.op) (σ := σ) (σ' := σ') hgl (fun t ht => hs t (List.mem_append_left _ ht))
    obtain ⟨k1, k2⟩ := opRel_loc (σ' := σ') hgl h1 hv (fun i hi => hl i (by rw [h2]; exact hi)) hro
    exact ⟨k1, by rw [k2]; exact h2, h3⟩
  unfold Step1 at h ⊢
  cases hg : o.guard with
  | none => rw [hg] at h; exact act h
  | some p =>
    obtain ⟨g, b⟩ := p
    rw [hg] at h
    obtain ⟨c, h1, h2⟩ := h
    refine ⟨c, ?_, h2.imp (fun h3 => ⟨h3.1, act h3.2⟩) id⟩
    rw [hs g (by simp [VOper.slots, hg])]
    exact h1
theorem step_congr {o : VOper} {e : Eff} (hq : St.Eq σ σ') (h : Step1 P σ o e) : Step1 P σ' o e :=
  step_loc hq.gl h (fun t _ => hq.env t) (fun i _ => hq.objs i) (fun _ _ _ hi => (hq.ro _).1 hi)
theorem step_dst {o : VOper} {e : Eff} (h : Step1 P σ o e) : e.dst = o.dst := by
  unfold Step1 at h
  split at h
  · exact h.2.2
  · obtain ⟨c, _, h | h⟩ := h
    · exact h.2.2.2
    · rw [h.2]

/-- Two that stand side by side change places. -/
theorem step_swap {a b : VOper} {x y : Eff} (ha : Step1 P σ a x) (hb : Step1 P (σ.apply x.dst x.u) b y) (hap : Apart a b) (h1 : Indep x y) (h2 : Indep y x)
    (na : ∀ d, creates x d → NoRefAll d σ ∧ UNoRef d y.u) (nb : ∀ d, creates y d → NoRefAll d σ ∧ UNoRef d x.u) :
    Step1 P σ b y ∧ Step1 P (σ.apply y.dst y.u) a x ∧ St.Eq ((σ.apply x.dst x.u).apply y.dst y.u) ((σ.apply y.dst y.u).apply x.dst x.u) := by
  have da := step_dst ha
  have db := step_dst hb
  have ca : ∀ d, (∃ o, x.u.new = some o) → x.dst = some d → NoRefAll d σ := fun d h k => (na d ⟨h, k⟩).1
  have cb : ∀ d, (∃ o, y.u.new = some o) → y.dst = some d → NoRefAll d σ := fun d h k => (nb d ⟨h, k⟩).1
  have ca' : ∀ d, (∃ o, x.u.new = some o) → x.dst = some d → NoRefAll d (σ.apply y.dst y.u) := fun d h k => (na d ⟨h, k⟩).1.apply (na d ⟨h, k⟩).2
  have cb' : ∀ d, (∃ o, y.u.new = some o) → y.dst = some d → NoRefAll d (σ.apply x.dst x.u) := fun d h k => (nb d ⟨h, k⟩).1.apply (nb d ⟨h, k⟩).2
  refine ⟨?_, ?_, ?_⟩
  · refine step_loc (by simp only [apply_gl]) hb (fun t ht => ?_) (fun i hi => ?_) (fun id o _ hi => (apply_ro id).2 (.inr hi))
    · rw [apply_env ca, if_neg]
      intro e
      rw [da] at e
      exact (hap.1 t e).1 ht
    · rw [apply_look ca]
      cases hw : wrote x.dst x.u i with
      | none => rfl
      | some o => exact absurd hi (h1.1 i (by rw [hw]; simp)).1
  · refine step_loc (by simp only [apply_gl]) ha (fun t ht => ?_) (fun i hi => ?_) (fun id o hw hi => ?_)
    · rw [apply_env cb, if_neg]
      intro e
      rw [db] at e
      exact hap.2 t e ht
    · rw [apply_look cb]
      cases hw : wrote y.dst y.u i with
      | none => rfl
      | some o => exact absurd hi (h2.1 i (by rw [hw]; simp)).1
    · rcases (apply_ro id).1 hi with h | h
      · exact absurd h (h2.2 id o hw)
      · exact h
  · refine ⟨fun k => ?_, fun k => ?_, fun i => ?_, by simp only [apply_n], by simp only [apply_gl]⟩
    · rw [apply_env ca', apply_env cb, apply_env cb', apply_env ca]
      by_cases e1 : x.dst = some k <;> by_cases e2 : y.dst = some k
      · exfalso
        rw [da] at e1
        rw [db] at e2
        exact (hap.1 k e1).2 e2
      · simp [e1, e2]
      · simp [e1, e2]
      · simp [e1, e2]
    · rw [apply_look ca', apply_look cb, apply_look cb', apply_look ca]
      cases hx : wrote x.dst x.u k with
      | none => cases hy : wrote y.dst y.u k <;> rfl
      | some o => rw [(h1.1 k (by rw [hx]; simp)).2]
    · simp only [apply_ro]
      constructor
      · rintro (h | h | h)
        · exact .inr (.inl h)
        · exact .inl h
        · exact .inr (.inr h)
      · rintro (h | h | h)
        · exact .inr (.inl h)
        · exact .inl h
        · exact .inr (.inr h)
end

structure Item1 where
  i : Nat
  o : VOper
  e : Eff

def RunL (P : Program) : List Item1 → St → St → Prop
  | [], σ, σf => St.Eq σ σf
  | p :: r, σ, σf => Step1 P σ p.o p.e ∧ RunL P r (σ.apply p.e.dst p.e.u) σf

section
variable {P : Program}
theorem runL_congr : ∀ {l : List Item1} {σ σ' σf : St}, St.Eq σ σ' → RunL P l σ σf → RunL P l σ' σf
  | [], _, _, _, hq, h => ⟨fun k => (h.env k).trans (hq.env k).symm, fun k => (h.objs k).trans (hq.objs k).symm, fun i => (h.ro i).trans (hq.ro i).symm, h.n.trans hq.n.symm, h.gl.trans hq.gl.symm⟩
  | _ :: _, _, _, _, hq, h => ⟨step_congr hq h.1, runL_congr (apply_congr hq _ _) h.2⟩

/-- The pairs of a list that no edge orders are independent; what is made is named by nothing that is not behind it. -/
structure Free (x p : Item1) : Prop where
  apart : Apart p.o x.o
  one : Indep p.e x.e
  two : Indep x.e p.e

theorem run_front {x : Item1} {B : List Item1} : ∀ {A : List Item1} {σ σf : St}, RunL P (A ++ x :: B) σ σf → (∀ p ∈ A, Free x p) →
    (∀ p ∈ A ++ x :: B, ∀ d, creates p.e d → NoRefAll d σ) → (∀ p ∈ A, ∀ d, creates p.e d → UNoRef d x.e.u) →
    (A.Pairwise fun p q => ∀ d, creates q.e d → UNoRef d p.e.u) → (∀ p ∈ A, ∀ q ∈ x :: B, ∀ d, creates q.e d → UNoRef d p.e.u) →
    RunL P (x :: (A ++ B)) σ σf
  | [], _, _, h, _, _, _, _, _ => h
  | p :: A, σ, σf, h, hf, hg, h1, h2, h3 => by
    obtain ⟨hp, hr⟩ := h
    have h2' := List.pairwise_cons.1 h2
    have ih := run_front (A := A) hr (fun q hq => hf q (List.mem_cons_of_mem _ hq)) (fun q hq d hc => by
      refine (hg q (List.mem_cons_of_mem _ hq) d hc).apply ?_
      rcases List.mem_append.1 hq with hq' | hq'
      · exact h2'.1 q hq' d hc
      · exact h3 p (by simp) q hq' d hc) (fun q hq => h1 q (List.mem_cons_of_mem _ hq)) h2'.2 (fun q hq => h3 q (List.mem_cons_of_mem _ hq))
    obtain ⟨hx, hr'⟩ := ih
    have hfp := hf p (by simp)
    obtain ⟨s1, s2, s3⟩ := step_swap hp hx hfp.apart hfp.one hfp.two (fun d hc => ⟨hg p (by simp) d hc, h1 p (by simp) d hc⟩)
      (fun d hc => ⟨hg x (by simp) d hc, h3 p (by simp) x (by simp) d hc⟩)
    exact ⟨s1, s2, runL_congr s3 hr'⟩
end
end Go.Vs
