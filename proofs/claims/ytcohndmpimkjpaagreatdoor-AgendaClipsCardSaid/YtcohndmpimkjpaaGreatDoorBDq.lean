/- Value semantics, part 15: operations of a region in whatever order its edges allow. No conditions. -/
import Derived.Test.YtcohndmpimkjpaaGreatDoorBCq
import Derived.ScopeJumps
set_option linter.unusedVariables false
set_option linter.unusedSimpArgs false
set_option linter.unusedVariables false
set_option linter.unusedSimpArgs false
namespace Go.Vs

structure Eff where
  ids : List Nat
  dst : Option Nat
  u : Upd

/-- The same, looked at from outside. -/
structure St.Eq (σ σ' : St) : Prop where
  env : ∀ k, getE σ'.env k = getE σ.env k
  objs : ∀ k, look σ'.objs k = look σ.objs k
  ro : ∀ i, i ∈ σ'.ro ↔ i ∈ σ.ro
  n : σ'.n = σ.n
  gl : σ'.gl = σ.gl
theorem St.Eq.refl (σ : St) : St.Eq σ σ := ⟨fun _ => rfl, fun _ => rfl, fun _ => Iff.rfl, rfl, rfl⟩
theorem St.Eq.trans {a b c : St} (h : St.Eq a b) (k : St.Eq b c) : St.Eq a c :=
  ⟨fun i => (k.env i).trans (h.env i), fun i => (k.objs i).trans (h.objs i), fun i => (k.ro i).trans (h.ro i), k.n.trans h.n, k.gl.trans h.gl⟩

def Act1 (P : Program) (σ : St) (o : VOper) (e : Eff) : Prop := OpRel P σ o.dst e.u o.op ∧ e.ids = idsOf σ o.op e.u ∧ e.dst = o.dst
/-- What a guard's slot says: yes, no, or nothing at all, where its operation was passed over. -/
def gval : SV → Option (Option Bool)
  | .val (.bool c) => some (some c)
  | .val (.tuple []) => some none
  | _ => none
/-- What stands behind an operation that is passed over. -/
abbrev skipU : Upd := { v := .val (.tuple []) }
def Step1 (P : Program) (σ : St) (o : VOper) (e : Eff) : Prop :=
  match o.guard with
  | none => Act1 P σ o e
  | some (g, b) => ∃ c, gval (getE σ.env g) = some c ∧ ((c = some b ∧ Act1 P σ o e) ∨ (c ≠ some b ∧ e = ⟨[], o.dst, skipU⟩))

/-- What an operation leaves of an object. -/
def wrote (dst : Option Nat) (u : Upd) (id : Nat) : Option Ob :=
  match u.new, dst with
  | some o, some d => if id = d then some (o.erase d) else none
  | _, _ => match u.wr with
    | some (i, o) => if id = i then some o else none
    | none => none
def creates (e : Eff) (d : Nat) : Prop := (∃ o, e.u.new = some o) ∧ e.dst = some d

def NoRefAll (d : Nat) (σ : St) : Prop := (∀ k, (getE σ.env k).noRef d = true) ∧ ∀ id o, look σ.objs id = some o → o.noRef d = true
def UNoRef (d : Nat) (u : Upd) : Prop := u.v.noRef d = true ∧ (∀ i o, u.wr = some (i, o) → o.noRef d = true) ∧ ∀ o, u.new = some o → o.noRef d = true

theorem erase_noRef {d : Nat} {v : SV} (h : v.noRef d = true) : v.erase d = v := by unfold SV.erase; rw [h]; rfl
theorem eraseL_noRef {d : Nat} : ∀ {l : List SV}, SV.noRefs d l = true → eraseL d l = l
  | [], _ => rfl
  | v :: r, h => by
    simp only [SV.noRefs, Bool.and_eq_true] at h
    simp only [eraseL, erase_noRef h.1, eraseL_noRef h.2]
theorem eraseLn_noRef {d : Nat} : ∀ {l : List (Nat × Nat × SV)}, noRefLn d l = true → eraseLn d l = l
  | [], _ => rfl
  | p :: r, h => by
    simp only [noRefLn, Bool.and_eq_true] at h
    simp only [eraseLn, erase_noRef h.1, eraseLn_noRef h.2]
theorem oerase_noRef {d : Nat} : ∀ {o : Ob}, o.noRef d = true → o.erase d = o
  | .box c, h => by simp only [Ob.erase]; rw [eraseL_noRef h]
  | .arr _ _ _, _ => rfl
  | .iter _ _, _ => rfl
  | .tab _ _ _ ln, h => by simp only [Ob.erase]; rw [eraseLn_noRef h]

section
variable {σ σ' : St}

theorem apply_new {u : Upd} {o : Ob} {d : Nat} (h : u.new = some o) : σ.apply (some d) u = ⟨put (eraseE d σ.env) d u.v, eraseO d (put σ.objs d o), u.fz ++ σ.ro, σ.n, σ.gl⟩ := by
  unfold St.apply; rw [h]
theorem apply_old {u : Upd} {dst : Option Nat} (h : u.new = none ∨ dst = none) : σ.apply dst u = ⟨putD σ.env dst u.v, putW σ.objs u.wr, u.fz ++ σ.ro, σ.n, σ.gl⟩ := by
  unfold St.apply
  rcases h with h | h
  · rw [h]
  · subst h; cases u.new <;> rfl
theorem new_or (u : Upd) (dst : Option Nat) : (∃ o d, u.new = some o ∧ dst = some d) ∨ (u.new = none ∨ dst = none) := by
  cases u.new with
  | none => exact .inr (.inl rfl)
  | some o => cases dst with
    | none => exact .inr (.inr rfl)
    | some d => exact .inl ⟨o, d, rfl, rfl⟩
theorem wrote_new {u : Upd} {o : Ob} {d : Nat} (h : u.new = some o) (k : Nat) : wrote (some d) u k = if k = d then some (o.erase d) else none := by
  unfold wrote; rw [h]
theorem wrote_old {u : Upd} {dst : Option Nat} (h : u.new = none ∨ dst = none) (k : Nat) : wrote dst u k = match u.wr with
    | some (i, o) => if k = i then some o else none
    | none => none := by
  unfold wrote
  rcases h with h | h
  · rw [h]
  · subst h; cases u.new <;> rfl

theorem apply_env {dst : Option Nat} {u : Upd} (h : ∀ d, (∃ o, u.new = some o) → dst = some d → NoRefAll d σ) (k : Nat) : getE (σ.apply dst u).env k = if dst = some k then u.v else getE σ.env k := by
  rcases new_or u dst with ⟨o, d, hn, rfl⟩ | ho
  · rw [apply_new hn]
    simp only [getE_put, getE_eraseE]
    by_cases hk : k = d
    · subst hk; simp
    · rw [if_neg hk, if_neg (by simpa using fun e => hk e.symm), erase_noRef ((h d ⟨o, hn⟩ rfl).1 k)]
  · rw [apply_old ho]
    cases dst with
    | none => simp [putD]
    | some d =>
      simp only [putD, getE_put]
      by_cases hk : k = d
      · subst hk; simp
      · rw [if_neg hk, if_neg (by simpa using fun e => hk e.symm)]
theorem apply_look {dst : Option Nat} {u : Upd} (h : ∀ d, (∃ o, u.new = some o) → dst = some d → NoRefAll d σ) (k : Nat) : look (σ.apply dst u).objs k = match wrote dst u k with
    | some o => some o
    | none => look σ.objs k := by
  rcases new_or u dst with ⟨o, d, hn, rfl⟩ | ho
  · rw [apply_new hn, wrote_new hn]
    simp only [look_eraseO, look_put]
    by_cases hk : k = d
    · subst hk; simp
    · simp only [if_neg hk]
      cases hl : look σ.objs k with
      | none => rfl
      | some y =>
        simp only [Option.map_some]
        rw [oerase_noRef ((h d ⟨o, hn⟩ rfl).2 k y hl)]
  · rw [apply_old ho, wrote_old ho]
    cases hw : u.wr with
    | none => simp [putW]
    | some p =>
      obtain ⟨i, o⟩ := p
      simp only [putW, look_put]
      by_cases hk : k = i
      · simp [hk]
      · simp [hk]
theorem apply_ro {dst : Option Nat} {u : Upd} (i : Nat) : i ∈ (σ.apply dst u).ro ↔ i ∈ u.fz ∨ i ∈ σ.ro := by
  rcases new_or u dst with ⟨o, d, hn, rfl⟩ | ho
  · rw [apply_new hn]; simp
  · rw [apply_old ho]; simp
theorem apply_n {dst : Option Nat} {u : Upd} : (σ.apply dst u).n = σ.n := by
  rcases new_or u dst with ⟨o, d, hn, rfl⟩ | ho
  · rw [apply_new hn]
  · rw [apply_old ho]

theorem apply_gl {dst : Option Nat} {u : Upd} : (σ.apply dst u).gl = σ.gl := by
  rcases new_or u dst with ⟨o, d, hn, rfl⟩ | ho
  · rw [apply_new hn]
  · rw [apply_old ho]

theorem apply_congr (h : St.Eq σ σ') (dst : Option Nat) (u : Upd) : St.Eq (σ.apply dst u) (σ'.apply dst u) := by
  refine ⟨fun k => ?_, fun k => ?_, fun i => ?_, by rw [apply_n, apply_n, h.n], by rw [apply_gl, apply_gl, h.gl]⟩
  · rcases new_or u dst with ⟨o, d, hn, rfl⟩ | ho
    · rw [apply_new hn, apply_new hn]
      simp only [getE_put, getE_eraseE, h.env]
    · rw [apply_old ho, apply_old ho]
      cases dst <;> simp [putD, getE_put, h.env]
  · rcases new_or u dst with ⟨o, d, hn, rfl⟩ | ho
    · rw [apply_new hn, apply_new hn]
      simp only [look_eraseO, look_put, h.objs]
    · rw [apply_old ho, apply_old ho]
      cases u.wr with
      | none => simp [putW, h.objs]
      | some p => simp [putW, look_put, h.objs]
  · rw [apply_ro, apply_ro, h.ro]

theorem NoRefAll.apply {d : Nat} (h : NoRefAll d σ) {dst : Option Nat} {u : Upd} (hu : UNoRef d u) : NoRefAll d (σ.apply dst u) := by
  have er : ∀ (d' : Nat) (v : SV), v.noRef d = true → (v.erase d').noRef d = true := by
    intro d' v hv
    unfold SV.erase
    cases v.noRef d'
    · rfl
    · exact hv
  have erl : ∀ (d' : Nat) (l : List SV), SV.noRefs d l = true → SV.noRefs d (eraseL d' l) = true := by
    intro d' l
    induction l with
    | nil => intro _; rfl
    | cons v r ih =>
      intro hl
      simp only [SV.noRefs, Bool.and_eq_true] at hl
      simp only [eraseL, SV.noRefs, Bool.and_eq_true]
      exact ⟨er d' v hl.1, ih hl.2⟩
  have ero : ∀ (d' : Nat) (o : Ob), o.noRef d = true → (o.erase d').noRef d = true := by
    intro d' o ho
    cases o with
    | box c => exact erl d' c ho
    | arr => rfl
    | iter => rfl
    | tab a b c ln =>
      have erln : ∀ l : List (Nat × Nat × SV), noRefLn d l = true → noRefLn d (eraseLn d' l) = true := by
        intro l
        induction l with
        | nil => intro _; rfl
        | cons p r ih =>
          intro hl
          simp only [noRefLn, Bool.and_eq_true] at hl
          simp only [eraseLn, noRefLn, Bool.and_eq_true]
          exact ⟨er d' _ hl.1, ih hl.2⟩
      exact erln ln ho
  rcases new_or u dst with ⟨o', d', hn, rfl⟩ | ho
  · rw [apply_new hn]
    constructor
    · intro k
      simp only [getE_put, getE_eraseE]
      split
      · exact hu.1
      · exact er _ _ (h.1 k)
    · intro id o ho
      simp only [look_eraseO, look_put] at ho
      split at ho
      · simp only [Option.map_some, Option.some.injEq] at ho
        subst ho
        exact ero _ _ (hu.2.2 _ hn)
      · cases hl : look σ.objs id with
        | none => rw [hl] at ho; simp at ho
        | some y =>
          rw [hl] at ho
          simp only [Option.map_some, Option.some.injEq] at ho
          subst ho
          exact ero _ _ (h.2 _ _ hl)
  · rw [apply_old ho]
    constructor
    · intro k
      cases dst with
      | none => exact h.1 k
      | some d' =>
        simp only [putD, getE_put]
        split
        · exact hu.1
        · exact h.1 k
    · intro id o ho
      cases hw : u.wr with
      | none => rw [hw] at ho; exact h.2 id o ho
      | some p =>
        obtain ⟨i, x⟩ := p
        rw [hw] at ho
        simp only [putW, look_put] at ho
        split at ho
        · obtain rfl := Option.some.inj ho
          exact hu.2.1 _ _ hw
        · exact h.2 id o ho
end

/-- The slots that an operation reads. -/
def VOper.slots (o : VOper) : List Nat := (o.op.opds.filterMap fun | .tmp t => some t | _ => none) ++ (match o.guard with | some (g, _) => [g] | none => [])
/-- Neither writes a slot that the other names. -/
def Apart (a b : VOper) : Prop := (∀ d, a.dst = some d → d ∉ b.slots ∧ b.dst ≠ some d) ∧ ∀ d, b.dst = some d → d ∉ a.slots

/-- What x does is nothing to y. -/
def Indep (x y : Eff) : Prop := (∀ id, wrote x.dst x.u id ≠ none → id ∉ y.ids ∧ wrote y.dst y.u id = none) ∧ ∀ id o, y.u.wr = some (id, o) → id ∉ x.u.fz

section
variable {P : Program} {σ σ' : St}

theorem val_agree {op : VOp} (hgl : σ'.gl = σ.gl) (h : ∀ t, t ∈ (op.opds.filterMap fun | .tmp t => some t | _ => none) → getE σ'.env t = getE σ.env t) : ∀ x ∈ op.opds, val σ' x = val σ x := by
  intro x hx
  cases x with
  | tmp t => exact h t (List.mem_filterMap.2 ⟨.tmp t, hx, rfl⟩)
  | const v => rfl
  | func f => rfl
  | glob g => simp only [val, hgl]

theorem step_loc {o : VOper} {e : Eff} (hgl : σ'.gl = σ.gl) (h : Step1 P σ o e) (hs : ∀ t, t ∈ o.slots → getE σ'.env t = getE σ.env t) (hl : ∀ i, i ∈ e.ids → look σ'.objs i = look σ.objs i) (hro : ∀ id x, e.u.wr = some (id, x) → id ∈ σ'.ro → id ∈ σ.ro) : Step1 P σ' o e := by
  have act : Act1 P σ o e → Act1 P σ' o e := by
    rintro ⟨h1, h2, h3⟩
    have hv := val_agree (op := o.op) (σ := σ) (σ' := σ') hgl (fun t ht => hs t (List.mem_append_left _ ht))
    obtain ⟨k1, k2⟩ := opRel_loc (σ' := σ') hgl h1 hv (fun i hi => hl i (by rw [h2]; exact hi)) hro
    exact ⟨k1, by rw [k2]; exact h2, h3⟩
  unfold Step1 at h ⊢
  cases hg : o.guard with
  | none => rw [hg] at h; exact act h
  | some p =>
    obtain ⟨g, b⟩ := p
    rw [hg] at h
    obtain ⟨c, h1, h2⟩ := h
    refine ⟨c, ?_, h2.imp (fun h3 => ⟨h3.1, act h3.2⟩) id⟩
    rw [hs g (by simp [VOper.slots, hg])]
    exact h1
theorem step_congr {o : VOper} {e : Eff} (hq : St.Eq σ σ') (h : Step1 P σ o e) : Step1 P σ' o e :=
  step_loc hq.gl h (fun t _ => hq.env t) (fun i _ => hq.objs i) (fun _ _ _ hi => (hq.ro _).1 hi)
theorem step_dst {o : VOper} {e : Eff} (h : Step1 P σ o e) : e.dst = o.dst := by
  unfold Step1 at h
  split at h
  · exact h.2.2
  · obtain ⟨c, _, h | h⟩ := h
    · exact h.2.2.2
    · rw [h.2]

/-- Two that stand side by side change places. -/
theorem step_swap {a b : VOper} {x y : Eff} (ha : Step1 P σ a x) (hb : Step1 P (σ.apply x.dst x.u) b y) (hap : Apart a b) (h1 : Indep x y) (h2 : Indep y x)
    (na : ∀ d, creates x d → NoRefAll d σ ∧ UNoRef d y.u) (nb : ∀ d, creates y d → NoRefAll d σ ∧ UNoRef d x.u) :
    Step1 P σ b y ∧ Step1 P (σ.apply y.dst y.u) a x ∧ St.Eq ((σ.apply x.dst x.u).apply y.dst y.u) ((σ.apply y.dst y.u).apply x.dst x.u) := by
  have da := step_dst ha
  have db := step_dst hb
  have ca : ∀ d, (∃ o, x.u.new = some o) → x.dst = some d → NoRefAll d σ := fun d h k => (na d ⟨h, k⟩).1
  have cb : ∀ d, (∃ o, y.u.new = some o) → y.dst = some d → NoRefAll d σ := fun d h k => (nb d ⟨h, k⟩).1
  have ca' : ∀ d, (∃ o, x.u.new = some o) → x.dst = some d → NoRefAll d (σ.apply y.dst y.u) := fun d h k => (na d ⟨h, k⟩).1.apply (na d ⟨h, k⟩).2
  have cb' : ∀ d, (∃ o, y.u.new = some o) → y.dst = some d → NoRefAll d (σ.apply x.dst x.u) := fun d h k => (nb d ⟨h, k⟩).1.apply (nb d ⟨h, k⟩).2
  refine ⟨?_, ?_, ?_⟩
  · refine step_loc (by simp only [apply_gl]) hb (fun t ht => ?_) (fun i hi => ?_) (fun id o _ hi => (apply_ro id).2 (.inr hi))
    · rw [apply_env ca, if_neg]
      intro e
      rw [da] at e
      exact (hap.1 t e).1 ht
    · rw [apply_look ca]
      cases hw : wrote x.dst x.u i with
      | none => rfl
      | some o => exact absurd hi (h1.1 i (by rw [hw]; simp)).1
  · refine step_loc (by simp only [apply_gl]) ha (fun t ht => ?_) (fun i hi => ?_) (fun id o hw hi => ?_)
    · rw [apply_env cb, if_neg]
      intro e
      rw [db] at e
      exact hap.2 t e ht
    · rw [apply_look cb]
      cases hw : wrote y.dst y.u i with
      | none => rfl
      | some o => exact absurd hi (h2.1 i (by rw [hw]; simp)).1
    · rcases (apply_ro id).1 hi with h | h
      · exact absurd h (h2.2 id o hw)
      · exact h
  · refine ⟨fun k => ?_, fun k => ?_, fun i => ?_, by simp only [apply_n], by simp only [apply_gl]⟩
    · rw [apply_env ca', apply_env cb, apply_env cb', apply_env ca]
      by_cases e1 : x.dst = some k <;> by_cases e2 : y.dst = some k
      · exfalso
        rw [da] at e1
        rw [db] at e2
        exact (hap.1 k e1).2 e2
      · simp [e1, e2]
      · simp [e1, e2]
      · simp [e1, e2]
    · rw [apply_look ca', apply_look cb, apply_look cb', apply_look ca]
      cases hx : wrote x.dst x.u k with
      | none => cases hy : wrote y.dst y.u k <;> rfl
      | some o => rw [(h1.1 k (by rw [hx]; simp)).2]
    · simp only [apply_ro]
      constructor
      · rintro (h | h | h)
        · exact .inr (.inl h)
        · exact .inl h
        · exact .inr (.inr h)
      · rintro (h | h | h)
        · exact .inr (.inl h)
        · exact .inl h
        · exact .inr (.inr h)
end

structure Item1 where
  i : Nat
  o : VOper
  e : Eff

def RunL (P : Program) : List Item1 → St → St → Prop
  | [], σ, σf => St.Eq σ σf
  | p :: r, σ, σf => Step1 P σ p.o p.e ∧ RunL P r (σ.apply p.e.dst p.e.u) σf

section
variable {P : Program}
theorem runL_congr : ∀ {l : List Item1} {σ σ' σf : St}, St.Eq σ σ' → RunL P l σ σf → RunL P l σ' σf
  | [], _, _, _, hq, h => ⟨fun k => (h.env k).trans (hq.env k).symm, fun k => (h.objs k).trans (hq.objs k).symm, fun i => (h.ro i).trans (hq.ro i).symm, h.n.trans hq.n.symm, h.gl.trans hq.gl.symm⟩
  | _ :: _, _, _, _, hq, h => ⟨step_congr hq h.1, runL_congr (apply_congr hq _ _) h.2⟩

/-- The pairs of a list that no edge orders are independent; what is made is named by nothing that is not behind it. -/
structure Free (x p : Item1) : Prop where
  apart : Apart p.o x.o
  one : Indep p.e x.e
  two : Indep x.e p.e

theorem run_front {x : Item1} {B : List Item1} : ∀ {A : List Item1} {σ σf : St}, RunL P (A ++ x :: B) σ σf → (∀ p ∈ A, Free x p) →
    (∀ p ∈ A ++ x :: B, ∀ d, creates p.e d → NoRefAll d σ) → (∀ p ∈ A, ∀ d, creates p.e d → UNoRef d x.e.u) →
    (A.Pairwise fun p q => ∀ d, creates q.e d → UNoRef d p.e.u) → (∀ p ∈ A, ∀ q ∈ x :: B, ∀ d, creates q.e d → UNoRef d p.e.u) →
    RunL P (x :: (A ++ B)) σ σf
  | [], _, _, h, _, _, _, _, _ => h
  | p :: A, σ, σf, h, hf, hg, h1, h2, h3 => by
    obtain ⟨hp, hr⟩ := h
    have h2' := List.pairwise_cons.1 h2
    have ih := run_front (A := A) hr (fun q hq => hf q (List.mem_cons_of_mem _ hq)) (fun q hq d hc => by
      refine (hg q (List.mem_cons_of_mem _ hq) d hc).apply ?_
      rcases List.mem_append.1 hq with hq' | hq'
      · exact h2'.1 q hq' d hc
      · exact h3 p (by simp) q hq' d hc) (fun q hq => h1 q (List.mem_cons_of_mem _ hq)) h2'.2 (fun q hq => h3 q (List.mem_cons_of_mem _ hq))
    obtain ⟨hx, hr'⟩ := ih
    have hfp := hf p (by simp)
    obtain ⟨s1, s2, s3⟩ := step_swap hp hx hfp.apart hfp.one hfp.two (fun d hc => ⟨hg p (by simp) d hc, h1 p (by simp) d hc⟩)
      (fun d hc => ⟨hg x (by simp) d hc, h3 p (by simp) x (by simp) d hc⟩)
    exact ⟨s1, s2, runL_congr s3 hr'⟩
end
end Go.Vs
set_option linter.unusedVariables false
set_option linter.unusedSimpArgs false
namespace Go.Vs

theorem opRel_fz {P : Program} {σ : St} {dst : Option Nat} {op : VOp} {u : Upd} (hu : OpRel P σ dst u op) : u.fz ≠ [] → op.acts = true := by
  cases op
  case call => exact fun _ => rfl
  case callV => exact fun _ => rfl
  case store => exact fun _ => rfl
  case subV => exact fun _ => rfl
  case subA => exact fun _ => rfl
  case buildSlice => exact fun _ => rfl
  case append => exact fun _ => rfl
  all_goals
    have hu := hu.1
    refine fun h => ?_
    exfalso; apply h
    simp only [ev, evLoad, evPart, binI, binS] at hu
    first
      | (obtain rfl := Option.some.inj hu; rfl)
      | ((repeat' split at hu) <;> first | (simp at hu; done) | (obtain rfl := Option.some.inj hu; rfl))

def Eff.wids (e : Eff) : List Nat := match e.u.new, e.dst with
  | some _, some d => [d]
  | _, _ => match e.u.wr with
    | some (i, _) => [i]
    | none => []
def Eff.newId (e : Eff) : Option Nat := match e.u.new, e.dst with
  | some _, some d => some d
  | _, _ => none
def disj (a b : List Nat) : Bool := a.all fun i => !b.contains i
def indepB (x y : Eff) : Bool := disj x.wids y.ids && disj x.wids y.wids && (match y.u.wr with
  | some (i, _) => !x.u.fz.contains i
  | none => true)
def uNoRefB (d : Nat) (u : Upd) : Bool := u.v.noRef d && (match u.wr with
  | some (_, o) => o.noRef d
  | none => true) && (match u.new with
  | some o => o.noRef d
  | none => true)

theorem wrote_wids {e : Eff} {id : Nat} (h : wrote e.dst e.u id ≠ none) : id ∈ e.wids := by
  unfold Eff.wids
  rcases new_or e.u e.dst with ⟨o, d, hn, hd⟩ | ho
  · rw [hd, wrote_new hn] at h
    rw [hn, hd]
    by_cases hi : id = d
    · subst hi; simp
    · rw [if_neg hi] at h; exact absurd rfl h
  · rw [wrote_old ho] at h
    have hw : id ∈ (match e.u.wr with | some (i, _) => [i] | none => ([] : List Nat)) := by
      cases hw : e.u.wr with
      | none => rw [hw] at h; exact absurd rfl h
      | some p =>
        obtain ⟨i, x⟩ := p
        rw [hw] at h
        by_cases hi : id = i
        · subst hi; simp
        · simp [hi] at h
    split
    · next h1 h2 =>
      exfalso
      rcases ho with ho | ho
      · rw [ho] at h1; simp at h1
      · rw [ho] at h2; simp at h2
    · exact hw
theorem indepB_spec {x y : Eff} (h : indepB x y = true) : Indep x y := by
  unfold indepB disj at h
  simp only [Bool.and_eq_true, List.all_eq_true] at h
  obtain ⟨⟨h1, h2⟩, h3⟩ := h
  refine ⟨fun id hw => ?_, fun id o hw hi => ?_⟩
  · have hm := wrote_wids hw
    refine ⟨by simpa using h1 id hm, ?_⟩
    cases hy : wrote y.dst y.u id with
    | none => rfl
    | some o => exact absurd (wrote_wids (e := y) (id := id) (by rw [hy]; simp)) (by simpa using h2 id hm)
  · rw [hw] at h3
    simp only [Bool.not_eq_true', List.contains_iff_mem, Bool.eq_false_iff, ne_eq] at h3
    exact h3 hi
theorem uNoRefB_spec {d : Nat} {u : Upd} (h : uNoRefB d u = true) : UNoRef d u := by
  unfold uNoRefB at h
  simp only [Bool.and_eq_true] at h
  obtain ⟨⟨h1, h2⟩, h3⟩ := h
  refine ⟨h1, fun i o ho => ?_, fun o ho => ?_⟩
  · rw [ho] at h2; exact h2
  · rw [ho] at h3; exact h3

/-- The operations of a region in the order of the text, and what each did. -/
def runD (P : Program) (K : List Eff → St → Prop) : List VOper → St → List Eff → Prop
  | [], σ, es => K es σ
  | o :: r, σ, es => match o.guard with
    | none => opW P σ o.dst (fun u => runD P K r (σ.apply o.dst u) (es ++ [⟨idsOf σ o.op u, o.dst, u⟩])) o.op
    | some (g, b) => match gval (getE σ.env g) with
      | some c => (c = some b → opW P σ o.dst (fun u => runD P K r (σ.apply o.dst u) (es ++ [⟨idsOf σ o.op u, o.dst, u⟩])) o.op) ∧
          (¬ c = some b → runD P K r (σ.apply o.dst skipU) (es ++ [⟨[], o.dst, skipU⟩]))
      | none => False

def Steps1 (P : Program) : List VOper → St → List Eff → St → Prop
  | [], σ, es, σf => es = [] ∧ σf = σ
  | o :: r, σ, es, σf => ∃ e es', es = e :: es' ∧ Step1 P σ o e ∧ Steps1 P r (σ.apply e.dst e.u) es' σf

theorem runD_steps {P : Program} {K : List Eff → St → Prop} : ∀ {l : List VOper} {σ : St} {es : List Eff}, runD P K l σ es → ∃ es' σf, Steps1 P l σ es' σf ∧ K (es ++ es') σf
  | [], σ, es, h => ⟨[], σ, ⟨rfl, rfl⟩, by rw [List.append_nil]; exact h⟩
  | o :: r, σ, es, h => by
    simp only [runD] at h
    have act : opW P σ o.dst (fun u => runD P K r (σ.apply o.dst u) (es ++ [⟨idsOf σ o.op u, o.dst, u⟩])) o.op →
        ∃ e es' σf, Act1 P σ o e ∧ Steps1 P r (σ.apply e.dst e.u) es' σf ∧ K (es ++ e :: es') σf := by
      intro h1
      obtain ⟨u, hu, hr⟩ := opW_rel h1
      obtain ⟨es', σf, h2, h3⟩ := runD_steps hr
      exact ⟨⟨idsOf σ o.op u, o.dst, u⟩, es', σf, ⟨hu, rfl, rfl⟩, h2, by simpa using h3⟩
    split at h
    · next hg =>
      obtain ⟨e, es', σf, h1, h2, h3⟩ := act h
      exact ⟨e :: es', σf, ⟨e, es', rfl, by unfold Step1; rw [hg]; exact h1, h2⟩, h3⟩
    · next g b hg =>
      split at h
      · next c hc =>
        by_cases hcb : c = some b
        · obtain ⟨e, es', σf, h1, h2, h3⟩ := act (h.1 hcb)
          exact ⟨e :: es', σf, ⟨e, es', rfl, by unfold Step1; rw [hg]; exact ⟨c, hc, .inl ⟨hcb, h1⟩⟩, h2⟩, h3⟩
        · obtain ⟨es', σf, h2, h3⟩ := runD_steps (h.2 hcb)
          exact ⟨⟨[], o.dst, skipU⟩ :: es', σf, ⟨_, es', rfl, by unfold Step1; rw [hg]; exact ⟨c, hc, .inr ⟨hcb, rfl⟩⟩, h2⟩, by simpa using h3⟩
      · exact h.elim

/-- What is looked at, once all has been met: pairs are independent; what is made was named nowhere ahead, and is named by nothing that is not behind it. -/
def chkD (σ : St) (pairs makes : List (Nat × Nat)) (es : List Eff) : Bool :=
  pairs.all (fun p => match es[p.1]?, es[p.2]? with
    | some x, some y => indepB x y && indepB y x
    | _, _ => false) &&
  makes.all (fun p => match es[p.1]?, es[p.2]? with
    | some x, some y => match y.newId with
      | some d => uNoRefB d x.u
      | none => true
    | _, _ => false) &&
  es.all (fun e => match e.newId with
    | some d => noRefE d σ.env && noRefO d σ.objs
    | none => true)

section
variable {P : Program}

/-- Items, from a place on. -/
def items : Nat → List VOper → List Eff → List Item1
  | _, [], _ => []
  | _, _ :: _, [] => []
  | i, o :: r, e :: es => ⟨i, o, e⟩ :: items (i + 1) r es
theorem items_run : ∀ {l : List VOper} {σ σf : St} {es : List Eff} (i : Nat), Steps1 P l σ es σf → RunL P (items i l es) σ σf ∧ (items i l es).map (·.i) = List.range' i l.length ∧ es.length = l.length
  | [], σ, σf, es, i, ⟨h1, h2⟩ => by subst h1; subst h2; exact ⟨St.Eq.refl _, rfl, rfl⟩
  | o :: r, σ, σf, es, i, ⟨e, es', h1, h2, h3⟩ => by
    subst h1
    obtain ⟨k1, k2, k3⟩ := items_run (i + 1) h3
    exact ⟨⟨h2, k1⟩, by simp [items, k2, List.range'_succ], by simp [k3]⟩
theorem items_get : ∀ {l : List VOper} {es : List Eff} {i : Nat} {p : Item1}, es.length = l.length → p ∈ items i l es → i ≤ p.i ∧ l[p.i - i]? = some p.o ∧ es[p.i - i]? = some p.e
  | [], _, _, _, _, h => by simp [items] at h
  | _ :: _, [], _, _, hl, _ => by simp at hl
  | o :: r, e :: es, i, p, hl, h => by
    simp only [items, List.mem_cons] at h
    rcases h with rfl | h
    · simp
    · obtain ⟨h1, h2, h3⟩ := items_get (by simpa using hl) h
      refine ⟨by omega, ?_, ?_⟩
      · rw [show p.i - i = (p.i - (i + 1)) + 1 by omega]; simpa using h2
      · rw [show p.i - i = (p.i - (i + 1)) + 1 by omega]; simpa using h3

/-- What an edge says of the mask. -/
theorem foldl_bits (acc : Array Nat) : ∀ (es : List Edge) (s : Nat) (b : Nat), (es.foldl (fun s e => if Region.binds .any e then s ||| 2 ^ e.on ||| acc.getD e.on 0 else s) s).testBit b = true →
    s.testBit b = true ∨ ∃ e ∈ es, Region.binds .any e = true ∧ (b = e.on ∨ (acc.getD e.on 0).testBit b = true)
  | [], s, b, h => .inl h
  | e :: es, s, b, h => by
    simp only [List.foldl_cons] at h
    rcases foldl_bits acc es _ b h with h | ⟨e', he', h1, h2⟩
    · split at h
      · next hb =>
        simp only [Nat.testBit_or, Bool.or_eq_true, Nat.testBit_two_pow, decide_eq_true_eq] at h
        rcases h with (h | h) | h
        · exact .inl h
        · exact .inr ⟨e, by simp, hb, .inl h.symm⟩
        · exact .inr ⟨e, by simp, hb, .inr h⟩
      · exact .inl h
    · exact .inr ⟨e', List.mem_cons_of_mem _ he', h1, h2⟩

theorem before_fold : ∀ (l : List Oper) (acc : Array Nat),
    (l.foldl (fun acc o => acc.push (o.after.foldl (fun s e => if Region.binds .any e then s ||| 2 ^ e.on ||| acc.getD e.on 0 else s) 0)) acc).size = acc.size + l.length ∧
    (∀ j, j < acc.size → (l.foldl (fun acc o => acc.push (o.after.foldl (fun s e => if Region.binds .any e then s ||| 2 ^ e.on ||| acc.getD e.on 0 else s) 0)) acc).getD j 0 = acc.getD j 0) ∧
    ∀ j o, l[j]? = some o → ∀ b, ((l.foldl (fun acc o => acc.push (o.after.foldl (fun s e => if Region.binds .any e then s ||| 2 ^ e.on ||| acc.getD e.on 0 else s) 0)) acc).getD (acc.size + j) 0).testBit b = true →
      ∃ e ∈ o.after.toList, Region.binds .any e = true ∧ (b = e.on ∨ ((l.foldl (fun acc o => acc.push (o.after.foldl (fun s e => if Region.binds .any e then s ||| 2 ^ e.on ||| acc.getD e.on 0 else s) 0)) acc).getD e.on 0).testBit b = true)
  | [], acc => by simp
  | o :: l, acc => by
    simp only [List.foldl_cons]
    generalize hv : (o.after.foldl (fun s e => if Region.binds .any e then s ||| 2 ^ e.on ||| acc.getD e.on 0 else s) 0) = v
    obtain ⟨h1, h2, h3⟩ := before_fold l (acc.push v)
    refine ⟨by rw [h1]; simp; omega, fun j hj => ?_, fun j p hp b hb => ?_⟩
    · rw [h2 j (by simp; omega)]
      simp [Array.getD, hj, Nat.lt_succ_of_lt hj, Array.getElem_push_lt hj]
    · cases j with
      | zero =>
        simp only [List.getElem?_cons_zero, Option.some.injEq] at hp
        subst hp
        rw [Nat.add_zero, h2 acc.size (by simp)] at hb
        have hv' : (acc.push v).getD acc.size 0 = v := by simp [Array.getD]
        rw [hv', ← hv, ← Array.foldl_toList] at hb
        rcases foldl_bits acc _ _ _ hb with h | ⟨e, he, hbd, h⟩
        · simp at h
        · refine ⟨e, he, hbd, h.imp id (fun h => ?_)⟩
          have hlt : e.on < acc.size := by
            rcases Nat.lt_or_ge e.on acc.size with hh | hh
            · exact hh
            · rw [Array.getD, dif_neg (by omega)] at h
              simp at h
          rw [h2 e.on (by simp; omega)]
          have : (acc.push v).getD e.on 0 = acc.getD e.on 0 := by simp [Array.getD, hlt, Nat.lt_succ_of_lt hlt, Array.getElem_push_lt hlt]
          rw [this]
          exact h
      | succ j =>
        have := h3 j p (by simpa using hp) b (by
          rw [Array.size_push, show acc.size + 1 + j = acc.size + (j + 1) by omega]; exact hb)
        exact this

theorem before_spec {ops : Array Oper} {j : Nat} {o : Oper} (ho : ops[j]? = some o) {b : Nat} (hb : ((Region.before ops).getD j 0).testBit b = true) :
    ∃ e ∈ o.after.toList, Region.binds .any e = true ∧ (b = e.on ∨ ((Region.before ops).getD e.on 0).testBit b = true) := by
  have := (before_fold ops.toList #[]).2.2 j o (by simpa using ho) b
  unfold Region.before at hb ⊢
  rw [← Array.foldl_toList] at hb ⊢
  simp only [Array.size_empty, Nat.zero_add] at this
  exact this hb

/-- All that stands before something listed is listed. -/
theorem before_listed {ops : Array Oper} {listed : Array Bool} (hup : ∀ j o, ops[j]? = some o → ∀ e ∈ o.after.toList, Region.binds .any e = true → e.on < j)
    (hcl : ∀ j o, ops[j]? = some o → listed.getD j false = true → ∀ e ∈ o.after.toList, Region.binds .any e = true → listed.getD e.on false = true) :
    ∀ (n j : Nat) (o : Oper), j < n → ops[j]? = some o → (∀ e ∈ o.after.toList, Region.binds .any e = true → listed.getD e.on false = true) → ∀ b, ((Region.before ops).getD j 0).testBit b = true → listed.getD b false = true := by
  intro n
  induction n with
  | zero => intro j o h; omega
  | succ n ih =>
    intro j o hj ho hl b hb
    obtain ⟨e, he, hbd, h⟩ := before_spec ho hb
    have h1 := hl e he hbd
    rcases h with rfl | h
    · exact h1
    · have hlt := hup j o ho e he hbd
      cases hoe : ops[e.on]? with
      | none =>
        exfalso
        have : ops.size ≤ e.on := by
          rcases Nat.lt_or_ge e.on ops.size with hh | hh
          · simp [hh] at hoe
          · exact hh
        have hjs : j < ops.size := by
          rcases Nat.lt_or_ge j ops.size with hh | hh
          · exact hh
          · simp [Array.getElem?_eq_none hh] at ho
        omega
      | some o' => exact ih e.on o' (by omega) hoe (fun e' he' hb' => hcl e.on o' hoe h1 e' he' hb') b h
end
end Go.Vs
set_option linter.unusedVariables false
set_option linter.unusedSimpArgs false
namespace Go.Vs

section
variable {P : Program} {w0 : World} {S0 : Stab} {M : Ctx}

theorem Sim.congr {σ σ' : St} {a : Act} {w : World} (hq : St.Eq σ σ') (h : Sim w0 S0 M σ a w) : Sim w0 S0 M σ' a w := by
  obtain ⟨S, μ, β, h⟩ := h
  exact ⟨S, μ, β, h.drop hq.n hq.gl (fun i _ _ hi => (hq.ro i).2 hi) (fun k => .inr (hq.env k)) (fun id o ho => by rw [← hq.objs]; exact ho)⟩

theorem compOpers_get {ops : Array Oper} : ∀ {l : List Oper} {vs : List VOper}, compOpers P ops l = some vs → vs.length = l.length ∧ ∀ (i : Nat) (o : Oper), l[i]? = some o → ∃ v, vs[i]? = some v ∧ compOper P ops o = some v
  | [], vs, h => by
    simp only [compOpers, Option.some.injEq] at h
    subst h
    exact ⟨rfl, by simp⟩
  | o :: r, vs, h => by
    simp only [compOpers] at h
    split at h
    · next v vs' h1 h2 =>
      obtain rfl := Option.some.inj h
      obtain ⟨k1, k2⟩ := compOpers_get h2
      refine ⟨by simp [k1], fun i o' ho => ?_⟩
      cases i with
      | zero => simp at ho; subst ho; exact ⟨v, rfl, h1⟩
      | succ i => simpa using k2 i o' (by simpa using ho)
    · simp at h

theorem compOper_parts {ops : Array Oper} {o : Oper} {v : VOper} (h : compOper P ops o = some v) : v.dst = o.dst ∧ compOp P o.op = some v.op ∧ compGuard ops o.guard = some v.guard := by
  unfold compOper at h
  split at h
  · next x g h1 h2 =>
    obtain rfl := Option.some.inj h
    exact ⟨rfl, h1, h2⟩
  · simp at h

theorem yielded_gval {ops : Array Oper} {j d : Nat} (hd : (ops[j]?).bind (·.dst) = some d) {σ : St} {a : Act} {w : World} (h : Sim w0 S0 M σ a w) {c : Option Bool} (hc : gval (getE σ.env d) = some c) : yielded ops a.tmps j = c := by
  obtain ⟨S, μ, β, h'⟩ := h
  have hrel := h'.env d
  unfold gval at hc
  split at hc
  · next c' he =>
    rw [he] at hrel
    obtain rfl := Option.some.inj hc
    have hrel : a.tmps.getD d Go.undef = .bool c' := hrel
    have ht : a.tmps[d]? = some (.bool c') := by
      rcases Nat.lt_or_ge d a.tmps.size with hh | hh
      · simp [hh] at hrel ⊢; exact hrel
      · rw [Array.getD, dif_neg (by omega)] at hrel
        simp [Go.undef] at hrel
    unfold yielded
    rw [hd, Option.bind_some, ht]
  · next he =>
    rw [he] at hrel
    obtain rfl := Option.some.inj hc
    have hrel : ∃ vs, a.tmps.getD d Go.undef = .tuple vs ∧ RepList w S [] vs.toList := hrel
    obtain ⟨vs, hrel, _⟩ := hrel
    unfold yielded
    rw [hd, Option.bind_some]
    rcases Nat.lt_or_ge d a.tmps.size with hh | hh
    · have ht : a.tmps[d]? = some (.tuple vs) := by simp [hh] at hrel ⊢; exact hrel
      rw [ht]
    · rw [Array.getElem?_eq_none hh]
  · simp at hc

/-- One operation, in a region. -/
theorem step_sound {ops : Array Oper} {i : Nat} {o : Oper} {v : VOper} (ho : ops[i]? = some o) (hv : compOper P ops o = some v) {σ : St} {a : Act} {w : World} (h : Sim w0 S0 M σ a w) (hd : ∀ d, v.dst = some d → d < σ.n) {e : Eff} (hs : Step1 P σ v e)
    {Q : Exit → Act → World → Prop} {K : Act → World → Prop} (hK : ∀ a' w', Sim w0 S0 M (σ.apply e.dst e.u) a' w' → K a' w') : wpOp P ops Q i K a w := by
  obtain ⟨hdst, hop, hg⟩ := compOper_parts hv
  have run : Act1 P σ v e → o.wp P a w K Q := by
    rintro ⟨h1, h2, h3⟩
    refine op_sound h (fun d hd' => hd d (by rw [hdst]; exact hd')) hop (u := e.u) (by rw [← hdst]; exact h1) (fun val w' hs' => hK _ _ ?_)
    rw [h3, hdst]
    exact hs'
  unfold wpOp
  rw [ho]
  dsimp only
  cases hgo : o.guard with
  | none =>
    have : v.guard = none := by rw [hgo] at hg; simpa [compGuard] using hg.symm
    unfold Step1 at hs
    rw [this] at hs
    have hw : Region.wanted o (yielded ops a.tmps) = true := by simp [Region.wanted, hgo]
    rw [if_pos hw]
    exact .inl (run hs)
  | some p =>
    obtain ⟨j, b⟩ := p
    rw [hgo] at hg
    simp only [compGuard] at hg
    split at hg
    · next d hd' =>
      have hvg : v.guard = some (d, b) := by simpa using hg.symm
      unfold Step1 at hs
      rw [hvg] at hs
      obtain ⟨c, hc, hcase⟩ := hs
      have hy : yielded ops a.tmps j = c := yielded_gval hd' h hc
      have hw : Region.wanted o (yielded ops a.tmps) = (c == some b) := by simp [Region.wanted, hgo, hy]
      rw [hw]
      rcases hcase with ⟨hcb, hact⟩ | ⟨hcb, he⟩
      · rw [if_pos (by simpa using hcb)]
        exact .inl (run hact)
      · rw [if_neg (by simpa using hcb)]
        subst he
        refine hK _ _ ?_
        obtain ⟨S, μ, β, h'⟩ := h
        rw [← hdst]
        exact ⟨S, μ, β, h'.putD (sv := .val (.tuple [])) hd ⟨#[], rfl, rfl⟩⟩
    · simp at hg

/-- A region in the order of the text. -/
theorem region_text {ops : Array Oper} {vs : List VOper} (hc : compOpers P ops ops.toList = some vs) {σ : St} {a : Act} {w : World} (h : Sim w0 S0 M σ a w) (hd : ∀ v ∈ vs, ∀ d, v.dst = some d → d < σ.n) {es : List Eff} {σf : St} (hs : Steps1 P vs σ es σf)
    {Q : Exit → Act → World → Prop} (hQ : ∀ a' w', Sim w0 S0 M σf a' w' → Q .normal a' w') : wpOps P ops Q (List.range ops.size) a w := by
  obtain ⟨hlen, hget⟩ := compOpers_get hc
  have key : ∀ (l : List VOper) (k : Nat) (σ : St) (es : List Eff) (a : Act) (w : World), (∀ i, l[i]? = vs[k + i]?) → Sim w0 S0 M σ a w → (∀ v ∈ l, ∀ d, v.dst = some d → d < σ.n) → Steps1 P l σ es σf → wpOps P ops Q (List.range' k l.length) a w := by
    intro l
    induction l with
    | nil =>
      intro k σ es a w _ h _ hs
      obtain ⟨_, rfl⟩ := hs
      exact hQ a w h
    | cons v r ih =>
      intro k σ es a w hl h hd hs
      obtain ⟨e, es', _, h1, h2⟩ := hs
      have hv : vs[k]? = some v := by simpa using (hl 0).symm
      have hk : k < ops.toList.length := by
        rw [← hlen]
        rcases Nat.lt_or_ge k vs.length with hh | hh
        · exact hh
        · simp [List.getElem?_eq_none hh] at hv
      obtain ⟨v', hv', hcv⟩ := hget k ops.toList[k] (List.getElem?_eq_getElem hk)
      obtain rfl : v' = v := by rw [hv] at hv'; exact (Option.some.inj hv').symm
      simp only [List.length_cons, List.range'_succ]
      rw [wpOps_cons]
      refine step_sound (o := ops.toList[k]) (by rw [← Array.getElem?_toList]; exact List.getElem?_eq_getElem hk) hcv h (hd v' (by simp)) h1 (fun a' w' h' => ?_)
      refine ih (k + 1) _ es' a' w' (fun i => by have := hl (i + 1); simpa [Nat.add_assoc, Nat.add_comm 1 i] using this) h' (fun x hx d hxd => by rw [apply_n]; exact hd x (List.mem_cons_of_mem _ hx) d hxd) h2
  have := key vs 0 σ es a w (by simp) h hd hs
  rw [List.range_eq_range', show ops.size = vs.length by rw [hlen]; simp]
  exact this

def tmpO : Opd → Option Nat
  | .tmp t => some t
  | _ => none
def tmpR : Operand → Option Nat
  | .tmp t => some t
  | _ => none
theorem tmp_eq {x : Operand} {y : Opd} (h : compOpd x = some y) : tmpR x = tmpO y := by
  cases x with
  | tmp t => simp only [compOpd, Option.some.injEq] at h; subst h; rfl
  | const v => simp only [compOpd, Option.map_eq_some_iff] at h; obtain ⟨s, _, rfl⟩ := h; rfl
  | global g => simp only [compOpd, Option.some.injEq] at h; subst h; rfl
  | func f => simp only [compOpd, Option.some.injEq] at h; subst h; rfl
theorem tmps_eq : ∀ {xs : List Operand} {ys : List Opd}, compOpds xs = some ys → ∀ y ∈ ys, ∃ x ∈ xs, tmpR x = tmpO y
  | [], ys, h => by simp only [compOpds, Option.some.injEq] at h; subst h; simp
  | x :: r, ys, h => by
    simp only [compOpds] at h
    split at h
    · next u us h1 h2 =>
      obtain rfl := Option.some.inj h
      intro y hy
      rcases List.mem_cons.1 hy with rfl | hy
      · exact ⟨x, by simp, tmp_eq h1⟩
      · obtain ⟨z, hz, he⟩ := tmps_eq h2 y hy
        exact ⟨z, List.mem_cons_of_mem _ hz, he⟩
    · simp at h
theorem opt_eq {x : Option Operand} {y : Option Opd} (h : compOpt x = some y) : ∀ z ∈ y.toList, ∃ u ∈ x.toList, tmpR u = tmpO z := by
  cases x with
  | none => simp only [compOpt, Option.some.injEq] at h; subst h; simp
  | some x =>
    simp only [compOpt, Option.map_eq_some_iff] at h
    obtain ⟨z, h1, rfl⟩ := h
    intro u hu
    simp only [Option.toList_some, List.mem_singleton] at hu
    subst hu
    exact ⟨x, by simp, tmp_eq h1⟩
theorem parts_eq {place : Nat → Option (Nat × Nat)} : ∀ {xs : List (Nat × Operand)} {ys : List (Nat × Nat × Opd)}, compParts place xs = some ys → ∀ y ∈ ys.map (·.2.2), ∃ x ∈ xs.map (·.2), tmpR x = tmpO y
  | [], ys, h => by simp only [compParts, Option.some.injEq] at h; subst h; simp
  | (i, x) :: r, ys, h => by
    simp only [compParts] at h
    split at h
    · next o s u us _ h1 h2 =>
      obtain rfl := Option.some.inj h
      intro y hy
      simp only [List.map_cons, List.mem_cons] at hy
      rcases hy with rfl | hy
      · exact ⟨x, by simp, tmp_eq h1⟩
      · obtain ⟨z, hz, he⟩ := parts_eq h2 y hy
        exact ⟨z, by simp only [List.map_cons]; exact List.mem_cons_of_mem _ hz, he⟩
    · simp at h

theorem one_opd {x : Operand} {x' : Opd} (h : compOpd x = some x') {l : List Operand} (hx : x ∈ l) : ∀ y ∈ [x'], ∃ z ∈ l, tmpR z = tmpO y := by
  intro y hy
  simp only [List.mem_singleton] at hy
  subst hy
  exact ⟨x, hx, tmp_eq h⟩
theorem two_opd {x z : Operand} {x' z' : Opd} (h : compOpd x = some x') (k : compOpd z = some z') {l : List Operand} (hx : x ∈ l) (hz : z ∈ l) : ∀ y ∈ [x', z'], ∃ z ∈ l, tmpR z = tmpO y := by
  intro y hy
  simp only [List.mem_cons, List.not_mem_nil, or_false] at hy
  rcases hy with rfl | rfl
  · exact ⟨x, hx, tmp_eq h⟩
  · exact ⟨z, hz, tmp_eq k⟩

theorem compCall_opds {c : Call} {vo : VOp} (h : compCall P c = some vo) : ∀ y ∈ vo.opds, ∃ x ∈ c.operands.toList, tmpR x = tmpO y := by
  have hin : ∀ x, x ∈ c.args.toList → x ∈ c.operands.toList := by
    intro x hx
    simp only [Call.operands, Array.toList_append, List.mem_append]
    exact .inr hx
  unfold compCall at h
  split at h
  · split at h
    · split at h
      · simp at h
      · simp only [Option.map_eq_some_iff] at h
        obtain ⟨ys, hy, rfl⟩ := h
        intro y hyy
        obtain ⟨x, hx, he⟩ := tmps_eq hy y hyy
        exact ⟨x, hin x hx, he⟩
    · simp at h
  · next f _ hf =>
    split at h
    · next u vs hu hv =>
      obtain rfl := Option.some.inj h
      intro y hy
      simp only [VOp.opds, List.mem_cons] at hy
      rcases hy with rfl | hy
      · exact ⟨f, by simp [Call.operands, hf], tmp_eq hu⟩
      · obtain ⟨x, hx, he⟩ := tmps_eq hv y hy
        exact ⟨x, hin x hx, he⟩
    · simp at h
  · split at h
    · next t x _ hal =>
      have hx0 := hin x (by rw [hal]; simp)
      split at h <;> first
        | (simp at h; done)
        | (next hx => obtain rfl := Option.some.inj h; exact one_opd hx hx0)
    · simp at h
  · split at h
    · next t x _ hal =>
      have hx0 := hin x (by rw [hal]; simp)
      split at h <;> first
        | (simp at h; done)
        | (next hx => obtain rfl := Option.some.inj h; exact one_opd hx hx0)
    · simp at h
  · split at h
    · next x y hal =>
      split at h
      · next x' y' hx hy =>
        obtain rfl := Option.some.inj h
        exact two_opd hx hy (hin x (by rw [hal]; simp)) (hin y (by rw [hal]; simp))
      · simp at h
    · simp at h
  · split at h
    · next x y hal =>
      split at h
      · next x' y' hx hy =>
        obtain rfl := Option.some.inj h
        exact two_opd hx hy (hin x (by rw [hal]; simp)) (hin y (by rw [hal]; simp))
      · simp at h
    · simp at h
  · split at h
    · next t t' x y _ _ hal =>
      split at h
      · next e e' x' y' _ _ hx hy =>
        split at h
        · split at h
          · obtain rfl := Option.some.inj h
            exact two_opd hx hy (hin x (by rw [hal]; simp)) (hin y (by rw [hal]; simp))
          · simp at h
        · simp at h
      · next e k0 x' y' _ _ hx hy =>
        split at h
        · split at h
          · obtain rfl := Option.some.inj h
            exact two_opd hx hy (hin x (by rw [hal]; simp)) (hin y (by rw [hal]; simp))
          · simp at h
        · simp at h
      · next e x' y' _ _ hx hy =>
        split at h
        · split at h
          · obtain rfl := Option.some.inj h
            exact two_opd hx hy (hin x (by rw [hal]; simp)) (hin y (by rw [hal]; simp))
          · simp at h
        · simp at h
      · simp at h
    · simp at h
  · split at h
    · next t x _ hal =>
      split at h
      · next e x' _ hx =>
        simp only [Option.map_eq_some_iff] at h
        obtain ⟨_, _, rfl⟩ := h
        exact one_opd hx (hin x (by rw [hal]; simp))
      · simp at h
    · simp at h
  · split at h
    · next t t' x y _ _ hal =>
      split at h
      · next e e' x' y' _ _ hx hy =>
        simp only [Option.map_eq_some_iff] at h
        obtain ⟨_, _, rfl⟩ := h
        exact two_opd hx hy (hin x (by rw [hal]; simp)) (hin y (by rw [hal]; simp))
      · simp at h
    · simp at h
  · simp at h

theorem compOp0_opds {op : Op} {vo : VOp} (hc : compOp0 P op = some vo) : ∀ y ∈ vo.opds, ∃ x ∈ op.operands.toList, tmpR x = tmpO y := by
  cases op with
  | move x => simp only [compOp0, Option.map_eq_some_iff] at hc; obtain ⟨y, hy, rfl⟩ := hc; exact one_opd hy (by simp [Op.operands])
  | assign x => simp only [compOp0, Option.map_eq_some_iff] at hc; obtain ⟨y, hy, rfl⟩ := hc; exact one_opd hy (by simp [Op.operands])
  | pick c x y =>
    simp only [compOp0] at hc
    split at hc
    · next c' x' y' h1 h2 h3 =>
      obtain rfl := Option.some.inj hc
      intro z hz
      simp only [VOp.opds, List.mem_cons, List.not_mem_nil, or_false] at hz
      rcases hz with rfl | rfl | rfl
      · exact ⟨c, by simp [Op.operands], tmp_eq h1⟩
      · exact ⟨x, by simp [Op.operands], tmp_eq h2⟩
      · exact ⟨y, by simp [Op.operands], tmp_eq h3⟩
    · simp at hc
  | alloc t =>
    simp only [compOp0] at hc
    split at hc
    · obtain rfl := Option.some.inj hc; simp [VOp.opds]
    · simp only [Option.map_eq_some_iff] at hc; obtain ⟨z, hz, rfl⟩ := hc; simp [VOp.opds]
  | box t x => simp only [compOp0, Option.map_eq_some_iff] at hc; obtain ⟨y, hy, rfl⟩ := hc; exact one_opd hy (by simp [Op.operands])
  | build t parts =>
    have fin : ∀ {place : Nat → Option (Nat × Nat)} {p : List (Nat × Nat × Opd)} {z : List SV}, compParts place parts.toList = some p → ∀ y ∈ (VOp.build z p).opds, ∃ x ∈ (Op.build t parts).operands.toList, tmpR x = tmpO y := by
      intro place p z hp y hy
      obtain ⟨x, hx, he⟩ := parts_eq hp y hy
      exact ⟨x, by simp only [Op.operands]; exact hx, he⟩
    simp only [compOp0] at hc
    split at hc
    · split at hc
      · simp only [Option.map_eq_some_iff] at hc; obtain ⟨p, hp, rfl⟩ := hc; exact fin hp
      · simp at hc
    · split at hc
      · simp only [Option.map_eq_some_iff] at hc; obtain ⟨p, hp, rfl⟩ := hc; exact fin hp
      · simp at hc
    · simp at hc
  | buildSlice t n parts =>
    simp only [compOp0] at hc
    split at hc
    · split at hc
      · split at hc
        · simp only [Option.map_eq_some_iff] at hc
          obtain ⟨p, hp, rfl⟩ := hc
          intro y hy
          obtain ⟨x, hx, he⟩ := parts_eq hp y hy
          exact ⟨x, by simp only [Op.operands]; exact hx, he⟩
        · simp at hc
      · simp at hc
    · simp at hc
  | load t x =>
    simp only [compOp0] at hc
    split at hc
    · next g x' hg hx => obtain rfl := Option.some.inj hc; exact one_opd hx (by simp [Op.operands])
    · simp at hc
  | store t x y =>
    simp only [compOp0] at hc
    split at hc
    · next n x' y' hn hx hy => obtain rfl := Option.some.inj hc; exact two_opd hx hy (by simp [Op.operands]) (by simp [Op.operands])
    · simp at hc
  | nilCheck x => simp only [compOp0, Option.map_eq_some_iff] at hc; obtain ⟨y, hy, rfl⟩ := hc; exact one_opd hy (by simp [Op.operands])
  | binOp op t x y t' =>
    simp only [compOp0, compBin] at hc
    split at hc
    · next x' y' hx hy =>
      have two : ∀ z ∈ [x', y'], ∃ u ∈ (Op.binOp op t x y t').operands.toList, tmpR u = tmpO z := two_opd hx hy (by simp [Op.operands]) (by simp [Op.operands])
      have one : ∀ z ∈ [x'], ∃ u ∈ (Op.binOp op t x y t').operands.toList, tmpR u = tmpO z := one_opd hx (by simp [Op.operands])
      have eqc : ∀ {neg o}, compEq P neg o t y x' y' = some vo → ∀ z ∈ vo.opds, ∃ u ∈ (Op.binOp op t x y t').operands.toList, tmpR u = tmpO z := by
        intro neg o hc
        unfold compEq at hc
        split at hc
        · obtain rfl := Option.some.inj hc; exact two
        · obtain rfl := Option.some.inj hc; exact two
        · obtain rfl := Option.some.inj hc; exact two
        · split at hc
          · obtain rfl := Option.some.inj hc; exact one
          · simp at hc
        · split at hc
          · obtain rfl := Option.some.inj hc; exact one
          · split at hc
            · obtain rfl := Option.some.inj hc; exact two
            · simp at hc
        · split at hc
          · obtain rfl := Option.some.inj hc; exact one
          · simp at hc
        · split at hc
          · simp at hc
          · simp only [Option.map_eq_some_iff] at hc; obtain ⟨ks, _, rfl⟩ := hc; exact two
        · simp at hc
      split at hc
      · exact eqc hc
      · exact eqc hc
      · obtain rfl := Option.some.inj hc; exact two
    · simp at hc
  | unOp op t x => simp only [compOp0, Option.map_eq_some_iff] at hc; obtain ⟨y, hy, rfl⟩ := hc; exact one_opd hy (by simp [Op.operands])
  | convert s t x =>
    simp only [compOp0] at hc
    split at hc
    · next hx => obtain rfl := Option.some.inj hc; exact one_opd hx (by simp [Op.operands])
    · next hx => obtain rfl := Option.some.inj hc; exact one_opd hx (by simp [Op.operands])
    · next hx => obtain rfl := Option.some.inj hc; exact one_opd hx (by simp [Op.operands])
    · next hx =>
      split at hc
      · obtain rfl := Option.some.inj hc; exact one_opd hx (by simp [Op.operands])
      · simp at hc
    · simp at hc
  | makeInterface t x =>
    simp only [compOp0] at hc
    split at hc
    · simp at hc
    · simp only [Option.map_eq_some_iff] at hc; obtain ⟨y, hy, rfl⟩ := hc; exact one_opd hy (by simp [Op.operands])
    · simp at hc
  | makeFunc fn first caps =>
    simp only [compOp0, compFn] at hc
    split at hc
    · split at hc
      · simp only [Option.map_eq_some_iff] at hc
        obtain ⟨ys, hy, rfl⟩ := hc
        intro y hyy
        obtain ⟨x, hx, he⟩ := tmps_eq hy y hyy
        exact ⟨x, by simp only [Op.operands, Array.toList_append, List.mem_append]; exact .inr hx, he⟩
      · split at hc
        · simp only [Option.map_eq_some_iff] at hc
          obtain ⟨ys, hy, rfl⟩ := hc
          intro y hyy
          obtain ⟨x, hx, he⟩ := tmps_eq hy y hyy
          exact ⟨x, by simp only [Op.operands, Array.toList_append, List.mem_append]; exact .inl hx, he⟩
        · simp at hc
    · simp at hc
  | makeSlice t l c =>
    simp only [compOp0] at hc
    split at hc
    · split at hc
      · next hx hy =>
        split at hc
        · obtain rfl := Option.some.inj hc; exact two_opd hx hy (by simp [Op.operands]) (by simp [Op.operands])
        · simp at hc
      · simp at hc
    · simp at hc
  | slice t x lo hi mx =>
    have fin : ∀ {x' lo' hi'} {l : List Opd}, compOpd x = some x' → compOpt lo = some lo' → compOpt hi = some hi' → (∀ z ∈ l, ∃ u ∈ mx.toList, tmpR u = tmpO z) → ∀ z ∈ x' :: (lo'.toList ++ hi'.toList ++ l), ∃ u ∈ (Op.slice t x lo hi mx).operands.toList, tmpR u = tmpO z := by
      intro x' lo' hi' l hx hl hh hm z hz
      simp only [List.mem_cons, List.mem_append] at hz
      rcases hz with rfl | (hz | hz) | hz
      · exact ⟨x, by simp [Op.operands], tmp_eq hx⟩
      · obtain ⟨u, hu, he⟩ := opt_eq hl z hz
        exact ⟨u, by simp [Op.operands] at hu ⊢; simp [hu], he⟩
      · obtain ⟨u, hu, he⟩ := opt_eq hh z hz
        exact ⟨u, by simp [Op.operands] at hu ⊢; simp [hu], he⟩
      · obtain ⟨u, hu, he⟩ := hm z hz
        exact ⟨u, by simp [Op.operands] at hu ⊢; simp [hu], he⟩
    simp only [compOp0] at hc
    split at hc
    · next x' l' h' ht hx hl hh hm =>
      obtain rfl := Option.some.inj hc
      have := fin (l := []) hx hl hh (by simp)
      simpa [VOp.opds] using this
    · next e x' l' h' m' ht hx hl hh hm =>
      simp only [Option.map_eq_some_iff] at hc
      obtain ⟨s, _, rfl⟩ := hc
      exact fin hx hl hh (opt_eq hm)
    · next n e x' l' h' ht hx hl hh hm =>
      simp only [Option.map_eq_some_iff] at hc
      obtain ⟨s, _, rfl⟩ := hc
      have := fin (l := []) hx hl hh (by simp)
      simpa [VOp.opds] using this
    · simp at hc
  | fieldAddr t x f =>
    simp only [compOp0] at hc
    split at hc
    · split at hc
      · next hx =>
        split at hc
        · split at hc
          · simp at hc
          · obtain rfl := Option.some.inj hc; exact one_opd hx (by simp [Op.operands])
        · simp at hc
      · simp at hc
    · simp at hc
  | field t x f =>
    simp only [compOp0] at hc
    split at hc
    · split at hc
      · next hx =>
        simp only [Option.map_eq_some_iff] at hc
        obtain ⟨g, _, rfl⟩ := hc
        exact one_opd hx (by simp [Op.operands])
      · simp at hc
    · simp at hc
  | indexAddr t x i =>
    simp only [compOp0] at hc
    split at hc
    · split at hc
      · next hx hi => obtain rfl := Option.some.inj hc; exact two_opd hx hi (by simp [Op.operands]) (by simp [Op.operands])
      · simp at hc
    · split at hc
      · next hx hi => obtain rfl := Option.some.inj hc; exact two_opd hx hi (by simp [Op.operands]) (by simp [Op.operands])
      · simp at hc
    · simp at hc
  | index t x i =>
    simp only [compOp0] at hc
    split at hc
    · split at hc
      · next hx hi => obtain rfl := Option.some.inj hc; exact two_opd hx hi (by simp [Op.operands]) (by simp [Op.operands])
      · simp at hc
    · split at hc
      · next hx hi => obtain rfl := Option.some.inj hc; exact two_opd hx hi (by simp [Op.operands]) (by simp [Op.operands])
      · simp at hc
    · simp at hc
  | extract x i => simp only [compOp0, Option.map_eq_some_iff] at hc; obtain ⟨y, hy, rfl⟩ := hc; exact one_opd hy (by simp [Op.operands])
  | call c => exact compCall_opds hc
  | range t x =>
    simp only [compOp0] at hc
    split at hc
    · next hx => obtain rfl := Option.some.inj hc; exact one_opd hx (by simp [Op.operands])
    · simp at hc
  | next x b =>
    cases b with
    | false => simp [compOp0] at hc
    | true => simp only [compOp0, Option.map_eq_some_iff] at hc; obtain ⟨y, hy, rfl⟩ := hc; exact one_opd hy (by simp [Op.operands])
  | makeMap t r =>
    cases r with
    | some _ => simp [compOp0] at hc
    | none => simp only [compOp0] at hc; obtain rfl := Option.some.inj hc; simp [VOp.opds]
  | mapUpdate t m k x =>
    simp only [compOp0] at hc
    split at hc
    · next m' k' x' _ hm hk hx =>
      split at hc
      · split at hc
        · simp at hc
        · obtain rfl := Option.some.inj hc
          intro z hz
          simp only [VOp.opds, List.mem_cons, List.not_mem_nil, or_false] at hz
          rcases hz with rfl | rfl | rfl
          · exact ⟨m, by simp [Op.operands], tmp_eq hm⟩
          · exact ⟨k, by simp [Op.operands], tmp_eq hk⟩
          · exact ⟨x, by simp [Op.operands], tmp_eq hx⟩
      · simp at hc
    · simp at hc
  | lookup t m k ok =>
    cases ok with
    | true => simp [compOp0] at hc
    | false =>
      simp only [compOp0] at hc
      split at hc
      · next hm hk =>
        split at hc
        · split at hc
          · simp at hc
          · obtain rfl := Option.some.inj hc; exact two_opd hm hk (by simp [Op.operands]) (by simp [Op.operands])
        · simp at hc
      · simp at hc
  | _ => simp [compOp0] at hc

theorem compOp_opds {op : Op} {vo : VOp} (hc : compOp P op = some vo) : ∀ y ∈ vo.opds, ∃ x ∈ op.operands.toList, tmpR x = tmpO y := by
  rcases compOp_cases hc with hc | rfl
  · exact compOp0_opds hc
  · simp [VOp.opds]

theorem tmpO_filter {l : List Opd} {t : Nat} : t ∈ (l.filterMap fun | .tmp t => some t | _ => none) ↔ ∃ y ∈ l, tmpO y = some t := by
  simp only [List.mem_filterMap]
  constructor
  · rintro ⟨y, hy, h⟩
    exact ⟨y, hy, by cases y <;> simp_all [tmpO]⟩
  · rintro ⟨y, hy, h⟩
    exact ⟨y, hy, by cases y <;> simp_all [tmpO]⟩
theorem tmpR_filter {l : List Operand} {t : Nat} : t ∈ (l.filterMap fun | .tmp t => some t | _ => none) ↔ ∃ y ∈ l, tmpR y = some t := by
  simp only [List.mem_filterMap]
  constructor
  · rintro ⟨y, hy, h⟩
    exact ⟨y, hy, by cases y <;> simp_all [tmpR]⟩
  · rintro ⟨y, hy, h⟩
    exact ⟨y, hy, by cases y <;> simp_all [tmpR]⟩

theorem mem_split_nodup {x : Item1} {l : List Item1} (h : x ∈ l) : ∃ A B, l = A ++ x :: B := List.append_of_mem h

theorem vslots {ops : Array Oper} {o : Oper} {v : VOper} (h : compOper P ops o = some v) : ∀ t, t ∈ v.slots → t ∈ o.looksAt ops := by
  obtain ⟨_, hop, hg⟩ := compOper_parts h
  intro t ht
  unfold VOper.slots at ht
  unfold Oper.looksAt
  rw [List.mem_append] at ht ⊢
  rcases ht with ht | ht
  · left
    obtain ⟨y, hy, he⟩ := tmpO_filter.1 ht
    obtain ⟨x, hx, he'⟩ := compOp_opds hop y hy
    exact tmpR_filter.2 ⟨x, hx, he'.trans he⟩
  · right
    cases hgo : o.guard with
    | none =>
      rw [hgo] at hg
      have : v.guard = none := by simpa [compGuard] using hg.symm
      rw [this] at ht
      simp at ht
    | some p =>
      obtain ⟨j, b⟩ := p
      rw [hgo] at hg
      simp only [compGuard] at hg
      split at hg
      · next d hd =>
        have hvg : v.guard = some (d, b) := by simpa using hg.symm
        rw [hvg] at ht
        simp only [List.mem_singleton] at ht
        subst ht
        simp [hd]
      · simp at hg
end
end Go.Vs
set_option linter.unusedVariables false
set_option linter.unusedSimpArgs false
namespace Go.Vs

section
variable {P : Program} {w0 : World} {S0 : Stab} {M : Ctx}

theorem getD_both1 {listed : Array Bool} {i : Nat} (h : listed.getD i true = false) : listed.getD i false = false := by
  rcases Nat.lt_or_ge i listed.size with h' | h'
  · simp only [Array.getD, dif_pos h'] at h ⊢; exact h
  · simp [Array.getD, Nat.not_lt.2 h'] at h
theorem getD_in1 {listed : Array Bool} {i : Nat} (hi : i < listed.size) (h : listed.getD i false = false) : listed.getD i true = false := by
  simp only [Array.getD, dif_pos hi] at h ⊢; exact h
theorem getD_rep (m j : Nat) : (Array.replicate m false).getD j false = false := by
  rcases Nat.lt_or_ge j m with h | h
  · simp [Array.getD, h]
  · simp [Array.getD, Nat.not_lt.2 h]

theorem apart_of {ops : Array Oper} {a b : Oper} {x y : VOper} (hx : compOper P ops a = some x) (hy : compOper P ops b = some y) (h : a.apart ops b = true) : Apart x y := by
  obtain ⟨h1, h2, h3⟩ := Oper.apart_spec h
  obtain ⟨dx, _, _⟩ := compOper_parts hx
  obtain ⟨dy, _, _⟩ := compOper_parts hy
  refine ⟨fun d hd => ⟨fun hs => h1 d (by rw [← dx]; exact hd) (vslots hy d hs), by rw [dy]; exact h2 d (by rw [← dx]; exact hd)⟩, fun d hd hs => h3 d (by rw [← dy]; exact hd) (vslots hx d hs)⟩

theorem step_kind {σ : St} {o : VOper} {e : Eff} (h : Step1 P σ o e) : (e.u.wr ≠ none → o.op.writes = true) ∧ (e.u.new ≠ none → o.op.makes = true) ∧ (e.u.fz ≠ [] → o.op.acts = true) ∧ (e.ids ≠ [] → o.op.acts = true) := by
  have act : Act1 P σ o e → _ := fun ⟨h1, h2, h3⟩ => (⟨(opRel_kind h1).1, (opRel_kind h1).2, opRel_fz h1, fun hn => by
    rw [h2] at hn
    unfold idsOf at hn
    cases ha : o.op.acts with
    | true => rfl
    | false => rw [ha] at hn; exact absurd rfl hn⟩ : (e.u.wr ≠ none → o.op.writes = true) ∧ (e.u.new ≠ none → o.op.makes = true) ∧ (e.u.fz ≠ [] → o.op.acts = true) ∧ (e.ids ≠ [] → o.op.acts = true))
  unfold Step1 at h
  split at h
  · exact act h
  · obtain ⟨c, _, h | h⟩ := h
    · exact act h.2
    · rw [h.2]
      exact ⟨fun x => absurd rfl x, fun x => absurd rfl x, fun x => absurd rfl x, fun x => absurd rfl x⟩

theorem unflagged {σ σ' : St} {a b : VOper} {x y : Eff} (ha : Step1 P σ a x) (hb : Step1 P σ' b y) (h : a.op.flagged b.op = false) : Indep x y ∧ Indep y x := by
  obtain ⟨a1, a2, a3, a4⟩ := step_kind ha
  obtain ⟨b1, b2, b3, b4⟩ := step_kind hb
  unfold VOp.flagged at h
  simp only [Bool.or_eq_false_iff, Bool.and_eq_false_iff] at h
  obtain ⟨⟨⟨h1, h2⟩, h3⟩, h4⟩ := h
  have nx : x.u.new = none := by
    cases hn : x.u.new with
    | none => rfl
    | some o => have := a2 (by rw [hn]; simp); rw [h3] at this; simp at this
  have ny : y.u.new = none := by
    cases hn : y.u.new with
    | none => rfl
    | some o => have := b2 (by rw [hn]; simp); rw [h4] at this; simp at this
  have wact : ∀ op : VOp, op.writes = true → op.acts = true := by intro op; cases op <;> simp [VOp.writes, VOp.acts]
  have gen : ∀ (p q : Eff) (o1 o2 : VOp), p.u.new = none → q.u.new = none → (p.u.wr ≠ none → o1.writes = true) → (q.u.wr ≠ none → o2.writes = true) → (p.u.fz ≠ [] → o1.acts = true) → (q.ids ≠ [] → o2.acts = true) →
      (o1.writes = false ∨ o2.acts = false) → (o2.writes = false ∨ o1.acts = false) → Indep p q := by
    intro p q o1 o2 np nq p1 q1 p3 q4 c1 c2
    refine ⟨fun id hw => ?_, fun id o hw hi => ?_⟩
    · rw [wrote_old (.inl np)] at hw
      have hpw : p.u.wr ≠ none := by intro e; rw [e] at hw; exact hw rfl
      have hw1 := p1 hpw
      have ha2 : o2.acts = false := c1.resolve_left (by rw [hw1]; simp)
      refine ⟨fun hi => ?_, ?_⟩
      · have := q4 (by intro e; rw [e] at hi; simp at hi)
        rw [ha2] at this; simp at this
      · rw [wrote_old (.inl nq)]
        cases hq : q.u.wr with
        | none => rfl
        | some r =>
          have := wact _ (q1 (by rw [hq]; simp))
          rw [ha2] at this; simp at this
    · have hw2 := q1 (by rw [hw]; simp)
      have ha1 : o1.acts = false := c2.resolve_left (by rw [hw2]; simp)
      have := p3 (by intro e; rw [e] at hi; simp at hi)
      rw [ha1] at this; simp at this
  exact ⟨gen x y a.op b.op nx ny a1 b1 a3 b4 h1 h2, gen y x b.op a.op ny nx b1 a1 b3 a4 h2 h1⟩

/-- What holds of the items, whatever has been run. -/
structure Fine (ops : Array Oper) (p : Item1) : Prop where
  comp : ∃ o, ops[p.i]? = some o ∧ compOper P ops o = some p.o

theorem steps_all : ∀ {l : List VOper} {σ σf : St} {es : List Eff} (i : Nat), Steps1 P l σ es σf → ∀ p ∈ items i l es, ∃ σ', Step1 P σ' p.o p.e
  | [], _, _, _, _, _, _, h => by simp [items] at h
  | o :: r, σ, σf, es, i, ⟨e, es', h1, h2, h3⟩, p, h => by
    subst h1
    simp only [items, List.mem_cons] at h
    rcases h with rfl | h
    · exact ⟨σ, h2⟩
    · exact steps_all (i + 1) h3 p h

theorem newId_creates {e : Eff} {d : Nat} : e.newId = some d ↔ creates e d := by
  unfold Eff.newId creates
  constructor
  · intro h
    split at h
    · next o d' h1 h2 =>
      obtain rfl := Option.some.inj h
      exact ⟨⟨o, h1⟩, h2⟩
    · simp at h
  · rintro ⟨⟨o, h1⟩, h2⟩
    rw [h1, h2]

/-- How many of the first n are not listed. -/
def cntL (f : Nat → Bool) : Nat → Nat
  | 0 => 0
  | n + 1 => cntL f n + (if f n then 0 else 1)
theorem cntL_set {f g : Nat → Bool} {i : Nat} (hi : f i = false) (hg : g i = true) (h : ∀ j, i ≠ j → g j = f j) : ∀ n, (i < n → cntL g n + 1 = cntL f n) ∧ (n ≤ i → cntL g n = cntL f n)
  | 0 => ⟨fun h => by omega, fun _ => rfl⟩
  | n + 1 => by
    obtain ⟨h1, h2⟩ := cntL_set hi hg h n
    refine ⟨fun hn => ?_, fun hn => ?_⟩
    · rcases Nat.lt_or_ge i n with h3 | h3
      · simp only [cntL, h n (by omega)]
        have := h1 h3
        omega
      · obtain rfl : i = n := by omega
        simp [cntL, h2 (Nat.le_refl _), hi, hg]
    · simp only [cntL, h n (by omega), h2 (by omega)]
theorem cntL_zero {f : Nat → Bool} : ∀ {n}, cntL f n = 0 → ∀ j, j < n → f j = true
  | 0, _, j, hj => by omega
  | n + 1, h, j, hj => by
    simp only [cntL] at h
    rcases Nat.lt_or_ge j n with h1 | h1
    · exact cntL_zero (by omega) j h1
    · obtain rfl : j = n := by omega
      cases hf : f j with
      | true => rfl
      | false => simp [hf] at h

/-- Each edge goes back. -/
def UpE (ops : Array Oper) : Prop := ∀ j o, ops[j]? = some o → ∀ e ∈ o.after.toList, Region.binds .any e = true → e.on < j
theorem ready_nil {ops : Array Oper} {listed : Array Bool} (hup : UpE ops) (hsz : listed.size = ops.size) (h : Region.ready .any ops listed = []) : ∀ j, j < ops.size → listed.getD j false = true := by
  intro j
  induction j using Nat.strongRecOn with
  | _ j ih =>
    intro hj
    cases hb : listed.getD j false with
    | true => rfl
    | false =>
      have : j ∈ Region.ready .any ops listed := mem_ready.2 ⟨getD_in1 (by omega) hb, ops[j], by simp [hj], fun e he hbd => by
        have := hup j ops[j] (by simp [hj]) e (by simpa using he) hbd
        exact ih e.on this (by omega)⟩
      rw [h] at this
      cases this
theorem any_done {ops : Array Oper} {listed : Array Bool} {Q : Exit → Act → World → Prop} {a : Act} {w : World} (h : ∀ j, j < ops.size → listed.getD j false = true) (hq : Q .normal a w) : ∀ fuel, wpAny P .any ops Q fuel listed a w := by
  have hr : Region.ready .any ops listed = [] := by
    rw [List.eq_nil_iff_forall_not_mem]
    intro i hi
    obtain ⟨h1, oi, hoi, _⟩ := mem_ready.1 hi
    have := h i (Array.getElem?_eq_some_iff.1 hoi).1
    rw [getD_both1 h1] at this
    cases this
  intro fuel
  cases fuel with
  | zero => exact ⟨hr, hq⟩
  | succ f => exact ⟨fun _ => hq, fun i hi => by rw [hr] at hi; cases hi⟩

/-- What is looked at ahead of some operations that have been run. -/
structure Ahead (P : Program) (ops : Array Oper) (I : List Item1) : Prop where
  comp : ∀ p ∈ I, ∃ o, ops[p.i]? = some o ∧ compOper P ops o = some p.o
  free : ∀ p ∈ I, ∀ x ∈ I, p.i < x.i → ((Region.before ops).getD x.i 0).testBit p.i = false → Free x p
  nr : ∀ p ∈ I, ∀ k ∈ I, p.i ≠ k.i → ((Region.before ops).getD p.i 0).testBit k.i = false → ∀ d, creates k.e d → UNoRef d p.e.u
theorem pairs_up {ops : Array Oper} {vs : List VOper} {pairs makes : List (Nat × Nat)} (hp : pairsOf ops vs.toArray = some (pairs, makes)) : UpE ops := by
  unfold pairsOf at hp
  simp only at hp
  split at hp
  · next hcond =>
    simp only [Bool.and_eq_true, List.all_eq_true, List.mem_range] at hcond
    intro j o ho e he hb
    have := hcond.1 j (Array.getElem?_eq_some_iff.1 ho).1
    rw [ho] at this
    simp only [List.all_eq_true, Bool.or_eq_true, Bool.not_eq_true', decide_eq_true_eq] at this
    rcases this e he with h1 | h1
    · rw [hb] at h1; cases h1
    · exact h1
  · cases hp
theorem comp_at {ops : Array Oper} {vs : List VOper} (hc : compOpers P ops ops.toList = some vs) {i : Nat} {v : VOper} (hv : vs[i]? = some v) : ∃ o, ops[i]? = some o ∧ compOper P ops o = some v ∧ i < ops.size := by
  obtain ⟨hlen, hget⟩ := compOpers_get hc
  have hi := (List.getElem?_eq_some_iff.1 hv).1
  have hi' : i < ops.toList.length := by omega
  obtain ⟨v', hv1, hv2⟩ := hget i ops.toList[i] (List.getElem?_eq_getElem hi')
  obtain rfl : v' = v := by rw [hv] at hv1; exact (Option.some.inj hv1).symm
  exact ⟨ops.toList[i], by rw [← Array.getElem?_toList]; exact List.getElem?_eq_getElem hi', hv2, by simpa using hi'⟩
/-- Two operations that no edge orders are apart. -/
theorem pairs_apart {ops : Array Oper} {vs : List VOper} (hc : compOpers P ops ops.toList = some vs) {pairs makes : List (Nat × Nat)} (hp : pairsOf ops vs.toArray = some (pairs, makes)) {i j : Nat} {x y : VOper} (hij : i < j) (hx : vs[i]? = some x) (hy : vs[j]? = some y) (hb : ((Region.before ops).getD j 0).testBit i = false) : Apart x y := by
  obtain ⟨o1, a1, a2, a3⟩ := comp_at hc hx
  obtain ⟨o2, b1, b2, b3⟩ := comp_at hc hy
  unfold pairsOf at hp
  simp only at hp
  split at hp
  · next hcond =>
    simp only [Bool.and_eq_true, List.all_eq_true, List.mem_range] at hcond
    have hap := hcond.2 j b3 i hij
    rw [hb, a1, b1] at hap
    simp only [Bool.false_or] at hap
    exact apart_of a2 b2 hap
  · cases hp
/-- What goes from one operation to another stands ahead of that. -/
theorem pairs_flow {ops : Array Oper} {vs : List VOper} (hc : compOpers P ops ops.toList = some vs) {pairs makes : List (Nat × Nat)} (hp : pairsOf ops vs.toArray = some (pairs, makes)) {i j : Nat} {x y : VOper} {d : Nat} (hij : i < j) (hx : vs[i]? = some x) (hy : vs[j]? = some y) (hd : x.dst = some d) (hs : d ∈ y.slots) : ((Region.before ops).getD j 0).testBit i = true := by
  cases hb : ((Region.before ops).getD j 0).testBit i with
  | true => rfl
  | false => exact absurd hs ((pairs_apart hc hp hij hx hy hb).1 d hd).1
theorem ahead_I {ops : Array Oper} {vs : List VOper} (hc : compOpers P ops ops.toList = some vs) {pairs makes : List (Nat × Nat)} (hp : pairsOf ops vs.toArray = some (pairs, makes)) {I : List Item1} (hv : ∀ p ∈ I, vs[p.i]? = some p.o) (hall : ∀ p ∈ I, ∃ σ', Step1 P σ' p.o p.e) {σ : St} {es : List Eff} {sel : Nat × Nat → Bool} (hk : chkD σ (pairs.filter sel) (makes.filter sel) es = true) (he : ∀ p ∈ I, es[p.i]? = some p.e) (hsel : ∀ p ∈ I, ∀ x ∈ I, sel (p.i, x.i) = true) : Ahead P ops I ∧ ∀ p ∈ I, ∀ d, creates p.e d → NoRefAll d σ := by
  have hp' := hp
  unfold pairsOf at hp
  simp only at hp
  split at hp
  · simp only [Option.some.injEq, Prod.mk.injEq] at hp
    obtain ⟨hpairs, hmakes⟩ := hp
    unfold chkD at hk
    simp only [Bool.and_eq_true, List.all_eq_true] at hk
    obtain ⟨⟨hk1, hk2⟩, hk3⟩ := hk
    refine ⟨⟨fun p hpI => ?_, fun p hpI x hx hlt hbit => ?_, fun p hpI k hkI hne hbit d hcr => ?_⟩, fun p hpI d hcr => ?_⟩
    · obtain ⟨o, h1, h2, _⟩ := comp_at hc (hv p hpI)
      exact ⟨o, h1, h2⟩
    · have hAp := pairs_apart hc hp' hlt (hv p hpI) (hv x hx) hbit
      obtain ⟨o2, b1, b2, b3⟩ := comp_at hc (hv x hx)
      cases hfl : p.o.op.flagged x.o.op with
      | false =>
        obtain ⟨σ1, s1⟩ := hall p hpI
        obtain ⟨σ2, s2⟩ := hall x hx
        obtain ⟨i1, i2⟩ := unflagged s1 s2 hfl
        exact ⟨hAp, i1, i2⟩
      | true =>
        have hm : (p.i, x.i) ∈ pairs := by
          rw [← hpairs]
          refine List.mem_flatMap.2 ⟨x.i, List.mem_range.2 b3, List.mem_filterMap.2 ⟨p.i, List.mem_range.2 hlt, ?_⟩⟩
          rw [hbit]
          simp only [Bool.false_eq_true, if_false, List.getElem?_toArray, hv p hpI, hv x hx, hfl, if_true]
        have := hk1 _ (List.mem_filter.2 ⟨hm, hsel p hpI x hx⟩)
        simp only [he p hpI, he x hx, Bool.and_eq_true] at this
        exact ⟨hAp, indepB_spec this.1, indepB_spec this.2⟩
    · obtain ⟨o1, a1, a2, a3⟩ := comp_at hc (hv p hpI)
      obtain ⟨o2, b1, b2, b3⟩ := comp_at hc (hv k hkI)
      obtain ⟨σ2, s2⟩ := hall k hkI
      have hmk : k.o.op.makes = true := (step_kind s2).2.1 (by obtain ⟨⟨o, ho⟩, _⟩ := hcr; rw [ho]; simp)
      have hm : (p.i, k.i) ∈ makes := by
        rw [← hmakes]
        refine List.mem_flatMap.2 ⟨k.i, List.mem_range.2 b3, ?_⟩
        simp only [List.getElem?_toArray, hv k hkI, hmk, if_true]
        refine List.mem_filterMap.2 ⟨p.i, List.mem_range.2 a3, ?_⟩
        rw [if_neg hne, hbit]
        simp
      have := hk2 _ (List.mem_filter.2 ⟨hm, hsel p hpI k hkI⟩)
      simp only [he p hpI, he k hkI, newId_creates.2 hcr] at this
      exact uNoRefB_spec this
    · have := hk3 p.e (List.mem_of_getElem? (he p hpI))
      simp only [newId_creates.2 hcr, Bool.and_eq_true] at this
      exact ⟨noRefE_get this.1, fun id o ho => noRefO_get this.2 ho⟩
  · cases hp

/-- Where a part of a region stands: what is listed, what is to come (L, of I); U: what is no part of this. What is late may be left for behind it. -/
structure Lst (P : Program) (ops : Array Oper) (I : List Item1) (U late : Nat → Bool) (n : Nat) (σf σB : St) (listed : Array Bool) (L : List Item1) (σ1 : St) : Prop where
  sz : listed.size = ops.size
  pw : L.Pairwise fun p q => p.i < q.i
  sub : ∀ p ∈ L, p ∈ I
  li : ∀ j, j < ops.size → U j = false → (listed.getD j false = false ↔ ∃ p ∈ L, p.i = j)
  un : ∀ j, j < ops.size → U j = true → listed.getD j false = false
  cl : ∀ j o, ops[j]? = some o → listed.getD j false = true → ∀ e ∈ o.after.toList, Region.binds .any e = true → listed.getD e.on false = true
  run : RunL P L σ1 σf
  runB : (∀ p ∈ I, late p.i = true → p ∈ L) → RunL P (L.filter fun p => !late p.i) σ1 σB
  nr : ∀ p ∈ L, ∀ d, creates p.e d → NoRefAll d σ1
  n : σ1.n = n

/-- A PART OF A REGION, in whatever order. -/
theorem rgPhase {ops : Array Oper} (hup : UpE ops) {I : List Item1} (hI : Ahead P ops I) {U late : Nat → Bool} (hU : ∀ p ∈ I, U p.i = false) {n : Nat} (hd : ∀ p ∈ I, ∀ d, p.o.dst = some d → d < n) {σf σB : St} {Q : Exit → Act → World → Prop}
    (hQ : ∀ fuel listed L σ1 a w i, cntL (listed.getD · false) ops.size ≤ fuel + 1 → Lst P ops I U late n σf σB listed L σ1 → U i = true → i < ops.size → (∀ b, ((Region.before ops).getD i 0).testBit b = true → listed.getD b false = true) → (∀ o, ops[i]? = some o → ∀ e ∈ o.after.toList, Region.binds .any e = true → listed.getD e.on false = true) → Sim w0 S0 M σ1 a w → wpOp P ops Q i (wpAny P .any ops Q fuel (listed.setIfInBounds i true)) a w)
    (hE : (∀ j, j < ops.size → U j = false) → ∀ a w, Sim w0 S0 M σf a w → Q .normal a w) :
    ∀ (fuel : Nat) {listed : Array Bool} {L : List Item1} {σ1 : St} {a : Act} {w : World}, cntL (listed.getD · false) ops.size ≤ fuel → Lst P ops I U late n σf σB listed L σ1 → Sim w0 S0 M σ1 a w → wpAny P .any ops Q fuel listed a w := by
  have bit_lt : ∀ (j k : Nat), j ≤ k → j < ops.size → ((Region.before ops).getD j 0).testBit k = false := by
    intro j
    induction j using Nat.strongRecOn with
    | _ j ih =>
      intro k hjk hj
      cases hb : ((Region.before ops).getD j 0).testBit k with
      | false => rfl
      | true =>
        obtain ⟨e, he, hbd, h⟩ := before_spec (ops := ops) (j := j) (o := ops[j]) (by simp [hj]) hb
        have hlt := hup j ops[j] (by simp [hj]) e he hbd
        rcases h with h | h
        · omega
        · have := ih e.on hlt k (by omega) (by omega)
          rw [this] at h; cases h
  have fin : ∀ {listed : Array Bool} {L : List Item1} {σ1 : St} {a : Act} {w : World}, Lst P ops I U late n σf σB listed L σ1 → (∀ j, j < ops.size → listed.getD j false = true) → Sim w0 S0 M σ1 a w → Q .normal a w := by
    intro listed L σ1 a w hl hall hsim
    have hL : L = [] := by
      cases L with
      | nil => rfl
      | cons p L =>
        exfalso
        obtain ⟨o, ho, _⟩ := hI.comp p (hl.sub p (by simp))
        have hi := (Array.getElem?_eq_some_iff.1 ho).1
        have := (hl.li p.i hi (hU p (hl.sub p (by simp)))).2 ⟨p, by simp, rfl⟩
        rw [hall p.i hi] at this
        cases this
    subst hL
    refine hE (fun j hj => ?_) a w (hsim.congr hl.run)
    cases hu : U j with
    | false => rfl
    | true => have := hl.un j hj hu; rw [hall j hj] at this; cases this
  intro fuel
  induction fuel with
  | zero =>
    intro listed L σ1 a w hf hl hsim
    have hall := cntL_zero (Nat.le_zero.1 hf)
    exact any_done hall (fin hl hall hsim) 0
  | succ fuel ih =>
    intro listed L σ1 a w hf hl hsim
    refine ⟨fun he => fin hl (ready_nil hup hl.sz he) hsim, fun i hi => ?_⟩
    obtain ⟨h1, oi, hoi, hready⟩ := mem_ready.1 hi
    have hlt : i < ops.size := (Array.getElem?_eq_some_iff.1 hoi).1
    have hu := getD_both1 h1
    have hbefore : ∀ b, ((Region.before ops).getD i 0).testBit b = true → listed.getD b false = true :=
      before_listed hup hl.cl (i + 1) i oi (by omega) hoi (fun e he hbd => hready e (by simpa using he) hbd)
    have hready' : ∀ o, ops[i]? = some o → ∀ e ∈ o.after.toList, Region.binds .any e = true → listed.getD e.on false = true := by
      intro o ho e he hb
      obtain rfl : oi = o := Option.some.inj (hoi.symm.trans ho)
      exact hready e (by simpa using he) hb
    cases hUi : U i with
    | true => exact hQ fuel listed L σ1 a w i hf hl hUi hlt hbefore (fun o ho e he hb => hready' o ho e he hb) hsim
    | false =>
      obtain ⟨x, hx, hxi⟩ := (hl.li i hlt hUi).1 hu
      subst hxi
      obtain ⟨A, B, hAB⟩ := List.append_of_mem hx
      subst hAB
      obtain ⟨o2, b1, b2⟩ := hI.comp x (hl.sub x hx)
      have hpw' := List.pairwise_append.1 hl.pw
      have hAx : ∀ p ∈ A, p.i < x.i := fun p hp => hpw'.2.2 p hp x (by simp)
      have hxB : ∀ q ∈ B, x.i < q.i := fun q hq => (List.pairwise_cons.1 hpw'.2.1).1 q hq
      have inA : ∀ p ∈ A, p ∈ I := fun p hp => hl.sub p (List.mem_append_left _ hp)
      have inB : ∀ p ∈ B, p ∈ I := fun p hp => hl.sub p (List.mem_append_right _ (List.mem_cons_of_mem _ hp))
      have inx : x ∈ I := hl.sub x hx
      have szI : ∀ p ∈ I, p.i < ops.size := fun p hp => by
        obtain ⟨o, ho, _⟩ := hI.comp p hp
        exact (Array.getElem?_eq_some_iff.1 ho).1
      have hAn : ∀ p ∈ A, ((Region.before ops).getD x.i 0).testBit p.i = false := by
        intro p hp
        cases hb : ((Region.before ops).getD x.i 0).testBit p.i with
        | false => rfl
        | true =>
          have := hbefore p.i hb
          have hpn : listed.getD p.i false = false := (hl.li p.i (szI p (inA p hp)) (hU p (inA p hp))).2 ⟨p, List.mem_append_left _ hp, rfl⟩
          rw [hpn] at this; cases this
      have front : ∀ {A' B' : List Item1} {σ' : St}, (∀ p ∈ A', p ∈ A) → (∀ p ∈ B', p ∈ B) → (A'.Pairwise fun p q => p.i < q.i) → RunL P (A' ++ x :: B') σ1 σ' → RunL P (x :: (A' ++ B')) σ1 σ' := by
        intro A' B' σ' hA' hB' hpA hr
        refine run_front (P := P) hr (fun p hp => hI.free p (inA p (hA' p hp)) x inx (hAx p (hA' p hp)) (hAn p (hA' p hp))) (fun p hp => hl.nr p ?_)
          (fun p hp d hcr => hI.nr x inx p (inA p (hA' p hp)) (by have := hAx p (hA' p hp); omega) (hAn p (hA' p hp)) d hcr)
          (by
            refine List.Pairwise.imp_of_mem ?_ hpA
            intro p q hp hq hpq d hcr
            exact hI.nr p (inA p (hA' p hp)) q (inA q (hA' q hq)) (by omega) (bit_lt p.i q.i (by omega) (szI p (inA p (hA' p hp)))) d hcr)
          (fun p hp q hq d hcr => by
            have h1 := hAx p (hA' p hp)
            rcases List.mem_cons.1 hq with rfl | hq'
            · exact hI.nr p (inA p (hA' p hp)) q inx (by omega) (bit_lt p.i q.i (by omega) (szI p (inA p (hA' p hp)))) d hcr
            · have h2 := hxB q (hB' q hq')
              exact hI.nr p (inA p (hA' p hp)) q (inB q (hB' q hq')) (by omega) (bit_lt p.i q.i (by omega) (szI p (inA p (hA' p hp)))) d hcr)
        rcases List.mem_append.1 hp with hp | hp
        · exact List.mem_append_left _ (hA' p hp)
        · rcases List.mem_cons.1 hp with rfl | hp
          · exact hx
          · exact List.mem_append_right _ (List.mem_cons_of_mem _ (hB' p hp))
      obtain ⟨hstep, hrest⟩ := front (fun _ h => h) (fun _ h => h) hpw'.1 hl.run
      refine step_sound b1 b2 hsim (fun d hdd => by rw [hl.n]; exact hd x inx d hdd) hstep (fun a' w' hs' => ?_)
      have hmemAB : ∀ p, p ∈ A ++ B → p ∈ A ++ x :: B := fun p hp => by
        rcases List.mem_append.1 hp with hp | hp
        · exact List.mem_append_left _ hp
        · exact List.mem_append_right _ (List.mem_cons_of_mem _ hp)
      have hset : (listed.setIfInBounds x.i true).getD x.i false = true := by simp [Array.getD, hl.sz, hlt]
      have hnx : x ∉ A ++ B := fun h => by
        rcases List.mem_append.1 h with h | h
        · have := hAx x h; omega
        · have := hxB x h; omega
      refine ih (listed := listed.setIfInBounds x.i true) (L := A ++ B) ?_ ⟨by simp [hl.sz], ?_, fun p hp => hl.sub p (hmemAB p hp), ?_, ?_, ?_, hrest, ?_, ?_, by rw [apply_n]; exact hl.n⟩ hs'
      · have := (cntL_set (f := (listed.getD · false)) (g := ((listed.setIfInBounds x.i true).getD · false)) hu hset (fun j hj => getD_set_ne false hj) ops.size).1 hlt
        omega
      · exact List.pairwise_append.2 ⟨hpw'.1, (List.pairwise_cons.1 hpw'.2.1).2, fun u hu v hv => hpw'.2.2 u hu v (List.mem_cons_of_mem _ hv)⟩
      · intro j hj hUj
        by_cases hjx : x.i = j
        · subst hjx
          rw [hset]
          simp only [Bool.true_eq_false, false_iff, not_exists, not_and]
          intro p hp e
          rcases List.mem_append.1 hp with hp | hp
          · have := hAx p hp; omega
          · have := hxB p hp; omega
        · rw [getD_set_ne false hjx, hl.li j hj hUj]
          constructor
          · rintro ⟨p, hp, e⟩
            refine ⟨p, ?_, e⟩
            rcases List.mem_append.1 hp with hp | hp
            · exact List.mem_append_left _ hp
            · rcases List.mem_cons.1 hp with rfl | hp
              · exact absurd e hjx
              · exact List.mem_append_right _ hp
          · rintro ⟨p, hp, e⟩
            exact ⟨p, hmemAB p hp, e⟩
      · intro j hj hUj
        rw [getD_set_ne false (by rintro rfl; rw [hUi] at hUj; cases hUj)]
        exact hl.un j hj hUj
      · intro j o hj hl' e he hb
        by_cases hjx : x.i = j
        · subst hjx
          obtain rfl : oi = o := by rw [hj] at hoi; exact (Option.some.inj hoi).symm
          exact getD_set_true (hready e (by simpa using he) hb)
        · rw [getD_set_ne false hjx] at hl'
          exact getD_set_true (hl.cl j o hj hl' e he hb)
      · intro hB
        cases hlx : late x.i with
        | true => exact absurd (hB x inx hlx) hnx
        | false =>
          have hr := hl.runB (fun p hp h => hmemAB p (hB p hp h))
          rw [List.filter_append, List.filter_cons, if_pos (by simp [hlx])] at hr
          rw [List.filter_append]
          exact (front (fun p hp => (List.mem_filter.1 hp).1) (fun p hp => (List.mem_filter.1 hp).1) (hpw'.1.filter _) hr).2
      · intro p hp d hcr
        refine (hl.nr p (hmemAB p hp) d hcr).apply ?_
        rcases List.mem_append.1 hp with hp' | hp'
        · exact hI.nr x inx p (inA p hp') (by have := hAx p hp'; omega) (hAn p hp') d hcr
        · exact hI.nr x inx p (inB p hp') (by have := hxB p hp'; omega) (bit_lt x.i p.i (by have := hxB p hp'; omega) hlt) d hcr

theorem filt_none {L : List Item1} {σ σf : St} (h : RunL P L σ σf) : RunL P (L.filter fun p => !false) σ σf := by
  have e : L.filter (fun p => !false) = L := List.filter_eq_self.2 (fun _ _ => rfl)
  rw [e]; exact h
/-- The operations that stand first, none of them listed. -/
theorem lst_first {ops : Array Oper} {vs rest : List VOper} (hc : compOpers P ops ops.toList = some (vs ++ rest)) {σ σf : St} {es : List Eff} (hs : Steps1 P vs σ es σf) (hg : ∀ p ∈ items 0 vs es, ∀ d, creates p.e d → NoRefAll d σ) {late : Nat → Bool} {σB : St} (hB : RunL P ((items 0 vs es).filter fun p => !late p.i) σ σB) : Lst P ops (items 0 vs es) (fun i => decide (vs.length ≤ i)) late σ.n σf σB (Array.replicate ops.size false) (items 0 vs es) σ := by
  obtain ⟨hrun, hidx, hel⟩ := items_run 0 hs
  refine ⟨by simp, ?_, fun _ h => h, fun j hj hU => ?_, fun j _ _ => getD_rep _ _, fun j o _ hl => ?_, hrun, fun _ => hB, hg, rfl⟩
  · have : ((items 0 vs es).map (·.i)).Pairwise (· < ·) := by rw [hidx]; exact List.pairwise_lt_range'
    exact List.pairwise_map.1 this
  · rw [getD_rep]
    simp only [true_iff]
    have : j ∈ (items 0 vs es).map (·.i) := by rw [hidx]; simp at hU; simp; omega
    obtain ⟨p, hp, e⟩ := List.mem_map.1 this
    exact ⟨p, hp, e⟩
  · rw [getD_rep] at hl; cases hl
theorem items_at {vs rest : List VOper} {es : List Eff} (hel : es.length = vs.length) {p : Item1} (hp : p ∈ items 0 vs es) : (vs ++ rest)[p.i]? = some p.o ∧ es[p.i]? = some p.e ∧ p.i < vs.length ∧ p.o ∈ vs := by
  obtain ⟨_, h1, h2⟩ := items_get hel hp
  simp only [Nat.sub_zero] at h1 h2
  have hlt := (List.getElem?_eq_some_iff.1 h1).1
  exact ⟨(List.getElem?_append_left hlt).trans h1, h2, hlt, List.mem_of_getElem? h1⟩
theorem cntL_le (f : Nat → Bool) : ∀ n, cntL f n ≤ n
  | 0 => Nat.le_refl _
  | n + 1 => by have := cntL_le f n; simp only [cntL]; split <;> omega

/-- A REGION IN WHATEVER ORDER. -/
theorem region_any {ops : Array Oper} {vs : List VOper} (hc : compOpers P ops ops.toList = some vs) {pairs makes : List (Nat × Nat)} (hp : pairsOf ops vs.toArray = some (pairs, makes)) {σ : St} {a : Act} {w : World} (h : Sim w0 S0 M σ a w)
    (hd : ∀ v ∈ vs, ∀ d, v.dst = some d → d < σ.n) {es : List Eff} {σf : St} (hs : Steps1 P vs σ es σf) (hk : chkD σ pairs makes es = true)
    {Q : Exit → Act → World → Prop} (hQ : ∀ a' w', Sim w0 S0 M σf a' w' → Q .normal a' w') : wpAny P .any ops Q ops.size (Array.replicate ops.size false) a w := by
  have hc' : compOpers P ops ops.toList = some (vs ++ []) := by rw [List.append_nil]; exact hc
  have hel := (items_run 0 hs).2.2
  have hat := fun p (hp : p ∈ items 0 vs es) => items_at (rest := []) hel hp
  have hn : vs.length = ops.size := by have := (compOpers_get hc).1; simpa using this
  obtain ⟨hI, hg⟩ := ahead_I (sel := fun _ => true) (σ := σ) hc hp (fun p h => by have := (hat p h).1; rwa [List.append_nil] at this) (steps_all 0 hs) (by rw [List.filter_eq_self.2 (fun _ _ => rfl), List.filter_eq_self.2 (fun _ _ => rfl)]; exact hk) (fun p h => (hat p h).2.1) (fun _ _ _ _ => rfl)
  exact rgPhase (pairs_up hp) hI (fun p hp => by simp [(hat p hp).2.2.1]) (fun p hp => hd p.o (hat p hp).2.2.2)
    (fun fuel listed L σ1 a w i _ _ hU hi => by simp at hU; omega) (fun _ => hQ) ops.size (cntL_le _ _) (lst_first (late := fun _ => false) (σB := σf) hc' hs hg (filt_none (items_run 0 hs).1)) h

/-- Is it so that each operation's value goes, through others, to the last one? -/
def flowB : List VOper → Bool
  | [] => true
  | [_] => true
  | x :: r => (match x.dst with
    | some d => r.any fun y => y.slots.contains d
    | none => false) && flowB r
theorem flowB_spec : ∀ {l : List VOper}, flowB l = true → ∀ i x, l[i]? = some x → i + 1 < l.length → ∃ j y d, i < j ∧ l[j]? = some y ∧ x.dst = some d ∧ d ∈ y.slots
  | [], _, i, x, hx, _ => by simp at hx
  | [_], _, i, x, _, hi => by simp at hi
  | u :: v :: r, h, i, x, hx, hi => by
    simp only [flowB, Bool.and_eq_true] at h
    cases i with
    | zero =>
      simp only [List.getElem?_cons_zero, Option.some.injEq] at hx
      subst hx
      have h1 := h.1
      split at h1
      · next d hd =>
        obtain ⟨y, hy, hc⟩ := List.any_eq_true.1 h1
        obtain ⟨j, hj⟩ := List.getElem?_of_mem hy
        exact ⟨j + 1, y, d, by omega, by simpa using hj, hd, by simpa using hc⟩
      · simp at h1
    | succ i =>
      obtain ⟨j, y, d, h1, h2, h3, h4⟩ := flowB_spec h.2 i x (by simpa using hx) (by simpa using hi)
      exact ⟨j + 1, y, d, by omega, by simpa using h2, h3, h4⟩

/-- All that goes to the last one is listed, where that may come. -/
theorem flow_all {ops : Array Oper} {vs rest : List VOper} {last : VOper} (hc : compOpers P ops ops.toList = some (vs ++ last :: rest)) {pairs makes : List (Nat × Nat)} (hp : pairsOf ops (vs ++ last :: rest).toArray = some (pairs, makes)) (hflow : flowB (vs ++ [last]) = true) {listed : Array Bool}
    (hcl : ∀ j o, ops[j]? = some o → listed.getD j false = true → ∀ e ∈ o.after.toList, Region.binds .any e = true → listed.getD e.on false = true)
    (hl : ∀ b, ((Region.before ops).getD vs.length 0).testBit b = true → listed.getD b false = true) : ∀ (k p : Nat), p < vs.length → vs.length ≤ p + k → listed.getD p false = true := by
  intro k
  induction k with
  | zero => intro p h1 h2; omega
  | succ k ihk =>
    intro p hpv hk'
    have hx : (vs ++ [last])[p]? = some vs[p] := by rw [List.getElem?_append_left hpv]; simp [hpv]
    obtain ⟨q, y, d, h1, h2, h3, h4⟩ := flowB_spec hflow p vs[p] hx (by simp; omega)
    have hq := (List.getElem?_eq_some_iff.1 h2).1
    have hup : ∀ {i : Nat} {y : VOper}, (vs ++ [last])[i]? = some y → (vs ++ last :: rest)[i]? = some y := fun {i y} hi => by
      rw [show vs ++ last :: rest = (vs ++ [last]) ++ rest by simp]
      exact (List.getElem?_append_left (List.getElem?_eq_some_iff.1 hi).1).trans hi
    have hbit := pairs_flow hc hp h1 (hup hx) (hup h2) h3 h4
    simp at hq
    rcases Nat.lt_or_ge q vs.length with hq' | hq'
    · obtain ⟨o, ho, _, _⟩ := comp_at hc (hup h2)
      exact before_listed (pairs_up hp) hcl (q + 1) q o (by omega) ho (hcl q o ho (ihk q hq' (by omega))) p hbit
    · obtain rfl : q = vs.length := by omega
      exact hl p hbit

/-- A REGION IN WHATEVER ORDER, whose last operation comes behind all others. -/
theorem region_last {ops : Array Oper} {vs : List VOper} {last : VOper} (hc : compOpers P ops ops.toList = some (vs ++ [last])) {pairs makes : List (Nat × Nat)} (hp : pairsOf ops (vs ++ [last]).toArray = some (pairs, makes)) (hflow : flowB (vs ++ [last]) = true) {σ : St} {a : Act} {w : World} (h : Sim w0 S0 M σ a w)
    (hd : ∀ v ∈ vs, ∀ d, v.dst = some d → d < σ.n) {es : List Eff} {σf : St} (hs : Steps1 P vs σ es σf) (hk : chkD σ (pairs.filter fun p => decide (p.1 < vs.length) && decide (p.2 < vs.length)) (makes.filter fun p => decide (p.1 < vs.length) && decide (p.2 < vs.length)) es = true)
    {Q : Exit → Act → World → Prop} (hQ : ∀ (N : Act → World → Prop), (∀ a' w', Q .normal a' w' → N a' w') → ∀ a' w', Sim w0 S0 M σf a' w' → wpOp P ops Q vs.length N a' w') : wpAny P .any ops Q ops.size (Array.replicate ops.size false) a w := by
  have hel := (items_run 0 hs).2.2
  have hat := fun p (hp : p ∈ items 0 vs es) => items_at (rest := [last]) hel hp
  have hn : vs.length + 1 = ops.size := by have := (compOpers_get hc).1; simpa using this
  obtain ⟨hI, hg⟩ := ahead_I hc hp (fun p h => (hat p h).1) (steps_all 0 hs) hk (fun p h => (hat p h).2.1) (fun p hp x hx => by simp [(hat p hp).2.2.1, (hat x hx).2.2.1])
  refine rgPhase (pairs_up hp) hI (fun p hp => by simp [(hat p hp).2.2.1]) (fun p hp => hd p.o (hat p hp).2.2.2)
    (fun fuel listed L σ1 a w i _ hl hU hi hb _ hsim => ?_) (fun hE => ?_) ops.size (cntL_le _ _) (lst_first (late := fun _ => false) (σB := σf) hc hs hg (filt_none (items_run 0 hs).1)) h
  · obtain rfl : i = vs.length := by simp at hU; omega
    have hall := flow_all hc hp hflow hl.cl hb vs.length
    have hL : L = [] := by
      cases L with
      | nil => rfl
      | cons p L =>
        exfalso
        have h3 := (hat p (hl.sub p (by simp))).2.2.1
        have := (hl.li p.i (by omega) (by simp [h3])).2 ⟨p, by simp, rfl⟩
        rw [hall p.i h3 (by omega)] at this
        cases this
    subst hL
    refine hQ _ (fun a' w' hq => any_done (fun j hj => ?_) hq fuel) a w (hsim.congr hl.run)
    by_cases hj' : vs.length = j
    · subst hj'; have := hl.sz; simp [Array.getD]; omega
    · rw [getD_set_ne false hj']
      exact hall j (by omega) (by omega)
  · exact absurd (hE vs.length (by omega)) (by simp)
end
end Go.Vs
set_option linter.unusedVariables false
set_option linter.unusedSimpArgs false
namespace Go.Vs

/-- An object's name at the caller. -/
def ren (ρ : List (Nat × Nat)) (i : Nat) : Nat := (look ρ i).getD i
mutual
def SV.ren (ρ : List (Nat × Nat)) : SV → SV
  | .undef => .undef
  | .val v => .val v
  | .nils => .nils
  | .full rows => .full rows
  | .own id ver => .own (Vs.ren ρ id) ver
  | .loc id off => .loc (Vs.ren ρ id) off
  | .eloc id ver i off => .eloc (Vs.ren ρ id) ver i off
  | .view id ver lo hi => .view (Vs.ren ρ id) ver lo hi
  | .agg cells => .agg (renL ρ cells)
  | .clo f caps => .clo f (renL ρ caps)
  | .bdl f caps => .bdl f (renL ρ caps)
  | .tup caps => .tup (renL ρ caps)
  | .ifc t v => .ifc t (v.ren ρ)
  | .anyB => .anyB
  | .selfN id t nn => .selfN (Vs.ren ρ id) t nn
  | .ownT id v t => .ownT (Vs.ren ρ id) v t
  | .itr id => .itr (Vs.ren ρ id)
  | .town id ver => .town (Vs.ren ρ id) ver
  | .teloc id ver i off => .teloc (Vs.ren ρ id) ver i off
  | .nilT => .nilT
  | .emp c => .emp c
def renL (ρ : List (Nat × Nat)) : List SV → List SV
  | [] => []
  | x :: r => x.ren ρ :: renL ρ r
end
def renLn (ρ : List (Nat × Nat)) : List (Nat × Nat × SV) → List (Nat × Nat × SV)
  | [] => []
  | p :: r => (p.1, p.2.1, p.2.2.ren ρ) :: renLn ρ r
def Ob.ren (ρ : List (Nat × Nat)) : Ob → Ob
  | .box cells => .box (renL ρ cells)
  | .arr ver s rows => .arr ver s rows
  | .iter s p => .iter s p
  | .tab ver s rows ln => .tab ver s rows (renLn ρ ln)
def renO (ρ : List (Nat × Nat)) : List (Nat × Ob) → List (Nat × Ob)
  | [] => []
  | (i, o) :: r => (Vs.ren ρ i, o.ren ρ) :: renO ρ r

/- The names that a value holds, all in a list of them. -/
mutual
def SV.inKeys {α : Type} (l : List (Nat × α)) : SV → Bool
  | .own id _ => (look l id).isSome
  | .loc id _ => (look l id).isSome
  | .selfN id t nn => (look l id).isSome
  | .ownT id _ _ => (look l id).isSome
  | .itr id => (look l id).isSome
  | .town id _ => (look l id).isSome
  | .teloc id _ _ _ => (look l id).isSome
  | .eloc id _ _ _ => (look l id).isSome
  | .view id _ _ _ => (look l id).isSome
  | .agg cells => inKeysL l cells
  | .clo _ caps => inKeysL l caps
  | .bdl _ caps => inKeysL l caps
  | .tup caps => inKeysL l caps
  | .ifc _ v => v.inKeys l
  | _ => true
def inKeysL {α : Type} (l : List (Nat × α)) : List SV → Bool
  | [] => true
  | x :: r => x.inKeys l && inKeysL l r
end
def inKeysLn {α : Type} (l : List (Nat × α)) : List (Nat × Nat × SV) → Bool
  | [] => true
  | p :: r => p.2.2.inKeys l && inKeysLn l r
def Ob.inKeys {α : Type} (l : List (Nat × α)) : Ob → Bool
  | .box cells => inKeysL l cells
  | .arr _ _ _ => true
  | .iter _ _ => true
  | .tab _ _ _ ln => inKeysLn l ln
def inKeysO {α : Type} (l : List (Nat × α)) : List (Nat × Ob) → Bool
  | [] => true
  | (_, o) :: r => o.inKeys l && inKeysO l r

section
variable {w : World} {S : Stab} {μ μ' : Nat → Value} {objs objs' : List (Nat × Ob)} {ρ : List (Nat × Nat)}

/- From the caller's names to the callee's. -/
mutual
theorem SVRel.unren (hl : ∀ i o, look objs' i = some o → look objs (Vs.ren ρ i) = some (o.ren ρ)) (hm : ∀ i o, look objs' i = some o → μ' i = μ (Vs.ren ρ i)) : ∀ (x : SV) (v : Value), SVRel w S μ objs (x.ren ρ) v → SVRel w S μ' objs' x v
  | .undef, _, h => h
  | .val _, _, h => h
  | .nils, _, h => h
  | .full _, _, h => h
  | .own id ver, v, h => by
    intro cv s rows hc
    have := h cv s rows (hl _ _ hc)
    rw [hm _ _ hc]
    exact this
  | .ownT id ver t, v, ⟨h, h'⟩ => by
    refine ⟨?_, h'⟩
    intro cv s rows hc
    have := h cv s rows (hl _ _ hc)
    rw [hm _ _ hc]
    exact this
  | .loc id off, v, h => by
    intro cells hc
    have := h _ (hl _ _ hc)
    rw [hm _ _ hc]
    exact this
  | .eloc id ver i off, v, h => by
    intro cv s rows hc
    have := h cv s rows (hl _ _ hc)
    rw [hm _ _ hc]
    exact this
  | .view id ver lo hi, v, h => by
    intro cv s rows hc
    have := h cv s rows (hl _ _ hc)
    rw [hm _ _ hc]
    exact this
  | .agg cells, v, ⟨vs, h1, h2⟩ => ⟨vs, h1, SVOnes.unren hl hm cells _ h2⟩
  | .clo f caps, v, ⟨vs, h1, h2⟩ => ⟨vs, h1, SVList.unren hl hm caps _ h2⟩
  | .bdl f caps, v, ⟨vs, h1, h2⟩ => ⟨vs, h1, SVList.unren hl hm caps _ h2⟩
  | .tup caps, v, ⟨vs, h1, h2⟩ => ⟨vs, h1, SVList.unren hl hm caps _ h2⟩
  | .ifc t x, v, ⟨u, h1, h2⟩ => ⟨u, h1, SVRel.unren hl hm x u h2⟩
  | .anyB, v, h => h
  | .selfN id t nn, v, h => by
    intro cells hc
    have := h _ (hl _ _ hc)
    rw [hm _ _ hc]
    exact this
  | .itr id, v, h => by
    intro s p hc
    have := h s p (hl _ _ hc)
    rw [hm _ _ hc]
    exact this
  | .nilT, v, h => h
  | .emp _, v, h => h
  | .town id ver, v, h => by
    intro cv s rows ln hc
    have := h _ _ _ _ (hl _ _ hc)
    rw [hm _ _ hc]
    exact this
  | .teloc id ver i off, v, h => by
    intro cv s rows ln hc
    have := h _ _ _ _ (hl _ _ hc)
    rw [hm _ _ hc]
    exact this
theorem SVList.unren (hl : ∀ i o, look objs' i = some o → look objs (Vs.ren ρ i) = some (o.ren ρ)) (hm : ∀ i o, look objs' i = some o → μ' i = μ (Vs.ren ρ i)) : ∀ (x : List SV) (v : List Value), SVList w S μ objs (renL ρ x) v → SVList w S μ' objs' x v
  | [], _, h => h
  | x :: xs, v, ⟨u, us, h1, h2, h3⟩ => ⟨u, us, h1, SVRel.unren hl hm x u h2, SVList.unren hl hm xs us h3⟩
theorem SVOnes.unren (hl : ∀ i o, look objs' i = some o → look objs (Vs.ren ρ i) = some (o.ren ρ)) (hm : ∀ i o, look objs' i = some o → μ' i = μ (Vs.ren ρ i)) : ∀ (x : List SV) (v : List Value), SVOnes w S μ objs (renL ρ x) v → SVOnes w S μ' objs' x v
  | [], _, h => h
  | x :: xs, v, ⟨u, us, h1, h0, h2, h3⟩ => ⟨u, us, h1, h0, SVRel.unren hl hm x u h2, SVOnes.unren hl hm xs us h3⟩
end

/- And back: the callee's are 'objs', the caller's 'objs''. -/
mutual
theorem SVRel.renamed (hl : ∀ i o, look objs i = some o → look objs' (Vs.ren ρ i) = some (o.ren ρ)) (hm : ∀ i o, look objs i = some o → μ' (Vs.ren ρ i) = μ i) : ∀ (x : SV) (v : Value), x.inKeys objs = true → SVRel w S μ objs x v → SVRel w S μ' objs' (x.ren ρ) v
  | .undef, _, _, h => h
  | .val _, _, _, h => h
  | .nils, _, _, h => h
  | .full _, _, _, h => h
  | .own id ver, v, hk, h => by
    obtain ⟨o, ho⟩ := Option.isSome_iff_exists.1 hk
    intro cv s rows hc
    have h1 := hl _ _ ho
    rw [hc] at h1
    have h2 := hm _ _ ho
    cases o with
    | box c => simp [Ob.ren] at h1
    | iter => simp [Ob.ren] at h1
    | tab => simp [Ob.ren] at h1
    | arr a b c =>
      simp only [Ob.ren, Option.some.injEq, Ob.arr.injEq] at h1
      obtain ⟨rfl, rfl, rfl⟩ := h1
      rw [h2]
      exact h _ _ _ ho
  | .ownT id ver t, v, hk, ⟨h, h'⟩ => by
    refine ⟨?_, h'⟩
    obtain ⟨o, ho⟩ := Option.isSome_iff_exists.1 hk
    intro cv s rows hc
    have h1 := hl _ _ ho
    rw [hc] at h1
    have h2 := hm _ _ ho
    cases o with
    | box c => simp [Ob.ren] at h1
    | iter => simp [Ob.ren] at h1
    | tab => simp [Ob.ren] at h1
    | arr a b c =>
      simp only [Ob.ren, Option.some.injEq, Ob.arr.injEq] at h1
      obtain ⟨rfl, rfl, rfl⟩ := h1
      rw [h2]
      exact h _ _ _ ho
  | .loc id off, v, hk, h => by
    obtain ⟨o, ho⟩ := Option.isSome_iff_exists.1 hk
    intro cells hc
    have h1 := hl _ _ ho
    rw [hc] at h1
    have h2 := hm _ _ ho
    cases o with
    | box c => rw [h2]; exact h _ ho
    | arr a b c => simp [Ob.ren] at h1
    | iter => simp [Ob.ren] at h1
    | tab => simp [Ob.ren] at h1
  | .eloc id ver i off, v, hk, h => by
    obtain ⟨o, ho⟩ := Option.isSome_iff_exists.1 hk
    intro cv s rows hc
    have h1 := hl _ _ ho
    rw [hc] at h1
    have h2 := hm _ _ ho
    cases o with
    | box c => simp [Ob.ren] at h1
    | iter => simp [Ob.ren] at h1
    | tab => simp [Ob.ren] at h1
    | arr a b c =>
      simp only [Ob.ren, Option.some.injEq, Ob.arr.injEq] at h1
      obtain ⟨rfl, rfl, rfl⟩ := h1
      rw [h2]
      exact h _ _ _ ho
  | .view id ver lo hi, v, hk, h => by
    obtain ⟨o, ho⟩ := Option.isSome_iff_exists.1 hk
    intro cv s rows hc
    have h1 := hl _ _ ho
    rw [hc] at h1
    have h2 := hm _ _ ho
    cases o with
    | box c => simp [Ob.ren] at h1
    | iter => simp [Ob.ren] at h1
    | tab => simp [Ob.ren] at h1
    | arr a b c =>
      simp only [Ob.ren, Option.some.injEq, Ob.arr.injEq] at h1
      obtain ⟨rfl, rfl, rfl⟩ := h1
      rw [h2]
      exact h _ _ _ ho
  | .agg cells, v, hk, ⟨vs, h1, h2⟩ => ⟨vs, h1, SVOnes.renamed hl hm cells _ hk h2⟩
  | .clo f caps, v, hk, ⟨vs, h1, h2⟩ => ⟨vs, h1, SVList.renamed hl hm caps _ hk h2⟩
  | .bdl f caps, v, hk, ⟨vs, h1, h2⟩ => ⟨vs, h1, SVList.renamed hl hm caps _ hk h2⟩
  | .tup caps, v, hk, ⟨vs, h1, h2⟩ => ⟨vs, h1, SVList.renamed hl hm caps _ hk h2⟩
  | .ifc t x, v, hk, ⟨u, h1, h2⟩ => ⟨u, h1, SVRel.renamed hl hm x u hk h2⟩
  | .anyB, v, _, h => h
  | .selfN id t nn, v, hk, h => by
    obtain ⟨o, ho⟩ := Option.isSome_iff_exists.1 hk
    intro cells hc
    have h1 := hl _ _ ho
    rw [hc] at h1
    have h2 := hm _ _ ho
    cases o with
    | box c => rw [h2]; exact h _ ho
    | arr a b c => simp [Ob.ren] at h1
    | iter => simp [Ob.ren] at h1
    | tab => simp [Ob.ren] at h1
  | .itr id, v, hk, h => by
    obtain ⟨o, ho⟩ := Option.isSome_iff_exists.1 hk
    intro s p hc
    have h1 := hl _ _ ho
    rw [hc] at h1
    have h2 := hm _ _ ho
    cases o with
    | box c => simp [Ob.ren] at h1
    | arr a b c => simp [Ob.ren] at h1
    | iter a b => rw [h2]; exact h _ _ ho
    | tab => simp [Ob.ren] at h1
  | .nilT, _, _, h => h
  | .emp _, _, _, h => h
  | .town id ver, v, hk, h => by
    obtain ⟨o, ho⟩ := Option.isSome_iff_exists.1 hk
    intro cv s rows ln hc
    have h1 := hl _ _ ho
    rw [hc] at h1
    have h2 := hm _ _ ho
    cases o with
    | box c => simp [Ob.ren] at h1
    | iter => simp [Ob.ren] at h1
    | arr => simp [Ob.ren] at h1
    | tab a b c l =>
      simp only [Ob.ren, Option.some.injEq, Ob.tab.injEq] at h1
      obtain ⟨rfl, rfl, rfl, _⟩ := h1
      rw [h2]
      exact h _ _ _ _ ho
  | .teloc id ver i off, v, hk, h => by
    obtain ⟨o, ho⟩ := Option.isSome_iff_exists.1 hk
    intro cv s rows ln hc
    have h1 := hl _ _ ho
    rw [hc] at h1
    have h2 := hm _ _ ho
    cases o with
    | box c => simp [Ob.ren] at h1
    | iter => simp [Ob.ren] at h1
    | arr => simp [Ob.ren] at h1
    | tab a b c l =>
      simp only [Ob.ren, Option.some.injEq, Ob.tab.injEq] at h1
      obtain ⟨rfl, rfl, rfl, _⟩ := h1
      rw [h2]
      exact h _ _ _ _ ho
theorem SVList.renamed (hl : ∀ i o, look objs i = some o → look objs' (Vs.ren ρ i) = some (o.ren ρ)) (hm : ∀ i o, look objs i = some o → μ' (Vs.ren ρ i) = μ i) : ∀ (x : List SV) (v : List Value), inKeysL objs x = true → SVList w S μ objs x v → SVList w S μ' objs' (renL ρ x) v
  | [], _, _, h => h
  | x :: xs, v, hk, ⟨u, us, h1, h2, h3⟩ => by
    simp only [inKeysL, Bool.and_eq_true] at hk
    exact ⟨u, us, h1, SVRel.renamed hl hm x u hk.1 h2, SVList.renamed hl hm xs us hk.2 h3⟩
theorem SVOnes.renamed (hl : ∀ i o, look objs i = some o → look objs' (Vs.ren ρ i) = some (o.ren ρ)) (hm : ∀ i o, look objs i = some o → μ' (Vs.ren ρ i) = μ i) : ∀ (x : List SV) (v : List Value), inKeysL objs x = true → SVOnes w S μ objs x v → SVOnes w S μ' objs' (renL ρ x) v
  | [], _, _, h => h
  | x :: xs, v, hk, ⟨u, us, h1, h0, h2, h3⟩ => by
    simp only [inKeysL, Bool.and_eq_true] at hk
    exact ⟨u, us, h1, h0, SVRel.renamed hl hm x u hk.1 h2, SVOnes.renamed hl hm xs us hk.2 h3⟩
end

/- What the caller holds itself: objects have turned as far as 'SVRel.same' lets them, and new names have come. -/
mutual
def SV.clear (D : Nat → Bool) : SV → Bool
  | .own id _ => !D id
  | .loc id _ => !D id
  | .selfN id t nn => !D id
  | .ownT id _ _ => !D id
  | .itr id => !D id
  | .town id _ => !D id
  | .teloc id _ _ _ => !D id
  | .eloc id _ _ _ => !D id
  | .view id _ _ _ => !D id
  | .agg cells => clearL D cells
  | .clo _ caps => clearL D caps
  | .bdl _ caps => clearL D caps
  | .tup caps => clearL D caps
  | .ifc _ v => v.clear D
  | _ => true
def clearL (D : Nat → Bool) : List SV → Bool
  | [] => true
  | x :: r => x.clear D && clearL D r
end
def clearE (D : Nat → Bool) : List (Nat × SV) → Bool
  | [] => true
  | (_, x) :: r => x.clear D && clearE D r
def clearLn (D : Nat → Bool) : List (Nat × Nat × SV) → Bool
  | [] => true
  | p :: r => p.2.2.clear D && clearLn D r
def Ob.clear (D : Nat → Bool) : Ob → Bool
  | .box cells => clearL D cells
  | .arr _ _ _ => true
  | .iter _ _ => true
  | .tab _ _ _ ln => clearLn D ln
def clearO (D : Nat → Bool) : List (Nat × Ob) → Bool
  | [] => true
  | (_, x) :: r => x.clear D && clearO D r
theorem clearE_get {D : Nat → Bool} : ∀ {l : List (Nat × SV)}, clearE D l = true → ∀ k, (getE l k).clear D = true
  | [], _, _ => rfl
  | (j, x) :: r, h, k => by
    simp only [clearE, Bool.and_eq_true] at h
    simp only [getE, look]
    cases j == k
    · exact clearE_get h.2 k
    · exact h.1
theorem clearO_get {D : Nat → Bool} : ∀ {l : List (Nat × Ob)}, clearO D l = true → ∀ k o, look l k = some o → o.clear D = true
  | [], _, _, _, h => by simp [look] at h
  | (j, x) :: r, h, k, o, hl => by
    simp only [clearO, Bool.and_eq_true] at h
    simp only [look] at hl
    cases hj : j == k
    · rw [hj] at hl; exact clearO_get h.2 k o hl
    · rw [hj] at hl; simp at hl; subst hl; exact h.1
mutual
theorem SVRel.step {D : Nat → Bool}
    (hb : ∀ id cells, D id = false → look objs' id = some (.box cells) → ∃ cells', look objs id = some (.box cells') ∧ μ' id = μ id)
    (ha : ∀ id cv s rows, D id = false → look objs' id = some (.arr cv s rows) → ∃ cv' rows', look objs id = some (.arr cv' s rows') ∧ cv' ≤ cv ∧ (cv' = cv → rows'.length = rows.length ∧ μ' id = μ id))
    (hi : ∀ id s p, D id = false → look objs' id = some (.iter s p) → ∃ s' p', look objs id = some (.iter s' p') ∧ μ' id = μ id)
    (ht : ∀ id cv s rows ln, D id = false → look objs' id = some (.tab cv s rows ln) → ∃ cv' rows' ln', look objs id = some (.tab cv' s rows' ln') ∧ cv' ≤ cv ∧ (cv' = cv → rows'.length = rows.length ∧ μ' id = μ id)) :
    ∀ (x : SV) (v : Value), x.clear D = true → SVRel w S μ objs x v → SVRel w S μ' objs' x v
  | .undef, v, _, h => h
  | .val x, v, _, h => h
  | .nils, v, _, h => h
  | .full rows, v, _, h => h
  | .own id ver, v, hd, h => by
    have hd : D id = false := by simpa [SV.clear] using hd
    intro cv s rows hl
    obtain ⟨cv', rows', h1, h2, h5⟩ := ha id cv s rows hd hl
    obtain ⟨h3, h4⟩ := h _ _ _ h1
    exact ⟨Nat.le_trans h3 h2, fun e => by rw [(h5 (by omega)).2]; exact h4 (by omega)⟩
  | .ownT id ver t, v, hd, ⟨h, h'⟩ => by
    refine ⟨?_, h'⟩
    have hd : D id = false := by simpa [SV.clear] using hd
    intro cv s rows hl
    obtain ⟨cv', rows', h1, h2, h5⟩ := ha id cv s rows hd hl
    obtain ⟨h3, h4⟩ := h _ _ _ h1
    exact ⟨Nat.le_trans h3 h2, fun e => by rw [(h5 (by omega)).2]; exact h4 (by omega)⟩
  | .loc id off, v, hd, h => by
    have hd : D id = false := by simpa [SV.clear] using hd
    intro cells hl
    obtain ⟨cells', h1, h2⟩ := hb id cells hd hl
    rw [h2]
    exact h _ h1
  | .eloc id ver i off, v, hd, h => by
    have hd : D id = false := by simpa [SV.clear] using hd
    intro cv s rows hl
    obtain ⟨cv', rows', h1, h2, h5⟩ := ha id cv s rows hd hl
    obtain ⟨h3, h4⟩ := h _ _ _ h1
    refine ⟨Nat.le_trans h3 h2, fun e => ?_⟩
    obtain ⟨b, cap, h6, h7⟩ := h4 (by omega)
    obtain ⟨h8, h9⟩ := h5 (by omega)
    exact ⟨b, cap, by rw [h9, h6, h8], h7⟩
  | .view id ver lo hi, v, hd, h => by
    have hd : D id = false := by simpa [SV.clear] using hd
    intro cv s rows hl
    obtain ⟨cv', rows', h1, h2, h5⟩ := ha id cv s rows hd hl
    obtain ⟨h3, h4⟩ := h _ _ _ h1
    refine ⟨Nat.le_trans h3 h2, fun e => ?_⟩
    obtain ⟨g1, g2, x, cap, y, g3, g4⟩ := h4 (by omega)
    obtain ⟨h8, h9⟩ := h5 (by omega)
    exact ⟨g1, by omega, x, cap, y, by rw [h9, g3, h8], by rw [← h8]; exact g4⟩
  | .agg cells, v, hd, ⟨vs, h1, h2⟩ => ⟨vs, h1, SVOnes.step hb ha hi ht cells _ hd h2⟩
  | .clo f caps, v, hd, ⟨vs, h1, h2⟩ => ⟨vs, h1, SVList.step hb ha hi ht caps _ hd h2⟩
  | .bdl f caps, v, hd, ⟨vs, h1, h2⟩ => ⟨vs, h1, SVList.step hb ha hi ht caps _ hd h2⟩
  | .tup caps, v, hd, ⟨vs, h1, h2⟩ => ⟨vs, h1, SVList.step hb ha hi ht caps _ hd h2⟩
  | .ifc t x, v, hd, ⟨u, h1, h2⟩ => ⟨u, h1, SVRel.step hb ha hi ht x u hd h2⟩
  | .anyB, v, _, h => h
  | .selfN id t nn, v, hd, h => by
    have hd : D id = false := by simpa [SV.clear] using hd
    intro cells hl
    obtain ⟨cells', h1, h2⟩ := hb id cells hd hl
    rw [h2]
    exact h _ h1
  | .itr id, v, hd, h => by
    have hd : D id = false := by simpa [SV.clear] using hd
    intro s p hl
    obtain ⟨s', p', h1, h2⟩ := hi id s p hd hl
    rw [h2]
    exact h _ _ h1
  | .nilT, v, _, h => h
  | .emp _, v, _, h => h
  | .town id ver, v, hd, h => by
    have hd : D id = false := by simpa [SV.clear] using hd
    intro cv s rows ln hl
    obtain ⟨cv', rows', ln', h1, h2, h5⟩ := ht id cv s rows ln hd hl
    obtain ⟨h3, h4⟩ := h _ _ _ _ h1
    exact ⟨Nat.le_trans h3 h2, fun e => by rw [(h5 (by omega)).2]; exact h4 (by omega)⟩
  | .teloc id ver i off, v, hd, h => by
    have hd : D id = false := by simpa [SV.clear] using hd
    intro cv s rows ln hl
    obtain ⟨cv', rows', ln', h1, h2, h5⟩ := ht id cv s rows ln hd hl
    obtain ⟨h3, h4⟩ := h _ _ _ _ h1
    refine ⟨Nat.le_trans h3 h2, fun e => ?_⟩
    obtain ⟨b, cap, h6, h7⟩ := h4 (by omega)
    obtain ⟨h8, h9⟩ := h5 (by omega)
    exact ⟨b, cap, by rw [h9, h6, h8], h7⟩
theorem SVList.step {D : Nat → Bool}
    (hb : ∀ id cells, D id = false → look objs' id = some (.box cells) → ∃ cells', look objs id = some (.box cells') ∧ μ' id = μ id)
    (ha : ∀ id cv s rows, D id = false → look objs' id = some (.arr cv s rows) → ∃ cv' rows', look objs id = some (.arr cv' s rows') ∧ cv' ≤ cv ∧ (cv' = cv → rows'.length = rows.length ∧ μ' id = μ id))
    (hi : ∀ id s p, D id = false → look objs' id = some (.iter s p) → ∃ s' p', look objs id = some (.iter s' p') ∧ μ' id = μ id)
    (ht : ∀ id cv s rows ln, D id = false → look objs' id = some (.tab cv s rows ln) → ∃ cv' rows' ln', look objs id = some (.tab cv' s rows' ln') ∧ cv' ≤ cv ∧ (cv' = cv → rows'.length = rows.length ∧ μ' id = μ id)) :
    ∀ (x : List SV) (v : List Value), clearL D x = true → SVList w S μ objs x v → SVList w S μ' objs' x v
  | [], v, _, h => h
  | x :: xs, v, hd, ⟨u, us, h1, h2, h3⟩ => by
    simp only [clearL, Bool.and_eq_true] at hd
    exact ⟨u, us, h1, SVRel.step hb ha hi ht x u hd.1 h2, SVList.step hb ha hi ht xs us hd.2 h3⟩
theorem SVOnes.step {D : Nat → Bool}
    (hb : ∀ id cells, D id = false → look objs' id = some (.box cells) → ∃ cells', look objs id = some (.box cells') ∧ μ' id = μ id)
    (ha : ∀ id cv s rows, D id = false → look objs' id = some (.arr cv s rows) → ∃ cv' rows', look objs id = some (.arr cv' s rows') ∧ cv' ≤ cv ∧ (cv' = cv → rows'.length = rows.length ∧ μ' id = μ id))
    (hi : ∀ id s p, D id = false → look objs' id = some (.iter s p) → ∃ s' p', look objs id = some (.iter s' p') ∧ μ' id = μ id)
    (ht : ∀ id cv s rows ln, D id = false → look objs' id = some (.tab cv s rows ln) → ∃ cv' rows' ln', look objs id = some (.tab cv' s rows' ln') ∧ cv' ≤ cv ∧ (cv' = cv → rows'.length = rows.length ∧ μ' id = μ id)) :
    ∀ (x : List SV) (v : List Value), clearL D x = true → SVOnes w S μ objs x v → SVOnes w S μ' objs' x v
  | [], v, _, h => h
  | x :: xs, v, hd, ⟨u, us, h1, h0, h2, h3⟩ => by
    simp only [clearL, Bool.and_eq_true] at hd
    exact ⟨u, us, h1, h0, SVRel.step hb ha hi ht x u hd.1 h2, SVOnes.step hb ha hi ht xs us hd.2 h3⟩
end
end

section
variable {w : World} {S : Stab} {μ μ' : Nat → Value} {objs objs' : List (Nat × Ob)} {ρ : List (Nat × Nat)}
theorem LnRel.unren {s n : Nat} {vs : List Value} (hl : ∀ i o, look objs' i = some o → look objs (Vs.ren ρ i) = some (o.ren ρ)) (hm : ∀ i o, look objs' i = some o → μ' i = μ (Vs.ren ρ i)) : ∀ {l : List (Nat × Nat × SV)}, LnRel w S μ objs s n vs (renLn ρ l) → LnRel w S μ' objs' s n vs l
  | [], _ => trivial
  | _ :: _, ⟨⟨h1, h2, v, h3, h4⟩, h5⟩ => ⟨⟨h1, h2, v, h3, SVRel.unren hl hm _ _ h4⟩, LnRel.unren hl hm h5⟩
theorem LnRel.renamed {s n : Nat} {vs : List Value} (hl : ∀ i o, look objs i = some o → look objs' (Vs.ren ρ i) = some (o.ren ρ)) (hm : ∀ i o, look objs i = some o → μ' (Vs.ren ρ i) = μ i) : ∀ {l : List (Nat × Nat × SV)}, inKeysLn objs l = true → LnRel w S μ objs s n vs l → LnRel w S μ' objs' s n vs (renLn ρ l)
  | [], _, _ => trivial
  | _ :: _, hk, ⟨⟨h1, h2, v, h3, h4⟩, h5⟩ => by
    simp only [inKeysLn, Bool.and_eq_true] at hk
    exact ⟨⟨h1, h2, v, h3, SVRel.renamed hl hm _ _ hk.1 h4⟩, LnRel.renamed hl hm hk.2 h5⟩
theorem LnRel.step {D : Nat → Bool} {s n : Nat} {vs : List Value}
    (hb : ∀ id cells, D id = false → look objs' id = some (.box cells) → ∃ cells', look objs id = some (.box cells') ∧ μ' id = μ id)
    (ha : ∀ id cv s rows, D id = false → look objs' id = some (.arr cv s rows) → ∃ cv' rows', look objs id = some (.arr cv' s rows') ∧ cv' ≤ cv ∧ (cv' = cv → rows'.length = rows.length ∧ μ' id = μ id))
    (hi : ∀ id s p, D id = false → look objs' id = some (.iter s p) → ∃ s' p', look objs id = some (.iter s' p') ∧ μ' id = μ id)
    (ht : ∀ id cv s rows ln, D id = false → look objs' id = some (.tab cv s rows ln) → ∃ cv' rows' ln', look objs id = some (.tab cv' s rows' ln') ∧ cv' ≤ cv ∧ (cv' = cv → rows'.length = rows.length ∧ μ' id = μ id)) :
    ∀ {l : List (Nat × Nat × SV)}, clearLn D l = true → LnRel w S μ objs s n vs l → LnRel w S μ' objs' s n vs l
  | [], _, _ => trivial
  | _ :: _, hd, ⟨⟨h1, h2, v, h3, h4⟩, h5⟩ => by
    simp only [clearLn, Bool.and_eq_true] at hd
    exact ⟨⟨h1, h2, v, h3, SVRel.step hb ha hi ht _ _ hd.1 h4⟩, LnRel.step hb ha hi ht hd.2 h5⟩
end

/- No memory behind a value, but objects that are named. -/
mutual
def SV.flat : SV → Bool
  | .val v => v.flat
  | .full _ => false
  | .selfN _ _ _ => false
  | .ownT _ _ _ => false
  | .agg cells => SV.flatL cells
  | .clo _ caps => SV.flatL caps
  | .bdl _ caps => SV.flatL caps
  | .tup caps => SV.flatL caps
  | .ifc _ v => v.flat
  | _ => true
def SV.flatL : List SV → Bool
  | [] => true
  | x :: r => x.flat && SV.flatL r
end
def Ob.flat : Ob → Bool
  | .box cells => SV.flatL cells
  | .arr _ _ rows => flatRows rows
  | .iter _ _ => true
  | .tab _ _ _ _ => false
def flatO : List (Nat × Ob) → Bool
  | [] => true
  | (_, o) :: r => o.flat && flatO r
theorem flatO_get : ∀ {l : List (Nat × Ob)}, flatO l = true → ∀ k o, look l k = some o → o.flat = true
  | [], _, _, _, h => by simp [look] at h
  | (j, x) :: r, h, k, o, hl => by
    simp only [flatO, Bool.and_eq_true] at h
    simp only [look] at hl
    cases hj : j == k
    · rw [hj] at hl; exact flatO_get h.2 k o hl
    · rw [hj] at hl; simp at hl; subst hl; exact h.1
mutual
theorem SV.flat_rel {w w' : World} {S S' : Stab} {μ : Nat → Value} {objs : List (Nat × Ob)} : ∀ (x : SV) (v : Value), x.flat = true → SVRel w S μ objs x v → SVRel w' S' μ objs x v
  | .undef, _, _, h => h
  | .val x, v, hf, h => IV.flat_rep x v hf h
  | .nils, _, _, h => h
  | .full rows, _, hf, _ => by simp [SV.flat] at hf
  | .own _ _, _, _, h => h
  | .loc _ _, _, _, h => h
  | .eloc _ _ _ _, _, _, h => h
  | .view _ _ _ _, _, _, h => h
  | .agg cells, v, hf, ⟨vs, h1, h2⟩ => ⟨vs, h1, SV.flat_ones cells _ hf h2⟩
  | .clo f caps, v, hf, ⟨vs, h1, h2⟩ => ⟨vs, h1, SV.flat_list caps _ hf h2⟩
  | .bdl f caps, v, hf, ⟨vs, h1, h2⟩ => ⟨vs, h1, SV.flat_list caps _ hf h2⟩
  | .tup caps, v, hf, ⟨vs, h1, h2⟩ => ⟨vs, h1, SV.flat_list caps _ hf h2⟩
  | .ifc t x, v, hf, ⟨u, h1, h2⟩ => ⟨u, h1, SV.flat_rel x u hf h2⟩
  | .anyB, v, _, h => h
  | .selfN _ _ _, v, hf, h => by simp [SV.flat] at hf
  | .ownT _ _ _, v, hf, h => by simp [SV.flat] at hf
  | .itr _, v, _, h => h
  | .nilT, _, _, h => h
  | .emp _, _, _, h => h
  | .town _ _, _, _, h => h
  | .teloc _ _ _ _, _, _, h => h
theorem SV.flat_list {w w' : World} {S S' : Stab} {μ : Nat → Value} {objs : List (Nat × Ob)} : ∀ (x : List SV) (v : List Value), SV.flatL x = true → SVList w S μ objs x v → SVList w' S' μ objs x v
  | [], _, _, h => h
  | x :: xs, v, hf, ⟨u, us, h1, h2, h3⟩ => by
    simp only [SV.flatL, Bool.and_eq_true] at hf
    exact ⟨u, us, h1, SV.flat_rel x u hf.1 h2, SV.flat_list xs us hf.2 h3⟩
theorem SV.flat_ones {w w' : World} {S S' : Stab} {μ : Nat → Value} {objs : List (Nat × Ob)} : ∀ (x : List SV) (v : List Value), SV.flatL x = true → SVOnes w S μ objs x v → SVOnes w' S' μ objs x v
  | [], _, _, h => h
  | x :: xs, v, hf, ⟨u, us, h1, h0, h2, h3⟩ => by
    simp only [SV.flatL, Bool.and_eq_true] at hf
    exact ⟨u, us, h1, h0, SV.flat_rel x u hf.1 h2, SV.flat_ones xs us hf.2 h3⟩
end
theorem ObRel.flat {w' : World} {S S' : Stab} {μ : Nat → Value} {objs : List (Nat × Ob)} {blk : Option Nat} {mu : Value} : ∀ {o : Ob}, o.flat = true → ObRel w' S μ objs blk mu o → ObRel w' S' μ objs blk mu o
  | .box cells, hf, ⟨b, vs, e, fr, h1, h2, h3, h4, h5⟩ => ⟨b, vs, e, fr, h1, h2, h3, h4, SV.flat_ones cells _ hf h5⟩
  | .arr _ _ rows, _, .inl h => .inl h
  | .arr _ _ rows, hf, .inr ⟨b, cap, vs, e, fr, k1, k2, k3, k4, k5, k6, k7, k8⟩ => .inr ⟨b, cap, vs, e, fr, k1, k2, k3, k4, k5, k6, k7, flats_ones _ _ (flatRows_flatten hf) k8⟩
  | .iter _ _, _, h => h
  | .tab _ _ _ _, hf, _ => by simp [Ob.flat] at hf

/-- The handle on an object, at the least. -/
def hdl (i : Nat) : Ob → SV
  | .box _ => .loc i 0
  | .arr ver _ _ => .own i ver
  | .iter _ _ => .itr i
  | .tab ver _ _ _ => .town i ver

/-- A contract of a call that turns objects: what comes in, with the objects that it names; what comes out; which are frozen then. -/
structure MC where
  args : List SV
  objs : List (Nat × Ob)
  res : SV
  objs' : List (Nat × Ob)
  ro' : List Nat
  ro : List Nat := []

/-- THE CONTRACT: in whatever memory, wherever the objects lie: the call returns; the objects have turned so; of what was there besides nothing has. -/
def FnM (gl : List (Nat × List IV)) (P : Program) (k : FuncId) (c : MC) : Prop :=
  Callable P k ∧ ∀ (w : World) (S : Stab) (μ : Nat → Value) (β : Nat → Option Nat) (vs : List Value), (∀ b o, S b o → b < w.heap.size) → (∀ p, p ∈ gl → RepGl w S p) →
    SVList w S μ c.objs c.args vs → (∀ id o, look c.objs id = some o → ObRel w S μ c.objs (β id) (μ id) o) →
    (∀ id id' o o' b, look c.objs id = some o → look c.objs id' = some o' → β id = some b → β id' = some b → id = id') →
    (∀ id o b off, look c.objs id = some o → β id = some b → S b off → id ∈ c.ro ∧ ∀ ver s rows, o = .arr ver s rows → off < rows.length * s) →
    CallDoes P k vs.toArray w fun e w' => ∃ (v : Value) (S' : Stab) (μ' : Nat → Value) (β' : Nat → Option Nat), e = .returned v ∧ SVRel w' S' μ' c.objs' c.res v ∧
      (∀ id o, look c.objs' id = some o → ObRel w' S' μ' c.objs' (β' id) (μ' id) o) ∧
      (∀ id id' o o' b, look c.objs' id = some o → look c.objs' id' = some o' → β' id = some b → β' id' = some b → id = id') ∧
      (∀ id o b, look c.objs' id = some o → β' id = some b → w.heap.size ≤ b ∨ ∃ i x, look c.objs i = some x ∧ β i = some b) ∧
      (∀ id o b off, look c.objs' id = some o → β' id = some b → S' b off → id ∈ c.ro' ∧ ∀ ver s rows, o = .arr ver s rows → off < rows.length * s) ∧
      (∀ b o, S' b o → b < w'.heap.size) ∧ (∀ b o, S b o → S' b o) ∧ (∀ b o, S' b o → S b o ∨ w.heap.size ≤ b ∨ ∃ i x, look c.objs i = some x ∧ β i = some b) ∧
      Kept (fun b => ∃ i x, look c.objs i = some x ∧ β i = some b) w w' ∧
      (∀ id o, look c.objs id = some o → SVRel w' S' μ' c.objs' (hdl id o) (μ id)) ∧
      (∀ b o, S b o → w'.cell? ⟨b, o, none⟩ = w.cell? ⟨b, o, none⟩)
end Go.Vs
set_option linter.unusedVariables false
set_option linter.unusedSimpArgs false
namespace Go.Vs

/-- The values that come in: by name, or as immutable ones. -/
def mArgs (objs : List (Nat × Ob)) (ρ : List (Nat × Nat)) : List SV → List SV → List Nat → Prop
  | [], [], fz => fz = []
  | x :: xs, .val iv :: ys, fz => ∃ f g, toIV objs x = some (iv, f) ∧ mArgs objs ρ xs ys g ∧ fz = f ++ g
  | x :: xs, y :: ys, fz => x = y.ren ρ ∧ mArgs objs ρ xs ys fz
  | _, _, _ => False
def mObjs (objs : List (Nat × Ob)) (ρ : List (Nat × Nat)) : List (Nat × Ob) → Prop
  | [] => True
  | (i, o) :: r => look objs (ren ρ i) = some (o.ren ρ) ∧ mObjs objs ρ r
theorem mObjs_get {objs : List (Nat × Ob)} {ρ : List (Nat × Nat)} : ∀ {l : List (Nat × Ob)}, mObjs objs ρ l → ∀ i o, look l i = some o → look objs (ren ρ i) = some (o.ren ρ)
  | [], _, _, _, h => by simp [look] at h
  | (j, x) :: r, hm, i, o, h => by
    simp only [look] at h
    cases hj : j == i
    · rw [hj] at h; exact mObjs_get hm.2 i o h
    · rw [hj] at h
      rw [beq_iff_eq] at hj
      simp only [cond_true, Option.some.injEq] at h
      subst h; subst hj
      exact hm.1

def sameKind : Ob → Option Ob → Bool
  | .box _, some (.box _) => true
  | .arr _ s _, some (.arr _ s' _) => s == s'
  | .tab _ s _ _, some (.tab _ s' _ _) => s == s'
  | .iter _ _, some (.iter _ _) => true
  | _, _ => false
def newName (ρ : List (Nat × Nat)) (objs : List (Nat × Ob)) : List (Nat × Ob) → Nat → Bool
  | [], _ => false
  | (i, _) :: r, id => ((look objs i).isNone && ren ρ i == id) || newName ρ objs r id
def mOk1 (σ : St) (ρ : List (Nat × Nat)) (ro : List Nat) (objs' : List (Nat × Ob)) : List (Nat × Ob) → Bool
  | [] => true
  | (i, o) :: r => (!σ.ro.contains (ren ρ i) || ro.contains i) && sameKind o (look objs' i) && mOk1 σ ρ ro objs' r
def noKey (ρ : List (Nat × Nat)) (id : Nat) : List (Nat × Ob) → Bool
  | [] => true
  | (j, _) :: r => !(ren ρ j == id) && noKey ρ id r
def mInj (ρ : List (Nat × Nat)) : List (Nat × Ob) → Bool
  | [] => true
  | (i, _) :: r => noKey ρ (ren ρ i) r && mInj ρ r
def mNew (σ : St) (ρ : List (Nat × Nat)) (objs : List (Nat × Ob)) : List (Nat × Ob) → Bool
  | [] => true
  | (i, _) :: r => ((look objs i).isSome || ((look σ.objs (ren ρ i)).isNone && decide (ren ρ i < σ.n))) && mNew σ ρ objs r
def mFz (ρ : List (Nat × Nat)) (fz : List Nat) : List (Nat × Ob) → Bool
  | [] => true
  | (i, _) :: r => !fz.contains (ren ρ i) && mFz ρ fz r
theorem mFz_get {ρ : List (Nat × Nat)} {fz : List Nat} : ∀ {l : List (Nat × Ob)}, mFz ρ fz l = true → ∀ i o, look l i = some o → ren ρ i ∉ fz
  | [], _, _, _, h => by simp [look] at h
  | (j, x) :: r, hn, i, o, h => by
    simp only [mFz, Bool.and_eq_true, Bool.not_eq_true'] at hn
    simp only [look] at h
    cases hj : j == i
    · rw [hj] at h; exact mFz_get hn.2 i o h
    · rw [beq_iff_eq] at hj; subst hj; simpa using hn.1
def mOk (σ : St) (ρ : List (Nat × Nat)) (c : MC) : Bool :=
  mOk1 σ ρ c.ro c.objs' c.objs && mInj ρ c.objs' && mNew σ ρ c.objs c.objs' && clearE (newName ρ c.objs c.objs') σ.env && clearO (newName ρ c.objs c.objs') σ.objs && c.res.inKeys c.objs' && inKeysO c.objs' c.objs'

def mPut (objs : List (Nat × Ob)) (ρ : List (Nat × Nat)) : List (Nat × Ob) → List (Nat × Ob)
  | [] => objs
  | (i, o) :: r => put (mPut objs ρ r) (ren ρ i) (o.ren ρ)
def mFlat (c : MC) : Bool := c.res.flat && flatO c.objs'
def St.mapply (σ : St) (dst : Option Nat) (ρ : List (Nat × Nat)) (c : MC) (fz : List Nat) : St :=
  ⟨putD σ.env dst (c.res.ren ρ), mPut σ.objs ρ c.objs', c.ro'.map (ren ρ) ++ ((bif mFlat c then [] else fz) ++ σ.ro), σ.n, σ.gl⟩

def back (ρ : List (Nat × Nat)) : List (Nat × Ob) → Nat → Option Nat
  | [], _ => none
  | (i, _) :: r, id => bif ren ρ i == id then some i else back ρ r id
theorem back_some {ρ : List (Nat × Nat)} : ∀ {l : List (Nat × Ob)} {id i : Nat}, back ρ l id = some i → ren ρ i = id ∧ ∃ o, look l i = some o
  | [], _, _, h => by simp [back] at h
  | (j, x) :: r, id, i, h => by
    simp only [back] at h
    cases hj : ren ρ j == id
    · rw [hj] at h
      obtain ⟨h1, o, h2⟩ := back_some h
      refine ⟨h1, ?_⟩
      simp only [look]
      cases j == i
      · exact ⟨o, h2⟩
      · exact ⟨x, rfl⟩
    · rw [hj] at h
      rw [beq_iff_eq] at hj
      simp only [cond_true, Option.some.injEq] at h
      subst h
      exact ⟨hj, x, by simp [look]⟩
theorem noKey_spec {ρ : List (Nat × Nat)} {id : Nat} : ∀ {l : List (Nat × Ob)}, noKey ρ id l = true → ∀ i o, look l i = some o → ren ρ i ≠ id
  | [], _, _, _, h => by simp [look] at h
  | (j, x) :: r, hk, i, o, h => by
    simp only [noKey, Bool.and_eq_true, Bool.not_eq_true', beq_eq_false_iff_ne] at hk
    simp only [look] at h
    cases hj : j == i
    · rw [hj] at h; exact noKey_spec hk.2 i o h
    · rw [beq_iff_eq] at hj; subst hj; exact hk.1
theorem back_ren {ρ : List (Nat × Nat)} : ∀ {l : List (Nat × Ob)}, mInj ρ l = true → ∀ i o, look l i = some o → back ρ l (ren ρ i) = some i
  | [], _, _, _, h => by simp [look] at h
  | (j, x) :: r, hk, i, o, h => by
    simp only [mInj, Bool.and_eq_true] at hk
    simp only [look] at h
    simp only [back]
    cases hj : j == i
    · rw [hj] at h
      have : ren ρ i ≠ ren ρ j := noKey_spec hk.1 i o h
      have : (ren ρ j == ren ρ i) = false := by simpa using this.symm
      rw [this]
      exact back_ren hk.2 i o h
    · rw [beq_iff_eq] at hj; subst hj; simp
theorem back_none {ρ : List (Nat × Nat)} : ∀ {l : List (Nat × Ob)} {id : Nat}, back ρ l id = none → ∀ i o, look l i = some o → ren ρ i ≠ id
  | [], _, _, _, _, h => by simp [look] at h
  | (j, x) :: r, id, hb, i, o, h => by
    simp only [back] at hb
    cases hj : ren ρ j == id
    · rw [hj] at hb
      simp only [look] at h
      cases hji : j == i
      · rw [hji] at h; exact back_none hb i o h
      · rw [beq_iff_eq] at hji; subst hji; simpa using hj
    · rw [hj] at hb; simp at hb
theorem mPut_look {objs : List (Nat × Ob)} {ρ : List (Nat × Nat)} : ∀ {l : List (Nat × Ob)}, mInj ρ l = true → ∀ id, look (mPut objs ρ l) id = match back ρ l id with
    | some i => (look l i).map (Ob.ren ρ)
    | none => look objs id
  | [], _, _ => rfl
  | (j, x) :: r, hk, id => by
    simp only [mInj, Bool.and_eq_true] at hk
    simp only [mPut, back]
    rw [look_put]
    by_cases hj : id = ren ρ j
    · subst hj
      simp [look]
    · rw [if_neg hj, mPut_look hk.2]
      have : (ren ρ j == id) = false := by simpa using (fun e => hj e.symm)
      rw [this, cond_false]
      cases hb : back ρ r id with
      | none => rfl
      | some i =>
        simp only [look]
        obtain ⟨h1, o, h2⟩ := back_some hb
        cases hji : j == i
        · rfl
        · exfalso
          rw [beq_iff_eq] at hji
          subst hji
          exact hj h1.symm

theorem newName_spec {ρ : List (Nat × Nat)} {objs : List (Nat × Ob)} : ∀ {l : List (Nat × Ob)} {i : Nat} {o : Ob}, look l i = some o → look objs i = none → newName ρ objs l (ren ρ i) = true
  | [], _, _, h, _ => by simp [look] at h
  | (j, x) :: r, i, o, h, hn => by
    simp only [look] at h
    simp only [newName, Bool.or_eq_true, Bool.and_eq_true]
    cases hj : j == i
    · rw [hj] at h; exact .inr (newName_spec h hn)
    · rw [beq_iff_eq] at hj; subst hj; left; simp [hn]
theorem newName_lt {σ : St} {ρ : List (Nat × Nat)} {objs : List (Nat × Ob)} : ∀ {l : List (Nat × Ob)} {id : Nat}, mNew σ ρ objs l = true → newName ρ objs l id = true → id < σ.n
  | [], _, _, h => by simp [newName] at h
  | (j, x) :: r, id, hn, h => by
    simp only [mNew, Bool.and_eq_true, Bool.or_eq_true, decide_eq_true_eq] at hn
    simp only [newName, Bool.or_eq_true, Bool.and_eq_true, beq_iff_eq] at h
    rcases h with ⟨h1, rfl⟩ | h
    · rcases hn.1 with h2 | h2
      · cases hl : look objs j <;> simp [hl] at h1 h2
      · exact h2.2
    · exact newName_lt hn.2 h
theorem mNew_get {σ : St} {ρ : List (Nat × Nat)} {objs : List (Nat × Ob)} : ∀ {l : List (Nat × Ob)}, mNew σ ρ objs l = true → ∀ i o, look l i = some o → look objs i = none → look σ.objs (ren ρ i) = none
  | [], _, _, _, h, _ => by simp [look] at h
  | (j, x) :: r, hn, i, o, h, hno => by
    simp only [mNew, Bool.and_eq_true, Bool.or_eq_true, decide_eq_true_eq] at hn
    simp only [look] at h
    cases hj : j == i
    · rw [hj] at h; exact mNew_get hn.2 i o h hno
    · rw [beq_iff_eq] at hj; subst hj
      rcases hn.1 with h2 | h2
      · rw [hno] at h2; simp at h2
      · simpa using h2.1
theorem mOk1_get {σ : St} {ρ : List (Nat × Nat)} {ro : List Nat} {objs' : List (Nat × Ob)} : ∀ {l : List (Nat × Ob)}, mOk1 σ ρ ro objs' l = true → ∀ i o, look l i = some o → (ren ρ i ∈ σ.ro → i ∈ ro) ∧ sameKind o (look objs' i) = true
  | [], _, _, _, h => by simp [look] at h
  | (j, x) :: r, hn, i, o, h => by
    simp only [mOk1, Bool.and_eq_true] at hn
    simp only [look] at h
    cases hj : j == i
    · rw [hj] at h; exact mOk1_get hn.2 i o h
    · rw [hj] at h
      rw [beq_iff_eq] at hj; subst hj
      simp only [cond_true, Option.some.injEq] at h
      subst h
      refine ⟨fun hm => ?_, hn.1.2⟩
      have h1 := hn.1.1
      rw [show σ.ro.contains (ren ρ j) = true by simpa using hm] at h1
      simpa using h1
theorem inKeysO_get {l' : List (Nat × Ob)} : ∀ {l : List (Nat × Ob)}, inKeysO l' l = true → ∀ i o, look l i = some o → o.inKeys l' = true
  | [], _, _, _, h => by simp [look] at h
  | (j, x) :: r, hn, i, o, h => by
    simp only [inKeysO, Bool.and_eq_true] at hn
    simp only [look] at h
    cases hj : j == i
    · rw [hj] at h; exact inKeysO_get hn.2 i o h
    · rw [hj] at h; simp only [cond_true, Option.some.injEq] at h; subst h; exact hn.1

mutual
theorem clear_of_far {D : Nat → Bool} {n : Nat} (hD : ∀ i, D i = true → i < n) : ∀ x : SV, (∀ d, d < n → x.noRef d = true) → x.clear D = true
  | .undef, _ => rfl
  | .val _, _ => rfl
  | .nils, _ => rfl
  | .full _, _ => rfl
  | .own id _, h => by
    simp only [SV.clear, Bool.not_eq_true']
    cases hd : D id with
    | false => rfl
    | true => have := h id (hD id hd); simp [SV.noRef] at this
  | .loc id _, h => by
    simp only [SV.clear, Bool.not_eq_true']
    cases hd : D id with
    | false => rfl
    | true => have := h id (hD id hd); simp [SV.noRef] at this
  | .eloc id _ _ _, h => by
    simp only [SV.clear, Bool.not_eq_true']
    cases hd : D id with
    | false => rfl
    | true => have := h id (hD id hd); simp [SV.noRef] at this
  | .view id _ _ _, h => by
    simp only [SV.clear, Bool.not_eq_true']
    cases hd : D id with
    | false => rfl
    | true => have := h id (hD id hd); simp [SV.noRef] at this
  | .agg cells, h => clearL_of_far hD cells h
  | .clo _ caps, h => clearL_of_far hD caps h
  | .bdl _ caps, h => clearL_of_far hD caps h
  | .tup caps, h => clearL_of_far hD caps h
  | .ifc _ v, h => clear_of_far hD v h
  | .anyB, _ => rfl
  | .selfN id t nn, h => by
    simp only [SV.clear, Bool.not_eq_true']
    cases hd : D id with
    | false => rfl
    | true => have := h id (hD id hd); simp [SV.noRef] at this
  | .ownT id ver t, h => by
    simp only [SV.clear, Bool.not_eq_true']
    cases hd : D id with
    | false => rfl
    | true => have := h id (hD id hd); simp [SV.noRef] at this
  | .itr id, h => by
    simp only [SV.clear, Bool.not_eq_true']
    cases hd : D id with
    | false => rfl
    | true => have := h id (hD id hd); simp [SV.noRef] at this
  | .nilT, _ => rfl
  | .emp _, _ => rfl
  | .town id _, h => by
    simp only [SV.clear, Bool.not_eq_true']
    cases hd : D id with
    | false => rfl
    | true => have := h id (hD id hd); simp [SV.noRef] at this
  | .teloc id _ _ _, h => by
    simp only [SV.clear, Bool.not_eq_true']
    cases hd : D id with
    | false => rfl
    | true => have := h id (hD id hd); simp [SV.noRef] at this
theorem clearL_of_far {D : Nat → Bool} {n : Nat} (hD : ∀ i, D i = true → i < n) : ∀ x : List SV, (∀ d, d < n → SV.noRefs d x = true) → clearL D x = true
  | [], _ => rfl
  | x :: xs, h => by
    simp only [clearL, Bool.and_eq_true]
    have h' : ∀ d, d < n → x.noRef d = true ∧ SV.noRefs d xs = true := fun d hd => by simpa [SV.noRefs] using h d hd
    exact ⟨clear_of_far hD x (fun d hd => (h' d hd).1), clearL_of_far hD xs (fun d hd => (h' d hd).2)⟩
end

section
variable {P : Program} {w0 w : World} {S0 S : Stab} {M : Ctx} {σ : St} {a : Act} {μ : Nat → Value} {β : Nat → Option Nat} {o : Oper}

theorem mArgs_sound (h : SimG w0 S0 M σ a w S μ β) {ρ : List (Nat × Nat)} {objs' : List (Nat × Ob)} (hl : ∀ i o, look objs' i = some o → look σ.objs (ren ρ i) = some (o.ren ρ)) : ∀ {xs ys : List SV} {fz fz' : List Nat} {vs : List Value}, mArgs σ.objs ρ xs ys fz → (∀ i, i ∈ fz → i ∈ fz') →
    SVList w S μ σ.objs xs vs → SVList w (Plus S β σ.objs fz') (fun i => μ (ren ρ i)) objs' ys vs := by
  intro xs
  induction xs with
  | nil =>
    intro ys fz fz' vs hm hf hr
    cases ys with
    | nil => exact hr
    | cons y ys => simp [mArgs] at hm
  | cons x xs ih =>
    intro ys fz fz' vs hm hf hr
    obtain ⟨u, us, h1, h2, h3⟩ := hr
    cases ys with
    | nil => simp [mArgs] at hm
    | cons y ys =>
      have named : x = y.ren ρ ∧ mArgs σ.objs ρ xs ys fz → SVList w (Plus S β σ.objs fz') (fun i => μ (ren ρ i)) objs' (y :: ys) vs := by
        rintro ⟨rfl, hm2⟩
        exact ⟨u, us, h1, SVRel.unren hl (fun _ _ _ => rfl) y u (SVRel.mono (Keeps.refl _ _) (fun _ _ x => .inl x) _ _ h2), ih hm2 hf h3⟩
      cases y with
      | val iv =>
        obtain ⟨f, g, e1, e2, rfl⟩ := hm
        exact ⟨u, us, h1, toIV_sound h e1 (fun i hi => hf i (List.mem_append_left _ hi)) h2, ih e2 (fun i hi => hf i (List.mem_append_right _ hi)) h3⟩
      | _ => exact named hm

/-- BEHIND THE CALL. -/
theorem mcall_after (h : SimG w0 S0 M σ a w S μ β) {dst : Option Nat} (hd : ∀ d, dst = some d → d < σ.n) {c : MC} {ρ : List (Nat × Nat)} {fz : List Nat} (hok : mOk σ ρ c = true) (hobjs : mObjs σ.objs ρ c.objs)
    {w' : World} {v : Value} {S' : Stab} {μ' : Nat → Value} {β' : Nat → Option Nat}
    (r1 : SVRel w' S' μ' c.objs' c.res v) (r2 : ∀ id o, look c.objs' id = some o → ObRel w' S' μ' c.objs' (β' id) (μ' id) o)
    (r3 : ∀ id id' o o' b, look c.objs' id = some o → look c.objs' id' = some o' → β' id = some b → β' id' = some b → id = id')
    (r4 : ∀ id o b, look c.objs' id = some o → β' id = some b → w.heap.size ≤ b ∨ ∃ i x, look c.objs i = some x ∧ β (ren ρ i) = some b)
    (r5 : ∀ id o b off, look c.objs' id = some o → β' id = some b → S' b off → id ∈ c.ro' ∧ ∀ ver s rows, o = .arr ver s rows → off < rows.length * s)
    (r6 : ∀ b o, S' b o → b < w'.heap.size) (r7 : ∀ b o, Plus S β σ.objs fz b o → S' b o)
    (r8 : ∀ b o, S' b o → Plus S β σ.objs fz b o ∨ w.heap.size ≤ b ∨ ∃ i x, look c.objs i = some x ∧ β (ren ρ i) = some b)
    (r9 : Kept (fun b => ∃ i x, look c.objs i = some x ∧ β (ren ρ i) = some b) w w')
    (r10 : ∀ id o, look c.objs id = some o → SVRel w' S' μ' c.objs' (hdl id o) (μ (ren ρ id)))
    (r11 : ∀ b o, Plus S β σ.objs fz b o → w'.cell? ⟨b, o, none⟩ = w.cell? ⟨b, o, none⟩) :
    Sim w0 S0 M (σ.mapply dst ρ c fz) (a.put dst v) w' := by
  simp only [mOk, Bool.and_eq_true] at hok
  obtain ⟨⟨⟨⟨⟨⟨k1, k2⟩, k3⟩, k4⟩, k5⟩, k6⟩, k7⟩ := hok
  have hlook := fun id => mPut_look (objs := σ.objs) (l := c.objs') k2 id
  have hfoot : ∀ {b : Nat}, (∃ i x, look c.objs i = some x ∧ β (ren ρ i) = some b) → ∃ i x, look c.objs i = some x ∧ look σ.objs (ren ρ i) = some (x.ren ρ) ∧ β (ren ρ i) = some b ∧ True := by
    rintro b ⟨i, x, h1, h2⟩
    exact ⟨i, x, h1, mObjs_get hobjs i x h1, h2, trivial⟩
  have hlive : ∀ id x b, look σ.objs id = some x → β id = some b → b < w.heap.size := fun id x b hx hb => ObRel.live hb (h.objs id x hx)
  have hblk : ∀ b, b < w.heap.size → ¬ (∃ i x, look c.objs i = some x ∧ β (ren ρ i) = some b) → w'.heap[b]? = w.heap[b]? := fun b hb hn => r9.block b hb hn
  have hkeeps : Keeps S w w' := ⟨fun b off hS => r11 b off (.inl hS), r9.shape⟩
  -- the stable cells that are told from here on
  obtain ⟨S'', s1, s2, s3, s4, s5, s6, s7⟩ : ∃ S'' : Stab, (∀ b off, S b off → S'' b off) ∧ (∀ b off, S'' b off → b < w'.heap.size) ∧
      (∀ b off, S'' b off → S0 b off ∨ w0.heap.size ≤ b ∨ M.blocks b) ∧
      SVRel w' S'' μ' c.objs' c.res v ∧ (∀ id o, look c.objs' id = some o → ObRel w' S'' μ' c.objs' (β' id) (μ' id) o) ∧
      (∀ id o b off, look c.objs' id = some o → β' id = some b → S'' b off → id ∈ c.ro' ∧ ∀ ver s rows, o = .arr ver s rows → off < rows.length * s) ∧
      (∀ id o b off, look σ.objs id = some o → β id = some b → back ρ c.objs' id = none → S'' b off → id ∈ (bif mFlat c then [] else fz) ++ σ.ro ∧ ∀ ver s rows, o = .arr ver s rows → off < rows.length * s) := by
    cases hfl : mFlat c with
    | true =>
      simp only [mFlat, Bool.and_eq_true] at hfl
      refine ⟨S, fun _ _ x => x, fun b off hS => Nat.lt_of_lt_of_le (h.stab b off hS) r9.size, h.back, SV.flat_rel _ _ hfl.1 r1, fun id o hl => ObRel.flat (flatO_get hfl.2 id o hl) (r2 id o hl), ?_, ?_⟩
      · intro id o b off hl hb hS
        exact r5 id o b off hl hb (r7 b off (.inl hS))
      · intro id o b off hl hb _ hS
        exact h.unst id o b off hl hb hS
    | false =>
      refine ⟨S', fun b off hS => r7 b off (.inl hS), r6, ?_, r1, r2, r5, ?_⟩
      · intro b off hS
        rcases r8 b off hS with h1 | h1 | h1
        · exact (h.freeze fz).back b off h1
        · have := h.kept.size; exact .inr (.inl (by omega))
        · obtain ⟨i, x, _, h2, h3, _⟩ := hfoot h1
          exact .inr (h.own _ _ b h2 h3)
      · intro id o b off hl hb hbk hS
        rcases r8 b off hS with h1 | h1 | h1
        · exact (h.freeze fz).unst id o b off hl hb h1
        · have := hlive id o b hl hb; omega
        · exfalso
          obtain ⟨i, x, h2, h3, h4, _⟩ := hfoot h1
          have hid := h.inj id _ o _ b hl h3 hb h4
          have hsk := (mOk1_get k1 i x h2).2
          cases hl' : look c.objs' i with
          | none => rw [hl'] at hsk; cases x <;> simp [sameKind] at hsk
          | some y => exact back_none hbk i y hl' hid.symm
  -- where the objects lie now
  refine ⟨S'', fun id => match back ρ c.objs' id with | some i => μ' i | none => μ id, fun id => match back ρ c.objs' id with | some i => β' i | none => β id, ?_⟩
  have hD : ∀ id, newName ρ c.objs c.objs' id = true → id < σ.n := fun id hn => newName_lt k3 hn
  have hb : ∀ id cells, newName ρ c.objs c.objs' id = false → look (mPut σ.objs ρ c.objs') id = some (.box cells) → ∃ cells', look σ.objs id = some (.box cells') ∧ (match back ρ c.objs' id with | some i => μ' i | none => μ id) = μ id := by
    intro id cells hD hl
    rw [hlook] at hl
    cases hbk : back ρ c.objs' id with
    | none => rw [hbk] at hl; exact ⟨cells, hl, rfl⟩
    | some i =>
      rw [hbk] at hl
      obtain ⟨rfl, y, hy⟩ := back_some hbk
      cases hx : look c.objs i with
      | none => rw [newName_spec hy hx] at hD; simp at hD
      | some x =>
        have hsk := (mOk1_get k1 i x hx).2
        simp only [hy, Option.map_some, Option.some.injEq] at hl
        rw [hy] at hsk
        cases y with
        | arr _ _ _ => simp [Ob.ren] at hl
        | iter _ _ => simp [Ob.ren] at hl
        | tab _ _ _ _ => simp [Ob.ren] at hl
        | box cy =>
          cases x with
          | arr _ _ _ => simp [sameKind] at hsk
          | iter _ _ => simp [sameKind] at hsk
          | tab _ _ _ _ => simp [sameKind] at hsk
          | box cx =>
            obtain ⟨b, e1, e2⟩ := r10 i _ hx _ hy
            exact ⟨_, mObjs_get hobjs i _ hx, by simp only; rw [e1, e2]⟩
  have ha : ∀ id cv s rows, newName ρ c.objs c.objs' id = false → look (mPut σ.objs ρ c.objs') id = some (.arr cv s rows) → ∃ cv' rows', look σ.objs id = some (.arr cv' s rows') ∧ cv' ≤ cv ∧ (cv' = cv → rows'.length = rows.length ∧ (match back ρ c.objs' id with | some i => μ' i | none => μ id) = μ id) := by
    intro id cv s rows hD hl
    rw [hlook] at hl
    cases hbk : back ρ c.objs' id with
    | none => rw [hbk] at hl; exact ⟨cv, rows, hl, Nat.le_refl _, fun _ => ⟨rfl, rfl⟩⟩
    | some i =>
      rw [hbk] at hl
      obtain ⟨rfl, y, hy⟩ := back_some hbk
      cases hx : look c.objs i with
      | none => rw [newName_spec hy hx] at hD; simp at hD
      | some x =>
        have hsk := (mOk1_get k1 i x hx).2
        simp only [hy, Option.map_some, Option.some.injEq] at hl
        rw [hy] at hsk
        cases y with
        | box _ => simp [Ob.ren] at hl
        | iter _ _ => simp [Ob.ren] at hl
        | tab _ _ _ _ => simp [Ob.ren] at hl
        | arr cv1 s1 rows1 =>
          simp only [Ob.ren, Ob.arr.injEq] at hl
          obtain ⟨rfl, rfl, rfl⟩ := hl
          cases x with
          | box cx => simp [sameKind] at hsk
          | iter _ _ => simp [sameKind] at hsk
          | tab _ _ _ _ => simp [sameKind] at hsk
          | arr cv0 s0 rows0 =>
            simp only [sameKind, beq_iff_eq] at hsk
            subst hsk
            have hσ := mObjs_get hobjs i _ hx
            obtain ⟨e1, e2⟩ := r10 i _ hx _ _ _ hy
            refine ⟨cv0, rows0, hσ, e1, fun e => ?_⟩
            have e3 := e2 e
            refine ⟨?_, e3.symm⟩
            have o1 := h.objs _ _ hσ
            have o2 := r2 i _ hy
            rw [← e3] at o2
            rcases o1 with ⟨z1, _, x1, z2⟩ | ⟨_, _, _, _, _, _, z2, _⟩ <;> rcases o2 with ⟨z3, _, x2, z4⟩ | ⟨_, _, _, _, _, _, z4, _⟩
            · rw [z1, z3]
            · rw [z2] at z4; simp only [Value.slice.injEq] at z4; rw [z1, ← z4.2.1]; rfl
            · rw [z2] at z4; simp only [Value.slice.injEq] at z4; rw [z3, z4.2.1]; rfl
            · rw [z2] at z4; simp only [Value.slice.injEq] at z4; exact z4.2.1
  have hi : ∀ id s p, newName ρ c.objs c.objs' id = false → look (mPut σ.objs ρ c.objs') id = some (.iter s p) → ∃ s' p', look σ.objs id = some (.iter s' p') ∧ (match back ρ c.objs' id with | some i => μ' i | none => μ id) = μ id := by
    intro id s p hD hl
    rw [hlook] at hl
    cases hbk : back ρ c.objs' id with
    | none => rw [hbk] at hl; exact ⟨s, p, hl, rfl⟩
    | some i =>
      rw [hbk] at hl
      obtain ⟨rfl, y, hy⟩ := back_some hbk
      cases hx : look c.objs i with
      | none => rw [newName_spec hy hx] at hD; simp at hD
      | some x =>
        have hsk := (mOk1_get k1 i x hx).2
        simp only [hy, Option.map_some, Option.some.injEq] at hl
        rw [hy] at hsk
        cases y with
        | arr _ _ _ => simp [Ob.ren] at hl
        | box _ => simp [Ob.ren] at hl
        | tab _ _ _ _ => simp [Ob.ren] at hl
        | iter s1 p1 =>
          simp only [Ob.ren, Ob.iter.injEq] at hl
          obtain ⟨rfl, rfl⟩ := hl
          cases x with
          | box cx => simp [sameKind] at hsk
          | arr _ _ _ => simp [sameKind] at hsk
          | tab _ _ _ _ => simp [sameKind] at hsk
          | iter s0 p0 =>
            have hσ := mObjs_get hobjs i _ hx
            exact ⟨s0, p0, hσ, (r10 i _ hx _ _ hy).symm⟩
  have ht : ∀ id cv s rows ln, newName ρ c.objs c.objs' id = false → look (mPut σ.objs ρ c.objs') id = some (.tab cv s rows ln) → ∃ cv' rows' ln', look σ.objs id = some (.tab cv' s rows' ln') ∧ cv' ≤ cv ∧ (cv' = cv → rows'.length = rows.length ∧ (match back ρ c.objs' id with | some i => μ' i | none => μ id) = μ id) := by
    intro id cv s rows ln hD hl
    rw [hlook] at hl
    cases hbk : back ρ c.objs' id with
    | none => rw [hbk] at hl; exact ⟨cv, rows, ln, hl, Nat.le_refl _, fun _ => ⟨rfl, rfl⟩⟩
    | some i =>
      rw [hbk] at hl
      obtain ⟨rfl, y, hy⟩ := back_some hbk
      cases hx : look c.objs i with
      | none => rw [newName_spec hy hx] at hD; simp at hD
      | some x =>
        have hsk := (mOk1_get k1 i x hx).2
        simp only [hy, Option.map_some, Option.some.injEq] at hl
        rw [hy] at hsk
        cases y with
        | box _ => simp [Ob.ren] at hl
        | iter _ _ => simp [Ob.ren] at hl
        | arr _ _ _ => simp [Ob.ren] at hl
        | tab cv1 s1 rows1 ln1 =>
          simp only [Ob.ren, Ob.tab.injEq] at hl
          obtain ⟨rfl, rfl, rfl, _⟩ := hl
          cases x with
          | box cx => simp [sameKind] at hsk
          | iter _ _ => simp [sameKind] at hsk
          | arr _ _ _ => simp [sameKind] at hsk
          | tab cv0 s0 rows0 ln0 =>
            simp only [sameKind, beq_iff_eq] at hsk
            subst hsk
            have hσ := mObjs_get hobjs i _ hx
            obtain ⟨e1, e2⟩ := r10 i _ hx _ _ _ _ hy
            refine ⟨cv0, rows0, _, hσ, e1, fun e => ?_⟩
            have e3 := e2 e
            refine ⟨?_, e3.symm⟩
            have o1 := h.objs _ _ hσ
            have o2 := r2 i _ hy
            rw [← e3] at o2
            rcases o1 with ⟨z1, _, _, x1, z2⟩ | ⟨_, _, _, _, _, _, z2, _⟩ <;> rcases o2 with ⟨z3, _, _, x2, z4⟩ | ⟨_, _, _, _, _, _, z4, _⟩
            · rw [z1, z3]
            · rw [z2] at z4; simp only [Value.slice.injEq] at z4; rw [z1, ← z4.2.1]; rfl
            · rw [z2] at z4; simp only [Value.slice.injEq] at z4; rw [z3, z4.2.1]; rfl
            · rw [z2] at z4; simp only [Value.slice.injEq] at z4; exact z4.2.1
  have hren : ∀ i o, look c.objs' i = some o → look (mPut σ.objs ρ c.objs') (ren ρ i) = some (o.ren ρ) := by
    intro i o hl
    simp only [hlook, back_ren k2 i o hl, hl, Option.map_some]
  have hmu : ∀ i o, look c.objs' i = some o → (match back ρ c.objs' (ren ρ i) with | some j => μ' j | none => μ (ren ρ i)) = μ' i := by
    intro i o hl
    simp only [back_ren k2 i o hl]
  have base : SimG w0 S0 M { σ with objs := mPut σ.objs ρ c.objs', ro := c.ro'.map (ren ρ) ++ ((bif mFlat c then [] else fz) ++ σ.ro) } a w' S'' (fun id => match back ρ c.objs' id with | some i => μ' i | none => μ id) (fun id => match back ρ c.objs' id with | some i => β' i | none => β id) := by
    refine { defers := h.defers, size := h.size, env := ?_, objs := ?_, inj := ?_, own := ?_, unst := ?_, stab := s2, ext := fun b o hS => s1 b o (h.ext b o hS), back := s3, kept := ?_, stay := fun b o hb => (hkeeps.1 b o (h.ext b o hb)).trans (h.stay b o hb), hist := ?_, far := h.far, glob := ?_ }
    · intro k
      exact SVRel.step hb ha hi ht _ _ (clearE_get k4 k) (SVRel.mono hkeeps s1 _ _ (h.env k))
    · intro id o hl
      have hl' := hl
      rw [hlook] at hl
      cases hbk : back ρ c.objs' id with
      | none =>
        rw [hbk] at hl
        have ho := h.objs id o hl
        have hnf : ∀ b, β id = some b → ¬ (∃ i x, look c.objs i = some x ∧ β (ren ρ i) = some b) := by
          intro b hbb hf
          obtain ⟨i, x, h2, h3, h4, _⟩ := hfoot hf
          have hid := h.inj id _ o _ b hl h3 hbb h4
          have hsk := (mOk1_get k1 i x h2).2
          cases hl' : look c.objs' i with
          | none => rw [hl'] at hsk; cases x <;> simp [sameKind] at hsk
          | some y => exact back_none hbk i y hl' hid.symm
        have ho' := ObRel.move hkeeps s1 (fun b hbb => hblk b (hlive id o b hl hbb) (hnf b hbb)) ho
        have hcl := clearO_get k5 id o hl
        cases o with
        | arr v' s' r' => exact ho'
        | iter _ _ => exact ho'
        | tab v1 s1 r1 l1 =>
          rcases ho' with ho' | ⟨b, cap, vs, e, fr, q1, q2, q3, q4, q5, q6, q7, q8, q9⟩
          · exact .inl ho'
          exact .inr ⟨b, cap, vs, e, fr, q1, q2, q3, q4, q5, q6, q7, q8, LnRel.step hb ha hi ht hcl q9⟩
        | box cells =>
          obtain ⟨b, vs, e, fr, q1, q2, q3, q4, q5⟩ := ho'
          exact ⟨b, vs, e, fr, q1, q2, q3, q4, SVOnes.step hb ha hi ht _ _ hcl q5⟩
      | some i =>
        rw [hbk] at hl
        obtain ⟨rfl, y, hy⟩ := back_some hbk
        simp only [hy, Option.map_some, Option.some.injEq] at hl
        subst hl
        have ho := s5 i y hy
        have hik := inKeysO_get k7 i y hy
        cases y with
        | arr v' s' r' => exact ho
        | iter _ _ => exact ho
        | tab v1 s1 r1 l1 =>
          rcases ho with ⟨q1, q2, q3⟩ | ⟨b, cap, vs, e, fr, q1, q2, q3, q4, q5, q6, q7, q8, q9⟩
          · exact .inl ⟨q1, by rw [q2]; rfl, q3⟩
          exact .inr ⟨b, cap, vs, e, fr, q1, q2, q3, q4, q5, q6, q7, q8, LnRel.renamed hren hmu hik q9⟩
        | box cells =>
          obtain ⟨b, vs, e, fr, q1, q2, q3, q4, q5⟩ := ho
          exact ⟨b, vs, e, fr, q1, q2, q3, q4, SVOnes.renamed hren hmu _ _ hik q5⟩
    · intro id id' o o' b hl hl' hbb hbb'
      rw [hlook] at hl hl'
      cases hbk : back ρ c.objs' id with
      | none =>
        simp only [hbk] at hl hbb
        cases hbk' : back ρ c.objs' id' with
        | none =>
          simp only [hbk'] at hl' hbb'
          exact h.inj id id' o o' b hl hl' hbb hbb'
        | some i =>
          exfalso
          simp only [hbk'] at hl' hbb'
          obtain ⟨rfl, y, hy⟩ := back_some hbk'
          rcases r4 i y b hy hbb' with h1 | h1
          · have := hlive id o b hl hbb; omega
          · obtain ⟨j, x, h2, h3, h4, _⟩ := hfoot h1
            have hid := h.inj id _ o _ b hl h3 hbb h4
            have hsk := (mOk1_get k1 j x h2).2
            cases hl' : look c.objs' j with
            | none => rw [hl'] at hsk; cases x <;> simp [sameKind] at hsk
            | some y => exact back_none hbk j y hl' hid.symm
      | some i =>
        simp only [hbk] at hl hbb
        obtain ⟨rfl, y, hy⟩ := back_some hbk
        cases hbk' : back ρ c.objs' id' with
        | none =>
          exfalso
          simp only [hbk'] at hl' hbb'
          rcases r4 i y b hy hbb with h1 | h1
          · have := hlive id' o' b hl' hbb'; omega
          · obtain ⟨j, x, h2, h3, h4, _⟩ := hfoot h1
            have hid := h.inj id' _ o' _ b hl' h3 hbb' h4
            have hsk := (mOk1_get k1 j x h2).2
            cases hl'' : look c.objs' j with
            | none => rw [hl''] at hsk; cases x <;> simp [sameKind] at hsk
            | some y => exact back_none hbk' j y hl'' hid.symm
        | some i' =>
          simp only [hbk'] at hl' hbb'
          obtain ⟨rfl, y', hy'⟩ := back_some hbk'
          rw [r3 i i' y y' b hy hy' hbb hbb']
    · intro id o b hl hbb
      rw [hlook] at hl
      cases hbk : back ρ c.objs' id with
      | none => simp only [hbk] at hl hbb; exact h.own id o b hl hbb
      | some i =>
        simp only [hbk] at hl hbb
        obtain ⟨rfl, y, hy⟩ := back_some hbk
        rcases r4 i y b hy hbb with h1 | h1
        · have := h.kept.size; exact .inl (by omega)
        · obtain ⟨j, x, _, h3, h4, _⟩ := hfoot h1
          exact h.own _ _ b h3 h4
    · intro id o b off hl hbb hS
      rw [hlook] at hl
      cases hbk : back ρ c.objs' id with
      | none =>
        simp only [hbk] at hl hbb
        obtain ⟨q1, q2⟩ := s7 id o b off hl hbb hbk hS
        exact ⟨List.mem_append_right _ q1, q2⟩
      | some i =>
        simp only [hbk] at hl hbb
        obtain ⟨rfl, y, hy⟩ := back_some hbk
        obtain ⟨q1, q2⟩ := s6 i y b off hy hbb hS
        refine ⟨List.mem_append_left _ (List.mem_map_of_mem q1), fun ver s rows e => ?_⟩
        subst e
        simp only [hy, Option.map_some, Option.some.injEq] at hl
        cases y with
        | box _ => simp [Ob.ren] at hl
        | iter _ _ => simp [Ob.ren] at hl
        | tab _ _ _ _ => simp [Ob.ren] at hl
        | arr v1 s1 r1 =>
          simp only [Ob.ren, Ob.arr.injEq] at hl
          obtain ⟨_, rfl, rfl⟩ := hl
          exact q2 _ _ _ rfl
    · refine ⟨r9.os.trans h.kept.os, r9.tape.trans h.kept.tape, r9.output.trans h.kept.output, Nat.le_trans h.kept.size r9.size, fun k hk hM => ?_, fun k x hx => r9.shape _ _ (h.kept.shape _ _ hx)⟩
      rw [← h.kept.block k hk hM]
      refine hblk k (Nat.lt_of_lt_of_le hk h.kept.size) (fun hf => ?_)
      obtain ⟨i, x, _, h3, h4, _⟩ := hfoot hf
      rcases h.own _ _ k h3 h4 with h5 | h5
      · omega
      · exact hM h5
    · intro p hp
      exact SVRel.step hb ha hi ht _ _ (clear_of_far hD _ (h.far p hp)) (SVRel.mono hkeeps s1 _ _ (h.hist p hp))
    · intro p hp
      exact RepGl.mono hkeeps s1 (h.glob p hp)
  exact base.putD hd (SVRel.renamed hren hmu _ _ k6 s4)

def mVals (σ : St) (f : SV) (args : List Opd) : Option (FuncId × List SV) := match f with
  | .val (.fn k caps) => some (k, args.map (val σ) ++ caps.map .val)
  | .clo k caps => some (k, args.map (val σ) ++ caps)
  | .bdl k first => some (k, first ++ args.map (val σ))
  | _ => none

theorem SVList.append {objs : List (Nat × Ob)} : ∀ {xs ys : List SV} {us vs : List Value}, SVList w S μ objs xs us → SVList w S μ objs ys vs → SVList w S μ objs (xs ++ ys) (us ++ vs)
  | [], _, _, _, h, k => by have h : _ = _ := h; subst h; exact k
  | _ :: _, _, _, _, ⟨u, us', h1, h2, h3⟩, k => by subst h1; exact ⟨u, us' ++ _, rfl, h2, SVList.append h3 k⟩
theorem SVList.ofRep {objs : List (Nat × Ob)} : ∀ {xs : List IV} {vs : List Value}, RepList w S xs vs → SVList w S μ objs (xs.map .val) vs
  | [], _, h => h
  | _ :: _, _, ⟨u, us, h1, h2, h3⟩ => ⟨u, us, h1, h2, SVList.ofRep h3⟩

/-- A call that turns objects. -/
theorem mcall_wp (h : SimG w0 S0 M σ a w S μ β) (hd : ∀ d, o.dst = some d → d < σ.n) {c : Call} {f : Operand} (ho : o.op = .call c) (hcl : c.callee = .value f) {fv : SV} (hfv : SVRel w S μ σ.objs fv (a.eval f)) {args : List Opd} (hargs : compOpds c.args.toList = some args)
    {k : FuncId} {vals : List SV} (hca : mVals σ fv args = some (k, vals)) {mc : MC} (hF : FnM σ.gl P k mc) {ρ : List (Nat × Nat)} {fz : List Nat} (hok : mOk σ ρ mc = true) (hobjs : mObjs σ.objs ρ mc.objs) (hma : mArgs σ.objs ρ vals mc.args fz) (hfz : mFz ρ fz mc.objs = true) {next : Act → World → Prop} {Q : Exit → Act → World → Prop}
    (hn : ∀ v w', Sim w0 S0 M (σ.mapply o.dst ρ mc fz) (a.put o.dst v) w' → next (a.put o.dst v) w') : o.wp P a w next Q := by
  have har := opds_sound h hargs
  obtain ⟨first', caps', hev, hvals⟩ : ∃ first' caps' : Array Value, a.eval f = .func (.func k) first' caps' ∧ SVList w S μ σ.objs vals (first'.toList ++ (c.args.toList.map a.eval ++ caps'.toList)) := by
    unfold mVals at hca
    split at hca
    · next k' caps =>
      simp only [Option.some.injEq, Prod.mk.injEq] at hca
      obtain ⟨rfl, rfl⟩ := hca
      obtain ⟨vs, h1, h2⟩ := hfv
      exact ⟨#[], vs, h1, by simpa using SVList.append har (SVList.ofRep h2)⟩
    · next k' caps =>
      simp only [Option.some.injEq, Prod.mk.injEq] at hca
      obtain ⟨rfl, rfl⟩ := hca
      obtain ⟨vs, h1, h2⟩ := hfv
      exact ⟨#[], vs, h1, by simpa using SVList.append har h2⟩
    · next k' first =>
      simp only [Option.some.injEq, Prod.mk.injEq] at hca
      obtain ⟨rfl, rfl⟩ := hca
      obtain ⟨vs, h1, h2⟩ := hfv
      exact ⟨vs, #[], h1, by simpa using SVList.append h2 har⟩
    · simp at hca
  obtain ⟨⟨fn, hfn, hname⟩, hcalls⟩ := hF
  have hrun : (execOp a.eval o).run P w = (callFunc k (first' ++ c.args.map a.eval ++ caps')).run P w := by
    simp only [execOp, ho, resolve, hcl, hev, Deferred.ofValue, Sem.run_bind, Sem.run_pure, Result.andThen_ok, invoke]
  have hv : first' ++ c.args.map a.eval ++ caps' = (first'.toList ++ (c.args.toList.map a.eval ++ caps'.toList)).toArray := by
    apply Array.toList_inj.1; simp
  rw [hv] at hrun
  have hl := fun i o hlo => mObjs_get hobjs i o hlo
  have hok' := hok
  simp only [mOk, Bool.and_eq_true] at hok'
  obtain ⟨⟨⟨⟨⟨⟨k1, k2⟩, k3⟩, k4⟩, k5⟩, k6⟩, k7⟩ := hok'
  have hf := h.freeze fz
  have hinjO : ∀ id id' o o', look mc.objs id = some o → look mc.objs id' = some o' → ren ρ id = ren ρ id' → id = id' := by
    intro id id' o o' h1 h2 he
    have hs1 := (mOk1_get k1 id o h1).2
    have hs2 := (mOk1_get k1 id' o' h2).2
    cases hy1 : look mc.objs' id with
    | none => rw [hy1] at hs1; cases o <;> simp [sameKind] at hs1
    | some y1 =>
      cases hy2 : look mc.objs' id' with
      | none => rw [hy2] at hs2; cases o' <;> simp [sameKind] at hs2
      | some y2 =>
        have e1 := back_ren k2 id y1 hy1
        have e2 := back_ren k2 id' y2 hy2
        rw [he, e2] at e1
        simpa using e1.symm
  refine callDoes_wp hfn hname hrun (hcalls w (Plus S β σ.objs fz) (fun i => μ (ren ρ i)) (fun i => β (ren ρ i)) _ hf.stab hf.glob (mArgs_sound h hl hma (fun _ x => x) hvals) ?_ ?_ ?_) ?_
  · intro id o hlo
    have hob := h.objs _ _ (hl id o hlo)
    cases o with
    | iter s p => exact ObRel.move (o := .iter s p) (Keeps.refl _ _) (fun _ _ x => Or.inl x) (fun _ _ => rfl) hob
    | tab v1 s1 r1 l1 =>
      rcases hob with ⟨q1, q2, q3⟩ | ⟨b, cap, vs, e, fr, q1, q2, q3, q4, q5, q6, q7, q8, q9⟩
      · refine .inl ⟨q1, ?_, q3⟩
        cases l1 with
        | nil => rfl
        | cons p r => cases q2
      exact .inr ⟨b, cap, vs, e, fr, q1, q2, q3, q4, q5, q6, q7, RepOnes.mono (Keeps.refl _ _) (fun _ _ x => .inl x) _ _ q8, LnRel.unren hl (fun _ _ _ => rfl) (LnRel.mono (Keeps.refl _ _) (fun _ _ x => .inl x) q9)⟩
    | arr v s r => exact ObRel.arr_any (ObRel.move (o := .arr v s r) (Keeps.refl _ _) (fun _ _ x => Or.inl x) (fun _ _ => rfl) hob)
    | box cells =>
      obtain ⟨b, vs, e, fr, q1, q2, q3, q4, q5⟩ := hob
      exact ⟨b, vs, e, fr, q1, q2, q3, q4, SVOnes.unren hl (fun _ _ _ => rfl) _ _ (SVOnes.mono (Keeps.refl _ _) (fun _ _ x => .inl x) _ _ q5)⟩
  · intro id id' o o' b h1 h2 h3 h4
    exact hinjO id id' o o' h1 h2 (h.inj _ _ _ _ b (hl _ _ h1) (hl _ _ h2) h3 h4)
  · intro id o b off h1 h2 hS
    have hro := (mOk1_get k1 id o h1).1
    rcases hS with hS | ⟨i, x, e1, e2, e3, e4⟩
    · obtain ⟨u1, u2⟩ := h.unst _ _ b off (hl _ _ h1) h2 hS
      refine ⟨hro u1, fun ver s rows e => ?_⟩
      subst e
      exact u2 ver s rows rfl
    · exfalso
      have hid := h.inj _ _ _ _ b (hl _ _ h1) e2 h2 e3
      rw [← hid] at e1
      exact mFz_get hfz id o h1 e1
  · rintro e w' ⟨v, S', μ', β', rfl, r1, r2, r3, r4, r5, r6, r7, r8, r9, r10, r11⟩
    exact ⟨v, rfl, hn v w' (mcall_after h hd hok hobjs r1 r2 r3 r4 r5 r6 r7 r8 r9 r10 r11)⟩
end
end Go.Vs
