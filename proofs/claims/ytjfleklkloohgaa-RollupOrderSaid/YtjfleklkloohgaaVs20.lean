/- Value semantics, part 20: pieces of code, loops, jumps, and whole functions. No conditions. -/
import Derived.Test.YtjfleklkloohgaaVs19
set_option linter.unusedVariables false
set_option linter.unusedSimpArgs false
namespace Go.Vs

theorem lift_other {w0 : World} {S0 : Stab} {M : Ctx} {N : Nat} {Q Q' : Exit → St → Prop} {e : Exit} {a : Act} {w : World} (h : ∀ σ, Q e σ → Q' e σ) (hl : lift w0 S0 M N Q e a w) : lift w0 S0 M N Q' e a w := by
  cases e <;> first | exact hl | (obtain ⟨σ, h1, h2⟩ := hl; exact ⟨σ, h _ h1, h2⟩)

/-- THE EVALUATOR IS RIGHT. -/
theorem pw_sound {P : Program} (hm : P.follows .mixedOrders = true) : ∀ (v : VCode) {Q : Exit → St → Prop} {σ : St}, pw P v Q σ → TV P v Q σ := by
  intro v
  induction v with
  | skip =>
    intro Q σ h c hc _ w0 S0 M a w hs
    have e : c = Code.skip := comp_cases hc; subst e
    exact wp_skip ⟨σ, h, rfl, hs⟩
  | region ops mode dead =>
    intro Q σ h c hc hb
    exact region_sound hm hc hb h
  | seq x y ihx ihy =>
    intro Q σ h c hc hb w0 S0 M a w hs
    obtain ⟨p, q, rfl, h1, h2⟩ := comp_cases hc
    simp only [VCode.bnd, Bool.and_eq_true] at hb
    refine wp_seq (wp_mono (ihx h p h1 hb.1 w0 S0 M a w hs) (fun e a' w' hl => ?_))
    cases e
    case normal =>
      obtain ⟨σ', k1, k2, k3⟩ := hl
      have := ihy k1 q h2 (by rw [k2]; exact hb.2) w0 S0 M a' w' k3
      rw [k2] at this
      exact this
    all_goals exact hl
  | cond o x y ihx ihy =>
    intro Q σ h c hc hb w0 S0 M a w hs
    obtain ⟨p, q, r, rfl, h0, h1, h2⟩ := comp_cases hc
    simp only [VCode.bnd, Bool.and_eq_true] at hb
    simp only [pw] at h
    split at h
    · next t ht =>
      obtain ⟨S, μ, β, hg⟩ := id hs
      have hrel := opd_sound hg h0
      rw [ht] at hrel
      exact wp_cond_split hrel (fun e => ihx (h.1 e) q h1 hb.1 w0 S0 M a w hs) (fun e => ihy (h.2 e) r h2 hb.2 w0 S0 M a w hs)
    · next ht =>
      obtain ⟨S, μ, β, hg⟩ := id hs
      have hrel := opd_sound hg h0
      rw [ht] at hrel
      obtain ⟨t, hrel⟩ := hrel
      exact wp_cond_split hrel (fun _ => ihx h.1 q h1 hb.1 w0 S0 M a w hs) (fun _ => ihy h.2 r h2 hb.2 w0 S0 M a w hs)
    · exact h.elim
  | block id x ih =>
    intro Q σ h c hc hb w0 S0 M a w hs
    obtain ⟨p, rfl, h1⟩ := comp_cases hc
    refine wp_block (wp_mono (ih h p h1 hb w0 S0 M a w hs) (fun e a' w' hl => ?_))
    cases e
    case exit i =>
      obtain ⟨σ', k1, k2, k3⟩ := hl
      dsimp only at k1
      simp only [Exit.inBlock]
      split
      · next hi => rw [if_pos hi] at k1; exact ⟨σ', k1, k2, k3⟩
      · next hi => rw [if_neg hi] at k1; exact ⟨σ', k1, k2, k3⟩
    all_goals exact hl
  | loop x _ => exact fun h => h
  | exit id =>
    intro Q σ h c hc _ w0 S0 M a w hs
    have e : c = Code.exit id := comp_cases hc; subst e
    exact wp_exit ⟨σ, h, rfl, hs⟩
  | scope x _ => exact fun h => h
  | label l =>
    intro Q σ h c hc _ w0 S0 M a w hs
    have e : c = Code.label l := comp_cases hc; subst e
    exact wp_label ⟨σ, h, rfl, hs⟩
  | goto l =>
    intro Q σ h c hc _ w0 S0 M a w hs
    have e : c = Code.goto l := comp_cases hc; subst e
    exact wp_goto ⟨σ, h, rfl, hs⟩
  | ret =>
    intro Q σ h c hc _ w0 S0 M a w hs
    have e : c = Code.ret := comp_cases hc; subst e
    exact wp_ret ⟨σ, h, rfl, hs⟩

section
variable {P : Program}

/-- A LOOP: states by an index, at each head one of them, lower each time. -/
theorem tv_loop (hm : P.follows .mixedOrders = true) {ι : Type} (I : ι → St) (A : ι → Prop) (m : ι → Nat) {b : VCode} {Q : Exit → St → Prop} {σ : St} (i0 : ι) (hA : A i0) (h0 : Weak σ (I i0)) (hn : ∀ i, (I i).n = σ.n)
    (round : ∀ i, A i → pw P b (fun e σ' => match e with
      | .normal => ∃ j, A j ∧ m j < m i ∧ Weak σ' (I j)
      | e => Q e σ') (I i)) : TV P (.loop b) Q σ := by
  intro c hc hb w0 S0 M a w hs
  obtain ⟨p, rfl, h1⟩ := comp_cases hc
  -- the index is carried beside
  have key : ∀ n i, m i = n → A i → ∀ a w, Sim w0 S0 M (I i) a w → (Code.loop p).wp P (lift w0 S0 M σ.n Q) a w := by
    intro n i hmi hAi a w hsi
    refine wp_loop (fun a w => ∃ i, A i ∧ Sim w0 S0 M (I i) a w) (fun a w => Classical.epsilon fun k => ∃ i, A i ∧ Sim w0 S0 M (I i) a w ∧ m i = k ∧ ∀ j, A j → Sim w0 S0 M (I j) a w → k ≤ m j) ⟨i, hAi, hsi⟩ ?_
    have least : ∀ (a : Act) (w : World), (∃ i, A i ∧ Sim w0 S0 M (I i) a w) → ∃ k, ∃ i, A i ∧ Sim w0 S0 M (I i) a w ∧ m i = k ∧ ∀ j, A j → Sim w0 S0 M (I j) a w → k ≤ m j := by
      intro a w ⟨i, hi1, hi2⟩
      have : ∀ n i, m i ≤ n → A i → Sim w0 S0 M (I i) a w → ∃ k, ∃ i, A i ∧ Sim w0 S0 M (I i) a w ∧ m i = k ∧ ∀ j, A j → Sim w0 S0 M (I j) a w → k ≤ m j := by
        intro n
        induction n with
        | zero => intro i hle h1 h2; exact ⟨m i, i, h1, h2, rfl, fun j _ _ => by omega⟩
        | succ n ih =>
          intro i hle h1 h2
          by_cases hex : ∃ j, A j ∧ Sim w0 S0 M (I j) a w ∧ m j < m i
          · obtain ⟨j, j1, j2, j3⟩ := hex
            exact ih j (by omega) j1 j2
          · exact ⟨m i, i, h1, h2, rfl, fun j j1 j2 => by
              rcases Nat.lt_or_ge (m j) (m i) with h | h
              · exact absurd ⟨j, j1, j2, h⟩ hex
              · exact h⟩
      exact this (m i) i (Nat.le_refl _) hi1 hi2
    intro a w hI
    have hle := least a w hI
    obtain ⟨i, hi1, hi2, hi3, hi4⟩ := Classical.epsilon_spec hle
    have hr := pw_sound hm b (round i hi1) p h1 (by rw [hn]; exact hb) w0 S0 M a w hi2
    refine wp_mono hr (fun e a' w' hl => ?_)
    cases e
    case normal =>
      obtain ⟨σ', ⟨j, j1, j2, j3⟩, _, k3⟩ := hl
      have hsj := j3 w0 S0 M a' w' k3
      have hle' := least a' w' ⟨j, j1, hsj⟩
      obtain ⟨_, _, _, _, hmin⟩ := Classical.epsilon_spec hle'
      refine ⟨⟨j, j1, hsj⟩, ?_⟩
      have := hmin j j1 hsj
      omega
    all_goals
      first
        | exact hl
        | (obtain ⟨σ', k1, k2, k3⟩ := hl; exact ⟨σ', k1, by rw [k2, hn], k3⟩)
  exact key _ i0 rfl hA a w (h0 w0 S0 M a w hs)

def vfind : VCode → Nat → Option VCode
  | .seq a b, l => match vfind a l with
    | some r => some (.seq r b)
    | none => vfind b l
  | .label l', l => if l' == l then some .skip else none
  | _, _ => none
theorem vfind_sound : ∀ (v : VCode) {c : Code} {l : Nat} {r : VCode}, comp P c = some v.strip → vfind v l = some r → ∃ q, findLabel c l = some q ∧ comp P q = some r.strip ∧ ∀ n, v.bnd n = true → r.bnd n = true := by
  intro v
  induction v with
  | seq a b iha ihb =>
    intro c l r hc hf
    obtain ⟨p, q, rfl, h1, h2⟩ := comp_cases hc
    simp only [vfind] at hf
    split at hf
    · next r' hr' =>
      obtain rfl := Option.some.inj hf
      obtain ⟨q', k1, k2, k3⟩ := iha h1 hr'
      refine ⟨.seq q' q, by simp [findLabel, k1], by simp [comp, k2, h2, VCode.strip], fun n hn => ?_⟩
      simp only [VCode.bnd, Bool.and_eq_true] at hn ⊢
      exact ⟨k3 n hn.1, hn.2⟩
    · next hr' =>
      obtain ⟨q', k1, k2, k3⟩ := ihb h2 hf
      refine ⟨q', ?_, k2, fun n hn => ?_⟩
      · have : findLabel p l = none := by
          have none_of : ∀ (v : VCode) {c : Code}, comp P c = some v.strip → vfind v l = none → findLabel c l = none := by
            intro v
            induction v with
            | seq a b iha ihb =>
              intro c hc hf
              obtain ⟨p, q, rfl, h1, h2⟩ := comp_cases hc
              simp only [vfind] at hf
              split at hf
              · simp at hf
              · next hr => simp [findLabel, iha h1 hr, ihb h2 hf]
            | label l' =>
              intro c hc hf
              have e : c = Code.label l' := comp_cases hc; subst e
              simp only [vfind] at hf
              simp only [findLabel]
              split at hf
              · simp at hf
              · next h => rw [if_neg h]
            | region ops mode dead =>
              intro c hc _
              obtain ⟨id, os, draw, rfl, _⟩ := comp_strip_region hc
              rfl
            | skip => intro c hc _; have e : c = Code.skip := comp_cases hc; subst e; rfl
            | cond o a b => intro c hc _; obtain ⟨_, _, _, rfl, _⟩ := comp_cases hc; rfl
            | block id a => intro c hc _; obtain ⟨_, rfl, _⟩ := comp_cases hc; rfl
            | loop a => intro c hc _; obtain ⟨_, rfl, _⟩ := comp_cases hc; rfl
            | scope a => intro c hc _; obtain ⟨_, rfl, _⟩ := comp_cases hc; rfl
            | exit id => intro c hc _; have e : c = Code.exit id := comp_cases hc; subst e; rfl
            | goto l => intro c hc _; have e : c = Code.goto l := comp_cases hc; subst e; rfl
            | ret => intro c hc _; have e : c = Code.ret := comp_cases hc; subst e; rfl
          exact none_of a h1 hr'
        simp [findLabel, this, k1]
      · simp only [VCode.bnd, Bool.and_eq_true] at hn
        exact k3 n hn.2
  | label l' =>
    intro c l r hc hf
    have e : c = Code.label l' := comp_cases hc; subst e
    simp only [vfind] at hf
    split at hf
    · next h =>
      obtain rfl := Option.some.inj hf
      exact ⟨.skip, by simp only [findLabel]; rw [if_pos h], rfl, fun _ _ => rfl⟩
    · simp at hf
  | _ => intro c l r _ hf; simp [vfind] at hf

/-- JUMPS BACK to one label. -/
theorem tv_scope (hm : P.follows .mixedOrders = true) {ι : Type} (l : Nat) (I : ι → St) (A : ι → Prop) (m : ι → Nat) {b r : VCode} {Q : Exit → St → Prop} {σ : St} (hf : vfind b l = some r) (hn : ∀ i, (I i).n = σ.n)
    (first : pw P b (fun e σ' => match e with
      | .goto l' => l' = l ∧ ∃ j, A j ∧ Weak σ' (I j)
      | e => Q e σ') σ)
    (round : ∀ i, A i → pw P r (fun e σ' => match e with
      | .goto l' => l' = l ∧ ∃ j, A j ∧ m j < m i ∧ Weak σ' (I j)
      | e => Q e σ') (I i)) : TV P (.scope b) Q σ := by
  intro c hc hb w0 S0 M a w hs
  obtain ⟨p, rfl, h1⟩ := comp_cases hc
  obtain ⟨q, k1, k2, k3⟩ := vfind_sound b h1 hf
  have least : ∀ (a : Act) (w : World), (∃ i, A i ∧ Sim w0 S0 M (I i) a w) → ∃ k, ∃ i, A i ∧ Sim w0 S0 M (I i) a w ∧ m i = k ∧ ∀ j, A j → Sim w0 S0 M (I j) a w → k ≤ m j := by
    intro a w ⟨i, hi1, hi2⟩
    have : ∀ n i, m i ≤ n → A i → Sim w0 S0 M (I i) a w → ∃ k, ∃ i, A i ∧ Sim w0 S0 M (I i) a w ∧ m i = k ∧ ∀ j, A j → Sim w0 S0 M (I j) a w → k ≤ m j := by
      intro n
      induction n with
      | zero => intro i hle h1 h2; exact ⟨m i, i, h1, h2, rfl, fun j _ _ => by omega⟩
      | succ n ih =>
        intro i hle h1 h2
        by_cases hex : ∃ j, A j ∧ Sim w0 S0 M (I j) a w ∧ m j < m i
        · obtain ⟨j, j1, j2, j3⟩ := hex
          exact ih j (by omega) j1 j2
        · exact ⟨m i, i, h1, h2, rfl, fun j j1 j2 => by
            rcases Nat.lt_or_ge (m j) (m i) with h | h
            · exact absurd ⟨j, j1, j2, h⟩ hex
            · exact h⟩
    exact this (m i) i (Nat.le_refl _) hi1 hi2
  refine wp_scope_jumps l (fun a w => ∃ i, A i ∧ Sim w0 S0 M (I i) a w) (fun a w => Classical.epsilon fun k => ∃ i, A i ∧ Sim w0 S0 M (I i) a w ∧ m i = k ∧ ∀ j, A j → Sim w0 S0 M (I j) a w → k ≤ m j) k1 ?_ ?_
  · refine wp_mono (pw_sound hm b first p h1 hb w0 S0 M a w hs) (fun e a' w' hl => ?_)
    cases e
    case goto l' =>
      obtain ⟨σ', ⟨j1, j, j2, j3⟩, _, j4⟩ := hl
      exact ⟨j1, j, j2, j3 w0 S0 M a' w' j4⟩
    all_goals exact hl
  · intro a w hI
    have hle := least a w hI
    obtain ⟨i, hi1, hi2, hi3, hi4⟩ := Classical.epsilon_spec hle
    refine wp_mono (pw_sound hm r (round i hi1) q k2 (by rw [hn]; exact k3 _ hb) w0 S0 M a w hi2) (fun e a' w' hl => ?_)
    cases e
    case goto l' =>
      obtain ⟨σ', ⟨j1, j, j2, j3, j4⟩, _, j5⟩ := hl
      have hsj := j4 w0 S0 M a' w' j5
      obtain ⟨_, _, _, _, hmin⟩ := Classical.epsilon_spec (least a' w' ⟨j, j2, hsj⟩)
      refine ⟨j1, ⟨j, j2, hsj⟩, ?_⟩
      have := hmin j j2 hsj
      omega
    all_goals
      first
        | exact hl
        | (obtain ⟨σ', k1, k2, k3⟩ := hl; exact ⟨σ', k1, by rw [k2, hn], k3⟩)

/- WHAT MAY BE FORGOTTEN AT A LOOP's HEAD -/
def EnvLe (env : List (Nat × SV)) : List (Nat × SV) → Prop
  | [] => True
  | (k, v) :: r => getE env k = v ∧ EnvLe env r
def ObLe (objs : List (Nat × Ob)) : List (Nat × Ob) → Prop
  | [] => True
  | (k, o) :: r => look objs k = some o ∧ ObLe objs r
def RoLe (ro : List Nat) : List Nat → Bool
  | [] => true
  | i :: r => ro.contains i && RoLe ro r
theorem envLe_get {env : List (Nat × SV)} : ∀ {l : List (Nat × SV)}, EnvLe env l → ∀ k, getE l k = .undef ∨ getE l k = getE env k
  | [], _, _ => .inl rfl
  | (j, v) :: r, h, k => by
    simp only [getE, look]
    cases hj : j == k with
    | true => rw [beq_iff_eq] at hj; subst hj; exact .inr h.1.symm
    | false => exact envLe_get h.2 k
theorem obLe_look {objs : List (Nat × Ob)} : ∀ {l : List (Nat × Ob)}, ObLe objs l → ∀ k o, look l k = some o → look objs k = some o
  | [], _, _, _, h => by simp [look] at h
  | (j, v) :: r, h, k, o, hk => by
    simp only [look] at hk
    cases hj : j == k with
    | true => rw [hj] at hk; rw [beq_iff_eq] at hj; subst hj; simp at hk; subst hk; exact h.1
    | false => rw [hj] at hk; exact obLe_look h.2 k o hk
/-- Which of the objects that stay are frozen. -/
def roOk (ro ro' : List Nat) : List (Nat × Ob) → Bool
  | [] => true
  | (k, _) :: r => (!ro.contains k || ro'.contains k) && roOk ro ro' r
theorem roOk_spec {ro ro' : List Nat} : ∀ {l : List (Nat × Ob)}, roOk ro ro' l = true → ∀ i o, look l i = some o → i ∈ ro → i ∈ ro'
  | [], _, _, _, h, _ => by simp [look] at h
  | (j, v) :: r, h, i, o, hl, hi => by
    simp only [roOk, Bool.and_eq_true] at h
    simp only [look] at hl
    cases hj : j == i with
    | true =>
      rw [beq_iff_eq] at hj
      subst hj
      have := h.1
      simp only [Bool.or_eq_true, Bool.not_eq_true'] at this
      rcases this with h1 | h1
      · have : ro.contains j = true := by simpa using hi
        rw [this] at h1; simp at h1
      · simpa using h1
    | false => rw [hj] at hl; exact roOk_spec h.2 i o hl hi

theorem weak_drop {σ σ' : St} (hn : σ'.n = σ.n) (hgl : σ'.gl = σ.gl) (he : EnvLe σ.env σ'.env) (ho : ObLe σ.objs σ'.objs) (hr : roOk σ.ro σ'.ro σ'.objs = true) : Weak σ σ' := by
  rintro w0 S0 M a w ⟨S, μ, β, h⟩
  exact ⟨S, μ, β, h.drop hn hgl (roOk_spec hr) (envLe_get he) (obLe_look ho)⟩

/-- A nil slice is an array of its own, with nothing in it. -/
def St.adopt (σ : St) (k id s : Nat) : St := { σ with env := put (eraseE id σ.env) k (.own id 0), objs := eraseO id (put σ.objs id (.arr 0 s [])) }
theorem weak_adopt {σ : St} {k : Nat} (id s : Nat) (hid : id < σ.n) (hk : getE σ.env k = .nils) : Weak σ (σ.adopt k id s) := by
  rintro w0 S0 M a w ⟨S, μ, β, h⟩
  have hrel := h.env k
  rw [hk] at hrel
  obtain ⟨x, hx⟩ := hrel
  have h1 := h.create id hid (.arr 0 s []) none (.slice x 0 0) (Kept.refl _ _) (by simp) (.inl ⟨rfl, rfl, x, rfl⟩)
  have hkn : k < σ.n := by
    rcases Nat.lt_or_ge k σ.n with hh | hh
    · exact hh
    · rw [← h.size] at hh
      rw [Array.getD, dif_neg (by omega)] at hx
      simp [Go.undef] at hx
  have h2 := h1.put (sv := .own id 0) (v := .slice x 0 0) hkn (by
    intro cv s' rows hl
    rw [look_eraseO, look_put_self] at hl
    simp only [Option.map_some, Ob.erase, Option.some.injEq, Ob.arr.injEq] at hl
    obtain ⟨rfl, _, _⟩ := hl
    exact ⟨Nat.le_refl _, fun _ => by simp⟩)
  have ha : a.put (some k) (.slice x 0 0) = a := by
    have hlt : k < a.tmps.size := by rw [h.size]; exact hkn
    have : a.tmps.setIfInBounds k (.slice x 0 0) = a.tmps := by
      apply Array.ext
      · simp
      · intro i h3 h4
        rw [Array.getElem_setIfInBounds]
        split
        · next e => subst e; rw [← hx]; simp [h4]
        · rfl
    simp only [Act.put, this]
  rw [ha] at h2
  exact ⟨S, _, _, h2⟩
/-- An array of the call's own, from now on never written. -/
theorem weak_freeze {σ : St} {k id ver s : Nat} {rows : List (List IV)} (hk : getE σ.env k = .own id ver) (hl : look σ.objs id = some (.arr ver s rows)) :
    Weak σ { σ with env := put σ.env k (.val (.slice rows)), ro := id :: σ.ro } := by
  rintro w0 S0 M a w ⟨S, μ, β, h⟩
  have hrel := h.env k
  rw [hk] at hrel
  have hv := (hrel _ _ _ hl).2 rfl
  have h2 := h.freeze [id]
  have hr := arr_rep h hl (fz := [id]) (by simp)
  rw [← hv] at hr
  refine ⟨_, μ, β, { h2 with env := fun k' => ?_ }⟩
  show SVRel w _ μ σ.objs (getE (Vs.put σ.env k (.val (.slice rows))) k') _
  rw [getE_put]
  split
  · next e => subst e; exact hr
  · exact h2.env k'


end
end Go.Vs
