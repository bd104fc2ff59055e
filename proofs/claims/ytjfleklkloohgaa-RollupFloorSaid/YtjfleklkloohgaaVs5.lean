/- Value semantics, part 5: operands, constants, cells, and the immutable value of a slot, hold what the evaluator says. No conditions. -/
import Derived.Test.YtjfleklkloohgaaVs4
set_option linter.unusedVariables false
set_option linter.unusedSimpArgs false
namespace Go.Vs

section
variable {w0 w : World} {S0 S : Stab} {M : Ctx} {σ : St} {a : Act} {μ : Nat → Value} {β : Nat → Option Nat}

theorem constSV1_sound {objs : List (Nat × Ob)} {v : Value} {x : SV} (h : constSV1 v = some x) : SVRel w S μ objs x v := by
  unfold constSV1 at h
  split at h <;> (try (simp at h; done)) <;> (obtain rfl := Option.some.inj h)
  all_goals (first | rfl | exact ⟨none, rfl⟩ | skip)
theorem constSVs_sound {objs : List (Nat × Ob)} : ∀ {vs : List Value} {xs : List SV}, constSVs vs = some xs → SVOnes w S μ objs xs vs
  | [], xs, h => by
    simp only [constSVs, Option.some.injEq] at h
    subst h; rfl
  | v :: r, xs, h => by
    simp only [constSVs] at h
    split at h
    · next x ys h1 h2 =>
      obtain rfl := Option.some.inj h
      refine ⟨v, r, rfl, ?_, constSV1_sound h1, constSVs_sound h2⟩
      unfold constSV1 at h1
      split at h1 <;> first | (simp at h1; done) | rfl
    · simp at h
theorem mkAgg_sound {objs : List (Nat × Ob)} {cells : List SV} {vs : List Value} (h : SVOnes w S μ objs cells vs) :
    SVRel w S μ objs (mkAgg cells) (.agg vs.toArray) := by
  unfold mkAgg
  split
  · next ys hy =>
    have := allVal_spec hy
    subst this
    exact ⟨vs.toArray, rfl, by simpa using SVOnes.toRep h⟩
  · exact ⟨vs.toArray, rfl, by simpa using h⟩
theorem constSV_sound {objs : List (Nat × Ob)} {v : Value} {x : SV} (h : constSV v = some x) : SVRel w S μ objs x v := by
  unfold constSV at h
  split at h
  · next cs =>
    split at h
    · next xs hx =>
      obtain rfl := Option.some.inj h
      exact ⟨cs, rfl, constSVs_sound hx⟩
    · simp at h
  · exact constSV1_sound h

theorem look_mem {α : Type} : ∀ {l : List (Nat × α)} {k : Nat} {v : α}, look l k = some v → (k, v) ∈ l
  | [], _, _, h => by simp [look] at h
  | (j, u) :: r, k, v, h => by
    simp only [look] at h
    cases hj : j == k with
    | true =>
      rw [hj] at h
      rw [beq_iff_eq] at hj
      subst hj
      simp only [cond_true, Option.some.injEq] at h
      subst h
      exact List.mem_cons_self
    | false =>
      rw [hj] at h
      exact List.mem_cons_of_mem _ (look_mem h)
theorem opd_sound (h : SimG w0 S0 M σ a w S μ β) {x : Operand} {y : Opd} (hc : compOpd x = some y) : SVRel w S μ σ.objs (val σ y) (a.eval x) := by
  cases x with
  | tmp t => simp only [compOpd, Option.some.injEq] at hc; subst hc; exact h.env t
  | const v =>
    simp only [compOpd, Option.map_eq_some_iff] at hc
    obtain ⟨s, h1, rfl⟩ := hc
    exact constSV_sound h1
  | global g =>
    simp only [compOpd, Option.some.injEq] at hc
    subst hc
    simp only [val]
    split
    · next cells hl => exact ⟨g, 0, rfl, h.glob (g, cells) (look_mem hl)⟩
    · trivial
  | func f => simp only [compOpd, Option.some.injEq] at hc; subst hc; exact ⟨#[], rfl, rfl⟩
theorem opds_sound (h : SimG w0 S0 M σ a w S μ β) : ∀ {x : List Operand} {y : List Opd}, compOpds x = some y → SVList w S μ σ.objs (y.map (val σ)) (x.map a.eval)
  | [], y, hc => by
    simp only [compOpds, Option.some.injEq] at hc
    subst hc; rfl
  | x :: r, y, hc => by
    simp only [compOpds] at hc
    split at hc
    · next u us h1 h2 =>
      obtain rfl := Option.some.inj hc
      exact ⟨_, _, rfl, opd_sound h h1, opds_sound h h2⟩
    · simp at hc

theorem okCell_sound (h : SimG w0 S0 M σ a w S μ β) {x : SV} {v : Value} (ho : okCell σ.objs x = true) (hr : SVRel w S μ σ.objs x v) : v.oneCell' = true := by
  cases x with
  | undef => simp [okCell] at ho
  | val x => exact IV.one_oneCell ho hr
  | nils => obtain ⟨a, rfl⟩ := hr; rfl
  | full rows => obtain ⟨_, a, rfl⟩ := hr; rfl
  | own id ver =>
    simp only [okCell] at ho
    split at ho
    · next cv s rows hl =>
      have hver : ver = cv := by simpa using ho
      obtain rfl := (hr _ _ _ hl).2 hver
      rcases h.objs id _ hl with ⟨_, _, a, h1⟩ | ⟨_, _, _, _, _, _, h1, _⟩ <;> (rw [h1]; rfl)
    · simp at ho
  | loc id off =>
    simp only [okCell] at ho
    split at ho
    · next cells hl =>
      obtain ⟨b, _, rfl⟩ := hr _ hl
      rfl
    · simp at ho
  | eloc => simp [okCell] at ho
  | view id ver lo hi =>
    simp only [okCell] at ho
    split at ho
    · next cv s rows hl =>
      have hver : ver = cv := by simpa using ho
      obtain ⟨_, _, a, cap, a', _, h2, _⟩ := (hr _ _ _ hl).2 hver
      rw [h2]; rfl
    · simp at ho
  | agg => simp [okCell] at ho
  | clo f caps => obtain ⟨vs, rfl, _⟩ := hr; rfl
  | ifc t x => obtain ⟨u, rfl, _⟩ := hr; rfl
  | anyB => simp [okCell] at ho

theorem cellsOf_sound (h : SimG w0 S0 M σ a w S μ β) {x : SV} {v : Value} {cs : List SV} (hr : SVRel w S μ σ.objs x v) (hc : cellsOf σ.objs x = some cs) :
    SVOnes w S μ σ.objs cs v.cells.toList := by
  unfold cellsOf at hc
  split at hc
  · next xs =>
    obtain rfl := Option.some.inj hc
    obtain ⟨vs, rfl, h2⟩ := hr
    exact SVOnes.ofRep h2
  · next cells =>
    obtain rfl := Option.some.inj hc
    obtain ⟨vs, rfl, h2⟩ := hr
    exact h2
  · split at hc
    · next ho =>
      obtain rfl := Option.some.inj hc
      have h1 := okCell_sound h ho hr
      have : v.cells = #[v] := by cases v <;> first | rfl | simp [Value.oneCell'] at h1
      rw [this]
      exact ⟨v, [], rfl, h1, hr, rfl⟩
    · simp at hc

/-- The stable cells, and those of what is frozen. -/
def Plus (S : Stab) (β : Nat → Option Nat) (objs : List (Nat × Ob)) (fz : List Nat) : Stab := fun b off => S b off ∨ frzCells β objs fz b off

theorem frzCells_mono {objs : List (Nat × Ob)} {fz fz' : List Nat} (hs : ∀ i, i ∈ fz → i ∈ fz') {b off : Nat} (h : frzCells β objs fz b off) : frzCells β objs fz' b off :=
  let ⟨id, o, h1, h2⟩ := h; ⟨id, o, hs _ h1, h2⟩

theorem arr_rep (h : SimG w0 S0 M σ a w S μ β) {id cv s : Nat} {rows : List (List IV)} (hl : look σ.objs id = some (.arr cv s rows)) {fz : List Nat} (hf : id ∈ fz) :
    Rep w (Plus S β σ.objs fz) (.slice rows) (μ id) := by
  rcases h.objs id _ hl with ⟨rfl, _, x, hx⟩ | ⟨b, cap, vs, e, fr, hb, hm, hh, _, hsz, hle, hlen, hrep⟩
  · exact ⟨x, 0, by simpa using hx, Nat.le_refl _, fun hn => absurd rfl hn⟩
  · refine ⟨_, cap, hm, hle, fun _ => ⟨b, 0, s, rfl, RepRows.ofFlat hlen ?_⟩⟩
    have hfl := flatten_length hlen
    refine RepCells.intro (RepOnes.mono (Keeps.refl _ _) (fun _ _ x => .inl x) _ _ hrep) (fun j hj => .inr ⟨id, _, hf, hl, hb, ?_⟩) (fun j v hj => ?_)
    · intro ver s' rows' e
      simp only [Ob.arr.injEq] at e
      obtain ⟨_, rfl, rfl⟩ := e
      omega
    · rw [cell_row hh]
      have hj' := List.getElem?_take (l := vs.toList) (i := rows.length * s) (j := j)
      rw [hj] at hj'
      split at hj'
      · rw [Array.getElem?_toList] at hj'; simpa using hj'.symm
      · simp at hj'

theorem view_rep (h : SimG w0 S0 M σ a w S μ β) {id cv s lo hi : Nat} {rows : List (List IV)} (hl : look σ.objs id = some (.arr cv s rows)) {fz : List Nat} (hf : id ∈ fz) {v : Value} (hr : SVRel w S μ σ.objs (.view id cv lo hi) v) :
    Rep w (Plus S β σ.objs fz) (.slice ((rows.take hi).drop lo)) v := by
  obtain ⟨g1, g2, x, cap, y, g3, rfl, g5, g6⟩ := (hr _ _ _ hl).2 rfl
  obtain ⟨x', cap', e1, e2, e3⟩ := arr_rep h hl hf
  rw [g3] at e1
  simp only [Value.slice.injEq] at e1
  obtain ⟨rfl, _, rfl⟩ := e1
  have hlen : ((rows.take hi).drop lo).length = hi - lo := by rw [List.length_drop, List.length_take]; omega
  refine ⟨y, cap - lo, by rw [hlen], by rw [hlen]; omega, fun hne => ?_⟩
  have hlt : lo < hi := by
    rcases Nat.lt_or_ge lo hi with hh | hh
    · exact hh
    · exfalso
      exact hne (List.length_eq_zero_iff.1 (by rw [hlen]; omega))
  have hrne : rows ≠ [] := by intro e; subst e; simp at g2; omega
  obtain ⟨b, off, s', q1, q2⟩ := e3 hrne
  obtain ⟨b', k1, k2⟩ := g6 (by omega)
  rw [k1] at q1
  simp only [Option.some.injEq, Addr.mk.injEq, and_true] at q1
  obtain ⟨rfl, rfl⟩ := q1
  have hss : s' = s := by
    obtain ⟨row, hrow⟩ := List.exists_mem_of_ne_nil rows hrne
    have l1 := RepRows.lens q2 row hrow
    rcases h.objs id _ hl with ⟨z, _⟩ | ⟨_, _, _, _, _, _, _, _, _, _, _, l2, _⟩
    · exact absurd z hrne
    · rw [← l1, l2 row hrow]
  subst hss
  refine ⟨b', lo * s', s', k2, ?_⟩
  simpa using RepRows.drop lo (RepRows.take hi q2)

theorem toIV0_sound (h : SimG w0 S0 M σ a w S μ β) {x : SV} {v : Value} {iv : IV} {fz fz' : List Nat} (hc : toIV0 σ.objs x = some (iv, fz)) (hf : ∀ i, i ∈ fz → i ∈ fz')
    (hr : SVRel w S μ σ.objs x v) : Rep w (Plus S β σ.objs fz') iv v := by
  cases x with
  | undef => simp [toIV0] at hc
  | val x =>
    simp only [toIV0, Option.some.injEq, Prod.mk.injEq] at hc
    obtain ⟨rfl, rfl⟩ := hc
    exact Rep.mono (Keeps.refl _ _) (fun _ _ x => .inl x) _ _ hr
  | nils =>
    simp only [toIV0, Option.some.injEq, Prod.mk.injEq] at hc
    obtain ⟨rfl, rfl⟩ := hc
    obtain ⟨x, rfl⟩ := hr
    exact ⟨x, 0, rfl, Nat.le_refl _, fun hn => absurd rfl hn⟩
  | full rows =>
    simp only [toIV0, Option.some.injEq, Prod.mk.injEq] at hc
    obtain ⟨rfl, rfl⟩ := hc
    exact Rep.mono (Keeps.refl _ _) (fun _ _ x => .inl x) _ _ hr.1
  | own id ver =>
    simp only [toIV0] at hc
    split at hc
    · next cv s rows hl =>
      split at hc
      · next hv =>
        simp only [Option.some.injEq, Prod.mk.injEq] at hc
        obtain ⟨rfl, rfl⟩ := hc
        have hver : ver = cv := by simpa using hv
        obtain rfl := (hr _ _ _ hl).2 hver
        exact arr_rep h hl (hf _ (by simp))
      · simp at hc
    · simp at hc
  | view id ver lo hi =>
    simp only [toIV0] at hc
    split at hc
    · next cv s rows hl =>
      split at hc
      · next hv =>
        simp only [Option.some.injEq, Prod.mk.injEq] at hc
        obtain ⟨rfl, rfl⟩ := hc
        obtain rfl : ver = cv := by simpa using hv
        exact view_rep h hl (hf _ (by simp)) hr
      · simp at hc
    · simp at hc
  | loc => simp [toIV0] at hc
  | eloc => simp [toIV0] at hc
  | agg => simp [toIV0] at hc
  | clo => simp [toIV0] at hc
  | ifc => simp [toIV0] at hc
  | anyB => simp [toIV0] at hc

theorem toIVs0_sound (h : SimG w0 S0 M σ a w S μ β) : ∀ {xs : List SV} {vs : List Value} {ivs : List IV} {fz fz' : List Nat}, toIVs0 σ.objs xs = some (ivs, fz) → (∀ i, i ∈ fz → i ∈ fz') →
    SVOnes w S μ σ.objs xs vs → RepOnes w (Plus S β σ.objs fz') ivs vs
  | [], vs, ivs, fz, fz', hc, hf, hr => by
    simp only [toIVs0, Option.some.injEq, Prod.mk.injEq] at hc
    obtain ⟨rfl, rfl⟩ := hc
    exact hr
  | x :: xs, vs, ivs, fz, fz', hc, hf, ⟨u, us, h1, h0, h2, h3⟩ => by
    simp only [toIVs0] at hc
    split at hc
    · next y f ys fs e1 e2 =>
      simp only [Option.some.injEq, Prod.mk.injEq] at hc
      obtain ⟨rfl, rfl⟩ := hc
      subst h1
      have h4 := toIV0_sound h e1 (fun i hi => hf i (List.mem_append_left _ hi)) h2
      exact ⟨u, us, rfl, IV.oneCell_one h0 h4, h4, toIVs0_sound h e2 (fun i hi => hf i (List.mem_append_right _ hi)) h3⟩
    · simp at hc

theorem toIV1_sound (h : SimG w0 S0 M σ a w S μ β) {x : SV} {v : Value} {iv : IV} {fz fz' : List Nat} (hc : toIV1 σ.objs x = some (iv, fz)) (hf : ∀ i, i ∈ fz → i ∈ fz')
    (hr : SVRel w S μ σ.objs x v) : Rep w (Plus S β σ.objs fz') iv v := by
  unfold toIV1 at hc
  split at hc
  · next id off =>
    split at hc
    · next cells hl =>
      split at hc
      · next vs fs hv =>
        · simp only [Option.some.injEq, Prod.mk.injEq] at hc
          obtain ⟨rfl, rfl⟩ := hc
          obtain ⟨b, hm, rfl⟩ := hr _ hl
          obtain ⟨b', us, e, fr, hb, hm', hh, _, hs⟩ := h.objs id _ hl
          obtain rfl : b' = b := by rw [hm] at hm'; simpa using hm'.symm
          refine ⟨b', off, rfl, ?_⟩
          have hrep := toIVs0_sound h hv (fun i hi => hf i (List.mem_cons_of_mem _ hi)) hs
          have hcells : RepCells w (Plus S β σ.objs fz') vs b' 0 := RepCells.intro hrep (fun j hj => .inr ⟨id, _, hf _ (by simp), hl, hb, fun _ _ _ hx => by simp at hx⟩)
            (fun j u hj => by rw [cell_row hh]; rw [Array.getElem?_toList] at hj; simpa using hj)
          simpa using RepCells.drop off hcells
      · simp at hc
    · simp at hc
  · exact toIV0_sound h hc hf hr

theorem toIVs1_soundOnes (h : SimG w0 S0 M σ a w S μ β) : ∀ {xs : List SV} {vs : List Value} {ivs : List IV} {fz fz' : List Nat}, toIVs1 σ.objs xs = some (ivs, fz) → (∀ i, i ∈ fz → i ∈ fz') →
    SVOnes w S μ σ.objs xs vs → RepOnes w (Plus S β σ.objs fz') ivs vs
  | [], vs, ivs, fz, fz', hc, hf, hr => by
    simp only [toIVs1, Option.some.injEq, Prod.mk.injEq] at hc
    obtain ⟨rfl, rfl⟩ := hc
    exact hr
  | x :: xs, vs, ivs, fz, fz', hc, hf, ⟨u, us, h1, h0, h2, h3⟩ => by
    simp only [toIVs1] at hc
    split at hc
    · next y f ys fs e1 e2 =>
      simp only [Option.some.injEq, Prod.mk.injEq] at hc
      obtain ⟨rfl, rfl⟩ := hc
      subst h1
      have h4 := toIV1_sound h e1 (fun i hi => hf i (List.mem_append_left _ hi)) h2
      exact ⟨u, us, rfl, IV.oneCell_one h0 h4, h4, toIVs1_soundOnes h e2 (fun i hi => hf i (List.mem_append_right _ hi)) h3⟩
    · simp at hc
theorem toIVs1_sound (h : SimG w0 S0 M σ a w S μ β) : ∀ {xs : List SV} {vs : List Value} {ivs : List IV} {fz fz' : List Nat}, toIVs1 σ.objs xs = some (ivs, fz) → (∀ i, i ∈ fz → i ∈ fz') →
    SVList w S μ σ.objs xs vs → RepList w (Plus S β σ.objs fz') ivs vs
  | [], vs, ivs, fz, fz', hc, hf, hr => by
    simp only [toIVs1, Option.some.injEq, Prod.mk.injEq] at hc
    obtain ⟨rfl, rfl⟩ := hc
    exact hr
  | x :: xs, vs, ivs, fz, fz', hc, hf, ⟨u, us, h1, h2, h3⟩ => by
    simp only [toIVs1] at hc
    split at hc
    · next y f ys fs e1 e2 =>
      simp only [Option.some.injEq, Prod.mk.injEq] at hc
      obtain ⟨rfl, rfl⟩ := hc
      subst h1
      exact ⟨u, us, rfl, toIV1_sound h e1 (fun i hi => hf i (List.mem_append_left _ hi)) h2, toIVs1_sound h e2 (fun i hi => hf i (List.mem_append_right _ hi)) h3⟩
    · simp at hc

theorem toIV_sound (h : SimG w0 S0 M σ a w S μ β) {x : SV} {v : Value} {iv : IV} {fz fz' : List Nat} (hc : toIV σ.objs x = some (iv, fz)) (hf : ∀ i, i ∈ fz → i ∈ fz')
    (hr : SVRel w S μ σ.objs x v) : Rep w (Plus S β σ.objs fz') iv v := by
  unfold toIV at hc
  split at hc
  · next t x =>
    split at hc
    · next y f hy =>
      simp only [Option.some.injEq, Prod.mk.injEq] at hc
      obtain ⟨rfl, rfl⟩ := hc
      obtain ⟨u, rfl, h2⟩ := hr
      exact ⟨u, rfl, toIV1_sound h hy hf h2⟩
    · simp at hc
  · next cells =>
    split at hc
    · next vs fs hv =>
      simp only [Option.some.injEq, Prod.mk.injEq] at hc
      obtain ⟨rfl, rfl⟩ := hc
      obtain ⟨us, rfl, h2⟩ := hr
      exact ⟨us, rfl, toIVs1_soundOnes h hv hf h2⟩
    · simp at hc
  · next f caps =>
    split at hc
    · next vs fs hv =>
      simp only [Option.some.injEq, Prod.mk.injEq] at hc
      obtain ⟨rfl, rfl⟩ := hc
      obtain ⟨us, rfl, h2⟩ := hr
      exact ⟨us, rfl, toIVs1_sound h hv hf h2⟩
    · simp at hc
  · exact toIV1_sound h hc hf hr
theorem toIVs_sound (h : SimG w0 S0 M σ a w S μ β) : ∀ {xs : List SV} {vs : List Value} {ivs : List IV} {fz fz' : List Nat}, toIVs σ.objs xs = some (ivs, fz) → (∀ i, i ∈ fz → i ∈ fz') →
    SVList w S μ σ.objs xs vs → RepList w (Plus S β σ.objs fz') ivs vs
  | [], vs, ivs, fz, fz', hc, hf, hr => by
    simp only [toIVs, Option.some.injEq, Prod.mk.injEq] at hc
    obtain ⟨rfl, rfl⟩ := hc
    exact hr
  | x :: xs, vs, ivs, fz, fz', hc, hf, ⟨u, us, h1, h2, h3⟩ => by
    simp only [toIVs] at hc
    split at hc
    · next y f ys fs e1 e2 =>
      simp only [Option.some.injEq, Prod.mk.injEq] at hc
      obtain ⟨rfl, rfl⟩ := hc
      subst h1
      exact ⟨u, us, rfl, toIV_sound h e1 (fun i hi => hf i (List.mem_append_left _ hi)) h2, toIVs_sound h e2 (fun i hi => hf i (List.mem_append_right _ hi)) h3⟩
    · simp at hc

theorem rowsOf_sound (h : SimG w0 S0 M σ a w S μ β) {x : SV} {v : Value} {rows : List (List IV)} {fz : List Nat} (hc : rowsOf σ.objs x = some (rows, fz))
    (hr : SVRel w S μ σ.objs x v) : Rep w (Plus S β σ.objs fz) (.slice rows) v := by
  unfold rowsOf at hc
  split at hc
  · simp only [Option.some.injEq, Prod.mk.injEq] at hc
    obtain ⟨rfl, rfl⟩ := hc
    exact toIV0_sound (x := .nils) h (iv := .slice []) rfl (fun _ x => x) hr
  · next r =>
    simp only [Option.some.injEq, Prod.mk.injEq] at hc
    obtain ⟨rfl, rfl⟩ := hc
    exact toIV0_sound (x := .full r) h (iv := .slice r) rfl (fun _ x => x) hr
  · next r =>
    simp only [Option.some.injEq, Prod.mk.injEq] at hc
    obtain ⟨rfl, rfl⟩ := hc
    exact toIV0_sound (x := .val (.slice r)) h (iv := .slice r) rfl (fun _ x => x) hr
  · next id ver =>
    split at hc
    · next cv s rows' hl =>
      split at hc
      · next hv =>
        simp only [Option.some.injEq, Prod.mk.injEq] at hc
        obtain ⟨rfl, rfl⟩ := hc
        have hver : ver = cv := by simpa using hv
        obtain rfl := (hr _ _ _ hl).2 hver
        exact arr_rep h hl (by simp)
      · simp at hc
    · simp at hc
  · next id ver lo hi =>
    split at hc
    · next cv s rows' hl =>
      split at hc
      · next hv =>
        simp only [Option.some.injEq, Prod.mk.injEq] at hc
        obtain ⟨rfl, rfl⟩ := hc
        obtain rfl : ver = cv := by simpa using hv
        exact view_rep h hl (by simp) hr
      · simp at hc
    · simp at hc
  · simp at hc

end
end Go.Vs
