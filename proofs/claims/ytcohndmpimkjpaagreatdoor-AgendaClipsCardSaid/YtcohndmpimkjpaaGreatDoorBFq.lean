/- Value semantics: links of a table that are not needed any more. No conditions. -/
import Derived.Test.YtcohndmpimkjpaaGreatDoorBEq
import Derived.RangeFuncNested
import Derived.RangeFuncLeaves
import Derived.OrdersIn
import Derived.LoopNIn
import Derived.LoopN
import Derived.Scope
set_option linter.unusedVariables false
set_option linter.unusedSimpArgs false
set_option linter.unusedVariables false
set_option linter.unusedSimpArgs false
namespace Go.Vs
theorem LnRel.get {w : World} {S : Stab} {μ : Nat → Value} {objs : List (Nat × Ob)} {s n : Nat} {vs : List Value} : ∀ {l : List (Nat × Nat × SV)}, LnRel w S μ objs s n vs l → ∀ p ∈ l, p.1 < n ∧ p.2.1 < s ∧ ∃ v, vs[p.1 * s + p.2.1]? = some v ∧ SVRel w S μ objs p.2.2 v
  | [], _, p, hp => by simp at hp
  | q :: l, ⟨h1, h2⟩, p, hp => by
    rcases List.mem_cons.1 hp with rfl | hp
    · exact h1
    · exact LnRel.get h2 p hp
theorem LnRel.of {w : World} {S : Stab} {μ : Nat → Value} {objs : List (Nat × Ob)} {s n : Nat} {vs : List Value} : ∀ {l : List (Nat × Nat × SV)}, (∀ p ∈ l, p.1 < n ∧ p.2.1 < s ∧ ∃ v, vs[p.1 * s + p.2.1]? = some v ∧ SVRel w S μ objs p.2.2 v) → LnRel w S μ objs s n vs l
  | [], _ => trivial
  | q :: l, h => ⟨h q (by simp), LnRel.of fun p hp => h p (by simp [hp])⟩
/-- Links of a table that are not needed any more. -/
theorem weak_ln {σ : St} {id ver s : Nat} {rows : List (List IV)} {ln : List (Nat × Nat × SV)} (ln' : List (Nat × Nat × SV)) (hl : look σ.objs id = some (.tab ver s rows ln)) (hro : σ.ro.contains id = false) (hs : ∀ p ∈ ln', p ∈ ln) :
    Weak σ { σ with objs := put σ.objs id (.tab ver s rows ln') } := by
  rintro w0 S0 M a w ⟨S, μ, β, h⟩
  have ho := h.objs id _ hl
  have hno : id ∉ σ.ro := by simpa using hro
  rcases ho with ⟨h1, h2, h3, x, h4⟩ | ⟨b, cap, vs, e, fr, h1, h2, h3, h4, h5, h6, h7, h8, h9⟩
  · have : ln' = [] := List.eq_nil_iff_forall_not_mem.2 fun p hp => by have := hs p hp; rw [h2] at this; cases this
    subst this
    subst h2
    refine ⟨S, μ, β, ?_⟩
    have := h.drop (σ' := { σ with objs := put σ.objs id (.tab ver s rows []) }) rfl rfl (fun i o _ hi => hi) (fun k => .inr rfl) (fun k o hk => by
      simp only at hk
      rw [show look (put σ.objs id (.tab ver s rows [])) k = if k = id then some (.tab ver s rows []) else look σ.objs k from by
        by_cases e : k = id
        · subst e; rw [if_pos rfl, look_put_self]
        · rw [if_neg e, look_put_ne _ _ e]] at hk
      split at hk
      · next e => subst e; rw [hl]; exact hk
      · exact hk)
    exact this
  · have := h.write (id := id) (x' := .tab ver s rows ln') (w' := w) hl h1 (vs := vs) (e := e) (fr := fr) ⟨rfl, rfl, rfl, rfl, fun _ _ => rfl, h3, fun _ _ h => h⟩ hno (.inr (.inr ⟨ver, s, rows, rows, ln, ln', rfl, rfl, rfl⟩)) (.inr ⟨b, cap, vs, e, fr, rfl, h2, h3, h4, h5, h6, h7, h8, LnRel.of fun p hp => h9.get p (hs p hp)⟩)
    exact ⟨S, μ, β, this⟩
/-- An array in a variable, as a piece of itself. -/
theorem weak_view {σ : St} {d j id ver s : Nat} {rows : List (List IV)} {cells : List SV} (hl : look σ.objs d = some (.box cells)) (hj : cells[j]? = some (.own id ver)) (ha : look σ.objs id = some (.arr ver s rows)) (hro : σ.ro.contains d = false) :
    Weak σ { σ with objs := put σ.objs d (.box (cells.set j (.view id ver 0 rows.length))) } := by
  rintro w0 S0 M a w ⟨S, μ, β, h⟩
  have hno : d ∉ σ.ro := by simpa using hro
  obtain ⟨b, vs, e', fr, hb, hmu, hheap, hfr, hcs⟩ := h.objs d _ hl
  obtain ⟨v, hv, hv1, hrel⟩ := SVOnes.get hcs hj
  have hm := (hrel _ _ _ ha).2 rfl
  have hview : SVRel w S μ σ.objs (.view id ver 0 rows.length) v := by
    intro cv s' rows' hlk
    rw [ha] at hlk
    simp only [Option.some.injEq, Ob.arr.injEq] at hlk
    obtain ⟨rfl, rfl, rfl⟩ := hlk
    refine ⟨Nat.le_refl _, fun _ => ⟨Nat.zero_le _, Nat.le_refl _, ?_⟩⟩
    rcases h.objs id _ ha with ⟨h1, h2, x, h3⟩ | ⟨b', cap, vs', e, fr', h1, h2, h3⟩
    · subst h1
      exact ⟨x, 0, x, h3, by rw [hm, h3]; rfl, fun _ => rfl, fun hlt => absurd hlt (by simp)⟩
    · exact ⟨some ⟨b', 0, none⟩, cap, some ⟨b', 0, none⟩, h2, by rw [hm, h2]; rfl, fun _ => rfl, fun _ => ⟨b', rfl, by rw [Nat.zero_mul]⟩⟩
  have hset : vs.toList.set j v = vs.toList := by
    apply List.ext_getElem?
    intro i
    rw [List.getElem?_set]
    split
    · next e =>
      subst e
      split
      · exact hv.symm
      · next h0 => rw [List.getElem?_eq_none (by omega)]
    · rfl
  have := h.write (id := d) (x' := .box (cells.set j (.view id ver 0 rows.length))) (w' := w) hl hb (vs := vs) (e := e') (fr := fr) ⟨rfl, rfl, rfl, rfl, fun _ _ => rfl, hheap, fun _ _ h => h⟩ hno (.inl ⟨_, _, rfl, rfl⟩) ⟨b, vs, e', fr, rfl, hmu, hheap, hfr, by
      have := SVOnes.set j hcs hv1 hview
      rw [hset] at this
      exact this⟩
  exact ⟨S, μ, β, this⟩
/-- A nil slice in a row is an array, with nothing in it. -/
def St.adoptL (σ : St) (t ver s n r j id s' : Nat) (rows : List (List IV)) (ln : List (Nat × Nat × SV)) : St := { σ with env := eraseE id σ.env, objs := put (eraseO id (put σ.objs id (.arr 0 s' []))) t (.tab ver s rows ((eraseLn id ln).set n (r, j, .own id 0))) }
theorem eraseLn_get (id : Nat) : ∀ {ln : List (Nat × Nat × SV)} {n r j : Nat}, ln[n]? = some (r, j, .nils) → (eraseLn id ln)[n]? = some (r, j, .nils)
  | [], _, _, _, h => by simp at h
  | p :: l, 0, r, j, h => by
    simp only [List.getElem?_cons_zero, Option.some.injEq] at h
    subst h
    rfl
  | p :: l, n + 1, r, j, h => eraseLn_get id (ln := l) (n := n) (by simpa using h)
theorem weak_link {σ : St} {t ver s n r j : Nat} {rows : List (List IV)} {ln : List (Nat × Nat × SV)} (id s' : Nat) (hid : id < σ.n) (hne : id ≠ t) (hl : look σ.objs t = some (.tab ver s rows ln)) (hj : ln[n]? = some (r, j, .nils)) (hro : σ.ro.contains t = false) : Weak σ (σ.adoptL t ver s n r j id s' rows ln) := by
  rintro w0 S0 M a w ⟨S, μ, β, h⟩
  have hno : t ∉ σ.ro := by simpa using hro
  rcases h.objs t _ hl with ⟨_, h2, _⟩ | ⟨b, cap, vs, e, fr, h1, h2, h3, h4, h5, h6, h7, h8, h9⟩
  · subst h2; simp at hj
  obtain ⟨k1, k2, v, k3, x, k4⟩ := h9.get _ (List.mem_of_getElem? hj)
  simp only at k1 k2 k3 k4
  have hc := h.create id hid (.arr 0 s' []) none (.slice x 0 0) (Kept.refl _ _) (by simp) (.inl ⟨rfl, rfl, x, rfl⟩)
  have hl1 : look (eraseO id (put σ.objs id (.arr 0 s' []))) t = some (.tab ver s rows (eraseLn id ln)) := by
    rw [look_eraseO, look_put_ne _ _ (fun e => hne e.symm), hl]; rfl
  have hdn : (if t = id then (none : Option Nat) else β t) = some b := by rw [if_neg (fun e => hne e.symm)]; exact h1
  have hmn : (if t = id then Value.slice x 0 0 else μ t) = .slice (some ⟨b, 0, none⟩) rows.length cap := by rw [if_neg (fun e => hne e.symm)]; exact h2
  have hown : SVRel w S (fun i => if i = id then Value.slice x 0 0 else μ i) (eraseO id (put σ.objs id (.arr 0 s' []))) (.own id 0) v := by
    rw [k4]
    intro cv s2 rows2 hlk
    rw [look_eraseO, look_put_self] at hlk
    simp only [Option.map_some, Ob.erase, Option.some.injEq, Ob.arr.injEq] at hlk
    obtain ⟨rfl, _, _⟩ := hlk
    exact ⟨Nat.le_refl _, fun _ => by simp⟩
  rcases hc.objs t _ hl1 with ⟨_, q2, _⟩ | ⟨b2, cap2, vs2, e2, fr2, q1, q2, q3, q4, q5, q6, q7, q8, q9⟩
  · have := eraseLn_get id hj
    rw [q2] at this; simp at this
  simp only [hdn] at q1
  obtain rfl := Option.some.inj q1
  rw [h3] at q3
  simp only [Option.some.injEq, Go.Obj.cells.injEq] at q3
  obtain ⟨rfl, rfl, rfl⟩ := q3
  have h10 := hc.write (id := t) (x' := .tab ver s rows ((eraseLn id ln).set n (r, j, .own id 0))) (w' := w) hl1 hdn (vs := vs) (e := e) (fr := fr) ⟨rfl, rfl, rfl, rfl, fun _ _ => rfl, h3, fun _ _ h => h⟩ hno (.inr (.inr ⟨_, _, _, _, _, _, rfl, rfl, rfl⟩)) (.inr ⟨b, cap, vs, e, fr, rfl, hmn, h3, h4, h5, h6, h7, h8, LnRel.of fun p hp => by
    rcases List.mem_or_eq_of_mem_set hp with hp | rfl
    · exact q9.get p hp
    · exact ⟨k1, k2, v, k3, hown⟩⟩)
  exact ⟨S, _, _, h10⟩
end Go.Vs
set_option linter.unusedVariables false
set_option linter.unusedSimpArgs false
namespace Go.Vs
/-- What stands ahead of a label. -/
def vpre : VCode → Nat → Option VCode
  | .seq a b, l => match vfind a l with
    | some _ => vpre a l
    | none => (vpre b l).map (.seq a ·)
  | .label l', l => if l' == l then some .skip else none
  | .cut a, l => vpre a l
  | _, _ => none
theorem pre_sound {P : Program} (hm : P.follows .mixedOrders = true) {ι : Type} (I : ι → St) (A : ι → Prop) (l : Nat) : ∀ (b : VCode) {p r : VCode} {Q : Exit → St → Prop} {σ : St}, vfind b l = some r → vpre b l = some p → (∀ i, (I i).n = σ.n) →
    pw P p (fun e σ' => match e with
      | .normal => ∃ j, A j ∧ Weak σ' (I j)
      | e => Q e σ') σ → (∀ j, A j → pw P r Q (I j)) → TV P b Q σ := by
  intro b
  induction b with
  | seq a b iha ihb =>
    intro p r Q σ hf hp hn h1 h2 c hc hb w0 S0 M x w hs
    obtain ⟨ca, cb, rfl, k1, k2⟩ := comp_cases hc
    simp only [VCode.bnd, Bool.and_eq_true] at hb
    simp only [vfind] at hf
    simp only [vpre] at hp
    cases ha : vfind a l with
    | some ra =>
      rw [ha] at hf hp
      simp only [Option.some.injEq] at hf hp
      subst hf
      have := iha (Q := fun e σ' => match e with
        | .normal => pw P b Q σ'
        | e => Q e σ') ha hp hn (pw_mono p (fun e σ' he => by cases e <;> exact he) h1) (fun j hj => h2 j hj)
      refine wp_seq (wp_mono (this ca k1 hb.1 w0 S0 M x w hs) (fun e a' w' hl => ?_))
      cases e
      case normal =>
        obtain ⟨σ', j1, j2, j3⟩ := hl
        have := pw_sound hm b j1 cb k2 (by rw [j2]; exact hb.2) w0 S0 M a' w' j3
        rw [j2] at this
        exact this
      all_goals exact hl
    | none =>
      rw [ha] at hf hp
      simp only [Option.map_eq_some_iff] at hf hp
      obtain ⟨pb, hpb, rfl⟩ := hp
      refine wp_seq (wp_mono (pw_sound hm a h1 ca k1 hb.1 w0 S0 M x w hs) (fun e a' w' hl => ?_))
      cases e
      case normal =>
        obtain ⟨σ', j1, j2, j3⟩ := hl
        have := ihb hf hpb (fun i => by rw [hn, j2]) j1 h2 cb k2 (by rw [j2]; exact hb.2) w0 S0 M a' w' j3
        rw [j2] at this
        exact this
      all_goals exact hl
  | label l' =>
    intro p r Q σ hf hp hn h1 h2 c hc hb w0 S0 M x w hs
    have e : c = Code.label l' := comp_cases hc; subst e
    simp only [vfind] at hf
    simp only [vpre] at hp
    split at hf
    · next hl =>
      rw [if_pos hl] at hp
      obtain rfl := Option.some.inj hf
      obtain rfl := Option.some.inj hp
      obtain ⟨j, hA, hw⟩ := h1
      exact wp_label ⟨I j, h2 j hA, hn j, hw w0 S0 M x w hs⟩
    · cases hf
  | cut a ih => intro p r Q σ hf hp hn h1 h2 c hc hb; exact ih hf hp hn h1 h2 c hc hb
  | _ => intro p r Q σ hf; simp [vfind] at hf
/-- Jumps back to one label; what is ahead of it is shown by itself. -/
theorem tv_scope' {P : Program} (hm : P.follows .mixedOrders = true) {ι : Type} (l : Nat) (I : ι → St) (A : ι → Prop) (m : ι → Nat) {b r : VCode} {Q : Exit → St → Prop} {σ : St} (hf : vfind b l = some r) (hn : ∀ i, (I i).n = σ.n)
    (first : TV P b (fun e σ' => match e with
      | .goto l' => l' = l ∧ ∃ j, A j ∧ Weak σ' (I j)
      | e => Q e σ') σ)
    (round : ∀ i, A i → pw P r (fun e σ' => match e with
      | .goto l' => l' = l ∧ ∃ j, A j ∧ m j < m i ∧ Weak σ' (I j)
      | e => Q e σ') (I i)) : TV P (.scope b) Q σ := by
  intro c hc hb w0 S0 M a w hs
  obtain ⟨p, rfl, h1⟩ := comp_cases hc
  obtain ⟨q, k1, k2, k3⟩ := vfind_sound b h1 hf
  have least : ∀ (a : Act) (w : World), (∃ i, A i ∧ Sim w0 S0 M (I i) a w) → ∃ k, ∃ i, A i ∧ Sim w0 S0 M (I i) a w ∧ m i = k ∧ ∀ j, A j → Sim w0 S0 M (I j) a w → k ≤ m j := by
    intro a w ⟨i, hi1, hi2⟩
    have : ∀ n i, m i ≤ n → A i → Sim w0 S0 M (I i) a w → ∃ k, ∃ i, A i ∧ Sim w0 S0 M (I i) a w ∧ m i = k ∧ ∀ j, A j → Sim w0 S0 M (I j) a w → k ≤ m j := by
      intro n
      induction n with
      | zero => intro i hle h1 h2; exact ⟨m i, i, h1, h2, rfl, fun j _ _ => by omega⟩
      | succ n ih =>
        intro i hle h1 h2
        by_cases hex : ∃ j, A j ∧ Sim w0 S0 M (I j) a w ∧ m j < m i
        · obtain ⟨j, j1, j2, j3⟩ := hex
          exact ih j (by omega) j1 j2
        · exact ⟨m i, i, h1, h2, rfl, fun j j1 j2 => by
            rcases Nat.lt_or_ge (m j) (m i) with h | h
            · exact absurd ⟨j, j1, j2, h⟩ hex
            · exact h⟩
    exact this (m i) i (Nat.le_refl _) hi1 hi2
  refine wp_scope_jumps l (fun a w => ∃ i, A i ∧ Sim w0 S0 M (I i) a w) (fun a w => Classical.epsilon fun k => ∃ i, A i ∧ Sim w0 S0 M (I i) a w ∧ m i = k ∧ ∀ j, A j → Sim w0 S0 M (I j) a w → k ≤ m j) k1 ?_ ?_
  · refine wp_mono (first p h1 hb w0 S0 M a w hs) (fun e a' w' hl => ?_)
    cases e
    case goto l' =>
      obtain ⟨σ', ⟨j1, j, j2, j3⟩, _, j4⟩ := hl
      exact ⟨j1, j, j2, j3 w0 S0 M a' w' j4⟩
    all_goals exact hl
  · intro a w hI
    have hle := least a w hI
    obtain ⟨i, hi1, hi2, hi3, hi4⟩ := Classical.epsilon_spec hle
    refine wp_mono (pw_sound hm r (round i hi1) q k2 (by rw [hn]; exact k3 _ hb) w0 S0 M a w hi2) (fun e a' w' hl => ?_)
    cases e
    case goto l' =>
      obtain ⟨σ', ⟨j1, j, j2, j3, j4⟩, _, j5⟩ := hl
      have hsj := j4 w0 S0 M a' w' j5
      obtain ⟨_, _, _, _, hmin⟩ := Classical.epsilon_spec (least a' w' ⟨j, j2, hsj⟩)
      refine ⟨j1, ⟨j, j2, hsj⟩, ?_⟩
      have := hmin j j2 hsj
      omega
    all_goals
      first
        | exact hl
        | (obtain ⟨σ', k1, k2, k3⟩ := hl; exact ⟨σ', k1, by rw [k2, hn], k3⟩)

theorem scopeL {P : Program} (hm : P.follows .mixedOrders = true) {ι : Type} (l : Nat) (I : ι → St) (A : ι → Prop) (m : ι → Nat) {b p r : VCode} {Q : Exit → St → Prop} {σ : St} (hf : vfind b l = some r) (hp : vpre b l = some p) (hn : ∀ i, (I i).n = σ.n)
    (first : pw P p (fun e σ' => match e with
      | .normal => @JoinEnd ι σ' ⟨I⟩ ⟨A⟩
      | .goto l' => @JumpEnd ι σ' l' l none ⟨I⟩ ⟨A⟩ ⟨m⟩
      | e => Q e σ') σ)
    (round : ∀ i, A i → pw P r (fun e σ' => match e with
      | .goto l' => @JumpEnd ι σ' l' l (some (m i)) ⟨I⟩ ⟨A⟩ ⟨m⟩
      | e => Q e σ') (I i)) : @TVW P σ ⟨.scope b⟩ ⟨Q⟩ := by
  have h := pre_sound hm I A l b (Q := fun e σ' => match e with
      | .goto l' => l' = l ∧ ∃ j, A j ∧ Weak σ' (I j)
      | e => Q e σ') hf hp hn (pw_mono p (fun e σ' h => by
      cases e <;> first | exact h | (obtain ⟨h1, j, h2, _, h3⟩ := h; exact ⟨h1, j, h2, h3⟩)) first) (fun j hj => pw_mono r (fun e σ' h => by
      cases e <;> first | exact h | (obtain ⟨h1, j, h2, _, h3⟩ := h; exact ⟨h1, j, h2, h3⟩)) (round j hj))
  refine tv_scope' hm l I A m hf hn h (fun i hi => pw_mono r (fun e σ' h => by
      cases e <;> first | exact h | (obtain ⟨h1, j, h2, h4, h3⟩ := h; exact ⟨h1, j, h2, h4 _ rfl, h3⟩)) (round i hi))
end Go.Vs
set_option linter.unusedVariables false
set_option linter.unusedSimpArgs false
namespace Go.Vs

/-- All functions may be called; the code is that of a round, or of none. -/
def wideR (ro : Option Nat) : Fence := { Fence.wide with round := ro }
theorem callsR {ro : Option Nat} {n : Nat} {P : Program} {k : FuncId} {args : Array Value} {w : World} {R : Ending → World → Prop} (h : Calls P k args w R) : CallsIn (wideR ro) n P k args w R := by
  have h1 : CallsIn Fence.wide n P k args w R := callsIn_wide.2 h
  cases ro with
  | none => exact h1
  | some l => exact CallsIn.inRound l h1
theorem rowsR {ro : Option Nat} {n : Nat} {P : Program} {row : String} {args : Array Value} {w : World} {R : Value → World → Prop} (h : Rows P row args w R) : RowsIn (wideR ro) n P row args w R := by
  intro c cs _
  obtain ⟨v, w', h1, h2⟩ := h c cs
  refine ⟨v, w', h1, ?_⟩
  have h3 : StepsIn (Machine.fenced P Fence.wide) P (lone (Frame.ofRow P row args .normal) (c :: cs) w) (lone (c.finish v) cs w') := stepsIn_wide.2 h2
  cases ro with
  | none => exact h3
  | some l => exact h3
def Op.noDef : Op → Bool
  | .defer _ => false
  | _ => true
def opsNoDef (l : List Oper) : Bool := l.all fun o => Op.noDef o.op
theorem noDef_get {ops : Array Oper} (h : opsNoDef ops.toList = true) {i : Nat} {o : Oper} (ho : ops[i]? = some o) : ∀ c, o.op ≠ .defer c := by
  intro c hc
  have hm : o ∈ ops.toList := by
    rw [← Array.getElem?_toList] at ho
    exact List.mem_of_getElem? ho
  have := List.all_eq_true.1 h o hm
  rw [hc] at this
  cases this
section
variable {P : Program} {ro : Option Nat} {Q : Exit → Act → World → Prop}
theorem wpR_of_wp {o : Oper} {a : Act} {w : World} {n : Nat} {next : Act → World → Prop} (hnd : ∀ c, o.op ≠ .defer c) (h : o.wp P a w next Q) : o.wpIn (wideR ro) n P a w next Q := by
  refine ⟨fun _ _ => trivial, ?_⟩
  have hro : (wideR ro).round = ro := rfl
  rw [hro, Oper.semAt_eq _ _ _ hnd]
  unfold Oper.wp at h
  have hd : (wideR ro).depth.isSome = true → 1 ≤ n := fun h => by simp [wideR, Fence.wide] at h
  generalize (execOp a.eval o).run P w = r at h
  cases r with
  | ok x w' =>
    cases x <;> simp only [Oper.upon, Oper.uponIn] at h ⊢ <;>
      first
        | exact h
        | exact ⟨hd, callsR (h.mono fun e w'' he => by cases e <;> exact he)⟩
        | exact ⟨hd, rowsR h⟩
  | halt x w' => cases x <;> simp only [Oper.upon, Oper.uponIn] at h ⊢ <;> exact h
theorem wpOp_in {ops : Array Oper} {i : Nat} {K K' : Act → World → Prop} (hQ : ∀ a w, ¬ Q .outgrown a w) (hnd : opsNoDef ops.toList = true) (hK : ∀ a w, K a w → K' a w) {a : Act} {w : World} (h : wpOp P ops Q i K a w) : wpOpIn (wideR ro) 0 P ops Q i K' a w := by
  unfold wpOp at h
  unfold wpOpIn
  cases ho : ops[i]? with
  | none => rw [ho] at h; exact hK _ _ h
  | some o =>
    rw [ho] at h
    dsimp only at h ⊢
    split at h
    · next hw =>
      rw [if_pos hw]
      rcases h with h | ⟨_, a0, w0, h⟩
      · exact Oper.wpIn_mono hK (wpR_of_wp (noDef_get hnd ho) h)
      · exact absurd h (hQ _ _)
    · next hw =>
      rw [if_neg hw]
      exact ⟨fun _ _ => trivial, hK _ _ h⟩
theorem wpOps_in {ops : Array Oper} (hQ : ∀ a w, ¬ Q .outgrown a w) (hnd : opsNoDef ops.toList = true) : ∀ (l : List Nat) {a : Act} {w : World}, wpOps P ops Q l a w → wpOpsIn (wideR ro) 0 P ops Q l a w
  | [], _, _, h => h
  | i :: r, a, w, h => by
    rw [wpOps_cons] at h
    rw [wpOpsIn_cons]
    exact wpOp_in hQ hnd (fun a w h => wpOps_in hQ hnd r h) h
theorem wpAny_in {md : Region.Mode} {ops : Array Oper} (hQ : ∀ a w, ¬ Q .outgrown a w) (hnd : opsNoDef ops.toList = true) : ∀ (fuel : Nat) {listed : Array Bool} {a : Act} {w : World}, wpAny P md ops Q fuel listed a w → wpAnyIn (wideR ro) 0 P md ops Q fuel listed a w
  | 0, _, _, _, h => h
  | n + 1, _, _, _, h => ⟨h.1, fun i hi => wpOp_in hQ hnd (fun a w h => wpAny_in hQ hnd n h) (h.2 i hi)⟩
end
/-- No deferred calls. -/
def codeNoDef : Code → Bool
  | .region _ os _ => opsNoDef os.toList
  | .seq a b => codeNoDef a && codeNoDef b
  | .cond _ a b => codeNoDef a && codeNoDef b
  | .block _ a => codeNoDef a
  | _ => true
/-- No loops, no jumps back, no joins. -/
def VCode.flat : VCode → Bool
  | .seq a b => a.flat && b.flat
  | .cond _ a b => a.flat && b.flat
  | .block _ a => a.flat
  | .loop _ => false
  | .scope _ => false
  | .cut _ => false
  | _ => true
/-- What code does, in a round too. -/
def TR (P : Program) (c : Code) (Q : Exit → St → Prop) (σ : St) : Prop := ∀ (ro : Option Nat) (w0 : World) (S0 : Stab) (M : Ctx) (a : Act) (w : World), Sim w0 S0 M σ a w → c.wpIn (wideR ro) 0 P (lift w0 S0 M σ.n Q) a w
theorem lift_in {w0 : World} {S0 : Stab} {M : Ctx} {N : Nat} {Q : Exit → St → Prop} (a : Act) (w : World) : ¬ lift w0 S0 M N Q .outgrown a w := fun h => h
theorem RegOps.r {P : Program} (hm : P.follows .mixedOrders = true) {c : Code} {Q : Exit → St → Prop} {σ : St} (hd : codeNoDef c = true) (h : RegOps P c Q σ) : TR P c Q σ := by
  obtain ⟨id, os, draw, rfl, h⟩ := h
  intro ro w0 S0 M a w hs
  have := h w0 S0 M a w hs
  cases draw with
  | false => exact wpIn_region (wpOps_in lift_in hd _ (this.1 rfl))
  | true => exact wpIn_region_any hm (wpAny_in lift_in hd _ (this.2 rfl))
/-- THE EVALUATOR IS RIGHT in a round. -/
theorem pwR_sound {P : Program} (hm : P.follows .mixedOrders = true) : ∀ (v : VCode) {Q : Exit → St → Prop} {σ : St}, v.flat = true → pw P v Q σ → ∀ c, comp P c = some v.strip → codeNoDef c = true → v.bnd σ.n = true → TR P c Q σ := by
  intro v
  induction v with
  | skip =>
    intro Q σ hf h c hc hd _ ro w0 S0 M a w hs
    have e : c = Code.skip := comp_cases hc; subst e
    exact wpIn_skip ⟨σ, h, rfl, hs⟩
  | region ops mode dead =>
    intro Q σ hf h c hc hd hb
    exact (region_sound hm hc hb h).r hm hd
  | seq x y ihx ihy =>
    intro Q σ hf h c hc hd hb ro w0 S0 M a w hs
    obtain ⟨p, q, rfl, h1, h2⟩ := comp_cases hc
    simp only [VCode.bnd, VCode.flat, codeNoDef, Bool.and_eq_true] at hb hf hd
    refine wpIn_seq (wpIn_mono (ihx hf.1 h p h1 hd.1 hb.1 ro w0 S0 M a w hs) (fun e a' w' hl => ?_))
    cases e
    case normal =>
      obtain ⟨σ', k1, k2, k3⟩ := hl
      have := ihy hf.2 k1 q h2 hd.2 (by rw [k2]; exact hb.2) ro w0 S0 M a' w' k3
      rw [k2] at this
      exact this
    all_goals exact hl
  | cond o x y ihx ihy =>
    intro Q σ hf h c hc hd hb ro w0 S0 M a w hs
    obtain ⟨p, q, r, rfl, h0, h1, h2⟩ := comp_cases hc
    simp only [VCode.bnd, VCode.flat, codeNoDef, Bool.and_eq_true] at hb hf hd
    simp only [pw] at h
    split at h
    · next t ht =>
      obtain ⟨S, μ, β, hg⟩ := id hs
      have hrel := opd_sound hg h0
      rw [ht] at hrel
      exact wpIn_cond_split hrel (fun e => ihx hf.1 (h.1 e) q h1 hd.1 hb.1 ro w0 S0 M a w hs) (fun e => ihy hf.2 (h.2 e) r h2 hd.2 hb.2 ro w0 S0 M a w hs)
    · next ht =>
      obtain ⟨S, μ, β, hg⟩ := id hs
      have hrel := opd_sound hg h0
      rw [ht] at hrel
      obtain ⟨t, hrel⟩ := hrel
      exact wpIn_cond_split hrel (fun _ => ihx hf.1 h.1 q h1 hd.1 hb.1 ro w0 S0 M a w hs) (fun _ => ihy hf.2 h.2 r h2 hd.2 hb.2 ro w0 S0 M a w hs)
    · exact h.elim
  | block id x ih =>
    intro Q σ hf h c hc hd hb ro w0 S0 M a w hs
    obtain ⟨p, rfl, h1⟩ := comp_cases hc
    refine wpIn_block (wpIn_mono (ih hf h p h1 hd hb ro w0 S0 M a w hs) (fun e a' w' hl => ?_))
    cases e
    case exit i =>
      obtain ⟨σ', k1, k2, k3⟩ := hl
      dsimp only at k1
      simp only [Exit.inBlock]
      split
      · next hi => rw [if_pos hi] at k1; exact ⟨σ', k1, k2, k3⟩
      · next hi => rw [if_neg hi] at k1; exact ⟨σ', k1, k2, k3⟩
    all_goals exact hl
  | loop x _ => intro Q σ hf; cases hf
  | exit id =>
    intro Q σ hf h c hc hd _ ro w0 S0 M a w hs
    have e : c = Code.exit id := comp_cases hc; subst e
    exact wpIn_exit ⟨σ, h, rfl, hs⟩
  | scope x _ => intro Q σ hf; cases hf
  | label l =>
    intro Q σ hf h c hc hd _ ro w0 S0 M a w hs
    have e : c = Code.label l := comp_cases hc; subst e
    exact wpIn_label ⟨σ, h, rfl, hs⟩
  | goto l =>
    intro Q σ hf h c hc hd _ ro w0 S0 M a w hs
    have e : c = Code.goto l := comp_cases hc; subst e
    exact wpIn_goto ⟨σ, h, rfl, hs⟩
  | refuse => intro Q σ hf h; exact h.elim
  | cut x _ => intro Q σ hf; cases hf
  | ret =>
    intro Q σ hf h c hc hd _ ro w0 S0 M a w hs
    have e : c = Code.ret := comp_cases hc; subst e
    exact wpIn_ret ⟨σ, h, rfl, hs⟩

/- TWO PARTIES: what is another's. -/
def OwnB (σ : St) (β : Nat → Option Nat) : Nat → Prop := fun b => ∃ id o, look σ.objs id = some o ∧ β id = some b
/-- The state, told anew from here on. -/
theorem SimG.rebase {w0 w : World} {S0 S : Stab} {M : Ctx} {σ : St} {a : Act} {μ : Nat → Value} {β : Nat → Option Nat} (h : SimG w0 S0 M σ a w S μ β) : SimG w S ⟨OwnB σ β, M.keep, M.at', M.df⟩ σ a w S μ β :=
  { defers := h.defers, size := h.size, env := h.env, objs := h.objs, inj := h.inj, own := fun id o b h1 h2 => .inr ⟨id, o, h1, h2⟩, unst := h.unst, stab := h.stab, ext := fun _ _ x => x, back := fun _ _ x => .inl x, kept := Kept.refl _ _, stay := fun _ _ _ => rfl, hist := h.hist, far := h.far, glob := h.glob }
/-- And told as before. -/
theorem SimG.unbase {w0 w w' : World} {S0 S S' : Stab} {M : Ctx} {σ σ' : St} {a a' : Act} {μ μ' : Nat → Value} {β β' : Nat → Option Nat} {ks : List (Nat × SV)} {at' : Nat → Value} {df : List Deferred} (h : SimG w0 S0 M σ a w S μ β) (k : SimG w S ⟨OwnB σ β, ks, at', df⟩ σ' a' w' S' μ' β') (hd : a'.defers = M.df) (hh : ∀ p, p ∈ M.keep → SVRel w' S' μ' σ'.objs p.2 (M.at' p.1)) (hf : ∀ p, p ∈ M.keep → ∀ d, d < σ'.n → p.2.noRef d = true) : SimG w0 S0 M σ' a' w' S' μ' β' :=
  { defers := hd, size := k.size, env := k.env, objs := k.objs, inj := k.inj
    own := fun id o b h1 h2 => by
      rcases k.own id o b h1 h2 with h3 | ⟨i, x, h3, h4⟩
      · exact .inl (Nat.le_trans h.kept.size h3)
      · exact h.own i x b h3 h4
    unst := k.unst, stab := k.stab, ext := fun b o x => k.ext b o (h.ext b o x)
    back := fun b o x => by
      rcases k.back b o x with h3 | h3 | ⟨i, x, h3, h4⟩
      · exact h.back b o h3
      · exact .inr (.inl (Nat.le_trans h.kept.size h3))
      · exact .inr (h.own i x b h3 h4)
    kept := ⟨k.kept.os.trans h.kept.os, k.kept.tape.trans h.kept.tape, k.kept.output.trans h.kept.output, Nat.le_trans h.kept.size k.kept.size, fun i hi hm => by
      refine (k.kept.block i (Nat.lt_of_lt_of_le hi h.kept.size) (fun ⟨id, x, h3, h4⟩ => ?_)).trans (h.kept.block i hi hm)
      rcases h.own id x i h3 h4 with h5 | h5
      · omega
      · exact hm h5, fun i x hx => k.kept.shape _ _ (h.kept.shape _ _ hx)⟩
    stay := fun b o x => (k.stay b o (h.ext b o x)).trans (h.stay b o x)
    hist := hh, far := hf, glob := k.glob }
/-- Blocks that are another's. -/
def ApartZ (w0 w : World) (M : Ctx) (σ : St) (S : Stab) (β : Nat → Option Nat) (Z : Nat → Prop) : Prop := ∀ b, Z b → b < w.heap.size ∧ w0.heap.size ≤ b ∧ ¬ OwnB σ β b ∧ ∀ o, ¬ S b o
def SimZ (w0 : World) (S0 : Stab) (M : Ctx) (σ : St) (a : Act) (Z : Nat → Prop) (w : World) : Prop := ∃ S μ β, SimG w0 S0 M σ a w S μ β ∧ ApartZ w0 w M σ S β Z
def grown (Z : Nat → Prop) (w w' : World) : Nat → Prop := fun b => Z b ∨ (w.heap.size ≤ b ∧ b < w'.heap.size)
/-- The other has turned what is its own. -/
theorem SimG.other {w0 w w' : World} {S0 S : Stab} {M : Ctx} {σ : St} {a : Act} {μ : Nat → Value} {β : Nat → Option Nat} {Z : Nat → Prop} (h : SimG w0 S0 M σ a w S μ β) (hz : ApartZ w0 w M σ S β Z) (hk : Kept Z w w') : SimG w0 S0 M σ a w' S μ β ∧ ApartZ w0 w' M σ S β (grown Z w w') := by
  have hkeep : Keeps S w w' := ⟨fun b o hS => cell_of_heap (hk.block b (h.stab b o hS) (fun hZ => (hz b hZ).2.2.2 o hS)) o, hk.shape⟩
  refine ⟨h.world hkeep (fun _ _ x => x) (fun id o b h1 h2 => hk.block b ((h.objs id o h1).live h2) (fun hZ => (hz b hZ).2.2.1 ⟨id, o, h1, h2⟩)) (fun _ _ _ _ _ _ x => x) (fun b o hS => Nat.lt_of_lt_of_le (h.stab b o hS) hk.size) (fun _ _ x => .inl x) ?_, ?_⟩
  · refine ⟨hk.os.trans h.kept.os, hk.tape.trans h.kept.tape, hk.output.trans h.kept.output, Nat.le_trans h.kept.size hk.size, fun i hi hm => ?_, fun i x hx => hk.shape _ _ (h.kept.shape _ _ hx)⟩
    refine (hk.block i (Nat.lt_of_lt_of_le hi h.kept.size) (fun hZ => ?_)).trans (h.kept.block i hi hm)
    have := (hz i hZ).2.1
    omega
  · rintro b (hZ | ⟨h1, h2⟩)
    · obtain ⟨q1, q2, q3, q4⟩ := hz b hZ
      exact ⟨Nat.lt_of_lt_of_le q1 hk.size, q2, q3, q4⟩
    · refine ⟨h2, Nat.le_trans h.kept.size h1, fun ⟨id, o, h3, h4⟩ => ?_, fun o hS => ?_⟩
      · have := (h.objs id o h3).live h4; omega
      · have := h.stab b o hS; omega
theorem SimZ.other {w0 w w' : World} {S0 : Stab} {M : Ctx} {σ : St} {a : Act} {Z : Nat → Prop} (h : SimZ w0 S0 M σ a Z w) (hk : Kept Z w w') : SimZ w0 S0 M σ a (grown Z w w') w' := by
  obtain ⟨S, μ, β, h1, h2⟩ := h
  obtain ⟨h3, h4⟩ := h1.other h2 hk
  exact ⟨S, μ, β, h3, h4⟩
/-- One's own step leaves what is another's as it is. -/
theorem SimZ.step {P : Program} {w0 w : World} {S0 : Stab} {M : Ctx} {σ : St} {a : Act} {Z : Nat → Prop} {c : Code} {Q : Exit → St → Prop} {ro : Option Nat} (hT : TR P c Q σ) (h : SimZ w0 S0 M σ a Z w) : c.wpIn (wideR ro) 0 P (fun e a' w' => ∃ σ', Q e σ' ∧ SimZ w0 S0 M σ' a' Z w' ∧ (∀ b, Z b → w'.heap[b]? = w.heap[b]?) ∧ Keeps S0 w w' ∧ w.heap.size ≤ w'.heap.size ∧ σ'.n = σ.n) a w := by
  obtain ⟨S, μ, β, h1, h2⟩ := h
  refine wpIn_mono (hT ro w S _ a w ⟨S, μ, β, h1.rebase⟩) (fun e a' w' hl => ?_)
  have fin : ∀ σ', Q e σ' → σ'.n = σ.n → Sim w S ⟨OwnB σ β, M.keep, M.at', M.df⟩ σ' a' w' → ∃ σ', Q e σ' ∧ SimZ w0 S0 M σ' a' Z w' ∧ (∀ b, Z b → w'.heap[b]? = w.heap[b]?) ∧ Keeps S0 w w' ∧ w.heap.size ≤ w'.heap.size ∧ σ'.n = σ.n := by
    rintro σ' hQ hn ⟨S', μ', β', k⟩
    have hb : ∀ b, Z b → w'.heap[b]? = w.heap[b]? := fun b hZ => k.kept.block b (h2 b hZ).1 (h2 b hZ).2.2.1
    refine ⟨σ', hQ, ⟨S', μ', β', h1.unbase k k.defers k.hist k.far, fun b hZ => ?_⟩, hb, ⟨fun b o hS => k.stay b o (h1.ext b o hS), k.kept.shape⟩, k.kept.size, hn⟩
    obtain ⟨q1, q2, q3, q4⟩ := h2 b hZ
    refine ⟨Nat.lt_of_lt_of_le q1 k.kept.size, q2, fun ⟨id, o, h3, h4⟩ => ?_, fun o hS => ?_⟩
    · rcases k.own id o b h3 h4 with h5 | h5
      · omega
      · exact q3 h5
    · rcases k.back b o hS with h5 | h5 | h5
      · exact q4 o h5
      · omega
      · exact q3 h5
  cases e <;> first | exact hl.elim | (obtain ⟨σ', q1, q2, q3⟩ := hl; exact fin σ' q1 q2 q3)
end Go.Vs
set_option linter.unusedVariables false
set_option linter.unusedSimpArgs false
namespace Go.Vs

theorem Kept.weaken {M M' : Nat → Prop} {a b : World} (h : Kept M a b) (hm : ∀ k, M k → M' k) : Kept M' a b := ⟨h.os, h.tape, h.output, h.size, fun k hk hn => h.block k hk (fun x => hn (hm k x)), h.shape⟩
theorem shape_loop {w : World} {l : Nat} {r : Loop} (h : w.heap[l]? = some (.loop r)) : w.shape? l = none := by simp [World.shape?, h]
theorem kept_rec {w : World} {l : Nat} {r : Loop} (o : Go.Obj) (h : w.heap[l]? = some (.loop r)) (Z : Nat → Prop) (hZ : Z l) : Kept Z w (w.putObj l o) :=
  ⟨rfl, rfl, rfl, by simp, fun k _ hn => World.putObj_heap_other (fun e => hn (e ▸ hZ)), fun k x hx => by
    by_cases e : k = l
    · subst e; rw [shape_loop h] at hx; cases hx
    · rw [shape_of_heap (World.putObj_heap_other e)]; exact hx⟩
theorem kept_def {w : World} {D : Nat} {ds : List Deferred} (h : w.heap[D]? = some (.deferred (some ds))) (Z : Nat → Prop) (hZ : Z D) : Kept Z w (w.putObj D (.deferred none)) :=
  ⟨rfl, rfl, rfl, by simp, fun k _ hn => World.putObj_heap_other (fun e => hn (e ▸ hZ)), fun k x hx => by
    by_cases e : k = D
    · subst e; simp [World.shape?, h] at hx
    · rw [shape_of_heap (World.putObj_heap_other e)]; exact hx⟩
theorem keeps_rec {S : Stab} {w : World} {l : Nat} {r r' : Loop} (h : w.heap[l]? = some (.loop r)) : Keeps S w (w.putObj l (.loop r')) := by
  refine ⟨fun b o _ => ?_, (kept_rec (.loop r') h (fun b => b = l) rfl).shape⟩
  by_cases e : b = l
  · subst e
    have h2 : (w.putObj b (.loop r')).heap[b]? = some (.loop r') := World.putObj_heap_same (Array.getElem?_eq_some_iff.1 h).1
    simp [World.cell?, h, h2]
  · exact cell_of_heap (World.putObj_heap_other e) o
theorem Keeps.trans {S : Stab} {a b c : World} (h : Keeps S a b) (k : Keeps S b c) : Keeps S a c := ⟨fun x o hS => (k.1 x o hS).trans (h.1 x o hS), fun x y hx => k.2 _ _ (h.2 _ _ hx)⟩
theorem kept_allocR (w : World) (o : Go.Obj) : Kept (fun _ => False) w (w.alloc o) :=
  ⟨rfl, rfl, rfl, by simp, fun k hk _ => heap_alloc_lt hk, fun k x hx => by rw [shape_of_heap (heap_alloc_lt (shape_lt hx))]; exact hx⟩
theorem Kept.keeps {S : Stab} {M : Nat → Prop} {a b : World} (h : Kept M a b) (hs : ∀ b' o, S b' o → b' < a.heap.size ∧ ¬ M b') : Keeps S a b := ⟨fun b' o hS => cell_of_heap (h.block b' (hs b' o hS).1 (hs b' o hS).2) o, h.shape⟩

/-- What is so between two rounds; the blocks that are another's. -/
abbrev JZ := Nat → (Nat → Prop) → World → Prop
def StZ (J : JZ) : Prop := ∀ i Z W W', J i Z W → Kept Z W W' → J i (grown Z W W') W'
def SameZ (S : Stab) (Z : Nat → Prop) (W W' : World) : Prop := (∀ b, Z b → W'.heap[b]? = W.heap[b]?) ∧ Keeps S W W' ∧ W.heap.size ≤ W'.heap.size
def YZ (P : Program) (l : Nat) (S : Stab) (enc : Nat → Value) (n : Nat) (J : JZ) : Prop :=
  ∀ i Z W, J i Z W → i < n → YieldAt Fence.wide 0 P l #[enc i] W fun e W' => e = .returned (.bool true) ∧ J (i + 1) Z W' ∧ SameZ S Z W W'
/-- THE CONTRACT of an iterator: so many rounds, with these; what it reads is in the stable cells. -/
def IterZ (P : Program) (k : FuncId) (vs : Array Value) (n : Nat) (enc : Nat → Value) (S : Stab) (w : World) : Prop :=
  ∀ (l : Nat) (J : JZ) (Z : Nat → Prop) (W : World), Keeps S w W → w.heap.size ≤ W.heap.size → (∀ b, Z b → b < W.heap.size) → StZ J → YZ P l S enc n J → J 0 Z W →
    Calls P k (#[.func (.yield l) #[] #[]] ++ vs) W fun e W' => (∃ v, e = .returned v) ∧ ∃ Z', J n Z' W'

theorem grown_same {Z : Nat → Prop} {w w' : World} (h : w'.heap.size = w.heap.size) : grown Z w w' = Z := by
  funext b
  refine propext ⟨fun hb => ?_, .inl⟩
  rcases hb with hb | hb
  · exact hb
  · omega

theorem range_core {P : Program} {ro : Option Nat} {ps : Array Tmp} {assign body : Code} {Q : Exit → Act → World → Prop} {a a' : Act} {w : World} {k : FuncId} {vs : Array Value} {n : Nat} {enc : Nat → Value} {S : Stab} {p : Nat} {fn : FuncId} {df : Nat}
    (hps : ps = #[p]) (hit : IterZ P k vs n enc S w) (hSl : ∀ b o, S b o → b < w.heap.size)
    (I : JZ) (hst : StZ I) {Z0 : Nat → Prop} (hZ0 : ∀ b, Z0 b → b < w.heap.size) (h0 : I 0 Z0 w)
    (B : Nat → (Nat → Prop) → Act → World → Prop) (hB : ∀ i Z a W W', B i Z a W → Kept Z W W' → B i (grown Z W W') a W')
    (hassign : ∀ l i Z W, Z l → I i Z W → i < n → assign.wpIn (wideR (some l)) 0 P (fun e a1 W1 => e = .normal ∧ B i Z a1 W1 ∧ SameZ S Z W W1) { tmps := a.tmps.setIfInBounds p (enc i), defers := [] } W)
    (hbody : ∀ l i Z a1 W1, Z l → (∃ r, W1.heap[l]? = some (.loop r)) → B i Z a1 W1 → i < n → body.wpIn (wideR (some l)) 0 P (fun e _ W' => e = .normal ∧ I (i + 1) Z W' ∧ SameZ S Z W1 W') a1 W1)
    {l D : Nat} {W1 : World} (hl1 : w.heap.size ≤ l) (hD1 : w.heap.size ≤ D) (hD2 : D < W1.heap.size) (hnew : ∀ b, w.heap.size ≤ b → b < W1.heap.size → b = l ∨ b = D)
    (hrec : W1.heap[l]? = some (.loop { state := .ready, pending := none, fn := fn, tmps := a.tmps, params := ps, assign := assign, body := body, defers := df })) (hdef : D ≠ l → W1.heap[D]? = some (.deferred (some []))) (hk1 : Kept (fun _ => False) w W1)
    (hdone : ∀ Z W, I n Z W → (D ≠ l → Z D ∧ W.heap[D]? = some (.deferred (some []))) → w.heap.size ≤ W.heap.size → Q .normal a' W) :
    CallsIn (wideR ro) (0 - 1) P k (#[.func (.yield l) #[] #[]] ++ vs) W1 (rangePost (wideR ro) 0 P l Q a') := by
  obtain ⟨rec, hr⟩ : ∃ rec : LoopState → Option Code → Loop, rec = fun st pe => { state := st, pending := pe, fn := fn, tmps := a.tmps, params := ps, assign := assign, body := body, defers := df } := ⟨_, rfl⟩
  have hrec' : W1.heap[l]? = some (.loop (rec .ready none)) := by rw [hr]; exact hrec
  have hl2 : l < W1.heap.size := (Array.getElem?_eq_some_iff.1 hrec).1
  let ZL : (Nat → Prop) → Nat → Prop := fun Z b => Z b ∨ b = l ∨ b = D
  let J : JZ := fun i Z W => ¬ Z l ∧ ¬ Z D ∧ W.heap[l]? = some (.loop (rec .ready none)) ∧ (D ≠ l → W.heap[D]? = some (.deferred (some []))) ∧ w.heap.size ≤ W.heap.size ∧ I i (ZL Z) W
  have hJ0 : J 0 Z0 W1 := by
    refine ⟨fun h => ?_, fun h => ?_, hrec', hdef, hk1.size, ?_⟩
    · have := hZ0 l h; omega
    · have := hZ0 D h; omega
    · have := hst 0 Z0 w W1 h0 (hk1.weaken fun _ h => h.elim)
      have e : grown Z0 w W1 = ZL Z0 := by
        funext b
        refine propext ⟨fun hb => ?_, fun hb => ?_⟩
        · rcases hb with hb | ⟨hb, hb2⟩
          · exact .inl hb
          · exact .inr (hnew b hb hb2)
        · rcases hb with hb | rfl | rfl
          · exact .inl hb
          · exact .inr ⟨hl1, hl2⟩
          · exact .inr ⟨hD1, hD2⟩
      rw [← e]; exact this
  have hstJ : StZ J := by
    rintro i Z W W' ⟨h1, h2, h3, h4, h5, h6⟩ hk
    have hl : l < W.heap.size := (Array.getElem?_eq_some_iff.1 h3).1
    have hDl : D < W.heap.size := by
      by_cases e : D = l
      · rw [e]; exact hl
      · exact (Array.getElem?_eq_some_iff.1 (h4 e)).1
    refine ⟨?_, ?_, (hk.block l hl h1).trans h3, fun e => (hk.block D hDl h2).trans (h4 e), Nat.le_trans h5 hk.size, ?_⟩
    · rintro (h | h)
      · exact h1 h
      · omega
    · rintro (h | h)
      · exact h2 h
      · omega
    · have := hst i (ZL Z) W W' h6 (hk.weaken fun _ h => .inl h)
      have e : grown (ZL Z) W W' = ZL (grown Z W W') := by
        funext b
        refine propext ⟨fun hb => ?_, fun hb => ?_⟩
        · rcases hb with (hb | hb) | hb
          · exact .inl (.inl hb)
          · exact .inr hb
          · exact .inl (.inr hb)
        · rcases hb with (hb | hb) | hb
          · exact .inl (.inl hb)
          · exact .inr hb
          · exact .inl (.inr hb)
      rw [← e]; exact this
  have hyl : YZ P l S enc n J := by
    rintro i Z W ⟨h1, h2, h3, h4, h5, h6⟩ hi
    have hZl : ZL Z l := .inr (.inl rfl)
    have hy := run_yield (P := P) (args := #[enc i]) h3 (by rw [hr]; simp [hps])
    refine ⟨_, _, _, _, hy, roundIn_of_wpIn (F := Fence.wide) trivial ?_⟩
    rw [hr]
    have htm : ((ps.zip #[enc i]).foldl (fun tmps (t, a) => tmps.setIfInBounds t a) a.tmps) = a.tmps.setIfInBounds p (enc i) := by rw [hps]; simp
    dsimp only
    rw [htm]
    refine wpIn_mono (hassign l i (ZL Z) W hZl h6 hi) ?_
    rintro e a1 W1' ⟨rfl, hB1, hz1, hk1', hs1⟩
    have hl1' : W1'.heap[l]? = some (.loop (rec .ready none)) := (hz1 l hZl).trans h3
    refine ⟨_, run_beginRound hl1' (by rw [hr]), ?_⟩
    have hB2 := hB i (ZL Z) a1 W1' _ hB1 (kept_rec (.loop { rec .ready none with state := .busy }) hl1' (ZL Z) hZl)
    rw [grown_same (by simp)] at hB2
    have hl2' : (W1'.putObj l (.loop { rec .ready none with state := .busy })).heap[l]? = some (.loop { rec .ready none with state := .busy }) := World.putObj_heap_same (Array.getElem?_eq_some_iff.1 hl1').1
    refine wpIn_mono (hbody l i (ZL Z) a1 _ hZl ⟨_, hl2'⟩ hB2 hi) ?_
    rintro e a2 W3 ⟨rfl, hI3, hz3, hk3, hs3⟩
    have hl3 : W3.heap[l]? = some (.loop { rec .ready none with state := .busy }) := (hz3 l hZl).trans hl2'
    refine ⟨_, _, run_endRound none hl3, rfl, ?_⟩
    have hfin : (Go.Obj.loop { { rec .ready none with state := .busy } with state := if (none : Option Code).isNone then .ready else .done, pending := none }) = .loop (rec .ready none) := by rw [hr]; rfl
    rw [hfin]
    have hl4 : (W3.putObj l (.loop (rec .ready none))).heap[l]? = some (.loop (rec .ready none)) := World.putObj_heap_same (Array.getElem?_eq_some_iff.1 hl3).1
    have hz : ∀ b, ZL Z b → b ≠ l → (W3.putObj l (.loop (rec .ready none))).heap[b]? = W.heap[b]? := fun b hb hne => (World.putObj_heap_other hne).trans ((hz3 b hb).trans ((World.putObj_heap_other hne).trans (hz1 b hb)))
    have hI4 := hst (i + 1) (ZL Z) W3 _ hI3 (kept_rec (.loop (rec .ready none)) hl3 (ZL Z) hZl)
    rw [grown_same (by simp)] at hI4
    refine ⟨⟨h1, h2, hl4, fun e => (hz D (.inr (.inr rfl)) e).trans (h4 e), ?_, hI4⟩, fun b hb => hz b (.inl hb) (fun e => h1 (e ▸ hb)), hk1'.trans ((keeps_rec hl1').trans (hk3.trans (keeps_rec hl3))), ?_⟩
    · simp at hs3 ⊢; omega
    · simp at hs3 ⊢; omega
  have hc := hit l J Z0 W1 (hk1.keeps fun b o hS => ⟨hSl b o hS, fun h => h⟩) hk1.size (fun b hb => Nat.lt_of_lt_of_le (hZ0 b hb) hk1.size) hstJ hyl hJ0
  refine callsR (hc.mono ?_)
  rintro e W3 ⟨⟨v, rfl⟩, Z', h1, h2, h3, h4, h5, h6⟩
  have he := run_endLoop (P := P) h3 (by rw [hr]; simp)
  have hI4 := hst n (ZL Z') W3 _ h6 (kept_rec (.loop { rec .ready none with state := .exhausted }) h3 (ZL Z') (.inr (.inl rfl)))
  rw [grown_same (by simp)] at hI4
  have hW5 : w.heap.size ≤ (W3.putObj l (.loop { rec .ready none with state := .exhausted })).heap.size := by simpa using h5
  have hW6 : D ≠ l → (W3.putObj l (.loop { rec .ready none with state := .exhausted })).heap[D]? = some (.deferred (some [])) := fun e => (World.putObj_heap_other e).trans (h4 e)
  obtain ⟨W4, hW4⟩ : ∃ W4, W3.putObj l (.loop { rec .ready none with state := .exhausted }) = W4 := ⟨_, rfl⟩
  rw [hW4] at hI4 hW5 hW6
  have hpe : (rec .ready none).pending = none := by rw [hr]
  have he2 : (Instr.endLoop l).run P W3 = .ok none W4 := by
    rw [← hW4]
    have := he
    rw [hpe] at this
    subst hr
    exact this
  exact ⟨none, W4, he2, hdone (ZL Z') W4 hI4 (fun e => ⟨.inr (.inr rfl), hW6 e⟩) hW5⟩

/-- THE STATEMENT 'for x := range g { .. }' that no jump leaves. -/
theorem range_law {P : Program} {ro : Option Nat} {g : Operand} {ps : Array Tmp} {assign body : Code} {Q : Exit → Act → World → Prop} {a : Act} {w : World} {k : FuncId} {vs : Array Value} {n : Nat} {enc : Nat → Value} {S : Stab} {p : Nat}
    (hg : a.eval g = .func (.func k) #[] vs) (hk : ∀ args w, (callFunc k args).run P w = .ok (.enter k args) w) (hin : ∀ l0, ro = some l0 → ∃ r0, w.heap[l0]? = some (.loop r0))
    (hps : ps = #[p]) (hit : IterZ P k vs n enc S w) (hSl : ∀ b o, S b o → b < w.heap.size)
    (I : JZ) (hst : StZ I) {Z0 : Nat → Prop} (hZ0 : ∀ b, Z0 b → b < w.heap.size) (h0 : I 0 Z0 w)
    (B : Nat → (Nat → Prop) → Act → World → Prop) (hB : ∀ i Z a W W', B i Z a W → Kept Z W W' → B i (grown Z W W') a W')
    (hassign : ∀ l i Z W, Z l → I i Z W → i < n → assign.wpIn (wideR (some l)) 0 P (fun e a1 W1 => e = .normal ∧ B i Z a1 W1 ∧ SameZ S Z W W1) { tmps := a.tmps.setIfInBounds p (enc i), defers := [] } W)
    (hbody : ∀ l i Z a1 W1, Z l → (∃ r, W1.heap[l]? = some (.loop r)) → B i Z a1 W1 → i < n → body.wpIn (wideR (some l)) 0 P (fun e _ W' => e = .normal ∧ I (i + 1) Z W' ∧ SameZ S Z W1 W') a1 W1)
    (hdone : ∀ (D : Nat) Z W, I n Z W → (ro = none → Z D ∧ W.heap[D]? = some (.deferred (some []))) → w.heap.size ≤ W.heap.size → Q .normal (match ro with
      | none => { a with defers := { target := .collected D, args := #[] } :: a.defers }
      | some _ => a) W) :
    (Code.rangeFunc g ps assign body).wpIn (wideR ro) 0 P Q a w := by
  refine wpIn_rangeFunc ?_
  intro fn hfn
  have hround : (wideR ro).round = ro := rfl
  rw [hround]
  cases ro with
  | none =>
    obtain ⟨W1, hW1⟩ : ∃ W1, (w.alloc (.deferred (some []))).alloc (.loop { state := .ready, pending := none, fn := fn, tmps := a.tmps, params := ps, assign := assign, body := body, defers := w.heap.size }) = W1 := ⟨_, rfl⟩
    have hs1 : W1.heap.size = w.heap.size + 2 := by rw [← hW1]; simp
    refine ⟨w.heap.size + 1, [{ target := .collected w.heap.size, args := #[] }], W1, { target := .fn (.func k) vs, args := #[.func (.yield (w.heap.size + 1)) #[] #[]] }, W1, k, #[.func (.yield (w.heap.size + 1)) #[] #[]] ++ vs, W1, ?_, ?_, fun _ _ => trivial, ?_, fun h => by simp [wideR, Fence.wide] at h, ?_⟩
    · rw [← hW1]; exact run_enterLoop_outer _ _ _ _ _
    · simp only [resolve, hg]
      simp [go_sem]
    · simp [invoke, go_sem, hk]
    · refine range_core (D := w.heap.size) (fn := fn) (df := w.heap.size) hps hit hSl I hst hZ0 h0 B hB hassign hbody (by omega) (by omega) (by omega) (fun b h1 h2 => by omega) ?_ (fun _ => ?_) ?_ (fun Z W h1 h2 h3 => hdone w.heap.size Z W h1 (fun _ => h2 (by omega)) h3)
      · rw [← hW1]; have := World.alloc_heap_new (w.alloc (.deferred (some []))) (.loop { state := .ready, pending := none, fn := fn, tmps := a.tmps, params := ps, assign := assign, body := body, defers := w.heap.size }); rwa [World.size_alloc] at this
      · rw [← hW1]; exact (heap_alloc_lt (by simp)).trans (World.alloc_heap_new w _)
      · rw [← hW1]; exact (kept_allocR w _).trans ((kept_allocR _ _))
  | some l0 =>
    obtain ⟨r0, hr0⟩ := hin l0 rfl
    obtain ⟨W1, hW1⟩ : ∃ W1, w.alloc (.loop { state := .ready, pending := none, fn := fn, tmps := a.tmps, params := ps, assign := assign, body := body, defers := r0.defers }) = W1 := ⟨_, rfl⟩
    have hs1 : W1.heap.size = w.heap.size + 1 := by rw [← hW1]; simp
    refine ⟨w.heap.size, [], W1, { target := .fn (.func k) vs, args := #[.func (.yield w.heap.size) #[] #[]] }, W1, k, #[.func (.yield w.heap.size) #[] #[]] ++ vs, W1, ?_, ?_, fun _ _ => trivial, ?_, fun h => by simp [wideR, Fence.wide] at h, ?_⟩
    · rw [← hW1]; exact run_enterLoop_inner hr0 _ _ _ _ _
    · simp only [resolve, hg]
      simp [go_sem]
    · simp [invoke, go_sem, hk]
    · refine range_core (D := w.heap.size) (fn := fn) (df := r0.defers) hps hit hSl I hst hZ0 h0 B hB hassign hbody (by omega) (by omega) (by omega) (fun b h1 h2 => by omega) ?_ (fun h => absurd rfl h) ?_ (fun Z W h1 h2 h3 => hdone w.heap.size Z W h1 (fun h => by cases h) h3)
      · rw [← hW1]; exact World.alloc_heap_new w _
      · rw [← hW1]; exact kept_allocR w _
end Go.Vs
set_option linter.unusedVariables false
set_option linter.unusedSimpArgs false
namespace Go.Vs

/-- A state that holds immutable values alone, told from here on. -/
def EnvS (σ : St) (a : Act) (W : World) (S : Stab) : Prop := σ.objs = [] ∧ SimG W S Ctx.nothing σ a W S (fun _ => Go.undef) (fun _ => none)
theorem SVRel.bare {w : World} {S : Stab} {μ μ' : Nat → Value} (x : SV) (v : Value) (h : SVRel w S μ [] x v) : SVRel w S μ' [] x v :=
  SVRel.same (fun id cells hc => by simp [look] at hc) (fun id cv s rows hc => by simp [look] at hc) (fun id s p hc => by simp [look] at hc) (fun id cv s rows ln hc => by simp [look] at hc) x v h
theorem EnvS.of {w0 W : World} {S0 S : Stab} {M : Ctx} {σ : St} {a : Act} {μ : Nat → Value} {β : Nat → Option Nat} (h : SimG w0 S0 M σ a W S μ β) (ho : σ.objs = []) (hd : M.df = []) : EnvS σ a W S :=
  ⟨ho, { defers := h.defers.trans hd, size := h.size, env := fun k => by have := h.env k; rw [ho] at this ⊢; exact SVRel.bare _ _ this, objs := fun id o hl => by rw [ho] at hl; simp [look] at hl, inj := fun id id' o o' b hl => by rw [ho] at hl; simp [look] at hl, own := fun id o b hl => by rw [ho] at hl; simp [look] at hl, unst := fun id o b off hl => by rw [ho] at hl; simp [look] at hl, stab := h.stab, ext := fun _ _ x => x, back := fun _ _ x => .inl x, kept := Kept.refl _ _, stay := fun _ _ _ => rfl, hist := fun p hp => by simp [Ctx.nothing] at hp, far := fun p hp => by simp [Ctx.nothing] at hp, glob := h.glob }⟩
theorem EnvS.keeps {σ : St} {a : Act} {W W' : World} {S : Stab} (h : EnvS σ a W S) (hk : Keeps S W W') (hs : W.heap.size ≤ W'.heap.size) : EnvS σ a W' S := by
  obtain ⟨ho, h⟩ := h
  exact ⟨ho, { defers := h.defers, size := h.size, env := fun k => SVRel.mono hk (fun _ _ x => x) _ _ (h.env k), objs := fun id o hl => by rw [ho] at hl; simp [look] at hl, inj := fun id id' o o' b hl => by rw [ho] at hl; simp [look] at hl, own := fun id o b hl => by rw [ho] at hl; simp [look] at hl, unst := fun id o b off hl => by rw [ho] at hl; simp [look] at hl, stab := fun b o hS => Nat.lt_of_lt_of_le (h.stab b o hS) hs, ext := fun _ _ x => x, back := fun _ _ x => .inl x, kept := Kept.refl _ _, stay := fun _ _ _ => rfl, hist := fun p hp => by simp [Ctx.nothing] at hp, far := fun p hp => by simp [Ctx.nothing] at hp, glob := fun p hp => RepGl.mono hk (fun _ _ x => x) (h.glob p hp) }⟩
theorem EnvS.put {σ : St} {a : Act} {W : World} {S : Stab} (h : EnvS σ a W S) {d : Nat} {x : IV} {v : Value} (hd : d < σ.n) (hv : Rep W S x v) : EnvS { σ with env := put σ.env d (.val x) } (a.put (some d) v) W S :=
  ⟨h.1, h.2.put hd hv⟩
/-- A piece of code, in a round or not. -/
theorem EnvS.piece {P : Program} {c : Code} {Q : Exit → St → Prop} {σ : St} {a : Act} {W : World} {S : Stab} {ro : Option Nat} (hT : TR P c (fun e σ' => ∃ σ1, Q e σ1 ∧ σ1.objs = [] ∧ Weak σ' σ1) σ) (h : EnvS σ a W S) :
    c.wpIn (wideR ro) 0 P (fun e a' W' => ∃ σ1 S', Q e σ1 ∧ σ1.n = σ.n ∧ EnvS σ1 a' W' S' ∧ (∀ b o, S b o → S' b o) ∧ (∀ b o, S' b o → S b o ∨ W.heap.size ≤ b) ∧ Kept (fun _ => False) W W') a W := by
  refine wpIn_mono (hT ro W S _ a W ⟨S, _, _, h.2⟩) (fun e a' W' hl => ?_)
  have fin : ∀ σ', (∃ σ1, Q e σ1 ∧ σ1.objs = [] ∧ Weak σ' σ1) → σ'.n = σ.n → Sim W S Ctx.nothing σ' a' W' → ∃ σ1 S', Q e σ1 ∧ σ1.n = σ.n ∧ EnvS σ1 a' W' S' ∧ (∀ b o, S b o → S' b o) ∧ (∀ b o, S' b o → S b o ∨ W.heap.size ≤ b) ∧ Kept (fun _ => False) W W' := by
    rintro σ' ⟨σ1, h1, h2, h3⟩ hn hs
    have hs1 := h3 _ _ _ _ _ hs
    have hn1 := sim_n hs hs1
    obtain ⟨S', μ', β', k⟩ := hs1
    refine ⟨σ1, S', h1, hn1.trans hn, EnvS.of k h2 rfl, k.ext, fun b o hS => ?_, k.kept⟩
    rcases k.back b o hS with q | q | q
    · exact .inl q
    · exact .inr q
    · exact q.elim
  cases e <;> first | exact hl.elim | (obtain ⟨σ', q1, q2, q3⟩ := hl; exact fin σ' q1 q2 q3)
/-- A box of immutable values that is written no more. -/
theorem weak_ref {σ : St} {k id : Nat} {cells : List IV} (hk : getE σ.env k = .loc id 0) (hl : look σ.objs id = some (.box (cells.map .val))) :
    Weak σ { σ with env := Vs.put σ.env k (.val (.ref cells)), ro := id :: σ.ro } := by
  rintro w0 S0 M a w ⟨S, μ, β, h⟩
  have hrel := h.env k
  rw [hk] at hrel
  obtain ⟨b, vs, e, fr, h1, h2, h3, h4, h5, h6⟩ := box_cells h hl hrel
  have h7 := h.freeze [id]
  refine ⟨_, μ, β, { h7 with env := fun k' => ?_ }⟩
  show SVRel w _ μ σ.objs (getE (Vs.put σ.env k (.val (.ref cells))) k') _
  rw [getE_put]
  split
  · next e =>
    subst e
    refine ⟨b, 0, h3, RepCells.intro (vs := vs.toList) (RepOnes.mono (Keeps.refl _ _) (fun _ _ x => .inl x) _ _ (SVOnes.toRep h6)) (fun j hj => .inr ⟨id, _, by simp, hl, h1, ?_⟩) (fun j v hj => ?_)⟩
    · intro ver s rows e; cases e
    · rw [cell_row h4]
      rw [Array.getElem?_toList] at hj
      simpa using hj
  · exact h7.env k'

/- YIELD. -/
theorem roundR {ro : Option Nat} {P : Program} {l : Nat} {f : FuncId} {tmps : Array Value} {assign body : Code} {w : World} {R : Ending → World → Prop} (h : RoundIn Fence.wide 0 P l f tmps assign body w R) : RoundIn (wideR ro) (0 - 1) P l f tmps assign body w R := by
  cases ro with
  | none => exact h
  | some l' => exact h
theorem yield_wp {P : Program} {ro : Option Nat} {o : Oper} {c : Call} {f x : Operand} {a : Act} {W : World} {l : Nat} {v : Value} {R : Ending → World → Prop} {next : Act → World → Prop} {Q : Exit → Act → World → Prop}
    (ho : o.op = .call c) (hcl : c.callee = .value f) (hargs : c.args = #[x]) (hf : a.eval f = .func (.yield l) #[] #[]) (hx : a.eval x = v)
    (hy : YieldAt Fence.wide 0 P l #[v] W R) (hR : ∀ e W', R e W' → e = .returned (.bool true) ∧ next (a.put o.dst (.bool true)) W') : o.wpIn (wideR ro) 0 P a W next Q := by
  refine ⟨fun _ _ => trivial, ?_⟩
  have hro : (wideR ro).round = ro := rfl
  rw [hro, Oper.semAt_eq _ _ _ (by intro c' hc; rw [ho] at hc; cases hc)]
  obtain ⟨fn, tmps, assign, body, hy1, hy2⟩ := hy
  have hrun : (execOp a.eval o).run P W = .ok (.round l fn tmps assign body) W := by
    simp only [execOp, ho, resolve, hcl, hargs, hf, Deferred.ofValue, Sem.run_bind, Sem.run_pure, Result.andThen_ok, invoke]
    simpa [hx] using hy1
  rw [hrun, Oper.uponIn_round]
  refine ⟨fun h => by simp [wideR, Fence.wide] at h, (roundR hy2).mono fun e W' hr => ?_⟩
  obtain ⟨rfl, hn⟩ := hR _ _ hr
  exact hn
/-- The operations ahead of one, in the order of the text. -/
theorem ops_pre {P : Program} {ro : Option Nat} {w0 : World} {S0 : Stab} {M : Ctx} {ops : Array Oper} {vs : List VOper} (hc : compOpers P ops ops.toList = some (stripOps vs)) (hnd : opsNoDef ops.toList = true) {n : Nat} {Q : Exit → Act → World → Prop} (hQ : ∀ a w, ¬ Q .outgrown a w) {K : St → Prop} {rest : List Nat}
    (hQ2 : ∀ σ' a' w', K σ' → σ'.n = n → Sim w0 S0 M σ' a' w' → wpOpsIn (wideR ro) 0 P ops Q rest a' w') : ∀ (l : List VOper) (k : Nat) (σ' : St) (a : Act) (w : World), (∀ i, i < l.length → l[i]? = vs[k + i]?) → σ'.n = n → Sim w0 S0 M σ' a w → (∀ v ∈ l, ∀ d, v.dst = some d → d < n) → runM P K l σ' → wpOpsIn (wideR ro) 0 P ops Q (List.range' k l.length ++ rest) a w := by
  obtain ⟨hlen, hget⟩ := compOpers_get hc
  rw [stripOps_length] at hlen
  intro l
  induction l with
  | nil =>
    intro k σ' a w _ hn h _ hs
    exact hQ2 σ' a w hs hn h
  | cons v r ih =>
    intro k σ' a w hl hn h hd hs
    have hv : vs[k]? = some v := by simpa using (hl 0 (by simp)).symm
    have hk : k < ops.toList.length := by
      rw [← hlen]
      rcases Nat.lt_or_ge k vs.length with hh | hh
      · exact hh
      · simp [List.getElem?_eq_none hh] at hv
    obtain ⟨v', hv', hcv⟩ := hget k ops.toList[k] (List.getElem?_eq_getElem hk)
    rw [stripOps_get, hv] at hv'
    obtain rfl : v' = v.strip := (Option.some.inj hv').symm
    simp only [List.length_cons, List.range'_succ, List.cons_append]
    rw [wpOpsIn_cons]
    refine wpOp_in (Q := Q) hQ hnd (fun a' w' h' => h') (stepM_sound (Q := Q) (o := ops.toList[k]) (by rw [← Array.getElem?_toList]; exact List.getElem?_eq_getElem hk) hcv h (fun d hdd => by rw [hn]; exact hd v (by simp) d hdd) hs (fun σ'' a' w' h1 hn' h' => ?_))
    exact ih (k + 1) σ'' a' w' (fun i hi => by have := hl (i + 1) (by simp; omega); simpa [Nat.add_assoc, Nat.add_comm 1 i] using this) (hn'.trans hn) h' (fun x hx d hxd => hd x (List.mem_cons_of_mem _ hx) d hxd) h1
end Go.Vs
set_option linter.unusedVariables false
set_option linter.unusedSimpArgs false
namespace Go.Vs

/-- So many rounds are over; the state; the blocks that are the iterator's own, those of before as they were. -/
def At (J : JZ) (S0 : Stab) (Wb : World) (Zb : Nat → Prop) (σ : St) (p : Nat) (a : Act) (W : World) : Prop :=
  ∃ Z S, J p Z W ∧ (∀ b, Z b → b < W.heap.size) ∧ EnvS σ a W S ∧ (∀ b o, S b o → S0 b o ∨ Z b) ∧ (∀ b, Zb b → Z b ∧ W.heap[b]? = Wb.heap[b]?) ∧ Keeps S0 Wb W ∧ Wb.heap.size ≤ W.heap.size
section
variable {P : Program} {J : JZ} {S0 : Stab} {Wb : World} {Zb : Nat → Prop} {l n : Nat} {enc : Nat → Value}
theorem At.base {σ : St} {p : Nat} {a : Act} {W : World} {Z : Nat → Prop} {S : Stab} (h1 : J p Z W) (h2 : ∀ b, Z b → b < W.heap.size) (h3 : EnvS σ a W S) (h4 : ∀ b o, S b o → S0 b o ∨ Z b) : At J S0 W Z σ p a W :=
  ⟨Z, S, h1, h2, h3, h4, fun b hb => ⟨hb, rfl⟩, Keeps.refl _ _, Nat.le_refl _⟩
theorem At.move {σ : St} {p p' : Nat} {a : Act} {W W' : World} (h : At J S0 Wb Zb σ p a W) (hj : ∀ Z, J p Z W → (∀ b, Z b → b < W.heap.size) → ∃ Z', J p' Z' W' ∧ (∀ b, Z' b → b < W'.heap.size) ∧ (∀ b, Z b → Z' b ∧ W'.heap[b]? = W.heap[b]?)) (hk : Keeps S0 W W') (hs : W.heap.size ≤ W'.heap.size) (hsh : ∀ k x, W.shape? k = some x → W'.shape? k = some x) : At J S0 Wb Zb σ p' a W' := by
  obtain ⟨Z, S, h1, h2, h3, h4, h5, h6, h7⟩ := h
  obtain ⟨Z', k1, k2, k3⟩ := hj Z h1 h2
  refine ⟨Z', S, k1, k2, h3.keeps ⟨fun b o hS => ?_, hsh⟩ hs, fun b o hS => (h4 b o hS).imp _root_.id (fun hz => (k3 b hz).1), fun b hb => ⟨(k3 b (h5 b hb).1).1, (k3 b (h5 b hb).1).2.trans (h5 b hb).2⟩, h6.trans hk, Nat.le_trans h7 hs⟩
  rcases h4 b o hS with q | q
  · exact hk.1 b o q
  · exact cell_of_heap (k3 b q).2 o
/-- A piece of code without calls of yield. -/
theorem At.piece {c : Code} {Q : Exit → St → Prop} {σ : St} {p : Nat} {a : Act} {W : World} {ro : Option Nat} (hst : StZ J) (hS0 : ∀ b o, S0 b o → b < W.heap.size) (hT : TR P c (fun e σ' => ∃ σ1, Q e σ1 ∧ σ1.objs = [] ∧ Weak σ' σ1) σ) (h : At J S0 Wb Zb σ p a W) :
    c.wpIn (wideR ro) 0 P (fun e a' W' => ∃ σ1, Q e σ1 ∧ σ1.n = σ.n ∧ At J S0 Wb Zb σ1 p a' W' ∧ Kept (fun _ => False) W W') a W := by
  obtain ⟨Z, S, h1, h2, h3, h4, h5, h6, h7⟩ := h
  refine wpIn_mono (h3.piece hT) ?_
  rintro e a' W' ⟨σ1, S', k1, k2, k3, k4, k5, k6⟩
  have hz : ∀ b, Z b → W'.heap[b]? = W.heap[b]? := fun b hb => k6.block b (h2 b hb) (fun x => x)
  refine ⟨σ1, k1, k2, ⟨grown Z W W', S', hst p Z W W' h1 (k6.weaken fun _ x => x.elim), ?_, k3, fun b o hS => ?_, fun b hb => ⟨.inl (h5 b hb).1, (hz b (h5 b hb).1).trans (h5 b hb).2⟩, h6.trans (k6.keeps fun b o hS => ⟨hS0 b o hS, fun x => x⟩), Nat.le_trans h7 k6.size⟩, k6⟩
  · rintro b (hb | hb)
    · exact Nat.lt_of_lt_of_le (h2 b hb) k6.size
    · exact hb.2
  · rcases k5 b o hS with q | q
    · rcases h4 b o q with q | q
      · exact .inl q
      · exact .inr (.inl q)
    · exact .inr (.inr ⟨q, k3.2.stab b o hS⟩)
/-- A region that calls yield once. -/
theorem At.yielded {id : Nat} {os : Array Oper} {pre post : List VOper} {y : VOper} {f x : Opd} {d : Nat} {σ σ1 : St} {K : St → Prop} {t : Int} {p : Nat} {a : Act} {W : World} {ro : Option Nat}
    (hst : StZ J) (hyz : YZ P l S0 enc n J) (hS0 : ∀ b o, S0 b o → b < W.heap.size)
    (hc : compOpers P os os.toList = some (stripOps (pre ++ y :: post))) (hnd : opsNoDef os.toList = true) (hbnd : bndOps σ.n (pre ++ y :: post) = true)
    (hy0 : y.op = .callV f [x]) (hyd : y.dst = some d) (hyg : y.guard = none ∨ ∃ g, y.guard = some (g, true) ∧ getE σ1.env g = .val (.bool true))
    (hpre : runM P (fun σ' => σ' = σ1) pre σ) (ho1 : σ1.objs = []) (hf : val σ1 f = .val (.yld l)) (hx : val σ1 x = .val (.int .i64 t)) (ht : enc p = .int .i64 t) (hp : p < n)
    (hpost : runM P (fun σ' => ∃ σ3, K σ3 ∧ σ3.objs = [] ∧ Weak σ' σ3) post { σ1 with env := Vs.put σ1.env d (.val (.bool true)) }) (h : At J S0 Wb Zb σ p a W) :
    (Code.region id os false).wpIn (wideR ro) 0 P (fun e a' W' => e = .normal ∧ ∃ σ3, K σ3 ∧ σ3.n = σ.n ∧ At J S0 Wb Zb σ3 (p + 1) a' W') a W := by
  obtain ⟨hlen, hget⟩ := compOpers_get hc
  rw [stripOps_length] at hlen
  have hsize : os.size = pre.length + 1 + post.length := by
    have : os.toList.length = os.size := by simp
    rw [← this, ← hlen]; simp; omega
  have hQ : ∀ a' w', ¬ (fun (e : Exit) (a' : Act) (W' : World) => e = Exit.normal ∧ ∃ σ3, K σ3 ∧ σ3.n = σ.n ∧ At J S0 Wb Zb σ3 (p + 1) a' W') .outgrown a' w' := by
    rintro a' w' ⟨h, _⟩
    cases h
  refine wpIn_region ?_
  have hr : List.range os.size = List.range' 0 pre.length ++ (pre.length :: (List.range' (pre.length + 1) post.length ++ [])) := by
    rw [hsize, List.range_eq_range', List.append_nil, show pre.length + 1 + post.length = pre.length + (1 + post.length) by omega, ← List.range'_append_1, Nat.zero_add]
    congr 1
    rw [show 1 + post.length = post.length + 1 by omega, List.range'_succ]
  rw [hr]
  have hdb := bndOps_spec hbnd
  obtain ⟨Z, S, h1, h2, h3, h4, h5, h6, h7⟩ := h
  refine ops_pre (w0 := W) (S0 := S) (M := Ctx.nothing) (n := σ.n) (K := fun σ' => σ' = σ1) hc hnd hQ ?_ pre 0 σ a W (fun i hi => by rw [Nat.zero_add, List.getElem?_append_left hi]) rfl ⟨S, _, _, h3.2⟩ (fun v hv => hdb v (by simp [hv])) hpre
  rintro σ' a1 W1 hσ hn1 ⟨S1, μ1, β1, hs1⟩
  obtain rfl : σ1 = σ' := hσ.symm
  -- the state ahead of the call
  have hE1 := EnvS.of hs1 ho1 rfl
  have hk1 : Kept (fun _ => False) W W1 := hs1.kept
  have hz1 : ∀ b, Z b → W1.heap[b]? = W.heap[b]? := fun b hb => hk1.block b (h2 b hb) (fun x => x)
  have hJ1 := hst p Z W W1 h1 (hk1.weaken fun _ x => x.elim)
  have hS1 : ∀ b o, S1 b o → S0 b o ∨ grown Z W W1 b := fun b o hS => by
    rcases hs1.back b o hS with q | q | q
    · rcases h4 b o q with q | q
      · exact .inl q
      · exact .inr (.inl q)
    · exact .inr (.inr ⟨q, hs1.stab b o hS⟩)
    · exact q.elim
  have hlt : pre.length < os.toList.length := by rw [← hlen]; simp
  obtain ⟨v, hv1, hv2⟩ := hget pre.length _ (List.getElem?_eq_getElem hlt)
  obtain rfl : v = y.strip := by
    rw [stripOps_get, List.getElem?_append_right (Nat.le_refl _)] at hv1
    simpa using hv1.symm
  have ho : os[pre.length]? = some os.toList[pre.length] := by rw [← Array.getElem?_toList]; exact List.getElem?_eq_getElem hlt
  obtain ⟨oo, hoo⟩ : ∃ oo, os.toList[pre.length] = oo := ⟨_, rfl⟩
  rw [hoo] at ho hv2
  obtain ⟨q1, q2, q3⟩ := compOper_parts hv2
  have q1 : oo.dst = some d := by rw [← q1]; exact hyd
  have q2 : compOp P oo.op = some (.callV f [x]) := by rw [q2]; show some y.op.strip = _; rw [hy0]; rfl
  have q3 : compGuard os oo.guard = some y.guard := q3
  obtain ⟨c, hoc, hcc⟩ := compOp_call q2 (.inr ⟨_, _, rfl⟩)
  obtain ⟨f', hcl, hf', hargs⟩ := (compCall_value hcc).2 _ _ rfl
  obtain ⟨x', hx1, hx2⟩ : ∃ x', c.args = #[x'] ∧ compOpd x' = some x := by
    cases hal : c.args.toList with
    | nil => rw [hal] at hargs; simp [compOpds] at hargs
    | cons z r =>
      rw [hal] at hargs
      simp only [compOpds] at hargs
      split at hargs
      · next u us g1 g2 =>
        simp only [Option.some.injEq, List.cons.injEq] at hargs
        obtain ⟨rfl, rfl⟩ := hargs
        have hr : r = [] := by
          cases r with
          | nil => rfl
          | cons z' r' =>
            simp only [compOpds] at g2
            split at g2 <;> simp at g2
        subst hr
        exact ⟨z, by apply Array.toList_inj.1; rw [hal], g1⟩
      · simp at hargs
  have hev : a1.eval f' = .func (.yield l) #[] #[] := by
    have := opd_sound hs1 hf'
    rw [hf] at this
    exact this
  have hex : a1.eval x' = enc p := by
    have := opd_sound hs1 hx2
    rw [hx] at this
    rw [ht]
    exact this
  have hw : Region.wanted oo (Go.yielded os a1.tmps) = true := by
    cases hgo : oo.guard with
    | none => simp [Region.wanted, hgo]
    | some pr =>
      obtain ⟨j, b⟩ := pr
      rw [hgo] at q3
      simp only [compGuard] at q3
      split at q3
      · next g hg =>
        rcases hyg with hyg | ⟨g', hyg, hge⟩
        · rw [hyg] at q3; simp at q3
        · rw [hyg] at q3
          simp only [Option.some.injEq, Prod.mk.injEq] at q3
          obtain ⟨rfl, rfl⟩ := q3
          have hgv : Go.yielded os a1.tmps j = some true := yielded_gval hg (w0 := W) (S0 := S) (M := Ctx.nothing) ⟨S1, μ1, β1, hs1⟩ (by rw [hge]; rfl)
          simp [Region.wanted, hgo, hgv]
      · simp at q3
  rw [wpOpsIn_cons]
  unfold wpOpIn
  rw [ho]
  dsimp only
  rw [if_pos hw]
  refine yield_wp hoc hcl hx1 hev hex (hyz p _ W1 hJ1 hp) ?_
  rintro e W2 ⟨rfl, hJ2, hz2, hk2, hsz2⟩
  refine ⟨rfl, ?_⟩
  -- the state behind it
  have hE2 : EnvS σ1 a1 W2 S1 := hE1.keeps ⟨fun b o hS => by
    rcases hS1 b o hS with q | q
    · exact hk2.1 b o q
    · exact cell_of_heap (hz2 b q) o, hk2.2⟩ hsz2
  have hdn : d < σ1.n := by rw [hn1]; exact hdb y (by simp) d hyd
  have hE3 := hE2.put (x := .bool true) (v := .bool true) hdn rfl
  rw [q1]
  refine ops_pre (w0 := W2) (S0 := S1) (M := Ctx.nothing) (n := σ.n) hc hnd hQ ?_ post (pre.length + 1) { σ1 with env := Vs.put σ1.env d (.val (.bool true)) } _ W2 (fun i hi => by
    rw [List.getElem?_append_right (by omega), show pre.length + 1 + i - pre.length = i + 1 by omega]; rfl) hn1 ⟨S1, _, _, hE3.2⟩ (fun v hv => hdb v (by simp [hv])) hpost
  rintro σ4 a4 W4 ⟨σ3, g1, g2, g3⟩ hn4 hs4
  have hs3 := g3 _ _ _ _ _ hs4
  have hn3 := sim_n hs4 hs3
  obtain ⟨S3, μ3, β3, k⟩ := hs3
  have hk4 : Kept (fun _ => False) W2 W4 := k.kept
  have hbd : ∀ b, grown Z W W1 b → b < W2.heap.size := by
    rintro b (hb | hb)
    · have := h2 b hb; have := hk1.size; omega
    · omega
  refine ⟨rfl, σ3, g1, hn3.trans hn4, grown (grown Z W W1) W2 W4, S3, hst (p + 1) _ W2 W4 hJ2 (hk4.weaken fun _ x => x.elim), ?_, EnvS.of k g2 rfl, fun b o hS => ?_, fun b hb => ?_, ?_, ?_⟩
  · rintro b (hb | hb)
    · have := hbd b hb; have := hk4.size; omega
    · exact hb.2
  · rcases k.back b o hS with q | q | q
    · rcases hS1 b o q with q | q
      · exact .inl q
      · exact .inr (.inl q)
    · exact .inr (.inr ⟨q, k.stab b o hS⟩)
    · exact q.elim
  · have e1 : grown Z W W1 b := .inl (h5 b hb).1
    refine ⟨.inl e1, ?_⟩
    rw [hk4.block b (hbd b e1) (fun x => x), hz2 b e1, hz1 b (h5 b hb).1]
    exact (h5 b hb).2
  · exact h6.trans ((hk1.keeps fun b o hS => ⟨hS0 b o hS, fun x => x⟩).trans (hk2.trans (hk4.keeps fun b o hS => ⟨by have := hS0 b o hS; have := hk1.size; omega, fun x => x⟩)))
  · have := hk1.size; have := hk4.size; omega
end
end Go.Vs
set_option linter.unusedVariables false
set_option linter.unusedSimpArgs false
namespace Go.Vs
/-- An iterator over values that are read, whatever memory they lie in. -/
def IterOk (P : Program) (k : FuncId) (caps : List IV) (m : Nat) (enc : Nat → Value) : Prop := ∀ (W : World) (S : Stab) (vs : Array Value), (∀ b o, S b o → b < W.heap.size) → RepList W S caps vs.toList → IterZ P k vs m enc S W
section
variable {P : Program} {J : JZ} {S0 : Stab} {Wb : World} {Zb : Nat → Prop}
theorem At.range {ro : Option Nat} {tg pp : Nat} {ps : Array Tmp} {assign body : Code} {k : FuncId} {caps : List IV} {m : Nat} {elem : Nat → Int} {σ : St} {σb : Nat → St} {pi : Nat → Nat} {a : Act} {W : World}
    (hst : StZ J) (hS0 : ∀ b o, S0 b o → b < Wb.heap.size) (hg : getE σ.env tg = .val (.fn k caps)) (htg : tg < σ.n) (hpp : pp < σ.n) (hps : ps = #[pp]) (hk : ∀ args w, (callFunc k args).run P w = .ok (.enter k args) w)
    (hit : IterOk P k caps m fun i => .int .i64 (elem i)) (hin : ∀ l0, ro = some l0 → ∃ r0, W.heap[l0]? = some (.loop r0))
    (hassign : ∀ i, i < m → TR P assign (fun e σ' => ∃ σ1, (e = .normal ∧ σ1 = σb i) ∧ σ1.objs = [] ∧ Weak σ' σ1) { σ with env := Vs.put σ.env pp (.val (.int .i64 (elem i))) })
    (hbody : ∀ i, i < m → ∀ (l : Nat) (Wb' : World) (Zb' : Nat → Prop) (a' : Act) (W' : World), (∃ r, W'.heap[l]? = some (.loop r)) → (∀ b o, S0 b o → b < Wb'.heap.size) → At J S0 Wb' Zb' (σb i) (pi i) a' W' → body.wpIn (wideR (some l)) 0 P (fun e a'' W'' => e = .normal ∧ ∃ σ3, At J S0 Wb' Zb' σ3 (pi (i + 1)) a'' W'') a' W')
    (h : At J S0 Wb Zb σ (pi 0) a W) :
    (Code.rangeFunc (.tmp tg) ps assign body).wpIn (wideR ro) 0 P (fun e a' W' => e = .normal ∧ (match ro with
      | some _ => At J S0 Wb Zb σ (pi m) a' W'
      | none => ∃ Z' D, J (pi m) Z' W' ∧ Z' D ∧ a'.defers = [{ target := .collected D, args := #[] }] ∧ W'.heap[D]? = some (.deferred (some [])))) a W := by
  obtain ⟨Ze, S, h1, h2, h3, h4, h5, h6, h7⟩ := h
  have hS0W : ∀ b o, S0 b o → b < W.heap.size := fun b o hS => Nat.lt_of_lt_of_le (hS0 b o hS) h7
  have hstab := h3.2.stab
  have hdf : a.defers = [] := h3.2.defers
  have hsz : a.tmps.size = σ.n := h3.2.size
  obtain ⟨vs, hvs, hrep⟩ : ∃ vs, a.eval (.tmp tg) = .func (.func k) #[] vs ∧ RepList W S caps vs.toList := by
    have := h3.2.env tg
    rw [hg] at this
    obtain ⟨vs, e1, e2⟩ := this
    refine ⟨vs, ?_, e2⟩
    have hlt : tg < a.tmps.size := by rw [hsz]; exact htg
    simp [Array.getD, hlt] at e1
    simp [Act.eval, hlt, e1]
  -- between two rounds
  let Jb : Nat → (Nat → Prop) → World → Prop := fun p Zo W' => J p Zo W' ∧ (∀ b, Zo b → b < W'.heap.size) ∧ (∀ b, Ze b → Zo b ∧ W'.heap[b]? = W.heap[b]?) ∧ Keeps S0 W W' ∧ W.heap.size ≤ W'.heap.size
  let I : JZ := fun i Z1 W' => ∃ Zo, Jb (pi i) Zo W' ∧ (∀ b, Z1 b → Zo b) ∧ ∀ b, Z1 b → W.heap.size ≤ b
  have jst : ∀ {p : Nat} {Zo Z1 : Nat → Prop} {W1 W2 : World}, Jb p Zo W1 → (∀ b, Z1 b → Zo b) → (∀ b, Z1 b → W.heap.size ≤ b) → Kept Z1 W1 W2 → Jb p (grown Zo W1 W2) W2 := by
    rintro p Zo Z1 W1 W2 ⟨j1, j2, j3, j4, j5⟩ hz hzw hk
    refine ⟨hst p Zo W1 W2 j1 (hk.weaken hz), ?_, fun b hb => ⟨.inl (j3 b hb).1, ?_⟩, j4.trans (hk.keeps fun b o hS => ⟨Nat.lt_of_lt_of_le (hS0W b o hS) j5, fun hz' => by have := hzw b hz'; have := hS0W b o hS; omega⟩), Nat.le_trans j5 hk.size⟩
    · rintro b (hb | hb)
      · exact Nat.lt_of_lt_of_le (j2 b hb) hk.size
      · exact hb.2
    · exact (hk.block b (j2 b (j3 b hb).1) (fun hz' => by have := hzw b hz'; have := h2 b hb; omega)).trans (j3 b hb).2
  have gz : ∀ {Zo Z1 : Nat → Prop} {W1 W2 : World}, (∀ b, Z1 b → Zo b) → ∀ b, grown Z1 W1 W2 b → grown Zo W1 W2 b := fun hz b hb => hb.imp (hz b) _root_.id
  have gw : ∀ {Z1 : Nat → Prop} {W1 W2 : World}, W.heap.size ≤ W1.heap.size → (∀ b, Z1 b → W.heap.size ≤ b) → ∀ b, grown Z1 W1 W2 b → W.heap.size ≤ b := fun hs hz b hb => hb.elim (hz b) (fun hb => Nat.le_trans hs hb.1)
  have envS : ∀ {p : Nat} {Zo : Nat → Prop} {W' : World}, Jb p Zo W' → EnvS σ a W' S := by
    rintro p Zo W' ⟨j1, j2, j3, j4, j5⟩
    refine h3.keeps ⟨fun b o hS => ?_, j4.2⟩ j5
    rcases h4 b o hS with q | q
    · exact j4.1 b o q
    · exact cell_of_heap (j3 b q).2 o
  let B : Nat → (Nat → Prop) → Act → World → Prop := fun i Z1 a1 W1 => ∃ Zo S1, Jb (pi i) Zo W1 ∧ (∀ b, Z1 b → Zo b) ∧ (∀ b, Z1 b → W.heap.size ≤ b) ∧ EnvS (σb i) a1 W1 S1 ∧ ∀ b o, S1 b o → (S0 b o ∨ Zo b) ∧ ¬ Z1 b
  have hI0 : I 0 (fun _ => False) W := ⟨Ze, ⟨h1, h2, fun b hb => ⟨hb, rfl⟩, Keeps.refl _ _, Nat.le_refl _⟩, fun b hb => hb.elim, fun b hb => hb.elim⟩
  refine range_law (S := S) (p := pp) hvs hk hin hps (hit W S vs hstab hrep) hstab I ?_ (Z0 := fun _ => False) (fun b hb => hb.elim) hI0 B ?_ ?_ ?_ ?_
  · rintro i Z1 W1 W2 ⟨Zo, j, hz, hzw⟩ hk'
    exact ⟨_, jst j hz hzw hk', gz hz, gw j.2.2.2.2 hzw⟩
  · rintro i Z1 a1 W1 W2 ⟨Zo, S1, j, hz, hzw, he, hs1⟩ hk'
    refine ⟨_, S1, jst j hz hzw hk', gz hz, gw j.2.2.2.2 hzw, he.keeps (hk'.keeps fun b o hS => ⟨he.2.stab b o hS, (hs1 b o hS).2⟩) hk'.size, fun b o hS => ⟨(hs1 b o hS).1.imp _root_.id .inl, ?_⟩⟩
    rintro (hb | hb)
    · exact (hs1 b o hS).2 hb
    · have := he.2.stab b o hS; omega
  · rintro l i Z1 W1 hl ⟨Zo, j, hz, hzw⟩ hi
    have he := envS j
    have hep := he.put (d := pp) (x := .int .i64 (elem i)) (v := .int .i64 (elem i)) hpp rfl
    have hact : a.put (some pp) (.int .i64 (elem i)) = { tmps := a.tmps.setIfInBounds pp (.int .i64 (elem i)), defers := [] } := by
      simp [Act.put, hdf]
    rw [hact] at hep
    refine wpIn_mono (hep.piece (hassign i hi)) ?_
    rintro e a1 W2 ⟨σ1, S1, ⟨rfl, rfl⟩, hn, k1, k2, k3, k4⟩
    have k4' : Kept Z1 W1 W2 := k4.weaken fun _ x => x.elim
    refine ⟨rfl, ⟨_, S1, jst j hz hzw k4', fun b hb => .inl (hz b hb), hzw, k1, fun b o hS => ?_⟩, fun b hb => k4.block b (j.2.1 b (hz b hb)) (fun x => x), k4.keeps fun b o hS => ⟨Nat.lt_of_lt_of_le (hstab b o hS) j.2.2.2.2, fun x => x⟩, k4.size⟩
    rcases k3 b o hS with q | q
    · refine ⟨(h4 b o q).imp _root_.id (fun hz' => .inl (j.2.2.1 b hz').1), fun hb => ?_⟩
      have := hzw b hb; have := hstab b o q; omega
    · refine ⟨.inr (.inr ⟨q, k1.2.stab b o hS⟩), fun hb => ?_⟩
      have := j.2.1 b (hz b hb); omega
  · rintro l i Z1 a1 W1 hl hr ⟨Zo, S1, j, hz, hzw, he, hs1⟩ hi
    have hat : At J S0 W1 Zo (σb i) (pi i) a1 W1 := At.base j.1 j.2.1 he (fun b o hS => (hs1 b o hS).1)
    refine wpIn_mono (hbody i hi l W1 Zo a1 W1 hr (fun b o hS => Nat.lt_of_lt_of_le (hS0W b o hS) j.2.2.2.2) hat) ?_
    rintro e a2 W2 ⟨rfl, σ3, Z', S', g1, g2, g3, g4, g5, g6, g7⟩
    refine ⟨rfl, ⟨Z', ⟨g1, g2, fun b hb => ⟨(g5 b (j.2.2.1 b hb).1).1, (g5 b (j.2.2.1 b hb).1).2.trans (j.2.2.1 b hb).2⟩, j.2.2.2.1.trans g6, Nat.le_trans j.2.2.2.2 g7⟩, fun b hb => (g5 b (hz b hb)).1, hzw⟩, fun b hb => (g5 b (hz b hb)).2, ⟨fun b o hS => ?_, g6.2⟩, g7⟩
    rcases h4 b o hS with q | q
    · exact g6.1 b o q
    · exact cell_of_heap (g5 b (j.2.2.1 b q).1).2 o
  · rintro D Z1 W' ⟨Zo, j, hz, hzw⟩ hD hs
    refine ⟨rfl, ?_⟩
    cases ro with
    | none => exact ⟨Zo, D, j.1, hz D (hD rfl).1, by rw [hdf], (hD rfl).2⟩
    | some l0 =>
      have he := envS j
      exact ⟨Zo, S, j.1, j.2.1, he, fun b o hS => (h4 b o hS).imp _root_.id (fun q => (j.2.2.1 b q).1), fun b hb => ⟨(j.2.2.1 b (h5 b hb).1).1, (j.2.2.1 b (h5 b hb).1).2.trans (h5 b hb).2⟩, h6.trans j.2.2.2.1, Nat.le_trans h7 j.2.2.2.2⟩
end
end Go.Vs
set_option linter.unusedVariables false
set_option linter.unusedSimpArgs false
namespace Go.Vs
/- The parts of code, by those of the small code. -/
def VOp.fair : VOp → Bool
  | .bad => false
  | _ => true
def opsFair : List VOper → Bool
  | [] => true
  | o :: r => VOp.fair o.op && opsFair r
def VCode.fair : VCode → Bool
  | .region ops _ _ => opsFair ops
  | .seq a b => a.fair && b.fair
  | .cond _ a b => a.fair && b.fair
  | .block _ a => a.fair
  | _ => true
theorem opsFair_get : ∀ {l : List VOper}, opsFair l = true → ∀ v ∈ l, VOp.fair v.op = true
  | [], _, v, hv => by simp at hv
  | o :: r, h, v, hv => by
    simp only [opsFair, Bool.and_eq_true] at h
    rcases List.mem_cons.1 hv with rfl | hv
    · exact h.1
    · exact opsFair_get h.2 v hv
theorem opsNoDef_of {P : Program} {os : Array Oper} {vs : List VOper} (h : compOpers P os os.toList = some vs) (hf : opsFair vs = true) : opsNoDef os.toList = true := by
  obtain ⟨hlen, hget⟩ := compOpers_get h
  unfold opsNoDef
  rw [List.all_eq_true]
  intro o ho
  obtain ⟨i, hi⟩ := List.getElem?_of_mem ho
  obtain ⟨v, hv1, hv2⟩ := hget i o hi
  obtain ⟨_, q2, _⟩ := compOper_parts hv2
  have hfv := opsFair_get hf v (List.mem_of_getElem? hv1)
  cases hop : o.op with
  | defer c =>
    exfalso
    rw [hop] at q2
    have : v.op = .bad := by
      have e : compOp P (.defer c) = some .bad := rfl
      rw [e] at q2
      exact (Option.some.inj q2).symm
    rw [this] at hfv
    cases hfv
  | _ => rfl
theorem noDef_of {P : Program} : ∀ (v : VCode) {c : Code}, comp P c = some v → v.fair = true → codeNoDef c = true := by
  intro v
  induction v with
  | region ops mode dead =>
    intro c h hf
    have hd : dead = [] := comp_cases h
    subst hd
    obtain ⟨id, os, draw, rfl, hv, _⟩ := comp_strip_region h
    exact opsNoDef_of hv hf
  | seq x y ihx ihy =>
    intro c h hf
    obtain ⟨a, b, rfl, h1, h2⟩ := comp_cases h
    simp only [VCode.fair, Bool.and_eq_true] at hf
    simp only [codeNoDef, Bool.and_eq_true]
    exact ⟨ihx h1 hf.1, ihy h2 hf.2⟩
  | cond u x y ihx ihy =>
    intro c h hf
    obtain ⟨o, a, b, rfl, _, h1, h2⟩ := comp_cases h
    simp only [VCode.fair, Bool.and_eq_true] at hf
    simp only [codeNoDef, Bool.and_eq_true]
    exact ⟨ihx h1 hf.1, ihy h2 hf.2⟩
  | block id x ih =>
    intro c h hf
    obtain ⟨a, rfl, h1⟩ := comp_cases h
    show codeNoDef a = true
    exact ih h1 hf
  | loop x _ => intro c h hf; obtain ⟨a, rfl, _⟩ := comp_cases h; rfl
  | scope x _ => intro c h hf; obtain ⟨a, rfl, _⟩ := comp_cases h; rfl
  | skip => intro c h hf; have e : c = Code.skip := comp_cases h; subst e; rfl
  | exit id => intro c h hf; have e : c = Code.exit id := comp_cases h; subst e; rfl
  | label l => intro c h hf; have e : c = Code.label l := comp_cases h; subst e; rfl
  | goto l => intro c h hf; have e : c = Code.goto l := comp_cases h; subst e; rfl
  | ret => intro c h hf; have e : c = Code.ret := comp_cases h; subst e; rfl
  | refuse => intro c h hf; obtain ⟨w, rfl⟩ := comp_cases h; rfl
  | cut x _ => intro c h hf; exact (comp_cases h).elim
section
variable {P : Program} {c : Code}
theorem seqP {x y : VCode} (h : comp P c = some (VCode.seq x y).strip) : ∃ a b, c = .seq a b ∧ comp P a = some x.strip ∧ comp P b = some y.strip := comp_cases h
theorem blockP {id : Nat} {x : VCode} (h : comp P c = some (VCode.block id x).strip) : ∃ a, c = .block id a ∧ comp P a = some x.strip := comp_cases h
theorem loopP {x : VCode} (h : comp P c = some (VCode.loop x).strip) : ∃ a, c = .loop a ∧ comp P a = some x.strip := comp_cases h
theorem regP {ops : List VOper} {dead : List Nat} (h : comp P c = some (VCode.region ops .text dead).strip) : ∃ id os, c = .region id os false ∧ compOpers P os os.toList = some (stripOps ops) := by
  obtain ⟨id, os, draw, rfl, hv, hm⟩ := comp_strip_region (ops := stripOps ops) (mode := .text) h
  rcases hm with ⟨rfl, _⟩ | ⟨_, _, _, _, ⟨h, _⟩ | h⟩
  · exact ⟨id, os, rfl, hv⟩
  · cases h
  · cases h
end
/-- A piece of code takes a state to a state, by this way out. -/
def DoesC (P : Program) (c : Code) (σ : St) (e : Exit) (σ1 : St) : Prop := TR P c (fun e' σ' => ∃ σ2, (e' = e ∧ σ2 = σ1) ∧ σ2.objs = [] ∧ Weak σ' σ2) σ
theorem does_pw {P : Program} (hm : P.follows .mixedOrders = true) (v : VCode) {c : Code} {σ σ1 : St} {e : Exit} (hc : comp P c = some v.strip) (h : pw P v (fun e' σ' => e' = e ∧ Weak σ' σ1) σ) (hd : v.strip.fair = true := by rfl) (hb : v.bnd σ.n = true := by rfl) (hf : v.flat = true := by rfl) (ho : σ1.objs = [] := by rfl) : DoesC P c σ e σ1 :=
  pwR_sound hm v hf (pw_mono v (fun e' σ' hq => ⟨σ1, ⟨hq.1, rfl⟩, ho, hq.2⟩) h) c hc (noDef_of _ hc hd) hb
section
variable {P : Program} {J : JZ} {S0 : Stab} {Wb : World} {Zb : Nat → Prop} {l n : Nat} {enc : Nat → Value}
theorem At.does {c : Code} {σ σ1 : St} {e : Exit} {p : Nat} {a : Act} {W : World} {ro : Option Nat} (hst : StZ J) (hS0 : ∀ b o, S0 b o → b < Wb.heap.size) (hd : DoesC P c σ e σ1) (h : At J S0 Wb Zb σ p a W) : c.wpIn (wideR ro) 0 P (fun e' a' W' => e' = e ∧ At J S0 Wb Zb σ1 p a' W') a W := by
  obtain ⟨_, _, _, _, _, _, _, _, h7⟩ := id h
  refine wpIn_mono (At.piece hst (fun b o hS => Nat.lt_of_lt_of_le (hS0 b o hS) h7) hd h) ?_
  rintro e' a' W' ⟨σ2, ⟨rfl, rfl⟩, _, h1, _⟩
  exact ⟨rfl, h1⟩
theorem At.doesK {c : Code} {σ σ1 : St} {e : Exit} {p : Nat} {a : Act} {W : World} {ro : Option Nat} (hst : StZ J) (hS0 : ∀ b o, S0 b o → b < Wb.heap.size) (hd : DoesC P c σ e σ1) (h : At J S0 Wb Zb σ p a W) : c.wpIn (wideR ro) 0 P (fun e' a' W' => e' = e ∧ At J S0 Wb Zb σ1 p a' W' ∧ Kept (fun _ => False) W W') a W := by
  obtain ⟨_, _, _, _, _, _, _, _, h7⟩ := id h
  refine wpIn_mono (At.piece hst (fun b o hS => Nat.lt_of_lt_of_le (hS0 b o hS) h7) hd h) ?_
  rintro e' a' W' ⟨σ2, ⟨rfl, rfl⟩, _, h1, h2⟩
  exact ⟨rfl, h1, h2⟩
theorem At.le {σ : St} {p : Nat} {a : Act} {W : World} (h : At J S0 Wb Zb σ p a W) : Wb.heap.size ≤ W.heap.size := by
  obtain ⟨_, _, _, _, _, _, _, _, h7⟩ := h
  exact h7
/-- The facts of a region that calls yield once. -/
structure YReg (P : Program) (l : Nat) (os : Array Oper) (t : Int) (σ σ3 : St) : Prop where
  ok : ∃ (pre post : List VOper) (y : VOper) (f x : Opd) (d : Nat) (σ1 : St), compOpers P os os.toList = some (stripOps (pre ++ y :: post)) ∧ opsNoDef os.toList = true ∧ bndOps σ.n (pre ++ y :: post) = true ∧ y.op = .callV f [x] ∧ y.dst = some d ∧
    (y.guard = none ∨ ∃ g, y.guard = some (g, true) ∧ getE σ1.env g = .val (.bool true)) ∧ runM P (fun σ' => σ' = σ1) pre σ ∧ σ1.objs = [] ∧ val σ1 f = .val (.yld l) ∧ val σ1 x = .val (.int .i64 t) ∧ runM P (fun σ' => Weak σ' σ3) post { σ1 with env := Vs.put σ1.env d (.val (.bool true)) } ∧ σ3.objs = []
theorem At.yreg {id : Nat} {os : Array Oper} {t : Int} {σ σ3 : St} {p : Nat} {a : Act} {W : World} {ro : Option Nat} (hst : StZ J) (hyz : YZ P l S0 enc n J) (hS0 : ∀ b o, S0 b o → b < Wb.heap.size) (hr : YReg P l os t σ σ3) (ht : enc p = .int .i64 t) (hp : p < n) (h : At J S0 Wb Zb σ p a W) :
    (Code.region id os false).wpIn (wideR ro) 0 P (fun e a' W' => e = .normal ∧ At J S0 Wb Zb σ3 (p + 1) a' W') a W := by
  obtain ⟨pre, post, y, f, x, d, σ1, h1, h2, h3, h4, h5, h6, h7, h8, h9, h10, h11, h12⟩ := hr.ok
  have rm : ∀ (l : List VOper) {σ : St} {K K' : St → Prop}, (∀ σ, K σ → K' σ) → runM P K l σ → runM P K' l σ := fun l {σ K K'} hk hh => by
    have := pw_mono (P := P) (.region l .text []) (Q := fun _ σ' => K σ') (Q' := fun _ σ' => K' σ') (σ := σ) (fun e σ' => hk σ')
    have e0 : ∀ (σ' : St), σ'.drop [] = σ' := fun σ' => by
      have : ∀ env : List (Nat × SV), dropKeys [] env = env := fun env => by
        induction env with
        | nil => rfl
        | cons q r ih => obtain ⟨k, v⟩ := q; simp only [dropKeys, inDead, cond_false, ih]
      simp [St.drop, this]
    simp only [pw, e0] at this
    exact this hh
  refine wpIn_mono (At.yielded (K := fun σ' => σ' = σ3) hst hyz (fun b o hS => Nat.lt_of_lt_of_le (hS0 b o hS) h.le) h1 h2 h3 h4 h5 h6 h7 h8 h9 h10 ht hp (rm _ (fun σ' hw => ⟨σ3, rfl, h12, hw⟩) h11) h) ?_
  rintro e a' W' ⟨rfl, _, rfl, _, k⟩
  exact ⟨rfl, k⟩
/-- SO MANY ROUNDS, each one call of yield. -/
theorem At.loop {r1 cd r2 cr r4 : Code} {b2 id ex : Nat} {os : Array Oper} {N q : Nat} {elem : Nat → Int} {σL σ1 σ2 σ3 : Nat → St} {a : Act} {W : World} {ro : Option Nat}
    (hst : StZ J) (hyz : YZ P l S0 enc n J) (hS0 : ∀ b o, S0 b o → b < Wb.heap.size) (hn : q + N ≤ n) (henc : ∀ i, i < N → enc (q + i) = .int .i64 (elem i))
    (h1 : ∀ i, i ≤ N → DoesC P r1 (σL i) .normal (σ1 i)) (h2 : ∀ i, i < N → DoesC P cd (σ1 i) .normal (σ1 i)) (h2' : DoesC P cd (σ1 N) (.exit ex) (σ1 N)) (h3 : ∀ i, i < N → DoesC P r2 (σ1 i) .normal (σ2 i)) (h4 : ∀ i, i < N → YReg P l os (elem i) (σ2 i) (σ3 i)) (h5 : ∀ i, i < N → DoesC P cr (σ3 i) .normal (σ3 i)) (h6 : ∀ i, i < N → DoesC P r4 (σ3 i) .normal (σL (i + 1)))
    (h : At J S0 Wb Zb (σL 0) q a W) :
    (Code.loop (.seq r1 (.seq cd (.seq (.block b2 (.seq r2 (.seq (.region id os false) cr))) r4)))).wpIn (wideR ro) 0 P (fun e a' W' => e = .exit ex ∧ At J S0 Wb Zb (σ1 N) (q + N) a' W') a W := by
  refine wpIn_loop_rounds (N + 1) ?_
  have key : ∀ r i, i + r = N → ∀ a W, At J S0 Wb Zb (σL i) (q + i) a W → Code.roundsIn (wideR ro) 0 P (.seq r1 (.seq cd (.seq (.block b2 (.seq r2 (.seq (.region id os false) cr))) r4))) (fun e a' W' => e = .exit ex ∧ At J S0 Wb Zb (σ1 N) (q + N) a' W') (r + 1) a W := by
    intro r
    induction r with
    | zero =>
      intro i hi a W h
      obtain rfl : i = N := by omega
      rw [roundsIn_succ]
      refine wpIn_seq (wpIn_mono (h.does hst hS0 (h1 i (by omega))) ?_)
      rintro e a1 W1 ⟨rfl, k1⟩
      refine wpIn_seq (wpIn_mono (k1.does hst hS0 h2') ?_)
      rintro e a2 W2 ⟨rfl, k2⟩
      exact ⟨rfl, k2⟩
    | succ r ih =>
      intro i hi a W h
      rw [roundsIn_succ]
      refine wpIn_seq (wpIn_mono (h.does hst hS0 (h1 i (by omega))) ?_)
      rintro e a1 W1 ⟨rfl, k1⟩
      refine wpIn_seq (wpIn_mono (k1.does hst hS0 (h2 i (by omega))) ?_)
      rintro e a2 W2 ⟨rfl, k2⟩
      refine wpIn_seq (wpIn_block (wpIn_seq (wpIn_mono (k2.does hst hS0 (h3 i (by omega))) ?_)))
      rintro e a3 W3 ⟨rfl, k3⟩
      refine wpIn_seq (wpIn_mono (k3.yreg hst hyz hS0 (h4 i (by omega)) (henc i (by omega)) (by omega)) ?_)
      rintro e a4 W4 ⟨rfl, k4⟩
      refine wpIn_mono (k4.does hst hS0 (h5 i (by omega))) ?_
      rintro e a5 W5 ⟨rfl, k5⟩
      refine wpIn_mono (k5.does hst hS0 (h6 i (by omega))) ?_
      rintro e a6 W6 ⟨rfl, k6⟩
      exact ih (i + 1) (by omega) a6 W6 k6
  exact key N 0 (by omega) a W h
end
end Go.Vs
set_option linter.unusedVariables false
set_option linter.unusedSimpArgs false
namespace Go.Vs
def DoesZ (P : Program) (c : Code) (σ : St) (e : Exit) (σ1 : St) : Prop := TR P c (fun e' σ' => e' = e ∧ Weak σ' σ1) σ
theorem doesZ_pw {P : Program} (hm : P.follows .mixedOrders = true) (v : VCode) {c : Code} {σ σ1 : St} {e : Exit} (hc : comp P c = some v.strip) (h : pw P v (fun e' σ' => e' = e ∧ Weak σ' σ1) σ) (hd : v.strip.fair = true := by rfl) (hb : v.bnd σ.n = true := by rfl) (hf : v.flat = true := by rfl) : DoesZ P c σ e σ1 :=
  pwR_sound hm v hf h c hc (noDef_of _ hc hd) hb
theorem SimZ.does {P : Program} {w0 w : World} {S0 : Stab} {M : Ctx} {σ σ1 : St} {a : Act} {Z : Nat → Prop} {c : Code} {e : Exit} {ro : Option Nat} (hT : DoesZ P c σ e σ1) (h : SimZ w0 S0 M σ a Z w) : c.wpIn (wideR ro) 0 P (fun e' a' w' => e' = e ∧ SimZ w0 S0 M σ1 a' Z w' ∧ SameZ S0 Z w w') a w := by
  obtain ⟨S, μ, β, h1, h2⟩ := h
  refine wpIn_mono (hT ro w S _ a w ⟨S, μ, β, h1.rebase⟩) (fun e' a' w' hl => ?_)
  have fin : ∀ σ', (e' = e ∧ Weak σ' σ1) → σ'.n = σ.n → Sim w S ⟨OwnB σ β, M.keep, M.at', M.df⟩ σ' a' w' → e' = e ∧ SimZ w0 S0 M σ1 a' Z w' ∧ SameZ S0 Z w w' := by
    rintro σ' ⟨rfl, hw⟩ hn hs
    obtain ⟨S', μ', β', k⟩ := hw _ _ _ _ _ hs
    have hb : ∀ b, Z b → w'.heap[b]? = w.heap[b]? := fun b hZ => k.kept.block b (h2 b hZ).1 (h2 b hZ).2.2.1
    refine ⟨rfl, ⟨S', μ', β', h1.unbase k k.defers k.hist k.far, fun b hZ => ?_⟩, hb, ⟨fun b o hS => k.stay b o (h1.ext b o hS), k.kept.shape⟩, k.kept.size⟩
    obtain ⟨q1, q2, q3, q4⟩ := h2 b hZ
    refine ⟨Nat.lt_of_lt_of_le q1 k.kept.size, q2, fun ⟨id, o, h3, h4⟩ => ?_, fun o hS => ?_⟩
    · rcases k.own id o b h3 h4 with h5 | h5
      · omega
      · exact q3 h5
    · rcases k.back b o hS with h5 | h5 | h5
      · exact q4 o h5
      · omega
      · exact q3 h5
  cases e' <;> first | exact hl.elim | (obtain ⟨σ', q1, q2, q3⟩ := hl; exact fin σ' q1 q2 q3)
/-- The variable that collects; its array. -/
def outO (ver : Nat) (rows : List (List IV)) : List (Nat × Ob) := [(1000, .box [.own 1001 ver]), (1001, .arr ver 1 rows)]
theorem SimG.outBox {w0 w : World} {S0 S : Stab} {M : Ctx} {σ : St} {a : Act} {μ : Nat → Value} {β : Nat → Option Nat} {d : Nat} {env' : List (Nat × SV)} (h : SimG w0 S0 M σ a w S μ β) (ho : look σ.objs d = some (.box [.nils])) (hd : getE σ.env d = .loc d 0) (hro : σ.ro = []) (hM : M.keep = []) (he : ∀ k, getE env' k = .undef ∨ ∃ v, getE env' k = .val v ∧ getE σ.env k = .val v) :
    ∃ μ' β', SimG w0 S0 M ⟨Vs.put env' d (.loc 1000 0), outO 0 [], [], σ.n, σ.gl⟩ a w S μ' β' ∧ ∀ b, OwnB ⟨Vs.put env' d (.loc 1000 0), outO 0 [], [], σ.n, σ.gl⟩ β' b → OwnB σ β b := by
  obtain ⟨b, vs, e, fr, hb, hmu, hh, hf, hcs⟩ := h.objs d _ ho
  obtain ⟨v, us, hvs, hv1, ⟨x, hx⟩, hus⟩ := hcs
  have hdl := h.env d
  rw [hd] at hdl
  obtain ⟨b1, hm1, hv⟩ := hdl _ ho
  obtain rfl : b1 = b := by rw [hm1] at hmu; simpa using hmu
  let μ' : Nat → Value := fun i => if i = 1000 then μ d else .slice x 0 0
  let β' : Nat → Option Nat := fun i => if i = 1000 then β d else none
  have hlk : ∀ id o, look (outO 0 []) id = some o → (id = 1000 ∧ o = .box [.own 1001 0]) ∨ (id = 1001 ∧ o = .arr 0 1 []) := by
    intro id o hl
    unfold outO at hl
    simp only [look] at hl
    cases h1 : (1000 == id) with
    | true => rw [h1] at hl; simp at hl; simp at h1; exact .inl ⟨h1.symm, hl.symm⟩
    | false =>
      rw [h1] at hl
      cases h2 : (1001 == id) with
      | true => rw [h2] at hl; simp at hl; simp at h2; exact .inr ⟨h2.symm, hl.symm⟩
      | false => rw [h2] at hl; simp at hl
  refine ⟨μ', β', { defers := h.defers, size := h.size, env := fun k => ?_, objs := fun id o hl => ?_, inj := fun id id' o o' b' hl hl' g g' => ?_, own := fun id o b' hl g => ?_, unst := fun id o b' off hl g hS => ?_, stab := h.stab, ext := h.ext, back := h.back, kept := h.kept, stay := h.stay, hist := fun p hp => by (rw [hM] at hp; simp at hp), far := fun p hp => by (rw [hM] at hp; simp at hp), glob := h.glob }, ?_⟩
  · show SVRel w S μ' (outO 0 []) (getE (Vs.put env' d (.loc 1000 0)) k) _
    rw [getE_put]
    split
    · next e1 =>
      subst e1
      intro cells hl
      exact ⟨b1, by simp [μ', hm1], hv⟩
    · rcases he k with q | ⟨iv, q1, q2⟩
      · rw [q]; trivial
      · rw [q1]
        have := h.env k
        rw [q2] at this
        exact this
  · rcases hlk id o hl with ⟨rfl, rfl⟩ | ⟨rfl, rfl⟩
    · refine ⟨b1, vs, e, fr, by simp [β', hb], by simp [μ', hm1], hh, hf, v, us, hvs, hv1, ?_, hus⟩
      intro cv s rows hl'
      rcases hlk 1001 _ hl' with ⟨q, _⟩ | ⟨_, q⟩
      · simp at q
      · simp only [Ob.arr.injEq] at q
        obtain ⟨rfl, rfl, rfl⟩ := q
        exact ⟨Nat.le_refl _, fun _ => by simp [μ', hx]⟩
    · exact .inl ⟨rfl, by simp [β'], x, by simp [μ']⟩
  · rcases hlk id o hl with ⟨rfl, _⟩ | ⟨rfl, _⟩
    · rcases hlk id' o' hl' with ⟨rfl, _⟩ | ⟨rfl, _⟩
      · rfl
      · simp [β'] at g'
    · simp [β'] at g
  · rcases hlk id o hl with ⟨rfl, _⟩ | ⟨rfl, _⟩
    · exact h.own d _ b' ho (by simpa [β'] using g)
    · simp [β'] at g
  · rcases hlk id o hl with ⟨rfl, _⟩ | ⟨rfl, _⟩
    · have := h.unst d _ b' off ho (by simpa [β'] using g) hS
      rw [hro] at this
      exact absurd this.1 (by simp)
    · simp [β'] at g
  · rintro b' ⟨id, o, hl, g⟩
    rcases hlk id o hl with ⟨rfl, _⟩ | ⟨rfl, _⟩
    · exact ⟨d, _, ho, by simpa [β'] using g⟩
    · simp [β'] at g
/-- The frame that waits: its slots hold what they did. -/
theorem SimG.back' {w0 w : World} {S0 S : Stab} {M : Ctx} {objs : List (Nat × Ob)} {ro : List Nat} {n : Nat} {gl : List (Nat × List IV)} {a a0 : Act} {μ : Nat → Value} {β : Nat → Option Nat} {d : Nat} (h : SimG w0 S0 M ⟨[], objs, ro, n, gl⟩ a w S μ β) (hk : (0, SV.loc 1000 0) ∈ M.keep) (ha : M.at' 0 = a0.tmps.getD d Go.undef) (hs : a0.tmps.size = n) (hd : a0.defers = M.df) : SimG w0 S0 M ⟨[(d, .loc 1000 0)], objs, ro, n, gl⟩ a0 w S μ β :=
  { h with
    defers := hd
    size := hs
    env := fun k => by
      show SVRel w S μ objs (getE [(d, .loc 1000 0)] k) _
      simp only [getE, look]
      cases hdk : d == k with
      | true =>
        rw [beq_iff_eq] at hdk
        subst hdk
        have := h.hist _ hk
        rw [ha] at this
        exact this
      | false => trivial }
end Go.Vs
set_option linter.unusedVariables false
set_option linter.unusedSimpArgs false
namespace Go.Vs
section
variable {P : Program} {w0 : World} {S0 : Stab} {M : Ctx}
theorem cntL_next {listed : Array Bool} {n m fuel : Nat} (hsz : listed.size = n) (hm : m < n) (hl : listed.getD m false = false) (h : cntL (listed.getD · false) n ≤ fuel + 1) : cntL ((listed.setIfInBounds m true).getD · false) n ≤ fuel := by
  have := (cntL_set (f := (listed.getD · false)) (g := ((listed.setIfInBounds m true).getD · false)) hl (by simp [Array.getD, hsz, hm]) (fun j hj => getD_set_ne false hj) n).1 hm
  omega
theorem cl_set {ops : Array Oper} {listed : Array Bool} {m : Nat} (hcl : ∀ j o, ops[j]? = some o → listed.getD j false = true → ∀ e ∈ o.after.toList, Region.binds .any e = true → listed.getD e.on false = true) (hr : ∀ o, ops[m]? = some o → ∀ e ∈ o.after.toList, Region.binds .any e = true → listed.getD e.on false = true) : ∀ j o, ops[j]? = some o → (listed.setIfInBounds m true).getD j false = true → ∀ e ∈ o.after.toList, Region.binds .any e = true → (listed.setIfInBounds m true).getD e.on false = true := by
  intro j o hj hl e he hb
  by_cases hm : m = j
  · subst hm; exact getD_set_true (hr o hj e he hb)
  · rw [getD_set_ne false hm] at hl; exact getD_set_true (hcl j o hj hl e he hb)
end
end Go.Vs
set_option linter.unusedVariables false
set_option linter.unusedSimpArgs false
namespace Go.Vs

/-- What stands at the places of a list. -/
def rgSub {α : Type} (l : List α) (E : List Nat) : List α := E.filterMap fun i => l[i]?
def rgOut {α : Type} (f : Nat) : List Nat → List α → List α
  | i :: is, x :: r => if i = f then r else x :: rgOut f is r
  | _, _ => []
def itemsA : List Nat → List VOper → List Eff → List Item1
  | i :: is, o :: r, e :: es => ⟨i, o, e⟩ :: itemsA is r es
  | _, _, _ => []
def rgSeek : List Nat → List Eff → Nat → Eff
  | i :: is, e :: es, j => if i = j then e else rgSeek is es j
  | _, _, _ => ⟨[], none, skipU⟩
def rgPlace (n : Nat) (E : List Nat) (es : List Eff) : List Eff := (List.range n).map (rgSeek E es)
def rgBoth (E : List Nat) (p : Nat × Nat) : Bool := E.contains p.1 && E.contains p.2
def okC (n : Nat) (E T T' : List Nat) (m f : Nat) : Bool := decide (m < n) && T.all (fun t => decide (m < t)) && (List.range n).all fun j => (if j = m then !E.contains j && !T.contains j else E.contains j != T.contains j) && (T'.contains j == (T.contains j || j == f))
/-- Are places in order, and below n? -/
def sortB (n : Nat) : List Nat → Bool
  | [] => true
  | i :: r => decide (i < n) && r.all (fun j => decide (i < j)) && sortB n r
/-- Does each of some operations get what an operation gives, or one of them ahead of it? -/
def fedB (l : List VOper) (d : List Nat) : List Nat → Bool
  | [] => true
  | i :: r => match l[i]? with
    | some y => (y.slots.any d.contains) && fedB l (match y.dst with
      | some x => x :: d
      | none => d) r
    | none => false
/-- Goes each operation's value, through others, to the one at m? -/
def goesB (l : List VOper) (m : Nat) : List Nat → Bool
  | [] => true
  | i :: r => (match l[i]? with
    | some x => (match x.dst with
      | some d => (r ++ [m]).any fun j => decide (i < j) && (match l[j]? with
        | some y => y.slots.contains d
        | none => false)
      | none => false)
    | none => false) && goesB l m r

section
variable {P : Program} {w0 : World} {S0 : Stab} {M : Ctx}
theorem sort_pw {n : Nat} : ∀ {E : List Nat}, sortB n E = true → E.Pairwise (· < ·) ∧ ∀ i ∈ E, i < n
  | [], _ => ⟨.nil, by simp⟩
  | i :: r, h => by
    simp only [sortB, Bool.and_eq_true, decide_eq_true_eq, List.all_eq_true] at h
    obtain ⟨h1, h2⟩ := sort_pw h.2
    refine ⟨List.pairwise_cons.2 ⟨fun j hj => h.1.2 j hj, h1⟩, fun j hj => ?_⟩
    rcases List.mem_cons.1 hj with rfl | hj
    · exact h.1.1
    · exact h2 j hj
theorem seq_facts {VS : List VOper} : ∀ {E : List Nat} {σ σf : St} {es : List Eff}, sortB VS.length E = true → Steps1 P (rgSub VS E) σ es σf → RunL P (itemsA E (rgSub VS E) es) σ σf ∧ (itemsA E (rgSub VS E) es).map (·.i) = E ∧
    (∀ p ∈ itemsA E (rgSub VS E) es, p.i ∈ E ∧ VS[p.i]? = some p.o ∧ rgSeek E es p.i = p.e ∧ ∃ σ', Step1 P σ' p.o p.e) ∧ es.length = E.length ∧ (rgSub VS E).length = E.length
  | [], σ, σf, es, _, ⟨h1, h2⟩ => by subst h1; subst h2; exact ⟨St.Eq.refl _, rfl, by simp [rgSub, itemsA], rfl, rfl⟩
  | i :: r, σ, σf, es, hE, h => by
    have hpw := sort_pw hE
    simp only [sortB, Bool.and_eq_true, decide_eq_true_eq, List.all_eq_true] at hE
    have ho : VS[i]? = some VS[i] := List.getElem?_eq_getElem hE.1.1
    have hs : rgSub VS (i :: r) = VS[i] :: rgSub VS r := by simp [rgSub, List.filterMap_cons, ho]
    rw [hs] at h ⊢
    obtain ⟨e, es', rfl, h1, h2⟩ := h
    obtain ⟨k1, k2, k3, k4, k5⟩ := seq_facts hE.2 h2
    refine ⟨⟨h1, k1⟩, by simp [itemsA, k2], fun p hp => ?_, by simp [k4], by simp [k5]⟩
    simp only [itemsA, List.mem_cons] at hp
    rcases hp with rfl | hp
    · exact ⟨by simp, ho, by simp [rgSeek], σ, h1⟩
    · obtain ⟨a1, a2, a3, a4⟩ := k3 p hp
      refine ⟨List.mem_cons_of_mem _ a1, a2, ?_, a4⟩
      rw [rgSeek, if_neg (by have := hE.1.2 p.i a1; omega), a3]
theorem runL_without {f n : Nat} : ∀ {E : List Nat} {l : List VOper} {es : List Eff} {σ σB : St}, sortB n E = true → l.length = E.length → es.length = E.length → Steps1 P (rgOut f E l) σ (rgOut f E es) σB → RunL P ((itemsA E l es).filter fun p => !(p.i == f)) σ σB
  | [], l, es, σ, σB, _, hl, he, h => by
    obtain rfl := List.length_eq_zero_iff.1 hl
    obtain ⟨h1, h2⟩ := h
    subst h2
    exact St.Eq.refl _
  | i :: r, o :: l, e :: es, σ, σB, hE, hl, he, h => by
    simp only [sortB, Bool.and_eq_true, decide_eq_true_eq, List.all_eq_true] at hE
    simp only [List.length_cons, Nat.add_right_cancel_iff] at hl he
    by_cases hi : i = f
    · subst hi
      simp only [rgOut, if_true] at h
      have hno : ∀ {r : List Nat} {l : List VOper} {es : List Eff} {σ : St}, l.length = r.length → (∀ j ∈ r, i < j) → Steps1 P l σ es σB → RunL P ((itemsA r l es).filter fun p => !(p.i == i)) σ σB := by
        intro r
        induction r with
        | nil =>
          intro l es σ hl _ h
          obtain rfl := List.length_eq_zero_iff.1 hl
          obtain ⟨h1, h2⟩ := h
          subst h2
          exact St.Eq.refl _
        | cons j r ih =>
          intro l es σ hl hr h
          cases l with
          | nil => simp at hl
          | cons o l =>
            obtain ⟨e, es', rfl, h1, h2⟩ := h
            have := hr j (by simp)
            simp only [itemsA]
            rw [List.filter_cons, if_pos (by simp; omega)]
            exact ⟨h1, ih (by simpa using hl) (fun k hk => hr k (List.mem_cons_of_mem _ hk)) h2⟩
      simp only [itemsA]
      rw [List.filter_cons, if_neg (by simp)]
      exact hno hl hE.1.2 h
    · simp only [rgOut, if_neg hi] at h
      obtain ⟨e', es', h0, h1, h2⟩ := h
      simp only [List.cons.injEq] at h0
      obtain ⟨rfl, rfl⟩ := h0
      simp only [itemsA]
      rw [List.filter_cons, if_pos (by simp [hi])]
      exact ⟨h1, runL_without hE.2 hl he h2⟩
  | _ :: _, [], _, _, _, _, hl, _, _ => by simp at hl
  | _ :: _, _ :: _, [], _, _, _, _, he, _ => by simp at he
theorem fed_spec {l : List VOper} {n : Nat} : ∀ {r D : List Nat}, sortB n r = true → fedB l D r = true → ∀ t ∈ r, ∃ y d, l[t]? = some y ∧ d ∈ y.slots ∧ (d ∈ D ∨ ∃ u x, u ∈ r ∧ u < t ∧ l[u]? = some x ∧ x.dst = some d)
  | [], _, _, _, t, ht => by simp at ht
  | i :: r, D, hs, h, t, ht => by
    simp only [sortB, Bool.and_eq_true, decide_eq_true_eq, List.all_eq_true] at hs
    simp only [fedB] at h
    split at h
    · next y hy =>
      simp only [Bool.and_eq_true, List.any_eq_true] at h
      obtain ⟨⟨d, hd1, hd2⟩, h⟩ := h
      rcases List.mem_cons.1 ht with rfl | ht
      · exact ⟨y, d, hy, hd1, .inl (by simpa using hd2)⟩
      · obtain ⟨y', d', h1, h2, h3⟩ := fed_spec hs.2 h t ht
        refine ⟨y', d', h1, h2, ?_⟩
        rcases h3 with h3 | ⟨u, x, a1, a2, a3, a4⟩
        · split at h3
          · next x hx =>
            rcases List.mem_cons.1 h3 with rfl | h3
            · exact .inr ⟨i, y, by simp, hs.1.2 t ht, hy, hx⟩
            · exact .inl h3
          · exact .inl h3
        · exact .inr ⟨u, x, List.mem_cons_of_mem _ a1, a2, a3, a4⟩
    · cases h
theorem goes_spec {l : List VOper} {m : Nat} : ∀ {r : List Nat}, goesB l m r = true → ∀ i ∈ r, ∃ j x y d, (j ∈ r ∨ j = m) ∧ i < j ∧ l[i]? = some x ∧ l[j]? = some y ∧ x.dst = some d ∧ d ∈ y.slots
  | [], _, i, hi => by simp at hi
  | k :: r, h, i, hi => by
    simp only [goesB, Bool.and_eq_true] at h
    rcases List.mem_cons.1 hi with rfl | hi
    · have h1 := h.1
      split at h1
      · next x hx =>
        split at h1
        · next d hd =>
          obtain ⟨j, hj, hc⟩ := List.any_eq_true.1 h1
          simp only [Bool.and_eq_true, decide_eq_true_eq] at hc
          obtain ⟨hc1, hc2⟩ := hc
          split at hc2
          · next y hy =>
            refine ⟨j, x, y, d, ?_, hc1, hx, hy, hd, by simpa using hc2⟩
            rcases List.mem_append.1 hj with hj | hj
            · exact .inl (List.mem_cons_of_mem _ hj)
            · exact .inr (by simpa using hj)
          · cases hc2
        · cases h1
      · cases h1
    · obtain ⟨j, x, y, d, h1, h2⟩ := goes_spec h.2 i hi
      exact ⟨j, x, y, d, h1.imp (List.mem_cons_of_mem _) id, h2⟩
/-- What is run behind the call. -/
theorem phase_two {ops : Array Oper} {VS : List VOper} (hc : compOpers P ops ops.toList = some VS) {pairs makes : List (Nat × Nat)} (hp : pairsOf ops VS.toArray = some (pairs, makes)) {T : List Nat} (hT : sortB VS.length T = true) {σ σ3 : St} {es : List Eff} (hs : Steps1 P (rgSub VS T) σ es σ3) (hk : chkD σ (pairs.filter (rgBoth T)) (makes.filter (rgBoth T)) (rgPlace VS.length T es) = true)
    (hd : ∀ v ∈ VS, ∀ d, v.dst = some d → d < σ.n) {listed : Array Bool} (hsz : listed.size = ops.size) (hcl : ∀ j o, ops[j]? = some o → listed.getD j false = true → ∀ e ∈ o.after.toList, Region.binds .any e = true → listed.getD e.on false = true) (hli : ∀ j, j < ops.size → (listed.getD j false = false ↔ j ∈ T))
    {Q : Exit → Act → World → Prop} (hQ : ∀ a w, Sim w0 S0 M σ3 a w → Q .normal a w) {fuel : Nat} (hf : cntL (listed.getD · false) ops.size ≤ fuel) {a : Act} {w : World} (h : Sim w0 S0 M σ a w) : wpAny P .any ops Q fuel listed a w := by
  obtain ⟨k1, k2, k3, k4, k5⟩ := seq_facts hT hs
  have hpl : ∀ p ∈ itemsA T (rgSub VS T) es, (rgPlace VS.length T es)[p.i]? = some p.e := fun p hp => by
    have := (sort_pw hT).2 p.i (k3 p hp).1
    simp [rgPlace, this, (k3 p hp).2.2.1]
  obtain ⟨hI, hg⟩ := ahead_I hc hp (fun p h => (k3 p h).2.1) (fun p h => (k3 p h).2.2.2) hk hpl (fun p hp x hx => by simp [rgBoth, (k3 p hp).1, (k3 x hx).1])
  refine rgPhase (pairs_up hp) hI (U := fun _ => false) (late := fun _ => false) (σB := σ3) (n := σ.n) (fun _ _ => rfl) (fun p hp => hd p.o (List.mem_of_getElem? (k3 p hp).2.1)) (fun _ _ _ _ _ _ _ _ _ hU => by cases hU) (fun _ => hQ) fuel hf ⟨hsz, ?_, fun _ h => h, fun j hj _ => ?_, fun _ _ h => (by cases h), hcl, k1, fun _ => filt_none k1, hg, rfl⟩ h
  · have := (sort_pw hT).1
    rw [← k2] at this
    exact List.pairwise_map.1 this
  · rw [hli j hj]
    constructor
    · intro h
      rw [← k2] at h
      obtain ⟨p, hp, e⟩ := List.mem_map.1 h
      exact ⟨p, hp, e⟩
    · rintro ⟨p, hp, rfl⟩
      exact (k3 p hp).1
/-- A REGION IN WHATEVER ORDER, with a call; one operation is free to come ahead of it or behind it. -/
theorem region_free {ops : Array Oper} {VS : List VOper} (hc : compOpers P ops ops.toList = some VS) {pairs makes : List (Nat × Nat)} (hp : pairsOf ops VS.toArray = some (pairs, makes)) {E T T' : List Nat} {m f : Nat} (hE : sortB VS.length E = true) (hT : sortB VS.length T = true) (hT' : sortB VS.length T' = true) (hok : okC VS.length E T T' m f = true)
    (hgo : goesB VS m (E.filter fun i => !(i == f)) = true) {dm : Nat} {vm : VOper} (hvm : VS[m]? = some vm) (hdm : vm.dst = some dm) (hfe : fedB VS [dm] T = true) {σ : St} {a : Act} {w : World} (h : Sim w0 S0 M σ a w) (hd : ∀ v ∈ VS, ∀ d, v.dst = some d → d < σ.n)
    {es : List Eff} {σA σB : St} (hs : Steps1 P (rgSub VS E) σ es σA) (hk : chkD σ (pairs.filter (rgBoth E)) (makes.filter (rgBoth E)) (rgPlace VS.length E es) = true) (hB : Steps1 P (rgOut f E (rgSub VS E)) σ (rgOut f E es) σB) {Q : Exit → Act → World → Prop} {K : List Nat → St → Prop}
    (hK : ∀ T σ2, K T σ2 → ∃ es2 σ3, Steps1 P (rgSub VS T) σ2 es2 σ3 ∧ chkD σ2 (pairs.filter (rgBoth T)) (makes.filter (rgBoth T)) (rgPlace VS.length T es2) = true ∧ ∀ a w, Sim w0 S0 M σ3 a w → σ3.n = σ2.n → σ2.n = σ.n → Q .normal a w)
    (hQ : ∀ T1 σ1, (T1 = T ∧ σ1 = σA) ∨ (T1 = T' ∧ σ1 = σB) → ∀ N : Act → World → Prop, (∀ a' w' σ2, K T1 σ2 → σ2.n = σ.n → Sim w0 S0 M σ2 a' w' → N a' w') → ∀ a w, Sim w0 S0 M σ1 a w → wpOp P ops Q m N a w) : wpAny P .any ops Q ops.size (Array.replicate ops.size false) a w := by
  obtain ⟨k1, k2, k3, k4, k5⟩ := seq_facts hE hs
  have hn : VS.length = ops.size := by have := (compOpers_get hc).1; simpa using this
  unfold okC at hok
  simp only [Bool.and_eq_true, decide_eq_true_eq, List.all_eq_true, List.mem_range, List.contains_eq_mem, beq_iff_eq] at hok
  obtain ⟨⟨hm, hmT⟩, hall⟩ := hok
  have hmm : m ∉ E ∧ m ∉ T := by have := (hall m hm).1; simpa using this
  have hcov : ∀ j, j < VS.length → j ≠ m → (j ∈ E ↔ j ∉ T) := fun j hj hne => by
    have := (hall j hj).1
    rw [if_neg hne] at this
    by_cases h1 : j ∈ E <;> by_cases h2 : j ∈ T <;> simp only [h1, h2, decide_true, decide_false, bne_self_eq_false, Bool.false_eq_true] at this <;> simp [h1, h2]
  have hcov' : ∀ j, j < VS.length → (j ∈ T' ↔ j ∈ T ∨ j = f) := fun j hj => by
    have := (hall j hj).2
    by_cases h3 : j = f
    · subst h3
      simp at this
      simp [this]
    · by_cases h1 : j ∈ T' <;> by_cases h2 : j ∈ T <;> simp [h1, h2, h3] at this ⊢
  have lt : ∀ {F : List Nat}, sortB VS.length F = true → ∀ j ∈ F, j < VS.length := fun h => (sort_pw h).2
  have hpl : ∀ p ∈ itemsA E (rgSub VS E) es, (rgPlace VS.length E es)[p.i]? = some p.e := fun p hp => by
    have := lt hE p.i (k3 p hp).1
    simp [rgPlace, this, (k3 p hp).2.2.1]
  obtain ⟨hI, hg⟩ := ahead_I hc hp (fun p h => (k3 p h).2.1) (fun p h => (k3 p h).2.2.2) hk hpl (fun p hp x hx => by simp [rgBoth, (k3 p hp).1, (k3 x hx).1])
  have hUE : ∀ j ∈ E, (decide (j = m) || T.contains j) = false := fun j hj => by
    have h1 : j ≠ m := by rintro rfl; exact hmm.1 hj
    have := (hcov j (lt hE j hj) h1).1 hj
    simp [h1, this]
  refine rgPhase (pairs_up hp) hI (U := fun j => decide (j = m) || T.contains j) (late := fun j => j == f) (σf := σA) (σB := σB) (n := σ.n) (fun p hp => hUE _ (k3 p hp).1) (fun p hp => hd p.o (List.mem_of_getElem? (k3 p hp).2.1))
    (fun fuel listed L σ1 a w i hf hl hU hi hb hr hsim => ?_) (fun hE' => ?_) ops.size (cntL_le _ _) ⟨by simp, ?_, fun _ h => h, fun j hj hU => ?_, fun j _ _ => getD_rep _ _, fun j o _ hl => ?_, k1, fun _ => runL_without hE k5 k4 hB, hg, rfl⟩ h
  · simp only [Bool.or_eq_true, decide_eq_true_eq, List.contains_eq_mem] at hU
    obtain rfl : i = m := Classical.byContradiction fun hne => by
      have hiT := hU.resolve_left hne
      obtain ⟨y, d, h1, h2, h3⟩ := fed_spec hT hfe i hiT
      rcases h3 with h3 | ⟨u, x, a1, a2, a3, a4⟩
      · obtain rfl : d = dm := by simpa using h3
        have := hb _ (pairs_flow hc hp (hmT i hiT) hvm h1 hdm h2)
        rw [hl.un m (by omega) (by simp)] at this
        cases this
      · have := hb _ (pairs_flow hc hp a2 a3 h1 a4 h2)
        rw [hl.un u (by have := lt hT u a1; omega) (by simp [a1])] at this
        cases this
    have hlis : ∀ (k j : Nat), j ∈ E → j ≠ f → VS.length ≤ j + k → listed.getD j false = true := by
      intro k
      induction k with
      | zero => intro j hj _ h; have := lt hE j hj; omega
      | succ k ih =>
        intro j hj hne hk'
        obtain ⟨q, x, y, d, h1, h2, h3, h4, h5, h6⟩ := goes_spec hgo j (List.mem_filter.2 ⟨hj, by simp [hne]⟩)
        have hbit := pairs_flow hc hp h2 h3 h4 h5 h6
        rcases h1 with h1 | rfl
        · obtain ⟨hq, hqf⟩ := List.mem_filter.1 h1
          obtain ⟨o, ho, _, _⟩ := comp_at hc h4
          exact before_listed (pairs_up hp) hl.cl (q + 1) q o (by omega) ho (hl.cl q o ho (ih q hq (by simpa using hqf) (by omega))) j hbit
        · exact hb j hbit
    have hLf : ∀ p ∈ L, p.i = f := fun p hpL => Classical.byContradiction fun hne => by
      have hpE := (k3 p (hl.sub p hpL)).1
      have := (hl.li p.i (by have := lt hE _ hpE; omega) (hUE _ hpE)).2 ⟨p, hpL, rfl⟩
      rw [hlis VS.length p.i hpE hne (by omega)] at this
      cases this
    -- what is behind the call, where T1 is to come
    have behind : ∀ T1, sortB VS.length T1 = true → (∀ j, j < ops.size → j ≠ i → (listed.getD j false = false ↔ j ∈ T1)) → i ∉ T1 → ∀ a' w' σ2, K T1 σ2 → σ2.n = σ.n → Sim w0 S0 M σ2 a' w' → wpAny P .any ops Q fuel (listed.setIfInBounds i true) a' w' := by
      intro T1 hT1 hli hiT a' w' σ2 hk2 hn2 hs2
      obtain ⟨es2, σ3, b1, b2, b3⟩ := hK T1 σ2 hk2
      refine phase_two hc hp hT1 b1 b2 (fun v hv d hdd => by rw [hn2]; exact hd v hv d hdd) (by simp [hl.sz]) (cl_set hl.cl hr) (fun j hj => ?_) (fun a w hs => b3 a w hs (steps1_n b1) hn2) (cntL_next hl.sz hi (hl.un i hi (by simp)) hf) hs2
      by_cases hji : i = j
      · subst hji
        simp [Array.getD, hl.sz, hi, hiT]
      · rw [getD_set_ne false hji]
        exact hli j hj (Ne.symm hji)
    have hEl : ∀ j, j < ops.size → j ≠ i → (listed.getD j false = false ↔ j ∈ T ∨ ∃ p ∈ L, p.i = j) := by
      intro j hj hne
      by_cases hjT : j ∈ T
      · simp [hjT, hl.un j hj (by simp [hjT])]
      · rw [hl.li j hj (by simp [hne, hjT])]
        simp [hjT]
    cases L with
    | nil => exact hQ T σA (.inl ⟨rfl, rfl⟩) _ (behind T hT (fun j hj hne => by rw [hEl j hj hne]; simp) hmm.2) a w (hsim.congr hl.run)
    | cons p L =>
      have hpf := hLf p (by simp)
      obtain rfl : L = [] := by
        cases L with
        | nil => rfl
        | cons q L =>
          have h1 := (List.pairwise_cons.1 hl.pw).1 q (by simp)
          have h2 := hLf q (by simp)
          omega
      have hr := hl.runB (fun q hq hlt => by
        have hqf : q.i = f := by simpa using hlt
        obtain ⟨_, a2, a3, _⟩ := k3 p (hl.sub p (by simp))
        obtain ⟨_, b2, b3, _⟩ := k3 q hq
        obtain ⟨pi, po, pe⟩ := p
        obtain ⟨qi, qo, qe⟩ := q
        dsimp only at *
        subst hpf
        subst hqf
        rw [a2] at b2
        rw [a3] at b3
        obtain rfl := Option.some.inj b2
        subst b3
        simp)
      rw [List.filter_cons, if_neg (by simp [hpf])] at hr
      refine hQ T' σB (.inr ⟨rfl, rfl⟩) _ (behind T' hT' (fun j hj hne => ?_) (fun hi' => ?_)) a w (hsim.congr hr)
      · rw [hEl j hj hne, hcov' j (by omega)]
        simp [hpf, eq_comm]
      · rcases (hcov' i hm).1 hi' with h | rfl
        · exact hmm.2 h
        · exact hmm.1 (hpf ▸ (k3 p (hl.sub p (by simp))).1)
  · have := hE' m (by omega)
    simp at this
  · have := (sort_pw hE).1
    rw [← k2] at this
    exact List.pairwise_map.1 this
  · rw [getD_rep]
    simp only [true_iff]
    simp only [Bool.or_eq_false_iff, decide_eq_false_iff_not, List.contains_eq_mem] at hU
    have : j ∈ E := (hcov j (by omega) hU.1).2 hU.2
    rw [← k2] at this
    obtain ⟨p, hp, e⟩ := List.mem_map.1 this
    exact ⟨p, hp, e⟩
  · rw [getD_rep] at hl; cases hl
end
theorem strip_sub {l : List VOper} : ∀ {E : List Nat}, stripOps (rgSub l E) = rgSub (stripOps l) E
  | [] => rfl
  | i :: r => by
    have ih := strip_sub (l := l) (E := r)
    unfold rgSub at ih ⊢
    rw [List.filterMap_cons, List.filterMap_cons, stripOps_get]
    cases l[i]? with
    | none => exact ih
    | some x => simp [stripOps, ih]
theorem strip_without {f : Nat} : ∀ {E : List Nat} {l : List VOper}, stripOps (rgOut f E l) = rgOut f E (stripOps l)
  | [], l => by simp [rgOut, stripOps]
  | _ :: _, [] => by simp [rgOut, stripOps]
  | i :: r, o :: l => by
    by_cases hi : i = f
    · simp [rgOut, stripOps, hi]
    · simp [rgOut, stripOps, hi, strip_without (E := r) (l := l)]
/-- What is to come behind the call. -/
def rgKT (P : Program) (n : Nat) (ps ms : List (Nat × Nat)) (Q : St → Prop) (dead : List Nat) (T : List Nat) (vs : List VOper) (σ2 : St) : Prop := runD P (fun es σ3 => chkD σ2 (ps.filter (rgBoth T)) (ms.filter (rgBoth T)) (rgPlace n T es) = true ∧ @NS (σ3.drop dead) ⟨Q⟩) vs σ2 []
/-- A drawn region with a call that turns objects; f is free to come ahead of it or behind it. E: what comes ahead, with f; T: what comes behind, T': with f. -/
theorem region_call {P : Program} (hm : P.follows .mixedOrders = true) (E T T' : List Nat) (m f dm : Nat) {vs : List VOper} {ps ms : List (Nat × Nat)} {dead : List Nat} {Q : Exit → St → Prop} {σ : St} {LE LB LT LT' : List VOper} {last : VOper}
    (h : runD P (fun es σA => chkD σ (ps.filter (rgBoth E)) (ms.filter (rgBoth E)) (rgPlace vs.length E es) = true ∧ runM P (rgKT P vs.length ps ms (Q .normal) dead T LT) [last] σA ∧ runD P (fun es' σB => es' = rgOut f E es ∧ runM P (rgKT P vs.length ps ms (Q .normal) dead T' LT') [last] σB) LB σ []) LE σ [])
    (e1 : rgSub vs E = LE := by rfl) (e2 : rgOut f E LE = LB := by rfl) (e3 : rgSub vs T = LT := by rfl) (e4 : rgSub vs T' = LT' := by rfl) (e5 : vs[m]? = some last := by rfl)
    (hok : (sortB (stripOps vs).length E && sortB (stripOps vs).length T && sortB (stripOps vs).length T' && okC (stripOps vs).length E T T' m f && goesB (stripOps vs) m (E.filter fun i => !(i == f)) && (match (stripOps vs)[m]? with
      | some v => v.dst == some dm
      | none => false) && fedB (stripOps vs) [dm] T) = true := by rfl) : TV P (.region vs (.drawn ps ms) dead) Q σ := by
  subst e1
  subst e2
  subst e3
  subst e4
  have e6 : rgSub vs [m] = [last] := by simp [rgSub, e5]
  rw [← e6] at h
  intro c hc hb
  simp only [VCode.strip] at hc
  simp only [VCode.bnd, Bool.and_eq_true] at hb
  obtain ⟨hb, _⟩ := hb
  obtain ⟨id, os, draw, rfl, hv, hmode⟩ := comp_strip_region hc
  rcases hmode with ⟨_, h0⟩ | ⟨rfl, ps', ms', hp, ⟨h0, _⟩ | h0⟩
  · simp [RMode.strip] at h0
  · simp [RMode.strip] at h0
  simp only [RMode.strip, RMode.drawn.injEq] at h0
  obtain ⟨rfl, rfl⟩ := h0
  refine RegOps.t hm ⟨id, os, true, rfl, ?_⟩
  intro w0 S0 M a w hs
  have hdrew : Sim w0 S0 M σ a { w with drawn := w.drawn + 1 } := by
    obtain ⟨S, μ, β, hg⟩ := hs
    exact ⟨S, μ, β, hg.world (w' := { w with drawn := w.drawn + 1 }) ⟨fun _ _ _ => rfl, fun _ _ h => h⟩ (fun _ _ x => x) (fun _ _ _ _ _ => rfl) (fun _ _ _ _ _ _ x => x) hg.stab (fun _ _ x => .inl x) ⟨hg.kept.os, hg.kept.tape, hg.kept.output, hg.kept.size, hg.kept.block, hg.kept.shape⟩⟩
  simp only [Bool.and_eq_true] at hok
  obtain ⟨⟨⟨⟨⟨⟨k1, k2⟩, k3⟩, k4⟩, k5⟩, k6⟩, k7⟩ := hok
  split at k6
  case h_2 => cases k6
  next vm hvm =>
  have hdm : vm.dst = some dm := by simpa using k6
  obtain ⟨es, σA, h1, hk, h2, h3⟩ := runD_steps h
  obtain ⟨es', σB, h4, h5, h6⟩ := runD_steps h3
  simp only [List.nil_append] at hk h5
  subst h5
  replace h1 := steps1_strip h1
  replace h4 := steps1_strip h4
  rw [strip_sub] at h1
  rw [strip_without, strip_sub] at h4
  rw [← stripOps_length (l := vs)] at hk
  have hd' : ∀ v ∈ stripOps vs, ∀ d, v.dst = some d → d < σ.n := by
    intro v hv d hdd
    obtain ⟨i, hi⟩ := List.getElem?_of_mem hv
    rw [stripOps_get] at hi
    cases ho : vs[i]? with
    | none => rw [ho] at hi; simp at hi
    | some x =>
      rw [ho] at hi
      simp only [Option.map_some, Option.some.injEq] at hi
      subst hi
      exact bndOps_spec hb x (List.mem_of_getElem? ho) d hdd
  refine ⟨fun h => (by cases h), fun _ => region_free hv hp k1 k2 k3 k4 k5 hvm hdm k7 hdrew hd' h1 hk h4 (K := fun T1 => rgKT P vs.length ps ms (Q .normal) dead T1 (rgSub vs T1)) (fun T1 σ2 hkt => ?_) (fun T1 σ1 hT1 N hN a w hs1 => ?_)⟩
  · obtain ⟨es2, σ3, g1, g2, g3⟩ := runD_steps hkt
    simp only [List.nil_append] at g2
    rw [← stripOps_length (l := vs)] at g2
    replace g1 := steps1_strip g1
    rw [strip_sub] at g1
    exact ⟨es2, σ3, g1, g2, fun a w hs3 hn3 hn2 => ⟨_, g3, hn3.trans hn2, weak_dropKeys _ _ _ _ _ _ _ hs3⟩⟩
  · rw [stripOps_get] at hvm
    cases hvo : vs[m]? with
    | none => rw [hvo] at hvm; cases hvm
    | some x =>
      rw [hvo] at hvm
      obtain rfl := Option.some.inj hvm
      have hsub : rgSub vs [m] = [x] := by simp [rgSub, hvo]
      rw [hsub] at h2 h6
      obtain ⟨o, ho, hco, _⟩ := comp_at hv (by rw [stripOps_get, hvo]; rfl)
      have hnB : σ1.n = σ.n := by
        rcases hT1 with ⟨_, rfl⟩ | ⟨_, rfl⟩
        · exact steps1_n h1
        · exact steps1_n h4
      have hrun : runM P (rgKT P vs.length ps ms (Q .normal) dead T1 (rgSub vs T1)) [x] σ1 := by
        rcases hT1 with ⟨rfl, rfl⟩ | ⟨rfl, rfl⟩
        · exact h2
        · exact h6
      exact stepM_sound ho hco hs1 (fun d hdd => by rw [hnB]; exact bndOps_spec hb x (List.mem_of_getElem? hvo) d hdd) hrun (fun σ' a'' w'' hk' hn' hs'' => hN _ _ σ' hk' (hn'.trans hnB) hs'')
end Go.Vs
set_option linter.unusedVariables false
set_option linter.unusedSimpArgs false
namespace Go.Vs

inductive Job where
  | fn (gl : List (Nat × List IV)) (k : Nat) (args : List IV)
  | mc (gl : List (Nat × List IV)) (k : Nat) (args : List SV) (objs : List (Nat × Ob)) (ro : List Nat)
  | loop (sf : List Nat) (v : VCode) (σ : St)
  | round (sf : List Nat) (v : VCode) (l : Nat) (σ : St)
inductive Out where
  | res (r : Res)
  | mc (res : SV) (objs' : List (Nat × Ob)) (ro' : List Nat)
  | lp (e : Exit) (σ : St)
def isGo : Exit → Bool
  | .goto _ => true
  | _ => false
/-- Rounds from a label, and how the last one ends. -/
inductive Rds (P : Program) (r : VCode) (l : Nat) (e : Exit) (σf : St) (n : Nat) : Nat → St → Prop
  | last {σ : St} : σ.n = n → (∀ Q : Exit → St → Prop, Q e σf → pw P r Q σ) → Rds P r l e σf n 0 σ
  | more {k : Nat} {σ σ2 σ3 : St} : σ.n = n → (∀ Q : Exit → St → Prop, Q (.goto l) σ2 → pw P r Q σ) → Weak σ2 σ3 → Rds P r l e σf n k σ3 → Rds P r l e σf n (k + 1) σ
/-- What was reckoned is so. -/
def JobOk (P : Program) : Job → Out → Prop
  | .fn gl k args, .res r => FnR gl P k args r
  | .mc gl k args objs ro, .mc r objs' ro' => FnM gl P k ⟨args, objs, r, objs', ro', ro⟩
  | .loop _ v σ, .lp e σ' => ∃ n, ∀ Q : Exit → St → Prop, Q e σ' → ∀ c, comp P c = some v.strip → v.bnd σ.n = true → ∀ (w0 : World) (S0 : Stab) (M : Ctx) (a : Act) (w : World), Sim w0 S0 M σ a w → Code.rounds P c (lift w0 S0 M σ.n Q) n a w
  | .round _ v l σ, .lp e σ' => ∃ k σ0, Weak σ σ0 ∧ Rds P v l e σ' σ.n k σ0
  | _, _ => False

/- The objects that a value names. -/
mutual
def SV.ids : SV → List Nat
  | .own id _ => [id]
  | .loc id _ => [id]
  | .eloc id _ _ _ => [id]
  | .view id _ _ _ => [id]
  | .selfN id _ _ => [id]
  | .ownT id _ _ => [id]
  | .itr id => [id]
  | .town id _ => [id]
  | .teloc id _ _ _ => [id]
  | .agg cells => idsL cells
  | .clo _ caps => idsL caps
  | .bdl _ caps => idsL caps
  | .tup caps => idsL caps
  | .ifc _ v => v.ids
  | _ => []
def idsL : List SV → List Nat
  | [] => []
  | x :: r => x.ids ++ idsL r
end
def idsLn : List (Nat × Nat × SV) → List Nat
  | [] => []
  | p :: r => p.2.2.ids ++ idsLn r
def Ob.ids : Ob → List Nat
  | .box cells => idsL cells
  | .tab _ _ _ ln => idsLn ln
  | _ => []
def inIds (ids : List Nat) : List Nat → Bool
  | [] => true
  | i :: r => ids.contains i && inIds ids r
theorem inIds_mem {ids : List Nat} : ∀ {l : List Nat}, inIds ids l = true → ∀ i ∈ l, i ∈ ids
  | [], _, i, h => by cases h
  | j :: r, h, i, hi => by
    simp only [inIds, Bool.and_eq_true] at h
    rcases List.mem_cons.1 hi with rfl | hi
    · simpa using h.1
    · exact inIds_mem h.2 i hi

section
variable {ρ ρ' : List (Nat × Nat)}
/- There and back. -/
mutual
theorem ren_back : ∀ x : SV, (∀ i ∈ x.ids, ren ρ (ren ρ' i) = i) → (x.ren ρ').ren ρ = x
  | .undef, _ => rfl
  | .val _, _ => rfl
  | .nils, _ => rfl
  | .full _, _ => rfl
  | .own id _, h => by simp only [SV.ren, h id (by simp [SV.ids])]
  | .loc id _, h => by simp only [SV.ren, h id (by simp [SV.ids])]
  | .eloc id _ _ _, h => by simp only [SV.ren, h id (by simp [SV.ids])]
  | .view id _ _ _, h => by simp only [SV.ren, h id (by simp [SV.ids])]
  | .agg cells, h => by simp only [SV.ren, renL_back cells h]
  | .clo _ caps, h => by simp only [SV.ren, renL_back caps h]
  | .bdl _ caps, h => by simp only [SV.ren, renL_back caps h]
  | .tup caps, h => by simp only [SV.ren, renL_back caps h]
  | .ifc _ v, h => by simp only [SV.ren, ren_back v h]
  | .anyB, _ => rfl
  | .selfN id _ _, h => by simp only [SV.ren, h id (by simp [SV.ids])]
  | .ownT id _ _, h => by simp only [SV.ren, h id (by simp [SV.ids])]
  | .itr id, h => by simp only [SV.ren, h id (by simp [SV.ids])]
  | .town id _, h => by simp only [SV.ren, h id (by simp [SV.ids])]
  | .teloc id _ _ _, h => by simp only [SV.ren, h id (by simp [SV.ids])]
  | .nilT, _ => rfl
  | .emp _, _ => rfl
theorem renL_back : ∀ x : List SV, (∀ i ∈ idsL x, ren ρ (ren ρ' i) = i) → renL ρ (renL ρ' x) = x
  | [], _ => rfl
  | x :: r, h => by
    simp only [renL, ren_back x (fun i hi => h i (by simp only [idsL, List.mem_append]; exact .inl hi)), renL_back r (fun i hi => h i (by simp only [idsL, List.mem_append]; exact .inr hi))]
end
theorem renLn_back : ∀ x : List (Nat × Nat × SV), (∀ i ∈ idsLn x, ren ρ (ren ρ' i) = i) → renLn ρ (renLn ρ' x) = x
  | [], _ => rfl
  | p :: r, h => by
    simp only [renLn, ren_back p.2.2 (fun i hi => h i (by simp only [idsLn, List.mem_append]; exact .inl hi)), renLn_back r (fun i hi => h i (by simp only [idsLn, List.mem_append]; exact .inr hi))]
theorem renOb_back : ∀ o : Ob, (∀ i ∈ o.ids, ren ρ (ren ρ' i) = i) → (o.ren ρ').ren ρ = o
  | .box cells, h => by simp only [Ob.ren, renL_back cells h]
  | .arr _ _ _, _ => rfl
  | .iter _ _, _ => rfl
  | .tab _ _ _ ln, h => by simp only [Ob.ren, renLn_back ln h]
end

/-- What is named, and what that names. -/
def reach (objs : List (Nat × Ob)) : Nat → List Nat → List Nat → List Nat
  | _, [], seen => seen
  | 0, _, seen => seen
  | n + 1, i :: r, seen => bif seen.contains i then reach objs n r seen else match look objs i with
    | some o => reach objs n (o.ids ++ r) (seen ++ [i])
    | none => reach objs n r seen
def pickO (objs : List (Nat × Ob)) : List Nat → List (Nat × Ob)
  | [] => []
  | i :: r => match look objs i with
    | some o => (i, o) :: pickO objs r
    | none => pickO objs r
def pickR (objs : List (Nat × Ob)) (ρ' : List (Nat × Nat)) : List Nat → List (Nat × Ob)
  | [] => []
  | i :: r => match look objs i with
    | some o => (ren ρ' i, o.ren ρ') :: pickR objs ρ' r
    | none => pickR objs ρ' r
def closedO (objs : List (Nat × Ob)) (ids : List Nat) : List Nat → Bool
  | [] => true
  | i :: r => (match look objs i with
    | some o => inIds ids o.ids
    | none => true) && closedO objs ids r
def invs (ρ ρ' : List (Nat × Nat)) : List Nat → Bool
  | [] => true
  | i :: r => Nat.beq (ren ρ (ren ρ' i)) i && invs ρ ρ' r
theorem invs_mem {ρ ρ' : List (Nat × Nat)} : ∀ {l : List Nat}, invs ρ ρ' l = true → ∀ i ∈ l, ren ρ (ren ρ' i) = i
  | [], _, i, h => by cases h
  | j :: r, h, i, hi => by
    simp only [invs, Bool.and_eq_true] at h
    rcases List.mem_cons.1 hi with rfl | hi
    · exact Nat.eq_of_beq_eq_true h.1
    · exact invs_mem h.2 i hi
theorem pickR_objs {objs : List (Nat × Ob)} {ρ ρ' : List (Nat × Nat)} {ids : List Nat} (hi : ∀ i ∈ ids, ren ρ (ren ρ' i) = i) : ∀ {l : List Nat}, (∀ i ∈ l, i ∈ ids) → closedO objs ids l = true → mObjs objs ρ (pickR objs ρ' l)
  | [], _, _ => trivial
  | i :: r, hl, hc => by
    simp only [closedO, Bool.and_eq_true] at hc
    unfold pickR
    split
    · next o ho =>
      rw [ho] at hc
      refine ⟨?_, pickR_objs hi (fun j hj => hl j (List.mem_cons_of_mem _ hj)) hc.2⟩
      rw [hi i (hl i (by simp)), ho, renOb_back o (fun j hj => hi j (inIds_mem hc.1 j hj))]
    · exact pickR_objs hi (fun j hj => hl j (List.mem_cons_of_mem _ hj)) hc.2
theorem renL_args {objs : List (Nat × Ob)} {ρ ρ' : List (Nat × Nat)} {ids : List Nat} (hi : ∀ i ∈ ids, ren ρ (ren ρ' i) = i) : ∀ {l : List SV}, inIds ids (idsL l) = true → mArgs objs ρ l (renL ρ' l) []
  | [], _ => rfl
  | x :: r, h => by
    have hm := inIds_mem h
    have hx : (x.ren ρ').ren ρ = x := ren_back x (fun i h' => hi i (hm i (by simp only [idsL, List.mem_append]; exact .inl h')))
    have hr : inIds ids (idsL r) = true := by
      have gen : ∀ (a b : List Nat), inIds ids (a ++ b) = true → inIds ids b = true := by
        intro a
        induction a with
        | nil => exact fun b h => h
        | cons y a ih => intro b h; simp only [List.cons_append, inIds, Bool.and_eq_true] at h; exact ih b h.2
      exact gen _ _ h
    cases x with
    | val iv => exact ⟨[], [], rfl, renL_args hi hr, rfl⟩
    | _ => exact ⟨hx.symm, renL_args hi hr⟩
theorem mFz_nil {ρ : List (Nat × Nat)} : ∀ {l : List (Nat × Ob)}, mFz ρ [] l = true
  | [] => rfl
  | _ :: r => by simp [mFz, mFz_nil (l := r)]

/-- Names for what has come: the slot itself, or others that nothing names. -/
def freeNames (σ : St) : Nat → List Nat
  | 0 => []
  | n + 1 => bif (look σ.objs n).isNone && noRefE n σ.env && noRefO n σ.objs then n :: freeNames σ n else freeNames σ n
def newKeys (objs : List (Nat × Ob)) : List (Nat × Ob) → List Nat
  | [] => []
  | (i, _) :: r => bif (look objs i).isSome then newKeys objs r else i :: newKeys objs r
def freeOf (σ : St) : List Nat → List Nat
  | [] => []
  | n :: r => bif (look σ.objs n).isNone && noRefE n σ.env && noRefO n σ.objs then n :: freeOf σ r else freeOf σ r
def mkM (sf : List Nat) (σ : St) (objs objs' : List (Nat × Ob)) : List (Nat × Nat) := match newKeys objs objs' with
  | [] => []
  | l => l.zip (freeOf σ sf ++ freeNames σ σ.n)
def VOp.isM : VOp → Bool
  | .callM _ _ => true
  | .callMV _ _ => true
  | _ => false
def findM : List VOper → Nat → Option Nat
  | [], _ => none
  | o :: r, i => bif o.op.isM then some i else findM r (i + 1)
def drawnPart : VCode → Option (List VOper × List (Nat × Nat) × List (Nat × Nat) × List Nat)
  | .region ops (.drawn ps ms) dead => some (ops, ps, ms, dead)
  | _ => none
theorem drawnPart_eq {v : VCode} {p : List VOper × List (Nat × Nat) × List (Nat × Nat) × List Nat} (h : drawnPart v = some p) : v = .region p.1 (.drawn p.2.1 p.2.2.1) p.2.2.2 := by
  unfold drawnPart at h
  split at h
  · cases h; rfl
  · cases h
theorem rgOut_id {α : Type} {f : Nat} : ∀ {E : List Nat} {l : List α}, (∀ i ∈ E, i ≠ f) → l.length = E.length → rgOut f E l = l
  | [], l, _, hl => by obtain rfl := List.length_eq_zero_iff.1 hl; rfl
  | _ :: _, [], _, hl => by simp at hl
  | i :: E, x :: l, h, hl => by
    simp only [rgOut, if_neg (h i (by simp)), rgOut_id (fun j hj => h j (List.mem_cons_of_mem _ hj)) (by simpa using hl)]

section
variable (sf : List Nat) (X : Job → Option Out)
/-- A call that turns objects. -/
def mX (σ : St) (dst : Option Nat) (fv : SV) (args : List Opd) : Option St := match mVals σ fv args with
  | none => none
  | some (k, vals) =>
    let ids := reach σ.objs 200 (idsL vals) []
    let ρ' := ids.map fun i => (i, 1000 + i)
    let objs := pickR σ.objs ρ' ids
    let ro := (ids.filter σ.ro.contains).map (1000 + ·)
    match X (.mc σ.gl k (renL ρ' vals) objs ro) with
    | some (.mc res objs' ro') =>
      let ρ := ids.map (fun i => (1000 + i, i)) ++ mkM sf σ objs objs'
      bif mOk σ ρ ⟨renL ρ' vals, objs, res, objs', ro', ro⟩ && (invs ρ ρ' ids && (inIds ids (idsL vals) && closedO σ.objs ids ids)) then some (σ.mapply dst ρ ⟨renL ρ' vals, objs, res, objs', ro', ro⟩ []) else none
    | _ => none
def cX (σ : St) (dst : Option Nat) (fv : SV) (args : List Opd) : Option Upd := match callArgs σ fv args with
  | some (g, ivs, fz) => match X (.fn σ.gl g ivs) with
    | some (.res r) => callUpd dst fz r
    | _ => none
  | none => none
def opX (σ : St) (dst : Option Nat) : VOp → Option Upd
  | .call f args => cX X σ dst (.val (.fn f [])) args
  | .callV f args => cX X σ dst (val σ f) args
  | op => match ev σ dst op with
    | some u => match u.dec with
      | .isTrue _ => some u
      | .isFalse _ => none
    | none => none
def actX (σ : St) (dst : Option Nat) : VOp → Option St
  | .callM f args => mX sf X σ dst (.val (.fn f [])) args
  | .callMV f args => mX sf X σ dst (val σ f) args
  | op => match opX X σ dst op with
    | some u => some (σ.apply dst u)
    | none => none
/-- Operations in the order of the text. -/
def xT : List VOper → St → Option St
  | [], σ => some σ
  | o :: r, σ => match o.guard with
    | none => match opX X σ o.dst o.op with
      | some u => xT r (σ.apply o.dst u)
      | none => none
    | some (g, b) => match gval (getE σ.env g) with
      | some c => if c = some b then (match opX X σ o.dst o.op with
          | some u => xT r (σ.apply o.dst u)
          | none => none) else xT r (σ.apply o.dst skipU)
      | none => none
def xM : List VOper → St → Option St
  | [], σ => some σ
  | o :: r, σ => match o.guard with
    | none => match actX sf X σ o.dst o.op with
      | some σ' => xM r σ'
      | none => none
    | some (g, b) => match gval (getE σ.env g) with
      | some c => if c = some b then (match actX sf X σ o.dst o.op with
          | some σ' => xM r σ'
          | none => none) else xM r (σ.apply o.dst skipU)
      | none => none
def xD (σ0 : St) (ps ms : List (Nat × Nat)) : List VOper → St → List Eff → Option St
  | [], σ, es => bif chkD σ0 ps ms es then some σ else none
  | o :: r, σ, es => match o.guard with
    | none => match opX X σ o.dst o.op with
      | some u => xD σ0 ps ms r (σ.apply o.dst u) (es ++ [⟨idsOf σ o.op u, o.dst, u⟩])
      | none => none
    | some (g, b) => match gval (getE σ.env g) with
      | some c => if c = some b then (match opX X σ o.dst o.op with
          | some u => xD σ0 ps ms r (σ.apply o.dst u) (es ++ [⟨idsOf σ o.op u, o.dst, u⟩])
          | none => none) else xD σ0 ps ms r (σ.apply o.dst skipU) (es ++ [⟨[], o.dst, skipU⟩])
      | none => none
def xDM (σ0 : St) (ps ms : List (Nat × Nat)) : List VOper → St → List Eff → Option St
  | [], _, _ => none
  | [o], σ, es => bif chkD σ0 (cutP es.length ps) (cutP es.length ms) es then xM sf X [o] σ else none
  | o :: o2 :: r, σ, es => match o.guard with
    | none => match opX X σ o.dst o.op with
      | some u => xDM σ0 ps ms (o2 :: r) (σ.apply o.dst u) (es ++ [⟨idsOf σ o.op u, o.dst, u⟩])
      | none => none
    | some _ => none
def xE : List VOper → St → List Eff → Option (List Eff × St)
  | [], σ, es => some (es, σ)
  | o :: r, σ, es => match o.guard with
    | none => match opX X σ o.dst o.op with
      | some u => xE r (σ.apply o.dst u) (es ++ [⟨idsOf σ o.op u, o.dst, u⟩])
      | none => none
    | some (g, b) => match gval (getE σ.env g) with
      | some c => if c = some b then (match opX X σ o.dst o.op with
          | some u => xE r (σ.apply o.dst u) (es ++ [⟨idsOf σ o.op u, o.dst, u⟩])
          | none => none) else xE r (σ.apply o.dst skipU) (es ++ [⟨[], o.dst, skipU⟩])
      | none => none
/-- May the operations ahead of the call at m, and those behind it, be run so? -/
def okM (vs : List VOper) (m dm : Nat) (E T : List Nat) : Bool :=
  (sortB (stripOps vs).length E && sortB (stripOps vs).length T && sortB (stripOps vs).length T && okC (stripOps vs).length E T T m vs.length && goesB (stripOps vs) m (E.filter fun i => !(i == vs.length)) && (match (stripOps vs)[m]? with
      | some v => v.dst == some dm
      | none => false) && fedB (stripOps vs) [dm] T)
/-- A drawn region with a call that turns objects in its midst. -/
def xC (vs : List VOper) (ps ms : List (Nat × Nat)) (σ : St) : Option St := match findM vs 0 with
  | none => none
  | some m => match vs[m]? with
    | none => none
    | some last => match last.dst with
      | none => none
      | some dm => bif okM vs m dm (List.range m) (List.range' (m + 1) (vs.length - (m + 1))) && Nat.beq (rgSub vs (List.range m)).length m then (match xE X (rgSub vs (List.range m)) σ [] with
          | some (es, σA) => bif chkD σ (ps.filter (rgBoth (List.range m))) (ms.filter (rgBoth (List.range m))) (rgPlace vs.length (List.range m) es) && (Nat.beq es.length m && Nat.blt m vs.length) then (match xM sf X [last] σA with
            | some σ2 => match xE X (rgSub vs (List.range' (m + 1) (vs.length - (m + 1)))) σ2 [] with
              | some (es2, σ3) => bif chkD σ2 (ps.filter (rgBoth (List.range' (m + 1) (vs.length - (m + 1))))) (ms.filter (rgBoth (List.range' (m + 1) (vs.length - (m + 1))))) (rgPlace vs.length (List.range' (m + 1) (vs.length - (m + 1))) es2) then some σ3 else none
              | none => none
            | none => none) else none
          | none => none) else none
def xR (ops : List VOper) (σ : St) : RMode → Option St
  | .text => xM sf X ops σ
  | .calm => xT X ops σ
  | .drawn ps ms => xD X σ ps ms ops σ []
  | .drawnM ps ms => xDM sf X σ ps ms ops σ []
def xw : VCode → St → Option (Exit × St)
  | .skip, σ => some (.normal, σ)
  | .region ops mode dead, σ => match xR sf X ops σ mode with
    | some σ' => some (.normal, σ'.drop dead)
    | none => none
  | .seq a b, σ => match xw a σ with
    | some (.normal, σ') => xw b σ'
    | r => r
  | .cond c a b, σ => match val σ c with
    | .val (.bool true) => xw a σ
    | .val (.bool false) => xw b σ
    | _ => none
  | .block id a, σ => match xw a σ with
    | some (.exit i, σ') => if i = id then some (.normal, σ') else some (.exit i, σ')
    | r => r
  | .loop a, σ => match X (.loop sf a σ) with
    | some (.lp e σ') => some (e, σ')
    | _ => none
  | .exit id, σ => some (.exit id, σ)
  | .scope a, σ => match xw a σ with
    | some (.goto l, σ1) => match vfind a l with
      | some r => bif Nat.beq σ1.n σ.n then (match X (.round sf r l σ1) with
          | some (.lp e σ') => bif isGo e then none else some (e, σ')
          | _ => none) else none
      | none => none
    | r => r
  | .label _, σ => some (.normal, σ)
  | .goto l, σ => some (.goto l, σ)
  | .ret, σ => some (.ret, σ)
  | .refuse, _ => none
  | .cut a, σ => match drawnPart a with
    | some (ops, ps, ms, dead) => match xC sf X ops ps ms σ with
      | some σ' => some (.normal, σ'.drop dead)
      | none => none
    | none => xw a σ
end

section
variable {P : Program} {sf : List Nat} {X : Job → Option Out} (hX : ∀ j o, X j = some o → JobOk P j o)
include hX
theorem mX_sound {σ σ' : St} {dst : Option Nat} {fv : SV} {args : List Opd} (h : mX sf X σ dst fv args = some σ') {K : St → Prop} (hK : K σ') : MCall P σ dst fv args K := by
  unfold mX at h
  split at h
  · cases h
  · next k vals hv =>
    dsimp only at h
    split at h
    · next res objs' ro' hx =>
      have hF := hX _ _ hx
      generalize reach σ.objs 200 (idsL vals) [] = ids at *
      generalize hρ : (ids.map (fun i => (1000 + i, i)) ++ mkM sf σ (pickR σ.objs (ids.map fun i => (i, 1000 + i)) ids) objs') = ρ at *
      generalize (ids.map fun i => (i, 1000 + i)) = ρ' at *
      cases hc : (mOk σ ρ ⟨renL ρ' vals, pickR σ.objs ρ' ids, res, objs', ro', (ids.filter σ.ro.contains).map (1000 + ·)⟩ && (invs ρ ρ' ids && (inIds ids (idsL vals) && closedO σ.objs ids ids))) with
      | false => rw [hc] at h; cases h
      | true =>
        rw [hc] at h
        cases h
        simp only [Bool.and_eq_true] at hc
        obtain ⟨h1, h2, h3, h4⟩ := hc
        exact ⟨k, vals, _, ρ, [], hv, hF, h1, pickR_objs (invs_mem h2) (fun _ x => x) h4, renL_args (invs_mem h2) h3, mFz_nil, hK⟩
    · cases h
theorem cX_sound {σ : St} {dst : Option Nat} {fv : SV} {args : List Opd} {u : Upd} (h : cX X σ dst fv args = some u) {K : Upd → Prop} (hK : K u) : match callArgs σ fv args with
    | some (g, ivs, fz) => ∃ r, FnR σ.gl P g ivs r ∧ match callUpd dst fz r with
      | some u => K u
      | none => False
    | none => False := by
  unfold cX at h
  cases hca : callArgs σ fv args with
  | none => rw [hca] at h; cases h
  | some p =>
    obtain ⟨g, ivs, fz⟩ := p
    rw [hca] at h
    dsimp only at h ⊢
    split at h
    · next r hx => exact ⟨_, hX _ _ hx, by rw [h]; exact hK⟩
    · cases h
theorem opX_sound {σ : St} {dst : Option Nat} {op : VOp} {u : Upd} (h : opX X σ dst op = some u) {K : Upd → Prop} (hK : K u) : opW P σ dst K op := by
  have plain : (match ev σ dst op with
      | some u => match u.dec with
        | .isTrue _ => some u
        | .isFalse _ => none
      | none => none) = some u → (match ev σ dst op with
      | some u => u.side ∧ K u
      | none => False) := by
    intro h
    split at h
    · split at h
      · next hs _ => cases h; exact ⟨hs, hK⟩
      · cases h
    · cases h
  cases op
  case call f args => exact cX_sound hX h hK
  case callV f args => exact cX_sound hX h hK
  all_goals exact plain h
theorem actX_sound {σ : St} {dst : Option Nat} {op : VOp} {σ' : St} (h : actX sf X σ dst op = some σ') {K : St → Prop} (hK : K σ') : opM P σ dst K op := by
  cases op
  case callM f args => exact mX_sound hX (by simpa only [actX] using h) hK
  case callMV f args => exact mX_sound hX (by simpa only [actX] using h) hK
  all_goals
    simp only [actX] at h
    split at h
    · next u hu => cases h; exact opX_sound hX hu (K := fun u => K (σ.apply dst u)) hK
    · cases h
theorem xT_sound : ∀ {ops : List VOper} {σ σ' : St}, xT X ops σ = some σ' → ∀ {K : St → Prop}, K σ' → runT P K ops σ
  | [], σ, σ', h, K, hK => by cases h; exact hK
  | o :: r, σ, σ', h, K, hK => by
    unfold xT at h
    unfold runT
    have act : (match opX X σ o.dst o.op with
        | some u => xT X r (σ.apply o.dst u)
        | none => none) = some σ' → opW P σ o.dst (fun u => runT P K r (σ.apply o.dst u)) o.op := by
      intro h
      split at h
      · next u hu => exact opX_sound hX hu (xT_sound h hK)
      · cases h
    cases hg : o.guard with
    | none => rw [hg] at h; exact act h
    | some p =>
      obtain ⟨g, b⟩ := p
      rw [hg] at h
      dsimp only at h ⊢
      cases hc : gval (getE σ.env g) with
      | none => rw [hc] at h; cases h
      | some c =>
        rw [hc] at h
        dsimp only at h ⊢
        split at h
        · next he => exact ⟨fun _ => act h, fun hn => absurd he hn⟩
        · next he => exact ⟨fun hy => absurd hy he, fun _ => xT_sound h hK⟩
theorem xM_sound : ∀ {ops : List VOper} {σ σ' : St}, xM sf X ops σ = some σ' → ∀ {K : St → Prop}, K σ' → runM P K ops σ
  | [], σ, σ', h, K, hK => by cases h; exact hK
  | o :: r, σ, σ', h, K, hK => by
    unfold xM at h
    unfold runM
    have act : (match actX sf X σ o.dst o.op with
        | some σ' => xM sf X r σ'
        | none => none) = some σ' → opM P σ o.dst (runM P K r) o.op := by
      intro h
      split at h
      · next u hu => exact actX_sound hX hu (xM_sound h hK)
      · cases h
    cases hg : o.guard with
    | none => rw [hg] at h; exact act h
    | some p =>
      obtain ⟨g, b⟩ := p
      rw [hg] at h
      dsimp only at h ⊢
      cases hc : gval (getE σ.env g) with
      | none => rw [hc] at h; cases h
      | some c =>
        rw [hc] at h
        dsimp only at h ⊢
        split at h
        · next he => exact ⟨fun _ => act h, fun hn => absurd he hn⟩
        · next he => exact ⟨fun hy => absurd hy he, fun _ => xM_sound h hK⟩
theorem xD_sound {σ0 : St} {ps ms : List (Nat × Nat)} : ∀ {ops : List VOper} {σ σ' : St} {es : List Eff}, xD X σ0 ps ms ops σ es = some σ' → ∀ {K : St → Prop}, K σ' → runD P (fun es σ' => chkD σ0 ps ms es = true ∧ K σ') ops σ es
  | [], σ, σ', es, h, K, hK => by
    unfold xD at h
    cases hc : chkD σ0 ps ms es with
    | false => rw [hc] at h; cases h
    | true => rw [hc] at h; cases h; exact ⟨hc, hK⟩
  | o :: r, σ, σ', es, h, K, hK => by
    unfold xD at h
    unfold runD
    have act : (match opX X σ o.dst o.op with
        | some u => xD X σ0 ps ms r (σ.apply o.dst u) (es ++ [⟨idsOf σ o.op u, o.dst, u⟩])
        | none => none) = some σ' → opW P σ o.dst (fun u => runD P (fun es σ' => chkD σ0 ps ms es = true ∧ K σ') r (σ.apply o.dst u) (es ++ [⟨idsOf σ o.op u, o.dst, u⟩])) o.op := by
      intro h
      split at h
      · next u hu => exact opX_sound hX hu (xD_sound h hK)
      · cases h
    cases hg : o.guard with
    | none => rw [hg] at h; exact act h
    | some p =>
      obtain ⟨g, b⟩ := p
      rw [hg] at h
      dsimp only at h ⊢
      cases hc : gval (getE σ.env g) with
      | none => rw [hc] at h; cases h
      | some c =>
        rw [hc] at h
        dsimp only at h ⊢
        split at h
        · next he => exact ⟨fun _ => act h, fun hn => absurd he hn⟩
        · next he => exact ⟨fun hy => absurd hy he, fun _ => xD_sound h hK⟩
theorem xE_sound : ∀ {ops : List VOper} {σ : St} {es : List Eff} {p : List Eff × St}, xE X ops σ es = some p → ∀ {K : List Eff → St → Prop}, K p.1 p.2 → runD P K ops σ es
  | [], σ, es, p, h, K, hK => by cases h; exact hK
  | o :: r, σ, es, p, h, K, hK => by
    unfold xE at h
    unfold runD
    have act : (match opX X σ o.dst o.op with
        | some u => xE X r (σ.apply o.dst u) (es ++ [⟨idsOf σ o.op u, o.dst, u⟩])
        | none => none) = some p → opW P σ o.dst (fun u => runD P K r (σ.apply o.dst u) (es ++ [⟨idsOf σ o.op u, o.dst, u⟩])) o.op := by
      intro h
      split at h
      · next u hu => exact opX_sound hX hu (xE_sound h hK)
      · cases h
    cases hg : o.guard with
    | none => rw [hg] at h; exact act h
    | some p =>
      obtain ⟨g, b⟩ := p
      rw [hg] at h
      dsimp only at h ⊢
      cases hc : gval (getE σ.env g) with
      | none => rw [hc] at h; cases h
      | some c =>
        rw [hc] at h
        dsimp only at h ⊢
        split at h
        · next he => exact ⟨fun _ => act h, fun hn => absurd he hn⟩
        · next he => exact ⟨fun hy => absurd hy he, fun _ => xE_sound h hK⟩
theorem xDM_sound {σ0 : St} {ps ms : List (Nat × Nat)} : ∀ {ops : List VOper} {σ σ' : St} {es : List Eff}, xDM sf X σ0 ps ms ops σ es = some σ' → ∀ {K : St → Prop}, K σ' → runDM P K σ0 ps ms ops σ es
  | [], σ, σ', es, h, K, hK => by cases h
  | [o], σ, σ', es, h, K, hK => by
    unfold xDM at h
    cases hc : chkD σ0 (cutP es.length ps) (cutP es.length ms) es with
    | false => rw [hc] at h; cases h
    | true => rw [hc] at h; exact ⟨hc, xM_sound hX h hK⟩
  | o :: o2 :: r, σ, σ', es, h, K, hK => by
    unfold xDM at h
    unfold runDM
    cases hg : o.guard with
    | none =>
      rw [hg] at h
      dsimp only at h ⊢
      split at h
      · next u hu => exact opX_sound hX hu (xDM_sound h hK)
      · cases h
    | some p => rw [hg] at h; cases h
end

theorem rounds_weak {P : Program} {v : VCode} {Q : Exit → St → Prop} {σ σ' : St} (hw : Weak σ σ') (hn : σ'.n = σ.n) {n : Nat} (h : ∀ c, comp P c = some v.strip → v.bnd σ'.n = true → ∀ (w0 : World) (S0 : Stab) (M : Ctx) (a : Act) (w : World), Sim w0 S0 M σ' a w → Code.rounds P c (lift w0 S0 M σ'.n Q) n a w) :
    ∀ c, comp P c = some v.strip → v.bnd σ.n = true → ∀ (w0 : World) (S0 : Stab) (M : Ctx) (a : Act) (w : World), Sim w0 S0 M σ a w → Code.rounds P c (lift w0 S0 M σ.n Q) n a w := by
  intro c hc hb w0 S0 M a w hs
  have := h c hc (by rw [hn]; exact hb) w0 S0 M a w (hw _ _ _ _ _ hs)
  rw [hn] at this
  exact this
/-- One round, and those behind it. -/
theorem rounds_more {P : Program} (hm : P.follows .mixedOrders = true) {v : VCode} {Q : Exit → St → Prop} {σ : St} {n : Nat} (h : pw P v (fun e σ' => match e with
      | .normal => ∀ c, comp P c = some v.strip → v.bnd σ'.n = true → ∀ (w0 : World) (S0 : Stab) (M : Ctx) (a : Act) (w : World), Sim w0 S0 M σ' a w → Code.rounds P c (lift w0 S0 M σ'.n Q) n a w
      | e => Q e σ') σ) : ∀ c, comp P c = some v.strip → v.bnd σ.n = true → ∀ (w0 : World) (S0 : Stab) (M : Ctx) (a : Act) (w : World), Sim w0 S0 M σ a w → Code.rounds P c (lift w0 S0 M σ.n Q) (n + 1) a w := by
  intro c hc hb w0 S0 M a w hs
  refine wp_mono (pw_sound hm v h c hc hb w0 S0 M a w hs) (fun e a' w' hl => ?_)
  cases e with
  | normal =>
    obtain ⟨σ', q1, q2, q3⟩ := hl
    have := q1 c hc (by rw [q2]; exact hb) w0 S0 M a' w' q3
    rw [q2] at this
    exact this
  | exit => exact hl
  | goto => exact hl
  | ret => exact hl
  | panic => exact hl
  | outgrown => exact hl

section
variable {P : Program} (hm : P.follows .mixedOrders = true) {sf : List Nat} {X : Job → Option Out} (hX : ∀ j o, X j = some o → JobOk P j o)
include hm hX
omit hm in
theorem xR_sound {ops : List VOper} {σ σ' : St} {mode : RMode} {dead : List Nat} (h : xR sf X ops σ mode = some σ') {Q : Exit → St → Prop} (hQ : Q .normal (σ'.drop dead)) : pw P (.region ops mode dead) Q σ := by
  cases mode with
  | text => exact xM_sound hX h (K := fun σ' => Q .normal (σ'.drop dead)) hQ
  | calm => exact xT_sound hX h (K := fun σ' => Q .normal (σ'.drop dead)) hQ
  | drawn ps ms => exact xD_sound hX h (K := fun σ' => Q .normal (σ'.drop dead)) hQ
  | drawnM ps ms => exact xDM_sound hX h (K := fun σ' => Q .normal (σ'.drop dead)) hQ
theorem xC_sound {vs : List VOper} {ps ms : List (Nat × Nat)} {dead : List Nat} {σ σ' : St} (h : xC sf X vs ps ms σ = some σ') {Q : Exit → St → Prop} (hQ : Q .normal (σ'.drop dead)) : TV P (.region vs (.drawn ps ms) dead) Q σ := by
  unfold xC at h
  split at h
  · cases h
  · next m hm' =>
    split at h
    · cases h
    · next last hlast =>
      split at h
      · cases h
      · next dm hdm =>
        generalize hE : List.range m = E at *
        generalize hT : List.range' (m + 1) (vs.length - (m + 1)) = T at *
        cases hok : (okM vs m dm E T && Nat.beq (rgSub vs E).length m) with
        | false => rw [hok] at h; cases h
        | true =>
          rw [hok] at h
          simp only [Bool.and_eq_true] at hok
          simp only [cond_true] at h
          split at h
          · next es σA hes =>
            cases hck : (chkD σ (ps.filter (rgBoth E)) (ms.filter (rgBoth E)) (rgPlace vs.length E es) && (Nat.beq es.length m && Nat.blt m vs.length)) with
            | false => rw [hck] at h; cases h
            | true =>
              rw [hck] at h
              simp only [Bool.and_eq_true] at hck
              simp only [cond_true] at h
              split at h
              · next σ2 h2 =>
                split at h
                · next es2 σ3 h3 =>
                  cases hck2 : chkD σ2 (ps.filter (rgBoth T)) (ms.filter (rgBoth T)) (rgPlace vs.length T es2) with
                  | false => rw [hck2] at h; cases h
                  | true =>
                    rw [hck2] at h
                    cases h
                    have hEl : E.length = m := by rw [← hE]; simp
                    have hlt : m < vs.length := Nat.lt_of_succ_le (by simpa [Nat.blt] using hck.2.2)
                    have hne : ∀ i ∈ E, i ≠ vs.length := by
                      intro i hi
                      rw [← hE] at hi
                      have := List.mem_range.1 hi
                      omega
                    have e1 : rgOut vs.length E (rgSub vs E) = rgSub vs E := rgOut_id hne ((Nat.eq_of_beq_eq_true hok.2).trans hEl.symm)
                    have e2 : rgOut vs.length E es = es := rgOut_id hne ((Nat.eq_of_beq_eq_true hck.2.1).trans hEl.symm)
                    have last2 : runM P (rgKT P vs.length ps ms (Q .normal) dead T (rgSub vs T)) [last] σA := xM_sound hX h2 (xE_sound hX h3 ⟨hck2, hQ⟩)
                    refine region_call hm E T T m vs.length dm (LE := rgSub vs E) (LB := rgSub vs E) (LT := rgSub vs T) (LT' := rgSub vs T) (last := last) (xE_sound hX hes ⟨hck.1, last2, xE_sound hX hes ⟨e2.symm, last2⟩⟩) rfl e1 rfl rfl hlast ?_
                    have := hok.1
                    unfold okM at this
                    exact this
                · cases h
              · cases h
          · cases h
theorem xw_sound : ∀ (v : VCode) {σ σ' : St} {e : Exit}, xw sf X v σ = some (e, σ') → ∀ {Q : Exit → St → Prop}, Q e σ' → pw P v Q σ
  | .skip, σ, σ', e, h, Q, hQ => by cases h; exact hQ
  | .region ops mode dead, σ, σ', e, h, Q, hQ => by
    simp only [xw] at h
    split at h
    · next σ1 hr => cases h; exact xR_sound hX hr hQ
    · cases h
  | .seq a b, σ, σ', e, h, Q, hQ => by
    simp only [xw] at h
    split at h
    · next σ1 ha => exact xw_sound a ha (xw_sound b h hQ)
    · next hne =>
      refine xw_sound a h ?_
      cases e with
      | normal => exact absurd h (by simpa using hne σ')
      | _ => exact hQ
  | .cond c a b, σ, σ', e, h, Q, hQ => by
    simp only [xw] at h
    simp only [pw]
    split at h
    · next hv => rw [hv]; exact ⟨fun _ => xw_sound a h hQ, fun h => by cases h⟩
    · next hv => rw [hv]; exact ⟨fun h => (by cases h), fun _ => xw_sound b h hQ⟩
    · cases h
  | .block id a, σ, σ', e, h, Q, hQ => by
    simp only [xw] at h
    split at h
    · next i σ1 ha =>
      refine xw_sound a ha ?_
      split at h
      · next hi => cases h; dsimp only; rw [if_pos hi]; exact hQ
      · next hi => cases h; dsimp only; rw [if_neg hi]; exact hQ
    · next hne =>
      refine xw_sound a h ?_
      cases e with
      | exit i => exact absurd h (by simpa using hne i σ')
      | _ => exact hQ
  | .loop a, σ, σ', e, h, Q, hQ => by
    simp only [xw] at h
    split at h
    · next e1 σ1 hx =>
      cases h
      obtain ⟨n, hr⟩ := hX _ _ hx
      intro c hc hb w0 S0 M act w hs
      obtain ⟨p, rfl, h1⟩ := comp_cases hc
      exact wp_loop_rounds n (hr Q hQ p h1 hb w0 S0 M act w hs)
    · cases h
  | .exit id, σ, σ', e, h, Q, hQ => by cases h; exact hQ
  | .scope a, σ, σ', e, h, Q, hQ => by
    simp only [xw] at h
    split at h
    · next l σ1 ha =>
      split at h
      · next r hr =>
        cases hnn : Nat.beq σ1.n σ.n with
        | false => rw [hnn] at h; cases h
        | true =>
          rw [hnn] at h
          have hnn := Nat.eq_of_beq_eq_true hnn
          simp only [cond_true] at h
          split at h
          · next e1 σ2 hx =>
            cases hg : isGo e1 with
            | true => rw [hg] at h; cases h
            | false =>
              rw [hg] at h
              cases h
              obtain ⟨k0, σ0, hw0, hR⟩ := hX _ _ hx
              refine tv_scope' hm l (fun i : { p : Nat × St // Rds P r l e σ' σ.n p.1 p.2 } => i.1.2) (fun _ => True) (fun i => i.1.1) hr (fun i => ?_) (pw_sound hm a (xw_sound a ha ?_)) (fun i _ => ?_)
              · obtain ⟨⟨k, τ⟩, hi⟩ := i
                cases hi with
                | last h1 _ => exact h1
                | more h1 _ _ _ => exact h1
              · exact ⟨rfl, ⟨(k0, σ0), by rw [← hnn]; exact hR⟩, trivial, hw0⟩
              · obtain ⟨⟨k, τ⟩, hi⟩ := i
                cases hi with
                | last h1 h2 =>
                  refine h2 _ ?_
                  cases e <;> first | exact hQ | cases hg
                | more h1 h2 h3 h4 => exact h2 _ ⟨rfl, ⟨(_, _), h4⟩, trivial, Nat.lt_succ_self _, h3⟩
          · cases h
      · cases h
    · next hne =>
      intro c hc hb w0 S0 M act w hs
      obtain ⟨p, rfl, h1⟩ := comp_cases hc
      refine wp_scope_straight (wp_mono (pw_sound hm a (xw_sound a h (Q := fun e1 σ1 => Q e1 σ1 ∧ e1 = e) ⟨hQ, rfl⟩) p h1 hb w0 S0 M act w hs) (fun e1 a' w' hl => ?_))
      cases e1 with
      | goto l =>
        obtain ⟨σ2, ⟨_, q1⟩, _⟩ := hl
        subst q1
        exact absurd h (by simpa using hne l σ')
      | panic => exact hl.elim
      | outgrown => exact hl.elim
      | _ =>
        obtain ⟨σ2, ⟨q0, _⟩, q2, q3⟩ := hl
        exact ⟨σ2, q0, q2, q3⟩
  | .label _, σ, σ', e, h, Q, hQ => by cases h; exact hQ
  | .goto l, σ, σ', e, h, Q, hQ => by cases h; exact hQ
  | .ret, σ, σ', e, h, Q, hQ => by cases h; exact hQ
  | .refuse, σ, σ', e, h, Q, hQ => by cases h
  | .cut a, σ, σ', e, h, Q, hQ => by
    simp only [xw] at h
    split at h
    · next ops ps ms dead hd =>
      split at h
      · next σ1 hc =>
        cases h
        have := drawnPart_eq hd
        subst this
        exact xC_sound hm hX hc hQ
      · cases h
    · exact pw_sound hm a (xw_sound a h hQ)
end
end Go.Vs
set_option linter.unusedVariables false
set_option linter.unusedSimpArgs false
namespace Go.Vs

def anyM : List VOper → Bool
  | [] => false
  | o :: r => o.op.isM || anyM r
def plainMode : RMode → Bool
  | .drawnM _ _ => false
  | _ => true
def plainV : VCode → Bool
  | .region ops mode dead => !anyM ops && (plainMode mode && dead.isEmpty)
  | .seq a b => plainV a && plainV b
  | .cond _ a b => plainV a && plainV b
  | .block _ a => plainV a
  | .loop a => plainV a
  | .scope a => plainV a
  | .cut _ => false
  | _ => true
theorem anyM_strip : ∀ {ops : List VOper}, anyM ops = false → stripOps ops = ops
  | [], _ => rfl
  | ⟨d, op, g⟩ :: r, h => by
    simp only [anyM, Bool.or_eq_false_iff] at h
    have : op.strip = op := by cases op <;> first | rfl | (exact absurd h.1 (by simp [VOp.isM]))
    simp only [stripOps, VOper.strip, this, anyM_strip h.2]
theorem plain_strip : ∀ {v : VCode}, plainV v = true → v.strip = v
  | .region ops mode dead, h => by
    simp only [plainV, Bool.and_eq_true, Bool.not_eq_true', List.isEmpty_iff] at h
    obtain ⟨h1, h2, rfl⟩ := h
    have : mode.strip = mode := by cases mode <;> first | rfl | (exact absurd h2 (by simp [plainMode]))
    simp only [VCode.strip, anyM_strip h1, this]
  | .seq a b, h => by simp only [plainV, Bool.and_eq_true] at h; simp only [VCode.strip, plain_strip h.1, plain_strip h.2]
  | .cond _ a b, h => by simp only [plainV, Bool.and_eq_true] at h; simp only [VCode.strip, plain_strip h.1, plain_strip h.2]
  | .block _ a, h => by simp only [VCode.strip, plain_strip (v := a) h]
  | .loop a, h => by simp only [VCode.strip, plain_strip (v := a) h]
  | .scope a, h => by simp only [VCode.strip, plain_strip (v := a) h]
  | .skip, _ => rfl
  | .exit _, _ => rfl
  | .label _, _ => rfl
  | .goto _, _ => rfl
  | .ret, _ => rfl
  | .refuse, _ => rfl

/- Which calls turn objects: those of the functions 'mc'; of values, if 'mv'. -/
def markOp (mc : List Nat) (mv : Bool) : VOp → VOp
  | .call f a => bif mc.contains f then .callM f a else .call f a
  | .callV f a => bif mv then .callMV f a else .callV f a
  | op => op
def markOps (mc : List Nat) (mv : Bool) : List VOper → List VOper
  | [] => []
  | o :: r => ⟨o.dst, markOp mc mv o.op, o.guard⟩ :: markOps mc mv r
def markMode (b : Bool) : RMode → RMode
  | .drawn p m => bif b then .drawnM p m else .drawn p m
  | m => m
def isDrawn : RMode → Bool
  | .drawn _ _ => true
  | _ => false
def mark (mc : List Nat) (mv : Bool) : VCode → VCode
  | .region ops mode dead => bif anyM (markOps mc mv ops).dropLast && isDrawn mode then .cut (.region (markOps mc mv ops) mode dead) else .region (markOps mc mv ops) (markMode (anyM (markOps mc mv ops)) mode) dead
  | .seq a b => .seq (mark mc mv a) (mark mc mv b)
  | .cond c a b => .cond c (mark mc mv a) (mark mc mv b)
  | .block id a => .block id (mark mc mv a)
  | .loop a => .loop (mark mc mv a)
  | .scope a => .scope (mark mc mv a)
  | .cut a => .cut (mark mc mv a)
  | c => c
theorem markOps_strip {mc : List Nat} {mv : Bool} : ∀ {ops : List VOper}, stripOps (markOps mc mv ops) = stripOps ops
  | [] => rfl
  | ⟨d, op, g⟩ :: r => by
    have : (markOp mc mv op).strip = op.strip := by
      cases op
      case call f a => simp only [markOp]; cases mc.contains f <;> rfl
      case callV f a => simp only [markOp]; cases mv <;> rfl
      all_goals rfl
    simp only [markOps, stripOps, VOper.strip, this, markOps_strip (ops := r)]
theorem mark_strip {mc : List Nat} {mv : Bool} : ∀ {v : VCode}, (mark mc mv v).strip = v.strip
  | .region ops mode dead => by
    have : ∀ b, (markMode b mode).strip = mode.strip := by intro b; cases mode <;> cases b <;> rfl
    simp only [mark]
    cases (anyM (markOps mc mv ops).dropLast && isDrawn mode) with
    | true => simp only [cond_true, VCode.strip, markOps_strip]
    | false => simp only [cond_false, VCode.strip, markOps_strip, this]
  | .seq a b => by simp only [mark, VCode.strip, mark_strip (v := a), mark_strip (v := b)]
  | .cond _ a b => by simp only [mark, VCode.strip, mark_strip (v := a), mark_strip (v := b)]
  | .block _ a => by simp only [mark, VCode.strip, mark_strip (v := a)]
  | .loop a => by simp only [mark, VCode.strip, mark_strip (v := a)]
  | .scope a => by simp only [mark, VCode.strip, mark_strip (v := a)]
  | .cut a => by simp only [mark, VCode.strip, mark_strip (v := a)]
  | .skip => rfl
  | .exit _ => rfl
  | .label _ => rfl
  | .goto _ => rfl
  | .ret => rfl
  | .refuse => rfl

/-- A function's code. -/
def fnOf (P : Program) (mc mv : List Nat) (k : FuncId) : Option (VCode × List VRes × Nat) := match P.funcs[k]? with
  | none => none
  | some fn => if fn.name = "runtime.NumGoroutine" then none else match fn.body with
    | none => none
    | some c => match comp P c, compRes P fn.results.toList with
      | some v, some rs => bif plainV v && (mark mc (mv.contains k) v).bnd fn.ntmps then some (mark mc (mv.contains k) v, rs, fn.ntmps) else none
      | _, _ => none
theorem fnOf_ok {P : Program} {mc mv : List Nat} {k : FuncId} {v : VCode} {rs : List VRes} {n : Nat} (h : fnOf P mc mv k = some (v, rs, n)) : FnOk P k v rs n := by
  unfold fnOf at h
  split at h
  · cases h
  · next fn hf =>
    split at h
    · cases h
    · next hname =>
      split at h
      · cases h
      · next c hc =>
        split at h
        · next v0 rs0 hv hr =>
          cases hb : (plainV v0 && (mark mc (mv.contains k) v0).bnd fn.ntmps) with
          | false => rw [hb] at h; cases h
          | true =>
            rw [hb] at h
            cases h
            simp only [Bool.and_eq_true] at hb
            exact ⟨fn, c, hf, hname, hc, by rw [mark_strip, plain_strip hb.1]; exact hv, hb.2, hr, rfl⟩
        · cases h

/- A state without what is shadowed. -/
def nub {α : Type} : Nat → List (Nat × α) → List (Nat × α)
  | _, [] => []
  | m, (k, v) :: r => bif Nat.testBit m k then nub m r else (k, v) :: nub (m ||| 1 <<< k) r
theorem look_nub {α : Type} : ∀ {l : List (Nat × α)} {m k : Nat}, look (nub m l) k = if m.testBit k then none else look l k
  | [], m, k => by simp [nub, look]
  | (j, v) :: r, m, k => by
    simp only [nub]
    cases hj : Nat.testBit m j with
    | true =>
      simp only [cond_true, look_nub (l := r), look]
      cases hk : j == k with
      | true => rw [beq_iff_eq] at hk; subst hk; simp [hj]
      | false => simp
    | false =>
      simp only [cond_false, look, look_nub (l := r)]
      cases hk : j == k with
      | true => rw [beq_iff_eq] at hk; subst hk; simp [hj]
      | false =>
        have hne : j ≠ k := by simpa using hk
        have : (m ||| 1 <<< j).testBit k = m.testBit k := by
          rw [Nat.testBit_or, Nat.testBit_shiftLeft]
          rcases Nat.lt_or_ge k j with hlt | hge
          · have : ¬ j ≤ k := by omega
            simp [this]
          · have : (1 : Nat).testBit (k - j) = false := by
              rw [show k - j = (k - j - 1) + 1 by omega, Nat.testBit_add_one]
              simp
            simp [this]
        simp only [cond_false, this]
def St.norm (σ : St) : St := ⟨nub 0 σ.env, nub 0 σ.objs, σ.ro, σ.n, σ.gl⟩
theorem weak_look {σ σ' : St} (hn : σ'.n = σ.n) (hgl : σ'.gl = σ.gl) (he : ∀ k, getE σ'.env k = .undef ∨ getE σ'.env k = getE σ.env k) (ho : ∀ k o, look σ'.objs k = some o → look σ.objs k = some o) (hr : ∀ i o, look σ'.objs i = some o → i ∈ σ.ro → i ∈ σ'.ro) : Weak σ σ' := by
  rintro w0 S0 M a w ⟨S, μ, β, h⟩
  exact ⟨S, μ, β, h.drop hn hgl hr he ho⟩
theorem weak_norm (σ : St) : Weak σ σ.norm :=
  weak_look rfl rfl (fun k => .inr (by simp [St.norm, getE, look_nub])) (fun k o h => by simpa [St.norm, look_nub] using h) (fun _ _ _ h => h)

def isEnd : Exit → Bool
  | .normal => true
  | .ret => true
  | _ => false
def fnRes (σ : St) (rs : List VRes) : Option Out := match resOwn σ rs with
  | some (s, rows) => some (.res (.own s rows))
  | none => match resAll σ rs with
    | some v => some (.res (.imm v))
    | none => none
def mKeep (σ : St) (ids : List Nat) : St := ⟨σ.env, pickO σ.objs ids, ids.filter σ.ro.contains, σ.n, σ.gl⟩
def isTup : SV → Bool
  | .tup _ => true
  | _ => false
theorem resC_not {σ : St} {rs : List VRes} {a : SV} (h : isTup a = false) : resC σ rs a = resM σ rs := by cases a <;> first | rfl | cases h
theorem resC_is {σ : St} {rs : List VRes} {a : SV} (h : isTup a = true) : resC σ rs a = resC σ rs (.tup []) := by cases a <;> first | rfl | cases h
theorem resC_eq {σ : St} {rs : List VRes} {a b : SV} (h : isTup a = isTup b) : resC σ rs a = resC σ rs b := by
  cases hb : isTup b with
  | true => rw [resC_is (h.trans hb), resC_is hb]
  | false => rw [resC_not (h.trans hb), resC_not hb]
def mRes' (σ : St) (rs : List VRes) (ids : List Nat) (r0 : SV) : Option Out := match resC (mKeep σ ids) rs r0 with
  | some (res, fz) => if isTup r0 = isTup res then some (.mc res (pickO σ.objs ids) (fz ++ ids.filter σ.ro.contains)) else none
  | none => none
def resIds (σ : St) : List VRes → List Nat
  | [] => []
  | .cell t _ :: r => (getE σ.env t).ids ++ resIds σ r
  | _ :: r => resIds σ r
def mRes (σ : St) (rs : List VRes) (objs : List (Nat × Ob)) : Option Out := match rs with
  | _ :: _ :: _ => match resTup σ rs with
    | some l => mRes' σ rs (reach σ.objs 200 (objs.map (·.1) ++ (resIds σ rs ++ idsL l)) []) (.tup l)
    | none => mRes' σ rs (reach σ.objs 200 (objs.map (·.1)) []) .undef
  | _ => match resM σ rs with
    | some (r0, _) => mRes' σ rs (reach σ.objs 200 (objs.map (·.1) ++ (resIds σ rs ++ r0.ids)) []) r0
    | none => none
theorem pickO_look {objs : List (Nat × Ob)} {l : List Nat} : ∀ k o, look (pickO objs l) k = some o → look objs k = some o ∧ k ∈ l := by
  induction l with
  | nil => intro k o h; simp [pickO, look] at h
  | cons i r ih =>
    intro k o h
    unfold pickO at h
    split at h
    · next o1 h1 =>
      simp only [look] at h
      cases hk : i == k with
      | true =>
        rw [hk] at h
        rw [beq_iff_eq] at hk
        subst hk
        cases h
        exact ⟨h1, by simp⟩
      | false => rw [hk] at h; exact ⟨(ih k o h).1, List.mem_cons_of_mem _ (ih k o h).2⟩
    · exact ⟨(ih k o h).1, List.mem_cons_of_mem _ (ih k o h).2⟩
theorem weak_keep (σ : St) (ids : List Nat) : Weak σ (mKeep σ ids) :=
  weak_look rfl rfl (fun _ => .inr rfl) (fun k o h => (pickO_look k o h).1) (fun i o h hi => List.mem_filter.2 ⟨(pickO_look i o h).2, by simpa using hi⟩)

def madeOps : List VOper → List Nat
  | [] => []
  | o :: r => bif o.op.makes || o.op.isM then (match o.dst with
      | some d => d :: madeOps r
      | none => madeOps r) else madeOps r
def madeIn : VCode → List Nat
  | .region ops _ _ => madeOps ops
  | .seq a b => madeIn a ++ madeIn b
  | .cond _ a b => madeIn a ++ madeIn b
  | .block _ a => madeIn a
  | .loop a => madeIn a
  | .scope a => madeIn a
  | .cut a => madeIn a
  | _ => []
/-- Slots in which nothing is made: names for what a call brings. -/
def safeOf (v : VCode) (n : Nat) : List Nat := let l := madeIn v; (List.range n).filter fun k => !l.contains k
/-- A state at a round's beginning: what the rounds before it made in slots is forgotten. -/
def twice : List Nat → List Nat
  | [] => []
  | k :: r => k :: k :: twice r
def St.fresh (σ : St) (v : VCode) : St := σ.norm.drop (twice (madeIn v))
theorem weak_fresh (σ : St) (v : VCode) : Weak σ (σ.fresh v) := (weak_norm σ).trans (fun _ _ _ _ _ hs => weak_dropKeys _ _ _ _ _ _ _ hs)
section
variable (F : FuncId → Option (VCode × List VRes × Nat)) (T : Job → Option Out)
def xStep (X : Job → Option Out) : Job → Option Out
  | .fn gl k args => match T (.fn gl k args) with
    | some o => some o
    | none => match F k with
      | some (v, rs, n) => bif Nat.ble args.length n then (match xw (safeOf v n) X v (st0 gl args n) with
          | some (e, σ) => bif isEnd e then fnRes σ rs else none
          | none => none) else none
      | none => none
  | .mc gl k args objs ro => match T (.mc gl k args objs ro) with
    | some o => some o
    | none => match F k with
      | some (v, rs, n) => bif Nat.ble args.length n && farK n objs then (match xw (safeOf v n) X v ⟨envS 0 args, objs, ro, n, gl⟩ with
          | some (e, σ) => bif isEnd e then mRes σ rs objs else none
          | none => none) else none
      | none => none
  | .loop sf v σ => match xw sf X v (σ.fresh v) with
    | some (.normal, σ') => X (.loop sf v σ')
    | some (e, σ') => some (.lp e σ')
    | none => none
  | .round sf v l σ => match xw sf X v (σ.fresh v) with
    | some (.goto l', σ') => bif Nat.beq l' l && Nat.beq σ'.n σ.n then X (.round sf v l σ') else none
    | some (e, σ') => some (.lp e σ')
    | none => none
def xRun : Nat → Job → Option Out
  | 0, _ => none
  | n + 1, j => xStep F T (xRun n) j
variable {F T} {P : Program} (hm : P.follows .mixedOrders = true) (hF : ∀ k v rs n, F k = some (v, rs, n) → FnOk P k v rs n) (hT : ∀ j o, T j = some o → JobOk P j o)
include hm hF hT
theorem xStep_ok {X : Job → Option Out} (hX : ∀ j o, X j = some o → JobOk P j o) : ∀ j o, xStep F T X j = some o → JobOk P j o := by
  intro j o h
  cases j with
  | fn gl k args =>
    simp only [xStep] at h
    split at h
    · next ht => cases h; exact hT _ _ ht
    · split at h
      · next v rs n hf =>
        cases hn : Nat.ble args.length n with
        | false => rw [hn] at h; cases h
        | true =>
          rw [hn] at h
          simp only [cond_true] at h
          split at h
          · next e σ hx =>
            cases he : isEnd e with
            | false => rw [he] at h; cases h
            | true =>
              rw [he] at h
              simp only [cond_true, fnRes] at h
              have key : ∀ r, fnPost rs r e σ → FnR gl P k args r := fun r hp => fn_intro hm (hF _ _ _ _ hf) (Nat.le_of_ble_eq_true hn) (xw_sound hm hX v hx hp)
              have post : ∀ r, fnPost rs r .normal σ → fnPost rs r e σ := by
                intro r hp
                cases e <;> first | exact hp | (exact absurd he (by simp [isEnd]))
              split at h
              · next s rows hr => cases h; exact key _ (post _ hr)
              · split at h
                · next hr => cases h; exact key _ (post _ hr)
                · cases h
          · cases h
      · cases h
  | mc gl k args objs ro =>
    simp only [xStep] at h
    split at h
    · next ht => cases h; exact hT _ _ ht
    · split at h
      · next v rs n hf =>
        cases hn : (Nat.ble args.length n && farK n objs) with
        | false => rw [hn] at h; cases h
        | true =>
          rw [hn] at h
          simp only [Bool.and_eq_true] at hn
          simp only [cond_true] at h
          split at h
          · next e σ hx =>
            cases he : isEnd e with
            | false => rw [he] at h; cases h
            | true =>
              rw [he] at h
              simp only [cond_true] at h
              have fin : ∀ ids r0, mRes' σ rs ids r0 = some o → JobOk P (.mc gl k args objs ro) o := by
                intro ids r0 h
                unfold mRes' at h
                split at h
                · next res fz h1 =>
                  split at h
                  · next ht =>
                    cases h
                    have : fnPostM rs ⟨args, objs, res, pickO σ.objs ids, fz ++ ids.filter σ.ro.contains, ro⟩ .normal σ := ⟨mKeep σ ids, fz, weak_keep σ ids, rfl, (resC_eq ht).symm.trans h1, rfl⟩
                    have hp : fnPostM rs ⟨args, objs, res, pickO σ.objs ids, fz ++ ids.filter σ.ro.contains, ro⟩ e σ := by
                      cases e <;> first | exact this | (exact absurd he (by simp [isEnd]))
                    exact fnM_intro hm (hF _ _ _ _ hf) (Nat.le_of_ble_eq_true hn.1) hn.2 (xw_sound hm hX v hx hp)
                  · cases h
                · cases h
              unfold mRes at h
              split at h
              · split at h
                · exact fin _ _ h
                · exact fin _ _ h
              · split at h
                · exact fin _ _ h
                · cases h
          · cases h
      · cases h
  | loop sf v σ =>
    simp only [xStep] at h
    split at h
    · next σ1 hx =>
      have hj := hX _ _ h
      cases o with
      | res => exact hj.elim
      | mc => exact hj.elim
      | lp e σ2 =>
        obtain ⟨n, hr⟩ := hj
        refine ⟨n + 1, fun Q hQ => rounds_weak (weak_fresh σ v) rfl (rounds_more hm (xw_sound hm hX v hx (hr Q hQ)))⟩
    · next e σ1 hne hx =>
      cases h
      refine ⟨1, fun Q hQ => rounds_weak (weak_fresh σ v) rfl (rounds_more hm (xw_sound hm hX v hx ?_))⟩
      cases e with
      | normal => exact (hne rfl).elim
      | _ => exact hQ
    · cases h
  | round sf v l σ =>
    simp only [xStep] at h
    split at h
    · next l' σ1 hx =>
      cases hc : (Nat.beq l' l && Nat.beq σ1.n σ.n) with
      | false => rw [hc] at h; cases h
      | true =>
        rw [hc] at h
        simp only [Bool.and_eq_true] at hc
        have e1 := Nat.eq_of_beq_eq_true hc.1
        have e2 := Nat.eq_of_beq_eq_true hc.2
        subst e1
        have hj := hX _ _ h
        cases o with
        | res => exact hj.elim
        | mc => exact hj.elim
        | lp e σ2 =>
          obtain ⟨k, σ3, h3, h4⟩ := hj
          rw [e2] at h4
          exact ⟨k + 1, σ.fresh v, weak_fresh σ v, .more rfl (fun Q hQ => xw_sound hm hX v hx hQ) h3 h4⟩
    · next e σ1 hne hx =>
      cases h
      exact ⟨0, σ.fresh v, weak_fresh σ v, .last rfl (fun Q hQ => xw_sound hm hX v hx hQ)⟩
    · cases h
theorem xRun_ok : ∀ (n : Nat) (j : Job) (o : Out), xRun F T n j = some o → JobOk P j o
  | 0, _, _, h => by cases h
  | n + 1, j, o, h => xStep_ok hm hF hT (xRun_ok n) j o h
end
/-- A call, reckoned. -/
theorem fn_run {P : Program} (hm : P.follows .mixedOrders = true) (mc mv : List Nat) {T : Job → Option Out} (hT : ∀ j o, T j = some o → JobOk P j o) (n : Nat) {gl : List (Nat × List IV)} {k : FuncId} {args : List IV} {r : Res}
    (h : xRun (fnOf P mc mv) T n (.fn gl k args) = some (.res r)) : FnR gl P k args r :=
  xRun_ok hm (fun _ _ _ _ h => fnOf_ok h) hT n _ _ h
end Go.Vs
set_option linter.unusedVariables false
set_option linter.unusedSimpArgs false
namespace Go.Vs
mutual
def eqIV : IV → IV → Bool
  | .int k n, .int j m => decide (k = j) && decide (n = m)
  | .bool a, .bool b => decide (a = b)
  | .str a, .str b => decide (a = b)
  | .nilp, .nilp => true
  | .ref a, .ref b => eqIVs a b
  | .slice a, .slice b => eqIVss a b
  | .nilf, .nilf => true
  | .fn f a, .fn g b => decide (f = g) && eqIVs a b
  | .bnd f a, .bnd g b => decide (f = g) && eqIVs a b
  | .nili, .nili => true
  | .handle a b c, .handle a' b' c' => decide (a = a') && (decide (b = b') && decide (c = c'))
  | .iface t a, .iface s b => decide (t = s) && eqIV a b
  | .agg a, .agg b => eqIVs a b
  | .tuple a, .tuple b => eqIVs a b
  | _, _ => false
def eqIVs : List IV → List IV → Bool
  | [], [] => true
  | x :: a, y :: b => eqIV x y && eqIVs a b
  | _, _ => false
def eqIVss : List (List IV) → List (List IV) → Bool
  | [], [] => true
  | x :: a, y :: b => eqIVs x y && eqIVss a b
  | _, _ => false
end
mutual
theorem eqIV_ok : ∀ (x y : IV), eqIV x y = true → x = y
  | .int k n, y, h => by
    cases y with
    | int j m => simp only [eqIV, Bool.and_eq_true, decide_eq_true_eq] at h; rw [h.1, h.2]
    | _ => simp [eqIV] at h
  | .bool a, y, h => by
    cases y with
    | bool b => simp only [eqIV, decide_eq_true_eq] at h; rw [h]
    | _ => simp [eqIV] at h
  | .str a, y, h => by
    cases y with
    | str b => simp only [eqIV, decide_eq_true_eq] at h; rw [h]
    | _ => simp [eqIV] at h
  | .nilp, y, h => by
    cases y with
    | nilp => rfl
    | _ => simp [eqIV] at h
  | .nilf, y, h => by
    cases y with
    | nilf => rfl
    | _ => simp [eqIV] at h
  | .nili, y, h => by
    cases y with
    | nili => rfl
    | _ => simp [eqIV] at h
  | .yld l, y, h => by
    cases y with
    | yld l2 => simp [eqIV] at h
    | _ => simp [eqIV] at h
  | .nilS, y, h => by simp [eqIV] at h
  | .ref a, y, h => by
    cases y with
    | ref b => simp only [eqIV] at h; rw [eqIVs_ok a b h]
    | _ => simp [eqIV] at h
  | .slice a, y, h => by
    cases y with
    | slice b => simp only [eqIV] at h; rw [eqIVss_ok a b h]
    | _ => simp [eqIV] at h
  | .fn f a, y, h => by
    cases y with
    | fn g b => simp only [eqIV, Bool.and_eq_true, decide_eq_true_eq] at h; rw [h.1, eqIVs_ok a b h.2]
    | _ => simp [eqIV] at h
  | .bnd f a, y, h => by
    cases y with
    | bnd g b => simp only [eqIV, Bool.and_eq_true, decide_eq_true_eq] at h; rw [h.1, eqIVs_ok a b h.2]
    | _ => simp [eqIV] at h
  | .handle a b c, y, h => by
    cases y with
    | handle a' b' c' => simp only [eqIV, Bool.and_eq_true, decide_eq_true_eq] at h; rw [h.1, h.2.1, h.2.2]
    | _ => simp [eqIV] at h
  | .iface t a, y, h => by
    cases y with
    | iface s b => simp only [eqIV, Bool.and_eq_true, decide_eq_true_eq] at h; rw [h.1, eqIV_ok a b h.2]
    | _ => simp [eqIV] at h
  | .agg a, y, h => by
    cases y with
    | agg b => simp only [eqIV] at h; rw [eqIVs_ok a b h]
    | _ => simp [eqIV] at h
  | .tuple a, y, h => by
    cases y with
    | tuple b => simp only [eqIV] at h; rw [eqIVs_ok a b h]
    | _ => simp [eqIV] at h
theorem eqIVs_ok : ∀ (x y : List IV), eqIVs x y = true → x = y
  | [], y, h => by
    cases y with
    | nil => rfl
    | cons b r => simp [eqIVs] at h
  | x :: a, y, h => by
    cases y with
    | nil => simp [eqIVs] at h
    | cons b r => simp only [eqIVs, Bool.and_eq_true] at h; rw [eqIV_ok x b h.1, eqIVs_ok a r h.2]
theorem eqIVss_ok : ∀ (x y : List (List IV)), eqIVss x y = true → x = y
  | [], y, h => by
    cases y with
    | nil => rfl
    | cons b r => simp [eqIVss] at h
  | x :: a, y, h => by
    cases y with
    | nil => simp [eqIVss] at h
    | cons b r => simp only [eqIVss, Bool.and_eq_true] at h; rw [eqIVs_ok x b h.1, eqIVss_ok a r h.2]
end
def eqGl : List (Nat × List IV) → List (Nat × List IV) → Bool
  | [], [] => true
  | (i, x) :: a, (j, y) :: b => decide (i = j) && (eqIVs x y && eqGl a b)
  | _, _ => false
theorem eqGl_ok : ∀ (x y : List (Nat × List IV)), eqGl x y = true → x = y
  | [], [], _ => rfl
  | [], _ :: _, h => by simp [eqGl] at h
  | _ :: _, [], h => by simp [eqGl] at h
  | (i, x) :: a, (j, y) :: b, h => by
    simp only [eqGl, Bool.and_eq_true, decide_eq_true_eq] at h
    rw [h.1, eqIVs_ok x y h.2.1, eqGl_ok a b h.2.2]
structure Ent where
  k : Nat
  args : List IV
  r : Res
def tabGo (gl gl' : List (Nat × List IV)) (k : Nat) (args : List IV) : List Ent → Option Out
  | [] => none
  | e :: r => bif Nat.beq e.k k && (eqIVs e.args args && eqGl gl gl') then some (.res e.r) else tabGo gl gl' k args r
/-- A table of calls: whatever is in it is so. -/
def tabT (gl : List (Nat × List IV)) (es : List Ent) : Job → Option Out
  | .fn gl' k args => tabGo gl gl' k args es
  | _ => none
theorem tabT_ok {P : Program} {gl : List (Nat × List IV)} {es : List Ent} (h : ∀ e ∈ es, FnR gl P e.k e.args e.r) : ∀ j o, tabT gl es j = some o → JobOk P j o := by
  intro j o hj
  cases j with
  | fn gl' k args =>
    simp only [tabT] at hj
    induction es with
    | nil => simp [tabGo] at hj
    | cons e r ih =>
      simp only [tabGo] at hj
      cases hc : (Nat.beq e.k k && (eqIVs e.args args && eqGl gl gl')) with
      | false =>
        rw [hc] at hj
        exact ih (fun x hx => h x (List.mem_cons_of_mem _ hx)) hj
      | true =>
        rw [hc] at hj
        simp only [Bool.and_eq_true] at hc
        have h1 := Nat.eq_of_beq_eq_true hc.1
        have h2 := eqIVs_ok _ _ hc.2.1
        have h3 := eqGl_ok _ _ hc.2.2
        subst h1 h2 h3
        cases hj
        exact h e (by simp)
  | mc => simp [tabT] at hj
  | loop => simp [tabT] at hj
  | round => simp [tabT] at hj
end Go.Vs
