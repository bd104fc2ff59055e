/- Value semantics, part 18: a region whose order is drawn, whole; then the code. No conditions. -/
import Derived.Test.YtjfleklkloohgaaVs17
import Derived.ScopeJumps
set_option linter.unusedVariables false
set_option linter.unusedSimpArgs false
namespace Go.Vs

section
variable {P : Program} {w0 : World} {S0 : Stab} {M : Ctx}

theorem getD_both1 {listed : Array Bool} {i : Nat} (h : listed.getD i true = false) : listed.getD i false = false := by
  rcases Nat.lt_or_ge i listed.size with h' | h'
  · simp only [Array.getD, dif_pos h'] at h ⊢; exact h
  · simp [Array.getD, Nat.not_lt.2 h'] at h
theorem getD_in1 {listed : Array Bool} {i : Nat} (hi : i < listed.size) (h : listed.getD i false = false) : listed.getD i true = false := by
  simp only [Array.getD, dif_pos hi] at h ⊢; exact h
theorem getD_rep (m j : Nat) : (Array.replicate m false).getD j false = false := by
  rcases Nat.lt_or_ge j m with h | h
  · simp [Array.getD, h]
  · simp [Array.getD, Nat.not_lt.2 h]

theorem apart_of {ops : Array Oper} {a b : Oper} {x y : VOper} (hx : compOper P ops a = some x) (hy : compOper P ops b = some y) (h : a.apart ops b = true) : Apart x y := by
  obtain ⟨h1, h2, h3⟩ := Oper.apart_spec h
  obtain ⟨dx, _, _⟩ := compOper_parts hx
  obtain ⟨dy, _, _⟩ := compOper_parts hy
  refine ⟨fun d hd => ⟨fun hs => h1 d (by rw [← dx]; exact hd) (vslots hy d hs), by rw [dy]; exact h2 d (by rw [← dx]; exact hd)⟩, fun d hd hs => h3 d (by rw [← dy]; exact hd) (vslots hx d hs)⟩

theorem step_kind {σ : St} {o : VOper} {e : Eff} (h : Step1 P σ o e) : (e.u.wr ≠ none → o.op.writes = true) ∧ (e.u.new ≠ none → o.op.makes = true) ∧ (e.u.fz ≠ [] → o.op.acts = true) ∧ (e.ids ≠ [] → o.op.acts = true) := by
  have act : Act1 P σ o e → _ := fun ⟨h1, h2, h3⟩ => (⟨(opRel_kind h1).1, (opRel_kind h1).2, opRel_fz h1, fun hn => by
    rw [h2] at hn
    unfold idsOf at hn
    cases ha : o.op.acts with
    | true => rfl
    | false => rw [ha] at hn; exact absurd rfl hn⟩ : (e.u.wr ≠ none → o.op.writes = true) ∧ (e.u.new ≠ none → o.op.makes = true) ∧ (e.u.fz ≠ [] → o.op.acts = true) ∧ (e.ids ≠ [] → o.op.acts = true))
  unfold Step1 at h
  split at h
  · exact act h
  · obtain ⟨c, _, h | h⟩ := h
    · exact act h.2
    · rw [h.2]
      exact ⟨fun x => absurd rfl x, fun x => absurd rfl x, fun x => absurd rfl x, fun x => absurd rfl x⟩

theorem unflagged {σ σ' : St} {a b : VOper} {x y : Eff} (ha : Step1 P σ a x) (hb : Step1 P σ' b y) (h : a.op.flagged b.op = false) : Indep x y ∧ Indep y x := by
  obtain ⟨a1, a2, a3, a4⟩ := step_kind ha
  obtain ⟨b1, b2, b3, b4⟩ := step_kind hb
  unfold VOp.flagged at h
  simp only [Bool.or_eq_false_iff, Bool.and_eq_false_iff] at h
  obtain ⟨⟨⟨h1, h2⟩, h3⟩, h4⟩ := h
  have nx : x.u.new = none := by
    cases hn : x.u.new with
    | none => rfl
    | some o => have := a2 (by rw [hn]; simp); rw [h3] at this; simp at this
  have ny : y.u.new = none := by
    cases hn : y.u.new with
    | none => rfl
    | some o => have := b2 (by rw [hn]; simp); rw [h4] at this; simp at this
  have wact : ∀ op : VOp, op.writes = true → op.acts = true := by intro op; cases op <;> simp [VOp.writes, VOp.acts]
  have gen : ∀ (p q : Eff) (o1 o2 : VOp), p.u.new = none → q.u.new = none → (p.u.wr ≠ none → o1.writes = true) → (q.u.wr ≠ none → o2.writes = true) → (p.u.fz ≠ [] → o1.acts = true) → (q.ids ≠ [] → o2.acts = true) →
      (o1.writes = false ∨ o2.acts = false) → (o2.writes = false ∨ o1.acts = false) → Indep p q := by
    intro p q o1 o2 np nq p1 q1 p3 q4 c1 c2
    refine ⟨fun id hw => ?_, fun id o hw hi => ?_⟩
    · rw [wrote_old (.inl np)] at hw
      have hpw : p.u.wr ≠ none := by intro e; rw [e] at hw; exact hw rfl
      have hw1 := p1 hpw
      have ha2 : o2.acts = false := c1.resolve_left (by rw [hw1]; simp)
      refine ⟨fun hi => ?_, ?_⟩
      · have := q4 (by intro e; rw [e] at hi; simp at hi)
        rw [ha2] at this; simp at this
      · rw [wrote_old (.inl nq)]
        cases hq : q.u.wr with
        | none => rfl
        | some r =>
          have := wact _ (q1 (by rw [hq]; simp))
          rw [ha2] at this; simp at this
    · have hw2 := q1 (by rw [hw]; simp)
      have ha1 : o1.acts = false := c2.resolve_left (by rw [hw2]; simp)
      have := p3 (by intro e; rw [e] at hi; simp at hi)
      rw [ha1] at this; simp at this
  exact ⟨gen x y a.op b.op nx ny a1 b1 a3 b4 h1 h2, gen y x b.op a.op ny nx b1 a1 b3 a4 h2 h1⟩

/-- What holds of the items, whatever has been run. -/
structure Fine (ops : Array Oper) (p : Item1) : Prop where
  comp : ∃ o, ops[p.i]? = some o ∧ compOper P ops o = some p.o

theorem steps_all : ∀ {l : List VOper} {σ σf : St} {es : List Eff} (i : Nat), Steps1 P l σ es σf → ∀ p ∈ items i l es, ∃ σ', Step1 P σ' p.o p.e
  | [], _, _, _, _, _, _, h => by simp [items] at h
  | o :: r, σ, σf, es, i, ⟨e, es', h1, h2, h3⟩, p, h => by
    subst h1
    simp only [items, List.mem_cons] at h
    rcases h with rfl | h
    · exact ⟨σ, h2⟩
    · exact steps_all (i + 1) h3 p h

theorem newId_creates {e : Eff} {d : Nat} : e.newId = some d ↔ creates e d := by
  unfold Eff.newId creates
  constructor
  · intro h
    split at h
    · next o d' h1 h2 =>
      obtain rfl := Option.some.inj h
      exact ⟨⟨o, h1⟩, h2⟩
    · simp at h
  · rintro ⟨⟨o, h1⟩, h2⟩
    rw [h1, h2]

/-- A REGION IN WHATEVER ORDER. -/
theorem region_any {ops : Array Oper} {vs : List VOper} (hc : compOpers P ops ops.toList = some vs) {pairs makes : List (Nat × Nat)} (hp : pairsOf ops vs.toArray = some (pairs, makes)) {σ : St} {a : Act} {w : World} (h : Sim w0 S0 M σ a w)
    (hd : ∀ v ∈ vs, ∀ d, v.dst = some d → d < σ.n) {es : List Eff} {σf : St} (hs : Steps1 P vs σ es σf) (hk : chkD σ pairs makes es = true)
    {Q : Exit → Act → World → Prop} (hQ : ∀ a' w', Sim w0 S0 M σf a' w' → Q .normal a' w') : wpAny P .any ops Q ops.size (Array.replicate ops.size false) a w := by
  obtain ⟨hlen, hget⟩ := compOpers_get hc
  obtain ⟨hrun, hidx, hel⟩ := items_run 0 hs
  have hall := steps_all 0 hs
  have hn : vs.length = ops.size := by rw [hlen]; simp
  -- what has been looked at ahead
  unfold pairsOf at hp
  simp only at hp
  split at hp
  · next hcond =>
    simp only [Option.some.injEq, Prod.mk.injEq] at hp
    obtain ⟨hpairs, hmakes⟩ := hp
    simp only [Bool.and_eq_true, List.all_eq_true, List.mem_range] at hcond
    obtain ⟨hup0, hap0⟩ := hcond
    have hup : ∀ j o, ops[j]? = some o → ∀ e ∈ o.after.toList, Region.binds .any e = true → e.on < j := by
      intro j o ho e he hb
      have hj : j < ops.size := by
        rcases Nat.lt_or_ge j ops.size with hh | hh
        · exact hh
        · simp [Array.getElem?_eq_none hh] at ho
      have := hup0 j hj
      rw [ho] at this
      simp only [List.all_eq_true, Bool.or_eq_true, Bool.not_eq_true', decide_eq_true_eq] at this
      rcases this e he with h1 | h1
      · rw [hb] at h1; simp at h1
      · exact h1
    unfold chkD at hk
    simp only [Bool.and_eq_true, List.all_eq_true] at hk
    obtain ⟨⟨hk1, hk2⟩, hk3⟩ := hk
    -- facts on items
    have hcomp : ∀ p ∈ items 0 vs es, ∃ o, ops[p.i]? = some o ∧ compOper P ops o = some p.o ∧ vs[p.i]? = some p.o ∧ es[p.i]? = some p.e ∧ p.i < ops.size := by
      intro p hp
      obtain ⟨_, h1, h2⟩ := items_get hel hp
      simp only [Nat.sub_zero] at h1 h2
      have hlt : p.i < vs.length := by
        rcases Nat.lt_or_ge p.i vs.length with hh | hh
        · exact hh
        · simp [List.getElem?_eq_none hh] at h1
      have hlt' : p.i < ops.toList.length := by omega
      obtain ⟨v, hv1, hv2⟩ := hget p.i ops.toList[p.i] (List.getElem?_eq_getElem hlt')
      obtain rfl : v = p.o := by rw [h1] at hv1; exact (Option.some.inj hv1).symm
      exact ⟨ops.toList[p.i], by rw [← Array.getElem?_toList]; exact List.getElem?_eq_getElem hlt', hv2, h1, h2, by omega⟩
    have hfree : ∀ p ∈ items 0 vs es, ∀ x ∈ items 0 vs es, p.i < x.i → ((Region.before ops).getD x.i 0).testBit p.i = false → Free x p := by
      intro p hp x hx hlt hbit
      obtain ⟨o1, a1, a2, a3, a4, a5⟩ := hcomp p hp
      obtain ⟨o2, b1, b2, b3, b4, b5⟩ := hcomp x hx
      have hap := hap0 x.i b5 p.i hlt
      rw [hbit, a1, b1] at hap
      simp only [Bool.false_or] at hap
      have hAp := apart_of a2 b2 hap
      cases hfl : p.o.op.flagged x.o.op with
      | false =>
        obtain ⟨σ1, s1⟩ := hall p hp
        obtain ⟨σ2, s2⟩ := hall x hx
        obtain ⟨i1, i2⟩ := unflagged s1 s2 hfl
        exact ⟨hAp, i1, i2⟩
      | true =>
        have hm : (p.i, x.i) ∈ pairs := by
          rw [← hpairs]
          refine List.mem_flatMap.2 ⟨x.i, List.mem_range.2 b5, List.mem_filterMap.2 ⟨p.i, List.mem_range.2 hlt, ?_⟩⟩
          rw [hbit]
          simp only [Bool.false_eq_true, if_false, List.getElem?_toArray, a3, b3, hfl, if_true]
        have := hk1 _ hm
        simp only [a4, b4, Bool.and_eq_true] at this
        exact ⟨hAp, indepB_spec this.1, indepB_spec this.2⟩
    have hnr : ∀ p ∈ items 0 vs es, ∀ k ∈ items 0 vs es, p.i ≠ k.i → ((Region.before ops).getD p.i 0).testBit k.i = false → ∀ d, creates k.e d → UNoRef d p.e.u := by
      intro p hp k hk' hne hbit d hcr
      obtain ⟨o1, a1, a2, a3, a4, a5⟩ := hcomp p hp
      obtain ⟨o2, b1, b2, b3, b4, b5⟩ := hcomp k hk'
      obtain ⟨σ2, s2⟩ := hall k hk'
      have hmk : k.o.op.makes = true := (step_kind s2).2.1 (by obtain ⟨⟨o, ho⟩, _⟩ := hcr; rw [ho]; simp)
      have hm : (p.i, k.i) ∈ makes := by
        rw [← hmakes]
        refine List.mem_flatMap.2 ⟨k.i, List.mem_range.2 b5, ?_⟩
        simp only [List.getElem?_toArray, b3, hmk, if_true]
        refine List.mem_filterMap.2 ⟨p.i, List.mem_range.2 a5, ?_⟩
        rw [if_neg hne, hbit]
        simp
      have := hk2 _ hm
      simp only [a4, b4, newId_creates.2 hcr] at this
      exact uNoRefB_spec this
    have hgood : ∀ p ∈ items 0 vs es, ∀ d, creates p.e d → NoRefAll d σ := by
      intro p hp d hcr
      obtain ⟨o1, a1, a2, a3, a4, a5⟩ := hcomp p hp
      have := hk3 p.e (List.mem_of_getElem? a4)
      simp only [newId_creates.2 hcr, Bool.and_eq_true] at this
      exact ⟨noRefE_get this.1, fun id o ho => noRefO_get this.2 ho⟩
    have hbit_lt : ∀ (j k : Nat), j ≤ k → j < ops.size → ((Region.before ops).getD j 0).testBit k = false := by
      intro j
      induction j using Nat.strongRecOn with
      | _ j ih =>
        intro k hjk hj
        cases hb : ((Region.before ops).getD j 0).testBit k with
        | false => rfl
        | true =>
          obtain ⟨e, he, hbd, h⟩ := before_spec (ops := ops) (j := j) (o := ops[j]) (by simp [hj]) hb
          have hlt := hup j ops[j] (by simp [hj]) e he hbd
          rcases h with h | h
          · omega
          · have := ih e.on hlt k (by omega) (by omega)
            rw [this] at h; simp at h
    -- whatever has been listed
    have main : ∀ (fuel : Nat) (listed : Array Bool) (L : List Item1) (σ1 : St) (a : Act) (w : World), L.length ≤ fuel → listed.size = ops.size → (L.map (·.i)).Pairwise (· < ·) → (∀ p ∈ L, p ∈ items 0 vs es) →
        (∀ j, j < ops.size → (listed.getD j false = false ↔ ∃ p ∈ L, p.i = j)) →
        (∀ j o, ops[j]? = some o → listed.getD j false = true → ∀ e ∈ o.after.toList, Region.binds .any e = true → listed.getD e.on false = true) →
        RunL P L σ1 σf → (∀ p ∈ L, ∀ d, creates p.e d → NoRefAll d σ1) → σ1.n = σ.n → Sim w0 S0 M σ1 a w → wpAny P .any ops Q fuel listed a w := by
      intro fuel
      induction fuel with
      | zero =>
        intro listed L σ1 a w hf hsz _ _ hli _ hr _ _ hsim
        have hL : L = [] := List.length_eq_zero_iff.1 (by omega)
        subst hL
        refine ⟨?_, hQ a w (hsim.congr hr)⟩
        rw [List.eq_nil_iff_forall_not_mem]
        intro i hi
        obtain ⟨h1, oi, hoi, _⟩ := mem_ready.1 hi
        have hlt : i < ops.size := by
          rcases Nat.lt_or_ge i ops.size with hh | hh
          · exact hh
          · simp [Array.getElem?_eq_none hh] at hoi
        have : listed.getD i false = false := getD_both1 h1
        obtain ⟨p, hp, _⟩ := (hli i hlt).1 this
        simp at hp
      | succ fuel ih =>
        intro listed L σ1 a w hf hsz hpw hin hli hcl hr hg hn1 hsim
        refine ⟨fun hempty => ?_, fun i hi => ?_⟩
        · cases L with
          | nil => exact hQ a w (hsim.congr hr)
          | cons p L =>
            exfalso
            obtain ⟨o1, a1, a2, a3, a4, a5⟩ := hcomp p (hin p (by simp))
            have hpl : listed.getD p.i false = false := (hli p.i a5).2 ⟨p, by simp, rfl⟩
            have : p.i ∈ Region.ready .any ops listed := by
              refine mem_ready.2 ⟨getD_in1 (by omega) hpl, o1, a1, fun e he hb => ?_⟩
              have hlt := hup p.i o1 a1 e (by simpa using he) hb
              cases hel' : listed.getD e.on false with
              | true => rfl
              | false =>
                obtain ⟨q, hq, hqi⟩ := (hli e.on (by omega)).1 hel'
                rcases List.mem_cons.1 hq with rfl | hq
                · omega
                · have : p.i < q.i := (List.pairwise_cons.1 hpw).1 q.i (List.mem_map_of_mem hq)
                  omega
            rw [hempty] at this
            simp at this
        · obtain ⟨h1, oi, hoi, hready⟩ := mem_ready.1 hi
          have hlt : i < ops.size := by
            rcases Nat.lt_or_ge i ops.size with hh | hh
            · exact hh
            · simp [Array.getElem?_eq_none hh] at hoi
          obtain ⟨x, hx, hxi⟩ := (hli i hlt).1 (getD_both1 h1)
          obtain ⟨A, B, hAB⟩ := List.append_of_mem hx
          subst hAB
          obtain ⟨o2, b1, b2, b3, b4, b5⟩ := hcomp x (hin x hx)
          have hbefore : ∀ b, ((Region.before ops).getD x.i 0).testBit b = true → listed.getD b false = true := by
            intro b hb
            refine before_listed hup hcl (x.i + 1) x.i o2 (by omega) b1 (fun e he hbd => ?_) b hb
            have : oi = o2 := by rw [hxi] at b1; rw [b1] at hoi; exact (Option.some.inj hoi).symm
            subst this
            exact hready e (by simpa using he) hbd
          have hpw' := List.pairwise_append.1 (by simpa using hpw : (A.map (·.i) ++ (x.i :: B.map (·.i))).Pairwise (· < ·))
          have hAx : ∀ p ∈ A, p.i < x.i := fun p hp => hpw'.2.2 p.i (List.mem_map_of_mem hp) x.i (by simp)
          have hxB : ∀ q ∈ B, x.i < q.i := fun q hq => (List.pairwise_cons.1 hpw'.2.1).1 q.i (List.mem_map_of_mem hq)
          have hAn : ∀ p ∈ A, ((Region.before ops).getD x.i 0).testBit p.i = false := by
            intro p hp
            cases hb : ((Region.before ops).getD x.i 0).testBit p.i with
            | false => rfl
            | true =>
              have := hbefore p.i hb
              have hpn : listed.getD p.i false = false := (hli p.i (by have := hAx p hp; omega)).2 ⟨p, List.mem_append_left _ hp, rfl⟩
              rw [hpn] at this; simp at this
          have inA : ∀ p ∈ A, p ∈ items 0 vs es := fun p hp => hin p (List.mem_append_left _ hp)
          have inx : x ∈ items 0 vs es := hin x hx
          have szA : ∀ p ∈ A, p.i < ops.size := fun p hp => by have := hAx p hp; omega
          have hfront := run_front (P := P) hr (fun p hp => hfree p (inA p hp) x inx (hAx p hp) (hAn p hp)) hg
            (fun p hp d hcr => hnr x inx p (inA p hp) (by have := hAx p hp; omega) (hAn p hp) d hcr)
            (by
              have hA := hpw'.1
              refine List.Pairwise.imp_of_mem ?_ (List.pairwise_map.1 hA)
              intro p q hp hq hpq d hcr
              exact hnr p (inA p hp) q (inA q hq) (by omega) (hbit_lt p.i q.i (by omega) (szA p hp)) d hcr)
            (fun p hp q hq d hcr => by
              rcases List.mem_cons.1 hq with rfl | hq'
              · exact hnr p (inA p hp) q inx (by have := hAx p hp; omega) (hbit_lt p.i q.i (by have := hAx p hp; omega) (szA p hp)) d hcr
              · have h1 := hAx p hp
                have h2 := hxB q hq'
                exact hnr p (inA p hp) q (hin q (List.mem_append_right _ (List.mem_cons_of_mem _ hq'))) (by omega) (hbit_lt p.i q.i (by omega) (szA p hp)) d hcr)
          obtain ⟨hstep, hrest⟩ := hfront
          subst hxi
          refine step_sound b1 b2 hsim (fun d hdd => by rw [hn1]; exact hd x.o (List.mem_of_getElem? b3) d hdd) hstep (fun a' w' hs' => ?_)
          have hmemAB : ∀ p, p ∈ A ++ B → p ∈ A ++ x :: B := fun p hp => by
            rcases List.mem_append.1 hp with hp | hp
            · exact List.mem_append_left _ hp
            · exact List.mem_append_right _ (List.mem_cons_of_mem _ hp)
          refine ih (listed.setIfInBounds x.i true) (A ++ B) _ a' w' (by simp at hf ⊢; omega) (by simp [hsz]) ?_ (fun p hp => hin p (hmemAB p hp)) ?_ ?_ hrest ?_ (by rw [apply_n]; exact hn1) hs'
          · rw [List.map_append]
            refine List.pairwise_append.2 ⟨hpw'.1, (List.pairwise_cons.1 hpw'.2.1).2, fun u hu v hv => hpw'.2.2 u hu v (List.mem_cons_of_mem _ hv)⟩
          · intro j hj
            by_cases hjx : x.i = j
            · subst hjx
              have hset : (listed.setIfInBounds x.i true).getD x.i false = true := by simp [Array.getD, hsz, hj]
              rw [hset]
              simp only [Bool.true_eq_false, false_iff, not_exists, not_and]
              intro p hp e
              rcases List.mem_append.1 hp with hp | hp
              · have := hAx p hp; omega
              · have := hxB p hp; omega
            · rw [getD_set_ne false hjx, hli j hj]
              constructor
              · rintro ⟨p, hp, e⟩
                refine ⟨p, ?_, e⟩
                rcases List.mem_append.1 hp with hp | hp
                · exact List.mem_append_left _ hp
                · rcases List.mem_cons.1 hp with rfl | hp
                  · exact absurd e hjx
                  · exact List.mem_append_right _ hp
              · rintro ⟨p, hp, e⟩
                exact ⟨p, hmemAB p hp, e⟩
          · intro j o hj hl e he hb
            by_cases hjx : x.i = j
            · subst hjx
              have : oi = o := by rw [hj] at hoi; exact (Option.some.inj hoi).symm
              subst this
              exact getD_set_true (hready e (by simpa using he) hb)
            · rw [getD_set_ne false hjx] at hl
              exact getD_set_true (hcl j o hj hl e he hb)
          · intro p hp d hcr
            refine (hg p (hmemAB p hp) d hcr).apply ?_
            rcases List.mem_append.1 hp with hp' | hp'
            · exact hnr x inx p (inA p hp') (by have := hAx p hp'; omega) (hAn p hp') d hcr
            · exact hnr x inx p (hin p (hmemAB p hp)) (by have := hxB p hp'; omega) (hbit_lt x.i p.i (by have := hxB p hp'; omega) b5) d hcr
    refine main ops.size _ (items 0 vs es) σ a w ?_ (by simp) ?_ (fun _ hp => hp) ?_ ?_ hrun hgood rfl h
    · have := congrArg List.length hidx
      simp only [List.length_map, List.length_range'] at this
      omega
    · rw [hidx]
      exact List.pairwise_lt_range'
    · intro j hj
      rw [getD_rep]
      simp only [true_iff]
      have : j ∈ (items 0 vs es).map (·.i) := by rw [hidx]; simp; omega
      obtain ⟨p, hp, e⟩ := List.mem_map.1 this
      exact ⟨p, hp, e⟩
    · intro j o _ hl
      rw [getD_rep] at hl
      simp at hl
  · simp at hp

end
end Go.Vs
