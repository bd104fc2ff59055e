/- Value semantics, part 16: a region whose order is drawn. No conditions. -/
import Derived.Test.YtjfleklkloohgaaVs15
set_option linter.unusedVariables false
set_option linter.unusedSimpArgs false
namespace Go.Vs

theorem opRel_fz {P : Program} {σ : St} {dst : Option Nat} {op : VOp} {u : Upd} (hu : OpRel P σ dst u op) : u.fz ≠ [] → op.acts = true := by
  cases op
  case call => exact fun _ => rfl
  case callV => exact fun _ => rfl
  case store => exact fun _ => rfl
  case subV => exact fun _ => rfl
  case buildSlice => exact fun _ => rfl
  case append => exact fun _ => rfl
  all_goals
    have hu := hu.1
    refine fun h => ?_
    exfalso; apply h
    simp only [ev, evLoad, evPart, binI, binS] at hu
    first
      | (obtain rfl := Option.some.inj hu; rfl)
      | ((repeat' split at hu) <;> first | (simp at hu; done) | (obtain rfl := Option.some.inj hu; rfl))

def Eff.wids (e : Eff) : List Nat := match e.u.new, e.dst with
  | some _, some d => [d]
  | _, _ => match e.u.wr with
    | some (i, _) => [i]
    | none => []
def Eff.newId (e : Eff) : Option Nat := match e.u.new, e.dst with
  | some _, some d => some d
  | _, _ => none
def disj (a b : List Nat) : Bool := a.all fun i => !b.contains i
def indepB (x y : Eff) : Bool := disj x.wids y.ids && disj x.wids y.wids && (match y.u.wr with
  | some (i, _) => !x.u.fz.contains i
  | none => true)
def uNoRefB (d : Nat) (u : Upd) : Bool := u.v.noRef d && (match u.wr with
  | some (_, o) => o.noRef d
  | none => true) && (match u.new with
  | some o => o.noRef d
  | none => true)

theorem wrote_wids {e : Eff} {id : Nat} (h : wrote e.dst e.u id ≠ none) : id ∈ e.wids := by
  unfold Eff.wids
  rcases new_or e.u e.dst with ⟨o, d, hn, hd⟩ | ho
  · rw [hd, wrote_new hn] at h
    rw [hn, hd]
    by_cases hi : id = d
    · subst hi; simp
    · rw [if_neg hi] at h; exact absurd rfl h
  · rw [wrote_old ho] at h
    have hw : id ∈ (match e.u.wr with | some (i, _) => [i] | none => ([] : List Nat)) := by
      cases hw : e.u.wr with
      | none => rw [hw] at h; exact absurd rfl h
      | some p =>
        obtain ⟨i, x⟩ := p
        rw [hw] at h
        by_cases hi : id = i
        · subst hi; simp
        · simp [hi] at h
    split
    · next h1 h2 =>
      exfalso
      rcases ho with ho | ho
      · rw [ho] at h1; simp at h1
      · rw [ho] at h2; simp at h2
    · exact hw
theorem indepB_spec {x y : Eff} (h : indepB x y = true) : Indep x y := by
  unfold indepB disj at h
  simp only [Bool.and_eq_true, List.all_eq_true] at h
  obtain ⟨⟨h1, h2⟩, h3⟩ := h
  refine ⟨fun id hw => ?_, fun id o hw hi => ?_⟩
  · have hm := wrote_wids hw
    refine ⟨by simpa using h1 id hm, ?_⟩
    cases hy : wrote y.dst y.u id with
    | none => rfl
    | some o => exact absurd (wrote_wids (e := y) (id := id) (by rw [hy]; simp)) (by simpa using h2 id hm)
  · rw [hw] at h3
    simp only [Bool.not_eq_true', List.contains_iff_mem, Bool.eq_false_iff, ne_eq] at h3
    exact h3 hi
theorem uNoRefB_spec {d : Nat} {u : Upd} (h : uNoRefB d u = true) : UNoRef d u := by
  unfold uNoRefB at h
  simp only [Bool.and_eq_true] at h
  obtain ⟨⟨h1, h2⟩, h3⟩ := h
  refine ⟨h1, fun i o ho => ?_, fun o ho => ?_⟩
  · rw [ho] at h2; exact h2
  · rw [ho] at h3; exact h3

/-- The operations of a region in the order of the text, and what each did. -/
def runD (P : Program) (K : List Eff → St → Prop) : List VOper → St → List Eff → Prop
  | [], σ, es => K es σ
  | o :: r, σ, es => match o.guard with
    | none => opW P σ o.dst (fun u => runD P K r (σ.apply o.dst u) (es ++ [⟨idsOf σ o.op u, o.dst, u⟩])) o.op
    | some (g, b) => match gval (getE σ.env g) with
      | some c => (c = some b → opW P σ o.dst (fun u => runD P K r (σ.apply o.dst u) (es ++ [⟨idsOf σ o.op u, o.dst, u⟩])) o.op) ∧
          (¬ c = some b → runD P K r (σ.apply o.dst skipU) (es ++ [⟨[], o.dst, skipU⟩]))
      | none => False

def Steps1 (P : Program) : List VOper → St → List Eff → St → Prop
  | [], σ, es, σf => es = [] ∧ σf = σ
  | o :: r, σ, es, σf => ∃ e es', es = e :: es' ∧ Step1 P σ o e ∧ Steps1 P r (σ.apply e.dst e.u) es' σf

theorem runD_steps {P : Program} {K : List Eff → St → Prop} : ∀ {l : List VOper} {σ : St} {es : List Eff}, runD P K l σ es → ∃ es' σf, Steps1 P l σ es' σf ∧ K (es ++ es') σf
  | [], σ, es, h => ⟨[], σ, ⟨rfl, rfl⟩, by rw [List.append_nil]; exact h⟩
  | o :: r, σ, es, h => by
    simp only [runD] at h
    have act : opW P σ o.dst (fun u => runD P K r (σ.apply o.dst u) (es ++ [⟨idsOf σ o.op u, o.dst, u⟩])) o.op →
        ∃ e es' σf, Act1 P σ o e ∧ Steps1 P r (σ.apply e.dst e.u) es' σf ∧ K (es ++ e :: es') σf := by
      intro h1
      obtain ⟨u, hu, hr⟩ := opW_rel h1
      obtain ⟨es', σf, h2, h3⟩ := runD_steps hr
      exact ⟨⟨idsOf σ o.op u, o.dst, u⟩, es', σf, ⟨hu, rfl, rfl⟩, h2, by simpa using h3⟩
    split at h
    · next hg =>
      obtain ⟨e, es', σf, h1, h2, h3⟩ := act h
      exact ⟨e :: es', σf, ⟨e, es', rfl, by unfold Step1; rw [hg]; exact h1, h2⟩, h3⟩
    · next g b hg =>
      split at h
      · next c hc =>
        by_cases hcb : c = some b
        · obtain ⟨e, es', σf, h1, h2, h3⟩ := act (h.1 hcb)
          exact ⟨e :: es', σf, ⟨e, es', rfl, by unfold Step1; rw [hg]; exact ⟨c, hc, .inl ⟨hcb, h1⟩⟩, h2⟩, h3⟩
        · obtain ⟨es', σf, h2, h3⟩ := runD_steps (h.2 hcb)
          exact ⟨⟨[], o.dst, skipU⟩ :: es', σf, ⟨_, es', rfl, by unfold Step1; rw [hg]; exact ⟨c, hc, .inr ⟨hcb, rfl⟩⟩, h2⟩, by simpa using h3⟩
      · exact h.elim

/-- What is looked at, once all has been met: pairs are independent; what is made was named nowhere ahead, and is named by nothing that is not behind it. -/
def chkD (σ : St) (pairs makes : List (Nat × Nat)) (es : List Eff) : Bool :=
  pairs.all (fun p => match es[p.1]?, es[p.2]? with
    | some x, some y => indepB x y && indepB y x
    | _, _ => false) &&
  makes.all (fun p => match es[p.1]?, es[p.2]? with
    | some x, some y => match y.newId with
      | some d => uNoRefB d x.u
      | none => true
    | _, _ => false) &&
  es.all (fun e => match e.newId with
    | some d => noRefE d σ.env && noRefO d σ.objs
    | none => true)

section
variable {P : Program}

/-- Items, from a place on. -/
def items : Nat → List VOper → List Eff → List Item1
  | _, [], _ => []
  | _, _ :: _, [] => []
  | i, o :: r, e :: es => ⟨i, o, e⟩ :: items (i + 1) r es
theorem items_run : ∀ {l : List VOper} {σ σf : St} {es : List Eff} (i : Nat), Steps1 P l σ es σf → RunL P (items i l es) σ σf ∧ (items i l es).map (·.i) = List.range' i l.length ∧ es.length = l.length
  | [], σ, σf, es, i, ⟨h1, h2⟩ => by subst h1; subst h2; exact ⟨St.Eq.refl _, rfl, rfl⟩
  | o :: r, σ, σf, es, i, ⟨e, es', h1, h2, h3⟩ => by
    subst h1
    obtain ⟨k1, k2, k3⟩ := items_run (i + 1) h3
    exact ⟨⟨h2, k1⟩, by simp [items, k2, List.range'_succ], by simp [k3]⟩
theorem items_get : ∀ {l : List VOper} {es : List Eff} {i : Nat} {p : Item1}, es.length = l.length → p ∈ items i l es → i ≤ p.i ∧ l[p.i - i]? = some p.o ∧ es[p.i - i]? = some p.e
  | [], _, _, _, _, h => by simp [items] at h
  | _ :: _, [], _, _, hl, _ => by simp at hl
  | o :: r, e :: es, i, p, hl, h => by
    simp only [items, List.mem_cons] at h
    rcases h with rfl | h
    · simp
    · obtain ⟨h1, h2, h3⟩ := items_get (by simpa using hl) h
      refine ⟨by omega, ?_, ?_⟩
      · rw [show p.i - i = (p.i - (i + 1)) + 1 by omega]; simpa using h2
      · rw [show p.i - i = (p.i - (i + 1)) + 1 by omega]; simpa using h3

/-- What an edge says of the mask. -/
theorem foldl_bits (acc : Array Nat) : ∀ (es : List Edge) (s : Nat) (b : Nat), (es.foldl (fun s e => if Region.binds .any e then s ||| 2 ^ e.on ||| acc.getD e.on 0 else s) s).testBit b = true →
    s.testBit b = true ∨ ∃ e ∈ es, Region.binds .any e = true ∧ (b = e.on ∨ (acc.getD e.on 0).testBit b = true)
  | [], s, b, h => .inl h
  | e :: es, s, b, h => by
    simp only [List.foldl_cons] at h
    rcases foldl_bits acc es _ b h with h | ⟨e', he', h1, h2⟩
    · split at h
      · next hb =>
        simp only [Nat.testBit_or, Bool.or_eq_true, Nat.testBit_two_pow, decide_eq_true_eq] at h
        rcases h with (h | h) | h
        · exact .inl h
        · exact .inr ⟨e, by simp, hb, .inl h.symm⟩
        · exact .inr ⟨e, by simp, hb, .inr h⟩
      · exact .inl h
    · exact .inr ⟨e', List.mem_cons_of_mem _ he', h1, h2⟩

theorem before_fold : ∀ (l : List Oper) (acc : Array Nat),
    (l.foldl (fun acc o => acc.push (o.after.foldl (fun s e => if Region.binds .any e then s ||| 2 ^ e.on ||| acc.getD e.on 0 else s) 0)) acc).size = acc.size + l.length ∧
    (∀ j, j < acc.size → (l.foldl (fun acc o => acc.push (o.after.foldl (fun s e => if Region.binds .any e then s ||| 2 ^ e.on ||| acc.getD e.on 0 else s) 0)) acc).getD j 0 = acc.getD j 0) ∧
    ∀ j o, l[j]? = some o → ∀ b, ((l.foldl (fun acc o => acc.push (o.after.foldl (fun s e => if Region.binds .any e then s ||| 2 ^ e.on ||| acc.getD e.on 0 else s) 0)) acc).getD (acc.size + j) 0).testBit b = true →
      ∃ e ∈ o.after.toList, Region.binds .any e = true ∧ (b = e.on ∨ ((l.foldl (fun acc o => acc.push (o.after.foldl (fun s e => if Region.binds .any e then s ||| 2 ^ e.on ||| acc.getD e.on 0 else s) 0)) acc).getD e.on 0).testBit b = true)
  | [], acc => by simp
  | o :: l, acc => by
    simp only [List.foldl_cons]
    generalize hv : (o.after.foldl (fun s e => if Region.binds .any e then s ||| 2 ^ e.on ||| acc.getD e.on 0 else s) 0) = v
    obtain ⟨h1, h2, h3⟩ := before_fold l (acc.push v)
    refine ⟨by rw [h1]; simp; omega, fun j hj => ?_, fun j p hp b hb => ?_⟩
    · rw [h2 j (by simp; omega)]
      simp [Array.getD, hj, Nat.lt_succ_of_lt hj, Array.getElem_push_lt hj]
    · cases j with
      | zero =>
        simp only [List.getElem?_cons_zero, Option.some.injEq] at hp
        subst hp
        rw [Nat.add_zero, h2 acc.size (by simp)] at hb
        have hv' : (acc.push v).getD acc.size 0 = v := by simp [Array.getD]
        rw [hv', ← hv, ← Array.foldl_toList] at hb
        rcases foldl_bits acc _ _ _ hb with h | ⟨e, he, hbd, h⟩
        · simp at h
        · refine ⟨e, he, hbd, h.imp id (fun h => ?_)⟩
          have hlt : e.on < acc.size := by
            rcases Nat.lt_or_ge e.on acc.size with hh | hh
            · exact hh
            · rw [Array.getD, dif_neg (by omega)] at h
              simp at h
          rw [h2 e.on (by simp; omega)]
          have : (acc.push v).getD e.on 0 = acc.getD e.on 0 := by simp [Array.getD, hlt, Nat.lt_succ_of_lt hlt, Array.getElem_push_lt hlt]
          rw [this]
          exact h
      | succ j =>
        have := h3 j p (by simpa using hp) b (by
          rw [Array.size_push, show acc.size + 1 + j = acc.size + (j + 1) by omega]; exact hb)
        exact this

theorem before_spec {ops : Array Oper} {j : Nat} {o : Oper} (ho : ops[j]? = some o) {b : Nat} (hb : ((Region.before ops).getD j 0).testBit b = true) :
    ∃ e ∈ o.after.toList, Region.binds .any e = true ∧ (b = e.on ∨ ((Region.before ops).getD e.on 0).testBit b = true) := by
  have := (before_fold ops.toList #[]).2.2 j o (by simpa using ho) b
  unfold Region.before at hb ⊢
  rw [← Array.foldl_toList] at hb ⊢
  simp only [Array.size_empty, Nat.zero_add] at this
  exact this hb

/-- All that stands before something listed is listed. -/
theorem before_listed {ops : Array Oper} {listed : Array Bool} (hup : ∀ j o, ops[j]? = some o → ∀ e ∈ o.after.toList, Region.binds .any e = true → e.on < j)
    (hcl : ∀ j o, ops[j]? = some o → listed.getD j false = true → ∀ e ∈ o.after.toList, Region.binds .any e = true → listed.getD e.on false = true) :
    ∀ (n j : Nat) (o : Oper), j < n → ops[j]? = some o → (∀ e ∈ o.after.toList, Region.binds .any e = true → listed.getD e.on false = true) → ∀ b, ((Region.before ops).getD j 0).testBit b = true → listed.getD b false = true := by
  intro n
  induction n with
  | zero => intro j o h; omega
  | succ n ih =>
    intro j o hj ho hl b hb
    obtain ⟨e, he, hbd, h⟩ := before_spec ho hb
    have h1 := hl e he hbd
    rcases h with rfl | h
    · exact h1
    · have hlt := hup j o ho e he hbd
      cases hoe : ops[e.on]? with
      | none =>
        exfalso
        have : ops.size ≤ e.on := by
          rcases Nat.lt_or_ge e.on ops.size with hh | hh
          · simp [hh] at hoe
          · exact hh
        have hjs : j < ops.size := by
          rcases Nat.lt_or_ge j ops.size with hh | hh
          · exact hh
          · simp [Array.getElem?_eq_none hh] at ho
        omega
      | some o' => exact ih e.on o' (by omega) hoe (fun e' he' hb' => hcl e.on o' hoe h1 e' he' hb') b h
end
end Go.Vs
