/- Value semantics, part 19: code, and functions. No conditions. -/
import Derived.Test.YtjfleklkloohgaaVs18
namespace Go.Vs

/-- What is known of a state may be forgotten. -/
def Weak (σ σ' : St) : Prop := ∀ (w0 : World) (S0 : Stab) (M : Nat → Prop) (a : Act) (w : World), Sim w0 S0 M σ a w → Sim w0 S0 M σ' a w
theorem Weak.refl (σ : St) : Weak σ σ := fun _ _ _ _ _ h => h
theorem Weak.trans {a b c : St} (h : Weak a b) (k : Weak b c) : Weak a c := fun w0 S0 M x w s => k w0 S0 M x w (h w0 S0 M x w s)

/-- In one of the ranges. -/
def inDead : List Nat → Nat → Bool
  | lo :: hi :: r, k => bif decide (lo ≤ k) then (bif decide (k ≤ hi) then true else inDead r k) else inDead r k
  | _, _ => false
def dropKeys (dead : List Nat) : List (Nat × SV) → List (Nat × SV)
  | [] => []
  | (k, v) :: r => bif inDead dead k then dropKeys dead r else (k, v) :: dropKeys dead r
def St.drop (σ : St) (dead : List Nat) : St := { σ with env := dropKeys dead σ.env }
theorem dropKeys_get (dead : List Nat) (env : List (Nat × SV)) (k : Nat) : getE (dropKeys dead env) k = .undef ∨ getE (dropKeys dead env) k = getE env k := by
  induction env with
  | nil => exact .inl rfl
  | cons p r ih =>
    obtain ⟨j, v⟩ := p
    have hd : ∀ (l : List (Nat × SV)), inDead dead k = true → getE (dropKeys dead l) k = .undef := by
      intro l hk
      induction l with
      | nil => rfl
      | cons q s ih =>
        obtain ⟨i, u⟩ := q
        simp only [dropKeys]
        cases hi : inDead dead i with
        | true => exact ih
        | false =>
          have : (i == k) = false := by
            cases h : i == k with
            | false => rfl
            | true => rw [beq_iff_eq] at h; subst h; rw [hk] at hi; simp at hi
          simp only [cond_false, getE, look, this]
          exact ih
    cases hk : inDead dead k with
    | true => exact .inl (hd _ hk)
    | false =>
      simp only [dropKeys]
      cases hj : inDead dead j with
      | true =>
        have : (j == k) = false := by
          cases h : j == k with
          | false => rfl
          | true => rw [beq_iff_eq] at h; subst h; rw [hk] at hj; simp at hj
        simp only [cond_true, getE, look, this, cond_false]
        exact ih
      | false =>
        simp only [cond_false, getE, look]
        cases j == k with
        | true => exact .inr rfl
        | false => exact ih
theorem weak_dropKeys (σ : St) (dead : List Nat) : Weak σ (σ.drop dead) := by
  rintro w0 S0 M a w ⟨S, μ, β, h⟩
  exact ⟨S, μ, β, h.drop rfl (fun _ _ _ x => x) (fun k => dropKeys_get dead σ.env k) (fun _ _ x => x)⟩

/-- The way out of a piece of code: no panic, and a state. -/
def lift (w0 : World) (S0 : Stab) (M : Nat → Prop) (N : Nat) (Q : Exit → St → Prop) : Exit → Act → World → Prop
  | .panic _, _, _ => False
  | .outgrown, _, _ => False
  | e, a, w => ∃ σ, Q e σ ∧ σ.n = N ∧ Sim w0 S0 M σ a w

def T (P : Program) (c : Code) (Q : Exit → St → Prop) (σ : St) : Prop := ∀ (w0 : World) (S0 : Stab) (M : Nat → Prop) (a : Act) (w : World), Sim w0 S0 M σ a w → c.wp P (lift w0 S0 M σ.n Q) a w

def bndOps (n : Nat) : List VOper → Bool
  | [] => true
  | o :: r => (match o.dst with
    | some d => decide (d < n)
    | none => true) && bndOps n r
def VCode.bnd (n : Nat) : VCode → Bool
  | .region ops _ _ => bndOps n ops
  | .seq a b => a.bnd n && b.bnd n
  | .cond _ a b => a.bnd n && b.bnd n
  | .block _ a => a.bnd n
  | .loop a => a.bnd n
  | .scope a => a.bnd n
  | _ => true
theorem bndOps_spec {n : Nat} : ∀ {l : List VOper}, bndOps n l = true → ∀ v ∈ l, ∀ d, v.dst = some d → d < n
  | [], _, v, hv => by simp at hv
  | o :: r, h, v, hv => by
    simp only [bndOps, Bool.and_eq_true] at h
    intro d hd
    rcases List.mem_cons.1 hv with rfl | hv
    · rw [hd] at h; simpa using h.1
    · exact bndOps_spec h.2 v hv d hd

/-- The same of the small code. -/
def TV (P : Program) (v : VCode) (Q : Exit → St → Prop) (σ : St) : Prop := ∀ c, comp P c = some v.strip → v.bnd σ.n = true → T P c Q σ

def runT (P : Program) (K : St → Prop) : List VOper → St → Prop
  | [], σ => K σ
  | o :: r, σ => match o.guard with
    | none => opW P σ o.dst (fun u => runT P K r (σ.apply o.dst u)) o.op
    | some (g, b) => match gval (getE σ.env g) with
      | some c => (c = some b → opW P σ o.dst (fun u => runT P K r (σ.apply o.dst u)) o.op) ∧ (¬ c = some b → runT P K r (σ.apply o.dst skipU))
      | none => False
theorem runT_steps {P : Program} {K : St → Prop} : ∀ {l : List VOper} {σ : St}, runT P K l σ → ∃ es' σf, Steps1 P l σ es' σf ∧ K σf
  | [], σ, h => ⟨[], σ, ⟨rfl, rfl⟩, h⟩
  | o :: r, σ, h => by
    simp only [runT] at h
    have act : opW P σ o.dst (fun u => runT P K r (σ.apply o.dst u)) o.op → ∃ e es' σf, Act1 P σ o e ∧ Steps1 P r (σ.apply e.dst e.u) es' σf ∧ K σf := by
      intro h1
      obtain ⟨u, hu, hr⟩ := opW_rel h1
      obtain ⟨es', σf, h2, h3⟩ := runT_steps hr
      exact ⟨⟨idsOf σ o.op u, o.dst, u⟩, es', σf, ⟨hu, rfl, rfl⟩, h2, h3⟩
    split at h
    · next hg =>
      obtain ⟨e, es', σf, h1, h2, h3⟩ := act h
      exact ⟨e :: es', σf, ⟨e, es', rfl, by unfold Step1; rw [hg]; exact h1, h2⟩, h3⟩
    · next g b hg =>
      split at h
      · next c hc =>
        by_cases hcb : c = some b
        · obtain ⟨e, es', σf, h1, h2, h3⟩ := act (h.1 hcb)
          exact ⟨e :: es', σf, ⟨e, es', rfl, by unfold Step1; rw [hg]; exact ⟨c, hc, .inl ⟨hcb, h1⟩⟩, h2⟩, h3⟩
        · obtain ⟨es', σf, h2, h3⟩ := runT_steps (h.2 hcb)
          exact ⟨⟨[], o.dst, skipU⟩ :: es', σf, ⟨_, es', rfl, by unfold Step1; rw [hg]; exact ⟨c, hc, .inr ⟨hcb, rfl⟩⟩, h2⟩, h3⟩
      · exact h.elim

/-- WHAT A PIECE OF CODE DOES: the state that it leaves, by whichever way out. -/
def pw (P : Program) : VCode → (Exit → St → Prop) → St → Prop
  | .skip, Q, σ => Q .normal σ
  | .region ops mode dead, Q, σ => match mode with
    | .text => runT P (fun σ' => Q .normal (σ'.drop dead)) ops σ
    | .calm => runT P (fun σ' => Q .normal (σ'.drop dead)) ops σ
    | .drawn pairs makes => runD P (fun es σ' => chkD σ pairs makes es = true ∧ Q .normal (σ'.drop dead)) ops σ []
  | .seq a b, Q, σ => pw P a (fun e σ' => match e with
    | .normal => pw P b Q σ'
    | e => Q e σ') σ
  | .cond c a b, Q, σ => match val σ c with
    | .val (.bool t) => (t = true → pw P a Q σ) ∧ (t = false → pw P b Q σ)
    | _ => False
  | .block id a, Q, σ => pw P a (fun e σ' => match e with
    | .exit i => if i = id then Q .normal σ' else Q (.exit i) σ'
    | e => Q e σ') σ
  | .loop a, Q, σ => TV P (.loop a) Q σ
  | .exit id, Q, σ => Q (.exit id) σ
  | .scope a, Q, σ => TV P (.scope a) Q σ
  | .label _, Q, σ => Q .normal σ
  | .goto l, Q, σ => Q (.goto l) σ
  | .ret, Q, σ => Q .ret σ

theorem comp_strip_region {P : Program} {c : Code} {ops : List VOper} {mode : RMode} (h : comp P c = some (.region ops mode [])) :
    ∃ id os draw, c = .region id os draw ∧ compOpers P os os.toList = some ops ∧ ((draw = false ∧ mode = .text) ∨ (draw = true ∧ ∃ ps ms, pairsOf os ops.toArray = some (ps, ms) ∧ ((mode = .calm ∧ ps = [] ∧ ops.all (fun v => !v.op.makes) = true) ∨ mode = .drawn ps ms))) := by
  cases c with
  | region id os draw =>
    simp only [comp] at h
    split at h
    · next vs hv =>
      split at h
      · next hd =>
        split at h
        · next ps ms hp =>
          split at h
          · next hcalm =>
            simp only [Option.some.injEq, VCode.region.injEq] at h
            obtain ⟨rfl, rfl, _⟩ := h
            simp only [Bool.and_eq_true, List.isEmpty_iff] at hcalm
            exact ⟨id, os, draw, rfl, hv, .inr ⟨by simpa using hd, ps, ms, hp, .inl ⟨rfl, hcalm.1, hcalm.2⟩⟩⟩
          · simp only [Option.some.injEq, VCode.region.injEq] at h
            obtain ⟨rfl, rfl, _⟩ := h
            exact ⟨id, os, draw, rfl, hv, .inr ⟨by simpa using hd, ps, ms, hp, .inr rfl⟩⟩
        · simp at h
      · next hd =>
        simp only [Option.some.injEq, VCode.region.injEq] at h
        obtain ⟨rfl, rfl, _⟩ := h
        exact ⟨id, os, draw, rfl, hv, .inl ⟨by simpa using hd, rfl⟩⟩
    · simp at h
  | skip => simp [comp] at h
  | seq a b => simp only [comp] at h; split at h <;> simp at h
  | cond c a b => simp only [comp] at h; split at h <;> simp at h
  | block id a => simp only [comp, Option.map_eq_some_iff] at h; obtain ⟨_, _, h⟩ := h; simp at h
  | loop a => simp only [comp, Option.map_eq_some_iff] at h; obtain ⟨_, _, h⟩ := h; simp at h
  | rangeFunc f p a b => simp [comp] at h
  | exit id => simp [comp] at h
  | scope a => simp only [comp, Option.map_eq_some_iff] at h; obtain ⟨_, _, h⟩ := h; simp at h
  | label l => simp [comp] at h
  | goto l => simp [comp] at h
  | ret => simp [comp] at h
  | refuse w => simp [comp] at h

/-- A property of code, by the small code that it becomes. -/
theorem comp_cases {P : Program} {c : Code} {v : VCode} (h : comp P c = some v) : match v with
    | .skip => c = .skip
    | .region ops mode dead => dead = []
    | .seq x y => ∃ a b, c = .seq a b ∧ comp P a = some x ∧ comp P b = some y
    | .cond u x y => ∃ o a b, c = .cond o a b ∧ compOpd o = some u ∧ comp P a = some x ∧ comp P b = some y
    | .block id x => ∃ a, c = .block id a ∧ comp P a = some x
    | .loop x => ∃ a, c = .loop a ∧ comp P a = some x
    | .exit id => c = .exit id
    | .scope x => ∃ a, c = .scope a ∧ comp P a = some x
    | .label l => c = .label l
    | .goto l => c = .goto l
    | .ret => c = .ret := by
  cases c with
  | region id os draw =>
    simp only [comp] at h
    split at h
    · split at h
      · split at h
        · split at h <;> (obtain rfl := Option.some.inj h; rfl)
        · simp at h
      · obtain rfl := Option.some.inj h; rfl
    · simp at h
  | skip => obtain rfl := Option.some.inj h; rfl
  | seq a b =>
    simp only [comp] at h
    split at h
    · next x y h1 h2 => obtain rfl := Option.some.inj h; exact ⟨a, b, rfl, h1, h2⟩
    · simp at h
  | cond o a b =>
    simp only [comp] at h
    split at h
    · next u x y h0 h1 h2 => obtain rfl := Option.some.inj h; exact ⟨o, a, b, rfl, h0, h1, h2⟩
    · simp at h
  | block id a => simp only [comp, Option.map_eq_some_iff] at h; obtain ⟨x, hx, rfl⟩ := h; exact ⟨a, rfl, hx⟩
  | loop a => simp only [comp, Option.map_eq_some_iff] at h; obtain ⟨x, hx, rfl⟩ := h; exact ⟨a, rfl, hx⟩
  | rangeFunc f p a b => simp [comp] at h
  | exit id => obtain rfl := Option.some.inj h; rfl
  | scope a => simp only [comp, Option.map_eq_some_iff] at h; obtain ⟨x, hx, rfl⟩ := h; exact ⟨a, rfl, hx⟩
  | label l => obtain rfl := Option.some.inj h; rfl
  | goto l => obtain rfl := Option.some.inj h; rfl
  | ret => obtain rfl := Option.some.inj h; rfl
  | refuse w => simp [comp] at h


theorem steps1_n {P : Program} : ∀ {l : List VOper} {σ σf : St} {es : List Eff}, Steps1 P l σ es σf → σf.n = σ.n
  | [], _, _, _, ⟨_, h⟩ => by rw [h]
  | _ :: _, σ, σf, _, ⟨e, _, _, _, h⟩ => by rw [steps1_n h, apply_n]

theorem region_sound {P : Program} (hm : P.follows .mixedOrders = true) {c : Code} {ops : List VOper} {mode : RMode} {dead : List Nat} (hc : comp P c = some (.region ops mode [])) {Q : Exit → St → Prop} {σ : St} (hb : bndOps σ.n ops = true) (h : pw P (.region ops mode dead) Q σ) : T P c Q σ := by
  obtain ⟨id, os, draw, rfl, hv, hmode⟩ := comp_strip_region hc
  intro w0 S0 M a w hs
  have hd := bndOps_spec hb
  have post : ∀ {es : List Eff} {σf : St}, Steps1 P ops σ es σf → Q .normal (σf.drop dead) → ∀ a' w', Sim w0 S0 M σf a' w' → lift w0 S0 M σ.n Q .normal a' w' := fun h1 hq a' w' hs' => ⟨_, hq, (by have := steps1_n h1; exact this), weak_dropKeys _ _ _ _ _ _ _ hs'⟩
  -- a draw changes no memory
  have hdrew : Sim w0 S0 M σ a { w with drawn := w.drawn + 1 } := by
    obtain ⟨S, μ, β, hg⟩ := hs
    exact ⟨S, μ, β, hg.world (w' := { w with drawn := w.drawn + 1 }) (fun _ _ _ => rfl) (fun _ _ x => x) (fun _ _ _ _ _ => rfl) (fun _ _ _ _ _ _ x => x) hg.stab (fun _ _ x => .inl x) ⟨hg.kept.os, hg.kept.tape, hg.kept.output, hg.kept.size, hg.kept.block⟩⟩
  rcases hmode with ⟨rfl, rfl⟩ | ⟨rfl, ps, ms, hp, hmode⟩
  · obtain ⟨es, σf, h1, h2⟩ := runT_steps (by simpa only [pw] using h)
    exact wp_region (region_text hv hs hd h1 (post h1 h2))
  · rcases hmode with ⟨rfl, rfl, hnm⟩ | rfl
    · obtain ⟨es, σf, h1, h2⟩ := runT_steps (by simpa only [pw] using h)
      refine wp_region_any hm (region_any hv hp hdrew hd h1 ?_ (post h1 h2))
      obtain ⟨_, hidx, hel⟩ := items_run 0 h1
      have hall := steps_all 0 h1
      have hmsnil : ms = [] := by
        unfold pairsOf at hp
        simp only at hp
        split at hp
        · simp only [Option.some.injEq, Prod.mk.injEq] at hp
          rw [← hp.2, List.flatMap_eq_nil_iff]
          intro k hk
          cases hvk : ops.toArray[k]? with
          | none => rfl
          | some vk =>
            have hmem : vk ∈ ops := List.mem_of_getElem? (by simpa using hvk)
            have := List.all_eq_true.1 hnm vk hmem
            simp only [Bool.not_eq_true'] at this
            simp [this]
        · simp at hp
      subst hmsnil
      unfold chkD
      simp only [List.all_nil, Bool.true_and, List.all_eq_true]
      intro e he
      obtain ⟨i, hi, hei⟩ := List.mem_iff_getElem.1 he
      -- its operation makes nothing
      have : e.newId = none := by
        cases hn : e.newId with
        | none => rfl
        | some d =>
          exfalso
          obtain ⟨⟨o, ho⟩, _⟩ := newId_creates.1 hn
          have hmemI : ∃ p ∈ items 0 ops es, p.e = e := by
            have : ∀ (k : Nat) (l : List VOper) (es : List Eff), es.length = l.length → e ∈ es → ∃ p ∈ items k l es, p.e = e := by
              intro k l
              induction l generalizing k with
              | nil => intro es hl he; simp at hl; subst hl; simp at he
              | cons o r ih =>
                intro es hl he
                cases es with
                | nil => simp at he
                | cons x es =>
                  rcases List.mem_cons.1 he with rfl | he
                  · exact ⟨⟨k, o, e⟩, by simp [items], rfl⟩
                  · obtain ⟨p, hp, hpe⟩ := ih (k + 1) es (by simpa using hl) he
                    exact ⟨p, by simp [items, hp], hpe⟩
            exact this 0 ops es hel he
          obtain ⟨p, hp', rfl⟩ := hmemI
          obtain ⟨σ1, s1⟩ := hall p hp'
          have hmk := (step_kind s1).2.1 (by rw [ho]; simp)
          obtain ⟨_, h3, _⟩ := items_get hel hp'
          have := List.all_eq_true.1 hnm p.o (List.mem_of_getElem? h3)
          rw [hmk] at this
          simp at this
      rw [this]
    · obtain ⟨es, σf, h1, h2⟩ := runD_steps (by simpa only [pw] using h)
      simp only [List.nil_append] at h2
      exact wp_region_any hm (region_any hv hp hdrew hd h1 h2.1 (post h1 h2.2))

theorem pw_mono {P : Program} : ∀ (v : VCode) {Q Q' : Exit → St → Prop} {σ : St}, (∀ e σ, Q e σ → Q' e σ) → pw P v Q σ → pw P v Q' σ := by
  have opm : ∀ {σ : St} {dst : Option Nat} {K K' : Upd → Prop} {op : VOp}, (∀ u, K u → K' u) → opW P σ dst K op → opW P σ dst K' op := by
    intro σ dst K K' op hk h
    cases op
    case call f args =>
      simp only [opW] at h ⊢
      split at h
      · obtain ⟨r, h1, h2⟩ := h
        refine ⟨r, h1, ?_⟩
        split at h2
        · exact hk _ h2
        · exact h2
      · exact h
    case callV f args =>
      simp only [opW] at h ⊢
      split at h
      · obtain ⟨r, h1, h2⟩ := h
        refine ⟨r, h1, ?_⟩
        split at h2
        · exact hk _ h2
        · exact h2
      · exact h
    all_goals
      simp only [opW] at h ⊢
      split at h
      · exact ⟨h.1, hk _ h.2⟩
      · exact h
  have rt : ∀ (l : List VOper) {σ : St} {K K' : St → Prop}, (∀ σ, K σ → K' σ) → runT P K l σ → runT P K' l σ := by
    intro l
    induction l with
    | nil => intro σ K K' hk h; exact hk _ h
    | cons o r ih =>
      intro σ K K' hk h
      simp only [runT] at h ⊢
      split at h
      · exact opm (fun u hu => ih hk hu) h
      · split at h
        · exact ⟨fun hc => opm (fun u hu => ih hk hu) (h.1 hc), fun hc => ih hk (h.2 hc)⟩
        · exact h
  have rd : ∀ (l : List VOper) {σ : St} {es : List Eff} {K K' : List Eff → St → Prop}, (∀ es σ, K es σ → K' es σ) → runD P K l σ es → runD P K' l σ es := by
    intro l
    induction l with
    | nil => intro σ es K K' hk h; exact hk _ _ h
    | cons o r ih =>
      intro σ es K K' hk h
      simp only [runD] at h ⊢
      split at h
      · exact opm (fun u hu => ih hk hu) h
      · split at h
        · exact ⟨fun hc => opm (fun u hu => ih hk hu) (h.1 hc), fun hc => ih hk (h.2 hc)⟩
        · exact h
  have lm : ∀ {w0 S0 M N} {Q Q' : Exit → St → Prop}, (∀ e σ, Q e σ → Q' e σ) → ∀ e a w, lift w0 S0 M N Q e a w → lift w0 S0 M N Q' e a w := by
    intro w0 S0 M N Q Q' hq e a w h
    cases e <;> first | exact h | (obtain ⟨σ, h1, h2⟩ := h; exact ⟨σ, hq _ _ h1, h2⟩)
  intro v
  induction v with
  | skip => intro Q Q' σ hq h; exact hq _ _ h
  | region ops mode dead =>
    intro Q Q' σ hq h
    cases mode with
    | text => exact rt ops (fun σ h => hq _ _ h) h
    | calm => exact rt ops (fun σ h => hq _ _ h) h
    | drawn ps ms => exact rd ops (fun es σ h => ⟨h.1, hq _ _ h.2⟩) h
  | seq a b iha ihb =>
    intro Q Q' σ hq h
    refine iha (fun e σ' h' => ?_) h
    cases e <;> first | exact ihb hq h' | exact hq _ _ h'
  | cond c a b iha ihb =>
    intro Q Q' σ hq h
    simp only [pw] at h ⊢
    split at h
    · exact ⟨fun ht => iha hq (h.1 ht), fun ht => ihb hq (h.2 ht)⟩
    · exact h
  | block id a iha =>
    intro Q Q' σ hq h
    refine iha (fun e σ' h' => ?_) h
    cases e
    case exit i =>
      dsimp only at h' ⊢
      split
      · next hi => rw [if_pos hi] at h'; exact hq _ _ h'
      · next hi => rw [if_neg hi] at h'; exact hq _ _ h'
    all_goals exact hq _ _ h'
  | loop a _ => intro Q Q' σ hq h c hc hb w0 S0 M x w hs; exact wp_mono (h c hc hb w0 S0 M x w hs) (lm hq)
  | exit id => intro Q Q' σ hq h; exact hq _ _ h
  | scope a _ => intro Q Q' σ hq h c hc hb w0 S0 M x w hs; exact wp_mono (h c hc hb w0 S0 M x w hs) (lm hq)
  | label l => intro Q Q' σ hq h; exact hq _ _ h
  | goto l => intro Q Q' σ hq h; exact hq _ _ h
  | ret => intro Q Q' σ hq h; exact hq _ _ h

/-- The slots of a frame stay as many as they are. -/
theorem sim_n {w0 : World} {S0 : Stab} {M : Nat → Prop} {σ σ' : St} {a : Act} {w w' : World} (h : Sim w0 S0 M σ a w) (h' : Sim w0 S0 M σ' a w') : σ'.n = σ.n := by
  obtain ⟨_, _, _, h⟩ := h
  obtain ⟨_, _, _, h'⟩ := h'
  rw [← h.size, ← h'.size]

end Go.Vs
