/- Value semantics, part 19: code, and functions. No conditions. -/
import Derived.Test.YtjfleklkloohgaaVm2
set_option linter.unusedVariables false
set_option linter.unusedSimpArgs false
namespace Go.Vs

/-- What is known of a state may be forgotten. -/
def Weak (σ σ' : St) : Prop := ∀ (w0 : World) (S0 : Stab) (M : Ctx) (a : Act) (w : World), Sim w0 S0 M σ a w → Sim w0 S0 M σ' a w
theorem Weak.refl (σ : St) : Weak σ σ := fun _ _ _ _ _ h => h
theorem Weak.trans {a b c : St} (h : Weak a b) (k : Weak b c) : Weak a c := fun w0 S0 M x w s => k w0 S0 M x w (h w0 S0 M x w s)

/-- In one of the ranges. -/
def inDead : List Nat → Nat → Bool
  | lo :: hi :: r, k => bif decide (lo ≤ k) then (bif decide (k ≤ hi) then true else inDead r k) else inDead r k
  | _, _ => false
def dropKeys (dead : List Nat) : List (Nat × SV) → List (Nat × SV)
  | [] => []
  | (k, v) :: r => bif inDead dead k then dropKeys dead r else (k, v) :: dropKeys dead r
def St.drop (σ : St) (dead : List Nat) : St := { σ with env := dropKeys dead σ.env }
theorem dropKeys_get (dead : List Nat) (env : List (Nat × SV)) (k : Nat) : getE (dropKeys dead env) k = .undef ∨ getE (dropKeys dead env) k = getE env k := by
  induction env with
  | nil => exact .inl rfl
  | cons p r ih =>
    obtain ⟨j, v⟩ := p
    have hd : ∀ (l : List (Nat × SV)), inDead dead k = true → getE (dropKeys dead l) k = .undef := by
      intro l hk
      induction l with
      | nil => rfl
      | cons q s ih =>
        obtain ⟨i, u⟩ := q
        simp only [dropKeys]
        cases hi : inDead dead i with
        | true => exact ih
        | false =>
          have : (i == k) = false := by
            cases h : i == k with
            | false => rfl
            | true => rw [beq_iff_eq] at h; subst h; rw [hk] at hi; simp at hi
          simp only [cond_false, getE, look, this]
          exact ih
    cases hk : inDead dead k with
    | true => exact .inl (hd _ hk)
    | false =>
      simp only [dropKeys]
      cases hj : inDead dead j with
      | true =>
        have : (j == k) = false := by
          cases h : j == k with
          | false => rfl
          | true => rw [beq_iff_eq] at h; subst h; rw [hk] at hj; simp at hj
        simp only [cond_true, getE, look, this, cond_false]
        exact ih
      | false =>
        simp only [cond_false, getE, look]
        cases j == k with
        | true => exact .inr rfl
        | false => exact ih
theorem weak_dropKeys (σ : St) (dead : List Nat) : Weak σ (σ.drop dead) := by
  rintro w0 S0 M a w ⟨S, μ, β, h⟩
  exact ⟨S, μ, β, h.drop rfl rfl (fun _ _ _ x => x) (fun k => dropKeys_get dead σ.env k) (fun _ _ x => x)⟩

/-- The way out of a piece of code: no panic, and a state. -/
def lift (w0 : World) (S0 : Stab) (M : Ctx) (N : Nat) (Q : Exit → St → Prop) : Exit → Act → World → Prop
  | .panic _, _, _ => False
  | .outgrown, _, _ => False
  | e, a, w => ∃ σ, Q e σ ∧ σ.n = N ∧ Sim w0 S0 M σ a w

def T (P : Program) (c : Code) (Q : Exit → St → Prop) (σ : St) : Prop := ∀ (w0 : World) (S0 : Stab) (M : Ctx) (a : Act) (w : World), Sim w0 S0 M σ a w → c.wp P (lift w0 S0 M σ.n Q) a w

def bndOps (n : Nat) : List VOper → Bool
  | [] => true
  | o :: r => (match o.dst with
    | some d => decide (d < n)
    | none => true) && bndOps n r
def VCode.bnd (n : Nat) : VCode → Bool
  | .region ops _ _ => bndOps n ops
  | .seq a b => a.bnd n && b.bnd n
  | .cond _ a b => a.bnd n && b.bnd n
  | .block _ a => a.bnd n
  | .loop a => a.bnd n
  | .scope a => a.bnd n
  | _ => true
theorem bndOps_spec {n : Nat} : ∀ {l : List VOper}, bndOps n l = true → ∀ v ∈ l, ∀ d, v.dst = some d → d < n
  | [], _, v, hv => by simp at hv
  | o :: r, h, v, hv => by
    simp only [bndOps, Bool.and_eq_true] at h
    intro d hd
    rcases List.mem_cons.1 hv with rfl | hv
    · rw [hd] at h; simpa using h.1
    · exact bndOps_spec h.2 v hv d hd

/-- The same of the small code. -/
def TV (P : Program) (v : VCode) (Q : Exit → St → Prop) (σ : St) : Prop := ∀ c, comp P c = some v.strip → v.bnd σ.n = true → T P c Q σ

def runT (P : Program) (K : St → Prop) : List VOper → St → Prop
  | [], σ => K σ
  | o :: r, σ => match o.guard with
    | none => opW P σ o.dst (fun u => runT P K r (σ.apply o.dst u)) o.op
    | some (g, b) => match gval (getE σ.env g) with
      | some c => (c = some b → opW P σ o.dst (fun u => runT P K r (σ.apply o.dst u)) o.op) ∧ (¬ c = some b → runT P K r (σ.apply o.dst skipU))
      | none => False
theorem runT_steps {P : Program} {K : St → Prop} : ∀ {l : List VOper} {σ : St}, runT P K l σ → ∃ es' σf, Steps1 P l σ es' σf ∧ K σf
  | [], σ, h => ⟨[], σ, ⟨rfl, rfl⟩, h⟩
  | o :: r, σ, h => by
    simp only [runT] at h
    have act : opW P σ o.dst (fun u => runT P K r (σ.apply o.dst u)) o.op → ∃ e es' σf, Act1 P σ o e ∧ Steps1 P r (σ.apply e.dst e.u) es' σf ∧ K σf := by
      intro h1
      obtain ⟨u, hu, hr⟩ := opW_rel h1
      obtain ⟨es', σf, h2, h3⟩ := runT_steps hr
      exact ⟨⟨idsOf σ o.op u, o.dst, u⟩, es', σf, ⟨hu, rfl, rfl⟩, h2, h3⟩
    split at h
    · next hg =>
      obtain ⟨e, es', σf, h1, h2, h3⟩ := act h
      exact ⟨e :: es', σf, ⟨e, es', rfl, by unfold Step1; rw [hg]; exact h1, h2⟩, h3⟩
    · next g b hg =>
      split at h
      · next c hc =>
        by_cases hcb : c = some b
        · obtain ⟨e, es', σf, h1, h2, h3⟩ := act (h.1 hcb)
          exact ⟨e :: es', σf, ⟨e, es', rfl, by unfold Step1; rw [hg]; exact ⟨c, hc, .inl ⟨hcb, h1⟩⟩, h2⟩, h3⟩
        · obtain ⟨es', σf, h2, h3⟩ := runT_steps (h.2 hcb)
          exact ⟨⟨[], o.dst, skipU⟩ :: es', σf, ⟨_, es', rfl, by unfold Step1; rw [hg]; exact ⟨c, hc, .inr ⟨hcb, rfl⟩⟩, h2⟩, h3⟩
      · exact h.elim

/-- What is to be shown at a call that turns objects. -/
def MCall (P : Program) (σ : St) (dst : Option Nat) (f : SV) (args : List Opd) (K : St → Prop) : Prop :=
  ∃ k vals mc ρ fz, mVals σ f args = some (k, vals) ∧ FnM σ.gl P k mc ∧ mOk σ ρ mc = true ∧ mObjs σ.objs ρ mc.objs ∧ mArgs σ.objs ρ vals mc.args fz ∧ mFz ρ fz mc.objs = true ∧ K (σ.mapply dst ρ mc fz)
/-- One operation, forward, calls that turn objects too. -/
def opM (P : Program) (σ : St) (dst : Option Nat) (K : St → Prop) : VOp → Prop
  | .callM f args => MCall P σ dst (.val (.fn f [])) args K
  | .callMV f args => MCall P σ dst (val σ f) args K
  | op => opW P σ dst (fun u => K (σ.apply dst u)) op
def runM (P : Program) (K : St → Prop) : List VOper → St → Prop
  | [], σ => K σ
  | o :: r, σ => match o.guard with
    | none => opM P σ o.dst (runM P K r) o.op
    | some (g, b) => match gval (getE σ.env g) with
      | some c => (c = some b → opM P σ o.dst (runM P K r) o.op) ∧ (¬ c = some b → runM P K r (σ.apply o.dst skipU))
      | none => False

theorem mapply_n {σ : St} {dst : Option Nat} {ρ : List (Nat × Nat)} {c : MC} {fz : List Nat} : (σ.mapply dst ρ c fz).n = σ.n := rfl

/-- One operation, calls that turn objects too. -/
theorem opM_sound {P : Program} {w0 w : World} {S0 : Stab} {M : Ctx} {σ : St} {a : Act} {o : Oper} (h : Sim w0 S0 M σ a w) (hd : ∀ d, o.dst = some d → d < σ.n) {vo : VOp} (hc : compOp P o.op = some vo.strip) {K : St → Prop} (hu : opM P σ o.dst K vo) {next : Act → World → Prop} {Q : Exit → Act → World → Prop}
    (hn : ∀ σ' a' w', K σ' → σ'.n = σ.n → Sim w0 S0 M σ' a' w' → next a' w') : o.wp P a w next Q := by
  have turns : ∀ {f : SV} {args : List Opd} {c : Call} {f' : Operand}, o.op = .call c → c.callee = .value f' → compOpds c.args.toList = some args → (∀ S μ β, SimG w0 S0 M σ a w S μ β → SVRel w S μ σ.objs f (a.eval f')) → MCall P σ o.dst f args K → o.wp P a w next Q := by
    intro f args c f' ho hcl hargs hf ⟨k, vals, mc, ρ, fz, h1, h2, h3, h4, h5, h6, h7⟩
    obtain ⟨S, μ, β, hg⟩ := h
    exact mcall_wp hg hd ho hcl (hf S μ β hg) hargs h1 h2 h3 h4 h5 h6 (fun v w' hs => hn _ _ _ h7 mapply_n hs)
  have plain : opW P σ o.dst (fun u => K (σ.apply o.dst u)) vo → compOp P o.op = some vo → o.wp P a w next Q := by
    intro h1 h2
    obtain ⟨u, hr, hk⟩ := opW_rel h1
    exact op_sound h hd h2 hr (fun v w' hs => hn _ _ _ hk apply_n hs)
  cases vo
  case callM f args =>
    obtain ⟨c, ho, hcc⟩ := compOp_call hc (.inl ⟨_, _, rfl⟩)
    obtain ⟨hcl, hargs⟩ := (compCall_value hcc).1 _ _ rfl
    exact turns (f := .val (.fn f [])) ho hcl hargs (fun S μ β hg => ⟨#[], rfl, rfl⟩) hu
  case callMV f args =>
    obtain ⟨c, ho, hcc⟩ := compOp_call hc (.inr ⟨_, _, rfl⟩)
    obtain ⟨f', hcl, hf, hargs⟩ := (compCall_value hcc).2 _ _ rfl
    exact turns ho hcl hargs (fun S μ β hg => opd_sound hg hf) hu
  all_goals exact plain hu hc

theorem stripOps_get : ∀ {l : List VOper} {i : Nat}, (stripOps l)[i]? = (l[i]?).map VOper.strip
  | [], i => by simp [stripOps]
  | o :: r, 0 => rfl
  | o :: r, i + 1 => by simpa [stripOps] using stripOps_get (l := r) (i := i)
theorem stripOps_length : ∀ {l : List VOper}, (stripOps l).length = l.length
  | [] => rfl
  | o :: r => by simp [stripOps, stripOps_length (l := r)]

/-- One operation of a region, in the order of the text. -/
theorem stepM_sound {P : Program} {w0 : World} {S0 : Stab} {M : Ctx} {ops : Array Oper} {i : Nat} {o : Oper} {v : VOper} (ho : ops[i]? = some o) (hv : compOper P ops o = some v.strip) {σ : St} {a : Act} {w : World} (h : Sim w0 S0 M σ a w) (hd : ∀ d, v.dst = some d → d < σ.n) {K : St → Prop} {r : List VOper} (hs : runM P K (v :: r) σ)
    {Q : Exit → Act → World → Prop} {N : Act → World → Prop} (hK : ∀ σ' a' w', runM P K r σ' → σ'.n = σ.n → Sim w0 S0 M σ' a' w' → N a' w') : wpOp P ops Q i N a w := by
  obtain ⟨hdst, hop, hg⟩ := compOper_parts hv
  have hdst : v.dst = o.dst := hdst
  have hop : compOp P o.op = some v.op.strip := hop
  have hg : compGuard ops o.guard = some v.guard := hg
  have run : opM P σ v.dst (runM P K r) v.op → o.wp P a w N Q := by
    intro h1
    exact opM_sound h (fun d hd' => hd d (by rw [hdst]; exact hd')) hop (by rw [← hdst]; exact h1) hK
  unfold wpOp
  rw [ho]
  dsimp only
  simp only [runM] at hs
  cases hgo : o.guard with
  | none =>
    have : v.guard = none := by rw [hgo] at hg; simpa [compGuard] using hg.symm
    rw [this] at hs
    have hw : Region.wanted o (yielded ops a.tmps) = true := by simp [Region.wanted, hgo]
    rw [if_pos hw]
    exact .inl (run hs)
  | some p =>
    obtain ⟨j, b⟩ := p
    rw [hgo] at hg
    simp only [compGuard] at hg
    split at hg
    · next d hd' =>
      have hvg : v.guard = some (d, b) := by simpa using hg.symm
      rw [hvg] at hs
      dsimp only at hs
      split at hs
      · next c hc =>
        have hy : yielded ops a.tmps j = c := yielded_gval hd' h hc
        have hw : Region.wanted o (yielded ops a.tmps) = (c == some b) := by simp [Region.wanted, hgo, hy]
        rw [hw]
        by_cases hcb : c = some b
        · rw [if_pos (by simpa using hcb)]
          exact .inl (run (hs.1 hcb))
        · rw [if_neg (by simpa using hcb)]
          refine hK _ _ _ (hs.2 hcb) apply_n ?_
          obtain ⟨S, μ, β, h'⟩ := h
          rw [← hdst]
          exact ⟨S, μ, β, h'.putD (sv := .val (.tuple [])) hd ⟨#[], rfl, rfl⟩⟩
      · exact hs.elim
    · simp at hg

/-- A region in the order of the text. -/
theorem region_textM {P : Program} {w0 : World} {S0 : Stab} {M : Ctx} {ops : Array Oper} {vs : List VOper} (hc : compOpers P ops ops.toList = some (stripOps vs)) {σ : St} {a : Act} {w : World} (h : Sim w0 S0 M σ a w) (hd : ∀ v ∈ vs, ∀ d, v.dst = some d → d < σ.n) {K : St → Prop} (hs : runM P K vs σ)
    {Q : Exit → Act → World → Prop} (hQ : ∀ σ' a' w', K σ' → σ'.n = σ.n → Sim w0 S0 M σ' a' w' → Q .normal a' w') : wpOps P ops Q (List.range ops.size) a w := by
  obtain ⟨hlen, hget⟩ := compOpers_get hc
  rw [stripOps_length] at hlen
  have key : ∀ (l : List VOper) (k : Nat) (σ' : St) (a : Act) (w : World), (∀ i, l[i]? = vs[k + i]?) → σ'.n = σ.n → Sim w0 S0 M σ' a w → (∀ v ∈ l, ∀ d, v.dst = some d → d < σ.n) → runM P K l σ' → wpOps P ops Q (List.range' k l.length) a w := by
    intro l
    induction l with
    | nil =>
      intro k σ' a w _ hn h _ hs
      exact hQ σ' a w hs hn h
    | cons v r ih =>
      intro k σ' a w hl hn h hd hs
      have hv : vs[k]? = some v := by simpa using (hl 0).symm
      have hk : k < ops.toList.length := by
        rw [← hlen]
        rcases Nat.lt_or_ge k vs.length with hh | hh
        · exact hh
        · simp [List.getElem?_eq_none hh] at hv
      obtain ⟨v', hv', hcv⟩ := hget k ops.toList[k] (List.getElem?_eq_getElem hk)
      rw [stripOps_get, hv] at hv'
      obtain rfl : v' = v.strip := (Option.some.inj hv').symm
      simp only [List.length_cons, List.range'_succ]
      rw [wpOps_cons]
      refine stepM_sound (o := ops.toList[k]) (by rw [← Array.getElem?_toList]; exact List.getElem?_eq_getElem hk) hcv h (fun d hdd => by rw [hn]; exact hd v (by simp) d hdd) hs (fun σ'' a' w' h1 hn' h' => ?_)
      exact ih (k + 1) σ'' a' w' (fun i => by have := hl (i + 1); simpa [Nat.add_assoc, Nat.add_comm 1 i] using this) (hn'.trans hn) h' (fun x hx d hxd => hd x (List.mem_cons_of_mem _ hx) d hxd) h1
  have := key vs 0 σ a w (by simp) rfl h hd hs
  rw [List.range_eq_range', show ops.size = vs.length by rw [hlen]; simp]
  exact this

/-- Steps that are known are those of the code as it is. -/
theorem steps1_strip {P : Program} : ∀ {l : List VOper} {σ σf : St} {es : List Eff}, Steps1 P l σ es σf → Steps1 P (stripOps l) σ es σf
  | [], _, _, _, h => h
  | o :: r, σ, σf, es, ⟨e, es', h1, h2, h3⟩ => by
    refine ⟨e, es', h1, ?_, steps1_strip h3⟩
    have act : Act1 P σ o e → Act1 P σ o.strip e := by
      rintro ⟨k1, k2, k3⟩
      have : o.op.strip = o.op := by
        cases hop : o.op <;> first | rfl | (exfalso; rw [hop] at k1; simp [OpRel, ev] at k1)
      refine ⟨?_, ?_, k3⟩
      · show OpRel P σ o.dst e.u o.op.strip
        rw [this]; exact k1
      · show e.ids = idsOf σ o.op.strip e.u
        rw [this]; exact k2
    unfold Step1 at h2 ⊢
    have hg : o.strip.guard = o.guard := rfl
    rw [hg]
    split at h2
    · exact act h2
    · obtain ⟨c, q1, q2⟩ := h2
      exact ⟨c, q1, q2.imp (fun q => ⟨q.1, act q.2⟩) (fun q => q)⟩

/-- WHAT A PIECE OF CODE DOES: the state that it leaves, by whichever way out. -/
def pw (P : Program) : VCode → (Exit → St → Prop) → St → Prop
  | .skip, Q, σ => Q .normal σ
  | .region ops mode dead, Q, σ => match mode with
    | .text => runM P (fun σ' => Q .normal (σ'.drop dead)) ops σ
    | .calm => runT P (fun σ' => Q .normal (σ'.drop dead)) ops σ
    | .drawn pairs makes => runD P (fun es σ' => chkD σ pairs makes es = true ∧ Q .normal (σ'.drop dead)) ops σ []
  | .seq a b, Q, σ => pw P a (fun e σ' => match e with
    | .normal => pw P b Q σ'
    | e => Q e σ') σ
  | .cond c a b, Q, σ => match val σ c with
    | .val (.bool t) => (t = true → pw P a Q σ) ∧ (t = false → pw P b Q σ)
    | .anyB => pw P a Q σ ∧ pw P b Q σ
    | _ => False
  | .block id a, Q, σ => pw P a (fun e σ' => match e with
    | .exit i => if i = id then Q .normal σ' else Q (.exit i) σ'
    | e => Q e σ') σ
  | .loop a, Q, σ => TV P (.loop a) Q σ
  | .exit id, Q, σ => Q (.exit id) σ
  | .scope a, Q, σ => TV P (.scope a) Q σ
  | .label _, Q, σ => Q .normal σ
  | .goto l, Q, σ => Q (.goto l) σ
  | .ret, Q, σ => Q .ret σ

theorem comp_strip_region {P : Program} {c : Code} {ops : List VOper} {mode : RMode} (h : comp P c = some (.region ops mode [])) :
    ∃ id os draw, c = .region id os draw ∧ compOpers P os os.toList = some ops ∧ ((draw = false ∧ mode = .text) ∨ (draw = true ∧ ∃ ps ms, pairsOf os ops.toArray = some (ps, ms) ∧ ((mode = .calm ∧ ps = [] ∧ ops.all (fun v => !v.op.makes) = true) ∨ mode = .drawn ps ms))) := by
  cases c with
  | region id os draw =>
    simp only [comp] at h
    split at h
    · next vs hv =>
      split at h
      · next hd =>
        split at h
        · next ps ms hp =>
          split at h
          · next hcalm =>
            simp only [Option.some.injEq, VCode.region.injEq] at h
            obtain ⟨rfl, rfl, _⟩ := h
            simp only [Bool.and_eq_true, List.isEmpty_iff] at hcalm
            exact ⟨id, os, draw, rfl, hv, .inr ⟨by simpa using hd, ps, ms, hp, .inl ⟨rfl, hcalm.1, hcalm.2⟩⟩⟩
          · simp only [Option.some.injEq, VCode.region.injEq] at h
            obtain ⟨rfl, rfl, _⟩ := h
            exact ⟨id, os, draw, rfl, hv, .inr ⟨by simpa using hd, ps, ms, hp, .inr rfl⟩⟩
        · simp at h
      · next hd =>
        simp only [Option.some.injEq, VCode.region.injEq] at h
        obtain ⟨rfl, rfl, _⟩ := h
        exact ⟨id, os, draw, rfl, hv, .inl ⟨by simpa using hd, rfl⟩⟩
    · simp at h
  | skip => simp [comp] at h
  | seq a b => simp only [comp] at h; split at h <;> simp at h
  | cond c a b => simp only [comp] at h; split at h <;> simp at h
  | block id a => simp only [comp, Option.map_eq_some_iff] at h; obtain ⟨_, _, h⟩ := h; simp at h
  | loop a => simp only [comp, Option.map_eq_some_iff] at h; obtain ⟨_, _, h⟩ := h; simp at h
  | rangeFunc f p a b => simp [comp] at h
  | exit id => simp [comp] at h
  | scope a => simp only [comp, Option.map_eq_some_iff] at h; obtain ⟨_, _, h⟩ := h; simp at h
  | label l => simp [comp] at h
  | goto l => simp [comp] at h
  | ret => simp [comp] at h
  | refuse w => simp [comp] at h

/-- A property of code, by the small code that it becomes. -/
theorem comp_cases {P : Program} {c : Code} {v : VCode} (h : comp P c = some v) : match v with
    | .skip => c = .skip
    | .region ops mode dead => dead = []
    | .seq x y => ∃ a b, c = .seq a b ∧ comp P a = some x ∧ comp P b = some y
    | .cond u x y => ∃ o a b, c = .cond o a b ∧ compOpd o = some u ∧ comp P a = some x ∧ comp P b = some y
    | .block id x => ∃ a, c = .block id a ∧ comp P a = some x
    | .loop x => ∃ a, c = .loop a ∧ comp P a = some x
    | .exit id => c = .exit id
    | .scope x => ∃ a, c = .scope a ∧ comp P a = some x
    | .label l => c = .label l
    | .goto l => c = .goto l
    | .ret => c = .ret := by
  cases c with
  | region id os draw =>
    simp only [comp] at h
    split at h
    · split at h
      · split at h
        · split at h <;> (obtain rfl := Option.some.inj h; rfl)
        · simp at h
      · obtain rfl := Option.some.inj h; rfl
    · simp at h
  | skip => obtain rfl := Option.some.inj h; rfl
  | seq a b =>
    simp only [comp] at h
    split at h
    · next x y h1 h2 => obtain rfl := Option.some.inj h; exact ⟨a, b, rfl, h1, h2⟩
    · simp at h
  | cond o a b =>
    simp only [comp] at h
    split at h
    · next u x y h0 h1 h2 => obtain rfl := Option.some.inj h; exact ⟨o, a, b, rfl, h0, h1, h2⟩
    · simp at h
  | block id a => simp only [comp, Option.map_eq_some_iff] at h; obtain ⟨x, hx, rfl⟩ := h; exact ⟨a, rfl, hx⟩
  | loop a => simp only [comp, Option.map_eq_some_iff] at h; obtain ⟨x, hx, rfl⟩ := h; exact ⟨a, rfl, hx⟩
  | rangeFunc f p a b => simp [comp] at h
  | exit id => obtain rfl := Option.some.inj h; rfl
  | scope a => simp only [comp, Option.map_eq_some_iff] at h; obtain ⟨x, hx, rfl⟩ := h; exact ⟨a, rfl, hx⟩
  | label l => obtain rfl := Option.some.inj h; rfl
  | goto l => obtain rfl := Option.some.inj h; rfl
  | ret => obtain rfl := Option.some.inj h; rfl
  | refuse w => simp [comp] at h


theorem steps1_n {P : Program} : ∀ {l : List VOper} {σ σf : St} {es : List Eff}, Steps1 P l σ es σf → σf.n = σ.n
  | [], _, _, _, ⟨_, h⟩ => by rw [h]
  | _ :: _, σ, σf, _, ⟨e, _, _, _, h⟩ => by rw [steps1_n h, apply_n]

theorem region_sound {P : Program} (hm : P.follows .mixedOrders = true) {c : Code} {ops : List VOper} {mode : RMode} {dead : List Nat} (hc : comp P c = some (.region (stripOps ops) mode [])) {Q : Exit → St → Prop} {σ : St} (hb : bndOps σ.n ops = true) (h : pw P (.region ops mode dead) Q σ) : T P c Q σ := by
  obtain ⟨id, os, draw, rfl, hv, hmode⟩ := comp_strip_region hc
  intro w0 S0 M a w hs
  have hd := bndOps_spec hb
  have hd' : ∀ v ∈ stripOps ops, ∀ d, v.dst = some d → d < σ.n := by
    intro v hv d hdd
    obtain ⟨i, hi⟩ := List.getElem?_of_mem hv
    rw [stripOps_get] at hi
    cases ho : ops[i]? with
    | none => rw [ho] at hi; simp at hi
    | some x =>
      rw [ho] at hi
      simp only [Option.map_some, Option.some.injEq] at hi
      subst hi
      exact hd x (List.mem_of_getElem? ho) d hdd
  have post : ∀ {es : List Eff} {σf : St}, Steps1 P (stripOps ops) σ es σf → Q .normal (σf.drop dead) → ∀ a' w', Sim w0 S0 M σf a' w' → lift w0 S0 M σ.n Q .normal a' w' := fun h1 hq a' w' hs' => ⟨_, hq, (by have := steps1_n h1; exact this), weak_dropKeys _ _ _ _ _ _ _ hs'⟩
  -- a draw changes no memory
  have hdrew : Sim w0 S0 M σ a { w with drawn := w.drawn + 1 } := by
    obtain ⟨S, μ, β, hg⟩ := hs
    exact ⟨S, μ, β, hg.world (w' := { w with drawn := w.drawn + 1 }) (fun _ _ _ => rfl) (fun _ _ x => x) (fun _ _ _ _ _ => rfl) (fun _ _ _ _ _ _ x => x) hg.stab (fun _ _ x => .inl x) ⟨hg.kept.os, hg.kept.tape, hg.kept.output, hg.kept.size, hg.kept.block⟩⟩
  rcases hmode with ⟨rfl, rfl⟩ | ⟨rfl, ps, ms, hp, hmode⟩
  · refine wp_region (region_textM (K := fun σ' => Q .normal (σ'.drop dead)) hv hs hd (by simpa only [pw] using h) (fun σ' a' w' hq hn hs' => ⟨_, hq, hn, weak_dropKeys _ _ _ _ _ _ _ hs'⟩))
  · rcases hmode with ⟨rfl, rfl, hnm⟩ | rfl
    · obtain ⟨es, σf, h1, h2⟩ := runT_steps (by simpa only [pw] using h)
      replace h1 := steps1_strip h1
      refine wp_region_any hm (region_any hv hp hdrew hd' h1 ?_ (post h1 h2))
      obtain ⟨_, hidx, hel⟩ := items_run 0 h1
      have hall := steps_all 0 h1
      have hmsnil : ms = [] := by
        unfold pairsOf at hp
        simp only at hp
        split at hp
        · simp only [Option.some.injEq, Prod.mk.injEq] at hp
          rw [← hp.2, List.flatMap_eq_nil_iff]
          intro k hk
          cases hvk : (stripOps ops).toArray[k]? with
          | none => rfl
          | some vk =>
            have hmem : vk ∈ stripOps ops := List.mem_of_getElem? (by simpa using hvk)
            have := List.all_eq_true.1 hnm vk hmem
            simp only [Bool.not_eq_true'] at this
            simp [this]
        · simp at hp
      subst hmsnil
      unfold chkD
      simp only [List.all_nil, Bool.true_and, List.all_eq_true]
      intro e he
      obtain ⟨i, hi, hei⟩ := List.mem_iff_getElem.1 he
      -- its operation makes nothing
      have : e.newId = none := by
        cases hn : e.newId with
        | none => rfl
        | some d =>
          exfalso
          obtain ⟨⟨o, ho⟩, _⟩ := newId_creates.1 hn
          have hmemI : ∃ p ∈ items 0 (stripOps ops) es, p.e = e := by
            have : ∀ (k : Nat) (l : List VOper) (es : List Eff), es.length = l.length → e ∈ es → ∃ p ∈ items k l es, p.e = e := by
              intro k l
              induction l generalizing k with
              | nil => intro es hl he; simp at hl; subst hl; simp at he
              | cons o r ih =>
                intro es hl he
                cases es with
                | nil => simp at he
                | cons x es =>
                  rcases List.mem_cons.1 he with rfl | he
                  · exact ⟨⟨k, o, e⟩, by simp [items], rfl⟩
                  · obtain ⟨p, hp, hpe⟩ := ih (k + 1) es (by simpa using hl) he
                    exact ⟨p, by simp [items, hp], hpe⟩
            exact this 0 (stripOps ops) es hel he
          obtain ⟨p, hp', rfl⟩ := hmemI
          obtain ⟨σ1, s1⟩ := hall p hp'
          have hmk := (step_kind s1).2.1 (by rw [ho]; simp)
          obtain ⟨_, h3, _⟩ := items_get hel hp'
          have := List.all_eq_true.1 hnm p.o (List.mem_of_getElem? h3)
          rw [hmk] at this
          simp at this
      rw [this]
    · obtain ⟨es, σf, h1, h2⟩ := runD_steps (by simpa only [pw] using h)
      simp only [List.nil_append] at h2
      replace h1 := steps1_strip h1
      exact wp_region_any hm (region_any hv hp hdrew hd' h1 h2.1 (post h1 h2.2))

theorem pw_mono {P : Program} : ∀ (v : VCode) {Q Q' : Exit → St → Prop} {σ : St}, (∀ e σ, Q e σ → Q' e σ) → pw P v Q σ → pw P v Q' σ := by
  have opm : ∀ {σ : St} {dst : Option Nat} {K K' : Upd → Prop} {op : VOp}, (∀ u, K u → K' u) → opW P σ dst K op → opW P σ dst K' op := by
    intro σ dst K K' op hk h
    cases op
    case call f args =>
      simp only [opW] at h ⊢
      split at h
      · obtain ⟨r, h1, h2⟩ := h
        refine ⟨r, h1, ?_⟩
        split at h2
        · exact hk _ h2
        · exact h2
      · exact h
    case callV f args =>
      simp only [opW] at h ⊢
      split at h
      · obtain ⟨r, h1, h2⟩ := h
        refine ⟨r, h1, ?_⟩
        split at h2
        · exact hk _ h2
        · exact h2
      · exact h
    all_goals
      simp only [opW] at h ⊢
      split at h
      · exact ⟨h.1, hk _ h.2⟩
      · exact h
  have mm : ∀ {σ : St} {dst : Option Nat} {K K' : St → Prop} {op : VOp}, (∀ u, K u → K' u) → opM P σ dst K op → opM P σ dst K' op := by
    intro σ dst K K' op hk h
    cases op
    case callM f args =>
      obtain ⟨k, vals, mc, ρ, fz, h1, h2, h3, h4, h5, h6, h7⟩ := h
      exact ⟨k, vals, mc, ρ, fz, h1, h2, h3, h4, h5, h6, hk _ h7⟩
    case callMV f args =>
      obtain ⟨k, vals, mc, ρ, fz, h1, h2, h3, h4, h5, h6, h7⟩ := h
      exact ⟨k, vals, mc, ρ, fz, h1, h2, h3, h4, h5, h6, hk _ h7⟩
    all_goals
      simp only [opM] at h ⊢
      exact opm (fun u hu => hk _ hu) h
  have rm : ∀ (l : List VOper) {σ : St} {K K' : St → Prop}, (∀ σ, K σ → K' σ) → runM P K l σ → runM P K' l σ := by
    intro l
    induction l with
    | nil => intro σ K K' hk h; exact hk _ h
    | cons o r ih =>
      intro σ K K' hk h
      simp only [runM] at h ⊢
      split at h
      · exact mm (fun u hu => ih hk hu) h
      · split at h
        · exact ⟨fun hc => mm (fun u hu => ih hk hu) (h.1 hc), fun hc => ih hk (h.2 hc)⟩
        · exact h
  have rt : ∀ (l : List VOper) {σ : St} {K K' : St → Prop}, (∀ σ, K σ → K' σ) → runT P K l σ → runT P K' l σ := by
    intro l
    induction l with
    | nil => intro σ K K' hk h; exact hk _ h
    | cons o r ih =>
      intro σ K K' hk h
      simp only [runT] at h ⊢
      split at h
      · exact opm (fun u hu => ih hk hu) h
      · split at h
        · exact ⟨fun hc => opm (fun u hu => ih hk hu) (h.1 hc), fun hc => ih hk (h.2 hc)⟩
        · exact h
  have rd : ∀ (l : List VOper) {σ : St} {es : List Eff} {K K' : List Eff → St → Prop}, (∀ es σ, K es σ → K' es σ) → runD P K l σ es → runD P K' l σ es := by
    intro l
    induction l with
    | nil => intro σ es K K' hk h; exact hk _ _ h
    | cons o r ih =>
      intro σ es K K' hk h
      simp only [runD] at h ⊢
      split at h
      · exact opm (fun u hu => ih hk hu) h
      · split at h
        · exact ⟨fun hc => opm (fun u hu => ih hk hu) (h.1 hc), fun hc => ih hk (h.2 hc)⟩
        · exact h
  have lm : ∀ {w0 S0 M N} {Q Q' : Exit → St → Prop}, (∀ e σ, Q e σ → Q' e σ) → ∀ e a w, lift w0 S0 M N Q e a w → lift w0 S0 M N Q' e a w := by
    intro w0 S0 M N Q Q' hq e a w h
    cases e <;> first | exact h | (obtain ⟨σ, h1, h2⟩ := h; exact ⟨σ, hq _ _ h1, h2⟩)
  intro v
  induction v with
  | skip => intro Q Q' σ hq h; exact hq _ _ h
  | region ops mode dead =>
    intro Q Q' σ hq h
    cases mode with
    | text => exact rm ops (fun σ h => hq _ _ h) h
    | calm => exact rt ops (fun σ h => hq _ _ h) h
    | drawn ps ms => exact rd ops (fun es σ h => ⟨h.1, hq _ _ h.2⟩) h
  | seq a b iha ihb =>
    intro Q Q' σ hq h
    refine iha (fun e σ' h' => ?_) h
    cases e <;> first | exact ihb hq h' | exact hq _ _ h'
  | cond c a b iha ihb =>
    intro Q Q' σ hq h
    simp only [pw] at h ⊢
    split at h
    · exact ⟨fun ht => iha hq (h.1 ht), fun ht => ihb hq (h.2 ht)⟩
    · exact ⟨iha hq h.1, ihb hq h.2⟩
    · exact h
  | block id a iha =>
    intro Q Q' σ hq h
    refine iha (fun e σ' h' => ?_) h
    cases e
    case exit i =>
      dsimp only at h' ⊢
      split
      · next hi => rw [if_pos hi] at h'; exact hq _ _ h'
      · next hi => rw [if_neg hi] at h'; exact hq _ _ h'
    all_goals exact hq _ _ h'
  | loop a _ => intro Q Q' σ hq h c hc hb w0 S0 M x w hs; exact wp_mono (h c hc hb w0 S0 M x w hs) (lm hq)
  | exit id => intro Q Q' σ hq h; exact hq _ _ h
  | scope a _ => intro Q Q' σ hq h c hc hb w0 S0 M x w hs; exact wp_mono (h c hc hb w0 S0 M x w hs) (lm hq)
  | label l => intro Q Q' σ hq h; exact hq _ _ h
  | goto l => intro Q Q' σ hq h; exact hq _ _ h
  | ret => intro Q Q' σ hq h; exact hq _ _ h

/-- The slots of a frame stay as many as they are. -/
theorem sim_n {w0 : World} {S0 : Stab} {M : Ctx} {σ σ' : St} {a : Act} {w w' : World} (h : Sim w0 S0 M σ a w) (h' : Sim w0 S0 M σ' a w') : σ'.n = σ.n := by
  obtain ⟨_, _, _, h⟩ := h
  obtain ⟨_, _, _, h'⟩ := h'
  rw [← h.size, ← h'.size]

end Go.Vs
